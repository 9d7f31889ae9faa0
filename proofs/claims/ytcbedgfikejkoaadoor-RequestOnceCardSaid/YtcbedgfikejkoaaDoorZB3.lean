/-
  What the proof of the law rests on, part 3: walks of functions, and plain laws; each says its conditions itself.
-/
import Derived.Test.YtcbedgfikejkoaaDoorRows
import Derived.BigRegion
import Derived.Deep.DeepCutAuto
import Derived.Laws.StructEq
import Derived.Test.YtcbedgfikejkoaaDoorZB2
set_option maxHeartbeats 1600000
set_option linter.unusedVariables false
set_option linter.unusedSimpArgs false
namespace Go.Proofs.YtcbedgfikejkoaaDoor
open Go.RowKit Go Rt
set_option linter.unusedVariables false
namespace Rt
structure dB where
 n:Nat
 x:Nat->Int
 p:Nat->Int
def dB.zero:dB:=⟨0,fun _=>0,fun _=>0⟩
def dB.has(T:dB)(k:Int):Bool:=dD T.x T.n k
def dB.par(T:dB)(k:Int):Int:=fI T.x T.p T.n k
def dB.path(T:dB)(k:Int):List Int:=ig T.x T.p T.n 4 k
def dB.err(T:dB)(id pa:Int):Int:=nu T.x T.p T.n id pa
def dB.put(T:dB)(id pa:Int):dB:=⟨T.n+1,Fx.aI T.x T.n id,Fx.aI T.p T.n pa⟩
def dB.add(T:dB)(id pa:Int):dB:=if T.err id pa=0 then T.put id pa else T
abbrev dB.ok(T:dB):Prop:=wO T.n T.x T.p
theorem dB.Dm{T:dB}(h:T.ok){id pa:Int}(a:0<=id/\id<=18446744073709551615):(T.add id pa).ok:=by
 unfold dB.add
 split
 ·rename_i hc; exact wO.put h hc a
 exact h
structure mM(w:World)(B tp mb:Nat)(T:dB):Prop where
 blk:Fx.aL w tp 1 (fun _ => .map (some mb)) 82
 map:Fx.Mp w mb T.n T.x (fun j => .int .u64 (T.p j))
 inv:T.ok
 gt:B<=tp
 gm:B<=mb
section
variable {w w':World} {B tp mb r:Nat} {T:dB} {id pa k:Int}
theorem mM.up(h:mM w B tp mb T)(a:Below w.heap.size w w'):mM w' B tp mb T:=⟨h.blk.eG (Fx.Sb a) (Nat.ne_of_lt h.blk.lt),h.map.up a,h.inv,h.gt,h.gm⟩
instance:Rt.Tr w w' (mM w B tp mb T) (mM w' B tp mb T):=⟨fun b h=>h.up b⟩
theorem mM.om{a:List TypeId}(h:mM w B tp mb T)(b:Fx.jO a w w')(h1:a.contains 82=false):mM w' B tp mb T:=⟨h.blk.om b h1,h.map.om b trivial,h.inv,h.gt,h.gm⟩
instance {a:List TypeId}:Rt.Tc a w w' (mM w B tp mb T) (mM w' B tp mb T) (!(a.contains 82)):=⟨fun b h e=>h.om b (by simpa using e)⟩
theorem mM.xP(h:mM w B tp mb T)(a:Fx.Stp mb w w'):Fx.Kh mb w w':=h.map.xP a
theorem mM.dh(h:mM w B tp mb T)(a:Fx.Kh r w w')(b:mb≠r):mM w' B tp mb T:=⟨h.blk.dh a,h.map.dh a b,h.inv,h.gt,h.gm⟩
theorem mM.weak{a:Nat}(h:mM w B tp mb T)(b:a<=B):mM w a tp mb T:=⟨h.blk,h.map,h.inv,Nat.le_trans b h.gt,Nat.le_trans b h.gm⟩
theorem mM.lt(h:mM w B tp mb T):mb<w.heap.size:=h.map.lt
end
end Rt
theorem Sn(w:World):Calls Tryd.prog 13 #[] w fun e w' => ∃ tp mb,e = .returned (.pointer (some ⟨tp,0,none⟩))/\w.heap.size<=mb/\mM w' w.heap.size tp mb dB.zero/\Below w.heap.size w w' :=
 (XG (fun _=>0) (fun _=>0) w).mono fun e w' ⟨tp,mb,b,c,a,d,f,g⟩=>⟨tp,mb,b,a,⟨d,f,wO.zero _ _,c,a⟩,g⟩
theorem EO{w:World}{B tp mb:Nat}{T:dB}(id pa:Int)(h:mM w B tp mb T)(i:0<=id/\id<=18446744073709551615) :
 Calls Tryd.prog 118 #[.pointer (some ⟨tp,0,none⟩),.int .u64 id,.int .u64 pa] w fun e w'=>e = .returned (.int .i64 (T.err id pa))/\mM w' B tp mb (T.add id pa)/\Fx.Stp mb w w' :=
 (XH T.x T.p T.n tp mb id pa w h.blk h.map h.inv).mono fun e w' ⟨c,k,m,l,b,j,d,f,g⟩=>by
  cases j with
  | no a h0 =>
    have a:T.err id pa=c:=a
    subst a
    refine⟨b,⟨d,?_,dB.Dm h.inv i,h.gt,h.gm⟩,g⟩
    unfold dB.add
    rw[if_neg h0]; exact f
  | yes a =>
    have a:T.err id pa=0:=a
    refine⟨by rw[a]; exact b,⟨d,?_,dB.Dm h.inv i,h.gt,h.gm⟩,g⟩
    unfold dB.add
    rw[if_pos a]; exact f
theorem Sq{w:World}{B tp mb:Nat}{T:dB}(k:Int)(h:mM w B tp mb T) :
 Calls Tryd.prog 106 #[.pointer (some ⟨tp,0,none⟩),.int .u64 k] w fun e w'=>e = .returned (.bool (T.has k))/\w'=w:=zL T.x T.p T.n tp mb k w h.blk h.map
def Sr(w:World)(B:Nat)(a:Option Addr)(c:Nat)(l:List Int):Prop:=Fx.Own w B 29 1 (.slice a l.length c) l.length (qJ l)
theorem Sr.up{w w':World}{B c:Nat}{a:Option Addr}{l:List Int}(h:Sr w B a c l)(b:Below w.heap.size w w'):Sr w' B a c l:=Fx.Own.up h b
instance {w w':World} {B c:Nat} {a:Option Addr} {l:List Int}:Rt.Tr w w' (Sr w B a c l) (Sr w' B a c l):=⟨fun b h=>h.up b⟩
theorem GL{w:World}{B tp mb:Nat}{T:dB}(k:Int)(h:mM w B tp mb T) :
 Calls Tryd.prog 131 #[.pointer (some ⟨tp,0,none⟩),.int .u64 k] w fun e w' => ∃ a c,e = .returned (.slice a (T.path k).length c)/\Sr w' w.heap.size a c (T.path k)/\Below w.heap.size w w' :=
 Gx T.x T.p T.n tp mb 4 k w h.blk h.map h.inv.inj (h.inv.stop k) (h.inv.len k)
theorem MZ{w:World}{B tp mb:Nat}{T:dB}(h:mM w B tp mb T) :
 Calls Tryd.prog 16 #[.pointer (some ⟨tp,0,none⟩)] w fun e w' => ∃ a c l,e = .returned (.slice a (List.length l) c)/\Sr w' w.heap.size a c l/\(l.Pairwise (· < ·) /\ ∀ k,k∈l<->T.has k=true)/\l.length<=32/\Below w.heap.size w w' :=
 (UC T.x T.p T.n tp mb w h.blk h.map h.inv).mono fun e w' ⟨a,c,l,b,d,f,g,i⟩=>⟨a,c,l,b,d,⟨f,fun k=>by have:=g k; rw[and_true]at this; exact this⟩,i⟩
namespace Rt
section
variable {T U:dB} {id pa k:Int}
structure oG(U T:dB):Prop where
 has : ∀ k,U.has k=true->T.has k=true
 par : ∀ k,U.has k=true->U.par k=T.par k
theorem oG.same(h:oG U T)(hx : ∀ k,T.has k=true->U.has k=true) : ∀ k,U.path k=T.path k:=fun k=>by
 have e : ∀ k,U.has k=T.has k:=fun k=>by
  cases h1:U.has k with
  | true=>exact(h.has k h1).symm
  | false =>
    cases h2:T.has k with
    | false=>rfl
    | true=>rw[hx k h2]at h1; cases h1
 exact BO e (fun k a=>h.par k (hx k a)) 4 k
theorem dB.iO(T:dB)(id pa k:Int):(T.put id pa).has k=(T.has k || decide (id=k)):=Rt.iO id k
theorem dB.pU(T:dB)(id pa k:Int):(T.put id pa).par k=if id=k then pa else T.par k:=Rt.pU id pa k
end
end Rt
namespace Fx
theorem UD{P:Program}{f:Nat->Value}{w:World}{o:Oper}{T d:TypeId}{x y:Operand}{a b:Nat}(g:o.op = .binOp .or T x y d)(hx:ev f x = .int .u64 (1099511627776*(a:Int)))(hy:ev f y = .int .u64 (b:Int))(ha:a<=8388607)(j:b<1099511627776):Runs P f o w (.int .u64 (1099511627776*(a:Int)+b)) :=
 nA g hx hy (by
  have e:((BitVec.ofInt 64 (1099511627776*(a:Int)) ||| BitVec.ofInt 64 (b:Int)).toNat:Int)=1099511627776*(a:Int)+b:=by
   rw[BitVec.toNat_or,BitVec.toNat_ofInt,BitVec.toNat_ofInt]
   rw[show((1099511627776*(a:Int)) % ((2^64:Nat):Int)).toNat=1099511627776*a by omega,show((b:Int) % ((2^64:Nat):Int)).toNat=b by omega]
   have h:=Nat.shiftLeft_add_eq_or_of_lt (i:=40) (b:=b) (by omega) a
   rw[Nat.shiftLeft_eq]at h
   rw[show 1099511627776*a=a*2^40 by omega,<- h]
   omega
  have h:=jk (c:=1099511627776*(a:Int)+b) (by omega) rfl
  simp only[binOp,Op.intBits]
  show(pure (Value.int .u64 (IntKind.u64.wrap ((BitVec.ofInt 64 (1099511627776*(a:Int)) ||| BitVec.ofInt 64 (b:Int)).toNat:Int))):Sem Value).run P w=_
  rw[e,h]; rfl)
theorem UE{w:World}{B c:Nat}{a:Option Addr}{l:List Int}(h:Sr w B a c l):Fx.jv w a l.length 1 (qJ l):=Own.Ye h (Nat.le_refl _)
end Fx
end Go.Proofs.YtcbedgfikejkoaaDoor
namespace Go.Proofs.YtcbedgfikejkoaaDoor
open Go.RowKit Rt
open Fx (eU dJ fu bf fq eZ dS dM fA gQ dH gT eP gD gU Lv sN Ln Ws Qv Wl Rp Wc Qs Wr Sb Lk Wk rC rV sR Rs Rn Rd Rk Wb Wx Wo yT Wt pE Qn AX uo xL yB xJ AZ AY gG yR jM nT tC A8 yA yP xQ yQ rv aA aL bC aI ev bT Stp bU aM flat fH Mp dL aV fC gI aX down fM iU ji jv bG bA cells_one jO aY nE unseen jk iT cu bW cB bY bZ iB iG qP gV)
namespace Rt
structure EvM where
 o:Int
 seq:Int
 deps:Nat->Int
 kind:Int
 node:Int
 dst:Int
 bH:Int
 req:Int
 of:Int
def dz(v:EvM):Nat->Value:=fun p=>if p=0 then .int .i64 v.o else if p=1 then .int .u64 v.seq else if p<8 then .int .u64 (v.deps (p-2))else if p=8 then .int .u8 v.kind else if p=9 then .int .u64 v.node else if p=10 then .int .i64 v.dst else if p=11 then .int .i64 v.bH else if p=12 then .int .u64 v.req else .int .u64 v.of
theorem oH(v:EvM){p j:Nat}(h:p=j+2)(a:j<6):dz v p = .int .u64 (v.deps j):=by
 subst h; unfold dz; rw[if_neg (by omega),if_neg (by omega),if_pos (by omega),show j+2-2=j by omega]
theorem jc(v:EvM) : ∀ j,j<14->(dz v j).oneCell'=true:=fun j _=>by unfold dz; repeat (first|rfl|split)
def jo(i:Int):Bool:=decide (1<=i)&&decide (i<=6)
def Dn(v:EvM):EvM :=
 if v.kind=1 then { v with dst:=0,req:=0,of:=0 } else if v.kind=2 then { v with dst:=0,req:=0,of:=0 } else if v.kind=3 then { v with dst:=0,of:=0 }
 else if v.kind=4 then { v with node:=0,dst:=0,bH:=0 } else if v.kind=5 then { v with req:=0,of:=0 } else if v.kind=6 then { v with node:=0,bH:=0,req:=0,of:=0 }
 else { v with node:=0,dst:=0,bH:=0,req:=0,of:=0 }
def someE(v:EvM):Bool:=decide (1<=v.bH)&&decide (v.bH<=1125899906842624)
def zW(v:EvM):Bool:=jo v.dst && !decide (v.dst=v.o)
def iP(v:EvM):Bool :=
 if v.kind=1 then decide (0<=v.bH)&&decide (v.bH<=1125899906842624)else if v.kind=2 then someE v else if v.kind=3 then someE v&&decide (1<=v.req)
 else if v.kind=4 then decide (1<=v.req)&&decide (1<=v.of) && !decide (v.req=v.of)else if v.kind=5 then someE v&&zW v else if v.kind=6 then zW v else decide (v.kind=7)
end Rt
-- Xd.Region is not in this seat
-- Kq.own is not in this seat
namespace Rt
def gN(n:Int):Prop:=0<=n/\n<=18446744073709551615
def nV(n:Int):Prop := -9223372036854775808<=n/\n<=9223372036854775807
structure jR(v:EvM):Prop where
 o:nV v.o
 seq:gN v.seq
 deps : ∀ i,i<6->gN (v.deps i)
 kind:0<=v.kind/\v.kind<=255
 node:gN v.node
 dst:nV v.dst
 bH:nV v.bH
 req:gN v.req
 of:gN v.of
theorem jR.own{v:EvM}(h:jR v):jR (Dn v):=by
 have z:gN 0:=⟨by decide,by decide⟩
 have y:nV 0:=⟨by decide,by decide⟩
 unfold Dn
 split
 ·exact⟨h.o,h.seq,h.deps,h.kind,h.node,y,h.bH,z,z⟩
 split
 ·exact⟨h.o,h.seq,h.deps,h.kind,h.node,y,h.bH,z,z⟩
 split
 ·exact⟨h.o,h.seq,h.deps,h.kind,h.node,y,h.bH,h.req,z⟩
 split
 ·exact⟨h.o,h.seq,h.deps,h.kind,z,y,y,h.req,h.of⟩
 split
 ·exact⟨h.o,h.seq,h.deps,h.kind,h.node,h.dst,h.bH,z,z⟩
 split
 ·exact⟨h.o,h.seq,h.deps,h.kind,z,h.dst,y,z,z⟩
 exact⟨h.o,h.seq,h.deps,h.kind,z,y,y,z,z⟩
theorem nJ{v:EvM}(h:jR v):Fx.Kd [(some .i64),(some .u64),(some .u64),(some .u64),(some .u64),(some .u64),(some .u64),(some .u64),(some .u8),(some .u64),(some .i64),(some .i64),(some .u64),(some .u64)] (dz v):=by
 have a : ∀(k:IntKind) (n:Int),(Lit.int k n).wf=true -> ∃ l,ku (some k) (.int k n)=some l:=fun k n d=>by
  obtain⟨l,c⟩:=Fx.Em (k:=k) (n:=1) (x:=fun _=>n) (fun _ _=>d) 0 (by simp)
  exact⟨l,c⟩
 intro i b
 have e:i<14:=b
 rcases i with _|_|_|_|_|_|_|_|_|_|_|_|_|_|i
 ·exact a .i64 v.o (Fx.Ls h.o)
 ·exact a .u64 v.seq (Fx.nC h.seq)
 ·exact a .u64 (v.deps 0) (Fx.nC (h.deps 0 (by decide)))
 ·exact a .u64 (v.deps 1) (Fx.nC (h.deps 1 (by decide)))
 ·exact a .u64 (v.deps 2) (Fx.nC (h.deps 2 (by decide)))
 ·exact a .u64 (v.deps 3) (Fx.nC (h.deps 3 (by decide)))
 ·exact a .u64 (v.deps 4) (Fx.nC (h.deps 4 (by decide)))
 ·exact a .u64 (v.deps 5) (Fx.nC (h.deps 5 (by decide)))
 ·exact a .u8 v.kind (Fx.aaJ h.kind)
 ·exact a .u64 v.node (Fx.nC h.node)
 ·exact a .i64 v.dst (Fx.Ls h.dst)
 ·exact a .i64 v.bH (Fx.Ls h.bH)
 ·exact a .u64 v.req (Fx.nC h.req)
 ·exact a .u64 v.of (Fx.nC h.of)
 omega
def uG(v:EvM):Bool:=(List.range 6).all fun i=>decide (v.deps i<1099511627776)
def uj(v:EvM):Bool:=decide (v.node=(Dn v).node)&&decide (v.dst=(Dn v).dst)&&decide (v.bH=(Dn v).bH)&&decide (v.req=(Dn v).req)&&decide (v.of=(Dn v).of)
def cZ(v:EvM):Bool:=jo v.o&&decide (1<=v.seq)&&decide (v.seq<1099511627776)&&decide (v.deps (v.o-1).toNat=v.seq-1)&&uG v&&uj v&&iP v
theorem dZ{i:Int}(h:jo i=true) : ∃ a:Nat,a<6/\i=(a:Int)+1:=by
 unfold jo at h; simp at h
 obtain⟨a,b⟩:=Int.eq_ofNat_of_zero_le (show 0<=i-1 by omega)
 exact⟨a,by omega,by omega⟩
theorem Kt{v:EvM}{k:Nat}(a:k<6)(h:1099511627776<=v.deps k):uG v=false:=by
 unfold uG; rw[List.all_eq_false]; exact⟨k,List.mem_range.2 a,by simp; omega⟩
theorem GN{v:EvM}{k:Nat}(b : ¬ (k:Int)<6)(h : ∀ i,i<k->v.deps i<1099511627776):uG v=true:=by
 unfold uG; rw[List.all_eq_true]; intro i a; have:=List.mem_range.1 a; simp; exact h i (by omega)
theorem iQ{v:EvM}(h:cZ v=true):jo v.o=true:=by
 unfold cZ at h; simp only[Bool.and_eq_true]at h; exact h.1.1.1.1.1.1
end Rt
-- Kq.May is not in this seat
namespace Rt
def xW(K:Nat->Int)(v:EvM):Bool:=cZ v&&decide (v.seq<=K (v.o-1).toNat)
def BZ(D K:Nat->Int):Bool:=(List.range 6).all fun i=>decide (D i<=K i)
def iw(K:Nat->Int)(v:EvM):Bool:=cZ v&&decide (v.seq=K (v.o-1).toNat+1)&&BZ v.deps K
def EP(K:Nat->Int):Prop := ∀ i,i<6->0<=K i/\K i<1099511627776
theorem yY{v:EvM}(h:cZ v=true):1<=v.seq/\v.seq<1099511627776:=by
 unfold cZ at h; simp only[Bool.and_eq_true,decide_eq_true_eq]at h; exact⟨h.1.1.1.1.1.2,h.1.1.1.1.2⟩
end Rt
-- Ku.Late is not in this seat
-- Ku.Ready is not in this seat
set_option maxHeartbeats 400000 in
theorem Dp(a:Option Addr)(len cap:Nat)(l:List Int)(w:World)(hlen:len<=100)(hl:Hid (l.length=len))(hr:ZO .i64 w a l) :
 Calls Tryd.prog 55 #[.slice a len cap] w fun e w'=>e = .returned (.tuple #[.int .i64 (jJ l).1,.bool (jJ l).2])/\w'=w:=by
 go_enter Tryd.func55,Tryd.ntmps55
 go_wp2
 go_loop [2,3,8] (fun v o i=>o = .bool false /\ ∃ k:Nat,k<=len/\i = .int .i64 k/\jA (l.take k)=true/\v = .int .i64 (l.take k).sum) (fun _ _ i=>len-(intOf i).toNat)
 case atStart=>exact⟨rfl,0,Nat.zero_le _,rfl,rfl,rfl⟩
 case round =>
  obtain⟨rfl,k,hk,rfl,hok,rfl⟩:=hrel
  by_cases hk2:k<len
  ·have hk3:k<l.length:=by rw[hl.out]; exact hk2
   obtain⟨b,off,rfl,hc⟩:=hr k hk3
   have hb:=wM _ hok
   have hle:(l.take k).length<=k:=List.length_take_le _ _
   have HS:Hid _:=Bg l k hk3
   have HO:Hid _:=yE l k hk3
   have HF:Hid (F5 l[k]=false->jJ l=(0,false)):=by intro h; unfold jJ; rw[if_neg (by rw[Bh hk3 h]; decide)]
   have Hok:Hid _:=hok
   clear hr hok
   generalize l[k]=x at *
   generalize hs:(l.take k).sum=s at *
   clear hs
   by_cases h0:x<0
   ·have hn:F5 x=false:=by unfold F5; simp; omega
    have HR:Hid _:=HF.out hn
    clear HF hn HS HO
    go_wp2
    go_ret2
    rw[HR.out]; exact⟨rfl,rfl⟩
   ·by_cases h1:1125899906842624<x
    ·have hn:F5 x=false:=by unfold F5; simp; omega
     have HR:Hid _:=HF.out hn
     clear HF hn HS HO
     go_wp2
     go_ret2
     rw[HR.out]; exact⟨rfl,rfl⟩
    ·have hy:Hid (F5 x=true):=by unfold F5 Hid; simp; omega
     clear HF
     go_wp2
     go_round
     case rel=>exact⟨rfl,k+1,by omega,by go_num,by rw[HO.out,Hok.out,hy.out]; rfl,by rw[HS.out]⟩
     case measure=>simp[intOf]; omega
  ·have hT:Hid (l.take k=l):=List.take_of_length_le (by rw[hl.out]; omega)
   rw[hT.out]at hok ⊢
   have HR:Hid (jJ l=(l.sum,true)):=by unfold jJ Hid; rw[if_pos hok]
   clear hok
   generalize l.sum=s at *
   go_wp2
   go_ret2
   rw[HR.out]; exact⟨rfl,rfl⟩
def Two(a w:World)(d f:Nat)(b:List Int)(e g:Nat)(c:List Int):Prop :=
 w.ownsRow a.heap.size 2 1 (.slice (some ⟨d,0,none⟩) b.length f) b.length (b.map (Value.int .i64)) /\
 w.ownsRow a.heap.size 2 1 (.slice (some ⟨e,0,none⟩) c.length g) c.length (c.map (Value.int .i64))/\d≠e/\Below a.heap.size a w
theorem Two.alloc{g w:World}{c a:Nat}{e:List Int}{d b:Nat}{f:List Int}(h:Two g w c a e d b f)(o:Obj):Two g (w.alloc o) c a e d b f :=
 ⟨World.ownsRow.alloc h.1 o,World.ownsRow.alloc h.2.1 o,h.2.2.1,h.2.2.2.alloc h.2.2.2.size o⟩
theorem Two.drew{g w:World}{c a:Nat}{e:List Int}{d b:Nat}{f:List Int}(h:Two g w c a e d b f):Two g w.drew c a e d b f :=
 ⟨h.1,h.2.1,h.2.2.1,h.2.2.2.drew⟩
theorem Two.swap{g w:World}{c a:Nat}{e:List Int}{d b:Nat}{f:List Int}(h:Two g w c a e d b f):Two g w d b f c a e:=⟨h.2.1,h.1,h.2.2.1.symm,h.2.2.2⟩
theorem PZ:(Tryd.prog.info? 2).map (fun i=>(i.zero,i.size,i.bytes))=some (some (.int .i64 0),1,8):=by kernel_rfl
theorem ER{ops:Array Oper}{o:Oper}{a:Act}{q w:World}{K:Act->World->Prop}{Q:Exit->Act->World->Prop}{E:Prop}(C:o.guard=none)(s x:Operand)
 (I:o.op = .call { callee := .builtin .append,args := #[s,x],argTypes := #[120,120] }) (l r:Nat) (d:List Int) (m t:Nat) (y:List Int) (h:Two q w l r d m t y)
 (n:Nat) (G:d.length=n) (J:a.eval s = .slice (some ⟨l,0,none⟩) n r) (i:Nat) (v:Int) (hx:a.eval x = .slice (some ⟨i,0,none⟩) 1 1) (B:w.cell? ⟨i,0,none⟩=some (.int .i64 v)) (R:n<=100)
 (A : ∀ g f w',Two q w' g f (d ++ [v]) m t y->(∀ a u,w.cell? a=some u->a.block≠l->w'.cell? a=some u)->K (a.put o.dst (.slice (some ⟨g,0,none⟩) (n+1) f)) w') :
 if Region.wanted o (yielded ops a.tmps)=true then Oper.wp Tryd.prog o a w K Q else E:=by
 obtain⟨O,D,L,M,N⟩:=info_parts PZ
 subst G
 refine step_append_lies w C s x 120 I q.heap.size 2 O (.int .i64 0) 1 8 Tryd.underlying120 D L M N rfl (by decide) _ d.length (d.map (Value.int .i64)) J h.1 ⟨i,0,none⟩ 1 1 [.int .i64 v] hx rfl
  (by intro j u b; cases j with
   | zero=>simp at b; subst b; rw[addr_add]; exact B
   | succ j=>simp at b) (by intro u b; simp at b; subst b; rfl) (by decide) (by unfold maxLen; omega) (by omega) h.2.2.2.size w.heap.size rfl ?_
 intro g f w' z p c P
 refine A g f w' ⟨?_,?_,?_,?_⟩ (fun a u b H=>p.cell b (by simp[Value.ownBlock]; exact H))
 ·rw[List.length_append,List.map_append]; exact z
 ·exact World.ownsRow.kept h.2.1 p (.inr (by simp[Value.ownBlock]; exact fun e=>h.2.2.1 e.symm))
 ·have S:=World.ownsRow.lt h.2.1 m rfl
  rcases c with c|c
  ·simp[Value.ownBlock]at c; subst c; exact h.2.2.1
  omega
 exact h.2.2.2.grown p h.2.2.2.size (fun k F=>(World.ownsRow.lt h.1 k F).1)
theorem Two.rd1{j w:World}{a c:Nat}{b:List Int}{e d:Nat}{g:List Int}(h:Two j w a c b e d g):ZO .i64 w (some ⟨a,0,none⟩) b:=by
 intro i f
 refine⟨a,0,rfl,?_⟩
 rw[Nat.zero_add,World.ownsRow.cellAt h.1 i (by omega)]
 simp[f]
theorem Two.start(w:World)(v a b:Int):Two w ((w.alloc (.cells #[.int .i64 v] 2)).alloc (.cells #[.int .i64 a,.int .i64 b] 2)) w.heap.size 1 [v] (w.heap.size+1) 2 [a,b]:=by
 refine⟨World.ownsRow.alloc (World.ownsRow_lit w #[.int .i64 v] 1 (Nat.le_refl _) (by unfold maxLen; omega) rfl) _,?_,by omega,((Below.refl _ _).alloc (Nat.le_refl _) _).alloc (by simp) _⟩
 have:=World.ownsRow_lit (base:=w.heap.size) (e:=2) (size:=1) (w.alloc (.cells #[.int .i64 v] 2)) #[.int .i64 a,.int .i64 b] 2 (by simp) (by unfold maxLen; omega) rfl
 simpa using this
theorem Two.UF(w:World)(v a b:Int):Two w ((w.alloc (.cells #[.int .i64 a,.int .i64 b] 2)).alloc (.cells #[.int .i64 v] 2)) (w.heap.size+1) 1 [v] w.heap.size 2 [a,b]:=by
 refine⟨?_,World.ownsRow.alloc (World.ownsRow_lit w #[.int .i64 a,.int .i64 b] 2 (Nat.le_refl _) (by unfold maxLen; omega) rfl) _,by omega,((Below.refl _ _).alloc (Nat.le_refl _) _).alloc (by simp) _⟩
 have:=World.ownsRow_lit (base:=w.heap.size) (e:=2) (size:=1) (w.alloc (.cells #[.int .i64 a,.int .i64 b] 2)) #[.int .i64 v] 1 (by simp) (by unfold maxLen; omega) rfl
 simpa using this
theorem Two.at{c w:World}{g d:Nat}{k:List Int}{j e:Nat}{l:List Int}(h:Two c w g d k j e l){b:Nat}{x:Nat->Int}{T:TypeId}{f:Nat × Nat}(a:c.heap[b]? = some (.cells (aH .i64 54 x) T f))(i:Nat)(hi:i<54) :
 w.cell? ⟨b,i,none⟩=some (.int .i64 (x i)) :=
 dW ((h.2.2.2.block b (Array.getElem?_eq_some_iff.1 a).1).trans a) i hi
theorem Two.lt{a w:World}{e c:Nat}{i:List Int}{f d:Nat}{j:List Int}(h:Two a w e c i f d j){b:Nat}(g:b<a.heap.size):b<w.heap.size:=Nat.lt_of_lt_of_le g h.2.2.2.size
theorem zX(x:Nat->Int)(k:Nat) : ∀ j,(outs x k j).length=j+1
 | 0=>rfl
 | j+1=>by rw[outs,List.length_append,zX x k j]; rfl
theorem Dq(x:Nat->Int)(k:Nat) : ∀ j,(ins x k j).length=j+2
 | 0=>rfl
 | j+1=>by rw[ins,List.length_append,Dq x k j]; rfl
def Yf(w:World)(x:Nat->Int)(k j:Nat)(e f:Value)(g:World):Prop :=
 ∃ c a d b,e = .slice (some ⟨c,0,none⟩) (j+1) a/\f = .slice (some ⟨d,0,none⟩) (j+2) b/\Two w g c a (outs x k j) d b (ins x k j)
set_option maxHeartbeats 4000000 in
theorem Ca(b:Nat)(T:TypeId)(fz:Nat × Nat)(x:Nat->Int)(k:Nat)(w:World)(hk:k<6)(hb:Hid (w.heap[b]? = some (.cells (aH .i64 54 x) T fz))) :
 Calls Tryd.prog 39 #[.pointer (some ⟨b,0,none⟩),.int .i64 k] w fun e w'=>e = .returned (.tuple #[.int .i64 (localM x k).1,.bool (localM x k).2])/\Below w.heap.size w w':=by
 have hlt:b<w.heap.size:=(Array.getElem?_eq_some_iff.1 hb.out).1
 have hki:(k:Int)<6:=by omega
 go_enter Tryd.func39,Tryd.ntmps39
 go_upto_region 1 with (fail)
 go_cut [6,7] (fun s6 s7 wx=>Yf w x k 0 s6 s7 wx)
 case first =>
  have c1:=dW hb.out (6+k) (by omega)
  have c2:=dW hb.out k (by omega)
  have c3:=dW hb.out (12+k) (by omega)
  go_wp2
  go_region
  all_goals go_wp2
  all_goals go_meet
  case rel=>exact⟨_,_,_,_,rfl,rfl,(Two.start w (x (6+k)) (x k) (x (12+k))).drew⟩
  case rel=>exact⟨_,_,_,_,rfl,rfl,(Two.UF w (x (6+k)) (x k) (x (12+k))).drew⟩
 case rest =>
  clear hlt
  go_wp2
  go_loopw [6,7,33] (fun s6 s7 i wx => ∃ j:Nat,j<=6/\i = .int .i64 j/\Yf w x k j s6 s7 wx) (fun _ _ i _=>6-(intOf i).toNat)
  case atStart=>exact⟨0,Nat.zero_le _,rfl,hcut⟩
  case round =>
   obtain⟨j,hj,rfl,g1,c1,g2,c2,rfl,rfl,hT⟩:=hrel
   by_cases hj2:j<6
   ·have hji:(j:Int)<6:=by omega
    have hlt:b<w.heap.size:=(Array.getElem?_eq_some_iff.1 hb.out).1
    have hrow:wr.heap[b]? = some (.cells (aH .i64 54 x) T fz):=(hT.2.2.2.block b hlt).trans hb.out
    have e1:=dW hrow (18+k*6+j) (by omega)
    have e2:=dW hrow (18+j*6+k) (by omega)
    have hlt2:b<wr.heap.size:=(Array.getElem?_eq_some_iff.1 hrow).1
    have M0:Hid _:=hrow
    have hg1:g1<wr.heap.size:=(World.ownsRow.lt hT.1 g1 rfl).2
    have hg2:g2<wr.heap.size:=(World.ownsRow.lt hT.2.1 g2 rfl).2
    clear hrow
    have HO:Hid ((outs x k j).length=j+1):=zX x k j
    have HI:Hid ((ins x k j).length=j+2):=Dq x k j
    go_wp2
    go_region_law (first
     | (refine ER (o:=⟨some 46,_,_,_,_,_⟩) (by rfl) (.tmp 36) (.tmp 45) (by rfl) g1 c1 (outs x k j) _ _ _ (by first|assumption|exact Two.alloc (by assumption) _|exact Two.alloc (Two.alloc (by assumption) _) _|exact hT.drew.alloc _|exact(hT.drew.alloc _).alloc _) (j+1) HO.out (by rfl) _ (x (18+k*6+j)) (by rfl) (by first|(go_simp; done)|exact hkp _ _ (by go_simp; done) (by simp; omega)) (by omega) ?_; intro g cp w1 hT1 hkp; have e1':=hT1.at hb.out (18+k*6+j) (by omega); have e2':=hT1.at hb.out (18+j*6+k) (by omega); have hlt':=hT1.lt hlt)
     | (refine ER (o:=⟨some 57,_,_,_,_,_⟩) (by rfl) (.tmp 47) (.tmp 56) (by rfl) g2 c2 (ins x k j) _ _ _ (by first|exact Two.swap (by assumption)|exact(Two.alloc (by assumption) _).swap|exact(Two.alloc (Two.alloc (by assumption) _) _).swap|exact(hT.drew.alloc _).swap|exact((hT.drew.alloc _).alloc _).swap) (j+2) HI.out (by rfl) _ (x (18+j*6+k)) (by rfl) (by first|(go_simp; done)|exact hkp _ _ (by go_simp; done) (by simp; omega)) (by omega) ?_; intro g cp w1 hT1 hkp; have e1':=hT1.at hb.out (18+k*6+j) (by omega); have e2':=hT1.at hb.out (18+j*6+k) (by omega); have hlt':=hT1.lt hlt))
    all_goals go_wp2
    all_goals go_roundw
    all_goals first
     | (simp[intOf]; omega)
     | exact⟨j+1,by omega,by go_num,_,_,_,_,rfl,rfl,hT1.swap⟩
   ·obtain rfl:j=6:=by omega
    have r1:=hT.rd1
    have r2:=hT.swap.rd1
    have hbel:=hT.2.2.2
    have HO:Hid ((outs x k 6).length=7):=zX x k 6
    have HI:Hid ((ins x k 6).length=8):=Dq x k 6
    have b1:=pR (outs x k 6)
    have b2:=pR (ins x k 6)
    rw[HO.out]at b1
    rw[HI.out]at b2
    have HL:Hid (localM x k=((jJ (ins x k 6)).1-(jJ (outs x k 6)).1,(jJ (outs x k 6)).2&&(jJ (ins x k 6)).2)):=rfl
    generalize outs x k 6=lo at *
    generalize ins x k 6=li at *
    clear hT
    go_wp2_with fail
    refine(Dp _ 7 c1 lo _ (by omega) HO r1).mono ?_
    rintro e w1 ⟨rfl,rfl⟩
    go_wp2_with fail
    refine(Dp _ 8 c2 li _ (by omega) HI r2).mono ?_
    rintro e w2 ⟨rfl,rfl⟩
    generalize (jJ li).1=n2 at *
    generalize (jJ lo).1=n1 at *
    generalize (jJ li).2=o2 at *
    generalize (jJ lo).2=o1 at *
    cases o1
    all_goals
     go_wp2_with fail
     go_ret2
     rw[HL.out]; exact⟨rfl,hbel⟩
namespace Rt
def wU(x:Nat->Int)(k:Nat):Bool:=(localM x k).2&&decide (0<=(localM x k).1)&&decide (F x k<=C x k)&&(R x k k==0)
def yI(x:Nat->Int):Nat->Bool
 | 0=>true
 | k+1=>yI x k&&wU x k
def gs(x:Nat->Int):List Int := [x 0,x 1,x 2,x 3,x 4,x 5]
def may(x:Nat->Int):Bool:=yI x 6&&((jJ (gs x)).2&&decide ((jJ (gs x)).1<=1125899906842624))
theorem zY(x:Nat->Int)(k:Nat)(h:wU x k=false) : ∀ n,k<n->yI x n=false
 | 0,hn=>absurd hn (by omega)
 | n+1,hn=>by
   rw[yI]
   by_cases e:k=n
   ·subst e; rw[h,Bool.and_false]
   ·rw[zY x k h n (by omega),Bool.false_and]
theorem Kv(x:Nat->Int)(k:Nat)(a:k<6)(h:wU x k=false):may x=false:=by
 unfold may; rw[zY x k h 6 a,Bool.false_and]
end Rt
theorem Yg{w:World}{g:Nat}{x:Nat->Int}{t:TypeId}{a:Nat × Nat}(h:w.heap[g]? = some (.cells (aH .i64 54 x) t a)):ZO .i64 w (some ⟨g,0,none⟩) (gs x):=by
 intro i b
 have c:i<6:=b
 refine⟨g,0,rfl,?_⟩
 rw[Nat.zero_add,dW h i (by omega)]
 rcases(show i=0\/i=1\/i=2\/i=3\/i=4\/i=5 by omega)with rfl|rfl|rfl|rfl|rfl|rfl <;> rfl
set_option maxHeartbeats 1000000 in
theorem nK(x:Nat->Int)(w:World) :
 Calls Tryd.prog 38 #[.agg (aH .i64 54 x)] w fun e w'=>e = .returned (.bool (may x))/\Below w.heap.size w w':=by
 go_enter Tryd.func38,Tryd.ntmps38
 go_wp2
 go_loopw [2,3,8] (fun r _ i wr=>r = .bool false /\ ∃ k:Nat,k<=6/\i = .int .i64 k/\yI x k=true/\wr.heap[w.heap.size]? = some (.cells (aH .i64 54 x) 66 (0,0))/\Below w.heap.size w wr) (fun _ _ i _=>6-(intOf i).toNat)
 case atStart=>exact⟨rfl,0,Nat.zero_le _,rfl,rfl,heap_alloc_new w _,(Below.refl _ _).alloc (Nat.le_refl _) _⟩
 case round =>
  obtain⟨rfl,k,hk,rfl,hN,hrow,hbel⟩:=hrel
  have hlt:w.heap.size<wr.heap.size:=(Array.getElem?_eq_some_iff.1 hrow).1
  have M0:Hid _:=hrow
  have HN:Hid _:=hN
  clear hrow hN
  by_cases hk2:k<6
  ·have hki:(k:Int)<6:=by omega
   have HM:Hid (yI x (k+1)=(yI x k&&wU x k)):=rfl
   have HF:Hid (wU x k=false->may x=false):=fun h=>Kv x k hk2 h
   have HK:Hid (wU x k=((localM x k).2&&decide (0<=(localM x k).1)&&decide (F x k<=C x k)&&(R x k k==0))):=rfl
   go_wp2_with fail
   refine(Ca w.heap.size _ _ x k wr hk2 M0).mono ?_
   rintro e w1 ⟨rfl,hb1⟩
   have ES:=(hb1.block _ hlt).trans M0.out
   have ET:=hbel.trans (hb1.mono (Nat.le_of_lt hlt))
   have c1:=dW ES (12+k) (by omega)
   have c2:=dW ES (6+k) (by omega)
   have c3:=dW ES (18+k*6+k) (by omega)
   have Yh:Hid _:=ES
   clear ES M0 hbel hb1
   generalize (localM x k).1=n at *
   generalize hF:F x k=f at *
   generalize hC:C x k=c at *
   generalize hR:R x k k=r at *
   unfold F at hF; unfold C at hC; unfold R at hR
   rw[hF]at c1; rw[hC]at c2; rw[hR]at c3
   clear hF hC hR
   cases his:(localM x k).2
   ·rw[his]at HK
    clear his
    have HR:Hid _:=HF.out (by rw[HK.out]; rfl)
    clear HK HF HM
    go_wp2_with fail
    go_quiet (fail)
    go_wp2
    go_ret
    rw[HR.out]; exact⟨rfl,bN ET _⟩
   ·rw[his]at HK
    clear his
    by_cases h1:n<0
    ·have d1:decide (n<0)=true:=by simpa using h1
     have d1':decide (0<=n)=false:=by simp; omega
     have HR:Hid _:=HF.out (by rw[HK.out]; rw[d1']; rfl)
     clear HK HF HM
     go_wp2_with fail
     go_quiet (fail)
     go_wp2
     go_ret
     rw[HR.out]; exact⟨rfl,bN ET _⟩
    ·have d1:decide (n<0)=false:=by simp; omega
     have d1':Hid (decide (0<=n)=true):=by unfold Hid; simp; omega
     by_cases h2:c<f
     ·have d2:decide (c<f)=true:=by simpa using h2
      have d2':decide (f<=c)=false:=by simp; omega
      have HR:Hid _:=HF.out (by rw[HK.out]; rw[d2',Bool.and_false,Bool.false_and])
      clear HK HF HM
      go_wp2_with fail
      go_quiet (fail)
      go_wp2
      go_ret
      rw[HR.out]; exact⟨rfl,bN ET _⟩
     ·have d2:decide (c<f)=false:=by simp; omega
      have d2':Hid (decide (f<=c)=true):=by unfold Hid; simp; omega
      by_cases h3:r=0
      ·subst h3
       go_wp2_with fail
       go_quiet (fail)
       go_wp2
       go_roundw
       case rel=>exact⟨rfl,k+1,by omega,by go_num,by rw[HM.out,HN.out,HK.out,d1'.out,d2'.out]; rfl,Yh.out,bN ET _⟩
       case measure=>simp[intOf]; omega
      ·have d3:(r != 0)=true:=by simpa using h3
       have d3':(r==0)=false:=by simpa using h3
       have HR:Hid _:=HF.out (by rw[HK.out]; rw[d3',Bool.and_false])
       clear HK HF HM
       go_wp2_with fail
       go_quiet (fail)
       go_wp2
       go_ret
       rw[HR.out]; exact⟨rfl,bN ET _⟩
  ·obtain rfl:k=6:=by omega
   have HV:Hid (may x=((jJ (gs x)).2&&decide ((jJ (gs x)).1<=1125899906842624))):=by unfold Hid may; rw[HN.out,Bool.true_and]
   have hg:ZO .i64 wr (some ⟨w.heap.size,0,none⟩) (gs x):=Yg M0.out
   have HL:Hid ((gs x).length=6):=rfl
   generalize gs x=l at *
   clear HN
   go_wp2_with fail
   refine(Dp _ 6 _ l _ (by omega) HL hg).mono ?_
   rintro e w1 ⟨rfl,rfl⟩
   generalize (jJ l).1=n at *
   cases h:(jJ l).2
   ·rw[h]at HV
    clear h
    go_wp2_with fail
    go_ret
    rw[HV.out]; exact⟨rfl,hbel⟩
   ·rw[h]at HV
    clear h
    go_wp2_with fail
    go_ret
    rw[HV.out]; exact⟨rfl,hbel⟩
namespace Rt
def iJ(i:Int):Bool:=decide (1<=i)&&decide (i<=6)
def dU(x:Nat->Int)(i:Int):Int:=if iJ i&&may x then(localM x (i.toNat-1)).1 else 0
theorem UG{n:Int}(h:F5 n=true):0<=n/\n<=1125899906842624:=by unfold F5 at h; simpa using h
theorem Je{l:List Int}(h:(jJ l).2=true):jA l=true:=by
 unfold jJ at h
 by_cases a:jA l=true
 ·exact a
 rw[if_neg a]at h; exact absurd h (by decide)
theorem sQ{l:List Int}(h:jA l=true){n:Int}(a:n∈l):0<=n/\n<=1125899906842624:=by
 unfold jA at h
 rw[List.all_eq_true]at h
 exact UG (h n a)
theorem EU(x:Nat->Int)(k:Nat) : ∀ j,C x k∈outs x k j
 | 0=>by simp[outs]
 | j+1=>by rw[outs]; exact List.mem_append_left _ (EU x k j)
theorem Cb(x:Nat->Int)(k i:Nat) : ∀ j,i<j->R x k i∈outs x k j
 | 0,h=>absurd h (by omega)
 | j+1,h=>by
   rw[outs]
   by_cases e:i=j
   ·subst e; simp
   ·exact List.mem_append_left _ (Cb x k i j (by omega))
theorem yZ(x:Nat->Int)(k:Nat) : ∀ j,G x k∈ins x k j/\F x k∈ins x k j
 | 0=>by simp[ins]
 | j+1=>by rw[ins]; exact⟨List.mem_append_left _ (yZ x k j).1,List.mem_append_left _ (yZ x k j).2⟩
theorem Jf(x:Nat->Int)(k:Nat) : ∀ n,yI x n=true->k<n->wU x k=true
 | 0,_,hk=>absurd hk (by omega)
 | n+1,h,hk=>by
   rw[yI,Bool.and_eq_true]at h
   by_cases e:k=n
   ·subst e; exact h.2
   ·exact Jf x k n h.1 (by omega)
theorem M4{x:Nat->Int}(h:may x=true)(k:Nat)(a:k<6):wU x k=true:=by
 unfold may at h; rw[Bool.and_eq_true]at h; exact Jf x k 6 h.1 a
structure yC(x:Nat->Int)(k:Nat):Prop where
 g:0<=G x k/\G x k<=1125899906842624
 c:0<=C x k/\C x k<=1125899906842624
 f:0<=F x k/\F x k<=1125899906842624
 fc:F x k<=C x k
 r : ∀ i,i<6->0<=R x k i/\R x k i<=1125899906842624
 l:0<=(localM x k).1
 rkk:R x k k=0
 l2:(localM x k).2=true
theorem P5{x:Nat->Int}{k:Nat}(h:wU x k=true):yC x k:=by
 unfold wU at h
 rw[Bool.and_eq_true,Bool.and_eq_true,Bool.and_eq_true]at h
 obtain⟨⟨⟨a,e⟩,h3⟩,h4⟩:=h
 have d:=a
 unfold localM at a
 rw[Bool.and_eq_true]at a
 have c:=Je a.1
 have b:=Je a.2
 exact⟨sQ b (yZ x k 6).1,sQ c (EU x k 6),sQ b (yZ x k 6).2,by simpa using h3,fun i f=>sQ c (Cb x k i 6 f),by simpa using e,by simpa using h4,d⟩
theorem pX{x:Nat->Int}(h:may x=true)(k:Nat)(a:k<6):yC x k:=P5 (M4 h k a)
theorem Kw(x:Nat->Int)(k:Nat) : -(1125899906842624*8)<=(localM x k).1/\(localM x k).1<=1125899906842624*8:=by
 have a:=pR (ins x k 6)
 have b:=pR (outs x k 6)
 rw[LX]at a
 rw[Kl]at b
 unfold localM
 simp only
 omega
end Rt
set_option maxHeartbeats 400000 in
theorem mO(i:Int)(w:World)(hi : -9223372036854775808<=i/\i<=9223372036854775807) :
 Calls Tryd.prog 37 #[.int .i64 i] w fun e w'=>e = .returned (.bool (iJ i))/\w'=w:=by
 unfold iJ
 by_cases h1:i<1
 ·have d1:decide (1<=i)=false:=by simp; omega
  have D1:Hid _:=d1
  go_enter Tryd.func37,Tryd.ntmps37
  go_wp2
  go_ret
  first|exact⟨rfl,rfl⟩|(rw[D1.out]; exact⟨rfl,rfl⟩)
 have d1:decide (1<=i)=true:=by simp; omega
 have D1:Hid _:=d1
 go_enter Tryd.func37,Tryd.ntmps37
 go_wp2
 go_ret
 first|exact⟨rfl,rfl⟩|(rw[D1.out]; exact⟨rfl,rfl⟩)
theorem fP:(Tryd.prog.info? 66).map (·.size)=some 54:=by kernel_rfl
set_option maxRecDepth 100000 in
set_option maxHeartbeats 400000 in
theorem pY(x:Nat->Int)(i:Int)(w:World)(hi : -9223372036854775808<=i/\i<=9223372036854775807) :
 Calls Tryd.prog 24 #[.agg (aH .i64 54 x),.int .i64 i] w fun e w'=>e = .returned (.int .i64 (dU x i))/\Below w.heap.size w w':=by
 have HV:Hid (dU x i=if iJ i&&may x then(localM x (i.toNat-1)).1 else 0):=rfl
 have hrow:Hid ((w.alloc (.cells (aH .i64 54 x) 66)).heap[w.heap.size]? = some (.cells (aH .i64 54 x) 66 (0,0))):=heap_alloc_new w _
 have HR:Hid ((iJ i=true<->1<=i/\i<=6)):=by unfold Hid iJ; simp
 have M5:Hid (∀ w',Calls Tryd.prog 37 #[.int .i64 i] w' fun e w''=>e = .returned (.bool (iJ i))/\w''=w'):=fun w'=>mO i w' hi
 have hmay:Hid (∀ w',Calls Tryd.prog 38 #[.agg (aH .i64 54 x)] w' fun e w''=>e = .returned (.bool (may x))/\Below w'.heap.size w' w''):=fun w'=>nK x w'
 generalize iJ i=r at *
 cases r
 ·go_enter Tryd.func24,Tryd.ntmps24
  go_wp2_with (go_at_call 37; refine(M5.out _).mono ?_; rintro e w' ⟨rfl,rfl⟩)
  go_ret
  rw[HV.out]; exact⟨rfl,(Below.refl _ _).alloc (Nat.le_refl _) _⟩
 have hb:1<=i/\i<=6:=HR.out.1 rfl
 obtain⟨k,hk⟩:=Int.eq_ofNat_of_zero_le (show 0<=i-1 by omega)
 have Hk:Hid (i-1=(k:Int)):=hk
 have Xe:k<6:=by omega
 have hkt:Hid (i.toNat-1=k):=by unfold Hid; omega
 clear hk
 generalize may x=m at *
 cases m
 ·go_enter Tryd.func24,Tryd.ntmps24
  go_wp2_with (first
   | (go_at_call 37; refine(M5.out _).mono ?_; rintro e w' ⟨rfl,rfl⟩)
   | (refine tN (by rfl) (wp_load_row (o:=⟨some 11,_,_,_,_,_⟩) 66 (.tmp 2) (by rfl) w.heap.size (by rfl) 66 (aH .i64 54 x) (0,0) _ hrow.out Tryd.underlying66 (by rfl) (by rw[aO]; exact fP) ?_))
   | (go_at_call 38; refine(hmay.out _).mono ?_; rintro e w1 ⟨rfl,hb1⟩))
  go_ret
  rw[HV.out]; exact⟨rfl,bal hb1⟩
 go_enter Tryd.func24,Tryd.ntmps24
 go_wp2_with (first
  | (go_at_call 37; refine(M5.out _).mono ?_; rintro e w' ⟨rfl,rfl⟩)
  | (refine tN (by rfl) (wp_load_row (o:=⟨some 11,_,_,_,_,_⟩) 66 (.tmp 2) (by rfl) w.heap.size (by rfl) 66 (aH .i64 54 x) (0,0) _ hrow.out Tryd.underlying66 (by rfl) (by rw[aO]; exact fP) ?_))
  | (go_at_call 38; refine(hmay.out _).mono ?_; rintro e w1 ⟨rfl,hb1⟩)
  | (go_at_call 39; rw[Hk.out]; refine(Ca w.heap.size 66 (0,0) x k w1 Xe ((hb1.block _ (by simp)).trans hrow.out)).mono ?_; rintro e w2 ⟨rfl,hb2⟩))
 go_ret
 rw[HV.out,hkt.out]; exact⟨rfl,Ei (bal hb1) hb2⟩
namespace Rt
def zero:Nat->Int:=fun _=>0
def bQ(x:Nat->Int)(n:Int)(is:Bool)(a:Int)(off:Nat):(Nat->Int) × Int :=
 if may x&&decide (1<=n)&&decide (n<=1125899906842624)then
  if is then
   if a=0 then
    if x off+n<=1125899906842624 then(upd x off (x off+n),0)else(zero,6)
   else(zero,a)
  else(zero,10)
 else(zero,1)
end Rt
theorem kR(T:TypeId)(a:Nat × Nat):Obj.cells (aH .i64 54 zero) T a = .cells #[.int .i64 0,.int .i64 0,.int .i64 0,.int .i64 0,.int .i64 0,.int .i64 0,.int .i64 0,.int .i64 0,.int .i64 0,.int .i64 0,.int .i64 0,.int .i64 0,.int .i64 0,.int .i64 0,.int .i64 0,.int .i64 0,.int .i64 0,.int .i64 0,.int .i64 0,.int .i64 0,.int .i64 0,.int .i64 0,.int .i64 0,.int .i64 0,.int .i64 0,.int .i64 0,.int .i64 0,.int .i64 0,.int .i64 0,.int .i64 0,.int .i64 0,.int .i64 0,.int .i64 0,.int .i64 0,.int .i64 0,.int .i64 0,.int .i64 0,.int .i64 0,.int .i64 0,.int .i64 0,.int .i64 0,.int .i64 0,.int .i64 0,.int .i64 0,.int .i64 0,.int .i64 0,.int .i64 0,.int .i64 0,.int .i64 0,.int .i64 0,.int .i64 0,.int .i64 0,.int .i64 0,.int .i64 0] T a:=by rfl
theorem results_cell_tmp{P:Program}{b:Func}{p q:Tmp}{ty:TypeId}(h:b.results = #[.cell p ty,.tmp q])(a:Array Value)(w:World)(g:Nat)(t:TypeId)(cs:Array Value)(c:Nat × Nat)(d:TypeDesc)
 (i:a.getD p undef = .pointer (some ⟨g,0,none⟩)) (f:w.heap[g]? = some (.cells cs t c))
 (k:P.underlying ty=some d) (e:(match d with | .struct _ | .array _ _=>true|_=>false)=true) (hi:(P.info? ty).map (·.size)=some cs.size) :
 (results b a).run P w = .ok (.tuple #[.agg cs,a.getD q undef]) w:=by
 have j:a[p]?.getD undef = .pointer (some ⟨g,0,none⟩):=by simpa using i
 simp[results,h,j,asAddr,run_loadVar_row w g t ty cs c d f k e hi]
def iD(x:Nat->Int)(n:Int)(is:Bool)(a:Int)(off:Nat)(w:World)(e:Ending)(w':World):Prop :=
 e = .returned (.tuple #[.agg (aH .i64 54 (bQ x n is a off).1),.int .i64 (bQ x n is a off).2])/\Below w.heap.size w w'
theorem fJ{w a:World}{B g:Nat}{e:Array Value}(c:Below B w a)(b:B<=g)(d:a.heap[g]? = some (.cells e 66 (0,0)))(y:Nat->Int) :
 (a.setRow g (aH .i64 54 y)).heap[g]? = some (.cells (aH .i64 54 y) 66 (0,0))/\Below B w (a.setRow g (aH .i64 54 y)) :=
 ⟨setRow_heap _ _ _ _ _ _ d,aaI c b⟩
theorem jK{x:Nat->Int}{n:Int}{is:Bool}{c:Int}{off:Nat}{w b:World}{a:Act}{g:Nat}{y:Nat->Int}{k:Int}(d:bQ x n is c off=(y,k))(f:a.defers = [])
 (i:a.tmps.getD 10 undef = .pointer (some ⟨g,0,none⟩)) (j:a.tmps.getD 11 undef = .int .i64 k) (h:b.heap[g]? = some (.cells (aH .i64 54 y) 66 (0,0))) (e:Below w.heap.size w b) :
 bodyPost Tryd.prog Tryd.f135 (iD x n is c off w) .ret a b:=by
 refine bodyPost_ret (v := .tuple #[.agg (aH .i64 54 y),.int .i64 k]) ?_ f ⟨?_,e⟩
 ·rw[results_cell_tmp rfl a.tmps b g 66 _ (0,0) _ i h Tryd.underlying66 rfl (by rw[aO]; exact fP),j]
 rw[d]
set_option maxRecDepth 100000 in
set_option maxHeartbeats 2000000 in
theorem GQ(x:Nat->Int)(n:Int)(is:Bool)(fm fn:FuncId)(cm cn:Array Value)(em:Int)(off:Nat)(w:World)(h:may x=false) :
 Calls Tryd.prog 135 #[.agg (aH .i64 54 x),.int .i64 n,.bool is,.func (.func fm) #[] cm,.func (.func fn) #[] cn] w (iD x n is em off w):=by
 have hT:Hid (bQ x n is em off=(zero,1)):=by unfold Hid bQ; rw[h]; rfl
 have hmay:Hid (∀ w',Calls Tryd.prog 38 #[.agg (aH .i64 54 x)] w' fun e w''=>e = .returned (.bool (may x))/\Below w'.heap.size w' w''):=fun w'=>nK x w'
 go_enter Tryd.func135,Tryd.ntmps135
 go_upto_region 1 with (fail)
 rw[<- kR]
 have hx0:Hid (((w.alloc (.cells (aH .i64 54 x) 66)).alloc (.cells (aH .i64 54 zero) 66)).heap[w.heap.size]? = some (.cells (aH .i64 54 x) 66 (0,0))):=heap_alloc2_old w _ _
 have hz0:Hid (((w.alloc (.cells (aH .i64 54 x) 66)).alloc (.cells (aH .i64 54 zero) 66)).heap[w.heap.size+1]? = some (.cells (aH .i64 54 zero) 66 (0,0))):=heap_alloc2_new w _ _
 have hb0:Below w.heap.size w ((w.alloc (.cells (aH .i64 54 x) 66)).alloc (.cells (aH .i64 54 zero) 66)):=((Below.refl _ _).alloc (Nat.le_refl _) _).alloc (by simp) _
 have hs0:w.heap.size+1<((w.alloc (.cells (aH .i64 54 x) 66)).alloc (.cells (aH .i64 54 zero) 66)).heap.size:=by simp
 generalize (w.alloc (.cells (aH .i64 54 x) 66)).alloc (.cells (aH .i64 54 zero) 66)=W at *
 rw[h]at hmay
 go_wp2_with (first
  | (refine wpList_load_row (o:=⟨some 15,_,_,_,_,_⟩) (by rfl) 66 (.tmp 5) (by rfl) w.heap.size (by rfl) 66 (aH .i64 54 x) (0,0) _ hx0.out Tryd.underlying66 (by rfl) (by rw[aO]; exact fP) ?_)
  | (go_at_call 38; refine(hmay.out _).mono ?_; rintro e w1 ⟨rfl,hb1⟩; have hz1:Hid _:=(hb1.block (w.heap.size+1) hs0).trans hz0.out; have hx1:Hid _:=(hb1.block w.heap.size (by omega)).trans hx0.out; have hB1:=hb0.trans (hb1.mono hb0.size); have hs1:=Nat.lt_of_lt_of_le hs0 hb1.size)
  | (refine wpList_store_row (o:=⟨none,.store 66 (.tmp 10) (.tmp 22),_,_,_,_⟩) (by rfl) 66 (.tmp 10) (.tmp 22) (by rfl) (w.heap.size+1) (aH .i64 54 zero) (by rfl) (by rfl) 66 (aH .i64 54 zero) hz1.out (by rw[aO]; exact fP) (by rw[aO]) (iV _ _ _) ?_))
 have hend:=fJ hB1 (by omega) hz1.out zero
 exact jK hT.out rfl rfl rfl hend.1 hend.2
set_option maxRecDepth 100000 in
set_option maxHeartbeats 2000000 in
theorem GR(x:Nat->Int)(n:Int)(is:Bool)(fm fn:FuncId)(cm cn:Array Value)(em:Int)(off:Nat)(w:World)(h:may x=true)(hn1:n<1) :
 Calls Tryd.prog 135 #[.agg (aH .i64 54 x),.int .i64 n,.bool is,.func (.func fm) #[] cm,.func (.func fn) #[] cn] w (iD x n is em off w):=by
 have hT:Hid (bQ x n is em off=(zero,1)):=by unfold Hid bQ; rw[h,decide_eq_false (show ¬ 1<=n by omega)]; rfl
 have hmay:Hid (∀ w',Calls Tryd.prog 38 #[.agg (aH .i64 54 x)] w' fun e w''=>e = .returned (.bool (may x))/\Below w'.heap.size w' w''):=fun w'=>nK x w'
 go_enter Tryd.func135,Tryd.ntmps135
 go_upto_region 1 with (fail)
 rw[<- kR]
 have hx0:Hid (((w.alloc (.cells (aH .i64 54 x) 66)).alloc (.cells (aH .i64 54 zero) 66)).heap[w.heap.size]? = some (.cells (aH .i64 54 x) 66 (0,0))):=heap_alloc2_old w _ _
 have hz0:Hid (((w.alloc (.cells (aH .i64 54 x) 66)).alloc (.cells (aH .i64 54 zero) 66)).heap[w.heap.size+1]? = some (.cells (aH .i64 54 zero) 66 (0,0))):=heap_alloc2_new w _ _
 have hb0:Below w.heap.size w ((w.alloc (.cells (aH .i64 54 x) 66)).alloc (.cells (aH .i64 54 zero) 66)):=((Below.refl _ _).alloc (Nat.le_refl _) _).alloc (by simp) _
 have hs0:w.heap.size+1<((w.alloc (.cells (aH .i64 54 x) 66)).alloc (.cells (aH .i64 54 zero) 66)).heap.size:=by simp
 generalize (w.alloc (.cells (aH .i64 54 x) 66)).alloc (.cells (aH .i64 54 zero) 66)=W at *
 rw[h]at hmay
 go_wp2_with (first
  | (refine wpList_load_row (o:=⟨some 15,_,_,_,_,_⟩) (by rfl) 66 (.tmp 5) (by rfl) w.heap.size (by rfl) 66 (aH .i64 54 x) (0,0) _ hx0.out Tryd.underlying66 (by rfl) (by rw[aO]; exact fP) ?_)
  | (go_at_call 38; refine(hmay.out _).mono ?_; rintro e w1 ⟨rfl,hb1⟩; have hz1:Hid _:=(hb1.block (w.heap.size+1) hs0).trans hz0.out; have hx1:Hid _:=(hb1.block w.heap.size (by omega)).trans hx0.out; have hB1:=hb0.trans (hb1.mono hb0.size); have hs1:=Nat.lt_of_lt_of_le hs0 hb1.size)
  | (refine wpList_store_row (o:=⟨none,.store 66 (.tmp 10) (.tmp 22),_,_,_,_⟩) (by rfl) 66 (.tmp 10) (.tmp 22) (by rfl) (w.heap.size+1) (aH .i64 54 zero) (by rfl) (by rfl) 66 (aH .i64 54 zero) hz1.out (by rw[aO]; exact fP) (by rw[aO]) (iV _ _ _) ?_))
 have hend:=fJ hB1 (by omega) hz1.out zero
 exact jK hT.out rfl rfl rfl hend.1 hend.2
set_option maxRecDepth 100000 in
set_option maxHeartbeats 2000000 in
theorem GU(x:Nat->Int)(n:Int)(is:Bool)(fm fn:FuncId)(cm cn:Array Value)(em:Int)(off:Nat)(w:World)(h:may x=true)(hn1:1125899906842624<n) :
 Calls Tryd.prog 135 #[.agg (aH .i64 54 x),.int .i64 n,.bool is,.func (.func fm) #[] cm,.func (.func fn) #[] cn] w (iD x n is em off w):=by
 have hT:Hid (bQ x n is em off=(zero,1)):=by unfold Hid bQ; rw[decide_eq_false (show ¬ n<=1125899906842624 by omega),Bool.and_false]; rfl
 have hmay:Hid (∀ w',Calls Tryd.prog 38 #[.agg (aH .i64 54 x)] w' fun e w''=>e = .returned (.bool (may x))/\Below w'.heap.size w' w''):=fun w'=>nK x w'
 go_enter Tryd.func135,Tryd.ntmps135
 go_upto_region 1 with (fail)
 rw[<- kR]
 have hx0:Hid (((w.alloc (.cells (aH .i64 54 x) 66)).alloc (.cells (aH .i64 54 zero) 66)).heap[w.heap.size]? = some (.cells (aH .i64 54 x) 66 (0,0))):=heap_alloc2_old w _ _
 have hz0:Hid (((w.alloc (.cells (aH .i64 54 x) 66)).alloc (.cells (aH .i64 54 zero) 66)).heap[w.heap.size+1]? = some (.cells (aH .i64 54 zero) 66 (0,0))):=heap_alloc2_new w _ _
 have hb0:Below w.heap.size w ((w.alloc (.cells (aH .i64 54 x) 66)).alloc (.cells (aH .i64 54 zero) 66)):=((Below.refl _ _).alloc (Nat.le_refl _) _).alloc (by simp) _
 have hs0:w.heap.size+1<((w.alloc (.cells (aH .i64 54 x) 66)).alloc (.cells (aH .i64 54 zero) 66)).heap.size:=by simp
 generalize (w.alloc (.cells (aH .i64 54 x) 66)).alloc (.cells (aH .i64 54 zero) 66)=W at *
 rw[h]at hmay
 go_wp2_with (first
  | (refine wpList_load_row (o:=⟨some 15,_,_,_,_,_⟩) (by rfl) 66 (.tmp 5) (by rfl) w.heap.size (by rfl) 66 (aH .i64 54 x) (0,0) _ hx0.out Tryd.underlying66 (by rfl) (by rw[aO]; exact fP) ?_)
  | (go_at_call 38; refine(hmay.out _).mono ?_; rintro e w1 ⟨rfl,hb1⟩; have hz1:Hid _:=(hb1.block (w.heap.size+1) hs0).trans hz0.out; have hx1:Hid _:=(hb1.block w.heap.size (by omega)).trans hx0.out; have hB1:=hb0.trans (hb1.mono hb0.size); have hs1:=Nat.lt_of_lt_of_le hs0 hb1.size)
  | (refine wpList_store_row (o:=⟨none,.store 66 (.tmp 10) (.tmp 22),_,_,_,_⟩) (by rfl) 66 (.tmp 10) (.tmp 22) (by rfl) (w.heap.size+1) (aH .i64 54 zero) (by rfl) (by rfl) 66 (aH .i64 54 zero) hz1.out (by rw[aO]; exact fP) (by rw[aO]) (iV _ _ _) ?_))
 have hend:=fJ hB1 (by omega) hz1.out zero
 exact jK hT.out rfl rfl rfl hend.1 hend.2
set_option maxRecDepth 100000 in
set_option maxHeartbeats 2000000 in
theorem GV(x:Nat->Int)(n:Int)(fm fn:FuncId)(cm cn:Array Value)(em:Int)(off:Nat)(w:World)(h:may x=true)(hn1:1<=n)(hn2:n<=1125899906842624) :
 Calls Tryd.prog 135 #[.agg (aH .i64 54 x),.int .i64 n,.bool false,.func (.func fm) #[] cm,.func (.func fn) #[] cn] w (iD x n false em off w):=by
 have hT:Hid (bQ x n false em off=(zero,10)):=by unfold Hid bQ; rw[h,decide_eq_true hn1,decide_eq_true hn2]; simp only[Bool.and_self,if_true]; rfl
 have hmay:Hid (∀ w',Calls Tryd.prog 38 #[.agg (aH .i64 54 x)] w' fun e w''=>e = .returned (.bool (may x))/\Below w'.heap.size w' w''):=fun w'=>nK x w'
 go_enter Tryd.func135,Tryd.ntmps135
 go_upto_region 1 with (fail)
 rw[<- kR]
 have hx0:Hid (((w.alloc (.cells (aH .i64 54 x) 66)).alloc (.cells (aH .i64 54 zero) 66)).heap[w.heap.size]? = some (.cells (aH .i64 54 x) 66 (0,0))):=heap_alloc2_old w _ _
 have hz0:Hid (((w.alloc (.cells (aH .i64 54 x) 66)).alloc (.cells (aH .i64 54 zero) 66)).heap[w.heap.size+1]? = some (.cells (aH .i64 54 zero) 66 (0,0))):=heap_alloc2_new w _ _
 have hb0:Below w.heap.size w ((w.alloc (.cells (aH .i64 54 x) 66)).alloc (.cells (aH .i64 54 zero) 66)):=((Below.refl _ _).alloc (Nat.le_refl _) _).alloc (by simp) _
 have hs0:w.heap.size+1<((w.alloc (.cells (aH .i64 54 x) 66)).alloc (.cells (aH .i64 54 zero) 66)).heap.size:=by simp
 generalize (w.alloc (.cells (aH .i64 54 x) 66)).alloc (.cells (aH .i64 54 zero) 66)=W at *
 rw[h]at hmay
 go_wp2_with (first
  | (refine wpList_load_row (o:=⟨some 15,_,_,_,_,_⟩) (by rfl) 66 (.tmp 5) (by rfl) w.heap.size (by rfl) 66 (aH .i64 54 x) (0,0) _ hx0.out Tryd.underlying66 (by rfl) (by rw[aO]; exact fP) ?_)
  | (go_at_call 38; refine(hmay.out _).mono ?_; rintro e w1 ⟨rfl,hb1⟩; have hz1:Hid _:=(hb1.block (w.heap.size+1) hs0).trans hz0.out; have hx1:Hid _:=(hb1.block w.heap.size (by omega)).trans hx0.out; have hB1:=hb0.trans (hb1.mono hb0.size); have hs1:=Nat.lt_of_lt_of_le hs0 hb1.size)
  | (refine wpList_store_row (o:=⟨none,.store 66 (.tmp 10) (.tmp 26),_,_,_,_⟩) (by rfl) 66 (.tmp 10) (.tmp 26) (by rfl) (w.heap.size+1) (aH .i64 54 zero) (by rfl) (by rfl) 66 (aH .i64 54 zero) hz1.out (by rw[aO]; exact fP) (by rw[aO]) (iV _ _ _) ?_))
 have hend:=fJ hB1 (by omega) hz1.out zero
 exact jK hT.out rfl rfl rfl hend.1 hend.2
set_option maxRecDepth 100000 in
set_option maxHeartbeats 2000000 in
theorem GX(x:Nat->Int)(n:Int)(fm fn:FuncId)(cm cn:Array Value)(em:Int)(off:Nat)(w:World)(h:may x=true)(hn1:1<=n)(hn2:n<=1125899906842624)(hem:em≠0)(hcm : ∀(args:Array Value) (w:World),(callFunc fm args).run Tryd.prog w = .ok (.enter fm args) w)(hm:Hid (∀ w',Below w.heap.size w w'->Calls Tryd.prog fm cm w' fun e w''=>e = .returned (.int .i64 em)/\Below w'.heap.size w' w'')) :
 Calls Tryd.prog 135 #[.agg (aH .i64 54 x),.int .i64 n,.bool true,.func (.func fm) #[] cm,.func (.func fn) #[] cn] w (iD x n true em off w):=by
 have hT:Hid (bQ x n true em off=(zero,em)):=by unfold Hid bQ; rw[h,decide_eq_true hn1,decide_eq_true hn2]; simp only[Bool.and_self,if_true]; rw[if_neg hem]
 have aiN:(em != 0)=true:=by simpa using hem
 have hmay:Hid (∀ w',Calls Tryd.prog 38 #[.agg (aH .i64 54 x)] w' fun e w''=>e = .returned (.bool (may x))/\Below w'.heap.size w' w''):=fun w'=>nK x w'
 go_enter Tryd.func135,Tryd.ntmps135
 go_upto_region 1 with (fail)
 rw[<- kR]
 have hx0:Hid (((w.alloc (.cells (aH .i64 54 x) 66)).alloc (.cells (aH .i64 54 zero) 66)).heap[w.heap.size]? = some (.cells (aH .i64 54 x) 66 (0,0))):=heap_alloc2_old w _ _
 have hz0:Hid (((w.alloc (.cells (aH .i64 54 x) 66)).alloc (.cells (aH .i64 54 zero) 66)).heap[w.heap.size+1]? = some (.cells (aH .i64 54 zero) 66 (0,0))):=heap_alloc2_new w _ _
 have hb0:Below w.heap.size w ((w.alloc (.cells (aH .i64 54 x) 66)).alloc (.cells (aH .i64 54 zero) 66)):=((Below.refl _ _).alloc (Nat.le_refl _) _).alloc (by simp) _
 have hs0:w.heap.size+1<((w.alloc (.cells (aH .i64 54 x) 66)).alloc (.cells (aH .i64 54 zero) 66)).heap.size:=by simp
 generalize (w.alloc (.cells (aH .i64 54 x) 66)).alloc (.cells (aH .i64 54 zero) 66)=W at *
 rw[h]at hmay
 go_wp2_with (first
  | (refine wpList_load_row (o:=⟨some 15,_,_,_,_,_⟩) (by rfl) 66 (.tmp 5) (by rfl) w.heap.size (by rfl) 66 (aH .i64 54 x) (0,0) _ hx0.out Tryd.underlying66 (by rfl) (by rw[aO]; exact fP) ?_)
  | (go_at_call 38; refine(hmay.out _).mono ?_; rintro e w1 ⟨rfl,hb1⟩; have hz1:Hid _:=(hb1.block (w.heap.size+1) hs0).trans hz0.out; have hx1:Hid _:=(hb1.block w.heap.size (by omega)).trans hx0.out; have hB1:=hb0.trans (hb1.mono hb0.size); have hs1:=Nat.lt_of_lt_of_le hs0 hb1.size)
  | (refine(hm.out _ hB1).mono ?_; rintro e w2 ⟨rfl,hb2⟩; have hz2:Hid _:=(hb2.block (w.heap.size+1) hs1).trans hz1.out; have hx2:Hid _:=(hb2.block w.heap.size (by omega)).trans hx1.out; have hB2:=hB1.trans (hb2.mono hB1.size); have hs2:=Nat.lt_of_lt_of_le hs1 hb2.size)
  | (refine wpList_store_row (o:=⟨none,.store 66 (.tmp 10) (.tmp 31),_,_,_,_⟩) (by rfl) 66 (.tmp 10) (.tmp 31) (by rfl) (w.heap.size+1) (aH .i64 54 zero) (by rfl) (by rfl) 66 (aH .i64 54 zero) hz2.out (by rw[aO]; exact fP) (by rw[aO]) (iV _ _ _) ?_))
 have hend:=fJ hB2 (by omega) hz2.out zero
 exact jK hT.out rfl rfl rfl hend.1 hend.2
set_option maxRecDepth 100000 in
set_option maxHeartbeats 2000000 in
theorem GY(x:Nat->Int)(n:Int)(fm fn:FuncId)(cm cn:Array Value)(em:Int)(off:Nat)(w:World)(h:may x=true)(hn1:1<=n)(hn2:n<=1125899906842624)(Yi:em=0)(hoff:off<54)(v:Int)(hv:x off=v)(hv2:0<=v/\v<=1125899906842624)(hs:1125899906842624<v+n)(hcm : ∀(args:Array Value) (w:World),(callFunc fm args).run Tryd.prog w = .ok (.enter fm args) w)(hm:Hid (∀ w',Below w.heap.size w w'->Calls Tryd.prog fm cm w' fun e w''=>e = .returned (.int .i64 em)/\Below w'.heap.size w' w''))(hcn : ∀(args:Array Value) (w:World),(callFunc fn args).run Tryd.prog w = .ok (.enter fn args) w)(hn:Hid (∀ w' g,Below w.heap.size w w'->Calls Tryd.prog fn (#[.pointer (some ⟨g,0,none⟩)]++cn) w' fun e w''=>e = .returned (.pointer (some ⟨g,off,none⟩))/\Below w'.heap.size w' w'')) :
 Calls Tryd.prog 135 #[.agg (aH .i64 54 x),.int .i64 n,.bool true,.func (.func fm) #[] cm,.func (.func fn) #[] cn] w (iD x n true em off w):=by
 have hT:Hid (bQ x n true em off=(zero,6)):=by unfold Hid bQ; rw[h,decide_eq_true hn1,decide_eq_true hn2]; simp only[Bool.and_self,if_true]; rw[if_pos Yi,hv,if_neg (by omega)]
 subst Yi
 have hmay:Hid (∀ w',Calls Tryd.prog 38 #[.agg (aH .i64 54 x)] w' fun e w''=>e = .returned (.bool (may x))/\Below w'.heap.size w' w''):=fun w'=>nK x w'
 go_enter Tryd.func135,Tryd.ntmps135
 go_upto_region 1 with (fail)
 rw[<- kR]
 have hx0:Hid (((w.alloc (.cells (aH .i64 54 x) 66)).alloc (.cells (aH .i64 54 zero) 66)).heap[w.heap.size]? = some (.cells (aH .i64 54 x) 66 (0,0))):=heap_alloc2_old w _ _
 have hz0:Hid (((w.alloc (.cells (aH .i64 54 x) 66)).alloc (.cells (aH .i64 54 zero) 66)).heap[w.heap.size+1]? = some (.cells (aH .i64 54 zero) 66 (0,0))):=heap_alloc2_new w _ _
 have hb0:Below w.heap.size w ((w.alloc (.cells (aH .i64 54 x) 66)).alloc (.cells (aH .i64 54 zero) 66)):=((Below.refl _ _).alloc (Nat.le_refl _) _).alloc (by simp) _
 have hs0:w.heap.size+1<((w.alloc (.cells (aH .i64 54 x) 66)).alloc (.cells (aH .i64 54 zero) 66)).heap.size:=by simp
 generalize (w.alloc (.cells (aH .i64 54 x) 66)).alloc (.cells (aH .i64 54 zero) 66)=W at *
 rw[h]at hmay
 go_wp2_with (first
  | (refine wpList_load_row (o:=⟨some 15,_,_,_,_,_⟩) (by rfl) 66 (.tmp 5) (by rfl) w.heap.size (by rfl) 66 (aH .i64 54 x) (0,0) _ hx0.out Tryd.underlying66 (by rfl) (by rw[aO]; exact fP) ?_)
  | (go_at_call 38; refine(hmay.out _).mono ?_; rintro e w1 ⟨rfl,hb1⟩; have hz1:Hid _:=(hb1.block (w.heap.size+1) hs0).trans hz0.out; have hx1:Hid _:=(hb1.block w.heap.size (by omega)).trans hx0.out; have hB1:=hb0.trans (hb1.mono hb0.size); have hs1:=Nat.lt_of_lt_of_le hs0 hb1.size)
  | (refine(hm.out _ hB1).mono ?_; rintro e w2 ⟨rfl,hb2⟩; have hz2:Hid _:=(hb2.block (w.heap.size+1) hs1).trans hz1.out; have hx2:Hid _:=(hb2.block w.heap.size (by omega)).trans hx1.out; have hB2:=hB1.trans (hb2.mono hB1.size); have hs2:=Nat.lt_of_lt_of_le hs1 hb2.size)
  | (refine(hn.out _ _ hB2).mono ?_; rintro e w3 ⟨rfl,hb3⟩; have hz3:Hid _:=(hb3.block (w.heap.size+1) hs2).trans hz2.out; have hx3:=(hb3.block w.heap.size (by omega)).trans hx2.out; have hB3:=hB2.trans (hb3.mono hB2.size); have hs3:=Nat.lt_of_lt_of_le hs2 hb3.size; have hc3:=dW hx3 off hoff; have hf3:=frozen_of_row w3 w.heap.size off _ _ hx3; have Sl:Hid ((w3.setCell ⟨w.heap.size,off,none⟩ (.int .i64 (v+n))).heap[w.heap.size+1]? = some (.cells (aH .i64 54 zero) 66 (0,0))):=(heap_setCell_other _ _ _ _ (by simp)).trans hz3.out; have hx4:Hid ((w3.setCell ⟨w.heap.size,off,none⟩ (.int .i64 (v+n))).heap[w.heap.size]? = some (.cells (aH .i64 54 (upd x off (v+n))) 66 (0,0))):=by { unfold Hid; rw[heap_setCell_same _ _ _ _ _ _ hx3,zu] }; have hB4:Below w.heap.size w (w3.setCell ⟨w.heap.size,off,none⟩ (.int .i64 (v+n))):=hB3.setCell (Nat.le_refl _) _; clear hx3; rw[hv]at hc3)
  | (refine wpList_store_row (o:=⟨none,.store 66 (.tmp 10) (.tmp 45),_,_,_,_⟩) (by rfl) 66 (.tmp 10) (.tmp 45) (by rfl) (w.heap.size+1) (aH .i64 54 zero) (by rfl) (by rfl) 66 (aH .i64 54 zero) Sl.out (by rw[aO]; exact fP) (by rw[aO]) (iV _ _ _) ?_))
 have hend:=fJ hB4 (by omega) Sl.out zero
 exact jK hT.out rfl rfl rfl hend.1 hend.2
set_option maxRecDepth 100000 in
set_option maxHeartbeats 2000000 in
theorem GZ(x:Nat->Int)(n:Int)(fm fn:FuncId)(cm cn:Array Value)(em:Int)(off:Nat)(w:World)(h:may x=true)(hn1:1<=n)(hn2:n<=1125899906842624)(Yi:em=0)(hoff:off<54)(v:Int)(hv:x off=v)(hv2:0<=v/\v<=1125899906842624)(hs:v+n<=1125899906842624)(hcm : ∀(args:Array Value) (w:World),(callFunc fm args).run Tryd.prog w = .ok (.enter fm args) w)(hm:Hid (∀ w',Below w.heap.size w w'->Calls Tryd.prog fm cm w' fun e w''=>e = .returned (.int .i64 em)/\Below w'.heap.size w' w''))(hcn : ∀(args:Array Value) (w:World),(callFunc fn args).run Tryd.prog w = .ok (.enter fn args) w)(hn:Hid (∀ w' g,Below w.heap.size w w'->Calls Tryd.prog fn (#[.pointer (some ⟨g,0,none⟩)]++cn) w' fun e w''=>e = .returned (.pointer (some ⟨g,off,none⟩))/\Below w'.heap.size w' w'')) :
 Calls Tryd.prog 135 #[.agg (aH .i64 54 x),.int .i64 n,.bool true,.func (.func fm) #[] cm,.func (.func fn) #[] cn] w (iD x n true em off w):=by
 have hT:Hid (bQ x n true em off=(upd x off (v+n),0)):=by unfold Hid bQ; rw[h,decide_eq_true hn1,decide_eq_true hn2]; simp only[Bool.and_self,if_true]; rw[if_pos Yi,hv,if_pos (by omega)]
 subst Yi
 have hmay:Hid (∀ w',Calls Tryd.prog 38 #[.agg (aH .i64 54 x)] w' fun e w''=>e = .returned (.bool (may x))/\Below w'.heap.size w' w''):=fun w'=>nK x w'
 go_enter Tryd.func135,Tryd.ntmps135
 go_upto_region 1 with (fail)
 rw[<- kR]
 have hx0:Hid (((w.alloc (.cells (aH .i64 54 x) 66)).alloc (.cells (aH .i64 54 zero) 66)).heap[w.heap.size]? = some (.cells (aH .i64 54 x) 66 (0,0))):=heap_alloc2_old w _ _
 have hz0:Hid (((w.alloc (.cells (aH .i64 54 x) 66)).alloc (.cells (aH .i64 54 zero) 66)).heap[w.heap.size+1]? = some (.cells (aH .i64 54 zero) 66 (0,0))):=heap_alloc2_new w _ _
 have hb0:Below w.heap.size w ((w.alloc (.cells (aH .i64 54 x) 66)).alloc (.cells (aH .i64 54 zero) 66)):=((Below.refl _ _).alloc (Nat.le_refl _) _).alloc (by simp) _
 have hs0:w.heap.size+1<((w.alloc (.cells (aH .i64 54 x) 66)).alloc (.cells (aH .i64 54 zero) 66)).heap.size:=by simp
 generalize (w.alloc (.cells (aH .i64 54 x) 66)).alloc (.cells (aH .i64 54 zero) 66)=W at *
 rw[h]at hmay
 go_wp2_with (first
  | (refine wpList_load_row (o:=⟨some 15,_,_,_,_,_⟩) (by rfl) 66 (.tmp 5) (by rfl) w.heap.size (by rfl) 66 (aH .i64 54 x) (0,0) _ hx0.out Tryd.underlying66 (by rfl) (by rw[aO]; exact fP) ?_)
  | (go_at_call 38; refine(hmay.out _).mono ?_; rintro e w1 ⟨rfl,hb1⟩; have hz1:Hid _:=(hb1.block (w.heap.size+1) hs0).trans hz0.out; have hx1:Hid _:=(hb1.block w.heap.size (by omega)).trans hx0.out; have hB1:=hb0.trans (hb1.mono hb0.size); have hs1:=Nat.lt_of_lt_of_le hs0 hb1.size)
  | (refine(hm.out _ hB1).mono ?_; rintro e w2 ⟨rfl,hb2⟩; have hz2:Hid _:=(hb2.block (w.heap.size+1) hs1).trans hz1.out; have hx2:Hid _:=(hb2.block w.heap.size (by omega)).trans hx1.out; have hB2:=hB1.trans (hb2.mono hB1.size); have hs2:=Nat.lt_of_lt_of_le hs1 hb2.size)
  | (refine(hn.out _ _ hB2).mono ?_; rintro e w3 ⟨rfl,hb3⟩; have hz3:Hid _:=(hb3.block (w.heap.size+1) hs2).trans hz2.out; have hx3:=(hb3.block w.heap.size (by omega)).trans hx2.out; have hB3:=hB2.trans (hb3.mono hB2.size); have hs3:=Nat.lt_of_lt_of_le hs2 hb3.size; have hc3:=dW hx3 off hoff; have hf3:=frozen_of_row w3 w.heap.size off _ _ hx3; have Sl:Hid ((w3.setCell ⟨w.heap.size,off,none⟩ (.int .i64 (v+n))).heap[w.heap.size+1]? = some (.cells (aH .i64 54 zero) 66 (0,0))):=(heap_setCell_other _ _ _ _ (by simp)).trans hz3.out; have hx4:Hid ((w3.setCell ⟨w.heap.size,off,none⟩ (.int .i64 (v+n))).heap[w.heap.size]? = some (.cells (aH .i64 54 (upd x off (v+n))) 66 (0,0))):=by { unfold Hid; rw[heap_setCell_same _ _ _ _ _ _ hx3,zu] }; have hB4:Below w.heap.size w (w3.setCell ⟨w.heap.size,off,none⟩ (.int .i64 (v+n))):=hB3.setCell (Nat.le_refl _) _; clear hx3; rw[hv]at hc3)
  | (refine wpList_load_row (o:=⟨some 46,_,_,_,_,_⟩) (by rfl) 66 (.tmp 5) (by rfl) w.heap.size (by rfl) 66 (aH .i64 54 (upd x off (v+n))) (0,0) _ hx4.out Tryd.underlying66 (by rfl) (by rw[aO]; exact fP) ?_)
  | (refine wpList_store_row (o:=⟨none,.store 66 (.tmp 10) (.tmp 46),_,_,_,_⟩) (by rfl) 66 (.tmp 10) (.tmp 46) (by rfl) (w.heap.size+1) (aH .i64 54 (upd x off (v+n))) (by rfl) (by rfl) 66 (aH .i64 54 zero) Sl.out (by rw[aO]; exact fP) (by rw[aO,aO]) (iV _ _ _) ?_))
 have hend:=fJ hB4 (by omega) Sl.out (upd x off (v+n))
 exact jK hT.out rfl rfl rfl hend.1 hend.2
theorem qb(x:Nat->Int)(n:Int)(is:Bool)(a b:FuncId)(d f:Array Value)(c:Int)(off:Nat)(w:World)(q:is=true->off<54)(hx:is=true->may x=true->0<=x off/\x off<=1125899906842624)
 (k : ∀(i:Array Value) (w:World),(callFunc a i).run Tryd.prog w = .ok (.enter a i) w)
 (o : ∀(i:Array Value) (w:World),(callFunc b i).run Tryd.prog w = .ok (.enter b i) w)
 (l:may x=true->1<=n->n<=1125899906842624->is=true -> ∀ w',Below w.heap.size w w'->Calls Tryd.prog a d w' fun e m=>e = .returned (.int .i64 c)/\Below w'.heap.size w' m)
 (p:is=true -> ∀ w' g,Below w.heap.size w w'->Calls Tryd.prog b (#[.pointer (some ⟨g,0,none⟩)]++f) w' fun e m=>e = .returned (.pointer (some ⟨g,off,none⟩))/\Below w'.heap.size w' m) :
 Calls Tryd.prog 135 #[.agg (aH .i64 54 x),.int .i64 n,.bool is,.func (.func a) #[] d,.func (.func b) #[] f] w (iD x n is c off w):=by
 by_cases h:may x=true
 ·by_cases r:n<1
  ·exact GR x n is a b d f c off w h r
  by_cases s:1125899906842624<n
  ·exact GU x n is a b d f c off w h s
  cases is
  ·exact GV x n a b d f c off w h (by omega) (by omega)
  by_cases j:c=0
  ·by_cases t:1125899906842624<x off+n
   ·exact GY x n a b d f c off w h (by omega) (by omega) j (q rfl) _ rfl (hx rfl h) t k (l h (by omega) (by omega) rfl) o (p rfl)
   exact GZ x n a b d f c off w h (by omega) (by omega) j (q rfl) _ rfl (hx rfl h) (by omega) k (l h (by omega) (by omega) rfl) o (p rfl)
  exact GX x n a b d f c off w h (by omega) (by omega) j k (l h (by omega) (by omega) rfl)
 exact GQ x n is a b d f c off w (by simpa using h)
section
namespace Rt
def own(p:Nat):Nat:=if p<6 then p else if p<12 then p-6 else if p<18 then p-12 else(p-18) / 6
end Rt
def JS(a:World)(g:Nat)(x y:Nat->Int)(w':World):Prop:=w'.heap[g]? = some (.cells (aH .i64 54 x) 66 (0,0))/\w'.heap[g+1]? = some (.cells (aH .i64 54 y) 66 (0,0))/\w'.heap[g+1+1]? = some (.cells (aH .i64 54 zero) 66 (0,0))/\Below g a w'
theorem JS.drew{a w:World}{g:Nat}{x y:Nat->Int}(h:JS a g x y w):JS a g x y w.drew:=⟨h.1,h.2.1,h.2.2.1,bN h.2.2.2 1⟩
theorem JS.a{b w:World}{g:Nat}{x y:Nat->Int}(h:JS b g x y w)(i:Nat)(hi:i<54):w.cell? ⟨g,i,none⟩=some (.int .i64 (x i)):=dW h.1 i hi
theorem JS.b{a w:World}{g:Nat}{x y:Nat->Int}(h:JS a g x y w)(i:Nat)(hi:i<54):w.cell? ⟨g+1,i,none⟩=some (.int .i64 (y i)):=dW h.2.1 i hi
theorem JS.fr{a w:World}{g:Nat}{x y:Nat->Int}(h:JS a g x y w)(i:Nat):w.frozen? ⟨g,i,none⟩=false:=frozen_of_row w g i _ _ h.1
theorem JS.set{d w:World}{g:Nat}{x y:Nat->Int}(h:JS d g x y w)(i:Nat)(v:Int):JS d g (upd x i v) y (w.setCell ⟨g,i,none⟩ (.int .i64 v)):=by
 obtain⟨a,b,z,c⟩:=h
 refine⟨?_,?_,?_,?_⟩
 ·rw[heap_setCell_same _ _ _ _ _ _ a,zu]
 ·rw[heap_setCell_other _ _ _ _ (by simp)]; exact b
 ·rw[heap_setCell_other _ _ _ _ (by simp; omega)]; exact z
 exact c.setCell (Nat.le_refl _) _
theorem JS.congr{a w:World}{g:Nat}{x y b:Nat->Int}(h:JS a g x y w)(hx : ∀ i,i<54->x i=b i):JS a g b y w:=by
 unfold JS at *; rw[<- Gj hx]; exact h
def JSb(c:World)(g:Nat)(x y:Nat->Int)(b:Bool)(w':World):Prop := ∃ a,JS c g a y w'/\(b=false->a=x)
theorem JSb.a{b w:World}{g:Nat}{x y:Nat->Int}(h:JSb b g x y false w)(i:Nat)(hi:i<54):w.cell? ⟨g,i,none⟩=some (.int .i64 (x i)):=by
 obtain⟨c,h,e⟩:=h
 rw[<- e rfl]; exact h.a i hi
attribute [local irreducible] Oper.wp wpList Code.wp
end
section
set_option maxHeartbeats 400000 in
theorem oI(is:Bool)(e:Int)(w:World) :
 Calls Tryd.prog 137 #[.bool is,.int .i64 e] w fun r w'=>r = .returned (.int .i64 (if is then e else 0))/\w'=w:=by
 cases is
 all_goals
  go_enter Tryd.func137,Tryd.ntmps137
  go_wp2
  go_ret
  exact⟨rfl,rfl⟩
def Jg(r:(Nat->Int) × Int)(w:World)(e:Ending)(w':World):Prop :=
 e = .returned (.tuple #[.agg (aH .i64 54 r.1),.int .i64 r.2])/\Below w.heap.size w w'
theorem nL{c:Func}{p q:Tmp}(j:c.results = #[.cell p 66,.tmp q]){b w:World}{a:Act}{g:Nat}{r:(Nat->Int) × Int}(e:a.defers = [])
 (h:a.tmps.getD p undef = .pointer (some ⟨g,0,none⟩)) (i:a.tmps.getD q undef = .int .i64 r.2) (f:w.heap[g]? = some (.cells (aH .i64 54 r.1) 66 (0,0))) (d:Below b.heap.size b w) :
 bodyPost Tryd.prog c (Jg r b) .ret a w :=
 bodyPost_ret (by rw[results_cell_tmp j a.tmps w g 66 _ (0,0) _ h f Tryd.underlying66 rfl (by rw[aO]; exact fP),i]) e ⟨rfl,d⟩
def Xf(x:Nat->Int)(g:Nat)(i n:Int)(w':World):Prop:=w'.heap[g]? = some (.cells (aH .i64 54 x) 66 (0,0))/\w'.cell? ⟨g+1,0,none⟩=some (.int .i64 i)/\w'.cell? ⟨g+1+1,0,none⟩=some (.int .i64 n)
theorem jY(i:Int):iJ i=true<->1<=i/\i<=6:=by unfold iJ; simp
attribute [local irreducible] Oper.wp wpList Code.wp
end
section
namespace Rt
def rz(x:Nat->Int)(i n:Int):Int:=if decide (dU x i<n)then 11 else 0
def bO(x:Nat->Int)(i n:Int):(Nat->Int) × Int:=bQ x n (iJ i) (rz x i n) (6+(i.toNat-1))
theorem Cc(x:Nat->Int)(i:Int) : -(1125899906842624*8)<=dU x i/\dU x i<=1125899906842624*8:=by
 unfold dU
 split
 ·exact Kw x _
 omega
end Rt
attribute [local irreducible] Oper.wp wpList Code.wp in
set_option maxRecDepth 100000 in
set_option maxHeartbeats 1000000 in
theorem Ky(x:Nat->Int)(i n:Int)(g h hi:Nat)(w:World)(hn:1<=n/\n<=1125899906842624)(hib : -9223372036854775808<=i/\i<=9223372036854775807)(hx:Hid (w.heap[g]? = some (.cells (aH .i64 54 x) 66 (0,0))))(hc:w.cell? ⟨h,0,none⟩=some (.int .i64 n))(hci:w.cell? ⟨hi,0,none⟩=some (.int .i64 i)) :
 Calls Tryd.prog 136 #[.pointer (some ⟨h,0,none⟩),.pointer (some ⟨g,0,none⟩),.pointer (some ⟨hi,0,none⟩)] w fun e w'=>e = .returned (.int .i64 (rz x i n))/\Below w.heap.size w w':=by
 have HE:Hid (rz x i n=if decide (dU x i<n)then 11 else 0):=rfl
 have hb:=Cc x i
 have hlh:=block_lt_of_cell hc
 have Kz:=block_lt_of_cell hci
 have Pm:g<w.heap.size:=(Array.getElem?_eq_some_iff.1 hx.out).1
 dsimp only at hlh Kz
 have hB0:Below w.heap.size w w.drew:=Ej w 1
 have hs:Hid (∀ w',Calls Tryd.prog 24 #[.agg (aH .i64 54 x),.int .i64 i] w' fun e w''=>e = .returned (.int .i64 (dU x i))/\Below w'.heap.size w' w''):=fun w'=>pY x i w' hib
 generalize dU x i=s1 at *
 by_cases hd:s1<n
 ·rw[decide_eq_true hd,if_pos rfl]at HE
  go_enter Tryd.func136,Tryd.ntmps136
  go_upto_region 1 with (fail)
  rename_i K0 Eb
  refine wp_region_noPanic<|wp_region_held_drew (S:=Below w.heap.size w) (by kernel_rfl) hB0 fun hS => ?_
  refine wpAnyH_take (i:=0) (v := .int .i64 n) rfl (by kernel_rfl) (by kernel_rfl) (by kernel_rfl) (fun _ _ _ h=>h) (.inl ⟨by rfl,fun w' hw => ?_⟩) hS ?_
  ·have h2:=(hw.cell (p:=⟨h,0,none⟩) hlh).trans hc
   clear hw hc hci
   go_simp
  refine wpAnyH_take (i:=1) (v := .agg (aH .i64 54 x)) rfl (by kernel_rfl) (by kernel_rfl) (by kernel_rfl) (fun _ _ _ h=>h) (.inl ⟨by rfl,fun w' hw => ?_⟩) hS ?_
  ·exact gy 66 (.tmp 1) (by rfl) g (by rfl) 66 (aH .i64 54 x) (0,0) _ ((hw.block _ Pm).trans hx.out) Tryd.underlying66 (by rfl) (by rw[aO]; exact fP)
  refine wpAnyH_take (i:=2) (v := .int .i64 i) rfl (by kernel_rfl) (by kernel_rfl) (by kernel_rfl) (fun _ _ _ h=>h) (.inl ⟨by rfl,fun w' hw => ?_⟩) hS ?_
  ·have h2:=(hw.cell (p:=⟨hi,0,none⟩) Kz).trans hci
   clear hw hc hci
   go_simp
  refine wpAnyH_all (rs := [3]) (by kernel_rfl) (by decide) ?_
  intro j hj
  obtain rfl:j=3:=by simpa using hj
  refine wpOp_step rfl<|fun K hK => ?_
  clear hj
  go_simp
  refine(hs.out _).mono ?_
  rintro e w1 ⟨rfl,hb1⟩
  have hS:=Ei hS hb1
  refine hK _ _ ⟨hS,?_⟩
  clear hK K
  refine wpAnyH_take (i:=4) (v := .bool true) rfl (by kernel_rfl) (by kernel_rfl) (by kernel_rfl) (fun _ _ _ h=>h) (.inl ⟨by rfl,fun w' hw => ?_⟩) hS ?_
  ·clear hw hc hci
   go_simp
  refine wpAnyH_all (rs := [5]) (by kernel_rfl) (by decide) ?_
  intro j hj
  obtain rfl:j=5:=by simpa using hj
  refine wpOp_step rfl<|fun K hK => ?_
  clear hj
  go_simp
  refine(oI _ _ _).mono ?_
  rintro e w2 ⟨rfl,rfl⟩
  refine hK _ _ ⟨hS,?_⟩
  clear hK K
  refine wpAnyH_take (i:=6) (v := .int .i64 11) rfl (by kernel_rfl) (by kernel_rfl) (by kernel_rfl) (fun _ _ _ h=>h) (.inl ⟨by rfl,fun w' hw => ?_⟩) hS ?_
  ·clear hw hc hci
   go_simp
  refine wpAnyH_done (by kernel_rfl) ?_ _
  refine Eb _ _ ?_
  go_wp2
  go_ret
  rw[HE.out]
  exact⟨rfl,hS⟩
 rw[decide_eq_false hd,if_neg (by decide)]at HE
 go_enter Tryd.func136,Tryd.ntmps136
 go_upto_region 1 with (fail)
 rename_i K0 Eb
 refine wp_region_noPanic<|wp_region_held_drew (S:=Below w.heap.size w) (by kernel_rfl) hB0 fun hS => ?_
 refine wpAnyH_take (i:=0) (v := .int .i64 n) rfl (by kernel_rfl) (by kernel_rfl) (by kernel_rfl) (fun _ _ _ h=>h) (.inl ⟨by rfl,fun w' hw => ?_⟩) hS ?_
 ·have h2:=(hw.cell (p:=⟨h,0,none⟩) hlh).trans hc
  clear hw hc hci
  go_simp
 refine wpAnyH_take (i:=1) (v := .agg (aH .i64 54 x)) rfl (by kernel_rfl) (by kernel_rfl) (by kernel_rfl) (fun _ _ _ h=>h) (.inl ⟨by rfl,fun w' hw => ?_⟩) hS ?_
 ·exact gy 66 (.tmp 1) (by rfl) g (by rfl) 66 (aH .i64 54 x) (0,0) _ ((hw.block _ Pm).trans hx.out) Tryd.underlying66 (by rfl) (by rw[aO]; exact fP)
 refine wpAnyH_take (i:=2) (v := .int .i64 i) rfl (by kernel_rfl) (by kernel_rfl) (by kernel_rfl) (fun _ _ _ h=>h) (.inl ⟨by rfl,fun w' hw => ?_⟩) hS ?_
 ·have h2:=(hw.cell (p:=⟨hi,0,none⟩) Kz).trans hci
  clear hw hc hci
  go_simp
 refine wpAnyH_all (rs := [3]) (by kernel_rfl) (by decide) ?_
 intro j hj
 obtain rfl:j=3:=by simpa using hj
 refine wpOp_step rfl<|fun K hK => ?_
 clear hj
 go_simp
 refine(hs.out _).mono ?_
 rintro e w1 ⟨rfl,hb1⟩
 have hS:=Ei hS hb1
 refine hK _ _ ⟨hS,?_⟩
 clear hK K
 refine wpAnyH_take (i:=4) (v := .bool false) rfl (by kernel_rfl) (by kernel_rfl) (by kernel_rfl) (fun _ _ _ h=>h) (.inl ⟨by rfl,fun w' hw => ?_⟩) hS ?_
 ·clear hw hc hci
  go_simp
 refine wpAnyH_all (rs := [5]) (by kernel_rfl) (by decide) ?_
 intro j hj
 obtain rfl:j=5:=by simpa using hj
 refine wpOp_step rfl<|fun K hK => ?_
 clear hj
 go_simp
 refine(oI _ _ _).mono ?_
 rintro e w2 ⟨rfl,rfl⟩
 refine hK _ _ ⟨hS,?_⟩
 clear hK K
 refine wpAnyH_take (i:=6) (v := .int .i64 0) rfl (by kernel_rfl) (by kernel_rfl) (by kernel_rfl) (fun _ _ _ h=>h) (.inl ⟨by rfl,fun w' hw => ?_⟩) hS ?_
 ·clear hw hc hci
  go_simp
 refine wpAnyH_done (by kernel_rfl) ?_ _
 refine Eb _ _ ?_
 go_wp2
 go_ret
 rw[HE.out]
 exact⟨rfl,hS⟩
set_option maxHeartbeats 400000 in
theorem KA(g h:Nat)(i:Int)(w:World)(hi:1<=i/\i<=6)(hc:w.cell? ⟨h,0,none⟩=some (.int .i64 i)) :
 Calls Tryd.prog 138 #[.pointer (some ⟨g,0,none⟩),.pointer (some ⟨h,0,none⟩)] w fun e w'=>e = .returned (.pointer (some ⟨g,6+(i.toNat-1),none⟩))/\Below w.heap.size w w':=by
 obtain⟨k,hk⟩:=Int.eq_ofNat_of_zero_le (show 0<=i-1 by omega)
 obtain rfl:i=(k:Int)+1:=by omega
 have Xe:(k:Int)<6:=by omega
 have HE:Hid (((k:Int)+1).toNat-1=k):=by unfold Hid; omega
 clear hk
 go_enter Tryd.func138,Tryd.ntmps138
 go_wp2_with fail
 go_quiet (fail)
 go_wp2
 go_ret
 rw[HE.out]
 exact⟨rfl,bN (Below.refl _ _) _⟩
theorem M6(args:Array Value)(w:World):(callFunc 136 args).run Tryd.prog w = .ok (.enter 136 args) w:=iK Tryd.func136 rfl rfl args w
theorem M7(args:Array Value)(w:World):(callFunc 138 args).run Tryd.prog w = .ok (.enter 138 args) w:=iK Tryd.func138 rfl rfl args w
attribute [local irreducible] Oper.wp wpList Code.wp
set_option maxRecDepth 100000 in
set_option maxHeartbeats 1000000 in
theorem M8(x:Nat->Int)(i n:Int)(w:World)(hi : -9223372036854775808<=i/\i<=9223372036854775807) :
 Calls Tryd.prog 122 #[.agg (aH .i64 54 x),.int .i64 i,.int .i64 n] w (Jg (bO x i n) w):=by
 have hmf : ∀(fn:Fn) (first cap:Array Value) (w:World),(Instr.makeFunc fn first cap).run Tryd.prog w = .ok (.func fn first cap) w:=fun _ _ _ _=>rfl
 go_enter Tryd.func122,Tryd.ntmps122
 go_upto_region 1 with (fail)
 rename_i K0 Eb
 rw[<- kR]
 have ha:=Lh w (.cells (aH .i64 54 x) 66) (.cells #[.int .i64 i] 3) (.cells #[.int .i64 n] 2) (.cells (aH .i64 54 zero) 66)
 generalize (((w.alloc (.cells (aH .i64 54 x) 66)).alloc (.cells #[.int .i64 i] 3)).alloc (.cells #[.int .i64 n] 2)).alloc (.cells (aH .i64 54 zero) 66)=W at *
 obtain⟨hx,hI,hN,hz,hs,hB⟩:=ha
 have cI:=mE hI
 have cN:=mE hN
 have Hx:Hid _:=hx
 have Hz:Hid _:=hz
 have HI:Hid _:=hI
 have HN:Hid _:=hN
 have Hs:Hid _:=hs
 clear hx hz hI hN hs
 refine wp_region_noPanic<|wp_region_held_drew (S:=Xf x w.heap.size i n) (by kernel_rfl) ⟨Hx.out,cI,cN⟩ fun hS => ?_
 refine wpAnyH_take (i:=0) (v := .agg (aH .i64 54 x)) rfl (by kernel_rfl) (by kernel_rfl) (by kernel_rfl) (fun _ _ _ h=>h) (.inl ⟨by rfl,fun w' hw => ?_⟩) hS ?_
 ·exact gy 66 (.tmp 3) (by rfl) w.heap.size (by rfl) 66 (aH .i64 54 x) (0,0) _ hw.1 Tryd.underlying66 (by rfl) (by rw[aO]; exact fP)
 refine wpAnyH_take (i:=1) (v := .int .i64 n) rfl (by kernel_rfl) (by kernel_rfl) (by kernel_rfl) (fun _ _ _ h=>h) (.inl ⟨by rfl,fun w' hw => ?_⟩) hS ?_
 ·have h2:=hw.2.2
  go_simp
 refine wpAnyH_take (i:=2) (v := .int .i64 i) rfl (by kernel_rfl) (by kernel_rfl) (by kernel_rfl) (fun _ _ _ h=>h) (.inl ⟨by rfl,fun w' hw => ?_⟩) hS ?_
 ·have h2:=hw.2.1
  have h3:=hw.2.2
  clear hw
  go_simp
 refine wpAnyH_take (i:=4) (v := .func (.func 136) #[] #[.pointer (some ⟨w.heap.size+1+1,0,none⟩),.pointer (some ⟨w.heap.size,0,none⟩),.pointer (some ⟨w.heap.size+1,0,none⟩)]) rfl (by kernel_rfl) (by kernel_rfl) (by kernel_rfl) (fun _ _ _ h=>h) (.inl ⟨by rfl,fun w' hw => ?_⟩) hS ?_
 ·have h2:=hw.2.1
  have h3:=hw.2.2
  clear hw
  go_simp
 refine wpAnyH_take (i:=5) (v := .func (.func 138) #[] #[.pointer (some ⟨w.heap.size+1,0,none⟩)]) rfl (by kernel_rfl) (by kernel_rfl) (by kernel_rfl) (fun _ _ _ h=>h) (.inl ⟨by rfl,fun w' hw => ?_⟩) hS ?_
 ·have h2:=hw.2.1
  have h3:=hw.2.2
  clear hw
  go_simp
 refine wpAnyH_all (rs := [3]) (by kernel_rfl) (by decide) ?_
 intro j hj
 obtain rfl:j=3:=by simpa using hj
 refine wpOp_step rfl<|fun K hK => ?_
 clear hj
 go_simp
 refine(mO i _ hi).mono ?_
 rintro e w' ⟨rfl,rfl⟩
 refine hK _ _ ⟨hS,?_⟩
 clear hK K
 refine wpAnyH_all (rs := [6]) (by kernel_rfl) (by decide) ?_
 intro j hj
 obtain rfl:j=6:=by simpa using hj
 refine wpOp_step rfl<|fun K hK => ?_
 clear hj
 go_simp
 have hlx:w.heap.size<W.drew.heap.size:=(Array.getElem?_eq_some_iff.1 hS.1).1
 have P6:=block_lt_of_cell hS.2.1
 have UH:=block_lt_of_cell hS.2.2
 dsimp only at P6 UH
 refine(qb x n (iJ i) 136 138 _ _ (rz x i n) (6+(i.toNat-1)) W.drew ?o1 ?o2 M6 M7 ?o3 ?o4).mono ?_
 case o1=>intro h; have:=(jY i).1 h; omega
 case o2=>intro h hm; have:=(jY i).1 h; exact(pX hm (i.toNat-1) (by omega)).c
 case o3 =>
  intro hm h1 h2 h3 w' hb
  exact Ky x i n _ _ _ w' ⟨h1,h2⟩ hi ((hb.block _ hlx).trans hS.1) ((hb.cell (p:=⟨w.heap.size+1+1,0,none⟩) UH).trans hS.2.2) ((hb.cell (p:=⟨w.heap.size+1,0,none⟩) P6).trans hS.2.1)
 case o4 =>
  intro h w' g hb
  exact KA g _ i w' ((jY i).1 h) ((hb.cell (p:=⟨w.heap.size+1,0,none⟩) P6).trans hS.2.1)
 rintro e w2 ⟨rfl,hb2⟩
 have hHR:Hid (bO x i n=bQ x n (iJ i) (rz x i n) (6+(i.toNat-1))):=rfl
 generalize bQ x n (iJ i) (rz x i n) (6+(i.toNat-1))=r at *
 have hS2:Xf x w.heap.size i n w2:=⟨(hb2.block _ hlx).trans hS.1,(hb2.cell (p:=⟨w.heap.size+1,0,none⟩) P6).trans hS.2.1,(hb2.cell (p:=⟨w.heap.size+1+1,0,none⟩) UH).trans hS.2.2⟩
 have hz2:Hid (w2.heap[w.heap.size+1+1+1]? = some (.cells (aH .i64 54 zero) 66 (0,0))):=(hb2.block _ (by show _<W.heap.size; have:=Hs.out; omega)).trans Hz.out
 have hB2:Below w.heap.size w w2:=hB.trans ((ZJ hb2).mono hB.size)
 refine hK _ _ ⟨hS2,?_⟩
 clear hK K hS hb2
 refine wpAnyH_take (i:=7) (v := .agg (aH .i64 54 r.1)) rfl (by kernel_rfl) (by kernel_rfl) (by kernel_rfl) (fun _ _ _ h=>h) (.inl ⟨by rfl,fun w' hw => ?_⟩) hS2 ?_
 ·clear hw
  go_simp
 refine wpAnyH_take (i:=8) (v := .int .i64 r.2) rfl (by kernel_rfl) (by kernel_rfl) (by kernel_rfl) (fun _ _ _ h=>h) (.inl ⟨by rfl,fun w' hw => ?_⟩) hS2 ?_
 ·clear hw
  go_simp
 refine wpAnyH_all (rs := [9]) (by kernel_rfl) (by decide) ?_
 intro j hj
 obtain rfl:j=9:=by simpa using hj
 clear hj
 refine oU (by rfl) (by rfl)<|fun K hK => ?_
 refine wp_store_row 66 (.tmp 6) (.tmp 15) (by rfl) (w.heap.size+1+1+1) (aH .i64 54 r.1) (by rfl) (by rfl) 66 (aH .i64 54 zero) hz2.out (by rw[aO]; exact fP) (by rw[aO,aO]) (iV _ _ _) ?_
 have hend:=fJ hB2 (by omega) hz2.out r.1
 have Tz:Xf x w.heap.size i n (w2.setRow (w.heap.size+1+1+1) (aH .i64 54 r.1)):=⟨(setRow_other _ _ _ _ (by omega)).trans hS2.1,(World.cell?_of_block (setRow_other _ _ _ _ (by show w.heap.size+1≠_; omega))).trans hS2.2.1,(World.cell?_of_block (setRow_other _ _ _ _ (by show w.heap.size+1+1≠_; omega))).trans hS2.2.2⟩
 refine hK _ _ ⟨Tz,?_⟩
 clear hK K hz2 hB2 hS2
 generalize w2.setRow (w.heap.size+1+1+1) (aH .i64 54 r.1)=w3 at *
 refine wpAnyH_take (i:=10) (v := .int .i64 r.2) rfl (by kernel_rfl) (by kernel_rfl) (by kernel_rfl) (fun _ _ _ h=>h) (.inl ⟨by rfl,fun w' hw => ?_⟩) Tz ?_
 ·clear hw
  go_simp
 refine wpAnyH_done (by kernel_rfl) ?_ _
 refine Eb _ _<|wp_ret ?_
 rw[hHR.out]
 exact nL (p:=6) (q:=7) (by kernel_rfl) (by kernel_rfl) (by kernel_rfl) (by kernel_rfl) hend.1 hend.2
end
section
namespace Rt
def qz(x:Nat->Int)(i n:Int):Int:=if decide (C x (i.toNat-1)-F x (i.toNat-1)<n)then 12 else 0
def bP(x:Nat->Int)(i n:Int):(Nat->Int) × Int:=bQ x n (iJ i) (qz x i n) (12+(i.toNat-1))
end Rt
attribute [local irreducible] Oper.wp wpList Code.wp in
set_option maxRecDepth 100000 in
set_option maxHeartbeats 1000000 in
theorem KC(x:Nat->Int)(i n:Int)(g h hi:Nat)(w:World)(hn:1<=n/\n<=1125899906842624)(hib:1<=i/\i<=6)(hm:may x=true)(hx:Hid (w.heap[g]? = some (.cells (aH .i64 54 x) 66 (0,0))))(hc:w.cell? ⟨h,0,none⟩=some (.int .i64 n))(hci:w.cell? ⟨hi,0,none⟩=some (.int .i64 i)) :
 Calls Tryd.prog 139 #[.pointer (some ⟨h,0,none⟩),.pointer (some ⟨g,0,none⟩),.pointer (some ⟨hi,0,none⟩)] w fun e w'=>e = .returned (.int .i64 (qz x i n))/\Below w.heap.size w w':=by
 obtain⟨k,hk⟩:=Int.eq_ofNat_of_zero_le (show 0<=i-1 by omega)
 obtain rfl:i=(k:Int)+1:=by omega
 have Xe:k<6:=by omega
 have ho:=pX hm k Xe
 have h1:=ho.c
 have h2:=ho.f
 have h3:=ho.fc
 have c6:w.cell? ⟨g,6+k,none⟩=some (.int .i64 (C x k)):=dW hx.out (6+k) (by omega)
 have c12:w.cell? ⟨g,12+k,none⟩=some (.int .i64 (F x k)):=dW hx.out (12+k) (by omega)
 have HE:Hid (qz x ((k:Int)+1) n=if decide (C x k-F x k<n)then 12 else 0):=by
  unfold Hid qz
  rw[show((k:Int)+1).toNat-1=k by omega]
 clear ho hm hk
 generalize C x k=c at *
 generalize F x k=f at *
 have hlh:=block_lt_of_cell hc
 have Kz:=block_lt_of_cell hci
 have Pm:g<w.heap.size:=(Array.getElem?_eq_some_iff.1 hx.out).1
 dsimp only at hlh Kz
 have hB0:Below w.heap.size w w.drew:=Ej w 1
 by_cases hd:c-f<n
 ·rw[decide_eq_true hd,if_pos rfl]at HE
  go_enter Tryd.func139,Tryd.ntmps139
  go_upto_region 1 with (fail)
  rename_i K0 Eb
  refine wp_region_noPanic<|wp_region_held_drew (S:=Below w.heap.size w) (by kernel_rfl) hB0 fun hS => ?_
  refine wpAnyH_take (i:=0) (v := .int .i64 n) rfl (by kernel_rfl) (by kernel_rfl) (by kernel_rfl) (fun _ _ _ h=>h) (.inl ⟨by rfl,fun w' hw => ?_⟩) hS ?_
  ·have h2:=(hw.cell (p:=⟨h,0,none⟩) hlh).trans hc
   clear hw hc hci
   go_simp
  refine wpAnyH_take (i:=1) (v := .int .i64 ((k:Int)+1)) rfl (by kernel_rfl) (by kernel_rfl) (by kernel_rfl) (fun _ _ _ h=>h) (.inl ⟨by rfl,fun w' hw => ?_⟩) hS ?_
  ·have h2:=(hw.cell (p:=⟨hi,0,none⟩) Kz).trans hci
   clear hw hc hci
   go_simp
  refine wpAnyH_take (i:=2) (v := .int .i64 (k:Int)) rfl (by kernel_rfl) (by kernel_rfl) (by kernel_rfl) (fun _ _ _ h=>h) (.inl ⟨by rfl,fun w' hw => ?_⟩) hS ?_
  ·clear hw hc hci
   go_simp
   exact IntWalk.i64_in _ (by omega)
  refine wpAnyH_take (i:=3) (v := .pointer (some ⟨g,6,none⟩)) rfl (by kernel_rfl) (by kernel_rfl) (by kernel_rfl) (fun _ _ _ h=>h) (.inl ⟨by rfl,fun w' hw => ?_⟩) hS ?_
  ·clear hw hc hci
   go_simp
  refine wpAnyH_take (i:=4) (v := .pointer (some ⟨g,6+k,none⟩)) rfl (by kernel_rfl) (by kernel_rfl) (by kernel_rfl) (fun _ _ _ h=>h) (.inl ⟨by rfl,fun w' hw => ?_⟩) hS ?_
  ·have hk7:(k:Int)<6:=by omega
   clear hw hc hci
   go_simp
  refine wpAnyH_take (i:=5) (v := .int .i64 c) rfl (by kernel_rfl) (by kernel_rfl) (by kernel_rfl) (fun _ _ _ h=>h) (.inl ⟨by rfl,fun w' hw => ?_⟩) hS ?_
  ·have h2:=(hw.cell (p:=⟨g,6+k,none⟩) Pm).trans c6
   clear hw hc hci
   go_simp
  refine wpAnyH_take (i:=6) (v := .int .i64 ((k:Int)+1)) rfl (by kernel_rfl) (by kernel_rfl) (by kernel_rfl) (fun _ _ _ h=>h) (.inl ⟨by rfl,fun w' hw => ?_⟩) hS ?_
  ·have h2:=(hw.cell (p:=⟨hi,0,none⟩) Kz).trans hci
   clear hw hc hci
   go_simp
  refine wpAnyH_take (i:=7) (v := .int .i64 (k:Int)) rfl (by kernel_rfl) (by kernel_rfl) (by kernel_rfl) (fun _ _ _ h=>h) (.inl ⟨by rfl,fun w' hw => ?_⟩) hS ?_
  ·clear hw hc hci
   go_simp
   exact IntWalk.i64_in _ (by omega)
  refine wpAnyH_take (i:=8) (v := .pointer (some ⟨g,12,none⟩)) rfl (by kernel_rfl) (by kernel_rfl) (by kernel_rfl) (fun _ _ _ h=>h) (.inl ⟨by rfl,fun w' hw => ?_⟩) hS ?_
  ·clear hw hc hci
   go_simp
  refine wpAnyH_take (i:=9) (v := .pointer (some ⟨g,12+k,none⟩)) rfl (by kernel_rfl) (by kernel_rfl) (by kernel_rfl) (fun _ _ _ h=>h) (.inl ⟨by rfl,fun w' hw => ?_⟩) hS ?_
  ·have hk7:(k:Int)<6:=by omega
   clear hw hc hci
   go_simp
  refine wpAnyH_take (i:=10) (v := .int .i64 f) rfl (by kernel_rfl) (by kernel_rfl) (by kernel_rfl) (fun _ _ _ h=>h) (.inl ⟨by rfl,fun w' hw => ?_⟩) hS ?_
  ·have h2:=(hw.cell (p:=⟨g,12+k,none⟩) Pm).trans c12
   clear hw hc hci
   go_simp
  refine wpAnyH_take (i:=11) (v := .int .i64 (c-f)) rfl (by kernel_rfl) (by kernel_rfl) (by kernel_rfl) (fun _ _ _ h=>h) (.inl ⟨by rfl,fun w' hw => ?_⟩) hS ?_
  ·clear hw hc hci
   go_simp
   exact IntWalk.i64_in _ (by omega)
  refine wpAnyH_take (i:=12) (v := .bool true) rfl (by kernel_rfl) (by kernel_rfl) (by kernel_rfl) (fun _ _ _ h=>h) (.inl ⟨by rfl,fun w' hw => ?_⟩) hS ?_
  ·clear hw hc hci
   go_simp
  refine wpAnyH_all (rs := [13]) (by kernel_rfl) (by decide) ?_
  intro j hj
  obtain rfl:j=13:=by simpa using hj
  refine wpOp_step rfl<|fun K hK => ?_
  clear hj
  go_simp
  refine(oI _ _ _).mono ?_
  rintro e w2 ⟨rfl,rfl⟩
  refine hK _ _ ⟨hS,?_⟩
  clear hK K
  refine wpAnyH_take (i:=14) (v := .int .i64 12) rfl (by kernel_rfl) (by kernel_rfl) (by kernel_rfl) (fun _ _ _ h=>h) (.inl ⟨by rfl,fun w' hw => ?_⟩) hS ?_
  ·clear hw hc hci
   go_simp
  refine wpAnyH_done (by kernel_rfl) ?_ _
  refine Eb _ _ ?_
  go_wp2
  go_ret
  rw[HE.out]
  exact⟨rfl,hS⟩
 rw[decide_eq_false hd,if_neg (by decide)]at HE
 go_enter Tryd.func139,Tryd.ntmps139
 go_upto_region 1 with (fail)
 rename_i K0 Eb
 refine wp_region_noPanic<|wp_region_held_drew (S:=Below w.heap.size w) (by kernel_rfl) hB0 fun hS => ?_
 refine wpAnyH_take (i:=0) (v := .int .i64 n) rfl (by kernel_rfl) (by kernel_rfl) (by kernel_rfl) (fun _ _ _ h=>h) (.inl ⟨by rfl,fun w' hw => ?_⟩) hS ?_
 ·have h2:=(hw.cell (p:=⟨h,0,none⟩) hlh).trans hc
  clear hw hc hci
  go_simp
 refine wpAnyH_take (i:=1) (v := .int .i64 ((k:Int)+1)) rfl (by kernel_rfl) (by kernel_rfl) (by kernel_rfl) (fun _ _ _ h=>h) (.inl ⟨by rfl,fun w' hw => ?_⟩) hS ?_
 ·have h2:=(hw.cell (p:=⟨hi,0,none⟩) Kz).trans hci
  clear hw hc hci
  go_simp
 refine wpAnyH_take (i:=2) (v := .int .i64 (k:Int)) rfl (by kernel_rfl) (by kernel_rfl) (by kernel_rfl) (fun _ _ _ h=>h) (.inl ⟨by rfl,fun w' hw => ?_⟩) hS ?_
 ·clear hw hc hci
  go_simp
  exact IntWalk.i64_in _ (by omega)
 refine wpAnyH_take (i:=3) (v := .pointer (some ⟨g,6,none⟩)) rfl (by kernel_rfl) (by kernel_rfl) (by kernel_rfl) (fun _ _ _ h=>h) (.inl ⟨by rfl,fun w' hw => ?_⟩) hS ?_
 ·clear hw hc hci
  go_simp
 refine wpAnyH_take (i:=4) (v := .pointer (some ⟨g,6+k,none⟩)) rfl (by kernel_rfl) (by kernel_rfl) (by kernel_rfl) (fun _ _ _ h=>h) (.inl ⟨by rfl,fun w' hw => ?_⟩) hS ?_
 ·have hk7:(k:Int)<6:=by omega
  clear hw hc hci
  go_simp
 refine wpAnyH_take (i:=5) (v := .int .i64 c) rfl (by kernel_rfl) (by kernel_rfl) (by kernel_rfl) (fun _ _ _ h=>h) (.inl ⟨by rfl,fun w' hw => ?_⟩) hS ?_
 ·have h2:=(hw.cell (p:=⟨g,6+k,none⟩) Pm).trans c6
  clear hw hc hci
  go_simp
 refine wpAnyH_take (i:=6) (v := .int .i64 ((k:Int)+1)) rfl (by kernel_rfl) (by kernel_rfl) (by kernel_rfl) (fun _ _ _ h=>h) (.inl ⟨by rfl,fun w' hw => ?_⟩) hS ?_
 ·have h2:=(hw.cell (p:=⟨hi,0,none⟩) Kz).trans hci
  clear hw hc hci
  go_simp
 refine wpAnyH_take (i:=7) (v := .int .i64 (k:Int)) rfl (by kernel_rfl) (by kernel_rfl) (by kernel_rfl) (fun _ _ _ h=>h) (.inl ⟨by rfl,fun w' hw => ?_⟩) hS ?_
 ·clear hw hc hci
  go_simp
  exact IntWalk.i64_in _ (by omega)
 refine wpAnyH_take (i:=8) (v := .pointer (some ⟨g,12,none⟩)) rfl (by kernel_rfl) (by kernel_rfl) (by kernel_rfl) (fun _ _ _ h=>h) (.inl ⟨by rfl,fun w' hw => ?_⟩) hS ?_
 ·clear hw hc hci
  go_simp
 refine wpAnyH_take (i:=9) (v := .pointer (some ⟨g,12+k,none⟩)) rfl (by kernel_rfl) (by kernel_rfl) (by kernel_rfl) (fun _ _ _ h=>h) (.inl ⟨by rfl,fun w' hw => ?_⟩) hS ?_
 ·have hk7:(k:Int)<6:=by omega
  clear hw hc hci
  go_simp
 refine wpAnyH_take (i:=10) (v := .int .i64 f) rfl (by kernel_rfl) (by kernel_rfl) (by kernel_rfl) (fun _ _ _ h=>h) (.inl ⟨by rfl,fun w' hw => ?_⟩) hS ?_
 ·have h2:=(hw.cell (p:=⟨g,12+k,none⟩) Pm).trans c12
  clear hw hc hci
  go_simp
 refine wpAnyH_take (i:=11) (v := .int .i64 (c-f)) rfl (by kernel_rfl) (by kernel_rfl) (by kernel_rfl) (fun _ _ _ h=>h) (.inl ⟨by rfl,fun w' hw => ?_⟩) hS ?_
 ·clear hw hc hci
  go_simp
  exact IntWalk.i64_in _ (by omega)
 refine wpAnyH_take (i:=12) (v := .bool false) rfl (by kernel_rfl) (by kernel_rfl) (by kernel_rfl) (fun _ _ _ h=>h) (.inl ⟨by rfl,fun w' hw => ?_⟩) hS ?_
 ·clear hw hc hci
  go_simp
 refine wpAnyH_all (rs := [13]) (by kernel_rfl) (by decide) ?_
 intro j hj
 obtain rfl:j=13:=by simpa using hj
 refine wpOp_step rfl<|fun K hK => ?_
 clear hj
 go_simp
 refine(oI _ _ _).mono ?_
 rintro e w2 ⟨rfl,rfl⟩
 refine hK _ _ ⟨hS,?_⟩
 clear hK K
 refine wpAnyH_take (i:=14) (v := .int .i64 0) rfl (by kernel_rfl) (by kernel_rfl) (by kernel_rfl) (fun _ _ _ h=>h) (.inl ⟨by rfl,fun w' hw => ?_⟩) hS ?_
 ·clear hw hc hci
  go_simp
 refine wpAnyH_done (by kernel_rfl) ?_ _
 refine Eb _ _ ?_
 go_wp2
 go_ret
 rw[HE.out]
 exact⟨rfl,hS⟩
attribute [local irreducible] Oper.wp wpList Code.wp
set_option maxHeartbeats 400000 in
theorem KD(g h:Nat)(i:Int)(w:World)(hi:1<=i/\i<=6)(hc:w.cell? ⟨h,0,none⟩=some (.int .i64 i)) :
 Calls Tryd.prog 140 #[.pointer (some ⟨g,0,none⟩),.pointer (some ⟨h,0,none⟩)] w fun e w'=>e = .returned (.pointer (some ⟨g,12+(i.toNat-1),none⟩))/\Below w.heap.size w w':=by
 obtain⟨k,hk⟩:=Int.eq_ofNat_of_zero_le (show 0<=i-1 by omega)
 obtain rfl:i=(k:Int)+1:=by omega
 have Xe:(k:Int)<6:=by omega
 have HE:Hid (((k:Int)+1).toNat-1=k):=by unfold Hid; omega
 clear hk
 go_enter Tryd.func140,Tryd.ntmps140
 go_wp2_with fail
 go_quiet (fail)
 go_wp2
 go_ret
 rw[HE.out]
 exact⟨rfl,bN (Below.refl _ _) _⟩
theorem M9(args:Array Value)(w:World):(callFunc 139 args).run Tryd.prog w = .ok (.enter 139 args) w:=iK Tryd.func139 rfl rfl args w
theorem Na(args:Array Value)(w:World):(callFunc 140 args).run Tryd.prog w = .ok (.enter 140 args) w:=iK Tryd.func140 rfl rfl args w
set_option maxRecDepth 100000 in
set_option maxHeartbeats 1000000 in
theorem Nb(x:Nat->Int)(i n:Int)(w:World)(hi : -9223372036854775808<=i/\i<=9223372036854775807) :
 Calls Tryd.prog 125 #[.agg (aH .i64 54 x),.int .i64 i,.int .i64 n] w (Jg (bP x i n) w):=by
 have hmf : ∀(fn:Fn) (first cap:Array Value) (w:World),(Instr.makeFunc fn first cap).run Tryd.prog w = .ok (.func fn first cap) w:=fun _ _ _ _=>rfl
 go_enter Tryd.func125,Tryd.ntmps125
 go_upto_region 1 with (fail)
 rename_i K0 Eb
 rw[<- kR]
 have ha:=Lh w (.cells (aH .i64 54 x) 66) (.cells #[.int .i64 i] 3) (.cells #[.int .i64 n] 2) (.cells (aH .i64 54 zero) 66)
 generalize (((w.alloc (.cells (aH .i64 54 x) 66)).alloc (.cells #[.int .i64 i] 3)).alloc (.cells #[.int .i64 n] 2)).alloc (.cells (aH .i64 54 zero) 66)=W at *
 obtain⟨hx,hI,hN,hz,hs,hB⟩:=ha
 have cI:=mE hI
 have cN:=mE hN
 have Hx:Hid _:=hx
 have Hz:Hid _:=hz
 have HI:Hid _:=hI
 have HN:Hid _:=hN
 have Hs:Hid _:=hs
 clear hx hz hI hN hs
 refine wp_region_noPanic<|wp_region_held_drew (S:=Xf x w.heap.size i n) (by kernel_rfl) ⟨Hx.out,cI,cN⟩ fun hS => ?_
 refine wpAnyH_take (i:=0) (v := .agg (aH .i64 54 x)) rfl (by kernel_rfl) (by kernel_rfl) (by kernel_rfl) (fun _ _ _ h=>h) (.inl ⟨by rfl,fun w' hw => ?_⟩) hS ?_
 ·exact gy 66 (.tmp 3) (by rfl) w.heap.size (by rfl) 66 (aH .i64 54 x) (0,0) _ hw.1 Tryd.underlying66 (by rfl) (by rw[aO]; exact fP)
 refine wpAnyH_take (i:=1) (v := .int .i64 n) rfl (by kernel_rfl) (by kernel_rfl) (by kernel_rfl) (fun _ _ _ h=>h) (.inl ⟨by rfl,fun w' hw => ?_⟩) hS ?_
 ·have h2:=hw.2.2
  go_simp
 refine wpAnyH_take (i:=2) (v := .int .i64 i) rfl (by kernel_rfl) (by kernel_rfl) (by kernel_rfl) (fun _ _ _ h=>h) (.inl ⟨by rfl,fun w' hw => ?_⟩) hS ?_
 ·have h2:=hw.2.1
  have h3:=hw.2.2
  clear hw
  go_simp
 refine wpAnyH_take (i:=4) (v := .func (.func 139) #[] #[.pointer (some ⟨w.heap.size+1+1,0,none⟩),.pointer (some ⟨w.heap.size,0,none⟩),.pointer (some ⟨w.heap.size+1,0,none⟩)]) rfl (by kernel_rfl) (by kernel_rfl) (by kernel_rfl) (fun _ _ _ h=>h) (.inl ⟨by rfl,fun w' hw => ?_⟩) hS ?_
 ·have h2:=hw.2.1
  have h3:=hw.2.2
  clear hw
  go_simp
 refine wpAnyH_take (i:=5) (v := .func (.func 140) #[] #[.pointer (some ⟨w.heap.size+1,0,none⟩)]) rfl (by kernel_rfl) (by kernel_rfl) (by kernel_rfl) (fun _ _ _ h=>h) (.inl ⟨by rfl,fun w' hw => ?_⟩) hS ?_
 ·have h2:=hw.2.1
  have h3:=hw.2.2
  clear hw
  go_simp
 refine wpAnyH_all (rs := [3]) (by kernel_rfl) (by decide) ?_
 intro j hj
 obtain rfl:j=3:=by simpa using hj
 refine wpOp_step rfl<|fun K hK => ?_
 clear hj
 go_simp
 refine(mO i _ hi).mono ?_
 rintro e w' ⟨rfl,rfl⟩
 refine hK _ _ ⟨hS,?_⟩
 clear hK K
 refine wpAnyH_all (rs := [6]) (by kernel_rfl) (by decide) ?_
 intro j hj
 obtain rfl:j=6:=by simpa using hj
 refine wpOp_step rfl<|fun K hK => ?_
 clear hj
 go_simp
 have hlx:w.heap.size<W.drew.heap.size:=(Array.getElem?_eq_some_iff.1 hS.1).1
 have P6:=block_lt_of_cell hS.2.1
 have UH:=block_lt_of_cell hS.2.2
 dsimp only at P6 UH
 refine(qb x n (iJ i) 139 140 _ _ (qz x i n) (12+(i.toNat-1)) W.drew ?o1 ?o2 M9 Na ?o3 ?o4).mono ?_
 case o1=>intro h; have:=(jY i).1 h; omega
 case o2=>intro h hm; have:=(jY i).1 h; exact(pX hm (i.toNat-1) (by omega)).f
 case o3 =>
  intro hm h1 h2 h3 w' hb
  exact KC x i n _ _ _ w' ⟨h1,h2⟩ ((jY i).1 h3) hm ((hb.block _ hlx).trans hS.1) ((hb.cell (p:=⟨w.heap.size+1+1,0,none⟩) UH).trans hS.2.2) ((hb.cell (p:=⟨w.heap.size+1,0,none⟩) P6).trans hS.2.1)
 case o4 =>
  intro h w' g hb
  exact KD g _ i w' ((jY i).1 h) ((hb.cell (p:=⟨w.heap.size+1,0,none⟩) P6).trans hS.2.1)
 rintro e w2 ⟨rfl,hb2⟩
 have hHR:Hid (bP x i n=bQ x n (iJ i) (qz x i n) (12+(i.toNat-1))):=rfl
 generalize bQ x n (iJ i) (qz x i n) (12+(i.toNat-1))=r at *
 have hS2:Xf x w.heap.size i n w2:=⟨(hb2.block _ hlx).trans hS.1,(hb2.cell (p:=⟨w.heap.size+1,0,none⟩) P6).trans hS.2.1,(hb2.cell (p:=⟨w.heap.size+1+1,0,none⟩) UH).trans hS.2.2⟩
 have hz2:Hid (w2.heap[w.heap.size+1+1+1]? = some (.cells (aH .i64 54 zero) 66 (0,0))):=(hb2.block _ (by show _<W.heap.size; have:=Hs.out; omega)).trans Hz.out
 have hB2:Below w.heap.size w w2:=hB.trans ((ZJ hb2).mono hB.size)
 refine hK _ _ ⟨hS2,?_⟩
 clear hK K hS hb2
 refine wpAnyH_take (i:=7) (v := .agg (aH .i64 54 r.1)) rfl (by kernel_rfl) (by kernel_rfl) (by kernel_rfl) (fun _ _ _ h=>h) (.inl ⟨by rfl,fun w' hw => ?_⟩) hS2 ?_
 ·clear hw
  go_simp
 refine wpAnyH_take (i:=8) (v := .int .i64 r.2) rfl (by kernel_rfl) (by kernel_rfl) (by kernel_rfl) (fun _ _ _ h=>h) (.inl ⟨by rfl,fun w' hw => ?_⟩) hS2 ?_
 ·clear hw
  go_simp
 refine wpAnyH_all (rs := [9]) (by kernel_rfl) (by decide) ?_
 intro j hj
 obtain rfl:j=9:=by simpa using hj
 clear hj
 refine oU (by rfl) (by rfl)<|fun K hK => ?_
 refine wp_store_row 66 (.tmp 6) (.tmp 15) (by rfl) (w.heap.size+1+1+1) (aH .i64 54 r.1) (by rfl) (by rfl) 66 (aH .i64 54 zero) hz2.out (by rw[aO]; exact fP) (by rw[aO,aO]) (iV _ _ _) ?_
 have hend:=fJ hB2 (by omega) hz2.out r.1
 have Tz:Xf x w.heap.size i n (w2.setRow (w.heap.size+1+1+1) (aH .i64 54 r.1)):=⟨(setRow_other _ _ _ _ (by omega)).trans hS2.1,(World.cell?_of_block (setRow_other _ _ _ _ (by show w.heap.size+1≠_; omega))).trans hS2.2.1,(World.cell?_of_block (setRow_other _ _ _ _ (by show w.heap.size+1+1≠_; omega))).trans hS2.2.2⟩
 refine hK _ _ ⟨Tz,?_⟩
 clear hK K hz2 hB2 hS2
 generalize w2.setRow (w.heap.size+1+1+1) (aH .i64 54 r.1)=w3 at *
 refine wpAnyH_take (i:=10) (v := .int .i64 r.2) rfl (by kernel_rfl) (by kernel_rfl) (by kernel_rfl) (fun _ _ _ h=>h) (.inl ⟨by rfl,fun w' hw => ?_⟩) Tz ?_
 ·clear hw
  go_simp
 refine wpAnyH_done (by kernel_rfl) ?_ _
 refine Eb _ _<|wp_ret ?_
 rw[hHR.out]
 exact nL (p:=6) (q:=7) (by kernel_rfl) (by kernel_rfl) (by kernel_rfl) (by kernel_rfl) hend.1 hend.2
end
namespace Rt
def nM(x:Nat->Int)(i j n:Int):Int:=if i=j then 1 else if decide (dU x i<n)then 11 else 0
def jB(i j:Int):Nat:=18+(i.toNat-1)*6+(j.toNat-1)
def gL(x:Nat->Int)(i j n:Int):(Nat->Int) × Int:=bQ x n (iJ i&&iJ j) (nM x i j n) (jB i j)
end Rt
attribute [local irreducible] Oper.wp wpList Code.wp in
set_option maxRecDepth 100000 in
set_option maxHeartbeats 1000000 in
theorem Ce(x:Nat->Int)(i j0 n:Int)(g h hi hj:Nat)(w:World)(hn:1<=n/\n<=1125899906842624)(hib : -9223372036854775808<=i/\i<=9223372036854775807)(hjb : -9223372036854775808<=j0/\j0<=9223372036854775807)(hx:Hid (w.heap[g]? = some (.cells (aH .i64 54 x) 66 (0,0))))(hc:w.cell? ⟨h,0,none⟩=some (.int .i64 n))(hci:w.cell? ⟨hi,0,none⟩=some (.int .i64 i))(hcj:w.cell? ⟨hj,0,none⟩=some (.int .i64 j0)) :
 Calls Tryd.prog 141 #[.pointer (some ⟨hi,0,none⟩),.pointer (some ⟨hj,0,none⟩),.pointer (some ⟨h,0,none⟩),.pointer (some ⟨g,0,none⟩)] w fun e w'=>e = .returned (.int .i64 (nM x i j0 n))/\Below w.heap.size w w':=by
 have HE:Hid (nM x i j0 n=if i=j0 then 1 else if decide (dU x i<n)then 11 else 0):=rfl
 have hb:=Cc x i
 have hlh:=block_lt_of_cell hc
 have Kz:=block_lt_of_cell hci
 have Pm:g<w.heap.size:=(Array.getElem?_eq_some_iff.1 hx.out).1
 dsimp only at hlh Kz
 have hB0:Below w.heap.size w w.drew:=Ej w 1
 have hs:Hid (∀ w',Calls Tryd.prog 24 #[.agg (aH .i64 54 x),.int .i64 i] w' fun e w''=>e = .returned (.int .i64 (dU x i))/\Below w'.heap.size w' w''):=fun w'=>pY x i w' hib
 generalize dU x i=s1 at *
 by_cases he:i=j0
 ·rw[if_pos he]at HE
  subst he
  go_enter Tryd.func141,Tryd.ntmps141
  go_wp2
  go_ret
  rw[HE.out]
  exact⟨rfl,Below.refl _ _⟩
 rw[if_neg he]at HE
 have hne:(i==j0)=false:=by simpa using he
 clear he
 by_cases hd:s1<n
 ·rw[decide_eq_true hd,if_pos rfl]at HE
  go_enter Tryd.func141,Tryd.ntmps141
  go_upto_region 3 with (fail)
  rename_i K0 Eb
  refine wp_region_noPanic<|wp_region_held_drew (S:=Below w.heap.size w) (by kernel_rfl) hB0 fun hS => ?_
  refine wpAnyH_take (i:=0) (v := .int .i64 n) rfl (by kernel_rfl) (by kernel_rfl) (by kernel_rfl) (fun _ _ _ h=>h) (.inl ⟨by rfl,fun w' hw => ?_⟩) hS ?_
  ·have h2:=(hw.cell (p:=⟨h,0,none⟩) hlh).trans hc
   clear hw hc hci
   go_simp
  refine wpAnyH_take (i:=1) (v := .agg (aH .i64 54 x)) rfl (by kernel_rfl) (by kernel_rfl) (by kernel_rfl) (fun _ _ _ h=>h) (.inl ⟨by rfl,fun w' hw => ?_⟩) hS ?_
  ·exact gy 66 (.tmp 3) (by rfl) g (by rfl) 66 (aH .i64 54 x) (0,0) _ ((hw.block _ Pm).trans hx.out) Tryd.underlying66 (by rfl) (by rw[aO]; exact fP)
  refine wpAnyH_take (i:=2) (v := .int .i64 i) rfl (by kernel_rfl) (by kernel_rfl) (by kernel_rfl) (fun _ _ _ h=>h) (.inl ⟨by rfl,fun w' hw => ?_⟩) hS ?_
  ·have h2:=(hw.cell (p:=⟨hi,0,none⟩) Kz).trans hci
   clear hw hc hci
   go_simp
  refine wpAnyH_all (rs := [3]) (by kernel_rfl) (by decide) ?_
  intro j hj
  obtain rfl:j=3:=by simpa using hj
  refine wpOp_step rfl<|fun K hK => ?_
  clear hj
  go_simp
  refine(hs.out _).mono ?_
  rintro e w1 ⟨rfl,hb1⟩
  have hS:=Ei hS hb1
  refine hK _ _ ⟨hS,?_⟩
  clear hK K
  refine wpAnyH_take (i:=4) (v := .bool true) rfl (by kernel_rfl) (by kernel_rfl) (by kernel_rfl) (fun _ _ _ h=>h) (.inl ⟨by rfl,fun w' hw => ?_⟩) hS ?_
  ·clear hw hc hci
   go_simp
  refine wpAnyH_all (rs := [5]) (by kernel_rfl) (by decide) ?_
  intro j hj
  obtain rfl:j=5:=by simpa using hj
  refine wpOp_step rfl<|fun K hK => ?_
  clear hj
  go_simp
  refine(oI _ _ _).mono ?_
  rintro e w2 ⟨rfl,rfl⟩
  refine hK _ _ ⟨hS,?_⟩
  clear hK K
  refine wpAnyH_take (i:=6) (v := .int .i64 11) rfl (by kernel_rfl) (by kernel_rfl) (by kernel_rfl) (fun _ _ _ h=>h) (.inl ⟨by rfl,fun w' hw => ?_⟩) hS ?_
  ·clear hw hc hci
   go_simp
  refine wpAnyH_done (by kernel_rfl) ?_ _
  refine Eb _ _ ?_
  go_wp2
  go_ret
  rw[HE.out]
  exact⟨rfl,hS⟩
 rw[decide_eq_false hd,if_neg (by decide)]at HE
 go_enter Tryd.func141,Tryd.ntmps141
 go_upto_region 3 with (fail)
 rename_i K0 Eb
 refine wp_region_noPanic<|wp_region_held_drew (S:=Below w.heap.size w) (by kernel_rfl) hB0 fun hS => ?_
 refine wpAnyH_take (i:=0) (v := .int .i64 n) rfl (by kernel_rfl) (by kernel_rfl) (by kernel_rfl) (fun _ _ _ h=>h) (.inl ⟨by rfl,fun w' hw => ?_⟩) hS ?_
 ·have h2:=(hw.cell (p:=⟨h,0,none⟩) hlh).trans hc
  clear hw hc hci
  go_simp
 refine wpAnyH_take (i:=1) (v := .agg (aH .i64 54 x)) rfl (by kernel_rfl) (by kernel_rfl) (by kernel_rfl) (fun _ _ _ h=>h) (.inl ⟨by rfl,fun w' hw => ?_⟩) hS ?_
 ·exact gy 66 (.tmp 3) (by rfl) g (by rfl) 66 (aH .i64 54 x) (0,0) _ ((hw.block _ Pm).trans hx.out) Tryd.underlying66 (by rfl) (by rw[aO]; exact fP)
 refine wpAnyH_take (i:=2) (v := .int .i64 i) rfl (by kernel_rfl) (by kernel_rfl) (by kernel_rfl) (fun _ _ _ h=>h) (.inl ⟨by rfl,fun w' hw => ?_⟩) hS ?_
 ·have h2:=(hw.cell (p:=⟨hi,0,none⟩) Kz).trans hci
  clear hw hc hci
  go_simp
 refine wpAnyH_all (rs := [3]) (by kernel_rfl) (by decide) ?_
 intro j hj
 obtain rfl:j=3:=by simpa using hj
 refine wpOp_step rfl<|fun K hK => ?_
 clear hj
 go_simp
 refine(hs.out _).mono ?_
 rintro e w1 ⟨rfl,hb1⟩
 have hS:=Ei hS hb1
 refine hK _ _ ⟨hS,?_⟩
 clear hK K
 refine wpAnyH_take (i:=4) (v := .bool false) rfl (by kernel_rfl) (by kernel_rfl) (by kernel_rfl) (fun _ _ _ h=>h) (.inl ⟨by rfl,fun w' hw => ?_⟩) hS ?_
 ·clear hw hc hci
  go_simp
 refine wpAnyH_all (rs := [5]) (by kernel_rfl) (by decide) ?_
 intro j hj
 obtain rfl:j=5:=by simpa using hj
 refine wpOp_step rfl<|fun K hK => ?_
 clear hj
 go_simp
 refine(oI _ _ _).mono ?_
 rintro e w2 ⟨rfl,rfl⟩
 refine hK _ _ ⟨hS,?_⟩
 clear hK K
 refine wpAnyH_take (i:=6) (v := .int .i64 0) rfl (by kernel_rfl) (by kernel_rfl) (by kernel_rfl) (fun _ _ _ h=>h) (.inl ⟨by rfl,fun w' hw => ?_⟩) hS ?_
 ·clear hw hc hci
  go_simp
 refine wpAnyH_done (by kernel_rfl) ?_ _
 refine Eb _ _ ?_
 go_wp2
 go_ret
 rw[HE.out]
 exact⟨rfl,hS⟩
set_option maxHeartbeats 400000 in
theorem Cg(g h1 h2:Nat)(i j:Int)(w:World)(hi:1<=i/\i<=6)(hj:1<=j/\j<=6)(hci:w.cell? ⟨h1,0,none⟩=some (.int .i64 i))(hcj:w.cell? ⟨h2,0,none⟩=some (.int .i64 j)) :
 Calls Tryd.prog 142 #[.pointer (some ⟨g,0,none⟩),.pointer (some ⟨h1,0,none⟩),.pointer (some ⟨h2,0,none⟩)] w fun e w'=>e = .returned (.pointer (some ⟨g,jB i j,none⟩))/\Below w.heap.size w w':=by
 obtain⟨k,hk⟩:=Int.eq_ofNat_of_zero_le (show 0<=i-1 by omega)
 obtain rfl:i=(k:Int)+1:=by omega
 obtain⟨l,hl⟩:=Int.eq_ofNat_of_zero_le (show 0<=j-1 by omega)
 obtain rfl:j=(l:Int)+1:=by omega
 have Xe:(k:Int)<6:=by omega
 have hl6:(l:Int)<6:=by omega
 have HE:Hid (jB ((k:Int)+1) ((l:Int)+1)=18+k*6+l):=by unfold Hid jB; omega
 clear hk hl
 go_enter Tryd.func142,Tryd.ntmps142
 go_wp2_with fail
 go_quiet (fail)
 go_wp2
 go_ret
 rw[HE.out]
 exact⟨rfl,bN (Below.refl _ _) _⟩
theorem EW(args:Array Value)(w:World):(callFunc 141 args).run Tryd.prog w = .ok (.enter 141 args) w:=iK Tryd.func141 rfl rfl args w
theorem EX(args:Array Value)(w:World):(callFunc 142 args).run Tryd.prog w = .ok (.enter 142 args) w:=iK Tryd.func142 rfl rfl args w
section
def F9(x:Nat->Int)(g:Nat)(i j n:Int)(w':World):Prop:=w'.heap[g]? = some (.cells (aH .i64 54 x) 66 (0,0))/\w'.cell? ⟨g+1,0,none⟩=some (.int .i64 i)/\w'.cell? ⟨g+1+1,0,none⟩=some (.int .i64 j)/\w'.cell? ⟨g+1+1+1,0,none⟩=some (.int .i64 n)
theorem F9.up{x:Nat->Int}{g:Nat}{i j n:Int}{w w':World}(h:F9 x g i j n w)(e:Below w.heap.size w w'):F9 x g i j n w':=by
 obtain⟨a,b,c,d⟩:=h
 exact⟨(e.block _ (Array.getElem?_eq_some_iff.1 a).1).trans a,(e.cell (p:=⟨g+1,0,none⟩) (block_lt_of_cell b)).trans b,(e.cell (p:=⟨g+1+1,0,none⟩) (block_lt_of_cell c)).trans c,(e.cell (p:=⟨g+1+1+1,0,none⟩) (block_lt_of_cell d)).trans d⟩
instance {x:Nat->Int} {g:Nat} {i j n:Int} {w w':World}:Rt.Tr w w' (F9 x g i j n w) (F9 x g i j n w'):=⟨fun b h=>h.up b⟩
theorem F9.row{x:Nat->Int}{g:Nat}{i j n:Int}{w:World}(h:F9 x g i j n w)(cs:Array Value):F9 x g i j n (w.setRow (g+1+1+1+1) cs):=by
 obtain⟨a,b,c,d⟩:=h
 exact⟨(setRow_other _ _ _ _ (by omega)).trans a,(World.cell?_of_block (setRow_other _ _ _ _ (by show g+1≠_; omega))).trans b,(World.cell?_of_block (setRow_other _ _ _ _ (by show g+1+1≠_; omega))).trans c,(World.cell?_of_block (setRow_other _ _ _ _ (by show g+1+1+1≠_; omega))).trans d⟩
attribute [local irreducible] Oper.wp wpList Code.wp
set_option maxRecDepth 100000 in
set_option maxHeartbeats 2000000 in
theorem Nc(x:Nat->Int)(i j n:Int)(w:World)(hi : -9223372036854775808<=i/\i<=9223372036854775807)(hj0 : -9223372036854775808<=j/\j<=9223372036854775807) :
 Calls Tryd.prog 127 #[.agg (aH .i64 54 x),.int .i64 i,.int .i64 j,.int .i64 n] w (Jg (gL x i j n) w):=by
 have HM:Hid (gL x i j n=bQ x n (iJ i&&iJ j) (nM x i j n) (jB i j)):=rfl
 have hri:=jY i
 have hrj:=jY j
 have M5:Hid (∀ w',Calls Tryd.prog 37 #[.int .i64 i] w' fun e w''=>e = .returned (.bool (iJ i))/\w''=w'):=fun w'=>mO i w' hi
 have Yj:Hid (∀ w',Calls Tryd.prog 37 #[.int .i64 j] w' fun e w''=>e = .returned (.bool (iJ j))/\w''=w'):=fun w'=>mO j w' hj0
 generalize iJ i=bi at *
 generalize iJ j=bj at *
 have Hri:Hid _:=hri
 have Hrj:Hid _:=hrj
 clear hri hrj
 have hmf : ∀(fn:Fn) (first cap:Array Value) (w:World),(Instr.makeFunc fn first cap).run Tryd.prog w = .ok (.func fn first cap) w:=fun _ _ _ _=>rfl
 cases bi
 all_goals
  go_enter Tryd.func127,Tryd.ntmps127
  go_upto_region 1 with (fail)
  rename_i K0 Eb
  rw[<- kR]
  have ha:=S9 w (.cells (aH .i64 54 x) 66) (.cells #[.int .i64 i] 3) (.cells #[.int .i64 j] 3) (.cells #[.int .i64 n] 2) (.cells (aH .i64 54 zero) 66)
  generalize ((((w.alloc (.cells (aH .i64 54 x) 66)).alloc (.cells #[.int .i64 i] 3)).alloc (.cells #[.int .i64 j] 3)).alloc (.cells #[.int .i64 n] 2)).alloc (.cells (aH .i64 54 zero) 66)=W at *
  obtain⟨hx,hI,hJ,hN,hz,hs,hB⟩:=ha
  have hS0:F9 x w.heap.size i j n W.drew:=⟨hx,mE (w:=W) hI,mE (w:=W) hJ,mE (w:=W) hN⟩
  have Hz:Hid _:=hz
  have Hs:Hid _:=hs
  clear hx hz hI hJ hN hs
  refine wp_region_noPanic<|wp_region_held_drew (S:=F9 x w.heap.size i j n) (by kernel_rfl) hS0 fun hS => ?_
  refine wpAnyH_take (i:=0) (v := .agg (aH .i64 54 x)) rfl (by kernel_rfl) (by kernel_rfl) (by kernel_rfl) (fun _ _ _ h=>h) (.inl ⟨by rfl,fun w' hw => ?_⟩) hS ?_
  ·exact gy 66 (.tmp 4) (by rfl) w.heap.size (by rfl) 66 (aH .i64 54 x) (0,0) _ hw.1 Tryd.underlying66 (by rfl) (by rw[aO]; exact fP)
  refine wpAnyH_take (i:=1) (v := .int .i64 n) rfl (by kernel_rfl) (by kernel_rfl) (by kernel_rfl) (fun _ _ _ h=>h) (.inl ⟨by rfl,fun w' hw => ?_⟩) hS ?_
  ·have h2:=hw.2.2.2
   clear hw
   go_simp
  refine wpAnyH_take (i:=2) (v := .int .i64 i) rfl (by kernel_rfl) (by kernel_rfl) (by kernel_rfl) (fun _ _ _ h=>h) (.inl ⟨by rfl,fun w' hw => ?_⟩) hS ?_
  ·have h2:=hw.2.1
   clear hw
   go_simp
  refine wpAnyH_take (i:=8) (v := .func (.func 141) #[] #[.pointer (some ⟨w.heap.size+1,0,none⟩),.pointer (some ⟨w.heap.size+1+1,0,none⟩),.pointer (some ⟨w.heap.size+1+1+1,0,none⟩),.pointer (some ⟨w.heap.size,0,none⟩)]) rfl (by kernel_rfl) (by kernel_rfl) (by kernel_rfl) (fun _ _ _ h=>h) (.inl ⟨by rfl,fun w' hw => ?_⟩) hS ?_
  ·clear hw
   go_simp
  refine wpAnyH_take (i:=9) (v := .func (.func 142) #[] #[.pointer (some ⟨w.heap.size+1,0,none⟩),.pointer (some ⟨w.heap.size+1+1,0,none⟩)]) rfl (by kernel_rfl) (by kernel_rfl) (by kernel_rfl) (fun _ _ _ h=>h) (.inl ⟨by rfl,fun w' hw => ?_⟩) hS ?_
  ·clear hw
   go_simp
  refine wpAnyH_all (rs := [3]) (by kernel_rfl) (by decide) ?_
  intro j hj
  obtain rfl:j=3:=by simpa using hj
  refine wpOp_step rfl<|fun K hK => ?_
  clear hj
  go_simp
  refine(M5.out _).mono ?_
  rintro e w' ⟨rfl,rfl⟩
  refine hK _ _ ⟨hS,?_⟩
  clear hK K
 ·have hoff:false=true->jB i j<54:=nofun
  have hcell:false=true->may x=true->0<=x (jB i j)/\x (jB i j)<=1125899906842624:=nofun
  have hbd:false=true->(1<=i/\i<=6)/\(1<=j/\j<=6):=nofun
  refine wpAnyH_take (i:=4) (v := .bool false) rfl (by kernel_rfl) (by kernel_rfl) (by kernel_rfl) (fun _ _ _ h=>h) (.inl ⟨by rfl,fun w' hw => ?_⟩) hS ?_
  ·clear hw
   go_simp
  refine wpAnyH_take (i:=5) (v:=undef) rfl (by kernel_rfl) (by kernel_rfl) (by kernel_rfl) (fun _ _ _ h=>h) (.inr ⟨by rfl,rfl⟩) hS ?_
  refine wpAnyH_take (i:=6) (v:=undef) rfl (by kernel_rfl) (by kernel_rfl) (by kernel_rfl) (fun _ _ _ h=>h) (.inr ⟨by rfl,rfl⟩) hS ?_
  refine wpAnyH_take (i:=7) (v := .bool false) rfl (by kernel_rfl) (by kernel_rfl) (by kernel_rfl) (fun _ _ _ h=>h) (.inl ⟨by rfl,fun w' hw => ?_⟩) hS ?_
  ·clear hw
   go_simp
  have HM:Hid (gL x i j n=bQ x n false (nM x i j n) (jB i j)):=HM
  refine wpAnyH_all (rs := [10]) (by kernel_rfl) (by decide) ?_
  intro j hj
  obtain rfl:j=10:=by simpa using hj
  refine wpOp_step rfl<|fun K hK => ?_
  clear hj
  go_simp
  have hlz:w.heap.size+1+1+1+1<W.drew.heap.size:=by show _<W.heap.size; have:=Hs.out; omega
  refine(qb x n false 141 142 _ _ (nM x i j n) (jB i j) W.drew ?o1 ?o2 EW EX ?o3 ?o4).mono ?_
  case o1=>exact hoff
  case o2=>exact hcell
  case o3=>exact fun hm h1 h2 h3 w' hb=>have hq:=F9.up hS hb; Ce x i j n _ _ _ _ w' ⟨h1,h2⟩ hi hj0 hq.1 hq.2.2.2 hq.2.1 hq.2.2.1
  case o4=>exact fun h w' g hb=>have hq:=F9.up hS hb; Cg g _ _ i j w' (hbd h).1 (hbd h).2 hq.2.1 hq.2.2.1
  rintro e w2 ⟨rfl,hb2⟩
  generalize bQ x n false (nM x i j n) (jB i j)=r at *
  have hz2:Hid (w2.heap[w.heap.size+1+1+1+1]? = some (.cells (aH .i64 54 zero) 66 (0,0))):=(hb2.block _ hlz).trans Hz.out
  have hB2:Below w.heap.size w w2:=hB.trans ((ZJ hb2).mono hB.size)
  have hS:=F9.up hS hb2
  refine hK _ _ ⟨hS,?_⟩
  clear hK K
  clear hb2
  refine wpAnyH_take (i:=11) (v := .agg (aH .i64 54 r.1)) rfl (by kernel_rfl) (by kernel_rfl) (by kernel_rfl) (fun _ _ _ h=>h) (.inl ⟨by rfl,fun w' hw => ?_⟩) hS ?_
  ·clear hw
   go_simp
  refine wpAnyH_take (i:=12) (v := .int .i64 r.2) rfl (by kernel_rfl) (by kernel_rfl) (by kernel_rfl) (fun _ _ _ h=>h) (.inl ⟨by rfl,fun w' hw => ?_⟩) hS ?_
  ·clear hw
   go_simp
  refine wpAnyH_all (rs := [13]) (by kernel_rfl) (by decide) ?_
  intro j' hj'
  obtain rfl:j'=13:=by simpa using hj'
  clear hj'
  refine oU (by rfl) (by rfl)<|fun K hK => ?_
  refine wp_store_row 66 (.tmp 8) (.tmp 21) (by rfl) (w.heap.size+1+1+1+1) (aH .i64 54 r.1) (by rfl) (by rfl) 66 (aH .i64 54 zero) hz2.out (by rw[aO]; exact fP) (by rw[aO,aO]) (iV _ _ _) ?_
  have hend:=fJ hB2 (by omega) hz2.out r.1
  have hS:=hS.row (aH .i64 54 r.1)
  refine hK _ _ ⟨hS,?_⟩
  clear hK K hz2 hB2
  generalize w2.setRow (w.heap.size+1+1+1+1) (aH .i64 54 r.1)=w3 at *
  refine wpAnyH_take (i:=14) (v := .int .i64 r.2) rfl (by kernel_rfl) (by kernel_rfl) (by kernel_rfl) (fun _ _ _ h=>h) (.inl ⟨by rfl,fun w' hw => ?_⟩) hS ?_
  ·clear hw
   go_simp
  refine wpAnyH_done (by kernel_rfl) ?_ _
  refine Eb _ _<|wp_ret ?_
  rw[HM.out]
  exact nL (p:=8) (q:=9) (by kernel_rfl) (by kernel_rfl) (by kernel_rfl) (by kernel_rfl) hend.1 hend.2
 have hi6:=Hri.out.1 rfl
 have hbd:bj=true->(1<=i/\i<=6)/\(1<=j/\j<=6):=fun h=>⟨hi6,Hrj.out.1 h⟩
 have hoff:bj=true->jB i j<54:=fun h=>by have:=hbd h; unfold jB; omega
 have hcell:bj=true->may x=true->0<=x (jB i j)/\x (jB i j)<=1125899906842624:=fun h hm=>by
  have:=hbd h
  exact(pX hm (i.toNat-1) (by omega)).r (j.toNat-1) (by omega)
 refine wpAnyH_take (i:=4) (v := .bool true) rfl (by kernel_rfl) (by kernel_rfl) (by kernel_rfl) (fun _ _ _ h=>h) (.inl ⟨by rfl,fun w' hw => ?_⟩) hS ?_
 ·clear hw
  go_simp
 refine wpAnyH_take (i:=5) (v := .int .i64 j) rfl (by kernel_rfl) (by kernel_rfl) (by kernel_rfl) (fun _ _ _ h=>h) (.inl ⟨by rfl,fun w' hw => ?_⟩) hS ?_
 ·have h2:=hw.2.2.1
  clear hw
  go_simp
 refine wpAnyH_all (rs := [6]) (by kernel_rfl) (by decide) ?_
 intro j hj
 obtain rfl:j=6:=by simpa using hj
 refine wpOp_step rfl<|fun K hK => ?_
 clear hj
 go_simp
 refine(Yj.out _).mono ?_
 rintro e w' ⟨rfl,rfl⟩
 refine hK _ _ ⟨hS,?_⟩
 clear hK K
 refine wpAnyH_take (i:=7) (v := .bool bj) rfl (by kernel_rfl) (by kernel_rfl) (by kernel_rfl) (fun _ _ _ h=>h) (.inl ⟨by rfl,fun w' hw => ?_⟩) hS ?_
 ·clear hw
  go_simp
 have HM:Hid (gL x i j n=bQ x n bj (nM x i j n) (jB i j)):=HM
 refine wpAnyH_all (rs := [10]) (by kernel_rfl) (by decide) ?_
 intro j hj
 obtain rfl:j=10:=by simpa using hj
 refine wpOp_step rfl<|fun K hK => ?_
 clear hj
 go_simp
 have hlz:w.heap.size+1+1+1+1<W.drew.heap.size:=by show _<W.heap.size; have:=Hs.out; omega
 refine(qb x n bj 141 142 _ _ (nM x i j n) (jB i j) W.drew ?o1 ?o2 EW EX ?o3 ?o4).mono ?_
 case o1=>exact hoff
 case o2=>exact hcell
 case o3=>exact fun hm h1 h2 h3 w' hb=>have hq:=F9.up hS hb; Ce x i j n _ _ _ _ w' ⟨h1,h2⟩ hi hj0 hq.1 hq.2.2.2 hq.2.1 hq.2.2.1
 case o4=>exact fun h w' g hb=>have hq:=F9.up hS hb; Cg g _ _ i j w' (hbd h).1 (hbd h).2 hq.2.1 hq.2.2.1
 rintro e w2 ⟨rfl,hb2⟩
 generalize bQ x n bj (nM x i j n) (jB i j)=r at *
 have hz2:Hid (w2.heap[w.heap.size+1+1+1+1]? = some (.cells (aH .i64 54 zero) 66 (0,0))):=(hb2.block _ hlz).trans Hz.out
 have hB2:Below w.heap.size w w2:=hB.trans ((ZJ hb2).mono hB.size)
 have hS:=F9.up hS hb2
 refine hK _ _ ⟨hS,?_⟩
 clear hK K
 clear hb2
 refine wpAnyH_take (i:=11) (v := .agg (aH .i64 54 r.1)) rfl (by kernel_rfl) (by kernel_rfl) (by kernel_rfl) (fun _ _ _ h=>h) (.inl ⟨by rfl,fun w' hw => ?_⟩) hS ?_
 ·clear hw
  go_simp
 refine wpAnyH_take (i:=12) (v := .int .i64 r.2) rfl (by kernel_rfl) (by kernel_rfl) (by kernel_rfl) (fun _ _ _ h=>h) (.inl ⟨by rfl,fun w' hw => ?_⟩) hS ?_
 ·clear hw
  go_simp
 refine wpAnyH_all (rs := [13]) (by kernel_rfl) (by decide) ?_
 intro j' hj'
 obtain rfl:j'=13:=by simpa using hj'
 clear hj'
 refine oU (by rfl) (by rfl)<|fun K hK => ?_
 refine wp_store_row 66 (.tmp 8) (.tmp 21) (by rfl) (w.heap.size+1+1+1+1) (aH .i64 54 r.1) (by rfl) (by rfl) 66 (aH .i64 54 zero) hz2.out (by rw[aO]; exact fP) (by rw[aO,aO]) (iV _ _ _) ?_
 have hend:=fJ hB2 (by omega) hz2.out r.1
 have hS:=hS.row (aH .i64 54 r.1)
 refine hK _ _ ⟨hS,?_⟩
 clear hK K hz2 hB2
 generalize w2.setRow (w.heap.size+1+1+1+1) (aH .i64 54 r.1)=w3 at *
 refine wpAnyH_take (i:=14) (v := .int .i64 r.2) rfl (by kernel_rfl) (by kernel_rfl) (by kernel_rfl) (fun _ _ _ h=>h) (.inl ⟨by rfl,fun w' hw => ?_⟩) hS ?_
 ·clear hw
  go_simp
 refine wpAnyH_done (by kernel_rfl) ?_ _
 refine Eb _ _<|wp_ret ?_
 rw[HM.out]
 exact nL (p:=8) (q:=9) (by kernel_rfl) (by kernel_rfl) (by kernel_rfl) (by kernel_rfl) hend.1 hend.2
end
namespace Rt
def L(x:Nat->Int)(k:Nat):Int:=G x k+F x k+R x 0 k+R x 1 k+R x 2 k+R x 3 k+R x 4 k+R x 5 k-C x k-R x k 0-R x k 1-R x k 2-R x k 3-R x k 4-R x k 5
def Pn(x:Nat->Int):Prop := ∀ p,p<54->0<=x p/\x p<=1125899906842624
def All(x:Nat->Int):Prop := ∀ k,k<6->0<=L x k/\F x k<=C x k/\R x k k=0
def oJ(x:Nat->Int):Int:=G x 0+G x 1+G x 2+G x 3+G x 4+G x 5
theorem za{l:List Int}(h:jA l=true):jJ l=(l.sum,true):=by unfold jJ; rw[if_pos h]
theorem Pn.outs{x:Nat->Int}(h:Pn x)(k:Nat)(b:k<6):jA (outs x k 6)=true:=by
 have e:=fun j (hj:j<6)=>h (18+k*6+j) (by omega)
 have c:=h (6+k) (by omega)
 unfold jA
 rw[List.all_eq_true]
 intro n a
 have:n=x (6+k)\/n=x (18+k*6+0)\/n=x (18+k*6+1)\/n=x (18+k*6+2)\/n=x (18+k*6+3)\/n=x (18+k*6+4)\/n=x (18+k*6+5):=by
  simpa [Rt.outs,C,R,or_assoc] using a
 unfold F5
 rw[Bool.and_eq_true,decide_eq_true_eq,decide_eq_true_eq]
 rcases this with h|h|h|h|h|h|h <;> subst h
 ·exact c
 all_goals exact e _ (by omega)
theorem Pn.ins{x:Nat->Int}(h:Pn x)(k:Nat)(b:k<6):jA (ins x k 6)=true:=by
 have e:=fun j (hj:j<6)=>h (18+j*6+k) (by omega)
 have c:=h k (by omega)
 have f:=h (12+k) (by omega)
 unfold jA
 rw[List.all_eq_true]
 intro n a
 have:n=x k\/n=x (12+k)\/n=x (18+0*6+k)\/n=x (18+1*6+k)\/n=x (18+2*6+k)\/n=x (18+3*6+k)\/n=x (18+4*6+k)\/n=x (18+5*6+k):=by
  simpa [Rt.ins,G,F,R,or_assoc] using a
 unfold F5
 rw[Bool.and_eq_true,decide_eq_true_eq,decide_eq_true_eq]
 rcases this with h|h|h|h|h|h|h|h <;> subst h
 ·exact c
 ·exact f
 all_goals exact e _ (by omega)
theorem Nf(x:Nat->Int)(k:Nat):(Rt.outs x k 6).sum=C x k+R x k 0+R x k 1+R x k 2+R x k 3+R x k 4+R x k 5:=by simp[Rt.outs]; omega
theorem P7(x:Nat->Int)(k:Nat):(Rt.ins x k 6).sum=G x k+F x k+R x 0 k+R x 1 k+R x 2 k+R x 3 k+R x 4 k+R x 5 k:=by simp[Rt.ins]; omega
theorem sS{x:Nat->Int}(h:Pn x)(k:Nat)(a:k<6):localM x k=(L x k,true):=by
 unfold localM
 rw[za (h.outs k a),za (h.ins k a),Nf,P7]
 unfold L
 refine Prod.ext ?_ rfl
 dsimp only
 omega
theorem vM{x:Nat->Int}(h:may x=true):Pn x:=by
 intro p e
 by_cases a:p<6
 ·exact(pX h p a).g
 by_cases b:p<12
 ·have:=(pX h (p-6) (by omega)).c
  unfold C at this; rwa [show 6+(p-6)=p by omega]at this
 by_cases d:p<18
 ·have:=(pX h (p-12) (by omega)).f
  unfold F at this; rwa [show 12+(p-12)=p by omega]at this
 have:=(pX h ((p-18) / 6) (by omega)).r ((p-18) % 6) (by omega)
 unfold R at this; rwa [show 18+(p-18) / 6*6+(p-18) % 6=p by omega]at this
theorem Sv{x:Nat->Int}(h:Pn x):jA (gs x)=true:=by
 unfold jA
 rw[List.all_eq_true]
 intro n a
 have:n=x 0\/n=x 1\/n=x 2\/n=x 3\/n=x 4\/n=x 5:=by simpa [gs,or_assoc] using a
 unfold F5
 rw[Bool.and_eq_true,decide_eq_true_eq,decide_eq_true_eq]
 rcases this with e|e|e|e|e|e <;> subst e <;> exact h _ (by omega)
theorem Ng(x:Nat->Int):(gs x).sum=oJ x:=by simp[gs,oJ,G]; omega
theorem lW(x:Nat->Int):may x=true<->Pn x/\All x/\oJ x<=1125899906842624:=by
 constructor
 ·intro h
  have e:=vM h
  refine⟨e,fun k d => ?_,?_⟩
  ·have o:=pX h k d
   have:=o.l
   rw[sS e k d]at this
   exact⟨this,o.fc,o.rkk⟩
  unfold may at h
  rw[Bool.and_eq_true,Bool.and_eq_true,za (Sv e),Ng]at h
  simpa using h.2.2
 rintro ⟨e,g,i⟩
 have d : ∀ k,k<6->wU x k=true:=by
  intro k d
  obtain⟨a,b,c⟩:=g k d
  unfold wU
  rw[sS e k d]
  simp only[Bool.and_eq_true,decide_eq_true_eq,beq_iff_eq]
  exact⟨⟨⟨trivial,a⟩,b⟩,c⟩
 have f : ∀ n,n<=6->yI x n=true:=by
  intro n
  induction n with
  | zero=>intro _; rfl
  | succ n ih=>intro f; rw[show yI x (n+1)=(yI x n&&wU x n)from rfl,ih (by omega),d n (by omega)]; rfl
 unfold may
 rw[f 6 (by omega),za (Sv e),Ng,decide_eq_true i]
 rfl
theorem EY{x:Nat->Int}(h:may x=true)(k:Nat)(a:k<6):dU x ((k:Int)+1)=L x k:=by
 unfold dU
 rw[h,Bool.and_true,if_pos (by unfold iJ; simp; omega),show((k:Int)+1).toNat-1=k by omega,sS (vM h) k a]
def jZ(x:Nat->Int):Int:=(C x 0-F x 0)+(C x 1-F x 1)+(C x 2-F x 2)+(C x 3-F x 3)+(C x 4-F x 4)+(C x 5-F x 5)
theorem qA(x:Nat->Int)(i j:Nat)(hi:i<6)(g:j<6)(d:Int)(a b:Nat)(ha:a<6)(f:b<6) :
 R (upd x (18+i*6+j) (x (18+i*6+j)+d)) a b=R x a b+(if a=i then if b=j then d else 0 else 0):=by
 unfold R upd
 by_cases c:a=i
 ·by_cases e:b=j
  ·subst c e; simp
  rw[if_neg (by omega),if_pos c,if_neg e]; omega
 rw[if_neg (by omega),if_neg c]; omega
theorem UJ(x:Nat->Int)(i j:Nat)(hi:i<6)(a:j<6)(d:Int)(k:Nat)(b:k<6) :
 L (upd x (18+i*6+j) (x (18+i*6+j)+d)) k=L x k+(if k=j then d else 0)-(if k=i then d else 0):=by
 have l:G (upd x (18+i*6+j) (x (18+i*6+j)+d)) k=G x k:=eH _ _ _ _ (by omega)
 have f:C (upd x (18+i*6+j) (x (18+i*6+j)+d)) k=C x k:=eH _ _ _ _ (by omega)
 have g:F (upd x (18+i*6+j) (x (18+i*6+j)+d)) k=F x k:=eH _ _ _ _ (by omega)
 unfold L
 rw[l,f,g,qA x i j hi a d 0 k (by omega) b,qA x i j hi a d 1 k (by omega) b,qA x i j hi a d 2 k (by omega) b,qA x i j hi a d 3 k (by omega) b,qA x i j hi a d 4 k (by omega) b,qA x i j hi a d 5 k (by omega) b,
  qA x i j hi a d k 0 b (by omega),qA x i j hi a d k 1 b (by omega),qA x i j hi a d k 2 b (by omega),qA x i j hi a d k 3 b (by omega),qA x i j hi a d k 4 b (by omega),qA x i j hi a d k 5 b (by omega)]
 have c:(if 0=i then if k=j then d else 0 else 0)+(if 1=i then if k=j then d else 0 else 0)+(if 2=i then if k=j then d else 0 else 0)+(if 3=i then if k=j then d else 0 else 0)+(if 4=i then if k=j then d else 0 else 0)+(if 5=i then if k=j then d else 0 else 0)=(if k=j then d else 0):=by
  have:i=0\/i=1\/i=2\/i=3\/i=4\/i=5:=by omega
  rcases this with h|h|h|h|h|h <;> subst h <;> simp
 have e:(if k=i then if 0=j then d else 0 else 0)+(if k=i then if 1=j then d else 0 else 0)+(if k=i then if 2=j then d else 0 else 0)+(if k=i then if 3=j then d else 0 else 0)+(if k=i then if 4=j then d else 0 else 0)+(if k=i then if 5=j then d else 0 else 0)=(if k=i then d else 0):=by
  have:j=0\/j=1\/j=2\/j=3\/j=4\/j=5:=by omega
  rcases this with h|h|h|h|h|h <;> subst h <;> simp
 generalize (if 0=i then if k=j then d else 0 else 0)=a0 at *
 generalize (if 1=i then if k=j then d else 0 else 0)=a1 at *
 generalize (if 2=i then if k=j then d else 0 else 0)=a2 at *
 generalize (if 3=i then if k=j then d else 0 else 0)=a3 at *
 generalize (if 4=i then if k=j then d else 0 else 0)=a4 at *
 generalize (if 5=i then if k=j then d else 0 else 0)=a5 at *
 generalize (if k=i then if 0=j then d else 0 else 0)=b0 at *
 generalize (if k=i then if 1=j then d else 0 else 0)=b1 at *
 generalize (if k=i then if 2=j then d else 0 else 0)=b2 at *
 generalize (if k=i then if 3=j then d else 0 else 0)=b3 at *
 generalize (if k=i then if 4=j then d else 0 else 0)=b4 at *
 generalize (if k=i then if 5=j then d else 0 else 0)=b5 at *
 rw[<- c,<- e]
 omega
end Rt
structure zZ where
 inn:Nat->Bool
 left:Nat->Bool
 known:Nat->Int
 na:Option Addr
 nn:Nat
 nc:Nat
 ga:Option Addr
 gn:Nat
 gc:Nat
def lZ(s:zZ):Nat->Value:=fun p=>if p<6 then .bool (s.inn p)else if p<12 then .bool (s.left (p-6))else if p<18 then aC (s.known (p-12))else if p=18 then .slice s.na s.nn s.nc else .slice s.ga s.gn s.gc
theorem Nh(s:zZ){p:Nat}(h:p<6):lZ s p = .bool (s.inn p):=by unfold lZ; rw[if_pos h]
theorem EZ(s:zZ){p q:Nat}(h:p<6)(e:q=p+6):lZ s q = .bool (s.left p):=by subst e; unfold lZ; rw[if_neg (by omega),if_pos (by omega),Nat.add_sub_cancel]
theorem Ch(s:zZ){p q:Nat}(h:p<6)(e:q=p+12):lZ s q=aC (s.known p):=by subst e; unfold lZ; rw[if_neg (by omega),if_neg (by omega),if_pos (by omega),Nat.add_sub_cancel]
def Ni(id par:Int)(R:Nat->Int):Nat->Value:=fun p=>if p=0 then aC id else if p=1 then aC par else au (R (p-2))
def Z8(w:World)(a:Option Addr)(n:Nat)(id par:Nat->Int)(R:Nat->Nat->Int):Prop := ∀ k,k<n -> ∃ b c,a=some ⟨b,c,none⟩/\gI w b (c+56*k) 56 (Ni (id k) (par k) (R k))
theorem Z8.below{w w':World}{a:Option Addr}{n:Nat}{id par:Nat->Int}{R:Nat->Nat->Int}(h:Z8 w a n id par R)(d:Below w.heap.size w w'):Z8 w' a n id par R:=fun k f=>by
 obtain⟨b,g,e,c⟩:=h k f
 exact⟨b,g,e,c.below d (c.lt (by omega))⟩
section
structure Bu where
 s:zZ
 id:Nat->Int
 par:Nat->Int
 R:Nat->Nat->Int
 g:Nat->Nat->Int
 tb:Nat
 ta:Option Addr
 tn:Nat
 tc:Nat
 t:Nat->Nat->Int
 ra:Nat->Option Addr
 rn:Nat->Nat
 rc:Nat->Nat
 rq:Nat->Nat->Int
structure dR where
 inn:Nat->Bool
 left:Nat->Bool
 known:Nat->Int
 nn:Nat
 id:Nat->Int
 par:Nat->Int
 R:Nat->Nat->Int
 gn:Nat
 g:Nat->Nat->Int
 tn:Nat
 t:Nat->Nat->Int
 rn:Nat->Nat
 rq:Nat->Nat->Int
def Bu.core(m:Bu):dR:=⟨m.s.inn,m.s.left,m.s.known,m.s.nn,m.id,m.par,m.R,m.s.gn,m.g,m.tn,m.t,m.rn,m.rq⟩
def ldY(m:Bu):Nat->Value:=fun p=>if p<20 then lZ m.s p else if p=20 then(pt m.tb)else .slice (m.ra (p-21)) (m.rn (p-21)) (m.rc (p-21))
def jP(x:Nat->Int):Nat->Value:=fun p=>if p=0 then au (x 0)else if p=3 then au (x 3)else aC (x p)
def ndX(m:Bu):Nat->Value:=flat 56 fun k=>Ni (m.id k) (m.par k) (m.R k)
def grX(m:Bu):Nat->Value:=flat 5 fun k=>jP (m.g k)
def trX(t:Nat->Nat->Int):Nat->Value:=flat 2 fun k=>rv .u64 (t k)
structure Nj(w:World)(p:Nat)(m:Bu):Prop where
 c:gI w p 0 27 (ldY m)
 an:jv w m.s.na m.s.nn 56 (ndX m)
 ag:jv w m.s.ga m.s.gn 5 (grX m)
 tc:gI w m.tb 0 1 (fun _ => .slice m.ta m.tn m.tc)
 at2:jv w m.ta m.tn 2 (trX m.t)
 ar : ∀ i,i<6->jv w (m.ra i) (m.rn i) 1 (rv .u64 (m.rq i))
 bn:m.s.nn<=1000000
 bg:m.s.gn<=1000000
 bt:m.tn<=1000000
 br : ∀ i,i<6->m.rn i<=1000000
section
variable {w w':World} {p:Nat} {m:Bu}
theorem Nj.n(h:Nj w p m):Z8 w m.s.na m.s.nn m.id m.par m.R:=fun _ a=>h.an.at a
theorem Nj.g(h:Nj w p m) : ∀ k,k<m.s.gn -> ∃ b a,m.s.ga=some ⟨b,a,none⟩/\gI w b (a+5*k) 5 (jP (m.g k)):=fun _ c=>h.ag.at c
theorem Nj.t(h:Nj w p m) : ∀ k,k<m.tn -> ∃ b a,m.ta=some ⟨b,a,none⟩/\gI w b (a+2*k) 2 (rv .u64 (m.t k)):=fun _ c=>h.at2.at c
theorem Nj.r(h:Nj w p m) : ∀ i,i<6 -> ∀ k,k<m.rn i -> ∃ b a,m.ra i=some ⟨b,a,none⟩/\gI w b (a+k) 1 (fun _=>aC (m.rq i k)):=fun i d k g=>by
 obtain⟨b,a,e,c⟩:=h.ar i d (by omega)
 refine⟨b,a,e,fun j f => ?_⟩
 obtain rfl:j=0:=by omega
 exact c k (by omega)
theorem Nj.below(h:Nj w p m)(a:Below w.heap.size w w'):Nj w' p m where
 c:=h.c.below a (h.c.lt (by omega))
 an:=h.an.up a rfl
 ag:=h.ag.up a rfl
 tc:=h.tc.below a (h.tc.lt (by omega))
 at2:=h.at2.up a rfl
 ar:=fun i b=>(h.ar i b).up a rfl
 bn:=h.bn
 bg:=h.bg
 bt:=h.bt
 br:=h.br
end
def fE(P:Nat->Bool):Nat->Int
 | 0 => -1
 | n+1=>if 0<=fE P n then fE P n else if P n then(n:Int)else -1
theorem rD{P:Nat->Bool} : ∀ {n:Nat},(∀ i,i<n->P i=false)->fE P n = -1
 | 0,_=>rfl
 | n+1,h=>by
   have:=rD (P:=P) (n:=n) fun i a=>h i (by omega)
   simp only[fE]; rw[this,if_neg (by omega),h n (by omega)]; rfl
theorem Aa{P:Nat->Bool}{k:Nat}(a : ∀ i,i<k->P i=false)(b:P k=true) : ∀ {n:Nat},k<n->fE P n=(k:Int)
 | 0,h=>absurd h (by omega)
 | n+1,h=>by
   simp only[fE]
   by_cases e:k=n
   ·subst e; rw[rD a,if_neg (by omega),b]; rfl
   ·rw[Aa a b (n:=n) (by omega),if_pos (by omega)]
theorem gu(P:Nat->Bool) : ∀ n:Nat,(∃ k:Nat,k<n/\fE P n=(k:Int)/\P k=true)\/(fE P n = -1 /\ ∀ i,i<n->P i=false)
 | 0 => .inr ⟨rfl,fun i h=>absurd h (by omega)⟩
 | n+1=>by
   rcases gu P n with ⟨k,d,e,a⟩|⟨e,a⟩
   ·exact .inl ⟨k,by omega,by simp only[fE]; rw[e,if_pos (by omega)],a⟩
   ·by_cases h:P n=true
    ·exact .inl ⟨n,by omega,by simp only[fE]; rw[e,if_neg (by omega),h]; rfl,h⟩
    ·rw[Bool.not_eq_true]at h
     refine .inr ⟨by simp only[fE]; rw[e,if_neg (by omega),h]; rfl,fun i c => ?_⟩
     by_cases b:i=n
     ·subst b; exact h
     ·exact a i (by omega)
def Bu.node(m:Bu)(id:Int):Int:=fE (fun i=>decide (m.id i=id)) m.s.nn
def Bu.grant(m:Bu)(o r:Int):Int:=fE (fun i=>decide (m.g i 0=o)&&decide (m.g i 1=r)) m.s.gn
def Bu.rE(m:Bu)(a:Nat)(r:Int):Int:=fE (fun i=>decide (m.rq a i=r)) (m.rn a)
structure Nk(w:World)(tb:Nat)(ta:Option Addr)(tn tc:Nat)(t:Nat->Nat->Int):Prop where
 tc:gI w tb 0 1 (fun _ => .slice ta tn tc)
 t : ∀ k,k<tn -> ∃ b off,ta=some ⟨b,off,none⟩/\gI w b (off+2*k) 2 (rv .u64 (t k))
 bt:tn<=1000000
theorem Nk.below{w w':World}{f:Nat}{d:Option Addr}{tn g:Nat}{t:Nat->Nat->Int}(h:Nk w f d tn g t)(a:Below w.heap.size w w'):Nk w' f d tn g t where
 tc:=h.tc.below a (h.tc.lt (by omega))
 t:=fun k i=>by obtain⟨b,j,e,c⟩:=h.t k i; exact⟨b,j,e,c.below a (c.lt (by omega))⟩
 bt:=h.bt
def aT(t:Nat->Nat->Int)(tn:Nat)(x:Int):Int:=fE (fun i=>decide (t i 0=x)) tn
def bL(t:Nat->Nat->Int)(tn:Nat):Nat->Int->Int
 | 0,x=>x
 | k+1,x=>t (aT t tn (bL t tn k x)).toNat 1
end
namespace Rt
theorem rF{t:Nat->Nat->Int}{tn:Nat}{x:Int}(h:0<=aT t tn x) : ∃ j:Nat,j<tn/\aT t tn x=(j:Int)/\t j 0=x:=by
 rcases gu (fun i=>decide (t i 0=x)) tn with ⟨k,a,e,b⟩|⟨e,_⟩
 ·exact⟨k,a,e,of_decide_eq_true b⟩
 unfold aT at h; rw[e]at h; omega
end Rt
-- (*sU.Tree).Has is not in this seat
-- (*sU.Tree).Path is not in this seat
namespace Rt
def oK(k a:Nat):Bu := { s:=⟨fun i=>decide (i<k),fun _=>false,fun _=>0,none,0,0,none,0,0⟩,id:=fun _=>0,par:=fun _=>0,R:=fun _ _=>0,g:=fun _ _=>0,tb:=a,ta:=none,tn:=0,tc:=0,t:=fun _ _=>0,ra:=fun _=>none,rn:=fun _=>0,rc:=fun _=>0,rq:=fun _ _=>0 }
end Rt
-- (*jd.Ledger).Node is not in this seat
-- jd.New is not in this seat
namespace Rt
def vN(t:Nat->Nat->Int)(k:Nat)(id par:Int):Nat->Nat->Int:=fun i=>if i<k then t i else if i=k then(fun j=>if j=0 then id else par)else t (i-1)
def Ci(t:Nat->Nat->Int)(tn:Nat)(x:Int):Prop := ∀ i,i<4->0<=aT t tn (bL t tn i x)
open Classical in
noncomputable def Nl(t:Nat->Nat->Int)(tn:Nat)(id par:Int):Int:=if id=0 then 1 else if 0<=aT t tn id then 14 else if par≠0/\aT t tn par<0 then 9 else if 32<=tn\/Ci t tn par then 6 else 0
end Rt
-- (*sU.Tree).Add is not in this seat
namespace Rt
def wJ(o a:Int):Int:=if 1<=o/\o<=6/\1<=a/\a<1099511627776 then 1099511627776*o+a else 0
end Rt
-- sU.Id is not in this seat
-- KE.Few is not in this seat
section
theorem Nn(id par:Int)(R:Nat->Int)(j:Nat):(Ni id par R j).oneCell'=true:=by unfold Ni; split <;> (try split) <;> rfl
theorem UK(id par:Int)(R:Nat->Int){q p:Nat}(h:q=p+2):Ni id par R q=au (R p):=by subst h; unfold Ni; rw[if_neg (by omega),if_neg (by omega),Nat.add_sub_cancel]
theorem ze(x:Nat->Int)(j:Nat):(jP x j).oneCell'=true:=by unfold jP; split <;> (try split) <;> rfl
theorem Dr(m:zZ)(j:Nat):(lZ m j).oneCell'=true:=by unfold lZ; repeat (first|rfl|split)
def qG(m:Bu)(i:Nat):Value := .slice (m.ra i) (m.rn i) (m.rc i)
def Ec(w:World)(B k:Nat)(m:Bu):Prop :=
 (∀ i,i<k->Fx.Own w B 29 1 (qG m i) (m.rn i) (rv .u64 (m.rq i))) /\ ∀ i j,i<k->j<k->i≠j -> ∀ g,(qG m i).ownBlock=some g->(qG m j).ownBlock≠some g
section
variable {w w':World} {B k:Nat} {m:Bu}
theorem Ec.up(h:Ec w B k m)(a:Below w.heap.size w w'):Ec w' B k m:=⟨fun i b=>(h.1 i b).up a,h.2⟩
instance:Rt.Tr w w' (Ec w B k m) (Ec w' B k m):=⟨fun b h=>h.up b⟩
theorem Ec.om{a:List TypeId}(h:Ec w B k m)(c:jO a w w')(d:a.contains 29=false):Ec w' B k m:=⟨fun i b=>(h.1 i b).om c d,h.2⟩
instance {a:List TypeId}:Rt.Tc a w w' (Ec w B k m) (Ec w' B k m) (!(a.contains 29)):=⟨fun b h e=>h.om b (by simpa using e)⟩
theorem Ec.zero(w:World)(B:Nat)(m:Bu):Ec w B 0 m:=⟨fun _ h=>absurd h (Nat.not_lt_zero _),fun _ _ h=>absurd h (Nat.not_lt_zero _)⟩
theorem Ec.snoc{a:Bu}(h:Ec w B k m)(c : ∀ i,i<k->qG a i=qG m i/\a.rn i=m.rn i/\a.rq i=m.rq i)(s:Fx.Own w B 29 1 (qG a k) (a.rn k) (rv .u64 (a.rq k)))(l : ∀ i,i<k -> ∀ g,(qG m i).ownBlock=some g->(qG a k).ownBlock≠some g):Ec w B (k+1) a:=by
 refine⟨fun i t => ?_,fun i j t u n g b => ?_⟩
 ·by_cases e:i=k
  ·subst e; exact s
  obtain⟨p,q,r⟩:=c i (by omega)
  rw[p,q,r]; exact h.1 i (by omega)
 by_cases o:i=k
 ·subst o
  by_cases d:j=i
  ·exact absurd d.symm n
  intro f
  rw[(c j (by omega)).1]at f
  exact l j (by omega) g f b
 rw[(c i (by omega)).1]at b
 by_cases d:j=k
 ·subst d; exact l i (by omega) g b
 rw[(c j (by omega)).1]; exact h.2 i j (by omega) (by omega) n g b
end
def bB{a:Type}(f:Nat->a)(k:Nat)(v:a):Nat->a:=fun i=>if i=k then v else f i
end
namespace Rt
def rG(id:Nat->Int)(o:Int):Nat->Nat
 | 0=>0
 | n+1=>rG id o n+if id n / 1099511627776=o then 1 else 0
noncomputable def rH(L:dR)(v:EvM):Int:=if 5<=rG L.id v.o L.nn\/140737488355328<v.bH then 6 else Nl L.t L.tn (wJ v.o v.seq) v.node
def rJ(f:Nat->Int)(n:Nat)(x:Int):Nat:=down (fun i=>decide (x<f i)) n
def rM(L:dR)(v:EvM):dR :=
 { L with nn:=L.nn+1,id:=bT L.id (rJ L.id L.nn (wJ v.o v.seq)) (wJ v.o v.seq),par:=bT L.par (rJ L.id L.nn (wJ v.o v.seq)) v.node,
          R:=bT L.R (rJ L.id L.nn (wJ v.o v.seq)) (upd (fun _=>0) (v.o-1).toNat v.bH),
          tn:=L.tn+1,t:=vN L.t (down (fun i=>decide (wJ v.o v.seq<L.t i 0)) L.tn) (wJ v.o v.seq) v.node }
end Rt
-- (*jd.Ledger).makes is not in this seat
namespace Rt
theorem qc(x:Nat->Int)(n:Int)(is:Bool)(a:Int)(off:Nat) :
 ((bQ x n is a off).1=zero/\(bQ x n is a off).2≠0 /\ ¬ (may x=true/\1<=n/\n<=1125899906842624/\is=true/\a=0/\x off+n<=1125899906842624)) \/
 ((may x=true/\1<=n/\n<=1125899906842624/\is=true/\a=0/\x off+n<=1125899906842624)/\bQ x n is a off=(upd x off (x off+n),0)):=by
 unfold bQ
 by_cases f:may x=true
 ·by_cases c:1<=n
  ·by_cases d:n<=1125899906842624
   ·rw[f,decide_eq_true c,decide_eq_true d]
    simp only[Bool.and_self,if_true]
    cases is
    ·left; exact⟨rfl,(by show(10:Int)≠0; decide),fun h=>by cases h.2.2.2.1⟩
    by_cases b:a=0
    ·by_cases e:x off+n<=1125899906842624
     ·right; exact⟨⟨trivial,c,d,rfl,b,e⟩,by rw[if_pos rfl,if_pos b,if_pos e]⟩
     left; rw[if_pos rfl,if_pos b,if_neg e]; exact⟨rfl,by decide,fun h=>e h.2.2.2.2.2⟩
    left; rw[if_pos rfl,if_neg b]; exact⟨rfl,b,fun h=>b h.2.2.2.2.1⟩
   left; rw[decide_eq_false d,Bool.and_false,if_neg (by decide)]; exact⟨rfl,by decide,fun h=>d h.2.2.1⟩
  left; rw[decide_eq_false c,Bool.and_false,Bool.false_and,if_neg (by decide)]; exact⟨rfl,by decide,fun h=>c h.2.1⟩
 left; rw[show may x=false by simpa using f,Bool.false_and,Bool.false_and,if_neg (by decide)]; exact⟨rfl,by decide,fun h=>by cases h.1⟩
theorem G5{x:Nat->Int}(h:Pn x){off:Nat}{n:Int}(h1:1<=n)(c:x off+n<=1125899906842624)(a:off<54):Pn (upd x off (x off+n)):=by
 intro p b
 unfold upd
 split
 ·have:=h off a; omega
 exact h p b
theorem vO{i:Int}(h:iJ i=true) : ∃ a:Nat,a<6/\i=(a:Int)+1/\i.toNat-1=a:=by
 have:1<=i/\i<=6:=by unfold iJ at h; simpa using h
 exact⟨(i-1).toNat,by omega,by omega,by omega⟩
structure Moved(x y:Nat->Int)(a b:Nat)(n:Int):Prop where
 may:may y=true
 l : ∀ k,k<6->L y k=L x k+(if k=b then n else 0)-(if k=a then n else 0)
 g:oJ y=oJ x
 u:jZ y=jZ x
theorem Jh{x:Nat->Int}{i j n:Int}(h:(gL x i j n).2=0) : ∃ a b:Nat,a<6/\b<6/\a≠b/\i=(a:Int)+1/\j=(b:Int)+1/\1<=n/\n<=1125899906842624/\n<=L x a/\Moved x (gL x i j n).1 a b n/\(gL x i j n).1=upd x (18+a*6+b) (x (18+a*6+b)+n):=by
 unfold gL at *
 rcases qc x n (iJ i&&iJ j) (nM x i j n) (jB i j)with ⟨_,f,_⟩|⟨⟨hm,h1,f,hr,he,hx⟩,heq⟩
 ·exact absurd h f
 rw[Bool.and_eq_true]at hr
 obtain⟨a,g,l,D⟩:=vO hr.1
 obtain⟨b,m,q,E⟩:=vO hr.2
 have s:jB i j=18+a*6+b:=by unfold jB; rw[D,E]
 rw[s]at heq hx
 rw[s]
 have B:a≠b:=by
  intro z
  unfold nM at he
  rw[if_pos (by rw[l,q,z])]at he
  cases he
 have y:n<=L x a:=by
  unfold nM at he
  rw[if_neg (by omega)]at he
  by_cases d:dU x i<n
  ·rw[decide_eq_true d]at he; cases he
  ·rw[l,EY hm a g]at d; omega
 obtain⟨e,t,w⟩:=(lW x).1 hm
 have d:=UJ x a b g m n
 have c : ∀ p,p<18->upd x (18+a*6+b) (x (18+a*6+b)+n) p=x p:=fun p I=>eH _ _ _ _ (by omega)
 have o:oJ (upd x (18+a*6+b) (x (18+a*6+b)+n))=oJ x:=by unfold oJ G; rw[c 0 (by omega),c 1 (by omega),c 2 (by omega),c 3 (by omega),c 4 (by omega),c 5 (by omega)]
 have A:(bQ x n (iJ i&&iJ j) (nM x i j n) (18+a*6+b)).1=upd x (18+a*6+b) (x (18+a*6+b)+n):=by rw[heq]
 rw[A]
 refine⟨a,b,g,m,B,l,q,h1,f,y,⟨?_,d,o,?_⟩,rfl⟩
 ·rw[lW]
  refine⟨G5 e h1 hx (by omega),fun k r => ?_,by rw[o]; exact w⟩
  obtain⟨H,u,v⟩:=t k r
  refine⟨?_,?_,?_⟩
  ·rw[d k r]
   split
   ·split <;> omega
   split
   ·rename_i hka; subst hka; omega
   omega
  ·unfold F C at *; rw[c _ (by omega),c _ (by omega)]; exact u
  unfold R at *; rw[eH _ _ _ _ (by omega)]; exact v
 unfold jZ C F; simp only[c _ (show 6+0<18 by omega),c _ (show 6+1<18 by omega),c _ (show 6+2<18 by omega),c _ (show 6+3<18 by omega),c _ (show 6+4<18 by omega),c _ (show 6+5<18 by omega),c _ (show 12+0<18 by omega),c _ (show 12+1<18 by omega),c _ (show 12+2<18 by omega),c _ (show 12+3<18 by omega),c _ (show 12+4<18 by omega),c _ (show 12+5<18 by omega)]
theorem Ab(x:Nat->Int)(off:Nat)(c:off<18)(v:Int)(a b:Nat):R (upd x off v) a b=R x a b:=eH _ _ _ _ (by omega)
theorem Np(x:Nat->Int)(off:Nat)(a:off<18)(v:Int)(k:Nat):L (upd x off v) k=L x k+(G (upd x off v) k-G x k)+(F (upd x off v) k-F x k)-(C (upd x off v) k-C x k):=by
 unfold L
 simp only[Ab x off a v]
 omega
theorem Yk(x:Nat->Int)(a:Nat)(n:Int)(k:Nat):C (upd x (6+a) (x (6+a)+n)) k=C x k+(if k=a then n else 0):=by
 unfold C upd
 by_cases h:k=a
 ·subst h; simp
 rw[if_neg (by omega),if_neg h]; omega
theorem Yl(x:Nat->Int)(a:Nat)(n:Int)(k:Nat):F (upd x (12+a) (x (12+a)+n)) k=F x k+(if k=a then n else 0):=by
 unfold F upd
 by_cases h:k=a
 ·subst h; simp
 rw[if_neg (by omega),if_neg h]; omega
theorem Ym(x:Nat->Int)(a:Nat)(n:Int)(k:Nat):G (upd x a (x a+n)) k=G x k+(if k=a then n else 0):=by
 unfold G upd
 by_cases h:k=a
 ·subst h; simp
 rw[if_neg h,if_neg h]; omega
theorem six(a:Nat)(ha:a<6)(n:Int):(if 0=a then n else 0)+(if 1=a then n else 0)+(if 2=a then n else 0)+(if 3=a then n else 0)+(if 4=a then n else 0)+(if 5=a then n else 0)=n:=by
 have:a=0\/a=1\/a=2\/a=3\/a=4\/a=5:=by omega
 rcases this with h|h|h|h|h|h <;> subst h <;> simp
theorem Ji{x:Nat->Int}{i n:Int}(h:(bO x i n).2=0) : ∃ a:Nat,a<6/\i=(a:Int)+1/\1<=n/\n<=1125899906842624/\n<=L x a/\C x a+n<=1125899906842624/\may (bO x i n).1=true /\
 (∀ k,k<6->L (bO x i n).1 k=L x k-(if k=a then n else 0))/\oJ (bO x i n).1=oJ x/\jZ (bO x i n).1=jZ x+n/\(bO x i n).1=upd x (6+a) (x (6+a)+n):=by
 unfold bO at *
 rcases qc x n (iJ i) (rz x i n) (6+(i.toNat-1))with ⟨_,j,_⟩|⟨⟨hm,h1,j,hr,he,hx⟩,heq⟩
 ·exact absurd h j
 obtain⟨a,l,o,p⟩:=vO hr
 rw[p]at heq hx
 rw[p]
 have t:n<=L x a:=by
  unfold rz at he
  by_cases g:dU x i<n
  ·rw[decide_eq_true g]at he; cases he
  ·rw[o,EY hm a l]at g; omega
 obtain⟨e,q,s⟩:=(lW x).1 hm
 have u:(bQ x n (iJ i) (rz x i n) (6+a)).1=upd x (6+a) (x (6+a)+n):=by rw[heq]
 rw[u]
 have b:=Yk x a n
 have f : ∀ k,k<6->G (upd x (6+a) (x (6+a)+n)) k=G x k:=fun k d=>eH _ _ _ _ (by omega)
 have c : ∀ k,k<6->F (upd x (6+a) (x (6+a)+n)) k=F x k:=fun k d=>eH _ _ _ _ (by omega)
 have g : ∀ k,k<6->L (upd x (6+a) (x (6+a)+n)) k=L x k-(if k=a then n else 0):=by
  intro k d
  rw[Np x (6+a) (by omega),f k d,c k d,b k]; omega
 have m:oJ (upd x (6+a) (x (6+a)+n))=oJ x:=by unfold oJ; rw[f 0 (by omega),f 1 (by omega),f 2 (by omega),f 3 (by omega),f 4 (by omega),f 5 (by omega)]
 refine⟨a,l,o,h1,j,t,hx,?_,g,m,?_,rfl⟩
 ·rw[lW]
  refine⟨G5 e h1 hx (by omega),fun k d => ?_,by rw[m]; exact s⟩
  obtain⟨v,w,r⟩:=q k d
  refine⟨?_,?_,?_⟩
  ·rw[g k d]
   split
   ·rename_i hka; subst hka; omega
   omega
  ·rw[c k d,b k]; split <;> omega
  rw[Ab x (6+a) (by omega)]; exact r
 unfold jZ
 rw[c 0 (by omega),c 1 (by omega),c 2 (by omega),c 3 (by omega),c 4 (by omega),c 5 (by omega),b 0,b 1,b 2,b 3,b 4,b 5]
 have:=six a l n
 omega
theorem Jj{x:Nat->Int}{i n:Int}(h:(bP x i n).2=0) : ∃ a:Nat,a<6/\i=(a:Int)+1/\1<=n/\n<=1125899906842624/\n<=C x a-F x a/\may (bP x i n).1=true /\
 (∀ k,k<6->L (bP x i n).1 k=L x k+(if k=a then n else 0))/\oJ (bP x i n).1=oJ x/\jZ (bP x i n).1=jZ x-n/\(bP x i n).1=upd x (12+a) (x (12+a)+n):=by
 unfold bP at *
 rcases qc x n (iJ i) (qz x i n) (12+(i.toNat-1))with ⟨_,j,_⟩|⟨⟨hm,h1,j,hr,he,hx⟩,heq⟩
 ·exact absurd h j
 obtain⟨a,m,u,l⟩:=vO hr
 rw[l]at heq hx
 rw[l]
 have s:n<=C x a-F x a:=by
  unfold qz at he
  rw[l]at he
  by_cases g:C x a-F x a<n
  ·rw[decide_eq_true g]at he; cases he
  ·omega
 obtain⟨e,p,r⟩:=(lW x).1 hm
 have t:(bQ x n (iJ i) (qz x i n) (12+a)).1=upd x (12+a) (x (12+a)+n):=by rw[heq]
 rw[t]
 have c:=Yl x a n
 have f : ∀ k,k<6->G (upd x (12+a) (x (12+a)+n)) k=G x k:=fun k d=>eH _ _ _ _ (by omega)
 have b : ∀ k,k<6->C (upd x (12+a) (x (12+a)+n)) k=C x k:=fun k d=>eH _ _ _ _ (by omega)
 have g : ∀ k,k<6->L (upd x (12+a) (x (12+a)+n)) k=L x k+(if k=a then n else 0):=by
  intro k d
  rw[Np x (12+a) (by omega),f k d,c k,b k d]; omega
 have o:oJ (upd x (12+a) (x (12+a)+n))=oJ x:=by unfold oJ; rw[f 0 (by omega),f 1 (by omega),f 2 (by omega),f 3 (by omega),f 4 (by omega),f 5 (by omega)]
 refine⟨a,m,u,h1,j,s,?_,g,o,?_,rfl⟩
 ·rw[lW]
  refine⟨G5 e h1 hx (by omega),fun k d => ?_,by rw[o]; exact r⟩
  obtain⟨v,w,q⟩:=p k d
  refine⟨?_,?_,?_⟩
  ·rw[g k d]; split <;> omega
  ·rw[c k,b k d]
   split
   ·rename_i hka; subst hka; omega
   omega
  rw[Ab x (12+a) (by omega)]; exact q
 unfold jZ
 rw[b 0 (by omega),b 1 (by omega),b 2 (by omega),b 3 (by omega),b 4 (by omega),b 5 (by omega),c 0,c 1,c 2,c 3,c 4,c 5]
 have:=six a m n
 omega
end Rt
namespace Rt
def dK(f:(Nat->Int)->(Nat->Int) × Int)(idx:Nat->Nat)(R:Nat->Nat->Int):Nat->(Nat->Nat->Int) × Int
 | 0=>(R,0)
 | j+1=>if(dK f idx R j).2=0 then(if(f ((dK f idx R j).1 (idx j))).2=0 then(bB (dK f idx R j).1 (idx j) (f ((dK f idx R j).1 (idx j))).1,0)else((dK f idx R j).1,(f ((dK f idx R j).1 (idx j))).2))else dK f idx R j
def lead(P:Nat->Bool):Nat->Nat
 | 0=>0
 | n+1=>if lead P n=n/\P n=true then n+1 else lead P n
theorem E5{P:Nat->Bool} : ∀ {n:Nat},(∀ i,i<n->P i=true)->lead P n=n
 | 0,_=>rfl
 | n+1,h=>by unfold lead; rw[if_pos ⟨E5 fun i a=>h i (by omega),h n (by omega)⟩]
theorem Jk{P:Nat->Bool}{K:Nat}(h1 : ∀ i,i<K->P i=true)(a:P K=false) : ∀ {n:Nat},K<=n->lead P n=K
 | 0,h=>by unfold lead; omega
 | n+1,h=>by
   unfold lead
   by_cases e:K=n+1
   ·rw[if_pos ⟨E5 fun i d=>h1 i (by omega),h1 n (by omega)⟩]; exact e.symm
   ·rw[Jk h1 a (n:=n) (by omega),if_neg]
    rintro ⟨c,b⟩
    subst c; rw[a]at b; cases b
def fQ(t:Nat->Nat->Int)(tn:Nat)(x:Int):Nat:=lead (fun i=>decide (0<=aT t tn (bL t tn i x))) 1000
theorem vP{t:Nat->Nat->Int}{tn K D:Nat}{x:Int}(h1 : ∀ i,i<K->0<=aT t tn (bL t tn i x))(c:aT t tn (bL t tn K x)<0)(d:aT t tn (bL t tn D x)<0)(e:D<=1000):K=fQ t tn x:=by
 have a:K<=1000:=by
  rcases Nat.lt_or_ge D K with h|h
  ·have:=h1 D h; omega
  ·omega
 exact(Jk (fun i b=>decide_eq_true (h1 i b)) (decide_eq_false (by omega)) a).symm
end Rt
def dR.node(L:dR)(x:Int):Int:=fE (fun i=>decide (L.id i=x)) L.nn
def dR.grant(L:dR)(o r:Int):Int:=fE (fun i=>decide (L.g i 0=o)&&decide (L.g i 1=r)) L.gn
def dR.rE(L:dR)(a:Nat)(r:Int):Int:=fE (fun i=>decide (L.rq a i=r)) (L.rn a)
namespace Rt
def tJ(L:dR)(x:Int)(i:Nat):Nat:=(L.node (bL L.t L.tn i x)).toNat
def wV(v:EvM):Nat->Int:=fun j=>if j=0 then v.o else if j=1 then v.req else if j=2 then v.node else if j=3 then v.bH else 0
def E8(v:EvM)(x:Nat->Int):Bool:=decide (v.o<x 0) || (decide (x 0=v.o)&&decide (v.req<x 1))
def bD(v:EvM):Nat:=(v.o-1).toNat
def uH(L:dR)(v:EvM):(Nat->Nat->Int) × Int:=dK (fun x=>bO x v.o v.bH) (tJ L v.node) L.R (fQ L.t L.tn v.node)
def mP(L:dR)(v:EvM):Int:=if 0<=L.rE (bD v) v.req then 14 else if fQ L.t L.tn v.node=0 then 9 else(uH L v).2
def rO(L:dR)(a:Nat)(r:Int):dR := { L with rn:=bB L.rn a (L.rn a+1),rq:=bB L.rq a (bB (L.rq a) (L.rn a) r) }
def iE(L:dR)(v:EvM):dR :=
 rO { L with R:=(uH L v).1,gn:=L.gn+1,g:=bT L.g (down (fun i=>E8 v (L.g i)) L.gn) (wV v) } (bD v) v.req
theorem Ec.app{w w':World}{B a g cap:Nat}{r:Int}{m d:Bu}(h:Ec w B 6 m)(_ha:a<6)(h1:d.ra=bB m.ra a (some ⟨g,0,none⟩))(l:d.rn=bB m.rn a (m.rn a+1))(t:d.rc=bB m.rc a cap)(u:d.rq=bB m.rq a (bB (m.rq a) (m.rn a) r))
 (z:Fx.Own w' B 29 1 (bJ g (m.rn a+1) cap) (m.rn a+1) (rv .u64 (bB (m.rq a) (m.rn a) r))) (A:w.grownBy w' (qG m a).ownBlock) (C:(qG m a).ownBlock=some g\/g=w.heap.size):Ec w' B 6 d:=by
 have k : ∀ i,i≠a->qG d i=qG m i:=fun i c=>by unfold qG; rw[h1,l,t]; simp[bB,c]
 have n:qG d a=bJ g (m.rn a+1) cap:=by unfold qG; rw[h1,l,t]; simp[bB]
 have y : ∀ i,i<6->i≠a -> ∀ q,(qG m i).ownBlock=some q->q≠g:=fun i c D q b e=>by
  subst e
  rcases C with f|f
  ·exact h.2 i a c _ha D q b f
  ·have:=((h.1 i c).ge b).2; omega
 refine⟨fun i c => ?_,fun i j c v p q b => ?_⟩
 ·by_cases e:i=a
  ·subst e; rw[n,l,u]; simp only[bB,if_true]; exact z
  rw[k i e,l,u]
  simp only[bB,if_neg e]
  refine World.ownsRow.kept (h.1 i c) A ?_
  by_cases x:(qG m i).ownBlock=none
  ·exact .inl x
  right
  intro f
  cases b:(qG m i).ownBlock with
  | none=>exact x b
  | some q=>rw[b]at f; exact h.2 i a c _ha e q b f.symm
 by_cases e:i=a
 ·subst e
  rw[n]at b
  rw[k j (fun e=>p e.symm)]
  intro o
  exact y j v (fun e=>p e.symm) q o (Option.some.inj b).symm
 rw[k i e]at b
 by_cases s:j=a
 ·subst s; rw[n]; intro o; exact y i c e q b (Option.some.inj o).symm
 rw[k j s]; exact h.2 i j c v p q b
end Rt
def Ed(a:World)(l:List (Nat × (Nat->Int)))(w':World):Prop:=(∀ p∈l,w'.heap[p.1]? = some (.cells (aH .i64 54 p.2) 66 (0,0)))/\Below a.heap.size a w'
theorem Ed.up{b w w':World}{l:List (Nat × (Nat->Int))}(h:Ed b l w)(a:Below w.heap.size w w'):Ed b l w':=⟨fun p c=>Lx (h.1 p c) a,Ei h.2 a⟩
instance {a w w':World} {l:List (Nat × (Nat->Int))}:Rt.Tr w w' (Ed a l w) (Ed a l w'):=⟨fun b h=>h.up b⟩
theorem Ed.drew{a w:World}{l:List (Nat × (Nat->Int))}(h:Ed a l w):Ed a l w.drew:=⟨h.1,bN h.2 1⟩
theorem Ed.drop{a w:World}{p:Nat × (Nat->Int)}{l:List (Nat × (Nat->Int))}(h:Ed a (p::l) w):Ed a l w:=⟨fun q b=>h.1 q (by simp[b]),h.2⟩
theorem Ed.row{b w:World}{l:List (Nat × (Nat->Int))}(h:Ed b l w)(g:Nat)(x:Nat->Int)(a:(g,x)∈l):w.heap[g]? = some (.cells (aH .i64 54 x) 66 (0,0)):=h.1 (g,x) a
theorem Ed.add{b w:World}{l:List (Nat × (Nat->Int))}(h:Ed b l w){g:Nat}{x:Nat->Int}(c:w.heap[g]? = some (.cells (aH .i64 54 x) 66 (0,0))):Ed b ((g,x)::l) w :=
 ⟨fun p a=>by
  rcases List.mem_cons.1 a with rfl|a
  ·exact c
  ·exact h.1 p a,h.2⟩
theorem Ed.start(w:World)(x:Nat->Int):Ed w [(w.heap.size,x)] (w.alloc (.cells (aH .i64 54 x) 66)):=⟨fun p a=>by
 obtain rfl:p=(w.heap.size,x):=by simpa using a
 exact heap_alloc_new w _,(Below.refl _ _).alloc (Nat.le_refl _) _⟩
namespace Rt
theorem pl(k:Nat):((k:Int)+1).toNat-1=k:=by omega
end Rt
-- wW.Give is not in this seat
-- wW.Take is not in this seat
-- wW.Free is not in this seat
-- wW.Move is not in this seat
namespace Rt
def vQ(L:dR)(v:EvM):Nat:=(L.grant v.o v.of).toNat
def rP(L:dR)(v:EvM):(Nat->Nat->Int) × Int:=dK (fun x=>bP x v.o (L.g (vQ L v) 3)) (tJ L (L.g (vQ L v) 2)) L.R (fQ L.t L.tn (L.g (vQ L v) 2))
def nW(L:dR)(v:EvM):Int:=if 0<=L.rE (bD v) v.req then 14 else if L.grant v.o v.of<0\/L.g (vQ L v) 4≠0 then 12 else(rP L v).2
def eY(L:dR)(v:EvM):dR:=rO { L with R:=(rP L v).1,g:=bB L.g (vQ L v) (bB (L.g (vQ L v)) 4 v.req) } (bD v) v.req
end Rt
-- (*jd.Ledger).frees is not in this seat
namespace Rt
def Ac(L:dR)(v:EvM):Int:=if L.node v.node<0 then 9 else if 140737488355328<L.R (L.node v.node).toNat (bD v)+v.bH then 6 else 0
def Dt(L:dR)(v:EvM):dR := { L with R:=bB L.R (L.node v.node).toNat (upd (L.R (L.node v.node).toNat) (bD v) (L.R (L.node v.node).toNat (bD v)+v.bH)) }
def E9(L:dR)(v:EvM):(Nat->Int) × Int:=gL (L.R (L.node v.node).toNat) v.o v.dst v.bH
def wX(L:dR)(v:EvM):Int:=if L.node v.node<0 then 9 else if v.dst<1\/6<v.dst\/L.inn (v.dst-1).toNat=false then 10 else(E9 L v).2
def Du(L:dR)(v:EvM):dR := { L with R:=bB L.R (L.node v.node).toNat (E9 L v).1 }
noncomputable def mQ(L:dR)(v:EvM):Int :=
 if v.kind=1 then rH L v else if v.kind=2 then Ac L v else if v.kind=3 then mP L v else if v.kind=4 then nW L v else if v.kind=5 then wX L v else 0
def jQ(L:dR)(v:EvM):dR :=
 if v.kind=1 then rM L v else if v.kind=2 then Dt L v else if v.kind=3 then iE L v else if v.kind=4 then eY L v else if v.kind=5 then Du L v
 else if v.kind=6 then { L with inn:=bB L.inn (v.dst-1).toNat true } else { L with left:=bB L.left (bD v) true }
theorem nN{v:EvM}(h:cZ v=true):1<=v.kind/\v.kind<=7:=by
 unfold cZ at h
 simp only[Bool.and_eq_true]at h
 have a:=h.2
 unfold iP at a
 split at a; · omega
 split at a; · omega
 split at a; · omega
 split at a; · omega
 split at a; · omega
 split at a; · omega
 have:=of_decide_eq_true a; omega
theorem uI{v:EvM}(h:cZ v=true)(c:v.kind=2\/v.kind=3\/v.kind=5):1<=v.bH/\v.bH<=1125899906842624:=by
 unfold cZ at h
 simp only[Bool.and_eq_true]at h
 have a:=h.2
 unfold iP at a
 rw[if_neg (by omega)]at a
 have b:someE v=true->1<=v.bH/\v.bH<=1125899906842624:=fun h=>by unfold someE at h; simpa using h
 split at a; · exact b a
 split at a; · rw[Bool.and_eq_true]at a; exact b a.1
 rw[if_neg (by omega)]at a
 split at a; · rw[Bool.and_eq_true]at a; exact b a.1
 omega
theorem KF{v:EvM}(h:cZ v=true)(c:v.kind=6) : ∃ b:Nat,b<6/\v.dst=(b:Int)+1:=by
 unfold cZ at h
 simp only[Bool.and_eq_true]at h
 have a:=h.2
 unfold iP at a
 rw[if_neg (by omega),if_neg (by omega),if_neg (by omega),if_neg (by omega),if_neg (by omega),if_pos c]at a
 unfold zW at a
 rw[Bool.and_eq_true]at a
 exact dZ a.1
end Rt
-- (*jd.Ledger).does is not in this seat
namespace Rt
structure abQ(L:dR)(T:Nat):Prop where
 nn:L.nn<=33
 gn:L.gn<=T
 rn : ∀ i,i<6->L.rn i<=T
 tn : ∀ x,L.node x=aT L.t L.tn x
 dx : ∀ x,∃ D,D<=1000/\aT L.t L.tn (bL L.t L.tn D x)<0
 may : ∀ k,k<L.nn->may (L.R k)=true
 kn:EP L.known
open Classical in
noncomputable def dA(L:dR)(v:EvM):Int :=
 if cZ v=false then 1 else if xW L.known v=true then 14 else if iw L.known v=false then 13 else if L.inn (bD v)=false\/L.left (bD v)=true then 10 else mQ L v
def Nq(L:dR)(v:EvM):dR := { L with known:=bB L.known (bD v) (L.known (bD v)+1) }
open Classical in
noncomputable def dO(L:dR)(v:EvM):dR:=if dA L v=0 then Nq (jQ L v) v else L
theorem xX(L:dR)(v:EvM):(jQ L v).known=L.known:=by
 unfold jQ
 split; · unfold rM; rfl
 split; · unfold Dt; rfl
 split; · unfold iE rO; rfl
 split; · unfold eY rO; rfl
 split; · unfold Du; rfl
 split <;> rfl
end Rt
-- (*jd.Ledger).Apply is not in this seat
section
namespace Rt
structure Inv0(L:dR)(T:Nat):Prop where
 wY:L.tn=L.nn
 nn:L.nn<=32
 tid : ∀ i,i<L.nn->L.t i 0=L.id i/\L.t i 1=L.par i
 rise : ∀ i j,i<j->j<L.nn->L.id i<L.id j
 pos : ∀ i,i<L.nn->1<=L.id i
 top : ∀ i,i<L.nn->L.id i<7696581394432
 up : ∀ i,i<L.nn->L.par i=0 \/ ∃ j,j<L.nn/\L.id j=L.par i
 dep : ∀ x,∃ D,D<=4/\aT L.t L.tn (bL L.t L.tn D x)<0
 gn:L.gn<=T
 rn : ∀ i,i<6->L.rn i<=T
 may : ∀ k,k<L.nn->may (L.R k)=true
 g47 : ∀ k,k<L.nn -> ∀ a,a<6->L.R k a<=140737488355328
 kn:EP L.known
theorem Sw(a:Int):a<0\/0<=a:=by omega
theorem fG{t:Nat->Nat->Int}{tn:Nat}{x:Int}:0<=aT t tn x <-> ∃ i,i<tn/\t i 0=x:=by
 constructor
 ·intro h
  obtain⟨j,c,_,e⟩:=rF h
  exact⟨j,c,e⟩
 rintro ⟨i,b,e⟩
 rcases gu (fun i=>decide (t i 0=x)) tn with ⟨k,_,a,_⟩|⟨_,h2⟩
 ·unfold aT; rw[a]; omega
 have:=h2 i b; rw[decide_eq_true e]at this; cases this
theorem oL{t:Nat->Nat->Int}{tn:Nat}{x:Int}:aT t tn x<0 <-> ∀ i,i<tn->t i 0≠x:=by
 constructor
 ·intro h i a e
  have:=fG.2 ⟨i,a,e⟩; omega
 intro h
 rcases Sw (aT t tn x)with h1|h1
 ·exact h1
 obtain⟨i,a,e⟩:=fG.1 h1
 exact absurd e (h i a)
theorem oM{t:Nat->Nat->Int}{tn i:Nat}(c : ∀ i j,i<tn->j<tn->t i 0=t j 0->i=j)(hi:i<tn):aT t tn (t i 0)=(i:Int):=by
 obtain⟨j,b,e,a⟩:=rF (fG.2 ⟨i,hi,rfl⟩)
 rw[e,c j i b hi a]
theorem Ad{t:Nat->Nat->Int}{tn:Nat}{x:Int} : ∀ j,bL t tn (j+1) x=bL t tn j (bL t tn 1 x)
 | 0=>rfl
 | j+1=>by
   show t (aT t tn (bL t tn (j+1) x)).toNat 1=t (aT t tn (bL t tn j (bL t tn 1 x))).toNat 1
   rw[Ad j]
section
variable {L:dR} {T:Nat}
theorem Inv0.inj(h:Inv0 L T) : ∀ i j,i<L.nn->j<L.nn->L.id i=L.id j->i=j:=fun i j a b e=>by
 rcases Nat.lt_trichotomy i j with h1|h1|h1
 ·have:=h.rise i j h1 b; omega
 ·exact h1
 ·have:=h.rise j i h1 a; omega
theorem Inv0.Yn(h:Inv0 L T) : ∀ i j,i<L.tn->j<L.tn->L.t i 0=L.t j 0->i=j:=fun i j a b e=>by
 rw[h.wY]at a b
 rw[(h.tid i a).1,(h.tid j b).1]at e
 exact h.inj i j a b e
theorem xY{P Q:Nat->Bool} : ∀ {n:Nat},(∀ i,i<n->P i=Q i)->fE P n=fE Q n
 | 0,_=>rfl
 | n+1,h=>by
   simp only[fE]
   rw[xY (n:=n) fun i a=>h i (by omega),h n (by omega)]
theorem Inv0.node(h:Inv0 L T)(x:Int):L.node x=aT L.t L.tn x:=by
 unfold dR.node aT
 rw[h.wY]
 exact xY fun i a=>by rw[(h.tid i a).1]
theorem Inv0.w(h:Inv0 L T):abQ L T where
 nn:=by have:=h.nn; omega
 gn:=h.gn
 rn:=h.rn
 tn:=h.node
 dx:=fun x=>by obtain⟨D,b,a⟩:=h.dep x; exact⟨D,by omega,a⟩
 may:=h.may
 kn:=h.kn
theorem Inv0.mono{a:Nat}(h:Inv0 L T)(b:T<=a):Inv0 L a := { h with gn:=Nat.le_trans h.gn b,rn:=fun i c=>Nat.le_trans (h.rn i c) b }
theorem zf{a:Type}{f:Nat->a}{k i:Nat}{v:a}(h:i<k):bT f k v i=f i:=by unfold bT; rw[if_pos h]
theorem bK{a:Type}{f:Nat->a}{k:Nat}{v:a}:bT f k v k=v:=by unfold bT; rw[if_neg (by omega),if_pos rfl]
theorem zh{a:Type}{f:Nat->a}{k i:Nat}{v:a}(h:k<i):bT f k v i=f (i-1):=by unfold bT; rw[if_neg (by omega),if_neg (by omega)]
theorem bX{k i n:Nat}(b:k<=n)(hi:i<n+1):i=k \/ ∃ j,j<n/\(∀ {α:Type} (f:Nat->α) (v:α),bT f k v i=f j)/\(j<k->i=j)/\(k<=j->i=j+1):=by
 rcases Nat.lt_trichotomy i k with h|h|h
 ·exact .inr ⟨i,by omega,fun f v=>zf h,fun _=>rfl,fun a=>by omega⟩
 ·exact .inl h
 exact .inr ⟨i-1,by omega,fun f v=>zh h,fun a=>by omega,fun _=>by omega⟩
theorem rR{k j n:Nat}(a:j<n) : ∃ i,i<n+1/\i≠k /\ ∀ {α:Type} (f:Nat->α) (v:α),bT f k v i=f j:=by
 by_cases h:j<k
 ·exact⟨j,by omega,by omega,fun f v=>zf h⟩
 exact⟨j+1,by omega,by omega,fun f v=>by rw[zh (by omega)]; rfl⟩
theorem sV(t:Nat->Nat->Int)(k:Nat)(id par:Int)(i:Nat):vN t k id par i=bT t k (fun j=>if j=0 then id else par) i:=rfl
theorem Cj{P Q:Nat->Bool} : ∀ {n:Nat},(∀ i,i<n->P i=Q i)->down P n=down Q n
 | 0,_=>rfl
 | n+1,h=>by
   unfold down
   rw[Cj (n:=n) fun i a=>h i (by omega),h n (by omega)]
structure kL(t t':Nat->Nat->Int)(tn:Nat)(id par:Int):Prop where
 u : ∀ i j,i<tn->j<tn->t i 0=t j 0->i=j
 u' : ∀ i j,i<tn+1->j<tn+1->t' i 0=t' j 0->i=j
 no : ∀ i,i<tn->t i 0≠id
 old : ∀ i,i<tn -> ∃ j,j<tn+1/\t' j=t i
 new : ∃ j,j<tn+1/\t' j 0=id/\t' j 1=par
 back : ∀ j,j<tn+1->t' j 0=id \/ ∃ i,i<tn/\t' j=t i
variable {t t':Nat->Nat->Int} {tn:Nat} {id par:Int}
theorem kL.find(h:kL t t' tn id par){x:Int}:0<=aT t' (tn+1) x<->(0<=aT t tn x\/x=id):=by
 rw[fG,fG]
 constructor
 ·rintro ⟨j,b,e⟩
  rcases h.back j b with a|⟨i,hi,a⟩
  ·exact .inr (e.symm.trans a)
  exact .inl ⟨i,hi,by rw[<- a]; exact e⟩
 rintro (⟨i,hi,e⟩|e)
 ·obtain⟨j,b,a⟩:=h.old i hi
  exact⟨j,b,by rw[a]; exact e⟩
 obtain⟨j,b,a,_⟩:=h.new
 exact⟨j,b,a.trans e.symm⟩
theorem kL.P8(h:kL t t' tn id par){x:Int}(hx:0<=aT t tn x):t' (aT t' (tn+1) x).toNat 1=t (aT t tn x).toNat 1:=by
 obtain⟨i,b,e⟩:=fG.1 hx
 obtain⟨j,f,a⟩:=h.old i b
 have c:aT t tn x=(i:Int):=by rw[<- e]; exact oM h.u b
 have d:aT t' (tn+1) x=(j:Int):=by
  have:t' j 0=x:=by rw[a]; exact e
  rw[<- this]; exact oM h.u' f
 rw[c,d]
 show t' j 1=t i 1
 rw[a]
theorem kL.iter(h:kL t t' tn id par){x:Int} : ∀ K,(∀ i,i<K->0<=aT t tn (bL t tn i x))->bL t' (tn+1) K x=bL t tn K x
 | 0,_=>rfl
 | K+1,hk=>by
   have a:=kL.iter h K fun i b=>hk i (by omega)
   show t' (aT t' (tn+1) (bL t' (tn+1) K x)).toNat 1=t (aT t tn (bL t tn K x)).toNat 1
   rw[a]; exact h.P8 (hk K (by omega))
theorem oN{t:Nat->Nat->Int}{tn:Nat}{x:Int} : ∀ D,aT t tn (bL t tn D x)<0 -> ∃ K,K<=D/\aT t tn (bL t tn K x)<0 /\ ∀ i,i<K->0<=aT t tn (bL t tn i x)
 | 0,h=>⟨0,Nat.le_refl _,h,fun _ a=>absurd a (Nat.not_lt_zero _)⟩
 | D+1,h=>by
   by_cases f : ∀ i,i<D+1->0<=aT t tn (bL t tn i x)
   ·exact⟨D+1,Nat.le_refl _,h,f⟩
   ·obtain⟨i,a⟩:=Classical.not_forall.1 f
    obtain⟨a,o⟩:=Classical.not_imp.1 a
    rcases Nat.lt_or_ge i D with h3|h3
    ·-- an earlier end
     have : ∀ n,n<=D->(∃ j,j<=n/\aT t tn (bL t tn j x)<0) -> ∃ K,K<=n/\aT t tn (bL t tn K x)<0 /\ ∀ i,i<K->0<=aT t tn (bL t tn i x):=by
      intro n
      induction n with
      | zero=>rintro _ ⟨j,m,k⟩; obtain rfl:j=0:=by omega
              exact⟨0,Nat.le_refl _,k,fun _ a=>absurd a (Nat.not_lt_zero _)⟩
      | succ n ih =>
        rintro k ⟨j,m,g⟩
        by_cases c : ∃ j,j<=n/\aT t tn (bL t tn j x)<0
        ·obtain⟨K,d,l⟩:=ih (by omega) c; exact⟨K,by omega,l⟩
        ·refine⟨n+1,Nat.le_refl _,?_,fun i a => ?_⟩
         ·by_cases e:j=n+1
          ·rw[<- e]; exact g
          ·exact absurd ⟨j,by omega,g⟩ c
         ·rcases Sw (aT t tn (bL t tn i x))with h7|h7
          ·exact absurd ⟨i,by omega,h7⟩ c
          ·exact h7
     obtain⟨K,d,b⟩:=this i (by omega) ⟨i,Nat.le_refl _,by omega⟩
     exact⟨K,by omega,b⟩
    ·obtain rfl:i=D:=by omega
     obtain⟨K,d,b⟩:=oN (t:=t) (tn:=tn) (x:=x) i (by omega)
     exact⟨K,by omega,b⟩
theorem kL.dep(h:kL t t' tn id par)(z:1<=id)(v : ∀ i,i<tn->t i 1=0\/0<=aT t tn (t i 1))(s:par=0\/0<=aT t tn par)(B:aT t tn 0<0)(o : ∀ x,∃ D,D<=4/\aT t tn (bL t tn D x)<0)(p : ¬ Ci t tn par) :
 ∀ x,∃ D,D<=4/\aT t' (tn+1) (bL t' (tn+1) D x)<0:=by
 -- an end of an old path is none of the new tree's nodes
 have A:aT t tn id<0:=oL.2 h.no
 have k : ∀ x K,x≠id->aT t tn (bL t tn K x)<0->(∀ i,i<K->0<=aT t tn (bL t tn i x))->aT t' (tn+1) (bL t' (tn+1) K x)<0:=fun x K c f a=>by
  rw[h.iter K a]
  rcases Sw (aT t' (tn+1) (bL t tn K x))with h1|h1
  ·exact h1
  ·exfalso
   rcases h.find.1 h1 with h2|h2
   ·omega
   ·cases K with
    | zero=>exact c h2
    | succ K =>
      have q:=a K (by omega)
      obtain⟨i,b,e⟩:=fG.1 q
      have d:bL t tn (K+1) x=t i 1:=by
       show t (aT t tn (bL t tn K x)).toNat 1=t i 1
       rw[<- e,oM h.u b]; rfl
      rw[d]at h2 f
      rcases v i b with h4|h4
      ·omega
      ·omega
 intro x
 by_cases c:x=id
 ·subst c
  obtain⟨i,b⟩:=Classical.not_forall.1 p
  obtain⟨y,b⟩:=Classical.not_imp.1 b
  obtain⟨K,f,g,a⟩:=oN (t:=t) (tn:=tn) (x:=par) i (by omega)
  refine⟨K+1,by omega,?_⟩
  have l:bL t' (tn+1) 1 x=par:=by
   obtain⟨j,r,m,d⟩:=h.new
   show t' (aT t' (tn+1) x).toNat 1=par
   rw[<- m,oM h.u' r]; exact d
  rw[Ad,l]
  refine k par K ?_ g a
  rintro rfl
  rcases s with h1|h1 <;> omega
 obtain⟨D,w,n⟩:=o x
 obtain⟨K,f,g,a⟩:=oN D n
 exact⟨K,by omega,k x K c g a⟩
end
end Rt
end
section
namespace Rt
section
variable {L:dR} {T:Nat} {v:EvM}
theorem P9{t:Nat->Nat->Int}{tn:Nat}{id par:Int}(h:Nl t tn id par=0):id≠0/\aT t tn id<0/\(par=0\/0<=aT t tn par)/\tn<32 /\ ¬ Ci t tn par:=by
 unfold Nl at h
 split at h; · cases h
 rename_i h1
 split at h; · cases h
 rename_i h2
 split at h; · cases h
 rename_i h3
 split at h; · cases h
 rename_i h4
 refine⟨h1,by omega,?_,?_,fun b=>h4 (.inr b)⟩
 ·rcases Sw (aT t tn par)with h5|h5
  ·by_cases a:par=0
   ·exact .inl a
   exact absurd ⟨a,h5⟩ h3
  exact .inr h5
 rcases Nat.lt_or_ge tn 32 with h5|h5
 ·exact h5
 exact absurd (Or.inl h5) h4
theorem mR(h:cZ v=true):1<=v.o/\v.o<=6/\1<=v.seq/\v.seq<1099511627776:=by
 have a:=iQ h
 have b:=yY h
 unfold jo at a
 simp only[Bool.and_eq_true,decide_eq_true_eq]at a
 exact⟨a.1,a.2,b.1,b.2⟩
theorem zi(h:cZ v=true):wJ v.o v.seq=1099511627776*v.o+v.seq:=by
 have:=mR h
 unfold wJ; rw[if_pos (by omega)]
theorem sW(h:cZ v=true):bD v<6:=by
 have:=mR h; unfold bD; omega
theorem Qa{a:Nat}{n:Int}(ha:a<6)(f:0<=n)(h1:n<=1125899906842624):may (upd (fun _=>0) a n)=true:=by
 have e : ∀ p,upd (fun _=>0) a n p=if p=a then n else 0:=fun p=>rfl
 rw[lW]
 refine⟨fun p l => ?_,fun k h => ?_,?_⟩
 ·rw[e]; split <;> omega
 ·have b : ∀ i j,R (upd (fun _=>0) a n) i j=0:=fun i j=>by unfold R; rw[e,if_neg (by omega)]
  refine⟨?_,?_,b k k⟩
  ·unfold L
   simp only[b]
   have g:0<=G (upd (fun _=>0) a n) k:=by unfold G; rw[e]; split <;> omega
   have d:F (upd (fun _=>0) a n) k=0:=by unfold F; rw[e,if_neg (by omega)]
   have c:C (upd (fun _=>0) a n) k=0:=by unfold C; rw[e,if_neg (by omega)]
   omega
  have d:F (upd (fun _=>0) a n) k=0:=by unfold F; rw[e,if_neg (by omega)]
  have c:C (upd (fun _=>0) a n) k=0:=by unfold C; rw[e,if_neg (by omega)]
  omega
 unfold oJ G
 simp only[e]
 have:(if 0=a then n else 0)+(if 1=a then n else 0)+(if 2=a then n else 0)+(if 3=a then n else 0)+(if 4=a then n else 0)+(if 5=a then n else 0)=n:=six a ha n
 omega
theorem uJ(h:Inv0 L T)(d:cZ v=true)(F:v.kind=1)(f:rH L v=0) : ∃ k,k<=L.nn/\1<=wJ v.o v.seq/\L.nn<32/\(0<=v.bH/\v.bH<=140737488355328)/\(v.node=0\/0<=aT L.t L.tn v.node) /\ ¬ Ci L.t L.tn v.node /\
 rM L v = { L with nn:=L.nn+1,id:=bT L.id k (wJ v.o v.seq),par:=bT L.par k v.node,R:=bT L.R k (upd (fun _=>0) (bD v) v.bH),tn:=L.tn+1,t:=vN L.t k (wJ v.o v.seq) v.node } /\
 (∀ i j,i<j->j<L.nn+1->bT L.id k (wJ v.o v.seq) i<bT L.id k (wJ v.o v.seq) j)/\(∀ i,i<L.nn+1->vN L.t k (wJ v.o v.seq) v.node i 0=bT L.id k (wJ v.o v.seq) i/\vN L.t k (wJ v.o v.seq) v.node i 1=bT L.par k v.node i) /\
 kL L.t (vN L.t k (wJ v.o v.seq) v.node) L.tn (wJ v.o v.seq) v.node:=by
 unfold rH at f
 split at f
 ·cases f
 rename_i h47
 obtain⟨K,s,w,M,y⟩:=P9 f
 have S:=mR d
 have U:=zi d
 have W:=sW d
 have D:0<=v.bH/\v.bH<=140737488355328:=by
  have Q : ¬ 140737488355328<v.bH:=fun h=>h47 (.inr h)
  unfold cZ at d
  simp only[Bool.and_eq_true]at d
  have l:=d.2
  unfold iP at l
  rw[if_pos F]at l
  simp only[Bool.and_eq_true,decide_eq_true_eq]at l
  omega
 generalize hx:wJ v.o v.seq=x at *
 have J:1<=x:=by omega
 have A:down (fun i=>decide (x<L.t i 0)) L.tn=rJ L.id L.nn x:=by
  unfold rJ; rw[h.wY]; exact Cj fun i a=>by rw[(h.tid i a).1]
 have z:rM L v = { L with nn:=L.nn+1,id:=bT L.id (rJ L.id L.nn x) x,par:=bT L.par (rJ L.id L.nn x) v.node,R:=bT L.R (rJ L.id L.nn x) (upd (fun _=>0) (bD v) v.bH),tn:=L.tn+1,t:=vN L.t (rJ L.id L.nn x) x v.node }:=by
  unfold rM; rw[hx,A]; rfl
 generalize hkk:rJ L.id L.nn x=k at *
 have c:k<=L.nn:=by rw[<- hkk]; exact Fx.pI _ _
 have G : ∀ i,i<L.nn->L.id i≠x:=fun i a e=>oL.1 s i (by rw[h.wY]; exact a) (by rw[(h.tid i a).1]; exact e)
 have C : ∀ q,k<=q->q<L.nn->x<L.id q:=fun q b g=>by
  have:=Fx.CZ (P:=fun i=>decide (x<L.id i)) (n:=L.nn) (i:=q) (by show rJ L.id L.nn x<=q; omega) g
  exact of_decide_eq_true this
 have B : ∀ q,q<k->L.id q<x:=fun q b=>by
  obtain⟨j,rfl⟩ : ∃ j,k=j+1:=⟨k-1,by omega⟩
  have g:=Fx.C8 (P:=fun i=>decide (x<L.id i)) (n:=L.nn) (j:=j) hkk
  have N : ¬ x<L.id j:=of_decide_eq_false g
  have O:=G j (by omega)
  by_cases e:q=j
  ·subst e; omega
  ·have:=h.rise q j (by omega) (by omega); omega
 have H:L.nn<32:=by have:=h.wY; omega
 have m : ∀ i j,i<j->j<L.nn+1->bT L.id k x i<bT L.id k x j:=fun i j V hj=>by
  rcases bX c (show i<L.nn+1 by omega)with rfl|⟨q,hq,eq,q1,q2⟩
  ·rcases bX c hj with rfl|⟨r,hr,er,r1,r2⟩
   ·omega
   ·rw[bK,er]
    exact C r (by omega) hr
  ·rcases bX c hj with rfl|⟨r,hr,er,r1,r2⟩
   ·rw[bK,eq]
    exact B q (by omega)
   ·rw[eq,er]
    exact h.rise q r (by omega) hr
 have p : ∀ i,i<L.nn+1->vN L.t k x v.node i 0=bT L.id k x i/\vN L.t k x v.node i 1=bT L.par k v.node i:=fun i a=>by
  rw[sV]
  rcases bX c a with rfl|⟨q,hq,eq,_,_⟩
  ·rw[bK,bK,bK]; exact⟨rfl,rfl⟩
  ·rw[eq,eq,eq]; exact h.tid q hq
 have E : ∀ i j,i<L.nn+1->j<L.nn+1->bT L.id k x i=bT L.id k x j->i=j:=fun i j a hj e=>by
  rcases Nat.lt_trichotomy i j with b|b|b
  ·have:=m i j b hj; omega
  ·exact b
  ·have:=m j i b a; omega
 have I:kL L.t (vN L.t k x v.node) L.tn x v.node := {
  u:=h.Yn
  u':=fun i j a hj e=>by
   rw[h.wY]at a hj
   rw[(p i a).1,(p j hj).1]at e
   exact E i j a hj e
  no:=oL.1 s
  old:=fun i a=>by
   obtain⟨j,hj,_,e⟩:=rR (k:=k) a
   exact⟨j,hj,by rw[sV]; exact e L.t _⟩
  new:=⟨k,by have:=h.wY; omega,by rw[sV,bK]; rfl,by rw[sV,bK]; rfl⟩
  back:=fun j hj=>by
   rw[h.wY]at hj
   rcases bX c hj with rfl|⟨q,hq,eq,_,_⟩
   ·exact .inl (by rw[sV,bK]; rfl)
   ·exact .inr ⟨q,by rw[h.wY]; exact hq,by rw[sV]; exact eq L.t _⟩ }
 exact⟨k,c,J,H,D,w,y,z,m,p,I⟩
theorem KG(h:Inv0 L T)(c:cZ v=true)(w:v.kind=1)(r:rH L v=0):Inv0 (rM L v) (T+1):=by
 obtain⟨k,a,m,K,s,g,n,p,B,E,F⟩:=uJ h c w r
 have I:=mR c
 have J:=zi c
 have C:=sW c
 rw[p]
 generalize hx:wJ v.o v.seq=x at *
 have z : ∀ j,j<L.nn -> ∃ i,i<L.nn+1/\bT L.id k x i=L.id j:=fun j hj=>by
  obtain⟨i,hi,_,e⟩:=rR (k:=k) hj
  exact⟨i,hi,e L.id x⟩
 have H:aT L.t L.tn 0<0:=oL.2 fun i hi e=>by
  rw[h.wY]at hi
  rw[(h.tid i hi).1]at e
  have:=h.pos i hi; omega
 have A:v.node=0 \/ ∃ j,j<L.nn/\L.id j=v.node:=by
  rcases g with e|e
  ·exact .inl e
  ·obtain⟨i,hi,d⟩:=fG.1 e
   rw[h.wY]at hi
   exact .inr ⟨i,hi,by rw[<- (h.tid i hi).1]; exact d⟩
 exact {
  wY:=by show L.tn+1=L.nn+1; rw[h.wY]
  nn:=by show L.nn+1<=32; omega
  tid:=E
  rise:=B
  pos:=fun i hi=>by
   show 1<=bT L.id k x i
   rcases bX a hi with rfl|⟨q,hq,eq,_,_⟩
   ·rw[bK]; exact m
   ·rw[eq]; exact h.pos q hq
  top:=fun i hi=>by
   show bT L.id k x i<_
   rcases bX a hi with rfl|⟨q,hq,eq,_,_⟩
   ·rw[bK]; omega
   ·rw[eq]; exact h.top q hq
  up:=fun i hi=>by
   show bT L.par k v.node i=0 \/ ∃ j,j<L.nn+1/\bT L.id k x j=bT L.par k v.node i
   have l : ∀ y,(y=0 \/ ∃ j,j<L.nn/\L.id j=y)->(y=0 \/ ∃ j,j<L.nn+1/\bT L.id k x j=y):=fun y G=>G.imp id fun⟨j,hj,e⟩=>by
    obtain⟨i,hi,d⟩:=z j hj
    exact⟨i,hi,d.trans e⟩
   rcases bX a hi with rfl|⟨q,hq,eq,_,_⟩
   ·rw[bK]; exact l _ A
   ·rw[eq]; exact l _ (h.up q hq)
  dep:=by
   show ∀ y,∃ D,D<=4/\aT (vN L.t k x v.node) (L.tn+1) (bL (vN L.t k x v.node) (L.tn+1) D y)<0
   refine F.dep m (fun i hi => ?_) g H h.dep n
   have f:=hi
   rw[h.wY]at f
   rw[(h.tid i f).2]
   rcases h.up i f with e|⟨j,hj,e⟩
   ·exact .inl e
   ·exact .inr (fG.2 ⟨j,by rw[h.wY]; exact hj,by rw[(h.tid j hj).1]; exact e⟩)
  gn:=Nat.le_succ_of_le h.gn
  rn:=fun i hi=>Nat.le_succ_of_le (h.rn i hi)
  may:=fun i hi=>by
   show may (bT L.R k _ i)=true
   rcases bX a hi with rfl|⟨q,hq,eq,_,_⟩
   ·rw[bK]; exact Qa C s.1 (by omega)
   ·rw[eq]; exact h.may q hq
  g47:=fun i hi b u=>by
   show bT L.R k _ i b<=_
   rcases bX a hi with rfl|⟨q,hq,eq,_,_⟩
   ·rw[bK]
    show(if b=bD v then v.bH else 0)<=_
    split <;> omega
   ·rw[eq]; exact h.g47 q hq b u
  kn:=h.kn }
theorem Ck{b:dR}{e:Nat}(h:Inv0 L T)(c:b.nn=L.nn)(d:b.id=L.id)(g:b.par=L.par)(j:b.tn=L.tn)(l:b.t=L.t)(n:b.known=L.known)(o:b.gn<=e)(hr : ∀ i,i<6->b.rn i<=e)
 (m : ∀ k,k<L.nn->may (b.R k)=true /\ ∀ a,a<6->b.R k a<=140737488355328):Inv0 b e where
 wY:=by rw[c,j]; exact h.wY
 nn:=by rw[c]; exact h.nn
 tid:=by rw[c,d,g,l]; exact h.tid
 rise:=by rw[c,d]; exact h.rise
 pos:=by rw[c,d]; exact h.pos
 top:=by rw[c,d]; exact h.top
 up:=by rw[c,d,g]; exact h.up
 dep:=by rw[j,l]; exact h.dep
 gn:=o
 rn:=hr
 may:=by rw[c]; exact fun k f=>(m k f).1
 g47:=by rw[c]; exact fun k f=>(m k f).2
 kn:=by rw[n]; exact h.kn
def nX(x:Nat->Int):Prop:=may x=true /\ ∀ a,a<6->x a<=140737488355328
theorem Ae{f:(Nat->Int)->(Nat->Int) × Int}{idx:Nat->Nat}{R:Nat->Nat->Int}{n:Nat}(g : ∀ x,nX x->(f x).2=0->nX (f x).1)(d : ∀ k,k<n->nX (R k)) : ∀ K k,k<n->nX ((dK f idx R K).1 k)
 | 0,k,hk=>d k hk
 | K+1,k,hk=>by
   have a:=Ae g d (idx:=idx) K
   unfold dK
   by_cases e:(dK f idx R K).2=0
   ·rw[if_pos e]
    by_cases b:(f ((dK f idx R K).1 (idx K))).2=0
    ·rw[if_pos b]
     show nX (if k=idx K then _ else _)
     by_cases c:k=idx K
     ·rw[if_pos c]; exact g _ (by rw[<- c]; exact a k hk) b
     ·rw[if_neg c]; exact a k hk
    ·rw[if_neg b]; exact a k hk
   ·rw[if_neg e]; exact a k hk
theorem Qb{x:Nat->Int}{i n:Int}(h:nX x)(c:(bO x i n).2=0):nX (bO x i n).1:=by
 obtain⟨a,g,_,_,_,_,_,f,_,_,_,e⟩:=Ji c
 exact⟨f,fun b d=>by rw[e,eH _ _ _ _ (by omega)]; exact h.2 b d⟩
theorem Qc{x:Nat->Int}{i n:Int}(h:nX x)(c:(bP x i n).2=0):nX (bP x i n).1:=by
 obtain⟨a,g,_,_,_,_,f,_,_,_,e⟩:=Jj c
 exact⟨f,fun b d=>by rw[e,eH _ _ _ _ (by omega)]; exact h.2 b d⟩
theorem Qd{x:Nat->Int}{i j n:Int}(h:nX x)(d:(gL x i j n).2=0):nX (gL x i j n).1:=by
 obtain⟨a,b,k,l,_,_,_,_,_,_,g,e⟩:=Jh d
 exact⟨g.may,fun c f=>by rw[e,eH _ _ _ _ (by omega)]; exact h.2 c f⟩
theorem Nr{x:Nat->Int}{a:Nat}{n:Int}(ha:a<6)(h:nX x)(s:0<=n)(q : ¬ 140737488355328<x a+n):nX (upd x a (x a+n)):=by
 have d:=(lW x).1 h.1
 have e : ∀ p,upd x a (x a+n) p=if p=a then x a+n else x p:=fun p=>rfl
 have t:=d.1 a (by omega)
 have c : ∀ b,b<6->upd x a (x a+n) b<=140737488355328:=fun b l=>by
  rw[e]; split
  ·omega
  ·exact h.2 b l
 refine⟨(lW _).2 ⟨fun p o => ?_,fun k m => ?_,?_⟩,c⟩
 ·have:=d.1 p o
  rw[e]; split <;> omega
 ·obtain⟨r,i,j⟩:=d.2.1 k m
  have f:C (upd x a (x a+n)) k=C x k:=by unfold C; rw[e,if_neg (by omega)]
  have g:F (upd x a (x a+n)) k=F x k:=by unfold F; rw[e,if_neg (by omega)]
  refine⟨?_,?_,?_⟩
  ·rw[Np x a (by omega),f,g,Ym]; split <;> omega
  ·rw[f,g]; exact i
  unfold R; rw[e,if_neg (by omega)]; exact j
 unfold oJ G
 have:=c 0 (by omega); have:=c 1 (by omega); have:=c 2 (by omega); have:=c 3 (by omega); have:=c 4 (by omega); have:=c 5 (by omega)
 omega
theorem Inv0.Fa(h:Inv0 L T) : ∀ k,k<L.nn->nX (L.R k):=fun k a=>⟨h.may k a,h.g47 k a⟩
theorem Jl(h:Inv0 L T)(a:Nat) : ∀ i,i<6->bB L.rn a (L.rn a+1) i<=T+1:=fun i b=>by
 unfold bB
 by_cases e:i=a
 ·subst e; rw[if_pos rfl]; have:=h.rn i b; omega
 ·rw[if_neg e]; have:=h.rn i b; omega
theorem Jm{q:Nat}{r:Nat->Int}(h : ∀ k,k<L.nn->nX (L.R k))(hr:nX r) : ∀ k,k<L.nn->nX (bB L.R q r k):=fun k a=>by
 unfold bB; split
 ·exact hr
 ·exact h k a
theorem Inv0.Sy(h:Inv0 L T){x:Int}(hx : ¬ L.node x<0):(L.node x).toNat<L.nn:=by
 rw[h.node]at hx ⊢
 obtain⟨j,a,e,_⟩:=rF (show 0<=aT L.t L.tn x by omega)
 rw[e]; have:=h.wY; simp; omega
theorem KH(h:Inv0 L T)(a : ∀ k,k<L.nn->nX ((uH L v).1 k)):Inv0 (iE L v) (T+1):=by
 unfold iE rO
 generalize uH L v=W at a
 exact Ck h rfl rfl rfl rfl rfl rfl (Nat.succ_le_succ h.gn) (Jl h _) a
theorem KI(h:Inv0 L T)(a : ∀ k,k<L.nn->nX ((rP L v).1 k)):Inv0 (eY L v) (T+1):=by
 unfold eY rO
 generalize rP L v=W at a
 exact Ck h rfl rfl rfl rfl rfl rfl (Nat.le_succ_of_le h.gn) (Jl h _) a
theorem Ns(h:Inv0 L T)(f:cZ v=true)(a:mQ L v=0):Inv0 (jQ L v) (T+1):=by
 have q:=nN f
 have o:=sW f
 have e:=h.gn
 have d : ∀ i,i<6->L.rn i<=T+1:=fun i n=>Nat.le_succ_of_le (h.rn i n)
 unfold mQ at a
 unfold jQ
 by_cases b:v.kind=1
 ·rw[if_pos b]at a ⊢; exact KG h f b a
 by_cases c:v.kind=2
 ·rw[if_neg b,if_pos c]at a ⊢
  unfold Ac at a
  split at a; · cases a
  rename_i n1
  split at a; · cases a
  rename_i n2
  have p:=uI f (.inl c)
  exact Ck h rfl rfl rfl rfl rfl rfl (Nat.le_succ_of_le e) d (Jm h.Fa (Nr o (h.Fa _ (h.Sy n1)) (by omega) n2))
 by_cases g:v.kind=3
 ·rw[if_neg b,if_neg c,if_pos g]at a ⊢
  have j : ∀ k,k<L.nn->nX ((uH L v).1 k):=by unfold uH; exact Ae (fun x=>Qb) h.Fa _
  exact KH h j
 by_cases l:v.kind=4
 ·rw[if_neg b,if_neg c,if_neg g,if_pos l]at a ⊢
  have j : ∀ k,k<L.nn->nX ((rP L v).1 k):=by unfold rP; exact Ae (fun x=>Qc) h.Fa _
  exact KI h j
 by_cases m:v.kind=5
 ·rw[if_neg b,if_neg c,if_neg g,if_neg l,if_pos m]at a ⊢
  unfold wX at a
  split at a; · cases a
  rename_i n1
  split at a; · cases a
  exact Ck h rfl rfl rfl rfl rfl rfl (Nat.le_succ_of_le e) d (Jm h.Fa (Qd (h.Fa _ (h.Sy n1)) a))
 rw[if_neg b,if_neg c,if_neg g,if_neg l,if_neg m]
 split
 ·exact Ck h rfl rfl rfl rfl rfl rfl (Nat.le_succ_of_le e) d h.Fa
 exact Ck h rfl rfl rfl rfl rfl rfl (Nat.le_succ_of_le e) d h.Fa
theorem Af(h:Inv0 L T):Inv0 (dO L v) (T+1):=by
 unfold dO
 by_cases a:dA L v=0
 ·rw[if_pos a]
  unfold dA at a
  split at a; · cases a
  rename_i h1
  split at a; · cases a
  split at a; · cases a
  rename_i h3
  split at a; · cases a
  have b:cZ v=true:=by simpa using h1
  have c:iw L.known v=true:=by simpa using h3
  have g:=Ns h b a
  have k:=sW b
  have m:=yY b
  refine { g with kn:=fun i j => ?_ }
  have e:(Nq (jQ L v) v).known=bB L.known (bD v) (L.known (bD v)+1):=by unfold Nq; simp only[xX]
  rw[e]
  unfold iw at c
  simp only[Bool.and_eq_true,decide_eq_true_eq]at c
  have d:=h.kn
  unfold bB
  split
  ·have f:=c.1.2
   have l:v.seq=L.known (bD v)+1:=f
   have:=d (bD v) k
   omega
  exact d i j
 rw[if_neg a]; exact h.mono (Nat.le_succ T)
end
end Rt
end
section
namespace Rt
def Dv(t:Nat->Nat->Int)(tn:Nat)(x y:Int):Nat->Int
 | 0=>0
 | k+1=>Dv t tn x y k+if bL t tn k x=y then 1 else 0
def wZ(t:Nat->Nat->Int)(tn:Nat)(x y:Int):Int:=Dv t tn x y (fQ t tn x)
def kY(t:Nat->Nat->Int)(tn:Nat)(g:Nat->Int)(y:Int):Int:=if g 4=0 then g 3*wZ t tn (g 2) y else 0
def kD(t:Nat->Nat->Int)(tn:Nat)(g:Nat->Nat->Int)(y:Int):Nat->Int
 | 0=>0
 | q+1=>kD t tn g y q+kY t tn (g q) y
structure uK(L:dR):Prop where
 us : ∀ k,k<L.nn->jZ (L.R k)=kD L.t L.tn L.g (L.id k) L.gn
 gb : ∀ q,q<L.gn->0<=aT L.t L.tn (L.g q 2)/\1<=L.g q 0/\L.g q 0<=6/\0<=L.g q 3/\L.g q 3<=1125899906842624
structure Qe(L:dR)(T:Nat):Prop where
 kt : ∀ i,i<6->L.known i<=T
 rb : ∀ k,k<L.nn -> ∀ a,a<54->L.R k a<=2097152*T
 rq : ∀ i,i<6 -> ∀ j,j<L.rn i->L.rq i j<=256
structure Inv(L:dR)(T:Nat):Prop extends Inv0 L T where
 s:uK L
 b:Qe L T
section
variable {L:dR} {T:Nat} {v:EvM}
theorem Dw{P:Nat->Bool} : ∀ {n i:Nat},i<lead P n->P i=true
 | 0,i,h=>absurd h (Nat.not_lt_zero _)
 | n+1,i,h=>by
   unfold lead at h
   by_cases e:lead P n=n/\P n=true
   ·rw[if_pos e]at h
    by_cases a:i=n
    ·rw[a]; exact e.2
    ·exact Dw (n:=n) (by omega)
   ·rw[if_neg e]at h; exact Dw h
theorem Ag{t:Nat->Nat->Int}{tn i:Nat}{x:Int}(h:i<fQ t tn x):0<=aT t tn (bL t tn i x):=of_decide_eq_true (Dw (P:=fun i=>decide (0<=aT t tn (bL t tn i x))) h)
theorem sZ{t t':Nat->Nat->Int}{tn b:Nat}{g a:Nat->Nat->Int}{y c:Int} : ∀ n,(∀ q,q<n->kY t' b (a q) c=kY t tn (g q) y)->kD t' b a c n=kD t tn g y n
 | 0,_=>rfl
 | n+1,h=>by unfold kD; rw[sZ n fun q d=>h q (by omega),h n (by omega)]
theorem Cm{t:Nat->Nat->Int}{tn:Nat}{g:Nat->Nat->Int}{y:Int} : ∀ n,(∀ q,q<n->kY t tn (g q) y=0)->kD t tn g y n=0
 | 0,_=>rfl
 | n+1,h=>by unfold kD; rw[Cm n fun q a=>h q (by omega),h n (by omega)]; rfl
theorem Fb{t:Nat->Nat->Int}{tn k:Nat}{g:Nat->Nat->Int}{x:Nat->Int}{y:Int} : ∀ n,k<n->kD t tn (bB g k x) y n=kD t tn g y n-kY t tn (g k) y+kY t tn x y
 | 0,h=>absurd h (Nat.not_lt_zero _)
 | n+1,h=>by
   unfold kD
   by_cases e:k=n
   ·subst e
    rw[sZ (t:=t) (tn:=tn) (g:=g) (y:=y) k fun q a=>by unfold bB; rw[if_neg (by omega)]]
    unfold bB; rw[if_pos rfl]; omega
   ·rw[Fb n (by omega)]
    have:bB g k x n=g n:=if_neg (fun h=>e h.symm)
    rw[this]; omega
theorem Fe{t:Nat->Nat->Int}{tn k:Nat}{g:Nat->Nat->Int}{x:Nat->Int}{y:Int} : ∀ n,k<=n->kD t tn (bT g k x) y (n+1)=kD t tn g y n+kY t tn x y
 | 0,h=>by
   obtain rfl:k=0:=by omega
   show(0:Int)+kY t tn (bT g 0 x 0) y=0+_
   rw[bK]
 | n+1,h=>by
   by_cases e:k=n+1
   ·subst e
    show kD t tn (bT g (n+1) x) y (n+1)+kY t tn (bT g (n+1) x (n+1)) y=_
    rw[bK,sZ (t:=t) (tn:=tn) (g:=g) (y:=y) (n+1) fun q a=>by rw[zf a]]
   ·show kD t tn (bT g k x) y (n+1)+kY t tn (bT g k x (n+1)) y=kD t tn g y n+kY t tn (g n) y+_
    rw[Fe n (by omega),zh (by omega),Nat.add_sub_cancel]; omega
def Nt(idx:Nat->Nat)(k:Nat):Nat->Int
 | 0=>0
 | j+1=>Nt idx k j+if idx j=k then 1 else 0
theorem xg{f:(Nat->Int)->(Nat->Int) × Int}{idx:Nat->Nat}{R:Nat->Nat->Int}{d:Int}(e : ∀ x,(f x).2=0->jZ (f x).1=jZ x+d) : ∀ K,(dK f idx R K).2=0 -> ∀ k,jZ ((dK f idx R K).1 k)=jZ (R k)+d*Nt idx k K
 | 0,_,k=>by show jZ (R k)=jZ (R k)+d*0; omega
 | K+1,h,k=>by
   unfold dK at h ⊢
   by_cases a:(dK f idx R K).2=0
   ·have g:=xg e K a k
    rw[if_pos a]at h ⊢
    by_cases b:(f ((dK f idx R K).1 (idx K))).2=0
    ·rw[if_pos b]
     show jZ (bB _ (idx K) _ k)=_
     unfold bB Nt
     rw[Int.mul_add]
     by_cases c:k=idx K
     ·subst c
      rw[if_pos rfl,if_pos rfl,e _ b,g]; omega
     ·rw[if_neg c,if_neg (fun h=>c h.symm),g]; omega
    ·rw[if_neg b]at h; exact absurd h b
   ·rw[if_neg a]at h; exact absurd h a
theorem G6{t:Nat->Nat->Int}{tn k:Nat}{x y:Int}{idx:Nat->Nat} : ∀ K,(∀ i,i<K->(idx i=k<->bL t tn i x=y))->Nt idx k K=Dv t tn x y K
 | 0,_=>rfl
 | K+1,h=>by
   unfold Nt Dv
   rw[G6 K fun i b=>h i (by omega)]
   by_cases e:idx K=k
   ·rw[if_pos e,if_pos ((h K (by omega)).1 e)]
   ·rw[if_neg e,if_neg (fun a=>e ((h K (by omega)).2 a))]
theorem zk(h:Inv0 L T){x:Int}{i k:Nat}(g:k<L.nn)(hi:i<fQ L.t L.tn x):tJ L x i=k<->bL L.t L.tn i x=L.id k:=by
 obtain⟨j,f,e,c⟩:=rF (Ag hi)
 have b:j<L.nn:=by rw[<- h.wY]; exact f
 have l:tJ L x i=j:=by unfold tJ; rw[h.node,e]; rfl
 rw[l]
 have a:L.id j=bL L.t L.tn i x:=by rw[<- (h.tid j b).1]; exact c
 constructor
 ·rintro rfl; exact a.symm
 intro d; exact h.inj j k b g (a.trans d)
theorem Fg{x:Nat->Int}{a:Nat}{n:Int}(ha:a<6):jZ (upd x a n)=jZ x:=by
 have b : ∀ k,C (upd x a n) k=C x k:=fun k=>eH _ _ _ _ (by omega)
 have c : ∀ k,F (upd x a n) k=F x k:=fun k=>eH _ _ _ _ (by omega)
 unfold jZ; simp only[b,c]
theorem Nu(h:cZ v=true)(b:v.kind=4):1<=v.req:=by
 unfold cZ at h
 simp only[Bool.and_eq_true]at h
 have a:=h.2
 unfold iP at a
 rw[if_neg (by omega),if_neg (by omega),if_neg (by omega),if_pos b]at a
 simp only[Bool.and_eq_true,decide_eq_true_eq]at a
 exact a.1.1
theorem UL{n k:Nat}{g:Nat->Nat->Int}{x:Nat->Int}(a:k<=n)(P:(Nat->Int)->Prop)(h : ∀ q,q<n->P (g q))(hx:P x) : ∀ q,q<n+1->P (bT g k x q):=fun q b=>by
 rcases bX a b with rfl|⟨j,hj,e,_,_⟩
 ·rw[bK]; exact hx
 ·rw[e]; exact h j hj
attribute [local irreducible] fQ in
theorem G7(j:Inv0 L T)(h:uK L)(e:cZ v=true)(b:v.kind=3)(a:mP L v=0):uK (iE L v):=by
 unfold mP at a
 split at a; · cases a
 split at a; · cases a
 rename_i hp
 have c:=mR e
 have l:=uI e (.inr (.inl b))
 unfold iE rO
 have p:=xg (f:=fun x=>bO x v.o v.bH) (idx:=tJ L v.node) (R:=L.R) (d:=v.bH) (fun x s=>by obtain⟨_,_,_,_,_,_,_,_,_,_,r,_⟩:=Ji s; exact r) _ a
 refine⟨fun k b => ?_,fun q n => ?_⟩
 ·show jZ ((uH L v).1 k)=kD L.t L.tn (bT L.g (down (fun i=>E8 v (L.g i)) L.gn) (wV v)) (L.id k) (L.gn+1)
  rw[Fe _ (Fx.pI _ _)]
  have:=p k
  rw[show kY L.t L.tn (wV v) (L.id k)=v.bH*wZ L.t L.tn v.node (L.id k)from rfl,<- h.us k b]
  unfold wZ
  rw[<- G6 (idx:=tJ L v.node) (k:=k) _ fun i m=>zk j b m]
  exact this
 exact UL (Fx.pI _ _) (fun y=>0<=aT L.t L.tn (y 2)/\1<=y 0/\y 0<=6/\0<=y 3/\y 3<=1125899906842624) h.gb
  ⟨Ag (i:=0) (x:=v.node) (by omega),c.1,c.2.1,by show 0<=v.bH; omega,l.2⟩ q n
attribute [local irreducible] fQ in
theorem G8(s:Inv0 L T)(h:uK L)(z:cZ v=true)(c:v.kind=4)(b:nW L v=0):uK (eY L v):=by
 unfold nW at b
 split at b; · cases b
 split at b; · cases b
 rename_i l
 have F:=Nu z c
 have E:0<=L.grant v.o v.of:=by rcases Sw (L.grant v.o v.of)with h|h; · exact absurd (.inl h) l
                                ·exact h
 have D:L.g (vQ L v) 4=0:=by
  by_cases e:L.g (vQ L v) 4=0
  ·exact e
  ·exact absurd (.inr e) l
 have n:vQ L v<L.gn:=by
  rcases gu (fun i=>decide (L.g i 0=v.o)&&decide (L.g i 1=v.of)) L.gn with ⟨k,c,e,_⟩|⟨e,_⟩
  ·have m:L.grant v.o v.of=(k:Int):=e
   unfold vQ; rw[m]; exact c
  ·have m:L.grant v.o v.of = -1:=e
   omega
 unfold eY rO rP
 unfold rP at b
 generalize vQ L v=q at *
 have A:=xg (f:=fun x=>bP x v.o (L.g q 3)) (idx:=tJ L (L.g q 2)) (R:=L.R) (d := -(L.g q 3)) (fun x C=>by obtain⟨_,_,_,_,_,_,_,_,_,B,_⟩:=Jj C; rw[B]; omega) _ b
 have u:=h.gb q n
 refine⟨fun k c => ?_,fun p l => ?_⟩
 ·show jZ ((dK _ _ _ _).1 k)=kD L.t L.tn (bB L.g q (bB (L.g q) 4 v.req)) (L.id k) L.gn
  rw[Fb _ n,<- h.us k c,A k]
  have a:kY L.t L.tn (bB (L.g q) 4 v.req) (L.id k)=0:=by
   unfold kY; rw[if_neg]; show ¬ v.req=0; omega
  have r:kY L.t L.tn (L.g q) (L.id k)=L.g q 3*wZ L.t L.tn (L.g q 2) (L.id k):=if_pos D
  rw[a,r]
  unfold wZ
  rw[<- G6 (idx:=tJ L (L.g q 2)) (k:=k) _ fun i w=>zk s c w,Int.neg_mul]
  omega
 show 0<=aT L.t L.tn (bB L.g q (bB (L.g q) 4 v.req) p 2)/\1<=bB L.g q (bB (L.g q) 4 v.req) p 0/\bB L.g q (bB (L.g q) 4 v.req) p 0<=6/\0<=bB L.g q (bB (L.g q) 4 v.req) p 3/\bB L.g q (bB (L.g q) 4 v.req) p 3<=1125899906842624
 by_cases e:p=q
 ·subst e
  have a : ∀ j,j≠4->bB L.g p (bB (L.g p) 4 v.req) p j=L.g p j:=fun j y=>by
   show(if p=p then bB (L.g p) 4 v.req else L.g p) j=_
   rw[if_pos rfl]; exact if_neg y
  rw[a 2 (by omega),a 0 (by omega),a 3 (by omega)]; exact u
 have a:bB L.g q (bB (L.g q) 4 v.req) p=L.g p:=if_neg e
 rw[a]; exact h.gb p l
theorem Dx{a:dR}(h:uK L)(j:a.nn=L.nn)(l:a.id=L.id)(c:a.tn=L.tn)(d:a.t=L.t)(e:a.gn=L.gn)(f:a.g=L.g)(m : ∀ k,k<L.nn->jZ (a.R k)=jZ (L.R k)):uK a:=by
 refine⟨fun k b => ?_,fun q i => ?_⟩
 ·rw[j]at b; rw[l,c,d,e,f,m k b]; exact h.us k b
 rw[e]at i; rw[c,d,f]; exact h.gb q i
theorem Nv{q:Nat}{r:Nat->Int}{R:Nat->Nat->Int}(hr:jZ r=jZ (R q))(k:Nat):jZ (bB R q r k)=jZ (R k):=by
 unfold bB; split
 ·rename_i e; rw[e]; exact hr
 rfl
theorem kL.path{t t':Nat->Nat->Int}{tn:Nat}{id par z y:Int}(h:kL t t' tn id par)(A:1<=id)(r : ∀ i,i<tn->t i 1=0\/0<=aT t tn (t i 1))(p : ∃ D,D<=4/\aT t tn (bL t tn D z)<0)(C:0<=aT t tn z) :
 wZ t' (tn+1) z y=wZ t tn z y/\(y=id->wZ t tn z y=0):=by
 obtain⟨D,w,g⟩:=p
 obtain⟨K,x,c,a⟩:=oN D g
 have f:K=fQ t tn z:=vP a c g (by omega)
 have d : ∀ i,i<=K->bL t' (tn+1) i z=bL t tn i z:=fun i b=>h.iter i fun j B=>a j (by omega)
 have k:aT t' (tn+1) (bL t' (tn+1) K z)<0:=by
  rw[d K (Nat.le_refl _)]
  rcases Sw (aT t' (tn+1) (bL t tn K z))with h1|h1
  ·exact h1
  ·exfalso
   rcases h.find.1 h1 with h2|h2
   ·omega
   ·cases K with
    | zero=>have:aT t tn z<0:=c; omega
    | succ K =>
      obtain⟨i,b,e⟩:=fG.1 (a K (by omega))
      have l:bL t tn (K+1) z=t i 1:=by
       show t (aT t tn (bL t tn K z)).toNat 1=t i 1
       rw[<- e,oM h.u b]; rfl
      rw[l]at h2 c
      rcases r i b with h4|h4
      ·omega
      ·omega
 have m:K=fQ t' (tn+1) z:=vP (fun i b=>by rw[d i (by omega)]; exact h.find.2 (.inl (a i b))) k k (by omega)
 have o : ∀ n,n<=K->Dv t' (tn+1) z y n=Dv t tn z y n:=by
  intro n
  induction n with
  | zero=>intro _; rfl
  | succ n ih=>intro q; unfold Dv; rw[ih (by omega),d n (by omega)]
 refine⟨?_,fun s => ?_⟩
 ·unfold wZ; rw[<- f,<- m]; exact o K (Nat.le_refl _)
 subst s
 have : ∀ n,n<=K->Dv t tn z y n=0:=by
  intro n
  induction n with
  | zero=>intro _; rfl
  | succ n ih =>
    intro q; unfold Dv
    rw[ih (by omega),if_neg]
    ·rfl
    ·intro e
     have:=a n (by omega)
     rw[e]at this
     have v:=oL.2 h.no
     omega
 unfold wZ; rw[<- f]; exact this K (Nat.le_refl _)
attribute [local irreducible] fQ in
theorem G9(a:Inv0 L T)(h:uK L)(l:cZ v=true)(s:v.kind=1)(r:rH L v=0):uK (rM L v):=by
 obtain⟨k,u,A,E,D,B,C,p,F,G,n⟩:=uJ a l s r
 have z:=sW l
 rw[p]
 generalize wJ v.o v.seq=x at *
 have w : ∀ i,i<L.tn->L.t i 1=0\/0<=aT L.t L.tn (L.t i 1):=fun i c=>by
  have d:=c
  rw[a.wY]at d
  rw[(a.tid i d).2]
  rcases a.up i d with e|⟨j,hj,e⟩
  ·exact .inl e
  ·exact .inr (fG.2 ⟨j,by rw[a.wY]; exact hj,by rw[(a.tid j hj).1]; exact e⟩)
 have m : ∀ q,q<L.gn -> ∀ y,wZ (vN L.t k x v.node) (L.tn+1) (L.g q 2) y=wZ L.t L.tn (L.g q 2) y/\(y=x->wZ L.t L.tn (L.g q 2) y=0):=fun q b y=>n.path A w (a.dep _) (h.gb q b).1
 refine⟨fun i c => ?_,fun q b => ?_⟩
 ·show jZ (bT L.R k (upd (fun _=>0) (bD v) v.bH) i)=kD (vN L.t k x v.node) (L.tn+1) L.g (bT L.id k x i) L.gn
  rw[sZ (t:=L.t) (tn:=L.tn) (g:=L.g) (y:=bT L.id k x i) L.gn fun q b=>by unfold kY; rw[(m q b _).1]]
  rcases bX u c with rfl|⟨j,hj,e,_,_⟩
  ·rw[bK,bK,Fg z,Cm L.gn fun q b=>by unfold kY; rw[(m q b _).2 rfl,Int.mul_zero]; exact ite_self _]
   rfl
  rw[e,e]; exact h.us j hj
 have f:=h.gb q b
 exact⟨n.find.2 (.inl f.1),f.2⟩
theorem KJ(g:Inv0 L T)(h:uK L)(c:cZ v=true)(a:mQ L v=0):uK (jQ L v):=by
 have m:=nN c
 have l:=sW c
 unfold mQ at a
 unfold jQ
 by_cases b:v.kind=1
 ·rw[if_pos b]at a ⊢; exact G9 g h c b a
 by_cases d:v.kind=2
 ·rw[if_neg b,if_pos d]at a ⊢
  exact Dx h rfl rfl rfl rfl rfl rfl fun k _=>Nv (Fg l) k
 by_cases e:v.kind=3
 ·rw[if_neg b,if_neg d,if_pos e]at a ⊢; exact G7 g h c e a
 by_cases f:v.kind=4
 ·rw[if_neg b,if_neg d,if_neg e,if_pos f]at a ⊢; exact G8 g h c f a
 by_cases i:v.kind=5
 ·rw[if_neg b,if_neg d,if_neg e,if_neg f,if_pos i]at a ⊢
  unfold wX at a
  split at a; · cases a
  split at a; · cases a
  obtain⟨_,_,_,_,_,_,_,_,_,_,j,_⟩:=Jh a
  exact Dx h rfl rfl rfl rfl rfl rfl fun k _=>Nv j.u k
 rw[if_neg b,if_neg d,if_neg e,if_neg f,if_neg i]
 split
 ·exact Dx h rfl rfl rfl rfl rfl rfl fun _ _=>rfl
 exact Dx h rfl rfl rfl rfl rfl rfl fun _ _=>rfl
theorem Qe.mono{b:Nat}(h:Qe L T)(f:T<=b):Qe L b where
 kt:=fun i d=>by have:=h.kt i d; omega
 rb:=fun k e a c=>by have:=h.rb k e a c; omega
 rq:=h.rq
theorem Inv.mono{a:Nat}(h:Inv L T)(c:T<=a):Inv L a:=⟨h.toInv0.mono c,h.s,h.b.mono c⟩
end
end Rt
end
namespace Rt
theorem EP.kd{K:Nat->Int}(h:EP K):Fx.Kd (List.replicate 6 (some .u64)) (rv .u64 K):=Fx.Em fun i a=>Fx.nC (by have:=h i a; omega)
end Rt
-- jd.learn is not in this seat
section
namespace Rt
def zeroE:EvM:=⟨0,0,fun _=>0,0,0,0,0,0,0⟩
def qH(ev:Nat->EvM):Nat->Nat->Int
 | 0,_=>0
 | k+1,i=>qH ev k i+if bD (ev k)=i then 1 else 0
structure Z9(ev:Nat->EvM)(an:Nat)(K:Nat->Int):Prop where
 le : ∀ i,i<6->K i<=qH ev an i
 cl : ∀ k,k<an->(ev k).seq<=K (bD (ev k)) -> ∀ i,i<6->(ev k).deps i<=K i
structure Cz(n an:Nat)(ev:Nat->EvM)(kn:Nat->Nat->Int):Prop where
 rd : ∀ k,k<an->iw (qH ev k) (ev k)=true
 reg : ∀ k,k<an->bD (ev k)<n
 own : ∀ o,o<n->kn o o=qH ev an o
 kc : ∀ o,o<n->Z9 ev an (kn o)
section
variable {ev:Nat->EvM} {an n j k i:Nat} {K:Nat->Int} {kn kn':Nat->Nat->Int} {v:EvM} {L:dR}
theorem Nw : ∀ d k i,qH ev k i<=qH ev (k+d) i
 | 0,_,_=>Int.le_refl _
 | d+1,k,i=>by have:=Nw d k i; show _<=qH ev (k+d) i+_; split <;> omega
theorem cnt_mono(h:j<=k):qH ev j i<=qH ev k i:=by have:=Nw (ev:=ev) (k-j) j i; rwa [show j+(k-j)=k by omega]at this
theorem Dy(h:j<k):qH ev j (bD (ev j))+1<=qH ev k (bD (ev j)):=by
 have a:qH ev (j+1) (bD (ev j))<=qH ev k (bD (ev j)):=cnt_mono (by omega)
 have b:qH ev (j+1) (bD (ev j))=qH ev j (bD (ev j))+1:=by show _+(if _ then _ else _)=_; rw[if_pos rfl]
 omega
theorem UM(h:iw K v=true):cZ v=true/\v.seq=K (bD v)+1 /\ ∀ i,i<6->v.deps i<=K i:=by
 unfold iw at h
 simp only[Bool.and_eq_true,decide_eq_true_eq]at h
 refine⟨h.1.1,h.1.2,fun i a => ?_⟩
 have:=h.2
 unfold BZ at this
 rw[List.all_eq_true]at this
 exact of_decide_eq_true (this i (List.mem_range.2 a))
theorem Cz.seq(h:Cz n an ev kn)(a:k<an):(ev k).seq=qH ev k (bD (ev k))+1:=(UM (h.rd k a)).2.1
theorem Cz.Ny(h:Cz n an ev kn)(a:k<an):(ev k).seq<=qH ev an (bD (ev k)):=by rw[h.seq a]; exact Dy a
theorem Cz.uniq(h:Cz n an ev kn)(c:j<an)(d:k<an)(b:bD (ev j)=bD (ev k))(a:(ev j).seq=(ev k).seq):j=k:=by
 rw[h.seq c,h.seq d]at a
 rcases Nat.lt_trichotomy j k with h1|h1|h1
 ·have:=Dy (ev:=ev) h1; rw[b]at this a; omega
 ·exact h1
 have:=Dy (ev:=ev) h1; rw[<- b]at this a; omega
theorem Cz.step(h:Cz n an ev kn)(c:Z9 ev an K)(d:j<an)(hr:iw K (ev j)=true):Z9 ev an (bB K (bD (ev j)) (K (bD (ev j))+1)):=by
 obtain⟨_,l,m⟩:=UM hr
 have g : ∀ i,K i<=bB K (bD (ev j)) (K (bD (ev j))+1) i:=fun i=>by unfold bB; split <;> (try subst_vars) <;> omega
 refine⟨fun i a => ?_,fun k f b i a => ?_⟩
 ·unfold bB; split
  ·rename_i e; rw[e,<- l]; exact h.Ny d
  exact c.le i a
 by_cases e:(ev k).seq<=K (bD (ev k))
 ·exact Int.le_trans (c.cl k f e i a) (g i)
 unfold bB at b
 split at b
 ·rename_i e2
  rw[e2]at e
  have:k=j:=h.uniq f d e2 (by omega)
  subst this
  exact Int.le_trans (m i a) (g i)
 exact absurd b e
theorem kZ(h:dA L v=0):iw L.known v=true:=by
 unfold dA at h
 split at h; · cases h
 split at h; · cases h
 split at h; · cases h
 rename_i h3
 cases e:iw L.known v with
 | true=>rfl
 | false=>exact absurd e h3
theorem Dz(L:dR)(v:EvM):(dA L v=0/\(dO L v).known=bB L.known (bD v) (L.known (bD v)+1))\/(dA L v≠0/\dO L v=L):=by
 by_cases h:dA L v=0
 ·refine .inl ⟨h,?_⟩
  unfold dO; rw[if_pos h]
  show bB (jQ L v).known _ _=_
  rw[xX]
 refine .inr ⟨h,?_⟩
 unfold dO; rw[if_neg h]
def KnO(ev:Nat->EvM)(an o:Nat)(K:Nat->Int):Prop:=Z9 ev an K/\K o=qH ev an o
theorem Cz.apply(h:Cz n an ev kn){o:Nat}(a:KnO ev an o L.known)(c:j<an):KnO ev an o (dO L (ev j)).known:=by
 rcases Dz L (ev j)with ⟨f,b⟩|⟨_,b⟩
 ·have d:=kZ f
  rw[b]
  refine⟨h.step a.1 c d,?_⟩
  unfold bB
  split
  ·rename_i e
   have:=(UM d).2.1
   have g:=h.Ny c
   rw[<- e]at this g
   have:=a.2
   omega
  exact a.2
 rw[b]; exact a
theorem Cz.zero(n:Nat)(h : ∀ o,o<n->kn o=fun _=>0):Cz n 0 ev kn:=⟨fun _ h=>absurd h (Nat.not_lt_zero _),fun _ h=>absurd h (Nat.not_lt_zero _),fun o a=>by rw[h o a]; rfl,fun o a=>⟨fun i _=>by rw[h o a]; exact Int.le_refl _,fun _ h=>absurd h (Nat.not_lt_zero _)⟩⟩
end
end Rt
end
end Go.Proofs.YtcbedgfikejkoaaDoor
namespace Go.Proofs.YtcbedgfikejkoaaDoor
open Go.RowKit
namespace Fx
section
variable {S S':Nat->Prop}
theorem iU.trans(w w' c:World)(h:iU S w w')(k:iU S w' c):iU S w c:=⟨k.os.trans h.os,k.tape.trans h.tape,k.output.trans h.output,Nat.le_trans h.size k.size,fun i b a=>(k.block i (Nat.lt_of_lt_of_le b h.size) a).trans (h.block i b a)⟩
theorem iU.mono{w w':World}(h:iU S w w')(a : ∀ k,S k->S' k):iU S' w w':=⟨h.os,h.tape,h.output,h.size,fun i b c=>h.block i b fun d=>c (a i d)⟩
theorem iU.wN{g:Nat}{w w':World}(h:Stp g w w'):iU (fun k=>k=g) w w':=(tC _ w).then h (.inl rfl)
end
end Fx
end Go.Proofs.YtcbedgfikejkoaaDoor
namespace Go.Proofs.YtcbedgfikejkoaaDoor
open Go.RowKit Rt
open Fx (eU dJ fu bf fq eZ dS dM fA gQ dH gT eP gD gU Lv sN Ln Ws Qv Wl Rp Wc Qs Wr Sb Lk Wk rC rV sR Rs Rn Rd Rk Wb Wx Wo yT Wt pE Qn AX uo xL yB xJ AZ AY gG yR jM nT tC A8 yA yP xQ yQ rv aA aL bC aI ev bT Stp bU aM flat fH Mp dL aV fC gI aX down fM iU ji jv bG bA cells_one jO aY nE unseen jk iT cu bW cB bY bZ iB iG qP gV)
section
set_option linter.unusedVariables false
set_option maxRecDepth 20000
structure dG where
 inn:Nat->Bool
 left:Nat->Bool
 known:Nat->Int
 own:Nat->Int
 T:dB
 R:Nat->Nat->Int
 gn:Nat
 g:Nat->Nat->Int
 an:Nat
 ao:Nat->Int
 ar:Nat->Int
 tp:Nat
 mb:Nat
 pb:Nat
 rb:Nat
 gb:Nat
 ab:Nat
def oO(m:dG):Nat->Value:=fun p=>if p<6 then .bool (m.inn p)else if p<12 then .bool (m.left (p-6))else if p<18 then .int .u64 (m.known (p-12))else if p=18 then .pointer (some ⟨m.tp,0,none⟩)else if p=19 then .map (some m.pb)else if p=20 then .map (some m.rb)else if p<27 then .int .i64 (m.own (p-21))else if p=27 then .map (some m.gb)else .map (some m.ab)
section
variable {m:dG} {p q:Nat}
theorem xk(h:p<6):oO m p = .bool (m.inn p):=by unfold oO; rw[if_pos h]
theorem vR(h:p<6)(e:q=p+6):oO m q = .bool (m.left p):=by subst e; unfold oO; rw[if_neg (by omega),if_pos (by omega),Nat.add_sub_cancel]
theorem mh(h:p<6)(e:q=p+12):oO m q = .int .u64 (m.known p):=by subst e; unfold oO; rw[if_neg (by omega),if_neg (by omega),if_pos (by omega),Nat.add_sub_cancel]
theorem DC(h:p<6)(e:q=p+21):oO m q = .int .i64 (m.own p):=by subst e; unfold oO; rw[if_neg (by omega),if_neg (by omega),if_neg (by omega),if_neg (by omega),if_neg (by omega),if_neg (by omega),if_pos (by omega),Nat.add_sub_cancel]
theorem Nz{i:Nat}(hi:i<6)(b:Bool):fH (oO m) i (.bool b)=oO { m with inn:=bB m.inn i b }:=by
 funext p
 unfold fH
 by_cases e:p=i
 ·subst e; rw[if_pos rfl,xk hi]; simp[bB]
 rw[if_neg e]; unfold oO
 by_cases h:p<6
 ·rw[if_pos h,if_pos h]; simp[bB,e]
 rw[if_neg h,if_neg h]
theorem NC{i:Nat}(hi:i<6)(e0:q=i+6)(b:Bool):fH (oO m) q (.bool b)=oO { m with left:=bB m.left i b }:=by
 subst e0
 funext p
 unfold fH
 by_cases e:p=i+6
 ·subst e; rw[if_pos rfl,vR hi rfl]; simp[bB]
 rw[if_neg e]; unfold oO
 by_cases h:p<6
 ·rw[if_pos h,if_pos h]
 rw[if_neg h,if_neg h]
 by_cases a:p<12
 ·rw[if_pos a,if_pos a]; simp[bB,show ¬ p-6=i by omega]
 rw[if_neg a,if_neg a]
theorem KL{i:Nat}(hi:i<6)(e0:q=i+12)(x:Int):fH (oO m) q (.int .u64 x)=oO { m with known:=bB m.known i x }:=by
 subst e0
 funext p
 unfold fH
 by_cases e:p=i+12
 ·subst e; rw[if_pos rfl,mh hi rfl]; simp[bB]
 rw[if_neg e]; unfold oO
 by_cases h:p<6
 ·rw[if_pos h,if_pos h]
 rw[if_neg h,if_neg h]
 by_cases a:p<12
 ·rw[if_pos a,if_pos a]
 rw[if_neg a,if_neg a]
 by_cases b:p<18
 ·rw[if_pos b,if_pos b]; simp[bB,show ¬ p-12=i by omega]
 rw[if_neg b,if_neg b]
theorem Qf{i:Nat}(hi:i<6)(e0:q=i+21)(x:Int):fH (oO m) q (.int .i64 x)=oO { m with own:=bB m.own i x }:=by
 subst e0
 funext p
 unfold fH
 by_cases e:p=i+21
 ·subst e; rw[if_pos rfl,DC hi rfl]; simp[bB]
 rw[if_neg e]; unfold oO
 by_cases h:p<6
 ·rw[if_pos h,if_pos h]
 rw[if_neg h,if_neg h]
 by_cases a:p<12
 ·rw[if_pos a,if_pos a]
 rw[if_neg a,if_neg a]
 by_cases b:p<18
 ·rw[if_pos b,if_pos b]
 rw[if_neg b,if_neg b]
 by_cases c:p=18
 ·rw[if_pos c,if_pos c]
 rw[if_neg c,if_neg c]
 by_cases d:p=19
 ·rw[if_pos d,if_pos d]
 rw[if_neg d,if_neg d]
 by_cases f:p=20
 ·rw[if_pos f,if_pos f]
 rw[if_neg f,if_neg f]
 by_cases g:p<27
 ·rw[if_pos g,if_pos g]; simp[bB,show ¬ p-21=i by omega]
 rw[if_neg g,if_neg g]
end
def qd(R:Nat->Nat->Int):Nat->Value:=fun i => .agg (aA 54 (rv .i64 (R i)))
def yJ(T:dB):Nat->Value:=fun j => .int .u64 (T.p j)
def nY(g:Nat->Nat->Int):Nat->Value:=fun i => .agg (aA 5 (jP (g i)))
def yK:Nat->Value:=fun _ => .bool true
structure QlN(m:dG):Prop where
 mp:m.mb≠m.pb
 mr:m.mb≠m.rb
 mg:m.mb≠m.gb
 ma:m.mb≠m.ab
 pr:m.pb≠m.rb
 pg:m.pb≠m.gb
 pa:m.pb≠m.ab
 rg:m.rb≠m.gb
 ra:m.rb≠m.ab
 ga:m.gb≠m.ab
structure je(w:World)(B lp:Nat)(m:dG):Prop where
 c:aL w lp 29 (oO m) 59
 t:mM w B m.tp m.mb m.T
 p:Mp w m.pb m.T.n m.T.x (yJ m.T)
 r:Mp w m.rb m.T.n m.T.x (qd m.R)
 g:fC w m.gb m.gn (fun i=>m.g i 0) (fun i=>m.g i 1) (nY m.g)
 a:fC w m.ab m.an m.ao m.ar yK
 ne:QlN m
 lB:B<=lp
 pB:B<=m.pb
 rB:B<=m.rb
 gB:B<=m.gb
 aB:B<=m.ab
def Ah(m:dG)(lp:Nat)(k:Nat):Prop:=k=lp\/k=m.mb\/k=m.pb\/k=m.rb\/k=m.gb\/k=m.ab
section
variable {w w':World} {B lp:Nat} {m:dG}
theorem je.up(h:je w B lp m)(b:Below w.heap.size w w'):je w' B lp m := { h with c:=h.c.eG (Sb b) (Nat.ne_of_lt h.c.lt),t:=h.t.up b,p:=h.p.up b,r:=h.r.up b,g:=h.g.up b,a:=h.a.up b }
instance:Rt.Tr w w' (je w B lp m) (je w' B lp m):=⟨fun b h=>h.up b⟩
theorem je.om{d:List TypeId}(h:je w B lp m)(b:jO d w w')(e:(d.contains 59 || d.contains 82)=false):je w' B lp m:=by
 rw[Bool.or_eq_false_iff]at e
 exact { h with c:=h.c.om b e.1,t:=h.t.om b e.2,p:=h.p.om b trivial,r:=h.r.om b trivial,g:=h.g.om b trivial,a:=h.a.om b trivial }
instance {a:List TypeId}:Rt.Tc a w w' (je w B lp m) (je w' B lp m) (!(a.contains 59 || a.contains 82)):=⟨fun b h e=>h.om b (by simpa using e)⟩
theorem mM.keep{tp mb:Nat}{T:dB}(h:mM w B tp mb T)(a:w'.heap[tp]? = w.heap[tp]?)(b:w'.heap[mb]? = w.heap[mb]?):mM w' B tp mb T:=⟨a.trans h.blk,h.map.keep b,h.inv,h.gt,h.gm⟩
theorem je.keep(h:je w B lp m)(b : ∀ k,k=lp\/k=m.tp\/k=m.mb\/k=m.pb\/k=m.rb\/k=m.gb\/k=m.ab->w'.heap[k]? = w.heap[k]?):je w' B lp m := { h with
 c:=(b _ (.inl rfl)).trans h.c,t:=mM.keep h.t (b _ (.inr (.inl rfl))) (b _ (.inr (.inr (.inl rfl)))),p:=h.p.keep (b _ (.inr (.inr (.inr (.inl rfl))))),r:=h.r.keep (b _ (.inr (.inr (.inr (.inr (.inl rfl)))))),
 g:=h.g.keep (b _ (.inr (.inr (.inr (.inr (.inr (.inl rfl))))))),a:=h.a.keep (b _ (.inr (.inr (.inr (.inr (.inr (.inr rfl))))))) }
theorem je.ZL{S:Nat->Prop}(h:je w B lp m)(f:iU S w w')(d : ∀ k,k=m.tp\/Ah m lp k -> ¬ S k):je w' B lp m:=by
 have b : ∀ k,k<w.heap.size -> ¬ S k->w'.heap[k]? = w.heap[k]? := f.block
 refine h.keep fun k e => ?_
 rcases e with rfl|rfl|rfl|rfl|rfl|rfl|rfl
 ·exact b _ h.c.lt (d _ (.inr (.inl rfl)))
 ·exact b _ h.t.blk.lt (d _ (.inl rfl))
 ·exact b _ h.t.lt (d _ (.inr (.inr (.inl rfl))))
 ·exact b _ h.p.lt (d _ (.inr (.inr (.inr (.inl rfl)))))
 ·exact b _ h.r.lt (d _ (.inr (.inr (.inr (.inr (.inl rfl))))))
 ·exact b _ h.g.lt (d _ (.inr (.inr (.inr (.inr (.inr (.inl rfl)))))))
 exact b _ h.a.lt (d _ (.inr (.inr (.inr (.inr (.inr (.inr rfl)))))))
theorem je.weak{b:Nat}(h:je w B lp m)(a:b<=B):je w b lp m := { h with t:=h.t.weak a,lB:=Nat.le_trans a h.lB,pB:=Nat.le_trans a h.pB,rB:=Nat.le_trans a h.rB,gB:=Nat.le_trans a h.gB,aB:=Nat.le_trans a h.aB }
theorem je.lt(h:je w B lp m):lp<w.heap.size:=h.c.lt
theorem je.ltS(h:je w B lp m){k:Nat}(b:Ah m lp k):B<=k/\k<w.heap.size:=by
 rcases b with rfl|rfl|rfl|rfl|rfl|rfl
 ·exact⟨h.lB,h.c.lt⟩
 ·exact⟨h.t.gm,h.t.lt⟩
 ·exact⟨h.pB,h.p.lt⟩
 ·exact⟨h.rB,h.r.lt⟩
 ·exact⟨h.gB,h.g.lt⟩
 exact⟨h.aB,h.a.lt⟩
end
namespace Rt
def vS(x:Nat->Int):Nat->Int->Nat
 | 0,_=>0
 | n+1,k=>if x n=k then n else vS x n k
theorem jH{x:Nat->Int}{j:Nat}{k:Int} : ∀ {n:Nat},(∀ a b,a<n->b<n->x a=x b->a=b)->j<n->x j=k->vS x n k=j
 | 0,_,h,_=>absurd h (Nat.not_lt_zero _)
 | n+1,hi,hj,e=>by
   unfold vS
   by_cases c:x n=k
   ·rw[if_pos c]; exact hi n j (by omega) hj (c.trans e.symm)
   ·rw[if_neg c]
    refine jH (fun a b d f=>hi a b (by omega) (by omega)) ?_ e
    rcases Nat.lt_or_ge j n with h|h
    ·exact h
    ·obtain rfl:j=n:=by omega
     exact absurd e c
end Rt
def dG.idx(m:dG)(k:Int):Nat:=vS m.T.x m.T.n k
def He(m:dG)(lp a:Nat)(k:Nat):Prop:=Ah m lp k\/a<=k
structure ND(w:World)(B lp:Nat)(m m':dG)(b0:Nat)(fv:Value)(fi:Nat)(cap:Array Value):Prop where
 e:fv = .func (.func fi) #[] cap
 f : ∃ fn c, Tryd.prog.funcs[fi]? = some fn ∧ (fn.name == "runtime.NumGoroutine") = false ∧ fn.body = some c
 s : ∀ w2,Below w.heap.size w w2->Calls Tryd.prog fi cap w2 fun e w3=>e = .returned (.tuple #[])/\je w3 B lp m'/\iU (He m lp b0) w2 w3
def Lb(w:World)(B lp:Nat)(m f:dG)(b:Int)(e:Ending)(w':World):Prop :=
 (∃ a d c,e = .returned (.tuple #[a,.int .i64 b])/\a.oneCell'=true/\(b=0->ND w' B lp m f w.heap.size a d c))/\Below w.heap.size w w'
theorem je.DF{w w':World}{B lp g n d:Nat}{m:dG}{x:Nat->Value}{T:TypeId}(h:je w B lp m)(b:aL w g n x T)(f:T≠59)(i:iU (He m lp d) w w')(j:g<d):aL w' g n x T:=b.ZL i fun e=>by
 rcases e with (rfl|rfl|rfl|rfl|rfl|rfl)|e
 ·exact f (Fx.Ty.only h.c.ty b.ty)
 ·exact h.t.map.mI b.ty
 ·exact h.p.mI b.ty
 ·exact h.r.mI b.ty
 ·exact h.g.mI b.ty
 ·exact h.a.mI b.ty
 ·omega
theorem Fx.Jo{P:Program}{f:Nat->Value}{w:World}{o:Oper}{g:Nat}{t:Operand}{b:List Operand}{args:List Value}{d:Array TypeId}{cap all:Array Value}(l:o.op = .call { callee := .value t,args:=b.toArray,argTypes:=d })(m:ev f t = .func (.func g) #[] cap)(hx:b.map (ev f)=args)(j:args.toArray++cap=all)
 (k : ∃ a c, P.funcs[g]? = some a ∧ (a.name == "runtime.NumGoroutine") = false ∧ a.body = some c) : (execOp (ev f) o).run P w = .ok (.enter g all) w := by
 obtain⟨a,c,e,h,i⟩:=k
 exact Fx.vg l m hx (by rw[<- j]; simp) e h i
namespace Fx
theorem It.dh{w w':World}{r b n g:Nat}{S:Nat->Bool}(h:It w r b n S)(a:Kh g w w')(c:b≠g)(d:r≠g):It w' r b n S:=h.keep (a.s.block b h.TQ c) (a.s.block r h.lt d)
theorem uS.dh{w w':World}{r b i g:Nat}(h:uS w r b i)(a:Kh g w w')(c:b≠g)(d:r≠g):uS w' r b i:=h.keep (a.s.block b h.TQ c) (a.s.block r h.lt d)
end Fx
end
end Go.Proofs.YtcbedgfikejkoaaDoor
namespace Go.Proofs.YtcbedgfikejkoaaDoor.Fx
open Go.RowKit
section
variable {P:Program} {n0:Nat} {Q:Post} {f:Nat->Value} {w:World} {ops:Array Oper} {rest:List Oper} {o:Oper}
theorem Hf{T E:TypeId}{x:Operand}{b off n s:Nat}(d:o.op = .slice T x none none none)(hx:ev f x = .pointer (some ⟨b,off,none⟩))(c:P.underlying T=some (.array n E))(e:(P.info? E).map (·.size)=some s) :
 Runs P f o w (.slice (some ⟨b,off,none⟩) n n):=by
 obtain⟨i,a,g⟩:=Option.map_eq_some_iff.1 e
 unfold Runs execOp
 simp only[d,hx,Option.map_none]
 by_cases h:n=0
 ·subst h; simp[Instr.sliceAt,Instr.sureAddr,underlying,c,Instr.sliceBounds,sizeOf,typeInfo,a]
 simp[Instr.sliceAt,Instr.sureAddr,underlying,c,Instr.sliceBounds,sizeOf,typeInfo,a,Addr.add,g]
end
end Go.Proofs.YtcbedgfikejkoaaDoor.Fx
namespace Go.Proofs.YtcbedgfikejkoaaDoor
open Go.RowKit Rt
open Fx (eU dJ fu bf fq eZ dS dM fA gQ dH gT eP gD gU Lv sN Ln Ws Qv Wl Rp Wc Qs Wr Sb Lk Wk rC rV sR Rs Rn Rd Rk Wb Wx Wo yT Wt pE Qn AX uo xL yB xJ AZ AY gG yR jM nT tC A8 yA yP xQ yQ rv aA aL bC aI ev bT Stp bU aM flat fH Mp dL aV fC gI aX down fM iU ji jv bG bA cells_one jO aY nE unseen jk iT cu bW cB bY bZ iB iG qP gV)
namespace Rt
def iX(v:EvM)(l:Int):Bool:=decide (l<=v.bH)&&decide (v.bH<=1125899906842624)
def lX(v:EvM):EvM:=⟨v.o,v.seq,v.deps,v.kind,0,v.dst,0,v.req,v.of⟩
def rU(v:EvM):Bool:=decide (0<v.req)
def Hg(v:EvM):EvM:=⟨v.o,v.seq,v.deps,v.kind,v.node,v.dst,v.bH,0,v.of⟩
def UN(v:EvM):EvM:=⟨v.o,v.seq,v.deps,v.kind,v.node,v.dst,v.bH,0,0⟩
def toB(v:EvM):Bool:=jo v.dst && !decide (v.dst=v.o)
def Fh(v:EvM):EvM:=⟨v.o,v.seq,v.deps,v.kind,v.node,0,v.bH,v.req,v.of⟩
end Rt
def Rt.yL(v:EvM):Bool:=decide (0<v.req)&&(decide (0<v.of) && !decide (v.of=v.req))
theorem vT(n:Int)(w:World) :
 Calls Tryd.prog 56 #[au n] w fun e w'=>e = .returned (.bool (jo n))/\w'=w:=by
 refine Kent Tryd.func56 9 ?_
 refine ay<|av aF<|aD<|ay<|av (au n) ?_
 by_cases a:1<=n
 ·refine Lv aG (qD a)<|av aG<|av (au n) ?_
  by_cases b:n<=6
  ·refine Lv aG (qC b)<|av aG<|av aG<|aD<|Wr<|aN aG ?_
   exact⟨mK (by simp only[jo]; first|(symm; simp; omega)|(symm; simp; done)),rfl⟩
  refine Lv aF (qU b)<|av aF<|av aF<|aD<|Wr<|aN aF ?_
  exact⟨mK (by simp only[jo]; first|(symm; simp; omega)|(symm; simp; done)),rfl⟩
 refine Lv aF (pJ a)<|av aF<|cO<|cO<|av aF<|av aF<|aD<|Wr<|aN aF ?_
 exact⟨mK (by simp only[jo]; first|(symm; simp; omega)|(symm; simp; done)),rfl⟩
theorem DI(l:Int)(v:EvM)(g:Nat)(w:World)(a:aL w g 14 (dz v) 124) :
 Calls Tryd.prog 67 #[(pt g),au l] w fun e w'=>e = .returned (.bool (iX v l))/\aL w' g 14 (dz (lX v)) 124/\Stp g w w':=by
 have P:=a.lt
 refine Kent Tryd.func67 30 ?_
 refine ay<|av aF<|aD<|ay<|av ((pt g))<|av ((pt g))<|av ((pt g))<|av ((pf g 11))<|Lv (au v.bH) (aP a.aJ 11)<|av (au l) ?_
 by_cases c:l<=v.bH
 ·refine Lv aG (qD c)<|av aG<|av ((pt g))<|av ((pt g))<|av ((pt g))<|av ((pf g 11))<|Lv (au v.bH) (aP a.aJ 11) ?_
  by_cases d:v.bH<=1125899906842624
  ·refine Lv aG (qC d)<|av aG<|av aG<|aD<|ay<|av ((pt g))<|av ((pt g))<|av ((pt g))<|av ((pt g))<|av ((pf g 9))<|mZ a 9 (aC 0) fun J p D Q => ?_
   have t:aL J g 14 (dz (⟨v.o,v.seq,v.deps,v.kind,0,v.dst,v.bH,v.req,v.of⟩:EvM)) 124:=p.congr (fun j b=>by rcases j with _|_|_|_|_|_|_|_|_|_|_|_|_|_|j <;> first|rfl|omega)
   have f:=(jM g w).then D (by omega)
   refine av ((pt g))<|av ((pt g))<|av ((pf g 11))<|mZ t 11 (au 0) fun K u E R => ?_
   have x:aL K g 14 (dz (⟨v.o,v.seq,v.deps,v.kind,0,v.dst,0,v.req,v.of⟩:EvM)) 124:=u.congr (fun j b=>by rcases j with _|_|_|_|_|_|_|_|_|_|_|_|_|_|j <;> first|rfl|omega)
   have h:=f.then E (by omega)
   refine aD<|ay<|av aG<|av aG<|aD<|Wr<|aN aG ?_
   exact⟨mK (by simp only[iX]; first|(symm; simp; omega)|(symm; simp; done)),x,h⟩
  refine Lv aF (qU d)<|av aF<|av aF<|aD<|ay<|av ((pt g))<|av ((pt g))<|av ((pt g))<|av ((pt g))<|av ((pf g 9))<|mZ a 9 (aC 0) fun L y F S => ?_
  have z:aL L g 14 (dz (⟨v.o,v.seq,v.deps,v.kind,0,v.dst,v.bH,v.req,v.of⟩:EvM)) 124:=y.congr (fun j b=>by rcases j with _|_|_|_|_|_|_|_|_|_|_|_|_|_|j <;> first|rfl|omega)
  have i:=(jM g w).then F (by omega)
  refine av ((pt g))<|av ((pt g))<|av ((pf g 11))<|mZ z 11 (au 0) fun M A G T => ?_
  have B:aL M g 14 (dz (⟨v.o,v.seq,v.deps,v.kind,0,v.dst,0,v.req,v.of⟩:EvM)) 124:=A.congr (fun j b=>by rcases j with _|_|_|_|_|_|_|_|_|_|_|_|_|_|j <;> first|rfl|omega)
  have k:=i.then G (by omega)
  refine aD<|ay<|av aF<|av aF<|aD<|Wr<|aN aF ?_
  exact⟨mK (by simp only[iX]; first|(symm; simp; omega)|(symm; simp; done)),B,k⟩
 refine Lv aF (pJ c)<|av aF<|cO<|cO<|cO<|cO<|cO<|cO<|av aF<|av aF<|aD<|ay<|av ((pt g))<|av ((pt g))<|av ((pt g))<|av ((pt g))<|av ((pf g 9))<|mZ a 9 (aC 0) fun N C H U => ?_
 have q:aL N g 14 (dz (⟨v.o,v.seq,v.deps,v.kind,0,v.dst,v.bH,v.req,v.of⟩:EvM)) 124:=C.congr (fun j b=>by rcases j with _|_|_|_|_|_|_|_|_|_|_|_|_|_|j <;> first|rfl|omega)
 have m:=(jM g w).then H (by omega)
 refine av ((pt g))<|av ((pt g))<|av ((pf g 11))<|mZ q 11 (au 0) fun O r I V => ?_
 have s:aL O g 14 (dz (⟨v.o,v.seq,v.deps,v.kind,0,v.dst,0,v.req,v.of⟩:EvM)) 124:=r.congr (fun j b=>by rcases j with _|_|_|_|_|_|_|_|_|_|_|_|_|_|j <;> first|rfl|omega)
 have n:=m.then I (by omega)
 refine aD<|ay<|av aF<|av aF<|aD<|Wr<|aN aF ?_
 exact⟨mK (by simp only[iX]; first|(symm; simp; omega)|(symm; simp; done)),s,n⟩
theorem Jp(v:EvM)(g:Nat)(w:World)(a:aL w g 14 (dz v) 124) :
 Calls Tryd.prog 68 #[(pt g)] w fun e w'=>e = .returned (.bool (rU v))/\aL w' g 14 (dz (Hg v)) 124/\Stp g w w':=by
 have r:=a.lt
 refine Kent Tryd.func68 15 ?_
 refine ay<|av aF<|aD<|ay<|av ((pt g))<|av ((pt g))<|av ((pt g))<|av ((pf g 12))<|Lv (aC v.req) (aP a.aJ 12) ?_
 by_cases b:0<v.req
 ·refine Lv aG (vo b)<|av aG<|aD<|ay<|av ((pt g))<|av ((pt g))<|av ((pt g))<|av ((pf g 12))<|mZ a 12 (aC 0) fun p h m s => ?_
  have i:aL p g 14 (dz (⟨v.o,v.seq,v.deps,v.kind,v.node,v.dst,v.bH,0,v.of⟩:EvM)) 124:=h.congr (fun j f=>by rcases j with _|_|_|_|_|_|_|_|_|_|_|_|_|_|j <;> first|rfl|omega)
  have c:=(jM g w).then m (by omega)
  refine aD<|ay<|av aG<|av aG<|aD<|Wr<|aN aG ?_
  exact⟨mK (by simp only[rU]; first|(symm; simp; omega)|(symm; simp; done)),i,c⟩
 refine Lv aF (vv b)<|av aF<|aD<|ay<|av ((pt g))<|av ((pt g))<|av ((pt g))<|av ((pf g 12))<|mZ a 12 (aC 0) fun q k n t => ?_
 have l:aL q g 14 (dz (⟨v.o,v.seq,v.deps,v.kind,v.node,v.dst,v.bH,0,v.of⟩:EvM)) 124:=k.congr (fun j f=>by rcases j with _|_|_|_|_|_|_|_|_|_|_|_|_|_|j <;> first|rfl|omega)
 have d:=(jM g w).then n (by omega)
 refine aD<|ay<|av aF<|av aF<|aD<|Wr<|aN aF ?_
 exact⟨mK (by simp only[rU]; first|(symm; simp; omega)|(symm; simp; done)),l,d⟩
theorem abR(v:EvM)(g:Nat)(w:World)(h:aL w g 14 (dz v) 124) :
 Calls Tryd.prog 69 #[(pt g)] w fun e w'=>e = .returned (.bool (yL v))/\aL w' g 14 (dz (UN v)) 124/\Stp g w w':=by
 have lg:=h.lt
 refine Kent Tryd.func69 32 ?_
 refine ay<|av aF<|aD<|Ws ?_
 -- region 1 draws
 refine TL<|bE ((pt g))<|bE ((pt g))<|bE ((pt g))<|bE ((pf g 13))<|Qv (aC v.of) (fun b d=>aP (h.aJ.dr d) 13) ?_
 by_cases r:0<v.of
 ·refine Qv aG (fun b d=>vo r)<|bE aG<|bE ((pt g))<|bE ((pt g))<|bE ((pt g))<|bE ((pf g 13))<|Qv (aC v.of) (fun b d=>aP (h.aJ.dr d) 13)<|bE ((pt g))<|bE ((pt g))<|bE ((pt g))<|bE ((pf g 12))<|Qv (aC v.req) (fun b d=>aP (h.aJ.dr d) 12) ?_
  by_cases q:v.of=v.req
  ·refine Qv aF (fun b d=>kW q)<|bE aF<|bE aF<|Qn ?_
   rintro _ ⟨f,rfl⟩
   obtain⟨Z,i⟩ : ∃ b,b=World.drewN w f:=⟨_,rfl⟩
   rw[<- i]
   have y:Stp w.heap.size w Z:=by rw[i]; exact Sb (Ej w f)
   have H:=aR y.old h
   have B:=(jM g w).then y (.inr (jM g w).size)
   clear i
   refine sN<|ay<|av ((pt g))<|av ((pt g))<|av ((pt g))<|av ((pf g 13))<|mZ H 13 (aC 0) fun W K Q z1 => ?_
   have L:aL W g 14 (dz (⟨v.o,v.seq,v.deps,v.kind,v.node,v.dst,v.bH,v.req,0⟩:EvM)) 124:=K.congr (fun j s=>by rcases j with _|_|_|_|_|_|_|_|_|_|_|_|_|_|j <;> first|rfl|omega)
   have C:=B.then Q (by omega)
   refine aD<|ay<|av ((pt g))<|jy (Jp (⟨v.o,v.seq,v.deps,v.kind,v.node,v.dst,v.bH,v.req,0⟩:EvM) g _ L) ?_
   rintro e w2 ⟨a,u,R⟩
   have m:=C.then R (by omega)
   by_cases c:rU (⟨v.o,v.seq,v.deps,v.kind,v.node,v.dst,v.bH,v.req,0⟩:EvM)=true
   ·refine⟨.bool true,by rw[a,c],?_⟩
    clear a
    refine av aG<|av aF<|av aF<|av aF<|aD<|Wr<|aN aF ?_
    exact⟨mK (by simp only[yL,rU]at *; first|(symm; simp; omega)|(symm; simp at *; omega)|(symm; simp at *; done)),u,m⟩
   rw[Bool.not_eq_true]at c
   refine⟨.bool false,by rw[a,c],?_⟩
   clear a
   refine av aF<|cO<|av aF<|av aF<|aD<|Wr<|aN aF ?_
   exact⟨mK (by simp only[yL,rU]at *; first|(symm; simp; omega)|(symm; simp at *; omega)|(symm; simp at *; done)),u,m⟩
  refine Qv aG (fun b d=>qV q)<|bE aG<|bE aG<|Qn ?_
  rintro _ ⟨f,rfl⟩
  obtain⟨aa,k⟩ : ∃ b,b=World.drewN w f:=⟨_,rfl⟩
  rw[<- k]
  have z:Stp w.heap.size w aa:=by rw[k]; exact Sb (Ej w f)
  have M:=aR z.old h
  have D:=(jM g w).then z (.inr (jM g w).size)
  clear k
  refine sN<|ay<|av ((pt g))<|av ((pt g))<|av ((pt g))<|av ((pf g 13))<|mZ M 13 (aC 0) fun X N S z2 => ?_
  have O:aL X g 14 (dz (⟨v.o,v.seq,v.deps,v.kind,v.node,v.dst,v.bH,v.req,0⟩:EvM)) 124:=N.congr (fun j s=>by rcases j with _|_|_|_|_|_|_|_|_|_|_|_|_|_|j <;> first|rfl|omega)
  have E:=D.then S (by omega)
  refine aD<|ay<|av ((pt g))<|jy (Jp (⟨v.o,v.seq,v.deps,v.kind,v.node,v.dst,v.bH,v.req,0⟩:EvM) g _ O) ?_
  rintro e w4 ⟨a,x,T⟩
  have n:=E.then T (by omega)
  by_cases c:rU (⟨v.o,v.seq,v.deps,v.kind,v.node,v.dst,v.bH,v.req,0⟩:EvM)=true
  ·refine⟨.bool true,by rw[a,c],?_⟩
   clear a
   refine av aG<|av aG<|av aG<|av aG<|aD<|Wr<|aN aG ?_
   exact⟨mK (by simp only[yL,rU]at *; first|(symm; simp; omega)|(symm; simp at *; omega)|(symm; simp at *; done)),x,n⟩
  rw[Bool.not_eq_true]at c
  refine⟨.bool false,by rw[a,c],?_⟩
  clear a
  refine av aF<|cO<|av aF<|av aF<|aD<|Wr<|aN aF ?_
  exact⟨mK (by simp only[yL,rU]at *; first|(symm; simp; omega)|(symm; simp at *; omega)|(symm; simp at *; done)),x,n⟩
 refine Qv aF (fun b d=>vv r)<|bE aF<|aW<|aW<|aW<|aW<|aW<|aW<|aW<|aW<|aW<|aW<|aW<|bE aF<|bE aF<|Qn ?_
 rintro _ ⟨f,rfl⟩
 obtain⟨ab,l⟩ : ∃ b,b=World.drewN w f:=⟨_,rfl⟩
 rw[<- l]
 have A:Stp w.heap.size w ab:=by rw[l]; exact Sb (Ej w f)
 have P:=aR A.old h
 have F:=(jM g w).then A (.inr (jM g w).size)
 clear l
 refine sN<|ay<|av ((pt g))<|av ((pt g))<|av ((pt g))<|av ((pf g 13))<|mZ P 13 (aC 0) fun Y I U z3 => ?_
 have J:aL Y g 14 (dz (⟨v.o,v.seq,v.deps,v.kind,v.node,v.dst,v.bH,v.req,0⟩:EvM)) 124:=I.congr (fun j s=>by rcases j with _|_|_|_|_|_|_|_|_|_|_|_|_|_|j <;> first|rfl|omega)
 have G:=F.then U (by omega)
 refine aD<|ay<|av ((pt g))<|jy (Jp (⟨v.o,v.seq,v.deps,v.kind,v.node,v.dst,v.bH,v.req,0⟩:EvM) g _ J) ?_
 rintro e w6 ⟨a,t,V⟩
 have p:=G.then V (by omega)
 by_cases c:rU (⟨v.o,v.seq,v.deps,v.kind,v.node,v.dst,v.bH,v.req,0⟩:EvM)=true
 ·refine⟨.bool true,by rw[a,c],?_⟩
  clear a
  refine av aG<|av aF<|av aF<|av aF<|aD<|Wr<|aN aF ?_
  exact⟨mK (by simp only[yL,rU]at *; first|(symm; simp; omega)|(symm; simp at *; omega)|(symm; simp at *; done)),t,p⟩
 rw[Bool.not_eq_true]at c
 refine⟨.bool false,by rw[a,c],?_⟩
 clear a
 refine av aF<|cO<|av aF<|av aF<|aD<|Wr<|aN aF ?_
 exact⟨mK (by simp only[yL,rU]at *; first|(symm; simp; omega)|(symm; simp at *; omega)|(symm; simp at *; done)),t,p⟩
theorem Yo(v:EvM)(g:Nat)(w:World)(a:aL w g 14 (dz v) 124) :
 Calls Tryd.prog 70 #[(pt g)] w fun e w'=>e = .returned (.bool (toB v))/\aL w' g 14 (dz (Fh v)) 124/\Stp g w w':=by
 have Q:=a.lt
 refine Kent Tryd.func70 28 ?_
 refine ay<|av aF<|aD<|Ws ?_
 -- region 1 draws
 refine lU<|bE ((pt g))<|bE ((pt g))<|bE ((pt g))<|bE ((pf g 10))<|Qv (au v.dst) (fun d b=>aP (a.cb b) 10) ?_
 by_cases c:(jo v.dst)=true
 ·refine nD (fun _ _=>vT v.dst _) aG (by rw[c])<|bE aG<|bE ((pt g))<|bE ((pt g))<|bE ((pt g))<|bE ((pf g 10))<|Qv (au v.dst) (fun d b=>aP (a.cb b) 10)<|bE ((pt g))<|bE ((pt g))<|bE ((pt g))<|bE ((pt g))<|Qv (au v.o) (fun d b=>aP (a.cb b) 0) ?_
  by_cases f:v.dst=v.o
  ·refine Qv aF (fun d b=>kW f)<|bE aF<|bE aF<|Qn ?_
   intro N h
   have E:Stp w.heap.size w N:=Sb h
   have t:=aR h a
   have m:=(jM g w).then E (.inr (jM g w).size)
   refine sN<|ay<|av ((pt g))<|av ((pt g))<|av ((pt g))<|av ((pf g 10))<|mZ t 10 (au 0) fun K u F R => ?_
   have x:aL K g 14 (dz (⟨v.o,v.seq,v.deps,v.kind,v.node,0,v.bH,v.req,v.of⟩:EvM)) 124:=u.congr (fun j l=>by rcases j with _|_|_|_|_|_|_|_|_|_|_|_|_|_|j <;> first|rfl|omega)
   have n:=m.then F (by omega)
   refine aD<|ay<|av aF<|av aF<|aD<|Wr<|aN aF ?_
   exact⟨mK (by unfold toB; rw[c]; first|(symm; simp; omega)|(symm; simp; done)),x,n⟩
  refine Qv aG (fun d b=>qV f)<|bE aG<|bE aG<|Qn ?_
  intro O i
  have G:Stp w.heap.size w O:=Sb i
  have y:=aR i a
  have p:=(jM g w).then G (.inr (jM g w).size)
  refine sN<|ay<|av ((pt g))<|av ((pt g))<|av ((pt g))<|av ((pf g 10))<|mZ y 10 (au 0) fun L z H S => ?_
  have A:aL L g 14 (dz (⟨v.o,v.seq,v.deps,v.kind,v.node,0,v.bH,v.req,v.of⟩:EvM)) 124:=z.congr (fun j l=>by rcases j with _|_|_|_|_|_|_|_|_|_|_|_|_|_|j <;> first|rfl|omega)
  have q:=p.then H (by omega)
  refine aD<|ay<|av aG<|av aG<|aD<|Wr<|aN aG ?_
  exact⟨mK (by unfold toB; rw[c]; first|(symm; simp; omega)|(symm; simp; done)),A,q⟩
 rw[Bool.not_eq_true]at c
 refine nD (fun _ _=>vT v.dst _) aF (by rw[c])<|bE aF<|aW<|aW<|aW<|aW<|aW<|aW<|aW<|aW<|aW<|aW<|aW<|bE aF<|bE aF<|Qn ?_
 intro P k
 have I:Stp w.heap.size w P:=Sb k
 have B:=aR k a
 have r:=(jM g w).then I (.inr (jM g w).size)
 refine sN<|ay<|av ((pt g))<|av ((pt g))<|av ((pt g))<|av ((pf g 10))<|mZ B 10 (au 0) fun M C J T => ?_
 have D:aL M g 14 (dz (⟨v.o,v.seq,v.deps,v.kind,v.node,0,v.bH,v.req,v.of⟩:EvM)) 124:=C.congr (fun j l=>by rcases j with _|_|_|_|_|_|_|_|_|_|_|_|_|_|j <;> first|rfl|omega)
 have s:=r.then J (by omega)
 refine aD<|ay<|av aF<|av aF<|aD<|Wr<|aN aF ?_
 exact⟨mK (by unfold toB; rw[c]; first|(symm; simp; omega)|(symm; simp; done)),D,s⟩
namespace Rt
def jC(v:EvM):Bool :=
 if v.kind=1 then iX v 0 else if v.kind=2 then iX v 1 else if v.kind=3 then iX v 1&&rU v else if v.kind=4 then yL v else if v.kind=5 then iX v 1&&toB v else if v.kind=6 then toB v else decide (v.kind=7)
def lN(v:EvM):EvM :=
 if v.kind=1 then lX v else if v.kind=2 then lX v else if v.kind=3 then Hg (lX v)else if v.kind=4 then UN v else if v.kind=5 then Fh (lX v)else if v.kind=6 then Fh v else v
def NG(v:EvM):EvM:=⟨v.o,v.seq,v.deps,v.kind,0,0,0,0,0⟩
theorem UO(a b:EvM):(∀ i,i<14->dz a i=dz b i)<->a.o=b.o/\a.seq=b.seq/\(∀ i,i<6->a.deps i=b.deps i)/\a.kind=b.kind/\a.node=b.node/\a.dst=b.dst/\a.bH=b.bH/\a.req=b.req/\a.of=b.of:=by
 constructor
 ·intro h
  have f:Value.int .i64 a.o=au b.o:=h 0 (by decide)
  have g:Value.int .u64 a.seq=aC b.seq:=h 1 (by decide)
  have p:Value.int .u8 a.kind = .int .u8 b.kind:=h 8 (by decide)
  have q:Value.int .u64 a.node=aC b.node:=h 9 (by decide)
  have j:Value.int .i64 a.dst=au b.dst:=h 10 (by decide)
  have k:Value.int .i64 a.bH=au b.bH:=h 11 (by decide)
  have l:Value.int .u64 a.req=aC b.req:=h 12 (by decide)
  have m:Value.int .u64 a.of=aC b.of:=h 13 (by decide)
  simp only[Value.int.injEq,true_and]at f g p q j k l m
  refine⟨f,g,fun i r => ?_,p,q,j,k,l,m⟩
  have n:=h (i+2) (by omega)
  rw[oH a rfl r,oH b rfl r]at n
  simpa using n
 rintro ⟨f,g,n,p,q,j,k,l,m⟩ i r
 unfold dz
 rw[f,g,p,q,j,k,l,m]
 by_cases c:i=0
 ·rw[if_pos c,if_pos c]
 by_cases d:i=1
 ·rw[if_neg c,if_pos d,if_neg c,if_pos d]
 by_cases e:i<8
 ·rw[if_neg c,if_neg d,if_pos e,if_neg c,if_neg d,if_pos e,n _ (by omega)]
 rw[if_neg c,if_neg d,if_neg e,if_neg c,if_neg d,if_neg e]
theorem Cn{v:EvM}(a:jC v=true):(∀ i,i<14->dz (lN v) i=dz (NG v) i)<->uj v=true:=by
 have h:=a
 rw[UO]
 unfold jC at h
 unfold lN uj Dn NG
 simp only[Bool.and_eq_true,decide_eq_true_eq]
 split at h
 ·rename_i k; simp[k,lX,and_assoc]
 split at h
 ·rename_i k1 k; simp[k,lX,and_assoc]
 split at h
 ·rename_i k1 k2 k; simp[k,lX,Hg,and_assoc]
 split at h
 ·rename_i k1 k2 k3 k; simp[k,UN,and_assoc]
 split at h
 ·rename_i k1 k2 k3 k4 k; simp[k,lX,Fh,and_assoc]
 split at h
 ·rename_i k1 k2 k3 k4 k5 k; simp[k,Fh,and_assoc]
 rename_i k1 k2 k3 k4 k5 k6; simp[k1,k2,k3,k4,k5,k6,and_assoc]
theorem xZ{v:EvM}(h:uj v=true):iP v=jC v:=by
 unfold uj Dn at h
 unfold iP jC someE iX yL toB zW rU
 simp only[Bool.and_eq_true,decide_eq_true_eq]at h
 split <;> try rfl
 rename_i k1
 split <;> try rfl
 rename_i k2
 split
 ·congr 1
 rename_i k3
 split
 ·rename_i k4; rw[Bool.eq_iff_iff]; simp only[Bool.and_eq_true,decide_eq_true_eq,Bool.not_eq_true',decide_eq_false_iff_not]; omega
 split <;> rfl
def Hl(x:Nat->Int):Nat->Int
 | 0=>x 0
 | k+1=>if x (k+1)>Hl x k then x (k+1)else Hl x k
theorem NH(x:Nat->Int) : ∀ n i,i<=n->x i<=Hl x n
 | 0,i,h=>by rw[show i=0 by omega]; exact Int.le_refl _
 | n+1,i,h=>by
   unfold Hl
   by_cases e:i=n+1
   ·subst e; split <;> omega
   ·have:=NH x n i (by omega); split <;> omega
theorem NI(x:Nat->Int) : ∀ n,∃ i,i<=n/\Hl x n=x i
 | 0=>⟨0,Nat.le_refl _,rfl⟩
 | n+1=>by
   unfold Hl
   split
   ·exact⟨n+1,Nat.le_refl _,rfl⟩
   ·obtain⟨i,a,e⟩:=NI x n; exact⟨i,by omega,e⟩
theorem UQ{v:EvM}(h:1099511627776<=Hl v.deps 5):uG v=false:=by
 obtain⟨i,a,e⟩:=NI v.deps 5
 exact Kt (k:=i) (by omega) (by omega)
theorem DJ{v:EvM}(h : ¬ 1099511627776<=Hl v.deps 5):uG v=true :=
 GN (k:=6) (by omega) fun i a=>by have:=NH v.deps 5 i (by omega); omega
def Yp(v:EvM)(b:Bool)(a:EvM):Prop:=b=jC v/\(b=true->a=lN v)
end Rt
set_option maxHeartbeats 1000000 in
theorem UR(v:EvM)(g:Nat)(w:World)(k:aL w g 14 (dz v) 124) :
 Calls Tryd.prog 58 #[(pt g)] w fun e w' => ∃ b O,e = .returned (.bool b)/\aL w' g 14 (dz O) 124/\Stp g w w'/\Yp v b O:=by
 have X:=k.lt
 refine Kent Tryd.func58 46 ?_
 refine ay<|av aF<|aD<|Ws<|ay<|av ((pt g))<|av ((pt g))<|av ((pt g))<|av ((pf g 8))<|Lv (.int .u8 (v.kind)) (aP k.aJ 8)<|aD<|Wb<|ay ?_
 by_cases c:v.kind=1
 ·refine Lv aG (gH c)<|av aG<|aD<|aQ<|ay<|av ((pt g))<|jy (DI 0 v g _ k) ?_
  rintro e Y ⟨a,G,P⟩
  have y:=(jM g w).then P (by omega)
  by_cases p:iX v 0=true
  ·refine⟨.bool true,by rw[a,p],?_⟩
   clear a
   refine av aG (aD (Wr (bW (sR (aN aG (⟨_,_,rfl,G,y,Eq.symm (by unfold jC; rw[if_pos c,(show iX v 0=true from p)]; try rfl),fun d => ?_⟩))))))
   unfold lN; rw[if_pos c]; try rfl
  rw[Bool.not_eq_true]at p
  refine⟨.bool false,by rw[a,p],?_⟩
  clear a
  refine av aF (aD (Wr (bW (sR (aN aF (⟨_,_,rfl,G,y,Eq.symm (by unfold jC; rw[if_pos c,(show iX v 0=false from p)]; try rfl),fun d => ?_⟩))))))
  cases d
 refine Lv aF (iW c)<|av aF<|aD<|aK<|ay ?_
 by_cases f:v.kind=2
 ·refine Lv aG (gH f)<|av aG<|aD<|aQ<|ay<|av ((pt g))<|jy (DI 1 v g _ k) ?_
  rintro e Z ⟨a,H,Q⟩
  have z:=(jM g w).then Q (by omega)
  by_cases q:iX v 1=true
  ·refine⟨.bool true,by rw[a,q],?_⟩
   clear a
   refine av aG (aD (Wr (bW (sR (aN aG (⟨_,_,rfl,H,z,Eq.symm (by unfold jC; rw[if_neg c,if_pos f,(show iX v 1=true from q)]; try rfl),fun d => ?_⟩))))))
   unfold lN; rw[if_neg c,if_pos f]; try rfl
  rw[Bool.not_eq_true]at q
  refine⟨.bool false,by rw[a,q],?_⟩
  clear a
  refine av aF (aD (Wr (bW (sR (aN aF (⟨_,_,rfl,H,z,Eq.symm (by unfold jC; rw[if_neg c,if_pos f,(show iX v 1=false from q)]; try rfl),fun d => ?_⟩))))))
  cases d
 refine Lv aF (iW f)<|av aF<|aD<|aK<|ay ?_
 by_cases h:v.kind=3
 ·refine Lv aG (gH h)<|av aG<|aD<|aQ<|ay<|av ((pt g))<|jy (DI 1 v g _ k) ?_
  rintro e w3 ⟨a,I,R⟩
  have A:=(jM g w).then R (by omega)
  by_cases m:iX v 1=true
  ·refine⟨.bool true,by rw[a,m],?_⟩
   clear a
   refine av aG<|av ((pt g))<|jy (Jp (⟨v.o,v.seq,v.deps,v.kind,0,v.dst,0,v.req,v.of⟩:EvM) g _ I) ?_
   rintro e w4 ⟨a,J,S⟩
   have B:=A.then S (by omega)
   by_cases r:rU (⟨v.o,v.seq,v.deps,v.kind,0,v.dst,0,v.req,v.of⟩:EvM)=true
   ·refine⟨.bool true,by rw[a,r],?_⟩
    clear a
    refine av aG (av aG (aD (Wr (bW (sR (aN aG (⟨_,_,rfl,J,B,Eq.symm (by unfold jC; rw[if_neg c,if_neg f,if_pos h,(show iX v 1=true from m),(show rU v=true from r)]; try rfl),fun d => ?_⟩)))))))
    unfold lN; rw[if_neg c,if_neg f,if_pos h]; try rfl
   rw[Bool.not_eq_true]at r
   refine⟨.bool false,by rw[a,r],?_⟩
   clear a
   refine av aF (av aF (aD (Wr (bW (sR (aN aF (⟨_,_,rfl,J,B,Eq.symm (by unfold jC; rw[if_neg c,if_neg f,if_pos h,(show iX v 1=true from m),(show rU v=false from r)]; try rfl),fun d => ?_⟩)))))))
   cases d
  rw[Bool.not_eq_true]at m
  refine⟨.bool false,by rw[a,m],?_⟩
  clear a
  refine av aF (cO (cO (av aF (av aF (aD (Wr (bW (sR (aN aF (⟨_,_,rfl,I,A,Eq.symm (by unfold jC; rw[if_neg c,if_neg f,if_pos h,(show iX v 1=false from m)]; try rfl),fun d => ?_⟩))))))))))
  cases d
 refine Lv aF (iW h)<|av aF<|aD<|aK<|ay ?_
 by_cases i:v.kind=4
 ·refine Lv aG (gH i)<|av aG<|aD<|aQ<|ay<|av ((pt g))<|jy (abR v g _ k) ?_
  rintro e w5 ⟨a,K,T⟩
  have C:=(jM g w).then T (by omega)
  by_cases s:yL v=true
  ·refine⟨.bool true,by rw[a,s],?_⟩
   clear a
   refine av aG (aD (Wr (bW (sR (aN aG (⟨_,_,rfl,K,C,Eq.symm (by unfold jC; rw[if_neg c,if_neg f,if_neg h,if_pos i,(show yL v=true from s)]; try rfl),fun d => ?_⟩))))))
   unfold lN; rw[if_neg c,if_neg f,if_neg h,if_pos i]; try rfl
  rw[Bool.not_eq_true]at s
  refine⟨.bool false,by rw[a,s],?_⟩
  clear a
  refine av aF (aD (Wr (bW (sR (aN aF (⟨_,_,rfl,K,C,Eq.symm (by unfold jC; rw[if_neg c,if_neg f,if_neg h,if_pos i,(show yL v=false from s)]; try rfl),fun d => ?_⟩))))))
  cases d
 refine Lv aF (iW i)<|av aF<|aD<|aK<|ay ?_
 by_cases j:v.kind=5
 ·refine Lv aG (gH j)<|av aG<|aD<|aQ<|ay<|av ((pt g))<|jy (DI 1 v g _ k) ?_
  rintro e w6 ⟨a,L,U⟩
  have D:=(jM g w).then U (by omega)
  by_cases n:iX v 1=true
  ·refine⟨.bool true,by rw[a,n],?_⟩
   clear a
   refine av aG<|av ((pt g))<|jy (Yo (⟨v.o,v.seq,v.deps,v.kind,0,v.dst,0,v.req,v.of⟩:EvM) g _ L) ?_
   rintro e w7 ⟨a,M,V⟩
   have E:=D.then V (by omega)
   by_cases t:toB (⟨v.o,v.seq,v.deps,v.kind,0,v.dst,0,v.req,v.of⟩:EvM)=true
   ·refine⟨.bool true,by rw[a,t],?_⟩
    clear a
    refine av aG (av aG (aD (Wr (bW (sR (aN aG (⟨_,_,rfl,M,E,Eq.symm (by unfold jC; rw[if_neg c,if_neg f,if_neg h,if_neg i,if_pos j,(show iX v 1=true from n),(show toB v=true from t)]; try rfl),fun d => ?_⟩)))))))
    unfold lN; rw[if_neg c,if_neg f,if_neg h,if_neg i,if_pos j]; try rfl
   rw[Bool.not_eq_true]at t
   refine⟨.bool false,by rw[a,t],?_⟩
   clear a
   refine av aF (av aF (aD (Wr (bW (sR (aN aF (⟨_,_,rfl,M,E,Eq.symm (by unfold jC; rw[if_neg c,if_neg f,if_neg h,if_neg i,if_pos j,(show iX v 1=true from n),(show toB v=false from t)]; try rfl),fun d => ?_⟩)))))))
   cases d
  rw[Bool.not_eq_true]at n
  refine⟨.bool false,by rw[a,n],?_⟩
  clear a
  refine av aF (cO (cO (av aF (av aF (aD (Wr (bW (sR (aN aF (⟨_,_,rfl,L,D,Eq.symm (by unfold jC; rw[if_neg c,if_neg f,if_neg h,if_neg i,if_pos j,(show iX v 1=false from n)]; try rfl),fun d => ?_⟩))))))))))
  cases d
 refine Lv aF (iW j)<|av aF<|aD<|aK<|ay ?_
 by_cases l:v.kind=6
 ·refine Lv aG (gH l)<|av aG<|aD<|aQ<|ay<|av ((pt g))<|jy (Yo v g _ k) ?_
  rintro e w8 ⟨a,N,W⟩
  have F:=(jM g w).then W (by omega)
  by_cases u:toB v=true
  ·refine⟨.bool true,by rw[a,u],?_⟩
   clear a
   refine av aG (aD (Wr (bW (sR (aN aG (⟨_,_,rfl,N,F,Eq.symm (by unfold jC; rw[if_neg c,if_neg f,if_neg h,if_neg i,if_neg j,if_pos l,(show toB v=true from u)]; try rfl),fun d => ?_⟩))))))
   unfold lN; rw[if_neg c,if_neg f,if_neg h,if_neg i,if_neg j,if_pos l]; try rfl
  rw[Bool.not_eq_true]at u
  refine⟨.bool false,by rw[a,u],?_⟩
  clear a
  refine av aF (aD (Wr (bW (sR (aN aF (⟨_,_,rfl,N,F,Eq.symm (by unfold jC; rw[if_neg c,if_neg f,if_neg h,if_neg i,if_neg j,if_pos l,(show toB v=false from u)]; try rfl),fun d => ?_⟩))))))
  cases d
 refine Lv aF (iW l)<|av aF<|aD<|aK<|Wk<|cB<|sN<|ay<|av ((pt g))<|av ((pt g))<|av ((pt g))<|av ((pf g 8))<|Lv (.int .u8 (v.kind)) (aP k.aJ 8) ?_
 by_cases x:v.kind=7
 ·refine Lv aG (gH x) (av aG (aD (Wr (aN aG (⟨_,_,rfl,k,(jM g w),Eq.symm (by unfold jC; rw[if_neg c,if_neg f,if_neg h,if_neg i,if_neg j,if_neg l,decide_eq_true x]; try rfl),fun d => ?_⟩)))))
  unfold lN; rw[if_neg c,if_neg f,if_neg h,if_neg i,if_neg j,if_neg l]; try rfl
 refine Lv aF (iW x) (av aF (aD (Wr (aN aF (⟨_,_,rfl,k,(jM g w),Eq.symm (by unfold jC; rw[if_neg c,if_neg f,if_neg h,if_neg i,if_neg j,if_neg l,decide_eq_false x]; try rfl),fun d => ?_⟩)))))
 cases d
theorem Yq(x:Nat->Int)(b off:Nat)(w:World)(hx:gI w b off 6 (rv .u64 x)) :
 Calls Tryd.prog 57 #[.slice (some ⟨b,off,none⟩) (6) (6)] w fun e w'=>e = .returned (aC (Hl x 5))/\Below w.heap.size w w':=by
 have o:=hx.lt (by omega)
 refine Kent Tryd.func57 25 ?_
 refine ay<|av (aC 0)<|aD<|Ws<|ay<|av (.slice (some ⟨b,off,none⟩) (6) (6))<|av (au 6)<|Lv aF Er<|aD<|aK<|Wk<|sN<|ay<|av (.slice (some ⟨b,off,none⟩) (6) (6))<|Lv ((pf b off)) (dw 1)<|Lv (aC (x 0)) (aP hx 0)<|av (aC (x 0))<|aD<|Ws<|ay<|av (au 1)<|aD<|Wb<|Wo (fun f j => ∃ k:Nat,k<=5/\f 0 = .slice (some ⟨b,off,none⟩) (6) (6)/\f 3=aC (Hl x k)/\f 4=au (((k:Int)+1))/\gI j b off 6 (rv .u64 x)/\Below w.heap.size w j) (fun f _=>(6-(intOf (f 4)).toNat)) ⟨0,by omega,(by rfl),rfl,Fx.ic,hx,(Below.refl w.heap.size w)⟩ ?_
 rintro m p ⟨k,n,c,h,a,i,d⟩
 refine Ws<|ay<|aS a<|aS c<|av (au 6) ?_
 by_cases g:((k:Int)+1)<6
 ·refine Lv aG (jU g)<|aD<|aQ<|Wk<|sN<|Ws<|Wb<|Wl<|aS h<|aS c<|aS a<|Lv ((pf b (k+off+1))) (dw 1)<|Lv (aC (x (k+1))) (aP i (k+1))<|Lv (aC (Hl x (k+1))) (Fx.RO rfl rfl rfl)<|av (aC (Hl x (k+1)))<|Ln<|cB<|sN<|Wl<|aS a<|Lv (au ((k:Int)+2)) fZ<|av (au ((k:Int)+2))<|Ln<|iG ⟨k+1,by omega,c,rfl,Fx.ic,i,d⟩ ?_
  show(6-(intOf ((au ((k:Int)+2)))).toNat)<_
  simp only[a,intOf]; omega
 refine Lv aF (jV g)<|aD<|aK<|Wx<|bY<|iB<|bZ<|sN<|ay<|aS h<|av (aC (Hl x k))<|aD<|Wr<|aN (aC (Hl x k)) ?_
 have l:k=5:=by omega
 exact⟨by rw[l],d⟩
end Go.Proofs.YtcbedgfikejkoaaDoor
