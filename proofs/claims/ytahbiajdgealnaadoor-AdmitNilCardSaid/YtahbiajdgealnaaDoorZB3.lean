/-
  What the proof of the law rests on, part 3: walks of functions, and plain laws; each says its conditions itself.
-/
import Derived.Test.YtahbiajdgealnaaDoorRows
import Derived.BigRegion
import Derived.Deep.DeepCutAuto
import Derived.Laws.StructEq
import Derived.Test.YtahbiajdgealnaaDoorZB2
set_option maxHeartbeats 1600000
set_option linter.unusedVariables false
set_option linter.unusedSimpArgs false
namespace Go.Proofs.YtahbiajdgealnaaDoor
open Go.RowKit Rt
open Fx (eY dN fJ bC fI fH eO dS fK iq dY iw fq gT iy Lv sN Ln Ws Qv Wl Rp Wc Qs Wr Sb Lk Wk rC rV sR Rs Rn Rd Rk Wb Wx Wo Ab Wt qM Qn Ba uY Bc BF yw Bb DL jw Dt jl qh rQ DX Bd Dr BU Bf rv aC aK dn aH ev bQ Stp bS aS flat gu Mp dH bB fC gF bO down fG iR jr kZ dG bY cells_one jm bP xV unseen jv jE cO bU dA cZ dh gX iP rA iD)
namespace Rt
structure EvM where
 o:Int
 seq:Int
 deps:Nat->Int
 kind:Int
 node:Int
 dst:Int
 bI:Int
 req:Int
 of:Int
def dJ(v:EvM):Nat->Value:=fun p=>if p=0 then .int .i64 v.o else if p=1 then .int .u64 v.seq else if p<8 then .int .u64 (v.deps (p-2))else if p=8 then .int .u8 v.kind else if p=9 then .int .u64 v.node else if p=10 then .int .i64 v.dst else if p=11 then .int .i64 v.bI else if p=12 then .int .u64 v.req else .int .u64 v.of
theorem mM(v:EvM){p j:Nat}(h:p=j+2)(a:j<6):dJ v p = .int .u64 (v.deps j):=by
 subst h; unfold dJ; rw[if_neg (by omega),if_neg (by omega),if_pos (by omega),show j+2-2=j by omega]
theorem pW(v:EvM) : ∀ j,j<14->(dJ v j).oneCell'=true:=fun j _=>by unfold dJ; repeat (first|rfl|split)
def iW(i:Int):Bool:=decide (1<=i)&&decide (i<=6)
def Am(v:EvM):EvM :=
 if v.kind=1 then { v with dst:=0,req:=0,of:=0 } else if v.kind=2 then { v with dst:=0,req:=0,of:=0 } else if v.kind=3 then { v with dst:=0,of:=0 }
 else if v.kind=4 then { v with node:=0,dst:=0,bI:=0 } else if v.kind=5 then { v with req:=0,of:=0 } else if v.kind=6 then { v with node:=0,bI:=0,req:=0,of:=0 }
 else { v with node:=0,dst:=0,bI:=0,req:=0,of:=0 }
def someE(v:EvM):Bool:=decide (1<=v.bI)&&decide (v.bI<=1125899906842624)
def wX(v:EvM):Bool:=iW v.dst && !decide (v.dst=v.o)
def iJ(v:EvM):Bool :=
 if v.kind=1 then decide (0<=v.bI)&&decide (v.bI<=1125899906842624)else if v.kind=2 then someE v else if v.kind=3 then someE v&&decide (1<=v.req)
 else if v.kind=4 then decide (1<=v.req)&&decide (1<=v.of) && !decide (v.req=v.of)else if v.kind=5 then someE v&&wX v else if v.kind=6 then wX v else decide (v.kind=7)
end Rt
namespace Rt
def iG(n:Int):Prop:=0<=n/\n<=18446744073709551615
def sj(n:Int):Prop := -9223372036854775808<=n/\n<=9223372036854775807
structure jc(v:EvM):Prop where
 o:sj v.o
 seq:iG v.seq
 deps : ∀ i,i<6->iG (v.deps i)
 kind:0<=v.kind/\v.kind<=255
 node:iG v.node
 dst:sj v.dst
 bI:sj v.bI
 req:iG v.req
 of:iG v.of
theorem jc.own{v:EvM}(h:jc v):jc (Am v):=by
 have z:iG 0:=⟨by decide,by decide⟩
 have y:sj 0:=⟨by decide,by decide⟩
 unfold Am
 split
 ·exact⟨h.o,h.seq,h.deps,h.kind,h.node,y,h.bI,z,z⟩
 split
 ·exact⟨h.o,h.seq,h.deps,h.kind,h.node,y,h.bI,z,z⟩
 split
 ·exact⟨h.o,h.seq,h.deps,h.kind,h.node,y,h.bI,h.req,z⟩
 split
 ·exact⟨h.o,h.seq,h.deps,h.kind,z,y,y,h.req,h.of⟩
 split
 ·exact⟨h.o,h.seq,h.deps,h.kind,h.node,h.dst,h.bI,z,z⟩
 split
 ·exact⟨h.o,h.seq,h.deps,h.kind,z,h.dst,y,z,z⟩
 exact⟨h.o,h.seq,h.deps,h.kind,z,y,y,z,z⟩
theorem za{v:EvM}(h:jc v):Fx.Kd [(some .i64),(some .u64),(some .u64),(some .u64),(some .u64),(some .u64),(some .u64),(some .u64),(some .u8),(some .u64),(some .i64),(some .i64),(some .u64),(some .u64)] (dJ v):=by
 have a : ∀(k:IntKind) (n:Int),(Lit.int k n).wf=true -> ∃ l,kY (some k) (.int k n)=some l:=fun k n d=>by
  obtain⟨l,c⟩:=Fx.Iu (k:=k) (n:=1) (x:=fun _=>n) (fun _ _=>d) 0 (by simp)
  exact⟨l,c⟩
 intro i b
 have e:i<14:=b
 rcases i with _|_|_|_|_|_|_|_|_|_|_|_|_|_|i
 ·exact a .i64 v.o (Fx.Mc h.o)
 ·exact a .u64 v.seq (Fx.mG h.seq)
 ·exact a .u64 (v.deps 0) (Fx.mG (h.deps 0 (by decide)))
 ·exact a .u64 (v.deps 1) (Fx.mG (h.deps 1 (by decide)))
 ·exact a .u64 (v.deps 2) (Fx.mG (h.deps 2 (by decide)))
 ·exact a .u64 (v.deps 3) (Fx.mG (h.deps 3 (by decide)))
 ·exact a .u64 (v.deps 4) (Fx.mG (h.deps 4 (by decide)))
 ·exact a .u64 (v.deps 5) (Fx.mG (h.deps 5 (by decide)))
 ·exact a .u8 v.kind (Fx.VI h.kind)
 ·exact a .u64 v.node (Fx.mG h.node)
 ·exact a .i64 v.dst (Fx.Mc h.dst)
 ·exact a .i64 v.bI (Fx.Mc h.bI)
 ·exact a .u64 v.req (Fx.mG h.req)
 ·exact a .u64 v.of (Fx.mG h.of)
 omega
def qQ(v:EvM):Bool:=(List.range 6).all fun i=>decide (v.deps i<1099511627776)
def qH(v:EvM):Bool:=decide (v.node=(Am v).node)&&decide (v.dst=(Am v).dst)&&decide (v.bI=(Am v).bI)&&decide (v.req=(Am v).req)&&decide (v.of=(Am v).of)
def bX(v:EvM):Bool:=iW v.o&&decide (1<=v.seq)&&decide (v.seq<1099511627776)&&decide (v.deps (v.o-1).toNat=v.seq-1)&&qQ v&&qH v&&iJ v
theorem dO{i:Int}(h:iW i=true) : ∃ a:Nat,a<6/\i=(a:Int)+1:=by
 unfold iW at h; simp at h
 obtain⟨a,b⟩:=Int.eq_ofNat_of_zero_le (show 0<=i-1 by omega)
 exact⟨a,by omega,by omega⟩
theorem GV{v:EvM}{k:Nat}(a:k<6)(h:1099511627776<=v.deps k):qQ v=false:=by
 unfold qQ; rw[List.all_eq_false]; exact⟨k,List.mem_range.2 a,by simp; omega⟩
theorem Ef{v:EvM}{k:Nat}(b : ¬ (k:Int)<6)(h : ∀ i,i<k->v.deps i<1099511627776):qQ v=true:=by
 unfold qQ; rw[List.all_eq_true]; intro i a; have:=List.mem_range.1 a; simp; exact h i (by omega)
theorem gN{v:EvM}(h:bX v=true):iW v.o=true:=by
 unfold bX at h; simp only[Bool.and_eq_true]at h; exact h.1.1.1.1.1.1
end Rt
namespace Rt
def uK(K:Nat->Int)(v:EvM):Bool:=bX v&&decide (v.seq<=K (v.o-1).toNat)
def ze(D K:Nat->Int):Bool:=(List.range 6).all fun i=>decide (D i<=K i)
def fQ(K:Nat->Int)(v:EvM):Bool:=bX v&&decide (v.seq=K (v.o-1).toNat+1)&&ze v.deps K
def Eh(K:Nat->Int):Prop := ∀ i,i<6->0<=K i/\K i<1099511627776
theorem vQ{v:EvM}(h:bX v=true):1<=v.seq/\v.seq<1099511627776:=by
 unfold bX at h; simp only[Bool.and_eq_true,decide_eq_true_eq]at h; exact⟨h.1.1.1.1.1.2,h.1.1.1.1.2⟩
end Rt
set_option maxHeartbeats 400000 in
theorem Ao(a:Option Addr)(len cap:Nat)(l:List Int)(w:World)(hlen:len<=100)(hl:Hid (l.length=len))(hr:Vf .i64 w a l) :
 Calls Tryd.prog 70 #[.slice a len cap] w fun e w'=>e = .returned (.tuple #[.int .i64 (iL l).1,.bool (iL l).2])/\w'=w:=by
 go_enter Tryd.func70,Tryd.ntmps70
 go_wp2
 go_loop [2,3,8] (fun v o i=>o = .bool false /\ ∃ k:Nat,k<=len/\i = .int .i64 k/\iF (l.take k)=true/\v = .int .i64 (l.take k).sum) (fun _ _ i=>len-(intOf i).toNat)
 case atStart=>exact⟨rfl,0,Nat.zero_le _,rfl,rfl,rfl⟩
 case round =>
  obtain⟨rfl,k,hk,rfl,hok,rfl⟩:=hrel
  by_cases hk2:k<len
  ·have hk3:k<l.length:=by rw[hl.out]; exact hk2
   obtain⟨b,off,rfl,hc⟩:=hr k hk3
   have hb:=tF _ hok
   have hle:(l.take k).length<=k:=List.length_take_le _ _
   have HS:Hid _:=yA l k hk3
   have HO:Hid _:=vv l k hk3
   have HF:Hid (Du l[k]=false->iL l=(0,false)):=by intro h; unfold iL; rw[if_neg (by rw[yB hk3 h]; decide)]
   have Hok:Hid _:=hok
   clear hr hok
   generalize l[k]=x at *
   generalize hs:(l.take k).sum=s at *
   clear hs
   by_cases h0:x<0
   ·have hn:Du x=false:=by unfold Du; simp; omega
    have HR:Hid _:=HF.out hn
    clear HF hn HS HO
    go_wp2
    go_ret2
    rw[HR.out]; exact⟨rfl,rfl⟩
   ·by_cases h1:1125899906842624<x
    ·have hn:Du x=false:=by unfold Du; simp; omega
     have HR:Hid _:=HF.out hn
     clear HF hn HS HO
     go_wp2
     go_ret2
     rw[HR.out]; exact⟨rfl,rfl⟩
    ·have hy:Hid (Du x=true):=by unfold Du Hid; simp; omega
     clear HF
     go_wp2
     go_round
     case rel=>exact⟨rfl,k+1,by omega,by go_num,by rw[HO.out,Hok.out,hy.out]; rfl,by rw[HS.out]⟩
     case measure=>simp[intOf]; omega
  ·have hT:Hid (l.take k=l):=List.take_of_length_le (by rw[hl.out]; omega)
   rw[hT.out]at hok ⊢
   have HR:Hid (iL l=(l.sum,true)):=by unfold iL Hid; rw[if_pos hok]
   clear hok
   generalize l.sum=s at *
   go_wp2
   go_ret2
   rw[HR.out]; exact⟨rfl,rfl⟩
def Two(a w:World)(d f:Nat)(b:List Int)(e g:Nat)(c:List Int):Prop :=
 w.ownsRow a.heap.size 2 1 (.slice (some ⟨d,0,none⟩) b.length f) b.length (b.map (Value.int .i64)) /\
 w.ownsRow a.heap.size 2 1 (.slice (some ⟨e,0,none⟩) c.length g) c.length (c.map (Value.int .i64))/\d≠e/\Below a.heap.size a w
theorem Two.alloc{g w:World}{c a:Nat}{e:List Int}{d b:Nat}{f:List Int}(h:Two g w c a e d b f)(o:Obj):Two g (w.alloc o) c a e d b f :=
 ⟨World.ownsRow.alloc h.1 o,World.ownsRow.alloc h.2.1 o,h.2.2.1,h.2.2.2.alloc h.2.2.2.size o⟩
theorem Two.drew{g w:World}{c a:Nat}{e:List Int}{d b:Nat}{f:List Int}(h:Two g w c a e d b f):Two g w.drew c a e d b f :=
 ⟨h.1,h.2.1,h.2.2.1,h.2.2.2.drew⟩
theorem Two.swap{g w:World}{c a:Nat}{e:List Int}{d b:Nat}{f:List Int}(h:Two g w c a e d b f):Two g w d b f c a e:=⟨h.2.1,h.1,h.2.2.1.symm,h.2.2.2⟩
theorem MJ:(Tryd.prog.info? 2).map (fun i=>(i.zero,i.size,i.bytes))=some (some (.int .i64 0),1,8):=by kernel_rfl
theorem Cn{ops:Array Oper}{o:Oper}{a:Act}{q w:World}{K:Act->World->Prop}{Q:Exit->Act->World->Prop}{E:Prop}(C:o.guard=none)(s x:Operand)
 (I:o.op = .call { callee := .builtin .append,args := #[s,x],argTypes := #[143,143] }) (l r:Nat) (d:List Int) (m t:Nat) (y:List Int) (h:Two q w l r d m t y)
 (n:Nat) (G:d.length=n) (J:a.eval s = .slice (some ⟨l,0,none⟩) n r) (i:Nat) (v:Int) (hx:a.eval x = .slice (some ⟨i,0,none⟩) 1 1) (B:w.cell? ⟨i,0,none⟩=some (.int .i64 v)) (R:n<=100)
 (A : ∀ g f w',Two q w' g f (d ++ [v]) m t y->(∀ a u,w.cell? a=some u->a.block≠l->w'.cell? a=some u)->K (a.put o.dst (.slice (some ⟨g,0,none⟩) (n+1) f)) w') :
 if Region.wanted o (yielded ops a.tmps)=true then Oper.wp Tryd.prog o a w K Q else E:=by
 obtain⟨O,D,L,M,N⟩:=info_parts MJ
 subst G
 refine step_append_lies w C s x 143 I q.heap.size 2 O (.int .i64 0) 1 8 Tryd.underlying143 D L M N rfl (by decide) _ d.length (d.map (Value.int .i64)) J h.1 ⟨i,0,none⟩ 1 1 [.int .i64 v] hx rfl
  (by intro j u b; cases j with
   | zero=>simp at b; subst b; rw[addr_add]; exact B
   | succ j=>simp at b) (by intro u b; simp at b; subst b; rfl) (by decide) (by unfold maxLen; omega) (by omega) h.2.2.2.size w.heap.size rfl ?_
 intro g f w' z p c P
 refine A g f w' ⟨?_,?_,?_,?_⟩ (fun a u b H=>p.cell b (by simp[Value.ownBlock]; exact H))
 ·rw[List.length_append,List.map_append]; exact z
 ·exact World.ownsRow.kept h.2.1 p (.inr (by simp[Value.ownBlock]; exact fun e=>h.2.2.1 e.symm))
 ·have S:=World.ownsRow.lt h.2.1 m rfl
  rcases c with c|c
  ·simp[Value.ownBlock]at c; subst c; exact h.2.2.1
  omega
 exact h.2.2.2.grown p h.2.2.2.size (fun k F=>(World.ownsRow.lt h.1 k F).1)
theorem Two.ZK{j w:World}{a c:Nat}{b:List Int}{e d:Nat}{g:List Int}(h:Two j w a c b e d g):Vf .i64 w (some ⟨a,0,none⟩) b:=by
 intro i f
 refine⟨a,0,rfl,?_⟩
 rw[Nat.zero_add,World.ownsRow.cellAt h.1 i (by omega)]
 simp[f]
theorem Two.start(w:World)(v a b:Int):Two w ((w.alloc (.cells #[.int .i64 v] 2)).alloc (.cells #[.int .i64 a,.int .i64 b] 2)) w.heap.size 1 [v] (w.heap.size+1) 2 [a,b]:=by
 refine⟨World.ownsRow.alloc (World.ownsRow_lit w #[.int .i64 v] 1 (Nat.le_refl _) (by unfold maxLen; omega) rfl) _,?_,by omega,((Below.refl _ _).alloc (Nat.le_refl _) _).alloc (by simp) _⟩
 have:=World.ownsRow_lit (base:=w.heap.size) (e:=2) (size:=1) (w.alloc (.cells #[.int .i64 v] 2)) #[.int .i64 a,.int .i64 b] 2 (by simp) (by unfold maxLen; omega) rfl
 simpa using this
theorem Two.QE(w:World)(v a b:Int):Two w ((w.alloc (.cells #[.int .i64 a,.int .i64 b] 2)).alloc (.cells #[.int .i64 v] 2)) (w.heap.size+1) 1 [v] w.heap.size 2 [a,b]:=by
 refine⟨?_,World.ownsRow.alloc (World.ownsRow_lit w #[.int .i64 a,.int .i64 b] 2 (Nat.le_refl _) (by unfold maxLen; omega) rfl) _,by omega,((Below.refl _ _).alloc (Nat.le_refl _) _).alloc (by simp) _⟩
 have:=World.ownsRow_lit (base:=w.heap.size) (e:=2) (size:=1) (w.alloc (.cells #[.int .i64 a,.int .i64 b] 2)) #[.int .i64 v] 1 (by simp) (by unfold maxLen; omega) rfl
 simpa using this
theorem Two.at{c w:World}{g d:Nat}{k:List Int}{j e:Nat}{l:List Int}(h:Two c w g d k j e l){b:Nat}{x:Nat->Int}{T:TypeId}{f:Nat × Nat}(a:c.heap[b]? = some (.cells (aG .i64 54 x) T f))(i:Nat)(hi:i<54) :
 w.cell? ⟨b,i,none⟩=some (.int .i64 (x i)) :=
 dM ((h.2.2.2.block b (Array.getElem?_eq_some_iff.1 a).1).trans a) i hi
theorem Two.lt{a w:World}{e c:Nat}{i:List Int}{f d:Nat}{j:List Int}(h:Two a w e c i f d j){b:Nat}(g:b<a.heap.size):b<w.heap.size:=Nat.lt_of_lt_of_le g h.2.2.2.size
theorem wY(x:Nat->Int)(k:Nat) : ∀ j,(outs x k j).length=j+1
 | 0=>rfl
 | j+1=>by rw[outs,List.length_append,wY x k j]; rfl
theorem Ap(x:Nat->Int)(k:Nat) : ∀ j,(ins x k j).length=j+2
 | 0=>rfl
 | j+1=>by rw[ins,List.length_append,Ap x k j]; rfl
def TR(w:World)(x:Nat->Int)(k j:Nat)(e f:Value)(g:World):Prop :=
 ∃ c a d b,e = .slice (some ⟨c,0,none⟩) (j+1) a/\f = .slice (some ⟨d,0,none⟩) (j+2) b/\Two w g c a (outs x k j) d b (ins x k j)
set_option maxHeartbeats 4000000 in
theorem zf(b:Nat)(T:TypeId)(fz:Nat × Nat)(x:Nat->Int)(k:Nat)(w:World)(hk:k<6)(hb:Hid (w.heap[b]? = some (.cells (aG .i64 54 x) T fz))) :
 Calls Tryd.prog 49 #[.pointer (some ⟨b,0,none⟩),.int .i64 k] w fun e w'=>e = .returned (.tuple #[.int .i64 (localM x k).1,.bool (localM x k).2])/\Below w.heap.size w w':=by
 have hlt:b<w.heap.size:=(Array.getElem?_eq_some_iff.1 hb.out).1
 have hki:(k:Int)<6:=by omega
 go_enter Tryd.func49,Tryd.ntmps49
 go_upto_region 1 with (fail)
 go_cut [6,7] (fun s6 s7 wx=>TR w x k 0 s6 s7 wx)
 case first =>
  have c1:=dM hb.out (6+k) (by omega)
  have c2:=dM hb.out k (by omega)
  have c3:=dM hb.out (12+k) (by omega)
  go_wp2
  go_region
  all_goals go_wp2
  all_goals go_meet
  case rel=>exact⟨_,_,_,_,rfl,rfl,(Two.start w (x (6+k)) (x k) (x (12+k))).drew⟩
  case rel=>exact⟨_,_,_,_,rfl,rfl,(Two.QE w (x (6+k)) (x k) (x (12+k))).drew⟩
 case rest =>
  clear hlt
  go_wp2
  go_loopw [6,7,33] (fun s6 s7 i wx => ∃ j:Nat,j<=6/\i = .int .i64 j/\TR w x k j s6 s7 wx) (fun _ _ i _=>6-(intOf i).toNat)
  case atStart=>exact⟨0,Nat.zero_le _,rfl,hcut⟩
  case round =>
   obtain⟨j,hj,rfl,g1,c1,g2,c2,rfl,rfl,hT⟩:=hrel
   by_cases hj2:j<6
   ·have hji:(j:Int)<6:=by omega
    have hlt:b<w.heap.size:=(Array.getElem?_eq_some_iff.1 hb.out).1
    have hrow:wr.heap[b]? = some (.cells (aG .i64 54 x) T fz):=(hT.2.2.2.block b hlt).trans hb.out
    have e1:=dM hrow (18+k*6+j) (by omega)
    have e2:=dM hrow (18+j*6+k) (by omega)
    have hlt2:b<wr.heap.size:=(Array.getElem?_eq_some_iff.1 hrow).1
    have JQ:Hid _:=hrow
    have hg1:g1<wr.heap.size:=(World.ownsRow.lt hT.1 g1 rfl).2
    have hg2:g2<wr.heap.size:=(World.ownsRow.lt hT.2.1 g2 rfl).2
    clear hrow
    have HO:Hid ((outs x k j).length=j+1):=wY x k j
    have HI:Hid ((ins x k j).length=j+2):=Ap x k j
    go_wp2
    go_region_law (first
     | (refine Cn (o:=⟨some 46,_,_,_,_,_⟩) (by rfl) (.tmp 36) (.tmp 45) (by rfl) g1 c1 (outs x k j) _ _ _ (by first|assumption|exact Two.alloc (by assumption) _|exact Two.alloc (Two.alloc (by assumption) _) _|exact hT.drew.alloc _|exact(hT.drew.alloc _).alloc _) (j+1) HO.out (by rfl) _ (x (18+k*6+j)) (by rfl) (by first|(go_simp; done)|exact hkp _ _ (by go_simp; done) (by simp; omega)) (by omega) ?_; intro g cp w1 hT1 hkp; have e1':=hT1.at hb.out (18+k*6+j) (by omega); have e2':=hT1.at hb.out (18+j*6+k) (by omega); have hlt':=hT1.lt hlt)
     | (refine Cn (o:=⟨some 57,_,_,_,_,_⟩) (by rfl) (.tmp 47) (.tmp 56) (by rfl) g2 c2 (ins x k j) _ _ _ (by first|exact Two.swap (by assumption)|exact(Two.alloc (by assumption) _).swap|exact(Two.alloc (Two.alloc (by assumption) _) _).swap|exact(hT.drew.alloc _).swap|exact((hT.drew.alloc _).alloc _).swap) (j+2) HI.out (by rfl) _ (x (18+j*6+k)) (by rfl) (by first|(go_simp; done)|exact hkp _ _ (by go_simp; done) (by simp; omega)) (by omega) ?_; intro g cp w1 hT1 hkp; have e1':=hT1.at hb.out (18+k*6+j) (by omega); have e2':=hT1.at hb.out (18+j*6+k) (by omega); have hlt':=hT1.lt hlt))
    all_goals go_wp2
    all_goals go_roundw
    all_goals first
     | (simp[intOf]; omega)
     | exact⟨j+1,by omega,by go_num,_,_,_,_,rfl,rfl,hT1.swap⟩
   ·obtain rfl:j=6:=by omega
    have r1:=hT.ZK
    have r2:=hT.swap.ZK
    have hbel:=hT.2.2.2
    have HO:Hid ((outs x k 6).length=7):=wY x k 6
    have HI:Hid ((ins x k 6).length=8):=Ap x k 6
    have b1:=nC (outs x k 6)
    have b2:=nC (ins x k 6)
    rw[HO.out]at b1
    rw[HI.out]at b2
    have HL:Hid (localM x k=((iL (ins x k 6)).1-(iL (outs x k 6)).1,(iL (outs x k 6)).2&&(iL (ins x k 6)).2)):=rfl
    generalize outs x k 6=lo at *
    generalize ins x k 6=li at *
    clear hT
    go_wp2_with fail
    refine(Ao _ 7 c1 lo _ (by omega) HO r1).mono ?_
    rintro e w1 ⟨rfl,rfl⟩
    go_wp2_with fail
    refine(Ao _ 8 c2 li _ (by omega) HI r2).mono ?_
    rintro e w2 ⟨rfl,rfl⟩
    generalize (iL li).1=n2 at *
    generalize (iL lo).1=n1 at *
    generalize (iL li).2=o2 at *
    generalize (iL lo).2=o1 at *
    cases o1
    all_goals
     go_wp2_with fail
     go_ret2
     rw[HL.out]; exact⟨rfl,hbel⟩
namespace Rt
def tT(x:Nat->Int)(k:Nat):Bool:=(localM x k).2&&decide (0<=(localM x k).1)&&decide (F x k<=C x k)&&(R x k k==0)
def vB(x:Nat->Int):Nat->Bool
 | 0=>true
 | k+1=>vB x k&&tT x k
def gs(x:Nat->Int):List Int := [x 0,x 1,x 2,x 3,x 4,x 5]
def may(x:Nat->Int):Bool:=vB x 6&&((iL (gs x)).2&&decide ((iL (gs x)).1<=1125899906842624))
theorem wZ(x:Nat->Int)(k:Nat)(h:tT x k=false) : ∀ n,k<n->vB x n=false
 | 0,hn=>absurd hn (by omega)
 | n+1,hn=>by
   rw[vB]
   by_cases e:k=n
   ·subst e; rw[h,Bool.and_false]
   ·rw[wZ x k h n (by omega),Bool.false_and]
theorem GX(x:Nat->Int)(k:Nat)(a:k<6)(h:tT x k=false):may x=false:=by
 unfold may; rw[wZ x k h 6 a,Bool.false_and]
end Rt
theorem TS{w:World}{g:Nat}{x:Nat->Int}{t:TypeId}{a:Nat × Nat}(h:w.heap[g]? = some (.cells (aG .i64 54 x) t a)):Vf .i64 w (some ⟨g,0,none⟩) (gs x):=by
 intro i b
 have c:i<6:=b
 refine⟨g,0,rfl,?_⟩
 rw[Nat.zero_add,dM h i (by omega)]
 rcases(show i=0\/i=1\/i=2\/i=3\/i=4\/i=5 by omega)with rfl|rfl|rfl|rfl|rfl|rfl <;> rfl
set_option maxHeartbeats 1000000 in
theorem lH(x:Nat->Int)(w:World) :
 Calls Tryd.prog 48 #[.agg (aG .i64 54 x)] w fun e w'=>e = .returned (.bool (may x))/\Below w.heap.size w w':=by
 go_enter Tryd.func48,Tryd.ntmps48
 go_wp2
 go_loopw [2,3,8] (fun r _ i wr=>r = .bool false /\ ∃ k:Nat,k<=6/\i = .int .i64 k/\vB x k=true/\wr.heap[w.heap.size]? = some (.cells (aG .i64 54 x) 82 (0,0))/\Below w.heap.size w wr) (fun _ _ i _=>6-(intOf i).toNat)
 case atStart=>exact⟨rfl,0,Nat.zero_le _,rfl,rfl,heap_alloc_new w _,(Below.refl _ _).alloc (Nat.le_refl _) _⟩
 case round =>
  obtain⟨rfl,k,hk,rfl,hN,hrow,hbel⟩:=hrel
  have hlt:w.heap.size<wr.heap.size:=(Array.getElem?_eq_some_iff.1 hrow).1
  have JQ:Hid _:=hrow
  have HN:Hid _:=hN
  clear hrow hN
  by_cases hk2:k<6
  ·have hki:(k:Int)<6:=by omega
   have HM:Hid (vB x (k+1)=(vB x k&&tT x k)):=rfl
   have HF:Hid (tT x k=false->may x=false):=fun h=>GX x k hk2 h
   have HK:Hid (tT x k=((localM x k).2&&decide (0<=(localM x k).1)&&decide (F x k<=C x k)&&(R x k k==0))):=rfl
   go_wp2_with fail
   refine(zf w.heap.size _ _ x k wr hk2 JQ).mono ?_
   rintro e w1 ⟨rfl,hb1⟩
   have Co:=(hb1.block _ hlt).trans JQ.out
   have Cq:=hbel.trans (hb1.mono (Nat.le_of_lt hlt))
   have c1:=dM Co (12+k) (by omega)
   have c2:=dM Co (6+k) (by omega)
   have c3:=dM Co (18+k*6+k) (by omega)
   have TT:Hid _:=Co
   clear Co JQ hbel hb1
   generalize (localM x k).1=n at *
   generalize hF:F x k=f at *
   generalize hC:C x k=c at *
   generalize hR:R x k k=r at *
   unfold F at hF; unfold C at hC; unfold R at hR
   rw[hF]at c1; rw[hC]at c2; rw[hR]at c3
   clear hF hC hR
   cases his:(localM x k).2
   ·rw[his]at HK
    clear his
    have HR:Hid _:=HF.out (by rw[HK.out]; rfl)
    clear HK HF HM
    go_wp2_with fail
    go_quiet (fail)
    go_wp2
    go_ret
    rw[HR.out]; exact⟨rfl,bN Cq _⟩
   ·rw[his]at HK
    clear his
    by_cases h1:n<0
    ·have d1:decide (n<0)=true:=by simpa using h1
     have d1':decide (0<=n)=false:=by simp; omega
     have HR:Hid _:=HF.out (by rw[HK.out]; rw[d1']; rfl)
     clear HK HF HM
     go_wp2_with fail
     go_quiet (fail)
     go_wp2
     go_ret
     rw[HR.out]; exact⟨rfl,bN Cq _⟩
    ·have d1:decide (n<0)=false:=by simp; omega
     have d1':Hid (decide (0<=n)=true):=by unfold Hid; simp; omega
     by_cases h2:c<f
     ·have d2:decide (c<f)=true:=by simpa using h2
      have WW:decide (f<=c)=false:=by simp; omega
      have HR:Hid _:=HF.out (by rw[HK.out]; rw[WW,Bool.and_false,Bool.false_and])
      clear HK HF HM
      go_wp2_with fail
      go_quiet (fail)
      go_wp2
      go_ret
      rw[HR.out]; exact⟨rfl,bN Cq _⟩
     ·have d2:decide (c<f)=false:=by simp; omega
      have WW:Hid (decide (f<=c)=true):=by unfold Hid; simp; omega
      by_cases h3:r=0
      ·subst h3
       go_wp2_with fail
       go_quiet (fail)
       go_wp2
       go_roundw
       case rel=>exact⟨rfl,k+1,by omega,by go_num,by rw[HM.out,HN.out,HK.out,d1'.out,WW.out]; rfl,TT.out,bN Cq _⟩
       case measure=>simp[intOf]; omega
      ·have d3:(r != 0)=true:=by simpa using h3
       have d3':(r==0)=false:=by simpa using h3
       have HR:Hid _:=HF.out (by rw[HK.out]; rw[d3',Bool.and_false])
       clear HK HF HM
       go_wp2_with fail
       go_quiet (fail)
       go_wp2
       go_ret
       rw[HR.out]; exact⟨rfl,bN Cq _⟩
  ·obtain rfl:k=6:=by omega
   have HV:Hid (may x=((iL (gs x)).2&&decide ((iL (gs x)).1<=1125899906842624))):=by unfold Hid may; rw[HN.out,Bool.true_and]
   have hg:Vf .i64 wr (some ⟨w.heap.size,0,none⟩) (gs x):=TS JQ.out
   have HL:Hid ((gs x).length=6):=rfl
   generalize gs x=l at *
   clear HN
   go_wp2_with fail
   refine(Ao _ 6 _ l _ (by omega) HL hg).mono ?_
   rintro e w1 ⟨rfl,rfl⟩
   generalize (iL l).1=n at *
   cases h:(iL l).2
   ·rw[h]at HV
    clear h
    go_wp2_with fail
    go_ret
    rw[HV.out]; exact⟨rfl,hbel⟩
   ·rw[h]at HV
    clear h
    go_wp2_with fail
    go_ret
    rw[HV.out]; exact⟨rfl,hbel⟩
namespace Rt
def gH(i:Int):Bool:=decide (1<=i)&&decide (i<=6)
def dI(x:Nat->Int)(i:Int):Int:=if gH i&&may x then(localM x (i.toNat-1)).1 else 0
theorem QF{n:Int}(h:Du n=true):0<=n/\n<=1125899906842624:=by unfold Du at h; simpa using h
theorem FL{l:List Int}(h:(iL l).2=true):iF l=true:=by
 unfold iL at h
 by_cases a:iF l=true
 ·exact a
 rw[if_neg a]at h; exact absurd h (by decide)
theorem pX{l:List Int}(h:iF l=true){n:Int}(a:n∈l):0<=n/\n<=1125899906842624:=by
 unfold iF at h
 rw[List.all_eq_true]at h
 exact QF (h n a)
theorem Cr(x:Nat->Int)(k:Nat) : ∀ j,C x k∈outs x k j
 | 0=>by simp[outs]
 | j+1=>by rw[outs]; exact List.mem_append_left _ (Cr x k j)
theorem zh(x:Nat->Int)(k i:Nat) : ∀ j,i<j->R x k i∈outs x k j
 | 0,h=>absurd h (by omega)
 | j+1,h=>by
   rw[outs]
   by_cases e:i=j
   ·subst e; simp
   ·exact List.mem_append_left _ (zh x k i j (by omega))
theorem vR(x:Nat->Int)(k:Nat) : ∀ j,G x k∈ins x k j/\F x k∈ins x k j
 | 0=>by simp[ins]
 | j+1=>by rw[ins]; exact⟨List.mem_append_left _ (vR x k j).1,List.mem_append_left _ (vR x k j).2⟩
theorem FM(x:Nat->Int)(k:Nat) : ∀ n,vB x n=true->k<n->tT x k=true
 | 0,_,hk=>absurd hk (by omega)
 | n+1,h,hk=>by
   rw[vB,Bool.and_eq_true]at h
   by_cases e:k=n
   ·subst e; exact h.2
   ·exact FM x k n h.1 (by omega)
theorem JR{x:Nat->Int}(h:may x=true)(k:Nat)(a:k<6):tT x k=true:=by
 unfold may at h; rw[Bool.and_eq_true]at h; exact FM x k 6 h.1 a
structure vk(x:Nat->Int)(k:Nat):Prop where
 g:0<=G x k/\G x k<=1125899906842624
 c:0<=C x k/\C x k<=1125899906842624
 f:0<=F x k/\F x k<=1125899906842624
 fc:F x k<=C x k
 r : ∀ i,i<6->0<=R x k i/\R x k i<=1125899906842624
 l:0<=(localM x k).1
 rkk:R x k k=0
 l2:(localM x k).2=true
theorem MK{x:Nat->Int}{k:Nat}(h:tT x k=true):vk x k:=by
 unfold tT at h
 rw[Bool.and_eq_true,Bool.and_eq_true,Bool.and_eq_true]at h
 obtain⟨⟨⟨a,e⟩,h3⟩,h4⟩:=h
 have d:=a
 unfold localM at a
 rw[Bool.and_eq_true]at a
 have c:=FL a.1
 have b:=FL a.2
 exact⟨pX b (vR x k 6).1,pX c (Cr x k 6),pX b (vR x k 6).2,by simpa using h3,fun i f=>pX c (zh x k i 6 f),by simpa using e,by simpa using h4,d⟩
theorem nE{x:Nat->Int}(h:may x=true)(k:Nat)(a:k<6):vk x k:=MK (JR h k a)
theorem GY(x:Nat->Int)(k:Nat) : -(1125899906842624*8)<=(localM x k).1/\(localM x k).1<=1125899906842624*8:=by
 have a:=nC (ins x k 6)
 have b:=nC (outs x k 6)
 rw[IY]at a
 rw[GJ]at b
 unfold localM
 simp only
 omega
end Rt
set_option maxHeartbeats 400000 in
theorem kN(i:Int)(w:World)(hi : -9223372036854775808<=i/\i<=9223372036854775807) :
 Calls Tryd.prog 47 #[.int .i64 i] w fun e w'=>e = .returned (.bool (gH i))/\w'=w:=by
 unfold gH
 by_cases h1:i<1
 ·have d1:decide (1<=i)=false:=by simp; omega
  have D1:Hid _:=d1
  go_enter Tryd.func47,Tryd.ntmps47
  go_wp2
  go_ret
  first|exact⟨rfl,rfl⟩|(rw[D1.out]; exact⟨rfl,rfl⟩)
 have d1:decide (1<=i)=true:=by simp; omega
 have D1:Hid _:=d1
 go_enter Tryd.func47,Tryd.ntmps47
 go_wp2
 go_ret
 first|exact⟨rfl,rfl⟩|(rw[D1.out]; exact⟨rfl,rfl⟩)
theorem eX:(Tryd.prog.info? 82).map (·.size)=some 54:=by kernel_rfl
set_option maxRecDepth 100000 in
set_option maxHeartbeats 400000 in
theorem nG(x:Nat->Int)(i:Int)(w:World)(hi : -9223372036854775808<=i/\i<=9223372036854775807) :
 Calls Tryd.prog 30 #[.agg (aG .i64 54 x),.int .i64 i] w fun e w'=>e = .returned (.int .i64 (dI x i))/\Below w.heap.size w w':=by
 have HV:Hid (dI x i=if gH i&&may x then(localM x (i.toNat-1)).1 else 0):=rfl
 have hrow:Hid ((w.alloc (.cells (aG .i64 54 x) 82)).heap[w.heap.size]? = some (.cells (aG .i64 54 x) 82 (0,0))):=heap_alloc_new w _
 have HR:Hid ((gH i=true<->1<=i/\i<=6)):=by unfold Hid gH; simp
 have JU:Hid (∀ w',Calls Tryd.prog 47 #[.int .i64 i] w' fun e w''=>e = .returned (.bool (gH i))/\w''=w'):=fun w'=>kN i w' hi
 have hmay:Hid (∀ w',Calls Tryd.prog 48 #[.agg (aG .i64 54 x)] w' fun e w''=>e = .returned (.bool (may x))/\Below w'.heap.size w' w''):=fun w'=>lH x w'
 generalize gH i=r at *
 cases r
 ·go_enter Tryd.func30,Tryd.ntmps30
  go_wp2_with (go_at_call 47; refine(JU.out _).mono ?_; rintro e w' ⟨rfl,rfl⟩)
  go_ret
  rw[HV.out]; exact⟨rfl,(Below.refl _ _).alloc (Nat.le_refl _) _⟩
 have hb:1<=i/\i<=6:=HR.out.1 rfl
 obtain⟨k,hk⟩:=Int.eq_ofNat_of_zero_le (show 0<=i-1 by omega)
 have Hk:Hid (i-1=(k:Int)):=hk
 have Sy:k<6:=by omega
 have hkt:Hid (i.toNat-1=k):=by unfold Hid; omega
 clear hk
 generalize may x=m at *
 cases m
 ·go_enter Tryd.func30,Tryd.ntmps30
  go_wp2_with (first
   | (go_at_call 47; refine(JU.out _).mono ?_; rintro e w' ⟨rfl,rfl⟩)
   | (refine qp (by rfl) (wp_load_row (o:=⟨some 11,_,_,_,_,_⟩) 82 (.tmp 2) (by rfl) w.heap.size (by rfl) 82 (aG .i64 54 x) (0,0) _ hrow.out Tryd.underlying82 (by rfl) (by rw[aJ]; exact eX) ?_))
   | (go_at_call 48; refine(hmay.out _).mono ?_; rintro e w1 ⟨rfl,hb1⟩))
  go_ret
  rw[HV.out]; exact⟨rfl,Y0 hb1⟩
 go_enter Tryd.func30,Tryd.ntmps30
 go_wp2_with (first
  | (go_at_call 47; refine(JU.out _).mono ?_; rintro e w' ⟨rfl,rfl⟩)
  | (refine qp (by rfl) (wp_load_row (o:=⟨some 11,_,_,_,_,_⟩) 82 (.tmp 2) (by rfl) w.heap.size (by rfl) 82 (aG .i64 54 x) (0,0) _ hrow.out Tryd.underlying82 (by rfl) (by rw[aJ]; exact eX) ?_))
  | (go_at_call 48; refine(hmay.out _).mono ?_; rintro e w1 ⟨rfl,hb1⟩)
  | (go_at_call 49; rw[Hk.out]; refine(zf w.heap.size 82 (0,0) x k w1 Sy ((hb1.block _ (by simp)).trans hrow.out)).mono ?_; rintro e w2 ⟨rfl,hb2⟩))
 go_ret
 rw[HV.out,hkt.out]; exact⟨rfl,Bt (Y0 hb1) hb2⟩
namespace Rt
def zero:Nat->Int:=fun _=>0
def bG(x:Nat->Int)(n:Int)(is:Bool)(a:Int)(off:Nat):(Nat->Int) × Int :=
 if may x&&decide (1<=n)&&decide (n<=1125899906842624)then
  if is then
   if a=0 then
    if x off+n<=1125899906842624 then(upd x off (x off+n),0)else(zero,6)
   else(zero,a)
  else(zero,10)
 else(zero,1)
end Rt
theorem jK(T:TypeId)(a:Nat × Nat):Obj.cells (aG .i64 54 zero) T a = .cells #[.int .i64 0,.int .i64 0,.int .i64 0,.int .i64 0,.int .i64 0,.int .i64 0,.int .i64 0,.int .i64 0,.int .i64 0,.int .i64 0,.int .i64 0,.int .i64 0,.int .i64 0,.int .i64 0,.int .i64 0,.int .i64 0,.int .i64 0,.int .i64 0,.int .i64 0,.int .i64 0,.int .i64 0,.int .i64 0,.int .i64 0,.int .i64 0,.int .i64 0,.int .i64 0,.int .i64 0,.int .i64 0,.int .i64 0,.int .i64 0,.int .i64 0,.int .i64 0,.int .i64 0,.int .i64 0,.int .i64 0,.int .i64 0,.int .i64 0,.int .i64 0,.int .i64 0,.int .i64 0,.int .i64 0,.int .i64 0,.int .i64 0,.int .i64 0,.int .i64 0,.int .i64 0,.int .i64 0,.int .i64 0,.int .i64 0,.int .i64 0,.int .i64 0,.int .i64 0,.int .i64 0,.int .i64 0] T a:=by rfl
theorem results_cell_tmp{P:Program}{b:Func}{p q:Tmp}{ty:TypeId}(h:b.results = #[.cell p ty,.tmp q])(a:Array Value)(w:World)(g:Nat)(t:TypeId)(cs:Array Value)(c:Nat × Nat)(d:TypeDesc)
 (i:a.getD p undef = .pointer (some ⟨g,0,none⟩)) (f:w.heap[g]? = some (.cells cs t c))
 (k:P.underlying ty=some d) (e:(match d with | .struct _ | .array _ _=>true|_=>false)=true) (hi:(P.info? ty).map (·.size)=some cs.size) :
 (results b a).run P w = .ok (.tuple #[.agg cs,a.getD q undef]) w:=by
 have j:a[p]?.getD undef = .pointer (some ⟨g,0,none⟩):=by simpa using i
 simp[results,h,j,asAddr,run_loadVar_row w g t ty cs c d f k e hi]
def gy(x:Nat->Int)(n:Int)(is:Bool)(a:Int)(off:Nat)(w:World)(e:Ending)(w':World):Prop :=
 e = .returned (.tuple #[.agg (aG .i64 54 (bG x n is a off).1),.int .i64 (bG x n is a off).2])/\Below w.heap.size w w'
theorem eT{w a:World}{B g:Nat}{e:Array Value}(c:Below B w a)(b:B<=g)(d:a.heap[g]? = some (.cells e 82 (0,0)))(y:Nat->Int) :
 (a.setRow g (aG .i64 54 y)).heap[g]? = some (.cells (aG .i64 54 y) 82 (0,0))/\Below B w (a.setRow g (aG .i64 54 y)) :=
 ⟨setRow_heap _ _ _ _ _ _ d,VH c b⟩
theorem iM{x:Nat->Int}{n:Int}{is:Bool}{c:Int}{off:Nat}{w b:World}{a:Act}{g:Nat}{y:Nat->Int}{k:Int}(d:bG x n is c off=(y,k))(f:a.defers = [])
 (i:a.tmps.getD 10 undef = .pointer (some ⟨g,0,none⟩)) (j:a.tmps.getD 11 undef = .int .i64 k) (h:b.heap[g]? = some (.cells (aG .i64 54 y) 82 (0,0))) (e:Below w.heap.size w b) :
 bodyPost Tryd.prog Tryd.f171 (gy x n is c off w) .ret a b:=by
 refine bodyPost_ret (v := .tuple #[.agg (aG .i64 54 y),.int .i64 k]) ?_ f ⟨?_,e⟩
 ·rw[results_cell_tmp rfl a.tmps b g 82 _ (0,0) _ i h Tryd.underlying82 rfl (by rw[aJ]; exact eX),j]
 rw[d]
set_option maxRecDepth 100000 in
set_option maxHeartbeats 2000000 in
theorem Ei(x:Nat->Int)(n:Int)(is:Bool)(fm fn:FuncId)(cm cn:Array Value)(em:Int)(off:Nat)(w:World)(h:may x=false) :
 Calls Tryd.prog 171 #[.agg (aG .i64 54 x),.int .i64 n,.bool is,.func (.func fm) #[] cm,.func (.func fn) #[] cn] w (gy x n is em off w):=by
 have hT:Hid (bG x n is em off=(zero,1)):=by unfold Hid bG; rw[h]; rfl
 have hmay:Hid (∀ w',Calls Tryd.prog 48 #[.agg (aG .i64 54 x)] w' fun e w''=>e = .returned (.bool (may x))/\Below w'.heap.size w' w''):=fun w'=>lH x w'
 go_enter Tryd.func171,Tryd.ntmps171
 go_upto_region 1 with (fail)
 rw[<- jK]
 have hx0:Hid (((w.alloc (.cells (aG .i64 54 x) 82)).alloc (.cells (aG .i64 54 zero) 82)).heap[w.heap.size]? = some (.cells (aG .i64 54 x) 82 (0,0))):=heap_alloc2_old w _ _
 have hz0:Hid (((w.alloc (.cells (aG .i64 54 x) 82)).alloc (.cells (aG .i64 54 zero) 82)).heap[w.heap.size+1]? = some (.cells (aG .i64 54 zero) 82 (0,0))):=heap_alloc2_new w _ _
 have hb0:Below w.heap.size w ((w.alloc (.cells (aG .i64 54 x) 82)).alloc (.cells (aG .i64 54 zero) 82)):=((Below.refl _ _).alloc (Nat.le_refl _) _).alloc (by simp) _
 have hs0:w.heap.size+1<((w.alloc (.cells (aG .i64 54 x) 82)).alloc (.cells (aG .i64 54 zero) 82)).heap.size:=by simp
 generalize (w.alloc (.cells (aG .i64 54 x) 82)).alloc (.cells (aG .i64 54 zero) 82)=W at *
 rw[h]at hmay
 go_wp2_with (first
  | (refine wpList_load_row (o:=⟨some 15,_,_,_,_,_⟩) (by rfl) 82 (.tmp 5) (by rfl) w.heap.size (by rfl) 82 (aG .i64 54 x) (0,0) _ hx0.out Tryd.underlying82 (by rfl) (by rw[aJ]; exact eX) ?_)
  | (go_at_call 48; refine(hmay.out _).mono ?_; rintro e w1 ⟨rfl,hb1⟩; have hz1:Hid _:=(hb1.block (w.heap.size+1) hs0).trans hz0.out; have hx1:Hid _:=(hb1.block w.heap.size (by omega)).trans hx0.out; have hB1:=hb0.trans (hb1.mono hb0.size); have hs1:=Nat.lt_of_lt_of_le hs0 hb1.size)
  | (refine wpList_store_row (o:=⟨none,.store 82 (.tmp 10) (.tmp 22),_,_,_,_⟩) (by rfl) 82 (.tmp 10) (.tmp 22) (by rfl) (w.heap.size+1) (aG .i64 54 zero) (by rfl) (by rfl) 82 (aG .i64 54 zero) hz1.out (by rw[aJ]; exact eX) (by rw[aJ]) (gQ _ _ _) ?_))
 have hend:=eT hB1 (by omega) hz1.out zero
 exact iM hT.out rfl rfl rfl hend.1 hend.2
set_option maxRecDepth 100000 in
set_option maxHeartbeats 2000000 in
theorem Ej(x:Nat->Int)(n:Int)(is:Bool)(fm fn:FuncId)(cm cn:Array Value)(em:Int)(off:Nat)(w:World)(h:may x=true)(hn1:n<1) :
 Calls Tryd.prog 171 #[.agg (aG .i64 54 x),.int .i64 n,.bool is,.func (.func fm) #[] cm,.func (.func fn) #[] cn] w (gy x n is em off w):=by
 have hT:Hid (bG x n is em off=(zero,1)):=by unfold Hid bG; rw[h,decide_eq_false (show ¬ 1<=n by omega)]; rfl
 have hmay:Hid (∀ w',Calls Tryd.prog 48 #[.agg (aG .i64 54 x)] w' fun e w''=>e = .returned (.bool (may x))/\Below w'.heap.size w' w''):=fun w'=>lH x w'
 go_enter Tryd.func171,Tryd.ntmps171
 go_upto_region 1 with (fail)
 rw[<- jK]
 have hx0:Hid (((w.alloc (.cells (aG .i64 54 x) 82)).alloc (.cells (aG .i64 54 zero) 82)).heap[w.heap.size]? = some (.cells (aG .i64 54 x) 82 (0,0))):=heap_alloc2_old w _ _
 have hz0:Hid (((w.alloc (.cells (aG .i64 54 x) 82)).alloc (.cells (aG .i64 54 zero) 82)).heap[w.heap.size+1]? = some (.cells (aG .i64 54 zero) 82 (0,0))):=heap_alloc2_new w _ _
 have hb0:Below w.heap.size w ((w.alloc (.cells (aG .i64 54 x) 82)).alloc (.cells (aG .i64 54 zero) 82)):=((Below.refl _ _).alloc (Nat.le_refl _) _).alloc (by simp) _
 have hs0:w.heap.size+1<((w.alloc (.cells (aG .i64 54 x) 82)).alloc (.cells (aG .i64 54 zero) 82)).heap.size:=by simp
 generalize (w.alloc (.cells (aG .i64 54 x) 82)).alloc (.cells (aG .i64 54 zero) 82)=W at *
 rw[h]at hmay
 go_wp2_with (first
  | (refine wpList_load_row (o:=⟨some 15,_,_,_,_,_⟩) (by rfl) 82 (.tmp 5) (by rfl) w.heap.size (by rfl) 82 (aG .i64 54 x) (0,0) _ hx0.out Tryd.underlying82 (by rfl) (by rw[aJ]; exact eX) ?_)
  | (go_at_call 48; refine(hmay.out _).mono ?_; rintro e w1 ⟨rfl,hb1⟩; have hz1:Hid _:=(hb1.block (w.heap.size+1) hs0).trans hz0.out; have hx1:Hid _:=(hb1.block w.heap.size (by omega)).trans hx0.out; have hB1:=hb0.trans (hb1.mono hb0.size); have hs1:=Nat.lt_of_lt_of_le hs0 hb1.size)
  | (refine wpList_store_row (o:=⟨none,.store 82 (.tmp 10) (.tmp 22),_,_,_,_⟩) (by rfl) 82 (.tmp 10) (.tmp 22) (by rfl) (w.heap.size+1) (aG .i64 54 zero) (by rfl) (by rfl) 82 (aG .i64 54 zero) hz1.out (by rw[aJ]; exact eX) (by rw[aJ]) (gQ _ _ _) ?_))
 have hend:=eT hB1 (by omega) hz1.out zero
 exact iM hT.out rfl rfl rfl hend.1 hend.2
set_option maxRecDepth 100000 in
set_option maxHeartbeats 2000000 in
theorem El(x:Nat->Int)(n:Int)(is:Bool)(fm fn:FuncId)(cm cn:Array Value)(em:Int)(off:Nat)(w:World)(h:may x=true)(hn1:1125899906842624<n) :
 Calls Tryd.prog 171 #[.agg (aG .i64 54 x),.int .i64 n,.bool is,.func (.func fm) #[] cm,.func (.func fn) #[] cn] w (gy x n is em off w):=by
 have hT:Hid (bG x n is em off=(zero,1)):=by unfold Hid bG; rw[decide_eq_false (show ¬ n<=1125899906842624 by omega),Bool.and_false]; rfl
 have hmay:Hid (∀ w',Calls Tryd.prog 48 #[.agg (aG .i64 54 x)] w' fun e w''=>e = .returned (.bool (may x))/\Below w'.heap.size w' w''):=fun w'=>lH x w'
 go_enter Tryd.func171,Tryd.ntmps171
 go_upto_region 1 with (fail)
 rw[<- jK]
 have hx0:Hid (((w.alloc (.cells (aG .i64 54 x) 82)).alloc (.cells (aG .i64 54 zero) 82)).heap[w.heap.size]? = some (.cells (aG .i64 54 x) 82 (0,0))):=heap_alloc2_old w _ _
 have hz0:Hid (((w.alloc (.cells (aG .i64 54 x) 82)).alloc (.cells (aG .i64 54 zero) 82)).heap[w.heap.size+1]? = some (.cells (aG .i64 54 zero) 82 (0,0))):=heap_alloc2_new w _ _
 have hb0:Below w.heap.size w ((w.alloc (.cells (aG .i64 54 x) 82)).alloc (.cells (aG .i64 54 zero) 82)):=((Below.refl _ _).alloc (Nat.le_refl _) _).alloc (by simp) _
 have hs0:w.heap.size+1<((w.alloc (.cells (aG .i64 54 x) 82)).alloc (.cells (aG .i64 54 zero) 82)).heap.size:=by simp
 generalize (w.alloc (.cells (aG .i64 54 x) 82)).alloc (.cells (aG .i64 54 zero) 82)=W at *
 rw[h]at hmay
 go_wp2_with (first
  | (refine wpList_load_row (o:=⟨some 15,_,_,_,_,_⟩) (by rfl) 82 (.tmp 5) (by rfl) w.heap.size (by rfl) 82 (aG .i64 54 x) (0,0) _ hx0.out Tryd.underlying82 (by rfl) (by rw[aJ]; exact eX) ?_)
  | (go_at_call 48; refine(hmay.out _).mono ?_; rintro e w1 ⟨rfl,hb1⟩; have hz1:Hid _:=(hb1.block (w.heap.size+1) hs0).trans hz0.out; have hx1:Hid _:=(hb1.block w.heap.size (by omega)).trans hx0.out; have hB1:=hb0.trans (hb1.mono hb0.size); have hs1:=Nat.lt_of_lt_of_le hs0 hb1.size)
  | (refine wpList_store_row (o:=⟨none,.store 82 (.tmp 10) (.tmp 22),_,_,_,_⟩) (by rfl) 82 (.tmp 10) (.tmp 22) (by rfl) (w.heap.size+1) (aG .i64 54 zero) (by rfl) (by rfl) 82 (aG .i64 54 zero) hz1.out (by rw[aJ]; exact eX) (by rw[aJ]) (gQ _ _ _) ?_))
 have hend:=eT hB1 (by omega) hz1.out zero
 exact iM hT.out rfl rfl rfl hend.1 hend.2
set_option maxRecDepth 100000 in
set_option maxHeartbeats 2000000 in
theorem Em(x:Nat->Int)(n:Int)(fm fn:FuncId)(cm cn:Array Value)(em:Int)(off:Nat)(w:World)(h:may x=true)(hn1:1<=n)(hn2:n<=1125899906842624) :
 Calls Tryd.prog 171 #[.agg (aG .i64 54 x),.int .i64 n,.bool false,.func (.func fm) #[] cm,.func (.func fn) #[] cn] w (gy x n false em off w):=by
 have hT:Hid (bG x n false em off=(zero,10)):=by unfold Hid bG; rw[h,decide_eq_true hn1,decide_eq_true hn2]; simp only[Bool.and_self,if_true]; rfl
 have hmay:Hid (∀ w',Calls Tryd.prog 48 #[.agg (aG .i64 54 x)] w' fun e w''=>e = .returned (.bool (may x))/\Below w'.heap.size w' w''):=fun w'=>lH x w'
 go_enter Tryd.func171,Tryd.ntmps171
 go_upto_region 1 with (fail)
 rw[<- jK]
 have hx0:Hid (((w.alloc (.cells (aG .i64 54 x) 82)).alloc (.cells (aG .i64 54 zero) 82)).heap[w.heap.size]? = some (.cells (aG .i64 54 x) 82 (0,0))):=heap_alloc2_old w _ _
 have hz0:Hid (((w.alloc (.cells (aG .i64 54 x) 82)).alloc (.cells (aG .i64 54 zero) 82)).heap[w.heap.size+1]? = some (.cells (aG .i64 54 zero) 82 (0,0))):=heap_alloc2_new w _ _
 have hb0:Below w.heap.size w ((w.alloc (.cells (aG .i64 54 x) 82)).alloc (.cells (aG .i64 54 zero) 82)):=((Below.refl _ _).alloc (Nat.le_refl _) _).alloc (by simp) _
 have hs0:w.heap.size+1<((w.alloc (.cells (aG .i64 54 x) 82)).alloc (.cells (aG .i64 54 zero) 82)).heap.size:=by simp
 generalize (w.alloc (.cells (aG .i64 54 x) 82)).alloc (.cells (aG .i64 54 zero) 82)=W at *
 rw[h]at hmay
 go_wp2_with (first
  | (refine wpList_load_row (o:=⟨some 15,_,_,_,_,_⟩) (by rfl) 82 (.tmp 5) (by rfl) w.heap.size (by rfl) 82 (aG .i64 54 x) (0,0) _ hx0.out Tryd.underlying82 (by rfl) (by rw[aJ]; exact eX) ?_)
  | (go_at_call 48; refine(hmay.out _).mono ?_; rintro e w1 ⟨rfl,hb1⟩; have hz1:Hid _:=(hb1.block (w.heap.size+1) hs0).trans hz0.out; have hx1:Hid _:=(hb1.block w.heap.size (by omega)).trans hx0.out; have hB1:=hb0.trans (hb1.mono hb0.size); have hs1:=Nat.lt_of_lt_of_le hs0 hb1.size)
  | (refine wpList_store_row (o:=⟨none,.store 82 (.tmp 10) (.tmp 26),_,_,_,_⟩) (by rfl) 82 (.tmp 10) (.tmp 26) (by rfl) (w.heap.size+1) (aG .i64 54 zero) (by rfl) (by rfl) 82 (aG .i64 54 zero) hz1.out (by rw[aJ]; exact eX) (by rw[aJ]) (gQ _ _ _) ?_))
 have hend:=eT hB1 (by omega) hz1.out zero
 exact iM hT.out rfl rfl rfl hend.1 hend.2
set_option maxRecDepth 100000 in
set_option maxHeartbeats 2000000 in
theorem En(x:Nat->Int)(n:Int)(fm fn:FuncId)(cm cn:Array Value)(em:Int)(off:Nat)(w:World)(h:may x=true)(hn1:1<=n)(hn2:n<=1125899906842624)(hem:em≠0)(hcm : ∀(args:Array Value) (w:World),(callFunc fm args).run Tryd.prog w = .ok (.enter fm args) w)(hm:Hid (∀ w',Below w.heap.size w w'->Calls Tryd.prog fm cm w' fun e w''=>e = .returned (.int .i64 em)/\Below w'.heap.size w' w'')) :
 Calls Tryd.prog 171 #[.agg (aG .i64 54 x),.int .i64 n,.bool true,.func (.func fm) #[] cm,.func (.func fn) #[] cn] w (gy x n true em off w):=by
 have hT:Hid (bG x n true em off=(zero,em)):=by unfold Hid bG; rw[h,decide_eq_true hn1,decide_eq_true hn2]; simp only[Bool.and_self,if_true]; rw[if_neg hem]
 have acK:(em != 0)=true:=by simpa using hem
 have hmay:Hid (∀ w',Calls Tryd.prog 48 #[.agg (aG .i64 54 x)] w' fun e w''=>e = .returned (.bool (may x))/\Below w'.heap.size w' w''):=fun w'=>lH x w'
 go_enter Tryd.func171,Tryd.ntmps171
 go_upto_region 1 with (fail)
 rw[<- jK]
 have hx0:Hid (((w.alloc (.cells (aG .i64 54 x) 82)).alloc (.cells (aG .i64 54 zero) 82)).heap[w.heap.size]? = some (.cells (aG .i64 54 x) 82 (0,0))):=heap_alloc2_old w _ _
 have hz0:Hid (((w.alloc (.cells (aG .i64 54 x) 82)).alloc (.cells (aG .i64 54 zero) 82)).heap[w.heap.size+1]? = some (.cells (aG .i64 54 zero) 82 (0,0))):=heap_alloc2_new w _ _
 have hb0:Below w.heap.size w ((w.alloc (.cells (aG .i64 54 x) 82)).alloc (.cells (aG .i64 54 zero) 82)):=((Below.refl _ _).alloc (Nat.le_refl _) _).alloc (by simp) _
 have hs0:w.heap.size+1<((w.alloc (.cells (aG .i64 54 x) 82)).alloc (.cells (aG .i64 54 zero) 82)).heap.size:=by simp
 generalize (w.alloc (.cells (aG .i64 54 x) 82)).alloc (.cells (aG .i64 54 zero) 82)=W at *
 rw[h]at hmay
 go_wp2_with (first
  | (refine wpList_load_row (o:=⟨some 15,_,_,_,_,_⟩) (by rfl) 82 (.tmp 5) (by rfl) w.heap.size (by rfl) 82 (aG .i64 54 x) (0,0) _ hx0.out Tryd.underlying82 (by rfl) (by rw[aJ]; exact eX) ?_)
  | (go_at_call 48; refine(hmay.out _).mono ?_; rintro e w1 ⟨rfl,hb1⟩; have hz1:Hid _:=(hb1.block (w.heap.size+1) hs0).trans hz0.out; have hx1:Hid _:=(hb1.block w.heap.size (by omega)).trans hx0.out; have hB1:=hb0.trans (hb1.mono hb0.size); have hs1:=Nat.lt_of_lt_of_le hs0 hb1.size)
  | (refine(hm.out _ hB1).mono ?_; rintro e w2 ⟨rfl,hb2⟩; have hz2:Hid _:=(hb2.block (w.heap.size+1) hs1).trans hz1.out; have hx2:Hid _:=(hb2.block w.heap.size (by omega)).trans hx1.out; have hB2:=hB1.trans (hb2.mono hB1.size); have hs2:=Nat.lt_of_lt_of_le hs1 hb2.size)
  | (refine wpList_store_row (o:=⟨none,.store 82 (.tmp 10) (.tmp 31),_,_,_,_⟩) (by rfl) 82 (.tmp 10) (.tmp 31) (by rfl) (w.heap.size+1) (aG .i64 54 zero) (by rfl) (by rfl) 82 (aG .i64 54 zero) hz2.out (by rw[aJ]; exact eX) (by rw[aJ]) (gQ _ _ _) ?_))
 have hend:=eT hB2 (by omega) hz2.out zero
 exact iM hT.out rfl rfl rfl hend.1 hend.2
set_option maxRecDepth 100000 in
set_option maxHeartbeats 2000000 in
theorem Eo(x:Nat->Int)(n:Int)(fm fn:FuncId)(cm cn:Array Value)(em:Int)(off:Nat)(w:World)(h:may x=true)(hn1:1<=n)(hn2:n<=1125899906842624)(TU:em=0)(hoff:off<54)(v:Int)(hv:x off=v)(hv2:0<=v/\v<=1125899906842624)(hs:1125899906842624<v+n)(hcm : ∀(args:Array Value) (w:World),(callFunc fm args).run Tryd.prog w = .ok (.enter fm args) w)(hm:Hid (∀ w',Below w.heap.size w w'->Calls Tryd.prog fm cm w' fun e w''=>e = .returned (.int .i64 em)/\Below w'.heap.size w' w''))(hcn : ∀(args:Array Value) (w:World),(callFunc fn args).run Tryd.prog w = .ok (.enter fn args) w)(hn:Hid (∀ w' g,Below w.heap.size w w'->Calls Tryd.prog fn (#[.pointer (some ⟨g,0,none⟩)]++cn) w' fun e w''=>e = .returned (.pointer (some ⟨g,off,none⟩))/\Below w'.heap.size w' w'')) :
 Calls Tryd.prog 171 #[.agg (aG .i64 54 x),.int .i64 n,.bool true,.func (.func fm) #[] cm,.func (.func fn) #[] cn] w (gy x n true em off w):=by
 have hT:Hid (bG x n true em off=(zero,6)):=by unfold Hid bG; rw[h,decide_eq_true hn1,decide_eq_true hn2]; simp only[Bool.and_self,if_true]; rw[if_pos TU,hv,if_neg (by omega)]
 subst TU
 have hmay:Hid (∀ w',Calls Tryd.prog 48 #[.agg (aG .i64 54 x)] w' fun e w''=>e = .returned (.bool (may x))/\Below w'.heap.size w' w''):=fun w'=>lH x w'
 go_enter Tryd.func171,Tryd.ntmps171
 go_upto_region 1 with (fail)
 rw[<- jK]
 have hx0:Hid (((w.alloc (.cells (aG .i64 54 x) 82)).alloc (.cells (aG .i64 54 zero) 82)).heap[w.heap.size]? = some (.cells (aG .i64 54 x) 82 (0,0))):=heap_alloc2_old w _ _
 have hz0:Hid (((w.alloc (.cells (aG .i64 54 x) 82)).alloc (.cells (aG .i64 54 zero) 82)).heap[w.heap.size+1]? = some (.cells (aG .i64 54 zero) 82 (0,0))):=heap_alloc2_new w _ _
 have hb0:Below w.heap.size w ((w.alloc (.cells (aG .i64 54 x) 82)).alloc (.cells (aG .i64 54 zero) 82)):=((Below.refl _ _).alloc (Nat.le_refl _) _).alloc (by simp) _
 have hs0:w.heap.size+1<((w.alloc (.cells (aG .i64 54 x) 82)).alloc (.cells (aG .i64 54 zero) 82)).heap.size:=by simp
 generalize (w.alloc (.cells (aG .i64 54 x) 82)).alloc (.cells (aG .i64 54 zero) 82)=W at *
 rw[h]at hmay
 go_wp2_with (first
  | (refine wpList_load_row (o:=⟨some 15,_,_,_,_,_⟩) (by rfl) 82 (.tmp 5) (by rfl) w.heap.size (by rfl) 82 (aG .i64 54 x) (0,0) _ hx0.out Tryd.underlying82 (by rfl) (by rw[aJ]; exact eX) ?_)
  | (go_at_call 48; refine(hmay.out _).mono ?_; rintro e w1 ⟨rfl,hb1⟩; have hz1:Hid _:=(hb1.block (w.heap.size+1) hs0).trans hz0.out; have hx1:Hid _:=(hb1.block w.heap.size (by omega)).trans hx0.out; have hB1:=hb0.trans (hb1.mono hb0.size); have hs1:=Nat.lt_of_lt_of_le hs0 hb1.size)
  | (refine(hm.out _ hB1).mono ?_; rintro e w2 ⟨rfl,hb2⟩; have hz2:Hid _:=(hb2.block (w.heap.size+1) hs1).trans hz1.out; have hx2:Hid _:=(hb2.block w.heap.size (by omega)).trans hx1.out; have hB2:=hB1.trans (hb2.mono hB1.size); have hs2:=Nat.lt_of_lt_of_le hs1 hb2.size)
  | (refine(hn.out _ _ hB2).mono ?_; rintro e w3 ⟨rfl,hb3⟩; have hz3:Hid _:=(hb3.block (w.heap.size+1) hs2).trans hz2.out; have hx3:=(hb3.block w.heap.size (by omega)).trans hx2.out; have hB3:=hB2.trans (hb3.mono hB2.size); have hs3:=Nat.lt_of_lt_of_le hs2 hb3.size; have hc3:=dM hx3 off hoff; have hf3:=frozen_of_row w3 w.heap.size off _ _ hx3; have Oy:Hid ((w3.setCell ⟨w.heap.size,off,none⟩ (.int .i64 (v+n))).heap[w.heap.size+1]? = some (.cells (aG .i64 54 zero) 82 (0,0))):=(heap_setCell_other _ _ _ _ (by simp)).trans hz3.out; have hx4:Hid ((w3.setCell ⟨w.heap.size,off,none⟩ (.int .i64 (v+n))).heap[w.heap.size]? = some (.cells (aG .i64 54 (upd x off (v+n))) 82 (0,0))):=by { unfold Hid; rw[heap_setCell_same _ _ _ _ _ _ hx3,wm] }; have hB4:Below w.heap.size w (w3.setCell ⟨w.heap.size,off,none⟩ (.int .i64 (v+n))):=hB3.setCell (Nat.le_refl _) _; clear hx3; rw[hv]at hc3)
  | (refine wpList_store_row (o:=⟨none,.store 82 (.tmp 10) (.tmp 45),_,_,_,_⟩) (by rfl) 82 (.tmp 10) (.tmp 45) (by rfl) (w.heap.size+1) (aG .i64 54 zero) (by rfl) (by rfl) 82 (aG .i64 54 zero) Oy.out (by rw[aJ]; exact eX) (by rw[aJ]) (gQ _ _ _) ?_))
 have hend:=eT hB4 (by omega) Oy.out zero
 exact iM hT.out rfl rfl rfl hend.1 hend.2
set_option maxRecDepth 100000 in
set_option maxHeartbeats 2000000 in
theorem Ep(x:Nat->Int)(n:Int)(fm fn:FuncId)(cm cn:Array Value)(em:Int)(off:Nat)(w:World)(h:may x=true)(hn1:1<=n)(hn2:n<=1125899906842624)(TU:em=0)(hoff:off<54)(v:Int)(hv:x off=v)(hv2:0<=v/\v<=1125899906842624)(hs:v+n<=1125899906842624)(hcm : ∀(args:Array Value) (w:World),(callFunc fm args).run Tryd.prog w = .ok (.enter fm args) w)(hm:Hid (∀ w',Below w.heap.size w w'->Calls Tryd.prog fm cm w' fun e w''=>e = .returned (.int .i64 em)/\Below w'.heap.size w' w''))(hcn : ∀(args:Array Value) (w:World),(callFunc fn args).run Tryd.prog w = .ok (.enter fn args) w)(hn:Hid (∀ w' g,Below w.heap.size w w'->Calls Tryd.prog fn (#[.pointer (some ⟨g,0,none⟩)]++cn) w' fun e w''=>e = .returned (.pointer (some ⟨g,off,none⟩))/\Below w'.heap.size w' w'')) :
 Calls Tryd.prog 171 #[.agg (aG .i64 54 x),.int .i64 n,.bool true,.func (.func fm) #[] cm,.func (.func fn) #[] cn] w (gy x n true em off w):=by
 have hT:Hid (bG x n true em off=(upd x off (v+n),0)):=by unfold Hid bG; rw[h,decide_eq_true hn1,decide_eq_true hn2]; simp only[Bool.and_self,if_true]; rw[if_pos TU,hv,if_pos (by omega)]
 subst TU
 have hmay:Hid (∀ w',Calls Tryd.prog 48 #[.agg (aG .i64 54 x)] w' fun e w''=>e = .returned (.bool (may x))/\Below w'.heap.size w' w''):=fun w'=>lH x w'
 go_enter Tryd.func171,Tryd.ntmps171
 go_upto_region 1 with (fail)
 rw[<- jK]
 have hx0:Hid (((w.alloc (.cells (aG .i64 54 x) 82)).alloc (.cells (aG .i64 54 zero) 82)).heap[w.heap.size]? = some (.cells (aG .i64 54 x) 82 (0,0))):=heap_alloc2_old w _ _
 have hz0:Hid (((w.alloc (.cells (aG .i64 54 x) 82)).alloc (.cells (aG .i64 54 zero) 82)).heap[w.heap.size+1]? = some (.cells (aG .i64 54 zero) 82 (0,0))):=heap_alloc2_new w _ _
 have hb0:Below w.heap.size w ((w.alloc (.cells (aG .i64 54 x) 82)).alloc (.cells (aG .i64 54 zero) 82)):=((Below.refl _ _).alloc (Nat.le_refl _) _).alloc (by simp) _
 have hs0:w.heap.size+1<((w.alloc (.cells (aG .i64 54 x) 82)).alloc (.cells (aG .i64 54 zero) 82)).heap.size:=by simp
 generalize (w.alloc (.cells (aG .i64 54 x) 82)).alloc (.cells (aG .i64 54 zero) 82)=W at *
 rw[h]at hmay
 go_wp2_with (first
  | (refine wpList_load_row (o:=⟨some 15,_,_,_,_,_⟩) (by rfl) 82 (.tmp 5) (by rfl) w.heap.size (by rfl) 82 (aG .i64 54 x) (0,0) _ hx0.out Tryd.underlying82 (by rfl) (by rw[aJ]; exact eX) ?_)
  | (go_at_call 48; refine(hmay.out _).mono ?_; rintro e w1 ⟨rfl,hb1⟩; have hz1:Hid _:=(hb1.block (w.heap.size+1) hs0).trans hz0.out; have hx1:Hid _:=(hb1.block w.heap.size (by omega)).trans hx0.out; have hB1:=hb0.trans (hb1.mono hb0.size); have hs1:=Nat.lt_of_lt_of_le hs0 hb1.size)
  | (refine(hm.out _ hB1).mono ?_; rintro e w2 ⟨rfl,hb2⟩; have hz2:Hid _:=(hb2.block (w.heap.size+1) hs1).trans hz1.out; have hx2:Hid _:=(hb2.block w.heap.size (by omega)).trans hx1.out; have hB2:=hB1.trans (hb2.mono hB1.size); have hs2:=Nat.lt_of_lt_of_le hs1 hb2.size)
  | (refine(hn.out _ _ hB2).mono ?_; rintro e w3 ⟨rfl,hb3⟩; have hz3:Hid _:=(hb3.block (w.heap.size+1) hs2).trans hz2.out; have hx3:=(hb3.block w.heap.size (by omega)).trans hx2.out; have hB3:=hB2.trans (hb3.mono hB2.size); have hs3:=Nat.lt_of_lt_of_le hs2 hb3.size; have hc3:=dM hx3 off hoff; have hf3:=frozen_of_row w3 w.heap.size off _ _ hx3; have Oy:Hid ((w3.setCell ⟨w.heap.size,off,none⟩ (.int .i64 (v+n))).heap[w.heap.size+1]? = some (.cells (aG .i64 54 zero) 82 (0,0))):=(heap_setCell_other _ _ _ _ (by simp)).trans hz3.out; have hx4:Hid ((w3.setCell ⟨w.heap.size,off,none⟩ (.int .i64 (v+n))).heap[w.heap.size]? = some (.cells (aG .i64 54 (upd x off (v+n))) 82 (0,0))):=by { unfold Hid; rw[heap_setCell_same _ _ _ _ _ _ hx3,wm] }; have hB4:Below w.heap.size w (w3.setCell ⟨w.heap.size,off,none⟩ (.int .i64 (v+n))):=hB3.setCell (Nat.le_refl _) _; clear hx3; rw[hv]at hc3)
  | (refine wpList_load_row (o:=⟨some 46,_,_,_,_,_⟩) (by rfl) 82 (.tmp 5) (by rfl) w.heap.size (by rfl) 82 (aG .i64 54 (upd x off (v+n))) (0,0) _ hx4.out Tryd.underlying82 (by rfl) (by rw[aJ]; exact eX) ?_)
  | (refine wpList_store_row (o:=⟨none,.store 82 (.tmp 10) (.tmp 46),_,_,_,_⟩) (by rfl) 82 (.tmp 10) (.tmp 46) (by rfl) (w.heap.size+1) (aG .i64 54 (upd x off (v+n))) (by rfl) (by rfl) 82 (aG .i64 54 zero) Oy.out (by rw[aJ]; exact eX) (by rw[aJ,aJ]) (gQ _ _ _) ?_))
 have hend:=eT hB4 (by omega) Oy.out (upd x off (v+n))
 exact iM hT.out rfl rfl rfl hend.1 hend.2
theorem nH(x:Nat->Int)(n:Int)(is:Bool)(a b:FuncId)(d f:Array Value)(c:Int)(off:Nat)(w:World)(q:is=true->off<54)(hx:is=true->may x=true->0<=x off/\x off<=1125899906842624)
 (k : ∀(i:Array Value) (w:World),(callFunc a i).run Tryd.prog w = .ok (.enter a i) w)
 (o : ∀(i:Array Value) (w:World),(callFunc b i).run Tryd.prog w = .ok (.enter b i) w)
 (l:may x=true->1<=n->n<=1125899906842624->is=true -> ∀ w',Below w.heap.size w w'->Calls Tryd.prog a d w' fun e m=>e = .returned (.int .i64 c)/\Below w'.heap.size w' m)
 (p:is=true -> ∀ w' g,Below w.heap.size w w'->Calls Tryd.prog b (#[.pointer (some ⟨g,0,none⟩)]++f) w' fun e m=>e = .returned (.pointer (some ⟨g,off,none⟩))/\Below w'.heap.size w' m) :
 Calls Tryd.prog 171 #[.agg (aG .i64 54 x),.int .i64 n,.bool is,.func (.func a) #[] d,.func (.func b) #[] f] w (gy x n is c off w):=by
 by_cases h:may x=true
 ·by_cases r:n<1
  ·exact Ej x n is a b d f c off w h r
  by_cases s:1125899906842624<n
  ·exact El x n is a b d f c off w h s
  cases is
  ·exact Em x n a b d f c off w h (by omega) (by omega)
  by_cases j:c=0
  ·by_cases t:1125899906842624<x off+n
   ·exact Eo x n a b d f c off w h (by omega) (by omega) j (q rfl) _ rfl (hx rfl h) t k (l h (by omega) (by omega) rfl) o (p rfl)
   exact Ep x n a b d f c off w h (by omega) (by omega) j (q rfl) _ rfl (hx rfl h) (by omega) k (l h (by omega) (by omega) rfl) o (p rfl)
  exact En x n a b d f c off w h (by omega) (by omega) j k (l h (by omega) (by omega) rfl)
 exact Ei x n is a b d f c off w (by simpa using h)
section
namespace Rt
def own(p:Nat):Nat:=if p<6 then p else if p<12 then p-6 else if p<18 then p-12 else(p-18) / 6
end Rt
def JS(a:World)(g:Nat)(x y:Nat->Int)(w':World):Prop:=w'.heap[g]? = some (.cells (aG .i64 54 x) 82 (0,0))/\w'.heap[g+1]? = some (.cells (aG .i64 54 y) 82 (0,0))/\w'.heap[g+1+1]? = some (.cells (aG .i64 54 zero) 82 (0,0))/\Below g a w'
theorem JS.drew{a w:World}{g:Nat}{x y:Nat->Int}(h:JS a g x y w):JS a g x y w.drew:=⟨h.1,h.2.1,h.2.2.1,bN h.2.2.2 1⟩
theorem JS.a{b w:World}{g:Nat}{x y:Nat->Int}(h:JS b g x y w)(i:Nat)(hi:i<54):w.cell? ⟨g,i,none⟩=some (.int .i64 (x i)):=dM h.1 i hi
theorem JS.b{a w:World}{g:Nat}{x y:Nat->Int}(h:JS a g x y w)(i:Nat)(hi:i<54):w.cell? ⟨g+1,i,none⟩=some (.int .i64 (y i)):=dM h.2.1 i hi
theorem JS.fr{a w:World}{g:Nat}{x y:Nat->Int}(h:JS a g x y w)(i:Nat):w.frozen? ⟨g,i,none⟩=false:=frozen_of_row w g i _ _ h.1
theorem JS.set{d w:World}{g:Nat}{x y:Nat->Int}(h:JS d g x y w)(i:Nat)(v:Int):JS d g (upd x i v) y (w.setCell ⟨g,i,none⟩ (.int .i64 v)):=by
 obtain⟨a,b,z,c⟩:=h
 refine⟨?_,?_,?_,?_⟩
 ·rw[heap_setCell_same _ _ _ _ _ _ a,wm]
 ·rw[heap_setCell_other _ _ _ _ (by simp)]; exact b
 ·rw[heap_setCell_other _ _ _ _ (by simp; omega)]; exact z
 exact c.setCell (Nat.le_refl _) _
theorem JS.congr{a w:World}{g:Nat}{x y b:Nat->Int}(h:JS a g x y w)(hx : ∀ i,i<54->x i=b i):JS a g b y w:=by
 unfold JS at *; rw[<- DJ hx]; exact h
def ZL(c:World)(g:Nat)(x y:Nat->Int)(b:Bool)(w':World):Prop := ∃ a,JS c g a y w'/\(b=false->a=x)
theorem ZL.a{b w:World}{g:Nat}{x y:Nat->Int}(h:ZL b g x y false w)(i:Nat)(hi:i<54):w.cell? ⟨g,i,none⟩=some (.int .i64 (x i)):=by
 obtain⟨c,h,e⟩:=h
 rw[<- e rfl]; exact h.a i hi
attribute [local irreducible] Oper.wp wpList Code.wp
end
section
set_option maxHeartbeats 400000 in
theorem mO(is:Bool)(e:Int)(w:World) :
 Calls Tryd.prog 173 #[.bool is,.int .i64 e] w fun r w'=>r = .returned (.int .i64 (if is then e else 0))/\w'=w:=by
 cases is
 all_goals
  go_enter Tryd.func173,Tryd.ntmps173
  go_wp2
  go_ret
  exact⟨rfl,rfl⟩
def FN(r:(Nat->Int) × Int)(w:World)(e:Ending)(w':World):Prop :=
 e = .returned (.tuple #[.agg (aG .i64 54 r.1),.int .i64 r.2])/\Below w.heap.size w w'
theorem lI{c:Func}{p q:Tmp}(j:c.results = #[.cell p 82,.tmp q]){b w:World}{a:Act}{g:Nat}{r:(Nat->Int) × Int}(e:a.defers = [])
 (h:a.tmps.getD p undef = .pointer (some ⟨g,0,none⟩)) (i:a.tmps.getD q undef = .int .i64 r.2) (f:w.heap[g]? = some (.cells (aG .i64 54 r.1) 82 (0,0))) (d:Below b.heap.size b w) :
 bodyPost Tryd.prog c (FN r b) .ret a w :=
 bodyPost_ret (by rw[results_cell_tmp j a.tmps w g 82 _ (0,0) _ h f Tryd.underlying82 rfl (by rw[aJ]; exact eX),i]) e ⟨rfl,d⟩
def Sz(x:Nat->Int)(g:Nat)(i n:Int)(w':World):Prop:=w'.heap[g]? = some (.cells (aG .i64 54 x) 82 (0,0))/\w'.cell? ⟨g+1,0,none⟩=some (.int .i64 i)/\w'.cell? ⟨g+1+1,0,none⟩=some (.int .i64 n)
theorem jd(i:Int):gH i=true<->1<=i/\i<=6:=by unfold gH; simp
attribute [local irreducible] Oper.wp wpList Code.wp
end
section
namespace Rt
def oM(x:Nat->Int)(i n:Int):Int:=if decide (dI x i<n)then 11 else 0
def bK(x:Nat->Int)(i n:Int):(Nat->Int) × Int:=bG x n (gH i) (oM x i n) (6+(i.toNat-1))
theorem zi(x:Nat->Int)(i:Int) : -(1125899906842624*8)<=dI x i/\dI x i<=1125899906842624*8:=by
 unfold dI
 split
 ·exact GY x _
 omega
end Rt
attribute [local irreducible] Oper.wp wpList Code.wp in
set_option maxRecDepth 100000 in
set_option maxHeartbeats 1000000 in
theorem GZ(x:Nat->Int)(i n:Int)(g h hi:Nat)(w:World)(hn:1<=n/\n<=1125899906842624)(hib : -9223372036854775808<=i/\i<=9223372036854775807)(hx:Hid (w.heap[g]? = some (.cells (aG .i64 54 x) 82 (0,0))))(hc:w.cell? ⟨h,0,none⟩=some (.int .i64 n))(hci:w.cell? ⟨hi,0,none⟩=some (.int .i64 i)) :
 Calls Tryd.prog 172 #[.pointer (some ⟨h,0,none⟩),.pointer (some ⟨g,0,none⟩),.pointer (some ⟨hi,0,none⟩)] w fun e w'=>e = .returned (.int .i64 (oM x i n))/\Below w.heap.size w w':=by
 have HE:Hid (oM x i n=if decide (dI x i<n)then 11 else 0):=rfl
 have hb:=zi x i
 have hlh:=block_lt_of_cell hc
 have G5:=block_lt_of_cell hci
 have LZ:g<w.heap.size:=(Array.getElem?_eq_some_iff.1 hx.out).1
 dsimp only at hlh G5
 have hB0:Below w.heap.size w w.drew:=Gr w 1
 have hs:Hid (∀ w',Calls Tryd.prog 30 #[.agg (aG .i64 54 x),.int .i64 i] w' fun e w''=>e = .returned (.int .i64 (dI x i))/\Below w'.heap.size w' w''):=fun w'=>nG x i w' hib
 generalize dI x i=s1 at *
 by_cases hd:s1<n
 ·rw[decide_eq_true hd,if_pos rfl]at HE
  go_enter Tryd.func172,Tryd.ntmps172
  go_upto_region 1 with (fail)
  rename_i K0 Bp
  refine wp_region_noPanic<|wp_region_held_drew (S:=Below w.heap.size w) (by kernel_rfl) hB0 fun hS => ?_
  refine wpAnyH_take (i:=0) (v := .int .i64 n) rfl (by kernel_rfl) (by kernel_rfl) (by kernel_rfl) (fun _ _ _ h=>h) (.inl ⟨by rfl,fun w' hw => ?_⟩) hS ?_
  ·have h2:=(hw.cell (p:=⟨h,0,none⟩) hlh).trans hc
   clear hw hc hci
   go_simp
  refine wpAnyH_take (i:=1) (v := .agg (aG .i64 54 x)) rfl (by kernel_rfl) (by kernel_rfl) (by kernel_rfl) (fun _ _ _ h=>h) (.inl ⟨by rfl,fun w' hw => ?_⟩) hS ?_
  ·exact fB 82 (.tmp 1) (by rfl) g (by rfl) 82 (aG .i64 54 x) (0,0) _ ((hw.block _ LZ).trans hx.out) Tryd.underlying82 (by rfl) (by rw[aJ]; exact eX)
  refine wpAnyH_take (i:=2) (v := .int .i64 i) rfl (by kernel_rfl) (by kernel_rfl) (by kernel_rfl) (fun _ _ _ h=>h) (.inl ⟨by rfl,fun w' hw => ?_⟩) hS ?_
  ·have h2:=(hw.cell (p:=⟨hi,0,none⟩) G5).trans hci
   clear hw hc hci
   go_simp
  refine wpAnyH_all (rs := [3]) (by kernel_rfl) (by decide) ?_
  intro j hj
  obtain rfl:j=3:=by simpa using hj
  refine wpOp_step rfl<|fun K hK => ?_
  clear hj
  go_simp
  refine(hs.out _).mono ?_
  rintro e w1 ⟨rfl,hb1⟩
  have hS:=Bt hS hb1
  refine hK _ _ ⟨hS,?_⟩
  clear hK K
  refine wpAnyH_take (i:=4) (v := .bool true) rfl (by kernel_rfl) (by kernel_rfl) (by kernel_rfl) (fun _ _ _ h=>h) (.inl ⟨by rfl,fun w' hw => ?_⟩) hS ?_
  ·clear hw hc hci
   go_simp
  refine wpAnyH_all (rs := [5]) (by kernel_rfl) (by decide) ?_
  intro j hj
  obtain rfl:j=5:=by simpa using hj
  refine wpOp_step rfl<|fun K hK => ?_
  clear hj
  go_simp
  refine(mO _ _ _).mono ?_
  rintro e w2 ⟨rfl,rfl⟩
  refine hK _ _ ⟨hS,?_⟩
  clear hK K
  refine wpAnyH_take (i:=6) (v := .int .i64 11) rfl (by kernel_rfl) (by kernel_rfl) (by kernel_rfl) (fun _ _ _ h=>h) (.inl ⟨by rfl,fun w' hw => ?_⟩) hS ?_
  ·clear hw hc hci
   go_simp
  refine wpAnyH_done (by kernel_rfl) ?_ _
  refine Bp _ _ ?_
  go_wp2
  go_ret
  rw[HE.out]
  exact⟨rfl,hS⟩
 rw[decide_eq_false hd,if_neg (by decide)]at HE
 go_enter Tryd.func172,Tryd.ntmps172
 go_upto_region 1 with (fail)
 rename_i K0 Bp
 refine wp_region_noPanic<|wp_region_held_drew (S:=Below w.heap.size w) (by kernel_rfl) hB0 fun hS => ?_
 refine wpAnyH_take (i:=0) (v := .int .i64 n) rfl (by kernel_rfl) (by kernel_rfl) (by kernel_rfl) (fun _ _ _ h=>h) (.inl ⟨by rfl,fun w' hw => ?_⟩) hS ?_
 ·have h2:=(hw.cell (p:=⟨h,0,none⟩) hlh).trans hc
  clear hw hc hci
  go_simp
 refine wpAnyH_take (i:=1) (v := .agg (aG .i64 54 x)) rfl (by kernel_rfl) (by kernel_rfl) (by kernel_rfl) (fun _ _ _ h=>h) (.inl ⟨by rfl,fun w' hw => ?_⟩) hS ?_
 ·exact fB 82 (.tmp 1) (by rfl) g (by rfl) 82 (aG .i64 54 x) (0,0) _ ((hw.block _ LZ).trans hx.out) Tryd.underlying82 (by rfl) (by rw[aJ]; exact eX)
 refine wpAnyH_take (i:=2) (v := .int .i64 i) rfl (by kernel_rfl) (by kernel_rfl) (by kernel_rfl) (fun _ _ _ h=>h) (.inl ⟨by rfl,fun w' hw => ?_⟩) hS ?_
 ·have h2:=(hw.cell (p:=⟨hi,0,none⟩) G5).trans hci
  clear hw hc hci
  go_simp
 refine wpAnyH_all (rs := [3]) (by kernel_rfl) (by decide) ?_
 intro j hj
 obtain rfl:j=3:=by simpa using hj
 refine wpOp_step rfl<|fun K hK => ?_
 clear hj
 go_simp
 refine(hs.out _).mono ?_
 rintro e w1 ⟨rfl,hb1⟩
 have hS:=Bt hS hb1
 refine hK _ _ ⟨hS,?_⟩
 clear hK K
 refine wpAnyH_take (i:=4) (v := .bool false) rfl (by kernel_rfl) (by kernel_rfl) (by kernel_rfl) (fun _ _ _ h=>h) (.inl ⟨by rfl,fun w' hw => ?_⟩) hS ?_
 ·clear hw hc hci
  go_simp
 refine wpAnyH_all (rs := [5]) (by kernel_rfl) (by decide) ?_
 intro j hj
 obtain rfl:j=5:=by simpa using hj
 refine wpOp_step rfl<|fun K hK => ?_
 clear hj
 go_simp
 refine(mO _ _ _).mono ?_
 rintro e w2 ⟨rfl,rfl⟩
 refine hK _ _ ⟨hS,?_⟩
 clear hK K
 refine wpAnyH_take (i:=6) (v := .int .i64 0) rfl (by kernel_rfl) (by kernel_rfl) (by kernel_rfl) (fun _ _ _ h=>h) (.inl ⟨by rfl,fun w' hw => ?_⟩) hS ?_
 ·clear hw hc hci
  go_simp
 refine wpAnyH_done (by kernel_rfl) ?_ _
 refine Bp _ _ ?_
 go_wp2
 go_ret
 rw[HE.out]
 exact⟨rfl,hS⟩
set_option maxHeartbeats 400000 in
theorem G6(g h:Nat)(i:Int)(w:World)(hi:1<=i/\i<=6)(hc:w.cell? ⟨h,0,none⟩=some (.int .i64 i)) :
 Calls Tryd.prog 174 #[.pointer (some ⟨g,0,none⟩),.pointer (some ⟨h,0,none⟩)] w fun e w'=>e = .returned (.pointer (some ⟨g,6+(i.toNat-1),none⟩))/\Below w.heap.size w w':=by
 obtain⟨k,hk⟩:=Int.eq_ofNat_of_zero_le (show 0<=i-1 by omega)
 obtain rfl:i=(k:Int)+1:=by omega
 have Sy:(k:Int)<6:=by omega
 have HE:Hid (((k:Int)+1).toNat-1=k):=by unfold Hid; omega
 clear hk
 go_enter Tryd.func174,Tryd.ntmps174
 go_wp2_with fail
 go_quiet (fail)
 go_wp2
 go_ret
 rw[HE.out]
 exact⟨rfl,bN (Below.refl _ _) _⟩
theorem JV(args:Array Value)(w:World):(callFunc 172 args).run Tryd.prog w = .ok (.enter 172 args) w:=gI Tryd.func172 rfl rfl args w
theorem JW(args:Array Value)(w:World):(callFunc 174 args).run Tryd.prog w = .ok (.enter 174 args) w:=gI Tryd.func174 rfl rfl args w
attribute [local irreducible] Oper.wp wpList Code.wp
set_option maxRecDepth 100000 in
set_option maxHeartbeats 1000000 in
theorem JX(x:Nat->Int)(i n:Int)(w:World)(hi : -9223372036854775808<=i/\i<=9223372036854775807) :
 Calls Tryd.prog 159 #[.agg (aG .i64 54 x),.int .i64 i,.int .i64 n] w (FN (bK x i n) w):=by
 have ZM : ∀(fn:Fn) (first cap:Array Value) (w:World),(Instr.makeFunc fn first cap).run Tryd.prog w = .ok (.func fn first cap) w:=fun _ _ _ _=>rfl
 go_enter Tryd.func159,Tryd.ntmps159
 go_upto_region 1 with (fail)
 rename_i K0 Bp
 rw[<- jK]
 have ha:=Ii w (.cells (aG .i64 54 x) 82) (.cells #[.int .i64 i] 3) (.cells #[.int .i64 n] 2) (.cells (aG .i64 54 zero) 82)
 generalize (((w.alloc (.cells (aG .i64 54 x) 82)).alloc (.cells #[.int .i64 i] 3)).alloc (.cells #[.int .i64 n] 2)).alloc (.cells (aG .i64 54 zero) 82)=W at *
 obtain⟨hx,hI,hN,hz,hs,hB⟩:=ha
 have cI:=kF hI
 have cN:=kF hN
 have Hx:Hid _:=hx
 have Hz:Hid _:=hz
 have HI:Hid _:=hI
 have HN:Hid _:=hN
 have Hs:Hid _:=hs
 clear hx hz hI hN hs
 refine wp_region_noPanic<|wp_region_held_drew (S:=Sz x w.heap.size i n) (by kernel_rfl) ⟨Hx.out,cI,cN⟩ fun hS => ?_
 refine wpAnyH_take (i:=0) (v := .agg (aG .i64 54 x)) rfl (by kernel_rfl) (by kernel_rfl) (by kernel_rfl) (fun _ _ _ h=>h) (.inl ⟨by rfl,fun w' hw => ?_⟩) hS ?_
 ·exact fB 82 (.tmp 3) (by rfl) w.heap.size (by rfl) 82 (aG .i64 54 x) (0,0) _ hw.1 Tryd.underlying82 (by rfl) (by rw[aJ]; exact eX)
 refine wpAnyH_take (i:=1) (v := .int .i64 n) rfl (by kernel_rfl) (by kernel_rfl) (by kernel_rfl) (fun _ _ _ h=>h) (.inl ⟨by rfl,fun w' hw => ?_⟩) hS ?_
 ·have h2:=hw.2.2
  go_simp
 refine wpAnyH_take (i:=2) (v := .int .i64 i) rfl (by kernel_rfl) (by kernel_rfl) (by kernel_rfl) (fun _ _ _ h=>h) (.inl ⟨by rfl,fun w' hw => ?_⟩) hS ?_
 ·have h2:=hw.2.1
  have h3:=hw.2.2
  clear hw
  go_simp
 refine wpAnyH_take (i:=4) (v := .func (.func 172) #[] #[.pointer (some ⟨w.heap.size+1+1,0,none⟩),.pointer (some ⟨w.heap.size,0,none⟩),.pointer (some ⟨w.heap.size+1,0,none⟩)]) rfl (by kernel_rfl) (by kernel_rfl) (by kernel_rfl) (fun _ _ _ h=>h) (.inl ⟨by rfl,fun w' hw => ?_⟩) hS ?_
 ·have h2:=hw.2.1
  have h3:=hw.2.2
  clear hw
  go_simp
 refine wpAnyH_take (i:=5) (v := .func (.func 174) #[] #[.pointer (some ⟨w.heap.size+1,0,none⟩)]) rfl (by kernel_rfl) (by kernel_rfl) (by kernel_rfl) (fun _ _ _ h=>h) (.inl ⟨by rfl,fun w' hw => ?_⟩) hS ?_
 ·have h2:=hw.2.1
  have h3:=hw.2.2
  clear hw
  go_simp
 refine wpAnyH_all (rs := [3]) (by kernel_rfl) (by decide) ?_
 intro j hj
 obtain rfl:j=3:=by simpa using hj
 refine wpOp_step rfl<|fun K hK => ?_
 clear hj
 go_simp
 refine(kN i _ hi).mono ?_
 rintro e w' ⟨rfl,rfl⟩
 refine hK _ _ ⟨hS,?_⟩
 clear hK K
 refine wpAnyH_all (rs := [6]) (by kernel_rfl) (by decide) ?_
 intro j hj
 obtain rfl:j=6:=by simpa using hj
 refine wpOp_step rfl<|fun K hK => ?_
 clear hj
 go_simp
 have hlx:w.heap.size<W.drew.heap.size:=(Array.getElem?_eq_some_iff.1 hS.1).1
 have ML:=block_lt_of_cell hS.2.1
 have QG:=block_lt_of_cell hS.2.2
 dsimp only at ML QG
 refine(nH x n (gH i) 172 174 _ _ (oM x i n) (6+(i.toNat-1)) W.drew ?o1 ?o2 JV JW ?o3 ?o4).mono ?_
 case o1=>intro h; have:=(jd i).1 h; omega
 case o2=>intro h hm; have:=(jd i).1 h; exact(nE hm (i.toNat-1) (by omega)).c
 case o3 =>
  intro hm h1 h2 h3 w' hb
  exact GZ x i n _ _ _ w' ⟨h1,h2⟩ hi ((hb.block _ hlx).trans hS.1) ((hb.cell (p:=⟨w.heap.size+1+1,0,none⟩) QG).trans hS.2.2) ((hb.cell (p:=⟨w.heap.size+1,0,none⟩) ML).trans hS.2.1)
 case o4 =>
  intro h w' g hb
  exact G6 g _ i w' ((jd i).1 h) ((hb.cell (p:=⟨w.heap.size+1,0,none⟩) ML).trans hS.2.1)
 rintro e w2 ⟨rfl,hb2⟩
 have WX:Hid (bK x i n=bG x n (gH i) (oM x i n) (6+(i.toNat-1))):=rfl
 generalize bG x n (gH i) (oM x i n) (6+(i.toNat-1))=r at *
 have hS2:Sz x w.heap.size i n w2:=⟨(hb2.block _ hlx).trans hS.1,(hb2.cell (p:=⟨w.heap.size+1,0,none⟩) ML).trans hS.2.1,(hb2.cell (p:=⟨w.heap.size+1+1,0,none⟩) QG).trans hS.2.2⟩
 have hz2:Hid (w2.heap[w.heap.size+1+1+1]? = some (.cells (aG .i64 54 zero) 82 (0,0))):=(hb2.block _ (by show _<W.heap.size; have:=Hs.out; omega)).trans Hz.out
 have hB2:Below w.heap.size w w2:=hB.trans ((U9 hb2).mono hB.size)
 refine hK _ _ ⟨hS2,?_⟩
 clear hK K hS hb2
 refine wpAnyH_take (i:=7) (v := .agg (aG .i64 54 r.1)) rfl (by kernel_rfl) (by kernel_rfl) (by kernel_rfl) (fun _ _ _ h=>h) (.inl ⟨by rfl,fun w' hw => ?_⟩) hS2 ?_
 ·clear hw
  go_simp
 refine wpAnyH_take (i:=8) (v := .int .i64 r.2) rfl (by kernel_rfl) (by kernel_rfl) (by kernel_rfl) (fun _ _ _ h=>h) (.inl ⟨by rfl,fun w' hw => ?_⟩) hS2 ?_
 ·clear hw
  go_simp
 refine wpAnyH_all (rs := [9]) (by kernel_rfl) (by decide) ?_
 intro j hj
 obtain rfl:j=9:=by simpa using hj
 clear hj
 refine mZ (by rfl) (by rfl)<|fun K hK => ?_
 refine wp_store_row 82 (.tmp 6) (.tmp 15) (by rfl) (w.heap.size+1+1+1) (aG .i64 54 r.1) (by rfl) (by rfl) 82 (aG .i64 54 zero) hz2.out (by rw[aJ]; exact eX) (by rw[aJ,aJ]) (gQ _ _ _) ?_
 have hend:=eT hB2 (by omega) hz2.out r.1
 have Pv:Sz x w.heap.size i n (w2.setRow (w.heap.size+1+1+1) (aG .i64 54 r.1)):=⟨(setRow_other _ _ _ _ (by omega)).trans hS2.1,(World.cell?_of_block (setRow_other _ _ _ _ (by show w.heap.size+1≠_; omega))).trans hS2.2.1,(World.cell?_of_block (setRow_other _ _ _ _ (by show w.heap.size+1+1≠_; omega))).trans hS2.2.2⟩
 refine hK _ _ ⟨Pv,?_⟩
 clear hK K hz2 hB2 hS2
 generalize w2.setRow (w.heap.size+1+1+1) (aG .i64 54 r.1)=w3 at *
 refine wpAnyH_take (i:=10) (v := .int .i64 r.2) rfl (by kernel_rfl) (by kernel_rfl) (by kernel_rfl) (fun _ _ _ h=>h) (.inl ⟨by rfl,fun w' hw => ?_⟩) Pv ?_
 ·clear hw
  go_simp
 refine wpAnyH_done (by kernel_rfl) ?_ _
 refine Bp _ _<|wp_ret ?_
 rw[WX.out]
 exact lI (p:=6) (q:=7) (by kernel_rfl) (by kernel_rfl) (by kernel_rfl) (by kernel_rfl) hend.1 hend.2
end
section
namespace Rt
def nR(x:Nat->Int)(i n:Int):Int:=if decide (C x (i.toNat-1)-F x (i.toNat-1)<n)then 12 else 0
def bF(x:Nat->Int)(i n:Int):(Nat->Int) × Int:=bG x n (gH i) (nR x i n) (12+(i.toNat-1))
end Rt
attribute [local irreducible] Oper.wp wpList Code.wp in
set_option maxRecDepth 100000 in
set_option maxHeartbeats 1000000 in
theorem G7(x:Nat->Int)(i n:Int)(g h hi:Nat)(w:World)(hn:1<=n/\n<=1125899906842624)(hib:1<=i/\i<=6)(hm:may x=true)(hx:Hid (w.heap[g]? = some (.cells (aG .i64 54 x) 82 (0,0))))(hc:w.cell? ⟨h,0,none⟩=some (.int .i64 n))(hci:w.cell? ⟨hi,0,none⟩=some (.int .i64 i)) :
 Calls Tryd.prog 175 #[.pointer (some ⟨h,0,none⟩),.pointer (some ⟨g,0,none⟩),.pointer (some ⟨hi,0,none⟩)] w fun e w'=>e = .returned (.int .i64 (nR x i n))/\Below w.heap.size w w':=by
 obtain⟨k,hk⟩:=Int.eq_ofNat_of_zero_le (show 0<=i-1 by omega)
 obtain rfl:i=(k:Int)+1:=by omega
 have Sy:k<6:=by omega
 have ho:=nE hm k Sy
 have h1:=ho.c
 have h2:=ho.f
 have h3:=ho.fc
 have c6:w.cell? ⟨g,6+k,none⟩=some (.int .i64 (C x k)):=dM hx.out (6+k) (by omega)
 have c12:w.cell? ⟨g,12+k,none⟩=some (.int .i64 (F x k)):=dM hx.out (12+k) (by omega)
 have HE:Hid (nR x ((k:Int)+1) n=if decide (C x k-F x k<n)then 12 else 0):=by
  unfold Hid nR
  rw[show((k:Int)+1).toNat-1=k by omega]
 clear ho hm hk
 generalize C x k=c at *
 generalize F x k=f at *
 have hlh:=block_lt_of_cell hc
 have G5:=block_lt_of_cell hci
 have LZ:g<w.heap.size:=(Array.getElem?_eq_some_iff.1 hx.out).1
 dsimp only at hlh G5
 have hB0:Below w.heap.size w w.drew:=Gr w 1
 by_cases hd:c-f<n
 ·rw[decide_eq_true hd,if_pos rfl]at HE
  go_enter Tryd.func175,Tryd.ntmps175
  go_upto_region 1 with (fail)
  rename_i K0 Bp
  refine wp_region_noPanic<|wp_region_held_drew (S:=Below w.heap.size w) (by kernel_rfl) hB0 fun hS => ?_
  refine wpAnyH_take (i:=0) (v := .int .i64 n) rfl (by kernel_rfl) (by kernel_rfl) (by kernel_rfl) (fun _ _ _ h=>h) (.inl ⟨by rfl,fun w' hw => ?_⟩) hS ?_
  ·have h2:=(hw.cell (p:=⟨h,0,none⟩) hlh).trans hc
   clear hw hc hci
   go_simp
  refine wpAnyH_take (i:=1) (v := .int .i64 ((k:Int)+1)) rfl (by kernel_rfl) (by kernel_rfl) (by kernel_rfl) (fun _ _ _ h=>h) (.inl ⟨by rfl,fun w' hw => ?_⟩) hS ?_
  ·have h2:=(hw.cell (p:=⟨hi,0,none⟩) G5).trans hci
   clear hw hc hci
   go_simp
  refine wpAnyH_take (i:=2) (v := .int .i64 (k:Int)) rfl (by kernel_rfl) (by kernel_rfl) (by kernel_rfl) (fun _ _ _ h=>h) (.inl ⟨by rfl,fun w' hw => ?_⟩) hS ?_
  ·clear hw hc hci
   go_simp
   exact IntWalk.i64_in _ (by omega)
  refine wpAnyH_take (i:=3) (v := .pointer (some ⟨g,6,none⟩)) rfl (by kernel_rfl) (by kernel_rfl) (by kernel_rfl) (fun _ _ _ h=>h) (.inl ⟨by rfl,fun w' hw => ?_⟩) hS ?_
  ·clear hw hc hci
   go_simp
  refine wpAnyH_take (i:=4) (v := .pointer (some ⟨g,6+k,none⟩)) rfl (by kernel_rfl) (by kernel_rfl) (by kernel_rfl) (fun _ _ _ h=>h) (.inl ⟨by rfl,fun w' hw => ?_⟩) hS ?_
  ·have WY:(k:Int)<6:=by omega
   clear hw hc hci
   go_simp
  refine wpAnyH_take (i:=5) (v := .int .i64 c) rfl (by kernel_rfl) (by kernel_rfl) (by kernel_rfl) (fun _ _ _ h=>h) (.inl ⟨by rfl,fun w' hw => ?_⟩) hS ?_
  ·have h2:=(hw.cell (p:=⟨g,6+k,none⟩) LZ).trans c6
   clear hw hc hci
   go_simp
  refine wpAnyH_take (i:=6) (v := .int .i64 ((k:Int)+1)) rfl (by kernel_rfl) (by kernel_rfl) (by kernel_rfl) (fun _ _ _ h=>h) (.inl ⟨by rfl,fun w' hw => ?_⟩) hS ?_
  ·have h2:=(hw.cell (p:=⟨hi,0,none⟩) G5).trans hci
   clear hw hc hci
   go_simp
  refine wpAnyH_take (i:=7) (v := .int .i64 (k:Int)) rfl (by kernel_rfl) (by kernel_rfl) (by kernel_rfl) (fun _ _ _ h=>h) (.inl ⟨by rfl,fun w' hw => ?_⟩) hS ?_
  ·clear hw hc hci
   go_simp
   exact IntWalk.i64_in _ (by omega)
  refine wpAnyH_take (i:=8) (v := .pointer (some ⟨g,12,none⟩)) rfl (by kernel_rfl) (by kernel_rfl) (by kernel_rfl) (fun _ _ _ h=>h) (.inl ⟨by rfl,fun w' hw => ?_⟩) hS ?_
  ·clear hw hc hci
   go_simp
  refine wpAnyH_take (i:=9) (v := .pointer (some ⟨g,12+k,none⟩)) rfl (by kernel_rfl) (by kernel_rfl) (by kernel_rfl) (fun _ _ _ h=>h) (.inl ⟨by rfl,fun w' hw => ?_⟩) hS ?_
  ·have WY:(k:Int)<6:=by omega
   clear hw hc hci
   go_simp
  refine wpAnyH_take (i:=10) (v := .int .i64 f) rfl (by kernel_rfl) (by kernel_rfl) (by kernel_rfl) (fun _ _ _ h=>h) (.inl ⟨by rfl,fun w' hw => ?_⟩) hS ?_
  ·have h2:=(hw.cell (p:=⟨g,12+k,none⟩) LZ).trans c12
   clear hw hc hci
   go_simp
  refine wpAnyH_take (i:=11) (v := .int .i64 (c-f)) rfl (by kernel_rfl) (by kernel_rfl) (by kernel_rfl) (fun _ _ _ h=>h) (.inl ⟨by rfl,fun w' hw => ?_⟩) hS ?_
  ·clear hw hc hci
   go_simp
   exact IntWalk.i64_in _ (by omega)
  refine wpAnyH_take (i:=12) (v := .bool true) rfl (by kernel_rfl) (by kernel_rfl) (by kernel_rfl) (fun _ _ _ h=>h) (.inl ⟨by rfl,fun w' hw => ?_⟩) hS ?_
  ·clear hw hc hci
   go_simp
  refine wpAnyH_all (rs := [13]) (by kernel_rfl) (by decide) ?_
  intro j hj
  obtain rfl:j=13:=by simpa using hj
  refine wpOp_step rfl<|fun K hK => ?_
  clear hj
  go_simp
  refine(mO _ _ _).mono ?_
  rintro e w2 ⟨rfl,rfl⟩
  refine hK _ _ ⟨hS,?_⟩
  clear hK K
  refine wpAnyH_take (i:=14) (v := .int .i64 12) rfl (by kernel_rfl) (by kernel_rfl) (by kernel_rfl) (fun _ _ _ h=>h) (.inl ⟨by rfl,fun w' hw => ?_⟩) hS ?_
  ·clear hw hc hci
   go_simp
  refine wpAnyH_done (by kernel_rfl) ?_ _
  refine Bp _ _ ?_
  go_wp2
  go_ret
  rw[HE.out]
  exact⟨rfl,hS⟩
 rw[decide_eq_false hd,if_neg (by decide)]at HE
 go_enter Tryd.func175,Tryd.ntmps175
 go_upto_region 1 with (fail)
 rename_i K0 Bp
 refine wp_region_noPanic<|wp_region_held_drew (S:=Below w.heap.size w) (by kernel_rfl) hB0 fun hS => ?_
 refine wpAnyH_take (i:=0) (v := .int .i64 n) rfl (by kernel_rfl) (by kernel_rfl) (by kernel_rfl) (fun _ _ _ h=>h) (.inl ⟨by rfl,fun w' hw => ?_⟩) hS ?_
 ·have h2:=(hw.cell (p:=⟨h,0,none⟩) hlh).trans hc
  clear hw hc hci
  go_simp
 refine wpAnyH_take (i:=1) (v := .int .i64 ((k:Int)+1)) rfl (by kernel_rfl) (by kernel_rfl) (by kernel_rfl) (fun _ _ _ h=>h) (.inl ⟨by rfl,fun w' hw => ?_⟩) hS ?_
 ·have h2:=(hw.cell (p:=⟨hi,0,none⟩) G5).trans hci
  clear hw hc hci
  go_simp
 refine wpAnyH_take (i:=2) (v := .int .i64 (k:Int)) rfl (by kernel_rfl) (by kernel_rfl) (by kernel_rfl) (fun _ _ _ h=>h) (.inl ⟨by rfl,fun w' hw => ?_⟩) hS ?_
 ·clear hw hc hci
  go_simp
  exact IntWalk.i64_in _ (by omega)
 refine wpAnyH_take (i:=3) (v := .pointer (some ⟨g,6,none⟩)) rfl (by kernel_rfl) (by kernel_rfl) (by kernel_rfl) (fun _ _ _ h=>h) (.inl ⟨by rfl,fun w' hw => ?_⟩) hS ?_
 ·clear hw hc hci
  go_simp
 refine wpAnyH_take (i:=4) (v := .pointer (some ⟨g,6+k,none⟩)) rfl (by kernel_rfl) (by kernel_rfl) (by kernel_rfl) (fun _ _ _ h=>h) (.inl ⟨by rfl,fun w' hw => ?_⟩) hS ?_
 ·have WY:(k:Int)<6:=by omega
  clear hw hc hci
  go_simp
 refine wpAnyH_take (i:=5) (v := .int .i64 c) rfl (by kernel_rfl) (by kernel_rfl) (by kernel_rfl) (fun _ _ _ h=>h) (.inl ⟨by rfl,fun w' hw => ?_⟩) hS ?_
 ·have h2:=(hw.cell (p:=⟨g,6+k,none⟩) LZ).trans c6
  clear hw hc hci
  go_simp
 refine wpAnyH_take (i:=6) (v := .int .i64 ((k:Int)+1)) rfl (by kernel_rfl) (by kernel_rfl) (by kernel_rfl) (fun _ _ _ h=>h) (.inl ⟨by rfl,fun w' hw => ?_⟩) hS ?_
 ·have h2:=(hw.cell (p:=⟨hi,0,none⟩) G5).trans hci
  clear hw hc hci
  go_simp
 refine wpAnyH_take (i:=7) (v := .int .i64 (k:Int)) rfl (by kernel_rfl) (by kernel_rfl) (by kernel_rfl) (fun _ _ _ h=>h) (.inl ⟨by rfl,fun w' hw => ?_⟩) hS ?_
 ·clear hw hc hci
  go_simp
  exact IntWalk.i64_in _ (by omega)
 refine wpAnyH_take (i:=8) (v := .pointer (some ⟨g,12,none⟩)) rfl (by kernel_rfl) (by kernel_rfl) (by kernel_rfl) (fun _ _ _ h=>h) (.inl ⟨by rfl,fun w' hw => ?_⟩) hS ?_
 ·clear hw hc hci
  go_simp
 refine wpAnyH_take (i:=9) (v := .pointer (some ⟨g,12+k,none⟩)) rfl (by kernel_rfl) (by kernel_rfl) (by kernel_rfl) (fun _ _ _ h=>h) (.inl ⟨by rfl,fun w' hw => ?_⟩) hS ?_
 ·have WY:(k:Int)<6:=by omega
  clear hw hc hci
  go_simp
 refine wpAnyH_take (i:=10) (v := .int .i64 f) rfl (by kernel_rfl) (by kernel_rfl) (by kernel_rfl) (fun _ _ _ h=>h) (.inl ⟨by rfl,fun w' hw => ?_⟩) hS ?_
 ·have h2:=(hw.cell (p:=⟨g,12+k,none⟩) LZ).trans c12
  clear hw hc hci
  go_simp
 refine wpAnyH_take (i:=11) (v := .int .i64 (c-f)) rfl (by kernel_rfl) (by kernel_rfl) (by kernel_rfl) (fun _ _ _ h=>h) (.inl ⟨by rfl,fun w' hw => ?_⟩) hS ?_
 ·clear hw hc hci
  go_simp
  exact IntWalk.i64_in _ (by omega)
 refine wpAnyH_take (i:=12) (v := .bool false) rfl (by kernel_rfl) (by kernel_rfl) (by kernel_rfl) (fun _ _ _ h=>h) (.inl ⟨by rfl,fun w' hw => ?_⟩) hS ?_
 ·clear hw hc hci
  go_simp
 refine wpAnyH_all (rs := [13]) (by kernel_rfl) (by decide) ?_
 intro j hj
 obtain rfl:j=13:=by simpa using hj
 refine wpOp_step rfl<|fun K hK => ?_
 clear hj
 go_simp
 refine(mO _ _ _).mono ?_
 rintro e w2 ⟨rfl,rfl⟩
 refine hK _ _ ⟨hS,?_⟩
 clear hK K
 refine wpAnyH_take (i:=14) (v := .int .i64 0) rfl (by kernel_rfl) (by kernel_rfl) (by kernel_rfl) (fun _ _ _ h=>h) (.inl ⟨by rfl,fun w' hw => ?_⟩) hS ?_
 ·clear hw hc hci
  go_simp
 refine wpAnyH_done (by kernel_rfl) ?_ _
 refine Bp _ _ ?_
 go_wp2
 go_ret
 rw[HE.out]
 exact⟨rfl,hS⟩
attribute [local irreducible] Oper.wp wpList Code.wp
set_option maxHeartbeats 400000 in
theorem G8(g h:Nat)(i:Int)(w:World)(hi:1<=i/\i<=6)(hc:w.cell? ⟨h,0,none⟩=some (.int .i64 i)) :
 Calls Tryd.prog 176 #[.pointer (some ⟨g,0,none⟩),.pointer (some ⟨h,0,none⟩)] w fun e w'=>e = .returned (.pointer (some ⟨g,12+(i.toNat-1),none⟩))/\Below w.heap.size w w':=by
 obtain⟨k,hk⟩:=Int.eq_ofNat_of_zero_le (show 0<=i-1 by omega)
 obtain rfl:i=(k:Int)+1:=by omega
 have Sy:(k:Int)<6:=by omega
 have HE:Hid (((k:Int)+1).toNat-1=k):=by unfold Hid; omega
 clear hk
 go_enter Tryd.func176,Tryd.ntmps176
 go_wp2_with fail
 go_quiet (fail)
 go_wp2
 go_ret
 rw[HE.out]
 exact⟨rfl,bN (Below.refl _ _) _⟩
theorem JY(args:Array Value)(w:World):(callFunc 175 args).run Tryd.prog w = .ok (.enter 175 args) w:=gI Tryd.func175 rfl rfl args w
theorem JZ(args:Array Value)(w:World):(callFunc 176 args).run Tryd.prog w = .ok (.enter 176 args) w:=gI Tryd.func176 rfl rfl args w
set_option maxRecDepth 100000 in
set_option maxHeartbeats 1000000 in
theorem J2(x:Nat->Int)(i n:Int)(w:World)(hi : -9223372036854775808<=i/\i<=9223372036854775807) :
 Calls Tryd.prog 162 #[.agg (aG .i64 54 x),.int .i64 i,.int .i64 n] w (FN (bF x i n) w):=by
 have ZM : ∀(fn:Fn) (first cap:Array Value) (w:World),(Instr.makeFunc fn first cap).run Tryd.prog w = .ok (.func fn first cap) w:=fun _ _ _ _=>rfl
 go_enter Tryd.func162,Tryd.ntmps162
 go_upto_region 1 with (fail)
 rename_i K0 Bp
 rw[<- jK]
 have ha:=Ii w (.cells (aG .i64 54 x) 82) (.cells #[.int .i64 i] 3) (.cells #[.int .i64 n] 2) (.cells (aG .i64 54 zero) 82)
 generalize (((w.alloc (.cells (aG .i64 54 x) 82)).alloc (.cells #[.int .i64 i] 3)).alloc (.cells #[.int .i64 n] 2)).alloc (.cells (aG .i64 54 zero) 82)=W at *
 obtain⟨hx,hI,hN,hz,hs,hB⟩:=ha
 have cI:=kF hI
 have cN:=kF hN
 have Hx:Hid _:=hx
 have Hz:Hid _:=hz
 have HI:Hid _:=hI
 have HN:Hid _:=hN
 have Hs:Hid _:=hs
 clear hx hz hI hN hs
 refine wp_region_noPanic<|wp_region_held_drew (S:=Sz x w.heap.size i n) (by kernel_rfl) ⟨Hx.out,cI,cN⟩ fun hS => ?_
 refine wpAnyH_take (i:=0) (v := .agg (aG .i64 54 x)) rfl (by kernel_rfl) (by kernel_rfl) (by kernel_rfl) (fun _ _ _ h=>h) (.inl ⟨by rfl,fun w' hw => ?_⟩) hS ?_
 ·exact fB 82 (.tmp 3) (by rfl) w.heap.size (by rfl) 82 (aG .i64 54 x) (0,0) _ hw.1 Tryd.underlying82 (by rfl) (by rw[aJ]; exact eX)
 refine wpAnyH_take (i:=1) (v := .int .i64 n) rfl (by kernel_rfl) (by kernel_rfl) (by kernel_rfl) (fun _ _ _ h=>h) (.inl ⟨by rfl,fun w' hw => ?_⟩) hS ?_
 ·have h2:=hw.2.2
  go_simp
 refine wpAnyH_take (i:=2) (v := .int .i64 i) rfl (by kernel_rfl) (by kernel_rfl) (by kernel_rfl) (fun _ _ _ h=>h) (.inl ⟨by rfl,fun w' hw => ?_⟩) hS ?_
 ·have h2:=hw.2.1
  have h3:=hw.2.2
  clear hw
  go_simp
 refine wpAnyH_take (i:=4) (v := .func (.func 175) #[] #[.pointer (some ⟨w.heap.size+1+1,0,none⟩),.pointer (some ⟨w.heap.size,0,none⟩),.pointer (some ⟨w.heap.size+1,0,none⟩)]) rfl (by kernel_rfl) (by kernel_rfl) (by kernel_rfl) (fun _ _ _ h=>h) (.inl ⟨by rfl,fun w' hw => ?_⟩) hS ?_
 ·have h2:=hw.2.1
  have h3:=hw.2.2
  clear hw
  go_simp
 refine wpAnyH_take (i:=5) (v := .func (.func 176) #[] #[.pointer (some ⟨w.heap.size+1,0,none⟩)]) rfl (by kernel_rfl) (by kernel_rfl) (by kernel_rfl) (fun _ _ _ h=>h) (.inl ⟨by rfl,fun w' hw => ?_⟩) hS ?_
 ·have h2:=hw.2.1
  have h3:=hw.2.2
  clear hw
  go_simp
 refine wpAnyH_all (rs := [3]) (by kernel_rfl) (by decide) ?_
 intro j hj
 obtain rfl:j=3:=by simpa using hj
 refine wpOp_step rfl<|fun K hK => ?_
 clear hj
 go_simp
 refine(kN i _ hi).mono ?_
 rintro e w' ⟨rfl,rfl⟩
 refine hK _ _ ⟨hS,?_⟩
 clear hK K
 refine wpAnyH_all (rs := [6]) (by kernel_rfl) (by decide) ?_
 intro j hj
 obtain rfl:j=6:=by simpa using hj
 refine wpOp_step rfl<|fun K hK => ?_
 clear hj
 go_simp
 have hlx:w.heap.size<W.drew.heap.size:=(Array.getElem?_eq_some_iff.1 hS.1).1
 have ML:=block_lt_of_cell hS.2.1
 have QG:=block_lt_of_cell hS.2.2
 dsimp only at ML QG
 refine(nH x n (gH i) 175 176 _ _ (nR x i n) (12+(i.toNat-1)) W.drew ?o1 ?o2 JY JZ ?o3 ?o4).mono ?_
 case o1=>intro h; have:=(jd i).1 h; omega
 case o2=>intro h hm; have:=(jd i).1 h; exact(nE hm (i.toNat-1) (by omega)).f
 case o3 =>
  intro hm h1 h2 h3 w' hb
  exact G7 x i n _ _ _ w' ⟨h1,h2⟩ ((jd i).1 h3) hm ((hb.block _ hlx).trans hS.1) ((hb.cell (p:=⟨w.heap.size+1+1,0,none⟩) QG).trans hS.2.2) ((hb.cell (p:=⟨w.heap.size+1,0,none⟩) ML).trans hS.2.1)
 case o4 =>
  intro h w' g hb
  exact G8 g _ i w' ((jd i).1 h) ((hb.cell (p:=⟨w.heap.size+1,0,none⟩) ML).trans hS.2.1)
 rintro e w2 ⟨rfl,hb2⟩
 have WX:Hid (bF x i n=bG x n (gH i) (nR x i n) (12+(i.toNat-1))):=rfl
 generalize bG x n (gH i) (nR x i n) (12+(i.toNat-1))=r at *
 have hS2:Sz x w.heap.size i n w2:=⟨(hb2.block _ hlx).trans hS.1,(hb2.cell (p:=⟨w.heap.size+1,0,none⟩) ML).trans hS.2.1,(hb2.cell (p:=⟨w.heap.size+1+1,0,none⟩) QG).trans hS.2.2⟩
 have hz2:Hid (w2.heap[w.heap.size+1+1+1]? = some (.cells (aG .i64 54 zero) 82 (0,0))):=(hb2.block _ (by show _<W.heap.size; have:=Hs.out; omega)).trans Hz.out
 have hB2:Below w.heap.size w w2:=hB.trans ((U9 hb2).mono hB.size)
 refine hK _ _ ⟨hS2,?_⟩
 clear hK K hS hb2
 refine wpAnyH_take (i:=7) (v := .agg (aG .i64 54 r.1)) rfl (by kernel_rfl) (by kernel_rfl) (by kernel_rfl) (fun _ _ _ h=>h) (.inl ⟨by rfl,fun w' hw => ?_⟩) hS2 ?_
 ·clear hw
  go_simp
 refine wpAnyH_take (i:=8) (v := .int .i64 r.2) rfl (by kernel_rfl) (by kernel_rfl) (by kernel_rfl) (fun _ _ _ h=>h) (.inl ⟨by rfl,fun w' hw => ?_⟩) hS2 ?_
 ·clear hw
  go_simp
 refine wpAnyH_all (rs := [9]) (by kernel_rfl) (by decide) ?_
 intro j hj
 obtain rfl:j=9:=by simpa using hj
 clear hj
 refine mZ (by rfl) (by rfl)<|fun K hK => ?_
 refine wp_store_row 82 (.tmp 6) (.tmp 15) (by rfl) (w.heap.size+1+1+1) (aG .i64 54 r.1) (by rfl) (by rfl) 82 (aG .i64 54 zero) hz2.out (by rw[aJ]; exact eX) (by rw[aJ,aJ]) (gQ _ _ _) ?_
 have hend:=eT hB2 (by omega) hz2.out r.1
 have Pv:Sz x w.heap.size i n (w2.setRow (w.heap.size+1+1+1) (aG .i64 54 r.1)):=⟨(setRow_other _ _ _ _ (by omega)).trans hS2.1,(World.cell?_of_block (setRow_other _ _ _ _ (by show w.heap.size+1≠_; omega))).trans hS2.2.1,(World.cell?_of_block (setRow_other _ _ _ _ (by show w.heap.size+1+1≠_; omega))).trans hS2.2.2⟩
 refine hK _ _ ⟨Pv,?_⟩
 clear hK K hz2 hB2 hS2
 generalize w2.setRow (w.heap.size+1+1+1) (aG .i64 54 r.1)=w3 at *
 refine wpAnyH_take (i:=10) (v := .int .i64 r.2) rfl (by kernel_rfl) (by kernel_rfl) (by kernel_rfl) (fun _ _ _ h=>h) (.inl ⟨by rfl,fun w' hw => ?_⟩) Pv ?_
 ·clear hw
  go_simp
 refine wpAnyH_done (by kernel_rfl) ?_ _
 refine Bp _ _<|wp_ret ?_
 rw[WX.out]
 exact lI (p:=6) (q:=7) (by kernel_rfl) (by kernel_rfl) (by kernel_rfl) (by kernel_rfl) hend.1 hend.2
end
namespace Rt
def lJ(x:Nat->Int)(i j n:Int):Int:=if i=j then 1 else if decide (dI x i<n)then 11 else 0
def iH(i j:Int):Nat:=18+(i.toNat-1)*6+(j.toNat-1)
def fF(x:Nat->Int)(i j n:Int):(Nat->Int) × Int:=bG x n (gH i&&gH j) (lJ x i j n) (iH i j)
end Rt
attribute [local irreducible] Oper.wp wpList Code.wp in
set_option maxRecDepth 100000 in
set_option maxHeartbeats 1000000 in
theorem zk(x:Nat->Int)(i j0 n:Int)(g h hi hj:Nat)(w:World)(hn:1<=n/\n<=1125899906842624)(hib : -9223372036854775808<=i/\i<=9223372036854775807)(hjb : -9223372036854775808<=j0/\j0<=9223372036854775807)(hx:Hid (w.heap[g]? = some (.cells (aG .i64 54 x) 82 (0,0))))(hc:w.cell? ⟨h,0,none⟩=some (.int .i64 n))(hci:w.cell? ⟨hi,0,none⟩=some (.int .i64 i))(hcj:w.cell? ⟨hj,0,none⟩=some (.int .i64 j0)) :
 Calls Tryd.prog 177 #[.pointer (some ⟨hi,0,none⟩),.pointer (some ⟨hj,0,none⟩),.pointer (some ⟨h,0,none⟩),.pointer (some ⟨g,0,none⟩)] w fun e w'=>e = .returned (.int .i64 (lJ x i j0 n))/\Below w.heap.size w w':=by
 have HE:Hid (lJ x i j0 n=if i=j0 then 1 else if decide (dI x i<n)then 11 else 0):=rfl
 have hb:=zi x i
 have hlh:=block_lt_of_cell hc
 have G5:=block_lt_of_cell hci
 have LZ:g<w.heap.size:=(Array.getElem?_eq_some_iff.1 hx.out).1
 dsimp only at hlh G5
 have hB0:Below w.heap.size w w.drew:=Gr w 1
 have hs:Hid (∀ w',Calls Tryd.prog 30 #[.agg (aG .i64 54 x),.int .i64 i] w' fun e w''=>e = .returned (.int .i64 (dI x i))/\Below w'.heap.size w' w''):=fun w'=>nG x i w' hib
 generalize dI x i=s1 at *
 by_cases he:i=j0
 ·rw[if_pos he]at HE
  subst he
  go_enter Tryd.func177,Tryd.ntmps177
  go_wp2
  go_ret
  rw[HE.out]
  exact⟨rfl,Below.refl _ _⟩
 rw[if_neg he]at HE
 have hne:(i==j0)=false:=by simpa using he
 clear he
 by_cases hd:s1<n
 ·rw[decide_eq_true hd,if_pos rfl]at HE
  go_enter Tryd.func177,Tryd.ntmps177
  go_upto_region 3 with (fail)
  rename_i K0 Bp
  refine wp_region_noPanic<|wp_region_held_drew (S:=Below w.heap.size w) (by kernel_rfl) hB0 fun hS => ?_
  refine wpAnyH_take (i:=0) (v := .int .i64 n) rfl (by kernel_rfl) (by kernel_rfl) (by kernel_rfl) (fun _ _ _ h=>h) (.inl ⟨by rfl,fun w' hw => ?_⟩) hS ?_
  ·have h2:=(hw.cell (p:=⟨h,0,none⟩) hlh).trans hc
   clear hw hc hci
   go_simp
  refine wpAnyH_take (i:=1) (v := .agg (aG .i64 54 x)) rfl (by kernel_rfl) (by kernel_rfl) (by kernel_rfl) (fun _ _ _ h=>h) (.inl ⟨by rfl,fun w' hw => ?_⟩) hS ?_
  ·exact fB 82 (.tmp 3) (by rfl) g (by rfl) 82 (aG .i64 54 x) (0,0) _ ((hw.block _ LZ).trans hx.out) Tryd.underlying82 (by rfl) (by rw[aJ]; exact eX)
  refine wpAnyH_take (i:=2) (v := .int .i64 i) rfl (by kernel_rfl) (by kernel_rfl) (by kernel_rfl) (fun _ _ _ h=>h) (.inl ⟨by rfl,fun w' hw => ?_⟩) hS ?_
  ·have h2:=(hw.cell (p:=⟨hi,0,none⟩) G5).trans hci
   clear hw hc hci
   go_simp
  refine wpAnyH_all (rs := [3]) (by kernel_rfl) (by decide) ?_
  intro j hj
  obtain rfl:j=3:=by simpa using hj
  refine wpOp_step rfl<|fun K hK => ?_
  clear hj
  go_simp
  refine(hs.out _).mono ?_
  rintro e w1 ⟨rfl,hb1⟩
  have hS:=Bt hS hb1
  refine hK _ _ ⟨hS,?_⟩
  clear hK K
  refine wpAnyH_take (i:=4) (v := .bool true) rfl (by kernel_rfl) (by kernel_rfl) (by kernel_rfl) (fun _ _ _ h=>h) (.inl ⟨by rfl,fun w' hw => ?_⟩) hS ?_
  ·clear hw hc hci
   go_simp
  refine wpAnyH_all (rs := [5]) (by kernel_rfl) (by decide) ?_
  intro j hj
  obtain rfl:j=5:=by simpa using hj
  refine wpOp_step rfl<|fun K hK => ?_
  clear hj
  go_simp
  refine(mO _ _ _).mono ?_
  rintro e w2 ⟨rfl,rfl⟩
  refine hK _ _ ⟨hS,?_⟩
  clear hK K
  refine wpAnyH_take (i:=6) (v := .int .i64 11) rfl (by kernel_rfl) (by kernel_rfl) (by kernel_rfl) (fun _ _ _ h=>h) (.inl ⟨by rfl,fun w' hw => ?_⟩) hS ?_
  ·clear hw hc hci
   go_simp
  refine wpAnyH_done (by kernel_rfl) ?_ _
  refine Bp _ _ ?_
  go_wp2
  go_ret
  rw[HE.out]
  exact⟨rfl,hS⟩
 rw[decide_eq_false hd,if_neg (by decide)]at HE
 go_enter Tryd.func177,Tryd.ntmps177
 go_upto_region 3 with (fail)
 rename_i K0 Bp
 refine wp_region_noPanic<|wp_region_held_drew (S:=Below w.heap.size w) (by kernel_rfl) hB0 fun hS => ?_
 refine wpAnyH_take (i:=0) (v := .int .i64 n) rfl (by kernel_rfl) (by kernel_rfl) (by kernel_rfl) (fun _ _ _ h=>h) (.inl ⟨by rfl,fun w' hw => ?_⟩) hS ?_
 ·have h2:=(hw.cell (p:=⟨h,0,none⟩) hlh).trans hc
  clear hw hc hci
  go_simp
 refine wpAnyH_take (i:=1) (v := .agg (aG .i64 54 x)) rfl (by kernel_rfl) (by kernel_rfl) (by kernel_rfl) (fun _ _ _ h=>h) (.inl ⟨by rfl,fun w' hw => ?_⟩) hS ?_
 ·exact fB 82 (.tmp 3) (by rfl) g (by rfl) 82 (aG .i64 54 x) (0,0) _ ((hw.block _ LZ).trans hx.out) Tryd.underlying82 (by rfl) (by rw[aJ]; exact eX)
 refine wpAnyH_take (i:=2) (v := .int .i64 i) rfl (by kernel_rfl) (by kernel_rfl) (by kernel_rfl) (fun _ _ _ h=>h) (.inl ⟨by rfl,fun w' hw => ?_⟩) hS ?_
 ·have h2:=(hw.cell (p:=⟨hi,0,none⟩) G5).trans hci
  clear hw hc hci
  go_simp
 refine wpAnyH_all (rs := [3]) (by kernel_rfl) (by decide) ?_
 intro j hj
 obtain rfl:j=3:=by simpa using hj
 refine wpOp_step rfl<|fun K hK => ?_
 clear hj
 go_simp
 refine(hs.out _).mono ?_
 rintro e w1 ⟨rfl,hb1⟩
 have hS:=Bt hS hb1
 refine hK _ _ ⟨hS,?_⟩
 clear hK K
 refine wpAnyH_take (i:=4) (v := .bool false) rfl (by kernel_rfl) (by kernel_rfl) (by kernel_rfl) (fun _ _ _ h=>h) (.inl ⟨by rfl,fun w' hw => ?_⟩) hS ?_
 ·clear hw hc hci
  go_simp
 refine wpAnyH_all (rs := [5]) (by kernel_rfl) (by decide) ?_
 intro j hj
 obtain rfl:j=5:=by simpa using hj
 refine wpOp_step rfl<|fun K hK => ?_
 clear hj
 go_simp
 refine(mO _ _ _).mono ?_
 rintro e w2 ⟨rfl,rfl⟩
 refine hK _ _ ⟨hS,?_⟩
 clear hK K
 refine wpAnyH_take (i:=6) (v := .int .i64 0) rfl (by kernel_rfl) (by kernel_rfl) (by kernel_rfl) (fun _ _ _ h=>h) (.inl ⟨by rfl,fun w' hw => ?_⟩) hS ?_
 ·clear hw hc hci
  go_simp
 refine wpAnyH_done (by kernel_rfl) ?_ _
 refine Bp _ _ ?_
 go_wp2
 go_ret
 rw[HE.out]
 exact⟨rfl,hS⟩
set_option maxHeartbeats 400000 in
theorem zl(g h1 h2:Nat)(i j:Int)(w:World)(hi:1<=i/\i<=6)(hj:1<=j/\j<=6)(hci:w.cell? ⟨h1,0,none⟩=some (.int .i64 i))(hcj:w.cell? ⟨h2,0,none⟩=some (.int .i64 j)) :
 Calls Tryd.prog 178 #[.pointer (some ⟨g,0,none⟩),.pointer (some ⟨h1,0,none⟩),.pointer (some ⟨h2,0,none⟩)] w fun e w'=>e = .returned (.pointer (some ⟨g,iH i j,none⟩))/\Below w.heap.size w w':=by
 obtain⟨k,hk⟩:=Int.eq_ofNat_of_zero_le (show 0<=i-1 by omega)
 obtain rfl:i=(k:Int)+1:=by omega
 obtain⟨l,hl⟩:=Int.eq_ofNat_of_zero_le (show 0<=j-1 by omega)
 obtain rfl:j=(l:Int)+1:=by omega
 have Sy:(k:Int)<6:=by omega
 have hl6:(l:Int)<6:=by omega
 have HE:Hid (iH ((k:Int)+1) ((l:Int)+1)=18+k*6+l):=by unfold Hid iH; omega
 clear hk hl
 go_enter Tryd.func178,Tryd.ntmps178
 go_wp2_with fail
 go_quiet (fail)
 go_wp2
 go_ret
 rw[HE.out]
 exact⟨rfl,bN (Below.refl _ _) _⟩
theorem Ct(args:Array Value)(w:World):(callFunc 177 args).run Tryd.prog w = .ok (.enter 177 args) w:=gI Tryd.func177 rfl rfl args w
theorem Cu(args:Array Value)(w:World):(callFunc 178 args).run Tryd.prog w = .ok (.enter 178 args) w:=gI Tryd.func178 rfl rfl args w
section
def Dz(x:Nat->Int)(g:Nat)(i j n:Int)(w':World):Prop:=w'.heap[g]? = some (.cells (aG .i64 54 x) 82 (0,0))/\w'.cell? ⟨g+1,0,none⟩=some (.int .i64 i)/\w'.cell? ⟨g+1+1,0,none⟩=some (.int .i64 j)/\w'.cell? ⟨g+1+1+1,0,none⟩=some (.int .i64 n)
theorem Dz.up{x:Nat->Int}{g:Nat}{i j n:Int}{w w':World}(h:Dz x g i j n w)(e:Below w.heap.size w w'):Dz x g i j n w':=by
 obtain⟨a,b,c,d⟩:=h
 exact⟨(e.block _ (Array.getElem?_eq_some_iff.1 a).1).trans a,(e.cell (p:=⟨g+1,0,none⟩) (block_lt_of_cell b)).trans b,(e.cell (p:=⟨g+1+1,0,none⟩) (block_lt_of_cell c)).trans c,(e.cell (p:=⟨g+1+1+1,0,none⟩) (block_lt_of_cell d)).trans d⟩
instance {x:Nat->Int} {g:Nat} {i j n:Int} {w w':World}:Rt.Tr w w' (Dz x g i j n w) (Dz x g i j n w'):=⟨fun b h=>h.up b⟩
theorem Dz.row{x:Nat->Int}{g:Nat}{i j n:Int}{w:World}(h:Dz x g i j n w)(cs:Array Value):Dz x g i j n (w.setRow (g+1+1+1+1) cs):=by
 obtain⟨a,b,c,d⟩:=h
 exact⟨(setRow_other _ _ _ _ (by omega)).trans a,(World.cell?_of_block (setRow_other _ _ _ _ (by show g+1≠_; omega))).trans b,(World.cell?_of_block (setRow_other _ _ _ _ (by show g+1+1≠_; omega))).trans c,(World.cell?_of_block (setRow_other _ _ _ _ (by show g+1+1+1≠_; omega))).trans d⟩
attribute [local irreducible] Oper.wp wpList Code.wp
set_option maxRecDepth 100000 in
set_option maxHeartbeats 2000000 in
theorem J3(x:Nat->Int)(i j n:Int)(w:World)(hi : -9223372036854775808<=i/\i<=9223372036854775807)(hj0 : -9223372036854775808<=j/\j<=9223372036854775807) :
 Calls Tryd.prog 164 #[.agg (aG .i64 54 x),.int .i64 i,.int .i64 j,.int .i64 n] w (FN (fF x i j n) w):=by
 have HM:Hid (fF x i j n=bG x n (gH i&&gH j) (lJ x i j n) (iH i j)):=rfl
 have ZN:=jd i
 have ZO:=jd j
 have JU:Hid (∀ w',Calls Tryd.prog 47 #[.int .i64 i] w' fun e w''=>e = .returned (.bool (gH i))/\w''=w'):=fun w'=>kN i w' hi
 have TV:Hid (∀ w',Calls Tryd.prog 47 #[.int .i64 j] w' fun e w''=>e = .returned (.bool (gH j))/\w''=w'):=fun w'=>kN j w' hj0
 generalize gH i=bi at *
 generalize gH j=bj at *
 have Hri:Hid _:=ZN
 have Hrj:Hid _:=ZO
 clear ZN ZO
 have ZM : ∀(fn:Fn) (first cap:Array Value) (w:World),(Instr.makeFunc fn first cap).run Tryd.prog w = .ok (.func fn first cap) w:=fun _ _ _ _=>rfl
 cases bi
 all_goals
  go_enter Tryd.func164,Tryd.ntmps164
  go_upto_region 1 with (fail)
  rename_i K0 Bp
  rw[<- jK]
  have ha:=O4 w (.cells (aG .i64 54 x) 82) (.cells #[.int .i64 i] 3) (.cells #[.int .i64 j] 3) (.cells #[.int .i64 n] 2) (.cells (aG .i64 54 zero) 82)
  generalize ((((w.alloc (.cells (aG .i64 54 x) 82)).alloc (.cells #[.int .i64 i] 3)).alloc (.cells #[.int .i64 j] 3)).alloc (.cells #[.int .i64 n] 2)).alloc (.cells (aG .i64 54 zero) 82)=W at *
  obtain⟨hx,hI,hJ,hN,hz,hs,hB⟩:=ha
  have hS0:Dz x w.heap.size i j n W.drew:=⟨hx,kF (w:=W) hI,kF (w:=W) hJ,kF (w:=W) hN⟩
  have Hz:Hid _:=hz
  have Hs:Hid _:=hs
  clear hx hz hI hJ hN hs
  refine wp_region_noPanic<|wp_region_held_drew (S:=Dz x w.heap.size i j n) (by kernel_rfl) hS0 fun hS => ?_
  refine wpAnyH_take (i:=0) (v := .agg (aG .i64 54 x)) rfl (by kernel_rfl) (by kernel_rfl) (by kernel_rfl) (fun _ _ _ h=>h) (.inl ⟨by rfl,fun w' hw => ?_⟩) hS ?_
  ·exact fB 82 (.tmp 4) (by rfl) w.heap.size (by rfl) 82 (aG .i64 54 x) (0,0) _ hw.1 Tryd.underlying82 (by rfl) (by rw[aJ]; exact eX)
  refine wpAnyH_take (i:=1) (v := .int .i64 n) rfl (by kernel_rfl) (by kernel_rfl) (by kernel_rfl) (fun _ _ _ h=>h) (.inl ⟨by rfl,fun w' hw => ?_⟩) hS ?_
  ·have h2:=hw.2.2.2
   clear hw
   go_simp
  refine wpAnyH_take (i:=2) (v := .int .i64 i) rfl (by kernel_rfl) (by kernel_rfl) (by kernel_rfl) (fun _ _ _ h=>h) (.inl ⟨by rfl,fun w' hw => ?_⟩) hS ?_
  ·have h2:=hw.2.1
   clear hw
   go_simp
  refine wpAnyH_take (i:=8) (v := .func (.func 177) #[] #[.pointer (some ⟨w.heap.size+1,0,none⟩),.pointer (some ⟨w.heap.size+1+1,0,none⟩),.pointer (some ⟨w.heap.size+1+1+1,0,none⟩),.pointer (some ⟨w.heap.size,0,none⟩)]) rfl (by kernel_rfl) (by kernel_rfl) (by kernel_rfl) (fun _ _ _ h=>h) (.inl ⟨by rfl,fun w' hw => ?_⟩) hS ?_
  ·clear hw
   go_simp
  refine wpAnyH_take (i:=9) (v := .func (.func 178) #[] #[.pointer (some ⟨w.heap.size+1,0,none⟩),.pointer (some ⟨w.heap.size+1+1,0,none⟩)]) rfl (by kernel_rfl) (by kernel_rfl) (by kernel_rfl) (fun _ _ _ h=>h) (.inl ⟨by rfl,fun w' hw => ?_⟩) hS ?_
  ·clear hw
   go_simp
  refine wpAnyH_all (rs := [3]) (by kernel_rfl) (by decide) ?_
  intro j hj
  obtain rfl:j=3:=by simpa using hj
  refine wpOp_step rfl<|fun K hK => ?_
  clear hj
  go_simp
  refine(JU.out _).mono ?_
  rintro e w' ⟨rfl,rfl⟩
  refine hK _ _ ⟨hS,?_⟩
  clear hK K
 ·have hoff:false=true->iH i j<54:=nofun
  have hcell:false=true->may x=true->0<=x (iH i j)/\x (iH i j)<=1125899906842624:=nofun
  have hbd:false=true->(1<=i/\i<=6)/\(1<=j/\j<=6):=nofun
  refine wpAnyH_take (i:=4) (v := .bool false) rfl (by kernel_rfl) (by kernel_rfl) (by kernel_rfl) (fun _ _ _ h=>h) (.inl ⟨by rfl,fun w' hw => ?_⟩) hS ?_
  ·clear hw
   go_simp
  refine wpAnyH_take (i:=5) (v:=undef) rfl (by kernel_rfl) (by kernel_rfl) (by kernel_rfl) (fun _ _ _ h=>h) (.inr ⟨by rfl,rfl⟩) hS ?_
  refine wpAnyH_take (i:=6) (v:=undef) rfl (by kernel_rfl) (by kernel_rfl) (by kernel_rfl) (fun _ _ _ h=>h) (.inr ⟨by rfl,rfl⟩) hS ?_
  refine wpAnyH_take (i:=7) (v := .bool false) rfl (by kernel_rfl) (by kernel_rfl) (by kernel_rfl) (fun _ _ _ h=>h) (.inl ⟨by rfl,fun w' hw => ?_⟩) hS ?_
  ·clear hw
   go_simp
  have HM:Hid (fF x i j n=bG x n false (lJ x i j n) (iH i j)):=HM
  refine wpAnyH_all (rs := [10]) (by kernel_rfl) (by decide) ?_
  intro j hj
  obtain rfl:j=10:=by simpa using hj
  refine wpOp_step rfl<|fun K hK => ?_
  clear hj
  go_simp
  have hlz:w.heap.size+1+1+1+1<W.drew.heap.size:=by show _<W.heap.size; have:=Hs.out; omega
  refine(nH x n false 177 178 _ _ (lJ x i j n) (iH i j) W.drew ?o1 ?o2 Ct Cu ?o3 ?o4).mono ?_
  case o1=>exact hoff
  case o2=>exact hcell
  case o3=>exact fun hm h1 h2 h3 w' hb=>have hq:=Dz.up hS hb; zk x i j n _ _ _ _ w' ⟨h1,h2⟩ hi hj0 hq.1 hq.2.2.2 hq.2.1 hq.2.2.1
  case o4=>exact fun h w' g hb=>have hq:=Dz.up hS hb; zl g _ _ i j w' (hbd h).1 (hbd h).2 hq.2.1 hq.2.2.1
  rintro e w2 ⟨rfl,hb2⟩
  generalize bG x n false (lJ x i j n) (iH i j)=r at *
  have hz2:Hid (w2.heap[w.heap.size+1+1+1+1]? = some (.cells (aG .i64 54 zero) 82 (0,0))):=(hb2.block _ hlz).trans Hz.out
  have hB2:Below w.heap.size w w2:=hB.trans ((U9 hb2).mono hB.size)
  have hS:=Dz.up hS hb2
  refine hK _ _ ⟨hS,?_⟩
  clear hK K
  clear hb2
  refine wpAnyH_take (i:=11) (v := .agg (aG .i64 54 r.1)) rfl (by kernel_rfl) (by kernel_rfl) (by kernel_rfl) (fun _ _ _ h=>h) (.inl ⟨by rfl,fun w' hw => ?_⟩) hS ?_
  ·clear hw
   go_simp
  refine wpAnyH_take (i:=12) (v := .int .i64 r.2) rfl (by kernel_rfl) (by kernel_rfl) (by kernel_rfl) (fun _ _ _ h=>h) (.inl ⟨by rfl,fun w' hw => ?_⟩) hS ?_
  ·clear hw
   go_simp
  refine wpAnyH_all (rs := [13]) (by kernel_rfl) (by decide) ?_
  intro j' hj'
  obtain rfl:j'=13:=by simpa using hj'
  clear hj'
  refine mZ (by rfl) (by rfl)<|fun K hK => ?_
  refine wp_store_row 82 (.tmp 8) (.tmp 21) (by rfl) (w.heap.size+1+1+1+1) (aG .i64 54 r.1) (by rfl) (by rfl) 82 (aG .i64 54 zero) hz2.out (by rw[aJ]; exact eX) (by rw[aJ,aJ]) (gQ _ _ _) ?_
  have hend:=eT hB2 (by omega) hz2.out r.1
  have hS:=hS.row (aG .i64 54 r.1)
  refine hK _ _ ⟨hS,?_⟩
  clear hK K hz2 hB2
  generalize w2.setRow (w.heap.size+1+1+1+1) (aG .i64 54 r.1)=w3 at *
  refine wpAnyH_take (i:=14) (v := .int .i64 r.2) rfl (by kernel_rfl) (by kernel_rfl) (by kernel_rfl) (fun _ _ _ h=>h) (.inl ⟨by rfl,fun w' hw => ?_⟩) hS ?_
  ·clear hw
   go_simp
  refine wpAnyH_done (by kernel_rfl) ?_ _
  refine Bp _ _<|wp_ret ?_
  rw[HM.out]
  exact lI (p:=8) (q:=9) (by kernel_rfl) (by kernel_rfl) (by kernel_rfl) (by kernel_rfl) hend.1 hend.2
 have hi6:=Hri.out.1 rfl
 have hbd:bj=true->(1<=i/\i<=6)/\(1<=j/\j<=6):=fun h=>⟨hi6,Hrj.out.1 h⟩
 have hoff:bj=true->iH i j<54:=fun h=>by have:=hbd h; unfold iH; omega
 have hcell:bj=true->may x=true->0<=x (iH i j)/\x (iH i j)<=1125899906842624:=fun h hm=>by
  have:=hbd h
  exact(nE hm (i.toNat-1) (by omega)).r (j.toNat-1) (by omega)
 refine wpAnyH_take (i:=4) (v := .bool true) rfl (by kernel_rfl) (by kernel_rfl) (by kernel_rfl) (fun _ _ _ h=>h) (.inl ⟨by rfl,fun w' hw => ?_⟩) hS ?_
 ·clear hw
  go_simp
 refine wpAnyH_take (i:=5) (v := .int .i64 j) rfl (by kernel_rfl) (by kernel_rfl) (by kernel_rfl) (fun _ _ _ h=>h) (.inl ⟨by rfl,fun w' hw => ?_⟩) hS ?_
 ·have h2:=hw.2.2.1
  clear hw
  go_simp
 refine wpAnyH_all (rs := [6]) (by kernel_rfl) (by decide) ?_
 intro j hj
 obtain rfl:j=6:=by simpa using hj
 refine wpOp_step rfl<|fun K hK => ?_
 clear hj
 go_simp
 refine(TV.out _).mono ?_
 rintro e w' ⟨rfl,rfl⟩
 refine hK _ _ ⟨hS,?_⟩
 clear hK K
 refine wpAnyH_take (i:=7) (v := .bool bj) rfl (by kernel_rfl) (by kernel_rfl) (by kernel_rfl) (fun _ _ _ h=>h) (.inl ⟨by rfl,fun w' hw => ?_⟩) hS ?_
 ·clear hw
  go_simp
 have HM:Hid (fF x i j n=bG x n bj (lJ x i j n) (iH i j)):=HM
 refine wpAnyH_all (rs := [10]) (by kernel_rfl) (by decide) ?_
 intro j hj
 obtain rfl:j=10:=by simpa using hj
 refine wpOp_step rfl<|fun K hK => ?_
 clear hj
 go_simp
 have hlz:w.heap.size+1+1+1+1<W.drew.heap.size:=by show _<W.heap.size; have:=Hs.out; omega
 refine(nH x n bj 177 178 _ _ (lJ x i j n) (iH i j) W.drew ?o1 ?o2 Ct Cu ?o3 ?o4).mono ?_
 case o1=>exact hoff
 case o2=>exact hcell
 case o3=>exact fun hm h1 h2 h3 w' hb=>have hq:=Dz.up hS hb; zk x i j n _ _ _ _ w' ⟨h1,h2⟩ hi hj0 hq.1 hq.2.2.2 hq.2.1 hq.2.2.1
 case o4=>exact fun h w' g hb=>have hq:=Dz.up hS hb; zl g _ _ i j w' (hbd h).1 (hbd h).2 hq.2.1 hq.2.2.1
 rintro e w2 ⟨rfl,hb2⟩
 generalize bG x n bj (lJ x i j n) (iH i j)=r at *
 have hz2:Hid (w2.heap[w.heap.size+1+1+1+1]? = some (.cells (aG .i64 54 zero) 82 (0,0))):=(hb2.block _ hlz).trans Hz.out
 have hB2:Below w.heap.size w w2:=hB.trans ((U9 hb2).mono hB.size)
 have hS:=Dz.up hS hb2
 refine hK _ _ ⟨hS,?_⟩
 clear hK K
 clear hb2
 refine wpAnyH_take (i:=11) (v := .agg (aG .i64 54 r.1)) rfl (by kernel_rfl) (by kernel_rfl) (by kernel_rfl) (fun _ _ _ h=>h) (.inl ⟨by rfl,fun w' hw => ?_⟩) hS ?_
 ·clear hw
  go_simp
 refine wpAnyH_take (i:=12) (v := .int .i64 r.2) rfl (by kernel_rfl) (by kernel_rfl) (by kernel_rfl) (fun _ _ _ h=>h) (.inl ⟨by rfl,fun w' hw => ?_⟩) hS ?_
 ·clear hw
  go_simp
 refine wpAnyH_all (rs := [13]) (by kernel_rfl) (by decide) ?_
 intro j' hj'
 obtain rfl:j'=13:=by simpa using hj'
 clear hj'
 refine mZ (by rfl) (by rfl)<|fun K hK => ?_
 refine wp_store_row 82 (.tmp 8) (.tmp 21) (by rfl) (w.heap.size+1+1+1+1) (aG .i64 54 r.1) (by rfl) (by rfl) 82 (aG .i64 54 zero) hz2.out (by rw[aJ]; exact eX) (by rw[aJ,aJ]) (gQ _ _ _) ?_
 have hend:=eT hB2 (by omega) hz2.out r.1
 have hS:=hS.row (aG .i64 54 r.1)
 refine hK _ _ ⟨hS,?_⟩
 clear hK K hz2 hB2
 generalize w2.setRow (w.heap.size+1+1+1+1) (aG .i64 54 r.1)=w3 at *
 refine wpAnyH_take (i:=14) (v := .int .i64 r.2) rfl (by kernel_rfl) (by kernel_rfl) (by kernel_rfl) (fun _ _ _ h=>h) (.inl ⟨by rfl,fun w' hw => ?_⟩) hS ?_
 ·clear hw
  go_simp
 refine wpAnyH_done (by kernel_rfl) ?_ _
 refine Bp _ _<|wp_ret ?_
 rw[HM.out]
 exact lI (p:=8) (q:=9) (by kernel_rfl) (by kernel_rfl) (by kernel_rfl) (by kernel_rfl) hend.1 hend.2
end
namespace Rt
def L(x:Nat->Int)(k:Nat):Int:=G x k+F x k+R x 0 k+R x 1 k+R x 2 k+R x 3 k+R x 4 k+R x 5 k-C x k-R x k 0-R x k 1-R x k 2-R x k 3-R x k 4-R x k 5
def L6(x:Nat->Int):Prop := ∀ p,p<54->0<=x p/\x p<=1125899906842624
def All(x:Nat->Int):Prop := ∀ k,k<6->0<=L x k/\F x k<=C x k/\R x k k=0
def mP(x:Nat->Int):Int:=G x 0+G x 1+G x 2+G x 3+G x 4+G x 5
theorem vS{l:List Int}(h:iF l=true):iL l=(l.sum,true):=by unfold iL; rw[if_pos h]
theorem L6.outs{x:Nat->Int}(h:L6 x)(k:Nat)(b:k<6):iF (outs x k 6)=true:=by
 have e:=fun j (hj:j<6)=>h (18+k*6+j) (by omega)
 have c:=h (6+k) (by omega)
 unfold iF
 rw[List.all_eq_true]
 intro n a
 have:n=x (6+k)\/n=x (18+k*6+0)\/n=x (18+k*6+1)\/n=x (18+k*6+2)\/n=x (18+k*6+3)\/n=x (18+k*6+4)\/n=x (18+k*6+5):=by
  simpa [Rt.outs,C,R,or_assoc] using a
 unfold Du
 rw[Bool.and_eq_true,decide_eq_true_eq,decide_eq_true_eq]
 rcases this with h|h|h|h|h|h|h <;> subst h
 ·exact c
 all_goals exact e _ (by omega)
theorem L6.ins{x:Nat->Int}(h:L6 x)(k:Nat)(b:k<6):iF (ins x k 6)=true:=by
 have e:=fun j (hj:j<6)=>h (18+j*6+k) (by omega)
 have c:=h k (by omega)
 have f:=h (12+k) (by omega)
 unfold iF
 rw[List.all_eq_true]
 intro n a
 have:n=x k\/n=x (12+k)\/n=x (18+0*6+k)\/n=x (18+1*6+k)\/n=x (18+2*6+k)\/n=x (18+3*6+k)\/n=x (18+4*6+k)\/n=x (18+5*6+k):=by
  simpa [Rt.ins,G,F,R,or_assoc] using a
 unfold Du
 rw[Bool.and_eq_true,decide_eq_true_eq,decide_eq_true_eq]
 rcases this with h|h|h|h|h|h|h|h <;> subst h
 ·exact c
 ·exact f
 all_goals exact e _ (by omega)
theorem J4(x:Nat->Int)(k:Nat):(Rt.outs x k 6).sum=C x k+R x k 0+R x k 1+R x k 2+R x k 3+R x k 4+R x k 5:=by simp[Rt.outs]; omega
theorem MN(x:Nat->Int)(k:Nat):(Rt.ins x k 6).sum=G x k+F x k+R x 0 k+R x 1 k+R x 2 k+R x 3 k+R x 4 k+R x 5 k:=by simp[Rt.ins]; omega
theorem mQ{x:Nat->Int}(h:L6 x)(k:Nat)(a:k<6):localM x k=(L x k,true):=by
 unfold localM
 rw[vS (h.outs k a),vS (h.ins k a),J4,MN]
 unfold L
 refine Prod.ext ?_ rfl
 dsimp only
 omega
theorem pY{x:Nat->Int}(h:may x=true):L6 x:=by
 intro p e
 by_cases a:p<6
 ·exact(nE h p a).g
 by_cases b:p<12
 ·have:=(nE h (p-6) (by omega)).c
  unfold C at this; rwa [show 6+(p-6)=p by omega]at this
 by_cases d:p<18
 ·have:=(nE h (p-12) (by omega)).f
  unfold F at this; rwa [show 12+(p-12)=p by omega]at this
 have:=(nE h ((p-18) / 6) (by omega)).r ((p-18) % 6) (by omega)
 unfold R at this; rwa [show 18+(p-18) / 6*6+(p-18) % 6=p by omega]at this
theorem OC{x:Nat->Int}(h:L6 x):iF (gs x)=true:=by
 unfold iF
 rw[List.all_eq_true]
 intro n a
 have:n=x 0\/n=x 1\/n=x 2\/n=x 3\/n=x 4\/n=x 5:=by simpa [gs,or_assoc] using a
 unfold Du
 rw[Bool.and_eq_true,decide_eq_true_eq,decide_eq_true_eq]
 rcases this with e|e|e|e|e|e <;> subst e <;> exact h _ (by omega)
theorem J5(x:Nat->Int):(gs x).sum=mP x:=by simp[gs,mP,G]; omega
theorem jL(x:Nat->Int):may x=true<->L6 x/\All x/\mP x<=1125899906842624:=by
 constructor
 ·intro h
  have e:=pY h
  refine⟨e,fun k d => ?_,?_⟩
  ·have o:=nE h k d
   have:=o.l
   rw[mQ e k d]at this
   exact⟨this,o.fc,o.rkk⟩
  unfold may at h
  rw[Bool.and_eq_true,Bool.and_eq_true,vS (OC e),J5]at h
  simpa using h.2.2
 rintro ⟨e,g,i⟩
 have d : ∀ k,k<6->tT x k=true:=by
  intro k d
  obtain⟨a,b,c⟩:=g k d
  unfold tT
  rw[mQ e k d]
  simp only[Bool.and_eq_true,decide_eq_true_eq,beq_iff_eq]
  exact⟨⟨⟨trivial,a⟩,b⟩,c⟩
 have f : ∀ n,n<=6->vB x n=true:=by
  intro n
  induction n with
  | zero=>intro _; rfl
  | succ n ih=>intro f; rw[show vB x (n+1)=(vB x n&&tT x n)from rfl,ih (by omega),d n (by omega)]; rfl
 unfold may
 rw[f 6 (by omega),vS (OC e),J5,decide_eq_true i]
 rfl
theorem Cv{x:Nat->Int}(h:may x=true)(k:Nat)(a:k<6):dI x ((k:Int)+1)=L x k:=by
 unfold dI
 rw[h,Bool.and_true,if_pos (by unfold gH; simp; omega),show((k:Int)+1).toNat-1=k by omega,mQ (pY h) k a]
def je(x:Nat->Int):Int:=(C x 0-F x 0)+(C x 1-F x 1)+(C x 2-F x 2)+(C x 3-F x 3)+(C x 4-F x 4)+(C x 5-F x 5)
theorem nS(x:Nat->Int)(i j:Nat)(hi:i<6)(g:j<6)(d:Int)(a b:Nat)(ha:a<6)(f:b<6) :
 R (upd x (18+i*6+j) (x (18+i*6+j)+d)) a b=R x a b+(if a=i then if b=j then d else 0 else 0):=by
 unfold R upd
 by_cases c:a=i
 ·by_cases e:b=j
  ·subst c e; simp
  rw[if_neg (by omega),if_pos c,if_neg e]; omega
 rw[if_neg (by omega),if_neg c]; omega
theorem QH(x:Nat->Int)(i j:Nat)(hi:i<6)(a:j<6)(d:Int)(k:Nat)(b:k<6) :
 L (upd x (18+i*6+j) (x (18+i*6+j)+d)) k=L x k+(if k=j then d else 0)-(if k=i then d else 0):=by
 have l:G (upd x (18+i*6+j) (x (18+i*6+j)+d)) k=G x k:=dQ _ _ _ _ (by omega)
 have f:C (upd x (18+i*6+j) (x (18+i*6+j)+d)) k=C x k:=dQ _ _ _ _ (by omega)
 have g:F (upd x (18+i*6+j) (x (18+i*6+j)+d)) k=F x k:=dQ _ _ _ _ (by omega)
 unfold L
 rw[l,f,g,nS x i j hi a d 0 k (by omega) b,nS x i j hi a d 1 k (by omega) b,nS x i j hi a d 2 k (by omega) b,nS x i j hi a d 3 k (by omega) b,nS x i j hi a d 4 k (by omega) b,nS x i j hi a d 5 k (by omega) b,
  nS x i j hi a d k 0 b (by omega),nS x i j hi a d k 1 b (by omega),nS x i j hi a d k 2 b (by omega),nS x i j hi a d k 3 b (by omega),nS x i j hi a d k 4 b (by omega),nS x i j hi a d k 5 b (by omega)]
 have c:(if 0=i then if k=j then d else 0 else 0)+(if 1=i then if k=j then d else 0 else 0)+(if 2=i then if k=j then d else 0 else 0)+(if 3=i then if k=j then d else 0 else 0)+(if 4=i then if k=j then d else 0 else 0)+(if 5=i then if k=j then d else 0 else 0)=(if k=j then d else 0):=by
  have:i=0\/i=1\/i=2\/i=3\/i=4\/i=5:=by omega
  rcases this with h|h|h|h|h|h <;> subst h <;> simp
 have e:(if k=i then if 0=j then d else 0 else 0)+(if k=i then if 1=j then d else 0 else 0)+(if k=i then if 2=j then d else 0 else 0)+(if k=i then if 3=j then d else 0 else 0)+(if k=i then if 4=j then d else 0 else 0)+(if k=i then if 5=j then d else 0 else 0)=(if k=i then d else 0):=by
  have:j=0\/j=1\/j=2\/j=3\/j=4\/j=5:=by omega
  rcases this with h|h|h|h|h|h <;> subst h <;> simp
 generalize (if 0=i then if k=j then d else 0 else 0)=a0 at *
 generalize (if 1=i then if k=j then d else 0 else 0)=a1 at *
 generalize (if 2=i then if k=j then d else 0 else 0)=a2 at *
 generalize (if 3=i then if k=j then d else 0 else 0)=a3 at *
 generalize (if 4=i then if k=j then d else 0 else 0)=a4 at *
 generalize (if 5=i then if k=j then d else 0 else 0)=a5 at *
 generalize (if k=i then if 0=j then d else 0 else 0)=b0 at *
 generalize (if k=i then if 1=j then d else 0 else 0)=b1 at *
 generalize (if k=i then if 2=j then d else 0 else 0)=b2 at *
 generalize (if k=i then if 3=j then d else 0 else 0)=b3 at *
 generalize (if k=i then if 4=j then d else 0 else 0)=b4 at *
 generalize (if k=i then if 5=j then d else 0 else 0)=b5 at *
 rw[<- c,<- e]
 omega
end Rt
structure Er where
 inn:Nat->Bool
 left:Nat->Bool
 known:Nat->Int
 na:Option Addr
 nn:Nat
 nc:Nat
 ga:Option Addr
 gn:Nat
 gc:Nat
def stY(s:Er):Nat->Value:=fun p=>if p<6 then .bool (s.inn p)else if p<12 then .bool (s.left (p-6))else if p<18 then aA (s.known (p-12))else if p=18 then .slice s.na s.nn s.nc else .slice s.ga s.gn s.gc
def Vm(id par:Int)(R:Nat->Int):Nat->Value:=fun p=>if p=0 then aA id else if p=1 then aA par else au (R (p-2))
def Vn(w:World)(a:Option Addr)(n:Nat)(id par:Nat->Int)(R:Nat->Nat->Int):Prop := ∀ k,k<n -> ∃ b c,a=some ⟨b,c,none⟩/\gF w b (c+56*k) 56 (Vm (id k) (par k) (R k))
theorem Vn.below{w w':World}{a:Option Addr}{n:Nat}{id par:Nat->Int}{R:Nat->Nat->Int}(h:Vn w a n id par R)(d:Below w.heap.size w w'):Vn w' a n id par R:=fun k f=>by
 obtain⟨b,g,e,c⟩:=h k f
 exact⟨b,g,e,c.below d (c.lt (by omega))⟩
section
structure qI where
 s:Er
 id:Nat->Int
 par:Nat->Int
 R:Nat->Nat->Int
 g:Nat->Nat->Int
 tb:Nat
 ta:Option Addr
 tn:Nat
 tc:Nat
 t:Nat->Nat->Int
 ra:Nat->Option Addr
 rn:Nat->Nat
 rc:Nat->Nat
 rq:Nat->Nat->Int
structure eB where
 inn:Nat->Bool
 left:Nat->Bool
 known:Nat->Int
 nn:Nat
 id:Nat->Int
 par:Nat->Int
 R:Nat->Nat->Int
 gn:Nat
 g:Nat->Nat->Int
 tn:Nat
 t:Nat->Nat->Int
 rn:Nat->Nat
 rq:Nat->Nat->Int
def qI.core(m:qI):eB:=⟨m.s.inn,m.s.left,m.s.known,m.s.nn,m.id,m.par,m.R,m.s.gn,m.g,m.tn,m.t,m.rn,m.rq⟩
def ZP(m:qI):Nat->Value:=fun p=>if p<20 then stY m.s p else if p=20 then(pt m.tb)else .slice (m.ra (p-21)) (m.rn (p-21)) (m.rc (p-21))
def vE(x:Nat->Int):Nat->Value:=fun p=>if p=0 then au (x 0)else if p=3 then au (x 3)else aA (x p)
def ZQ(m:qI):Nat->Value:=flat 56 fun k=>Vm (m.id k) (m.par k) (m.R k)
def ZR(m:qI):Nat->Value:=flat 5 fun k=>vE (m.g k)
def ZT(t:Nat->Nat->Int):Nat->Value:=flat 2 fun k=>rv .u64 (t k)
structure J6(w:World)(p:Nat)(m:qI):Prop where
 c:gF w p 0 27 (ZP m)
 an:kZ w m.s.na m.s.nn 56 (ZQ m)
 ag:kZ w m.s.ga m.s.gn 5 (ZR m)
 tc:gF w m.tb 0 1 (fun _ => .slice m.ta m.tn m.tc)
 at2:kZ w m.ta m.tn 2 (ZT m.t)
 ar : ∀ i,i<6->kZ w (m.ra i) (m.rn i) 1 (rv .u64 (m.rq i))
 bn:m.s.nn<=1000000
 bg:m.s.gn<=1000000
 bt:m.tn<=1000000
 br : ∀ i,i<6->m.rn i<=1000000
section
variable {w w':World} {p:Nat} {m:qI}
theorem J6.n(h:J6 w p m):Vn w m.s.na m.s.nn m.id m.par m.R:=fun _ a=>h.an.at a
theorem J6.g(h:J6 w p m) : ∀ k,k<m.s.gn -> ∃ b a,m.s.ga=some ⟨b,a,none⟩/\gF w b (a+5*k) 5 (vE (m.g k)):=fun _ c=>h.ag.at c
theorem J6.t(h:J6 w p m) : ∀ k,k<m.tn -> ∃ b a,m.ta=some ⟨b,a,none⟩/\gF w b (a+2*k) 2 (rv .u64 (m.t k)):=fun _ c=>h.at2.at c
theorem J6.r(h:J6 w p m) : ∀ i,i<6 -> ∀ k,k<m.rn i -> ∃ b a,m.ra i=some ⟨b,a,none⟩/\gF w b (a+k) 1 (fun _=>aA (m.rq i k)):=fun i d k g=>by
 obtain⟨b,a,e,c⟩:=h.ar i d (by omega)
 refine⟨b,a,e,fun j f => ?_⟩
 obtain rfl:j=0:=by omega
 exact c k (by omega)
theorem J6.below(h:J6 w p m)(a:Below w.heap.size w w'):J6 w' p m where
 c:=h.c.below a (h.c.lt (by omega))
 an:=h.an.up a rfl
 ag:=h.ag.up a rfl
 tc:=h.tc.below a (h.tc.lt (by omega))
 at2:=h.at2.up a rfl
 ar:=fun i b=>(h.ar i b).up a rfl
 bn:=h.bn
 bg:=h.bg
 bt:=h.bt
 br:=h.br
end
def eU(P:Nat->Bool):Nat->Int
 | 0 => -1
 | n+1=>if 0<=eU P n then eU P n else if P n then(n:Int)else -1
theorem oN{P:Nat->Bool} : ∀ {n:Nat},(∀ i,i<n->P i=false)->eU P n = -1
 | 0,_=>rfl
 | n+1,h=>by
   have:=oN (P:=P) (n:=n) fun i a=>h i (by omega)
   simp only[eU]; rw[this,if_neg (by omega),h n (by omega)]; rfl
theorem xg{P:Nat->Bool}{k:Nat}(a : ∀ i,i<k->P i=false)(b:P k=true) : ∀ {n:Nat},k<n->eU P n=(k:Int)
 | 0,h=>absurd h (by omega)
 | n+1,h=>by
   simp only[eU]
   by_cases e:k=n
   ·subst e; rw[oN a,if_neg (by omega),b]; rfl
   ·rw[xg a b (n:=n) (by omega),if_pos (by omega)]
theorem iU(P:Nat->Bool) : ∀ n:Nat,(∃ k:Nat,k<n/\eU P n=(k:Int)/\P k=true)\/(eU P n = -1 /\ ∀ i,i<n->P i=false)
 | 0 => .inr ⟨rfl,fun i h=>absurd h (by omega)⟩
 | n+1=>by
   rcases iU P n with ⟨k,d,e,a⟩|⟨e,a⟩
   ·exact .inl ⟨k,by omega,by simp only[eU]; rw[e,if_pos (by omega)],a⟩
   ·by_cases h:P n=true
    ·exact .inl ⟨n,by omega,by simp only[eU]; rw[e,if_neg (by omega),h]; rfl,h⟩
    ·rw[Bool.not_eq_true]at h
     refine .inr ⟨by simp only[eU]; rw[e,if_neg (by omega),h]; rfl,fun i c => ?_⟩
     by_cases b:i=n
     ·subst b; exact h
     ·exact a i (by omega)
def qI.node(m:qI)(id:Int):Int:=eU (fun i=>decide (m.id i=id)) m.s.nn
def qI.grant(m:qI)(o r:Int):Int:=eU (fun i=>decide (m.g i 0=o)&&decide (m.g i 1=r)) m.s.gn
def qI.tV(m:qI)(a:Nat)(r:Int):Int:=eU (fun i=>decide (m.rq a i=r)) (m.rn a)
structure J7(w:World)(tb:Nat)(ta:Option Addr)(tn tc:Nat)(t:Nat->Nat->Int):Prop where
 tc:gF w tb 0 1 (fun _ => .slice ta tn tc)
 t : ∀ k,k<tn -> ∃ b off,ta=some ⟨b,off,none⟩/\gF w b (off+2*k) 2 (rv .u64 (t k))
 bt:tn<=1000000
theorem J7.below{w w':World}{f:Nat}{d:Option Addr}{tn g:Nat}{t:Nat->Nat->Int}(h:J7 w f d tn g t)(a:Below w.heap.size w w'):J7 w' f d tn g t where
 tc:=h.tc.below a (h.tc.lt (by omega))
 t:=fun k i=>by obtain⟨b,j,e,c⟩:=h.t k i; exact⟨b,j,e,c.below a (c.lt (by omega))⟩
 bt:=h.bt
def aR(t:Nat->Nat->Int)(tn:Nat)(x:Int):Int:=eU (fun i=>decide (t i 0=x)) tn
def aO(t:Nat->Nat->Int)(tn:Nat):Nat->Int->Int
 | 0,x=>x
 | k+1,x=>t (aR t tn (aO t tn k x)).toNat 1
end
namespace Rt
theorem oO{t:Nat->Nat->Int}{tn:Nat}{x:Int}(h:0<=aR t tn x) : ∃ j:Nat,j<tn/\aR t tn x=(j:Int)/\t j 0=x:=by
 rcases iU (fun i=>decide (t i 0=x)) tn with ⟨k,a,e,b⟩|⟨e,_⟩
 ·exact⟨k,a,e,of_decide_eq_true b⟩
 unfold aR at h; rw[e]at h; omega
end Rt
namespace Rt
def tX(k a:Nat):qI := { s:=⟨fun i=>decide (i<k),fun _=>false,fun _=>0,none,0,0,none,0,0⟩,id:=fun _=>0,par:=fun _=>0,R:=fun _ _=>0,g:=fun _ _=>0,tb:=a,ta:=none,tn:=0,tc:=0,t:=fun _ _=>0,ra:=fun _=>none,rn:=fun _=>0,rc:=fun _=>0,rq:=fun _ _=>0 }
end Rt
-- (*SA.Ledger).Node is not in this seat
namespace Rt
def su(t:Nat->Nat->Int)(k:Nat)(id par:Int):Nat->Nat->Int:=fun i=>if i<k then t i else if i=k then(fun j=>if j=0 then id else par)else t (i-1)
def zm(t:Nat->Nat->Int)(tn:Nat)(x:Int):Prop := ∀ i,i<4->0<=aR t tn (aO t tn i x)
open Classical in
noncomputable def J8(t:Nat->Nat->Int)(tn:Nat)(id par:Int):Int:=if id=0 then 1 else if 0<=aR t tn id then 14 else if par≠0/\aR t tn par<0 then 9 else if 32<=tn\/zm t tn par then 6 else 0
end Rt
namespace Rt
def sW(o a:Int):Int:=if 1<=o/\o<=6/\1<=a/\a<1099511627776 then 1099511627776*o+a else 0
end Rt
section
def og(m:qI)(i:Nat):Value := .slice (m.ra i) (m.rn i) (m.rc i)
def Aq(w:World)(B k:Nat)(m:qI):Prop :=
 (∀ i,i<k->Fx.Own w B 22 1 (og m i) (m.rn i) (rv .u64 (m.rq i))) /\ ∀ i j,i<k->j<k->i≠j -> ∀ g,(og m i).ownBlock=some g->(og m j).ownBlock≠some g
section
variable {w w':World} {B k:Nat} {m:qI}
theorem Aq.up(h:Aq w B k m)(a:Below w.heap.size w w'):Aq w' B k m:=⟨fun i b=>(h.1 i b).up a,h.2⟩
instance:Rt.Tr w w' (Aq w B k m) (Aq w' B k m):=⟨fun b h=>h.up b⟩
theorem Aq.jo{a:List TypeId}(h:Aq w B k m)(c:jm a w w')(d:a.contains 22=false):Aq w' B k m:=⟨fun i b=>(h.1 i b).jo c d,h.2⟩
instance {a:List TypeId}:Rt.Tc a w w' (Aq w B k m) (Aq w' B k m) (!(a.contains 22)):=⟨fun b h e=>h.jo b (by simpa using e)⟩
theorem Aq.zero(w:World)(B:Nat)(m:qI):Aq w B 0 m:=⟨fun _ h=>absurd h (Nat.not_lt_zero _),fun _ _ h=>absurd h (Nat.not_lt_zero _)⟩
theorem Aq.snoc{a:qI}(h:Aq w B k m)(c : ∀ i,i<k->og a i=og m i/\a.rn i=m.rn i/\a.rq i=m.rq i)(s:Fx.Own w B 22 1 (og a k) (a.rn k) (rv .u64 (a.rq k)))(l : ∀ i,i<k -> ∀ g,(og m i).ownBlock=some g->(og a k).ownBlock≠some g):Aq w B (k+1) a:=by
 refine⟨fun i t => ?_,fun i j t u n g b => ?_⟩
 ·by_cases e:i=k
  ·subst e; exact s
  obtain⟨p,q,r⟩:=c i (by omega)
  rw[p,q,r]; exact h.1 i (by omega)
 by_cases o:i=k
 ·subst o
  by_cases d:j=i
  ·exact absurd d.symm n
  intro f
  rw[(c j (by omega)).1]at f
  exact l j (by omega) g f b
 rw[(c i (by omega)).1]at b
 by_cases d:j=k
 ·subst d; exact l i (by omega) g b
 rw[(c j (by omega)).1]; exact h.2 i j (by omega) (by omega) n g b
end
structure DC(w:World)(B p:Nat)(m:qI):Prop where
 c:aK w p 27 (ZP m) 56
 n:Fx.Own w B 84 56 (.slice m.s.na m.s.nn m.s.nc) m.s.nn (ZQ m)
 g:Fx.Own w B 99 5 (.slice m.s.ga m.s.gn m.s.gc) m.s.gn (ZR m)
 tc:aK w m.tb 1 (fun _ => .slice m.ta m.tn m.tc) 111
 t:Fx.Own w B 172 2 (.slice m.ta m.tn m.tc) m.tn (ZT m.t)
 r:Aq w B 6 m
 pB:B<=p
 tB:B<=m.tb
 bn:m.s.nn<=1000
 bg:m.s.gn<=1000000
 bt:m.tn<=1000
 br : ∀ i,i<6->m.rn i<=1000000
section
variable {w w':World} {B p:Nat} {m:qI}
theorem DC.up(h:DC w B p m)(a:Below w.heap.size w w'):DC w' B p m := { h with c:=h.c.dX (Sb a) (Nat.ne_of_lt h.c.lt),n:=h.n.up a,g:=h.g.up a,tc:=h.tc.dX (Sb a) (Nat.ne_of_lt h.tc.lt),t:=h.t.up a,r:=h.r.up a }
instance:Rt.Tr w w' (DC w B p m) (DC w' B p m):=⟨fun b h=>h.up b⟩
def G9:List Nat := [56,84,99,111,172,22]
theorem DC.jo{e:List TypeId}(h:DC w B p m)(b:jm e w w')(i:(G9.all fun T => !e.contains T)=true):DC w' B p m:=by
 have a : ∀ d∈G9,e.contains d=false:=fun d f=>by
  have:=List.all_eq_true.1 i d f
  simpa using this
 exact { h with
  c:=h.c.jo b (a _ (by decide)),n:=h.n.jo b (a _ (by decide)),g:=h.g.jo b (a _ (by decide)),tc:=h.tc.jo b (a _ (by decide)),t:=h.t.jo b (a _ (by decide)),r:=h.r.jo b (a _ (by decide)) }
instance {a:List TypeId}:Rt.Tc a w w' (DC w B p m) (DC w' B p m) ((G9.all fun T => !a.contains T)):=⟨fun b h e=>h.jo b (by simpa using e)⟩
theorem DC.mono{b:Nat}(h:DC w B p m)(a:b<=B):DC w b p m := { h with n:=h.n.mono a,g:=h.g.mono a,t:=h.t.mono a,r:=⟨fun i c=>(h.r.1 i c).mono a,h.r.2⟩,pB:=Nat.le_trans a h.pB,tB:=Nat.le_trans a h.tB }
end
def aV{a:Type}(f:Nat->a)(k:Nat)(v:a):Nat->a:=fun i=>if i=k then v else f i
end
namespace Rt
def oP(id:Nat->Int)(o:Int):Nat->Nat
 | 0=>0
 | n+1=>oP id o n+if id n / 1099511627776=o then 1 else 0
noncomputable def oQ(L:eB)(v:EvM):Int:=if 5<=oP L.id v.o L.nn\/140737488355328<v.bI then 6 else J8 L.t L.tn (sW v.o v.seq) v.node
def oU(f:Nat->Int)(n:Nat)(x:Int):Nat:=down (fun i=>decide (x<f i)) n
def oV(L:eB)(v:EvM):eB :=
 { L with nn:=L.nn+1,id:=bQ L.id (oU L.id L.nn (sW v.o v.seq)) (sW v.o v.seq),par:=bQ L.par (oU L.id L.nn (sW v.o v.seq)) v.node,
          R:=bQ L.R (oU L.id L.nn (sW v.o v.seq)) (upd (fun _=>0) (v.o-1).toNat v.bI),
          tn:=L.tn+1,t:=su L.t (down (fun i=>decide (sW v.o v.seq<L.t i 0)) L.tn) (sW v.o v.seq) v.node }
end Rt
namespace Rt
theorem nI(x:Nat->Int)(n:Int)(is:Bool)(a:Int)(off:Nat) :
 ((bG x n is a off).1=zero/\(bG x n is a off).2≠0 /\ ¬ (may x=true/\1<=n/\n<=1125899906842624/\is=true/\a=0/\x off+n<=1125899906842624)) \/
 ((may x=true/\1<=n/\n<=1125899906842624/\is=true/\a=0/\x off+n<=1125899906842624)/\bG x n is a off=(upd x off (x off+n),0)):=by
 unfold bG
 by_cases f:may x=true
 ·by_cases c:1<=n
  ·by_cases d:n<=1125899906842624
   ·rw[f,decide_eq_true c,decide_eq_true d]
    simp only[Bool.and_self,if_true]
    cases is
    ·left; exact⟨rfl,(by show(10:Int)≠0; decide),fun h=>by cases h.2.2.2.1⟩
    by_cases b:a=0
    ·by_cases e:x off+n<=1125899906842624
     ·right; exact⟨⟨trivial,c,d,rfl,b,e⟩,by rw[if_pos rfl,if_pos b,if_pos e]⟩
     left; rw[if_pos rfl,if_pos b,if_neg e]; exact⟨rfl,by decide,fun h=>e h.2.2.2.2.2⟩
    left; rw[if_pos rfl,if_neg b]; exact⟨rfl,b,fun h=>b h.2.2.2.2.1⟩
   left; rw[decide_eq_false d,Bool.and_false,if_neg (by decide)]; exact⟨rfl,by decide,fun h=>d h.2.2.1⟩
  left; rw[decide_eq_false c,Bool.and_false,Bool.false_and,if_neg (by decide)]; exact⟨rfl,by decide,fun h=>c h.2.1⟩
 left; rw[show may x=false by simpa using f,Bool.false_and,Bool.false_and,if_neg (by decide)]; exact⟨rfl,by decide,fun h=>by cases h.1⟩
theorem Es{x:Nat->Int}(h:L6 x){off:Nat}{n:Int}(h1:1<=n)(c:x off+n<=1125899906842624)(a:off<54):L6 (upd x off (x off+n)):=by
 intro p b
 unfold upd
 split
 ·have:=h off a; omega
 exact h p b
theorem qb{i:Int}(h:gH i=true) : ∃ a:Nat,a<6/\i=(a:Int)+1/\i.toNat-1=a:=by
 have:1<=i/\i<=6:=by unfold gH at h; simpa using h
 exact⟨(i-1).toNat,by omega,by omega,by omega⟩
structure Moved(x y:Nat->Int)(a b:Nat)(n:Int):Prop where
 may:may y=true
 l : ∀ k,k<6->L y k=L x k+(if k=b then n else 0)-(if k=a then n else 0)
 g:mP y=mP x
 u:je y=je x
theorem FP{x:Nat->Int}{i j n:Int}(h:(fF x i j n).2=0) : ∃ a b:Nat,a<6/\b<6/\a≠b/\i=(a:Int)+1/\j=(b:Int)+1/\1<=n/\n<=1125899906842624/\n<=L x a/\Moved x (fF x i j n).1 a b n/\(fF x i j n).1=upd x (18+a*6+b) (x (18+a*6+b)+n):=by
 unfold fF at *
 rcases nI x n (gH i&&gH j) (lJ x i j n) (iH i j)with ⟨_,f,_⟩|⟨⟨hm,h1,f,hr,he,hx⟩,heq⟩
 ·exact absurd h f
 rw[Bool.and_eq_true]at hr
 obtain⟨a,g,l,D⟩:=qb hr.1
 obtain⟨b,m,q,E⟩:=qb hr.2
 have s:iH i j=18+a*6+b:=by unfold iH; rw[D,E]
 rw[s]at heq hx
 rw[s]
 have B:a≠b:=by
  intro z
  unfold lJ at he
  rw[if_pos (by rw[l,q,z])]at he
  cases he
 have y:n<=L x a:=by
  unfold lJ at he
  rw[if_neg (by omega)]at he
  by_cases d:dI x i<n
  ·rw[decide_eq_true d]at he; cases he
  ·rw[l,Cv hm a g]at d; omega
 obtain⟨e,t,w⟩:=(jL x).1 hm
 have d:=QH x a b g m n
 have c : ∀ p,p<18->upd x (18+a*6+b) (x (18+a*6+b)+n) p=x p:=fun p I=>dQ _ _ _ _ (by omega)
 have o:mP (upd x (18+a*6+b) (x (18+a*6+b)+n))=mP x:=by unfold mP G; rw[c 0 (by omega),c 1 (by omega),c 2 (by omega),c 3 (by omega),c 4 (by omega),c 5 (by omega)]
 have A:(bG x n (gH i&&gH j) (lJ x i j n) (18+a*6+b)).1=upd x (18+a*6+b) (x (18+a*6+b)+n):=by rw[heq]
 rw[A]
 refine⟨a,b,g,m,B,l,q,h1,f,y,⟨?_,d,o,?_⟩,rfl⟩
 ·rw[jL]
  refine⟨Es e h1 hx (by omega),fun k r => ?_,by rw[o]; exact w⟩
  obtain⟨H,u,v⟩:=t k r
  refine⟨?_,?_,?_⟩
  ·rw[d k r]
   split
   ·split <;> omega
   split
   ·rename_i hka; subst hka; omega
   omega
  ·unfold F C at *; rw[c _ (by omega),c _ (by omega)]; exact u
  unfold R at *; rw[dQ _ _ _ _ (by omega)]; exact v
 unfold je C F; simp only[c _ (show 6+0<18 by omega),c _ (show 6+1<18 by omega),c _ (show 6+2<18 by omega),c _ (show 6+3<18 by omega),c _ (show 6+4<18 by omega),c _ (show 6+5<18 by omega),c _ (show 12+0<18 by omega),c _ (show 12+1<18 by omega),c _ (show 12+2<18 by omega),c _ (show 12+3<18 by omega),c _ (show 12+4<18 by omega),c _ (show 12+5<18 by omega)]
theorem xk(x:Nat->Int)(off:Nat)(c:off<18)(v:Int)(a b:Nat):R (upd x off v) a b=R x a b:=dQ _ _ _ _ (by omega)
theorem J9(x:Nat->Int)(off:Nat)(a:off<18)(v:Int)(k:Nat):L (upd x off v) k=L x k+(G (upd x off v) k-G x k)+(F (upd x off v) k-F x k)-(C (upd x off v) k-C x k):=by
 unfold L
 simp only[xk x off a v]
 omega
theorem TW(x:Nat->Int)(a:Nat)(n:Int)(k:Nat):C (upd x (6+a) (x (6+a)+n)) k=C x k+(if k=a then n else 0):=by
 unfold C upd
 by_cases h:k=a
 ·subst h; simp
 rw[if_neg (by omega),if_neg h]; omega
theorem TY(x:Nat->Int)(a:Nat)(n:Int)(k:Nat):F (upd x (12+a) (x (12+a)+n)) k=F x k+(if k=a then n else 0):=by
 unfold F upd
 by_cases h:k=a
 ·subst h; simp
 rw[if_neg (by omega),if_neg h]; omega
theorem T9(x:Nat->Int)(a:Nat)(n:Int)(k:Nat):G (upd x a (x a+n)) k=G x k+(if k=a then n else 0):=by
 unfold G upd
 by_cases h:k=a
 ·subst h; simp
 rw[if_neg h,if_neg h]; omega
theorem six(a:Nat)(ha:a<6)(n:Int):(if 0=a then n else 0)+(if 1=a then n else 0)+(if 2=a then n else 0)+(if 3=a then n else 0)+(if 4=a then n else 0)+(if 5=a then n else 0)=n:=by
 have:a=0\/a=1\/a=2\/a=3\/a=4\/a=5:=by omega
 rcases this with h|h|h|h|h|h <;> subst h <;> simp
theorem FQ{x:Nat->Int}{i n:Int}(h:(bK x i n).2=0) : ∃ a:Nat,a<6/\i=(a:Int)+1/\1<=n/\n<=1125899906842624/\n<=L x a/\C x a+n<=1125899906842624/\may (bK x i n).1=true /\
 (∀ k,k<6->L (bK x i n).1 k=L x k-(if k=a then n else 0))/\mP (bK x i n).1=mP x/\je (bK x i n).1=je x+n/\(bK x i n).1=upd x (6+a) (x (6+a)+n):=by
 unfold bK at *
 rcases nI x n (gH i) (oM x i n) (6+(i.toNat-1))with ⟨_,j,_⟩|⟨⟨hm,h1,j,hr,he,hx⟩,heq⟩
 ·exact absurd h j
 obtain⟨a,l,o,p⟩:=qb hr
 rw[p]at heq hx
 rw[p]
 have t:n<=L x a:=by
  unfold oM at he
  by_cases g:dI x i<n
  ·rw[decide_eq_true g]at he; cases he
  ·rw[o,Cv hm a l]at g; omega
 obtain⟨e,q,s⟩:=(jL x).1 hm
 have u:(bG x n (gH i) (oM x i n) (6+a)).1=upd x (6+a) (x (6+a)+n):=by rw[heq]
 rw[u]
 have b:=TW x a n
 have f : ∀ k,k<6->G (upd x (6+a) (x (6+a)+n)) k=G x k:=fun k d=>dQ _ _ _ _ (by omega)
 have c : ∀ k,k<6->F (upd x (6+a) (x (6+a)+n)) k=F x k:=fun k d=>dQ _ _ _ _ (by omega)
 have g : ∀ k,k<6->L (upd x (6+a) (x (6+a)+n)) k=L x k-(if k=a then n else 0):=by
  intro k d
  rw[J9 x (6+a) (by omega),f k d,c k d,b k]; omega
 have m:mP (upd x (6+a) (x (6+a)+n))=mP x:=by unfold mP; rw[f 0 (by omega),f 1 (by omega),f 2 (by omega),f 3 (by omega),f 4 (by omega),f 5 (by omega)]
 refine⟨a,l,o,h1,j,t,hx,?_,g,m,?_,rfl⟩
 ·rw[jL]
  refine⟨Es e h1 hx (by omega),fun k d => ?_,by rw[m]; exact s⟩
  obtain⟨v,w,r⟩:=q k d
  refine⟨?_,?_,?_⟩
  ·rw[g k d]
   split
   ·rename_i hka; subst hka; omega
   omega
  ·rw[c k d,b k]; split <;> omega
  rw[xk x (6+a) (by omega)]; exact r
 unfold je
 rw[c 0 (by omega),c 1 (by omega),c 2 (by omega),c 3 (by omega),c 4 (by omega),c 5 (by omega),b 0,b 1,b 2,b 3,b 4,b 5]
 have:=six a l n
 omega
theorem FT{x:Nat->Int}{i n:Int}(h:(bF x i n).2=0) : ∃ a:Nat,a<6/\i=(a:Int)+1/\1<=n/\n<=1125899906842624/\n<=C x a-F x a/\may (bF x i n).1=true /\
 (∀ k,k<6->L (bF x i n).1 k=L x k+(if k=a then n else 0))/\mP (bF x i n).1=mP x/\je (bF x i n).1=je x-n/\(bF x i n).1=upd x (12+a) (x (12+a)+n):=by
 unfold bF at *
 rcases nI x n (gH i) (nR x i n) (12+(i.toNat-1))with ⟨_,j,_⟩|⟨⟨hm,h1,j,hr,he,hx⟩,heq⟩
 ·exact absurd h j
 obtain⟨a,m,u,l⟩:=qb hr
 rw[l]at heq hx
 rw[l]
 have s:n<=C x a-F x a:=by
  unfold nR at he
  rw[l]at he
  by_cases g:C x a-F x a<n
  ·rw[decide_eq_true g]at he; cases he
  ·omega
 obtain⟨e,p,r⟩:=(jL x).1 hm
 have t:(bG x n (gH i) (nR x i n) (12+a)).1=upd x (12+a) (x (12+a)+n):=by rw[heq]
 rw[t]
 have c:=TY x a n
 have f : ∀ k,k<6->G (upd x (12+a) (x (12+a)+n)) k=G x k:=fun k d=>dQ _ _ _ _ (by omega)
 have b : ∀ k,k<6->C (upd x (12+a) (x (12+a)+n)) k=C x k:=fun k d=>dQ _ _ _ _ (by omega)
 have g : ∀ k,k<6->L (upd x (12+a) (x (12+a)+n)) k=L x k+(if k=a then n else 0):=by
  intro k d
  rw[J9 x (12+a) (by omega),f k d,c k,b k d]; omega
 have o:mP (upd x (12+a) (x (12+a)+n))=mP x:=by unfold mP; rw[f 0 (by omega),f 1 (by omega),f 2 (by omega),f 3 (by omega),f 4 (by omega),f 5 (by omega)]
 refine⟨a,m,u,h1,j,s,?_,g,o,?_,rfl⟩
 ·rw[jL]
  refine⟨Es e h1 hx (by omega),fun k d => ?_,by rw[o]; exact r⟩
  obtain⟨v,w,q⟩:=p k d
  refine⟨?_,?_,?_⟩
  ·rw[g k d]; split <;> omega
  ·rw[c k,b k d]
   split
   ·rename_i hka; subst hka; omega
   omega
  rw[xk x (12+a) (by omega)]; exact q
 unfold je
 rw[b 0 (by omega),b 1 (by omega),b 2 (by omega),b 3 (by omega),b 4 (by omega),b 5 (by omega),c 0,c 1,c 2,c 3,c 4,c 5]
 have:=six a m n
 omega
end Rt
namespace Rt
def dB(f:(Nat->Int)->(Nat->Int) × Int)(idx:Nat->Nat)(R:Nat->Nat->Int):Nat->(Nat->Nat->Int) × Int
 | 0=>(R,0)
 | j+1=>if(dB f idx R j).2=0 then(if(f ((dB f idx R j).1 (idx j))).2=0 then(aV (dB f idx R j).1 (idx j) (f ((dB f idx R j).1 (idx j))).1,0)else((dB f idx R j).1,(f ((dB f idx R j).1 (idx j))).2))else dB f idx R j
def lead(P:Nat->Bool):Nat->Nat
 | 0=>0
 | n+1=>if lead P n=n/\P n=true then n+1 else lead P n
theorem Cw{P:Nat->Bool} : ∀ {n:Nat},(∀ i,i<n->P i=true)->lead P n=n
 | 0,_=>rfl
 | n+1,h=>by unfold lead; rw[if_pos ⟨Cw fun i a=>h i (by omega),h n (by omega)⟩]
theorem FU{P:Nat->Bool}{K:Nat}(h1 : ∀ i,i<K->P i=true)(a:P K=false) : ∀ {n:Nat},K<=n->lead P n=K
 | 0,h=>by unfold lead; omega
 | n+1,h=>by
   unfold lead
   by_cases e:K=n+1
   ·rw[if_pos ⟨Cw fun i d=>h1 i (by omega),h1 n (by omega)⟩]; exact e.symm
   ·rw[FU h1 a (n:=n) (by omega),if_neg]
    rintro ⟨c,b⟩
    subst c; rw[a]at b; cases b
def dK(t:Nat->Nat->Int)(tn:Nat)(x:Int):Nat:=lead (fun i=>decide (0<=aR t tn (aO t tn i x))) 1000
theorem sw{t:Nat->Nat->Int}{tn K D:Nat}{x:Int}(h1 : ∀ i,i<K->0<=aR t tn (aO t tn i x))(c:aR t tn (aO t tn K x)<0)(d:aR t tn (aO t tn D x)<0)(e:D<=1000):K=dK t tn x:=by
 have a:K<=1000:=by
  rcases Nat.lt_or_ge D K with h|h
  ·have:=h1 D h; omega
  ·omega
 exact(FU (fun i b=>decide_eq_true (h1 i b)) (decide_eq_false (by omega)) a).symm
end Rt
def eB.node(L:eB)(x:Int):Int:=eU (fun i=>decide (L.id i=x)) L.nn
def eB.grant(L:eB)(o r:Int):Int:=eU (fun i=>decide (L.g i 0=o)&&decide (L.g i 1=r)) L.gn
def eB.tV(L:eB)(a:Nat)(r:Int):Int:=eU (fun i=>decide (L.rq a i=r)) (L.rn a)
namespace Rt
def qo(L:eB)(x:Int)(i:Nat):Nat:=(L.node (aO L.t L.tn i x)).toNat
def vT(v:EvM):Nat->Int:=fun j=>if j=0 then v.o else if j=1 then v.req else if j=2 then v.node else if j=3 then v.bI else 0
def DF(v:EvM)(x:Nat->Int):Bool:=decide (v.o<x 0) || (decide (x 0=v.o)&&decide (v.req<x 1))
def bA(v:EvM):Nat:=(v.o-1).toNat
def qR(L:eB)(v:EvM):(Nat->Nat->Int) × Int:=dB (fun x=>bK x v.o v.bI) (qo L v.node) L.R (dK L.t L.tn v.node)
def nJ(L:eB)(v:EvM):Int:=if 0<=L.tV (bA v) v.req then 14 else if dK L.t L.tn v.node=0 then 9 else(qR L v).2
def oZ(L:eB)(a:Nat)(r:Int):eB := { L with rn:=aV L.rn a (L.rn a+1),rq:=aV L.rq a (aV (L.rq a) (L.rn a) r) }
def jR(L:eB)(v:EvM):eB :=
 oZ { L with R:=(qR L v).1,gn:=L.gn+1,g:=bQ L.g (down (fun i=>DF v (L.g i)) L.gn) (vT v) } (bA v) v.req
theorem Aq.app{w w':World}{B a g cap:Nat}{r:Int}{m d:qI}(h:Aq w B 6 m)(_ha:a<6)(h1:d.ra=aV m.ra a (some ⟨g,0,none⟩))(l:d.rn=aV m.rn a (m.rn a+1))(t:d.rc=aV m.rc a cap)(u:d.rq=aV m.rq a (aV (m.rq a) (m.rn a) r))
 (z:Fx.Own w' B 22 1 (bH g (m.rn a+1) cap) (m.rn a+1) (rv .u64 (aV (m.rq a) (m.rn a) r))) (A:w.grownBy w' (og m a).ownBlock) (C:(og m a).ownBlock=some g\/g=w.heap.size):Aq w' B 6 d:=by
 have k : ∀ i,i≠a->og d i=og m i:=fun i c=>by unfold og; rw[h1,l,t]; simp[aV,c]
 have n:og d a=bH g (m.rn a+1) cap:=by unfold og; rw[h1,l,t]; simp[aV]
 have y : ∀ i,i<6->i≠a -> ∀ q,(og m i).ownBlock=some q->q≠g:=fun i c D q b e=>by
  subst e
  rcases C with f|f
  ·exact h.2 i a c _ha D q b f
  ·have:=((h.1 i c).ge b).2; omega
 refine⟨fun i c => ?_,fun i j c v p q b => ?_⟩
 ·by_cases e:i=a
  ·subst e; rw[n,l,u]; simp only[aV,if_true]; exact z
  rw[k i e,l,u]
  simp only[aV,if_neg e]
  refine World.ownsRow.kept (h.1 i c) A ?_
  by_cases x:(og m i).ownBlock=none
  ·exact .inl x
  right
  intro f
  cases b:(og m i).ownBlock with
  | none=>exact x b
  | some q=>rw[b]at f; exact h.2 i a c _ha e q b f.symm
 by_cases e:i=a
 ·subst e
  rw[n]at b
  rw[k j (fun e=>p e.symm)]
  intro o
  exact y j v (fun e=>p e.symm) q o (Option.some.inj b).symm
 rw[k i e]at b
 by_cases s:j=a
 ·subst s; rw[n]; intro o; exact y i c e q b (Option.some.inj o).symm
 rw[k j s]; exact h.2 i j c v p q b
end Rt
def Bq(a:World)(l:List (Nat × (Nat->Int)))(w':World):Prop:=(∀ p∈l,w'.heap[p.1]? = some (.cells (aG .i64 54 p.2) 82 (0,0)))/\Below a.heap.size a w'
theorem Bq.up{b w w':World}{l:List (Nat × (Nat->Int))}(h:Bq b l w)(a:Below w.heap.size w w'):Bq b l w':=⟨fun p c=>Iw (h.1 p c) a,Bt h.2 a⟩
instance {a w w':World} {l:List (Nat × (Nat->Int))}:Rt.Tr w w' (Bq a l w) (Bq a l w'):=⟨fun b h=>h.up b⟩
theorem Bq.drew{a w:World}{l:List (Nat × (Nat->Int))}(h:Bq a l w):Bq a l w.drew:=⟨h.1,bN h.2 1⟩
theorem Bq.drop{a w:World}{p:Nat × (Nat->Int)}{l:List (Nat × (Nat->Int))}(h:Bq a (p::l) w):Bq a l w:=⟨fun q b=>h.1 q (by simp[b]),h.2⟩
theorem Bq.row{b w:World}{l:List (Nat × (Nat->Int))}(h:Bq b l w)(g:Nat)(x:Nat->Int)(a:(g,x)∈l):w.heap[g]? = some (.cells (aG .i64 54 x) 82 (0,0)):=h.1 (g,x) a
theorem Bq.add{b w:World}{l:List (Nat × (Nat->Int))}(h:Bq b l w){g:Nat}{x:Nat->Int}(c:w.heap[g]? = some (.cells (aG .i64 54 x) 82 (0,0))):Bq b ((g,x)::l) w :=
 ⟨fun p a=>by
  rcases List.mem_cons.1 a with rfl|a
  ·exact c
  ·exact h.1 p a,h.2⟩
theorem Bq.start(w:World)(x:Nat->Int):Bq w [(w.heap.size,x)] (w.alloc (.cells (aG .i64 54 x) 82)):=⟨fun p a=>by
 obtain rfl:p=(w.heap.size,x):=by simpa using a
 exact heap_alloc_new w _,(Below.refl _ _).alloc (Nat.le_refl _) _⟩
namespace Rt
theorem pl(k:Nat):((k:Int)+1).toNat-1=k:=by omega
end Rt
-- SB.Give is not in this seat
namespace Rt
def uL(L:eB)(v:EvM):Nat:=(L.grant v.o v.of).toNat
def pq(L:eB)(v:EvM):(Nat->Nat->Int) × Int:=dB (fun x=>bF x v.o (L.g (uL L v) 3)) (qo L (L.g (uL L v) 2)) L.R (dK L.t L.tn (L.g (uL L v) 2))
def pz(L:eB)(v:EvM):Int:=if 0<=L.tV (bA v) v.req then 14 else if L.grant v.o v.of<0\/L.g (uL L v) 4≠0 then 12 else(pq L v).2
def jf(L:eB)(v:EvM):eB:=oZ { L with R:=(pq L v).1,g:=aV L.g (uL L v) (aV (L.g (uL L v)) 4 v.req) } (bA v) v.req
end Rt
namespace Rt
def xq(L:eB)(v:EvM):Int:=if L.node v.node<0 then 9 else if 140737488355328<L.R (L.node v.node).toNat (bA v)+v.bI then 6 else 0
def Ar(L:eB)(v:EvM):eB := { L with R:=aV L.R (L.node v.node).toNat (upd (L.R (L.node v.node).toNat) (bA v) (L.R (L.node v.node).toNat (bA v)+v.bI)) }
def Cx(L:eB)(v:EvM):(Nat->Int) × Int:=fF (L.R (L.node v.node).toNat) v.o v.dst v.bI
def tY(L:eB)(v:EvM):Int:=if L.node v.node<0 then 9 else if v.dst<1\/6<v.dst\/L.inn (v.dst-1).toNat=false then 10 else(Cx L v).2
def Au(L:eB)(v:EvM):eB := { L with R:=aV L.R (L.node v.node).toNat (Cx L v).1 }
noncomputable def nT(L:eB)(v:EvM):Int :=
 if v.kind=1 then oQ L v else if v.kind=2 then xq L v else if v.kind=3 then nJ L v else if v.kind=4 then pz L v else if v.kind=5 then tY L v else 0
def lK(L:eB)(v:EvM):eB :=
 if v.kind=1 then oV L v else if v.kind=2 then Ar L v else if v.kind=3 then jR L v else if v.kind=4 then jf L v else if v.kind=5 then Au L v
 else if v.kind=6 then { L with inn:=aV L.inn (v.dst-1).toNat true } else { L with left:=aV L.left (bA v) true }
theorem lM{v:EvM}(h:bX v=true):1<=v.kind/\v.kind<=7:=by
 unfold bX at h
 simp only[Bool.and_eq_true]at h
 have a:=h.2
 unfold iJ at a
 split at a; · omega
 split at a; · omega
 split at a; · omega
 split at a; · omega
 split at a; · omega
 split at a; · omega
 have:=of_decide_eq_true a; omega
theorem qU{v:EvM}(h:bX v=true)(c:v.kind=2\/v.kind=3\/v.kind=5):1<=v.bI/\v.bI<=1125899906842624:=by
 unfold bX at h
 simp only[Bool.and_eq_true]at h
 have a:=h.2
 unfold iJ at a
 rw[if_neg (by omega)]at a
 have b:someE v=true->1<=v.bI/\v.bI<=1125899906842624:=fun h=>by unfold someE at h; simpa using h
 split at a; · exact b a
 split at a; · rw[Bool.and_eq_true]at a; exact b a.1
 rw[if_neg (by omega)]at a
 split at a; · rw[Bool.and_eq_true]at a; exact b a.1
 omega
theorem He{v:EvM}(h:bX v=true)(c:v.kind=6) : ∃ b:Nat,b<6/\v.dst=(b:Int)+1:=by
 unfold bX at h
 simp only[Bool.and_eq_true]at h
 have a:=h.2
 unfold iJ at a
 rw[if_neg (by omega),if_neg (by omega),if_neg (by omega),if_neg (by omega),if_neg (by omega),if_pos c]at a
 unfold wX at a
 rw[Bool.and_eq_true]at a
 exact dO a.1
end Rt
namespace Rt
structure WZ(L:eB)(T:Nat):Prop where
 nn:L.nn<=33
 gn:L.gn<=T
 rn : ∀ i,i<6->L.rn i<=T
 tn : ∀ x,L.node x=aR L.t L.tn x
 dx : ∀ x,∃ D,D<=1000/\aR L.t L.tn (aO L.t L.tn D x)<0
 may : ∀ k,k<L.nn->may (L.R k)=true
 kn:Eh L.known
open Classical in
noncomputable def dL(L:eB)(v:EvM):Int :=
 if bX v=false then 1 else if uK L.known v=true then 14 else if fQ L.known v=false then 13 else if L.inn (bA v)=false\/L.left (bA v)=true then 10 else nT L v
def Ka(L:eB)(v:EvM):eB := { L with known:=aV L.known (bA v) (L.known (bA v)+1) }
open Classical in
noncomputable def gK(L:eB)(v:EvM):eB:=if dL L v=0 then Ka (lK L v) v else L
theorem uM(L:eB)(v:EvM):(lK L v).known=L.known:=by
 unfold lK
 split; · unfold oV; rfl
 split; · unfold Ar; rfl
 split; · unfold jR oZ; rfl
 split; · unfold jf oZ; rfl
 split; · unfold Au; rfl
 split <;> rfl
end Rt
section
namespace Rt
structure Inv0(L:eB)(T:Nat):Prop where
 tZ:L.tn=L.nn
 nn:L.nn<=32
 tid : ∀ i,i<L.nn->L.t i 0=L.id i/\L.t i 1=L.par i
 rise : ∀ i j,i<j->j<L.nn->L.id i<L.id j
 pos : ∀ i,i<L.nn->1<=L.id i
 top : ∀ i,i<L.nn->L.id i<7696581394432
 up : ∀ i,i<L.nn->L.par i=0 \/ ∃ j,j<L.nn/\L.id j=L.par i
 dep : ∀ x,∃ D,D<=4/\aR L.t L.tn (aO L.t L.tn D x)<0
 gn:L.gn<=T
 rn : ∀ i,i<6->L.rn i<=T
 may : ∀ k,k<L.nn->may (L.R k)=true
 g47 : ∀ k,k<L.nn -> ∀ a,a<6->L.R k a<=140737488355328
 kn:Eh L.known
theorem OD(a:Int):a<0\/0<=a:=by omega
theorem eH{t:Nat->Nat->Int}{tn:Nat}{x:Int}:0<=aR t tn x <-> ∃ i,i<tn/\t i 0=x:=by
 constructor
 ·intro h
  obtain⟨j,c,_,e⟩:=oO h
  exact⟨j,c,e⟩
 rintro ⟨i,b,e⟩
 rcases iU (fun i=>decide (t i 0=x)) tn with ⟨k,_,a,_⟩|⟨_,h2⟩
 ·unfold aR; rw[a]; omega
 have:=h2 i b; rw[decide_eq_true e]at this; cases this
theorem mR{t:Nat->Nat->Int}{tn:Nat}{x:Int}:aR t tn x<0 <-> ∀ i,i<tn->t i 0≠x:=by
 constructor
 ·intro h i a e
  have:=eH.2 ⟨i,a,e⟩; omega
 intro h
 rcases OD (aR t tn x)with h1|h1
 ·exact h1
 obtain⟨i,a,e⟩:=eH.1 h1
 exact absurd e (h i a)
theorem mU{t:Nat->Nat->Int}{tn i:Nat}(c : ∀ i j,i<tn->j<tn->t i 0=t j 0->i=j)(hi:i<tn):aR t tn (t i 0)=(i:Int):=by
 obtain⟨j,b,e,a⟩:=oO (eH.2 ⟨i,hi,rfl⟩)
 rw[e,c j i b hi a]
theorem xu{t:Nat->Nat->Int}{tn:Nat}{x:Int} : ∀ j,aO t tn (j+1) x=aO t tn j (aO t tn 1 x)
 | 0=>rfl
 | j+1=>by
   show t (aR t tn (aO t tn (j+1) x)).toNat 1=t (aR t tn (aO t tn j (aO t tn 1 x))).toNat 1
   rw[xu j]
section
variable {L:eB} {T:Nat}
theorem Inv0.inj(h:Inv0 L T) : ∀ i j,i<L.nn->j<L.nn->L.id i=L.id j->i=j:=fun i j a b e=>by
 rcases Nat.lt_trichotomy i j with h1|h1|h1
 ·have:=h.rise i j h1 b; omega
 ·exact h1
 ·have:=h.rise j i h1 a; omega
theorem Inv0.Ua(h:Inv0 L T) : ∀ i j,i<L.tn->j<L.tn->L.t i 0=L.t j 0->i=j:=fun i j a b e=>by
 rw[h.tZ]at a b
 rw[(h.tid i a).1,(h.tid j b).1]at e
 exact h.inj i j a b e
theorem uN{P Q:Nat->Bool} : ∀ {n:Nat},(∀ i,i<n->P i=Q i)->eU P n=eU Q n
 | 0,_=>rfl
 | n+1,h=>by
   simp only[eU]
   rw[uN (n:=n) fun i a=>h i (by omega),h n (by omega)]
theorem Inv0.node(h:Inv0 L T)(x:Int):L.node x=aR L.t L.tn x:=by
 unfold eB.node aR
 rw[h.tZ]
 exact uN fun i a=>by rw[(h.tid i a).1]
theorem Inv0.w(h:Inv0 L T):WZ L T where
 nn:=by have:=h.nn; omega
 gn:=h.gn
 rn:=h.rn
 tn:=h.node
 dx:=fun x=>by obtain⟨D,b,a⟩:=h.dep x; exact⟨D,by omega,a⟩
 may:=h.may
 kn:=h.kn
theorem Inv0.mono{a:Nat}(h:Inv0 L T)(b:T<=a):Inv0 L a := { h with gn:=Nat.le_trans h.gn b,rn:=fun i c=>Nat.le_trans (h.rn i c) b }
theorem vU{a:Type}{f:Nat->a}{k i:Nat}{v:a}(h:i<k):bQ f k v i=f i:=by unfold bQ; rw[if_pos h]
theorem bL{a:Type}{f:Nat->a}{k:Nat}{v:a}:bQ f k v k=v:=by unfold bQ; rw[if_neg (by omega),if_pos rfl]
theorem vV{a:Type}{f:Nat->a}{k i:Nat}{v:a}(h:k<i):bQ f k v i=f (i-1):=by unfold bQ; rw[if_neg (by omega),if_neg (by omega)]
theorem cB{k i n:Nat}(b:k<=n)(hi:i<n+1):i=k \/ ∃ j,j<n/\(∀ {α:Type} (f:Nat->α) (v:α),bQ f k v i=f j)/\(j<k->i=j)/\(k<=j->i=j+1):=by
 rcases Nat.lt_trichotomy i k with h|h|h
 ·exact .inr ⟨i,by omega,fun f v=>vU h,fun _=>rfl,fun a=>by omega⟩
 ·exact .inl h
 exact .inr ⟨i-1,by omega,fun f v=>vV h,fun a=>by omega,fun _=>by omega⟩
theorem sD{k j n:Nat}(a:j<n) : ∃ i,i<n+1/\i≠k /\ ∀ {α:Type} (f:Nat->α) (v:α),bQ f k v i=f j:=by
 by_cases h:j<k
 ·exact⟨j,by omega,by omega,fun f v=>vU h⟩
 exact⟨j+1,by omega,by omega,fun f v=>by rw[vV (by omega)]; rfl⟩
theorem qc(t:Nat->Nat->Int)(k:Nat)(id par:Int)(i:Nat):su t k id par i=bQ t k (fun j=>if j=0 then id else par) i:=rfl
theorem zn{P Q:Nat->Bool} : ∀ {n:Nat},(∀ i,i<n->P i=Q i)->down P n=down Q n
 | 0,_=>rfl
 | n+1,h=>by
   unfold down
   rw[zn (n:=n) fun i a=>h i (by omega),h n (by omega)]
structure jF(t t':Nat->Nat->Int)(tn:Nat)(id par:Int):Prop where
 u : ∀ i j,i<tn->j<tn->t i 0=t j 0->i=j
 u' : ∀ i j,i<tn+1->j<tn+1->t' i 0=t' j 0->i=j
 no : ∀ i,i<tn->t i 0≠id
 old : ∀ i,i<tn -> ∃ j,j<tn+1/\t' j=t i
 new : ∃ j,j<tn+1/\t' j 0=id/\t' j 1=par
 back : ∀ j,j<tn+1->t' j 0=id \/ ∃ i,i<tn/\t' j=t i
variable {t t':Nat->Nat->Int} {tn:Nat} {id par:Int}
theorem jF.find(h:jF t t' tn id par){x:Int}:0<=aR t' (tn+1) x<->(0<=aR t tn x\/x=id):=by
 rw[eH,eH]
 constructor
 ·rintro ⟨j,b,e⟩
  rcases h.back j b with a|⟨i,hi,a⟩
  ·exact .inr (e.symm.trans a)
  exact .inl ⟨i,hi,by rw[<- a]; exact e⟩
 rintro (⟨i,hi,e⟩|e)
 ·obtain⟨j,b,a⟩:=h.old i hi
  exact⟨j,b,by rw[a]; exact e⟩
 obtain⟨j,b,a,_⟩:=h.new
 exact⟨j,b,a.trans e.symm⟩
theorem jF.MO(h:jF t t' tn id par){x:Int}(hx:0<=aR t tn x):t' (aR t' (tn+1) x).toNat 1=t (aR t tn x).toNat 1:=by
 obtain⟨i,b,e⟩:=eH.1 hx
 obtain⟨j,f,a⟩:=h.old i b
 have c:aR t tn x=(i:Int):=by rw[<- e]; exact mU h.u b
 have d:aR t' (tn+1) x=(j:Int):=by
  have:t' j 0=x:=by rw[a]; exact e
  rw[<- this]; exact mU h.u' f
 rw[c,d]
 show t' j 1=t i 1
 rw[a]
theorem jF.iter(h:jF t t' tn id par){x:Int} : ∀ K,(∀ i,i<K->0<=aR t tn (aO t tn i x))->aO t' (tn+1) K x=aO t tn K x
 | 0,_=>rfl
 | K+1,hk=>by
   have a:=jF.iter h K fun i b=>hk i (by omega)
   show t' (aR t' (tn+1) (aO t' (tn+1) K x)).toNat 1=t (aR t tn (aO t tn K x)).toNat 1
   rw[a]; exact h.MO (hk K (by omega))
theorem mV{t:Nat->Nat->Int}{tn:Nat}{x:Int} : ∀ D,aR t tn (aO t tn D x)<0 -> ∃ K,K<=D/\aR t tn (aO t tn K x)<0 /\ ∀ i,i<K->0<=aR t tn (aO t tn i x)
 | 0,h=>⟨0,Nat.le_refl _,h,fun _ a=>absurd a (Nat.not_lt_zero _)⟩
 | D+1,h=>by
   by_cases f : ∀ i,i<D+1->0<=aR t tn (aO t tn i x)
   ·exact⟨D+1,Nat.le_refl _,h,f⟩
   ·obtain⟨i,a⟩:=Classical.not_forall.1 f
    obtain⟨a,o⟩:=Classical.not_imp.1 a
    rcases Nat.lt_or_ge i D with h3|h3
    ·-- an earlier end
     have : ∀ n,n<=D->(∃ j,j<=n/\aR t tn (aO t tn j x)<0) -> ∃ K,K<=n/\aR t tn (aO t tn K x)<0 /\ ∀ i,i<K->0<=aR t tn (aO t tn i x):=by
      intro n
      induction n with
      | zero=>rintro _ ⟨j,m,k⟩; obtain rfl:j=0:=by omega
              exact⟨0,Nat.le_refl _,k,fun _ a=>absurd a (Nat.not_lt_zero _)⟩
      | succ n ih =>
        rintro k ⟨j,m,g⟩
        by_cases c : ∃ j,j<=n/\aR t tn (aO t tn j x)<0
        ·obtain⟨K,d,l⟩:=ih (by omega) c; exact⟨K,by omega,l⟩
        ·refine⟨n+1,Nat.le_refl _,?_,fun i a => ?_⟩
         ·by_cases e:j=n+1
          ·rw[<- e]; exact g
          ·exact absurd ⟨j,by omega,g⟩ c
         ·rcases OD (aR t tn (aO t tn i x))with h7|h7
          ·exact absurd ⟨i,by omega,h7⟩ c
          ·exact h7
     obtain⟨K,d,b⟩:=this i (by omega) ⟨i,Nat.le_refl _,by omega⟩
     exact⟨K,by omega,b⟩
    ·obtain rfl:i=D:=by omega
     obtain⟨K,d,b⟩:=mV (t:=t) (tn:=tn) (x:=x) i (by omega)
     exact⟨K,by omega,b⟩
theorem jF.dep(h:jF t t' tn id par)(z:1<=id)(v : ∀ i,i<tn->t i 1=0\/0<=aR t tn (t i 1))(s:par=0\/0<=aR t tn par)(B:aR t tn 0<0)(o : ∀ x,∃ D,D<=4/\aR t tn (aO t tn D x)<0)(p : ¬ zm t tn par) :
 ∀ x,∃ D,D<=4/\aR t' (tn+1) (aO t' (tn+1) D x)<0:=by
 -- an end of an old path is none of the new tree's nodes
 have A:aR t tn id<0:=mR.2 h.no
 have k : ∀ x K,x≠id->aR t tn (aO t tn K x)<0->(∀ i,i<K->0<=aR t tn (aO t tn i x))->aR t' (tn+1) (aO t' (tn+1) K x)<0:=fun x K c f a=>by
  rw[h.iter K a]
  rcases OD (aR t' (tn+1) (aO t tn K x))with h1|h1
  ·exact h1
  ·exfalso
   rcases h.find.1 h1 with h2|h2
   ·omega
   ·cases K with
    | zero=>exact c h2
    | succ K =>
      have q:=a K (by omega)
      obtain⟨i,b,e⟩:=eH.1 q
      have d:aO t tn (K+1) x=t i 1:=by
       show t (aR t tn (aO t tn K x)).toNat 1=t i 1
       rw[<- e,mU h.u b]; rfl
      rw[d]at h2 f
      rcases v i b with h4|h4
      ·omega
      ·omega
 intro x
 by_cases c:x=id
 ·subst c
  obtain⟨i,b⟩:=Classical.not_forall.1 p
  obtain⟨y,b⟩:=Classical.not_imp.1 b
  obtain⟨K,f,g,a⟩:=mV (t:=t) (tn:=tn) (x:=par) i (by omega)
  refine⟨K+1,by omega,?_⟩
  have l:aO t' (tn+1) 1 x=par:=by
   obtain⟨j,r,m,d⟩:=h.new
   show t' (aR t' (tn+1) x).toNat 1=par
   rw[<- m,mU h.u' r]; exact d
  rw[xu,l]
  refine k par K ?_ g a
  rintro rfl
  rcases s with h1|h1 <;> omega
 obtain⟨D,w,n⟩:=o x
 obtain⟨K,f,g,a⟩:=mV D n
 exact⟨K,by omega,k x K c g a⟩
end
end Rt
end
section
namespace Rt
section
variable {L:eB} {T:Nat} {v:EvM}
theorem MP{t:Nat->Nat->Int}{tn:Nat}{id par:Int}(h:J8 t tn id par=0):id≠0/\aR t tn id<0/\(par=0\/0<=aR t tn par)/\tn<32 /\ ¬ zm t tn par:=by
 unfold J8 at h
 split at h; · cases h
 rename_i h1
 split at h; · cases h
 rename_i h2
 split at h; · cases h
 rename_i h3
 split at h; · cases h
 rename_i h4
 refine⟨h1,by omega,?_,?_,fun b=>h4 (.inr b)⟩
 ·rcases OD (aR t tn par)with h5|h5
  ·by_cases a:par=0
   ·exact .inl a
   exact absurd ⟨a,h5⟩ h3
  exact .inr h5
 rcases Nat.lt_or_ge tn 32 with h5|h5
 ·exact h5
 exact absurd (Or.inl h5) h4
theorem kP(h:bX v=true):1<=v.o/\v.o<=6/\1<=v.seq/\v.seq<1099511627776:=by
 have a:=gN h
 have b:=vQ h
 unfold iW at a
 simp only[Bool.and_eq_true,decide_eq_true_eq]at a
 exact⟨a.1,a.2,b.1,b.2⟩
theorem vW(h:bX v=true):sW v.o v.seq=1099511627776*v.o+v.seq:=by
 have:=kP h
 unfold sW; rw[if_pos (by omega)]
theorem qd(h:bX v=true):bA v<6:=by
 have:=kP h; unfold bA; omega
theorem MQ{a:Nat}{n:Int}(ha:a<6)(f:0<=n)(h1:n<=1125899906842624):may (upd (fun _=>0) a n)=true:=by
 have e : ∀ p,upd (fun _=>0) a n p=if p=a then n else 0:=fun p=>rfl
 rw[jL]
 refine⟨fun p l => ?_,fun k h => ?_,?_⟩
 ·rw[e]; split <;> omega
 ·have b : ∀ i j,R (upd (fun _=>0) a n) i j=0:=fun i j=>by unfold R; rw[e,if_neg (by omega)]
  refine⟨?_,?_,b k k⟩
  ·unfold L
   simp only[b]
   have g:0<=G (upd (fun _=>0) a n) k:=by unfold G; rw[e]; split <;> omega
   have d:F (upd (fun _=>0) a n) k=0:=by unfold F; rw[e,if_neg (by omega)]
   have c:C (upd (fun _=>0) a n) k=0:=by unfold C; rw[e,if_neg (by omega)]
   omega
  have d:F (upd (fun _=>0) a n) k=0:=by unfold F; rw[e,if_neg (by omega)]
  have c:C (upd (fun _=>0) a n) k=0:=by unfold C; rw[e,if_neg (by omega)]
  omega
 unfold mP G
 simp only[e]
 have:(if 0=a then n else 0)+(if 1=a then n else 0)+(if 2=a then n else 0)+(if 3=a then n else 0)+(if 4=a then n else 0)+(if 5=a then n else 0)=n:=six a ha n
 omega
theorem qV(h:Inv0 L T)(d:bX v=true)(F:v.kind=1)(f:oQ L v=0) : ∃ k,k<=L.nn/\1<=sW v.o v.seq/\L.nn<32/\(0<=v.bI/\v.bI<=140737488355328)/\(v.node=0\/0<=aR L.t L.tn v.node) /\ ¬ zm L.t L.tn v.node /\
 oV L v = { L with nn:=L.nn+1,id:=bQ L.id k (sW v.o v.seq),par:=bQ L.par k v.node,R:=bQ L.R k (upd (fun _=>0) (bA v) v.bI),tn:=L.tn+1,t:=su L.t k (sW v.o v.seq) v.node } /\
 (∀ i j,i<j->j<L.nn+1->bQ L.id k (sW v.o v.seq) i<bQ L.id k (sW v.o v.seq) j)/\(∀ i,i<L.nn+1->su L.t k (sW v.o v.seq) v.node i 0=bQ L.id k (sW v.o v.seq) i/\su L.t k (sW v.o v.seq) v.node i 1=bQ L.par k v.node i) /\
 jF L.t (su L.t k (sW v.o v.seq) v.node) L.tn (sW v.o v.seq) v.node:=by
 unfold oQ at f
 split at f
 ·cases f
 rename_i h47
 obtain⟨K,s,w,M,y⟩:=MP f
 have S:=kP d
 have U:=vW d
 have W:=qd d
 have D:0<=v.bI/\v.bI<=140737488355328:=by
  have Q : ¬ 140737488355328<v.bI:=fun h=>h47 (.inr h)
  unfold bX at d
  simp only[Bool.and_eq_true]at d
  have l:=d.2
  unfold iJ at l
  rw[if_pos F]at l
  simp only[Bool.and_eq_true,decide_eq_true_eq]at l
  omega
 generalize hx:sW v.o v.seq=x at *
 have J:1<=x:=by omega
 have A:down (fun i=>decide (x<L.t i 0)) L.tn=oU L.id L.nn x:=by
  unfold oU; rw[h.tZ]; exact zn fun i a=>by rw[(h.tid i a).1]
 have z:oV L v = { L with nn:=L.nn+1,id:=bQ L.id (oU L.id L.nn x) x,par:=bQ L.par (oU L.id L.nn x) v.node,R:=bQ L.R (oU L.id L.nn x) (upd (fun _=>0) (bA v) v.bI),tn:=L.tn+1,t:=su L.t (oU L.id L.nn x) x v.node }:=by
  unfold oV; rw[hx,A]; rfl
 generalize hkk:oU L.id L.nn x=k at *
 have c:k<=L.nn:=by rw[<- hkk]; exact Fx.pQ _ _
 have G : ∀ i,i<L.nn->L.id i≠x:=fun i a e=>mR.1 s i (by rw[h.tZ]; exact a) (by rw[(h.tid i a).1]; exact e)
 have C : ∀ q,k<=q->q<L.nn->x<L.id q:=fun q b g=>by
  have:=Fx.zW (P:=fun i=>decide (x<L.id i)) (n:=L.nn) (i:=q) (by show oU L.id L.nn x<=q; omega) g
  exact of_decide_eq_true this
 have B : ∀ q,q<k->L.id q<x:=fun q b=>by
  obtain⟨j,rfl⟩ : ∃ j,k=j+1:=⟨k-1,by omega⟩
  have g:=Fx.zX (P:=fun i=>decide (x<L.id i)) (n:=L.nn) (j:=j) hkk
  have N : ¬ x<L.id j:=of_decide_eq_false g
  have O:=G j (by omega)
  by_cases e:q=j
  ·subst e; omega
  ·have:=h.rise q j (by omega) (by omega); omega
 have H:L.nn<32:=by have:=h.tZ; omega
 have m : ∀ i j,i<j->j<L.nn+1->bQ L.id k x i<bQ L.id k x j:=fun i j V hj=>by
  rcases cB c (show i<L.nn+1 by omega)with rfl|⟨q,hq,eq,q1,q2⟩
  ·rcases cB c hj with rfl|⟨r,hr,er,r1,r2⟩
   ·omega
   ·rw[bL,er]
    exact C r (by omega) hr
  ·rcases cB c hj with rfl|⟨r,hr,er,r1,r2⟩
   ·rw[bL,eq]
    exact B q (by omega)
   ·rw[eq,er]
    exact h.rise q r (by omega) hr
 have p : ∀ i,i<L.nn+1->su L.t k x v.node i 0=bQ L.id k x i/\su L.t k x v.node i 1=bQ L.par k v.node i:=fun i a=>by
  rw[qc]
  rcases cB c a with rfl|⟨q,hq,eq,_,_⟩
  ·rw[bL,bL,bL]; exact⟨rfl,rfl⟩
  ·rw[eq,eq,eq]; exact h.tid q hq
 have E : ∀ i j,i<L.nn+1->j<L.nn+1->bQ L.id k x i=bQ L.id k x j->i=j:=fun i j a hj e=>by
  rcases Nat.lt_trichotomy i j with b|b|b
  ·have:=m i j b hj; omega
  ·exact b
  ·have:=m j i b a; omega
 have I:jF L.t (su L.t k x v.node) L.tn x v.node := {
  u:=h.Ua
  u':=fun i j a hj e=>by
   rw[h.tZ]at a hj
   rw[(p i a).1,(p j hj).1]at e
   exact E i j a hj e
  no:=mR.1 s
  old:=fun i a=>by
   obtain⟨j,hj,_,e⟩:=sD (k:=k) a
   exact⟨j,hj,by rw[qc]; exact e L.t _⟩
  new:=⟨k,by have:=h.tZ; omega,by rw[qc,bL]; rfl,by rw[qc,bL]; rfl⟩
  back:=fun j hj=>by
   rw[h.tZ]at hj
   rcases cB c hj with rfl|⟨q,hq,eq,_,_⟩
   ·exact .inl (by rw[qc,bL]; rfl)
   ·exact .inr ⟨q,by rw[h.tZ]; exact hq,by rw[qc]; exact eq L.t _⟩ }
 exact⟨k,c,J,H,D,w,y,z,m,p,I⟩
theorem Hf(h:Inv0 L T)(c:bX v=true)(w:v.kind=1)(r:oQ L v=0):Inv0 (oV L v) (T+1):=by
 obtain⟨k,a,m,K,s,g,n,p,B,E,F⟩:=qV h c w r
 have I:=kP c
 have J:=vW c
 have C:=qd c
 rw[p]
 generalize hx:sW v.o v.seq=x at *
 have z : ∀ j,j<L.nn -> ∃ i,i<L.nn+1/\bQ L.id k x i=L.id j:=fun j hj=>by
  obtain⟨i,hi,_,e⟩:=sD (k:=k) hj
  exact⟨i,hi,e L.id x⟩
 have H:aR L.t L.tn 0<0:=mR.2 fun i hi e=>by
  rw[h.tZ]at hi
  rw[(h.tid i hi).1]at e
  have:=h.pos i hi; omega
 have A:v.node=0 \/ ∃ j,j<L.nn/\L.id j=v.node:=by
  rcases g with e|e
  ·exact .inl e
  ·obtain⟨i,hi,d⟩:=eH.1 e
   rw[h.tZ]at hi
   exact .inr ⟨i,hi,by rw[<- (h.tid i hi).1]; exact d⟩
 exact {
  tZ:=by show L.tn+1=L.nn+1; rw[h.tZ]
  nn:=by show L.nn+1<=32; omega
  tid:=E
  rise:=B
  pos:=fun i hi=>by
   show 1<=bQ L.id k x i
   rcases cB a hi with rfl|⟨q,hq,eq,_,_⟩
   ·rw[bL]; exact m
   ·rw[eq]; exact h.pos q hq
  top:=fun i hi=>by
   show bQ L.id k x i<_
   rcases cB a hi with rfl|⟨q,hq,eq,_,_⟩
   ·rw[bL]; omega
   ·rw[eq]; exact h.top q hq
  up:=fun i hi=>by
   show bQ L.par k v.node i=0 \/ ∃ j,j<L.nn+1/\bQ L.id k x j=bQ L.par k v.node i
   have l : ∀ y,(y=0 \/ ∃ j,j<L.nn/\L.id j=y)->(y=0 \/ ∃ j,j<L.nn+1/\bQ L.id k x j=y):=fun y G=>G.imp id fun⟨j,hj,e⟩=>by
    obtain⟨i,hi,d⟩:=z j hj
    exact⟨i,hi,d.trans e⟩
   rcases cB a hi with rfl|⟨q,hq,eq,_,_⟩
   ·rw[bL]; exact l _ A
   ·rw[eq]; exact l _ (h.up q hq)
  dep:=by
   show ∀ y,∃ D,D<=4/\aR (su L.t k x v.node) (L.tn+1) (aO (su L.t k x v.node) (L.tn+1) D y)<0
   refine F.dep m (fun i hi => ?_) g H h.dep n
   have f:=hi
   rw[h.tZ]at f
   rw[(h.tid i f).2]
   rcases h.up i f with e|⟨j,hj,e⟩
   ·exact .inl e
   ·exact .inr (eH.2 ⟨j,by rw[h.tZ]; exact hj,by rw[(h.tid j hj).1]; exact e⟩)
  gn:=Nat.le_succ_of_le h.gn
  rn:=fun i hi=>Nat.le_succ_of_le (h.rn i hi)
  may:=fun i hi=>by
   show may (bQ L.R k _ i)=true
   rcases cB a hi with rfl|⟨q,hq,eq,_,_⟩
   ·rw[bL]; exact MQ C s.1 (by omega)
   ·rw[eq]; exact h.may q hq
  g47:=fun i hi b u=>by
   show bQ L.R k _ i b<=_
   rcases cB a hi with rfl|⟨q,hq,eq,_,_⟩
   ·rw[bL]
    show(if b=bA v then v.bI else 0)<=_
    split <;> omega
   ·rw[eq]; exact h.g47 q hq b u
  kn:=h.kn }
theorem zo{b:eB}{e:Nat}(h:Inv0 L T)(c:b.nn=L.nn)(d:b.id=L.id)(g:b.par=L.par)(j:b.tn=L.tn)(l:b.t=L.t)(n:b.known=L.known)(o:b.gn<=e)(hr : ∀ i,i<6->b.rn i<=e)
 (m : ∀ k,k<L.nn->may (b.R k)=true /\ ∀ a,a<6->b.R k a<=140737488355328):Inv0 b e where
 tZ:=by rw[c,j]; exact h.tZ
 nn:=by rw[c]; exact h.nn
 tid:=by rw[c,d,g,l]; exact h.tid
 rise:=by rw[c,d]; exact h.rise
 pos:=by rw[c,d]; exact h.pos
 top:=by rw[c,d]; exact h.top
 up:=by rw[c,d,g]; exact h.up
 dep:=by rw[j,l]; exact h.dep
 gn:=o
 rn:=hr
 may:=by rw[c]; exact fun k f=>(m k f).1
 g47:=by rw[c]; exact fun k f=>(m k f).2
 kn:=by rw[n]; exact h.kn
def lZ(x:Nat->Int):Prop:=may x=true /\ ∀ a,a<6->x a<=140737488355328
theorem xw{f:(Nat->Int)->(Nat->Int) × Int}{idx:Nat->Nat}{R:Nat->Nat->Int}{n:Nat}(g : ∀ x,lZ x->(f x).2=0->lZ (f x).1)(d : ∀ k,k<n->lZ (R k)) : ∀ K k,k<n->lZ ((dB f idx R K).1 k)
 | 0,k,hk=>d k hk
 | K+1,k,hk=>by
   have a:=xw g d (idx:=idx) K
   unfold dB
   by_cases e:(dB f idx R K).2=0
   ·rw[if_pos e]
    by_cases b:(f ((dB f idx R K).1 (idx K))).2=0
    ·rw[if_pos b]
     show lZ (if k=idx K then _ else _)
     by_cases c:k=idx K
     ·rw[if_pos c]; exact g _ (by rw[<- c]; exact a k hk) b
     ·rw[if_neg c]; exact a k hk
    ·rw[if_neg b]; exact a k hk
   ·rw[if_neg e]; exact a k hk
theorem MR{x:Nat->Int}{i n:Int}(h:lZ x)(c:(bK x i n).2=0):lZ (bK x i n).1:=by
 obtain⟨a,g,_,_,_,_,_,f,_,_,_,e⟩:=FQ c
 exact⟨f,fun b d=>by rw[e,dQ _ _ _ _ (by omega)]; exact h.2 b d⟩
theorem MS{x:Nat->Int}{i n:Int}(h:lZ x)(c:(bF x i n).2=0):lZ (bF x i n).1:=by
 obtain⟨a,g,_,_,_,_,f,_,_,_,e⟩:=FT c
 exact⟨f,fun b d=>by rw[e,dQ _ _ _ _ (by omega)]; exact h.2 b d⟩
theorem MU{x:Nat->Int}{i j n:Int}(h:lZ x)(d:(fF x i j n).2=0):lZ (fF x i j n).1:=by
 obtain⟨a,b,k,l,_,_,_,_,_,_,g,e⟩:=FP d
 exact⟨g.may,fun c f=>by rw[e,dQ _ _ _ _ (by omega)]; exact h.2 c f⟩
theorem Kc{x:Nat->Int}{a:Nat}{n:Int}(ha:a<6)(h:lZ x)(s:0<=n)(q : ¬ 140737488355328<x a+n):lZ (upd x a (x a+n)):=by
 have d:=(jL x).1 h.1
 have e : ∀ p,upd x a (x a+n) p=if p=a then x a+n else x p:=fun p=>rfl
 have t:=d.1 a (by omega)
 have c : ∀ b,b<6->upd x a (x a+n) b<=140737488355328:=fun b l=>by
  rw[e]; split
  ·omega
  ·exact h.2 b l
 refine⟨(jL _).2 ⟨fun p o => ?_,fun k m => ?_,?_⟩,c⟩
 ·have:=d.1 p o
  rw[e]; split <;> omega
 ·obtain⟨r,i,j⟩:=d.2.1 k m
  have f:C (upd x a (x a+n)) k=C x k:=by unfold C; rw[e,if_neg (by omega)]
  have g:F (upd x a (x a+n)) k=F x k:=by unfold F; rw[e,if_neg (by omega)]
  refine⟨?_,?_,?_⟩
  ·rw[J9 x a (by omega),f,g,T9]; split <;> omega
  ·rw[f,g]; exact i
  unfold R; rw[e,if_neg (by omega)]; exact j
 unfold mP G
 have:=c 0 (by omega); have:=c 1 (by omega); have:=c 2 (by omega); have:=c 3 (by omega); have:=c 4 (by omega); have:=c 5 (by omega)
 omega
theorem Inv0.Cy(h:Inv0 L T) : ∀ k,k<L.nn->lZ (L.R k):=fun k a=>⟨h.may k a,h.g47 k a⟩
theorem FV(h:Inv0 L T)(a:Nat) : ∀ i,i<6->aV L.rn a (L.rn a+1) i<=T+1:=fun i b=>by
 unfold aV
 by_cases e:i=a
 ·subst e; rw[if_pos rfl]; have:=h.rn i b; omega
 ·rw[if_neg e]; have:=h.rn i b; omega
theorem FW{q:Nat}{r:Nat->Int}(h : ∀ k,k<L.nn->lZ (L.R k))(hr:lZ r) : ∀ k,k<L.nn->lZ (aV L.R q r k):=fun k a=>by
 unfold aV; split
 ·exact hr
 ·exact h k a
theorem Inv0.OE(h:Inv0 L T){x:Int}(hx : ¬ L.node x<0):(L.node x).toNat<L.nn:=by
 rw[h.node]at hx ⊢
 obtain⟨j,a,e,_⟩:=oO (show 0<=aR L.t L.tn x by omega)
 rw[e]; have:=h.tZ; simp; omega
theorem Hg(h:Inv0 L T)(a : ∀ k,k<L.nn->lZ ((qR L v).1 k)):Inv0 (jR L v) (T+1):=by
 unfold jR oZ
 generalize qR L v=W at a
 exact zo h rfl rfl rfl rfl rfl rfl (Nat.succ_le_succ h.gn) (FV h _) a
theorem Hl(h:Inv0 L T)(a : ∀ k,k<L.nn->lZ ((pq L v).1 k)):Inv0 (jf L v) (T+1):=by
 unfold jf oZ
 generalize pq L v=W at a
 exact zo h rfl rfl rfl rfl rfl rfl (Nat.le_succ_of_le h.gn) (FV h _) a
theorem Ke(h:Inv0 L T)(f:bX v=true)(a:nT L v=0):Inv0 (lK L v) (T+1):=by
 have q:=lM f
 have o:=qd f
 have e:=h.gn
 have d : ∀ i,i<6->L.rn i<=T+1:=fun i n=>Nat.le_succ_of_le (h.rn i n)
 unfold nT at a
 unfold lK
 by_cases b:v.kind=1
 ·rw[if_pos b]at a ⊢; exact Hf h f b a
 by_cases c:v.kind=2
 ·rw[if_neg b,if_pos c]at a ⊢
  unfold xq at a
  split at a; · cases a
  rename_i n1
  split at a; · cases a
  rename_i n2
  have p:=qU f (.inl c)
  exact zo h rfl rfl rfl rfl rfl rfl (Nat.le_succ_of_le e) d (FW h.Cy (Kc o (h.Cy _ (h.OE n1)) (by omega) n2))
 by_cases g:v.kind=3
 ·rw[if_neg b,if_neg c,if_pos g]at a ⊢
  have j : ∀ k,k<L.nn->lZ ((qR L v).1 k):=by unfold qR; exact xw (fun x=>MR) h.Cy _
  exact Hg h j
 by_cases l:v.kind=4
 ·rw[if_neg b,if_neg c,if_neg g,if_pos l]at a ⊢
  have j : ∀ k,k<L.nn->lZ ((pq L v).1 k):=by unfold pq; exact xw (fun x=>MS) h.Cy _
  exact Hl h j
 by_cases m:v.kind=5
 ·rw[if_neg b,if_neg c,if_neg g,if_neg l,if_pos m]at a ⊢
  unfold tY at a
  split at a; · cases a
  rename_i n1
  split at a; · cases a
  exact zo h rfl rfl rfl rfl rfl rfl (Nat.le_succ_of_le e) d (FW h.Cy (MU (h.Cy _ (h.OE n1)) a))
 rw[if_neg b,if_neg c,if_neg g,if_neg l,if_neg m]
 split
 ·exact zo h rfl rfl rfl rfl rfl rfl (Nat.le_succ_of_le e) d h.Cy
 exact zo h rfl rfl rfl rfl rfl rfl (Nat.le_succ_of_le e) d h.Cy
theorem xA(h:Inv0 L T):Inv0 (gK L v) (T+1):=by
 unfold gK
 by_cases a:dL L v=0
 ·rw[if_pos a]
  unfold dL at a
  split at a; · cases a
  rename_i h1
  split at a; · cases a
  split at a; · cases a
  rename_i h3
  split at a; · cases a
  have b:bX v=true:=by simpa using h1
  have c:fQ L.known v=true:=by simpa using h3
  have g:=Ke h b a
  have k:=qd b
  have m:=vQ b
  refine { g with kn:=fun i j => ?_ }
  have e:(Ka (lK L v) v).known=aV L.known (bA v) (L.known (bA v)+1):=by unfold Ka; simp only[uM]
  rw[e]
  unfold fQ at c
  simp only[Bool.and_eq_true,decide_eq_true_eq]at c
  have d:=h.kn
  unfold aV
  split
  ·have f:=c.1.2
   have l:v.seq=L.known (bA v)+1:=f
   have:=d (bA v) k
   omega
  exact d i j
 rw[if_neg a]; exact h.mono (Nat.le_succ T)
end
end Rt
end
section
namespace Rt
def Av(t:Nat->Nat->Int)(tn:Nat)(x y:Int):Nat->Int
 | 0=>0
 | k+1=>Av t tn x y k+if aO t tn k x=y then 1 else 0
def uf(t:Nat->Nat->Int)(tn:Nat)(x y:Int):Int:=Av t tn x y (dK t tn x)
def jN(t:Nat->Nat->Int)(tn:Nat)(g:Nat->Int)(y:Int):Int:=if g 4=0 then g 3*uf t tn (g 2) y else 0
def jA(t:Nat->Nat->Int)(tn:Nat)(g:Nat->Nat->Int)(y:Int):Nat->Int
 | 0=>0
 | q+1=>jA t tn g y q+jN t tn (g q) y
structure qW(L:eB):Prop where
 us : ∀ k,k<L.nn->je (L.R k)=jA L.t L.tn L.g (L.id k) L.gn
 gb : ∀ q,q<L.gn->0<=aR L.t L.tn (L.g q 2)/\1<=L.g q 0/\L.g q 0<=6/\0<=L.g q 3/\L.g q 3<=1125899906842624
structure W9(v:EvM):Prop where
 bI:v.bI<=65536
 req:v.req<=256
structure MV(L:eB)(T:Nat):Prop where
 kt : ∀ i,i<6->L.known i<=T
 rb : ∀ k,k<L.nn -> ∀ a,a<54->L.R k a<=2097152*T
 rq : ∀ i,i<6 -> ∀ j,j<L.rn i->L.rq i j<=256
structure Inv(L:eB)(T:Nat):Prop extends Inv0 L T where
 s:qW L
 b:MV L T
section
variable {L:eB} {T:Nat} {v:EvM}
theorem Aw{P:Nat->Bool} : ∀ {n i:Nat},i<lead P n->P i=true
 | 0,i,h=>absurd h (Nat.not_lt_zero _)
 | n+1,i,h=>by
   unfold lead at h
   by_cases e:lead P n=n/\P n=true
   ·rw[if_pos e]at h
    by_cases a:i=n
    ·rw[a]; exact e.2
    ·exact Aw (n:=n) (by omega)
   ·rw[if_neg e]at h; exact Aw h
theorem sF{t:Nat->Nat->Int}{tn i:Nat}{x:Int}(h:i<dK t tn x):0<=aR t tn (aO t tn i x):=of_decide_eq_true (Aw (P:=fun i=>decide (0<=aR t tn (aO t tn i x))) h)
theorem qg{t t':Nat->Nat->Int}{tn b:Nat}{g a:Nat->Nat->Int}{y c:Int} : ∀ n,(∀ q,q<n->jN t' b (a q) c=jN t tn (g q) y)->jA t' b a c n=jA t tn g y n
 | 0,_=>rfl
 | n+1,h=>by unfold jA; rw[qg n fun q d=>h q (by omega),h n (by omega)]
theorem zq{t:Nat->Nat->Int}{tn:Nat}{g:Nat->Nat->Int}{y:Int} : ∀ n,(∀ q,q<n->jN t tn (g q) y=0)->jA t tn g y n=0
 | 0,_=>rfl
 | n+1,h=>by unfold jA; rw[zq n fun q a=>h q (by omega),h n (by omega)]; rfl
theorem CB{t:Nat->Nat->Int}{tn k:Nat}{g:Nat->Nat->Int}{x:Nat->Int}{y:Int} : ∀ n,k<n->jA t tn (aV g k x) y n=jA t tn g y n-jN t tn (g k) y+jN t tn x y
 | 0,h=>absurd h (Nat.not_lt_zero _)
 | n+1,h=>by
   unfold jA
   by_cases e:k=n
   ·subst e
    rw[qg (t:=t) (tn:=tn) (g:=g) (y:=y) k fun q a=>by unfold aV; rw[if_neg (by omega)]]
    unfold aV; rw[if_pos rfl]; omega
   ·rw[CB n (by omega)]
    have:aV g k x n=g n:=if_neg (fun h=>e h.symm)
    rw[this]; omega
theorem CF{t:Nat->Nat->Int}{tn k:Nat}{g:Nat->Nat->Int}{x:Nat->Int}{y:Int} : ∀ n,k<=n->jA t tn (bQ g k x) y (n+1)=jA t tn g y n+jN t tn x y
 | 0,h=>by
   obtain rfl:k=0:=by omega
   show(0:Int)+jN t tn (bQ g 0 x 0) y=0+_
   rw[bL]
 | n+1,h=>by
   by_cases e:k=n+1
   ·subst e
    show jA t tn (bQ g (n+1) x) y (n+1)+jN t tn (bQ g (n+1) x (n+1)) y=_
    rw[bL,qg (t:=t) (tn:=tn) (g:=g) (y:=y) (n+1) fun q a=>by rw[vU a]]
   ·show jA t tn (bQ g k x) y (n+1)+jN t tn (bQ g k x (n+1)) y=jA t tn g y n+jN t tn (g n) y+_
    rw[CF n (by omega),vV (by omega),Nat.add_sub_cancel]; omega
def Kg(idx:Nat->Nat)(k:Nat):Nat->Int
 | 0=>0
 | j+1=>Kg idx k j+if idx j=k then 1 else 0
theorem ug{f:(Nat->Int)->(Nat->Int) × Int}{idx:Nat->Nat}{R:Nat->Nat->Int}{d:Int}(e : ∀ x,(f x).2=0->je (f x).1=je x+d) : ∀ K,(dB f idx R K).2=0 -> ∀ k,je ((dB f idx R K).1 k)=je (R k)+d*Kg idx k K
 | 0,_,k=>by show je (R k)=je (R k)+d*0; omega
 | K+1,h,k=>by
   unfold dB at h ⊢
   by_cases a:(dB f idx R K).2=0
   ·have g:=ug e K a k
    rw[if_pos a]at h ⊢
    by_cases b:(f ((dB f idx R K).1 (idx K))).2=0
    ·rw[if_pos b]
     show je (aV _ (idx K) _ k)=_
     unfold aV Kg
     rw[Int.mul_add]
     by_cases c:k=idx K
     ·subst c
      rw[if_pos rfl,if_pos rfl,e _ b,g]; omega
     ·rw[if_neg c,if_neg (fun h=>c h.symm),g]; omega
    ·rw[if_neg b]at h; exact absurd h b
   ·rw[if_neg a]at h; exact absurd h a
theorem Et{t:Nat->Nat->Int}{tn k:Nat}{x y:Int}{idx:Nat->Nat} : ∀ K,(∀ i,i<K->(idx i=k<->aO t tn i x=y))->Kg idx k K=Av t tn x y K
 | 0,_=>rfl
 | K+1,h=>by
   unfold Kg Av
   rw[Et K fun i b=>h i (by omega)]
   by_cases e:idx K=k
   ·rw[if_pos e,if_pos ((h K (by omega)).1 e)]
   ·rw[if_neg e,if_neg (fun a=>e ((h K (by omega)).2 a))]
theorem vX(h:Inv0 L T){x:Int}{i k:Nat}(g:k<L.nn)(hi:i<dK L.t L.tn x):qo L x i=k<->aO L.t L.tn i x=L.id k:=by
 obtain⟨j,f,e,c⟩:=oO (sF hi)
 have b:j<L.nn:=by rw[<- h.tZ]; exact f
 have l:qo L x i=j:=by unfold qo; rw[h.node,e]; rfl
 rw[l]
 have a:L.id j=aO L.t L.tn i x:=by rw[<- (h.tid j b).1]; exact c
 constructor
 ·rintro rfl; exact a.symm
 intro d; exact h.inj j k b g (a.trans d)
theorem CG{x:Nat->Int}{a:Nat}{n:Int}(ha:a<6):je (upd x a n)=je x:=by
 have b : ∀ k,C (upd x a n) k=C x k:=fun k=>dQ _ _ _ _ (by omega)
 have c : ∀ k,F (upd x a n) k=F x k:=fun k=>dQ _ _ _ _ (by omega)
 unfold je; simp only[b,c]
theorem Kh(h:bX v=true)(b:v.kind=4):1<=v.req:=by
 unfold bX at h
 simp only[Bool.and_eq_true]at h
 have a:=h.2
 unfold iJ at a
 rw[if_neg (by omega),if_neg (by omega),if_neg (by omega),if_pos b]at a
 simp only[Bool.and_eq_true,decide_eq_true_eq]at a
 exact a.1.1
theorem QI{n k:Nat}{g:Nat->Nat->Int}{x:Nat->Int}(a:k<=n)(P:(Nat->Int)->Prop)(h : ∀ q,q<n->P (g q))(hx:P x) : ∀ q,q<n+1->P (bQ g k x q):=fun q b=>by
 rcases cB a b with rfl|⟨j,hj,e,_,_⟩
 ·rw[bL]; exact hx
 ·rw[e]; exact h j hj
attribute [local irreducible] dK in
theorem Eu(j:Inv0 L T)(h:qW L)(e:bX v=true)(b:v.kind=3)(a:nJ L v=0):qW (jR L v):=by
 unfold nJ at a
 split at a; · cases a
 split at a; · cases a
 rename_i hp
 have c:=kP e
 have l:=qU e (.inr (.inl b))
 unfold jR oZ
 have p:=ug (f:=fun x=>bK x v.o v.bI) (idx:=qo L v.node) (R:=L.R) (d:=v.bI) (fun x s=>by obtain⟨_,_,_,_,_,_,_,_,_,_,r,_⟩:=FQ s; exact r) _ a
 refine⟨fun k b => ?_,fun q n => ?_⟩
 ·show je ((qR L v).1 k)=jA L.t L.tn (bQ L.g (down (fun i=>DF v (L.g i)) L.gn) (vT v)) (L.id k) (L.gn+1)
  rw[CF _ (Fx.pQ _ _)]
  have:=p k
  rw[show jN L.t L.tn (vT v) (L.id k)=v.bI*uf L.t L.tn v.node (L.id k)from rfl,<- h.us k b]
  unfold uf
  rw[<- Et (idx:=qo L v.node) (k:=k) _ fun i m=>vX j b m]
  exact this
 exact QI (Fx.pQ _ _) (fun y=>0<=aR L.t L.tn (y 2)/\1<=y 0/\y 0<=6/\0<=y 3/\y 3<=1125899906842624) h.gb
  ⟨sF (i:=0) (x:=v.node) (by omega),c.1,c.2.1,by show 0<=v.bI; omega,l.2⟩ q n
attribute [local irreducible] dK in
theorem Ev(s:Inv0 L T)(h:qW L)(z:bX v=true)(c:v.kind=4)(b:pz L v=0):qW (jf L v):=by
 unfold pz at b
 split at b; · cases b
 split at b; · cases b
 rename_i l
 have F:=Kh z c
 have E:0<=L.grant v.o v.of:=by rcases OD (L.grant v.o v.of)with h|h; · exact absurd (.inl h) l
                                ·exact h
 have D:L.g (uL L v) 4=0:=by
  by_cases e:L.g (uL L v) 4=0
  ·exact e
  ·exact absurd (.inr e) l
 have n:uL L v<L.gn:=by
  rcases iU (fun i=>decide (L.g i 0=v.o)&&decide (L.g i 1=v.of)) L.gn with ⟨k,c,e,_⟩|⟨e,_⟩
  ·have m:L.grant v.o v.of=(k:Int):=e
   unfold uL; rw[m]; exact c
  ·have m:L.grant v.o v.of = -1:=e
   omega
 unfold jf oZ pq
 unfold pq at b
 generalize uL L v=q at *
 have A:=ug (f:=fun x=>bF x v.o (L.g q 3)) (idx:=qo L (L.g q 2)) (R:=L.R) (d := -(L.g q 3)) (fun x C=>by obtain⟨_,_,_,_,_,_,_,_,_,B,_⟩:=FT C; rw[B]; omega) _ b
 have u:=h.gb q n
 refine⟨fun k c => ?_,fun p l => ?_⟩
 ·show je ((dB _ _ _ _).1 k)=jA L.t L.tn (aV L.g q (aV (L.g q) 4 v.req)) (L.id k) L.gn
  rw[CB _ n,<- h.us k c,A k]
  have a:jN L.t L.tn (aV (L.g q) 4 v.req) (L.id k)=0:=by
   unfold jN; rw[if_neg]; show ¬ v.req=0; omega
  have r:jN L.t L.tn (L.g q) (L.id k)=L.g q 3*uf L.t L.tn (L.g q 2) (L.id k):=if_pos D
  rw[a,r]
  unfold uf
  rw[<- Et (idx:=qo L (L.g q 2)) (k:=k) _ fun i w=>vX s c w,Int.neg_mul]
  omega
 show 0<=aR L.t L.tn (aV L.g q (aV (L.g q) 4 v.req) p 2)/\1<=aV L.g q (aV (L.g q) 4 v.req) p 0/\aV L.g q (aV (L.g q) 4 v.req) p 0<=6/\0<=aV L.g q (aV (L.g q) 4 v.req) p 3/\aV L.g q (aV (L.g q) 4 v.req) p 3<=1125899906842624
 by_cases e:p=q
 ·subst e
  have a : ∀ j,j≠4->aV L.g p (aV (L.g p) 4 v.req) p j=L.g p j:=fun j y=>by
   show(if p=p then aV (L.g p) 4 v.req else L.g p) j=_
   rw[if_pos rfl]; exact if_neg y
  rw[a 2 (by omega),a 0 (by omega),a 3 (by omega)]; exact u
 have a:aV L.g q (aV (L.g q) 4 v.req) p=L.g p:=if_neg e
 rw[a]; exact h.gb p l
theorem Ay{a:eB}(h:qW L)(j:a.nn=L.nn)(l:a.id=L.id)(c:a.tn=L.tn)(d:a.t=L.t)(e:a.gn=L.gn)(f:a.g=L.g)(m : ∀ k,k<L.nn->je (a.R k)=je (L.R k)):qW a:=by
 refine⟨fun k b => ?_,fun q i => ?_⟩
 ·rw[j]at b; rw[l,c,d,e,f,m k b]; exact h.us k b
 rw[e]at i; rw[c,d,f]; exact h.gb q i
theorem Ki{q:Nat}{r:Nat->Int}{R:Nat->Nat->Int}(hr:je r=je (R q))(k:Nat):je (aV R q r k)=je (R k):=by
 unfold aV; split
 ·rename_i e; rw[e]; exact hr
 rfl
theorem jF.path{t t':Nat->Nat->Int}{tn:Nat}{id par z y:Int}(h:jF t t' tn id par)(A:1<=id)(r : ∀ i,i<tn->t i 1=0\/0<=aR t tn (t i 1))(p : ∃ D,D<=4/\aR t tn (aO t tn D z)<0)(C:0<=aR t tn z) :
 uf t' (tn+1) z y=uf t tn z y/\(y=id->uf t tn z y=0):=by
 obtain⟨D,w,g⟩:=p
 obtain⟨K,x,c,a⟩:=mV D g
 have f:K=dK t tn z:=sw a c g (by omega)
 have d : ∀ i,i<=K->aO t' (tn+1) i z=aO t tn i z:=fun i b=>h.iter i fun j B=>a j (by omega)
 have k:aR t' (tn+1) (aO t' (tn+1) K z)<0:=by
  rw[d K (Nat.le_refl _)]
  rcases OD (aR t' (tn+1) (aO t tn K z))with h1|h1
  ·exact h1
  ·exfalso
   rcases h.find.1 h1 with h2|h2
   ·omega
   ·cases K with
    | zero=>have:aR t tn z<0:=c; omega
    | succ K =>
      obtain⟨i,b,e⟩:=eH.1 (a K (by omega))
      have l:aO t tn (K+1) z=t i 1:=by
       show t (aR t tn (aO t tn K z)).toNat 1=t i 1
       rw[<- e,mU h.u b]; rfl
      rw[l]at h2 c
      rcases r i b with h4|h4
      ·omega
      ·omega
 have m:K=dK t' (tn+1) z:=sw (fun i b=>by rw[d i (by omega)]; exact h.find.2 (.inl (a i b))) k k (by omega)
 have o : ∀ n,n<=K->Av t' (tn+1) z y n=Av t tn z y n:=by
  intro n
  induction n with
  | zero=>intro _; rfl
  | succ n ih=>intro q; unfold Av; rw[ih (by omega),d n (by omega)]
 refine⟨?_,fun s => ?_⟩
 ·unfold uf; rw[<- f,<- m]; exact o K (Nat.le_refl _)
 subst s
 have : ∀ n,n<=K->Av t tn z y n=0:=by
  intro n
  induction n with
  | zero=>intro _; rfl
  | succ n ih =>
    intro q; unfold Av
    rw[ih (by omega),if_neg]
    ·rfl
    ·intro e
     have:=a n (by omega)
     rw[e]at this
     have v:=mR.2 h.no
     omega
 unfold uf; rw[<- f]; exact this K (Nat.le_refl _)
attribute [local irreducible] dK in
theorem Ew(a:Inv0 L T)(h:qW L)(l:bX v=true)(s:v.kind=1)(r:oQ L v=0):qW (oV L v):=by
 obtain⟨k,u,A,E,D,B,C,p,F,G,n⟩:=qV a l s r
 have z:=qd l
 rw[p]
 generalize sW v.o v.seq=x at *
 have w : ∀ i,i<L.tn->L.t i 1=0\/0<=aR L.t L.tn (L.t i 1):=fun i c=>by
  have d:=c
  rw[a.tZ]at d
  rw[(a.tid i d).2]
  rcases a.up i d with e|⟨j,hj,e⟩
  ·exact .inl e
  ·exact .inr (eH.2 ⟨j,by rw[a.tZ]; exact hj,by rw[(a.tid j hj).1]; exact e⟩)
 have m : ∀ q,q<L.gn -> ∀ y,uf (su L.t k x v.node) (L.tn+1) (L.g q 2) y=uf L.t L.tn (L.g q 2) y/\(y=x->uf L.t L.tn (L.g q 2) y=0):=fun q b y=>n.path A w (a.dep _) (h.gb q b).1
 refine⟨fun i c => ?_,fun q b => ?_⟩
 ·show je (bQ L.R k (upd (fun _=>0) (bA v) v.bI) i)=jA (su L.t k x v.node) (L.tn+1) L.g (bQ L.id k x i) L.gn
  rw[qg (t:=L.t) (tn:=L.tn) (g:=L.g) (y:=bQ L.id k x i) L.gn fun q b=>by unfold jN; rw[(m q b _).1]]
  rcases cB u c with rfl|⟨j,hj,e,_,_⟩
  ·rw[bL,bL,CG z,zq L.gn fun q b=>by unfold jN; rw[(m q b _).2 rfl,Int.mul_zero]; exact ite_self _]
   rfl
  rw[e,e]; exact h.us j hj
 have f:=h.gb q b
 exact⟨n.find.2 (.inl f.1),f.2⟩
theorem Ho(g:Inv0 L T)(h:qW L)(c:bX v=true)(a:nT L v=0):qW (lK L v):=by
 have m:=lM c
 have l:=qd c
 unfold nT at a
 unfold lK
 by_cases b:v.kind=1
 ·rw[if_pos b]at a ⊢; exact Ew g h c b a
 by_cases d:v.kind=2
 ·rw[if_neg b,if_pos d]at a ⊢
  exact Ay h rfl rfl rfl rfl rfl rfl fun k _=>Ki (CG l) k
 by_cases e:v.kind=3
 ·rw[if_neg b,if_neg d,if_pos e]at a ⊢; exact Eu g h c e a
 by_cases f:v.kind=4
 ·rw[if_neg b,if_neg d,if_neg e,if_pos f]at a ⊢; exact Ev g h c f a
 by_cases i:v.kind=5
 ·rw[if_neg b,if_neg d,if_neg e,if_neg f,if_pos i]at a ⊢
  unfold tY at a
  split at a; · cases a
  split at a; · cases a
  obtain⟨_,_,_,_,_,_,_,_,_,_,j,_⟩:=FP a
  exact Ay h rfl rfl rfl rfl rfl rfl fun k _=>Ki j.u k
 rw[if_neg b,if_neg d,if_neg e,if_neg f,if_neg i]
 split
 ·exact Ay h rfl rfl rfl rfl rfl rfl fun _ _=>rfl
 exact Ay h rfl rfl rfl rfl rfl rfl fun _ _=>rfl
theorem Kj{t:Nat->Nat->Int}{tn D:Nat}{x:Int}(h:aR t tn (aO t tn D x)<0):dK t tn x<=D:=by
 rcases Nat.lt_or_ge D (dK t tn x)with h1|h1
 ·have:=sF h1; omega
 exact h1
theorem Inv0.Ub(h:Inv0 L T)(x:Int):dK L.t L.tn x<=4:=by
 obtain⟨D,b,a⟩:=h.dep x
 have:=Kj a; omega
theorem MV.mono{b:Nat}(h:MV L T)(f:T<=b):MV L b where
 kt:=fun i d=>by have:=h.kt i d; omega
 rb:=fun k e a c=>by have:=h.rb k e a c; omega
 rq:=h.rq
theorem Inv.mono{a:Nat}(h:Inv L T)(c:T<=a):Inv L a:=⟨h.toInv0.mono c,h.s,h.b.mono c⟩
end
end Rt
end
namespace Rt
def evX(e:Nat->EvM):Nat->Value:=flat 14 fun k=>dJ (e k)
theorem Eh.kd{K:Nat->Int}(h:Eh K):Fx.Kd (List.replicate 6 (some .u64)) (rv .u64 K):=Fx.Iu fun i a=>Fx.mG (by have:=h i a; omega)
end Rt
section
namespace Rt
def zeroE:EvM:=⟨0,0,fun _=>0,0,0,0,0,0,0⟩
def oh(ev:Nat->EvM):Nat->Nat->Int
 | 0,_=>0
 | k+1,i=>oh ev k i+if bA (ev k)=i then 1 else 0
structure Vo(ev:Nat->EvM)(an:Nat)(K:Nat->Int):Prop where
 le : ∀ i,i<6->K i<=oh ev an i
 cl : ∀ k,k<an->(ev k).seq<=K (bA (ev k)) -> ∀ i,i<6->(ev k).deps i<=K i
structure Cz(n an:Nat)(ev:Nat->EvM)(kn:Nat->Nat->Int):Prop where
 rd : ∀ k,k<an->fQ (oh ev k) (ev k)=true
 reg : ∀ k,k<an->bA (ev k)<n
 own : ∀ o,o<n->kn o o=oh ev an o
 kc : ∀ o,o<n->Vo ev an (kn o)
section
variable {ev:Nat->EvM} {an n j k i:Nat} {K:Nat->Int} {kn kn':Nat->Nat->Int} {v:EvM} {L:eB}
theorem Kk : ∀ d k i,oh ev k i<=oh ev (k+d) i
 | 0,_,_=>Int.le_refl _
 | d+1,k,i=>by have:=Kk d k i; show _<=oh ev (k+d) i+_; split <;> omega
theorem cnt_mono(h:j<=k):oh ev j i<=oh ev k i:=by have:=Kk (ev:=ev) (k-j) j i; rwa [show j+(k-j)=k by omega]at this
theorem Az(h:j<k):oh ev j (bA (ev j))+1<=oh ev k (bA (ev j)):=by
 have a:oh ev (j+1) (bA (ev j))<=oh ev k (bA (ev j)):=cnt_mono (by omega)
 have b:oh ev (j+1) (bA (ev j))=oh ev j (bA (ev j))+1:=by show _+(if _ then _ else _)=_; rw[if_pos rfl]
 omega
theorem SC(h:fQ K v=true):bX v=true/\v.seq=K (bA v)+1 /\ ∀ i,i<6->v.deps i<=K i:=by
 unfold fQ at h
 simp only[Bool.and_eq_true,decide_eq_true_eq]at h
 refine⟨h.1.1,h.1.2,fun i a => ?_⟩
 have:=h.2
 unfold ze at this
 rw[List.all_eq_true]at this
 exact of_decide_eq_true (this i (List.mem_range.2 a))
theorem Cz.seq(h:Cz n an ev kn)(a:k<an):(ev k).seq=oh ev k (bA (ev k))+1:=(SC (h.rd k a)).2.1
theorem Cz.Kl(h:Cz n an ev kn)(a:k<an):(ev k).seq<=oh ev an (bA (ev k)):=by rw[h.seq a]; exact Az a
theorem Cz.uniq(h:Cz n an ev kn)(c:j<an)(d:k<an)(b:bA (ev j)=bA (ev k))(a:(ev j).seq=(ev k).seq):j=k:=by
 rw[h.seq c,h.seq d]at a
 rcases Nat.lt_trichotomy j k with h1|h1|h1
 ·have:=Az (ev:=ev) h1; rw[b]at this a; omega
 ·exact h1
 have:=Az (ev:=ev) h1; rw[<- b]at this a; omega
theorem Cz.step(h:Cz n an ev kn)(c:Vo ev an K)(d:j<an)(hr:fQ K (ev j)=true):Vo ev an (aV K (bA (ev j)) (K (bA (ev j))+1)):=by
 obtain⟨_,l,m⟩:=SC hr
 have g : ∀ i,K i<=aV K (bA (ev j)) (K (bA (ev j))+1) i:=fun i=>by unfold aV; split <;> (try subst_vars) <;> omega
 refine⟨fun i a => ?_,fun k f b i a => ?_⟩
 ·unfold aV; split
  ·rename_i e; rw[e,<- l]; exact h.Kl d
  exact c.le i a
 by_cases e:(ev k).seq<=K (bA (ev k))
 ·exact Int.le_trans (c.cl k f e i a) (g i)
 unfold aV at b
 split at b
 ·rename_i e2
  rw[e2]at e
  have:k=j:=h.uniq f d e2 (by omega)
  subst this
  exact Int.le_trans (m i a) (g i)
 exact absurd b e
theorem lN(h:dL L v=0):fQ L.known v=true:=by
 unfold dL at h
 split at h; · cases h
 split at h; · cases h
 split at h; · cases h
 rename_i h3
 cases e:fQ L.known v with
 | true=>rfl
 | false=>exact absurd e h3
theorem AA(L:eB)(v:EvM):(dL L v=0/\(gK L v).known=aV L.known (bA v) (L.known (bA v)+1))\/(dL L v≠0/\gK L v=L):=by
 by_cases h:dL L v=0
 ·refine .inl ⟨h,?_⟩
  unfold gK; rw[if_pos h]
  show aV (lK L v).known _ _=_
  rw[uM]
 refine .inr ⟨h,?_⟩
 unfold gK; rw[if_neg h]
def ZU(ev:Nat->EvM)(an o:Nat)(K:Nat->Int):Prop:=Vo ev an K/\K o=oh ev an o
theorem Cz.apply(h:Cz n an ev kn){o:Nat}(a:ZU ev an o L.known)(c:j<an):ZU ev an o (gK L (ev j)).known:=by
 rcases AA L (ev j)with ⟨f,b⟩|⟨_,b⟩
 ·have d:=lN f
  rw[b]
  refine⟨h.step a.1 c d,?_⟩
  unfold aV
  split
  ·rename_i e
   have:=(SC d).2.1
   have g:=h.Kl c
   rw[<- e]at this g
   have:=a.2
   omega
  exact a.2
 rw[b]; exact a
theorem Cz.zero(n:Nat)(h : ∀ o,o<n->kn o=fun _=>0):Cz n 0 ev kn:=⟨fun _ h=>absurd h (Nat.not_lt_zero _),fun _ h=>absurd h (Nat.not_lt_zero _),fun o a=>by rw[h o a]; rfl,fun o a=>⟨fun i _=>by rw[h o a]; exact Int.le_refl _,fun _ h=>absurd h (Nat.not_lt_zero _)⟩⟩
end
end Rt
end
end Go.Proofs.YtahbiajdgealnaaDoor
namespace Go.Proofs.YtahbiajdgealnaaDoor
open Go.RowKit
namespace Fx
section
variable {S S':Nat->Prop}
theorem iR.trans(w w' c:World)(h:iR S w w')(k:iR S w' c):iR S w c:=⟨k.os.trans h.os,k.tape.trans h.tape,k.output.trans h.output,Nat.le_trans h.size k.size,fun i b a=>(k.block i (Nat.lt_of_lt_of_le b h.size) a).trans (h.block i b a)⟩
theorem iR.mono{w w':World}(h:iR S w w')(a : ∀ k,S k->S' k):iR S' w w':=⟨h.os,h.tape,h.output,h.size,fun i b c=>h.block i b fun d=>c (a i d)⟩
theorem iR.tH{g:Nat}{w w':World}(h:Stp g w w'):iR (fun k=>k=g) w w':=(rQ _ w).then h (.inl rfl)
end
end Fx
end Go.Proofs.YtahbiajdgealnaaDoor
namespace Go.Proofs.YtahbiajdgealnaaDoor
open Go.RowKit Rt
open Fx (eY dN fJ bC fI fH eO dS fK iq dY iw fq gT iy Lv sN Ln Ws Qv Wl Rp Wc Qs Wr Sb Lk Wk rC rV sR Rs Rn Rd Rk Wb Wx Wo Ab Wt qM Qn Ba uY Bc BF yw Bb DL jw Dt jl qh rQ DX Bd Dr BU Bf rv aC aK dn aH ev bQ Stp bS aS flat gu Mp dH bB fC gF bO down fG iR jr kZ dG bY cells_one jm bP xV unseen jv jE cO bU dA cZ dh gX iP rA iD)
section
set_option linter.unusedVariables false
set_option maxRecDepth 20000
structure dz where
 inn:Nat->Bool
 left:Nat->Bool
 known:Nat->Int
 own:Nat->Int
 T:bW
 R:Nat->Nat->Int
 gn:Nat
 g:Nat->Nat->Int
 an:Nat
 ao:Nat->Int
 ar:Nat->Int
 tp:Nat
 mb:Nat
 pb:Nat
 rb:Nat
 gb:Nat
 ab:Nat
def mY(m:dz):Nat->Value:=fun p=>if p<6 then .bool (m.inn p)else if p<12 then .bool (m.left (p-6))else if p<18 then .int .u64 (m.known (p-12))else if p=18 then .pointer (some ⟨m.tp,0,none⟩)else if p=19 then .map (some m.pb)else if p=20 then .map (some m.rb)else if p<27 then .int .i64 (m.own (p-21))else if p=27 then .map (some m.gb)else .map (some m.ab)
section
variable {m:dz} {p q:Nat}
theorem xB(h:p<6):mY m p = .bool (m.inn p):=by unfold mY; rw[if_pos h]
theorem xC(h:p<6)(e:q=p+6):mY m q = .bool (m.left p):=by subst e; unfold mY; rw[if_neg (by omega),if_pos (by omega),Nat.add_sub_cancel]
theorem mW(h:p<6)(e:q=p+12):mY m q = .int .u64 (m.known p):=by subst e; unfold mY; rw[if_neg (by omega),if_neg (by omega),if_pos (by omega),Nat.add_sub_cancel]
theorem AB(h:p<6)(e:q=p+21):mY m q = .int .i64 (m.own p):=by subst e; unfold mY; rw[if_neg (by omega),if_neg (by omega),if_neg (by omega),if_neg (by omega),if_neg (by omega),if_neg (by omega),if_pos (by omega),Nat.add_sub_cancel]
theorem Km{i:Nat}(hi:i<6)(b:Bool):gu (mY m) i (.bool b)=mY { m with inn:=aV m.inn i b }:=by
 funext p
 unfold gu
 by_cases e:p=i
 ·subst e; rw[if_pos rfl,xB hi]; simp[aV]
 rw[if_neg e]; unfold mY
 by_cases h:p<6
 ·rw[if_pos h,if_pos h]; simp[aV,e]
 rw[if_neg h,if_neg h]
theorem Kn{i:Nat}(hi:i<6)(c:q=i+6)(b:Bool):gu (mY m) q (.bool b)=mY { m with left:=aV m.left i b }:=by
 subst c
 funext p
 unfold gu
 by_cases e:p=i+6
 ·subst e; rw[if_pos rfl,xC hi rfl]; simp[aV]
 rw[if_neg e]; unfold mY
 by_cases h:p<6
 ·rw[if_pos h,if_pos h]
 rw[if_neg h,if_neg h]
 by_cases a:p<12
 ·rw[if_pos a,if_pos a]; simp[aV,show ¬ p-6=i by omega]
 rw[if_neg a,if_neg a]
theorem Hq{i:Nat}(hi:i<6)(c:q=i+12)(x:Int):gu (mY m) q (.int .u64 x)=mY { m with known:=aV m.known i x }:=by
 subst c
 funext p
 unfold gu
 by_cases e:p=i+12
 ·subst e; rw[if_pos rfl,mW hi rfl]; simp[aV]
 rw[if_neg e]; unfold mY
 by_cases h:p<6
 ·rw[if_pos h,if_pos h]
 rw[if_neg h,if_neg h]
 by_cases a:p<12
 ·rw[if_pos a,if_pos a]
 rw[if_neg a,if_neg a]
 by_cases b:p<18
 ·rw[if_pos b,if_pos b]; simp[aV,show ¬ p-12=i by omega]
 rw[if_neg b,if_neg b]
theorem MW{i:Nat}(hi:i<6)(j:q=i+21)(x:Int):gu (mY m) q (.int .i64 x)=mY { m with own:=aV m.own i x }:=by
 subst j
 funext p
 unfold gu
 by_cases e:p=i+21
 ·subst e; rw[if_pos rfl,AB hi rfl]; simp[aV]
 rw[if_neg e]; unfold mY
 by_cases h:p<6
 ·rw[if_pos h,if_pos h]
 rw[if_neg h,if_neg h]
 by_cases a:p<12
 ·rw[if_pos a,if_pos a]
 rw[if_neg a,if_neg a]
 by_cases b:p<18
 ·rw[if_pos b,if_pos b]
 rw[if_neg b,if_neg b]
 by_cases c:p=18
 ·rw[if_pos c,if_pos c]
 rw[if_neg c,if_neg c]
 by_cases d:p=19
 ·rw[if_pos d,if_pos d]
 rw[if_neg d,if_neg d]
 by_cases f:p=20
 ·rw[if_pos f,if_pos f]
 rw[if_neg f,if_neg f]
 by_cases g:p<27
 ·rw[if_pos g,if_pos g]; simp[aV,show ¬ p-21=i by omega]
 rw[if_neg g,if_neg g]
end
def om(R:Nat->Nat->Int):Nat->Value:=fun i => .agg (aC 54 (rv .i64 (R i)))
def xD(T:bW):Nat->Value:=fun j => .int .u64 (T.p j)
def qX(g:Nat->Nat->Int):Nat->Value:=fun i => .agg (aC 5 (vE (g i)))
def xE:Nat->Value:=fun _ => .bool true
structure ZV(m:dz):Prop where
 mp:m.mb≠m.pb
 mr:m.mb≠m.rb
 mg:m.mb≠m.gb
 ma:m.mb≠m.ab
 pr:m.pb≠m.rb
 pg:m.pb≠m.gb
 pa:m.pb≠m.ab
 rg:m.rb≠m.gb
 ra:m.rb≠m.ab
 ga:m.gb≠m.ab
structure gZ(w:World)(B lp:Nat)(m:dz):Prop where
 c:aK w lp 29 (mY m) 93
 t:kV w B m.tp m.mb m.T
 p:Mp w m.pb m.T.n m.T.x (xD m.T)
 r:Mp w m.rb m.T.n m.T.x (om m.R)
 g:fC w m.gb m.gn (fun i=>m.g i 0) (fun i=>m.g i 1) (qX m.g)
 a:fC w m.ab m.an m.ao m.ar xE
 ne:ZV m
 lB:B<=lp
 pB:B<=m.pb
 rB:B<=m.rb
 gB:B<=m.gb
 aB:B<=m.ab
def xG(m:dz)(lp:Nat)(k:Nat):Prop:=k=lp\/k=m.mb\/k=m.pb\/k=m.rb\/k=m.gb\/k=m.ab
section
variable {w w':World} {B lp:Nat} {m:dz}
theorem gZ.up(h:gZ w B lp m)(b:Below w.heap.size w w'):gZ w' B lp m := { h with c:=h.c.dX (Sb b) (Nat.ne_of_lt h.c.lt),t:=h.t.up b,p:=h.p.up b,r:=h.r.up b,g:=h.g.up b,a:=h.a.up b }
instance:Rt.Tr w w' (gZ w B lp m) (gZ w' B lp m):=⟨fun b h=>h.up b⟩
theorem gZ.jo{d:List TypeId}(h:gZ w B lp m)(b:jm d w w')(e:(d.contains 93 || d.contains 116)=false):gZ w' B lp m:=by
 rw[Bool.or_eq_false_iff]at e
 exact { h with c:=h.c.jo b e.1,t:=h.t.jo b e.2,p:=h.p.jo b trivial,r:=h.r.jo b trivial,g:=h.g.jo b trivial,a:=h.a.jo b trivial }
instance {a:List TypeId}:Rt.Tc a w w' (gZ w B lp m) (gZ w' B lp m) (!(a.contains 93 || a.contains 116)):=⟨fun b h e=>h.jo b (by simpa using e)⟩
theorem kV.keep{b a:Nat}{T:bW}(h:kV w B b a T)(c:w'.heap[b]? = w.heap[b]?)(d:w'.heap[a]? = w.heap[a]?):kV w' B b a T:=⟨c.trans h.blk,h.map.keep d,h.inv,h.gt,h.gm⟩
theorem gZ.keep(h:gZ w B lp m)(b : ∀ k,k=lp\/k=m.tp\/k=m.mb\/k=m.pb\/k=m.rb\/k=m.gb\/k=m.ab->w'.heap[k]? = w.heap[k]?):gZ w' B lp m := { h with
 c:=(b _ (.inl rfl)).trans h.c,t:=kV.keep h.t (b _ (.inr (.inl rfl))) (b _ (.inr (.inr (.inl rfl)))),p:=h.p.keep (b _ (.inr (.inr (.inr (.inl rfl))))),r:=h.r.keep (b _ (.inr (.inr (.inr (.inr (.inl rfl)))))),
 g:=h.g.keep (b _ (.inr (.inr (.inr (.inr (.inr (.inl rfl))))))),a:=h.a.keep (b _ (.inr (.inr (.inr (.inr (.inr (.inr rfl))))))) }
theorem gZ.Vb{S:Nat->Prop}(h:gZ w B lp m)(f:iR S w w')(d : ∀ k,k=m.tp\/xG m lp k -> ¬ S k):gZ w' B lp m:=by
 have b : ∀ k,k<w.heap.size -> ¬ S k->w'.heap[k]? = w.heap[k]? := f.block
 refine h.keep fun k e => ?_
 rcases e with rfl|rfl|rfl|rfl|rfl|rfl|rfl
 ·exact b _ h.c.lt (d _ (.inr (.inl rfl)))
 ·exact b _ h.t.blk.lt (d _ (.inl rfl))
 ·exact b _ h.t.lt (d _ (.inr (.inr (.inl rfl))))
 ·exact b _ h.p.lt (d _ (.inr (.inr (.inr (.inl rfl)))))
 ·exact b _ h.r.lt (d _ (.inr (.inr (.inr (.inr (.inl rfl))))))
 ·exact b _ h.g.lt (d _ (.inr (.inr (.inr (.inr (.inr (.inl rfl)))))))
 exact b _ h.a.lt (d _ (.inr (.inr (.inr (.inr (.inr (.inr rfl)))))))
theorem gZ.weak{b:Nat}(h:gZ w B lp m)(a:b<=B):gZ w b lp m := { h with t:=h.t.weak a,lB:=Nat.le_trans a h.lB,pB:=Nat.le_trans a h.pB,rB:=Nat.le_trans a h.rB,gB:=Nat.le_trans a h.gB,aB:=Nat.le_trans a h.aB }
theorem gZ.lt(h:gZ w B lp m):lp<w.heap.size:=h.c.lt
theorem gZ.ltS(h:gZ w B lp m){k:Nat}(b:xG m lp k):B<=k/\k<w.heap.size:=by
 rcases b with rfl|rfl|rfl|rfl|rfl|rfl
 ·exact⟨h.lB,h.c.lt⟩
 ·exact⟨h.t.gm,h.t.lt⟩
 ·exact⟨h.pB,h.p.lt⟩
 ·exact⟨h.rB,h.r.lt⟩
 ·exact⟨h.gB,h.g.lt⟩
 exact⟨h.aB,h.a.lt⟩
end
namespace Rt
def sG(x:Nat->Int):Nat->Int->Nat
 | 0,_=>0
 | n+1,k=>if x n=k then n else sG x n k
theorem jg{x:Nat->Int}{j:Nat}{k:Int} : ∀ {n:Nat},(∀ a b,a<n->b<n->x a=x b->a=b)->j<n->x j=k->sG x n k=j
 | 0,_,h,_=>absurd h (Nat.not_lt_zero _)
 | n+1,hi,hj,e=>by
   unfold sG
   by_cases c:x n=k
   ·rw[if_pos c]; exact hi n j (by omega) hj (c.trans e.symm)
   ·rw[if_neg c]
    refine jg (fun a b d f=>hi a b (by omega) (by omega)) ?_ e
    rcases Nat.lt_or_ge j n with h|h
    ·exact h
    ·obtain rfl:j=n:=by omega
     exact absurd e c
end Rt
def dz.idx(m:dz)(k:Int):Nat:=sG m.T.x m.T.n k
def Ko(m:dz)(lp a:Nat)(k:Nat):Prop:=xG m lp k\/a<=k
structure Kq(w:World)(B lp:Nat)(m m':dz)(b0:Nat)(fv:Value)(fi:Nat)(cap:Array Value):Prop where
 e:fv = .func (.func fi) #[] cap
 f : ∃ fn c, Tryd.prog.funcs[fi]? = some fn ∧ (fn.name == "runtime.NumGoroutine") = false ∧ fn.body = some c
 s : ∀ w2,Below w.heap.size w w2->Calls Tryd.prog fi cap w2 fun e w3=>e = .returned (.tuple #[])/\gZ w3 B lp m'/\iR (Ko m lp b0) w2 w3
def Ie(w:World)(B lp:Nat)(m f:dz)(b:Int)(e:Ending)(w':World):Prop :=
 (∃ a d c,e = .returned (.tuple #[a,.int .i64 b])/\a.oneCell'=true/\(b=0->Kq w' B lp m f w.heap.size a d c))/\Below w.heap.size w w'
theorem gZ.AJ{w w':World}{B lp g n d:Nat}{m:dz}{x:Nat->Value}{T:TypeId}(h:gZ w B lp m)(b:aK w g n x T)(f:T≠93)(i:iR (Ko m lp d) w w')(j:g<d):aK w' g n x T:=b.Vb i fun e=>by
 rcases e with (rfl|rfl|rfl|rfl|rfl|rfl)|e
 ·exact f (Fx.Ty.only h.c.ty b.ty)
 ·exact h.t.map.kJ b.ty
 ·exact h.p.kJ b.ty
 ·exact h.r.kJ b.ty
 ·exact h.g.kJ b.ty
 ·exact h.a.kJ b.ty
 ·omega
theorem Fx.FX{P:Program}{f:Nat->Value}{w:World}{o:Oper}{g:Nat}{t:Operand}{b:List Operand}{args:List Value}{d:Array TypeId}{cap all:Array Value}(l:o.op = .call { callee := .value t,args:=b.toArray,argTypes:=d })(m:ev f t = .func (.func g) #[] cap)(hx:b.map (ev f)=args)(j:args.toArray++cap=all)
 (k : ∃ a c, P.funcs[g]? = some a ∧ (a.name == "runtime.NumGoroutine") = false ∧ a.body = some c) : (execOp (ev f) o).run P w = .ok (.enter g all) w := by
 obtain⟨a,c,e,h,i⟩:=k
 exact Fx.wz l m hx (by rw[<- j]; simp) e h i
namespace Fx
theorem It.bV{w w':World}{r b n g:Nat}{S:Nat->Bool}(h:It w r b n S)(a:GA g w w')(c:b≠g)(d:r≠g):It w' r b n S:=h.keep (a.s.block b h.PV c) (a.s.block r h.lt d)
theorem sS.bV{w w':World}{r b i g:Nat}(h:sS w r b i)(a:GA g w w')(c:b≠g)(d:r≠g):sS w' r b i:=h.keep (a.s.block b h.PV c) (a.s.block r h.lt d)
end Fx
end
end Go.Proofs.YtahbiajdgealnaaDoor
namespace Go.Proofs.YtahbiajdgealnaaDoor.Fx
open Go.RowKit
section
variable {P:Program} {n0:Nat} {Q:Post} {f:Nat->Value} {w:World} {ops:Array Oper} {rest:List Oper} {o:Oper}
theorem Ey{T E:TypeId}{x:Operand}{b off n s:Nat}(d:o.op = .slice T x none none none)(hx:ev f x = .pointer (some ⟨b,off,none⟩))(c:P.underlying T=some (.array n E))(e:(P.info? E).map (·.size)=some s) :
 Runs P f o w (.slice (some ⟨b,off,none⟩) n n):=by
 obtain⟨i,a,g⟩:=Option.map_eq_some_iff.1 e
 unfold Runs execOp
 simp only[d,hx,Option.map_none]
 by_cases h:n=0
 ·subst h; simp[Instr.sliceAt,Instr.sureAddr,underlying,c,Instr.sliceBounds,sizeOf,typeInfo,a]
 simp[Instr.sliceAt,Instr.sureAddr,underlying,c,Instr.sliceBounds,sizeOf,typeInfo,a,Addr.add,g]
end
end Go.Proofs.YtahbiajdgealnaaDoor.Fx
namespace Go.Proofs.YtahbiajdgealnaaDoor
open Go.RowKit Rt
open Fx (eY dN fJ bC fI fH eO dS fK iq dY iw fq gT iy Lv sN Ln Ws Qv Wl Rp Wc Qs Wr Sb Lk Wk rC rV sR Rs Rn Rd Rk Wb Wx Wo Ab Wt qM Qn Ba uY Bc BF yw Bb DL jw Dt jl qh rQ DX Bd Dr BU Bf rv aC aK dn aH ev bQ Stp bS aS flat gu Mp dH bB fC gF bO down fG iR jr kZ dG bY cells_one jm bP xV unseen jv jE cO bU dA cZ dh gX iP rA iD)
namespace Rt
def gV(v:EvM)(l:Int):Bool:=decide (l<=v.bI)&&decide (v.bI<=1125899906842624)
def jZ(v:EvM):EvM:=⟨v.o,v.seq,v.deps,v.kind,0,v.dst,0,v.req,v.of⟩
def pE(v:EvM):Bool:=decide (0<v.req)
def Ez(v:EvM):EvM:=⟨v.o,v.seq,v.deps,v.kind,v.node,v.dst,v.bI,0,v.of⟩
def QJ(v:EvM):EvM:=⟨v.o,v.seq,v.deps,v.kind,v.node,v.dst,v.bI,0,0⟩
def toB(v:EvM):Bool:=iW v.dst && !decide (v.dst=v.o)
def CJ(v:EvM):EvM:=⟨v.o,v.seq,v.deps,v.kind,v.node,0,v.bI,v.req,v.of⟩
end Rt
def Rt.vF(v:EvM):Bool:=decide (0<v.req)&&(decide (0<v.of) && !decide (v.of=v.req))
theorem sH(n:Int)(w:World) :
 Calls Tryd.prog 65 #[au n] w fun e w'=>e = .returned (.bool (iW n))/\w'=w:=by
 refine Kent Tryd.func65 9 ?_
 refine ay<|av aF<|aD<|ay<|av (au n) ?_
 by_cases a:1<=n
 ·refine Lv aI (nY a)<|av aI<|av (au n) ?_
  by_cases b:n<=6
  ·refine Lv aI (nX b)<|av aI<|av aI<|aD<|Wr<|aL aI ?_
   exact⟨lX (by simp only[iW]; first|(symm; simp; omega)|(symm; simp; done)),rfl⟩
  refine Lv aF (oF b)<|av aF<|av aF<|aD<|Wr<|aL aF ?_
  exact⟨lX (by simp only[iW]; first|(symm; simp; omega)|(symm; simp; done)),rfl⟩
 refine Lv aF (nu a)<|av aF<|jP<|jP<|av aF<|av aF<|aD<|Wr<|aL aF ?_
 exact⟨lX (by simp only[iW]; first|(symm; simp; omega)|(symm; simp; done)),rfl⟩
theorem AL(l:Int)(v:EvM)(g:Nat)(w:World)(a:aK w g 14 (dJ v) 139) :
 Calls Tryd.prog 94 #[(pt g),au l] w fun e w'=>e = .returned (.bool (gV v l))/\aK w' g 14 (dJ (jZ v)) 139/\Stp g w w':=by
 have P:=a.lt
 refine Kent Tryd.func94 30 ?_
 refine ay<|av aF<|aD<|ay<|av ((pt g))<|av ((pt g))<|av ((pt g))<|av ((pf g 11))<|Lv (au v.bI) (aP a.aM 11)<|av (au l) ?_
 by_cases c:l<=v.bI
 ·refine Lv aI (nY c)<|av aI<|av ((pt g))<|av ((pt g))<|av ((pt g))<|av ((pf g 11))<|Lv (au v.bI) (aP a.aM 11) ?_
  by_cases d:v.bI<=1125899906842624
  ·refine Lv aI (nX d)<|av aI<|av aI<|aD<|ay<|av ((pt g))<|av ((pt g))<|av ((pt g))<|av ((pt g))<|av ((pf g 9))<|mX a 9 (aA 0) fun J p D Q => ?_
   have t:aK J g 14 (dJ (⟨v.o,v.seq,v.deps,v.kind,0,v.dst,v.bI,v.req,v.of⟩:EvM)) 139:=p.congr (fun j b=>by rcases j with _|_|_|_|_|_|_|_|_|_|_|_|_|_|j <;> first|rfl|omega)
   have f:=(jl g w).then D (by omega)
   refine av ((pt g))<|av ((pt g))<|av ((pf g 11))<|mX t 11 (au 0) fun K u E R => ?_
   have x:aK K g 14 (dJ (⟨v.o,v.seq,v.deps,v.kind,0,v.dst,0,v.req,v.of⟩:EvM)) 139:=u.congr (fun j b=>by rcases j with _|_|_|_|_|_|_|_|_|_|_|_|_|_|j <;> first|rfl|omega)
   have h:=f.then E (by omega)
   refine aD<|ay<|av aI<|av aI<|aD<|Wr<|aL aI ?_
   exact⟨lX (by simp only[gV]; first|(symm; simp; omega)|(symm; simp; done)),x,h⟩
  refine Lv aF (oF d)<|av aF<|av aF<|aD<|ay<|av ((pt g))<|av ((pt g))<|av ((pt g))<|av ((pt g))<|av ((pf g 9))<|mX a 9 (aA 0) fun L y F S => ?_
  have z:aK L g 14 (dJ (⟨v.o,v.seq,v.deps,v.kind,0,v.dst,v.bI,v.req,v.of⟩:EvM)) 139:=y.congr (fun j b=>by rcases j with _|_|_|_|_|_|_|_|_|_|_|_|_|_|j <;> first|rfl|omega)
  have i:=(jl g w).then F (by omega)
  refine av ((pt g))<|av ((pt g))<|av ((pf g 11))<|mX z 11 (au 0) fun M A G T => ?_
  have B:aK M g 14 (dJ (⟨v.o,v.seq,v.deps,v.kind,0,v.dst,0,v.req,v.of⟩:EvM)) 139:=A.congr (fun j b=>by rcases j with _|_|_|_|_|_|_|_|_|_|_|_|_|_|j <;> first|rfl|omega)
  have k:=i.then G (by omega)
  refine aD<|ay<|av aF<|av aF<|aD<|Wr<|aL aF ?_
  exact⟨lX (by simp only[gV]; first|(symm; simp; omega)|(symm; simp; done)),B,k⟩
 refine Lv aF (nu c)<|av aF<|jP<|jP<|jP<|jP<|jP<|jP<|av aF<|av aF<|aD<|ay<|av ((pt g))<|av ((pt g))<|av ((pt g))<|av ((pt g))<|av ((pf g 9))<|mX a 9 (aA 0) fun N C H U => ?_
 have q:aK N g 14 (dJ (⟨v.o,v.seq,v.deps,v.kind,0,v.dst,v.bI,v.req,v.of⟩:EvM)) 139:=C.congr (fun j b=>by rcases j with _|_|_|_|_|_|_|_|_|_|_|_|_|_|j <;> first|rfl|omega)
 have m:=(jl g w).then H (by omega)
 refine av ((pt g))<|av ((pt g))<|av ((pf g 11))<|mX q 11 (au 0) fun O r I V => ?_
 have s:aK O g 14 (dJ (⟨v.o,v.seq,v.deps,v.kind,0,v.dst,0,v.req,v.of⟩:EvM)) 139:=r.congr (fun j b=>by rcases j with _|_|_|_|_|_|_|_|_|_|_|_|_|_|j <;> first|rfl|omega)
 have n:=m.then I (by omega)
 refine aD<|ay<|av aF<|av aF<|aD<|Wr<|aL aF ?_
 exact⟨lX (by simp only[gV]; first|(symm; simp; omega)|(symm; simp; done)),s,n⟩
theorem FY(v:EvM)(g:Nat)(w:World)(a:aK w g 14 (dJ v) 139) :
 Calls Tryd.prog 95 #[(pt g)] w fun e w'=>e = .returned (.bool (pE v))/\aK w' g 14 (dJ (Ez v)) 139/\Stp g w w':=by
 have r:=a.lt
 refine Kent Tryd.func95 15 ?_
 refine ay<|av aF<|aD<|ay<|av ((pt g))<|av ((pt g))<|av ((pt g))<|av ((pf g 12))<|Lv (aA v.req) (aP a.aM 12) ?_
 by_cases b:0<v.req
 ·refine Lv aI (BH b)<|av aI<|aD<|ay<|av ((pt g))<|av ((pt g))<|av ((pt g))<|av ((pf g 12))<|mX a 12 (aA 0) fun p h m s => ?_
  have i:aK p g 14 (dJ (⟨v.o,v.seq,v.deps,v.kind,v.node,v.dst,v.bI,0,v.of⟩:EvM)) 139:=h.congr (fun j f=>by rcases j with _|_|_|_|_|_|_|_|_|_|_|_|_|_|j <;> first|rfl|omega)
  have c:=(jl g w).then m (by omega)
  refine aD<|ay<|av aI<|av aI<|aD<|Wr<|aL aI ?_
  exact⟨lX (by simp only[pE]; first|(symm; simp; omega)|(symm; simp; done)),i,c⟩
 refine Lv aF (BI b)<|av aF<|aD<|ay<|av ((pt g))<|av ((pt g))<|av ((pt g))<|av ((pf g 12))<|mX a 12 (aA 0) fun q k n t => ?_
 have l:aK q g 14 (dJ (⟨v.o,v.seq,v.deps,v.kind,v.node,v.dst,v.bI,0,v.of⟩:EvM)) 139:=k.congr (fun j f=>by rcases j with _|_|_|_|_|_|_|_|_|_|_|_|_|_|j <;> first|rfl|omega)
 have d:=(jl g w).then n (by omega)
 refine aD<|ay<|av aF<|av aF<|aD<|Wr<|aL aF ?_
 exact⟨lX (by simp only[pE]; first|(symm; simp; omega)|(symm; simp; done)),l,d⟩
theorem Xa(v:EvM)(g:Nat)(w:World)(h:aK w g 14 (dJ v) 139) :
 Calls Tryd.prog 96 #[(pt g)] w fun e w'=>e = .returned (.bool (vF v))/\aK w' g 14 (dJ (QJ v)) 139/\Stp g w w':=by
 have lg:=h.lt
 refine Kent Tryd.func96 32 ?_
 refine ay<|av aF<|aD<|Ws ?_
 -- region 1 draws
 refine VR<|aZ ((pt g))<|aZ ((pt g))<|aZ ((pt g))<|aZ ((pf g 13))<|Qv (aA v.of) (fun b d=>aP (h.aM.dr d) 13) ?_
 by_cases r:0<v.of
 ·refine Qv aI (fun b d=>BH r)<|aZ aI<|aZ ((pt g))<|aZ ((pt g))<|aZ ((pt g))<|aZ ((pf g 13))<|Qv (aA v.of) (fun b d=>aP (h.aM.dr d) 13)<|aZ ((pt g))<|aZ ((pt g))<|aZ ((pt g))<|aZ ((pf g 12))<|Qv (aA v.req) (fun b d=>aP (h.aM.dr d) 12) ?_
  by_cases q:v.of=v.req
  ·refine Qv aF (fun b d=>qP q)<|aZ aF<|aZ aF<|Qn ?_
   rintro _ ⟨f,rfl⟩
   obtain⟨Z,i⟩ : ∃ b,b=World.drewN w f:=⟨_,rfl⟩
   rw[<- i]
   have y:Stp w.heap.size w Z:=by rw[i]; exact Sb (Gr w f)
   have H:=aQ y.old h
   have B:=(jl g w).then y (.inr (jl g w).size)
   clear i
   refine sN<|ay<|av ((pt g))<|av ((pt g))<|av ((pt g))<|av ((pf g 13))<|mX H 13 (aA 0) fun W K Q z1 => ?_
   have L:aK W g 14 (dJ (⟨v.o,v.seq,v.deps,v.kind,v.node,v.dst,v.bI,v.req,0⟩:EvM)) 139:=K.congr (fun j s=>by rcases j with _|_|_|_|_|_|_|_|_|_|_|_|_|_|j <;> first|rfl|omega)
   have C:=B.then Q (by omega)
   refine aD<|ay<|av ((pt g))<|jT (FY (⟨v.o,v.seq,v.deps,v.kind,v.node,v.dst,v.bI,v.req,0⟩:EvM) g _ L) ?_
   rintro e w2 ⟨a,u,R⟩
   have m:=C.then R (by omega)
   by_cases c:pE (⟨v.o,v.seq,v.deps,v.kind,v.node,v.dst,v.bI,v.req,0⟩:EvM)=true
   ·refine⟨.bool true,by rw[a,c],?_⟩
    clear a
    refine av aI<|av aF<|av aF<|av aF<|aD<|Wr<|aL aF ?_
    exact⟨lX (by simp only[vF,pE]at *; first|(symm; simp; omega)|(symm; simp at *; omega)|(symm; simp at *; done)),u,m⟩
   rw[Bool.not_eq_true]at c
   refine⟨.bool false,by rw[a,c],?_⟩
   clear a
   refine av aF<|jP<|av aF<|av aF<|aD<|Wr<|aL aF ?_
   exact⟨lX (by simp only[vF,pE]at *; first|(symm; simp; omega)|(symm; simp at *; omega)|(symm; simp at *; done)),u,m⟩
  refine Qv aI (fun b d=>tu q)<|aZ aI<|aZ aI<|Qn ?_
  rintro _ ⟨f,rfl⟩
  obtain⟨aa,k⟩ : ∃ b,b=World.drewN w f:=⟨_,rfl⟩
  rw[<- k]
  have z:Stp w.heap.size w aa:=by rw[k]; exact Sb (Gr w f)
  have M:=aQ z.old h
  have D:=(jl g w).then z (.inr (jl g w).size)
  clear k
  refine sN<|ay<|av ((pt g))<|av ((pt g))<|av ((pt g))<|av ((pf g 13))<|mX M 13 (aA 0) fun X N S z2 => ?_
  have O:aK X g 14 (dJ (⟨v.o,v.seq,v.deps,v.kind,v.node,v.dst,v.bI,v.req,0⟩:EvM)) 139:=N.congr (fun j s=>by rcases j with _|_|_|_|_|_|_|_|_|_|_|_|_|_|j <;> first|rfl|omega)
  have E:=D.then S (by omega)
  refine aD<|ay<|av ((pt g))<|jT (FY (⟨v.o,v.seq,v.deps,v.kind,v.node,v.dst,v.bI,v.req,0⟩:EvM) g _ O) ?_
  rintro e w4 ⟨a,x,T⟩
  have n:=E.then T (by omega)
  by_cases c:pE (⟨v.o,v.seq,v.deps,v.kind,v.node,v.dst,v.bI,v.req,0⟩:EvM)=true
  ·refine⟨.bool true,by rw[a,c],?_⟩
   clear a
   refine av aI<|av aI<|av aI<|av aI<|aD<|Wr<|aL aI ?_
   exact⟨lX (by simp only[vF,pE]at *; first|(symm; simp; omega)|(symm; simp at *; omega)|(symm; simp at *; done)),x,n⟩
  rw[Bool.not_eq_true]at c
  refine⟨.bool false,by rw[a,c],?_⟩
  clear a
  refine av aF<|jP<|av aF<|av aF<|aD<|Wr<|aL aF ?_
  exact⟨lX (by simp only[vF,pE]at *; first|(symm; simp; omega)|(symm; simp at *; omega)|(symm; simp at *; done)),x,n⟩
 refine Qv aF (fun b d=>BI r)<|aZ aF<|aU<|aU<|aU<|aU<|aU<|aU<|aU<|aU<|aU<|aU<|aU<|aZ aF<|aZ aF<|Qn ?_
 rintro _ ⟨f,rfl⟩
 obtain⟨ab,l⟩ : ∃ b,b=World.drewN w f:=⟨_,rfl⟩
 rw[<- l]
 have A:Stp w.heap.size w ab:=by rw[l]; exact Sb (Gr w f)
 have P:=aQ A.old h
 have F:=(jl g w).then A (.inr (jl g w).size)
 clear l
 refine sN<|ay<|av ((pt g))<|av ((pt g))<|av ((pt g))<|av ((pf g 13))<|mX P 13 (aA 0) fun Y I U z3 => ?_
 have J:aK Y g 14 (dJ (⟨v.o,v.seq,v.deps,v.kind,v.node,v.dst,v.bI,v.req,0⟩:EvM)) 139:=I.congr (fun j s=>by rcases j with _|_|_|_|_|_|_|_|_|_|_|_|_|_|j <;> first|rfl|omega)
 have G:=F.then U (by omega)
 refine aD<|ay<|av ((pt g))<|jT (FY (⟨v.o,v.seq,v.deps,v.kind,v.node,v.dst,v.bI,v.req,0⟩:EvM) g _ J) ?_
 rintro e w6 ⟨a,t,V⟩
 have p:=G.then V (by omega)
 by_cases c:pE (⟨v.o,v.seq,v.deps,v.kind,v.node,v.dst,v.bI,v.req,0⟩:EvM)=true
 ·refine⟨.bool true,by rw[a,c],?_⟩
  clear a
  refine av aI<|av aF<|av aF<|av aF<|aD<|Wr<|aL aF ?_
  exact⟨lX (by simp only[vF,pE]at *; first|(symm; simp; omega)|(symm; simp at *; omega)|(symm; simp at *; done)),t,p⟩
 rw[Bool.not_eq_true]at c
 refine⟨.bool false,by rw[a,c],?_⟩
 clear a
 refine av aF<|jP<|av aF<|av aF<|aD<|Wr<|aL aF ?_
 exact⟨lX (by simp only[vF,pE]at *; first|(symm; simp; omega)|(symm; simp at *; omega)|(symm; simp at *; done)),t,p⟩
theorem Uc(v:EvM)(g:Nat)(w:World)(a:aK w g 14 (dJ v) 139) :
 Calls Tryd.prog 97 #[(pt g)] w fun e w'=>e = .returned (.bool (toB v))/\aK w' g 14 (dJ (CJ v)) 139/\Stp g w w':=by
 have Q:=a.lt
 refine Kent Tryd.func97 28 ?_
 refine ay<|av aF<|aD<|Ws ?_
 -- region 1 draws
 refine jX<|aZ ((pt g))<|aZ ((pt g))<|aZ ((pt g))<|aZ ((pf g 10))<|Qv (au v.dst) (fun d b=>aP (a.cb b) 10) ?_
 by_cases c:(iW v.dst)=true
 ·refine lu (fun _ _=>sH v.dst _) aI (by rw[c])<|aZ aI<|aZ ((pt g))<|aZ ((pt g))<|aZ ((pt g))<|aZ ((pf g 10))<|Qv (au v.dst) (fun d b=>aP (a.cb b) 10)<|aZ ((pt g))<|aZ ((pt g))<|aZ ((pt g))<|aZ ((pt g))<|Qv (au v.o) (fun d b=>aP (a.cb b) 0) ?_
  by_cases f:v.dst=v.o
  ·refine Qv aF (fun d b=>qP f)<|aZ aF<|aZ aF<|Qn ?_
   intro N h
   have E:Stp w.heap.size w N:=Sb h
   have t:=aQ h a
   have m:=(jl g w).then E (.inr (jl g w).size)
   refine sN<|ay<|av ((pt g))<|av ((pt g))<|av ((pt g))<|av ((pf g 10))<|mX t 10 (au 0) fun K u F R => ?_
   have x:aK K g 14 (dJ (⟨v.o,v.seq,v.deps,v.kind,v.node,0,v.bI,v.req,v.of⟩:EvM)) 139:=u.congr (fun j l=>by rcases j with _|_|_|_|_|_|_|_|_|_|_|_|_|_|j <;> first|rfl|omega)
   have n:=m.then F (by omega)
   refine aD<|ay<|av aF<|av aF<|aD<|Wr<|aL aF ?_
   exact⟨lX (by unfold toB; rw[c]; first|(symm; simp; omega)|(symm; simp; done)),x,n⟩
  refine Qv aI (fun d b=>tu f)<|aZ aI<|aZ aI<|Qn ?_
  intro O i
  have G:Stp w.heap.size w O:=Sb i
  have y:=aQ i a
  have p:=(jl g w).then G (.inr (jl g w).size)
  refine sN<|ay<|av ((pt g))<|av ((pt g))<|av ((pt g))<|av ((pf g 10))<|mX y 10 (au 0) fun L z H S => ?_
  have A:aK L g 14 (dJ (⟨v.o,v.seq,v.deps,v.kind,v.node,0,v.bI,v.req,v.of⟩:EvM)) 139:=z.congr (fun j l=>by rcases j with _|_|_|_|_|_|_|_|_|_|_|_|_|_|j <;> first|rfl|omega)
  have q:=p.then H (by omega)
  refine aD<|ay<|av aI<|av aI<|aD<|Wr<|aL aI ?_
  exact⟨lX (by unfold toB; rw[c]; first|(symm; simp; omega)|(symm; simp; done)),A,q⟩
 rw[Bool.not_eq_true]at c
 refine lu (fun _ _=>sH v.dst _) aF (by rw[c])<|aZ aF<|aU<|aU<|aU<|aU<|aU<|aU<|aU<|aU<|aU<|aU<|aU<|aZ aF<|aZ aF<|Qn ?_
 intro P k
 have I:Stp w.heap.size w P:=Sb k
 have B:=aQ k a
 have r:=(jl g w).then I (.inr (jl g w).size)
 refine sN<|ay<|av ((pt g))<|av ((pt g))<|av ((pt g))<|av ((pf g 10))<|mX B 10 (au 0) fun M C J T => ?_
 have D:aK M g 14 (dJ (⟨v.o,v.seq,v.deps,v.kind,v.node,0,v.bI,v.req,v.of⟩:EvM)) 139:=C.congr (fun j l=>by rcases j with _|_|_|_|_|_|_|_|_|_|_|_|_|_|j <;> first|rfl|omega)
 have s:=r.then J (by omega)
 refine aD<|ay<|av aF<|av aF<|aD<|Wr<|aL aF ?_
 exact⟨lX (by unfold toB; rw[c]; first|(symm; simp; omega)|(symm; simp; done)),D,s⟩
namespace Rt
def iI(v:EvM):Bool :=
 if v.kind=1 then gV v 0 else if v.kind=2 then gV v 1 else if v.kind=3 then gV v 1&&pE v else if v.kind=4 then vF v else if v.kind=5 then gV v 1&&toB v else if v.kind=6 then toB v else decide (v.kind=7)
def jU(v:EvM):EvM :=
 if v.kind=1 then jZ v else if v.kind=2 then jZ v else if v.kind=3 then Ez (jZ v)else if v.kind=4 then QJ v else if v.kind=5 then CJ (jZ v)else if v.kind=6 then CJ v else v
def Kt(v:EvM):EvM:=⟨v.o,v.seq,v.deps,v.kind,0,0,0,0,0⟩
theorem QK(a b:EvM):(∀ i,i<14->dJ a i=dJ b i)<->a.o=b.o/\a.seq=b.seq/\(∀ i,i<6->a.deps i=b.deps i)/\a.kind=b.kind/\a.node=b.node/\a.dst=b.dst/\a.bI=b.bI/\a.req=b.req/\a.of=b.of:=by
 constructor
 ·intro h
  have f:Value.int .i64 a.o=au b.o:=h 0 (by decide)
  have g:Value.int .u64 a.seq=aA b.seq:=h 1 (by decide)
  have p:Value.int .u8 a.kind = .int .u8 b.kind:=h 8 (by decide)
  have q:Value.int .u64 a.node=aA b.node:=h 9 (by decide)
  have j:Value.int .i64 a.dst=au b.dst:=h 10 (by decide)
  have k:Value.int .i64 a.bI=au b.bI:=h 11 (by decide)
  have l:Value.int .u64 a.req=aA b.req:=h 12 (by decide)
  have m:Value.int .u64 a.of=aA b.of:=h 13 (by decide)
  simp only[Value.int.injEq,true_and]at f g p q j k l m
  refine⟨f,g,fun i r => ?_,p,q,j,k,l,m⟩
  have n:=h (i+2) (by omega)
  rw[mM a rfl r,mM b rfl r]at n
  simpa using n
 rintro ⟨f,g,n,p,q,j,k,l,m⟩ i r
 unfold dJ
 rw[f,g,p,q,j,k,l,m]
 by_cases c:i=0
 ·rw[if_pos c,if_pos c]
 by_cases d:i=1
 ·rw[if_neg c,if_pos d,if_neg c,if_pos d]
 by_cases e:i<8
 ·rw[if_neg c,if_neg d,if_pos e,if_neg c,if_neg d,if_pos e,n _ (by omega)]
 rw[if_neg c,if_neg d,if_neg e,if_neg c,if_neg d,if_neg e]
theorem zu{v:EvM}(a:iI v=true):(∀ i,i<14->dJ (jU v) i=dJ (Kt v) i)<->qH v=true:=by
 have h:=a
 rw[QK]
 unfold iI at h
 unfold jU qH Am Kt
 simp only[Bool.and_eq_true,decide_eq_true_eq]
 split at h
 ·rename_i k; simp[k,jZ,and_assoc]
 split at h
 ·rename_i k1 k; simp[k,jZ,and_assoc]
 split at h
 ·rename_i k1 k2 k; simp[k,jZ,Ez,and_assoc]
 split at h
 ·rename_i k1 k2 k3 k; simp[k,QJ,and_assoc]
 split at h
 ·rename_i k1 k2 k3 k4 k; simp[k,jZ,CJ,and_assoc]
 split at h
 ·rename_i k1 k2 k3 k4 k5 k; simp[k,CJ,and_assoc]
 rename_i k1 k2 k3 k4 k5 k6; simp[k1,k2,k3,k4,k5,k6,and_assoc]
theorem uO{v:EvM}(h:qH v=true):iJ v=iI v:=by
 unfold qH Am at h
 unfold iJ iI someE gV vF toB wX pE
 simp only[Bool.and_eq_true,decide_eq_true_eq]at h
 split <;> try rfl
 rename_i k1
 split <;> try rfl
 rename_i k2
 split
 ·congr 1
 rename_i k3
 split
 ·rename_i k4; rw[Bool.eq_iff_iff]; simp only[Bool.and_eq_true,decide_eq_true_eq,Bool.not_eq_true',decide_eq_false_iff_not]; omega
 split <;> rfl
def EA(x:Nat->Int):Nat->Int
 | 0=>x 0
 | k+1=>if x (k+1)>EA x k then x (k+1)else EA x k
theorem Ku(x:Nat->Int) : ∀ n i,i<=n->x i<=EA x n
 | 0,i,h=>by rw[show i=0 by omega]; exact Int.le_refl _
 | n+1,i,h=>by
   unfold EA
   by_cases e:i=n+1
   ·subst e; split <;> omega
   ·have:=Ku x n i (by omega); split <;> omega
theorem Kv(x:Nat->Int) : ∀ n,∃ i,i<=n/\EA x n=x i
 | 0=>⟨0,Nat.le_refl _,rfl⟩
 | n+1=>by
   unfold EA
   split
   ·exact⟨n+1,Nat.le_refl _,rfl⟩
   ·obtain⟨i,a,e⟩:=Kv x n; exact⟨i,by omega,e⟩
theorem QL{v:EvM}(h:1099511627776<=EA v.deps 5):qQ v=false:=by
 obtain⟨i,a,e⟩:=Kv v.deps 5
 exact GV (k:=i) (by omega) (by omega)
theorem AO{v:EvM}(h : ¬ 1099511627776<=EA v.deps 5):qQ v=true :=
 Ef (k:=6) (by omega) fun i a=>by have:=Ku v.deps 5 i (by omega); omega
def Ud(v:EvM)(b:Bool)(a:EvM):Prop:=b=iI v/\(b=true->a=jU v)
end Rt
set_option maxHeartbeats 1000000 in
theorem QM(v:EvM)(g:Nat)(w:World)(k:aK w g 14 (dJ v) 139) :
 Calls Tryd.prog 67 #[(pt g)] w fun e w' => ∃ b O,e = .returned (.bool b)/\aK w' g 14 (dJ O) 139/\Stp g w w'/\Ud v b O:=by
 have X:=k.lt
 refine Kent Tryd.func67 46 ?_
 refine ay<|av aF<|aD<|Ws<|ay<|av ((pt g))<|av ((pt g))<|av ((pt g))<|av ((pf g 8))<|Lv (.int .u8 (v.kind)) (aP k.aM 8)<|aD<|Wb<|ay ?_
 by_cases c:v.kind=1
 ·refine Lv aI (iV c)<|av aI<|aD<|aT<|ay<|av ((pt g))<|jT (AL 0 v g _ k) ?_
  rintro e Y ⟨a,G,P⟩
  have y:=(jl g w).then P (by omega)
  by_cases p:gV v 0=true
  ·refine⟨.bool true,by rw[a,p],?_⟩
   clear a
   refine av aI (aD (Wr (bU (sR (aL aI (⟨_,_,rfl,G,y,Eq.symm (by unfold iI; rw[if_pos c,(show gV v 0=true from p)]; try rfl),fun d => ?_⟩))))))
   unfold jU; rw[if_pos c]; try rfl
  rw[Bool.not_eq_true]at p
  refine⟨.bool false,by rw[a,p],?_⟩
  clear a
  refine av aF (aD (Wr (bU (sR (aL aF (⟨_,_,rfl,G,y,Eq.symm (by unfold iI; rw[if_pos c,(show gV v 0=false from p)]; try rfl),fun d => ?_⟩))))))
  cases d
 refine Lv aF (mH c)<|av aF<|aD<|aN<|ay ?_
 by_cases f:v.kind=2
 ·refine Lv aI (iV f)<|av aI<|aD<|aT<|ay<|av ((pt g))<|jT (AL 1 v g _ k) ?_
  rintro e Z ⟨a,H,Q⟩
  have z:=(jl g w).then Q (by omega)
  by_cases q:gV v 1=true
  ·refine⟨.bool true,by rw[a,q],?_⟩
   clear a
   refine av aI (aD (Wr (bU (sR (aL aI (⟨_,_,rfl,H,z,Eq.symm (by unfold iI; rw[if_neg c,if_pos f,(show gV v 1=true from q)]; try rfl),fun d => ?_⟩))))))
   unfold jU; rw[if_neg c,if_pos f]; try rfl
  rw[Bool.not_eq_true]at q
  refine⟨.bool false,by rw[a,q],?_⟩
  clear a
  refine av aF (aD (Wr (bU (sR (aL aF (⟨_,_,rfl,H,z,Eq.symm (by unfold iI; rw[if_neg c,if_pos f,(show gV v 1=false from q)]; try rfl),fun d => ?_⟩))))))
  cases d
 refine Lv aF (mH f)<|av aF<|aD<|aN<|ay ?_
 by_cases h:v.kind=3
 ·refine Lv aI (iV h)<|av aI<|aD<|aT<|ay<|av ((pt g))<|jT (AL 1 v g _ k) ?_
  rintro e w3 ⟨a,I,R⟩
  have A:=(jl g w).then R (by omega)
  by_cases m:gV v 1=true
  ·refine⟨.bool true,by rw[a,m],?_⟩
   clear a
   refine av aI<|av ((pt g))<|jT (FY (⟨v.o,v.seq,v.deps,v.kind,0,v.dst,0,v.req,v.of⟩:EvM) g _ I) ?_
   rintro e w4 ⟨a,J,S⟩
   have B:=A.then S (by omega)
   by_cases r:pE (⟨v.o,v.seq,v.deps,v.kind,0,v.dst,0,v.req,v.of⟩:EvM)=true
   ·refine⟨.bool true,by rw[a,r],?_⟩
    clear a
    refine av aI (av aI (aD (Wr (bU (sR (aL aI (⟨_,_,rfl,J,B,Eq.symm (by unfold iI; rw[if_neg c,if_neg f,if_pos h,(show gV v 1=true from m),(show pE v=true from r)]; try rfl),fun d => ?_⟩)))))))
    unfold jU; rw[if_neg c,if_neg f,if_pos h]; try rfl
   rw[Bool.not_eq_true]at r
   refine⟨.bool false,by rw[a,r],?_⟩
   clear a
   refine av aF (av aF (aD (Wr (bU (sR (aL aF (⟨_,_,rfl,J,B,Eq.symm (by unfold iI; rw[if_neg c,if_neg f,if_pos h,(show gV v 1=true from m),(show pE v=false from r)]; try rfl),fun d => ?_⟩)))))))
   cases d
  rw[Bool.not_eq_true]at m
  refine⟨.bool false,by rw[a,m],?_⟩
  clear a
  refine av aF (jP (jP (av aF (av aF (aD (Wr (bU (sR (aL aF (⟨_,_,rfl,I,A,Eq.symm (by unfold iI; rw[if_neg c,if_neg f,if_pos h,(show gV v 1=false from m)]; try rfl),fun d => ?_⟩))))))))))
  cases d
 refine Lv aF (mH h)<|av aF<|aD<|aN<|ay ?_
 by_cases i:v.kind=4
 ·refine Lv aI (iV i)<|av aI<|aD<|aT<|ay<|av ((pt g))<|jT (Xa v g _ k) ?_
  rintro e w5 ⟨a,K,T⟩
  have C:=(jl g w).then T (by omega)
  by_cases s:vF v=true
  ·refine⟨.bool true,by rw[a,s],?_⟩
   clear a
   refine av aI (aD (Wr (bU (sR (aL aI (⟨_,_,rfl,K,C,Eq.symm (by unfold iI; rw[if_neg c,if_neg f,if_neg h,if_pos i,(show vF v=true from s)]; try rfl),fun d => ?_⟩))))))
   unfold jU; rw[if_neg c,if_neg f,if_neg h,if_pos i]; try rfl
  rw[Bool.not_eq_true]at s
  refine⟨.bool false,by rw[a,s],?_⟩
  clear a
  refine av aF (aD (Wr (bU (sR (aL aF (⟨_,_,rfl,K,C,Eq.symm (by unfold iI; rw[if_neg c,if_neg f,if_neg h,if_pos i,(show vF v=false from s)]; try rfl),fun d => ?_⟩))))))
  cases d
 refine Lv aF (mH i)<|av aF<|aD<|aN<|ay ?_
 by_cases j:v.kind=5
 ·refine Lv aI (iV j)<|av aI<|aD<|aT<|ay<|av ((pt g))<|jT (AL 1 v g _ k) ?_
  rintro e w6 ⟨a,L,U⟩
  have D:=(jl g w).then U (by omega)
  by_cases n:gV v 1=true
  ·refine⟨.bool true,by rw[a,n],?_⟩
   clear a
   refine av aI<|av ((pt g))<|jT (Uc (⟨v.o,v.seq,v.deps,v.kind,0,v.dst,0,v.req,v.of⟩:EvM) g _ L) ?_
   rintro e w7 ⟨a,M,V⟩
   have E:=D.then V (by omega)
   by_cases t:toB (⟨v.o,v.seq,v.deps,v.kind,0,v.dst,0,v.req,v.of⟩:EvM)=true
   ·refine⟨.bool true,by rw[a,t],?_⟩
    clear a
    refine av aI (av aI (aD (Wr (bU (sR (aL aI (⟨_,_,rfl,M,E,Eq.symm (by unfold iI; rw[if_neg c,if_neg f,if_neg h,if_neg i,if_pos j,(show gV v 1=true from n),(show toB v=true from t)]; try rfl),fun d => ?_⟩)))))))
    unfold jU; rw[if_neg c,if_neg f,if_neg h,if_neg i,if_pos j]; try rfl
   rw[Bool.not_eq_true]at t
   refine⟨.bool false,by rw[a,t],?_⟩
   clear a
   refine av aF (av aF (aD (Wr (bU (sR (aL aF (⟨_,_,rfl,M,E,Eq.symm (by unfold iI; rw[if_neg c,if_neg f,if_neg h,if_neg i,if_pos j,(show gV v 1=true from n),(show toB v=false from t)]; try rfl),fun d => ?_⟩)))))))
   cases d
  rw[Bool.not_eq_true]at n
  refine⟨.bool false,by rw[a,n],?_⟩
  clear a
  refine av aF (jP (jP (av aF (av aF (aD (Wr (bU (sR (aL aF (⟨_,_,rfl,L,D,Eq.symm (by unfold iI; rw[if_neg c,if_neg f,if_neg h,if_neg i,if_pos j,(show gV v 1=false from n)]; try rfl),fun d => ?_⟩))))))))))
  cases d
 refine Lv aF (mH j)<|av aF<|aD<|aN<|ay ?_
 by_cases l:v.kind=6
 ·refine Lv aI (iV l)<|av aI<|aD<|aT<|ay<|av ((pt g))<|jT (Uc v g _ k) ?_
  rintro e w8 ⟨a,N,W⟩
  have F:=(jl g w).then W (by omega)
  by_cases u:toB v=true
  ·refine⟨.bool true,by rw[a,u],?_⟩
   clear a
   refine av aI (aD (Wr (bU (sR (aL aI (⟨_,_,rfl,N,F,Eq.symm (by unfold iI; rw[if_neg c,if_neg f,if_neg h,if_neg i,if_neg j,if_pos l,(show toB v=true from u)]; try rfl),fun d => ?_⟩))))))
   unfold jU; rw[if_neg c,if_neg f,if_neg h,if_neg i,if_neg j,if_pos l]; try rfl
  rw[Bool.not_eq_true]at u
  refine⟨.bool false,by rw[a,u],?_⟩
  clear a
  refine av aF (aD (Wr (bU (sR (aL aF (⟨_,_,rfl,N,F,Eq.symm (by unfold iI; rw[if_neg c,if_neg f,if_neg h,if_neg i,if_neg j,if_pos l,(show toB v=false from u)]; try rfl),fun d => ?_⟩))))))
  cases d
 refine Lv aF (mH l)<|av aF<|aD<|aN<|Wk<|dA<|sN<|ay<|av ((pt g))<|av ((pt g))<|av ((pt g))<|av ((pf g 8))<|Lv (.int .u8 (v.kind)) (aP k.aM 8) ?_
 by_cases x:v.kind=7
 ·refine Lv aI (iV x) (av aI (aD (Wr (aL aI (⟨_,_,rfl,k,(jl g w),Eq.symm (by unfold iI; rw[if_neg c,if_neg f,if_neg h,if_neg i,if_neg j,if_neg l,decide_eq_true x]; try rfl),fun d => ?_⟩)))))
  unfold jU; rw[if_neg c,if_neg f,if_neg h,if_neg i,if_neg j,if_neg l]; try rfl
 refine Lv aF (mH x) (av aF (aD (Wr (aL aF (⟨_,_,rfl,k,(jl g w),Eq.symm (by unfold iI; rw[if_neg c,if_neg f,if_neg h,if_neg i,if_neg j,if_neg l,decide_eq_false x]; try rfl),fun d => ?_⟩)))))
 cases d
theorem Ue(x:Nat->Int)(b off:Nat)(w:World)(hx:gF w b off 6 (rv .u64 x)) :
 Calls Tryd.prog 66 #[.slice (some ⟨b,off,none⟩) (6) (6)] w fun e w'=>e = .returned (aA (EA x 5))/\Below w.heap.size w w':=by
 have o:=hx.lt (by omega)
 refine Kent Tryd.func66 25 ?_
 refine ay<|av (aA 0)<|aD<|Ws<|ay<|av (.slice (some ⟨b,off,none⟩) (6) (6))<|av (au 6)<|Lv aF BJ<|aD<|aN<|Wk<|sN<|ay<|av (.slice (some ⟨b,off,none⟩) (6) (6))<|Lv ((pf b off)) (cK 1)<|Lv (aA (x 0)) (aP hx 0)<|av (aA (x 0))<|aD<|Ws<|ay<|av (au 1)<|aD<|Wb<|Wo (fun f j => ∃ k:Nat,k<=5/\f 0 = .slice (some ⟨b,off,none⟩) (6) (6)/\f 3=aA (EA x k)/\f 4=au (((k:Int)+1))/\gF j b off 6 (rv .u64 x)/\Below w.heap.size w j) (fun f _=>(6-(intOf (f 4)).toNat)) ⟨0,by omega,(by rfl),rfl,Fx.ic,hx,(Below.refl w.heap.size w)⟩ ?_
 rintro m p ⟨k,n,c,h,a,i,d⟩
 refine Ws<|ay<|aX a<|aX c<|av (au 6) ?_
 by_cases g:((k:Int)+1)<6
 ·refine Lv aI (nV g)<|aD<|aT<|Wk<|sN<|Ws<|Wb<|Wl<|aX h<|aX c<|aX a<|Lv ((pf b (k+off+1))) (cK 1)<|Lv (aA (x (k+1))) (aP i (k+1))<|Lv (aA (EA x (k+1))) (Fx.N8 rfl rfl rfl)<|av (aA (EA x (k+1)))<|Ln<|dA<|sN<|Wl<|aX a<|Lv (au ((k:Int)+2)) gD<|av (au ((k:Int)+2))<|Ln<|iP ⟨k+1,by omega,c,rfl,Fx.ic,i,d⟩ ?_
  show(6-(intOf ((au ((k:Int)+2)))).toNat)<_
  simp only[a,intOf]; omega
 refine Lv aF (nW g)<|aD<|aN<|Wx<|cZ<|gX<|dh<|sN<|ay<|aX h<|av (aA (EA x k))<|aD<|Wr<|aL (aA (EA x k)) ?_
 have l:k=5:=by omega
 exact⟨by rw[l],d⟩
end Go.Proofs.YtahbiajdgealnaaDoor
