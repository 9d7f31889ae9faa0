/-
  What the proof of the law rests on, part 7: walks of functions, and plain laws; each says its conditions itself.
-/
import Derived.Laws.MakeOwn
import Derived.Laws.BytesString
import Derived.Lib.SlBytesConst
import Derived.Test.YtabjalhnkndjaaaGreatDoorRows
import Derived.WalkKit
import Derived.WalkSpells
import Derived.WalkLawsBesides
import Derived.Test.YtabjalhnkndjaaaGreatDoorZE6
set_option maxRecDepth 20000
set_option linter.unusedVariables false
set_option maxHeartbeats 1600000
set_option linter.unusedSimpArgs false
variable{m k b j U P:Nat}{c A:List Go.Proofs.YtabjalhnkndjaaaGreatDoor.Rt.iK}{f p:Go.Proofs.YtabjalhnkndjaaaGreatDoor.Rt.jA}{a d e:Int}{h D:List Go.Proofs.YtabjalhnkndjaaaGreatDoor.Rt.jD}{q O:Option Go.Addr}{x y:Nat->Go.Value}{s:Go.World}{T E:Go.TypeId}{u z:List UInt8}{H N:Go.Operand}{M:Go.Proofs.YtabjalhnkndjaaaGreatDoor.Rt.jD}{K:Go.IntKind}{V:Bool}{X:Nat->Int}{o:List Go.TypeId}{Q Y:Nat->Bool}{Z:Option Go.Operand}
namespace Go.Proofs.YtabjalhnkndjaaaGreatDoor.Fx
open Go.RowKit
section
variable {P:Program} {n:Nat} {Q:kR} {f:Nat->Value} {w:World} {ops:Array Oper} {rest:List Oper} {o:Oper}
theorem aeM(g:o.op = .binOp .and T H N E)(hx:ev f H = .int K a)(hy:ev f N = .int K d)(k:bits .and K a d=e):cB P f o w (.int K e) :=
 vQ g hx hy (by simp[binOp,intBits_and,k])
theorem ajp(g:o.op = .binOp .or T H N E)(hx:ev f H = .int K a)(hy:ev f N = .int K d)(k:bits .or K a d=e:=by rfl):cB P f o w (.int K e) :=
 vQ g hx hy (by simp[binOp,intBits_or,k])
theorem apr{b:Int}(h:cB P f o w (.int K a))(e:a=b):cB P f o w (.int K b):=by grind
theorem aum{a:Option Operand}{h:Nat}(hi:o.op = .slice T H a Z none)(hx:ev f H = .slice q k m)
 (l:a.map (ev f)=(if j=0/\a=none then none else some (.int .i64 j))) (g:Z.map (ev f)=(if h=k/\Z=none then none else some (.int .i64 h)))
 (v:P.underlying T=some (.slice E)) (n:(P.info? E).map (·.size)=some b) (h1:j<=h) (r:h<=m) :
 cB P f o w (.slice (if m=j then q else q.map (·.add (j*b))) (h-j) (m-j)):=by
 obtain⟨i,t,u⟩:=Option.map_eq_some_iff.1 n;unfold cB execOp;simp only[hi,hx,l,g]
 by_cases e:j=0/\a=none
 ·obtain⟨rfl,_⟩:=e;by_cases d:h=k/\Z=none
  ·obtain⟨rfl,_⟩:=d;simp[*,Instr.sliceAt,Instr.slice,underlying,Instr.sliceBounds,sizeOf,typeInfo]
  simp[*,Instr.sliceAt,Instr.slice,underlying,Instr.sliceBounds,Instr.sliceBound,asIntOf,sizeOf,typeInfo]
 by_cases d:h=k/\Z=none
 ·obtain⟨rfl,_⟩:=d;simp[*,Instr.sliceAt,Instr.slice,underlying,Instr.sliceBounds,Instr.sliceBound,asIntOf,sizeOf,typeInfo]
 simp[*,Instr.sliceAt,Instr.slice,underlying,Instr.sliceBounds,Instr.sliceBound,asIntOf,sizeOf,typeInfo]
theorem L.sl{w0:World}{d:Option Operand}{s h:Nat}(C:Region.wanted o (yf ops f)=true)(r:dF n o.dst=true)(z:o.op = .slice T H d Z none)(hx:ev f H = .slice q k m)
 (u:d.map (ev f)=(if j=0/\d=none then none else some (.int .i64 j))) (t:Z.map (ev f)=(if h=k/\Z=none then none else some (.int .i64 h)))
 (B:P.underlying T=some (.slice E)) (A:(P.info? E).map (·.size)=some s) (h1:j<=h) (i:h<=k) (G:k<=m) (l:iB w0 q k s y)
 (hi : ∀ g,iB w0 g (h-j) s (fun p=>y (j*s+p))->L P n ops Q rest (put f o.dst (.slice g (h-j) (m-j))) w):L P n ops Q (o::rest) f w:=by
 refine Lv _ (aum z hx u t B A h1 (by omega)) (hi _ fun F => ?_) C r;obtain⟨b,D,rfl,x⟩:=l (by omega);rw[b_];refine⟨b,D+j*s,by simp[nR],fun p c => ?_⟩;have v:j*s+p<k*s:=by
  have e:(h-j)*s=h*s-j*s:=Nat.sub_mul _ _ _;have:=Nat.mul_le_mul_right s h1;have:=Nat.mul_le_mul_right s i;omega
 have:=x (j*s+p) v
 grind
theorem L.mk0{d:IntKind}{c s bytes:Nat}(u:Region.wanted o (yf ops f)=true)(m:dF n o.dst=true)(x:o.op = .makeSlice T H N)(hx:ev f H = .int K 0)(hy:ev f N = .int d (c:Int))
 (t:P.underlying T=some (.slice E)) (hi:(P.info? E).map (fun i=>(i.size,i.bytes))=some (s,bytes)) (v:((P.info? E).bind (·.zero)).map (·.cells.size)=some s) (F:c*bytes<=140737488355328) (D:c<=140737488355328)
 (h : ∀ g w',g=w.heap.size->(∀ B z,B<=g->aY w' B E s (.slice (some ⟨g,0,none⟩) 0 c) 0 z)->eG w.heap.size w w'->L P n ops Q rest (put f o.dst (.slice (some ⟨g,0,none⟩) 0 c)) w'):L P n ops Q (o::rest) f w:=by
 obtain⟨i,b,p⟩:=Option.map_eq_some_iff.1 hi;obtain⟨z,A,I⟩:=Option.map_eq_some_iff.1 v;obtain⟨J,a,C⟩:=Option.bind_eq_some_iff.1 A;rw[b]at a;injection a with a;subst a;injection p with hs1 hs2;have G:i.bytes*c<=281474976710656:=by grind
 have j:(c:Int)<=9223372036854775807:=by omega
 have l:(i.bytes:Int)*(c:Int)<=281474976710656:=by
  omega
 have q:=run_make (P:=P) w T E i z t b C K d 0 c (M_ _) (by omega) l j;simp only[Int.toNat_zero,Int.toNat_natCast]at q;have r:(execOp (ev f) o).run P w = .ok (.value (.slice (some ⟨w.heap.size,0,none⟩) 0 c)) (w.alloc (.cells (madeCells z.cells (c*i.size)) E)):=by
  grind [execOp,Sem.run_bind,Result.andThen_ok,Sem.run_pure]
 refine L.val u r m (h _ _ rfl (fun B H k=>⟨by simp,.inr ⟨w.heap.size,c,_,rfl,k,heap_alloc_new w _,J_ _,by grind [maxLen],?_,by simp⟩⟩) (eG.alloc _ _));rw[size_madeCells,hs1]
theorem L.appG{B:Nat}{s bytes l:Nat}{d e:Nat}(R:Region.wanted o (yf ops f)=true)(Z:o.op = .call { callee := .builtin .append,args := #[H,N],argTypes := #[T,T] })(hsx:ev f H = .slice (some ⟨b,U,none⟩) k j)(hxx:ev f N = .slice (some ⟨d,e,none⟩) m l)
 (O:P.underlying T=some (.slice E)) (hi:(P.info? E).map (fun i=>(i.size,i.bytes))=some (s,bytes)) (S:((P.info? E).bind (·.zero)).map (·.cells.size)=some s) (hs:Nat.blt 0 s=true) (A:dF n o.dst=true)
 (hx:jM w b U (k*s) x) (hy:jM w d e (m*s) y) (I:j<k+m) (Y:k<=j) (F:(k+m)*bytes<=140737488355328) (X:k+m<=140737488355328) (D:B<=w.heap.size)
 (h : ∀ g p w',g=w.heap.size->aY w' B E s (.slice (some ⟨g,0,none⟩) (k+m) p) (k+m) (gP x (k*s) y)->eG w.heap.size w w'->L P n ops Q rest (put f o.dst (.slice (some ⟨g,0,none⟩) (k+m) p)) w'):L P n ops Q (o::rest) f w:=by
 obtain⟨i,r,K⟩:=Option.map_eq_some_iff.1 hi;obtain⟨z,off,V⟩:=Option.map_eq_some_iff.1 S;obtain⟨i2,a,W⟩:=Option.bind_eq_some_iff.1 off;rw[r]at a;injection a with a;subst a;injection K with hs1 hs2;subst hs1 hs2;have u : ∀ {b U q:Nat} {x:Nat->Value},jM w b U q x -> ∀ c v,((List.range q).map x)[c]? = some v->w.cell? ((⟨b,U,none⟩:Addr).add c)=some v:=fun {b U q x} hc c v hj=>by
  by_cases t:c<q
  ·simp[t]at hj;rw[nR,<- hj]; exact hc c t
  simp_all
 have hr:=run_append_grow (P:=P) w T o.type E i z O r W ⟨b,U,none⟩ k j ((List.range (k*i.size)).map x) (by simp) (u hx) ⟨d,e,none⟩ m l ((List.range (m*i.size)).map y) (by simp) (u hy) I (by omega) (growslice_fits (by omega) F);have C:(execOp (ev f) o).run P w = .ok (.value (.slice (some ⟨w.heap.size,0,none⟩) (k+m) (grownCap w (k+m) j E))) (w.drew.alloc (.cells (((List.range (k*i.size)).map x).toArray++((List.range (m*i.size)).map y).toArray++Builtin.zeroCells z.cells (grownCap w (k+m) j E-(k+m))) E)):=by
  unfold execOp
  grind [resolve,invoke,builtin,Sem.run_bind,Sem.run_pure,Result.andThen_ok]
 have J:=grownCap_ge w (k+m) j E;have G:=grownCap_le_maxLen w (k+m) j E (by grind [maxLen]);refine L.val R C A<|h _ _ _ rfl ⟨by simp,.inr ⟨w.heap.size,_,_,rfl,D,heap_alloc_new w.drew _,J,G,?_,?_⟩⟩ ?_
 ·simp only[Array.size_append,List.size_toArray,size_zeroCells,V,List.length_map,List.length_range,<- Nat.add_mul]
  simp_all
 ·grind [Nat.add_mul,MC]
 exact⟨rfl,rfl,rfl,by simp,fun q M _=>heap_alloc_old w.drew _ M⟩
theorem L.mark{g q c:Nat}(v:Region.wanted o (yf ops f)=true)(i:dF n o.dst=true)(p:o.op = .convert T T H)(hx:ev f H = .slice (some ⟨g,0,none⟩) m c)
 (u:P.underlying T=some (.slice E)) (l:P.underlying E=some (.int .u8)) (e:aM w g q y E)
 (h : ∀ w',jM w' g 0 q y->eG g w w'->L P n ops Q rest (put f o.dst (.slice (some ⟨g,0,none⟩) m c)) w'):L P n ops Q (o::rest) f w:=by
 have A:w.heap[g]? = some (.cells (aA q y) E (0,0)):=e;have t:w.shape? g=some (E,q):=by
  grind [World.shape?,gG]
 obtain⟨w',z⟩ : ∃ w',w'=w.freeze ⟨g,q,none⟩ 1:=⟨_,rfl⟩;have s:(execOp (ev f) o).run P w = .ok (.value (.slice (some ⟨g,0,none⟩) m c)) w':=by
  unfold execOp;simp[p,hx,convert,run_underlying u,run_underlying l,markStringish,t,z]
 have r : ∀ k,k≠g->w'.heap[k]? = w.heap[k]? := fun k d=>by
  grind [World.freeze]
 have b : ∃ a,w'.heap[g]? = some (.cells (aA q y) E a):=by
  grind [World.freeze]
 obtain⟨a,b⟩:=b;refine L.val v s i<|h _ ?_ ?_
 ·intro j B
  grind [World.cell?,jm]
 refine⟨by grind [World.freeze],by grind [World.freeze],by grind [World.freeze],?_,fun k _ d=>r k d⟩
 grind [World.freeze]
def Jd(l:List UInt8):ByteArray:=⟨l.toArray⟩
def lJ(l:List UInt8):Nat->Value:=fun q => .int .u8 ((l.getD q 0).toNat:Int)
theorem ZY(l:List UInt8):(Jd l).toList=l:=by
 unfold Jd;simp
theorem VG{S:TypeId}{l:List UInt8}(y:o.op = .convert S T H)(hx:ev f H = .slice q m b)(A:P.underlying S=some (.slice E))(k:P.underlying E=some (.int .u8))(z:P.underlying T=some .string)
 (t:m=l.length) (h:iB w q m 1 (lJ l)):cB P f o w (.string (Jd l)):=by
 subst t;unfold cB execOp;simp only[y,hx,Sem.run_bind,run_convert_bytes_string w S T E q l.length b A k z];by_cases g:0<l.length
 ·obtain⟨c,d,rfl,i⟩:=h g;have a:(loadCells (⟨c,d,none⟩:Addr) l.length).run P w = .ok ((l.map fun u=>(u.toNat:Int)).map (Value.int .u8)).toArray w:=by
   have:=run_loadCells_list (P:=P) w ⟨c,d,none⟩ ((l.map fun u=>(u.toNat:Int)).map (Value.int .u8)) (by
    intro j v p;rw[List.map_map]at p;by_cases C:j<l.length
    ·have B:=i j (by omega)
     grind [nR,lJ]
    simp_all)
   simp_all
  rw[run_bytesToString w _ l.length b (l.map fun u=>(u.toNat:Int)) a];have e : ∀(l:List UInt8) (s:ByteArray),(l.map fun u=>(u.toNat:Int)).foldl (fun r n=>r.push (UInt8.ofNat n.toNat)) s=⟨s.data++l.toArray⟩:=by
   intro l
   induction l with
   | nil=>simp_all
   | cons u l ih =>
     simp_all
  rw[e];simp[Jd,ByteArray.empty,ByteArray.emptyWithCapacity];rfl
 have e:l = []:=List.length_eq_zero_iff.1 (by omega);subst e;simp[Conv.bytesToString,Jd]
 cases q with
 | none=>rfl
 | some ad=>rfl
theorem aeN{l l':List UInt8}(c:o.op = .binOp .eql T H N E)(hx:ev f H = .string (Jd l))(hy:ev f N = .string (Jd l')):cB P f o w (.bool (decide (l=l'))):=by
 unfold cB execOp;simp only[c,hx,hy];have b:(eqGuard .eql T H N (.string (Jd l)) (.string (Jd l'))).run P w = .ok () w:=by rfl
 simp only[Sem.run_bind,b,Result.andThen_ok];simp[binOp,Op.stringOp,ZY]
 grind
end
end Go.Proofs.YtabjalhnkndjaaaGreatDoor.Fx
namespace Go.Proofs.YtabjalhnkndjaaaGreatDoor
open Go.Proofs.Tryz
open Fx hiding E9 Fa HY Jf Jk L R start
open Go.RowKit Rt
namespace Rt
theorem EO : ∀(k:Nat) (x:Int),(be k x).length=k
 | 0,_=>rfl
 | k+1,x=>by show(be k x).length+1=k+1; rw[EO]
theorem aeO : ∀(k:Nat) (x:Int) (j:Nat),j<k->(be k x)[j]? = some (MP (x / 256^(k-1-j)))
 | 0,_,j,h=>L_ h (z_ _)
 | k+1,x,0,_=>by show some (MP (x / 256^k))=_; rw[show k+1-1-0=k by omega]
 | k+1,x,j+1,h=>by
   show(be k x)[j]? = _;rw[aeO k x j (by omega),show k+1-1-(j+1)=k-1-j by omega]
theorem ajq{x:Int}(h:j<k):(be k x).take (j+1)=(be k x).take j ++ [MP (x / 256^(k-1-j))]:=by
 rw[List.take_add_one,aeO k x j h]; rfl
theorem by8(b:0<=a)(d:k=8*m):IntKind.u8.wrap (a / (2:Int)^k)=((MP (a / 256^m)).toNat:Int):=by
 have e:(2:Int)^k=256^m:=by rw[d,Int.pow_mul]; rfl
 rw[e];have c:0<=a / 256^m:=Int.ediv_nonneg b (Int.pow_nonneg (by decide));generalize a / 256^m=y at c;unfold MP;simp only[IntKind.wrap,IntKind.bits,IntKind.signed];simp;omega
theorem ajr{l r:List UInt8}{n:Nat}(a:n=l.length) : ∀ j,j<(n+m)*1->gP (lJ l) (n*1) (lJ r) j=lJ (l++r) j:=fun j b=>by
 subst a;unfold gP;rw[Nat.mul_one];unfold lJ;by_cases c:j<l.length
 ·rw[d_ c,r_,r_,List.getElem?_append_left c]
 ·rw[b_ c,r_,r_,List.getElem?_append_right (by omega)]
theorem ajs(l:List UInt8)(j:Nat):(lJ l j).oneCell'=true:=rfl
theorem aDz(b:m=8*k)(hx:0<=a/\a<256^k):a / (2:Int)^m=0:=by
 have e:(2:Int)^m=256^k:=by rw[b,Int.pow_mul]; rfl
 rw[e]; exact Int.ediv_eq_zero_of_lt hx.1 hx.2
end Rt
theorem PW(k f:Nat)(h:k=1\/k=2\/k=4\/k=8)(g:f=8*k)(w:World) :
 Calls prog 109 #[av (k:Int)] w fun e w'=>e = .returned (av (f:Int))/\w'=w:=by
 refine bX func109 22 ?_;refine ay<|au (av 0)<|aC<|ay<|au (av 0)<|aC<|aQ<|ay<|au (av k)<|aC<|Wb<|aQ<|Wb<|aQ<|Wb<|aQ<|Wb<|aQ<|Wb<|aQ<|aQ<|aQ<|Wl ?_;by_cases c:(k:Int)=8
 ·refine Lv aH (gU c)<|au aH<|aC<|aP<|Wx<|cZ<|cZ<|dB<|sN<|Wl<|au (av 0)<|Lv (av 32) gu<|au (av 32)<|Ln<|bS<|sN<|Wl<|au (av 32)<|Lv (av 48) gu<|au (av 48)<|Ln<|bS<|sN<|Wl<|au (av 48)<|Lv (av 56) gu<|au (av 56)<|Ln<|bS<|sN<|ay<|au (av 56)<|Lv (av 64) gu<|au (av 64)<|aC<|Wx<|dB<|sN<|ay<|au (av 64)<|au (av 64)<|aC<|Wr<|aK (av 64)<|⟨uD (by omega),rfl⟩
 refine Lv aD (gX c)<|au aD<|aC<|aL<|Wk<|sN<|aQ<|ay ?_;by_cases d:(k:Int)=4
 ·refine Lv aH (gU d)<|au aH<|aC<|aP<|Wx<|cZ<|cZ<|Gj rfl<|cZ<|dB<|sN<|Wl<|au (av 0)<|Lv (av 16) gu<|au (av 16)<|Ln<|bS<|sN<|Wl<|au (av 16)<|Lv (av 24) gu<|au (av 24)<|Ln<|bS<|sN<|ay<|au (av 24)<|Lv (av 32) gu<|au (av 32)<|aC<|Wx<|dB<|sN<|ay<|au (av 32)<|au (av 32)<|aC<|Wr<|aK (av 32)<|⟨uD (by omega),rfl⟩
 refine Lv aD (gX d)<|au aD<|aC<|aL<|Wk<|sN<|aQ<|ay ?_;by_cases a:(k:Int)=2
 ·refine Lv aH (gU a)<|au aH<|aC<|aP<|Wx<|cZ<|cZ<|Gj rfl<|cZ<|Gj rfl<|cZ<|dB<|sN<|Wl<|au (av 0)<|Lv (av 8) gu<|au (av 8)<|Ln<|bS<|sN<|ay<|au (av 8)<|Lv (av 16) gu<|au (av 16)<|aC<|Wx<|dB<|sN<|ay<|au (av 16)<|au (av 16)<|aC<|Wr<|aK (av 16)<|⟨uD (by omega),rfl⟩
 refine Lv aD (gX a)<|au aD<|aC<|aL<|Wk<|sN<|ay ?_;by_cases b:(k:Int)=1
 ·refine Lv aH (gU b)<|au aH<|aC<|aP<|Wx<|cZ<|Gj rfl<|cZ<|Gj rfl<|cZ<|Gj rfl<|cZ<|dB<|sN<|aQ<|Wl<|au (av 0)<|Lv (av 8) gu<|au (av 8)<|aC<|Wx<|dB<|sN<|ay<|au (av 8)<|au (av 8)<|aC<|Wr<|aK (av 8)<|⟨uD (by omega),rfl⟩
 refine Lv aD (gX b)<|au aD<|aC<|aL<|Wk<|sN<|Wx<|Gj rfl<|cZ<|Gj rfl<|cZ<|Gj rfl<|cZ<|Gj rfl<|cZ<|dB<|sN<|ay<|au (av 0)<|au (av 0)<|aC<|Wr<|aK (av 0) ?_;exfalso; omega
theorem Rt.SX{b:UInt8}(a:m=u.length) : ∀ q,q<(m+1)*1->gP (lJ u) (m*1) (bJ x (0*1) 1 (fun _ => .int .u8 (b.toNat:Int))) q=lJ (u ++ [b]) q:=fun q d=>by
 subst a;unfold gP lJ bJ;rw[Nat.mul_one];by_cases c:q<u.length
 ·rw[d_ c,r_,r_,List.getElem?_append_left c]
 ·have e:q=u.length:=by omega
  subst e;rw[b_ c,d_];simp
theorem X4(a:Option Addr)(m c:Nat)(l:List UInt8)(x:Int)(k:Nat)(w:World)(hk:k=1\/k=2\/k=4\/k=8)(hx:0<=x/\x<256^k)(hm:m=l.length)(hl:m<=100000000)(hb:Fx.iB w a m 1 (lJ l)) :
 Calls prog 74 #[.slice a (m) (c),aG x,av (k:Int)] w fun e w' => ∃ I J,e = .returned (.tuple #[.slice I (m+k) J,av 0])/\aY w' w.heap.size 5 1 (.slice I (m+k) J) (m+k) (lJ (l++be k x))/\Below w.heap.size w w':=by
 obtain⟨d,R⟩ : ∃ q,q=8*k:=⟨_,rfl⟩;refine bX func74 41 ?_;refine ay<|au (.slice none 0 0)<|au (av 0)<|aC<|ay<|au (av k)<|mX (PW k d hk R _) _ rfl<|au (av d)<|aC<|aQ<|Wb<|ay<|au (av d)<|Lv aD Qz<|au aD<|aC<|aL<|ay<|au (aG x)<|au (av d)<|Lv (aG 0) (apr (Wu (b:=d) (q:=(2:Int)^d) rfl rfl rfl (by have:IntKind.u64.bits=64:=rfl; omega) rfl) (aDz R hx))<|Lv aD (jI rfl rfl rfl (by decide))<|au aD<|aC<|aL<|Wk<|bS<|sN<|ay<|au (.slice a (m) (c))<|au (av m)<|au (av k)<|Lv (av ((k:Int)+(m:Int))) gu<|Fx.L.mk0 (c:=k+m) (s:=1) (bytes:=1) (by rfl) (by rfl) rfl rfl rfl underlying62 (by kernel_rfl) (by kernel_rfl) (by omega) (by omega) fun g1 w1 aa ho1 s1 =>have tJ:=iy aa;have t:=bL s1.bP (Below.refl w.heap.size w);have S:=ho1 w.heap.size (lJ []) tJ;au (.slice a (m) (c))<|Fx.L.tH (B:=w.heap.size) (s:=1) (bytes:=1) (k:=0) (m:=m) (v:=dz g1 0 (k+m)) (x:=lJ []) (by rfl) rfl rfl rfl underlying62 (by kernel_rfl) (by kernel_rfl) rfl rfl S (hb.up t rfl) (fun j _=>ajs _ j) (by omega) (by omega) t.size fun vv1 H F hg1 vE => ?_;rw[G_]at F;obtain⟨p,u,rfl⟩:=F.val;have m2:=(F.congr (fun j P=>ajr (l := []) (r:=l) (n:=0) (m:=m) rfl j (by omega)));have Y:=sO t hg1 t.size (fun q o=>(S.ge o).1);refine au (.slice p (m) (u))<|aC<|aQ<|aQ ?_;have m3:aY H w.heap.size 5 1 (.slice p (m) (u)) m (lJ (l++(be k x).take 0)):=by rw[List.take_zero,List.append_nil]; exact m2
 refine Wl<|au (av d)<|Lv (av ((d:Int)-8)) jK<|au (av ((d:Int)-8))<|aC<|Wb<|Wo (fun f X => ∃ j:Nat,∃ n:Nat,∃ g:Option Addr,∃ h:Nat,j<=k/\n=m+j/\f 1=aG x/\f 8=av ((d:Int)-8*(j:Int)-8)/\f 9 = .slice g (n) (h)/\aY X w.heap.size 5 1 (.slice g (n) (h)) n (lJ (l++(be k x).take j))/\Below w.heap.size w X) (fun f _=>(intOf (f 8)+8).toNat) ⟨0,m,p,u,by omega,by omega,ic,ic,(by rfl),m3,Y⟩ ?_;rintro f1 w3 ⟨j,n,g,h,P,hn,N,z,O,G,A⟩;refine aQ<|ay<|bA z ?_;by_cases K:0<=((d:Int)-8*(j:Int)-8)
 ·refine Lv aH (mW K)<|aC<|aP<|Wk<|sN<|aQ<|Wb ?_;obtain⟨i,Q⟩ : ∃ i:Nat,(d:Int)-8*(j:Int)-8=(i:Int):=⟨8*(k-1-j),by omega⟩;have hbs:=ajq (x:=x) (show j<k by omega);refine Wl<|bA O<|bA N<|bA (z.trans (K_ (Value.int .i64) Q))<|Lv (aG (x / (2:Int)^i)) (Wu (b:=i) (q:=(2:Int)^i) rfl rfl rfl (by have:IntKind.u64.bits=64:=rfl; omega) rfl)<|Lv (.int .u8 ((MP (x / 256^(k-1-j))).toNat:Int)) (dQ rfl rfl (by kernel_rfl) underlying5 (by8 hx.1 (by omega)))<|uz (vs := [(0,.int .u8 ((MP (x / 256^(k-1-j))).toNat:Int))]) (s:=1) (zc:=rv .u8 (fun _=>0)) (y:=bJ (fun j=>(rv .u8 (fun _=>0)) (j % 1)) (0*1) 1 (fun _ => .int .u8 ((MP (x / 256^(k-1-j))).toNat:Int))) (by rfl) rfl rfl underlying62 (by kernel_rfl) (by rfl) (by rfl) (by kernel_rfl) (by rw[aT (off:=0*1) (s:=1) (y:=fun _ => .int .u8 ((MP (x / 256^(k-1-j))).toNat:Int)) rfl (bG)]; rfl) rfl fun g2 w4 M T s2 z1 => ?_;have⟨U,C⟩:=fB s2.bP G A;have aky:(.slice g (n) (h):Value).ownBlock≠some g2:=by rw[M]; exact G.gW (A_ _)
  refine xX (B:=w.heap.size) (s:=1) (bytes:=1) (k:=n) (m:=1) (v := .slice g (n) (h)) (x:=lJ (l++(be k x).take j)) (by rfl) rfl rfl rfl underlying62 (by kernel_rfl) (by kernel_rfl) rfl rfl U T.aJ (fun j P=>by unfold bJ; split <;> rfl) (by omega) (by omega) (by omega) C.size fun E D W ho3 hg2 Un hlt1 => ?_
  have m7:aY W w.heap.size 5 1 (dz E (n+1) D) (n+1) (lJ (l++(be k x).take (j+1))):=(ho3.congr (fun q o=>by rw[hbs,<- List.append_assoc]; exact SX (by rw[E_,List.length_take,EO,<- hm]; omega) q o));have Z:=sO C hg2 C.size (fun q o=>(U.ge o).1);refine au (dz E (n+1) D)<|Ln<|bS<|sN<|Wl<|bA (z.trans (K_ (Value.int .i64) Q))<|Lv (av ((i:Int)-8)) jK<|au (av ((i:Int)-8))<|Ln ?_
  skip
  refine iA ⟨j+1,n+1,(some ⟨E,0,none⟩),D,by omega,by omega,(N.trans ic),ic,(by rfl),m7,Z⟩ ?_;show(intOf (av ((i:Int)-8))+8).toNat<_;simp only[z,intOf]; omega
 refine Lv aD (mM K) (aC (aL (Wx (cZ (iC (dB (sN (ay (bA O (au (.slice g (n) (h)) (au (av 0) (aC (Wr (aK (.tuple #[.slice g (n) (h),av 0]) (⟨g,h,by rw[show m+k=n by omega],?_,A⟩)))))))))))))));have V:=G;rw[show j=k by omega,List.take_of_length_le (by rw[EO]; exact A_ _)]at V;rw[show m+k=n by omega]; exact V
namespace Rt
structure Z0(q:Prop)(w:World)(B:Nat)(a:Option Addr)(n c:Nat)(l:List UInt8):Prop where
 oI:Fx.iB w a n 1 (lJ l)
 len:n=l.length
 own:q->aY w B 5 1 (.slice a n c) n (lJ l)
section
variable {q:Prop} {w w' w0:World} {B B' n c:Nat} {a:Option Addr} {l:List UInt8}
theorem Z0.of(h:aY w B' 5 1 (.slice a n c) n (lJ l))(b:B<=B')(d:n=l.length):Z0 q w B a n c l:=⟨h.oI,d,fun _=>h.Mr b⟩
structure Hu(ls:List TypeId)(w0 w:World):Prop where
 c:jk ls w0 w
end
theorem ajt(x:k=1\/k=2\/k=4\/k=8)(hx:0<=a/\a<256^k):0<=a/\a<=18446744073709551615:=by
 rcases x with rfl|rfl|rfl|rfl <;> omega
theorem X5(h:0<=a/\a<=18446744073709551615):0<=a/\a<256^8:=by
 omega
theorem zP(x:Nat->Int)(i:Nat):oC x (i+1)=oC x i++be 8 (x i):=by
 unfold oC; rw[List.range_succ,List.flatMap_append]; simp
theorem xS(x:Nat->Int) : ∀ n,(oC x n).length=8*n
 | 0=>rfl
 | n+1=>by rw[zP,E_,xS x n,EO]; omega
end Rt
theorem alv(a:Option Addr)(m c:Nat)(l:List UInt8)(x:Int)(k:Nat)(w:World)(i:k=1\/k=2\/k=4\/k=8)(hx:0<=x/\x<256^k)(q:m=l.length)(p:m<=100000000)(n:Fx.iB w a m 1 (lJ l)) :
 Calls prog 39 #[.slice a (m) (c),av x,av (k:Int)] w fun e w' => ∃ f g,e = .returned (.slice f (m+k) g)/\aY w' w.heap.size 5 1 (.slice f (m+k) g) (m+k) (lJ (l++be k x))/\Below w.heap.size w w':=by
 have t:=ajt i hx;refine bX func39 16 ?_;refine ay<|au (.slice none 0 0)<|aC<|ay<|au (.slice a (m) (c))<|au (av x)<|Lv (aG x) (dQ rfl rfl (by kernel_rfl) underlying26 (jO (by omega) rfl))<|au (av k)<|lX (X4 a m c l x k _ i hx q p (n.up (Below.refl w.heap.size w) rfl)) ?_;rintro s u ⟨b,d,h,r,o⟩;refine⟨_,h,?_⟩;clear h;have j:=bL o (Below.refl w.heap.size w);refine au (.tuple #[.slice b (m+k) (d),av 0])<|au (.slice b (m+k) (d))<|au (av 0)<|au (.slice b (m+k) (d))<|aC<|ay<|au (.slice b (m+k) (d))<|au (.slice b (m+k) (d))<|aC<|Wr<|aK (.slice b (m+k) (d)) ?_;exact⟨b,d,rfl,r,j⟩
theorem aun(a:Option Addr)(m c:Nat)(l:List UInt8)(x:Int)(k:Nat)(w:World)(i:k=1\/k=2\/k=4\/k=8)(hx:0<=x/\x<256^k)(q:m=l.length)(p:m<=100000000)(n:Fx.iB w a m 1 (lJ l)) :
 Calls prog 75 #[.slice a (m) (c),aG x,av (k:Int)] w fun e w' => ∃ f g,e = .returned (.slice f (m+k) g)/\aY w' w.heap.size 5 1 (.slice f (m+k) g) (m+k) (lJ (l++be k x))/\Below w.heap.size w w':=by
 have t:=ajt i hx;refine bX func75 15 ?_;refine ay<|au (.slice none 0 0)<|aC<|ay<|au (.slice a (m) (c))<|au (aG x)<|au (av k)<|lX (X4 a m c l x k _ i hx q p (n.up (Below.refl w.heap.size w) rfl)) ?_;rintro s u ⟨b,d,h,r,o⟩;refine⟨_,h,?_⟩;clear h;have j:=bL o (Below.refl w.heap.size w);refine au (.tuple #[.slice b (m+k) (d),av 0])<|au (.slice b (m+k) (d))<|au (av 0)<|au (.slice b (m+k) (d))<|aC<|ay<|au (.slice b (m+k) (d))<|au (.slice b (m+k) (d))<|aC<|Wr<|aK (.slice b (m+k) (d)) ?_;exact⟨b,d,rfl,r,j⟩
theorem auo(a:Option Addr)(m c:Nat)(l:List UInt8)(x:Int)(k:Nat)(w:World)(i:k=1\/k=2\/k=4\/k=8)(hx:0<=x/\x<256^k)(q:m=l.length)(p:m<=100000000)(n:Fx.iB w a m 1 (lJ l)) :
 Calls prog 76 #[.slice a (m) (c),av x,av (k:Int)] w fun e w' => ∃ f g,e = .returned (.slice f (m+k) g)/\aY w' w.heap.size 5 1 (.slice f (m+k) g) (m+k) (lJ (l++be k x))/\Below w.heap.size w w':=by
 have t:=ajt i hx;refine bX func76 16 ?_;refine ay<|au (.slice none 0 0)<|aC<|ay<|au (.slice a (m) (c))<|au (av x)<|Lv (aG x) (dQ rfl rfl (by kernel_rfl) underlying26 (jO (by omega) rfl))<|au (av k)<|lX (X4 a m c l x k _ i hx q p (n.up (Below.refl w.heap.size w) rfl)) ?_;rintro s u ⟨b,d,h,r,o⟩;refine⟨_,h,?_⟩;clear h;have j:=bL o (Below.refl w.heap.size w);refine au (.tuple #[.slice b (m+k) (d),av 0])<|au (.slice b (m+k) (d))<|au (av 0)<|au (.slice b (m+k) (d))<|aC<|ay<|au (.slice b (m+k) (d))<|au (.slice b (m+k) (d))<|aC<|Wr<|aK (.slice b (m+k) (d)) ?_;exact⟨b,d,rfl,r,j⟩
theorem aup(a:Option Addr)(m c:Nat)(l:List UInt8)(x:Int)(k:Nat)(w:World)(i:k=1\/k=2\/k=4\/k=8)(hx:0<=x/\x<256^k)(q:m=l.length)(p:m<=100000000)(n:Fx.iB w a m 1 (lJ l)) :
 Calls prog 43 #[.slice a (m) (c),.int .u32 (x),av (k:Int)] w fun e w' => ∃ f g,e = .returned (.slice f (m+k) g)/\aY w' w.heap.size 5 1 (.slice f (m+k) g) (m+k) (lJ (l++be k x))/\Below w.heap.size w w':=by
 have t:=ajt i hx;refine bX func43 16 ?_;refine ay<|au (.slice none 0 0)<|aC<|ay<|au (.slice a (m) (c))<|au (.int .u32 (x))<|Lv (aG x) (dQ rfl rfl (by kernel_rfl) underlying26 (jO (by omega) rfl))<|au (av k)<|lX (X4 a m c l x k _ i hx q p (n.up (Below.refl w.heap.size w) rfl)) ?_;rintro s u ⟨b,d,h,r,o⟩;refine⟨_,h,?_⟩;clear h;have j:=bL o (Below.refl w.heap.size w);refine au (.tuple #[.slice b (m+k) (d),av 0])<|au (.slice b (m+k) (d))<|au (av 0)<|au (.slice b (m+k) (d))<|aC<|ay<|au (.slice b (m+k) (d))<|au (.slice b (m+k) (d))<|aC<|Wr<|aK (.slice b (m+k) (d)) ?_;exact⟨b,d,rfl,r,j⟩
theorem aeP(a:Option Addr)(m c:Nat)(l:List UInt8)(o:Option Addr)(n p:Nat)(x:Nat->Int)(w:World)(hx : ∀ i,i<n->0<=x i/\x i<=18446744073709551615)(W:0<n)(E:m=l.length)(V:m+8*n<=100000000)(K:Fx.iB w a m 1 (lJ l))(hr:Fx.iB w o n 1 (rv .u64 x)) :
 Calls prog 40 #[.slice a (m) (c),.slice o (n) (p)] w fun e w' => ∃ v z,e = .returned (.slice v (m+8*n) z)/\aY w' w.heap.size 5 1 (.slice v (m+8*n) z) (m+8*n) (lJ (l++oC x n))/\Below w.heap.size w w':=by
 refine bX func40 18 ?_;refine ay<|au (.slice none 0 0)<|aC<|aQ<|ay<|au (.slice o (n) (p))<|au (av n)<|au (av 0)<|aC<|Wb ?_;have M:Z0 (0<0) w w.heap.size a m c (l++oC x 0):=⟨by rw[show oC x 0 = []from rfl,List.append_nil]; exact K,by rw[show oC x 0 = []from rfl,List.append_nil]; exact E,fun h=>L_ h (by decide)⟩;refine Wo (fun f H => ∃ i:Nat,∃ b:Nat,∃ d:Option Addr,∃ g:Nat,i<=n/\b=m+8*i/\f 0 = .slice d (b) (g)/\f 7 = .slice o (n) (p)/\f 8=av (n:Int)/\f 9=av (i:Int)/\Z0 (0<i) H w.heap.size d b g (l++oC x i)/\Below w.heap.size w H) (fun f _=>(n-(intOf (f 9)).toNat)) ⟨0,m,a,c,by omega,by omega,(by rfl),(by rfl),ic,ic,M,(Below.refl w.heap.size w)⟩ ?_;rintro T Q ⟨i,b,d,g,U,X,B,C,t,j,u,k⟩;refine ay ?_;by_cases A:(i:Int)<(n:Int)
 ·refine Lv aH (fK A (hx:=j) (hy:=t))<|aC<|aQ<|aP<|Wk<|sN<|aQ<|Wb<|ay ?_;obtain⟨y,P,J,F⟩:=(hr.up k rfl) (by omega);have Y:y<Q.heap.size:=F.lt (by omega);refine Lv (pf y (i+P)) (fC 1 (hx:=(C.trans (K_ (fun q=>Value.slice q (n) (p)) J))) (hi:=j))<|Lv (aG (x i)) (aR F i)<|au (aG (x i))<|aC<|Wl<|bA B<|au (aG (x i))<|lX (aun d b g (l++oC x i) (x i) 8 _ (by omega) (X5 (hx i (by omega))) u.len (by omega) u.oI) ?_;rintro S R ⟨r,s,D,O,L⟩;refine⟨_,D,?_⟩;clear D;have I:=bL L k;have N:Z0 (0<i+1) R w.heap.size r (b+8) s (l++oC x (i+1)) := .of (by rw[zP,<- List.append_assoc]; exact O) k.size (by rw[E_,xS,<- E]; omega);refine au (.slice r (b+8) (s))<|Ln<|bS<|sN<|Wl<|Lv (av ((i:Int)+1)) (gu (hx:=j))<|au (av ((i:Int)+1))<|Ln<|iA ⟨i+1,b+8,r,s,by omega,by omega,(by rfl),C,(t.trans ic),ic,N,I⟩ ?_;show(n-(intOf (av ((i:Int)+1))).toNat)<_;simp only[j,intOf]; omega
 refine Lv aD (fM A (hx:=j) (hy:=t)) (aC (aQ (aL (Wx (cZ (iC (dB (sN (ay (bA B (au (.slice d (b) (g)) (aC (Wr (aK (.slice d (b) (g)) (⟨d,g,by rw[show m+8*n=b by omega],?_,k⟩)))))))))))))));have G:=u.own (by omega);rw[show i=n by omega]at G; rw[show m+8*n=b by omega]; exact G
theorem aps(a:Option Addr)(m c:Nat)(l:List UInt8)(o:Option Addr)(n p:Nat)(x:Nat->Int)(w:World)(hx : ∀ i,i<n->0<=x i/\x i<=18446744073709551615)(W:0<n)(E:m=l.length)(V:m+8*n<=100000000)(K:Fx.iB w a m 1 (lJ l))(hr:Fx.iB w o n 1 (rv .i64 x)) :
 Calls prog 42 #[.slice a (m) (c),.slice o (n) (p)] w fun e w' => ∃ v z,e = .returned (.slice v (m+8*n) z)/\aY w' w.heap.size 5 1 (.slice v (m+8*n) z) (m+8*n) (lJ (l++oC x n))/\Below w.heap.size w w':=by
 refine bX func42 18 ?_;refine ay<|au (.slice none 0 0)<|aC<|aQ<|ay<|au (.slice o (n) (p))<|au (av n)<|au (av 0)<|aC<|Wb ?_;have M:Z0 (0<0) w w.heap.size a m c (l++oC x 0):=⟨by rw[show oC x 0 = []from rfl,List.append_nil]; exact K,by rw[show oC x 0 = []from rfl,List.append_nil]; exact E,fun h=>L_ h (by decide)⟩;refine Wo (fun f H => ∃ i:Nat,∃ b:Nat,∃ d:Option Addr,∃ g:Nat,i<=n/\b=m+8*i/\f 0 = .slice d (b) (g)/\f 7 = .slice o (n) (p)/\f 8=av (n:Int)/\f 9=av (i:Int)/\Z0 (0<i) H w.heap.size d b g (l++oC x i)/\Below w.heap.size w H) (fun f _=>(n-(intOf (f 9)).toNat)) ⟨0,m,a,c,by omega,by omega,(by rfl),(by rfl),ic,ic,M,(Below.refl w.heap.size w)⟩ ?_;rintro T Q ⟨i,b,d,g,U,X,B,C,t,j,u,k⟩;refine ay ?_;by_cases A:(i:Int)<(n:Int)
 ·refine Lv aH (fK A (hx:=j) (hy:=t))<|aC<|aQ<|aP<|Wk<|sN<|aQ<|Wb<|ay ?_;obtain⟨y,P,J,F⟩:=(hr.up k rfl) (by omega);have Y:y<Q.heap.size:=F.lt (by omega);refine Lv (pf y (i+P)) (fC 1 (hx:=(C.trans (K_ (fun q=>Value.slice q (n) (p)) J))) (hi:=j))<|Lv (av (x i)) (aR F i)<|au (av (x i))<|aC<|Wl<|bA B<|au (av (x i))<|lX (auo d b g (l++oC x i) (x i) 8 _ (by omega) (X5 (hx i (by omega))) u.len (by omega) u.oI) ?_;rintro S R ⟨r,s,D,O,L⟩;refine⟨_,D,?_⟩;clear D;have I:=bL L k;have N:Z0 (0<i+1) R w.heap.size r (b+8) s (l++oC x (i+1)) := .of (by rw[zP,<- List.append_assoc]; exact O) k.size (by rw[E_,xS,<- E]; omega);refine au (.slice r (b+8) (s))<|Ln<|bS<|sN<|Wl<|Lv (av ((i:Int)+1)) (gu (hx:=j))<|au (av ((i:Int)+1))<|Ln<|iA ⟨i+1,b+8,r,s,by omega,by omega,(by rfl),C,(t.trans ic),ic,N,I⟩ ?_;show(n-(intOf (av ((i:Int)+1))).toNat)<_;simp only[j,intOf]; omega
 refine Lv aD (fM A (hx:=j) (hy:=t)) (aC (aQ (aL (Wx (cZ (iC (dB (sN (ay (bA B (au (.slice d (b) (g)) (aC (Wr (aK (.slice d (b) (g)) (⟨d,g,by rw[show m+8*n=b by omega],?_,k⟩)))))))))))))));have G:=u.own (by omega);rw[show i=n by omega]at G; rw[show m+8*n=b by omega]; exact G
namespace Rt
def iI(x:iK):Nat->Value:=mV x.id x.par x.R
def jZ(x:jD):Nat->Value:=fun j=>if j=0 then av x.o else if j=1 then aG x.r else if j=2 then aG x.n else if j=3 then av x.a else aG x.b
def gI(l:List iK):Nat->Value:=dn 56 fun k=>iI (bY l k)
def iU(l:List jD):Nat->Value:=dn 5 fun k=>jZ (dK l k)
def dR(m:jA)(c:Option Addr)(d:Nat)(a:Option Addr)(b:Nat):Bn:=⟨m.dF,m.left,m.aF,c,m.ns.length,d,a,m.gs.length,b⟩
theorem nM(x:iK)(j:Nat):(iI x j).oneCell'=true:=by unfold iI mV; split <;> (try split) <;> rfl
theorem su(x:jD)(j:Nat):(jZ x j).oneCell'=true:=by unfold jZ; repeat (first|rfl|split)
theorem qj(m:Bn)(j:Nat):(dS m j).oneCell'=true:=by unfold dS; repeat (first|rfl|split)
def jH(a b:Int):Int:=if a<b then -1 else if b<a then 1 else 0
def SY(a b:Int):Int:=if a≠0 then a else b
def aDA(a b:Int):Nat->Int:=fun q=>if q=0 then a else b
theorem PX : ¬ (0<=jH a d)<->a<d:=by
 grind [jH]
def F3(x y:jD):Int:=SY (jH x.o y.o) (jH x.r y.r)
theorem JD{y:jD} : ¬ (0<=F3 M y)<->kg M y:=by
 grind [F3,SY,jH,kg]
theorem X6{y:jD}:0<F3 M y<->kg y M:=by
 grind [F3,SY,jH,kg]
theorem S9{y:jD}:F3 M y<0<->kg M y:=by grind [JD]
theorem X7:jH a d<0<->a<d:=by grind [PX]
theorem aeQ:0<jH a d<->d<a:=by
 grind [jH]
open Classical in
noncomputable def N7(l:List iK):Bool:=decide (∀ k,k+1<l.length->(bY l k).id<(bY l (k+1)).id)
open Classical in
noncomputable def N8(l:List jD):Bool:=decide (∀ k,k+1<l.length->kg (dK l k) (dK l (k+1)))
open Classical in
theorem Oa(h : ∀ k,k+1<c.length->(bY c k).id<(bY c (k+1)).id):N7 c=true:=f_ h
open Classical in
theorem Ta(h : ¬ ∀ k,k+1<c.length->(bY c k).id<(bY c (k+1)).id):N7 c=false:=g_ h
open Classical in
theorem Ob(l : ∀ k,k+1<h.length->kg (dK h k) (dK h (k+1))):N8 h=true:=f_ l
open Classical in
theorem Td(l : ¬ ∀ k,k+1<h.length->kg (dK h k) (dK h (k+1))):N8 h=false:=g_ l
theorem qL{P:Nat->Prop}(h : ∀ k,k<m->P k)(a:P m) : ∀ k,k<m+1->P k:=fun k b=>by
 by_cases e:k=m
 ·rw[e]; exact a
 ·exact h k (by omega)
end Rt
theorem aeR(a b:Int)(w:World) :
 Calls prog 35 #[av a,av b] w fun e w'=>e = .returned (av (jH a b))/\w'=w:=XL a b w
theorem Te(a b:Int)(w:World) :
 Calls prog 36 #[aG a,aG b] w fun e w'=>e = .returned (av (jH a b))/\w'=w:=XO a b w
theorem auq(a b:Int)(c:Nat)(w:World)(d:jM w c 0 2 (rv .i64 (aDA a b))) :
 Calls prog 34 #[dz c 2 2] w fun e w'=>e = .returned (av (SY a b))/\w'=w:=(atq _ _ _ _ d).mono fun e w' h=>⟨h.1.trans (by rw[show XJ a b=SY a b by unfold XJ SY; by_cases h:a=0 <;> simp[h]]),h.2⟩
theorem aeS(x y:iK)(w:World) :
 Calls prog 26 #[.agg (aA 56 (iI x)),.agg (aA 56 (iI y))] w fun e w'=>e = .returned (av (jH x.id y.id))/\Below w.heap.size w w':=by
 refine bX func26 10 ?_;refine ay<|oq fun h r g a k t => ?_;have b:=bL k.bP (Below.refl w.heap.size w);have m:=iy g;have p:=a.lt;refine oq fun i s c d l u => ?_;have⟨j,f⟩:=fB l.bP a b;have n:=gQ c b.size;have o:=gD c a.lt;have q:=d.lt;refine au (av 0)<|aC<|ay<|au (pt h)<|Lv (aG x.id) (aR j.aJ 0)<|au (pt i)<|Lv (aG y.id) (aR d.aJ 0)<|mX (Te x.id y.id _) _ rfl<|au (av (jH x.id y.id))<|aC<|Wr<|aK (av (jH x.id y.id)) ?_;exact⟨rfl,f⟩
theorem X8(x y:jD)(w:World) :
 Calls prog 29 #[.agg (aA 5 (jZ x)),.agg (aA 5 (jZ y))] w fun e w'=>e = .returned (av (F3 x y))/\Below w.heap.size w w':=by
 refine bX func29 17 ?_;refine ay<|oq fun l R z d D V => ?_;have f:=bL D.bP (Below.refl w.heap.size w);have I:=iy z;have O:=d.lt;refine oq fun m S h n E W => ?_;have⟨C,t⟩:=fB E.bP d f;have J:=gQ h f.size;have L:=gD h d.lt;have P:=n.lt;refine au (av 0)<|aC<|aQ ?_;refine nP [0,2,5,7,1,3,6,8,4,9,10,11,12] [0,4,0,4,2,0,1,0,1,2,2,3,0] [(4,1,[1]),(9,1,[4,1]),(10,1,[4,1]),(11,1,[10,4,1]),(4,3,[3]),(9,3,[4,3]),(10,3,[4,3]),(11,3,[10,4,3]),(11,6,[9,6]),(11,8,[9,8]),(9,4,[4]),(10,4,[4]),(11,4,[10,4]),(12,4,[4]),(10,9,[9]),(11,9,[9]),(12,9,[9]),(11,10,[10]),(12,10,[10]),(12,11,[11])] fun U B H => ?_;have⟨a,b,g⟩:=iP B C n t;refine aS (pt l)<|aS (pt m)<|aS (pf l 1)<|aS (pf m 1)<|Rs (av x.o) (aR a.aJ 0) ?_;refine Rs (av y.o) (aR b.aJ 0) ?_;refine lI (v:=aG x.r) (by rfl) (by rfl) (mE _) (fun F c=>bE (x:=jZ x) rfl rfl (by kernel_rfl) (a.aJ.below c (by have:=a.lt; omega)) (i:=1) (by omega) (by omega) rfl) ?_;refine lI (v:=aG y.r) (by rfl) (by rfl) (mE _) (fun F c=>bE (x:=jZ y) rfl rfl (by kernel_rfl) (b.aJ.below c (by have:=b.lt; omega)) (i:=1) (by omega) (by omega) rfl) ?_;refine mF (mX (aeR x.o y.o _) _ rfl (Ln ⟨Below.refl _ _,?_⟩));refine mF (mX (Te x.r y.r _) _ rfl (Ln ⟨Below.refl _ _,?_⟩));refine mF<|uz (vs := [(0,av (jH x.o y.o)),(1,av (jH x.r y.r))]) (s:=1) (zc:=rv .i64 (fun _=>0)) (y:=bJ (bJ (fun j=>(rv .i64 (fun _=>0)) (j % 1)) (0*1) 1 (fun _=>av (jH x.o y.o))) (1*1) 1 (fun _=>av (jH x.r y.r))) (by rfl) rfl rfl underlying155 (by kernel_rfl) (by rfl) (by rfl) (by kernel_rfl) (by rw[aT (off:=0*1) (s:=1) (y:=fun _=>av (jH x.o y.o)) rfl (bG (by rfl)) (by rfl)]; rw[aT (off:=1*1) (s:=1) (y:=fun _=>av (jH x.r y.r)) rfl (bG (by rfl)) (by rfl)]; rfl) rfl fun A T k p q X => ?_;have u:=bL q.bP g;have K:=gQ k g.size;have⟨M,N⟩:=oM k a.lt b.lt;have Q:=p.lt;refine Ln ⟨q.bP,?_⟩;refine jP<|mX (auq (jH x.o y.o) (jH x.r y.r) A _ (p.congr (Kvq (by kernel_rfl))).aJ) _ rfl<|Ln<|aS (av (SY (jH x.o y.o) (jH x.r y.r)))<|dJ<|Wr<|aK (av (SY (jH x.o y.o) (jH x.r y.r))) ?_
 exact⟨rfl,u⟩
theorem X9(a:Option Addr)(c:Nat)(l:List iK)(w:World)(M:l.length<=1000000)(F:Fx.iB w a l.length 56 (gI l)) :
 Calls prog 50 #[.slice a (l.length) (c),.func (.func 26) #[] #[]] w fun e w'=>e = .returned (.bool (N7 l))/\Below w.heap.size w w':=by
 refine bX func50 24 ?_;refine ay<|au aD<|aC<|aQ<|ay<|au (av 1)<|aC<|Wb<|Wo (fun f I => ∃ i:Nat,i<=l.length/\(∀ k,k<i->(bY l k).id<(bY l (k+1)).id)/\f 0 = .slice a (l.length) (c)/\f 1 = .func (.func 26) #[] #[]/\f 5=av ((i:Int)+1)/\Below w.heap.size w I) (fun f _=>(l.length-(intOf (f 5)).toNat)) ⟨0,(J_ _),(fun k h=>L_ h (by omega)),(by rfl),(by rfl),ic,(Below.refl w.heap.size w)⟩ ?_;rintro J H ⟨i,K,y,o,u,j,n⟩;refine aQ<|ay<|bA j<|bA o<|au (av l.length) ?_;by_cases s:((i:Int)+1)<(l.length:Int)
 ·refine Lv aH (fK s)<|aC<|aP<|Wk<|sN<|aQ<|Wb<|aQ<|rA<|iL u<|iL o<|iL j<|Qv (av i) (fun d b=>jK) ?_;obtain⟨p,z,t,m⟩:=(F.up n rfl) (by omega);refine Qv (pf p (56*i+z)) (fun d b=>fC 56 (hx:=(rfl.trans (K_ (fun q=>Value.slice q (l.length) (c)) t))))<|Qv (.agg (aA 56 (iI (bY l i)))) (fun d b=>dZ (m.below b (m.lt (by omega))) (56*i) (x:=gI l) (fun G r=>eF (k:=i) (by omega) r))<|iL o<|iL j<|Qv (pf p (56*i+z+56)) (fun d b=>fC 56 (hx:=(rfl.trans (K_ (fun q=>Value.slice q (l.length) (c)) t))))<|Qv (.agg (aA 56 (iI (bY l (i+1))))) (fun d b=>dZ (m.below b (m.lt (by omega))) (56*i+56) (x:=gI l) (fun G r=>eF (k:=i+1) (by omega) r))<|ET (v:=av (jH (bY l i).id (bY l (i+1)).id)) (by rfl) (fun d b=>uJ (args := [.agg (aA 56 (iI (bY l i))),.agg (aA 56 (iI (bY l (i+1))))]) rfl rfl rfl (all := #[.agg (aA 56 (iI (bY l i))),.agg (aA 56 (iI (bY l (i+1))))]) rfl func26 rfl rfl) rfl (fun d b=>(aeS (bY l i) (bY l (i+1)) _).mono fun e O h=>⟨h.1,Oj b h.2⟩) ?_;by_cases g:0<=(jH (bY l i).id (bY l (i+1)).id)
  ·refine Qv aH (fun d b=>mW g)<|Qn ?_;intro P D;have B:=bL D n;refine sN<|aP<|ay<|au aD<|aC<|Wr<|bO<|sR<|oG<|bO<|sR<|aK aD<|⟨gN (Eq.symm (Ta (fun h=>(by have A:=h i (by omega); first|exact L_ g (PX.2 A)|exact L_ g (JD.2 A))))),B⟩
  refine Qv aD (fun d b=>mM g)<|Qn ?_;intro Q E;have C:=bL E n;refine sN<|aL<|Wk<|bS<|sN<|Wl<|bA j<|Lv (av ((i:Int)+2)) gu<|au (av ((i:Int)+2))<|Ln<|iA ⟨i+1,(by omega),(qL y (PX.1 g)),o,u,ic,C⟩ ?_;show(l.length-(intOf (av ((i:Int)+2))).toNat)<_;simp only[j,intOf]; omega
 refine Lv aD (fM s)<|aC<|aL<|Wx<|cZ<|iC<|dB<|sN<|ay<|au aH<|aC<|Wr<|aK aH<|⟨gN (Eq.symm (Oa (fun k L=>y k (by omega)))),n⟩
theorem Ya(a:Option Addr)(c:Nat)(l:List jD)(w:World)(M:l.length<=1000000)(F:Fx.iB w a l.length 5 (iU l)) :
 Calls prog 51 #[.slice a (l.length) (c),.func (.func 29) #[] #[]] w fun e w'=>e = .returned (.bool (N8 l))/\Below w.heap.size w w':=by
 refine bX func51 24 ?_;refine ay<|au aD<|aC<|aQ<|ay<|au (av 1)<|aC<|Wb<|Wo (fun f I => ∃ i:Nat,i<=l.length/\(∀ k,k<i->kg (dK l k) (dK l (k+1)))/\f 0 = .slice a (l.length) (c)/\f 1 = .func (.func 29) #[] #[]/\f 5=av ((i:Int)+1)/\Below w.heap.size w I) (fun f _=>(l.length-(intOf (f 5)).toNat)) ⟨0,(J_ _),(fun k h=>L_ h (by omega)),(by rfl),(by rfl),ic,(Below.refl w.heap.size w)⟩ ?_;rintro J H ⟨i,K,y,o,u,j,n⟩;refine aQ<|ay<|bA j<|bA o<|au (av l.length) ?_;by_cases s:((i:Int)+1)<(l.length:Int)
 ·refine Lv aH (fK s)<|aC<|aP<|Wk<|sN<|aQ<|Wb<|aQ<|rA<|iL u<|iL o<|iL j<|Qv (av i) (fun d b=>jK) ?_;obtain⟨p,z,t,m⟩:=(F.up n rfl) (by omega);refine Qv (pf p (5*i+z)) (fun d b=>fC 5 (hx:=(rfl.trans (K_ (fun q=>Value.slice q (l.length) (c)) t))))<|Qv (.agg (aA 5 (jZ (dK l i)))) (fun d b=>dZ (m.below b (m.lt (by omega))) (5*i) (x:=iU l) (fun G r=>eF (k:=i) (by omega) r))<|iL o<|iL j<|Qv (pf p (5*i+z+5)) (fun d b=>fC 5 (hx:=(rfl.trans (K_ (fun q=>Value.slice q (l.length) (c)) t))))<|Qv (.agg (aA 5 (jZ (dK l (i+1))))) (fun d b=>dZ (m.below b (m.lt (by omega))) (5*i+5) (x:=iU l) (fun G r=>eF (k:=i+1) (by omega) r))<|ET (v:=av (F3 (dK l i) (dK l (i+1)))) (by rfl) (fun d b=>uJ (args := [.agg (aA 5 (jZ (dK l i))),.agg (aA 5 (jZ (dK l (i+1))))]) rfl rfl rfl (all := #[.agg (aA 5 (jZ (dK l i))),.agg (aA 5 (jZ (dK l (i+1))))]) rfl func29 rfl rfl) rfl (fun d b=>(X8 (dK l i) (dK l (i+1)) _).mono fun e O h=>⟨h.1,Oj b h.2⟩) ?_;by_cases g:0<=(F3 (dK l i) (dK l (i+1)))
  ·refine Qv aH (fun d b=>mW g)<|Qn ?_;intro P D;have B:=bL D n;refine sN<|aP<|ay<|au aD<|aC<|Wr<|bO<|sR<|oG<|bO<|sR<|aK aD<|⟨gN (Eq.symm (Td (fun h=>(by have A:=h i (by omega); first|exact L_ g (PX.2 A)|exact L_ g (JD.2 A))))),B⟩
  refine Qv aD (fun d b=>mM g)<|Qn ?_;intro Q E;have C:=bL E n;refine sN<|aL<|Wk<|bS<|sN<|Wl<|bA j<|Lv (av ((i:Int)+2)) gu<|au (av ((i:Int)+2))<|Ln<|iA ⟨i+1,(by omega),(qL y (JD.1 g)),o,u,ic,C⟩ ?_;show(l.length-(intOf (av ((i:Int)+2))).toNat)<_;simp only[j,intOf]; omega
 refine Lv aD (fM s)<|aC<|aL<|Wx<|cZ<|iC<|dB<|sN<|ay<|au aH<|aC<|Wr<|aK aH<|⟨gN (Eq.symm (Ob (fun k L=>y k (by omega)))),n⟩
namespace Rt
def CG(l:List iK):Prop := ∀ k,k+1<l.length->(bY l k).id<(bY l (k+1)).id
theorem F4{l:List iK}(h:CG l) : ∀ {j i:Nat},i<j->j<l.length->(bY l i).id<(bY l j).id
 | 0,_,h1,_=>L_ h1 (z_ _)
 | j+1,i,h1,h2=>by
   have a:=h j h2;by_cases e:i=j
   ·rw[e]; exact a
   ·have:=F4 h (show i<j by omega) (by omega); omega
theorem aeT(h:CG A)(hi:m<A.length)(a:j<A.length)(e:(bY A m).id=(bY A j).id):m=j:=by
 rcases Nat.lt_trichotomy m j with c|c|c
 ·have:=F4 h c a; omega
 ·exact c
 have:=F4 h c hi; omega
theorem CJ{l:List iK}(h:CG l)(x:j<l.length)(e:(bY l j).id=a):og l a=(j:Int):=by
 unfold og
 rcases iW (fun i=>decide ((bY l i).id=a)) l.length with ⟨k,c,b,d⟩|⟨_,hn⟩
 ·rw[b,aeT h c x ((h_ d).trans e.symm)]
 have:=hn j x; rw[f_ e]at this; cases this
theorem oh(h : ∀ i,i<c.length->(bY c i).id≠a):og c a = -1:=by
 unfold og; exact mJ fun i l=>g_ (h i l)
theorem aeU{l:List iK}{x:Int}(h:0<=og l x) : ∃ j,j<l.length/\og l x=(j:Int)/\(bY l j).id=x:=by
 unfold og at h ⊢
 rcases iW (fun i=>decide ((bY l i).id=x)) l.length with ⟨k,b,a,c⟩|⟨en,_⟩
 ·exact⟨k,b,a,h_ c⟩
 rw[en]at h; exact L_ h (by decide)
theorem Oc{a:Type}{f:Nat->a} : ∀ q,q<m+1->aZ f m (f m) q=f q:=fun q _=>by
 unfold aZ; split
 ·rename_i e; rw[e]
 ·rfl
theorem VH(h:a=0):qK c (m+1) a=true:=d_ h
theorem apt(h:a≠0)(x:og c a<0):qK c (m+1) a=false:=by
 unfold qK; rw[b_ h,d_ x]
theorem VI(h:a≠0)(l:og c a=(j:Int)):qK c (m+1) a=qK c m (bY c j).par:=by
 show(if a=0 then true else if og c a<0 then false else qK c m (bY c (og c a).toNat).par)=_;rw[b_ h,b_,l]; rfl
open Classical in
noncomputable def EP(l:List iK)(g:jD):Bool:=decide (¬ Ll l g)
open Classical in
theorem zf(h : ¬ Ll c M):EP c M=true:=f_ h
open Classical in
theorem apu(h:Ll c M):EP c M=false:=g_ fun q=>q h
end Rt
theorem Z4(m:jA)(d:Option Addr)(g:Nat)(I:Option Addr)(J:Nat)(w:World)(hl:m.ns.length<=1000000)(hr:CG m.ns)(hn:Fx.iB w d m.ns.length 56 (gI m.ns)) :
 Calls prog 52 #[.agg (aA 20 (dS (dR m d g I J)))] w fun e w' => ∃ b,e = .returned (.map (some b))/\Mp w' b m.ns.length (fun q=>(bY m.ns q).id) (fun q=>Value.int .u64 (bY m.ns q).par)/\w.heap.size<=b/\Below w.heap.size w w':=by
 refine bX func52 21 ?_;refine ay<|oq fun H w1 V v s1 z1 => ?_;have C:=bL s1.bP (Below.refl w.heap.size w);have tJ:=iy V;have vB:=v.lt;refine au (.map none)<|aC<|ay<|Fx.L.Nq (by rfl) rfl rfl fun a w2 G O s2 z2 =>have⟨P,T⟩:=fB s2.bP v C;have xw:=gQ G C.size;have BP:=gD G v.lt;have zR:=O.lt;au (.map (some a))<|aC<|aQ<|ay<|au (pf H 18)<|Lv (.slice d (m.ns.length) (g)) (aR P.aJ 18)<|au (av m.ns.length)<|au (av 0)<|aC<|Wb ?_;have m4:Mp w2 a 0 (fun q=>(bY m.ns q).id) (fun q=>Value.int .u64 (bY m.ns q).par):=O.qU (fun q h=>L_ h (z_ _));refine Wo (fun f B => ∃ i:Nat,i<=m.ns.length/\f 3 = .map (some a)/\f 8 = .slice d (m.ns.length) (g)/\f 9=av (m.ns.length:Int)/\f 10=av (i:Int)/\Mp B a i (fun q=>(bY m.ns q).id) (fun q=>Value.int .u64 (bY m.ns q).par)/\aM B H 20 (dS (dR m d g I J)) 43/\Below w.heap.size w B) (fun f _=>(m.ns.length-(intOf (f 10)).toNat)) ⟨0,J_ _,(by rfl),(by rfl),ic,ic,m4,P,T⟩ ?_;rintro f1 w3 ⟨i,hi,t,K,u,c,y,Q,l⟩;refine ay ?_;by_cases F:(i:Int)<(m.ns.length:Int)
 ·refine Lv aH (fK F (hx:=c) (hy:=u))<|aC<|aQ<|aP<|Wk<|sN<|aQ<|Wb<|ay ?_;obtain⟨r,VJ,X,p⟩:=(hn.up l rfl) (by omega);have Pj:r<w3.heap.size:=p.lt (by omega);refine Lv (pf r (56*i+VJ)) (fC 56 (hx:=(K.trans (K_ (fun q=>Value.slice q (m.ns.length) (g)) X))) (hi:=c))<|Lv (.agg (aA 56 (iI (bY m.ns i)))) (dZ p (56*i) (fun jq Z=>eF (k:=i) (by omega) Z))<|oJ 56 zJ0 fun n w4 s z s3 z3 => ?_;have⟨m9,m10,m11,D⟩:=jv s3.bP y Q p l;have Gc:=gQ s l.size;have⟨Xy,aeb⟩:=oM s y.lt Q.lt;have adY:r≠n:=by rw[s]; exact u_ (p.lt (by omega))
  have Gr:=z.lt;refine dY z 0 (h1:=(fun j _=>nM _ j)) fun w5 kY A z4 => ?_;have x:aM w5 n 56 (iI (bY m.ns i)) 69:=aO kY;have Y:=gJ A z.ty;have⟨N,m15⟩:=lZ Y m9 m10;have m16:=m11.cK A (by omega);have E:=A.below D D.size (by omega);refine aC ?_;have hn0 : ∀ q,q<i->(fun q=>(bY m.ns q).id) q≠(bY m.ns i).id:=fun q o e=>by have q9:=F4 hr o (show i<m.ns.length by omega); have e:(bY m.ns q).id=(bY m.ns i).id:=e; omega
  refine Wl<|bA t<|au (pt n)<|Lv (aG ((bY m.ns i).id)) (aR x.aJ 0)<|au (pf n 1)<|Lv (aG ((bY m.ns i).par)) (aR x.aJ 1)<|Fx.L.UU (by rfl) rfl rfl rfl rfl rfl N underlying78 underlying26 hn0 fun S m17 R z5 => ?_;have M:=N.Gg R;have m18:=m15.fH M;have m19:=x.fH M;have U:=R.below E E.size (by omega);have mG:Mp S a (i+1) (aZ (fun q=>(bY m.ns q).id) i ((bY m.ns i).id)) (aZ (fun q=>Value.int .u64 (bY m.ns q).par) i (Value.int .u64 (bY m.ns i).par)):=m17;have m20:Mp S a (i+1) (fun q=>(bY m.ns q).id) (fun q=>Value.int .u64 (bY m.ns q).par):=mG.qU (fun q o=>⟨Oc (f:=(fun q=>(bY m.ns q).id)) q o,Oc (f:=(fun q=>Value.int .u64 (bY m.ns q).par)) q o⟩);refine Ln<|bS<|sN<|Wl<|Lv (av ((i:Int)+1)) (gu (hx:=c))<|au (av ((i:Int)+1))<|Ln<|iA ⟨i+1,by omega,t,K,(u.trans ic),ic,m20,m18,U⟩ ?_;show(m.ns.length-(intOf (av ((i:Int)+1))).toNat)<_;simp only[c,intOf]; omega
 refine Lv aD (fM F (hx:=c) (hy:=u))<|aC<|aQ<|aL<|Wx<|cZ<|iC<|dB<|sN<|ay<|bA t<|au (.map (some a))<|aC<|Wr<|aK (.map (some a)) ?_;have W:i=m.ns.length:=by omega
 exact⟨a,rfl,by rw[<- W]; exact y,by omega,l⟩
set_option maxRecDepth 20000 in
theorem aeV(h:Nat)(l:List iK)(x:Int)(w:World)(hr:CG l)(v:Mp w h l.length (fun q=>(bY l q).id) (fun q=>Value.int .u64 (bY l q).par)) :
 Calls prog 54 #[.map (some h),aG x] w fun e w'=>e = .returned (.bool (qK l 33 x))/\Below w.heap.size w w':=by
 obtain⟨N,i⟩ : ∃ q,q=33:=⟨_,rfl⟩;refine bX func54 21 ?_;refine ay<|au aD<|aC<|aQ<|ay<|au (av 0)<|aC<|Wb<|Wo (fun f t => ∃ j:Nat,∃ y:Int,j<=33/\qK l N x=qK l (N-j) y/\f 0 = .map (some h)/\f 1=aG y/\f 7=av (j:Int)/\Mp t h l.length (fun q=>(bY l q).id) (fun q=>Value.int .u64 (bY l q).par)/\Below w.heap.size w t) (fun f _=>(33-(intOf (f 7)).toNat)) ⟨0,x,by omega,(by rw[Nat.sub_zero]),(by rfl),ic,ic,v,(Below.refl w.heap.size w)⟩ ?_;rintro B D ⟨j,y,C,g,p,r,d,m,c⟩;refine ay ?_;by_cases n:(j:Int)<33
 ·refine Lv aH (fK n (hx:=d))<|aC<|aQ<|aP<|Wk<|sN<|aQ<|Wb<|aQ<|aQ ?_;obtain⟨u,k⟩ : ∃ f,N-j=f+1:=⟨32-j,by omega⟩;have A:N-(j+1)=u:=by omega
  refine Wl<|bA r ?_;by_cases b:y=0
  ·refine Lv aH (gU b)<|aC<|aP<|ay<|au aH<|aC<|Wr<|sR<|bO<|sR<|oG<|bO<|sR<|aK aH<|⟨by rw[<- i,g,k,VH b],c⟩
  refine Lv aD (gX b)<|aC<|aL<|Wk<|sN<|ay<|bA p<|bA r ?_
  rcases uo (fun q=>(bY l q).id) l.length y with ⟨a,s,o⟩|iN
  ·refine Lv (.tuple #[aG ((bY l a).par),.bool true]) (Ci (z:=aG 0) rfl rfl rfl m underlying78 underlying26 (by rfl) s o rfl)<|au (.tuple #[aG ((bY l a).par),.bool true])<|au (aG ((bY l a).par))<|au aH<|au (aG ((bY l a).par))<|au aH<|aC<|aQ<|ay<|au aH<|au aD<|aC<|aL<|Wk<|sN<|Wl<|au (aG ((bY l a).par))<|au (aG ((bY l a).par))<|Ln<|bS<|sN<|Wl<|Lv (av ((j:Int)+1)) (gu (hx:=d))<|au (av ((j:Int)+1))<|Ln<|iA ⟨j+1,(bY l a).par,by omega,(g.trans (by rw[k,A]; exact VI b (CJ hr s o))),p,ic,ic,m,c⟩ ?_;show(33-(intOf (av ((j:Int)+1))).toNat)<_;simp only[d,intOf]; omega
  refine Lv (.tuple #[aG 0,.bool false]) (Ch (z:=aG 0) rfl rfl rfl m underlying78 underlying26 (by rfl) iN)<|au (.tuple #[aG 0,.bool false])<|au (aG 0)<|au aD<|au (aG 0)<|au aD<|aC<|aQ<|ay<|au aD<|au aH<|aC<|aP<|ay<|au aD<|aC<|Wr<|sR<|bO<|sR<|oG<|bO<|sR<|aK aD<|⟨by rw[<- i,g,k,apt b (by rw[oh iN]; decide)],c⟩
 refine Lv aD (fM n (hx:=d))<|aC<|aQ<|aL<|Wx<|cZ<|iC<|dB<|sN<|ay<|au aD<|aC<|Wr<|aK aD<|⟨by rw[<- i,g,show N-j=0 by omega]; rfl,c⟩
namespace Rt
def Yb(l:List iK)(a:List jD):Prop:=0<=gF (fun q=>EP l (dK a q)) a.length
open Classical in
noncomputable def Hf(l:List iK)(a:List jD):Bool:=decide (Yb l a)
open Classical in
theorem aju(a:0<=gF (fun q=>EP c (dK h q)) h.length):Hf c h=true:=f_ a
open Classical in
theorem ajv(a : ¬ 0<=gF (fun q=>EP c (dK h q)) h.length):Hf c h=false:=g_ a
open Classical in
theorem ajw(h:EP c M=false):Ll c M:=Classical.byContradiction fun q=>j_ h q
open Classical in
theorem Z5(a:Hf c h=false) : ∀ k,k<h.length->Ll c (dK h k):=fun k b=>by
 have a:=j_ a
 rcases iW (fun q=>EP c (dK h q)) h.length with ⟨j,l,e,_⟩|⟨_,hn⟩
 ·exact L_ (show(0:Int)<=_ by rw[e]; omega) a
 ·exact ajw (hn k b)
open Classical in
theorem aeW(a:Hf c h=true) : ¬ ∀ k,k<h.length->Ll c (dK h k):=fun b=>by
 have a:=h_ a
 rcases iW (fun q=>EP c (dK h q)) h.length with ⟨j,l,e,d⟩|⟨e,_⟩
 ·exact h_ d (b j l)
 ·unfold Yb at a; rw[e]at a; exact L_ a (by decide)
open Classical in
theorem vO(h:vN f):wR f=true:=f_ h
open Classical in
theorem xU(h : ¬ vN f):wR f=false:=g_ h
open Classical in
theorem sw:wR f=true<->vN f:=O_
theorem ajx(h:N7 c=true):CG c:=Classical.byContradiction fun q=>by rw[Ta q]at h; cases h
theorem ajy(h:N7 c=false) : ¬ CG c:=fun q=>by rw[Oa q]at h; cases h
theorem ajz(l:N8 h=true) : ∀ k,k+1<h.length->kg (dK h k) (dK h (k+1)):=Classical.byContradiction fun q=>by rw[Td q]at l; cases l
theorem ajA(l:N8 h=false) : ¬ ∀ k,k+1<h.length->kg (dK h k) (dK h (k+1)):=fun q=>by rw[Ob q]at l; cases l
theorem aDB(h:XZ X=true) : ∀ i,i<6->X i<=1099511627776:=h_ h
theorem aDC(h:XZ X=false) : ¬ ∀ i,i<6->X i<=1099511627776:=j_ h
end Rt
set_option maxRecDepth 20000 in
theorem aeX(D I:Nat)(l:List iK)(g:jD)(w:World)(hr:CG l)(B:aM w I 1 (fun _ => .map (some D)) 78)(C:Mp w D l.length (fun q=>(bY l q).id) (fun q=>Value.int .u64 (bY l q).par)) :
 Calls prog 56 #[.agg (aA 5 (jZ g)),(pt I)] w fun e w'=>e = .returned (.bool (EP l g))/\Below w.heap.size w w':=by
 refine bX func56 47 ?_;refine ay<|oq fun p T G k M U => ?_;have⟨L,K,m⟩:=iP M.bP B C (Below.refl w.heap.size w);have N:=iy G;have⟨Q,R⟩:=oM G B.lt C.lt;have S:=k.lt;refine au aD<|aC<|ay<|Lv (.map (some D)) (aR L.aJ 0)<|au (pf p 2)<|Lv (aG g.n) (aR k.aJ 2) ?_
 rcases uo (fun q=>(bY l q).id) l.length g.n with ⟨A,J,H⟩|iN
 ·refine Lv (.tuple #[aG ((bY l A).par),.bool true]) (Ci (z:=aG 0) rfl rfl rfl K underlying78 underlying26 (by rfl) J H rfl)<|au (.tuple #[aG ((bY l A).par),.bool true])<|au (aG ((bY l A).par))<|au aH<|au (aG ((bY l A).par))<|au aH<|aC<|ay<|au (pt p)<|Lv (av g.o) (aR k.aJ 0) ?_;by_cases x:g.o<1
  ·refine Lv aH (fK x)<|au aH<|bf<|bf<|bf<|au aH<|au aH<|bf<|bf<|bf<|au aH<|au aH<|bf<|bf<|au aH<|au aH<|bf<|bf<|bf<|au aH<|au aH<|bf<|bf<|bf<|au aH<|au aH<|bf<|bf<|bf<|bf<|bf<|au aH<|au aH<|aC<|Wr<|aK aH<|⟨gN (Eq.symm (zf (fun h=>by obtain⟨s,t,c,d,u,v,f⟩:=h; first|omega|exact c i|exact f j|(rw[oh iN]at d; omega)))),m⟩
  refine Lv aD (fM x)<|au aD<|au (pt p)<|Lv (av g.o) (aR k.aJ 0) ?_;by_cases y:6<g.o
  ·refine Lv aH (lK y)<|au aH<|au aH<|bf<|bf<|bf<|au aH<|au aH<|bf<|bf<|au aH<|au aH<|bf<|bf<|bf<|au aH<|au aH<|bf<|bf<|bf<|au aH<|au aH<|bf<|bf<|bf<|bf<|bf<|au aH<|au aH<|aC<|Wr<|aK aH<|⟨gN (Eq.symm (zf (fun h=>by obtain⟨s,t,c,d,u,v,f⟩:=h; first|omega|exact c i|exact f j|(rw[oh iN]at d; omega)))),m⟩
  refine Lv aD (lM y)<|au aD<|au aD<|au (pf p 1)<|Lv (aG g.r) (aR k.aJ 1) ?_;by_cases i:g.r=0
  ·refine Lv aH (gU i)<|au aH<|au aH<|bf<|bf<|au aH<|au aH<|bf<|bf<|bf<|au aH<|au aH<|bf<|bf<|bf<|au aH<|au aH<|bf<|bf<|bf<|bf<|bf<|au aH<|au aH<|aC<|Wr<|aK aH<|⟨gN (Eq.symm (zf (fun h=>by obtain⟨s,t,c,d,u,v,f⟩:=h; first|omega|exact c i|exact f j|(rw[oh iN]at d; omega)))),m⟩
  refine Lv aD (gX i)<|au aD<|au aD<|au aH<|au aD<|au aD<|au aD<|au (pf p 3)<|Lv (av g.a) (aR k.aJ 3) ?_;by_cases E:g.a<1
  ·refine Lv aH (fK E)<|au aH<|au aH<|bf<|bf<|bf<|au aH<|au aH<|bf<|bf<|bf<|bf<|bf<|au aH<|au aH<|aC<|Wr<|aK aH<|⟨gN (Eq.symm (zf (fun h=>by obtain⟨s,t,c,d,u,v,f⟩:=h; first|omega|exact c i|exact f j|(rw[oh iN]at d; omega)))),m⟩
  refine Lv aD (fM E)<|au aD<|au aD<|au (pf p 3)<|Lv (av g.a) (aR k.aJ 3) ?_;by_cases F:1125899906842624<g.a
  ·refine Lv aH (lK F)<|au aH<|au aH<|bf<|bf<|bf<|bf<|bf<|au aH<|au aH<|aC<|Wr<|aK aH<|⟨gN (Eq.symm (zf (fun h=>by obtain⟨s,t,c,d,u,v,f⟩:=h; first|omega|exact c i|exact f j|(rw[oh iN]at d; omega)))),m⟩
  refine Lv aD (lM F)<|au aD<|au aD<|au (pf p 4)<|Lv (aG g.b) (aR k.aJ 4)<|au (pf p 1)<|Lv (aG g.r) (aR k.aJ 1) ?_;by_cases j:g.b=g.r
  ·refine Lv aH (gU j)<|au aH<|au aH<|aC<|Wr<|aK aH<|⟨gN (Eq.symm (zf (fun h=>by obtain⟨s,t,c,d,u,v,f⟩:=h; first|omega|exact c i|exact f j|(rw[oh iN]at d; omega)))),m⟩
  refine Lv aD (gX j)<|au aD<|au aD<|aC<|Wr<|aK aD<|⟨gN (Eq.symm (apu ⟨by omega,by omega,i,by rw[CJ hr J H]; omega,by omega,by omega,j⟩)),m⟩
 refine Lv (.tuple #[aG 0,.bool false]) (Ch (z:=aG 0) rfl rfl rfl K underlying78 underlying26 (by rfl) iN)<|au (.tuple #[aG 0,.bool false])<|au (aG 0)<|au aD<|au (aG 0)<|au aD<|aC<|ay<|au (pt p)<|Lv (av g.o) (aR k.aJ 0) ?_;by_cases x:g.o<1
 ·refine Lv aH (fK x)<|au aH<|bf<|bf<|bf<|au aH<|au aH<|bf<|bf<|bf<|au aH<|au aH<|bf<|bf<|au aH<|au aH<|bf<|bf<|bf<|au aH<|au aH<|bf<|bf<|bf<|au aH<|au aH<|bf<|bf<|bf<|bf<|bf<|au aH<|au aH<|aC<|Wr<|aK aH<|⟨gN (Eq.symm (zf (fun h=>by obtain⟨s,t,c,d,u,v,f⟩:=h; first|omega|exact c i|exact f j|(rw[oh iN]at d; omega)))),m⟩
 refine Lv aD (fM x)<|au aD<|au (pt p)<|Lv (av g.o) (aR k.aJ 0) ?_;by_cases y:6<g.o
 ·refine Lv aH (lK y)<|au aH<|au aH<|bf<|bf<|bf<|au aH<|au aH<|bf<|bf<|au aH<|au aH<|bf<|bf<|bf<|au aH<|au aH<|bf<|bf<|bf<|au aH<|au aH<|bf<|bf<|bf<|bf<|bf<|au aH<|au aH<|aC<|Wr<|aK aH<|⟨gN (Eq.symm (zf (fun h=>by obtain⟨s,t,c,d,u,v,f⟩:=h; first|omega|exact c i|exact f j|(rw[oh iN]at d; omega)))),m⟩
 refine Lv aD (lM y)<|au aD<|au aD<|au (pf p 1)<|Lv (aG g.r) (aR k.aJ 1) ?_;by_cases i:g.r=0
 ·refine Lv aH (gU i)<|au aH<|au aH<|bf<|bf<|au aH<|au aH<|bf<|bf<|bf<|au aH<|au aH<|bf<|bf<|bf<|au aH<|au aH<|bf<|bf<|bf<|bf<|bf<|au aH<|au aH<|aC<|Wr<|aK aH<|⟨gN (Eq.symm (zf (fun h=>by obtain⟨s,t,c,d,u,v,f⟩:=h; first|omega|exact c i|exact f j|(rw[oh iN]at d; omega)))),m⟩
 refine Lv aD (gX i)<|au aD<|au aD<|au aD<|au aH<|au aH<|au aH<|bf<|bf<|bf<|au aH<|au aH<|bf<|bf<|bf<|au aH<|au aH<|bf<|bf<|bf<|bf<|bf<|au aH<|au aH<|aC<|Wr<|aK aH<|⟨gN (Eq.symm (zf (fun h=>by obtain⟨s,t,c,d,u,v,f⟩:=h; first|omega|exact c i|exact f j|(rw[oh iN]at d; omega)))),m⟩
theorem aur(i d:Nat)(l:List iK)(b:List jD)(a:Option Addr)(c:Nat)(w:World)(Q:b.length<=1000000)(ha:Fx.iB w a b.length 5 (iU b))(hr:CG l)(A:aM w d 1 (fun _ => .map (some i)) 78)(B:Mp w i l.length (fun q=>(bY l q).id) (fun q=>Value.int .u64 (bY l q).par)) :
 Calls prog 84 #[.slice a (b.length) (c),.func (.func 56) #[] #[(pt d)]] w fun e w'=>e = .returned (av (gF (fun q=>EP l (dK b q)) b.length))/\Below w.heap.size w w':=by
 have U:=A.lt;have V:=B.lt;refine bX func84 19 ?_;refine ay<|au (av 0)<|aC<|aQ<|ay<|au (.slice a (b.length) (c))<|au (av b.length)<|au (av 0)<|aC<|Wb<|Wo (fun f v => ∃ k:Nat,k<=b.length/\(∀ p,p<k->(fun p=>EP l (dK b p)) p=false)/\f 0 = .slice a (b.length) (c)/\f 1 = .func (.func 56) #[] #[(pt d)]/\f 7=av (b.length:Int)/\f 8=av (k:Int)/\aM v d 1 (fun _ => .map (some i)) 78/\Mp v i l.length (fun q=>(bY l q).id) (fun q=>Value.int .u64 (bY l q).par)/\Below w.heap.size w v) (fun f _=>(b.length-(intOf (f 8)).toNat)) ⟨0,J_ _,(fun p h=>L_ h (by omega)),(by rfl),(by rfl),ic,ic,A,B,(Below.refl w.heap.size w)⟩ ?_;rintro O N ⟨k,P,s,z,g,r,m,t,u,o⟩;refine ay ?_;by_cases y:(k:Int)<(b.length:Int)
 ·refine Lv aH (fK y (hx:=m) (hy:=r))<|aC<|aQ<|aP<|Wk<|sN<|aQ<|Wb<|ay<|bA m<|au (av k)<|aC<|ay<|bA g<|bA z<|au (av k) ?_;obtain⟨x,M,G,C⟩:=(ha.up o rfl) (by omega);have T:x<N.heap.size:=C.lt (by omega);refine Lv (pf x (5*k+M)) (fC 5 (hx:=(rfl.trans (K_ (fun q=>Value.slice q (b.length) (c)) G))))<|Lv (.agg (aA 5 (jZ (dK b k)))) (dZ C (5*k) (fun S J=>eF (k:=k) (by omega) J)) ?_;by_cases j:(EP l (dK b k))=true
  ·refine zW (by rfl) (uJ (args := [.agg (aA 5 (jZ (dK b k)))]) rfl rfl rfl (all := #[.agg (aA 5 (jZ (dK b k))),(pt d)]) rfl func56 rfl rfl) rfl<|((aeX i d l (dK b k) _ hr t u).mono (fun e D g=>(⟨g.1,g.2⟩:e = .returned (.bool (EP l (dK b k)))/\_))).mono ?_;rintro e D ⟨n,H⟩;refine⟨.bool true,by rw[n,j],?_⟩;clear n;have E:=bL H o;refine aC<|aP<|ay<|au (av k)<|au (av k)<|aC<|Wr<|bO<|sR<|oG<|bO<|sR<|aK (av k) ?_;exact⟨uD (Eq.symm (tQ s j (by omega))),E⟩
  rw[R_]at j;refine zW (by rfl) (uJ (args := [.agg (aA 5 (jZ (dK b k)))]) rfl rfl rfl (all := #[.agg (aA 5 (jZ (dK b k))),(pt d)]) rfl func56 rfl rfl) rfl<|((aeX i d l (dK b k) _ hr t u).mono (fun e D g=>(⟨g.1,g.2⟩:e = .returned (.bool (EP l (dK b k)))/\_))).mono ?_;rintro e W ⟨n,I⟩;refine⟨.bool false,by rw[n,j],?_⟩;clear n;have⟨K,L,F⟩:=iP I t u o;refine aC<|aL<|Wk<|bS<|sN<|Wl<|Lv (av ((k:Int)+1)) (gu (hx:=m))<|au (av ((k:Int)+1))<|Ln<|iA ⟨k+1,by omega,(qL s (by simpa using j)),z,g,(r.trans ic),ic,K,L,F⟩ ?_;show(b.length-(intOf (av ((k:Int)+1))).toNat)<_;simp only[m,intOf]; omega
 refine Lv aD (fM y (hx:=m) (hy:=r))<|aC<|aQ<|aL<|Wx<|cZ<|iC<|dB<|sN<|ay<|au (av (-1))<|aC<|Wr<|aK (av (-1)) ?_;exact⟨uD (Eq.symm (mJ (fun p R=>s p (by omega)))),o⟩
theorem alx(g f:Nat)(l:List iK)(b:List jD)(a:Option Addr)(c:Nat)(w:World)(m:b.length<=1000000)(ha:Fx.iB w a b.length 5 (iU b))(hr:CG l)(i:aM w f 1 (fun _ => .map (some g)) 78)(j:Mp w g l.length (fun q=>(bY l q).id) (fun q=>Value.int .u64 (bY l q).par)) :
 Calls prog 55 #[.slice a (b.length) (c),.func (.func 56) #[] #[(pt f)]] w fun e w'=>e = .returned (.bool (Hf l b))/\Below w.heap.size w w':=by
 have n:=i.lt;have o:=j.lt;refine bX func55 9 ?_;refine ay<|au aD<|aC<|ay<|au (.slice a (b.length) (c))<|au (.func (.func 56) #[] #[(pt f)])<|dO (aur g f l b a c _ m (ha.up (Below.refl w.heap.size w) rfl) hr i j) _ rfl ?_;intro p k;have h:=bL k (Below.refl w.heap.size w);by_cases d:0<=(gF (fun q=>EP l (dK b q)) b.length)
 ·refine Lv aH (mW d)<|au aH<|aC<|Wr<|aK aH ?_;exact⟨gN (Eq.symm (aju d)),h⟩
 refine Lv aD (mM d)<|au aD<|aC<|Wr<|aK aD ?_;exact⟨gN (Eq.symm (ajv d)),h⟩
set_option maxRecDepth 20000 in
theorem Od(m:jA)(d:Option Addr)(g:Nat)(b:Option Addr)(c:Nat)(w:World)(hK:Qj m.aF)(hl1:m.ns.length<=1000000)(O:m.gs.length<=1000000)(P:Fx.iB w d m.ns.length 56 (gI m.ns))(N:Fx.iB w b m.gs.length 5 (iU m.gs)) :
 Calls prog 17 #[.agg (aA 20 (dS (dR m d g b c)))] w fun e w'=>e = .returned (.bool (wR m))/\Below w.heap.size w w':=by
 refine bX func17 82 ?_;refine ay<|oq fun a w1 kV m1 s1 z1 => ?_;have b1:=bL s1.bP (Below.refl w.heap.size w);have tJ:=iy kV;have vB:=m1.lt;refine au aD<|aC<|aQ<|ay<|au (pf a 12)<|Lv (.agg (aA 6 (rv .u64 m.aF))) (dZ m1.aJ 12 (fun j hj=>fA (p:=j) _ hj)) ?_;by_cases A:(XZ m.aF)=true
 ·refine dO (aeL _ _ hK) aH (by rw[A]) ?_;intro w2 hb1;have⟨U,u⟩:=fB hb1 m1 b1;refine au aD<|au aD<|au (pf a 18)<|Lv (.slice d (m.ns.length) (g)) (aR U.aJ 18)<|au (av m.ns.length) ?_;by_cases c16:32<(m.ns.length:Int)
  ·refine Lv aH (lK c16)<|au aH<|au aH<|bf<|bf<|bf<|bf<|au aH<|au aH<|bf<|bf<|bf<|bf<|au aH<|au aH<|bf<|bf<|bf<|bf<|au aH<|aC<|aP<|ay<|au aD<|aC<|Wr<|sR<|aK aD<|⟨gN (Eq.symm (xU (fun h=>by have:=h.nn; omega))),u⟩
  refine Lv aD (lM c16)<|au aD<|au aD<|au (pf a 19)<|Lv (.slice b (m.gs.length) (c)) (aR U.aJ 19)<|au (av m.gs.length) ?_;by_cases c22:4096<(m.gs.length:Int)
  ·refine Lv aH (lK c22)<|au aH<|au aH<|bf<|bf<|bf<|bf<|au aH<|au aH<|bf<|bf<|bf<|bf<|au aH<|aC<|aP<|ay<|au aD<|aC<|Wr<|sR<|aK aD<|⟨gN (Eq.symm (xU (fun h=>by have:=h.gn; omega))),u⟩
  refine Lv aD (lM c22)<|au aD<|au aD<|au (pf a 18)<|Lv (.slice d (m.ns.length) (g)) (aR U.aJ 18) ?_;by_cases B:(N7 m.ns)=true
  ·refine dO (X9 _ g _ _ hl1 (P.up u rfl)) aH (by rw[B]) ?_;intro w3 hb2;have⟨m3,K⟩:=fB hb2 U u;refine au aD<|au aD<|au aD<|au (pf a 19)<|Lv (.slice b (m.gs.length) (c)) (aR m3.aJ 19) ?_;by_cases C:(N8 m.gs)=true
   ·refine dO (Ya _ c _ _ O (N.up K rfl)) aH (by rw[C]) ?_;intro w4 hb3;have⟨m4,b4⟩:=fB hb3 m3 K;refine au aD<|au aD<|aC<|aL<|Wk<|sN<|aQ<|aQ<|have z:=ajx B;Wl<|au (pf a 6)<|Lv (.agg (aA 6 (fun j => .bool (m.left j)))) (dZ m4.aJ 6 (fun j hj=>fT (p:=j) _ hj))<|au (av 0)<|aC<|Wb<|Wo (fun f t => ∃ i:Nat,i<=6/\(∀ q,q<i->m.left q=true->m.dF q=true)/\f 1=(pt a)/\f 37 = .agg (aA 6 (fun j => .bool (m.left j)))/\f 38=av (i:Int)/\aM t a 20 (dS (dR m d g b c)) 43/\Below w.heap.size w t) (fun f _=>(6-(intOf (f 38)).toNat)) ⟨0,by omega,(fun q h=>L_ h (by omega)),(by rfl),(by rfl),ic,m4,b4⟩ ?_;rintro f1 w5 ⟨i,hi,YN,x,M,n,s,v⟩;refine ay ?_;by_cases c39:(i:Int)<6
    ·refine Lv aH (fK c39 (hx:=n))<|aC<|aQ<|aP<|Wk<|sN<|aQ<|Wb<|ay<|bA n ?_;by_cases D:(m.left i)=true
     ·refine Lv aH (Qu (j:=i) (y:=fun j => .bool (m.left j)) rfl M n underlying39 (by kernel_rfl) (by kernel_rfl) (by omega) ((show _=Value.bool (m.left i)from rfl).trans (K_ Value.bool D)))<|au (av i)<|au aH<|aC<|ay<|au aH<|au aH<|au (av i)<|Lv (pt a) (iO x 0)<|Lv (pf a i) (jh 6 1) ?_;by_cases E:(m.dF i)=true
      ·refine Lv aH (aR s.aJ i ((iX _).trans (K_ Value.bool E)))<|au aD<|au aD<|aC<|aL<|Wk<|bS<|sN<|Wl<|Lv (av ((i:Int)+1)) (gu (hx:=n))<|au (av ((i:Int)+1))<|Ln<|iA ⟨i+1,by omega,(qL YN (fun _=>E)),x,M,ic,s,v⟩ ?_;show(6-(intOf (av ((i:Int)+1))).toNat)<_;simp only[n,intOf]; omega
      rw[R_]at E;refine Lv aD (aR s.aJ i ((iX _).trans (K_ Value.bool E)))<|au aH<|au aH<|aC<|aP<|ay<|au aD<|aC<|Wr<|bO<|sR<|oG<|bO<|sR<|aK aD<|⟨gN (Eq.symm (xU (fun h=>by have:=h.li i (by omega) D; rw[E]at this; cases this))),v⟩
     rw[R_]at D;refine Lv aD (Qu (j:=i) (y:=fun j => .bool (m.left j)) rfl M n underlying39 (by kernel_rfl) (by kernel_rfl) (by omega) ((show _=Value.bool (m.left i)from rfl).trans (K_ Value.bool D)))<|au (av i)<|au aD<|aC<|ay<|au aD<|au aD<|bf<|bf<|bf<|bf<|bf<|au aD<|aC<|aL<|Wk<|bS<|sN<|Wl<|Lv (av ((i:Int)+1)) (gu (hx:=n))<|au (av ((i:Int)+1))<|Ln<|iA ⟨i+1,by omega,(qL YN (fun h=>by rw[D]at h; cases h)),x,M,ic,s,v⟩ ?_
     show(6-(intOf (av ((i:Int)+1))).toNat)<_;simp only[n,intOf]; omega
    refine Lv aD (fM c39 (hx:=n))<|aC<|aQ<|aL<|Wx<|cZ<|iC<|dB<|sN<|ay<|Lv (.agg (aA 20 (dS (dR m d g b c)))) (dZ s.aJ 0 (ha:=x))<|lX (Z4 _ _ g b c _ hl1 z (P.up v rfl)) ?_;rintro e9 w6 ⟨l,he,aus,aut,hb4⟩;refine⟨_,he,?_⟩;clear he;have⟨m6,b6⟩:=fB hb4 s v;refine oJ 1 (fun _ => .map none) fun r w7 nN m7 s6 z2 =>have⟨m8,m9,b7⟩:=iP s6.bP m6 aus b6;have xw:=gQ nN b6.size;have⟨akG,RZ⟩:=oM nN m6.lt aus.lt;have zR:=m7.lt;jf m7 0 (.map (some l)) fun w8 m10 s7 z3 =>have m11:aM w8 r 1 (fun _ => .map (some l)) 78:=eP m10;have gT:=gJ s7 m7.ty;have⟨kY,m13⟩:=lZ gT m8 m9;have b8:=s7.below b7 b7.size (by omega);aC<|aQ<|ay<|Lv (pf a 18) (iO x 18)<|Lv (.slice d (m.ns.length) (g)) (aR kY.aJ 18)<|au (av m.ns.length)<|au (av 0)<|aC<|Wb<|Wo (fun f t => ∃ i:Nat,i<=m.ns.length/\(∀ q,q<i->auk m.ns q)/\f 1=(pt a)/\f 5=(pt r)/\f 54 = .slice d (m.ns.length) (g)/\f 55=av (m.ns.length:Int)/\f 56=av (i:Int)/\aM t a 20 (dS (dR m d g b c)) 43/\Mp t l m.ns.length (fun q=>(bY m.ns q).id) (fun q=>Value.int .u64 (bY m.ns q).par)/\aM t r 1 (fun _ => .map (some l)) 78/\Below w.heap.size w t) (fun f _=>(m.ns.length-(intOf (f 56)).toNat)) ⟨0,J_ _,(fun q h=>L_ h (by omega)),x,(by rfl),(by rfl),ic,ic,kY,m13,m11,b8⟩ ?_;rintro f2 w9 ⟨i,hi,hnd,h4,Y,h6,Z,J,m14,Q,S,o⟩;refine ay ?_;by_cases c57:(i:Int)<(m.ns.length:Int)
    ·refine Lv aH (fK c57 (hx:=J) (hy:=Z))<|aC<|aQ<|aP<|Wk<|sN<|aQ<|Wb<|ay ?_;obtain⟨W,VJ,eq1,T⟩:=(P.up o rfl) (by omega);refine Lv (pf W (56*i+VJ)) (fC 56 (hx:=(h6.trans (K_ (fun q=>Value.slice q (m.ns.length) (g)) eq1))) (hi:=J))<|Lv (.agg (aA 56 (iI (bY m.ns i)))) (dZ T (56*i) (fun jq hjq=>eF (k:=i) (by omega) hjq))<|oJ 56 zJ0 fun I uE X m18 s8 z4 =>have⟨m19,m20,mG,m22,b10⟩:=oK s8.bP m14 Q S T o;have Gc:=gQ X o.size;have⟨adR,aoK,Vn⟩:=El X m14.lt Q.lt S.lt;have KX:W≠I:=(by rw[X]; exact u_ (T.lt (by omega)));have Gr:=m18.lt;dY m18 0 (h1:=(fun j _=>nM _ j)) fun Bg m23 s9 z5 =>have m24:aM Bg I 56 (iI (bY m.ns i)) 69:=aO m23;have jC:=gJ s9 m18.ty;have⟨mU,pK,pO⟩:=wB jC m19 m20 mG;have om:=m22.cK s9 (by omega);have V:=s9.below b10 b10.size (by omega);aC<|ay<|au (pt I)<|Lv (aG ((bY m.ns i).id)) (aR m24.aJ 0) ?_;by_cases L:((bY m.ns i).id)=0
     ·refine Lv aH (gU L)<|au aH<|bf<|bf<|bf<|bf<|au aH<|au aH<|bf<|bf<|bf<|bf<|bf<|au aH<|aC<|aP<|ay<|au aD<|aC<|Wr<|bO<|sR<|oG<|bO<|sR<|aK aD<|⟨gN (Eq.symm (xU (fun h=>(h.nd i (by omega)).1 L))),V⟩
     refine Lv aD (gX L)<|au aD<|au (pf I 2)<|Lv (.agg (aA 54 (rv .i64 ((bY m.ns i).R)))) (dZ m24.aJ 2 (fun q _=>CY _ _ _ q)) ?_;by_cases F:(iV (bY m.ns i).R)=true
     ·refine dO (Ji (bY m.ns i).R _) aH (by rw[F]) ?_;intro BD hb5;have⟨qb,qV,mY,oD,b12⟩:=oK hb5 mU pK pO m24 V;refine au aD<|au aD<|au aD<|Lv (.map (some l)) (aR mY.aJ 0 (ha:=Y))<|au (pt I)<|Lv (aG ((bY m.ns i).id)) (aR oD.aJ 0) ?_;by_cases G:(qK m.ns 33 (bY m.ns i).id)=true
      ·refine dO (aeV _ _ (bY m.ns i).id _ z qV) aH (by rw[G]) ?_;intro Bh hb6;have⟨pz,pQ,rE,b13⟩:=jv hb6 qb qV mY b12;refine au aD<|au aD<|aC<|aL<|Wk<|bS<|sN<|Wl<|Lv (av ((i:Int)+1)) (gu (hx:=J))<|au (av ((i:Int)+1))<|Ln<|iA ⟨i+1,by omega,(qL hnd ⟨L,F,G⟩),h4,Y,h6,(Z.trans ic),ic,pz,pQ,rE,b13⟩ ?_;show(m.ns.length-(intOf (av ((i:Int)+1))).toNat)<_;simp only[J,intOf]; omega
      rw[R_]at G;refine dO (aeV _ _ (bY m.ns i).id _ z qV) aD (by rw[G]) ?_;intro EU M8;have b14:=bL M8 b12;refine au aH<|au aH<|aC<|aP<|ay<|au aD<|aC<|Wr<|bO<|sR<|oG<|bO<|sR<|aK aD<|⟨gN (Eq.symm (xU (fun h=>by have:=(h.nd i (by omega)).2.2; rw[G]at this; cases this))),b14⟩
     rw[R_]at F;refine dO (Ji (bY m.ns i).R _) aD (by rw[F]) ?_;intro CW YQ;have b15:=bL YQ V;refine au aH<|au aH<|au aH<|bf<|bf<|bf<|bf<|bf<|au aH<|aC<|aP<|ay<|au aD<|aC<|Wr<|bO<|sR<|oG<|bO<|sR<|aK aD<|⟨gN (Eq.symm (xU (fun h=>by have:=(h.nd i (by omega)).2.1; rw[F]at this; cases this))),b15⟩
    refine Lv aD (fM c57 (hx:=J) (hy:=Z))<|aC<|aQ<|aL<|Wx<|cZ<|iC<|dB<|sN<|ay<|Lv (pf a 19) (iO h4 19)<|Lv (.slice b (m.gs.length) (c)) (aR m14.aJ 19)<|Lv (.func (.func 56) #[] #[(pt r)]) (qp (us := []) (vs := [(pt r)]) rfl rfl (aav Y)) ?_;by_cases H:(Hf m.ns m.gs)=true
    ·refine dO (alx _ _ _ _ _ c _ O (N.up o rfl) z S Q) aH (by rw[H]) ?_;intro w16 Zh;have b16:=bL Zh o;refine au aD<|au aD<|aC<|Wr<|aK aD<|⟨gN (Eq.symm (xU (fun h=>aeW H h.gd))),b16⟩
    rw[R_]at H;refine dO (alx _ _ _ _ _ c _ O (N.up o rfl) z S Q) aD (by rw[H]) ?_;intro Fg RN;have b17:=bL RN o;refine au aH<|au aH<|aC<|Wr<|aK aH<|⟨gN (Eq.symm (vO ⟨aDB A,by omega,by omega,z,ajz C,fun q hq=>YN q (by omega),fun q hq=>hnd q (by omega),Z5 H⟩)),b17⟩
   rw[R_]at C;refine dO (Ya _ c _ _ O (N.up K rfl)) aD (by rw[C]) ?_;intro En Zv;have b18:=bL Zv K;refine au aH<|au aH<|aC<|aP<|ay<|au aD<|aC<|Wr<|sR<|aK aD<|⟨gN (Eq.symm (xU (fun h=>ajA C h.gr))),b18⟩
  rw[R_]at B;refine dO (X9 _ g _ _ hl1 (P.up u rfl)) aD (by rw[B]) ?_;intro YF Zw;have b19:=bL Zw u;refine au aH<|au aH<|au aH<|bf<|bf<|bf<|bf<|au aH<|aC<|aP<|ay<|au aD<|aC<|Wr<|sR<|aK aD<|⟨gN (Eq.symm (xU (fun h=>ajy B h.nr))),b19⟩
 rw[R_]at A;refine dO (aeL _ _ hK) aD (by rw[A]) ?_;intro TN Zx;have b20:=bL Zx b1;refine au aH<|au aH<|bf<|bf<|bf<|bf<|au aH<|au aH<|bf<|bf<|bf<|bf<|au aH<|au aH<|bf<|bf<|bf<|bf<|au aH<|au aH<|bf<|bf<|bf<|bf<|au aH<|aC<|aP<|ay<|au aD<|aC<|Wr<|sR<|aK aD<|⟨gN (Eq.symm (xU (fun h=>aDC A h.kn))),b20⟩
namespace Rt
theorem aeY{x y:iK} : ∀ j,j<56->bJ (iI x) 2 54 (rv .i64 (yJ x.R y.R)) j=iI (BI x y) j:=fun j c=>by
 unfold bJ iI BI mV rv;by_cases a:j=0
 ·subst a; rfl
 ·by_cases b:j=1
  ·subst b; rfl
  ·rw[d_]; simp[a,b]
theorem Tf{y:jD} : ∀ j,j<5->dN (jZ M) 4 (aG (ou M.b y.b)) j=jZ (CF M y) j:=fun j a=>by
 rcases j with _|_|_|_|_|j
 all_goals first|rfl|omega
theorem F5(ha:0<=a)(c:0<=d):(if d<a then d else a)=0<->a=0\/d=0:=by split <;> omega
end Rt
theorem aeZ(x y:iK)(w:World) :
 Calls prog 27 #[.agg (aA 56 (iI x)),.agg (aA 56 (iI y))] w fun e w'=>e = .returned (.tuple #[.agg (aA 56 (iI (if x.par=y.par then BI x y else x))),av (if x.par=y.par then 0 else 9)])/\Below w.heap.size w w':=by
 refine bX func27 19 ?_;refine ay<|oq fun c w1 F g S z1 => ?_;have n:=bL S.bP (Below.refl w.heap.size w);have Z:=iy F;have aj:=g.lt;refine oq fun u C s h T z2 =>have⟨B,o⟩:=fB T.bP g n;have aa:=gQ s n.size;have ag:=gD s g.lt;have ak:=h.lt;oJ 56 zJ0 fun v _ t i U z3 => ?_;have⟨a,d,f⟩:=iP U.bP B h o;have ab:=gQ t o.size;have⟨ah,ai⟩:=oM t B.lt h.lt;have al:=i.lt;refine au (av 0)<|aC<|aQ<|ay<|au (pf c 1)<|Lv (aG x.par) (aR a.aJ 1)<|au (pf u 1)<|Lv (aG y.par) (aR d.aJ 1) ?_;by_cases b:x.par=y.par
 ·refine Lv aD (kr b)<|aC<|aL<|Wk<|sN<|ay<|au (pf c 2)<|Lv (.agg (aA 54 (rv .i64 x.R))) (dZ a.aJ 2 (fun q _=>CY _ _ _ q))<|au (pf u 2)<|Lv (.agg (aA 54 (rv .i64 y.R))) (dZ d.aJ 2 (fun q _=>CY _ _ _ q))<|dO ((abj x.R y.R _).mono (fun e C z=>(⟨z.1,z.2⟩:e = .returned (.agg (aA 54 (rv .i64 (yJ x.R y.R))))/\Below _ _ C))) _ rfl ?_;intro w4 G;have⟨O,P,Q,p⟩:=jv G a d i f;refine au (pf c 2)<|dY O 2 fun V H k z4 =>have A:aM V c 56 (iI (BI x y)) 69:=H.congr aeY;have I:=P.cK k (by omega);have J:=Q.cK k (by omega);have r:=k.below p p.size (by omega);aC<|ay<|Lv (.agg (aA 56 (iI (BI x y)))) (dZ A.aJ 0)<|dY J 0 (h1:=(fun j _=>nM _ j)) fun W K l z5 =>have L:aM W v 56 (iI (BI x y)) 69:=aO K;have ac:=I.cK l (by omega);have ad:=A.cK l (by omega);have D:=l.below r r.size (by omega);au (av 0) (aC (Wr (⟨.tuple #[.agg (aA 56 (iI (BI x y))),av 0],gK Tryz.results27 ⟨_,rfl,aU L.aJ⟩,?_⟩)));exact⟨by simp only[d_ b],D⟩
 refine Lv aH (mO b)<|aC<|aP<|ay<|Lv (.agg (aA 56 (iI x))) (dZ a.aJ 0)<|dY i 0 (h1:=(fun j _=>nM _ j)) fun X M m z6 =>have N:aM X v 56 (iI x) 69:=aO M;have ae:=a.cK m (by omega);have af:=d.cK m (by omega);have E:=m.below f f.size (by omega);au (av 9) (aC (Wr (sR (⟨.tuple #[.agg (aA 56 (iI x)),av 9],gK Tryz.results27 ⟨_,rfl,aU N.aJ⟩,?_⟩))));exact⟨by simp only[b_ b],E⟩
theorem Yc(x y:jD)(w:World)(hx:0<=x.b)(hy:0<=y.b) :
 Calls prog 30 #[.agg (aA 5 (jZ x)),.agg (aA 5 (jZ y))] w fun e w'=>e = .returned (.tuple #[.agg (aA 5 (jZ (if gH x y then x else CF x y))),av (if gH x y then 14 else 0)])/\Below w.heap.size w w':=by
 refine bX func30 43 ?_;refine ay<|oq fun i w1 T p s1 z1 => ?_;have C:=bL s1.bP (Below.refl w.heap.size w);have tJ:=iy T;have vB:=p.lt;refine oq fun m w2 J q s2 z2 =>have⟨M,D⟩:=fB s2.bP p C;have xw:=gQ J C.size;have BP:=gD J p.lt;have zR:=q.lt;oJ 5 zR0 fun o w3 K l s3 z3 => ?_;have⟨f,h,g⟩:=iP s3.bP M q D;have Gc:=gQ K D.size;have⟨WB,aaU⟩:=oM K M.lt q.lt;have Gr:=l.lt;refine au (av 0)<|aC<|ay<|au (pf i 4)<|Lv (aG x.b) (aR f.aJ 4)<|au (pf m 4)<|Lv (aG y.b) (aR h.aJ 4)<|Lv (aG (if y.b>x.b then y.b else x.b)) (Wj rfl rfl rfl)<|au (aG (if y.b>x.b then y.b else x.b))<|aC<|aQ<|ay<|au (pf i 2)<|Lv (aG x.n) (aR f.aJ 2)<|au (pf m 2)<|Lv (aG y.n) (aR h.aJ 2) ?_;by_cases G:x.n=y.n
 ·refine Lv aD (kr G)<|au aD<|au (pf i 3)<|Lv (av x.a) (aR f.aJ 3)<|au (pf m 3)<|Lv (av y.a) (aR h.aJ 3) ?_;by_cases H:x.a=y.a
  ·refine Lv aD (kr H)<|au aD<|au aD<|au (pf i 4)<|Lv (aG x.b) (aR f.aJ 4)<|au (pf m 4)<|Lv (aG y.b) (aR h.aJ 4)<|Lv (aG (if y.b<x.b then y.b else x.b)) (aqT rfl rfl rfl) ?_;by_cases c:(if y.b<x.b then y.b else x.b)=0
   ·refine Lv aD (kr c)<|au aD<|bf<|bf<|bf<|bf<|bf<|au aD<|au aD<|aC<|aL<|Wk<|sN<|ay<|au (aG (if y.b>x.b then y.b else x.b))<|au (pf i 4)<|jf f 4 (aG (if y.b>x.b then y.b else x.b)) fun w4 m7 s z4 =>have N:aM w4 i 5 (jZ (CF x y)) 96:=m7.congr Tf;have m9:=h.cK s (by omega);have U:=l.cK s (by omega);have E:=s.below g g.size (by omega);aC<|ay<|Lv (.agg (aA 5 (jZ (CF x y)))) (dZ N.aJ 0)<|dY U 0 (h1:=(fun j _=>su _ j)) fun w5 V t z5 =>have W:aM w5 o 5 (jZ (CF x y)) 96:=aO V;have m13:=m9.cK t (by omega);have m14:=N.cK t (by omega);have P:=t.below E E.size (by omega);au (av 0) (aC (Wr (⟨.tuple #[.agg (aA 5 (jZ (CF x y))),av 0],gK Tryz.results30 ⟨_,rfl,aU W.aJ⟩,?_⟩)));have k : ¬ gH x y:=by unfold gH; have d:=F5 hx hy; first|omega|(rw[d]at c; omega)|(have c:=d.1 c; omega)
    exact⟨by simp only[b_ k],P⟩
   refine Lv aH (mO c)<|au aH<|au (pf i 4)<|Lv (aG x.b) (aR f.aJ 4)<|au (pf m 4)<|Lv (aG y.b) (aR h.aJ 4) ?_;by_cases I:x.b=y.b
   ·refine Lv aD (kr I)<|au aD<|au aD<|aC<|aL<|Wk<|sN<|ay<|au (aG (if y.b>x.b then y.b else x.b))<|au (pf i 4)<|jf f 4 (aG (if y.b>x.b then y.b else x.b)) fun w6 X u z6 =>have L:aM w6 i 5 (jZ (CF x y)) 96:=X.congr Tf;have Y:=h.cK u (by omega);have Z:=l.cK u (by omega);have F:=u.below g g.size (by omega);aC<|ay<|Lv (.agg (aA 5 (jZ (CF x y)))) (dZ L.aJ 0)<|dY Z 0 (h1:=(fun j _=>su _ j)) fun w7 aa v z7 =>have ab:aM w7 o 5 (jZ (CF x y)) 96:=aO aa;have mG:=Y.cK v (by omega);have m22:=L.cK v (by omega);have Q:=v.below F F.size (by omega);au (av 0) (aC (Wr (⟨.tuple #[.agg (aA 5 (jZ (CF x y))),av 0],gK Tryz.results30 ⟨_,rfl,aU ab.aJ⟩,?_⟩)));have k : ¬ gH x y:=by unfold gH; have d:=F5 hx hy; first|omega|(rw[d]at c; omega)|(have c:=d.1 c; omega)
    exact⟨by simp only[b_ k],Q⟩
   refine Lv aH (mO I)<|au aH<|au aH<|aC<|aP<|ay<|Lv (.agg (aA 5 (jZ x))) (dZ f.aJ 0)<|dY l 0 (h1:=(fun j _=>su _ j)) fun w8 ac z z8 =>have ad:aM w8 o 5 (jZ x) 96:=aO ac;have mU:=f.cK z (by omega);have pK:=h.cK z (by omega);have R:=z.below g g.size (by omega);au (av 14) (aC (Wr (sR (⟨.tuple #[.agg (aA 5 (jZ x)),av 14],gK Tryz.results30 ⟨_,rfl,aU ad.aJ⟩,?_⟩))));have k:gH x y:=by unfold gH; have d:=F5 hx hy; first|omega|(rw[d]at c; omega)|(have c:=d.1 c; omega)
   exact⟨by simp only[d_ k],R⟩
  refine Lv aH (mO H)<|au aH<|au aH<|bf<|bf<|bf<|bf<|bf<|bf<|bf<|bf<|bf<|bf<|bf<|bf<|bf<|au aH<|aC<|aP<|ay<|Lv (.agg (aA 5 (jZ x))) (dZ f.aJ 0)<|dY l 0 (h1:=(fun j _=>su _ j)) fun w9 ae A z9 =>have af:aM w9 o 5 (jZ x) 96:=aO ae;have qb:=f.cK A (by omega);have qV:=h.cK A (by omega);have S:=A.below g g.size (by omega);au (av 14) (aC (Wr (sR (⟨.tuple #[.agg (aA 5 (jZ x)),av 14],gK Tryz.results30 ⟨_,rfl,aU af.aJ⟩,?_⟩))));have k:gH x y:=by unfold gH; have d:=F5 hx hy; first|omega|(rw[d]at c; omega)|(have c:=d.1 c; omega)
  exact⟨by simp only[d_ k],S⟩
 refine Lv aH (mO G)<|au aH<|bf<|bf<|bf<|bf<|bf<|au aH<|au aH<|bf<|bf<|bf<|bf<|bf<|bf<|bf<|bf<|bf<|bf<|bf<|bf<|bf<|au aH<|aC<|aP<|ay<|Lv (.agg (aA 5 (jZ x))) (dZ f.aJ 0)<|dY l 0 (h1:=(fun j _=>su _ j)) fun uE ag r QM =>have ah:aM uE o 5 (jZ x) 96:=aO ag;have oD:=f.cK r (by omega);have pz:=h.cK r (by omega);have O:=r.below g g.size (by omega);au (av 14) (aC (Wr (sR (⟨.tuple #[.agg (aA 5 (jZ x)),av 14],gK Tryz.results30 ⟨_,rfl,aU ah.aJ⟩,?_⟩))));have k:gH x y:=by unfold gH; have d:=F5 hx hy; first|omega|(rw[d]at c; omega)|(have c:=d.1 c; omega)
 exact⟨by simp only[d_ k],O⟩
namespace Fx
def F6(s j c:Nat)(a:Option Addr):Option Addr:=if c=j then a else a.map (·.add (j*s))
theorem Ir{P:Program}{w:World}{o:Oper}{s:Nat}(g:o.op = .slice T H (some N) none none)(hx:ev x H = .slice q k m)(e:ev x N = .int .i64 j)
 (l:P.underlying T=some (.slice E)) (i:(P.info? E).map (·.size)=some s) (h1:j<=k) (d:k<=m):cB P x o w (.slice (F6 s j m q) (k-j) (m-j)) :=
 aum (h:=k) g hx (by rw[b_ (by rintro ⟨_,h⟩; cases h)]; exact K_ some e) (by rw[d_ ⟨rfl,rfl⟩]; rfl) l i h1 d
theorem iB.sl{w:World}{s:Nat}(g:iB w q k s y)(a:k<=m):iB w (F6 s j m q) (k-j) s (fun p=>y (j*s+p)):=fun f=>by
 have n:j<k:=by
  rcases Nat.lt_or_ge j k with h|h
  ·exact h
  ·rw[show k-j=0 by omega]at f; simp at f
 obtain⟨b,d,rfl,i⟩:=g (by have:=Nat.mul_le_mul_right s (show k-j<=k by omega); omega);unfold F6;rw[b_];refine⟨b,d+j*s,by simp[nR],fun p o => ?_⟩;have l:j*s+p<k*s:=by
  have e:(k-j)*s=k*s-j*s:=Nat.sub_mul _ _ _;have:=Nat.mul_le_mul_right s (show j<=k by omega);omega
 have:=i (j*s+p) l;rw[show d+j*s+p=d+(j*s+p) by omega]; exact this
theorem iB.to{w:World}{a:Option Addr}(h:iB w a b k x)(i:b=m)(e : ∀ j,j<m*k->x j=y j):iB w a m k y:=fun f=>by
 subst i;obtain⟨s,n',d,g⟩:=h f;exact⟨s,n',d,fun p c=>by rw[<- e p c]; exact g p c⟩
theorem afa{a:Type}{d:a}{l r:List a}:(l++r).getD k d=if k<l.length then l.getD k d else r.getD (k-l.length) d:=by
 grind
theorem Lm{a:Type}{d:a}{Y:a->Nat->Value}{l r:List a}(f:0<m)(e:k=l.length) : ∀ j,gP (dn m fun s=>Y (l.getD s d)) (k*m) (dn m fun s=>Y (r.getD s d)) j=dn m (fun s=>Y ((l++r).getD s d)) j:=fun j=>by
 subst e;unfold gP dn;show _=Y ((l++r).getD (j / m) d) (j % m);rw[afa];by_cases c:j<l.length*m
 ·rw[d_ c,d_ (Nat.div_lt_of_lt_mul (by rw[Nat.mul_comm]; exact c))]
 ·have g:l.length<=j / m:=(Nat.le_div_iff_mul_le f).2 (by omega);rw[b_ c,b_];have b:j-l.length*m=j-m*l.length:=by rw[Nat.mul_comm]
  rw[b,Nat.sub_mul_div,Nat.sub_mul_mod (by rw[Nat.mul_comm]; omega)]
theorem Oe{a:Type}{d:a}{Y:a->Nat->Value}{l:List a}{n:a}(g:0<m)(f:k=l.length) : ∀ j,j<(k+1)*m->gP (dn m fun s=>Y (l.getD s d)) (k*m) (bJ x (0*m) m (Y n)) j=dn m (fun s=>Y ((l ++ [n]).getD s d)) j:=fun j e=>by
 rw[<- Lm g f];unfold gP;by_cases c:j<k*m
 ·rw[d_ c,d_ c]
 ·rw[b_ c,b_ c];have b:j-k*m<m:=by rw[Nat.add_mul]at e; omega
  unfold bJ dn;rw[d_ ⟨by omega,by omega⟩,Nat.div_eq_of_lt b,Nat.mod_eq_of_lt b,Nat.zero_mul,Nat.sub_zero]; rfl
theorem Og{a:Type}{d:a}{Y:a->Nat->Value}{l:List a}(b:0<m)(p:Nat):dn m (fun k=>Y (l.getD k d)) (1*m+p)=dn m (fun k=>Y (l.tail.getD k d)) p:=by
 simp_all [dn]
end Fx
namespace Rt
theorem Yd(h:Fx.iB s q m 56 (gI A))(b:m<=k):Fx.iB s (F6 56 1 k q) (m-1) 56 (gI A.tail):=(h.sl b).to rfl fun p _=>Og (Y:=iI) (d:=nd0) (by decide) p
theorem Ye(n:Fx.iB s q m 5 (iU h))(b:m<=k):Fx.iB s (F6 5 1 k q) (m-1) 5 (iU h.tail):=(n.sl b).to rfl fun p _=>Og (Y:=jZ) (d:=gr0) (by decide) p
theorem CK{l:List iK}{x:iK}(a:m=l.length) : ∀ j,j<(m+1)*56->gP (gI l) (m*56) (bJ y (0*56) 56 (iI x)) j=gI (l ++ [x]) j:=Oe (by decide) a
theorem Lp{l:List jD}{x:jD}(a:m=l.length) : ∀ j,j<(m+1)*5->gP (iU l) (m*5) (bJ y (0*5) 5 (jZ x)) j=iU (l ++ [x]) j:=Oe (by decide) a
theorem JE{l r:List iK}(a:m=l.length) : ∀ j,gP (gI l) (m*56) (gI r) j=gI (l++r) j:=Lm (by decide) a
theorem JG{l r:List jD}(a:m=l.length) : ∀ j,gP (iU l) (m*5) (iU r) j=iU (l++r) j:=Lm (by decide) a
theorem JH(l:List iK)(j:Nat):(gI l j).oneCell'=true:=nM _ _
theorem JI(l:List jD)(j:Nat):(iU l j).oneCell'=true:=su _ _
theorem afb{a b:List iK}(ha:0<a.length)(c:0<b.length)(h:(bY a 0).id<(bY b 0).id):cO a b=(cO a.tail b).map (bY a 0 :: ·):=by
 rcases a with _|⟨x,a⟩
 ·cases ha
 rcases b with _|⟨y,b⟩
 ·cases c
 rw[cO]; exact d_ h
theorem afc{a b:List iK}(ha:0<a.length)(c:0<b.length)(h:(bY b 0).id<(bY a 0).id):cO a b=(cO a b.tail).map (bY b 0 :: ·):=by
 rcases a with _|⟨x,a⟩
 ·cases ha
 rcases b with _|⟨y,b⟩
 ·cases c
 have h:y.id<x.id:=h;rw[cO,b_]; exact d_ h
theorem afd{a b:List iK}(ha:0<a.length)(d:0<b.length)(h1 : ¬ (bY a 0).id<(bY b 0).id)(c : ¬ (bY b 0).id<(bY a 0).id)(h : ¬ (bY a 0).par=(bY b 0).par):cO a b=none:=by
 rcases a with _|⟨x,a⟩
 ·cases ha
 rcases b with _|⟨y,b⟩
 ·cases d
 rw[cO]; exact(b_ h1).trans ((b_ c).trans (d_ h))
theorem VK{a b:List iK}(ha:0<a.length)(d:0<b.length)(h1 : ¬ (bY a 0).id<(bY b 0).id)(c : ¬ (bY b 0).id<(bY a 0).id)(h:(bY a 0).par=(bY b 0).par):cO a b=(cO a.tail b.tail).map (BI (bY a 0) (bY b 0) :: ·):=by
 rcases a with _|⟨x,a⟩
 ·cases ha
 rcases b with _|⟨y,b⟩
 ·cases d
 rw[cO]; exact(b_ h1).trans ((b_ c).trans (b_ (fun q=>q h)))
theorem CO{a b:List iK}(h:a = []\/b = []):cO a b=some (a++b):=by
 rcases a with _|⟨x,a⟩
 ·rw[cO]; rfl
 grind [cO]
theorem afe{a b:List jD}(ha:0<a.length)(c:0<b.length)(h:kg (dK a 0) (dK b 0)):dw a b=(dw a.tail b).map (dK a 0 :: ·):=by
 rcases a with _|⟨x,a⟩
 ·cases ha
 rcases b with _|⟨y,b⟩
 ·cases c
 rw[dw]; exact d_ h
theorem Z6{y:jD}(h:kg M y) : ¬ kg y M:=by grind [kg]
theorem aff{a b:List jD}(ha:0<a.length)(c:0<b.length)(h:kg (dK b 0) (dK a 0)):dw a b=(dw a b.tail).map (dK b 0 :: ·):=by
 rcases a with _|⟨x,a⟩
 ·cases ha
 rcases b with _|⟨y,b⟩
 ·cases c
 have h:kg y x:=h;rw[dw,b_ (Z6 h)]; exact d_ h
theorem afg{a b:List jD}(ha:0<a.length)(d:0<b.length)(h1 : ¬ kg (dK a 0) (dK b 0))(c : ¬ kg (dK b 0) (dK a 0))(h:gH (dK a 0) (dK b 0)):dw a b=none:=by
 rcases a with _|⟨x,a⟩
 ·cases ha
 rcases b with _|⟨y,b⟩
 ·cases d
 rw[dw]; exact(b_ h1).trans ((b_ c).trans (d_ h))
theorem apv(ha:0<h.length)(d:0<D.length)(h1 : ¬ kg (dK h 0) (dK D 0))(c : ¬ kg (dK D 0) (dK h 0))(a : ¬ gH (dK h 0) (dK D 0)):dw h D=(dw h.tail D.tail).map (CF (dK h 0) (dK D 0) :: ·):=by
 rcases h with _|⟨x,h⟩
 ·cases ha
 rcases D with _|⟨y,D⟩
 ·cases d
 rw[dw]; exact(b_ h1).trans ((b_ c).trans (b_ a))
theorem ER(a:h = []\/D = []):dw h D=some (h++D):=by
 rcases h with _|⟨x,h⟩
 ·rw[dw]; rfl
 grind [dw]
theorem Hg{a:Type}{p q r:Option (List a)}{b:List a}{x:a}(h:p=q.map (b ++ ·))(e:q=r.map (x :: ·)):p=r.map ((b ++ [x]) ++ ·):=by
 rw[h,e]; cases r <;> simp
theorem yO(l : ∀ k,k<h.length->0<=(dK h k).b) : ∀ k,k<h.tail.length->0<=(dK h.tail k).b:=fun k a=>by
 rcases h with _|⟨x,h⟩
 ·cases a
 ·exact l (k+1) (Nat.succ_lt_succ a)
end Rt
set_option maxRecDepth 20000 in
theorem afh(aa ba:Option Addr)(cpa cpb:Nat)(la lb:List iK)(w:World)(hl1:la.length<=1000000)(hl2:lb.length<=1000000)(ha:Fx.iB w aa la.length 56 (gI la))(hb:Fx.iB w ba lb.length 56 (gI lb))(ha2:la.length<=cpa)(hb2:lb.length<=cpb) :
 Calls prog 25 #[.slice aa (la.length) (cpa),.slice ba (lb.length) (cpb),.func (.func 26) #[] #[],.func (.func 27) #[] #[]] w fun e w'=>(cO la lb=none/\e = .returned (.tuple #[.slice none 0 0,.int .i64 9])/\Below w.heap.size w w')\/(∃ l a' c',cO la lb=some l/\e = .returned (.tuple #[.slice a' l.length c',.int .i64 0])/\aY w' w.heap.size 69 56 (.slice a' l.length c') l.length (gI l)/\Below w.heap.size w w'):=by
 refine bX func25 78 ?_;refine ay<|au (.slice none 0 0)<|au (av 0)<|aC<|aQ<|Wb ?_;have m1:aY w w.heap.size 69 56 (.slice none (0) (0)) 0 (gI ([])):=wm _ _ _ _ _;refine Ic (fun kE f V => ∃ c:Nat,∃ d:Nat,∃ o:Nat,∃ p:Nat,∃ D:Option Addr,∃ F:Option Addr,∃ a:List iK,∃ b:List iK,∃ g:List iK,∃ n:Nat,∃ t:Option Addr,∃ u:Nat,kE=c+d/\Fx.iB w D c 56 (gI a)/\Fx.iB w F d 56 (gI b)/\c=a.length/\d=b.length/\c<=o/\d<=p/\n=g.length/\n+c+d<=2000000/\cO la lb=(cO a b).map (g ++ ·)/\f 0 = .slice D (c) (o)/\f 1 = .slice F (d) (p)/\f 2 = .func (.func 26) #[] #[]/\f 3 = .func (.func 27) #[] #[]/\f 8 = .slice t (n) (u)/\aY V w.heap.size 69 56 (.slice t (n) (u)) n (gI g)/\Below w.heap.size w V) (la.length+lb.length) ⟨la.length,lb.length,cpa,cpb,aa,ba,la,lb,[],0,none,0,rfl,ha,hb,rfl,rfl,ha2,hb2,rfl,(by omega),(by cases cO la lb <;> rfl),(by rfl),(by rfl),(by rfl),(by rfl),(by rfl),m1,(Below.refl w.heap.size w)⟩ ?_
 rintro kE f1 w1 ⟨c,d,o,p,D,F,a,b,g,n,t,u,hk,O,P,hra,hrb,hca,hcb,K,hs,M,I,J,h3,h4,S,m2,E⟩;refine aQ<|ay<|bA I<|au (av c) ?_;by_cases c15:0<(c:Int)
 ·refine Lv aH (lK c15)<|au aH<|bA J<|au (av d) ?_;by_cases c19:0<(d:Int)
  ·refine Lv aH (lK c19)<|au aH<|aC<|aP<|Wk<|sN<|Wb<|aQ ?_;refine rA<|iL h3<|iL I ?_;obtain⟨Q,VJ,eq1,m3z⟩:=O (by omega);have Tg:Q<w.heap.size:=m3z.lt (by omega);have m3:=m3z.below E Tg;have Pj:Q<w1.heap.size:=m3.lt (by omega);refine Qv (.pointer (some ⟨Q,VJ,none⟩)) (fun H C=>fC 56 (hx:=(rfl.trans (K_ (fun q=>Value.slice q (c) (o)) eq1))))<|Qv (.agg (aA 56 (iI (bY a 0)))) (fun H C=>dZ (m3.below C (m3.lt (by omega))) 0 (x:=gI a) (fun jq G=>eF (k:=0) (by omega) G))<|iL J ?_;obtain⟨R,oq2,D6,m4z⟩:=P (by omega);have Ti:R<w.heap.size:=m4z.lt (by omega);have m4:=m4z.below E Ti;have afi:R<w1.heap.size:=m4.lt (by omega);refine Qv (.pointer (some ⟨R,oq2,none⟩)) (fun H C=>fC 56 (hx:=(rfl.trans (K_ (fun q=>Value.slice q (d) (p)) D6))))<|Qv (.agg (aA 56 (iI (bY b 0)))) (fun H C=>dZ (m4.below C (m4.lt (by omega))) 0 (x:=gI b) (fun jq G=>eF (k:=0) (by omega) G))<|ET (v := .int .i64 (jH (bY a 0).id (bY b 0).id)) (by rfl) (fun H C=>uJ (args := [.agg (aA 56 (iI (bY a 0))),.agg (aA 56 (iI (bY b 0)))]) rfl rfl rfl (all := #[.agg (aA 56 (iI (bY a 0))),.agg (aA 56 (iI (bY b 0)))]) rfl func26 rfl rfl) rfl (fun H C=>(aeS (bY a 0) (bY b 0) _).mono fun e v2 h=>⟨h.1,Oj C h.2⟩) ?_;refine bI (av (jH (bY a 0).id (bY b 0).id))<|Qn ?_;intro OC xG;have⟨m5,m6,m7,b2⟩:=jv xG m2 m3 m4 E;refine sN<|Wb<|ay<|au (av (jH (bY a 0).id (bY b 0).id)) ?_;by_cases c53:(jH (bY a 0).id (bY b 0).id)<0
   ·refine Lv aH (fK c53)<|au aH<|aC<|aP ?_;refine W.nC [0,1,2,6,7,3,4,5,8,9] [0,0,0,4,2,2,0,0,0,0] (jk [69]) vS jk.trans (bR := [(4,3,[3]),(5,3,[4,3]),(5,4,[4]),(8,4,[4]),(9,4,[4]),(8,5,[5]),(9,5,[5])]) (by kernel_rfl) (by kernel_rfl) (by kernel_rfl) (by kernel_rfl) (by kernel_rfl) fun qN eX iM => ?_;have⟨m8,m9,m10,b3⟩:=jv eX m5 m6 m7 b2;refine eZ S<|eZ I<|Rp (.pointer (some ⟨Q,VJ,none⟩)) (fun _=>fC 56 (hx:=(rfl.trans (K_ (fun q=>Value.slice q (c) (o)) eq1))))<|eZ I<|Rp (.slice (F6 56 1 o D) (c-1) (o-1)) (fun H=>Ir (j:=1) (s:=56) rfl rfl rfl underlying40 (by kernel_rfl) (by omega) hca)<|Rs (.agg (aA 56 (iI (bY a 0)))) (dZ m9 0 (fun jq G=>eF (k:=0) (by omega) G)) ?_;refine mF<|uz (vs := [(0,.agg (aA 56 (iI (bY a 0))))]) (s:=56) (zc:=fun z=>if z<2 then .int .u64 (0)else .int .i64 (0)) (y:=bJ (fun j=>zK0 (j % 56)) (0*56) 56 (iI (bY a 0))) (by rfl) rfl rfl underlying40 (by kernel_rfl) (by rfl) (by rfl) (by kernel_rfl) (by rw[aT (off:=0*56) (s:=56) (y:=iI (bY a 0)) rfl (bM _ _) (by rfl)]; rfl) rfl fun g1 w2 kV m11 s3 z1 => ?_;have⟨kY,b4⟩:=fB s3.bP m8 b3;have tJ:=gQ kV b3.size;have apy:(.slice t (n) (u):Value).ownBlock≠some g1:=(by rw[kV]; exact m8.gW (A_ _));have apz:Q≠g1:=(by rw[kV]; exact u_ (m9.lt (by omega)));have abw:R≠g1:=(by rw[kV]; exact u_ (m10.lt (by omega)));have vB:=m11.lt;refine Ln ⟨jk.jr s3.bP,?_⟩;refine mF<|xX (B:=w.heap.size) (s:=56) (bytes:=448) (k:=n) (m:=1) (v := .slice t (n) (u)) (x:=gI g) (by rfl) rfl rfl rfl underlying40 (by kernel_rfl) (by kernel_rfl) rfl rfl kY m11.aJ (fun j M=>by unfold bJ; rw[d_ ⟨by omega,by omega⟩]; exact nM _ _) (by omega) (by omega) (by omega) b4.size fun g2 sK w3 ho1 hg1 vE hlt1 => ?_;have gT:=yc hg1 kY;have m15:aY w3 w.heap.size 69 56 (.slice (some ⟨g2,0,none⟩) (n+1) sK) (n+1) (gI (g ++ [(bY a 0)])):=(ho1.congr (CK (l:=g) (x:=(bY a 0)) K));have b5:Below w.heap.size w w3:=sO b4 hg1 b4.size (fun q A=>(kY.ge A).1);refine Ln ⟨gT,?_⟩;refine aS (.slice (some ⟨g2,0,none⟩) (n+1) (sK))<|aS (.slice (F6 56 1 o D) (c-1) (o-1))<|Rn<|bS<|bS ?_
    skip
    refine iA ⟨c-1+d,(by omega),c-1,d,o-1,p,F6 56 1 o D,F,a.tail,b,g ++ [(bY a 0)],n+1,(some ⟨g2,0,none⟩),sK,(by omega),(Yd O hca),P,(by rw[List.length_tail]; omega),hrb,(by omega),hcb,(by rw[E_]; exact K_ (· + 1) K),(by omega),(Hg M (afb (by omega) (by omega) (X7.1 c53))),(by rfl),J,h3,h4,(by rfl),m15,b5⟩ (by decide)
   refine Lv aD (fM c53)<|au aD<|aC<|aL<|ay<|au (av (jH (bY a 0).id (bY b 0).id)) ?_;by_cases c64:0<(jH (bY a 0).id (bY b 0).id)
   ·refine Lv aH (lK c64)<|au aH<|aC<|aP ?_;refine W.nC [0,1,2,6,7,3,4,5,8,9] [0,0,0,4,2,2,0,0,0,0] (jk [69]) vS jk.trans (bR := [(4,3,[3]),(5,3,[4,3]),(5,4,[4]),(8,4,[4]),(9,4,[4]),(8,5,[5]),(9,5,[5])]) (by kernel_rfl) (by kernel_rfl) (by kernel_rfl) (by kernel_rfl) (by kernel_rfl) fun Fu iZ rM => ?_;have⟨m18,m19,m20,b6⟩:=jv iZ m5 m6 m7 b2;refine eZ S<|eZ J<|Rp (.pointer (some ⟨R,oq2,none⟩)) (fun _=>fC 56 (hx:=(rfl.trans (K_ (fun q=>Value.slice q (d) (p)) D6))))<|eZ J<|Rp (.slice (F6 56 1 p F) (d-1) (p-1)) (fun H=>Ir (j:=1) (s:=56) rfl rfl rfl underlying40 (by kernel_rfl) (by omega) hcb)<|Rs (.agg (aA 56 (iI (bY b 0)))) (dZ m20 0 (fun jq G=>eF (k:=0) (by omega) G)) ?_;refine mF<|uz (vs := [(0,.agg (aA 56 (iI (bY b 0))))]) (s:=56) (zc:=fun z=>if z<2 then .int .u64 (0)else .int .i64 (0)) (y:=bJ (fun j=>zK0 (j % 56)) (0*56) 56 (iI (bY b 0))) (by rfl) rfl rfl underlying40 (by kernel_rfl) (by rfl) (by rfl) (by kernel_rfl) (by rw[aT (off:=0*56) (s:=56) (y:=iI (bY b 0)) rfl (bM _ _) (by rfl)]; rfl) rfl fun g3 w4 nO mG s5 z2 => ?_;have⟨m22,b7⟩:=fB s5.bP m18 b6;have Gc:=gQ nO b6.size;have KX:(.slice t (n) (u):Value).ownBlock≠some g3:=(by rw[nO]; exact m18.gW (A_ _));have KY:Q≠g3:=(by rw[nO]; exact u_ (m19.lt (by omega)));have PD:R≠g3:=(by rw[nO]; exact u_ (m20.lt (by omega)));have Gr:=mG.lt;refine Ln ⟨jk.jr s5.bP,?_⟩;refine mF<|xX (B:=w.heap.size) (s:=56) (bytes:=448) (k:=n) (m:=1) (v := .slice t (n) (u)) (x:=gI g) (by rfl) rfl rfl rfl underlying40 (by kernel_rfl) (by kernel_rfl) rfl rfl m22 mG.aJ (fun j M=>by unfold bJ; rw[d_ ⟨by omega,by omega⟩]; exact nM _ _) (by omega) (by omega) (by omega) b7.size fun g4 cap2 w5 ho2 hg2 Un hlt2 => ?_;have jC:=yc hg2 m22;have mU:aY w5 w.heap.size 69 56 (.slice (some ⟨g4,0,none⟩) (n+1) cap2) (n+1) (gI (g ++ [(bY b 0)])):=(ho2.congr (CK (l:=g) (x:=(bY b 0)) K));have b8:Below w.heap.size w w5:=sO b7 hg2 b7.size (fun q A=>(m22.ge A).1);refine Ln ⟨jC,?_⟩;refine aS (.slice (some ⟨g4,0,none⟩) (n+1) (cap2))<|aS (.slice (F6 56 1 p F) (d-1) (p-1))<|Rn<|bS<|bS ?_
    skip
    refine iA ⟨c+(d-1),(by omega),c,d-1,o,p-1,D,F6 56 1 p F,a,b.tail,g ++ [(bY b 0)],n+1,(some ⟨g4,0,none⟩),cap2,(by omega),O,(Yd P hcb),hra,(by rw[List.length_tail]; omega),hca,(by omega),(by rw[E_]; exact K_ (· + 1) K),(by omega),(Hg M (afc (by omega) (by omega) (aeQ.1 c64))),I,(by rfl),h3,h4,(by rfl),mU,b8⟩ (by decide)
   refine Lv aD (lM c64)<|au aD<|aC<|aL<|yh (fun f V => ∃ N:Nat,w.heap.size<=N/\(.slice t (n) (u):Value).ownBlock≠some N/\f 0 = .slice D (c) (o)/\f 1 = .slice F (d) (p)/\f 2 = .func (.func 26) #[] #[]/\f 3 = .func (.func 27) #[] #[]/\f 8 = .slice t (n) (u)/\f 11 = .pointer (some ⟨N,0,none⟩)/\f 12 = .int .i64 (if(bY a 0).par=(bY b 0).par then(0:Int)else 9)/\aY V w.heap.size 69 56 (.slice t (n) (u)) n (gI g)/\aM V N 56 (iI (if(bY a 0).par=(bY b 0).par then BI (bY a 0) (bY b 0)else(bY a 0))) 69/\Below w.heap.size w V) ?_ ?_
   ·-- region 3 draws
    refine W.Ko [0,1,2,4,5,3,6] [7,8,9,10,11,12,13] [0,0,0,1,0,0,1,2,0,0,0,2,3,0] Mk mE Mk.trans (bR := [(12,3,[3]),(12,6,[6]),(8,7,[7]),(9,7,[8,7]),(10,7,[8,7]),(12,7,[7]),(13,7,[7]),(12,11,[11]),(13,11,[11]),(13,12,[12])]) (by kernel_rfl) (by kernel_rfl) (by kernel_rfl) (by kernel_rfl) (by kernel_rfl) (by kernel_rfl) fun MU mZ DZ => ?_;have⟨om,X⟩:=fB mZ m5 b2;refine eZ h4<|eZ I ?_;obtain⟨Y,Ql,LQ,afk⟩:=O (by omega);have Tj:Y<w.heap.size:=afk.lt (by omega);have T:=afk.below X Tj;have apA:Y<MU.heap.size:=T.lt (by omega);refine Rp (.pointer (some ⟨Y,Ql,none⟩)) (fun _=>fC 56 (hx:=(rfl.trans (K_ (fun q=>Value.slice q (c) (o)) LQ))))<|eZ J ?_;obtain⟨Z,oq4,YO,afl⟩:=P (by omega);have afm:Z<w.heap.size:=afl.lt (by omega);have U:=afl.below X afm;have auy:Z<MU.heap.size:=U.lt (by omega);refine Rp (.pointer (some ⟨Z,oq4,none⟩)) (fun _=>fC 56 (hx:=(rfl.trans (K_ (fun q=>Value.slice q (d) (p)) YO))))<|lI (v := .agg (aA 56 (iI (bY a 0)))) (by rfl) (by rfl) (mE _) (fun H C=>eB (x:=gI a) (y:=iI (bY a 0)) rfl rfl (by kernel_rfl) (by kernel_rfl) (T.below C (T.lt (by omega))) (i:=0) (by omega) (by omega) (fun jq G=>eF (k:=0) (by omega) G)) ?_;refine lI (v := .agg (aA 56 (iI (bY b 0)))) (by rfl) (by rfl) (mE _) (fun H C=>eB (x:=gI b) (y:=iI (bY b 0)) rfl rfl (by kernel_rfl) (by kernel_rfl) (U.below C (U.lt (by omega))) (i:=0) (by omega) (by omega) (fun jq G=>eF (k:=0) (by omega) G)) ?_;refine Rn<|RA.Q7 7 11 [8,9,10,11,12,13] [7,8,9,10,12,13] (by rfl) (by kernel_rfl) (by kernel_rfl) (by kernel_rfl) ?_ ?_
    ·refine mF<|zW (by rfl) (uJ (args := [.agg (aA 56 (iI (bY a 0))),.agg (aA 56 (iI (bY b 0)))]) rfl rfl rfl (all := #[.agg (aA 56 (iI (bY a 0))),.agg (aA 56 (iI (bY b 0)))]) rfl func27 rfl rfl) rfl<|(aeZ (bY a 0) (bY b 0) _).mono ?_;rintro e w6 ⟨he,hb1⟩;refine⟨.tuple #[.agg (aA 56 (iI (if(bY a 0).par=(bY b 0).par then BI (bY a 0) (bY b 0)else(bY a 0)))),.int .i64 (if(bY a 0).par=(bY b 0).par then(0:Int)else 9)],by rw[he],?_⟩;clear he;have s7:=Sb hb1;have⟨mY,m32,oD,b10⟩:=jv hb1 om T U X;refine Ln ⟨s7.bP,?_⟩;refine Rn<|RA.still (by rfl) ?_;refine aS (.tuple #[.agg (aA 56 (iI (if(bY a 0).par=(bY b 0).par then BI (bY a 0) (bY b 0)else(bY a 0)))),.int .i64 (if(bY a 0).par=(bY b 0).par then(0:Int)else 9)])<|Rn<|RA.still (by rfl) ?_;refine aS (.agg (aA 56 (iI (if(bY a 0).par=(bY b 0).par then BI (bY a 0) (bY b 0)else(bY a 0)))))<|Rn<|RA.still (by rfl) ?_;refine aS (av (if(bY a 0).par=(bY b 0).par then(0:Int)else 9))<|Rn<|RA.one 11 [12,13] (by rfl) (by kernel_rfl) (by kernel_rfl) ?_;refine mF<|oJ 56 zK0 fun g5 w7 BG pz s8 z3 => ?_;have⟨pQ,rE,sD,b11⟩:=jv s8.bP mY m32 oD b10;have wX:=gQ BG b10.size;have Hl:(.slice t (n) (u):Value).ownBlock≠some g5:=(by rw[BG]; exact mY.gW (A_ _));have VL:Y≠g5:=(by rw[BG]; exact u_ (m32.lt (by omega)));have afn:Z≠g5:=(by rw[BG]; exact u_ (oD.lt (by omega)));have YE:=pz.lt;refine Ln ⟨s8.bP,?_⟩;refine Rn<|RA.one 12 [13] (by rfl) (by kernel_rfl) (by kernel_rfl) ?_;refine jP<|dY pz 0 (h1:=(fun j _=>nM _ j)) fun w8 qM s9 z4 => ?_;have qW:aM w8 g5 56 (iI (if(bY a 0).par=(bY b 0).par then BI (bY a 0) (bY b 0)else(bY a 0))) 69:=aO qM;have vk:=pQ.cK s9 Hl;have pR:=rE.cK s9 (by omega);have qx:=sD.cK s9 (by omega);have b12:=s9.below b11 b11.size (by omega);refine Ln<|Rn<|RA.still (by rfl)<|aS (av (if(bY a 0).par=(bY b 0).par then(0:Int)else 9))<|Rn<|RA.nil ?_;exact nL ⟨g5,(by omega),Hl,I,J,h3,h4,S,(by rfl),(by first|rfl|exact K_ (Value.int .i64) (by omega)),vk,qW,b12⟩
    refine mF<|oJ 56 zK0 fun g6 w9 Mt qy oP z5 => ?_;have⟨uF,sQ,qc,b13⟩:=jv oP.bP om T U X;have lg6:=gQ Mt X.size;have Lr:(.slice t (n) (u):Value).ownBlock≠some g6:=(by rw[Mt]; exact om.gW (A_ _));have afo:Y≠g6:=(by rw[Mt]; exact u_ (T.lt (by omega)));have afp:Z≠g6:=(by rw[Mt]; exact u_ (U.lt (by omega)));have tg6:=qy.lt;refine Ln ⟨oP.bP,?_⟩;refine Rn<|RA.one 7 [8,9,10,12,13] (by rfl) (by kernel_rfl) (by kernel_rfl) ?_;refine mF<|zW (by rfl) (uJ (args := [.agg (aA 56 (iI (bY a 0))),.agg (aA 56 (iI (bY b 0)))]) rfl rfl rfl (all := #[.agg (aA 56 (iI (bY a 0))),.agg (aA 56 (iI (bY b 0)))]) rfl func27 rfl rfl) rfl<|(aeZ (bY a 0) (bY b 0) _).mono ?_;rintro e uE ⟨he,hb2⟩;refine⟨.tuple #[.agg (aA 56 (iI (if(bY a 0).par=(bY b 0).par then BI (bY a 0) (bY b 0)else(bY a 0)))),.int .i64 (if(bY a 0).par=(bY b 0).par then(0:Int)else 9)],by rw[he],?_⟩;clear he;have s11:=Sb hb2;have⟨tK,xY,uN,yj,b14⟩:=oK hb2 uF sQ qc qy b13;refine Ln ⟨s11.bP,?_⟩;refine Rn<|RA.still (by rfl) ?_;refine aS (.tuple #[.agg (aA 56 (iI (if(bY a 0).par=(bY b 0).par then BI (bY a 0) (bY b 0)else(bY a 0)))),.int .i64 (if(bY a 0).par=(bY b 0).par then(0:Int)else 9)])<|Rn<|RA.still (by rfl) ?_;refine aS (.agg (aA 56 (iI (if(bY a 0).par=(bY b 0).par then BI (bY a 0) (bY b 0)else(bY a 0)))))<|Rn<|RA.still (by rfl) ?_;refine aS (av (if(bY a 0).par=(bY b 0).par then(0:Int)else 9))<|Rn<|RA.one 12 [13] (by rfl) (by kernel_rfl) (by kernel_rfl) ?_;refine jP<|dY yj 0 (h1:=(fun j _=>nM _ j)) fun Bg Ai s12 z6 => ?_;have yG:aM Bg g6 56 (iI (if(bY a 0).par=(bY b 0).par then BI (bY a 0) (bY b 0)else(bY a 0))) 69:=aO Ai;have xA:=tK.cK s12 Lr;have yH:=xY.cK s12 (by omega);have wC:=uN.cK s12 (by omega);have b15:=s12.below b14 b14.size (by omega);refine Ln<|Rn<|RA.still (by rfl)<|aS (av (if(bY a 0).par=(bY b 0).par then(0:Int)else 9))<|Rn<|RA.nil ?_;exact nL ⟨g6,(by omega),Lr,I,J,h3,h4,S,(by rfl),(by first|rfl|exact K_ (Value.int .i64) (by omega)),xA,yG,b15⟩
   rintro f2 BD ⟨N,aDD,apB,h6,h7,h8,h9,h10,h11,h12,vU,wD,b16⟩;refine aQ<|aQ ?_;have n53 : ¬ (bY a 0).id<(bY b 0).id:=fun h=>c53 (X7.2 h);have n64 : ¬ (bY b 0).id<(bY a 0).id:=fun h=>c64 (aeQ.2 h);refine Wl<|bA h12 ?_;by_cases ac:(if(bY a 0).par=(bY b 0).par then(0:Int)else 9)=0
   ·refine Lv aD (kr ac)<|aC<|aL<|Wk<|sN ?_;have ab:(bY a 0).par=(bY b 0).par:=Classical.byContradiction fun h=>by rw[b_ h]at ac; exact L_ ac (by decide)
    have tL:aM BD N 56 (iI (BI (bY a 0) (bY b 0))) 69:=(by have q9:=wD; rw[d_ ab]at q9; exact q9);refine W.nC [0,4,5,6,7,1,2,3,8,9,10] [0,4,2,2,0,0,0,0,0,0,0] (jk [69]) vS jk.trans (bR := [(2,1,[1]),(3,1,[2,1]),(3,2,[2]),(8,2,[2]),(9,2,[2]),(10,2,[2]),(8,3,[3]),(9,3,[3]),(10,3,[3])]) (by kernel_rfl) (by kernel_rfl) (by kernel_rfl) (by kernel_rfl) (by kernel_rfl) fun wZ oF Fv => ?_;have⟨uG,oo,b17⟩:=iP oF vU tL b16;refine eZ h10<|eZ h6<|Rp (.slice (F6 56 1 o D) (c-1) (o-1)) (fun H=>Ir (j:=1) (s:=56) rfl rfl rfl underlying40 (by kernel_rfl) (by omega) hca)<|eZ h7<|Rp (.slice (F6 56 1 p F) (d-1) (p-1)) (fun H=>Ir (j:=1) (s:=56) rfl rfl rfl underlying40 (by kernel_rfl) (by omega) hcb)<|Rs (.agg (aA 56 (iI (BI (bY a 0) (bY b 0))))) (dZ oo.aJ 0 (ha:=h11)) ?_;refine mF<|uz (vs := [(0,.agg (aA 56 (iI (BI (bY a 0) (bY b 0)))))]) (s:=56) (zc:=fun z=>if z<2 then .int .u64 (0)else .int .i64 (0)) (y:=bJ (fun j=>zK0 (j % 56)) (0*56) 56 (iI (BI (bY a 0) (bY b 0)))) (by rfl) rfl rfl underlying40 (by kernel_rfl) (by rfl) (by rfl) (by kernel_rfl) (by rw[aT (off:=0*56) (s:=56) (y:=iI (BI (bY a 0) (bY b 0))) rfl (bM _ _) (by rfl)]; rfl) rfl fun g7 Bh Rh sF D5 z7 => ?_;have⟨pE,vV,b18⟩:=iP D5.bP uG oo b17;have lg7:=gQ Rh b17.size;have apC:(.slice t (n) (u):Value).ownBlock≠some g7:=(by rw[Rh]; exact uG.gW (A_ _));have apD:=gD Rh oo.lt;have tg7:=sF.lt;refine Ln ⟨jk.jr D5.bP,?_⟩;refine mF<|xX (B:=w.heap.size) (s:=56) (bytes:=448) (k:=n) (m:=1) (v := .slice t (n) (u)) (x:=gI g) (by rfl) rfl rfl rfl underlying40 (by kernel_rfl) (by kernel_rfl) rfl rfl pE sF.aJ (fun j M=>by unfold bJ; rw[d_ ⟨by omega,by omega⟩]; exact nM _ _) (by omega) (by omega) (by omega) b18.size fun g8 VN EU ho3 hg3 ahi hlt3 => ?_;have oz:=yc hg3 pE;have apE:N≠g8:=fun e=>ahi.elim (fun e2=>apB (by rw[e]; exact e2)) (fun e2=>by have:=vV.lt; omega);have m64:aY EU w.heap.size 69 56 (.slice (some ⟨g8,0,none⟩) (n+1) VN) (n+1) (gI (g ++ [(BI (bY a 0) (bY b 0))])):=(ho3.congr (CK (l:=g) (x:=(BI (bY a 0) (bY b 0))) K));have b19:Below w.heap.size w EU:=sO b18 hg3 b18.size (fun q A=>(pE.ge A).1);refine Ln ⟨oz,?_⟩;refine aS (.slice (some ⟨g8,0,none⟩) (n+1) (VN))<|aS (.slice (F6 56 1 o D) (c-1) (o-1))<|aS (.slice (F6 56 1 p F) (d-1) (p-1))<|Rn<|bS<|bS ?_
    skip
    refine iA ⟨c-1+(d-1),(by omega),c-1,d-1,o-1,p-1,F6 56 1 o D,F6 56 1 p F,a.tail,b.tail,g ++ [BI (bY a 0) (bY b 0)],n+1,(some ⟨g8,0,none⟩),VN,(by omega),(Yd O hca),(Yd P hcb),(by rw[List.length_tail]; omega),(by rw[List.length_tail]; omega),(by omega),(by omega),(by rw[E_]; exact K_ (· + 1) K),(by omega),(Hg M (VK (by omega) (by omega) n53 n64 ab)),(by rfl),(by rfl),h8,h9,(by rfl),m64,b19⟩ (by decide)
   refine Lv aH (mO ac)<|aC<|aP<|aQ ?_;have ab : ¬ (bY a 0).par=(bY b 0).par:=fun h=>ac (d_ h);refine Wl<|bA h12<|au (.slice none 0 0)<|au (av (if(bY a 0).par=(bY b 0).par then(0:Int)else 9))<|aC<|Wr<|sR<|bO<|bO<|oG<|bO<|sR<|aK (.tuple #[.slice none 0 0,.int .i64 (if(bY a 0).par=(bY b 0).par then(0:Int)else 9)]) ?_;exact .inl ⟨by rw[M,afd (by omega) (by omega) n53 n64 ab]; rfl,by rw[b_ ab],b16⟩
  refine Lv aD (lM c19)<|au aD<|aC<|aL<|Wx<|cZ<|iC<|dB<|sN<|ay<|bA S<|bA I<|Fx.L.tH (B:=w.heap.size) (s:=56) (bytes:=448) (k:=n) (m:=c) (v := .slice t (n) (u)) (x:=gI g) (by rfl) rfl rfl rfl underlying40 (by kernel_rfl) (by kernel_rfl) rfl rfl m2 (O.up E rfl) (fun j _=>JH _ j) (by omega) (by omega) E.size fun vv1 CW ho4 hg4 amw => ?_;obtain⟨a1,cap4,rfl⟩:=ho4.val;have sG:aY CW w.heap.size 69 56 (.slice a1 (n+c) (cap4)) (n+c) (gI (g++a)):=(ho4.congr (fun j _=>JE (l:=g) (r:=a) K j));have b20:Below w.heap.size w CW:=sO E hg4 E.size (fun q A=>(m2.ge A).1);refine bA J<|Fx.L.tH (B:=w.heap.size) (s:=56) (bytes:=448) (k:=n+c) (m:=d) (v := .slice a1 (n+c) (cap4)) (x:=gI (g++a)) (by rfl) rfl rfl rfl underlying40 (by kernel_rfl) (by kernel_rfl) rfl rfl sG (P.up b20 rfl) (fun j _=>JH _ j) (by omega) (by omega) b20.size fun vv2 w16 ho5 hg5 aDE => ?_;obtain⟨a2,cap5,rfl⟩:=ho5.val;have sH:aY w16 w.heap.size 69 56 (.slice a2 (n+c+d) (cap5)) (n+c+d) (gI (g++a++b)):=(ho5.congr (fun j _=>JE (l:=(g++a)) (r:=b) (by rw[E_,<- K,<- hra]) j));have DW:Below w.heap.size w w16:=sO b20 hg5 b20.size (fun q A=>(sG.ge A).1);refine au (.slice a2 (n+c+d) (cap5))<|au (av 0)<|aC<|Wr<|aK (.tuple #[.slice a2 (n+c+d) (cap5),.int .i64 (0)]) ?_;have e9:cO la lb=some (g++a++b):=by rw[M,CO (by first|exact .inl (List.eq_nil_of_length_eq_zero (by omega))|exact .inr (List.eq_nil_of_length_eq_zero (by omega)))]; simp
  have l9:(g++a++b).length=n+c+d:=by simp only[E_]; omega
  exact .inr ⟨_,a2,cap5,e9,by rw[l9],by rw[l9]; exact sH,DW⟩
 refine Lv aD (lM c15)<|au aD<|bf<|bf<|bf<|au aD<|aC<|aL<|Wx<|cZ<|iC<|dB<|sN<|ay<|bA S<|bA I<|Fx.L.tH (B:=w.heap.size) (s:=56) (bytes:=448) (k:=n) (m:=c) (v := .slice t (n) (u)) (x:=gI g) (by rfl) rfl rfl rfl underlying40 (by kernel_rfl) (by kernel_rfl) rfl rfl m2 (O.up E rfl) (fun j _=>JH _ j) (by omega) (by omega) E.size fun vv3 Fg ho6 hg6 aDF => ?_;obtain⟨a3,cap6,rfl⟩:=ho6.val;have sI:aY Fg w.heap.size 69 56 (.slice a3 (n+c) (cap6)) (n+c) (gI (g++a)):=(ho6.congr (fun j _=>JE (l:=g) (r:=a) K j));have zl:Below w.heap.size w Fg:=sO E hg6 E.size (fun q A=>(m2.ge A).1);refine bA J<|Fx.L.tH (B:=w.heap.size) (s:=56) (bytes:=448) (k:=n+c) (m:=d) (v := .slice a3 (n+c) (cap6)) (x:=gI (g++a)) (by rfl) rfl rfl rfl underlying40 (by kernel_rfl) (by kernel_rfl) rfl rfl sI (P.up zl rfl) (fun j _=>JH _ j) (by omega) (by omega) zl.size fun vv4 En ho7 hg7 aDH => ?_;obtain⟨a4,PY,rfl⟩:=ho7.val;have tN:aY En w.heap.size 69 56 (.slice a4 (n+c+d) (PY)) (n+c+d) (gI (g++a++b)):=(ho7.congr (fun j _=>JE (l:=(g++a)) (r:=b) (by rw[E_,<- K,<- hra]) j));have Fh:Below w.heap.size w En:=sO zl hg7 zl.size (fun q A=>(sI.ge A).1);refine au (.slice a4 (n+c+d) (PY))<|au (av 0)<|aC<|Wr<|aK (.tuple #[.slice a4 (n+c+d) (PY),.int .i64 (0)]) ?_;have e9:cO la lb=some (g++a++b):=by rw[M,CO (by first|exact .inl (List.eq_nil_of_length_eq_zero (by omega))|exact .inr (List.eq_nil_of_length_eq_zero (by omega)))]; simp
 have l9:(g++a++b).length=n+c+d:=by simp only[E_]; omega
 exact .inr ⟨_,a4,PY,e9,by rw[l9],by rw[l9]; exact tN,Fh⟩
set_option maxRecDepth 20000 in
theorem afq(aa ba:Option Addr)(cpa cpb:Nat)(la lb:List jD)(w:World)(hl1:la.length<=1000000)(hl2:lb.length<=1000000)(ha:Fx.iB w aa la.length 5 (iU la))(hb:Fx.iB w ba lb.length 5 (iU lb))(ha2:la.length<=cpa)(hb2:lb.length<=cpb)(aDI : ∀ k,k<la.length->0<=(dK la k).b)(aDJ : ∀ k,k<lb.length->0<=(dK lb k).b) :
 Calls prog 28 #[.slice aa (la.length) (cpa),.slice ba (lb.length) (cpb),.func (.func 29) #[] #[],.func (.func 30) #[] #[]] w fun e w'=>(dw la lb=none/\e = .returned (.tuple #[.slice none 0 0,.int .i64 14])/\Below w.heap.size w w')\/(∃ l a' c',dw la lb=some l/\e = .returned (.tuple #[.slice a' l.length c',.int .i64 0])/\aY w' w.heap.size 96 5 (.slice a' l.length c') l.length (iU l)/\Below w.heap.size w w'):=by
 refine bX func28 78 ?_;refine ay<|au (.slice none 0 0)<|au (av 0)<|aC<|aQ<|Wb ?_;have m1:aY w w.heap.size 96 5 (.slice none (0) (0)) 0 (iU ([])):=wm _ _ _ _ _;refine Ic (fun kE f X => ∃ d:Nat,∃ g:Nat,∃ t:Nat,∃ u:Nat,∃ E:Option Addr,∃ G:Option Addr,∃ a:List jD,∃ c:List jD,∃ o:List jD,∃ n:Nat,∃ z:Option Addr,∃ A:Nat,kE=d+g/\Fx.iB w E d 5 (iU a)/\Fx.iB w G g 5 (iU c)/\d=a.length/\g=c.length/\d<=t/\g<=u/\n=o.length/\n+d+g<=2000000/\dw la lb=(dw a c).map (o ++ ·)/\(∀ k,k<a.length->0<=(dK a k).b)/\(∀ k,k<c.length->0<=(dK c k).b)/\f 0 = .slice E (d) (t)/\f 1 = .slice G (g) (u)/\f 2 = .func (.func 29) #[] #[]/\f 3 = .func (.func 30) #[] #[]/\f 8 = .slice z (n) (A)/\aY X w.heap.size 96 5 (.slice z (n) (A)) n (iU o)/\Below w.heap.size w X) (la.length+lb.length) ⟨la.length,lb.length,cpa,cpb,aa,ba,la,lb,[],0,none,0,rfl,ha,hb,rfl,rfl,ha2,hb2,rfl,(by omega),(by cases dw la lb <;> rfl),aDI,aDJ,(by rfl),(by rfl),(by rfl),(by rfl),(by rfl),m1,(Below.refl w.heap.size w)⟩ ?_
 rintro kE f1 w1 ⟨d,g,t,u,E,G,a,c,o,n,z,A,hk,P,Q,hra,hrb,hca,hcb,M,hs,N,hpa,hpb,J,K,h3,h4,T,m2,F⟩;refine aQ<|ay<|bA J<|au (av d) ?_;by_cases c15:0<(d:Int)
 ·refine Lv aH (lK c15)<|au aH<|bA K<|au (av g) ?_;by_cases c19:0<(g:Int)
  ·refine Lv aH (lK c19)<|au aH<|aC<|aP<|Wk<|sN<|Wb<|aQ ?_;refine rA<|iL h3<|iL J ?_;obtain⟨R,VJ,eq1,m3z⟩:=P (by omega);have Tg:R<w.heap.size:=m3z.lt (by omega);have m3:=m3z.below F Tg;have Pj:R<w1.heap.size:=m3.lt (by omega);refine Qv (.pointer (some ⟨R,VJ,none⟩)) (fun I D=>fC 5 (hx:=(rfl.trans (K_ (fun q=>Value.slice q (d) (t)) eq1))))<|Qv (.agg (aA 5 (jZ (dK a 0)))) (fun I D=>dZ (m3.below D (m3.lt (by omega))) 0 (x:=iU a) (fun jq H=>eF (k:=0) (by omega) H))<|iL K ?_;obtain⟨S,oq2,D6,m4z⟩:=Q (by omega);have Ti:S<w.heap.size:=m4z.lt (by omega);have m4:=m4z.below F Ti;have afi:S<w1.heap.size:=m4.lt (by omega);refine Qv (.pointer (some ⟨S,oq2,none⟩)) (fun I D=>fC 5 (hx:=(rfl.trans (K_ (fun q=>Value.slice q (g) (u)) D6))))<|Qv (.agg (aA 5 (jZ (dK c 0)))) (fun I D=>dZ (m4.below D (m4.lt (by omega))) 0 (x:=iU c) (fun jq H=>eF (k:=0) (by omega) H))<|ET (v := .int .i64 (F3 (dK a 0) (dK c 0))) (by rfl) (fun I D=>uJ (args := [.agg (aA 5 (jZ (dK a 0))),.agg (aA 5 (jZ (dK c 0)))]) rfl rfl rfl (all := #[.agg (aA 5 (jZ (dK a 0))),.agg (aA 5 (jZ (dK c 0)))]) rfl func29 rfl rfl) rfl (fun I D=>(X8 (dK a 0) (dK c 0) _).mono fun e v2 h=>⟨h.1,Oj D h.2⟩) ?_;refine bI (av (F3 (dK a 0) (dK c 0)))<|Qn ?_;intro OC xG;have⟨m5,m6,m7,b2⟩:=jv xG m2 m3 m4 F;refine sN<|Wb<|ay<|au (av (F3 (dK a 0) (dK c 0))) ?_;by_cases c53:(F3 (dK a 0) (dK c 0))<0
   ·refine Lv aH (fK c53)<|au aH<|aC<|aP ?_;refine W.nC [0,1,2,6,7,3,4,5,8,9] [0,0,0,4,2,2,0,0,0,0] (jk [96]) vS jk.trans (bR := [(4,3,[3]),(5,3,[4,3]),(5,4,[4]),(8,4,[4]),(9,4,[4]),(8,5,[5]),(9,5,[5])]) (by kernel_rfl) (by kernel_rfl) (by kernel_rfl) (by kernel_rfl) (by kernel_rfl) fun qN eX iM => ?_;have⟨m8,m9,m10,b3⟩:=jv eX m5 m6 m7 b2;refine eZ T<|eZ J<|Rp (.pointer (some ⟨R,VJ,none⟩)) (fun _=>fC 5 (hx:=(rfl.trans (K_ (fun q=>Value.slice q (d) (t)) eq1))))<|eZ J<|Rp (.slice (F6 5 1 t E) (d-1) (t-1)) (fun I=>Ir (j:=1) (s:=5) rfl rfl rfl underlying41 (by kernel_rfl) (by omega) hca)<|Rs (.agg (aA 5 (jZ (dK a 0)))) (dZ m9 0 (fun jq H=>eF (k:=0) (by omega) H)) ?_;refine mF<|uz (vs := [(0,.agg (aA 5 (jZ (dK a 0))))]) (s:=5) (zc:=fun p=>if p<1 then .int .i64 (0)else if p<3 then .int .u64 (0)else if p<4 then .int .i64 (0)else .int .u64 (0)) (y:=bJ (fun j=>zT0 (j % 5)) (0*5) 5 (jZ (dK a 0))) (by rfl) rfl rfl underlying41 (by kernel_rfl) (by rfl) (by rfl) (by kernel_rfl) (by rw[aT (off:=0*5) (s:=5) (y:=jZ (dK a 0)) rfl (bM _ _) (by rfl)]; rfl) rfl fun g1 w2 kV m11 s3 z1 => ?_;have⟨kY,b4⟩:=fB s3.bP m8 b3;have tJ:=gQ kV b3.size;have apy:(.slice z (n) (A):Value).ownBlock≠some g1:=(by rw[kV]; exact m8.gW (A_ _));have apz:R≠g1:=(by rw[kV]; exact u_ (m9.lt (by omega)));have abw:S≠g1:=(by rw[kV]; exact u_ (m10.lt (by omega)));have vB:=m11.lt;refine Ln ⟨jk.jr s3.bP,?_⟩;refine mF<|xX (B:=w.heap.size) (s:=5) (bytes:=40) (k:=n) (m:=1) (v := .slice z (n) (A)) (x:=iU o) (by rfl) rfl rfl rfl underlying41 (by kernel_rfl) (by kernel_rfl) rfl rfl kY m11.aJ (fun j N=>by unfold bJ; rw[d_ ⟨by omega,by omega⟩]; exact su _ _) (by omega) (by omega) (by omega) b4.size fun g2 sK w3 ho1 hg1 vE hlt1 => ?_;have gT:=yc hg1 kY;have m15:aY w3 w.heap.size 96 5 (.slice (some ⟨g2,0,none⟩) (n+1) sK) (n+1) (iU (o ++ [(dK a 0)])):=(ho1.congr (Lp (l:=o) (x:=(dK a 0)) M));have b5:Below w.heap.size w w3:=sO b4 hg1 b4.size (fun q C=>(kY.ge C).1);refine Ln ⟨gT,?_⟩;refine aS (.slice (some ⟨g2,0,none⟩) (n+1) (sK))<|aS (.slice (F6 5 1 t E) (d-1) (t-1))<|Rn<|bS<|bS ?_
    skip
    refine iA ⟨d-1+g,(by omega),d-1,g,t-1,u,F6 5 1 t E,G,a.tail,c,o ++ [(dK a 0)],n+1,(some ⟨g2,0,none⟩),sK,(by omega),(Ye P hca),Q,(by rw[List.length_tail]; omega),hrb,(by omega),hcb,(by rw[E_]; exact K_ (· + 1) M),(by omega),(Hg N (afe (by omega) (by omega) (S9.1 c53))),(yO hpa),hpb,(by rfl),K,h3,h4,(by rfl),m15,b5⟩ (by decide)
   refine Lv aD (fM c53)<|au aD<|aC<|aL<|ay<|au (av (F3 (dK a 0) (dK c 0))) ?_;by_cases c64:0<(F3 (dK a 0) (dK c 0))
   ·refine Lv aH (lK c64)<|au aH<|aC<|aP ?_;refine W.nC [0,1,2,6,7,3,4,5,8,9] [0,0,0,4,2,2,0,0,0,0] (jk [96]) vS jk.trans (bR := [(4,3,[3]),(5,3,[4,3]),(5,4,[4]),(8,4,[4]),(9,4,[4]),(8,5,[5]),(9,5,[5])]) (by kernel_rfl) (by kernel_rfl) (by kernel_rfl) (by kernel_rfl) (by kernel_rfl) fun Fu iZ rM => ?_;have⟨m18,m19,m20,b6⟩:=jv iZ m5 m6 m7 b2;refine eZ T<|eZ K<|Rp (.pointer (some ⟨S,oq2,none⟩)) (fun _=>fC 5 (hx:=(rfl.trans (K_ (fun q=>Value.slice q (g) (u)) D6))))<|eZ K<|Rp (.slice (F6 5 1 u G) (g-1) (u-1)) (fun I=>Ir (j:=1) (s:=5) rfl rfl rfl underlying41 (by kernel_rfl) (by omega) hcb)<|Rs (.agg (aA 5 (jZ (dK c 0)))) (dZ m20 0 (fun jq H=>eF (k:=0) (by omega) H)) ?_;refine mF<|uz (vs := [(0,.agg (aA 5 (jZ (dK c 0))))]) (s:=5) (zc:=fun p=>if p<1 then .int .i64 (0)else if p<3 then .int .u64 (0)else if p<4 then .int .i64 (0)else .int .u64 (0)) (y:=bJ (fun j=>zT0 (j % 5)) (0*5) 5 (jZ (dK c 0))) (by rfl) rfl rfl underlying41 (by kernel_rfl) (by rfl) (by rfl) (by kernel_rfl) (by rw[aT (off:=0*5) (s:=5) (y:=jZ (dK c 0)) rfl (bM _ _) (by rfl)]; rfl) rfl fun g3 w4 nO mG s5 z2 => ?_;have⟨m22,b7⟩:=fB s5.bP m18 b6;have Gc:=gQ nO b6.size;have KX:(.slice z (n) (A):Value).ownBlock≠some g3:=(by rw[nO]; exact m18.gW (A_ _));have KY:R≠g3:=(by rw[nO]; exact u_ (m19.lt (by omega)));have PD:S≠g3:=(by rw[nO]; exact u_ (m20.lt (by omega)));have Gr:=mG.lt;refine Ln ⟨jk.jr s5.bP,?_⟩;refine mF<|xX (B:=w.heap.size) (s:=5) (bytes:=40) (k:=n) (m:=1) (v := .slice z (n) (A)) (x:=iU o) (by rfl) rfl rfl rfl underlying41 (by kernel_rfl) (by kernel_rfl) rfl rfl m22 mG.aJ (fun j N=>by unfold bJ; rw[d_ ⟨by omega,by omega⟩]; exact su _ _) (by omega) (by omega) (by omega) b7.size fun g4 cap2 w5 ho2 hg2 Un hlt2 => ?_;have jC:=yc hg2 m22;have mU:aY w5 w.heap.size 96 5 (.slice (some ⟨g4,0,none⟩) (n+1) cap2) (n+1) (iU (o ++ [(dK c 0)])):=(ho2.congr (Lp (l:=o) (x:=(dK c 0)) M));have b8:Below w.heap.size w w5:=sO b7 hg2 b7.size (fun q C=>(m22.ge C).1);refine Ln ⟨jC,?_⟩;refine aS (.slice (some ⟨g4,0,none⟩) (n+1) (cap2))<|aS (.slice (F6 5 1 u G) (g-1) (u-1))<|Rn<|bS<|bS ?_
    skip
    refine iA ⟨d+(g-1),(by omega),d,g-1,t,u-1,E,F6 5 1 u G,a,c.tail,o ++ [(dK c 0)],n+1,(some ⟨g4,0,none⟩),cap2,(by omega),P,(Ye Q hcb),hra,(by rw[List.length_tail]; omega),hca,(by omega),(by rw[E_]; exact K_ (· + 1) M),(by omega),(Hg N (aff (by omega) (by omega) (X6.1 c64))),hpa,(yO hpb),J,(by rfl),h3,h4,(by rfl),mU,b8⟩ (by decide)
   refine Lv aD (lM c64)<|au aD<|aC<|aL<|yh (fun f X => ∃ O:Nat,w.heap.size<=O/\(.slice z (n) (A):Value).ownBlock≠some O/\f 0 = .slice E (d) (t)/\f 1 = .slice G (g) (u)/\f 2 = .func (.func 29) #[] #[]/\f 3 = .func (.func 30) #[] #[]/\f 8 = .slice z (n) (A)/\f 11 = .pointer (some ⟨O,0,none⟩)/\f 12 = .int .i64 (if gH (dK a 0) (dK c 0)then(14:Int)else 0)/\aY X w.heap.size 96 5 (.slice z (n) (A)) n (iU o)/\aM X O 5 (jZ (if gH (dK a 0) (dK c 0)then(dK a 0)else CF (dK a 0) (dK c 0))) 96/\Below w.heap.size w X) ?_ ?_
   ·-- region 3 draws
    refine W.Ko [0,1,2,4,5,3,6] [7,8,9,10,11,12,13] [0,0,0,1,0,0,1,2,0,0,0,2,3,0] Mk mE Mk.trans (bR := [(12,3,[3]),(12,6,[6]),(8,7,[7]),(9,7,[8,7]),(10,7,[8,7]),(12,7,[7]),(13,7,[7]),(12,11,[11]),(13,11,[11]),(13,12,[12])]) (by kernel_rfl) (by kernel_rfl) (by kernel_rfl) (by kernel_rfl) (by kernel_rfl) (by kernel_rfl) fun MU mZ DZ => ?_;have⟨om,Y⟩:=fB mZ m5 b2;refine eZ h4<|eZ J ?_;obtain⟨Z,Ql,LQ,afk⟩:=P (by omega);have Tj:Z<w.heap.size:=afk.lt (by omega);have U:=afk.below Y Tj;have apA:Z<MU.heap.size:=U.lt (by omega);refine Rp (.pointer (some ⟨Z,Ql,none⟩)) (fun _=>fC 5 (hx:=(rfl.trans (K_ (fun q=>Value.slice q (d) (t)) LQ))))<|eZ K ?_;obtain⟨ab,oq4,YO,afl⟩:=Q (by omega);have afm:ab<w.heap.size:=afl.lt (by omega);have V:=afl.below Y afm;have auy:ab<MU.heap.size:=V.lt (by omega);refine Rp (.pointer (some ⟨ab,oq4,none⟩)) (fun _=>fC 5 (hx:=(rfl.trans (K_ (fun q=>Value.slice q (g) (u)) YO))))<|lI (v := .agg (aA 5 (jZ (dK a 0)))) (by rfl) (by rfl) (mE _) (fun I D=>eB (x:=iU a) (y:=jZ (dK a 0)) rfl rfl (by kernel_rfl) (by kernel_rfl) (U.below D (U.lt (by omega))) (i:=0) (by omega) (by omega) (fun jq H=>eF (k:=0) (by omega) H)) ?_;refine lI (v := .agg (aA 5 (jZ (dK c 0)))) (by rfl) (by rfl) (mE _) (fun I D=>eB (x:=iU c) (y:=jZ (dK c 0)) rfl rfl (by kernel_rfl) (by kernel_rfl) (V.below D (V.lt (by omega))) (i:=0) (by omega) (by omega) (fun jq H=>eF (k:=0) (by omega) H)) ?_;refine Rn<|RA.Q7 7 11 [8,9,10,11,12,13] [7,8,9,10,12,13] (by rfl) (by kernel_rfl) (by kernel_rfl) (by kernel_rfl) ?_ ?_
    ·refine mF<|zW (by rfl) (uJ (args := [.agg (aA 5 (jZ (dK a 0))),.agg (aA 5 (jZ (dK c 0)))]) rfl rfl rfl (all := #[.agg (aA 5 (jZ (dK a 0))),.agg (aA 5 (jZ (dK c 0)))]) rfl func30 rfl rfl) rfl<|(Yc (dK a 0) (dK c 0) _ (hpa 0 (by omega)) (hpb 0 (by omega))).mono ?_;rintro e w6 ⟨he,hb1⟩;refine⟨.tuple #[.agg (aA 5 (jZ (if gH (dK a 0) (dK c 0)then(dK a 0)else CF (dK a 0) (dK c 0)))),.int .i64 (if gH (dK a 0) (dK c 0)then(14:Int)else 0)],by rw[he],?_⟩;clear he;have s7:=Sb hb1;have⟨mY,m32,oD,b10⟩:=jv hb1 om U V Y;refine Ln ⟨s7.bP,?_⟩;refine Rn<|RA.still (by rfl) ?_;refine aS (.tuple #[.agg (aA 5 (jZ (if gH (dK a 0) (dK c 0)then(dK a 0)else CF (dK a 0) (dK c 0)))),.int .i64 (if gH (dK a 0) (dK c 0)then(14:Int)else 0)])<|Rn<|RA.still (by rfl) ?_;refine aS (.agg (aA 5 (jZ (if gH (dK a 0) (dK c 0)then(dK a 0)else CF (dK a 0) (dK c 0)))))<|Rn<|RA.still (by rfl) ?_;refine aS (av (if gH (dK a 0) (dK c 0)then(14:Int)else 0))<|Rn<|RA.one 11 [12,13] (by rfl) (by kernel_rfl) (by kernel_rfl) ?_;refine mF<|oJ 5 zT0 fun g5 w7 BG pz s8 z3 => ?_;have⟨pQ,rE,sD,b11⟩:=jv s8.bP mY m32 oD b10;have wX:=gQ BG b10.size;have Hl:(.slice z (n) (A):Value).ownBlock≠some g5:=(by rw[BG]; exact mY.gW (A_ _));have VL:Z≠g5:=(by rw[BG]; exact u_ (m32.lt (by omega)));have afn:ab≠g5:=(by rw[BG]; exact u_ (oD.lt (by omega)));have YE:=pz.lt;refine Ln ⟨s8.bP,?_⟩;refine Rn<|RA.one 12 [13] (by rfl) (by kernel_rfl) (by kernel_rfl) ?_;refine jP<|dY pz 0 (h1:=(fun j _=>su _ j)) fun w8 qM s9 z4 => ?_;have qW:aM w8 g5 5 (jZ (if gH (dK a 0) (dK c 0)then(dK a 0)else CF (dK a 0) (dK c 0))) 96:=aO qM;have vk:=pQ.cK s9 Hl;have pR:=rE.cK s9 (by omega);have qx:=sD.cK s9 (by omega);have b12:=s9.below b11 b11.size (by omega);refine Ln<|Rn<|RA.still (by rfl)<|aS (av (if gH (dK a 0) (dK c 0)then(14:Int)else 0))<|Rn<|RA.nil ?_;exact nL ⟨g5,(by omega),Hl,J,K,h3,h4,T,(by rfl),(by first|rfl|exact K_ (Value.int .i64) (by omega)),vk,qW,b12⟩
    refine mF<|oJ 5 zT0 fun g6 w9 Mt qy oP z5 => ?_;have⟨uF,sQ,qc,b13⟩:=jv oP.bP om U V Y;have lg6:=gQ Mt Y.size;have Lr:(.slice z (n) (A):Value).ownBlock≠some g6:=(by rw[Mt]; exact om.gW (A_ _));have afo:Z≠g6:=(by rw[Mt]; exact u_ (U.lt (by omega)));have afp:ab≠g6:=(by rw[Mt]; exact u_ (V.lt (by omega)));have tg6:=qy.lt;refine Ln ⟨oP.bP,?_⟩;refine Rn<|RA.one 7 [8,9,10,12,13] (by rfl) (by kernel_rfl) (by kernel_rfl) ?_;refine mF<|zW (by rfl) (uJ (args := [.agg (aA 5 (jZ (dK a 0))),.agg (aA 5 (jZ (dK c 0)))]) rfl rfl rfl (all := #[.agg (aA 5 (jZ (dK a 0))),.agg (aA 5 (jZ (dK c 0)))]) rfl func30 rfl rfl) rfl<|(Yc (dK a 0) (dK c 0) _ (hpa 0 (by omega)) (hpb 0 (by omega))).mono ?_;rintro e uE ⟨he,hb2⟩;refine⟨.tuple #[.agg (aA 5 (jZ (if gH (dK a 0) (dK c 0)then(dK a 0)else CF (dK a 0) (dK c 0)))),.int .i64 (if gH (dK a 0) (dK c 0)then(14:Int)else 0)],by rw[he],?_⟩;clear he;have s11:=Sb hb2;have⟨tK,xY,uN,yj,b14⟩:=oK hb2 uF sQ qc qy b13;refine Ln ⟨s11.bP,?_⟩;refine Rn<|RA.still (by rfl) ?_;refine aS (.tuple #[.agg (aA 5 (jZ (if gH (dK a 0) (dK c 0)then(dK a 0)else CF (dK a 0) (dK c 0)))),.int .i64 (if gH (dK a 0) (dK c 0)then(14:Int)else 0)])<|Rn<|RA.still (by rfl) ?_;refine aS (.agg (aA 5 (jZ (if gH (dK a 0) (dK c 0)then(dK a 0)else CF (dK a 0) (dK c 0)))))<|Rn<|RA.still (by rfl) ?_;refine aS (av (if gH (dK a 0) (dK c 0)then(14:Int)else 0))<|Rn<|RA.one 12 [13] (by rfl) (by kernel_rfl) (by kernel_rfl) ?_;refine jP<|dY yj 0 (h1:=(fun j _=>su _ j)) fun Bg Ai s12 z6 => ?_;have yG:aM Bg g6 5 (jZ (if gH (dK a 0) (dK c 0)then(dK a 0)else CF (dK a 0) (dK c 0))) 96:=aO Ai;have xA:=tK.cK s12 Lr;have yH:=xY.cK s12 (by omega);have wC:=uN.cK s12 (by omega);have b15:=s12.below b14 b14.size (by omega);refine Ln<|Rn<|RA.still (by rfl)<|aS (av (if gH (dK a 0) (dK c 0)then(14:Int)else 0))<|Rn<|RA.nil ?_;exact nL ⟨g6,(by omega),Lr,J,K,h3,h4,T,(by rfl),(by first|rfl|exact K_ (Value.int .i64) (by omega)),xA,yG,b15⟩
   rintro f2 BD ⟨O,aDD,apB,h6,h7,h8,h9,h10,h11,h12,vU,wD,b16⟩;refine aQ<|aQ ?_;have n53 : ¬ kg (dK a 0) (dK c 0):=fun h=>c53 (S9.2 h);have n64 : ¬ kg (dK c 0) (dK a 0):=fun h=>c64 (X6.2 h);refine Wl<|bA h12 ?_;by_cases ad:(if gH (dK a 0) (dK c 0)then(14:Int)else 0)=0
   ·refine Lv aD (kr ad)<|aC<|aL<|Wk<|sN ?_;have ac : ¬ gH (dK a 0) (dK c 0):=fun h=>by rw[d_ h]at ad; exact L_ ad (by decide)
    have tL:aM BD O 5 (jZ (CF (dK a 0) (dK c 0))) 96:=(by have q9:=wD; rw[b_ ac]at q9; exact q9);refine W.nC [0,4,5,6,7,1,2,3,8,9,10] [0,4,2,2,0,0,0,0,0,0,0] (jk [96]) vS jk.trans (bR := [(2,1,[1]),(3,1,[2,1]),(3,2,[2]),(8,2,[2]),(9,2,[2]),(10,2,[2]),(8,3,[3]),(9,3,[3]),(10,3,[3])]) (by kernel_rfl) (by kernel_rfl) (by kernel_rfl) (by kernel_rfl) (by kernel_rfl) fun wZ oF Fv => ?_;have⟨uG,oo,b17⟩:=iP oF vU tL b16;refine eZ h10<|eZ h6<|Rp (.slice (F6 5 1 t E) (d-1) (t-1)) (fun I=>Ir (j:=1) (s:=5) rfl rfl rfl underlying41 (by kernel_rfl) (by omega) hca)<|eZ h7<|Rp (.slice (F6 5 1 u G) (g-1) (u-1)) (fun I=>Ir (j:=1) (s:=5) rfl rfl rfl underlying41 (by kernel_rfl) (by omega) hcb)<|Rs (.agg (aA 5 (jZ (CF (dK a 0) (dK c 0))))) (dZ oo.aJ 0 (ha:=h11)) ?_;refine mF<|uz (vs := [(0,.agg (aA 5 (jZ (CF (dK a 0) (dK c 0)))))]) (s:=5) (zc:=fun p=>if p<1 then .int .i64 (0)else if p<3 then .int .u64 (0)else if p<4 then .int .i64 (0)else .int .u64 (0)) (y:=bJ (fun j=>zT0 (j % 5)) (0*5) 5 (jZ (CF (dK a 0) (dK c 0)))) (by rfl) rfl rfl underlying41 (by kernel_rfl) (by rfl) (by rfl) (by kernel_rfl) (by rw[aT (off:=0*5) (s:=5) (y:=jZ (CF (dK a 0) (dK c 0))) rfl (bM _ _) (by rfl)]; rfl) rfl fun g7 Bh Rh sF D5 z7 => ?_;have⟨pE,vV,b18⟩:=iP D5.bP uG oo b17;have lg7:=gQ Rh b17.size;have apC:(.slice z (n) (A):Value).ownBlock≠some g7:=(by rw[Rh]; exact uG.gW (A_ _));have apD:=gD Rh oo.lt;have tg7:=sF.lt;refine Ln ⟨jk.jr D5.bP,?_⟩;refine mF<|xX (B:=w.heap.size) (s:=5) (bytes:=40) (k:=n) (m:=1) (v := .slice z (n) (A)) (x:=iU o) (by rfl) rfl rfl rfl underlying41 (by kernel_rfl) (by kernel_rfl) rfl rfl pE sF.aJ (fun j N=>by unfold bJ; rw[d_ ⟨by omega,by omega⟩]; exact su _ _) (by omega) (by omega) (by omega) b18.size fun g8 VN EU ho3 hg3 ahi hlt3 => ?_;have oz:=yc hg3 pE;have apE:O≠g8:=fun e=>ahi.elim (fun e2=>apB (by rw[e]; exact e2)) (fun e2=>by have:=vV.lt; omega);have m64:aY EU w.heap.size 96 5 (.slice (some ⟨g8,0,none⟩) (n+1) VN) (n+1) (iU (o ++ [(CF (dK a 0) (dK c 0))])):=(ho3.congr (Lp (l:=o) (x:=(CF (dK a 0) (dK c 0))) M));have b19:Below w.heap.size w EU:=sO b18 hg3 b18.size (fun q C=>(pE.ge C).1);refine Ln ⟨oz,?_⟩;refine aS (.slice (some ⟨g8,0,none⟩) (n+1) (VN))<|aS (.slice (F6 5 1 t E) (d-1) (t-1))<|aS (.slice (F6 5 1 u G) (g-1) (u-1))<|Rn<|bS<|bS ?_
    skip
    refine iA ⟨d-1+(g-1),(by omega),d-1,g-1,t-1,u-1,F6 5 1 t E,F6 5 1 u G,a.tail,c.tail,o ++ [CF (dK a 0) (dK c 0)],n+1,(some ⟨g8,0,none⟩),VN,(by omega),(Ye P hca),(Ye Q hcb),(by rw[List.length_tail]; omega),(by rw[List.length_tail]; omega),(by omega),(by omega),(by rw[E_]; exact K_ (· + 1) M),(by omega),(Hg N (apv (by omega) (by omega) n53 n64 ac)),(yO hpa),(yO hpb),(by rfl),(by rfl),h8,h9,(by rfl),m64,b19⟩ (by decide)
   refine Lv aH (mO ad)<|aC<|aP<|aQ ?_;have ac:gH (dK a 0) (dK c 0):=Classical.byContradiction fun h=>ad (b_ h);refine Wl<|bA h12<|au (.slice none 0 0)<|au (av (if gH (dK a 0) (dK c 0)then(14:Int)else 0))<|aC<|Wr<|sR<|bO<|bO<|oG<|bO<|sR<|aK (.tuple #[.slice none 0 0,.int .i64 (if gH (dK a 0) (dK c 0)then(14:Int)else 0)]) ?_;exact .inl ⟨by rw[N,afg (by omega) (by omega) n53 n64 ac]; rfl,by rw[d_ ac],b16⟩
  refine Lv aD (lM c19)<|au aD<|aC<|aL<|Wx<|cZ<|iC<|dB<|sN<|ay<|bA T<|bA J<|Fx.L.tH (B:=w.heap.size) (s:=5) (bytes:=40) (k:=n) (m:=d) (v := .slice z (n) (A)) (x:=iU o) (by rfl) rfl rfl rfl underlying41 (by kernel_rfl) (by kernel_rfl) rfl rfl m2 (P.up F rfl) (fun j _=>JI _ j) (by omega) (by omega) F.size fun vv1 CW ho4 hg4 amw => ?_;obtain⟨a1,cap4,rfl⟩:=ho4.val;have sG:aY CW w.heap.size 96 5 (.slice a1 (n+d) (cap4)) (n+d) (iU (o++a)):=(ho4.congr (fun j _=>JG (l:=o) (r:=a) M j));have b20:Below w.heap.size w CW:=sO F hg4 F.size (fun q C=>(m2.ge C).1);refine bA K<|Fx.L.tH (B:=w.heap.size) (s:=5) (bytes:=40) (k:=n+d) (m:=g) (v := .slice a1 (n+d) (cap4)) (x:=iU (o++a)) (by rfl) rfl rfl rfl underlying41 (by kernel_rfl) (by kernel_rfl) rfl rfl sG (Q.up b20 rfl) (fun j _=>JI _ j) (by omega) (by omega) b20.size fun vv2 w16 ho5 hg5 aDE => ?_;obtain⟨a2,cap5,rfl⟩:=ho5.val;have sH:aY w16 w.heap.size 96 5 (.slice a2 (n+d+g) (cap5)) (n+d+g) (iU (o++a++c)):=(ho5.congr (fun j _=>JG (l:=(o++a)) (r:=c) (by rw[E_,<- M,<- hra]) j));have DW:Below w.heap.size w w16:=sO b20 hg5 b20.size (fun q C=>(sG.ge C).1);refine au (.slice a2 (n+d+g) (cap5))<|au (av 0)<|aC<|Wr<|aK (.tuple #[.slice a2 (n+d+g) (cap5),.int .i64 (0)]) ?_;have e9:dw la lb=some (o++a++c):=by rw[N,ER (by first|exact .inl (List.eq_nil_of_length_eq_zero (by omega))|exact .inr (List.eq_nil_of_length_eq_zero (by omega)))]; simp
  have l9:(o++a++c).length=n+d+g:=by simp only[E_]; omega
  exact .inr ⟨_,a2,cap5,e9,by rw[l9],by rw[l9]; exact sH,DW⟩
 refine Lv aD (lM c15)<|au aD<|bf<|bf<|bf<|au aD<|aC<|aL<|Wx<|cZ<|iC<|dB<|sN<|ay<|bA T<|bA J<|Fx.L.tH (B:=w.heap.size) (s:=5) (bytes:=40) (k:=n) (m:=d) (v := .slice z (n) (A)) (x:=iU o) (by rfl) rfl rfl rfl underlying41 (by kernel_rfl) (by kernel_rfl) rfl rfl m2 (P.up F rfl) (fun j _=>JI _ j) (by omega) (by omega) F.size fun vv3 Fg ho6 hg6 aDF => ?_;obtain⟨a3,cap6,rfl⟩:=ho6.val;have sI:aY Fg w.heap.size 96 5 (.slice a3 (n+d) (cap6)) (n+d) (iU (o++a)):=(ho6.congr (fun j _=>JG (l:=o) (r:=a) M j));have zl:Below w.heap.size w Fg:=sO F hg6 F.size (fun q C=>(m2.ge C).1);refine bA K<|Fx.L.tH (B:=w.heap.size) (s:=5) (bytes:=40) (k:=n+d) (m:=g) (v := .slice a3 (n+d) (cap6)) (x:=iU (o++a)) (by rfl) rfl rfl rfl underlying41 (by kernel_rfl) (by kernel_rfl) rfl rfl sI (Q.up zl rfl) (fun j _=>JI _ j) (by omega) (by omega) zl.size fun vv4 En ho7 hg7 aDH => ?_;obtain⟨a4,PY,rfl⟩:=ho7.val;have tN:aY En w.heap.size 96 5 (.slice a4 (n+d+g) (PY)) (n+d+g) (iU (o++a++c)):=(ho7.congr (fun j _=>JG (l:=(o++a)) (r:=c) (by rw[E_,<- M,<- hra]) j));have Fh:Below w.heap.size w En:=sO zl hg7 zl.size (fun q C=>(sI.ge C).1);refine au (.slice a4 (n+d+g) (PY))<|au (av 0)<|aC<|Wr<|aK (.tuple #[.slice a4 (n+d+g) (PY),.int .i64 (0)]) ?_;have e9:dw la lb=some (o++a++c):=by rw[N,ER (by first|exact .inl (List.eq_nil_of_length_eq_zero (by omega))|exact .inr (List.eq_nil_of_length_eq_zero (by omega)))]; simp
 have l9:(o++a++c).length=n+d+g:=by simp only[E_]; omega
 exact .inr ⟨_,a4,PY,e9,by rw[l9],by rw[l9]; exact tN,Fh⟩
namespace Fx
theorem aY.le{c:Nat}{a:Option Addr}(h:aY s k E b (.slice a m c) m x):m<=c:=by
 rcases h.2 with ⟨e,n⟩|⟨g,cap,cur,e,hb,hg,hle,_⟩
 ·omega
 simp_all
end Fx
namespace Rt
structure NdR(x:iK):Prop where
 id:wh x.id
 par:wh x.par
 R : ∀ p,p<54->FZ (x.R p)
structure GrR(x:jD):Prop where
 o:FZ x.o
 r:wh x.r
 n:wh x.n
 a:FZ x.a
 b:wh x.b
structure Tk(m:jA):Prop where
 k:Qj m.aF
 n : ∀ x∈m.ns,NdR x
 g : ∀ x∈m.gs,GrR x
theorem yP(h:k<c.length:=by omega):bY c k∈c:=by
 grind [bY]
theorem Ba(l:k<h.length:=by omega):dK h k∈h:=by
 grind [dK]
structure JJ(w:World)(m:jA)(na:Option Addr)(nc:Nat)(ga:Option Addr)(gc:Nat):Prop where
 r:Tk m
 l1:m.ns.length<=1000000
 l2:m.gs.length<=1000000
 n:Fx.iB w na m.ns.length 56 (gI m.ns)
 g:Fx.iB w ga m.gs.length 5 (iU m.gs)
 c1:m.ns.length<=nc
 c2:m.gs.length<=gc
theorem JJ.up{w w':World}{m:jA}{d a:Option Addr}{e b:Nat}(h:JJ w m d e a b)(c:Below w.heap.size w w'):JJ w' m d e a b:=⟨h.r,h.l1,h.l2,h.n.up c rfl,h.g.up c rfl,h.c1,h.c2⟩
instance {w w':World} {m:jA} {d a:Option Addr} {e c:Nat}:Rt.Tr w w' (JJ w m d e a c) (JJ w' m d e a c):=⟨fun b h=>h.up b⟩
theorem JJ.b0(h:JJ s f q k O j) : ∀ m,m<f.gs.length->0<=(dK f.gs m).b:=fun m d=>(h.r.g _ (Ba d)).b.1
theorem afr:Tk Qi:=⟨fun _ _=>⟨M_ 0,show(0:Int)<=18446744073709551615 by decide⟩,fun x a=>(nomatch a),fun x a=>(nomatch a)⟩
theorem auC(ha:wh a)(c:wh d):wh (ou a d):=by grind [ou]
theorem aDK(ha:FZ a)(c:FZ d):FZ (ou a d):=by grind [ou]
theorem afs{b l:List iK}(ha : ∀ x∈A,NdR x)(g : ∀ x∈b,NdR x)(h:cO A b=some l) : ∀ x∈l,NdR x:=by
 induction A,b using cO.induct generalizing l with
 | case1 b=>grind [cO]
 | case2 x A=>grind [cO]
 | case3 x A y b c ih =>
   grind [cO,Option.map_eq_some_iff]
 | case4 x A y b c c2 ih =>
   grind [cO,Option.map_eq_some_iff]
 | case5 x A y b c c2 c3=>grind [cO]
 | case6 x A y b c c2 c3 ih =>
   rw[cO,b_ c,b_ c2,b_ c3]at h; obtain⟨q,j,rfl⟩:=Option.map_eq_some_iff.1 h;have d:=ha _ (List.mem_cons_self ..); have i:=g _ (List.mem_cons_self ..);intro z f; rcases List.mem_cons.1 f with rfl|f
   ·exact⟨d.id,d.par,fun p e=>aDK (d.R p e) (i.R p e)⟩
   simp_all
theorem aft{l:List jD}(ha : ∀ x∈h,GrR x)(f : ∀ x∈D,GrR x)(a:dw h D=some l) : ∀ x∈l,GrR x:=by
 induction h,D using dw.induct generalizing l with
 | case1 D=>grind [dw]
 | case2 x h=>grind [dw]
 | case3 x h y D c ih =>
   grind [dw,Option.map_eq_some_iff]
 | case4 x h y D c c2 ih =>
   grind [dw,Option.map_eq_some_iff]
 | case5 x h y D c c2 c3=>grind [dw]
 | case6 x h y D c c2 c3 ih =>
   rw[dw,b_ c,b_ c2,b_ c3]at a; obtain⟨q,i,rfl⟩:=Option.map_eq_some_iff.1 a;have d:=ha _ (List.mem_cons_self ..); have g:=f _ (List.mem_cons_self ..);intro z e; rcases List.mem_cons.1 e with rfl|e
   ·exact⟨d.o,d.r,d.n,d.a,auC d.b g.b⟩
   simp_all
theorem VO{b l:List iK}(h:cO A b=some l):l.length<=A.length+b.length:=by
 induction A,b using cO.induct generalizing l with
 | case1 b=>grind [cO]
 | case2 x A=>grind [cO]
 | case3 x A y b c ih=>grind [cO,Option.map_eq_some_iff]
 | case4 x A y b c c2 ih=>grind [cO,Option.map_eq_some_iff]
 | case5 x A y b c c2 c3=>grind [cO]
 | case6 x A y b c c2 c3 ih=>grind [cO,Option.map_eq_some_iff]
theorem VP{l:List jD}(a:dw h D=some l):l.length<=h.length+D.length:=by
 induction h,D using dw.induct generalizing l with
 | case1 D=>grind [dw]
 | case2 x h=>grind [dw]
 | case3 x h y D c ih=>grind [dw,Option.map_eq_some_iff]
 | case4 x h y D c c2 ih=>grind [dw,Option.map_eq_some_iff]
 | case5 x h y D c c2 c3=>grind [dw]
 | case6 x h y D c c2 c3 ih=>grind [dw,Option.map_eq_some_iff]
def mz:Bn:=⟨fun _=>false,fun _=>false,fun _=>0,none,0,0,none,0,0⟩
def orF(x y:Nat->Bool)(i:Nat):Nat->Bool:=fun q=>if q<i then x q || y q else false
def JM(a b:jA)(i:Nat):Bn:=⟨orF a.dF b.dF i,orF a.left b.left i,fun p=>uV (a.aF p) (b.aF p),none,0,0,none,0,0⟩
theorem Ls{m k:Bn}(h1 : ∀ q,q<6->m.dF q=k.dF q)(d : ∀ q,q<6->m.left q=k.left q)(e : ∀ q,q<6->m.aF q=k.aF q)(f:Value.slice m.na m.nn m.nc = .slice k.na k.nn k.nc)(g:Value.slice m.ga m.gn m.gc = .slice k.ga k.gn k.gc) : ∀ j,j<20->dS m j=dS k j:=fun j h=>by
 unfold dS;by_cases a:j<6
 ·rw[d_ a,d_ a,h1 j a]
 ·rw[b_ a,b_ a];by_cases b:j<12
  ·rw[d_ b,d_ b,d _ (by omega)]
  ·rw[b_ b,b_ b];by_cases c:j<18
   ·rw[d_ c,d_ c,e _ (by omega)]
   ·rw[b_ c,b_ c,f,g]
theorem ajC{a b:jA} : ∀ j,j<20->bJ (dS mz) 12 6 (rv .u64 fun p=>uV (a.aF p) (b.aF p)) j=dS (JM a b 0) j:=fun j g=>by
 unfold bJ;by_cases c:12<=j/\j<12+6
 ·rw[d_ c]; exact(fA (p:=j-12) (q:=j) (JM a b 0)).symm
 ·rw[b_ c]; unfold dS JM orF mz;by_cases d:j<6
  ·rw[d_ d,d_ d]; rfl
  ·rw[b_ d,b_ d];by_cases e:j<12
   ·rw[d_ e,d_ e]; rfl
   ·have f : ¬ j<18:=(by omega);rw[b_ e,b_ e,b_ f,b_ f]
def JM1(a b:jA)(i:Nat):Bn := { JM a b i with dF:=orF a.dF b.dF (i+1) }
theorem Yf(a:V=(Q m || Y m)):(if k=m then V else orF Q Y m k)=orF Q Y (m+1) k:=by
 grind [orF]
theorem ajD(hi:m<6)(d:V=(f.dF m || p.dF m)) : ∀ j,j<20->dN (dS (JM f p m)) m (.bool V) j=dS (JM1 f p m) j:=fun j e=>by
 unfold dN;by_cases c:j<6
 ·rw[iX _ c,iX _ c]; show _=Value.bool (orF f.dF p.dF (m+1) j); rw[<- Yf d]; show _=Value.bool (if j=m then V else orF f.dF p.dF m j); split <;> rfl
 ·rw[b_]; unfold dS; rw[b_ c,b_ c]; rfl
theorem PZ{a b:jA}{i p:Nat}{v:Bool}(hi:i<6)(f:p=6+i)(g:v=(a.left i || b.left i)) : ∀ j,j<20->dN (dS (JM1 a b i)) p (.bool v) j=dS (JM a b (i+1)) j:=fun j h=>by
 subst f;unfold dN;by_cases c:j<6
 ·rw[b_,iX _ c,iX _ c]; rfl
 ·by_cases d:j<12
  ·rw[fT (p:=j-6) (JM1 a b i),fT (p:=j-6) (JM a b (i+1))];show _=Value.bool (orF a.left b.left (i+1) (j-6)); rw[<- Yf g];by_cases e:j=6+i
   ·rw[d_ e,d_]
   ·rw[b_ e,b_]; rfl
  ·rw[b_]; unfold dS; rw[b_ c,b_ c,b_ d,b_ d]; rfl
def JM2(a b:jA)(c:Option Addr)(e d:Nat):Bn := { JM a b 6 with na:=c,nn:=e,nc:=d }
def JM3(a b:jA)(f:Option Addr)(h g:Nat)(c:Option Addr)(e d:Nat):Bn := { JM2 a b f h g with ga:=c,gn:=e,gc:=d }
theorem aDL : ∀ j,j<20->dN (dS (JM f p 6)) 18 (.slice q m k) j=dS (JM2 f p q m k) j:=fun j g=>by
 unfold dN;by_cases e:j=18
 ·subst e; rfl
 ·rw[b_ e]; unfold dS; simp only[e,if_false]; rfl
theorem aDM : ∀ b,b<20->dN (dS (JM2 f p q m j)) 19 (.slice O U P) b=dS (JM3 f p q m j O U P) b:=fun b n=>by
 unfold dN;by_cases e:b=19
 ·subst e; rfl
 ·rw[b_ e]; unfold dS;by_cases c:b<18
  ·by_cases d:b<6
   ·rw[d_ d,d_ d]; rfl
   ·by_cases a:b<12
    ·rw[b_ d,b_ d,d_ a,d_ a]; rfl
    ·rw[b_ d,b_ d,b_ a,b_ a,d_ c,d_ c]; rfl
  ·have:b=18:=(by omega);subst this; rfl
theorem auD{a b:jA}{l:List iK}{g:List jD} : ∀ j,j<20->dS (JM3 a b q l.length m O g.length k) j=dS (dR (xR a b l g) q m O k) j :=
 Ls (fun f c=>d_ c) (fun f c=>d_ c) (fun _ _=>rfl) rfl rfl
theorem Yg(ha:Tk f)(a:Tk p)(h1:cO f.ns p.ns=some c)(e:dw f.gs p.gs=some h):Tk (xR f p c h):=⟨fun i d=>auC (ha.k i d) (a.k i d),afs ha.n a.n h1,aft ha.g a.g e⟩
theorem afu(h:wR f=false\/wR p=false):gM f p=(Qi,1):=by
 grind [gM,vO]
theorem aDN(h1:wR f=true)(c:wR p=true)(h:cO f.ns p.ns=none):gM f p=(Qi,9):=by
 grind [gM,sw]
theorem aDO(h1:wR f=true)(a:wR p=true)(h:cO f.ns p.ns=some c)(d:dw f.gs p.gs=none):gM f p=(Qi,14):=by
 grind [gM,sw]
theorem aDP(h1:wR f=true)(a:wR p=true)(b:cO f.ns p.ns=some c)(d:dw f.gs p.gs=some h)(e:wR (xR f p c h)=false):gM f p=(Qi,6):=by
 grind [gM,sw]
theorem ajE(h1:wR f=true)(a:wR p=true)(b:cO f.ns p.ns=some c)(d:dw f.gs p.gs=some h)(e:wR (xR f p c h)=true):gM f p=(xR f p c h,0):=by
 grind [gM,sw]
theorem auE(h:(gM f p).2=0):wR f=true/\wR p=true /\ ∃ l g,cO f.ns p.ns=some l/\dw f.gs p.gs=some g/\wR (xR f p l g)=true:=by
 cases h1:wR f
 ·grind [afu]
 cases h2:wR p
 ·grind [afu]
 cases h3:cO f.ns p.ns
 ·grind [aDN]
 rename_i l
 cases h4:dw f.gs p.gs
 ·grind [aDO]
 grind [aDP]
theorem afv{b:Type}{o:Option b}{l:b}{P:Prop}{R:b->Option Addr->Nat->Prop}(h:o=some l)(e:(o=none/\P) \/ ∃ d a c,o=some d/\R d a c) : ∃ a c,R l a c:=by
 simp_all
theorem Yh(ha:Tk f)(c:Tk p):Tk (gM f p).1:=by
 grind [gM,afr,Yg]
end Rt
set_option maxRecDepth 20000 in
theorem apH(a b:jA)(Q:Option Addr)(R:Nat)(O:Option Addr)(P:Nat)(I:Option Addr)(J:Nat)(G:Option Addr)(H:Nat)(w:World)(ha:JJ w a Q R O P)(t:JJ w b I J G H)(hj0:(gM a b).2=0) :
 Calls prog 10 #[.agg (aA 20 (dS (dR a Q R O P))),.agg (aA 20 (dS (dR b I J G H)))] w fun e w' => ∃ na nc ga gc,e = .returned (.tuple #[.agg (aA 20 (dS (dR (gM a b).1 na nc ga gc))),.int .i64 (gM a b).2])/\aY w' w.heap.size 69 56 (.slice na (gM a b).1.ns.length nc) (gM a b).1.ns.length (gI (gM a b).1.ns)/\aY w' w.heap.size 96 5 (.slice ga (gM a b).1.gs.length gc) (gM a b).1.gs.length (iU (gM a b).1.gs)/\Below w.heap.size w w':=by
 obtain⟨c8,aa,d,m,e9n,e9g,c80⟩:=auE hj0;refine bX func10 84 ?_;refine ay<|oq fun K w1 kV m1 s1 z1 => ?_;have b1:=bL s1.bP (Below.refl w.heap.size w);have tJ:=iy kV;have vB:=m1.lt;refine oq fun o w2 nN m2 s2 z2 => ?_;have⟨m3,b2⟩:=fB s2.bP m1 b1;have xw:=gQ nN b1.size;have BP:=gD nN m1.lt;have zR:=m2.lt;refine oJ 20 (fun zq=>if zq<12 then .bool false else if zq<18 then .int .u64 (0)else .slice none 0 0) fun c w3 nO m4 s3 z3 => ?_;have⟨m5,m6,b3⟩:=iP s3.bP m3 m2 b2;have Gc:=gQ nO b2.size;have⟨WB,aaU⟩:=oM nO m3.lt m2.lt;have Gr:=m4.lt;refine au (av 0)<|aC<|aQ<|aQ ?_;have m7:aM w3 c 20 (dS mz) 43:=m4.congr (fun j X=>match j,X with|0,_=>rfl|1,_=>rfl|2,_=>rfl|3,_=>rfl|4,_=>rfl|5,_=>rfl|6,_=>rfl|7,_=>rfl|8,_=>rfl|9,_=>rfl|10,_=>rfl|11,_=>rfl|12,_=>rfl|13,_=>rfl|14,_=>rfl|15,_=>rfl|16,_=>rfl|17,_=>rfl|18,_=>rfl|19,_=>rfl|j+20,h=>L_ h (by omega))
 refine Wl<|Lv (.agg (aA 20 (dS (dR a Q R O P)))) (dZ m5.aJ 0)<|dO (Od _ _ R _ P _ ha.r.k ha.l1 ha.l2 (ha.up b3).n (ha.up b3).g) aH (by rw[c8]) ?_;intro w4 hb1;have⟨m8,m9,m10,b4⟩:=jv hb1 m5 m6 m7 b3;refine au aD<|au aD<|Lv (.agg (aA 20 (dS (dR b I J G H)))) (dZ m9.aJ 0)<|dO (Od _ _ J _ H _ t.r.k t.l1 t.l2 (t.up b4).n (t.up b4).g) aH (by rw[aa]) ?_;intro w5 hb2;have⟨m11,kY,m13,b5⟩:=jv hb2 m8 m9 m10 b4;refine au aD<|au aD<|aC<|aL<|Wk<|sN<|ay<|au (.pointer (some ⟨K,12,none⟩))<|Lv (.agg (aA 6 (rv .u64 a.aF))) (dZ m11.aJ 12 (fun j X=>fA (p:=j) _ X))<|au (.pointer (some ⟨o,12,none⟩))<|Lv (.agg (aA 6 (rv .u64 b.aF))) (dZ kY.aJ 12 (fun j X=>fA (p:=j) _ X))<|uz (vs := [(0,.agg (aA 6 (rv .u64 a.aF))),(1,.agg (aA 6 (rv .u64 b.aF)))]) (s:=6) (zc:=rv .u64 (fun _=>0)) (y:=bJ (bJ (fun j=>(rv .u64 (fun _=>0)) (j % 6)) (0*6) 6 (rv .u64 a.aF)) (1*6) 6 (rv .u64 b.aF)) (by rfl) rfl rfl underlying144 (by kernel_rfl) (by rfl) (by rfl) (by kernel_rfl) (by rw[aT (off:=0*6) (s:=6) (y:=rv .u64 a.aF) rfl (bM _ _)]; rw[aT (off:=1*6) (s:=6) (y:=rv .u64 b.aF) rfl (bM _ _)]; rfl) rfl fun g4 w6 yL m14 s6 z4 =>have⟨m15,m16,m17,b6⟩:=jv s6.bP m11 kY m13 b5;have Uw:=gQ yL b5.size;have⟨adZ,aoR,aDQ⟩:=El yL m11.lt kY.lt m13.lt;have TR:=m14.lt;dO (aeJ _ _ m14 (aeK _ _ _)) _ rfl ?_;intro w7 hb3;have⟨m18,m19,m20,b7⟩:=jv hb3 m15 m16 m17 b6;refine au (.pointer (some ⟨c,12,none⟩))<|dY m20 12 fun w8 m22 s8 z5 =>have m23:aM w8 c 20 (dS (JM a b 0)) 43:=m22.congr ajC;have m24:=m18.cK s8 (by omega);have mU:=m19.cK s8 (by omega);have b8:=s8.below b7 b7.size (by omega);aC<|aQ<|ay<|au (av 0)<|aC<|Wb<|Wo (fun f w_ => ∃ i:Nat,i<=6/\f 2 = .pointer (some ⟨K,0,none⟩)/\f 3 = .pointer (some ⟨o,0,none⟩)/\f 4 = .pointer (some ⟨c,0,none⟩)/\f 23 = .int .i64 (i:Int)/\aM w_ K 20 (dS (dR a Q R O P)) 43/\aM w_ o 20 (dS (dR b I J G H)) 43/\aM w_ c 20 (dS (JM a b i)) 43/\Below w.heap.size w w_) (fun f _=>(6-(intOf (f 23)).toNat)) ⟨0,by omega,(by rfl),(by rfl),(by rfl),(by first|rfl|exact K_ (Value.int .i64) (by omega)),m24,mU,m23,b8⟩ ?_
 rintro f1 w9 ⟨i,hi,N,L,A,E,pO,om,qb,U⟩;refine ay ?_;by_cases c24:(i:Int)<6
 ·refine Lv aH (fK c24 (hx:=E))<|aC<|aQ<|aP<|Wk<|sN<|aQ<|Wb<|ay<|bA E<|au (av i)<|aC<|W.nC [0,1,2,3,4,12,13,14,22,25,5,6,7,8,9,10,11,23,15,16,17,18,19,20,21,24,26,27] [0,0,0,0,0,4,0,0,0,0,4,0,0,0,0,4,0,0,0,0,1,0,0,0,2,0,0,2] (ko (fun q=>q=c)) (vR _) ko.trans (bR := [(24,5,[5]),(27,5,[5]),(24,10,[10]),(27,10,[10]),(24,15,[16,15]),(27,15,[15]),(26,24,[24]),(27,24,[24])]) (by kernel_rfl) (by kernel_rfl) (by kernel_rfl) (by kernel_rfl) (by kernel_rfl) fun qN eX iM =>have⟨F,T,m32,M⟩:=jv eX pO om qb U;aS (av i)<|aS (av i)<|aS (av i)<|Rp (.pointer (some ⟨K,0,none⟩)) (fun _=>iO N 0)<|Rp (.pointer (some ⟨K,i,none⟩)) (fun _=>jh 6 1)<|aS (av i)<|Rp (.pointer (some ⟨K,6,none⟩)) (fun _=>iO N 6)<|Rp (.pointer (some ⟨K,i+6,none⟩)) (fun _=>jh 6 1)<|Rp (.pointer (some ⟨c,0,none⟩)) (fun _=>iO A 0)<|Rp (.pointer (some ⟨c,6,none⟩)) (fun _=>iO A 6) ?_;by_cases S:(a.dF i)=true
  ·refine Rs aH (aR F.aJ i ((iX _).trans (K_ Value.bool S)))<|aS aH<|Rk (by rfl)<|Rk (by rfl)<|Rk (by rfl)<|Rk (by rfl)<|aS aH<|Rp (.pointer (some ⟨c,i,none⟩)) (fun _=>jh 6 1) ?_;by_cases C:(a.left i)=true
   ·refine Rs aH (aR F.aJ (i+6) ((fT _).trans (K_ Value.bool C)))<|aS aH<|Rk (by rfl)<|Rk (by rfl)<|Rk (by rfl)<|Rk (by rfl)<|aS aH<|mF<|jf m32 i aH fun uE oD oP z6 =>have pz:aM uE c 20 (dS (JM1 a b i)) 43:=oD.congr (ajD (by omega) (by rw[S]; rfl));have pQ:=F.cK oP (by omega);have rE:=T.cK oP (by omega);have b11:=oP.below M M.size (by omega);Ln ⟨ko.rX oP,?_⟩;refine Rp (.pointer (some ⟨c,i+6,none⟩)) (fun _=>jh 6 1)<|mF<|jf pz (i+6) aH fun Bg sD s11 z7 =>have qM:aM Bg c 20 (dS (JM a b (i+1))) 43:=sD.congr (PZ (by omega) (by omega) (by rw[C]; rfl));have qW:=pQ.cK s11 (by omega);have vk:=rE.cK s11 (by omega);have b12:=s11.below b11 b11.size (by omega);Ln ⟨ko.rX s11,?_⟩;refine Rn<|bS<|sN<|Wl<|Lv (av ((i:Int)+1)) (gu (hx:=E))<|au (av ((i:Int)+1))<|Ln<|iA ⟨i+1,by omega,N,L,A,(by first|rfl|exact K_ (Value.int .i64) (by omega)),qW,vk,qM,b12⟩ ?_
    show(6-(intOf (.int .i64 ((i:Int)+1))).toNat)<_;simp only[E,intOf]; omega
   rw[R_]at C;refine Rs aD (aR F.aJ (i+6) ((fT _).trans (K_ Value.bool C)))<|aS aD<|aS (av i)<|Rp (.pointer (some ⟨o,6,none⟩)) (fun _=>iO L 6)<|Rp (.pointer (some ⟨o,i+6,none⟩)) (fun _=>jh 6 1)<|lI (v := .bool (b.left i)) (by rfl) (by rfl) (vR _ _) (fun v1 hv1=>bE (x:=dS (dR b I J G H)) rfl rfl (by kernel_rfl) (T.qZ hv1 (show ¬ (o=c) by omega)).aJ (i:=i+6) (by omega) (by omega) (fT _))<|aS (.bool (b.left i))<|mF<|jf m32 i aH fun BD pR s12 z8 =>have qx:aM BD c 20 (dS (JM1 a b i)) 43:=pR.congr (ajD (by omega) (by rw[S]; rfl));have qy:=F.cK s12 (by omega);have uF:=T.cK s12 (by omega);have b13:=s12.below M M.size (by omega);Ln ⟨ko.rX s12,?_⟩;refine Rp (.pointer (some ⟨c,i+6,none⟩)) (fun _=>jh 6 1)<|mF<|jf qx (i+6) (.bool (b.left i)) fun Bh sQ s13 z9 =>have qc:aM Bh c 20 (dS (JM a b (i+1))) 43:=sQ.congr (PZ (by omega) (by omega) (by rw[C]; rfl));have tK:=qy.cK s13 (by omega);have xY:=uF.cK s13 (by omega);have b14:=s13.below b13 b13.size (by omega);Ln ⟨ko.rX s13,?_⟩;refine Rn<|bS<|sN<|Wl<|Lv (av ((i:Int)+1)) (gu (hx:=E))<|au (av ((i:Int)+1))<|Ln<|iA ⟨i+1,by omega,N,L,A,(by first|rfl|exact K_ (Value.int .i64) (by omega)),tK,xY,qc,b14⟩ ?_
   show(6-(intOf (.int .i64 ((i:Int)+1))).toNat)<_;simp only[E,intOf]; omega
  rw[R_]at S;refine Rs aD (aR F.aJ i ((iX _).trans (K_ Value.bool S)))<|aS aD<|aS (av i)<|Rp (.pointer (some ⟨o,0,none⟩)) (fun _=>iO L 0)<|Rp (.pointer (some ⟨o,i,none⟩)) (fun _=>jh 6 1)<|Rs (.bool (b.dF i)) (aR T.aJ i (iX _))<|aS (.bool (b.dF i))<|Rp (.pointer (some ⟨c,i,none⟩)) (fun _=>jh 6 1) ?_;by_cases C:(a.left i)=true
  ·refine Rs aH (aR F.aJ (i+6) ((fT _).trans (K_ Value.bool C)))<|aS aH<|Rk (by rfl)<|Rk (by rfl)<|Rk (by rfl)<|Rk (by rfl)<|aS aH<|mF<|jf m32 i (.bool (b.dF i)) fun EU uN D5 QM =>have yj:aM EU c 20 (dS (JM1 a b i)) 43:=uN.congr (ajD (by omega) (by rw[S]; rfl));have Ai:=F.cK D5 (by omega);have yG:=T.cK D5 (by omega);have b15:=D5.below M M.size (by omega);Ln ⟨ko.rX D5,?_⟩;refine Rp (.pointer (some ⟨c,i+6,none⟩)) (fun _=>jh 6 1)<|mF<|jf yj (i+6) aH fun CW xA s15 z11 =>have yH:aM CW c 20 (dS (JM a b (i+1))) 43:=xA.congr (PZ (by omega) (by omega) (by rw[C]; rfl));have wC:=Ai.cK s15 (by omega);have vU:=yG.cK s15 (by omega);have b16:=s15.below b15 b15.size (by omega);Ln ⟨ko.rX s15,?_⟩;refine Rn<|bS<|sN<|Wl<|Lv (av ((i:Int)+1)) (gu (hx:=E))<|au (av ((i:Int)+1))<|Ln<|iA ⟨i+1,by omega,N,L,A,(by first|rfl|exact K_ (Value.int .i64) (by omega)),wC,vU,yH,b16⟩ ?_
   show(6-(intOf (.int .i64 ((i:Int)+1))).toNat)<_;simp only[E,intOf]; omega
  rw[R_]at C;refine Rs aD (aR F.aJ (i+6) ((fT _).trans (K_ Value.bool C)))<|aS aD<|aS (av i)<|Rp (.pointer (some ⟨o,6,none⟩)) (fun _=>iO L 6)<|Rp (.pointer (some ⟨o,i+6,none⟩)) (fun _=>jh 6 1)<|lI (v := .bool (b.left i)) (by rfl) (by rfl) (vR _ _) (fun v1 hv1=>bE (x:=dS (dR b I J G H)) rfl rfl (by kernel_rfl) (T.qZ hv1 (show ¬ (o=c) by omega)).aJ (i:=i+6) (by omega) (by omega) (fT _))<|aS (.bool (b.left i))<|mF<|jf m32 i (.bool (b.dF i)) fun w16 wD s16 z12 =>have tL:aM w16 c 20 (dS (JM1 a b i)) 43:=wD.congr (ajD (by omega) (by rw[S]; rfl));have uG:=F.cK s16 (by omega);have oo:=T.cK s16 (by omega);have b17:=s16.below M M.size (by omega);Ln ⟨ko.rX s16,?_⟩;refine Rp (.pointer (some ⟨c,i+6,none⟩)) (fun _=>jh 6 1)<|mF<|jf tL (i+6) (.bool (b.left i)) fun Fg sF LU z13 =>have pE:aM Fg c 20 (dS (JM a b (i+1))) 43:=sF.congr (PZ (by omega) (by omega) (by rw[C]; rfl));have vV:=uG.cK LU (by omega);have m64:=oo.cK LU (by omega);have b18:=LU.below b17 b17.size (by omega);Ln ⟨ko.rX LU,?_⟩;refine Rn<|bS<|sN<|Wl<|Lv (av ((i:Int)+1)) (gu (hx:=E))<|au (av ((i:Int)+1))<|Ln<|iA ⟨i+1,by omega,N,L,A,(by first|rfl|exact K_ (Value.int .i64) (by omega)),vV,m64,pE,b18⟩ ?_
  show(6-(intOf (.int .i64 ((i:Int)+1))).toNat)<_;simp only[E,intOf]; omega
 refine Lv aD (fM c24 (hx:=E))<|aC<|aQ<|aL<|Wx<|cZ<|iC<|dB<|sN<|aQ<|aQ ?_;have xB:aM w9 c 20 (dS (JM a b 6)) 43:=by have q9:=qb; rw[show i=6 by omega]at q9; exact q9
 refine Wl<|Lv (.pointer (some ⟨K,18,none⟩)) (iO N 18)<|Lv (.slice Q (a.ns.length) (R)) (aR pO.aJ 18)<|Lv (.pointer (some ⟨o,18,none⟩)) (iO L 18)<|Lv (.slice I (b.ns.length) (J)) (aR om.aJ 18)<|lX (afh _ _ _ _ _ _ _ ha.l1 t.l1 (ha.up U).n (t.up U).n ha.c1 t.c1) ?_;intro e9 En Y;obtain⟨u,z,V,hm1,hb4⟩:=afv e9n Y;refine⟨_,V,?_⟩;clear V Y;have⟨sG,sH,sI,b19⟩:=jv hb4 pO om xB U;have tN:=hm1.mono U.size;refine au (.tuple #[.slice u (d.length) (z),.int .i64 (0)])<|au (.slice u (d.length) (z))<|au (av 0)<|Lv (.pointer (some ⟨c,18,none⟩)) (iO A 18)<|jf sI 18 (.slice u (d.length) (z)) fun YF tO M6 z14 =>have qg:aM YF c 20 (dS (JM2 a b u d.length z)) 43:=tO.congr aDL;have sS:=sG.cK M6 (by omega);have vW:=sH.cK M6 (by omega);have jC:=gJ M6 sI.ty;have yR:=jU jC tN;have Z:=M6.below b19 b19.size (by omega);au (av 0)<|aC<|ay<|au (av 0)<|Lv aD Wz<|aC<|aL<|Wk<|sN<|aQ<|ay<|Lv (.pointer (some ⟨K,19,none⟩)) (iO N 19)<|Lv (.slice O (a.gs.length) (P)) (aR sS.aJ 19)<|Lv (.pointer (some ⟨o,19,none⟩)) (iO L 19)<|Lv (.slice G (b.gs.length) (H)) (aR vW.aJ 19)<|lX (afq _ _ _ _ _ _ _ ha.l2 t.l2 (ha.up Z).g (t.up Z).g ha.c2 t.c2 ha.b0 t.b0) ?_;intro e9 TN Y;obtain⟨B,D,V,hm2,hb5⟩:=afv e9g Y;refine⟨_,V,?_⟩;clear V Y;have⟨xZ,wE,zh,yS,DW⟩:=oK hb5 sS vW yR qg Z;have zi:=hm2.mono Z.size;refine au (.tuple #[.slice B (m.length) (D),.int .i64 (0)])<|au (.slice B (m.length) (D))<|au (av 0)<|Lv (.pointer (some ⟨c,19,none⟩)) (iO A 19)<|jf yS 19 (.slice B (m.length) (D)) fun WE yI Rf z15 =>have xC:aM WE c 20 (dS (JM3 a b u d.length z B m.length D)) 43:=yI.congr aDM;have zk:=xZ.cK Rf (by omega);have zS:=wE.cK Rf (by omega);have oz:=gJ Rf yS.ty;have⟨zw,Aj⟩:=lZ oz zh zi;have zl:=Rf.below DW DW.size (by omega);au (av 0)<|aC<|ay<|au (av 0)<|Lv aD Wz<|aC<|aL<|Wk<|sN<|aQ<|ay<|Lv (.agg (aA 20 (dS (JM3 a b u d.length z B m.length D)))) (dZ xC.aJ 0 (ha:=A))<|dO (Od _ _ z _ D _ (Yg ha.r t.r e9n e9g).k (by have:=VO e9n; have:=(sw.1 c8).nn; have:=(sw.1 aa).nn; show d.length<=1000000; omega) (by have:=VP e9g; have:=(sw.1 c8).gn; have:=(sw.1 aa).gn; show m.length<=1000000; omega) zw.oI Aj.oI) aH (by rw[c80]) ?_;intro YG hb6;have⟨Bq,BQ,zT,BR,Bj,Fh⟩:=oL hb6 zk zS zw Aj xC zl;refine au aD<|aC<|aL<|Wk<|sN<|ay<|Lv (.agg (aA 20 (dS (JM3 a b u d.length z B m.length D)))) (dZ Bj.aJ 0 (ha:=A))<|dY Bj 0 (ha:=A) (h1:=(fun j _=>qj _ j)) fun yB Ak Ze z16 =>have BF:aM yB c 20 (dS (JM3 a b u d.length z B m.length D)) 43:=aO Ak;have Et:=Bq.cK Ze (by omega);have Bt:=BQ.cK Ze (by omega);have tV:=gJ Ze Bj.ty;have⟨Dv,BZ⟩:=lZ tV zT BR;have Gs:=Ze.below Fh Fh.size (by omega);au (av 0) (aC (Wr (⟨.tuple #[.agg (aA 20 (dS (JM3 a b u d.length z B m.length D))),.int .i64 (0)],gK Tryz.results10 ⟨_,A,aU BF.aJ⟩,?_⟩)));rw[ajE c8 aa e9n e9g c80];exact⟨u,z,B,D,by rw[fI (auD (a:=a) (b:=b) (l:=d) (g:=m))],Dv,BZ,Gs⟩
namespace Rt
theorem wfu(h:wh a):sM (some .u64) (.int .u64 a)=some (.int .u64 a):=by simp[sM,xk h]
theorem wfi(h:FZ a):sM (some .i64) (.int .i64 a)=some (.int .i64 a):=by simp[sM,aaE h]
theorem Hw(b:Nat->Bool):Kd (List.replicate 6 none) (fun j => .bool (b j)):=fun i a=>⟨.bool (b i),by rw[List.getElem_replicate]; rfl⟩
theorem Yi(x:iK)(p:Nat):iI x (p+2)=av (x.R p):=by rfl
theorem kdN{x:iK}(h:NdR x):Kd (some .u64::some .u64::List.replicate 54 (some .i64)) (iI x):=fun i a=>by
 match i,a with
 | 0,_=>exact⟨_,wfu h.id⟩
 | 1,_=>exact⟨_,wfu h.par⟩
 | i+2,a =>
   have b:i<54:=(by grind);have e:(some IntKind.u64::some IntKind.u64::List.replicate 54 (some IntKind.i64))[i+2]=some .i64:=by rw[List.getElem_cons_succ,List.getElem_cons_succ,List.getElem_replicate]
   simp_all [Yi,wfi,h.R]
theorem kdG(h:GrR M):Kd [some .i64,some .u64,some .u64,some .i64,some .u64] (jZ M):=fun i c=>by
 match i,c with
 | 0,_=>exact⟨_,wfi h.o⟩
 | 1,_=>exact⟨_,wfu h.r⟩
 | 2,_=>exact⟨_,wfu h.n⟩
 | 3,_=>exact⟨_,wfi h.a⟩
 | 4,_=>exact⟨_,wfu h.b⟩
theorem vi(h:Value.int K a = .int K d):a=d:=by simp_all
theorem P5{x y:iK}:(∀ i,i<56->iI x i=iI y i)<->PV x y:=by
 constructor
 ·intro h;refine⟨vi (h 0 (by decide)),vi (h 1 (by decide)),fun p e => ?_⟩;have:=h (p+2) (by omega)
  grind [Yi]
 rintro ⟨b,c,d⟩ i a
 match i,a with
 | 0,_=>exact K_ (Value.int .u64) b
 | 1,_=>exact K_ (Value.int .u64) c
 | p+2,a=>grind [Yi]
theorem P6{y:jD}:(∀ i,i<5->jZ M i=jZ y i)<->M=y:=by
 constructor
 ·intro h;have a:=vi (h 0 (by decide)); have b:=vi (h 1 (by decide)); have c:=vi (h 2 (by decide)); have d:=vi (h 3 (by decide)); have e:=vi (h 4 (by decide))
  cases M; simp_all
 simp_all
theorem VQ{y:Nat->Int}:(∀ i,i<6->rv .u64 X i=rv .u64 y i) <-> ∀ i,i<6->X i=y i:=⟨fun h i a=>vi (h i a),fun h i a=>K_ (Value.int .u64) (h i a)⟩
theorem Ho:(∀ i,i<6->(fun j=>Value.bool (Q j)) i=(fun j=>Value.bool (Y j)) i) <-> ∀ i,i<6->Q i=Y i:=by simp_all
def EqN(a b:List iK):Prop:=a.length=b.length /\ ∀ k,k<a.length->PV (bY a k) (bY b k)
def EqG(a b:List jD):Prop:=a.length=b.length /\ ∀ k,k<a.length->dK a k=dK b k
open Classical in
noncomputable def eqN(a b:List iK):Bool:=decide (EqN a b)
open Classical in
noncomputable def eqG(a b:List jD):Bool:=decide (EqG a b)
open Classical in
noncomputable def Yj(a b:jA):Bool:=decide (jg a b)
open Classical in
theorem auI(h:EqN c A):eqN c A=true:=f_ h
open Classical in
theorem alz(h : ¬ EqN c A):eqN c A=false:=g_ h
open Classical in
theorem auJ(a:EqG h D):eqG h D=true:=f_ a
open Classical in
theorem alA(a : ¬ EqG h D):eqG h D=false:=g_ a
open Classical in
theorem Yk(h:jg f p):Yj f p=true:=f_ h
open Classical in
theorem alB(h:eqN c A=true):EqN c A:=h_ h
open Classical in
theorem auK(h:eqN c A=false) : ¬ EqN c A:=j_ h
open Classical in
theorem alC(a:eqG h D=true):EqG h D:=h_ a
open Classical in
theorem auL(a:eqG h D=false) : ¬ EqG h D:=j_ a
open Classical in
theorem Oh:Yj f p=true<->jg f p:=O_
open Classical in
theorem JK{u:jA}(e:gM p f=(u,d))(c:d=0)(h:jg u f):Bp p f=true:=f_ (by simp_all)
open Classical in
theorem Bb{u:jA}(e:gM p f=(u,d))(h : ¬ (d=0/\jg u f)):Bp p f=false:=g_ (by simp_all)
open Classical in
theorem Z7:Bp p f=true<->(gM p f).2=0/\jg (gM p f).1 f:=O_
theorem Tm(h:Bp f p=true):(gM f p).2=0:=by grind [Z7]
theorem ajF{a b:jA}:(gM a b).1.ns.length<=32/\(gM a b).1.gs.length<=4096:=by
 unfold gM;split
 ·exact⟨J_ _,J_ _⟩
 split
 ·exact⟨J_ _,J_ _⟩
 split
 ·exact⟨J_ _,J_ _⟩
 split
 ·rename_i h; exact⟨h.nn,h.gn⟩
 exact⟨J_ _,J_ _⟩
end Rt
theorem alD(d o:Option Addr)(j r:Nat)(la lb:List iK)(w:World)(ab:la.length<=1000000)(ac:lb.length<=1000000)(ha:Fx.iB w d la.length 56 (gI la))(N:Fx.iB w o lb.length 56 (gI lb))(H : ∀ x∈la,NdR x)(I : ∀ x∈lb,NdR x) :
 Calls prog 37 #[.slice d (la.length) (j),.slice o (lb.length) (r)] w fun e w'=>e = .returned (.bool (eqN la lb))/\Below w.heap.size w w':=by
 refine bX func37 26 ?_;refine ay<|au aD<|aC<|aQ<|ay<|au (.slice d (la.length) (j))<|au (av la.length)<|au (.slice o (lb.length) (r))<|au (av lb.length) ?_;by_cases A:(la.length:Int)=(lb.length:Int)
 ·refine Lv aD (kr A)<|aC<|aL<|Wk<|sN<|aQ<|ay<|au (.slice d (la.length) (j))<|au (av la.length)<|au (av 0)<|aC<|Wb<|Wo (fun f T => ∃ k:Nat,k<=la.length/\(∀ q,q<k->PV (bY la q) (bY lb q))/\f 0 = .slice d (la.length) (j)/\f 1 = .slice o (lb.length) (r)/\f 12=av (la.length:Int)/\f 13=av (k:Int)/\Below w.heap.size w T) (fun f _=>(la.length-(intOf (f 13)).toNat)) ⟨0,(J_ _),(fun q h=>L_ h (by omega)),(by rfl),(by rfl),ic,ic,(Below.refl w.heap.size w)⟩ ?_;rintro W a ⟨k,Z,E,C,D,u,l,g⟩;refine ay ?_;by_cases B:(k:Int)<(la.length:Int)
  ·refine Lv aH (fK B (hx:=l) (hy:=u))<|aC<|aQ<|aP<|Wk<|sN<|aQ<|Wb<|ay<|bA l<|au (av k)<|aC<|aQ<|zu<|iL C<|bI (av k) ?_;obtain⟨y,P,L,F⟩:=(ha.up g rfl) (by omega);refine Qv (pf y (56*k+P)) (fun b c=>fC 56 (hx:=(rfl.trans (K_ (fun q=>Value.slice q (la.length) (j)) L))))<|Qv (.agg (aA 56 (iI (bY la k)))) (fun b c=>dZ (F.dr c) (56*k) (fun O v=>eF (k:=k) (by omega) v))<|iL D<|bI (av k) ?_;obtain⟨z,Q,M,G⟩:=(N.up g rfl) (by omega);refine Qv (pf z (56*k+Q)) (fun b c=>fC 56 (hx:=(rfl.trans (K_ (fun q=>Value.slice q (lb.length) (r)) M))))<|Qv (.agg (aA 56 (iI (bY lb k)))) (fun b c=>dZ (G.dr c) (56*k) (fun O v=>eF (k:=k) (by omega) v)) ?_;by_cases p : ∀ i,i<56->(iI (bY la k)) i=(iI (bY lb k)) i
   ·refine Qv aD (fun b c=>zY (n:=56) (ks:=((some .u64)::(some .u64)::List.replicate 54 (some .i64))) (X:=iI (bY la k)) (Y:=iI (bY lb k)) 12 true rfl rfl rfl (E5 p) (kdN (H _ (yP))) (kdN (I _ (yP))) rfl (by kernel_rfl))<|Qn ?_;rintro _ ⟨m,rfl⟩;obtain⟨U,s⟩ : ∃ b,b=World.drewN a m:=⟨_,rfl⟩;rw[<- s];have R:eG a.heap.size a U:=(by rw[s]; exact Sb (kQ a m));have J:=bL R.bP g;clear s;refine sN<|aL<|Wk<|bS<|sN<|Wl<|Lv (av ((k:Int)+1)) (gu (hx:=l))<|au (av ((k:Int)+1))<|Ln<|iA ⟨k+1,(by omega),(qL E (P5.1 p)),C,D,(u.trans ic),ic,J⟩ ?_;show(la.length-(intOf (av ((k:Int)+1))).toNat)<_;simp only[l,intOf]; omega
   refine Qv aH (fun b c=>zY (n:=56) (ks:=((some .u64)::(some .u64)::List.replicate 54 (some .i64))) (X:=iI (bY la k)) (Y:=iI (bY lb k)) 12 false rfl rfl rfl (nob p) (kdN (H _ (yP))) (kdN (I _ (yP))) rfl (by kernel_rfl))<|Qn ?_;rintro _ ⟨m,rfl⟩;obtain⟨V,t⟩ : ∃ b,b=World.drewN a m:=⟨_,rfl⟩;rw[<- t];have S:eG a.heap.size a V:=(by rw[t]; exact Sb (kQ a m));have K:=bL S.bP g;clear t;refine sN<|aP<|ay<|au aD<|aC<|Wr<|bO<|sR<|oG<|bO<|sR<|aK aD<|⟨gN (Eq.symm (alz (fun h=>p (P5.2 (h.2 k (by omega)))))),K⟩
  refine Lv aD (fM B (hx:=l) (hy:=u))<|aC<|aQ<|aL<|Wx<|cZ<|iC<|dB<|sN<|ay<|au aH<|aC<|Wr<|aK aH<|⟨gN (Eq.symm (auI ⟨by omega,fun q hq=>E q (by omega)⟩)),g⟩
 refine Lv aH (mO A)<|aC<|aP<|ay<|au aD<|aC<|Wr<|sR<|aK aD<|⟨gN (Eq.symm (alz (fun h=>by have:=h.1; omega))),(Below.refl w.heap.size w)⟩
theorem alE(d o:Option Addr)(j r:Nat)(la lb:List jD)(w:World)(ab:la.length<=1000000)(ac:lb.length<=1000000)(ha:Fx.iB w d la.length 5 (iU la))(N:Fx.iB w o lb.length 5 (iU lb))(H : ∀ x∈la,GrR x)(I : ∀ x∈lb,GrR x) :
 Calls prog 38 #[.slice d (la.length) (j),.slice o (lb.length) (r)] w fun e w'=>e = .returned (.bool (eqG la lb))/\Below w.heap.size w w':=by
 refine bX func38 26 ?_;refine ay<|au aD<|aC<|aQ<|ay<|au (.slice d (la.length) (j))<|au (av la.length)<|au (.slice o (lb.length) (r))<|au (av lb.length) ?_;by_cases A:(la.length:Int)=(lb.length:Int)
 ·refine Lv aD (kr A)<|aC<|aL<|Wk<|sN<|aQ<|ay<|au (.slice d (la.length) (j))<|au (av la.length)<|au (av 0)<|aC<|Wb<|Wo (fun f T => ∃ k:Nat,k<=la.length/\(∀ q,q<k->dK la q=dK lb q)/\f 0 = .slice d (la.length) (j)/\f 1 = .slice o (lb.length) (r)/\f 12=av (la.length:Int)/\f 13=av (k:Int)/\Below w.heap.size w T) (fun f _=>(la.length-(intOf (f 13)).toNat)) ⟨0,(J_ _),(fun q h=>L_ h (by omega)),(by rfl),(by rfl),ic,ic,(Below.refl w.heap.size w)⟩ ?_;rintro W a ⟨k,Z,E,C,D,u,l,g⟩;refine ay ?_;by_cases B:(k:Int)<(la.length:Int)
  ·refine Lv aH (fK B (hx:=l) (hy:=u))<|aC<|aQ<|aP<|Wk<|sN<|aQ<|Wb<|ay<|bA l<|au (av k)<|aC<|aQ<|zu<|iL C<|bI (av k) ?_;obtain⟨y,P,L,F⟩:=(ha.up g rfl) (by omega);refine Qv (pf y (5*k+P)) (fun b c=>fC 5 (hx:=(rfl.trans (K_ (fun q=>Value.slice q (la.length) (j)) L))))<|Qv (.agg (aA 5 (jZ (dK la k)))) (fun b c=>dZ (F.dr c) (5*k) (fun O v=>eF (k:=k) (by omega) v))<|iL D<|bI (av k) ?_;obtain⟨z,Q,M,G⟩:=(N.up g rfl) (by omega);refine Qv (pf z (5*k+Q)) (fun b c=>fC 5 (hx:=(rfl.trans (K_ (fun q=>Value.slice q (lb.length) (r)) M))))<|Qv (.agg (aA 5 (jZ (dK lb k)))) (fun b c=>dZ (G.dr c) (5*k) (fun O v=>eF (k:=k) (by omega) v)) ?_;by_cases p : ∀ i,i<5->(jZ (dK la k)) i=(jZ (dK lb k)) i
   ·refine Qv aD (fun b c=>zY (n:=5) (ks := [(some .i64),(some .u64),(some .u64),(some .i64),(some .u64)]) (X:=jZ (dK la k)) (Y:=jZ (dK lb k)) 12 true rfl rfl rfl (E5 p) (kdG (H _ (Ba))) (kdG (I _ (Ba))) rfl (by kernel_rfl))<|Qn ?_;rintro _ ⟨m,rfl⟩;obtain⟨U,s⟩ : ∃ b,b=World.drewN a m:=⟨_,rfl⟩;rw[<- s];have R:eG a.heap.size a U:=(by rw[s]; exact Sb (kQ a m));have J:=bL R.bP g;clear s;refine sN<|aL<|Wk<|bS<|sN<|Wl<|Lv (av ((k:Int)+1)) (gu (hx:=l))<|au (av ((k:Int)+1))<|Ln<|iA ⟨k+1,(by omega),(qL E (P6.1 p)),C,D,(u.trans ic),ic,J⟩ ?_;show(la.length-(intOf (av ((k:Int)+1))).toNat)<_;simp only[l,intOf]; omega
   refine Qv aH (fun b c=>zY (n:=5) (ks := [(some .i64),(some .u64),(some .u64),(some .i64),(some .u64)]) (X:=jZ (dK la k)) (Y:=jZ (dK lb k)) 12 false rfl rfl rfl (nob p) (kdG (H _ (Ba))) (kdG (I _ (Ba))) rfl (by kernel_rfl))<|Qn ?_;rintro _ ⟨m,rfl⟩;obtain⟨V,t⟩ : ∃ b,b=World.drewN a m:=⟨_,rfl⟩;rw[<- t];have S:eG a.heap.size a V:=(by rw[t]; exact Sb (kQ a m));have K:=bL S.bP g;clear t;refine sN<|aP<|ay<|au aD<|aC<|Wr<|bO<|sR<|oG<|bO<|sR<|aK aD<|⟨gN (Eq.symm (alA (fun h=>p (P6.2 (h.2 k (by omega)))))),K⟩
  refine Lv aD (fM B (hx:=l) (hy:=u))<|aC<|aQ<|aL<|Wx<|cZ<|iC<|dB<|sN<|ay<|au aH<|aC<|Wr<|aK aH<|⟨gN (Eq.symm (auJ ⟨by omega,fun q hq=>E q (by omega)⟩)),g⟩
 refine Lv aH (mO A)<|aC<|aP<|ay<|au aD<|aC<|Wr<|sR<|aK aD<|⟨gN (Eq.symm (alA (fun h=>by have:=h.1; omega))),(Below.refl w.heap.size w)⟩
theorem P7(a b:jA)(t:Option Addr)(o:Nat)(s:Option Addr)(m:Nat)(D:Option Addr)(v:Nat)(C:Option Addr)(u:Nat)(w:World)(ha:JJ w a t o s m)(y:JJ w b D v C u)(x:jg a b) :
 Calls prog 11 #[.agg (aA 20 (dS (dR a t o s m))),.agg (aA 20 (dS (dR b D v C u)))] w fun e w'=>e = .returned (.bool true)/\Below w.heap.size w w':=by
 have hna:=ha.n;have hnb:=y.n;have hga:=ha.g;have hgb:=y.g;have aIg:=ha.l2;have aIh:=y.l1;have aIi:=y.l2;have hSn:=x.nn;have hSg:=x.gn;refine bX func11 80 ?_;refine ay<|oq fun h w1 kV T s1 z1 => ?_;have W:=bL s1.bP (Below.refl w.heap.size w);have tJ:=iy kV;have vB:=T.lt;refine oq fun i w2 af A s2 z2 => ?_;have⟨E,b2⟩:=fB s2.bP T W;have xw:=gQ af W.size;have BP:=gD af T.lt;have zR:=A.lt;refine au aD<|aC<|aQ<|ay<|au (pt h)<|Lv (.agg (aA 6 (fun j=>Value.bool (a.dF j)))) (dZ E.aJ 0 (fun j l=>by rw[G_]; exact iX _ l))<|au (pt i)<|Lv (.agg (aA 6 (fun j=>Value.bool (b.dF j)))) (dZ A.aJ 0 (fun j l=>by rw[G_]; exact iX _ l))<|Lv aD (zY (n:=6) (ks:=List.replicate 6 none) (X:=fun j=>Value.bool (a.dF j)) (Y:=fun j=>Value.bool (b.dF j)) 12 true rfl rfl rfl (E5 (Ho.2 x.dF)) (Hw _) (Hw _) rfl (by kernel_rfl) (by kernel_rfl) (by kernel_rfl) (by kernel_rfl) (by kernel_rfl))<|au aD<|au (pf h 6)<|Lv (.agg (aA 6 (fun j=>Value.bool (a.left j)))) (dZ E.aJ 6 (fun j l=>fT (p:=j) _ l (by omega)))<|au (pf i 6)<|Lv (.agg (aA 6 (fun j=>Value.bool (b.left j)))) (dZ A.aJ 6 (fun j l=>fT (p:=j) _ l (by omega)))<|Lv aD (zY (n:=6) (ks:=List.replicate 6 none) (X:=fun j=>Value.bool (a.left j)) (Y:=fun j=>Value.bool (b.left j)) 12 true rfl rfl rfl (E5 (Ho.2 x.left)) (Hw _) (Hw _) rfl (by kernel_rfl) (by kernel_rfl) (by kernel_rfl) (by kernel_rfl) (by kernel_rfl))<|au aD<|au aD<|au (pf h 12)<|Lv (.agg (aA 6 (rv .u64 a.aF))) (dZ E.aJ 12 (fun j l=>fA (p:=j) _ l (by omega)))<|au (pf i 12)<|Lv (.agg (aA 6 (rv .u64 b.aF))) (dZ A.aJ 12 (fun j l=>fA (p:=j) _ l (by omega)))<|Lv aD (zY (n:=6) (ks:=List.replicate 6 (some .u64)) (X:=rv .u64 a.aF) (Y:=rv .u64 b.aF) 12 true rfl rfl rfl (E5 (VQ.2 x.aF)) (Qj.kd ha.r.k) (Qj.kd y.r.k) rfl (by kernel_rfl) (by kernel_rfl) (by kernel_rfl) (by kernel_rfl) (by kernel_rfl))<|au aD<|au aD<|au (pf h 18)<|Lv (.slice t (a.ns.length) (o)) (aR E.aJ 18)<|au (av a.ns.length)<|au (pf i 18) ?_;refine Lv (.slice D (b.ns.length) (v)) (aR A.aJ 18)<|au (av b.ns.length)<|Lv aD Wz<|au aD<|au aD<|au (pf h 19)<|Lv (.slice s (a.gs.length) (m)) (aR E.aJ 19)<|au (av a.gs.length)<|au (pf i 19)<|Lv (.slice C (b.gs.length) (u)) (aR A.aJ 19)<|au (av b.gs.length)<|Lv aD Wz<|au aD<|aC<|aL<|Wk<|sN<|aQ<|ay<|au (av 0)<|aC<|Wb<|Wo (fun f B => ∃ k:Nat,k<=a.ns.length/\f 2=(pt h)/\f 3=(pt i)/\f 5=av (k:Int)/\aM B h 20 (dS (dR a t o s m)) 43/\aM B i 20 (dS (dR b D v C u)) 43/\Below w.heap.size w B) (fun f _=>(a.ns.length-(intOf (f 5)).toNat)) ⟨0,(J_ _),(by rfl),(by rfl),ic,E,A,b2⟩ ?_;rintro f1 F ⟨k,hk,M,Q,H,N,V,K⟩;refine aQ<|ay<|bA H<|Lv (pf h 18) (iO M 18)<|Lv (.slice t (a.ns.length) (o)) (aR N.aJ 18)<|au (av a.ns.length) ?_;by_cases ad:(k:Int)<(a.ns.length:Int)
 ·refine Lv aH (fK ad)<|aC<|aP<|Wk<|sN<|aQ<|Wb<|aQ ?_;refine zu<|Qv (pf h 18) (fun d c=>iO M 18)<|Qv (.slice t (a.ns.length) (o)) (fun d c=>aR (N.aJ.dr c) 18)<|iL H ?_;obtain⟨Z,VJ,eq1,m6⟩:=(hna.up K rfl) (by omega);have Pj:Z<F.heap.size:=m6.lt (by omega);refine Qv (pf Z (56*k+VJ)) (fun d c=>fC 56 (hx:=(rfl.trans (K_ (fun q=>Value.slice q (a.ns.length) (o)) eq1))))<|Qv (.agg (aA 56 (iI (bY a.ns k)))) (fun d c=>dZ (m6.dr c) (56*k) (fun S z=>eF (k:=k) (by omega) z))<|Qv (pf i 18) (fun d c=>iO Q 18)<|Qv (.slice D (b.ns.length) (v)) (fun d c=>aR (V.aJ.dr c) 18)<|iL H ?_;obtain⟨aa,oq2,D6,m7⟩:=(hnb.up K rfl) (by omega);have afi:aa<F.heap.size:=m7.lt (by omega);refine Qv (pf aa (56*k+oq2)) (fun d c=>fC 56 (hx:=(rfl.trans (K_ (fun q=>Value.slice q (b.ns.length) (v)) D6))))<|Qv (.agg (aA 56 (iI (bY b.ns k)))) (fun d c=>dZ (m7.dr c) (56*k) (fun S z=>eF (k:=k) (by omega) z))<|Qv aD (fun d c=>zY (n:=56) (ks:=((some .u64)::(some .u64)::List.replicate 54 (some .i64))) (X:=iI (bY a.ns k)) (Y:=iI (bY b.ns k)) 12 true rfl rfl rfl (E5 (P5.2 (x.n k (by omega)))) (kdN (ha.r.n _ (yP (by omega)))) (kdN (y.r.n _ (yP (by omega)))) rfl (by kernel_rfl) (by kernel_rfl) (by kernel_rfl) (by kernel_rfl) (by kernel_rfl))<|Qn ?_;rintro _ ⟨J,rfl⟩;obtain⟨IC,O⟩ : ∃ d,d=World.drewN F J:=⟨_,rfl⟩;rw[<- O];have s3:eG F.heap.size F IC:=by rw[O]; exact Sb (kQ F J)
  have⟨m8,m9,b4⟩:=iP s3.bP N V K;clear O;refine sN<|aL<|Wk<|bS<|sN<|Wl<|bA H<|Lv (av ((k:Int)+1)) gu<|au (av ((k:Int)+1))<|Ln<|iA ⟨k+1,(by omega),M,Q,ic,m8,m9,b4⟩ ?_;show(a.ns.length-(intOf (av ((k:Int)+1))).toNat)<_;simp only[H,intOf]; omega
 refine Lv aD (fM ad)<|aC<|aL<|Wx<|cZ<|iC<|dB<|sN<|aQ<|ay<|au (av 0)<|aC<|Wb<|Wo (fun f B => ∃ k:Nat,k<=a.gs.length/\f 2=(pt h)/\f 3=(pt i)/\f 6=av (k:Int)/\aM B h 20 (dS (dR a t o s m)) 43/\aM B i 20 (dS (dR b D v C u)) 43/\Below w.heap.size w B) (fun f _=>(a.gs.length-(intOf (f 6)).toNat)) ⟨0,(J_ _),M,Q,ic,N,V,K⟩ ?_;rintro f2 G ⟨k,hk,R,h5,I,U,m13,L⟩;refine aQ<|ay<|bA I<|Lv (pf h 19) (iO R 19)<|Lv (.slice s (a.gs.length) (m)) (aR U.aJ 19)<|au (av a.gs.length) ?_;by_cases ae:(k:Int)<(a.gs.length:Int)
 ·refine Lv aH (fK ae)<|aC<|aP<|Wk<|sN<|aQ<|Wb<|aQ ?_;refine zu<|Qv (pf h 19) (fun d c=>iO R 19)<|Qv (.slice s (a.gs.length) (m)) (fun d c=>aR (U.aJ.dr c) 19)<|iL I ?_;obtain⟨ab,Ql,LQ,m14⟩:=(hga.up L rfl) (by omega);have apA:ab<G.heap.size:=m14.lt (by omega);refine Qv (pf ab (5*k+Ql)) (fun d c=>fC 5 (hx:=(rfl.trans (K_ (fun q=>Value.slice q (a.gs.length) (m)) LQ))))<|Qv (.agg (aA 5 (jZ (dK a.gs k)))) (fun d c=>dZ (m14.dr c) (5*k) (fun S z=>eF (k:=k) (by omega) z))<|Qv (pf i 19) (fun d c=>iO h5 19)<|Qv (.slice C (b.gs.length) (u)) (fun d c=>aR (m13.aJ.dr c) 19)<|iL I ?_;obtain⟨ac,oq4,YO,m15⟩:=(hgb.up L rfl) (by omega);have auy:ac<G.heap.size:=m15.lt (by omega);refine Qv (pf ac (5*k+oq4)) (fun d c=>fC 5 (hx:=(rfl.trans (K_ (fun q=>Value.slice q (b.gs.length) (u)) YO))))<|Qv (.agg (aA 5 (jZ (dK b.gs k)))) (fun d c=>dZ (m15.dr c) (5*k) (fun S z=>eF (k:=k) (by omega) z))<|Qv aD (fun d c=>zY (n:=5) (ks := [(some .i64),(some .u64),(some .u64),(some .i64),(some .u64)]) (X:=jZ (dK a.gs k)) (Y:=jZ (dK b.gs k)) 12 true rfl rfl rfl (E5 (P6.2 (x.g k (by omega)))) (kdG (ha.r.g _ (Ba (by omega)))) (kdG (y.r.g _ (Ba (by omega)))) rfl (by kernel_rfl) (by kernel_rfl) (by kernel_rfl) (by kernel_rfl) (by kernel_rfl))<|Qn ?_;rintro _ ⟨J,rfl⟩;obtain⟨Ma,P⟩ : ∃ d,d=World.drewN G J:=⟨_,rfl⟩;rw[<- P];have s4:eG G.heap.size G Ma:=by rw[P]; exact Sb (kQ G J)
  have⟨m16,m17,b6⟩:=iP s4.bP U m13 L;clear P;refine sN<|aL<|Wk<|bS<|sN<|Wl<|bA I<|Lv (av ((k:Int)+1)) gu<|au (av ((k:Int)+1))<|Ln<|iA ⟨k+1,(by omega),R,h5,ic,m16,m17,b6⟩ ?_;show(a.gs.length-(intOf (av ((k:Int)+1))).toNat)<_;simp only[I,intOf]; omega
 refine Lv aD (fM ae)<|aC<|aL<|Wx<|cZ<|iC<|dB<|sN<|ay<|au aH<|aC<|Wr<|aK aH ?_;exact⟨rfl,L⟩
theorem JL(a b:jA)(f:Option Addr)(g:Nat)(c:Option Addr)(d:Nat)(k:Option Addr)(l:Nat)(i:Option Addr)(j:Nat)(u:jA)(ev:Int)(w:World)(ha:JJ w a f g c d)(q:JJ w b k l i j)(r:gM a b=(u,ev))(s:ev=0) :
 Calls prog 10 #[.agg (aA 20 (dS (dR a f g c d))),.agg (aA 20 (dS (dR b k l i j)))] w fun e w' => ∃ o p m n,e = .returned (.tuple #[.agg (aA 20 (dS (dR u o p m n))),av ev])/\aY w' w.heap.size 69 56 (.slice o u.ns.length p) u.ns.length (gI u.ns)/\aY w' w.heap.size 96 5 (.slice m u.gs.length n) u.gs.length (iU u.gs)/\Below w.heap.size w w':=by
 have h:=apH _ _ _ _ _ _ _ _ _ _ _ ha q (by simp_all);rw[r]at h; exact h
theorem kP{a:jA}{ev:Int}(l:Tk a)(m:Tk p)(b:gM a p=(f,ev))(h:aY s k 69 56 (.slice q f.ns.length j) f.ns.length (gI f.ns))(g:aY s k 96 5 (.slice O f.gs.length U) f.gs.length (iU f.gs)):JJ s f q j O U:=by
 have u:=Yh l m;have c := @ajF a p;rw[b]at u c;exact⟨u,m_ c.1 (by decide),m_ c.2 (by decide),h.oI,g.oI,h.le,g.le⟩
theorem Lu(a b:jA)(N:Option Addr)(O:Nat)(L:Option Addr)(M:Nat)(o:Option Addr)(s:Nat)(l:Option Addr)(m:Nat)(w:World)(ha:JJ w a N O L M)(d:JJ w b o s l m)(hj0:(gM a b).2=0) :
 Calls prog 13 #[.agg (aA 20 (dS (dR a N O L M))),.agg (aA 20 (dS (dR b o s l m)))] w fun e w'=>e = .returned (.bool (Bp a b))/\Below w.heap.size w w':=by
 obtain⟨u,D,c⟩ : ∃ q r,gM a b=(q,r):=⟨_,_,rfl⟩;have hur:Tk u:=by have:=Yh ha.r d.r; rw[c]at this; exact this
 have hev:D=0:=by rw[c]at hj0; exact hj0
 refine bX func13 50 ?_;refine ay<|oq fun g1 w1 kV U s1 z1 => ?_;have Z:=bL s1.bP (Below.refl w.heap.size w);have tJ:=iy kV;have vB:=U.lt;refine oq fun I w2 nN V s2 z2 => ?_;have⟨m3,H⟩:=fB s2.bP U Z;have xw:=gQ nN Z.size;have BP:=gD nN U.lt;have zR:=V.lt;refine au aD<|aC<|ay<|Lv (.agg (aA 20 (dS (dR a N O L M)))) (dZ m3.aJ 0)<|Lv (.agg (aA 20 (dS (dR b o s l m)))) (dZ V.aJ 0)<|lX (JL _ _ _ _ _ _ _ _ _ _ _ _ _ (ha.up H) (d.up H) c hev) ?_;rintro e9 w3 ⟨z,A,x,y,he,afw,afx,hb1⟩;refine⟨_,he,?_⟩;clear he;have⟨m4,m5,b3⟩:=iP hb1 m3 V H;have m6:=afw.mono H.size;have m7:=afx.mono H.size;refine au (.tuple #[.agg (aA 20 (dS (dR u z A x y))),av D])<|au (.agg (aA 20 (dS (dR u z A x y))))<|au (av D)<|oJ 20 zP0 fun E w4 nO W s4 z3 =>have⟨m9,m10,m11,kY,b4⟩:=oK s4.bP m4 m5 m6 m7 b3;have Gc:=gQ nO b3.size;have⟨Xy,aeb⟩:=oM nO m4.lt m5.lt;have Gr:=W.lt;dY W 0 (h1:=(fun j _=>qj _ j)) fun w5 m13 T z4 =>have J:aM w5 E 20 (dS (dR u z A x y)) 43:=aO m13;have m15:=m9.cK T (by omega);have K:=m10.cK T (by omega);have gT:=gJ T W.ty;have⟨t,v⟩:=lZ gT m11 kY;have f:=T.below b4 b4.size (by omega);au (av D)<|aC<|ay<|au (av D)<|Lv aH Qy<|au aH<|au (pt E)<|Lv (.agg (aA 6 (fun j=>Value.bool (u.dF j)))) (dZ J.aJ 0 (fun j c=>by rw[G_]; exact iX _ c))<|au (pt I)<|Lv (.agg (aA 6 (fun j=>Value.bool (b.dF j)))) (dZ K.aJ 0 (fun j c=>by rw[G_]; exact iX _ c)) ?_;by_cases Q : ∀ i,i<6->(fun j=>Value.bool (u.dF j)) i=(fun j=>Value.bool (b.dF j)) i
 ·refine Lv aH (qY (n:=6) (ks:=List.replicate 6 none) (X:=fun j=>Value.bool (u.dF j)) (Y:=fun j=>Value.bool (b.dF j)) 12 true rfl rfl rfl (E5 Q) (Hw _) (Hw _) rfl (by kernel_rfl))<|au aH<|au aH<|au (pf E 6)<|Lv (.agg (aA 6 (fun j=>Value.bool (u.left j)))) (dZ J.aJ 6 (fun j c=>fT (p:=j) _ c))<|au (pf I 6)<|Lv (.agg (aA 6 (fun j=>Value.bool (b.left j)))) (dZ K.aJ 6 (fun j c=>fT (p:=j) _ c)) ?_;by_cases R : ∀ i,i<6->(fun j=>Value.bool (u.left j)) i=(fun j=>Value.bool (b.left j)) i
  ·refine Lv aH (qY (n:=6) (ks:=List.replicate 6 none) (X:=fun j=>Value.bool (u.left j)) (Y:=fun j=>Value.bool (b.left j)) 12 true rfl rfl rfl (E5 R) (Hw _) (Hw _) rfl (by kernel_rfl))<|au aH<|au aH<|au (pf E 12)<|Lv (.agg (aA 6 (rv .u64 u.aF))) (dZ J.aJ 12 (fun j c=>fA (p:=j) _ c))<|au (pf I 12)<|Lv (.agg (aA 6 (rv .u64 b.aF))) (dZ K.aJ 12 (fun j c=>fA (p:=j) _ c)) ?_;by_cases S : ∀ i,i<6->(rv .u64 u.aF) i=(rv .u64 b.aF) i
   ·refine Lv aH (qY (n:=6) (ks:=List.replicate 6 (some .u64)) (X:=rv .u64 u.aF) (Y:=rv .u64 b.aF) 12 true rfl rfl rfl (E5 S) (Qj.kd hur.k) (Qj.kd d.r.k) rfl (by kernel_rfl))<|au aH<|au aH<|au (pf E 18)<|Lv (.slice z (u.ns.length) (A)) (aR J.aJ 18)<|au (pf I 18)<|Lv (.slice o (b.ns.length) (s)) (aR K.aJ 18) ?_;by_cases B:(eqN u.ns b.ns)=true
    ·refine dO (alD _ _ A s _ _ _ (kP ha.r d.r c t v).l1 d.l1 (kP ha.r d.r c t v).n (d.up f).n (kP ha.r d.r c t v).r.n d.r.n) aH (by rw[B]) ?_;intro w6 hb2;have⟨m20,F,G,m23,P⟩:=oK hb2 K t v J f;refine au aH<|au aH<|au (pf E 19)<|Lv (.slice x (u.gs.length) (y)) (aR m23.aJ 19)<|au (pf I 19)<|Lv (.slice l (b.gs.length) (m)) (aR m20.aJ 19) ?_;by_cases C:(eqG u.gs b.gs)=true
     ·refine dO (alE _ _ y m _ _ _ (kP ha.r d.r c F G).l2 d.l2 (kP ha.r d.r c F G).g (d.up P).g (kP ha.r d.r c F G).r.g d.r.g) aH (by rw[C]) ?_;intro w7 hb3;have b7:=bL hb3 P;refine au aH<|au aH<|aC<|Wr<|aK aH<|⟨gN (Eq.symm (JK c hev ⟨Ho.1 Q,Ho.1 R,VQ.1 S,(alB B).1,(alC C).1,(alB B).2,(alC C).2⟩)),b7⟩
     rw[R_]at C;refine dO (alE _ _ y m _ _ _ (kP ha.r d.r c F G).l2 d.l2 (kP ha.r d.r c F G).g (d.up P).g (kP ha.r d.r c F G).r.g d.r.g) aD (by rw[C]) ?_;intro w8 hb4;have b8:=bL hb4 P;refine au aD<|au aD<|aC<|Wr<|aK aD<|⟨gN (Eq.symm (Bb c (fun h=>auL C ⟨h.2.gn,h.2.g⟩))),b8⟩
    rw[R_]at B;refine dO (alD _ _ A s _ _ _ (kP ha.r d.r c t v).l1 d.l1 (kP ha.r d.r c t v).n (d.up f).n (kP ha.r d.r c t v).r.n d.r.n) aD (by rw[B]) ?_;intro w9 hb5;have b9:=bL hb5 f;refine au aD<|au aD<|bf<|bf<|bf<|bf<|bf<|au aD<|au aD<|aC<|Wr<|aK aD<|⟨gN (Eq.symm (Bb c (fun h=>auK B ⟨h.2.nn,h.2.n⟩))),b9⟩
   refine Lv aD (qY (n:=6) (ks:=List.replicate 6 (some .u64)) (X:=rv .u64 u.aF) (Y:=rv .u64 b.aF) 12 false rfl rfl rfl (nob S) (Qj.kd hur.k) (Qj.kd d.r.k) rfl (by kernel_rfl))<|au aD<|au aD<|bf<|bf<|bf<|bf<|bf<|au aD<|au aD<|bf<|bf<|bf<|bf<|bf<|au aD<|au aD<|aC<|Wr<|aK aD<|⟨gN (Eq.symm (Bb c (fun h=>S (VQ.2 h.2.aF)))),f⟩
  refine Lv aD (qY (n:=6) (ks:=List.replicate 6 none) (X:=fun j=>Value.bool (u.left j)) (Y:=fun j=>Value.bool (b.left j)) 12 false rfl rfl rfl (nob R) (Hw _) (Hw _) rfl (by kernel_rfl))<|au aD<|au aD<|bf<|bf<|bf<|bf<|bf<|au aD<|au aD<|bf<|bf<|bf<|bf<|bf<|au aD<|au aD<|bf<|bf<|bf<|bf<|bf<|au aD<|au aD<|aC<|Wr<|aK aD<|⟨gN (Eq.symm (Bb c (fun h=>R (Ho.2 h.2.left)))),f⟩
 refine Lv aD (qY (n:=6) (ks:=List.replicate 6 none) (X:=fun j=>Value.bool (u.dF j)) (Y:=fun j=>Value.bool (b.dF j)) 12 false rfl rfl rfl (nob Q) (Hw _) (Hw _) rfl (by kernel_rfl))<|au aD<|au aD<|bf<|bf<|bf<|bf<|bf<|au aD<|au aD<|bf<|bf<|bf<|bf<|bf<|au aD<|au aD<|bf<|bf<|bf<|bf<|bf<|au aD<|au aD<|bf<|bf<|bf<|bf<|bf<|au aD<|au aD<|aC<|Wr<|aK aD<|⟨gN (Eq.symm (Bb c (fun h=>Q (Ho.2 h.2.dF)))),f⟩
end Go.Proofs.YtabjalhnkndjaaaGreatDoor
namespace Go.Proofs.YtabjalhnkndjaaaGreatDoor.Fx
open Go.RowKit
def Yl(w:World)(B:Nat)(E:TypeId)(a:Option Addr)(n c:Nat)(x:Nat->Value):Prop:=aY w B E 1 (.slice a n c) n x\/(n=4/\c=4 /\ ∃ g,a=some ⟨g,0,none⟩/\B<=g/\jM w g 0 4 x)
theorem jM.to(h:jM s b k m x)(e : ∀ j,j<m->x j=y j):jM s b k m y:=fun i a=>by rw[<- e i a]; exact h i a
theorem Yl.up{w w':World}{B:Nat}{E:TypeId}{a:Option Addr}{n c:Nat}{x:Nat->Value}(h:Yl w B E a n c x)(b:Below w.heap.size w w'):Yl w' B E a n c x:=by
 rcases h with h|⟨h1,h2,g,h3,h4,h5⟩
 ·exact .inl (h.up b)
 ·exact .inr ⟨h1,h2,g,h3,h4,h5.below b (h5.lt (by omega))⟩
instance {w w':World} {B:Nat} {E:TypeId} {a:Option Addr} {n c:Nat} {x:Nat->Value}:Rt.Tr w w' (Yl w B E a n c x) (Yl w' B E a n c x):=⟨fun b h=>h.up b⟩
theorem Yl.own(h:Yl s k E q m b x)(w:m≠4):aY s k E 1 (.slice q m b) m x:=h.resolve_right fun n=>w n.1
section
variable {P:Program} {n:Nat} {Q:kR} {f:Nat->Value} {w:World} {ops:Array Oper} {rest:List Oper} {o:Oper}
theorem L.auM{w0:World}{B:Nat}{J:Operand}(D:Region.wanted o (yf ops f)=true)(v:o.op = .call { callee := .builtin .append,args := #[N,J],argTypes := #[T,T] })(A:ev f N = .slice q k m)(F:ev f J = .slice (some ⟨b,j,none⟩) 1 U)
 (C:P.underlying T=some (.slice E)) (hi:(P.info? E).map (fun i=>(i.size,i.bytes))=some (1,1)) (G:((P.info? E).bind (·.zero)).map (·.cells.size)=some 1) (t:dF n o.dst=true)
 (h:Yl w B E q k m x) (hy:jM w b j (1*1) y) (h1 : ∀ H,H<1*1->(y H).oneCell'=true) (R:k<=100000000) (l:B<=w.heap.size) (p:Below B w0 w)
 (r : ∀ e c w',aY w' B E 1 (.slice e (k+1) c) (k+1) (gP x (k*1) y)->jk [E] w w'->Below B w0 w'->L P n ops Q rest (put f o.dst (.slice e (k+1) c)) w'):L P n ops Q (o::rest) f w:=by
 rcases h with h|⟨rfl,rfl,g,rfl,hg,hx⟩
 ·exact xX (B:=B) (s:=1) (bytes:=1) D v A F C hi G (by rfl) t h hy h1 (by decide) (by omega) (by omega) l fun g M w' d u K S=>r _ _ w' d (yc u h) (sO p u l (fun a I=>(h.ge I).1))
 exact L.appG (B:=B) (s:=1) (bytes:=1) D v A F C hi G (by rfl) t hx hy (by decide) (by decide) (by omega) (by omega) l fun O M w' _ d z=>r _ _ w' d (jk.jr z.bP) (z.below p l l)
end
end Go.Proofs.YtabjalhnkndjaaaGreatDoor.Fx
namespace Go.Proofs.YtabjalhnkndjaaaGreatDoor
open Go.Proofs.Tryz
open Fx hiding E9 Fa HY Jf Jk L R start
open Go.RowKit Rt
namespace Rt
def xV(g o:Nat):Nat->Value:=fun q => .slice (some ⟨g,o+6*q,none⟩) 6 6
theorem afy(a:j=b+6*(m+3)) : ∀ q,q<(m+3+1)*1->gP (xV k b) ((m+3)*1) (bJ x (0*1) 1 (fun _ => .slice (some ⟨k,j,none⟩) 6 6)) q=xV k b q:=fun q i=>by
 subst a;unfold gP;by_cases c:q<(m+3)*1
 ·rw[d_ c]
 ·have e:q=m+3:=by omega
  subst e;rw[b_ c]; unfold bJ; rw[d_ ⟨by omega,by omega⟩]; rfl
end Rt
theorem afz(g o:Nat)(w:World) :
 Calls prog 41 #[(pf g o)] w fun e w' => ∃ a c,e = .returned (.slice a 9 c)/\aY w' w.heap.size 113 1 (.slice a 9 c) 9 (xV g o)/\Below w.heap.size w w':=by
 refine bX func41 32 ?_;refine ay<|au (.slice none 0 0)<|aC<|aQ<|nP [0,1,2,3,4,5,6,7,8,9,10,11,12,13] [0,0,0,0,0,0,0,0,0,0,0,0,2,0] [(13,12,[12])] fun qN T iM => ?_;have C:=bL T (Below.refl w.heap.size w);refine aS (pf g o)<|aS (pf g o)<|aS (pf g o)<|Rp (.slice (some ⟨g,o,none⟩) (6) (6)) (fun M=>qB rfl rfl underlying64 (s:=1) (by kernel_rfl))<|aS (pf g o)<|aS (pf g o)<|aS (pf g (o+6))<|Rp (.slice (some ⟨g,o+6,none⟩) (6) (6)) (fun M=>qB rfl rfl underlying64 (s:=1) (by kernel_rfl))<|aS (pf g o)<|aS (pf g o)<|aS (pf g (o+12))<|Rp (.slice (some ⟨g,o+12,none⟩) (6) (6)) (fun M=>qB rfl rfl underlying64 (s:=1) (by kernel_rfl))<|mF<|uz (vs := [(0,.slice (some ⟨g,o,none⟩) (6) (6)),(1,.slice (some ⟨g,o+6,none⟩) (6) (6)),(2,.slice (some ⟨g,o+12,none⟩) (6) (6))]) (s:=1) (zc:=fun _ => .slice none 0 0) (y:=bJ (bJ (bJ (fun j => .slice none 0 0) (0*1) 1 (fun _ => .slice (some ⟨g,o,none⟩) (6) (6))) (1*1) 1 (fun _ => .slice (some ⟨g,o+6,none⟩) (6) (6))) (2*1) 1 (fun _ => .slice (some ⟨g,o+12,none⟩) (6) (6))) (by rfl) rfl rfl underlying110 (by kernel_rfl) (by rfl) (by rfl) (by kernel_rfl) (by rw[aT (off:=0*1) (s:=1) (y:=fun _ => .slice (some ⟨g,o,none⟩) (6) (6)) rfl (bG (by rfl)) (by rfl)]; rw[aT (off:=1*1) (s:=1) (y:=fun _ => .slice (some ⟨g,o+6,none⟩) (6) (6)) rfl (bG (by rfl)) (by rfl)]; rw[aT (off:=2*1) (s:=1) (y:=fun _ => .slice (some ⟨g,o+12,none⟩) (6) (6)) rfl (bG (by rfl)) (by rfl)]; rfl) rfl fun u w1 R H L z1 => ?_;have P:=bL L.bP C;have Y:=gQ R C.size;have vB:=H.lt;refine Ln ⟨L.bP,?_⟩;refine aS (dz u 3 3)<|dJ<|aQ<|aQ ?_;have Z:aY w1 w.heap.size 113 1 (dz u 3 3) 3 (xV g o):=aM.own (cap:=3) H Y (by omega) (by decide) (fun p W=>match p,W with|0,_=>rfl|1,_=>rfl|2,_=>rfl|p+3,h=>L_ h (by omega))
 refine Wl<|au (av 0)<|aC<|Wb<|Wo (fun f O => ∃ i:Nat,∃ b:Option Addr,∃ d:Nat,i<=6/\f 0=(pf g o)/\f 3 = .slice b (i+3) (d)/\f 18=av (i:Int)/\aY O w.heap.size 113 1 (.slice b (i+3) (d)) (i+3) (xV g o)/\Below w.heap.size w O) (fun f _=>(6-(intOf (f 18)).toNat)) ⟨0,(some ⟨u,0,none⟩),3,by omega,(by rfl),(by rfl),ic,Z,P⟩ ?_;rintro f1 w2 ⟨i,b,d,hi,F,G,l,A,n⟩;refine ay ?_;by_cases D:(i:Int)<6
 ·refine Lv aH (fK D (hx:=l))<|aC<|aQ<|aP<|Wk<|sN<|aQ<|Wb<|ay<|bA l<|au (av i)<|aC<|Wl<|bA G<|bA F<|au (av i)<|au (pf g o)<|au (pf g (o+18))<|Lv (pf g (6*i+o+18)) (jh 6 6)<|Lv (.slice (some ⟨g,6*i+o+18,none⟩) (6) (6)) (qB rfl rfl underlying64 (s:=1) (by kernel_rfl))<|uz (vs := [(0,.slice (some ⟨g,6*i+o+18,none⟩) (6) (6))]) (s:=1) (zc:=fun _ => .slice none 0 0) (y:=bJ (fun j => .slice none 0 0) (0*1) 1 (fun _ => .slice (some ⟨g,6*i+o+18,none⟩) (6) (6))) (by rfl) rfl rfl underlying110 (by kernel_rfl) (by rfl) (by rfl) (by kernel_rfl) (by rw[aT (off:=0*1) (s:=1) (y:=fun _ => .slice (some ⟨g,6*i+o+18,none⟩) (6) (6)) rfl (bG (by rfl)) (by rfl)]; rfl) rfl fun S w3 E I s3 z2 => ?_;have⟨J,r⟩:=fB s3.bP A n;have xw:=gQ E n.size;have abD:(.slice b (i+3) (d):Value).ownBlock≠some S:=by rw[E]; exact A.gW (A_ _)
  have zR:=I.lt;refine xX (B:=w.heap.size) (s:=1) (bytes:=24) (k:=i+3) (m:=1) (v := .slice b (i+3) (d)) (x:=xV g o) (by rfl) rfl rfl rfl underlying110 (by kernel_rfl) (by kernel_rfl) rfl rfl J I.aJ (fun j hj=>by unfold bJ; rw[d_ ⟨by omega,by omega⟩]; rfl) (by omega) (by omega) (by omega) r.size fun z t N V U vE hlt1 => ?_;have m6:aY N w.heap.size 113 1 (dz z (i+4) t) (i+4) (xV g o):=(V.congr (afy (by omega)));have Q:Below w.heap.size w N:=sO r U r.size (fun q X=>(J.ge X).1);refine au (dz z (i+4) t)<|Ln<|bS<|sN<|Wl<|Lv (av ((i:Int)+1)) (gu (hx:=l))<|au (av ((i:Int)+1))<|Ln ?_
  skip
  refine iA ⟨i+1,(some ⟨z,0,none⟩),t,by omega,F,(by rfl),ic,m6,Q⟩ ?_;show(6-(intOf (av ((i:Int)+1))).toNat)<_;simp only[l,intOf]; omega
 refine Lv aD (fM D (hx:=l)) (aC (aQ (aL (Wx (cZ (iC (dB (sN (ay (bA G (au (.slice b (i+3) (d)) (aC (Wr (aK (.slice b (i+3) (d)) (⟨b,d,by rw[show i+3=9 by omega],?_,n⟩)))))))))))))));have K:=A;rw[show i+3=9 by omega]at K; exact K
end Go.Proofs.YtabjalhnkndjaaaGreatDoor
namespace Go.Proofs.YtabjalhnkndjaaaGreatDoor
namespace PU
theorem and1(s:vo):(s &&& 1#32=1#32)<->s.getLsbD 0=true:=by
 constructor
 ·intro h;have:(s &&& 1#32).getLsbD 0=(1#32).getLsbD 0:=by rw[h]
  simpa using this
 intro h
 rcases XY s with h0|h1
 ·exfalso;have:(s &&& 1#32).getLsbD 0=(0#32).getLsbD 0:=by rw[h0]
  rw[BitVec.getLsbD_and,h]at this;exact L_ this (by decide)
 exact h1
def low(s:vo)(n:Nat):vo:=(s.setWidth n).setWidth 32
end PU
end Go.Proofs.YtabjalhnkndjaaaGreatDoor
namespace Go.Proofs.YtabjalhnkndjaaaGreatDoor
open Go.Proofs.Tryz
open Fx hiding E9 Fa HY Jf Jk L R start
open Go.RowKit PU
attribute [local go_sem] VF auh ajk aug aui aDs aDr aDt ajl aeF apm apn aDu
set_option maxHeartbeats 400000 in
theorem Tn(s:vo)(w:World) :
 Calls Tryz.prog 110 #[.int .u32 (I s)] w fun e w'=>e = .returned (.int .u32 (I (aeE 8 s)))/\w'=w:=by
 go_enter Tryz.func110,Tryz.ntmps110
 go_wp2
 go_loop [0,3] (fun v i => ∃ k:Nat,k<=8/\i = .int .i64 k/\v = .int .u32 (I (aeE k s))) (fun _ i=>8-(intOf i).toNat)
 case atStart=>exact⟨0,J_ _,rfl,rfl⟩
 case round =>
  obtain⟨k,hk,rfl,rfl⟩:=hrel;by_cases hlt:k<8
  ·go_wp2
   go_round
   case rel=>exact⟨k+1,by omega,by go_num,rfl⟩
   grind [intOf]
  ·obtain rfl:k=8:=by omega
   go_wp2
   go_ret
   simp_all
set_option maxHeartbeats 400000 in
theorem afA(s:vo)(a:Option Addr)(len cap:Nat)(bs:List UInt8)(w:World)
 (hlen:len<=140737488355328) (hbs:bs.length=len) (hr:Rd w a bs) :
  Calls Tryz.prog 77 #[.int .u32 (I s),.slice a len cap] w fun e w'=>e = .returned (.int .u32 (I (more s bs)))/\w'=w:=by
 have Hbs:Hid (bs.length=len):=hbs;clear hbs
 go_enter Tryz.func77,Tryz.ntmps77
 go_wp2
 go_loop [5,12] (fun v i => ∃ k:Nat,k<=len/\i = .int .i64 k/\v = .int .u32 (I ((bs.take k).foldl zO (~~~ s)))) (fun _ i=>len-(intOf i).toNat)
 case atStart=>grind
 case round =>
  obtain⟨k,hk,rfl,rfl⟩:=hrel;by_cases hlt:k<len
  ·have hk':k<bs.length:=(by grind [Hbs.out]);have HT:Hid ((bs.take (k+1)).foldl zO (~~~ s)=zO ((bs.take k).foldl zO (~~~ s)) bs[k]):=Jc _ _ _ _ hk';obtain⟨b,off,rfl,hc⟩:=auj hr _ hk';clear hr
   go_wp2_with (go_at_call 110; refine(Tn _ _).mono ?_; rintro e w' ⟨rfl,rfl⟩)
   go_round
   case rel=>exact⟨k+1,by omega,by go_num,by rw[HT.out]; rfl⟩
   grind [intOf]
  ·have hm:=aeG s bs k (by grind [Hbs.out]);have Hm:Hid (_=_):=hm;clear hm
   go_wp2
   go_ret
   simp_all [Hm.out]
set_option maxHeartbeats 400000 in
theorem afB(a:Option Addr)(len cap:Nat)(bs:List UInt8)(w:World)
 (hlen:len<=140737488355328) (hbs:Hid (bs.length=len)) (hr:Rd w a bs) :
  Calls Tryz.prog 44 #[.slice a len cap] w fun e w'=>e = .returned (.int .u32 (I (sum bs)))/\w'=w:=by
 go_enter Tryz.func44,Tryz.ntmps44
 go_wp2_with (go_at_call 77; refine(afA 0#32 a len cap bs _ hlen hbs.out hr).mono ?_; rintro e w' ⟨rfl,rfl⟩)
 go_ret
 exact⟨rfl,rfl⟩
theorem apI(h:Fx.iB s q m 1 (lJ u))(f:m=u.length):Rd s q u:=fun k d=>by
 subst f;obtain⟨b,g,e,c⟩:=h (by omega);refine⟨b,g,e,?_⟩;rw[c k (by omega)];unfold lJ J;rw[r_,o_ d]; rfl
theorem auN{a:Option Addr}{n c:Nat}(b:n=u.length)(g:n<=100000000)(h:Fx.iB s a n 1 (lJ u)) :
 Calls prog 44 #[.slice a n c] s fun e w'=>e = .returned (.int .u32 (I (sum u)))/\Below s.heap.size s w' :=
 (afB _ _ c _ _ (by omega) b.symm (apI h b)).mono fun e w' ⟨d,f⟩=>⟨d,by rw[f]; exact Below.refl _ _⟩
end Go.Proofs.YtabjalhnkndjaaaGreatDoor
namespace Go.Proofs.YtabjalhnkndjaaaGreatDoor
open Go.Proofs.Tryz
open Fx hiding E9 Fa HY Jf Jk L R start
open Go.RowKit Rt
namespace Fx
theorem aM.afC{off:Nat}(h:aM s m b x T)(g:off+k<=b)(e : ∀ j,j<k->x (off+j)=y j):iB s (some ⟨m,off,none⟩) k 1 y:=fun _=>⟨m,off,rfl,fun j a=>by
 have:=h.aJ (off+j) (by omega)
 simp_all⟩
end Fx
namespace Rt
def Q7(a b:Int):Nat->Int:=fun i=>if i=0 then a else b
def P8:List UInt8 := [76,83,78,80]
def P1(m:jA)(i:Nat):List UInt8:=P8++(EN m).take i
def hdB(m:jA):List UInt8:=P8++EN m++oC m.aF 6++be 2 m.ns.length
def P2(m:jA)(k:Nat):List UInt8:=hdB m++(m.ns.take k).flatMap ndB
def P3(m:jA)(k q:Nat):List UInt8:=P2 m k++(oC (Q7 (bY m.ns k).id (bY m.ns k).par) 2++oC (bY m.ns k).R (6*q))
def P4(m:jA)(k:Nat):List UInt8:=hdB m++m.ns.flatMap ndB++be 2 m.gs.length++(m.gs.take k).flatMap grB
theorem Z8(m:jA):(EN m).length=6:=by rfl
theorem Z9(i:jA)(h:m<6):(EN i)[m]? = some (ZV (i.dF m) (i.left m)):=by grind [EN]
theorem aDS(m:jA):P1 m 0=P8:=by rfl
theorem aDT(i:jA)(h:m<6):P1 i (m+1)=P1 i m ++ [ZV (i.dF m) (i.left m)]:=by grind [P1,List.take_add_one,Z9]
theorem VR(i:jA)(h:m<=6):(P1 i m).length=m+4:=by unfold P1; rw[E_,List.length_take,Z8]; show 4+min m 6=_; omega
theorem afD(hi:m<6)(i:a=((ZV (f.dF m) (f.left m)).toNat:Int)) : ∀ q,q<(m+4+1)*1->gP (lJ (P1 f m)) ((m+4)*1) (bJ x (0*1) 1 (fun _ => .int .u8 a)) q=lJ (P1 f (m+1)) q:=by
 grind [aDT,SX,VR]
theorem Tp(x:Nat->Int)(a:Nat) : ∀ b,oC x (a+b)=oC x a++oC (fun j=>x (a+j)) b
 | 0=>by rw[Nat.add_zero]; exact(List.append_nil _).symm
 | b+1=>by rw[<- Nat.add_assoc,zP,zP,Tp x a b,List.append_assoc]
theorem aDU(m:jA):P1 m 6++oC m.aF 6++be 2 m.ns.length=P2 m 0:=by rfl
theorem aDV(m:jA)(k:Nat):P2 m k++oC (Q7 (bY m.ns k).id (bY m.ns k).par) 2=P3 m k 0:=by rfl
theorem aDW(m:jA)(k q:Nat):P3 m k q++oC (fun j=>(bY m.ns k).R (6*q+j)) 6=P3 m k (q+1):=by grind [P3,Tp]
theorem afE(x:iK):oC (Q7 x.id x.par) 2++oC x.R 54=ndB x:=by rfl
theorem ajG(h:k<c.length):c.take (k+1)=c.take k ++ [bY c k]:=by
 grind [bY,List.take_add_one]
theorem aDX(m:jA)(h:k<m.ns.length):P3 m k 9=P2 m (k+1):=by
 grind [P3,P2,ajG,afE]
theorem Ym(x:iK):(ndB x).length=448:=by rw[<- afE,E_,xS,xS]
theorem ajH(g:jD):(grB g).length=33:=by rfl
theorem VT{a:Type}{f:a->List UInt8}{c:Nat}(h : ∀ x,(f x).length=c) : ∀(l:List a),(l.flatMap f).length=c*l.length
 | []=>by simp
 | x::l=>by rw[List.flatMap_cons,E_,h,VT h l,List.length_cons,Nat.mul_succ]; omega
theorem afF(m:jA):(hdB m).length=60:=by rfl
theorem VU(m:jA)(h:k<=m.ns.length):(P2 m k).length=60+448*k:=by grind [P2,afF,VT,Ym,List.length_take]
theorem apJ(q:jA)(h:k<=q.ns.length):(P3 q k m).length=76+448*k+48*m:=by grind [P3,VU,xS]
theorem aDY(m:jA):P2 m m.ns.length++be 2 m.gs.length=P4 m 0:=by grind [P2,P4]
theorem apK(m:jA)(h:k<=m.gs.length):(P4 m k).length=62+448*m.ns.length+33*k:=by grind [P4,afF,VT,Ym,EO,ajH,List.length_take]
theorem auO(m:jA):P4 m m.gs.length=Cy m:=by unfold P4; rw[List.take_length]; rfl
theorem auP(ha:wh a)(c:wh d) : ∀ i,i<2->0<=Q7 a d i/\Q7 a d i<=18446744073709551615:=fun i _=>by unfold Q7; split <;> assumption
theorem apL(h:wR f=false):mR f = []:=by grind [mR,vO]
theorem CP(h:vN f):mR f=ze f:=by grind [mR]
theorem F7(m:jA):(Cy m).length=62+448*m.ns.length+33*m.gs.length:=by grind [auO,apK]
theorem auQ(x:PU.vo):0<=PU.I x/\PU.I x<256^4:=by
 grind [PU.I,x.isLt]
end Rt
set_option maxRecDepth 20000 in
theorem afG(m:jA)(D:Option Addr)(A:Nat)(E:Option Addr)(F:Nat)(w:World)(z:JJ w m D A E F)(hg0:m.gs.length=0) :
 Calls prog 15 #[.agg (aA 20 (dS (dR m D A E F)))] w fun e w' => ∃ a c,e = .returned (.slice a (mR m).length c)/\aY w' w.heap.size 5 1 (.slice a (mR m).length c) (mR m).length (lJ (mR m))/\Below w.heap.size w w':=by
 have hn:=z.n;have hg:=z.g;have hl1:=z.l1;have hl2:=z.l2;refine bX func15 105 ?_;refine ay<|oq fun b w1 kV m1 s1 z1 => ?_;have T:=bL s1.bP (Below.refl w.heap.size w);have tJ:=iy kV;have vB:=m1.lt;refine au (.slice none 0 0)<|aC<|aQ<|ay<|Lv (.agg (aA 20 (dS (dR m D A E F)))) (dZ m1.aJ 0) ?_;by_cases Z:(wR m)=true
 ·refine dO (Od _ _ A _ F _ z.r.k z.l1 z.l2 (z.up T).n (z.up T).g) aH (by rw[Z]) ?_;intro w2 hb1;have⟨m2,b2⟩:=fB hb1 m1 T;refine au aD<|aC<|aL<|Wk<|sN<|aQ<|have hM:=sw.1 Z;have hnn:=hM.nn;have hgn:=hM.gn;Wl<|uz (vs := [(0,.int .u8 (76)),(1,.int .u8 (83)),(2,.int .u8 (78)),(3,.int .u8 (80))]) (s:=1) (zc:=rv .u8 (fun _=>0)) (y:=bJ (bJ (bJ (bJ (fun j=>(rv .u8 (fun _=>0)) (j % 1)) (0*1) 1 (fun _ => .int .u8 (76))) (1*1) 1 (fun _ => .int .u8 (83))) (2*1) 1 (fun _ => .int .u8 (78))) (3*1) 1 (fun _ => .int .u8 (80))) (by rfl) rfl rfl underlying62 (by kernel_rfl) (by rfl) (by rfl) (by kernel_rfl) (by rw[aT (off:=0*1) (s:=1) (y:=fun _ => .int .u8 (76)) rfl (bG)]; rw[aT (off:=1*1) (s:=1) (y:=fun _ => .int .u8 (83)) rfl (bG)]; rw[aT (off:=2*1) (s:=1) (y:=fun _ => .int .u8 (78)) rfl (bG)]; rw[aT (off:=3*1) (s:=1) (y:=fun _ => .int .u8 (80)) rfl (bG)]; rfl) rfl fun g2 w3 nN m3 s3 z2 =>have⟨m4,b3⟩:=fB s3.bP m2 b2;have xw:=gQ nN b2.size;have ala:=gD nN m2.lt;have zR:=m3.lt;Fx.L.mark (g:=g2) (m:=4) (q:=4) (c:=4) (y:=bJ (bJ (bJ (bJ (fun j=>(rv .u8 (fun _=>0)) (j % 1)) (0*1) 1 (fun _ => .int .u8 (76))) (1*1) 1 (fun _ => .int .u8 (83))) (2*1) 1 (fun _ => .int .u8 (78))) (3*1) 1 (fun _ => .int .u8 (80))) (by rfl) (by rfl) rfl rfl underlying62 underlying5 m3 fun w4 aDZ s4 => ?_;have gT:=gJ s4 m3.ty;have m5:=jU gT m4;have b4:=s4.below b3 b3.size (by omega);have m6:Yl w4 w.heap.size 5 (some ⟨g2,0,none⟩) 4 4 (lJ (P1 m 0)) := .inr ⟨rfl,rfl,g2,rfl,xw,aDZ.to (fun j O=>by rw[aDS]; exact(match j,O with|0,_=>rfl|1,_=>rfl|2,_=>rfl|3,_=>rfl|j+4,h=>L_ h (by omega)))⟩
  refine au (.slice (some ⟨g2,0,none⟩) (4) (4))<|aC<|aQ<|ay<|au (av 0)<|aC<|Wb<|Wo (fun f d => ∃ i:Nat,∃ l:Option Addr,∃ o:Nat,i<=6/\f 1 = .pointer (some ⟨b,0,none⟩)/\f 3 = .slice l (i+4) (o)/\f 17 = .int .i64 (i:Int)/\aM d b 20 (dS (dR m D A E F)) 43/\Yl d w.heap.size 5 l (i+4) o (lJ (P1 m i))/\Below w.heap.size w d) (fun f _=>(6-(intOf (f 17)).toNat)) ⟨0,(some ⟨g2,0,none⟩),4,by omega,(by rfl),(by rfl),(by first|rfl|exact K_ (Value.int .i64) (by omega)),m5,m6,b4⟩ ?_
  rintro f1 w5 ⟨i,l,o,hi,K,h2,N,M,m8,X⟩;refine ay ?_;by_cases c18:(i:Int)<6
  ·refine Lv aH (fK c18 (hx:=N))<|aC<|aQ<|aP<|Wk<|sN<|aQ<|Wb<|ay<|bA N<|au (av i)<|aC<|ay<|au (.int .u8 (0))<|aC<|aQ<|ay<|au (av i)<|Lv (.pointer (some ⟨b,0,none⟩)) (iO K 0)<|Lv (.pointer (some ⟨b,i,none⟩)) (jh 6 1) ?_;by_cases Q:(m.dF i)=true
   ·refine Lv aH (aR M.aJ i ((iX _).trans (K_ Value.bool Q)))<|aC<|aP<|Wl<|au (.int .u8 (0))<|Lv (.int .u8 (1)) (ajp rfl rfl rfl)<|au (.int .u8 (1))<|aC<|yh (fun f d => ∃ G:Int,G=((ZV (m.dF i) (m.left i)).toNat:Int)/\f 1 = .pointer (some ⟨b,0,none⟩)/\f 3 = .slice l (i+4) (o)/\f 17 = .int .i64 (i:Int)/\f 5 = .int .u8 (G)/\aM d b 20 (dS (dR m D A E F)) 43/\Yl d w.heap.size 5 l (i+4) o (lJ (P1 m i))/\Below w.heap.size w d) ?_ ?_
    ·refine ay<|au (av i)<|Lv (.pointer (some ⟨b,6,none⟩)) (iO K 6)<|Lv (.pointer (some ⟨b,i+6,none⟩)) (jh 6 1) ?_;by_cases J:(m.left i)=true
     ·refine Lv aH (aR M.aJ (i+6) ((fT _).trans (K_ Value.bool J)))<|aC<|aP<|Wl<|au (.int .u8 (1))<|Lv (.int .u8 (3)) (ajp rfl rfl rfl)<|au (.int .u8 (3))<|Ln<|nL ⟨3,(by rw[Q,J]; rfl),K,h2,(N.trans (by first|rfl|exact K_ (Value.int .i64) (by omega))),(by first|rfl|exact K_ (Value.int .u8) (by omega)),M,m8,X⟩
     rw[R_]at J;refine Lv aD (aR M.aJ (i+6) ((fT _).trans (K_ Value.bool J)))<|aC<|aL<|Wk<|nL ⟨1,(by rw[Q,J]; rfl),K,h2,(N.trans (by first|rfl|exact K_ (Value.int .i64) (by omega))),(by first|rfl|exact K_ (Value.int .u8) (by omega)),M,m8,X⟩
    rintro f2 w6 ⟨G,hcq,h4,h5,h6,h7,m9,m10,b6⟩;refine Wl<|bA h5<|bA h7<|uz (vs := [(0,.int .u8 (G))]) (s:=1) (zc:=rv .u8 (fun _=>0)) (y:=bJ (fun j=>(rv .u8 (fun _=>0)) (j % 1)) (0*1) 1 (fun _ => .int .u8 (G))) (by rfl) rfl rfl underlying62 (by kernel_rfl) (by rfl) (by rfl) (by kernel_rfl) (by rw[aT (off:=0*1) (s:=1) (y:=fun _ => .int .u8 (G)) rfl (bG)]; rfl) rfl fun g3 w7 nO m11 s5 z3 =>have⟨kY,m13,b7⟩:=iP s5.bP m9 m10 b6;have Gc:=gQ nO b6.size;have aoL:=gD nO m9.lt;have Gr:=m11.lt;Fx.L.auM (B:=w.heap.size) (k:=i+4) (x:=lJ (P1 m i)) (by rfl) rfl rfl rfl underlying62 (by kernel_rfl) (by kernel_rfl) rfl m13 m11.aJ (fun j O=>by unfold bJ; rw[d_ ⟨by omega,by omega⟩]; rfl) (by omega) b7.size b7 fun a1 sK w8 ho1 jC b8 =>have m14:=jU jC kY;have m15:Yl w8 w.heap.size 5 a1 (i+4+1) sK (lJ (P1 m (i+1))) := .inl (ho1.congr (afD (by omega) hcq));au (.slice a1 (i+4+1) (sK))<|Ln<|bS<|sN<|Wl<|Lv (av ((i:Int)+1)) (gu (hx:=h6))<|au (av ((i:Int)+1))<|Ln<|iA ⟨i+1,a1,sK,by omega,h4,(by rfl),(by first|rfl|exact K_ (Value.int .i64) (by omega)),m14,m15,b8⟩ ?_
    show(6-(intOf (.int .i64 ((i:Int)+1))).toNat)<_;simp only[N,intOf]; omega
   rw[R_]at Q;refine Lv aD (aR M.aJ i ((iX _).trans (K_ Value.bool Q)))<|aC<|aL<|Wk<|sN<|yh (fun f d => ∃ G:Int,G=((ZV (m.dF i) (m.left i)).toNat:Int)/\f 1 = .pointer (some ⟨b,0,none⟩)/\f 3 = .slice l (i+4) (o)/\f 17 = .int .i64 (i:Int)/\f 5 = .int .u8 (G)/\aM d b 20 (dS (dR m D A E F)) 43/\Yl d w.heap.size 5 l (i+4) o (lJ (P1 m i))/\Below w.heap.size w d) ?_ ?_
   ·refine ay<|au (av i)<|Lv (.pointer (some ⟨b,6,none⟩)) (iO K 6)<|Lv (.pointer (some ⟨b,i+6,none⟩)) (jh 6 1) ?_;by_cases J:(m.left i)=true
    ·refine Lv aH (aR M.aJ (i+6) ((fT _).trans (K_ Value.bool J)))<|aC<|aP<|Wl<|au (.int .u8 (0))<|Lv (.int .u8 (2)) (ajp rfl rfl rfl)<|au (.int .u8 (2))<|Ln<|nL ⟨2,(by rw[Q,J]; rfl),K,h2,(N.trans (by first|rfl|exact K_ (Value.int .i64) (by omega))),(by first|rfl|exact K_ (Value.int .u8) (by omega)),M,m8,X⟩
    rw[R_]at J;refine Lv aD (aR M.aJ (i+6) ((fT _).trans (K_ Value.bool J)))<|aC<|aL<|Wk<|nL ⟨0,(by rw[Q,J]; rfl),K,h2,(N.trans (by first|rfl|exact K_ (Value.int .i64) (by omega))),(by first|rfl|exact K_ (Value.int .u8) (by omega)),M,m8,X⟩
   rintro f3 w9 ⟨G,hcq,h8,h9,h10,h11,m16,m17,b9⟩;refine Wl<|bA h9<|bA h11<|uz (vs := [(0,.int .u8 (G))]) (s:=1) (zc:=rv .u8 (fun _=>0)) (y:=bJ (fun j=>(rv .u8 (fun _=>0)) (j % 1)) (0*1) 1 (fun _ => .int .u8 (G))) (by rfl) rfl rfl underlying62 (by kernel_rfl) (by rfl) (by rfl) (by kernel_rfl) (by rw[aT (off:=0*1) (s:=1) (y:=fun _ => .int .u8 (G)) rfl (bG)]; rfl) rfl fun g4 uE yL m18 s6 z4 =>have⟨m19,m20,b10⟩:=iP s6.bP m16 m17 b9;have Uw:=gQ yL b9.size;have aD0:=gD yL m16.lt;have TR:=m18.lt;Fx.L.auM (B:=w.heap.size) (k:=i+4) (x:=lJ (P1 m i)) (by rfl) rfl rfl rfl underlying62 (by kernel_rfl) (by kernel_rfl) rfl m20 m18.aJ (fun j O=>by unfold bJ; rw[d_ ⟨by omega,by omega⟩]; rfl) (by omega) b10.size b10 fun a2 cap2 Bg ho2 oz b11 =>have mG:=jU oz m19;have m22:Yl Bg w.heap.size 5 a2 (i+4+1) cap2 (lJ (P1 m (i+1))) := .inl (ho2.congr (afD (by omega) hcq));au (.slice a2 (i+4+1) (cap2))<|Ln<|bS<|sN<|Wl<|Lv (av ((i:Int)+1)) (gu (hx:=h10))<|au (av ((i:Int)+1))<|Ln<|iA ⟨i+1,a2,cap2,by omega,h8,(by rfl),(by first|rfl|exact K_ (Value.int .i64) (by omega)),mG,m22,b11⟩ ?_
   show(6-(intOf (.int .i64 ((i:Int)+1))).toNat)<_;simp only[N,intOf]; omega
  refine Lv aD (fM c18 (hx:=N))<|aC<|aQ<|aL<|Wx<|cZ<|iC<|dB<|sN<|aQ ?_;have m23:aY w5 w.heap.size 5 1 (.slice l (10) (o)) 10 (lJ (P1 m 6)):=by have t:=m8; rw[show i=6 by omega]at t; exact t.own (by decide)
  refine nP [0,1,2,4,5,6,3,7,8] [0,0,0,2,0,1,0,2,0] [(7,3,[3]),(8,3,[3]),(8,7,[7])] fun qN eX iM =>have⟨m24,mU,b12⟩:=iP eX M m23 X;eZ (h2.trans (K_ (fun q=>Value.slice l q o) (show i+4=10 by omega)))<|Rp (.pointer (some ⟨b,12,none⟩)) (fun _=>iO K 12)<|Rp (.slice (some ⟨b,12,none⟩) (6) (6)) (fun v1=>qB rfl rfl underlying28 (s:=1))<|Rp (.pointer (some ⟨b,18,none⟩)) (fun _=>iO K 18)<|lI (v := .slice D (m.ns.length) (A)) (by rfl) (by rfl) (mE _) (fun v1 hv1=>bE (x:=dS (dR m D A E F)) rfl rfl (by kernel_rfl) (m24.aJ.below hv1 (by have:=m24.lt; omega)) (i:=18) (by omega) (by omega) rfl)<|aS (av m.ns.length)<|mF<|lX (aeP _ _ o _ _ _ 6 _ _ (fun i hi=>z.r.k i hi) (by decide) (VR m (A_ _)).symm (by omega) mU.oI (aM.afC (off:=12) m24 (by decide) (fun j O=>fA (p:=j) _ O))) ?_;rintro V BD ⟨ab1,cb1,u,hm1,hb2⟩;refine⟨_,u,?_⟩;clear u;have s8:=Sb hb2;have⟨pO,b13⟩:=fB hb2 m24 b12;have pK:aY BD w.heap.size 5 1 (.slice ab1 (58) (cb1)) 58 (lJ (P1 m 6++oC m.aF 6)):=hm1.mono b12.size;refine Ln ⟨s8.bP,?_⟩;refine mF<|lX (alv ab1 58 cb1 (P1 m 6++oC m.aF 6) (m.ns.length:Int) 2 _ (by decide) ⟨by omega,by rw[show(256:Int)^2=65536 by decide]; omega⟩ (by rw[E_,VR m (A_ _),xS]) (by omega) pK.oI) ?_;rintro V Bh ⟨ab2,cb2,u,hm2,hb3⟩;refine⟨_,u,?_⟩;clear u;have s9:=Sb hb3;have⟨qb,b14⟩:=fB hb3 pO b13;have om:aY Bh w.heap.size 5 1 (.slice ab2 (60) (cb2)) 60 (lJ (P2 m 0)):=by have t:=hm2.mono b13.size; rw[aDU]at t; exact t
  refine Ln ⟨s9.bP,?_⟩;refine aS (.slice ab2 (60) (cb2))<|dJ<|aQ<|ay<|Lv (.pointer (some ⟨b,18,none⟩)) (iO K 18)<|Lv (.slice D (m.ns.length) (A)) (aR qb.aJ 18)<|au (av m.ns.length)<|au (av 0)<|aC<|Wb<|Wo (fun f d => ∃ k:Nat,∃ n:Nat,∃ l:Option Addr,∃ o:Nat,k<=m.ns.length/\n=60+448*k/\f 1 = .pointer (some ⟨b,0,none⟩)/\f 46 = .slice D (m.ns.length) (A)/\f 47 = .int .i64 (m.ns.length:Int)/\f 3 = .slice l (n) (o)/\f 48 = .int .i64 (k:Int)/\aM d b 20 (dS (dR m D A E F)) 43/\aY d w.heap.size 5 1 (.slice l (n) (o)) n (lJ (P2 m k))/\Below w.heap.size w d) (fun f _=>(m.ns.length-(intOf (f 48)).toNat)) ⟨0,60,ab2,cb2,J_ _,by omega,K,(by rfl),(by first|rfl|exact K_ (Value.int .i64) (by omega)),(by rfl),(by first|rfl|exact K_ (Value.int .i64) (by omega)),qb,om,b14⟩ ?_
  rintro f4 EU ⟨k,n,l,o,hk,hn9,h12,IV,TU,Zu,h16,qV,mY,W⟩;refine ay ?_;by_cases c49:(k:Int)<(m.ns.length:Int)
  ·refine Lv aH (fK c49 (hx:=h16) (hy:=TU))<|aC<|aQ<|aP<|Wk<|sN<|aQ<|Wb<|ay ?_;obtain⟨Y,VJ,eq1,auR⟩:=hn (by omega);have Tg:Y<w.heap.size:=auR.lt (by omega);have m32:=auR.below W Tg;have Pj:Y<EU.heap.size:=m32.lt (by omega);refine Lv (.pointer (some ⟨Y,56*k+VJ,none⟩)) (fC 56 (hx:=(IV.trans (K_ (fun q=>Value.slice q (m.ns.length) (A)) eq1))) (hi:=h16))<|Lv (.agg (aA 56 (iI (bY m.ns k)))) (dZ m32 (56*k) (fun jq hjq=>eF (k:=k) (by omega) hjq))<|oJ 56 zK0 fun C CW BG oD oP z5 => ?_;have⟨pz,pQ,rE,b16⟩:=jv oP.bP qV mY m32 W;have wX:=gQ BG W.size;have aD3:=gD BG qV.lt;have VL:Y≠C:=(by rw[BG]; exact u_ (m32.lt (by omega)));have YE:=oD.lt;refine dY oD 0 (h1:=(fun j _=>nM _ j)) fun w16 sD s11 z6 => ?_;have qM:aM w16 C 56 (iI (bY m.ns k)) 69:=aO sD;have tV:=gJ s11 oD.ty;have⟨qW,vk⟩:=lZ tV pz pQ;have pR:=rE.cK s11 (by omega);have b17:=s11.below b16 b16.size (by omega);refine aC<|ay<|bA Zu<|au (.pointer (some ⟨C,0,none⟩))<|Lv (aG ((bY m.ns k).id)) (aR qM.aJ 0)<|au (.pointer (some ⟨C,1,none⟩))<|Lv (aG ((bY m.ns k).par)) (aR qM.aJ 1)<|uz (vs := [(0,.int .u64 ((bY m.ns k).id)),(1,.int .u64 ((bY m.ns k).par))]) (s:=1) (zc:=rv .u64 (fun _=>0)) (y:=bJ (bJ (fun j=>(rv .u64 (fun _=>0)) (j % 1)) (0*1) 1 (fun _ => .int .u64 ((bY m.ns k).id))) (1*1) 1 (fun _ => .int .u64 ((bY m.ns k).par))) (by rfl) rfl rfl underlying45 (by kernel_rfl) (by rfl) (by rfl) (by kernel_rfl) (by rw[aT (off:=0*1) (s:=1) (y:=fun _ => .int .u64 ((bY m.ns k).id)) rfl (bG (by rfl)) (by rfl)]; rw[aT (off:=1*1) (s:=1) (y:=fun _ => .int .u64 ((bY m.ns k).par)) rfl (bG (by rfl)) (by rfl)]; rfl) rfl fun g6 Fg Mt qx s12 z7 => ?_;have⟨qy,uF,qc,b18⟩:=jv s12.bP qW vk qM b17;have lg6:=gQ Mt b17.size;have aD4:=gD Mt qW.lt;have afo:Y≠g6:=(by rw[Mt]; exact u_ (pR.lt (by omega)));have afp:=gD Mt qM.lt;have tg6:=qx.lt;refine lX (aeP l n o (P2 m k) (some ⟨g6,0,none⟩) 2 2 (Q7 (bY m.ns k).id (bY m.ns k).par) _ (auP (z.r.n _ (yP (by omega))).id (z.r.n _ (yP (by omega))).par) (by decide) (by rw[VU m (by omega)]; omega) (by omega) uF.oI (aM.afC (off:=0) qx (by decide) (fun j O=>match j,O with|0,_=>rfl|1,_=>rfl|j+2,h=>L_ h (by omega)))) ?_
   rintro V En ⟨ab3,cb3,u,hm3,hb4⟩;refine⟨_,u,?_⟩;clear u;have⟨xY,yj,b19⟩:=iP hb4 qy qc b18;have tK:aY En w.heap.size 5 1 (.slice ab3 (n+16) (cb3)) (n+16) (lJ (P3 m k 0)):=(by have t:=hm3.mono b18.size; rw[aDV]at t; exact t);refine au (.slice ab3 (n+16) (cb3))<|aC<|ay<|au (.pointer (some ⟨C,2,none⟩))<|lX (afz C 2 _) ?_;rintro V YF ⟨ra1,P,u,hm4,hb5⟩;refine⟨_,u,?_⟩;clear u;have⟨xA,wC,wD,b20⟩:=jv hb5 xY yj tK b19;have yG:aY YF w.heap.size 113 1 (.slice ra1 (9) (P)) 9 (xV C 2):=hm4.mono b19.size;refine au (av 9)<|au (av 0)<|aC<|Wb<|Wo (fun f d => ∃ q:Nat,∃ H:Nat,∃ S:Option Addr,∃ U:Nat,q<=9/\H=76+448*k+48*q/\f 1 = .pointer (some ⟨b,0,none⟩)/\f 7 = .pointer (some ⟨C,0,none⟩)/\f 46 = .slice D (m.ns.length) (A)/\f 47 = .int .i64 (m.ns.length:Int)/\f 48 = .int .i64 (k:Int)/\f 60 = .slice ra1 (9) (P)/\f 61 = .int .i64 (9)/\f 3 = .slice S (H) (U)/\f 62 = .int .i64 (q:Int)/\aM d b 20 (dS (dR m D A E F)) 43/\aM d C 56 (iI (bY m.ns k)) 69/\aY d w.heap.size 5 1 (.slice S (H) (U)) H (lJ (P3 m k q))/\aY d w.heap.size 113 1 (.slice ra1 (9) (P)) 9 (xV C 2)/\Below w.heap.size w d) (fun f _=>(9-(intOf (f 62)).toNat)) ⟨0,n+16,ab3,cb3,by omega,by omega,h12,(by rfl),IV,(TU.trans (by first|rfl|exact K_ (Value.int .i64) (by omega))),(h16.trans (by first|rfl|exact K_ (Value.int .i64) (by omega))),(by rfl),(by first|rfl|exact K_ (Value.int .i64) (by omega)),(by rfl),(by first|rfl|exact K_ (Value.int .i64) (by omega)),xA,wC,wD,yG,b20⟩ ?_
   rintro f5 TN ⟨q,H,S,U,hq,hn2,Xd,h18,h19,h20,h21,h22,h23,h24,h25,tL,uG,oo,sF,DW⟩;refine ay ?_;by_cases c63:(q:Int)<9
   ·refine Lv aH (fK c63 (hx:=h25) (hy:=h23))<|aC<|aQ<|aP<|Wk<|sN<|aQ<|Wb<|ay ?_;obtain⟨Gv,D6⟩:=sF.wz (by omega);have pE:aY TN w.heap.size 113 1 (.slice (some ⟨Gv,0,none⟩) 9 P) 9 (xV C 2):=sF.fE (K_ (fun q=>Value.slice q 9 P) D6);refine Lv (.pointer (some ⟨Gv,q,none⟩)) (fC 1 (hx:=(h22.trans (K_ (fun q=>Value.slice q (9) (P)) D6))) (hi:=h25))<|Lv (.slice (some ⟨C,2+6*q,none⟩) (6) (6)) (aR pE.aJ q)<|au (.slice (some ⟨C,2+6*q,none⟩) (6) (6))<|aC<|Wl<|bA h24<|au (.slice (some ⟨C,2+6*q,none⟩) (6) (6))<|lX (aps S H U (P3 m k q) (some ⟨C,2+6*q,none⟩) 6 6 (fun j=>(bY m.ns k).R (6*q+j)) _ (fun j O=>by have t:=qh (hM.nd k (by omega)).2.1 (6*q+j) (by omega); show 0<=(bY m.ns k).R (6*q+j)/\(bY m.ns k).R (6*q+j)<=18446744073709551615; omega) (by decide) (by rw[apJ m (by omega)]; omega) (by omega) oo.oI (aM.afC (off:=2+6*q) uG (by omega) (fun j O=>by rw[show 2+6*q+j=6*q+j+2 by omega]; exact Yi _ _))) ?_;rintro V WE ⟨ab4,cb4,u,hm5,hb6⟩;refine⟨_,u,?_⟩;clear u;have⟨m64,xB,sG,zl⟩:=jv hb6 tL uG pE DW;have vV:aY WE w.heap.size 5 1 (.slice ab4 (H+48) (cb4)) (H+48) (lJ (P3 m k (q+1))):=(by have t:=hm5.mono DW.size; rw[aDW]at t; exact t);refine au (.slice ab4 (H+48) (cb4))<|Ln<|bS<|sN<|Wl<|Lv (av ((q:Int)+1)) (gu (hx:=h25))<|au (av ((q:Int)+1))<|Ln ?_;have sH:aY WE w.heap.size 113 1 (.slice ra1 (9) (P)) 9 (xV C 2):=sG.fE (K_ (fun q=>Value.slice q 9 P) D6.symm);refine iA ⟨q+1,H+48,ab4,cb4,by omega,by omega,Xd,h18,h19,(h20.trans (by first|rfl|exact K_ (Value.int .i64) (by omega))),(h21.trans (by first|rfl|exact K_ (Value.int .i64) (by omega))),h22,(h23.trans (by first|rfl|exact K_ (Value.int .i64) (by omega))),(by rfl),(by first|rfl|exact K_ (Value.int .i64) (by omega)),m64,xB,vV,sH,zl⟩ ?_
    show(9-(intOf (.int .i64 ((q:Int)+1))).toNat)<_;simp only[h25,intOf]; omega
   refine Lv aD (fM c63 (hx:=h25) (hy:=h23))<|aC<|aQ<|aL<|Wx<|cZ<|iC<|dB<|bS<|sN ?_;have sI:aY TN w.heap.size 5 1 (.slice S (H) (U)) H (lJ (P2 m (k+1))):=(by have t:=oo; rw[show q=9 by omega,aDX m (by omega)]at t; exact t);refine Wl<|Lv (av ((k:Int)+1)) (gu (hx:=h21))<|au (av ((k:Int)+1))<|Ln<|iA ⟨k+1,H,S,U,by omega,by omega,Xd,h19,(h20.trans (by first|rfl|exact K_ (Value.int .i64) (by omega))),h24,(by first|rfl|exact K_ (Value.int .i64) (by omega)),tL,sI,DW⟩ ?_
   show(m.ns.length-(intOf (.int .i64 ((k:Int)+1))).toNat)<_;simp only[h16,intOf]; omega
  refine Lv aD (fM c49 (hx:=h16) (hy:=TU))<|aC<|aQ<|aL<|Wx<|cZ<|iC<|dB<|sN<|aQ ?_;have tN:aY EU w.heap.size 5 1 (.slice l (n) (o)) n (lJ (P2 m m.ns.length)):=by have t:=mY; rw[show k=m.ns.length by omega]at t; exact t
  refine Wl<|bA Zu<|Lv (.pointer (some ⟨b,19,none⟩)) (iO h12 19)<|Lv (.slice E (m.gs.length) (F)) (aR qV.aJ 19)<|au (av m.gs.length)<|lX (alv l n o (P2 m m.ns.length) (m.gs.length:Int) 2 _ (by decide) ⟨by omega,by rw[show(256:Int)^2=65536 by decide]; omega⟩ (by rw[VU m (by omega)]; omega) (by omega) tN.oI) ?_;rintro V YG ⟨ab5,cb5,u,hm6,M8⟩;refine⟨_,u,?_⟩;clear u;have⟨qg,Fh⟩:=fB M8 qV W;have tO:aY YG w.heap.size 5 1 (.slice ab5 (n+2) (cb5)) (n+2) (lJ (P4 m 0)):=by have t:=hm6.mono W.size; rw[aDY]at t; exact t
  refine au (.slice ab5 (n+2) (cb5))<|aC<|aQ<|ay<|Lv (.pointer (some ⟨b,19,none⟩)) (iO h12 19)<|Lv (.slice E (m.gs.length) (F)) (aR qg.aJ 19)<|au (av m.gs.length)<|au (av 0)<|aC<|Wb<|Wo (fun f d => ∃ k:Nat,∃ n:Nat,∃ l:Option Addr,∃ o:Nat,k<=m.gs.length/\n=62+448*m.ns.length+33*k/\f 1 = .pointer (some ⟨b,0,none⟩)/\f 77 = .slice E (m.gs.length) (F)/\f 78 = .int .i64 (m.gs.length:Int)/\f 3 = .slice l (n) (o)/\f 79 = .int .i64 (k:Int)/\aM d b 20 (dS (dR m D A E F)) 43/\aY d w.heap.size 5 1 (.slice l (n) (o)) n (lJ (P4 m k))/\Below w.heap.size w d) (fun f _=>(m.gs.length-(intOf (f 79)).toNat)) ⟨0,n+2,ab5,cb5,J_ _,by omega,h12,(by rfl),(by first|rfl|exact K_ (Value.int .i64) (by omega)),(by rfl),(by first|rfl|exact K_ (Value.int .i64) (by omega)),qg,tO,Fh⟩ ?_
  rintro f6 yB ⟨k,n,l,o,hk,hn9,h26,h27,h28,h29,h30,sS,vW,Gs⟩;refine ay<|Lv aD (DV (hx:=h30) (hy:=h28))<|aC<|aQ<|aL<|Wx<|cZ<|iC<|dB<|sN<|aQ ?_;have yR:aY yB w.heap.size 5 1 (.slice l (n) (o)) n (lJ (Cy m)):=by have t:=vW; rw[show k=m.gs.length by omega,auO]at t; exact t
  refine Wl<|bA h29<|bA h29<|dO (auN (a:=l) (n:=n) (c:=o) (by rw[F7]; omega) (by omega) yR.oI) _ rfl ?_;intro Ui YQ;have⟨wE,M7⟩:=fB YQ yR Gs;refine lX (aup l n o (Cy m) (PU.I (PU.sum (Cy m))) 4 _ (by decide) (auQ _) (by rw[F7]; omega) (by omega) wE.oI) ?_;rintro V w25 ⟨ab6,cb6,u,hm7,Zh⟩;refine⟨_,u,?_⟩;clear u;have TS:=bL Zh M7;have zh:aY w25 w.heap.size 5 1 (.slice ab6 (n+4) (cb6)) (n+4) (lJ (Cy m++be 4 (PU.I (PU.sum (Cy m))))):=hm7.mono M7.size;refine au (.slice ab6 (n+4) (cb6))<|aC<|Wr<|aK (.slice ab6 (n+4) (cb6)) ?_;rw[CP hM]; have l9:(ze m).length=n+4:=by unfold ze; rw[E_,F7,EO]; omega
  exact⟨ab6,cb6,by rw[l9],by rw[l9]; exact zh,TS⟩
 rw[R_]at Z;refine dO (Od m D A E F _ z.r.k z.l1 z.l2 (z.up T).n (z.up T).g) aD (by rw[Z]) ?_;intro YM RN;have UG:=bL RN T;refine au aH<|aC<|aP<|ay<|au (.slice none 0 0)<|aC<|Wr<|sR<|aK (.slice none 0 0) ?_;rw[apL Z]; exact⟨none,0,rfl,wm _ _ _ _ _,UG⟩
end Go.Proofs.YtabjalhnkndjaaaGreatDoor
namespace Go.Proofs.YtabjalhnkndjaaaGreatDoor
open Fx hiding E9 Fa HY Jf Jk L R start
open Go.RowKit Go
namespace Rt
theorem afH(x:UInt8):0<=(x.toNat:Int)/\(x.toNat:Int)<=255:=by grind [x.toNat_lt]
theorem Yn(l:List UInt8)(c:UInt8):pY (l ++ [c])=pY l*256+(c.toNat:Int):=by
 unfold pY; rw[List.foldl_append]; rfl
theorem P9(l:List UInt8):0<=pY l/\pY l<256^l.length:=by
 have h : ∀(k:Nat) (l:List UInt8),l.length=k->0<=pY l/\pY l<256^k:=by
  intro k
  induction k with
  | zero =>
    intro l a;rw[List.length_eq_zero_iff.1 a];exact⟨M_ _,by decide⟩
  | succ k ih =>
    intro l a;have b:l ≠ []:=fun e=>by simp_all
    obtain⟨r,c,rfl⟩ : ∃ r c,l=r ++ [c]:=⟨l.dropLast,l.getLast b,(List.dropLast_concat_getLast b).symm⟩;rw[E_]at a;have d:r.length=k:=(by simp_all);obtain⟨f,g⟩:=ih r d;have i:=afH c
    grind [Yn]
 simp_all
theorem Tq{l:List UInt8}(h:m<8):0<=pY (l.take m)/\pY (l.take m)<=72057594037927935:=by
 obtain⟨a,b⟩:=P9 (l.take m);refine⟨a,?_⟩
 have : ∀ n,n<=7->(256:Int)^n<=72057594037927936:=by decide
 grind
theorem afI(h:m<u.length):pY (u.take (m+1))=256*pY (u.take m)+((u.getD m 0).toNat:Int):=by
 grind [List.take_add_one,Yn]
theorem auT{a b:Int}(c:0<=a/\a<=72057594037927935)(d:0<=b/\b<=255):bits .or .u64 (256*a) b=256*a+b:=by
 obtain⟨n,rfl⟩:=Int.eq_ofNat_of_zero_le c.1;obtain⟨m,rfl⟩:=Int.eq_ofNat_of_zero_le d.1;have e:((BitVec.ofInt 64 (256*(n:Int)) ||| BitVec.ofInt 64 (m:Int)).toNat:Int)=256*(n:Int)+m:=by
  rw[BitVec.toNat_or,BitVec.toNat_ofInt,BitVec.toNat_ofInt];rw[show((256*(n:Int)) % ((2^64:Nat):Int)).toNat=256*n by omega,show((m:Int) % ((2^64:Nat):Int)).toNat=m by omega];have h:=Nat.shiftLeft_add_eq_or_of_lt (i:=8) (b:=m) (by omega) n
  grind [Nat.shiftLeft_eq]
 show IntKind.u64.wrap ((BitVec.ofInt 64 (256*(n:Int)) ||| BitVec.ofInt 64 (m:Int)).toNat:Int)=_;rw[e]; exact jO (by omega) rfl
theorem ajJ(h:m<u.length)(a:m<8):bits .or .u64 (256*pY (u.take m)) ((u.getD m 0).toNat:Int)=pY (u.take (m+1)):=by
 grind [auT,Tq,afH,afI]
theorem ajK(h:u.length<=8):0<=pY u/\pY u<=18446744073709551615:=by
 obtain⟨a,b⟩:=P9 u;have : ∀ n,n<=8->(256:Int)^n<=18446744073709551616:=by decide
 grind
theorem ajL : ∀ q,q<k*1->(fun q=>lJ u (m*1+q)) q=lJ ((u.drop m).take k) q:=fun q a=>by
 show lJ u (m*1+q)=_;unfold lJ;rw[r_,r_,List.getElem?_take,d_,List.getElem?_drop,Nat.mul_one]
theorem afJ(h:m+k<=u.length):((u.drop m).take k).length=k:=by
 grind
theorem afK(h:Fx.iB s q b 1 (fun w=>lJ u (m*1+w)))(e:b=k):Fx.iB s q k 1 (lJ ((u.drop m).take k)):=fun f=>by
 subst e;obtain⟨a,j,d,g⟩:=h f;exact⟨a,j,d,fun i c=>(g i c).trans (K_ some (ajL i c))⟩
end Rt
end Go.Proofs.YtabjalhnkndjaaaGreatDoor
