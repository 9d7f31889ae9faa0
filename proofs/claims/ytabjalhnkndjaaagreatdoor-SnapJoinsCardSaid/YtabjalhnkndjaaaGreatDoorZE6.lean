/-
  What the proof of the law rests on, part 6: walks of functions, and plain laws; each says its conditions itself.
-/
import Derived.Deep.Slices
import Derived.Lib.SmallJoins
import Derived.ChangeArms
import Derived.WalkKit
import Derived.Test.YtabjalhnkndjaaaGreatDoorZE5
set_option maxRecDepth 20000
set_option linter.unusedVariables false
set_option maxHeartbeats 1600000
set_option linter.unusedSimpArgs false
variable{m k b j:Nat}{c h U:Go.World}{X Y:Nat->Int}{a d e V:Int}{x y:Nat->Go.Value}{f:Go.Proofs.YtabjalhnkndjaaaGreatDoor.fO}{p:Nat->Bool}{q:List Nat}{s:Nat->Nat}{u:Option Go.Addr}{T K:Go.TypeId}{A:Bool}{H:(Nat->Int)->(Nat->Int) × Int}{M:List (Option Go.IntKind)}{N:List Int}{O:Go.Value}{o:List Go.Value}{z:Nat->Nat->Int}{E:Option Go.IntKind}
namespace Go.Proofs.YtabjalhnkndjaaaGreatDoor
open Fx hiding E9 Fa HY Jf Jk L R start
open Go.RowKit Go.Sort Rt
namespace Fx
def GrX(w w':World):Prop := ∃ q a,w'=grow (w.drewN q) a
theorem GrX.refl(w:World):GrX w w:=⟨0,#[],by rfl⟩
theorem GrX.alloc(a:GrX c h)(z : ∃ o,U=h.alloc o):GrX c U:=by
 obtain⟨q,w,rfl⟩:=a;obtain⟨o,rfl⟩:=z;exact⟨q,w ++ #[o],by rw[alloc_eq_grow,grow_grow]⟩
theorem GrX.drew(a:GrX c h)(z:U=h.drew):GrX c U:=by
 obtain⟨q,w,rfl⟩:=a;subst z;exact⟨q+1,w,rfl⟩
section
variable {P:Program} {n:Nat} {Q:kR} {f:Nat->Value} {w:World} {ops:Array Oper} {rest:List Oper} {o:Oper}
theorem L.ato{x:Operand}(c:Region.wanted o (yf ops f)=true)(e:o.op = .box T x)(hx:ev f x=O)(d:O.cells=aA m y)(a:dF n o.dst=true)
 (h : ∀ g w',g=w.heap.size->aM w' g m y T->eG w.heap.size w w'->(∃ o,w'=w.alloc o)->L P n ops Q rest (put f o.dst (.pointer (some ⟨g,0,none⟩))) w'):L P n ops Q (o::rest) f w:=by
 have b:(execOp (ev f) o).run P w = .ok (.value (.pointer (some ⟨w.heap.size,0,none⟩))) (w.alloc (.cells O.cells T)):=by
  simp_all [execOp,Instr.box,newVar,newRow]
 refine L.val c b a (h _ _ rfl ?_ (eG.alloc _ _) ⟨_,rfl⟩);show(w.alloc _).heap[w.heap.size]? = _
 grind [iY]
theorem L.aiC{s:Nat}{a:List (Nat × Operand)}{vs:List (Nat × Value)}{zc:Nat->Value}(u:Region.wanted o (yf ops f)=true)(l:o.op = .buildSlice T m a.toArray)(len:a.map (fun p=>(p.1,ev f p.2))=vs)(t:P.underlying T=some (.slice K))(H:(P.info? K).map (·.size)=some s)
 (C:Nat.ble (m*s) 16777216=true) (G:Nat.beq (m*s) 0=false) (v:((P.info? K).bind (·.zero)).map (·.cells)=some (aA s zc)) (F:Instr.fill (fun i=>some (i*s,s)) (aA (m*s) (fun j=>zc (j % s))) vs=some (aA (m*s) y)) (d:dF n o.dst=true)
 (h : ∀ g w',g=w.heap.size->aM w' g (m*s) y K->eG w.heap.size w w'->(∃ o,w'=w.alloc o)->L P n ops Q rest (put f o.dst (.slice (some ⟨g,0,none⟩) m m)) w'):L P n ops Q (o::rest) f w:=by
 obtain⟨z,x,J⟩:=Option.map_eq_some_iff.1 v;obtain⟨i,k,A⟩:=Option.bind_eq_some_iff.1 x;have r:i.size=s:=by simp_all
 have B : ¬ m*s>2^24:=by simp_all
 have b:m*s≠0:=fun e=>by simp_all
 have D:(Array.range (m*s)).map (fun j=>z.cells[j % z.cells.size]!)=aA (m*s) (fun j=>zc (j % s)):=by
  grind [zm,I_,jm,gG,getElem!_def]
 have q:(execOp (ev f) o).run P w = .ok (.value (.slice (some ⟨w.heap.size,0,none⟩) m m)) (w.alloc (.cells (aA (m*s) y) K)):=by
  unfold execOp;simp only[l,List.map_toArray,len];unfold Instr.buildSlice;have c : ¬ 16777216<m*s:=by omega
  simp[underlying,sizeOf,typeInfo,zeroValue,t,k,r,A,c]
  simp_all [newRow]
 refine L.val u q d (h _ _ rfl ?_ (eG.alloc _ _) ⟨_,rfl⟩);show(w.alloc _).heap[w.heap.size]? = _
 grind [iY]
end
section
variable {P:Program} {n:Nat} {ops:List Oper} {Q:kR}
theorem W.aoS(l:List Nat)(cs:List Nat)(S:World->World->Prop)(j : ∀ c,S c c)(id : ∀ a b w,S a b->S b w->S a w)(bR:List (Nat × Nat × List Nat))(t:P.follows .mixedOrders=true)(u:nT n ops=true)(f:Region.noSelect ops.toArray=true)(e:Af ops l=true)(v:Ae ops cs bR l=true)
 (h : ∀ g,Below c.heap.size c g->g=c.drew->R P n ops cs S Q l x g):W P n (.region m ops.toArray true) Q x c:=fun a o=>by
 refine wp_region_any t ?_;unfold Af at e;rw[Q_,Q_,Q_,List.all_eq_true,List.all_eq_true]at e;obtain⟨⟨⟨y,z⟩,p3⟩,p4⟩:=e;have s:=B_ y;have A:=h_ p3;have:=R.aqU (P:=P) (Q:=Q) (bR:=bR) u f j id ops.length l (Array.replicate ops.length false) a x c.drew s (by simp) (DT.start _ _ _) (fun i=>by
  have p : ∀ i,(Array.replicate ops.length false).getD i false=false:=fun i=>getD_replicate_false _ _;constructor
  ·intro d; exact⟨by simpa [Nat.blt_eq] using z i d,p i⟩
  ·intro d;obtain⟨k,q,r⟩:=List.any_eq_true.1 (p4 i (by simpa using d.1));rw[B_ r]; exact q) A (Ag v) o (h c.drew (Below.refl _ _).drew rfl)
 simpa using this
end
end Fx
namespace Rt
structure Qh where
 x:Nat->Int
 h:0<=x 1/\x 1<=18446744073709551615
def g0:Qh:=⟨fun _=>0,by decide⟩
instance:Inhabited Qh:=⟨g0⟩
def TW(x:Nat->Int):Qh:=if h:0<=x 1/\x 1<=18446744073709551615 then⟨x,h⟩else g0
def Sg(x:Qh):Int:=x.x 0*18446744073709551616+x.x 1
theorem alm(h:0<=X 1/\X 1<=18446744073709551615):(TW X).x=X:=by simp_all [TW]
def XJ(a b:Int):Int:=if a=0 then b else a
def Vq(a b:Int)(i:Nat):Int:=if i=0 then a else b
def orW(a b:Int):Nat->Value:=fun j => .int .i64 (Vq a b j)
section
variable {a b:Int} {i:Nat}
theorem aCA(d:i=0\/a=0)(c:Vq a b i=0):i+1=0\/a=0:=by
 grind [Vq]
theorem aCB(d:i=0\/a=0)(c:Vq a b i=0):i+1<2\/XJ a b=0:=by
 grind [Vq,XJ]
theorem aCC(d:i=0\/a=0)(c : ¬ Vq a b i=0):XJ a b=Vq a b i:=by
 grind [Vq,XJ]
theorem aCD(h:i<2\/XJ a b=0)(c : ¬ (i:Int)<2):XJ a b=0:=by
 omega
end
theorem aoT(x y:Qh):XJ (nu (x.x 0) (y.x 0)) (nu (x.x 1) (y.x 1))=nu (Sg x) (Sg y):=by
 grind [x.h,y.h,XJ,nu,Sg]
structure ZI(n:Nat)(S:Nat->Bool)(il:List Nat):Prop where
 nd:il.Nodup
 mem : ∀ i,i∈il<->(i<n/\S i=true)
theorem ZI.start(n:Nat):ZI n (fun _=>false) []:=⟨List.nodup_nil,fun i=>⟨fun h=>(nomatch h),fun h=>(nomatch h.2)⟩⟩
theorem ZI.step(h:ZI k p q)(hi:m<k)(l:p m=false):ZI k (aZ p m true) (q ++ [m]):=by
 have i:m ∉ q:=fun g=>by grind [h.mem]
 refine⟨List.nodup_append.2 ⟨h.nd,by simp,fun a d b f e => ?_⟩,fun j => ?_⟩
 ·simp_all
 rw[List.mem_append,List.mem_singleton,h.mem];show _<->(j<k/\(if j=m then true else p j)=true)
 grind
theorem ZI.len(h:ZI m p q):q.length<=m :=
 GQ m q.length (fun c=>q.getD c 0) (fun c d=>by
  have:q.getD c 0∈q:=by rw[r_,o_ d]; exact List.getElem_mem d
  exact((h.mem _).1 this).1) fun a b f g e=>by
  have e:=e;rw[r_,r_,o_ f,o_ g]at e;exact(List.getElem_inj h.nd).1 e
structure GrS(m:fO)(l:List Qh):Prop where
 mem : ∀ x,x∈l -> ∃ i,i<m.gn/\x.x=m.g i
 all : ∀ i,i<m.gn -> ∃ x,x∈l/\x.x=m.g i
 up:l.Pairwise fun x y=>Sg x<Sg y
theorem GrS.of{m:fO}{l:List Qh}(w:jV c b m.gn (fun i=>m.g i 0) (fun i=>m.g i 1) (yY m.g))(hi:ZI m.gn p q)(S : ∀ i,i<m.gn->p i=true)(j:l.Perm (q.map fun i=>TW (m.g i)))(k:l.Pairwise fun x y=>Sg x<=Sg y):GrS m l:=by
 have s : ∀ i,i<m.gn->(TW (m.g i)).x=m.g i:=fun i hi=>alm (w.ok hi).b;have r : ∀ i,i∈q<->i<m.gn:=fun i=>by grind [hi.mem]
 have d : ∀ x,x∈l -> ∃ i,i<m.gn/\x=TW (m.g i):=fun x n=>by
  grind
 have f:l.Nodup:=by
  rw[j.nodup_iff,List.nodup_iff_pairwise_ne,List.pairwise_map];refine(List.nodup_iff_pairwise_ne.1 hi.nd).imp_of_mem fun {a b} ha hb hne e=>hne ?_
  grind [w.inj]
 refine⟨fun x n => ?_,fun i o => ?_,?_⟩
 ·grind
 ·grind
 refine(k.and (List.nodup_iff_pairwise_ne.1 f)).imp_of_mem fun {a b} ha hb h => ?_
 grind [a.h,b.h,Sg,w.inj]
def J8(m:fO)(l:List Int)(k:Nat):Nat->Value:=mV (l.getD k 0) (m.T.par (l.getD k 0)) (Jw m (l.getD k 0))
def grQ(l:List Qh)(k:Nat):Nat->Value:=lQ (l.getD k g0).x
theorem Si : ∀ j,j<56->bJ (bJ (bJ x 0 1 (fun _ => .int .u64 a)) 1 1 (fun _ => .int .u64 d)) 2 54 (rv .i64 X) j=mV a d X j:=fun j id=>by
 unfold bJ mV
 rcases(show j=0\/j=1\/2<=j by omega)with rfl|rfl|h
 ·rfl
 ·rfl
 ·rw[d_,b_,b_]; rfl
theorem aiE(b:N.getD k 0=a)(c:f.T.par a=d)(l:Jw f a=X) : ∀ j,j<(k+1)*56->gP (dn 56 (J8 f N)) (k*56) (bJ x (0*56) 56 (bJ (bJ (bJ y 0 1 (fun _ => .int .u64 a)) 1 1 (fun _ => .int .u64 d)) 2 54 (rv .i64 X))) j=dn 56 (J8 f N) j:=fun j id =>
 (BL j id).trans (bZ (fun n _ q m=>by
  unfold wu;by_cases e:n=k
  ·subst e; rw[d_ rfl,Si q m]; unfold J8; rw[b,c,l]
  ·rw[b_ e]) j id)
theorem aiF : ∀ j,j<(q.length+1)*5->gP (dn 5 fun k=>lQ (z (q.getD k 0))) (q.length*5) (bJ x (0*5) 5 (lQ (z m))) j=dn 5 (fun k=>lQ (z ((q ++ [m]).getD k 0))) j:=fun j b =>
 (BL j b).trans (bZ (fun k c a _=>by
  unfold wu;by_cases e:k=q.length
  ·subst e; rw[d_ rfl]; simp[r_]
  ·rw[b_ e]; show lQ (z (q.getD k 0)) a=_; rw[r_,r_,List.getElem?_append_left (by omega)]) j b)
theorem aiG(d:jV c b f.gn (fun i=>f.g i 0) (fun i=>f.g i 1) (yY f.g))(hi:ZI f.gn p q) : ∀ j,j<(q.map fun i=>TW (f.g i)).length*5->dn 5 (fun k=>lQ (f.g (q.getD k 0))) j=dn 5 (grQ (q.map fun i=>TW (f.g i))) j:=fun j m =>
 bZ (n:=(q.map fun i=>TW (f.g i)).length) (fun k S a _=>by
  rw[List.length_map]at S;unfold grQ;have h:q.getD k 0∈q:=by rw[r_,o_ S]; exact List.getElem_mem S
  have e:((q.map fun i=>TW (f.g i)).getD k g0)=TW (f.g (q.getD k 0)):=by
   rw[r_,r_,o_ (by rw[List.length_map]; exact S),o_ S,List.getElem_map]; rfl
  rw[e,alm (d.ok ((hi.mem _).1 h).1).b]) j m
theorem ZJ(s:Bn)(a:Option Addr)(n c:Nat):dN (dS s) 18 (.slice a n c)=dS { s with na:=a,nn:=n,nc:=c }:=by
 grind [dN,dS]
theorem Vr(s:Bn)(a:Option Addr)(n c:Nat) : ∀ p,p<20->dN (dS s) 19 (.slice a n c) p=dS { s with ga:=a,gn:=n,gc:=c } p:=fun p b=>by
 unfold dN dS;by_cases e:p=19
 ·subst e; rw[d_ rfl,b_,b_,b_,b_]
 ·rw[b_ e]
  repeat' split
  all_goals first|rfl|omega
def MN(m:fO)(d:Option Addr)(f e:Nat)(a:Option Addr)(c b:Nat):Bn:=⟨m.dF,m.left,m.aF,d,f,e,a,c,b⟩
theorem aiH : ∀ j,j<1*56->(bJ y (0*56) 56 (bJ (bJ (bJ x 0 1 (fun _ => .int .u64 a)) 1 1 (fun _ => .int .u64 d)) 2 54 (rv .i64 X)) j).oneCell'=true:=fun j id=>by
 rw[show bJ y (0*56) 56 (bJ (bJ (bJ x 0 1 (fun _ => .int .u64 a)) 1 1 (fun _ => .int .u64 d)) 2 54 (rv .i64 X)) j=bJ (bJ (bJ x 0 1 (fun _ => .int .u64 a)) 1 1 (fun _ => .int .u64 d)) 2 54 (rv .i64 X) (j-0*56) by unfold bJ; rw[d_],Si _ (by omega)];exact zC _ _ _ _
theorem aiI : ∀ j,j<1*5->(bJ y (0*5) 5 (lQ X) j).oneCell'=true:=fun j a=>by
 unfold bJ; rw[d_]; exact Au X _
theorem aoU{cap:Nat}(d:jV U b f.gn (fun i=>f.g i 0) (fun i=>f.g i 1) (yY f.g))(hi:ZI f.gn p q)(e:k=q.length)(c:aY h j T 5 (.slice u k cap) k (dn 5 fun m=>lQ (f.g (q.getD m 0)))) :
 aY h j T 5 (.slice u (q.map fun i=>TW (f.g i)).length cap) (q.map fun i=>TW (f.g i)).length (dn 5 (grQ (q.map fun i=>TW (f.g i)))):=by
 grind [c.congr,aiG]
theorem aef(m:fO)(e : ∀ j,18<=j->x j = .slice none 0 0){x2:Nat->Value}(h1 : ∀ j,j<6->y j = .bool (m.dF j))(d : ∀ j,j<6->x2 j = .bool (m.left j)) : ∀ j,j<20->bJ (bJ (bJ x 0 6 y) 6 6 x2) 12 6 (rv .u64 m.aF) j=dS (MN m none 0 0 none 0 0) j:=fun j f=>by
 unfold bJ dS;by_cases a:j<6
 ·rw[b_,b_,d_,d_ a]; exact h1 _ (by omega)
 ·by_cases b:j<12
  ·rw[b_,d_,b_ a,d_ b]; exact d _ (by omega)
  ·by_cases c:j<18
   ·rw[d_,b_ a,b_ b,d_ c]; rfl
   ·rw[b_,b_,b_,b_ a,b_ b,b_ c,e j (by omega)];split <;> rfl
end Rt
structure StQ(w:World)(B:Nat)(m:fO)(s:Bn)(l:List Int)(gl:List Qh):Prop where
 dF:s.dF=m.dF
 left:s.left=m.left
 aF:s.aF=m.aF
 nn:s.nn=l.length
 gn:s.gn=gl.length
 ls:l.Pairwise (· < ·) /\ ∀ k,k∈l<->m.T.has k=true
 len:l.length<=32
 gs:GrS m gl
 glb:gl.length<=m.gn
 n:aY w B 69 56 (.slice s.na s.nn s.nc) s.nn (dn 56 (J8 m l))
 g:aY w B 96 5 (.slice s.ga s.gn s.gc) s.gn (dn 5 (grQ gl))
end Go.Proofs.YtabjalhnkndjaaaGreatDoor
namespace Go.Proofs.YtabjalhnkndjaaaGreatDoor
open Go.Proofs.Tryz
open Fx hiding E9 Fa HY Jf Jk L R start
open Go.RowKit Rt
theorem XK(n:Int)(w:World) :
 Calls prog 72 #[av n] w fun e w'=>e = .returned (.bool false)/\w'=w:=by
 refine bX func72 6 ?_;refine ay<|au aD<|aC<|ay<|au (av n)<|au (av n)<|Lv aD (kr rfl)<|au aD<|aC<|Wr<|aK aD<|⟨rfl,rfl⟩
theorem XL(a b:Int)(w:World) :
 Calls prog 35 #[av a,av b] w fun e w'=>e = .returned (av (nu a b))/\w'=w:=by
 refine bX func35 20 ?_;refine ay<|au (av 0)<|aC<|ay<|au (av a)<|mX (XK a _) _ rfl<|au aD<|aC<|ay<|au (av b)<|mX (XK b _) _ rfl<|au aD<|aC<|aQ<|ay<|au aD<|aC<|aL<|Wk<|sN<|aQ<|ay<|au aD<|aC<|aL<|Wk<|sN<|aQ<|ay<|au (av a)<|au (av b) ?_;by_cases c:a<b
 ·refine Lv aH (fK c)<|aC<|aP<|ay<|au (av (-1))<|aC<|Wr<|sR<|aK (av (-1))<|⟨by unfold nu; simp[c],rfl⟩
 refine Lv aD (fM c)<|aC<|aL<|Wk<|sN<|aQ<|ay<|au (av a)<|au (av b) ?_;by_cases d:b<a
 ·refine Lv aH (lK d)<|aC<|aP<|ay<|au (av 1)<|aC<|Wr<|sR<|aK (av 1)<|⟨by unfold nu; simp[c,d],rfl⟩
 refine Lv aD (lM d)<|aC<|aL<|Wk<|sN<|ay<|au (av 0)<|aC<|Wr<|aK (av 0)<|⟨by unfold nu; simp[c,d],rfl⟩
theorem XM(n:Int)(w:World) :
 Calls prog 73 #[aG n] w fun e w'=>e = .returned (.bool false)/\w'=w:=by
 refine bX func73 6 ?_;refine ay<|au aD<|aC<|ay<|au (aG n)<|au (aG n)<|Lv aD (kr rfl)<|au aD<|aC<|Wr<|aK aD<|⟨rfl,rfl⟩
theorem XO(a b:Int)(w:World) :
 Calls prog 36 #[aG a,aG b] w fun e w'=>e = .returned (av (nu a b))/\w'=w:=by
 refine bX func36 20 ?_;refine ay<|au (av 0)<|aC<|ay<|au (aG a)<|mX (XM a _) _ rfl<|au aD<|aC<|ay<|au (aG b)<|mX (XM b _) _ rfl<|au aD<|aC<|aQ<|ay<|au aD<|aC<|aL<|Wk<|sN<|aQ<|ay<|au aD<|aC<|aL<|Wk<|sN<|aQ<|ay<|au (aG a)<|au (aG b) ?_;by_cases c:a<b
 ·refine Lv aH (fK c)<|aC<|aP<|ay<|au (av (-1))<|aC<|Wr<|sR<|aK (av (-1)) ?_;exact⟨by unfold nu; simp[c],rfl⟩
 refine Lv aD (fM c)<|aC<|aL<|Wk<|sN<|aQ<|ay<|au (aG a)<|au (aG b) ?_;by_cases d:b<a
 ·refine Lv aH (lK d)<|aC<|aP<|ay<|au (av 1)<|aC<|Wr<|sR<|aK (av 1) ?_;exact⟨by unfold nu; simp[c,d],rfl⟩
 refine Lv aD (lM d)<|aC<|aL<|Wk<|sN<|ay<|au (av 0)<|aC<|Wr<|aK (av 0) ?_;exact⟨by unfold nu; simp[c,d],rfl⟩
theorem atq(a b:Int)(c:Nat)(w:World)(q:jM w c 0 2 (orW a b)) :
 Calls prog 34 #[dz c 2 2] w fun e w'=>e = .returned (av (XJ a b))/\w'=w:=by
 refine bX func34 18 ?_;refine ay<|au (av 0)<|aC<|ay<|au (av 0)<|aC<|aQ<|ay<|au (dz c 2 2)<|au (av 2)<|au (av 0)<|aC<|Wb<|Wo (fun f p => ∃ i:Nat,i<=2/\(i=0\/a=0)/\(i<2\/XJ a b=0)/\p=w/\f 3=av 0/\f 6=dz c 2 2/\f 7=av 2/\f 8=av (i:Int)/\jM p c 0 2 (orW a b)) (fun f _=>(2-intOf (f 8)).toNat) ⟨0,(by omega),(.inl rfl),(.inl (by decide)),rfl,ic,(by rfl),ic,ic,q⟩ ?_;rintro s u ⟨i,t,m,r,l,j,n,k,g,o⟩;refine ay ?_;by_cases h:(i:Int)<2
 ·refine Lv aH (fK h (hx:=g) (hy:=k))<|aC<|aQ<|aP<|Wk<|sN<|aQ<|Wb<|ay<|Lv (pf c i) (fC 1 (hx:=n) (hi:=g))<|Lv (av (Vq a b i)) (aR o i)<|au (av (Vq a b i))<|aC<|ay<|au (av (Vq a b i))<|bA j ?_;by_cases d:(Vq a b i)=0
  ·refine Lv aD (kr d)<|aC<|aL<|Wk<|bS<|sN<|Wl<|Lv (av ((i:Int)+1)) (gu (hx:=g))<|au (av ((i:Int)+1))<|Ln<|iA ⟨i+1,(by omega),(aCA m d),(aCB m d),l,(j.trans ic),n,(k.trans ic),ic,o⟩ ?_;show(2-intOf (av ((i:Int)+1))).toNat<_;simp only[g,intOf]; omega
  refine Lv aH (mO d)<|aC<|aP<|ay<|au (av (Vq a b i))<|au (av (Vq a b i))<|aC<|Wr<|bO<|sR<|oG<|bO<|sR<|aK (av (Vq a b i)) ?_;exact⟨by rw[aCC m d],l⟩
 refine Lv aD (fM h (hx:=g) (hy:=k))<|aC<|aQ<|aL<|Wx<|cZ<|iC<|dB<|sN<|ay<|bA j<|au (av 0)<|aC<|Wr<|aK (av 0) ?_;exact⟨by rw[aCD r h],l⟩
theorem Rt.aoV(h:aM c m 2 (bJ (bJ x (0*1) 1 (fun _=>av a)) (1*1) 1 (fun _=>av d)) T):jM c m 0 2 (orW a d):=(h.congr (y:=orW a d) fun j b=>by
 rcases(show j=0\/j=1 by omega)with rfl|rfl <;> rfl).aJ
theorem aoW(x y:Qh)(w:World) :
 Calls prog 33 #[.agg (aA 5 (lQ x.x)),.agg (aA 5 (lQ y.x))] w fun e w'=>e = .returned (av (nu (Sg x) (Sg y))) /\ ∃ q C,w'=Go.Sort.grow (w.drewN q) C:=by
 refine bX func33 17 ?_;refine ay<|Fx.L.ato (m:=5) (y:=lQ x.x) (by rfl) rfl rfl (bM _ _) rfl fun k U t d D H => ?_;have f:=bL D.bP (Below.refl w.heap.size w);have K:=iy t;have R:=d.lt;refine Fx.L.ato (m:=5) (y:=lQ y.x) (by rfl) rfl rfl (bM _ _) rfl fun l V g n E I => ?_;have⟨B,p⟩:=fB E.bP d f;have M:=gQ g f.size;have O:=gD g d.lt;have S:=n.lt;refine au (av 0)<|aC<|aQ ?_;refine W.aoS [0,2,5,7,1,3,6,8,4,9,10,11,12] [0,4,0,4,2,0,1,0,1,2,2,3,0] Mk mE Mk.trans (bR := [(4,1,[1]),(9,1,[4,1]),(10,1,[4,1]),(11,1,[10,4,1]),(4,3,[3]),(9,3,[4,3]),(10,3,[4,3]),(11,3,[10,4,3]),(11,6,[9,6]),(11,8,[9,8]),(9,4,[4]),(10,4,[4]),(11,4,[10,4]),(12,4,[4]),(10,9,[9]),(11,9,[9]),(12,9,[9]),(11,10,[10]),(12,10,[10]),(12,11,[11])]) (by kernel_rfl) (by kernel_rfl) (by kernel_rfl) (by kernel_rfl) (by kernel_rfl) fun Y z A => ?_;have⟨a,b,r⟩:=iP z B n p;refine aS (pt k)<|aS (pt l)<|aS (pf k 1)<|aS (pf l 1)<|Rs (av (x.x 0)) (aR a.aJ 0) ?_;refine Rs (av (y.x 0)) (aR b.aJ 0) ?_;refine lI (v:=aG (x.x 1)) (by rfl) (by rfl) (mE _) (fun G c=>bE (x:=lQ x.x) rfl rfl (by kernel_rfl) (a.aJ.below c (by have:=a.lt; omega)) (i:=1) (by omega) (by omega) rfl) ?_;refine lI (v:=aG (y.x 1)) (by rfl) (by rfl) (mE _) (fun G c=>bE (x:=lQ y.x) rfl rfl (by kernel_rfl) (b.aJ.below c (by have:=b.lt; omega)) (i:=1) (by omega) (by omega) rfl) ?_;refine mF (mX (XL (x.x 0) (y.x 0) _) _ rfl (Ln ⟨Below.refl _ _,?_⟩));refine mF (mX (XO (x.x 1) (y.x 1) _) _ rfl (Ln ⟨Below.refl _ _,?_⟩));refine mF<|Fx.L.aiC (vs := [(0,av (nu (x.x 0) (y.x 0))),(1,av (nu (x.x 1) (y.x 1)))]) (s:=1) (zc:=rv .i64 (fun _=>0)) (y:=bJ (bJ (fun j=>(rv .i64 (fun _=>0)) (j % 1)) (0*1) 1 (fun _=>av (nu (x.x 0) (y.x 0)))) (1*1) 1 (fun _=>av (nu (x.x 1) (y.x 1)))) (by rfl) rfl rfl underlying155 (by kernel_rfl) (by rfl) (by rfl) (by kernel_rfl) (by rw[aT (off:=0*1) (s:=1) (y:=fun _=>av (nu (x.x 0) (y.x 0))) rfl (bG (by rfl)) (by rfl)]; rw[aT (off:=1*1) (s:=1) (y:=fun _=>av (nu (x.x 1) (y.x 1))) rfl (bG (by rfl)) (by rfl)]; rfl) rfl fun u X h o F J => ?_;have N:=gQ h r.size;have⟨P,Q⟩:=oM h a.lt b.lt;have T:=o.lt;refine Ln ⟨F.bP,?_⟩;refine jP<|mX (atq (nu (x.x 0) (y.x 0)) (nu (x.x 1) (y.x 1)) u _ (aoV o)) _ rfl<|Ln<|aS (av (XJ (nu (x.x 0) (y.x 0)) (nu (x.x 1) (y.x 1))))<|dJ<|Wr<|aK (av (XJ (nu (x.x 0) (y.x 0)) (nu (x.x 1) (y.x 1)))) ?_;exact⟨by rw[<- aoT],(((((GrX.refl w).alloc H).alloc I).drew A).alloc J)⟩
theorem aoX{l:List Qh}(h:aY c k 96 5 (.slice u l.length m) l.length (dn 5 (grQ l)))(g:l.length<=1000000) :
 Calls prog 32 #[.slice u l.length m,.func (.func 33) #[] #[]] c fun e w'=>e = .returned (.tuple #[]) /\ ∃ b:List Qh,b.Perm l/\b.Pairwise (fun x y=>Sg x<=Sg y)/\aY w' k 96 5 (.slice u l.length m) l.length (dn 5 (grQ b))/\(∀ cap,cap<c.heap.size->(Value.slice u l.length m).ownBlock≠some cap->w'.heap[cap]? = c.heap[cap]?)/\jk [96] c w'/\Below k c w':=by
 have d:=h
 have:=aec atn (fun w c=>enters_of func33 (by kernel_rfl) rfl w c) (by decide) Tryz.isAgg96 Tryz.sizeOf96 (enc:=fun x:Qh=>lQ x.x) (e0:=g0) (ky:=Sg) (fun x j _=>Au x.x j) d
  (by intro f x y; refine(aoW x y f).mono fun e w' h => ?_; exact h) (by omega)
 exact this
theorem aiJ(l:jV U b f.gn (fun i=>f.g i 0) (fun i=>f.g i 1) (yY f.g))(hi:ZI f.gn p q)(e:m=q.length)(n:aY h j 96 5 (.slice u m k) m (dn 5 fun d=>lQ (f.g (q.getD d 0))))(a:m<=1000000) :
 Calls prog 32 #[.slice u m k,.func (.func 33) #[] #[]] h fun e w'=>e = .returned (.tuple #[]) /\ ∃ c:List Qh,c.Perm (q.map fun i=>TW (f.g i))/\c.Pairwise (fun x y=>Sg x<=Sg y)/\aY w' j 96 5 (.slice u m k) m (dn 5 (grQ c))/\(∀ d,d<h.heap.size->(Value.slice u m k).ownBlock≠some d->w'.heap[d]? = h.heap[d]?)/\jk [96] h w'/\Below j h w':=by
 have w:(q.map fun i=>TW (f.g i)).length=m:=by rw[List.length_map]; exact e.symm
 have cap:=aoX (aoU l hi e n) (by rw[w]; omega);rw[w]at cap;exact cap
set_option maxHeartbeats 1000000 in
theorem aiK(m:fO)(lp B:Nat)(w:World)(h:pF w B lp m)(hgn:m.gn<=900000) :
 Calls prog 12 #[(pt lp)] w fun e w' => ∃ s l gl,e = .returned (.agg (aA 20 (dS s)))/\StQ w' w.heap.size m s l gl/\Below w.heap.size w w':=by
 have hC:=h.c;have hT:=h.t;have hP:=h.p;have hR:=h.r;have hG:=h.g;have hA:=h.a;have hN:=h.ne;have lC:=h.c.lt;have lT:=h.t.lt;have lP:=h.p.lt;have lR:=h.r.lt;have lG:=h.g.lt;have lA:=h.a.lt;refine bX func12 72 ?_;refine ay<|DR (m:=20) (y:=fun d=>if d<12 then .bool false else if d<18 then aG 0 else .slice none 0 0) (by rfl) rfl (by kernel_rfl) rfl fun C w1 kV m1 s1 z1 => ?_;have⟨m2,m3,m4,m5,m6,m7,b1⟩:=kU s1.bP hC hT hP hR hG hA (Below.refl w.heap.size w);have tJ:=iy kV;have⟨rJ,Ed,Bo,FU,DX⟩:=Du kV hC.lt hP.lt hR.lt hG.lt hA.lt;have vB:=m1.lt;refine aC<|aQ<|ay<|au (pt lp)<|Lv aD (CU rfl rfl rfl (by kernel_rfl))<|aC<|aL<|Wk<|sN<|aQ ?_;refine Wt 13 (by kernel_rfl) (by kernel_rfl) fun qN eX iM => ?_;have⟨m8,m9,m10,m11,kY,m13,m14,b2⟩:=lY eX m2 m3 m4 m5 m6 m7 m1 b1;refine Oy (pt lp)<|Oy (pt lp)<|Oy (pt lp)<|yx (.agg (aA 6 (fun j => .bool (m.dF j)))) (dZ m8.aJ 0 (fun j I=>by rw[G_]; exact KL I))<|Oy (pt lp)<|Oy (pt lp)<|Oy (pf lp 6)<|yx (.agg (aA 6 (fun j => .bool (m.left j)))) (dZ m8.aJ 6 (fun j I=>KM (p:=j) I (by omega)))<|Oy (pt lp)<|Oy (pt lp)<|Oy (pf lp 12)<|yx (.agg (aA 6 (rv .u64 m.aF))) (dZ m8.aJ 12 (fun j I=>Dk (p:=j) (by omega) (by omega)))<|Oy (.agg (aA 20 (bJ (bJ (bJ zP0 0 6 (fun j => .bool (m.dF j))) 6 6 (fun j => .bool (m.left j))) 12 6 (rv .u64 m.aF))))<|St.nil ?_;refine dY m14 0 (h1:=(cu (cu (cu (fun jq _=>by show(zP0 jq).oneCell'=true; simp only[zP0]; repeat (first|rfl|split)) (fun _ _=>rfl)) (fun _ _=>rfl)) (fun _ _=>rfl))) fun U m15 s3 z2 => ?_
 have m16:aM U C 20 (bJ (bJ (bJ zP0 0 6 (fun j => .bool (m.dF j))) 6 6 (fun j => .bool (m.left j))) 12 6 (rv .u64 m.aF)) 43:=aO m15;have m17:aM U C 20 (dS (MN m none 0 0 none 0 0)) 43:=m16.congr (aef m (fun j I=>by show(if j<12 then _ else if j<18 then _ else _)=_; rw[b_ (by omega),b_ (by omega)]) (fun _ _=>rfl) (fun _ _=>rfl));have gT:=gJ s3 m14.ty;have⟨m18,m19,m20,mG,m22,m23⟩:=YD gT m8 m9 m10 m11 kY m13;have b3:=s3.below b2 b2.size (by omega);refine aC<|aQ<|ay<|au (pt lp)<|au (pt lp)<|au (pf lp 18)<|Lv (pt m.tp) (aR m18.aJ 18)<|lX (adi m19) ?_;rintro e9 w3 ⟨la1,M,b,he,m24,hq1,asZ,hb1⟩;refine⟨_,he,?_⟩;clear he;have⟨mU,pK,pO,om,qb,qV,mY,b4⟩:=lY hb1 m18 m19 m20 mG m22 m23 m17 b3;refine au (av b.length)<|au (av 0)<|aC<|Wb ?_;have m32:aY w3 w.heap.size 69 56 (.slice none 0 0) 0 (dn 56 (J8 m b)):=wm _ _ _ _ _;have kll:=asZ;refine Wo (fun f u => ∃ i:Nat,∃ D:Option Addr,∃ E:Nat,i<=b.length/\f 0=(pt lp)/\f 2=(pt C)/\f 27 = .slice la1 (b.length) (M)/\f 28=av (b.length:Int)/\f 29=av (i:Int)/\aM u lp 29 (zN m) 84/\xM u B m.tp m.mb m.T/\Mp u m.pb m.T.n m.T.x (I7 m.T)/\Mp u m.rb m.T.n m.T.x (fP m.R)/\jV u m.gb m.gn (fun i=>m.g i 0) (fun i=>m.g i 1) (yY m.g)/\jV u m.ab m.an m.ao m.ar I8/\aY u U.heap.size 26 1 (.slice la1 (b.length) (M)) b.length (BH b)/\aM u C 20 (dS (MN m D i E none 0 0)) 43/\aY u w.heap.size 69 56 (.slice D (i) (E)) i (dn 56 (J8 m b))/\Below w.heap.size w u) (fun f _=>((b.length:Int)-intOf (f 29)).toNat) ⟨0,none,0,(by omega),(by rfl),(by rfl),(by rfl),ic,ic,mU,pK,pO,om,qb,qV,m24,mY,m32,b4⟩ ?_;rintro f1 w4 ⟨i,D,E,hi,O,h2,h3,h4,P,oD,pz,pQ,rE,sD,qM,qW,vk,pR,b5⟩;refine ay ?_;by_cases c30:(i:Int)<(b.length:Int)
 ·refine Lv aH (fK c30 (hx:=P) (hy:=h4))<|aC<|aQ<|aP<|Wk<|sN<|aQ<|Wb<|ay ?_;obtain⟨Gv,eq1⟩:=qW.wz (by omega);have qx:aY w4 U.heap.size 26 1 (dz Gv b.length M) b.length (BH b):=qW.fE (K_ (fun q=>Value.slice q b.length M) eq1);refine Lv (pf Gv i) (fC 1 (hx:=(h3.trans (K_ (fun q=>Value.slice q (b.length) (M)) eq1))) (hi:=P))<|Lv (aG (b.getD i 0)) (aR qx.aJ i)<|au (aG (b.getD i 0))<|aC ?_;obtain⟨H,hjz,aa⟩:=ji ((hq1.2 _).1 (Cm (show i<b.length by omega) rfl));have ejx:Jw m (b.getD i 0)=m.R H:=by unfold Jw fO.idx; rw[rY h.t.uU.inj hjz aa]
  have ejp:m.T.par (b.getD i 0)=m.T.p H:=FM h.t.uU.inj hjz aa;refine W.nC [0,2,3,4,5,7,9,10,11,13,1,6,8,12,14,15,16,17,18,19] [0,1,0,0,0,0,4,0,4,0,0,0,4,0,4,0,2,2,0,3] (jk [69]) vS Fx.jk.trans (bR := [(19,1,[1]),(16,6,[15,8,6]),(17,6,[16,15,8,6]),(19,6,[6]),(16,8,[15,8]),(17,8,[16,15,8]),(19,8,[8]),(16,12,[15,14,12]),(17,12,[16,15,14,12]),(19,12,[12]),(16,14,[15,14]),(17,14,[16,15,14]),(19,14,[14]),(17,16,[16]),(18,16,[16]),(19,16,[16]),(18,17,[17]),(19,17,[17])]) (by kernel_rfl) (by kernel_rfl) (by kernel_rfl) (by kernel_rfl) (by kernel_rfl) fun Fu iZ rM => ?_;have⟨qy,uF,sQ,qc,tK,xY,uN,yj,Ai,b6⟩:=vT iZ oD pz pQ rE sD qM vk pR qx b5;refine Rp (pf C 18) (fun _=>iO h2 18)<|aS (aG (b.getD i 0))<|eZ O<|aS (pt lp)<|aS (pf lp 19)<|aS (aG (b.getD i 0))<|eZ O<|aS (pt lp)<|aS (pf lp 20)<|aS (aG (b.getD i 0))<|lI (v := .slice D (i) (E)) (by rfl) (by rfl) (vS _) (fun v1 hv1=>bE (x:=dS (MN m D i E none 0 0)) rfl rfl (by kernel_rfl) (uN.nA hv1 (by decide)).aJ (i:=18) (by omega) (by omega) rfl) ?_;refine Rs (.map (some m.pb)) (aR qy.aJ 19) ?_;refine Rs (aG (m.T.p H)) (Df (z:=aG 0) rfl rfl rfl sQ underlying78 underlying26 (by rfl) hjz aa rfl) ?_;refine Rs (.map (some m.rb)) (aR qy.aJ 20) ?_;refine Rs (.agg (aA 54 (rv .i64 (m.R H)))) (Df (z := .agg (aA 54 (rv .i64 (fun _=>0)))) rfl rfl rfl qc underlying79 underlying26 (by kernel_rfl) hjz aa rfl) ?_;refine aS (.agg (aA 56 (bJ (bJ (bJ zJ0 0 1 (fun _=>aG (b.getD i 0))) 1 1 (fun _=>aG (m.T.p H))) 2 54 (rv .i64 (m.R H)))))<|mF<|uz (vs := [(0,.agg (aA 56 (bJ (bJ (bJ zJ0 0 1 (fun _=>aG (b.getD i 0))) 1 1 (fun _=>aG (m.T.p H))) 2 54 (rv .i64 (m.R H)))))]) (s:=56) (zc:=fun d=>if d<2 then aG 0 else av 0) (y:=bJ (fun j=>zJ0 (j % 56)) (0*56) 56 (bJ (bJ (bJ zJ0 0 1 (fun _=>aG (b.getD i 0))) 1 1 (fun _=>aG (m.T.p H))) 2 54 (rv .i64 (m.R H)))) (by rfl) rfl rfl underlying40 (by kernel_rfl) (by rfl) (by rfl) (by kernel_rfl) (by rw[aT (off:=0*56) (s:=56) (y:=bJ (bJ (bJ zJ0 0 1 (fun _=>aG (b.getD i 0))) 1 1 (fun _=>aG (m.T.p H))) 2 54 (rv .i64 (m.R H))) rfl (bM _ _) (by rfl)]; rfl) rfl fun g2 w5 Y yG s6 z3 => ?_;have⟨xA,yH,wC,vU,wD,tL,uG,oo,sF,b7⟩:=vT s6.bP qy uF sQ qc tK xY uN yj Ai b6;have xw:=gQ Y b6.size;have⟨aCE,aCF,aCG,aCH,aCI,aCJ⟩:=J3 Y qy.lt sQ.lt qc.lt tK.lt xY.lt uN.lt;have aCK:(.slice D (i) (E):Value).ownBlock≠some g2:=by rw[Y]; exact yj.gW (A_ _)
  have aCL:=gD Y Ai.lt;have zR:=yG.lt;refine Ln ⟨Fx.jk.jr s6.bP,?_⟩;refine mF<|xX (B:=w.heap.size) (s:=56) (bytes:=448) (k:=i) (m:=1) (v := .slice D (i) (E)) (x:=dn 56 (J8 m b)) (by rfl) rfl rfl rfl underlying40 (by kernel_rfl) (by kernel_rfl) rfl rfl oo yG.aJ aiH (by omega) (by omega) (by omega) b7.size fun g3 V w6 ho1 hg1 vE hlt1 => ?_;have jC:=yc hg1 oo;have⟨vV,m64,xB,sG,sH,sI,tN,tO⟩:=QE jC xA yH wC vU wD tL uG sF;have pE:aY w6 w.heap.size 69 56 (dz g3 (i+1) V) (i+1) (dn 56 (J8 m b)):=(ho1.congr (fun j I=>aiE rfl ejp ejx j I));have b8:Below w.heap.size w w6:=sO b7 hg1 b7.size (fun q hq=>(oo.ge hq).1);refine Ln ⟨jC,?_⟩;refine Rp (pf C 18) (fun _=>iO h2 18)<|jP<|jf tN 18 (dz g3 (i+1) V) fun w7 qg s7 z4 => ?_;have sS:aM w7 C 20 (dS (MN m (some ⟨g3,0,none⟩) (i+1) V none 0 0)) 43:=qg.to (ZJ _ _ _ _);have oz:=gJ s7 tN.ty;have⟨vW,yR,xZ,wE,zh,yS,zi,yI⟩:=QE oz vV m64 xB sG sH sI tO pE;have b9:=s7.below b8 b8.size (by omega);refine Ln<|Rn<|bS<|sN<|Wl<|Lv (av ((i:Int)+1)) (gu (hx:=P))<|au (av ((i:Int)+1))<|Ln ?_;have xC:aY w7 U.heap.size 26 1 (.slice la1 (b.length) (M)) b.length (BH b):=zi.fE (K_ (fun q=>Value.slice q b.length M) eq1.symm)
  skip
  refine iA ⟨i+1,(some ⟨g3,0,none⟩),V,(by omega),O,h2,h3,(h4.trans ic),ic,vW,yR,xZ,wE,zh,yS,xC,sS,yI,b9⟩ ?_;show((b.length:Int)-intOf (av ((i:Int)+1))).toNat<_;simp only[P,intOf]; omega
 refine Lv aD (fM c30 (hx:=P) (hy:=h4))<|aC<|aQ<|aL<|Wx<|cZ<|iC<|dB<|sN<|aQ<|ay<|bA O<|au (pt lp)<|au (pf lp 27)<|Lv (.map (some m.gb)) (aR oD.aJ 27)<|Fx.L.ang (by rfl) rfl rfl rfl sD underlying80 fun g4 w8 yL zk s8 z5 => ?_;have⟨BQ,Bj,Ak,b10⟩:=jv s8.bP sD vk pR b5;have Uw:=gQ yL b5.size;have TR:=zk.lt;refine aC<|Wb ?_;have BF:aY w8 w.heap.size 96 5 (.slice none 0 0) 0 (dn 5 (fun k=>lQ (m.g (([]:List Nat).getD k 0)))):=wm _ _ _ _ _;refine Ic (fun kE f u => ∃ S:Nat->Bool,∃ kk:Nat,∃ J:List Nat,∃ o:Nat,∃ F:Option Addr,∃ G:Nat,kk=unseen S m.gn/\kk=kE/\ZI m.gn S J/\o=J.length/\f 2=(pt C)/\f 57=(pt g4)/\jV u m.gb m.gn (fun i=>m.g i 0) (fun i=>m.g i 1) (yY m.g)/\aY u w.heap.size 69 56 (.slice D (i) (E)) i (dn 56 (J8 m b))/\aM u C 20 (dS (MN m D i E F o G)) 43/\aY u w.heap.size 96 5 (.slice F (o) (G)) o (dn 5 (fun k=>lQ (m.g (J.getD k 0))))/\It u g4 m.gb m.gn S/\Below w.heap.size w u) (unseen (fun _=>false) m.gn) ⟨(fun _=>false),(unseen (fun _=>false) m.gn),[],0,none,0,rfl,rfl,(ZI.start _),rfl,h2,(by rfl),BQ,Ak,Bj,BF,zk,b10⟩ ?_;rintro kE f2 w9 ⟨S,kk,J,o,F,G,hkk,hkE,Q,hgl,K,h7,DY,Et,Bt,Dv,BZ,b11⟩;refine ay<|Fx.L.asc (by rfl) rfl rfl h7 DY BZ (fun zB => ?_)<|fun A uE hi1 hS1 Eu mc1 s9 z6 => ?_
 ·skip
  refine au aD<|aC<|aQ<|aL<|Wx<|cZ<|iC<|dB<|sN<|aQ ?_;have eL:(J.map fun i=>TW (m.g i)).length=o:=by rw[List.length_map]; exact hgl.symm
  have aCM:=Q.len;refine Wl<|Lv (pf C 19) (iO K 19)<|Lv (.slice F (o) (G)) (aR Bt.aJ 19)<|dO (aiJ h.g Q hgl Dv (by omega)) _ rfl ?_;rintro Bg ⟨gl,hpm,hup,Gd,_,tV,hb2⟩;have b12:=b11.trans hb2;have⟨vG,qO⟩:=lZ tV Et Bt;have aFV:=qO.lt;refine aC<|ay<|Lv (.agg (aA 20 (dS (MN m D i E F o G)))) (dZ qO.aJ 0 (ha:=K))<|dY qO 0 (ha:=K) (h1:=(fun j _=>qj _ j)) fun BD rO oP z7 => ?_;have tY:aM BD C 20 (dS (MN m D i E F o G)) 43:=aO rO;have tX:=gJ oP qO.ty;have⟨qP,qQ⟩:=lZ tX vG Gd;have b13:=oP.below b12 b12.size (by omega);refine aC (Wr (⟨.agg (aA 20 (dS (MN m D i E F o G))),rV Tryz.results12 ⟨_,K,aU tY.aJ (by kernel_rfl) (by kernel_rfl)⟩,?_⟩));have eil:i=b.length:=by omega
  have egl:o=gl.length:=by rw[hpm.length_eq,eL]
  exact⟨MN m D i E F o G,b,gl,rfl,{ dF:=rfl,left:=rfl,aF:=rfl,nn:=eil,gn:=egl,ls:=hq1,len:=kll,gs:=GrS.of h.g Q zB hpm hup,glb:=by omega,n:=qP,g:=qQ },b13⟩
 skip
 have hcm1:=BZ.Gg s9;have pV:=DY.fH hcm1 (BZ.rb.symm);have qA:=Et.fH hcm1;have uR:=Bt.fH hcm1;have vH:=Dv.fH hcm1;have b14:=s9.below b11 b11.size (by omega);refine au aH<|aC<|aQ<|aP<|Wk<|sN<|Wb<|ay<|Lv (.tuple #[kS (m.g A 0) (m.g A 1),.agg (aA 5 (lQ (m.g A)))]) (acJ (k1:=fun i=>m.g i 0) (k2:=fun i=>m.g i 1) (val:=yY m.g) (i:=A) rfl h7 pV mc1 hi1)<|au (.agg (aA 5 (lQ (m.g A))))<|oJ 5 zR0 fun g5 Bh BG qR s11 z8 => ?_;have⟨tZ,zD,wG,wH,yV,b15⟩:=oL s11.bP pV qA uR vH Eu b14;have wX:=gQ BG b14.size;have⟨awJ,awK⟩:=oM BG pV.lt uR.lt;have XP:(.slice F (o) (G):Value).ownBlock≠some g5:=by rw[BG]; exact vH.gW (A_ _)
 have YE:=qR.lt;refine dY qR 0 (h1:=(fun j _=>Au _ j)) fun EU uf s12 z9 => ?_;have oQ:aM EU g5 5 (lQ (m.g A)) 96:=aO uf;have Av:=gJ s12 qR.ty;have⟨wI,yX,wJ⟩:=wB Av tZ zD wG;have Bu:=wH.cK s12 XP;have zF:=jU Av yV;have b16:=s12.below b15 b15.size (by omega);refine aC ?_;have aCM:=Q.len;have hgn1:o<=m.gn:=by omega
 refine Wl<|Lv (pf C 19) (iO K 19)<|Lv (.slice F (o) (G)) (aR wJ.aJ 19)<|Lv (.agg (aA 5 (lQ (m.g A)))) (dZ oQ.aJ 0)<|uz (vs := [(0,.agg (aA 5 (lQ (m.g A))))]) (s:=5) (zc:=fun d=>if d<1 then av 0 else if d<3 then aG 0 else if d<4 then av 0 else aG 0) (y:=bJ (fun j=>zR0 (j % 5)) (0*5) 5 (lQ (m.g A))) (by rfl) rfl rfl underlying41 (by kernel_rfl) (by rfl) (by rfl) (by kernel_rfl) (by rw[aT (off:=0*5) (s:=5) (y:=lQ (m.g A)) rfl (bM _ _) (by rfl)]; rfl) rfl fun g6 CW Z zG s13 QM => ?_;have⟨Az,Bv,Dw,AA,DC,Dx,b17⟩:=kU s13.bP wI yX wJ Bu zF oQ b16;have lg6:=gQ Z b16.size;have⟨awL,awM⟩:=oM Z wI.lt wJ.lt;have awN:(.slice F (o) (G):Value).ownBlock≠some g6:=by rw[Z]; exact Bu.gW (A_ _)
 have awO:=gD Z oQ.lt;have tg6:=zG.lt;refine xX (B:=w.heap.size) (s:=5) (bytes:=40) (k:=o) (m:=1) (v := .slice F (o) (G)) (x:=dn 5 (fun k=>lQ (m.g (J.getD k 0)))) (by rfl) rfl rfl rfl underlying41 (by kernel_rfl) (by kernel_rfl) rfl rfl AA zG.aJ aiI (by omega) (by omega) (by omega) b17.size fun N X w16 ho2 hg2 Un hlt2 => ?_;have yU:=yc hg2 AA;have⟨zH,AJ,AL,Cb⟩:=QC yU Az Bv Dw DC;have awP:g5≠N:=fun e=>Un.elim (fun e2=>XP (by rw[e]; exact e2)) (fun e2=>by have:=Dx.lt; omega);have AB:aY w16 w.heap.size 96 5 (dz N (o+1) X) (o+1) (dn 5 (fun k=>lQ (m.g ((J ++ [A]).getD k 0)))):=(ho2.congr (fun j I=>by rw[hgl]at I ⊢; exact aiF j I));have b18:Below w.heap.size w w16:=sO b17 hg2 b17.size (fun q hq=>(AA.ge hq).1);refine Lv (pf C 19) (iO K 19)<|jf AL 19 (dz N (o+1) X) fun Fg Ev D5 z11 => ?_;have Cg:aM Fg C 20 (dS (MN m D i E (some ⟨N,0,none⟩) (o+1) X)) 43:=Ev.congr (Vr _ _ _ _);have BX:=gJ D5 AL.ty;have⟨IK,Fw,Dy,Ce⟩:=QC BX zH AJ Cb AB;have b19:=D5.below b18 b18.size (by omega);refine Ln<|bS ?_
 skip
 refine iA ⟨unseen (aZ S A true) m.gn,(by have O:=um hS1 m.gn hi1; omega),(aZ S A true),(unseen (aZ S A true) m.gn),(J ++ [A]),o+1,(some ⟨N,0,none⟩),X,rfl,rfl,(Q.step hi1 hS1),(by rw[E_,<- hgl]; rfl),K,h7,IK,Fw,Cg,Ce,Dy,b19⟩ (by decide)
end Go.Proofs.YtabjalhnkndjaaaGreatDoor
namespace Go.Proofs.YtabjalhnkndjaaaGreatDoor
open Fx hiding E9 Fa HY Jf Jk L R start
open Go.RowKit Go
namespace Rt
section
variable {f:(Nat->Int)->(Nat->Int) × Int} {idx:Nat->Nat} {R:Nat->Nat->Int} {r r':Nat->Nat->Int} {n K k:Nat}
theorem Ik : ∀ {n:Nat},(∀ i,i<n->r i=r' i)->mH f r n=mH f r' n
 | 0,_=>rfl
 | n+1,h=>by unfold mH; rw[Ik (n:=n) fun i a=>h i (by omega),h n (by omega)]
theorem KZ : ∀ {K:Nat},(∀ i j,i<K->j<K->idx i=idx j->i=j)->(eO f idx R K).2=mH f (fun i=>R (idx i)) K/\((eO f idx R K).2=0 -> ∀ k,(eO f idx R K).1 k=R k/\(∀ i,i<K->idx i≠k)\/(eO f idx R K).1 k=(f (R k)).1 /\ ∃ i,i<K/\idx i=k)
 | 0,_=>⟨rfl,fun _ k => .inl ⟨rfl,fun _ h=>L_ h (z_ _)⟩⟩
 | K+1,hi=>by
   obtain⟨g,l⟩:=KZ (K:=K) fun i j a b=>hi i j (by omega) (by omega);unfold mH;rw[<- g];by_cases c:(eO f idx R K).2=0
   ·have d:(eO f idx R K).1 (idx K)=R (idx K):=by
     grind
    rw[d_ c];have e:eO f idx R (K+1)=(if(f ((eO f idx R K).1 (idx K))).2=0 then(aN (eO f idx R K).1 (idx K) (f ((eO f idx R K).1 (idx K))).1,0)else((eO f idx R K).1,(f ((eO f idx R K).1 (idx K))).2)):=(by show(if _ then _ else _)=_; simp_all);rw[e,d];by_cases m:(f (R (idx K))).2=0
    ·rw[d_ m]
     grind [aN]
    grind
   grind [eO]
end
structure GZ(T:fD)(L:iQ):Prop where
 has : ∀ k,T.has k=true <-> ∃ i,i<L.nn/\L.id i=k
 n:T.n=L.nn
 par : ∀ i,i<L.nn->T.par (L.id i)=L.par i
section
variable {T:fD} {L:iQ} {N:Nat} {x:Int}
theorem GZ.find(h:GZ T L)(a:Inv0 L N)(x:Int):T.has x=true<->0<=bT L.t L.tn x:=by
 rw[h.has,kZ,a.GA];constructor
 ·rintro ⟨i,b,e⟩; exact⟨i,b,by grind [a.IY]⟩
 grind [a.IY]
theorem GZ.Sj(h:GZ T L)(a:Inv0 L N)(x:Int):T.has x=false<->bT L.t L.tn x<0:=by
 grind [h.find]
theorem Inv0.at(a:Inv0 L N)(hi:m<L.nn):L.node (L.id m)=(m:Int):=by
 grind [a.node,a.IY,xJ,a.amZ,a.GA]
theorem GZ.next(h:GZ T L)(a:Inv0 L N)(hx:T.has x=true):T.par x=L.t (bT L.t L.tn x).toNat 1:=by
 obtain⟨i,b,rfl⟩:=(h.has x).1 hx;have e:=a.at b
 simp_all [a.node,h.par,a.IY]
theorem GZ.dI(h:GZ T L)(a:T.ok)(e:Inv0 L N)(x:Int):(T.dI x).length=iw L.t L.tn x /\ ∀ q,q<(T.dI x).length->(T.dI x).getD q 0=bU L.t L.tn q x:=by
 have j : ∀ q,q<(T.dI x).length->T.has ((T.dI x).getD q 0)=true/\(q+1<(T.dI x).length->(T.dI x).getD (q+1) 0=T.par ((T.dI x).getD q 0))/\(q+1=(T.dI x).length->T.has (T.par ((T.dI x).getD q 0))=false):=wV (a.I6 x);have f : ∀ q,q<(T.dI x).length->(T.dI x).getD q 0=bU L.t L.tn q x:=by
  intro q
  induction q with
  | zero =>
    intro b
    cases hx:T.has x with
    | false=>rw[show T.dI x = []from rW hx]at b; simp_all
    | true=>rw[fD.step a hx]; rfl
  | succ q ih =>
    grind [bU,h.next]
 refine⟨?_,f⟩;obtain⟨D,g,d⟩:=e.Zi x;refine zI (D:=D) (fun i k => ?_) ?_ d (by omega)
 ·grind [h.find]
 by_cases c:(T.dI x).length=0
 ·rw[c];show bT L.t L.tn x<0
  grind [h.Sj,fD.step]
 obtain⟨q,b⟩ : ∃ q,(T.dI x).length=q+1:=⟨(T.dI x).length-1,by omega⟩
 grind [bU,h.next,h.Sj]
theorem aiL(a:Inv0 L N)(x:Int):bT L.t L.tn (bU L.t L.tn (iw L.t L.tn x) x)<0:=by
 obtain⟨D,b,c⟩:=a.Zi x
 grind [Db,zI]
theorem GZ.mem(h:GZ T L)(b:T.ok)(a:Inv0 L N)(x y:Int):y∈T.dI x <-> ∃ i,i<iw L.t L.tn x/\bU L.t L.tn i x=y:=by
 obtain⟨c,d⟩:=h.dI b a x
 grind [List.getElem_of_mem]
theorem GZ.Eb(h:GZ T L)(g:T.ok)(a:Inv0 L N)(id pa:Int):T.Eb id pa=pU L.t L.tn id pa:=by
 unfold fD.Eb wN pU;by_cases d:id=0
 ·omega
 rw[b_ d,b_ d];by_cases b:fV T.x T.n id=true
 ·rw[d_ b,d_ ((h.find a id).1 b)]
 rw[b_ b,b_ (fun e=>b ((h.find a id).2 e))];have j:(¬ pa=0/\fV T.x T.n pa=false)<->(pa≠0/\bT L.t L.tn pa<0):=by
  rw[<- h.Sj a]; rfl
 by_cases f : ¬ pa=0/\fV T.x T.n pa=false
 ·simp_all
 rw[b_ f,b_ (fun e=>f (j.2 e))];have q:(32<=T.n\/4<=(lV T.x T.p T.n 4 pa).length)<->(32<=L.tn\/H7 L.t L.tn pa):=by
  obtain⟨m,o⟩:=h.dI g a pa;have:4<=(T.dI pa).length<->H7 L.t L.tn pa:=by
   constructor
   ·intro r i s;have c:=(wV (g.I6 pa)) i (by show i<(T.dI pa).length; omega);rw[<- o i (by omega),<- h.find a]; exact c.1
   ·intro l
    rcases Nat.lt_or_ge (T.dI pa).length 4 with c|c
    ·exfalso;have k:=l _ c;rw[m]at k;have:=aiL a pa;omega
    omega
  show(32<=T.n\/4<=(T.dI pa).length)<->_;rw[this,h.n,a.GA]
 grind
end
end Rt
namespace Rt
section
variable {m:fO} {k:Int} {i:Nat}
theorem fO.Il(a:m.T.ok)(c:m.T.has k=true):m.idx k<m.T.n/\m.T.x (m.idx k)=k:=by
 obtain⟨j,b,e⟩:=ji c;have:m.idx k=j:=rY a.inj b e
 simp_all
theorem Sk(x:Nat->Int)(id:Int) : ∀ n,(∀ i,i<n->x i≠id)->DI (aZ x n id) (n+1) id=n:=fun n _=>by
 unfold DI;rw[d_ ?_];unfold aZ;rw[d_ rfl]
theorem NP{x y:Nat->Int}{k:Int} : ∀ {n:Nat},(∀ i,i<n->x i=y i)->DI x n k=DI y n k
 | 0,_=>rfl
 | n+1,h=>by unfold DI; rw[h n (by omega),NP (n:=n) fun i a=>h i (by omega)]
theorem Sl(x:Nat->Int)(n:Nat)(id:a≠k):DI (aZ x n a) (n+1) k=DI x n k:=by
 grind [aZ,DI,NP]
theorem NQ{f g:Nat->Int}{o:Int} : ∀ {n:Nat},(∀ i,i<n->f i=g i)->uQ f o n=uQ g o n
 | 0,_=>rfl
 | n+1,h=>by unfold uQ; rw[NQ (n:=n) fun i a=>h i (by omega),h n (by omega)]
theorem Sn{f:Nat->Int}{o v:Int}{k:Nat} : ∀ n,k<=n->uQ (dW f k v) o (n+1)=uQ f o n+if v / 1099511627776=o then 1 else 0
 | 0,h=>by
   obtain rfl:k=0:=(by omega);rfl
 | n+1,h=>by
   by_cases e:k=n+1
   ·grind [uQ,gy,NQ,Jo]
   ·show uQ (dW f k v) o (n+1)+(if dW f k v (n+1) / 1099511627776=o then 1 else 0)=uQ f o n+(if f n / 1099511627776=o then 1 else 0)+_;rw[Sn n (by omega),Jp (by omega)]
    grind
theorem XQ{f:Nat->Int}{o:Int} : ∀ n,uQ f o n<=n
 | 0=>A_ _
 | n+1=>by have:=XQ (f:=f) (o:=o) n; grind [uQ]
theorem G5:0<=gF p b <-> ∃ j,j<b/\p j=true:=by
 grind [iW]
end
structure iT(m:fO)(L:iQ):Prop where
 T:GZ m.T L
 dF:m.dF=L.dF
 left:m.left=L.left
 aF:m.aF=L.aF
 row : ∀ i,i<L.nn->Jw m (L.id i)=L.R i
 own : ∀ a,a<6->m.own a=((uQ L.id ((a:Int)+1) L.nn:Nat):Int)
 gi : ∀ i j,i<m.gn->j<m.gn->m.g i 0=m.g j 0->m.g i 1=m.g j 1->i=j
 gn:m.gn=L.gn
 g1 : ∀ q,q<L.gn -> ∃ j,j<m.gn/\m.g j=L.g q
 g2 : ∀ j,j<m.gn -> ∃ q,q<L.gn/\L.g q=m.g j
 Es : ∀(a:Nat) (r:Int),a<6->(jX m ((a:Int)+1) r=true <-> ∃ j,j<L.rn a/\L.rq a j=r)
 ga:ZG m
 li : ∀ p q,p<L.gn->q<L.gn->L.g p 0=L.g q 0->L.g p 1=L.g q 1->p=q
section
variable {m:fO} {L:iQ} {N:Nat} {v:dA} {x:Int}
theorem iT.node(h:iT m L)(a:Inv0 L N)(x:Int):m.T.has x=true<->0<=L.node x:=by rw[h.T.find a,a.node]
theorem iT.aeg(h:iT m L)(a:Inv0 L N)(x:Int):m.T.has x=false<->L.node x<0:=by rw[h.T.Sj a,a.node]
theorem Inv0.aiM(a:Inv0 L N)(hx:0<=L.node x):(L.node x).toNat<L.nn/\L.id (L.node x).toNat=x:=by
 grind [a.node,BU,a.GA,a.IY]
theorem iT.rk(h:iT m L)(a:Inv0 L N)(hx:0<=L.node x):Jw m x=L.R (L.node x).toNat:=by
 obtain⟨b,c⟩:=a.aiM hx
 grind [h.row]
theorem iT.GK(h:iT m L)(b:m.T.ok)(a:Inv0 L N)(hx:m.T.has x=true)(r:Nat->Int):iT (GK m x r) { L with R:=aN L.R (L.node x).toNat r }:=by
 have d:=(h.node a x).1 hx;obtain⟨g,j⟩:=a.aiM d;refine { h with row:=fun i c => ?_,T:=⟨h.T.has,h.T.n,h.T.par⟩ };show aZ m.R (m.idx x) r (m.idx (L.id i))=aN L.R (L.node x).toNat r i;unfold aZ aN;by_cases e:i=(L.node x).toNat
 ·simp_all
 rw[b_ e,b_ ?_]
 ·exact h.row i c
 intro f;have k:=(fO.Il b ((h.T.has _).2 ⟨i,c,rfl⟩)).2;have l:=(fO.Il b hx).2
 grind [a.inj]
theorem iT.XR(h:iT m L)(g:m.T.ok)(d:Inv0 L N)(f:(Nat->Int)->(Nat->Int) × Int)(x:Int) :
 eH m f (m.T.dI x)=(eO f (vI L x) L.R (iw L.t L.tn x)).2/\((eO f (vI L x) L.R (iw L.t L.tn x)).2=0 -> ∀ i,i<L.nn->(vL m f (m.T.dI x)).R (m.idx (L.id i))=(eO f (vI L x) L.R (iw L.t L.tn x)).1 i):=by
 obtain⟨p,q⟩:=h.T.dI g d x;have u:(m.T.dI x).Nodup:=fD.EJ g x;have k : ∀ i,i<iw L.t L.tn x->0<=L.node (bU L.t L.tn i x):=fun i c=>by simp_all [d.node,FH]
 have o : ∀ i j,i<iw L.t L.tn x->j<iw L.t L.tn x->vI L x i=vI L x j->i=j:=fun i j c n e=>by
  have a:=d.aiM (k i c);have b:=d.aiM (k j n);have e:(L.node (bU L.t L.tn i x)).toNat=(L.node (bU L.t L.tn j x)).toNat:=e
  grind [GU]
 obtain⟨r,v⟩:=KZ (f:=f) (idx:=vI L x) (R:=L.R) o;refine⟨?_,fun s i c => ?_⟩
 ·rw[r];unfold eH;rw[p];exact Ik fun i c=>by
   rw[q i (by omega)];exact h.rk d (k i c)
 have l:=(fO.Il g ((h.T.has _).2 ⟨i,c,rfl⟩)).2;show(if m.T.x (m.idx (L.id i))∈m.T.dI x then(f (m.R (m.idx (L.id i)))).1 else m.R (m.idx (L.id i)))=_;rw[l,show m.R (m.idx (L.id i))=L.R i from h.row i c]
 grind [h.T.mem,Pg]
theorem iT.Sq(h:iT m L)(b:dG v=true)(r:Int):jX m v.o r=true<->0<=L.nW (aX v) r:=by
 obtain⟨a,c,d⟩:=gY (kM b)
 simp_all [aX,h.Es,iQ.nW,G5]
theorem iT.jy(h:iT m L)(o r:Int):(lH m o r=true<->0<=L.jy o r)/\(0<=L.jy o r->(L.jy o r).toNat<L.gn/\iD m o r<m.gn/\m.g (iD m o r)=L.g (L.jy o r).toNat/\L.g (L.jy o r).toNat 0=o/\L.g (L.jy o r).toNat 1=r):=by
 have f:lH m o r=true <-> ∃ j,j<m.gn/\m.g j 0=o/\m.g j 1=r:=nk;have i:0<=L.jy o r <-> ∃ q,q<L.gn/\L.g q 0=o/\L.g q 1=r:=by
  grind [iQ.jy,G5]
 refine⟨?_,fun l => ?_⟩
 ·rw[f,i];constructor
  ·rintro ⟨j,b,c,d⟩;obtain⟨q,a,e⟩:=h.g2 j b;exact⟨q,a,by simp_all,by simp_all⟩
  rintro ⟨q,a,c,d⟩;obtain⟨j,b,e⟩:=h.g1 q a;exact⟨j,b,by simp_all,by simp_all⟩
 have : ∃ q,q<L.gn/\L.jy o r=(q:Int)/\L.g q 0=o/\L.g q 1=r:=by
  grind [iQ.jy,iW]
 obtain⟨q,a,e,c,d⟩:=this;rw[e];obtain⟨j,b,k⟩:=h.g1 q a
 grind [iD,Dm,h.gi]
theorem iT.atr(h:iT m L)(b:m.T.ok)(a:Inv0 L N)(d:dG v=true)(c:v.aI=1):kX m v=nE L v:=by
 grind [gY,kM,aX,kX,nE,h.own,qX,wK,h.T.Eb]
theorem iT.make(h:iT m L)(s:m.T.ok)(r:Inv0 L N)(f:dG v=true)(w:v.aI=1)(p:nE L v=0):iT (Ij m v) (vF L v):=by
 obtain⟨k,y,B,C,D,E,F,l,O,P,A⟩:=AQ r f w p;have u:=wK f;have I:=rR f;have G:qX v=lU v.o v.seq:=by rw[u]; rfl
 have J:m.T.has (qX v)=false:=by
  grind [h.T.Sj,zK,A.no]
 have K : ∀ i,i<m.T.n->m.T.x i≠qX v:=fun i b e=>by
  grind [fD.Ee]
 rw[l];have t : ∀ q,(m.T.put (qX v) v.node).has q=true<->(m.T.has q=true\/q=qX v):=fun q=>by
  grind [fD.mo]
 have z : ∀ q,q<L.nn->L.id q≠qX v:=fun q M e=>by
  grind [h.T.has]
 refine {
  T:=⟨fun q => ?_,?_,fun i b => ?_⟩
  dF:=h.dF
  left:=h.left
  aF:=h.aF
  row:=fun i b => ?_
  own:=fun a H => ?_
  gi:=h.gi
  gn:=h.gn
  g1:=h.g1
  g2:=h.g2
  Es:=h.Es
  ga:=h.ga
  li:=h.li }
 ·show(m.T.put (qX v) v.node).has q=true <-> ∃ i,i<L.nn+1/\dW L.id k (lU v.o v.seq) i=q;rw[t,h.T.has];constructor
  ·rintro (⟨i,b,e⟩|e)
   ·obtain⟨j,c,_,d⟩:=FE (k:=k) b
    grind
   grind [gy]
  grind [fU,gy]
 ·show m.T.n+1=L.nn+1;rw[h.T.n]
 ·show(m.T.put (qX v) v.node).par (dW L.id k (lU v.o v.seq) i)=dW L.par k v.node i
  grind [fD.yN,fU,gy,h.T.par]
 ·show aZ m.R m.T.n _ (DI (aZ m.T.x m.T.n (qX v)) (m.T.n+1) (dW L.id k (lU v.o v.seq) i))=dW L.R k _ i
  rcases fU y b with rfl|⟨j,c,d,_,_⟩
  ·grind [gy,Sk,aZ]
  rw[d,d,Sl _ _ (fun e=>z j c e.symm)];have g:=(fO.Il s ((h.T.has _).2 ⟨j,c,rfl⟩)).1;have g:DI m.T.x m.T.n (L.id j)<m.T.n:=g;unfold aZ;rw[b_];exact h.row j c
 show aN m.own (aX v) (m.own (aX v)+1) a=((uQ (dW L.id k (lU v.o v.seq)) ((a:Int)+1) (L.nn+1):Nat):Int)
 grind [Sn,aN,aX,h.own]
attribute [local irreducible] iw eO eH in
theorem iT.uP(h:iT m L)(d:m.T.ok)(b:Inv0 L N)(i:dG v=true):mQ m v=kW L v:=by
 unfold mQ kW;by_cases c:jX m v.o v.bK=true
 ·grind [h.Sq]
 rw[b_ c,b_ (fun e=>c ((h.Sq i _).2 e))];obtain⟨j,_⟩:=h.T.dI d b v.node;have f:m.T.has v.node=false<->iw L.t L.tn v.node=0:=by
  rw[<- j];constructor
  ·intro g; rw[show m.T.dI v.node = []from rW g]; rfl
  grind [fD.step]
 by_cases a:m.T.has v.node=false
 ·simp_all
 rw[b_ a,b_ (fun e=>a (f.2 e))];exact(h.XR d b _ _).1
theorem K3:GY (aZ X k a) (aZ Y k V) (k+1) d e=true<->(GY X Y k d e=true\/(a=d/\V=e)):=by
 rw[nk,nk];unfold aZ;constructor
 ·grind
 rintro (⟨j,hj,e1,e2⟩|⟨e1,e2⟩)
 ·grind
 exact⟨k,by omega,by omega,by omega⟩
theorem iT.XT(h:iT m L)(k:dG v=true)(m':fO)(L':iQ)(l:m'.an=m.an+1)(n:m'.ao=aZ m.ao m.an v.o)(p:m'.ar=aZ m.ar m.an v.bK)(d:L'.rn=aN L.rn (aX v) (L.rn (aX v)+1))(f:L'.rq=aN L.rq (aX v) (aN (L.rq (aX v)) (L.rn (aX v)) v.bK)) :
 (∀(a:Nat) (r:Int),a<6->(jX m' ((a:Int)+1) r=true <-> ∃ j,j<L'.rn a/\L'.rq a j=r))/\(∀ o r,jX m o r=true->jX m' o r=true)/\jX m' v.o v.bK=true:=by
 obtain⟨b,q,s⟩:=gY (kM k);have i:aX v=b:=by grind [aX]
 have c : ∀ o r,jX m' o r=true<->(jX m o r=true\/(v.o=o/\v.bK=r)):=fun o r=>by
  grind [jX,K3]
 refine⟨fun a r g => ?_,fun o r h=>(c o r).2 (.inl h),(c _ _).2 (.inr ⟨rfl,rfl⟩)⟩;rw[c,h.Es a r g,d,f,i];unfold aN;by_cases e:a=b
 ·subst e;rw[d_ rfl,d_ rfl];constructor
  ·rintro (⟨j,hj,e⟩|⟨_,e⟩)
   ·grind
   exact⟨L.rn a,by omega,by omega⟩
  grind
 rw[b_ e,b_ e]
 grind
attribute [local irreducible] iw eO eH in
theorem iT.take(h:iT m L)(z:m.T.ok)(y:Inv0 L N)(w:dG v=true)(t:kW L v=0):iT (nJ m v) (oU L v):=by
 unfold kW at t;split at t
 ·omega
 rename_i c1;split at t
 ·omega
 have C:=(h.XR z y (fun x=>bV x v.o v.bF) v.node).2 t;have A : ¬ jX m v.o v.bK=true:=fun e=>c1 ((h.Sq w _).1 e);obtain⟨D,E,K⟩:=h.XT w (nJ m v) (oU L v) rfl rfl rfl rfl rfl;have s : ∀ j,(nJ m v).g j=if j=m.gn then uS v else m.g j:=fun j=>rfl;have G:uS v 0=v.o:=rfl;have H:uS v 1=v.bK:=rfl;have I : ∀ j,j<m.gn -> ¬ (m.g j 0=v.o/\m.g j 1=v.bK):=fun j a e=>A (by have:=h.ga j a; simp_all);have r:=CV (fun i=>Jl v (L.g i)) L.gn
 refine {
  T:=⟨h.T.has,h.T.n,h.T.par⟩
  dF:=h.dF
  left:=h.left
  aF:=h.aF
  row:=C
  own:=h.own
  gi:=fun i j l a f d => ?_
  gn:=by show m.gn+1=L.gn+1; rw[h.gn]
  g1:=fun q b => ?_
  g2:=fun j a => ?_
  Es:=D
  ga:=fun i l => ?_
  li:=fun p q u b f d => ?_ }
 ·have l:i<m.gn+1:=l;have a:j<m.gn+1:=a;rw[s,s]at f d
  grind [h.gi]
 ·have b:q<L.gn+1:=b;show ∃ j,j<m.gn+1/\(nJ m v).g j=dW L.g (down (fun i=>Jl v (L.g i)) L.gn) (uS v) q
  rcases fU r b with e|⟨j,a,d,_,_⟩
  ·rw[e,gy]; exact⟨m.gn,by omega,by simp_all⟩
  grind [h.g1]
 ·have a:j<m.gn+1:=a;show ∃ q,q<L.gn+1/\dW L.g (down (fun i=>Jl v (L.g i)) L.gn) (uS v) q=(nJ m v).g j;rw[s];by_cases c:j=m.gn
  ·rw[d_ c]; exact⟨_,by omega,gy⟩
  rw[b_ c];obtain⟨q,b,e⟩:=h.g2 j (by omega);obtain⟨F,B,_,d⟩:=FE (k:=down (fun i=>Jl v (L.g i)) L.gn) b;exact⟨F,B,by simp_all⟩
 ·have l:i<m.gn+1:=l;rw[s];by_cases c:i=m.gn
  ·simp_all
  rw[b_ c]; exact E _ _ (h.ga i (by omega))
 have u:p<L.gn+1:=u;have b:q<L.gn+1:=b;have J : ∀ j,j<L.gn -> ¬ (L.g j 0=v.o/\L.g j 1=v.bK):=fun j a e=>by
  grind [h.g1]
 have f:dW L.g (down (fun i=>Jl v (L.g i)) L.gn) (uS v) p 0=dW L.g (down (fun i=>Jl v (L.g i)) L.gn) (uS v) q 0:=f;have d:dW L.g (down (fun i=>Jl v (L.g i)) L.gn) (uS v) p 1=dW L.g (down (fun i=>Jl v (L.g i)) L.gn) (uS v) q 1:=d;generalize down (fun i=>Jl v (L.g i)) L.gn=k at f d r
 rcases fU r u with c|⟨j,a,f1,f2,f3⟩
 ·rcases fU r b with c'|⟨j',hj',f1',f2',f3'⟩
  ·omega
  rw[c,gy,f1']at f d; simp_all
 rcases fU r b with c'|⟨j',hj',f1',f2',f3'⟩
 ·simp_all [gy]
 rw[f1,f1']at f d
 grind [h.li]
attribute [local irreducible] iw eO eH in
theorem iT.vX(h:iT m L)(k:m.T.ok)(j:Inv0 L N)(n:dG v=true):lS m v=kF L v:=by
 unfold lS kF;by_cases c:jX m v.o v.bK=true
 ·grind [h.Sq]
 rw[b_ c,b_ (fun e=>c ((h.Sq n _).2 e))];obtain⟨f,i⟩:=h.jy v.o v.of;by_cases a:0<=L.jy v.o v.of
 ·obtain⟨p,r,d,s,t⟩:=i a;have l:=f.2 a;have e:(lH m v.o v.of=false\/m.g (iD m v.o v.of) 4≠0)<->(L.jy v.o v.of<0\/L.g (EC L v) 4≠0):=by
   rw[d,l];show _<->_\/L.g (L.jy v.o v.of).toNat 4≠0
   grind
  by_cases b:L.jy v.o v.of<0\/L.g (EC L v) 4≠0
  ·simp_all
  rw[b_ b,b_ (fun q=>b (e.1 q)),d];exact(h.XR k j _ _).1
 simp_all
attribute [local irreducible] iw eO eH in
theorem iT.free(h:iT m L)(A:m.T.ok)(z:Inv0 L N)(C:dG v=true)(k:kF L v=0):iT (jY m v) (nG L v):=by
 unfold kF at k;split at k
 ·omega
 split at k
 ·omega
 rename_i c2;have u:0<=L.jy v.o v.of:=by omega
 obtain⟨F,G,t,O,P⟩:=(h.jy v.o v.of).2 u;have B:=(h.XR A z (fun x=>bW x v.o (L.g (EC L v) 3)) (L.g (EC L v) 2)).2 k;obtain⟨D,E,K⟩:=h.XT C (jY m v) (nG L v) rfl rfl rfl rfl rfl;have I:EC L v=(L.jy v.o v.of).toNat:=rfl;have s : ∀ j,(jY m v).g j=if j=iD m v.o v.of then fZ (m.g (iD m v.o v.of)) 4 v.bK else m.g j:=fun j=>rfl;have r : ∀ q,(nG L v).g q=if q=EC L v then aN (L.g (EC L v)) 4 v.bK else L.g q:=fun q=>rfl;have J:fZ (m.g (iD m v.o v.of)) 4 v.bK=aN (L.g (EC L v)) 4 v.bK:=by rw[t]; rfl
 have l : ∀ j p,(p=0\/p=1)->(jY m v).g j p=m.g j p:=fun j p f=>by
  rw[s];by_cases c:j=iD m v.o v.of
  ·subst c; rw[d_ rfl]; rcases f with rfl|rfl <;> rfl
  simp_all
 have M : ∀ j p,(p=0\/p=1)->(nG L v).g j p=L.g j p:=fun j p f=>by
  rw[r];by_cases c:j=EC L v
  ·subst c; rw[d_ rfl]; rcases f with rfl|rfl <;> rfl
  simp_all
 refine {
  T:=⟨h.T.has,h.T.n,h.T.par⟩
  dF:=h.dF
  left:=h.left
  aF:=h.aF
  row:=fun i d => ?_
  own:=h.own
  gi:=fun i j d a w y=>h.gi i j d a (by simp_all) (by simp_all)
  gn:=h.gn
  g1:=fun q b => ?_
  g2:=fun j a => ?_
  Es:=D
  ga:=fun i d=>by rw[l i 0 (.inl rfl),l i 1 (.inr rfl)]; exact E _ _ (h.ga i d)
  li:=fun p q f b w y=>h.li p q f b (by simp_all) (by simp_all) }
 ·have:=B i d;show(vL m (fun x=>bW x v.o (m.g (iD m v.o v.of) 3)) (m.T.dI (m.g (iD m v.o v.of) 2))).R (m.idx (L.id i))=_;rw[t]; exact this
 ·have b:q<L.gn:=b;rw[r];by_cases c:q=EC L v
  ·rw[d_ c]; exact⟨iD m v.o v.of,G,by simp_all⟩
  rw[b_ c];obtain⟨j,a,H⟩:=h.g1 q b;refine⟨j,a,?_⟩
  grind [h.li]
 have a:j<m.gn:=a;rw[s];by_cases c:j=iD m v.o v.of
 ·rw[d_ c]; exact⟨EC L v,F,by simp_all⟩
 rw[b_ c];obtain⟨q,b,e⟩:=h.g2 j a;refine⟨q,b,?_⟩
 grind [h.gi]
theorem iT.move(h:iT m L)(j:m.T.ok)(a:Inv0 L N)(g:dG v=true)(f:v.aI=5):nI m v=uh L v/\(uh L v=0->iT (Ig m v) (Ky L v)):=by
 obtain⟨b,k,l⟩:=XA g f;unfold nI uh;by_cases c:L.node v.node<0
 ·grind [h.aeg]
 have d:0<=L.node v.node:=by omega
 rw[b_ c,b_ (fun e=>c ((h.aeg a _).1 e)),h.dF];have i:xO m v=D7 L v:=by unfold xO D7; rw[<- h.rk a d]; rfl
 grind [h.GK,h.node,Ig,Ky]
theorem iT.raise(h:iT m L)(e:m.T.ok)(b:Inv0 L N):mD m v=AP L v/\(AP L v=0->iT (yZ m v) (Kw L v)):=by
 unfold mD AP;by_cases c:L.node v.node<0
 ·grind [h.aeg]
 have a:0<=L.node v.node:=by omega
 have d:m.R (m.idx v.node)=L.R (L.node v.node).toNat:=h.rk b a
 grind [yZ,Kw,h.GK,h.node]
theorem iT.ZK(h:iT m L)(j:m.T.ok)(i:Inv0 L N)(g:dG v=true):ig m v=fJ L v/\(fJ L v=0->iT (kL m v) (kH L v)):=by
 unfold ig fJ kL kH;by_cases b:v.aI=1
 ·grind [h.atr,h.make]
 rw[b_ b,b_ b,b_ b,b_ b];by_cases c:v.aI=2
 ·grind [h.raise]
 rw[b_ c,b_ c,b_ c,b_ c];by_cases d:v.aI=3
 ·grind [h.uP,h.take]
 rw[b_ d,b_ d,b_ d,b_ d];by_cases e:v.aI=4
 ·grind [h.vX,h.free]
 rw[b_ e,b_ e,b_ e,b_ e];by_cases f:v.aI=5
 ·grind [h.move]
 rw[b_ f,b_ f,b_ f,b_ f];by_cases a:v.aI=6
 ·rw[d_ a,d_ a,d_ a];exact⟨rfl,fun _ => { h with T:=⟨h.T.has,h.T.n,h.T.par⟩,dF:=by show aN m.dF _ true=aN L.dF _ true; rw[h.dF] }⟩
 rw[b_ a,b_ a,b_ a];exact⟨rfl,fun _ => { h with T:=⟨h.T.has,h.T.n,h.T.par⟩,left:=by show aN m.left _ true=aN L.left _ true; rw[h.left] }⟩
theorem iT.apply(h:iT m L)(d:m.T.ok)(b:Inv0 L N)(v:dA):eT m v=dP L v/\iT (mI m v) (fF L v):=by
 have e:eT m v=dP L v:=by
  grind [eT,dP,h.aF,h.dF,h.left,h.ZK]
 refine⟨e,?_⟩;unfold mI fF;rw[e];by_cases c:dP L v=0
 ·rw[d_ c,d_ c];have g:=(I4 (mK c)).1;have f:fJ L v=0:=by
   grind [dP]
  have a:=(h.ZK d b g).2 f;exact { a with T:=⟨a.T.has,a.T.n,a.T.par⟩,aF:=by show aN (kL m v).aF _ _=aN (kH L v).aF _ _; rw[a.aF] }
 simp_all
theorem iT.sound(h:iT m L)(g:m.T.ok)(c:Inv0 L N):QlK m := {
 own:=fun a l=>by
  grind [XQ,c.nn,h.own]
 row:=fun i d p k=>by
  obtain⟨j,hj,e⟩:=(h.T.has _).1 (fD.Ee d);have b:=h.row j hj;rw[e]at b;have f:m.idx (m.T.x i)=i:=rY g.inj d rfl;unfold Jw at b;rw[f]at b;rw[b];exact qh (c.iV j hj) p k
 ga:=h.ga
 kn:=by rw[h.aF]; exact c.kn }
end
end Rt
namespace Rt
def pX(x:Nat->Int):Int:=x 0*18446744073709551616+x 1
structure wP(L:iQ):Prop where
 up : ∀ i j,i<j->j<L.gn->pX (L.g i)<pX (L.g j)
 wf : ∀ q,q<L.gn->nU (L.g q 1)/\nU (L.g q 4)
 ga : ∀ q,q<L.gn->1<=L.g q 0/\L.g q 0<=6 /\ ∃ j,j<L.rn (L.g q 0-1).toNat/\L.rq (L.g q 0-1).toNat j=L.g q 1
section
variable {L:iQ} {N:Nat} {v:dA}
theorem aeh(a:nU v.bK)(hx:nU (X 1)):Jl v X=true<->pX (uS v)<pX X:=by
 unfold Jl pX nU at *;rw[Bool.or_eq_true,Q_,O_,O_,O_];show v.o<X 0\/X 0=v.o/\v.bK<X 1<->v.o*18446744073709551616+v.bK<X 0*18446744073709551616+X 1;omega
theorem Sr{a:Nat}{r:Int}(L':iQ)(d:L'.rn=aN L.rn a (L.rn a+1))(f:L'.rq=aN L.rq a (aN (L.rq a) (L.rn a) r)):(∀ b y,(∃ j,j<L.rn b/\L.rq b j=y) -> ∃ j,j<L'.rn b/\L'.rq b j=y) /\ ∃ j,j<L'.rn a/\L'.rq a j=r:=by
 rw[d,f];unfold aN;refine⟨fun b y ⟨j,g,e⟩ => ?_,L.rn a,by simp_all,by simp_all⟩;by_cases c:b=a
 ·subst c
  grind
 simp_all
attribute [local irreducible] iw eO in
theorem Vs(h:wP L)(E:dG v=true)(G:jB v)(t:kW L v=0):wP (oU L v):=by
 have u:=rR E;have x:=G.bK;unfold kW at t;split at t
 ·omega
 rename_i c1;obtain⟨y,z⟩:=Sr (L:=L) (a:=aX v) (r:=v.bK) (oU L v) rfl rfl;have F : ∀ j,j<L.gn -> ¬ (L.g j 0=v.o/\L.g j 1=v.bK):=fun j d e=>c1 (by
  obtain⟨_,_,q,b,s⟩:=h.ga j d;rw[e.1,e.2]at s;rw[e.1]at b;unfold iQ.nW;rw[G5];exact⟨q,b,f_ s⟩)
 obtain⟨k,w⟩ : ∃ k,k=down (fun i=>Jl v (L.g i)) L.gn:=⟨_,rfl⟩;have f:k<=L.gn:=by grind [CV]
 have M : ∀ q,k<=q->q<L.gn->pX (uS v)<pX (L.g q):=fun q D p=>(aeh x (h.wf q p).1).1 (Ow (P:=fun i=>Jl v (L.g i)) (n:=L.gn) (i:=q) (by omega) p);have K : ∀ q,q<k->pX (L.g q)<pX (uS v):=fun q D=>by
  obtain⟨j,rfl⟩ : ∃ j,k=j+1:=⟨k-1,by omega⟩;have p:=Ox (P:=fun i=>Jl v (L.g i)) (n:=L.gn) (j:=j) w.symm;have H : ¬ pX (uS v)<pX (L.g j):=fun e=>by
   grind [aeh,h.wf]
  have I:pX (L.g j)<pX (uS v):=by
   rcases Int.lt_trichotomy (pX (L.g j)) (pX (uS v))with c|c|c
   ·omega
   ·exfalso;have J:=(h.wf j (by omega)).1;refine F j (by omega) ?_;unfold pX at c;have c:L.g j 0*18446744073709551616+L.g j 1=v.o*18446744073709551616+v.bK:=c
    grind [nU]
   omega
  by_cases e:q=j
  ·simp_all
  ·have:=h.up q j (by omega) (by omega); omega
 have l:(oU L v).g=dW L.g k (uS v):=by rw[w]; rfl
 have m:(oU L v).gn=L.gn+1:=rfl;refine⟨fun i j N d => ?_,fun q b => ?_,fun q b => ?_⟩
 ·rw[m]at d;rw[l]
  rcases fU f (show i<L.gn+1 by omega)with rfl|⟨q,b,eq,q1,q2⟩
  ·grind [fU,gy]
  rcases fU f d with rfl|⟨r,hr,er,y,z⟩
  ·grind [gy]
  rw[eq,er]; exact h.up q r (by omega) hr
 ·rw[m]at b;rw[l]
  rcases fU f b with rfl|⟨r,hr,er,_,_⟩
  ·rw[gy]; exact⟨x,by show nU 0; grind [nU]⟩
  simp_all [h.wf]
 rw[m]at b;rw[l]
 rcases fU f b with rfl|⟨r,hr,er,_,_⟩
 ·rw[gy]; exact⟨u.1,u.2.1,z⟩
 rw[er];obtain⟨A,B,C⟩:=h.ga r hr;exact⟨A,B,y _ _ C⟩
attribute [local irreducible] iw eO in
theorem Vt(h:wP L)(w:dG v=true)(s:jB v)(u:kF L v=0):wP (nG L v):=by
 obtain⟨t,x⟩:=Sr (L:=L) (a:=aX v) (r:=v.bK) (nG L v) rfl rfl;have e : ∀ q,(nG L v).g q=if q=EC L v then aN (L.g (EC L v)) 4 v.bK else L.g q:=fun q=>rfl;have b : ∀ j p,(p=0\/p=1)->(nG L v).g j p=L.g j p:=fun j p o=>by
  rw[e];by_cases c:j=EC L v
  ·subst c; rw[d_ rfl]; rcases o with rfl|rfl <;> rfl
  simp_all
 refine⟨fun i j m n => ?_,fun q d => ?_,fun q d => ?_⟩
 ·unfold pX;rw[b i 0 (.inl rfl),b i 1 (.inr rfl),b j 0 (.inl rfl),b j 1 (.inr rfl)];exact h.up i j m n
 ·rw[b q 1 (.inr rfl)];refine⟨(h.wf q d).1,?_⟩;rw[e];by_cases c:q=EC L v
  ·rw[d_ c]; exact s.bK
  rw[b_ c]; exact(h.wf q d).2
 rw[b q 0 (.inl rfl),b q 1 (.inr rfl)];obtain⟨f,k,l⟩:=h.ga q d;exact⟨f,k,t _ _ l⟩
theorem EL(h:wP L)(l:jB v):wP (fF L v):=by
 unfold fF;by_cases c:dP L v=0
 ·rw[d_ c];have k:=(I4 (mK c)).1;have a:fJ L v=0:=by
   grind [dP]
  have b:wP (kH L v):=by
   unfold fJ at a;unfold kH;by_cases d:v.aI=1
   ·rw[d_ d]; exact⟨h.up,h.wf,h.ga⟩
   rw[b_ d]at a ⊢;by_cases e:v.aI=2
   ·rw[d_ e]; exact⟨h.up,h.wf,h.ga⟩
   rw[b_ e]at a ⊢;by_cases i:v.aI=3
   ·grind [Vs]
   rw[b_ i]at a ⊢;by_cases j:v.aI=4
   ·grind [Vt]
   rw[b_ j]at a ⊢;by_cases f:v.aI=5
   ·rw[d_ f]; exact⟨h.up,h.wf,h.ga⟩
   rw[b_ f];by_cases g:v.aI=6
   ·rw[d_ g]; exact⟨h.up,h.wf,h.ga⟩
   ·rw[b_ g]; exact⟨h.up,h.wf,h.ga⟩
  exact⟨b.up,b.wf,b.ga⟩
 simp_all
theorem Sv(k a:Nat):wP (tT k a).aW:=⟨fun i j _ h=>L_ h (z_ _),fun q h=>L_ h (z_ _),fun q h=>L_ h (z_ _)⟩
theorem iT.TT(k l d e f c b g:Nat):iT (Cr k l d e f c b) (tT k g).aW where
 T:=⟨fun q=>⟨fun h=>(nomatch h),fun⟨i,h,_⟩=>L_ h (z_ _)⟩,rfl,fun i h=>L_ h (z_ _)⟩
 dF:=rfl
 left:=rfl
 aF:=rfl
 row:=fun i h=>L_ h (z_ _)
 own:=fun a _=>rfl
 gi:=fun i j h=>L_ h (z_ _)
 gn:=rfl
 g1:=fun q h=>L_ h (z_ _)
 g2:=fun q h=>L_ h (z_ _)
 Es:=fun a r _=>⟨fun h=>(nomatch h),fun⟨j,h,_⟩=>L_ h (z_ _)⟩
 ga:=fun i h=>L_ h (z_ _)
 li:=fun i j h=>L_ h (z_ _)
structure StC(L:iQ)(m:fO)(l:List Int)(gl:List Qh):Prop where
 nn:l.length=L.nn
 gn:gl.length=L.gn
 n : ∀ k,k<L.nn->l.getD k 0=L.id k/\m.T.par (l.getD k 0)=L.par k/\Jw m (l.getD k 0)=L.R k
 g : ∀ k,k<L.gn->(gl.getD k g0).x=L.g k
theorem StC.of{m:fO}{l:List Int}{c:List Qh}(h:iT m L)(B:Inv0 L N)(r:wP L)(D:l.Pairwise (· < ·) /\ ∀ k,k∈l<->m.T.has k=true)(f:GrS m c):StC L m l c:=by
 have G:=Di D.1 (by
  rw[List.pairwise_map];exact(List.pairwise_lt_range (n:=L.nn)).imp_of_mem fun {a b} _ hb hab=>B.GD a b hab (N_.1 hb)) fun k=>by
  grind [h.T.has]
 have v:c.map Sg=(List.range L.gn).map fun q=>pX (L.g q):=Di (by grind [f.up]) (by
  rw[List.pairwise_map];exact(List.pairwise_lt_range (n:=L.gn)).imp_of_mem fun {a b} _ hb hab=>r.up a b hab (N_.1 hb)) fun k=>by
  rw[List.mem_map,List.mem_map];constructor
  ·rintro ⟨x,t,e⟩;obtain⟨i,s,o⟩:=f.mem x t;obtain⟨q,d,p⟩:=h.g2 i s;refine⟨q,N_.2 d,?_⟩;rw[p,<- o]; exact e
  ·rintro ⟨q,d,e⟩;obtain⟨j,C,w⟩:=h.g1 q (N_.1 d);obtain⟨x,t,A⟩:=f.all j C;refine⟨x,t,?_⟩;rw[<- e,<- w,<- A]; rfl
 have F:c.length=L.gn:=by grind [List.length_map]
 refine⟨by simp_all,F,fun k u => ?_,fun k u => ?_⟩
 ·grind [h.T.par,h.row]
 have E:c.getD k g0∈c:=by simp_all
 have y:Sg (c.getD k g0)=pX (L.g k):=by
  have I:=K_ (fun z=>z.getD k 0) v
  grind
 obtain⟨i,s,o⟩:=f.mem _ E;obtain⟨q,d,p⟩:=h.g2 i s;have H:pX (L.g q)=pX (L.g k):=by rw[p,<- o,<- y]; rfl
 have:q=k:=by
  rcases Nat.lt_trichotomy q k with h5|h5|h5
  ·have:=r.up q k h5 u; omega
  ·omega
  ·have:=r.up k q h5 d; omega
 simp_all
end
end Rt
end Go.Proofs.YtabjalhnkndjaaaGreatDoor
namespace Go.Proofs.YtabjalhnkndjaaaGreatDoor
open Fx hiding E9 Fa HY Jf Jk L R start
open Go.RowKit Go.WideShapes Go.ChangeShapes Go.Deep
theorem ZL{x:Addr}(h:c.cell? x=some O) : ∃ b a,x=⟨b,a,none⟩:=by
 obtain⟨b,a,w⟩:=x
 cases w with
 | none=>exact⟨b,a,rfl⟩
 | some q =>
   unfold World.cell? at h;simp at h;split at h <;> cases h
def At4(a k1 k2 c:IntKind)(w:World)(b off:Nat)(x0 x1 x2 d:Int):Prop :=
 w.cell? ⟨b,off,none⟩=some (.int a x0)/\w.cell? ⟨b,off+1,none⟩=some (.int k1 x1)/\w.cell? ⟨b,off+2,none⟩=some (.int k2 x2)/\w.cell? ⟨b,off+3,none⟩=some (.int c d)
def Wf4(a k1 k2 b:IntKind)(x0 x1 x2 c:Int):Prop:=(Lit.int a x0).wf=true/\(Lit.int k1 x1).wf=true/\(Lit.int k2 x2).wf=true/\(Lit.int b c).wf=true
def Sl4(g k1 k2 h:IntKind)(w:World)(a:Option Addr)(len:Nat)(c d e f:Nat->Int):Prop :=
 ∀ i,i<len->(∃ b j,a=some ⟨b,j,none⟩/\At4 g k1 k2 h w b (j+i*4) (c i) (d i) (e i) (f i))/\Wf4 g k1 k2 h (c i) (d i) (e i) (f i)
def Cu(P:Program):Nat->TypeId->Option (List (Option IntKind))
 | 0,_=>none
 | d+1,t=>match P.underlying t with
   | some (.int k)=>some [some k]
   | some .bool=>some [none]
   | some (.array n e)=>(Cu P d e).bind fun a=>if P.cellsOf e=a.length/\P.cellsOf t=n*a.length then some (List.replicate n a).flatten else none
   | some (.struct fs)=>(fs.toList.foldlM (fun l f=>(Cu P d f.type).bind fun a=>if f.offset=l.length/\P.cellsOf f.type=a.length then some (l++a)else none) []).bind fun l=>if P.cellsOf t=l.length then some l else none
   | _=>none
def MO(k:Option IntKind)(v:Value):Prop:=match k with|some k => ∃ n,v = .int k n/\(Lit.int k n).wf=true|none => ∃ b,v = .bool b
def aln(ks:List (Option IntKind))(cs:List Value):Prop:=cs.length=ks.length /\ ∀(j:Nat) (k:Option IntKind),ks[j]? = some k -> ∃ v,cs[j]? = some v/\MO k v
theorem NR{ks:List (Option IntKind)}{k:Option IntKind} : ∀(n j:Nat),(List.replicate n ks).flatten[j]? = some k->ks[j % ks.length]? = some k/\j / ks.length<n
 | 0,j,h=>by simp at h
 | n+1,j,h=>by
   rw[List.replicate_succ,List.flatten_cons]at h;by_cases c:j<ks.length
   ·grind [Nat.mod_eq_of_lt,Nat.div_eq_of_lt]
   ·rw[List.getElem?_append_right (by omega)]at h;have d:0<ks.length:=by
     rcases Nat.eq_zero_or_pos ks.length with e|e
     ·simp_all
     omega
    obtain⟨a,b⟩:=NR n _ h
    grind [Nat.mod_eq_sub_mod,Nat.div_eq_sub_div]
section
variable {H:Type} {enc:TypeId × Value->H} {P:Program} {w:World} {base:Nat} {spare:Nat->Bool} {held:Bool}
theorem K4(h:aln M ((o.drop m).take b))(d:b=M.length)(a:M[j]? = some E) : ∃ v,o[m+j]? = some v/\MO E v:=by
 obtain⟨n,ks,c⟩:=h.2 j E a
 grind
theorem G6 : ∀(d:Nat) (t:TypeId) (o:List (Option IntKind)),Cu P d t=some o -> ∀(B:Nat) (c:List Value) (x:DataW H × List MemPlace),DataW.trod enc P w base spare held B t c=some x->aln o c
 | 0,_,_,h=>by simp[Cu]at h
 | d+1,t,o,h=>by
   intro B c x s;unfold Cu at h;split at h
   ·rename_i k hu;simp only[Option.some.injEq]at h; subst h;obtain⟨n,rfl,_,O⟩:=DataW.trod_int hu s;refine⟨rfl,fun j R a => ?_⟩
    match j,a with
    | 0,a=>simp at a; subst a; exact⟨_,rfl,n,rfl,O⟩
    | j+1,a=>simp_all
   ·rename_i hu;simp only[Option.some.injEq]at h; subst h;obtain⟨b,rfl,_⟩:=DataW.trod_bool hu s;refine⟨rfl,fun j R a => ?_⟩
    match j,a with
    | 0,a=>simp at a; subst a; exact⟨_,rfl,b,rfl⟩
    | j+1,a=>simp_all
   ·rename_i n e hu;obtain⟨E,M,h⟩:=Option.bind_eq_some_iff.1 h;split at h
    ·rename_i hc;simp only[Option.some.injEq]at h; subst h;obtain⟨T,m,_,_,q,N,F⟩:=DataW.trod_array hu s;refine⟨by simp_all,fun j k a => ?_⟩;obtain⟨r,u⟩:=NR n j a;have A:=F (j / E.length) u;rw[o_ (by omega),hc.1]at A;have:=K4 (G6 d e E M _ _ _ A) rfl r
     grind [Nat.div_add_mod]
    simp_all
   ·rename_i fs hu;obtain⟨l,q,h⟩:=Option.bind_eq_some_iff.1 h;split at h
    ·rename_i hc;simp only[Option.some.injEq]at h; subst h;obtain⟨T,m,_,_,Y,N,V⟩:=DataW.trod_struct hu s;refine⟨by omega,?_⟩;have G : ∀ f,f∈fs.toList -> ∃ y,DataW.trod enc P w base spare held m f.type ((c.drop f.offset).take (P.cellsOf f.type))=some y:=by
      intro f I;obtain⟨i,A,e⟩:=List.mem_iff_getElem.1 I;have W:i<fs.size:=(by omega);have r:fs[i]? = some f:=by simp_all
      grind
     have S : ∀(L:List Field) (p:List (Option IntKind)),(∀ f,f∈L -> ∃ y,DataW.trod enc P w base spare held m f.type ((c.drop f.offset).take (P.cellsOf f.type))=some y)->(∀(j:Nat) (k:Option IntKind),p[j]? = some k -> ∃ v,c[j]? = some v/\MO k v) -> ∀ l,L.foldlM (fun l f=>(Cu P d f.type).bind fun o=>if f.offset=l.length/\P.cellsOf f.type=o.length then some (l++o)else none) p=some l -> ∀(j:Nat) (k:Option IntKind),l[j]? = some k -> ∃ v,c[j]? = some v/\MO k v:=by
      intro L
      induction L with
      | nil=>simp_all
      | cons f L ih =>
        intro p C U l q;rw[List.foldlM_cons]at q;obtain⟨Z,r,u⟩:=Option.bind_eq_some_iff.1 q;obtain⟨D,K,z⟩:=Option.bind_eq_some_iff.1 r;split at z
        ·rename_i hcc;simp only[Option.some.injEq]at z; subst z;refine ih (p++D) (fun g J=>C g (List.mem_cons_of_mem _ J)) (fun j k a => ?_) l u;by_cases X:j<p.length
         ·simp_all [List.getElem?_append_left]
         ·rw[List.getElem?_append_right (by omega)]at a;obtain⟨y,Q⟩:=C f (List.mem_cons_self ..);have:=K4 (G6 d f.type D K _ _ _ Q) hcc.2 a
          simp_all
        simp_all
     exact S fs.toList [] G (fun j k a=>by simp_all) l q
    simp_all
   simp_all
end
section
variable {H:Type} {enc:TypeId × Value->H} {P:Program} {w:World} {base:Nat} {spare:Nat->Bool} {held:Bool}
theorem ZM{x:DataW H × List MemPlace}(t:P.underlying K=some (.slice T))(G:Cu P b T=some M)(u:P.cellsOf T=M.length)(s:0<M.length)
 (h:DataW.trod enc P w base spare held k K o=some x) : ∃ a c f,o = [.slice a c f]/\c<=maxLen/\c<=f /\ ∃ X:Nat->Nat->Value,(∀ i,i<c -> ∀(j:Nat) (fuel:Option IntKind),M[j]? = some fuel->MO fuel (X i j))/\Fx.iB w a c M.length (dn M.length X):=by
 rcases open_slice t h with ⟨rfl,_⟩|⟨a',c,f,m,n,D',Pl,rfl,_,hl,hm,hmm,_,hx⟩
 ·exact⟨none,0,0,rfl,by omega,A_ _,fun _ _=>undef,fun i d=>L_ d (by omega),fun h=>L_ h (by omega)⟩
 have R:c<=m:=by grind
 have l : ∀ i j:Nat,∃ q:Value,i<c -> ∀ fuel,M[j]? = some fuel->w.cell? (a'.add (i*M.length+j))=some q/\MO fuel q:=by
  intro i j;by_cases d:i<c/\j<M.length
  ·obtain⟨L,r,z⟩:=hx i (by omega);rw[u]at r;obtain⟨_,Q,O⟩:=World.cells?_some r;obtain⟨q,ks,N⟩:=(G6 _ _ _ G _ _ _ z).2 j _ (o_ d.2)
   simp_all [add_add]
  simp_all
 refine⟨some a',c,f,rfl,by omega,hl,fun i j=>Classical.choose (l i j),fun i d j fuel J=>(Classical.choose_spec (l i j) d fuel J).2,fun A => ?_⟩;have v:a'.add (0*M.length+0)=a':=by grind [Addr.add]
 obtain⟨e,B⟩:=l 0 0;have I:=o_ s;have C:=(B A _ I);have E:=C.1;rw[v]at E;have g : ∃ D cs,a'=⟨D,cs,none⟩:=by
  grind [ZL]
 obtain⟨D,cs,g⟩:=g;refine⟨D,cs,by rw[g],fun p S => ?_⟩;have F:p % M.length<M.length:=I_ _ s;have d:p / M.length<c:=Nat.div_lt_of_lt_mul (by grind);have:=(Classical.choose_spec (l (p / M.length) (p % M.length)) d _ (o_ F)).1;have y:a'.add (p / M.length*M.length+p % M.length)=⟨D,cs+p,none⟩:=by rw[g,nR,Nat.mul_comm,Nat.div_add_mod]
 exact(K_ w.cell? y).symm.trans this
end
section
variable {H:Type} {enc:TypeId × Value->H} {P:Program} {w:World}
theorem iB.qU(h:Fx.iB w u m k x)(e : ∀ p,p<m*k->x p=y p):Fx.iB w u m k y:=fun f=>by
 obtain⟨b,j,d,g⟩:=h f;exact⟨b,j,d,fun i c=>by rw[<- e i c]; exact g i c⟩
end
end Go.Proofs.YtabjalhnkndjaaaGreatDoor
namespace Go.Proofs.YtabjalhnkndjaaaGreatDoor
open Go.Proofs.Tryz
open Fx hiding E9 Fa HY Jf Jk L R start
open Go.RowKit Rt
namespace Rt
def stL(L:iQ)(c:Option Addr)(d:Nat)(a:Option Addr)(b:Nat):Bn:=⟨L.dF,L.left,L.aF,c,L.nn,d,a,L.gn,b⟩
def ndL(L:iQ):Nat->Nat->Value:=fun k=>mV (L.id k) (L.par k) (L.R k)
def grL(L:iQ):Nat->Nat->Value:=fun k=>lQ (L.g k)
structure LWf(L:iQ):Prop where
 n : ∀ k,k<L.nn->nU (L.id k)/\nU (L.par k) /\ ∀ p,p<54->Br (L.R k p)
 g : ∀ k,k<L.gn->Br (L.g k 0)/\nU (L.g k 1)/\nU (L.g k 2)/\Br (L.g k 3)/\nU (L.g k 4)
 k : ∀ i,i<6->nU (L.aF i)
 bn:L.nn<=900000
 bg:L.gn<=900000
theorem LWf.of{L:iQ}{N:Nat}(a:Inv0 L N)(o:EG L)(m:wP L)(A:N<=900000):LWf L where
 n:=fun k c=>by
  have y:=a.Rj k c;have z:=a.top k c;have f:=qh (a.iV k c);refine⟨⟨by omega,by omega⟩,?_,fun p r=>by have:=f p r; exact⟨by omega,by omega⟩⟩
  rcases a.up k c with e|⟨j,b,e⟩
  ·rw[e]; exact⟨by omega,by omega⟩
  ·have h:=a.Rj j b;have l:=a.top j b;rw[<- e]; exact⟨by omega,by omega⟩
 g:=fun k c=>by
  obtain⟨d,u,v,w,x⟩:=o.gb k c;obtain⟨s,t⟩:=m.wf k c;obtain⟨j,b,e⟩:=kZ.1 d;rw[a.GA]at b;rw[(a.IY j b).1]at e;have h:=a.Rj j b;have l:=a.top j b;exact⟨⟨by omega,by omega⟩,s,by rw[<- e]; exact⟨by omega,by omega⟩,⟨by omega,by omega⟩,t⟩
 k:=fun i q=>by have:=a.kn i q; exact⟨by omega,by omega⟩
 bn:=by grind [a.nn]
 bg:=by grind [a.gn]
end Rt
structure LX(w:World)(s:Bn)(L:iQ):Prop where
 e:s=stL L s.na s.nc s.ga s.gc
 n:iB w s.na L.nn 56 (dn 56 (ndL L))
 g:iB w s.ga L.gn 5 (dn 5 (grL L))
theorem LX.ldg{w:ow}(h:H6 c m w):LX c w.s w.aW:=⟨rfl,h.an,h.ag⟩
theorem LX.of{w:World}{B:Nat}{m:fO}{s:Bn}{l:List Int}{f:List Qh}{L:iQ}{N:Nat}(h:StQ w B m s l f)(a:iT m L)(o:Inv0 L N)(i:wP L):LX w s L:=by
 have b:=StC.of a o i h.ls h.gs;have d:s.nn=L.nn:=by rw[h.nn,b.nn]
 have e:s.gn=L.gn:=by rw[h.gn,b.gn]
 refine⟨?_,?_,?_⟩
 ·cases s
  grind [stL,h.dF,h.left,h.aF,a.dF,a.left,a.aF]
 ·have:=h.n.oI;rw[d]at this;refine iB.qU this<|bZ fun k c j _ => ?_;obtain⟨p,q,r⟩:=b.n k c
  simp_all [J8,ndL]
 have:=h.g.oI;rw[e]at this;refine iB.qU this<|bZ fun k c j _ => ?_;unfold grQ grL;rw[b.g k c]
namespace Rt
def Sw(x y:Value):Nat->Value:=fun q=>if q=0 then x else y
theorem atu(x y v:Value):dN (Sw x y) 0 v=Sw v y:=by grind [dN,Sw]
theorem atv(x y v:Value) : ∀ j,j<2->dN (Sw x y) 1 v j=Sw x v j:=fun j a=>by
 unfold dN Sw
 rcases j with _|_|j
 ·rfl
 ·rfl
 ·omega
def K5(a:Nat->Nat):Nat->Value:=fun i=>(pt (a i))
def NS(w:World)(B n:Nat)(b:Nat->Nat)(a:Nat->ow):Prop := ∀ i,i<n->zU w B (b i) (a i)
theorem NS.up{w w':World}{B n:Nat}{b:Nat->Nat}{a:Nat->ow}(h:NS w B n b a)(c:Below w.heap.size w w'):NS w' B n b a:=fun i d=>(h i d).up c
instance {w w':World} {B n:Nat} {c:Nat->Nat} {a:Nat->ow}:Rt.Tr w w' (NS w B n c a) (NS w' B n c a):=⟨fun b h=>h.up b⟩
theorem NS.nA{w w':World}{B n:Nat}{c:Nat->Nat}{b:Nat->ow}{a:List TypeId}(h:NS w B n c b)(e:jk a w w')(f:(QT.all fun T => !a.contains T)=true):NS w' B n c b:=fun i d=>(h i d).nA e f
instance {w w':World} {B n:Nat} {d:Nat->Nat} {c:Nat->ow} {a:List TypeId}:Rt.Tc a w w' (NS w B n d c) (NS w' B n d c) (QT.all fun T => !a.contains T):=⟨fun b h e=>h.nA b (by simpa using e)⟩
theorem NS.put{a:Nat->ow}{B:ow}(h:NS c m b s a)(d:zU c m j B):NS c m b (aN s k j) (aN a k B):=fun i w=>by
 unfold aN;by_cases e:i=k
 ·rw[d_ e,d_ e]; exact d
 ·rw[b_ e,b_ e]; exact h i w
theorem NS.snoc{a:Nat->ow}{n:ow}(h:NS c k m s a)(w:zU c k b n):NS c k (m+1) (aN s m b) (aN a m n):=fun i d=>by
 unfold aN;by_cases e:i=m
 ·rw[d_ e,d_ e]; exact w
 ·rw[b_ e,b_ e]; exact h i (by omega)
theorem aoZ : ∀ j,j<(m+1)*1->gP (K5 s) (m*1) (bJ x (0*1) 1 (fun _=>(pt k))) j=K5 (aN s m k) j:=by
 grind [gP,K5,aN,bJ]
theorem aej:dN (K5 s) m (pt k)=K5 (aN s m k):=by
 grind [dN,K5,aN]
theorem apa{e:Nat->dA}{v:dA} : ∀ j,j<(m+1)*14->gP (evX e) (m*14) (bJ x (0*14) 14 (dH v)) j=evX (aN e m v) j:=fun j a =>
 (BL j a).trans (bZ (fun i _ q _=>by unfold wu aN; split <;> rfl) j a)
structure WM where
 n:Nat
 la:Option Addr
 lc:Nat
 pl:Nat->Nat
 ml:Nat->ow
 an:Nat
 aa:Option Addr
 ac:Nat
 ev:Nat->dA
end Rt
structure sj(w:World)(B p:Nat)(M:WM)(T:Nat):Prop where
 c:aM w p 2 (Sw (.slice M.la M.n M.lc) (.slice M.aa M.an M.ac)) 38
 l:aY w B 49 1 (.slice M.la M.n M.lc) M.n (K5 M.pl)
 a:aY w B 30 14 (.slice M.aa M.an M.ac) M.an (evX M.ev)
 g:NS w B M.n M.pl M.ml
 uU : ∀ i,i<M.n->UL (M.ml i).aW T
 wf : ∀ k,k<M.an->jB (M.ev k)
 iV : ∀ k,k<M.an->dG (M.ev k)=true
 sm : ∀ k,k<M.an->wL (M.ev k)
 cz:Cz M.n M.an M.ev fun o=>(M.ml o).s.aF
 pB:B<=p
 n1:1<=M.n
 n6:M.n<=6
theorem sj.up{w w':World}{B p T:Nat}{M:WM}(h:sj w B p M T)(b:Below w.heap.size w w'):sj w' B p M T := { h with c:=h.c.cK (Sb b) (u_ h.c.lt),l:=h.l.up b,a:=h.a.up b,g:=h.g.up b }
instance {w w':World} {B p T:Nat} {M:WM}:Rt.Tr w w' (sj w B p M T) (sj w' B p M T):=⟨fun b h=>h.up b⟩
theorem aiN(d:aM h j 27 (nQ (tT k m)) 48)(f:aM h m 1 (fun _ => .slice none 0 0) 136)(h1:b<=j)(a:b<=m):zU h b j (tT k m) where
 c:=d
 n:=wm _ _ _ _ _
 g:=wm _ _ _ _ _
 tc:=f
 t:=wm _ _ _ _ _
 r:=⟨fun _ _=>wm _ _ _ _ _,fun _ _ _ _ _ _ e=>by cases e⟩
 pB:=h1
 tB:=a
 bn:=J_ _
 bg:=J_ _
 bt:=J_ _
 br:=fun _ _=>J_ _
theorem Rt.FW(k a:Nat):UL (tT k a).aW 0 where
 GA:=rfl
 nn:=J_ _
 IY:=fun _ h=>L_ h (z_ _)
 GD:=fun _ _ _ h=>L_ h (z_ _)
 Rj:=fun _ h=>L_ h (z_ _)
 top:=fun _ h=>L_ h (z_ _)
 up:=fun _ h=>L_ h (z_ _)
 Zi:=fun _=>⟨0,J_ _,by show(-1:Int)<0; decide⟩
 gn:=A_ _
 rn:=fun _ _=>A_ _
 iV:=fun _ h=>L_ h (z_ _)
 g47:=fun _ h=>L_ h (z_ _)
 kn:=fun _ _=>⟨M_ _,by show(0:Int)<_; decide⟩
 s:=⟨fun _ h=>L_ h (z_ _),fun _ h=>L_ h (z_ _)⟩
 b:=⟨fun _ _=>M_ _,fun _ h=>L_ h (z_ _),fun _ _ _ h=>L_ h (z_ _)⟩
set_option maxRecDepth 20000 in
theorem Vu(n:Nat)(w:World)(V:1<=n)(W:n<=6) :
 Calls prog 5 #[av (n:Int)] w fun e w' => ∃ p M,e = .returned (pt p)/\M.n=n/\M.an=0/\(∀ i,(M.ml i).aW=(tT n 0).aW)/\sj w' w.heap.size p M 0/\Below w.heap.size w w':=by
 refine bX func5 30 ?_;refine ay<|au (.pointer none)<|aC<|ay<|au (.agg (aA 2 (fun _ => .slice none 0 0)))<|oq fun b P kV X s1 z1 => ?_;have b1:=bL s1.bP (Below.refl w.heap.size w);have tJ:=iy kV;have vB:=X.lt;refine au (pt b)<|aC<|aQ<|ay<|au (av 0)<|aC<|Wb ?_;have m2:aM P b 2 (Sw (.slice none 0 0) (.slice none 0 0)) 38:=X.congr (fun j _=>by unfold Sw; split <;> rfl)
 have m3:aY P w.heap.size 49 1 (.slice none 0 0) 0 (K5 (fun _=>0)):=wm _ _ _ _ _;have m4:NS P w.heap.size 0 (fun _=>0) (fun _=>tT n 0):=fun _ h=>L_ h (z_ _);refine Wo (fun f G => ∃ k:Nat,∃ a:Option Addr,∃ u:Nat,∃ t:Nat->Nat,∃ r:Nat->ow,k<=n/\(∀ i,∃ z,r i=tT n z)/\f 0=av (n:Int)/\f 3=(pt b)/\f 4=av (k:Int)/\aM G b 2 (Sw (.slice a k u) (.slice none 0 0)) 38/\aY G w.heap.size 49 1 (.slice a (k) (u)) k (K5 t)/\NS G w.heap.size k t r/\Below w.heap.size w G) (fun f _=>(n-(intOf (f 4)).toNat)) ⟨0,none,0,(fun _=>0),(fun _=>tT n 0),by omega,(fun _=>⟨0,rfl⟩),ic,(by rfl),ic,m2,m3,m4,b1⟩ ?_;rintro f1 w2 ⟨k,a,u,t,r,hk,F,J,E,K,m5,m6,m7,A⟩;refine aQ<|ay<|bA K<|bA J ?_;by_cases S:(k:Int)<(n:Int)
 ·refine Lv aH (fK S)<|aC<|aP<|Wk<|sN<|aQ<|Wb<|ay<|bA J<|lX (ark n _ V W) ?_;rintro e9 w3 ⟨d,O,T,hp3,_,hb3,hc3,ht3,aCO⟩;refine⟨.tuple #[(pt d),av 0],T,?_⟩;clear T;have⟨N,m9,m10,Q⟩:=jv hb3 m5 m6 m7 A;have hL1:zU w3 w.heap.size d (tT n O):=aiN hc3 ht3 (m_ A.size hp3) (m_ A.size aCO);refine au (.tuple #[(pt d),av 0])<|au (pt d)<|au (av 0)<|au (pt d)<|au (av 0)<|aC<|Wl<|bA E<|bA E<|au (pt b)<|au (pt b)<|Lv (.slice a (k) (u)) (aR N.aJ 0)<|au (pt d)<|uz (vs := [(0,(pt d))]) (s:=1) (zc:=fun _ => .pointer none) (y:=bJ (fun j => .pointer none) (0*1) 1 (fun _=>(pt d))) (by rfl) rfl rfl underlying35 (by kernel_rfl) (by rfl) (by rfl) (by kernel_rfl) (by rw[aT (off:=0*1) (s:=1) (y:=fun _=>(pt d)) rfl (bG (by rfl)) (by rfl)]; rfl) rfl fun g2 w4 I Y s3 z2 => ?_;have⟨kY,L,m14,m15,H⟩:=oK s3.bP N m9 m10 hL1 Q;have xw:=gQ I Q.size;have KQ:=gD I N.lt;have EI:(.slice a (k) (u):Value).ownBlock≠some g2:=by rw[I]; exact m9.gW (A_ _)
  have zR:=Y.lt;refine xX (B:=w.heap.size) (s:=1) (bytes:=8) (k:=k) (m:=1) (v := .slice a (k) (u)) (x:=K5 t) (by rfl) rfl rfl rfl underlying35 (by kernel_rfl) (by kernel_rfl) rfl rfl L Y.aJ (CZ (fun _=>rfl)) (by omega) (by omega) (by omega) H.size fun D C w5 ho1 U vE hlt1 => ?_;have gT:=yc U L;have⟨Z,m18,m19⟩:=wB gT kY m14 m15;have m16:aY w5 w.heap.size 49 1 (dz D (k+1) C) (k+1) (K5 (aN t k d)):=(ho1.congr (fun j hj=>aoZ j hj));have R:Below w.heap.size w w5:=sO H U H.size (fun q hq=>(L.ge hq).1);refine au (pt b)<|au (pt b)<|jf Z 0 (dz D (k+1) C) fun w6 m20 s4 z3 => ?_;have mG:aM w6 b 2 (Sw (dz D (k+1) C) (.slice none 0 0)) 38:=m20.to (atu _ _ _);have jC:=gJ s4 Z.ty;have⟨m22,m23,m24⟩:=wB jC m18 m19 m16;have b6:=s4.below R R.size (by omega);refine Ln<|bS<|sN<|Wl<|bA K<|Lv (av ((k:Int)+1)) gu<|au (av ((k:Int)+1))<|Ln ?_;have mU:NS w6 w.heap.size (k+1) (aN t k d) (aN r k (tT n O)):=m22.snoc m23
  skip
  refine iA ⟨k+1,(some ⟨D,0,none⟩),C,(aN t k d),(aN r k (tT n O)),by omega,(fun i=>by unfold aN; split <;> first|exact⟨_,rfl⟩|exact F i),(J.trans ic),E,ic,mG,m24,mU,b6⟩ ?_
  show(n-(intOf (av ((k:Int)+1))).toNat)<_;simp only[K,intOf]; omega
 refine Lv aD (fM S)<|aC<|aL<|Wx<|cZ<|iC<|dB<|sN<|ay<|bA E<|au (pt b)<|aC<|Wr<|aK (pt b) ?_;obtain rfl:k=n:=by omega
 exact⟨b,⟨k,a,u,t,r,0,none,0,fun _=>⟨0,0,fun _=>0,0,0,0,0,0,0⟩⟩,rfl,rfl,rfl,(fun i=>by obtain⟨z,e⟩:=F i; show(r i).aW=_; rw[e]; rfl),{ c:=m5,l:=m6,a:=wm _ _ _ _ _,g:=m7,uU:=fun i _=>by obtain⟨z,e⟩:=F i; show UL (r i).aW 0; rw[e]; exact FW k z,wf:=fun _ h=>L_ h (z_ _),iV:=fun _ h=>L_ h (z_ _),sm:=fun _ h=>L_ h (z_ _),cz:=Cz.zero k (fun o _=>by obtain⟨z,e⟩:=F o; show(r o).s.aF=_; rw[e]; rfl),pB:=tJ,n1:=V,n6:=W },A⟩
end Go.Proofs.YtabjalhnkndjaaaGreatDoor
namespace Go.Proofs.YtabjalhnkndjaaaGreatDoor
open Go.Proofs.Tryz
open Fx hiding E9 Fa HY Jf Jk L R start
open Go.RowKit Go Rt
namespace Rt
section
variable {L:iQ} {N:Nat} {v:dA}
theorem Vv(a:Inv0 L N)(h:EG L):EG (fF L v):=by
 unfold fF;by_cases c:dP L v=0
 ·rw[d_ c];have d:=(I4 (mK c)).1;have b:fJ L v=0:=by
   grind [dP]
  have:=Nh a h d b;exact⟨this.us,this.gb⟩
 simp_all
structure NT(m m':fO):Prop where
 et:m'.tp=m.tp
 em:m'.mb=m.mb
 ep:m'.pb=m.pb
 er:m'.rb=m.rb
 eg:m'.gb=m.gb
 ea:m'.ab=m.ab
end
end Rt
structure K6(w:World)(B lp:Nat)(m:fO)(L:iQ)(N:Nat):Prop where
 q:pF w B lp m
 s:iT m L
 i:Inv0 L N
 u:EG L
 g:wP L
section
variable {w w':World} {B lp:Nat} {m:fO} {L:iQ} {N:Nat} {v:dA}
theorem K6.up(h:K6 w B lp m L N)(a:Below w.heap.size w w'):K6 w' B lp m L N := { h with q:=h.q.up a }
instance:Rt.Tr w w' (K6 w B lp m L N) (K6 w' B lp m L N):=⟨fun b h=>h.up b⟩
theorem K6.nA{a:List TypeId}(h:K6 w B lp m L N)(b:jk a w w')(c:(a.contains 84 || a.contains 141)=false):K6 w' B lp m L N := { h with q:=h.q.nA b c }
instance {a:List TypeId}:Rt.Tc a w w' (K6 w B lp m L N) (K6 w' B lp m L N) (!(a.contains 84 || a.contains 141)):=⟨fun b h e=>h.nA b (by simpa using e)⟩
theorem K6.Mr{a:Nat}(h:K6 w B lp m L N)(b:a<=B):K6 w a lp m L N := { h with q:=h.q.Mr b }
theorem K6.wf(h:K6 w B lp m L N)(a:N<=900000):LWf L:=LWf.of h.i h.u h.g a
theorem pF.Vy(h:pF w B lp m)(a:ko (Ao m lp w.heap.size) w w')(c:B<=w.heap.size):Below B w w':=⟨a.os,a.tape,a.output,a.size,fun k d=>a.block k (by omega) fun b=>by
 rcases b with b|b
 ·have:=(h.ltS b).1; omega
 omega⟩
theorem pF.typed(h:pF w B lp m)(d:ko (Ao m lp w.heap.size) w w'):Mq [84] w w':=⟨d.os,d.tape,d.output,d.size,fun k T b f=>d.block k b.ltw fun e=>by
 rcases e with (rfl|rfl|rfl|rfl|rfl|rfl)|e
 ·grind [Ty.only,h.c.ty]
 ·exact h.t.map.xK b
 ·exact h.p.xK b
 ·exact h.r.xK b
 ·exact h.g.xK b
 ·exact h.a.xK b
 grind [b.ltw]⟩
theorem aCP(a:Below h.heap.size h U)(e:Below B U c)(d:h.heap.size<=B):Below h.heap.size h c:=a.trans (e.mono d)
theorem NU{P:Program}{a b:Array Value}{R:Ending->World->Prop}(h:Calls P k b w R)(e:a=b):Calls P k a w R:=e ▸ h
theorem aiO(hy : ∀ j,j<14->y j=dH v j):(#[O,.agg (aA 14 y)]:Array Value) = #[O,.agg (aA 14 (dH v))]:=K_ (fun z=>(#[O,.agg z]:Array Value)) (fI hy)
theorem atw(k:Nat)(d:1<=k/\k<=6)(w:World):Calls prog 7 #[av (k:Int)] w fun e w' => ∃ lp m,e = .returned (.tuple #[(pt lp),av 0])/\K6 w' w.heap.size lp m (tT k 0).aW 0/\Below w.heap.size w w' :=
 (atm _ d w).mono fun e w' ⟨lp,m,c,⟨n,i,j,l,h,g,a⟩,f,b⟩=>⟨lp,m,c,⟨f,by rw[a]; exact iT.TT ..,(FW k 0).toInv0,(FW k 0).s,Sv k 0⟩,b⟩
theorem aiP(h:K6 w B lp m L N)(a:jB v)(b:1<=B)(c:jM w 0 0 8 Vo)(hy : ∀ j,j<14->y j=dH v j) :
 Calls prog 9 #[(pt lp),.agg (aA 14 y)] w fun e w'=>e = .returned (av (dP L v))/\K6 w' B lp (mI m v) (fF L v) (N+1)/\ko (Ao m lp w.heap.size) w w':=by
 have k:=h.s.apply h.q.t.uU h.i v;refine NU ((aiz _ _ _ _ h.q _ a (h.s.sound h.q.t.uU h.i) b c).mono fun e w' ⟨l,f,d⟩=>⟨by simp_all,⟨f,k.2,EF h.i,Vv h.i h.u,EL h.g a⟩,d⟩) (aiO hy)
structure TY(w:World)(B:Nat)(s:Bn)(L:iQ):Prop where
 e:s=stL L s.na s.nc s.ga s.gc
 n:aY w B 69 56 (.slice s.na L.nn s.nc) L.nn (dn 56 (ndL L))
 g:aY w B 96 5 (.slice s.ga L.gn s.gc) L.gn (dn 5 (grL L))
theorem TY.r{s:Bn}(h:TY w B s L):LX w s L:=⟨h.e,h.n.oI,h.g.oI⟩
theorem aiQ(h:K6 w B lp m L N)(z:N<=900000):Calls prog 12 #[(pt lp)] w fun e w' => ∃ s,e = .returned (.agg (aA 20 (dS s)))/\TY w' w.heap.size s L/\Below w.heap.size w w':=by
 refine(aiK _ _ _ _ h.q (by grind [h.s.gn,h.i.gn])).mono fun e w' ⟨s,l,u,t,a,r⟩=>⟨s,t,?_,r⟩;have b:=StC.of h.s h.i h.g a.ls a.gs;have o:s.nn=L.nn:=by rw[a.nn,b.nn]
 have p:s.gn=L.gn:=by rw[a.gn,b.gn]
 have f:=a.n;have d:=a.g;rw[o]at f;rw[p]at d;refine⟨(LX.of a h.s h.i h.g).e,f.congr (bZ fun k c j _ => ?_),d.congr (bZ fun k c j _ => ?_)⟩
 ·obtain⟨v,x,y⟩:=b.n k c
  simp_all [J8,ndL]
 unfold grQ grL;rw[b.g k c]
end
end Go.Proofs.YtabjalhnkndjaaaGreatDoor
namespace Go.Proofs.YtabjalhnkndjaaaGreatDoor
open Go.Proofs.Tryz
open Fx hiding E9 Fa HY Jf Jk L R start
open Go.RowKit Rt
namespace Rt
def ndW:Int:=1099511627777
def atx(n:Int)(i:Nat):Int:=if i=0 then n else 0
def vA:dA:=⟨1,1,fun _=>0,1,0,0,10,0,0⟩
def vC:dA:=⟨1,2,atx 1,5,ndW,2,4,0,0⟩
def vD:dA:=⟨2,1,atx 2,3,ndW,0,4,1,0⟩
theorem aek(b:f.T.ok)(v:dA):(mI f v).T.ok:=by
 unfold mI;by_cases c:eT f v=0
 ·rw[d_ c];have m:=uY c;have a:=(uZ c).2.1;have g:=rR m;show(kL f v).T.ok;unfold ig at a;unfold kL;by_cases d:v.aI=1
  ·rw[d_ d]at a ⊢;have e:f.T.Eb (qX v) v.node=0:=by
    unfold kX at a;split at a
    ·cases a
    ·exact a
   exact Gi.put b e (by unfold qX; omega)
  rw[b_ d]
  repeat' split
  all_goals exact b
 rw[b_ c]; exact b
structure Jz(m:fO)(L:iQ)(N:Nat):Prop where
 s:iT m L
 t:m.T.ok
 i:Inv0 L N
theorem Jz.TT(k:Nat):Jz (Cr k 0 0 0 0 0 0) (tT k 0).aW 0:=⟨iT.TT ..,Gi.zero _ _,(FW k 0).toInv0⟩
theorem Jz.apply{m:fO}{L:iQ}{N:Nat}(h:Jz m L N)(v:dA):Jz (mI m v) (fF L v) (N+1):=⟨(h.s.apply h.t h.i v).2,aek h.t v,EF h.i⟩
noncomputable def wq0:fO:=Cr 2 0 0 0 0 0 0
noncomputable def IC:fO:=mI wq0 vA
noncomputable def Ma:fO:=mI IC vC
noncomputable def wq3:fO:=mI Ma vD
end Rt
section
namespace Rt
def eY(m:fO):Ab where
 dF:=m.dF
 left:=m.left
 own:=m.own
 has:=m.T.has
 par:=m.T.par
 R:=bQ m
 gh:=lH m
 g:=fun o r j=>if lH m o r=true/\2<=j/\j<=4 then m.g (iD m o r) j else 0
 Es:=jX m
section
variable {m:fO} {T:fD} {x y:Int} {v:dA}
theorem NV{x p:Nat->Int} : ∀ {n:Nat} {k:Int},fV x n k=false->kJ x p n k=0
 | 0,k,_=>rfl
 | n+1,k,h=>by
   have h:(fV x n k || decide (x n=k))=false:=h;rw[Bool.or_eq_false_iff]at h;show(if x n=k then p n else kJ x p n k)=0;rw[b_ (j_ h.2)];exact NV h.1
def Sy(T:fD)(x:Int):Nat->Int
 | 0=>x
 | i+1=>T.par (Sy T x i)
theorem K7(T:fD)(x:Int) : ∀ i,Sy T x (i+1)=Sy T (T.par x) i
 | 0=>rfl
 | i+1=>by show T.par (Sy T x (i+1))=T.par (Sy T (T.par x) i); rw[K7 T x i]
theorem ZN(h:T.has x=false):T.dI x = []:=by
 have : ¬ T.has x=true:=by simp_all
 cases e:T.dI x with
 | nil=>rfl
 | cons a l=>exact L_ (show lV T.x T.p T.n 4 x = []from rW h) (by rw[show lV T.x T.p T.n 4 x=T.dI x from rfl,e]; simp_all)
theorem JA(a:T.ok) : ∀ n x,(T.dI x).length<=n->(∀ i,i<(T.dI x).length->(T.dI x).getD i 0=Sy T x i/\T.has (Sy T x i)=true)/\T.has (Sy T x (T.dI x).length)=false
 | 0,x,hn=>by
   grind [Sy,fD.step]
 | n+1,x,hn=>by
   cases c:T.has x with
   | false =>
     rw[ZN c];exact⟨fun i b=>L_ b (z_ _),c⟩
   | true =>
     have d:=fD.step a c;have g:(T.dI x).length=(T.dI (T.par x)).length+1:=(by simp_all);obtain⟨e,f⟩:=JA a n (T.par x) (by omega);refine⟨fun i b => ?_,by grind [K7]⟩
     cases i with
     | zero=>rw[d]; exact⟨rfl,c⟩
     | succ i =>
       grind [K7]
theorem K8(m:fO)(x:Int) : ∀ i,(eY m).up x i=Sy m.T x i
 | 0=>rfl
 | i+1=>by show m.T.par ((eY m).up x i)=m.T.par (Sy m.T x i); rw[K8 m x i]
theorem Sz(a:T.ok){k:Nat}(h:T.has (Sy T x k)=false) : ∀ i,k<=i->T.has (Sy T x i)=false
 | 0,hi=>by simp_all
 | i+1,hi=>by
   by_cases e:k=i+1
   ·simp_all
   ·have:=Sz a h i (by omega);have b:T.par (Sy T x i)=0:=NV this;show T.has (T.par (Sy T x i))=false;rw[b]; exact Gi.ahR a
theorem G7(f:m.T.ok)(x y:Int):(eY m).on x y=true<->y∈m.T.dI x:=by
 obtain⟨h,j⟩:=JA f _ x (A_ _);have l:=fD.Dl (T:=m.T) (k:=x);unfold Ab.on;rw[Q_,List.any_eq_true,List.mem_iff_getElem];constructor
 ·rintro ⟨o,i,d,e⟩;have e:=h_ e;rw[K8]at e;have n:i<(m.T.dI x).length:=by
   by_cases c:i<(m.T.dI x).length
   ·exact c
   ·have:=Sz f j i (by omega)
    simp_all [eY]
  grind
 rintro ⟨i,d,e⟩;obtain⟨a,b⟩:=h i d;rw[r_,o_ d]at a;have g:=a.symm.trans e;refine⟨by rw[<- g]; exact b,i,N_.2 (by omega),f_ (by grind [K8])⟩
end
end Rt
end
section
namespace Rt
theorem Dn(h:(dU X d A a m).2=0):iV X=true/\1<=d/\d<=1125899906842624/\A=true/\a=0/\X m+d<=1125899906842624/\(dU X d A a m).1=fZ X m (X m+d):=by
 grind [rP]
section
variable {m:fO} {x y:Int} {v:dA}
theorem K9(b:m.T.ok)(d:m.T.has a=true)(r:Nat->Int)(y:Int):bQ (GK m a r) y=if y=a then r else bQ m y:=by
 unfold bQ;show(if m.T.has y=true then aZ m.R (m.idx a) r (m.idx y)else NK)=_;by_cases e:y=a
 ·grind [aZ]
 rw[b_ e];by_cases c:m.T.has y=true
 ·rw[d_ c,d_ c];unfold aZ;rw[b_ ?_]
  ·rfl
  intro q;have k:=(fO.Il b c).2;rw[q,(fO.Il b d).2]at k;exact e k.symm
 rw[b_ c,b_ c]
open Classical in
theorem PE(a:m.T.ok)(f:(Nat->Int)->(Nat->Int) × Int)(x y:Int):bQ (vL m f (m.T.dI x)) y=if y∈m.T.dI x then(f (bQ m y)).1 else bQ m y:=by
 unfold bQ;show(if m.T.has y=true then(if m.T.x (m.idx y)∈m.T.dI x then(f (m.R (m.idx y))).1 else m.R (m.idx y))else NK)=_;by_cases c:m.T.has y=true
 ·rw[d_ c,d_ c,(fO.Il a c).2]; rfl
 grind [fD.rZ]
theorem Dp(b:m.T.ok)(h:eH m H (m.T.dI x)=0)(hy:y∈m.T.dI x):(H (bQ m y)).2=0:=by
 obtain⟨i,a,e⟩:=List.getElem_of_mem hy;have:=KV h i a
 grind [bQ,fD.rZ]
theorem La(h:dG v=true):v.o=(aV v:Int)+1/\aV v<6/\v.o.toNat-1=aV v:=by
 have:=rR h; unfold aV; omega
theorem PG(p:Nat):fZ X k (X k+a) p=X p+if p=k then a else 0:=by
 grind [fZ]
theorem apc(d:m.T.ok)(j:dG v=true)(g:v.aI=1)(a:kX m v=0)(y:Int)(p:Nat):bQ (Ij m v) y p=bQ m y p+(eY m).dl v y p:=by
 have h:m.T.has (qX v)=false:=by
  unfold kX at a;split at a
  ·omega
  ·exact(KH a).2.1
 have f:wU v=qX v:=wK j;unfold Ab.dl;rw[d_ g,f];unfold bQ;show(if(m.T.put (qX v) v.node).has y=true then aZ m.R m.T.n (fZ (fun _=>0) (aX v) v.bF) (DI (aZ m.T.x m.T.n (qX v)) (m.T.n+1) y)else NK) p=_;rw[fD.mo];by_cases e:qX v=y
 ·subst e;rw[f_ rfl,Bool.or_true,d_ rfl,h,b_ (by decide),Sk _ _ _ (fun i k e=>by grind [fD.Ee])];unfold aZ;rw[d_ rfl];show fZ (fun _=>0) (aX v) v.bF p=0+_;unfold fZ;rw[Int.zero_add];by_cases c:p=aX v
  ·rw[d_ c,d_ ⟨rfl,c⟩]
  rw[b_ c,b_ (fun q=>c q.2)]
 rw[g_ e,Bool.or_false,b_ (show ¬ (y=qX v/\p=aV v)from fun q=>e q.1.symm),D_];by_cases c:m.T.has y=true
 ·rw[d_ c,d_ c,Sl _ _ e];have b:=(fO.Il d c).1;have b:DI m.T.x m.T.n y<m.T.n:=b;unfold aZ;rw[b_];rfl
 simp_all
theorem aiR(b:m.T.ok)(g:dG v=true)(d:v.aI=2)(f:mD m v=0)(y:Int)(p:Nat):bQ (yZ m v) y p=bQ m y p+(eY m).dl v y p:=by
 have a:m.T.has v.node=true:=by
  grind [mD]
 unfold Ab.dl;rw[b_,d_ d];unfold yZ;rw[K9 b a];by_cases e:y=v.node
 ·subst e;rw[d_ rfl,PG];unfold bQ;rw[d_ a];show m.R (m.idx v.node) p+(if p=aX v then v.bF else 0)=m.R (m.idx v.node) p+_;by_cases c:p=aX v
  ·rw[d_ c,d_ ⟨rfl,c⟩]
  rw[b_ c,b_ (fun q=>c q.2)]
 simp_all
theorem apd(g:m.T.ok)(w:dG v=true)(i:v.aI=5)(l:nI m v=0)(y:Int)(p:Nat):bQ (Ig m v) y p=bQ m y p+(eY m).dl v y p:=by
 have c:m.T.has v.node=true/\(xO m v).2=0:=by
  grind [nI]
 obtain⟨a,b,q,r,t,u,s,j,k,n,o,h⟩:=Fy c.2;have d:aV v=a:=by unfold aV; omega
 have f:dV v=b:=by unfold dV; omega
 unfold Ab.dl;rw[b_,b_,b_,b_,d_ i,d,f];unfold Ig;rw[K9 g c.1];by_cases e:y=v.node
 ·subst e;rw[d_ rfl];unfold xO;rw[h,PG];unfold bQ;rw[d_ c.1];show m.R (m.idx v.node) p+(if p=18+a*6+b then v.bF else 0)=m.R (m.idx v.node) p+_;omega
 simp_all
theorem ael(off:m.T.ok){f:(Nat->Int)->(Nat->Int) × Int}(b : ∀ y,y∈m.T.dI x->(f (bQ m y)).1=fZ (bQ m y) k (bQ m y k+a))(y:Int)(p:Nat):bQ (vL m f (m.T.dI x)) y p=bQ m y p+if(eY m).on x y=true/\p=k then a else 0:=by
 rw[PE off];by_cases c:y∈m.T.dI x
 ·simp_all [PG,G7]
 grind [G7]
theorem ape(a:m.T.ok)(h:dG v=true)(d:v.aI=3)(g:mQ m v=0)(y:Int)(p:Nat):bQ (nJ m v) y p=bQ m y p+(eY m).dl v y p:=by
 have c:eH m (fun x=>bV x v.o v.bF) (m.T.dI v.node)=0:=by
  grind [mQ]
 unfold Ab.dl;rw[b_,b_,d_ d];refine ael a (f:=fun x=>bV x v.o v.bF) (x:=v.node) (fun y e => ?_) y p;have b:=Dp a c e;unfold bV at b;show(bV (bQ m y) v.o v.bF).1=_;unfold bV
 simp_all [Dn,La]
theorem apf(c:m.T.ok)(i:dG v=true)(h:v.aI=4)(k:lS m v=0)(y:Int)(p:Nat):bQ (jY m v) y p=bQ m y p+(eY m).dl v y p:=by
 have a:lH m v.o v.of=true/\eH m (fun x=>bW x v.o (m.g (iD m v.o v.of) 3)) (m.T.dI (m.g (iD m v.o v.of) 2))=0:=by
  grind [lS]
 have d:(eY m).g v.o v.of 2=m.g (iD m v.o v.of) 2:=d_ ⟨a.1,by decide,by decide⟩;have e:(eY m).g v.o v.of 3=m.g (iD m v.o v.of) 3:=d_ ⟨a.1,by decide,by decide⟩;unfold Ab.dl;rw[b_,b_,b_,d_ h,d,e];refine ael c (f:=fun x=>bW x v.o (m.g (iD m v.o v.of) 3)) (x:=m.g (iD m v.o v.of) 2) (fun y j => ?_) y p;have b:=Dp c a.2 j;unfold bW at b;show(bW (bQ m y) v.o (m.g (iD m v.o v.of) 3)).1=_;unfold bW;rw[(Dn b).2.2.2.2.2.2,(La i).2.2]
theorem SA(a:f.an=m.an+1)(b:f.ao=aZ m.ao m.an v.o)(c:f.ar=aZ m.ar m.an v.bK)(o r:Int):jX f o r=(jX m o r || (decide (o=v.o)&&decide (r=v.bK))):=by
 grind [jX,K3]
theorem aem(h : ¬ (a=d/\V=e)):AY (aZ X k a) (aZ Y k V) (k+1) d e=AY X Y k d e:=by
 have o : ∀ n,n<=k->AY (aZ X k a) (aZ Y k V) n d e=AY X Y n d e:=fun n=>by
  induction n with
  | zero=>intro _; rfl
  | succ n ih =>
    intro c;show(if aZ X k a n=d/\aZ Y k V n=e then n else _)=(if X n=d/\Y n=e then n else _)
    grind [aZ]
 grind [aZ,AY]
theorem aen:AY (aZ X k a) (aZ Y k d) (k+1) a d=k:=by
 show(if aZ X k a k=a/\aZ Y k d k=d then k else _)=_
 grind [aZ]
theorem Dq(g:Nat->Nat->Int)(n:Nat)(r:Nat->Int)(j:Nat):(fun i=>aZ g n r i j)=aZ (fun i=>g i j) n (r j):=by
 funext i; unfold aZ; grind
end
end Rt
end
section
namespace Rt
section
variable {m:fO} {x y:Int} {v:dA}
theorem nZ{c:Bool}(h:c=false):A=(A || c):=by simp_all
theorem SB(h:v.aI≠a):(decide (v.aI=a)&&A)=false:=by simp_all
theorem aeo(e:m.T.ok)(b:dG v=true)(a:v.aI=1)(d:kX m v=0):eY (Ij m v)=(eY m).ru v:=by
 have k:wU v=qX v:=wK b;have f:v.aI≠3:=by omega
 have h:v.aI≠6:=by omega
 have i:v.aI≠7:=by omega
 apply Ab.YZ
 ·funext j; exact nZ (SB h)
 ·funext j; exact nZ (SB i)
 ·funext j
  show aN m.own (aX v) (m.own (aX v)+1) j=m.own j+if v.aI=1/\j=aV v then 1 else 0;unfold aN;by_cases c:j=aX v
  ·rw[d_ c,d_ ⟨a,c⟩,c]
  rw[b_ c,b_ (fun q=>c q.2),D_]
 ·funext y
  show(m.T.put (qX v) v.node).has y=(m.T.has y || (decide (v.aI=1)&&decide (y=wU v)))
  grind [fD.mo]
 ·funext y
  show(m.T.put (qX v) v.node).par y=if v.aI=1/\y=wU v then v.node else m.T.par y
  grind [fD.yN]
 ·funext y p; exact apc e b a d y p
 ·funext o r; exact nZ (SB f)
 ·funext o r j
  show(eY m).g o r j=if v.aI=3/\_ then _ else if v.aI=4/\_ then _ else _;omega
 funext o r
 show jX m o r=(jX m o r || ((decide (v.aI=3) || decide (v.aI=4))&&_))
 simp_all
theorem SC(b:f.dF=m.dF)(c:f.left=m.left)(d:f.own=m.own)(a:f.T=m.T)(e : ∀ o r,lH f o r=lH m o r)(m':(eY f).g=(eY m).g)(h : ∀ o r,jX f o r=jX m o r)(k:v.aI≠1)(l:v.aI≠3)(s:v.aI≠4)(n:v.aI≠6)(q:v.aI≠7)
 (i : ∀ y p,bQ f y p=bQ m y p+(eY m).dl v y p):eY f=(eY m).ru v:=by
 apply Ab.YZ
 ·funext j; rw[show(eY f).dF j=m.dF j from congrFun b j]; exact nZ (SB n)
 ·funext j; rw[show(eY f).left j=m.left j from congrFun c j]; exact nZ (SB q)
 ·funext j
  rw[show(eY f).own j=m.own j from congrFun d j];show m.own j=m.own j+if v.aI=1/\j=aV v then 1 else 0;omega
 ·funext y; rw[show(eY f).has y=m.T.has y from by rw[<- a]; rfl]; exact nZ (SB k)
 ·funext y
  rw[show(eY f).par y=m.T.par y from by rw[<- a]; rfl];show _=if v.aI=1/\y=wU v then v.node else m.T.par y;omega
 ·funext y p; exact i y p
 ·funext o r; rw[show(eY f).gh o r=lH m o r from e o r]; exact nZ (SB l)
 ·funext o r j
  rw[m'];show(eY m).g o r j=if v.aI=3/\_ then _ else if v.aI=4/\_ then _ else _;omega
 funext o r
 rw[show(eY f).Es o r=jX m o r from h o r];show jX m o r=(jX m o r || ((decide (v.aI=3) || decide (v.aI=4))&&_))
 simp_all
theorem ZO(c:m.T.ok)(d:dG v=true)(a:v.aI=2)(b:mD m v=0):eY (yZ m v)=(eY m).ru v :=
 SC rfl rfl rfl rfl (fun _ _=>rfl) rfl (fun _ _=>rfl) (by rw[a]; decide) (by rw[a]; decide) (by rw[a]; decide) (by rw[a]; decide) (by rw[a]; decide) (aiR c d a b)
theorem aep(c:m.T.ok)(d:dG v=true)(a:v.aI=5)(b:nI m v=0):eY (Ig m v)=(eY m).ru v :=
 SC rfl rfl rfl rfl (fun _ _=>rfl) rfl (fun _ _=>rfl) (by rw[a]; decide) (by rw[a]; decide) (by rw[a]; decide) (by rw[a]; decide) (by rw[a]; decide) (apd c d a b)
theorem PK{k1 k2:Nat->Int}{a b:Int} : ∀ {n:Nat},GY k1 k2 n a b=true->AY k1 k2 n a b<n
 | 0,h=>by cases h
 | n+1,h=>by
   unfold AY;by_cases c:k1 n=a/\k2 n=b
   ·simp_all
   ·rw[b_ c];obtain⟨j,g,d,f⟩:=nk.1 h;by_cases e:j=n
    ·simp_all
    ·have:=PK (xQ (show j<n by omega) d f); omega
theorem aiS(h1:v.aI≠1)(a:v.aI≠2)(b:v.aI≠3)(c:v.aI≠4)(d:v.aI≠5)(A:Ab)(y:Int)(p:Nat):A.dl v y p=0:=by
 grind [Ab.dl]
theorem NW{A B:Ab}(h1:v.aI≠1)(m:v.aI≠2)(l:v.aI≠3)(n:v.aI≠4)(q:v.aI≠5)(a : ∀ j,B.dF j=(A.dF j || (decide (v.aI=6)&&decide (j=dV v))))(b : ∀ j,B.left j=(A.left j || (decide (v.aI=7)&&decide (j=aV v))))(c:B.own=A.own)(d:B.has=A.has)(e:B.par=A.par)(f:B.R=A.R)(h:B.gh=A.gh)(i:B.g=A.g)(k:B.Es=A.Es):B=A.ru v:=by
 apply Ab.YZ
 ·funext j; exact a j
 ·funext j; exact b j
 ·funext j; rw[c]; show A.own j=A.own j+if v.aI=1/\j=aV v then 1 else 0; omega
 ·funext y; rw[d]; exact nZ (SB h1)
 ·funext y; rw[e]; show _=if v.aI=1/\y=wU v then v.node else A.par y; omega
 ·funext y p; rw[f]; show _=A.R y p+A.dl v _ p; grind [aiS]
 ·funext o r; rw[h]; exact nZ (SB l)
 ·funext o r j
  rw[i];show A.g o r j=if v.aI=3/\_ then _ else if v.aI=4/\_ then _ else _;omega
 funext o r
 rw[k];show A.Es o r=(A.Es o r || ((decide (v.aI=3) || decide (v.aI=4))&&_))
 simp_all
theorem SE(a:A=true):aN p k true j=(p j || (A&&decide (j=k))):=by
 grind [aN]
theorem aer(a:v.aI=6):eY (NA m v)=(eY m).ru v :=
 NW (by rw[a]; decide) (by rw[a]; decide) (by rw[a]; decide) (by rw[a]; decide) (by rw[a]; decide) (fun j=>SE (f_ a)) (fun j=>nZ (SB (by rw[a]; decide))) rfl rfl rfl rfl rfl rfl rfl
theorem ZP(a:v.aI=7):eY (GL m v)=(eY m).ru v :=
 NW (by rw[a]; decide) (by rw[a]; decide) (by rw[a]; decide) (by rw[a]; decide) (by rw[a]; decide) (fun j=>nZ (SB (by rw[a]; decide))) (fun j=>SE (k:=aX v) (f_ a)) rfl rfl rfl rfl rfl rfl rfl
theorem aes(w:m.T.ok)(x:ZG m)(l:dG v=true)(h:v.aI=3)(u:mQ m v=0):eY (nJ m v)=(eY m).ru v:=by
 have z:v.aI≠1:=by omega
 have A:v.aI≠4:=by omega
 have B:v.aI≠6:=by omega
 have C:v.aI≠7:=by omega
 have F:jX m v.o v.bK=false:=by
  grind [mQ]
 have D:lH m v.o v.bK=false:=uI fun i k e=>by
  have:=x i k
  simp_all
 have t : ∀ o r,lH (nJ m v) o r=(lH m o r || (decide (o=v.o)&&decide (r=v.bK))):=fun o r=>by
  have b:=Dq m.g m.gn (uS v) 0;have d:=Dq m.g m.gn (uS v) 1;have:lH (nJ m v) o r=true<->(lH m o r=true\/(v.o=o/\v.bK=r)):=by
   show GY (fun i=>aZ m.g m.gn (uS v) i 0) (fun i=>aZ m.g m.gn (uS v) i 1) (m.gn+1) o r=true<->_;rw[b,d]; exact K3
  grind
 have s : ∀ o r,iD (nJ m v) o r=AY (aZ (fun i=>m.g i 0) m.gn v.o) (aZ (fun i=>m.g i 1) m.gn v.bK) (m.gn+1) o r:=fun o r=>by
  have b:=Dq m.g m.gn (uS v) 0;have d:=Dq m.g m.gn (uS v) 1;show AY (fun i=>aZ m.g m.gn (uS v) i 0) (fun i=>aZ m.g m.gn (uS v) i 1) (m.gn+1) o r=_;rw[b,d]; rfl
 apply Ab.YZ
 ·funext j; exact nZ (SB B)
 ·funext j; exact nZ (SB C)
 ·funext j
  show m.own j=m.own j+if v.aI=1/\j=aV v then 1 else 0;omega
 ·funext y; exact nZ (SB z)
 ·funext y
  show m.T.par y=if v.aI=1/\y=wU v then v.node else m.T.par y;omega
 ·funext y p; exact ape w l h u y p
 ·funext o r
  show lH (nJ m v) o r=(lH m o r || (decide (v.aI=3)&&(decide (o=v.o)&&decide (r=v.bK))))
  simp_all
 ·funext o r j
  show(if lH (nJ m v) o r=true/\2<=j/\j<=4 then(nJ m v).g (iD (nJ m v) o r) j else 0)=if v.aI=3/\o=v.o/\r=v.bK then(if j=2 then v.node else if j=3 then v.bF else 0)else if v.aI=4/\_ then _ else(if lH m o r=true/\2<=j/\j<=4 then m.g (iD m o r) j else 0);rw[t,s];by_cases c:o=v.o/\r=v.bK
  ·rw[d_ (show v.aI=3/\o=v.o/\r=v.bK from⟨h,c⟩),c.1,c.2,aen,f_ (rfl:v.o=v.o),f_ (rfl:v.bK=v.bK),Bool.and_self,Bool.or_true];show(if true=true/\2<=j/\j<=4 then aZ m.g m.gn (uS v) m.gn j else 0)=_;rw[show aZ m.g m.gn (uS v) m.gn=uS v from d_ rfl];by_cases a:j=2
   ·rw[d_ a,a,d_ ⟨rfl,by decide,by decide⟩]; rfl
   rw[b_ a];by_cases f:j=3
   ·rw[d_ f,f,d_ ⟨rfl,by decide,by decide⟩]; rfl
   rw[b_ f];by_cases n:j=4
   ·rw[n,d_ ⟨rfl,by decide,by decide⟩]; rfl
   omega
  rw[b_ (show ¬ (v.aI=3/\o=v.o/\r=v.bK)from fun q=>c q.2),b_ (show ¬ (v.aI=4/\o=v.o/\r=v.of/\j=4)from fun q=>A q.1),aem (fun q=>c ⟨q.1.symm,q.2.symm⟩)];have:(decide (o=v.o)&&decide (r=v.bK))=false:=by
   simp_all
  rw[this,Bool.or_false];by_cases a:lH m o r=true/\2<=j/\j<=4
  ·rw[d_ a,d_ a];obtain⟨i,k,b,d⟩:=nk.1 a.1;have:AY (fun i=>m.g i 0) (fun i=>m.g i 1) m.gn o r<m.gn:=PK a.1;show aZ m.g m.gn (uS v) _ j=_;unfold aZ;rw[b_];rfl
  grind
 funext o r
 show jX (nJ m v) o r=(jX m o r || ((decide (v.aI=3) || decide (v.aI=4))&&(decide (o=v.o)&&decide (r=v.bK))));rw[f_ h,Bool.true_or,Bool.true_and];exact SA rfl rfl rfl o r
theorem Lb{k1 k2:Nat->Int}{a b:Int} : ∀ {n:Nat},GY k1 k2 n a b=true->k1 (AY k1 k2 n a b)=a/\k2 (AY k1 k2 n a b)=b
 | 0,h=>by cases h
 | n+1,h=>by
   unfold AY;by_cases c:k1 n=a/\k2 n=b
   ·simp_all
   ·rw[b_ c];obtain⟨j,g,d,f⟩:=nk.1 h;by_cases e:j=n
    ·simp_all
    ·exact Lb (xQ (show j<n by omega) d f)
theorem aeu(t:m.T.ok)(u:dG v=true)(b:v.aI=4)(s:lS m v=0):eY (jY m v)=(eY m).ru v:=by
 have w:v.aI≠1:=by omega
 have x:v.aI≠3:=by omega
 have z:v.aI≠6:=by omega
 have A:v.aI≠7:=by omega
 have h:lH m v.o v.of=true:=by
  grind [lS]
 have k : ∀ i j,j≠4->aZ m.g (iD m v.o v.of) (fZ (m.g (iD m v.o v.of)) 4 v.bK) i j=m.g i j:=fun i j G=>by
  unfold aZ
  grind [fZ]
 have d:(fun i=>(jY m v).g i 0)=fun i=>m.g i 0:=by funext i; exact k i 0 (by decide)
 have f:(fun i=>(jY m v).g i 1)=fun i=>m.g i 1:=by funext i; exact k i 1 (by decide)
 have n : ∀ o r,lH (jY m v) o r=lH m o r:=fun o r=>by
  show GY (fun i=>(jY m v).g i 0) (fun i=>(jY m v).g i 1) m.gn o r=_;rw[d,f]; rfl
 have l : ∀ o r,iD (jY m v) o r=iD m o r:=fun o r=>by
  show AY (fun i=>(jY m v).g i 0) (fun i=>(jY m v).g i 1) m.gn o r=_;rw[d,f]; rfl
 apply Ab.YZ
 ·funext j; exact nZ (SB z)
 ·funext j; exact nZ (SB A)
 ·funext j
  show m.own j=m.own j+if v.aI=1/\j=aV v then 1 else 0;omega
 ·funext y; exact nZ (SB w)
 ·funext y
  show m.T.par y=if v.aI=1/\y=wU v then v.node else m.T.par y;omega
 ·funext y p; exact apf t u b s y p
 ·funext o r
  show lH (jY m v) o r=(lH m o r || (decide (v.aI=3)&&_))
  simp_all
 ·funext o r j
  show(if lH (jY m v) o r=true/\2<=j/\j<=4 then(jY m v).g (iD (jY m v) o r) j else 0)=if v.aI=3/\o=v.o/\r=v.bK then _ else if v.aI=4/\o=v.o/\r=v.of/\j=4 then v.bK else(if lH m o r=true/\2<=j/\j<=4 then m.g (iD m o r) j else 0);rw[n,l,b_ (show ¬ (v.aI=3/\o=v.o/\r=v.bK)from fun q=>x q.1)];show(if lH m o r=true/\2<=j/\j<=4 then aZ m.g (iD m v.o v.of) (fZ (m.g (iD m v.o v.of)) 4 v.bK) (iD m o r) j else 0)=_;by_cases c:v.aI=4/\o=v.o/\r=v.of/\j=4
  ·simp_all [aZ,fZ]
  rw[b_ c];by_cases a:lH m o r=true/\2<=j/\j<=4
  ·rw[d_ a,d_ a];by_cases F:j=4
   ·have I:iD m o r≠iD m v.o v.of:=fun e=>c ⟨b,by
     obtain⟨B,C⟩:=Lb a.1;obtain⟨D,E⟩:=Lb h
     grind [iD]⟩
    simp_all [aZ]
   simp_all
  grind
 funext o r
 show jX (jY m v) o r=(jX m o r || ((decide (v.aI=3) || decide (v.aI=4))&&(decide (o=v.o)&&decide (r=v.bK))));rw[f_ b,Bool.or_true,Bool.true_and];exact SA rfl rfl rfl o r
theorem aev(d:m.T.ok)(e:ZG m)(a:dG v=true)(c:ig m v=0):eY (kL m v)=(eY m).ru v:=by
 have b:=lD a
 grind [ig,kL,aeo,ZO,aes,aeu,aep,aer,ZP]
theorem ZQ(c:m.T.ok)(d:ZG m)(a:eT m v=0):eY (mI m v)=(eY m).ru v:=by
 have b:=aev c d (uY a) (uZ a).2.1;unfold mI;rw[d_ a];exact b
end
end Rt
end
section
namespace Rt
structure Ab.Sm(A:Ab)(N:Nat):Prop where
 r : ∀ y p,A.R y p<=65536*N
 g : ∀ o r,A.gh o r=true->1<=A.g o r 3/\A.g o r 3<=65536
structure Aa(m:fO):Prop where
 n:(m.T.n:Int)=m.own 0+m.own 1+m.own 2+m.own 3+m.own 4+m.own 5
 o : ∀ a,a<6->m.own a<=5
section
variable {A:Ab} {m:fO} {L:iQ} {N S:Nat} {x y:Int} {v:dA}
theorem Ab.Sm.dl(e:A.Sm S)(d:A.QS v)(b:v.bF<=65536)(y:Int)(p:Nat):A.dl v y p<=65536:=by
 have k : ∀ {c:Prop} [Decidable c] {n:Int},n<=65536->(if c then n else 0)<=65536:=fun {c} _ {n} h=>by omega
 unfold Ab.dl;by_cases f:v.aI=1
 ·omega
 rw[b_ f];by_cases i:v.aI=2
 ·omega
 rw[b_ i];by_cases j:v.aI=3
 ·omega
 rw[b_ j];by_cases a:v.aI=4
 ·rw[d_ a]; exact k (e.g _ _ (d.n4 a)).2
 omega
theorem Ab.Sm.ru(a:A.Sm S)(e:A.QS v)(i:dG v=true)(d:v.bF<=65536):(A.ru v).Sm (S+1) where
 r:=fun y p=>by
  have f:=a.r y p;have h:=a.dl e d y p;show A.R y p+A.dl v _ p<=_;omega
 g:=fun o r b=>by
  have b:(A.gh o r || (decide (v.aI=3)&&(decide (o=v.o)&&decide (r=v.bK))))=true:=b;by_cases c:v.aI=3/\o=v.o/\r=v.bK
  ·have:(A.ru v).g o r 3=v.bF:=by show(if v.aI=3/\o=v.o/\r=v.bK then _ else _)=v.bF; omega
   simp_all [nX]
  simp_all [Ab.Ke,a.g]
theorem Aa.row(h:Aa m)(a:f.T=m.T)(b:f.own=m.own):Aa f:=by
 cases f; cases m; cases a; cases b; exact⟨h.n,h.o⟩
theorem Aa.ZK(h:Aa m)(k:dG v=true)(b:ig m v=0):Aa (kL m v):=by
 unfold ig at b;unfold kL;by_cases c:v.aI=1
 ·rw[d_ c]at b ⊢;have p:m.own (aX v)<5:=by
   grind [kX]
  have q:=ql k;have l:=h.n;refine⟨?_,fun a j => ?_⟩
  ·show((m.T.n+1:Nat):Int)=aN m.own (aX v) (m.own (aX v)+1) 0+aN m.own (aX v) (m.own (aX v)+1) 1+aN m.own (aX v) (m.own (aX v)+1) 2+aN m.own (aX v) (m.own (aX v)+1) 3+aN m.own (aX v) (m.own (aX v)+1) 4+aN m.own (aX v) (m.own (aX v)+1) 5
   grind [aN]
  show aN m.own (aX v) (m.own (aX v)+1) a<=5;have:=h.o a j
  grind [aN]
 rw[b_ c];by_cases d:v.aI=2
 ·rw[d_ d]; exact h.row rfl rfl
 rw[b_ d];by_cases e:v.aI=3
 ·rw[d_ e]; exact h.row rfl rfl
 rw[b_ e];by_cases f:v.aI=4
 ·rw[d_ f]; exact h.row rfl rfl
 rw[b_ f];by_cases g:v.aI=5
 ·rw[d_ g]; exact h.row rfl rfl
 rw[b_ g];by_cases i:v.aI=6
 ·rw[d_ i]; exact h.row rfl rfl
 rw[b_ i]; exact h.row rfl rfl
theorem Aa.apply(h:Aa m):Aa (mI m v):=by
 unfold mI;by_cases c:eT m v=0
 ·rw[d_ c]; exact(h.ZK (uY c) (uZ c).2.1).row rfl rfl
 simp_all
theorem alo(x:Nat->Int)(a:Nat):Rt.L x a=II x a:=by
 grind [R,Rt.L,II,G,C,F]
theorem G8(h:iV X=true)(a:dG v=true):ku X v.o=II X (aV v):=by
 simp_all [La,rG,alo]
theorem Cv{b:Bool}(h1:iV X=true)(c:1<=d)(n:d<=1125899906842624)(e:b=true)(f:a=0)(g:X k+d<=1125899906842624):(dU X d b a k).2=0:=by
 grind [rP]
theorem Im{f:(Nat->Int)->(Nat->Int) × Int}{r:Nat->Nat->Int} : ∀ {n:Nat},(∀ i,i<n->(f (r i)).2=0)->mH f r n=0
 | 0,_=>rfl
 | n+1,h=>GV (Im fun i a=>h i (by omega)) (h n (by omega))
theorem Lc(c:m.T.ok){f:(Nat->Int)->(Nat->Int) × Int}(h : ∀ y,y∈m.T.dI x->(f (bQ m y)).2=0):eH m f (m.T.dI x)=0 :=
 Im fun i a=>by
  have b:(m.T.dI x).getD i 0∈m.T.dI x:=by
   rw[r_,o_ a]; exact List.getElem_mem a
  have:=h _ b;unfold bQ at this;rw[d_ (fD.rZ c rfl _ b)]at this;exact this
theorem EM(h:dG v=true)(a:v.aI=5):1<=v.dst/\v.dst<=6/\v.dst≠v.o:=by
 grind [dG,eU,oO,uM]
theorem aiT(a:dG v=true):jw v.o=true:=by grind [rR,jw]
end
structure Tw(m:fO)(L:iQ)(N S:Nat):Prop where
 t:Jz m L N
 w:Aa m
 s:(eY m).Sm S
 b:S<=1000000
section
variable {m:fO} {L:iQ} {N S:Nat} {x y:Int} {v:dA}
theorem Jz.iV(h:Jz m L N)(hy:m.T.has y=true):iV (bQ m y)=true:=by
 grind [h.s.T.has,bQ,h.s.row,h.i.iV]
theorem Tw.cell(h:Tw m L N S)(y:Int)(p:Nat):bQ m y p<=65536000000:=by
 have:=h.s.r y p;have a:=h.b;show(eY m).R y p<=_;omega
theorem Tw.make(h:Tw m L N S)(r:dG v=true)(j:v.aI=1)(g:(eY m).WR v):kX m v=0:=by
 obtain⟨a,b,c⟩:=g.pre.n1 j;obtain⟨d,e,f⟩:=g.k1 j;have l:wU v=qX v:=wK r;rw[l]at a b;unfold kX;have d:m.own (aX v)<5:=d;rw[b_ (show ¬ (5<=m.own (aX v)\/140737488355328<v.bF) by omega)];show wN m.T.x m.T.p m.T.n (qX v) v.node=0;unfold wN;have a:fV m.T.x m.T.n (qX v)=false:=a;rw[b_ b,b_ (by simp_all)];rw[b_ (show ¬ (¬ v.node=0/\fV m.T.x m.T.n v.node=false)from fun q=>by
  rcases c with c|c
  ·omega
  ·have c:fV m.T.x m.T.n v.node=true:=c
   simp_all)]
 rw[b_ ?_];rintro (q|q)
 ·have u:=h.w.n;have y:=h.w.o
  grind
 obtain⟨s,_⟩:=JA h.t.t _ v.node (A_ _);exact f fun i k=>by
  rw[K8];exact(s i (n_ k q)).2
theorem Tw.make'(h:Tw m L N S)(j:dG v=true)(l:v.aI=1)(a:kX m v=0):(wU v≠0/\(eY m).has (wU v)=false/\(v.node=0\/(eY m).has v.node=true))/\(eY m).own (aV v)<5/\v.bF<=140737488355328 /\ ¬ ∀ i,i<4->(eY m).has ((eY m).up v.node i)=true:=by
 have g:wU v=qX v:=wK j;unfold kX at a;by_cases c:5<=m.own (aX v)\/140737488355328<v.bF
 ·omega
 rw[b_ c]at a;obtain⟨b,d,e,k,f⟩:=KH a;rw[g];refine⟨⟨b,d,e⟩,?_,by omega,fun q => ?_⟩
 ·show m.own (aX v)<5;omega
 obtain⟨_,n⟩:=JA h.t.t _ v.node (A_ _);have:=q _ (show(m.T.dI v.node).length<4 from f);rw[K8]at this;have o:m.T.has (Sy m.T v.node (m.T.dI v.node).length)=true:=this
 simp_all
theorem Tw.ZK(h:Tw m L N S)(z:dG v=true)(H:v.bF<=65536)(i:(eY m).WR v):ig m v=0:=by
 have d:=h.t.t;have P:=i.pre;have G:=aiT z;have D : ∀ y p n,n<=65536->bQ m y p+n<=1125899906842624:=fun y p n U=>by have:=h.cell y p; omega
 unfold ig;by_cases O:v.aI=1
 ·grind [h.make]
 rw[b_ O];by_cases A:v.aI=2
 ·rw[d_ A];have a:m.T.has v.node=true:=P.n2 A;have:=i.k2 A;have e:(eY m).R v.node (aV v)=m.R (m.idx v.node) (aX v):=by
   show bQ m v.node (aV v)=_;unfold bQ; rw[d_ a]; rfl
  grind [mD]
 rw[b_ A];by_cases r:v.aI=3
 ·rw[d_ r];have a:m.T.has v.node=true:=(P.n3 r).1;obtain⟨b,c⟩:=i.k3 r;have b:jX m v.o v.bK=false:=b;have j:=nX z (.inr (.inl r));unfold mQ;rw[b_ (by simp_all),b_ (by simp_all)];refine Lc (f:=fun x=>bV x v.o v.bF) d fun y l => ?_;have k:=h.t.iV (fD.rZ d rfl y l);have:=c y ((G7 d _ y).2 l);have this:v.bF<=II (bQ m y) (aV v):=this;refine Cv k j.1 j.2 G ?_ (D y _ _ H)
  grind [uP,G8]
 rw[b_ r];by_cases u:v.aI=4
 ·rw[d_ u];have a:lH m v.o v.of=true:=P.n4 u;obtain⟨b,c,I⟩:=i.k4 u;have b:jX m v.o v.bK=false:=b;have J:(eY m).g v.o v.of 2=m.g (iD m v.o v.of) 2:=d_ ⟨a,by decide,by decide⟩;have E:(eY m).g v.o v.of 3=m.g (iD m v.o v.of) 3:=d_ ⟨a,by decide,by decide⟩;have K:(eY m).g v.o v.of 4=m.g (iD m v.o v.of) 4:=d_ ⟨a,by decide,by decide⟩;have B:=h.s.g _ _ (P.n4 u);rw[J,E]at I;rw[E]at B;rw[K]at c;unfold lS;rw[b_ (by simp_all),b_ (show ¬ (lH m v.o v.of=false\/m.g (iD m v.o v.of) 4≠0)from fun q=>q.elim (fun q=>by simp_all) (fun q=>q c))];refine Lc (f:=fun x=>bW x v.o (m.g (iD m v.o v.of) 3)) d fun y l => ?_;have k:=h.t.iV (fD.rZ d rfl y l);have:=I y ((G7 d _ y).2 l);have this:m.g (iD m v.o v.of) 3<=bQ m y (6+aV v)-bQ m y (12+aV v):=this;refine Cv k B.1 (by omega) G ?_ (D y _ _ B.2)
  grind [vX,C,F,La]
 rw[b_ u];by_cases w:v.aI=5
 ·rw[d_ w];have a:m.T.has v.node=true:=P.n5 w;obtain⟨b,c⟩:=i.k5 w;have b:m.dF (v.dst-1).toNat=true:=b;have c:v.bF<=II (bQ m v.node) (aV v):=c;have j:=nX z (.inr (.inr w));have k:=h.t.iV a;have M:bQ m v.node=m.R (m.idx v.node):=by unfold bQ; rw[d_ a]; rfl
  have Q:=EM z w;unfold nI;rw[b_ (by simp_all),b_ (by simp_all)];show(dX (m.R (m.idx v.node)) v.o v.dst v.bF).2=0;rw[<- M];refine Cv k j.1 j.2 (by grind [jw]) ?_ (D _ _ _ H)
  grind [qH,G8]
 omega
theorem Tw.okE(h:Tw m L N S)(z:dG v=true)(h1:m.dF (aX v)=true)(j:m.left (aX v)=false)(c:ig m v=0):(eY m).WR v:=by
 have x:=h.t.t;unfold ig at c;have no : ∀ {k:Int} {P:Prop},v.aI≠k->v.aI=k->P:=fun a b=>L_ b a;by_cases l:v.aI=1
 ·rw[d_ l]at c;obtain⟨⟨G,H,I⟩,b⟩:=h.make' z l c;have n : ∀ {k:Int} {P:Prop},k≠1->v.aI=k->P:=fun a b=>L_ (b.symm.trans l) a;exact⟨h1,j,⟨fun _=>⟨H,G,I⟩,n (by decide),n (by decide),n (by decide),n (by decide)⟩,fun _=>b,n (by decide),n (by decide),n (by decide),n (by decide)⟩
 rw[b_ l]at c;by_cases p:v.aI=2
 ·rw[d_ p]at c;have n : ∀ {k:Int} {P:Prop},k≠2->v.aI=k->P:=fun a b=>L_ (b.symm.trans p) a;unfold mD at c
  cases d:m.T.has v.node with
  | false=>simp_all
  | true =>
    rw[b_ (by simp_all)]at c;have e:(eY m).R v.node (aV v)=m.R (m.idx v.node) (aX v):=by
     show bQ m v.node (aV v)=_;unfold bQ; rw[d_ d]; rfl
    refine⟨h1,j,⟨n (by decide),fun _=>d,n (by decide),n (by decide),n (by decide)⟩,n (by decide),fun _ => ?_,n (by decide),n (by decide),n (by decide)⟩;omega
 rw[b_ p]at c;by_cases r:v.aI=3
 ·rw[d_ r]at c;have n : ∀ {k:Int} {P:Prop},k≠3->v.aI=k->P:=fun a b=>L_ (b.symm.trans r) a;unfold mQ at c
  cases c1:jX m v.o v.bK with
  | true=>simp_all
  | false =>
    rw[b_ (by simp_all)]at c
    cases d:m.T.has v.node with
    | false=>simp_all
    | true =>
      rw[b_ (by simp_all)]at c;have Q:lH m v.o v.bK=false:=uI fun i D e=>by
       have:=h.t.s.ga i D
       simp_all
      refine⟨h1,j,⟨n (by decide),n (by decide),fun _=>⟨d,Q⟩,n (by decide),n (by decide)⟩,n (by decide),n (by decide),fun _=>⟨c1,fun y f => ?_⟩,n (by decide),n (by decide)⟩;have f:=(G7 x _ y).1 f;have q:=Dp x c f;unfold bV at q;have B:=Dn q;have w:=B.2.2.2.2.1;unfold uP at w;rw[G8 B.1 z]at w;show v.bF<=II (bQ m y) (aV v)
      simp_all
 rw[b_ r]at c;by_cases u:v.aI=4
 ·rw[d_ u]at c;have n : ∀ {k:Int} {P:Prop},k≠4->v.aI=k->P:=fun a b=>L_ (b.symm.trans u) a;unfold lS at c
  cases c1:jX m v.o v.bK with
  | true=>simp_all
  | false =>
    rw[b_ (by simp_all)]at c;by_cases E:lH m v.o v.of=false\/m.g (iD m v.o v.of) 4≠0
    ·simp_all
    ·rw[b_ E]at c;have d:lH m v.o v.of=true:=by
      simp_all
     have O:=Classical.byContradiction fun q=>E (.inr q);have J:(eY m).g v.o v.of 2=m.g (iD m v.o v.of) 2:=d_ ⟨d,by decide,by decide⟩;have K:(eY m).g v.o v.of 3=m.g (iD m v.o v.of) 3:=d_ ⟨d,by decide,by decide⟩;have M:(eY m).g v.o v.of 4=m.g (iD m v.o v.of) 4:=d_ ⟨d,by decide,by decide⟩;refine⟨h1,j,⟨n (by decide),n (by decide),n (by decide),fun _=>d,n (by decide)⟩,n (by decide),n (by decide),n (by decide),fun _=>⟨c1,M.trans O,fun y f => ?_⟩,n (by decide)⟩;rw[J]at f;rw[K];have f:=(G7 x _ y).1 f;have q:=Dp x c f;unfold bW at q;have B:=Dn q;have w:=B.2.2.2.2.1;unfold vX C F at w;rw[(La z).2.2]at w;show m.g (iD m v.o v.of) 3<=bQ m y (6+aV v)-bQ m y (12+aV v)
     simp_all
 rw[b_ u]at c;by_cases A:v.aI=5
 ·rw[d_ A]at c;have n : ∀ {k:Int} {P:Prop},k≠5->v.aI=k->P:=fun a b=>L_ (b.symm.trans A) a;unfold nI at c
  cases d:m.T.has v.node with
  | false=>simp_all
  | true =>
    rw[b_ (by simp_all)]at c
    cases D:m.dF (v.dst-1).toNat with
    | false=>simp_all
    | true =>
      rw[b_ (by simp_all)]at c;have U:bQ m v.node=m.R (m.idx v.node):=(by unfold bQ; rw[d_ d]; rfl);obtain⟨a,b,ha,hb,hne,ho,hd,V,W,Y,Z,heq⟩:=Fy c;refine⟨h1,j,⟨n (by decide),n (by decide),n (by decide),n (by decide),fun _=>d⟩,n (by decide),n (by decide),n (by decide),n (by decide),fun _=>⟨D,?_⟩⟩;show v.bF<=II (bQ m v.node) (aV v)
      grind [alo,aV]
 exact⟨h1,j,⟨no l,no p,no r,no u,no A⟩,no l,no p,no r,no u,no A⟩
theorem aiU(h:fq X v=true):qG X v=false:=by
 obtain⟨a,b,c⟩:=I4 h;unfold qG;rw[g_ (show ¬ v.seq<=X (v.o-1).toNat by have b:v.seq=X (v.o-1).toNat+1:=b; omega),H_]
theorem Tw.Ry(h:Tw m L N S)(b:v.bF<=65536)(hr:fq m.aF v=true):eT m v=0<->(eY m).WR v:=by
 have c:=(I4 hr).1;constructor
 ·simp_all [uZ,h.okE]
 intro a
 grind [eT,aiU,h.ZK,a.dF,eY,aV,aX,a.left]
end
end Rt
end
namespace Rt
structure Ld where
 SF:Nat
 SG:Bool
 FX:Nat
 aI:Nat
 node:Nat
 dst:Nat
 bF:Nat
 bK:Nat
 of:Nat
structure NY(x:Ld):Prop where
 SF:x.SF<=255
 FX:x.FX<=255
 aI:x.aI<=255
 node:x.node<=255
 dst:x.dst<=255
 bF:x.bF<=65535
 bK:x.bK<=255
 of:x.of<=255
def Mv(x:Ld):Nat->Value:=fun p=>if p=0 then .int .u8 (x.SF:Int)else if p=1 then .bool x.SG else if p=2 then .int .u8 (x.FX:Int)else if p=3 then .int .u8 (x.aI:Int)else if p=4 then .int .u8 (x.node:Int)else if p=5 then .int .u8 (x.dst:Int)else if p=6 then .int .u16 (x.bF:Int)else if p=7 then .int .u8 (x.bK:Int)else .int .u8 (x.of:Int)
theorem Lf(e:b=k % m):Int.tmod (k:Int) (m:Int)=(b:Int):=by
 rw[Int.tmod_eq_emod_of_nonneg (by omega),e];exact(Int.natCast_emod k m).symm
theorem JC(V:dA)(x:Int) : ∀ j,j<14->dN (dH V) 9 (aG x) j=dH { V with node:=x } j:=fun j a=>by
 rcases j with _|_|_|_|_|_|_|_|_|_|_|_|_|_|j <;> first|rfl|omega
theorem aew(V:dA)(x:Int) : ∀ j,j<14->dN (dH V) 10 (av x) j=dH ⟨V.o,V.seq,V.bB,V.aI,V.node,x,V.bF,V.bK,V.of⟩ j:=fun j a=>by
 rcases j with _|_|_|_|_|_|_|_|_|_|_|_|_|_|j <;> first|rfl|omega
theorem Lg(V:dA)(x:Int) : ∀ j,j<14->dN (dH V) 11 (av x) j=dH { V with bF:=x } j:=fun j a=>by
 rcases j with _|_|_|_|_|_|_|_|_|_|_|_|_|_|j <;> first|rfl|omega
theorem aex(V:dA)(x:Int) : ∀ j,j<14->dN (dH V) 12 (aG x) j=dH { V with bK:=x } j:=fun j a=>by
 rcases j with _|_|_|_|_|_|_|_|_|_|_|_|_|_|j <;> first|rfl|omega
theorem aty(V:dA)(x:Int) : ∀ j,j<14->dN (dH V) 13 (aG x) j=dH { V with of:=x } j:=fun j a=>by
 rcases j with _|_|_|_|_|_|_|_|_|_|_|_|_|_|j <;> first|rfl|omega
end Rt
set_option maxRecDepth 20000 in
set_option maxHeartbeats 2000000 in
theorem aiV(M:WM)(B p T:Nat)(x:Ld)(w:World)(U:sj w B p M T)(hx:NY x) :
 Calls prog 20 #[(pt p),.agg (aA 9 (Mv x))] w fun e w' => ∃ V,jB V/\wL V/\(V.o=((x.SF % M.n:Nat):Int)+1/\V.seq=(M.ml (x.SF % M.n)).s.aF (x.SF % M.n)+1/\V.bB=(M.ml (x.SF % M.n)).s.aF)/\e = .returned (.agg (aA 14 (dH V)))/\Below w.heap.size w w':=by
 have hWc:=U.c;have hWl:=U.l;have hWa:=U.a;have hWg:=U.g;have hn1:=U.n1;have hn6:=U.n6;have hpB:=U.pB;have lpp:p<w.heap.size:=hWc.lt;have hxw:=hx.SF;have hxo:=hx.FX;have hxk:=hx.aI;have hxn:=hx.node;have hxt:=hx.dst;have hxa:=hx.bF;have hxr:=hx.bK;have hxf:=hx.of;refine bX func20 143 ?_;refine ay<|oq fun F w1 kV m1 s1 z1 => ?_;have⟨m2,m3,m4,m5,b1⟩:=oK s1.bP hWc hWl hWa hWg (Below.refl w.heap.size w);have tJ:=iy kV;have rJ:=gD kV hWc.lt;have vB:=m1.lt;refine oJ 14 zQ0 fun S w2 nN m6 s2 z2 => ?_;have⟨m7,m8,m9,m10,m11,b2⟩:=oL s2.bP m2 m3 m4 m5 m1 b1;have xw:=gQ nN b1.size;have abE:=gD nN m2.lt;have RZ:(.slice M.aa (M.an) (M.ac):Value).ownBlock≠some S:=by rw[nN]; exact m4.gW (A_ _)
 have KP:=gD nN m1.lt;have zR:=m6.lt;refine aC<|aQ ?_;obtain⟨o,eo⟩ : ∃ r,r=x.SF % M.n:=⟨_,rfl⟩;have ho:o<M.n:=by rw[eo]; exact I_ _ (by omega)
 refine zu<|bI (pt F)<|Qv (.int .u8 (x.SF:Int)) (fun C A=>aR (m11.aJ.dr A) 0)<|Qv (av x.SF) (fun C A=>dQ rfl rfl (by kernel_rfl) underlying3 (jN (by omega) rfl))<|bI (pt p)<|bI (pt p)<|bI (pt p)<|Qv (.slice M.la (M.n) (M.lc)) (fun C A=>aR (m7.aJ.dr A) 0)<|bI (av M.n)<|Qv (av o) (fun C A=>BK rfl rfl rfl (by omega) (Lf eo))<|bI (av o)<|Qn ?_;rintro _ ⟨qd,rfl⟩;obtain⟨IC,xI⟩ : ∃ C,C=World.drewN w2 qd:=⟨_,rfl⟩;rw[<- xI];have s3:eG w2.heap.size w2 IC:=by rw[xI]; exact Sb (kQ w2 qd)
 have⟨kY,m13,m14,m15,m16,m17,b3⟩:=kU s3.bP m7 m8 m9 m10 m11 m6 b2;clear xI;refine sN<|ay<|au (pt p)<|au (pt p)<|au (pt p)<|Lv (.slice M.la (M.n) (M.lc)) (aR kY.aJ 0)<|au (av o) ?_;obtain⟨Gv,eq1⟩:=m13.wz (by omega);have m18:aY IC B 49 1 (dz Gv M.n M.lc) M.n (K5 M.pl):=m13.fE (K_ (fun q=>Value.slice q M.n M.lc) eq1);refine Lv (pf Gv o) (fC 1 (hx:=(rfl.trans (K_ (fun q=>Value.slice q (M.n) (M.lc)) eq1))))<|Lv (pt (M.pl o)) (aR m18.aJ o)<|au (pt (M.pl o))<|aC<|aQ ?_;obtain⟨r42,atA⟩ : ∃ r,r=x.aI % 7:=⟨_,rfl⟩;have aH5:r42<7:=by rw[atA]; exact I_ _ (by omega)
 have aiX:=m15 o (by omega);have aey:=aiX.c;have atB:=aiX.n;have hkn:=(U.uU o (by omega)).kn;have hko:=hkn o (by omega);have hko:0<=(M.ml o).s.aF o/\(M.ml o).s.aF o<1099511627776:=hko;have hU : ∀ k,k<(M.ml o).s.nn->nU ((M.ml o).id k):=fun k hk=>by have R:=(U.uU o (by omega)).Rj k hk; have D:=(U.uU o (by omega)).top k hk; exact⟨by show(0:Int)<=(M.ml o).aW.id k; omega,by show(M.ml o).aW.id k<=_; omega⟩
 have hbn:=(U.g o (by omega)).bn;refine nP [0,1,2,3,4,5,6,7,10,11,12,13,15,8,9,14,16,17,18,19,20,21] [0,0,0,0,0,0,0,0,1,0,0,0,0,0,1,0,1,0,0,0,2,3] [(21,8,[8]),(21,14,[14]),(21,16,[16]),(21,20,[20])] fun qN eX iM => ?_;have⟨m19,m20,mG,m22,m23,m24,mU,pK,b4⟩:=yQ eX kY m14 m15 m16 m17 m18 aey atB b3;refine aS (av o)<|Rp (av ((o:Int)+1)) (fun _=>gu)<|aS (pt (M.pl o))<|aS (av o)<|aS (pt (M.pl o))<|aS (pt (M.pl o))<|aS (pf (M.pl o) 12)<|Rp (pf (M.pl o) (o+12)) (fun _=>jh 6 1)<|aS (pt (M.pl o))<|aS (pt (M.pl o))<|aS (pt (M.pl o))<|aS (pf (M.pl o) 12)<|aS (pf F 3)<|lI (v:=aG ((M.ml o).s.aF o)) (by rfl) (by rfl) (mE _) (fun C A=>bE (x:=nQ (M.ml o)) rfl rfl (by kernel_rfl) (mU.aJ.below A (by have:=mU.lt; omega)) (i:=o+12) (by omega) (by omega) (nD _ (by omega) (fA _ (by omega) (by omega)))) ?_;refine Rp (aG ((M.ml o).s.aF o+1)) (fun _=>gu)<|lI (v := .agg (aA 6 (rv .u64 ((M.ml o).s.aF)))) (by rfl) (by rfl) (mE _) (fun C A=>eB (x:=nQ (M.ml o)) (y:=rv .u64 ((M.ml o).s.aF)) rfl rfl (by kernel_rfl) (by kernel_rfl) (mU.aJ.below A (by have:=mU.lt; omega)) (i:=12) (by omega) (by omega) (fun j u=>nD _ (by omega) (fA _ u (by omega)))) ?_;refine lI (v := .int .u8 (x.aI:Int)) (by rfl) (by rfl) (mE _) (fun C A=>bE (x:=Mv x) rfl rfl (by kernel_rfl) (m22.aJ.below A (by have:=m22.lt; omega)) (i:=3) (by omega) (by omega) rfl) ?_;refine Rp (.int .u8 (r42:Int)) (fun C=>BK rfl rfl rfl (by omega) (Lf atA))<|Rp (.int .u8 ((r42:Int)+1)) (fun C=>aax rfl rfl rfl (u8e (by omega) (by omega)))<|aS (.agg (aA 14 (bJ (bJ (bJ (bJ zQ0 0 1 (fun _=>av ((o:Int)+1))) 1 1 (fun _=>aG ((M.ml o).s.aF o+1))) 2 6 (rv .u64 ((M.ml o).s.aF))) 8 1 (fun _ => .int .u8 ((r42:Int)+1)))))<|mF<|oJ 14 zQ0 fun t w3 nO pO s5 z3 => ?_;have⟨qV,mY,m32,oD,pQ,b5⟩:=oL s5.bP mG m22 m23 m24 pK b4;have Gc:=gQ nO b4.size;have Vd:=gD nO m19.lt;have Ve:(.slice M.aa (M.an) (M.ac):Value).ownBlock≠some t:=by rw[nO]; exact m20.gW (A_ _)
 have⟨adA,adB,aCS,aCT⟩:=J2 nO m22.lt m23.lt m24.lt mU.lt;have Gr:=pO.lt;refine Ln ⟨s5.bP,?_⟩;refine jP<|dY pO 0 (h1:=(cu (cu (cu (cu (fun jq _=>by show(zQ0 jq).oneCell'=true; simp only[zQ0]; repeat (first|rfl|split)) (fun _ _=>rfl)) (fun _ _=>rfl)) (fun _ _=>rfl)) (fun _ _=>rfl))) fun w4 rE s6 z4 => ?_
 have sD:aM w4 t 14 (bJ (bJ (bJ (bJ zQ0 0 1 (fun _=>av ((o:Int)+1))) 1 1 (fun _=>aG ((M.ml o).s.aF o+1))) 2 6 (rv .u64 ((M.ml o).s.aF))) 8 1 (fun _ => .int .u8 ((r42:Int)+1))) 30:=aO rE;have gT:=gJ s6 pO.ty;have⟨vk,pR⟩:=lZ gT qV mY;have qx:=m32.cK s6 (by omega);have⟨qy,sQ⟩:=lZ gT oD pQ;have b6:=s6.below b5 b5.size (by omega);refine Ln<|dJ<|aQ ?_;obtain⟨d,eV0⟩ : ∃ V:dA,V=(⟨(o:Int)+1,(M.ml o).s.aF o+1,(M.ml o).s.aF,(r42:Int)+1,0,0,0,0,0⟩:dA):=⟨_,rfl⟩;have hz1:nU 0:=⟨by decide,by decide⟩;have hz2:Br 0:=⟨by decide,by decide⟩;have h:jB d:=by rw[eV0]; exact⟨⟨by show(_:Int)<=(o:Int)+1; omega,by show(o:Int)+1<=_; omega⟩,⟨by show(0:Int)<=(M.ml o).s.aF o+1; omega,by show(M.ml o).s.aF o+1<=_; omega⟩,fun i hi=>⟨(hkn i hi).1,by have q:(M.ml o).s.aF i<1099511627776:=(hkn i hi).2; show(M.ml o).s.aF i<=_; omega⟩,⟨by show(0:Int)<=(r42:Int)+1; omega,by show(r42:Int)+1<=255; omega⟩,hz1,hz2,hz2,hz1,hz1⟩
 have qc:aM w4 t 14 (dH d) 30:=sD.congr (fun j u=>by rw[eV0]; rcases j with _|_|_|_|_|_|_|_|_|_|_|_|_|_|j <;> first|rfl|omega|exact K_ (Value.int .u8) (by omega))
 have Q:wL d:=by rw[eV0]; exact⟨by show(0:Int)<=_; decide,by show(0:Int)<=_; decide⟩
 have hd0:d.o=(o:Int)+1/\d.seq=(M.ml o).s.aF o+1/\d.bB=(M.ml o).s.aF:=by rw[eV0]; exact⟨rfl,rfl,rfl⟩
 have ek0:d.aI=(r42:Int)+1:=by rw[eV0]
 refine Wl<|au (aG 0)<|aC ?_;have tK:aY w4 B 49 1 (.slice M.la (M.n) (M.lc)) M.n (K5 M.pl):=qy.fE (K_ (fun q=>Value.slice q M.n M.lc) eq1.symm);refine yh (fun f w_ => ∃ W:Int,nU W/\f 3=(pt F)/\f 4=(pt S)/\f 7=(pt t)/\f 8=aG W/\aM w_ F 9 (Mv x) 34/\aM w_ S 14 zQ0 30/\aM w_ t 14 (dH d) 30/\Below w.heap.size w w_) ?_ ?_
 ·refine aQ ?_;have aiY:=vk o (by omega);have aez:=aiY.c;have aFX:=aiY.n;refine Wl<|au (pt (M.pl o))<|au (pt (M.pl o))<|au (pt (M.pl o))<|au (pf (M.pl o) 18)<|Lv (.slice (M.ml o).s.na ((M.ml o).s.nn) ((M.ml o).s.nc)) (aR aez.aJ 18)<|au (av (((M.ml o).s.nn:Nat):Int))<|Lv (.bool (decide (0<(((M.ml o).s.nn:Nat):Int)))) (aaz rfl rfl rfl)<|aC<|Wc (b:=decide (0<(((M.ml o).s.nn:Nat):Int))) rfl (fun c51 => ?_)<|fun c51 => ?_
  ·have c51:=h_ c51;obtain⟨r66,atD⟩ : ∃ r,r=x.node % (M.ml o).s.nn:=⟨_,rfl⟩;have aCU:r66<(M.ml o).s.nn:=(by rw[atD]; exact I_ _ (by omega));refine zu<|bI (pt (M.pl o))<|bI (pt (M.pl o))<|bI (pt (M.pl o))<|bI (pf (M.pl o) 18)<|Qv (.slice (M.ml o).s.na ((M.ml o).s.nn) ((M.ml o).s.nc)) (fun C A=>aR (aez.aJ.dr A) 18)<|bI (pf F 4)<|Qv (.int .u8 (x.node:Int)) (fun C A=>aR (pR.aJ.dr A) 4)<|Qv (av x.node) (fun C A=>dQ rfl rfl (by kernel_rfl) underlying3 (jN (by omega) rfl))<|bI (pt (M.pl o))<|bI (pt (M.pl o))<|bI (pt (M.pl o))<|bI (pf (M.pl o) 18)<|Qv (.slice (M.ml o).s.na ((M.ml o).s.nn) ((M.ml o).s.nc)) (fun C A=>aR (aez.aJ.dr A) 18)<|bI (av (((M.ml o).s.nn:Nat):Int))<|Qv (av r66) (fun C A=>BK rfl rfl rfl (by omega) (Lf atD)) ?_;obtain⟨OY,D6⟩:=sQ.wz (by omega);have xY:aY w4 B 69 56 (.slice (some ⟨OY,0,none⟩) ((M.ml o).s.nn) ((M.ml o).s.nc)) ((M.ml o).s.nn) (LP (M.ml o)):=sQ.fE (K_ (fun q=>Value.slice q ((M.ml o).s.nn) ((M.ml o).s.nc)) D6);refine Qv (pf OY (56*r66)) (fun C A=>fC 56 (hx:=(rfl.trans (K_ (fun q=>Value.slice q ((M.ml o).s.nn) ((M.ml o).s.nc)) D6))))<|bI (pf OY (56*r66))<|Qv (aG ((M.ml o).id r66)) (fun C A=>aR (xY.aJ.dr A) (56*r66) (je (k:=r66) (j:=0) (by omega) (by omega) rfl))<|bI (aG ((M.ml o).id r66))<|Qn ?_;rintro _ ⟨qd,rfl⟩;obtain⟨Ma,Aw⟩ : ∃ C,C=World.drewN w4 qd:=⟨_,rfl⟩;rw[<- Aw];have s7:eG w4.heap.size w4 Ma:=(by rw[Aw]; exact Sb (kQ w4 qd));have⟨yG,xA,wC,tL,b7⟩:=oK s7.bP pR qx qc xY b6;clear Aw;have uG:aY Ma B 69 56 (.slice (M.ml o).s.na ((M.ml o).s.nn) ((M.ml o).s.nc)) ((M.ml o).s.nn) (LP (M.ml o)):=tL.fE (K_ (fun q=>Value.slice q ((M.ml o).s.nn) ((M.ml o).s.nc)) D6.symm);exact nL ⟨((M.ml o).id r66),(hU r66 aCU),(by rfl),(by rfl),(by rfl),ic,yG,xA,wC,b7⟩
  have c51:=j_ c51;refine Wk ?_;exact nL ⟨0,⟨by decide,by decide⟩,(by rfl),(by rfl),(by rfl),ic,pR,qx,qc,b6⟩
 rintro f1 w5 ⟨W,XU,R,D,z,h4,oo,sF,G,E⟩;refine aQ<|ay<|Lv (pf t 8) (iO z 8)<|Lv (.int .u8 (d.aI)) (aR G.aJ 8)<|aC<|Wb<|ay ?_;by_cases c73:d.aI=1
 ·refine Lv aH (gU c73)<|au aH<|aC<|aP<|aQ<|aQ ?_;obtain⟨r76,atE⟩ : ∃ r,r=x.node % 2:=⟨_,rfl⟩;have aH6:r76<2:=by rw[atE]; exact I_ _ (by omega)
  refine Wl<|Lv (pf F 4) (iO R 4)<|Lv (.int .u8 (x.node:Int)) (aR oo.aJ 4)<|Lv (.int .u8 (r76:Int)) (BK rfl rfl rfl (by omega) (Lf atE)) ?_;by_cases c77:(r76:Int)=1
  ·refine Lv aH (gU c77)<|aC<|aP<|Wl<|bA h4<|Lv (pf t 9) (iO z 9)<|jf G 9 (aG W) fun w6 vV s8 z5 => ?_;obtain⟨H,eV1⟩ : ∃ V:dA,V=⟨d.o,d.seq,d.bB,d.aI,W,d.dst,d.bF,d.bK,d.of⟩:=⟨_,rfl⟩;have SH:jB H:=(by rw[eV1]; exact⟨h.o,h.seq,h.bB,h.aI,XU,h.dst,h.bF,h.bK,h.of⟩);have aCW:H.o=(o:Int)+1/\H.seq=(M.ml o).s.aF o+1/\H.bB=(M.ml o).s.aF:=(by rw[eV1]; exact hd0);have aCX:wL H:=(by rw[eV1]; exact⟨Q.bF,Q.bK⟩);have m64:aM w6 t 14 (dH H) 30:=vV.congr (fun j u=>by rw[eV1]; exact JC _ _ j u);have jC:=gJ s8 G.ty;have xB:=jU jC oo;have sG:=sF.cK s8 (by omega);have b9:=s8.below E E.size (by omega);refine aC<|Wl<|Lv (pf F 6) (iO R 6)<|Lv (.int .u16 (x.bF:Int)) (aR xB.aJ 6)<|Lv (av x.bF) (dQ rfl rfl (by kernel_rfl) underlying2 (jN (by omega) rfl))<|Lv (pf t 11) (iO z 11)<|jf m64 11 (av x.bF) fun w7 sH s9 z6 => ?_;obtain⟨V2,eV2⟩ : ∃ V:dA,V=⟨H.o,H.seq,H.bB,H.aI,H.node,H.dst,(x.bF:Int),H.bK,H.of⟩:=⟨_,rfl⟩;have aCY:jB V2:=(by rw[eV2]; exact⟨SH.o,SH.seq,SH.bB,SH.aI,SH.node,SH.dst,(show Br (x.bF:Int)from⟨by omega,by omega⟩),SH.bK,SH.of⟩);have aCZ:V2.o=(o:Int)+1/\V2.seq=(M.ml o).s.aF o+1/\V2.bB=(M.ml o).s.aF:=(by rw[eV2]; exact aCW);have aC0:wL V2:=(by rw[eV2]; exact⟨by show(x.bF:Int)<=65536; omega,aCX.bK⟩);have sI:aM w7 t 14 (dH V2) 30:=sH.congr (fun j u=>by rw[eV2]; exact Lg _ _ j u);have tO:=sG.cK s9 (by omega);have b10:=s9.below b9 b9.size (by omega);refine Ln<|bS<|sN<|ay<|Lv (.agg (aA 14 (dH V2))) (dZ sI.aJ 0 (ha:=z))<|dY tO 0 (ha:=D) (h1:=(lu _)) fun w8 qg oP z7 => ?_;have sS:aM w8 S 14 (dH V2) 30:=aO qg;have yR:=sI.cK oP (by omega);have b11:=oP.below b10 b10.size (by omega);refine aC (Wr (⟨.agg (aA 14 (dH V2)),rV Tryz.results20 ⟨_,D,aU sS.aJ (by kernel_rfl) (by kernel_rfl)⟩,?_⟩));exact⟨V2,aCY,aC0,by rw[<- eo]; exact aCZ,rfl,b11⟩
  refine Lv aD (gX c77)<|aC<|aL<|Wk<|sN<|Wl<|Lv (pf F 6) (iO R 6)<|Lv (.int .u16 (x.bF:Int)) (aR oo.aJ 6)<|Lv (av x.bF) (dQ rfl rfl (by kernel_rfl) underlying2 (jN (by omega) rfl))<|Lv (pf t 11) (iO z 11)<|jf G 11 (av x.bF) fun w9 xZ s11 z8 => ?_;obtain⟨V3,eV3⟩ : ∃ V:dA,V=⟨d.o,d.seq,d.bB,d.aI,d.node,d.dst,(x.bF:Int),d.bK,d.of⟩:=⟨_,rfl⟩;have aC1:jB V3:=by rw[eV3]; exact⟨h.o,h.seq,h.bB,h.aI,h.node,h.dst,(show Br (x.bF:Int)from⟨by omega,by omega⟩),h.bK,h.of⟩
  have aC2:V3.o=(o:Int)+1/\V3.seq=(M.ml o).s.aF o+1/\V3.bB=(M.ml o).s.aF:=by rw[eV3]; exact hd0
  have aC3:wL V3:=by rw[eV3]; exact⟨by show(x.bF:Int)<=65536; omega,Q.bK⟩
  have wE:aM w9 t 14 (dH V3) 30:=xZ.congr (fun j u=>by rw[eV3]; exact Lg _ _ j u);have yS:=sF.cK s11 (by omega);have b12:=s11.below E E.size (by omega);refine Ln<|bS<|sN<|ay<|Lv (.agg (aA 14 (dH V3))) (dZ wE.aJ 0 (ha:=z))<|dY yS 0 (ha:=D) (h1:=(lu _)) fun uE zi s12 z9 => ?_;have yI:aM uE S 14 (dH V3) 30:=aO zi;have zk:=wE.cK s12 (by omega);have b13:=s12.below b12 b12.size (by omega);refine aC (Wr (⟨.agg (aA 14 (dH V3)),rV Tryz.results20 ⟨_,D,aU yI.aJ (by kernel_rfl) (by kernel_rfl)⟩,?_⟩));exact⟨V3,aC1,aC3,by rw[<- eo]; exact aC2,rfl,b13⟩
 refine Lv aD (gX c73)<|au aD<|aC<|aL<|ay ?_;by_cases c85:d.aI=2
 ·refine Lv aH (gU c85)<|au aH<|aC<|aP<|ay<|bA h4<|Lv (pf t 9) (iO z 9)<|jf G 9 (aG W) fun Bg zS s13 QM => ?_;obtain⟨K,eV4⟩ : ∃ V:dA,V=⟨d.o,d.seq,d.bB,d.aI,W,d.dst,d.bF,d.bK,d.of⟩:=⟨_,rfl⟩;have SI:jB K:=by rw[eV4]; exact⟨h.o,h.seq,h.bB,h.aI,XU,h.dst,h.bF,h.bK,h.of⟩
  have aC4:K.o=(o:Int)+1/\K.seq=(M.ml o).s.aF o+1/\K.bB=(M.ml o).s.aF:=by rw[eV4]; exact hd0
  have aC5:wL K:=by rw[eV4]; exact⟨Q.bF,Q.bK⟩
  have zw:aM Bg t 14 (dH K) 30:=zS.congr (fun j u=>by rw[eV4]; exact JC _ _ j u);have yU:=gJ s13 G.ty;have Aj:=jU yU oo;have Bq:=sF.cK s13 (by omega);have b14:=s13.below E E.size (by omega);refine aC<|Wl<|Lv (pf F 6) (iO R 6)<|Lv (.int .u16 (x.bF:Int)) (aR Aj.aJ 6)<|Lv (av x.bF) (dQ rfl rfl (by kernel_rfl) underlying2 (jN (by omega) rfl))<|Lv (av ((x.bF:Int)+1)) gu<|Lv (pf t 11) (iO z 11)<|jf zw 11 (av ((x.bF:Int)+1)) fun BD BQ D5 z11 => ?_;obtain⟨V5,eV5⟩ : ∃ V:dA,V=⟨K.o,K.seq,K.bB,K.aI,K.node,K.dst,(x.bF:Int)+1,K.bK,K.of⟩:=⟨_,rfl⟩;have aC6:jB V5:=by rw[eV5]; exact⟨SI.o,SI.seq,SI.bB,SI.aI,SI.node,SI.dst,(show Br ((x.bF:Int)+1)from⟨by omega,by omega⟩),SI.bK,SI.of⟩
  have aC7:V5.o=(o:Int)+1/\V5.seq=(M.ml o).s.aF o+1/\V5.bB=(M.ml o).s.aF:=by rw[eV5]; exact aC4
  have aC8:wL V5:=by rw[eV5]; exact⟨by show(x.bF:Int)+1<=65536; omega,aC5.bK⟩
  have zT:aM BD t 14 (dH V5) 30:=BQ.congr (fun j u=>by rw[eV5]; exact Lg _ _ j u);have Bj:=Bq.cK D5 (by omega);have b15:=D5.below b14 b14.size (by omega);refine Ln<|bS<|sN<|ay<|Lv (.agg (aA 14 (dH V5))) (dZ zT.aJ 0 (ha:=z))<|dY Bj 0 (ha:=D) (h1:=(lu _)) fun Bh Ak s15 z12 => ?_;have BF:aM Bh S 14 (dH V5) 30:=aO Ak;have Et:=zT.cK s15 (by omega);have b16:=s15.below b15 b15.size (by omega);refine aC (Wr (⟨.agg (aA 14 (dH V5)),rV Tryz.results20 ⟨_,D,aU BF.aJ (by kernel_rfl) (by kernel_rfl)⟩,?_⟩));exact⟨V5,aC6,aC8,by rw[<- eo]; exact aC7,rfl,b16⟩
 refine Lv aD (gX c85)<|au aD<|aC<|aL<|ay ?_;by_cases c94:d.aI=3
 ·refine Lv aH (gU c94)<|au aH<|aC<|aP<|ay<|bA h4<|Lv (pf t 9) (iO z 9)<|jf G 9 (aG W) fun EU Bt s16 z13 => ?_;obtain⟨L,eV6⟩ : ∃ V:dA,V=⟨d.o,d.seq,d.bB,d.aI,W,d.dst,d.bF,d.bK,d.of⟩:=⟨_,rfl⟩;have SK:jB L:=by rw[eV6]; exact⟨h.o,h.seq,h.bB,h.aI,XU,h.dst,h.bF,h.bK,h.of⟩
  have aC9:L.o=(o:Int)+1/\L.seq=(M.ml o).s.aF o+1/\L.bB=(M.ml o).s.aF:=by rw[eV6]; exact hd0
  have aDa:wL L:=by rw[eV6]; exact⟨Q.bF,Q.bK⟩
  have Dv:aM EU t 14 (dH L) 30:=Bt.congr (fun j u=>by rw[eV6]; exact JC _ _ j u);have Ia:=gJ s16 G.ty;have BZ:=jU Ia oo;have Eu:=sF.cK s16 (by omega);have b17:=s16.below E E.size (by omega);refine aC<|ay<|Lv (pf F 6) (iO R 6)<|Lv (.int .u16 (x.bF:Int)) (aR BZ.aJ 6)<|Lv (av x.bF) (dQ rfl rfl (by kernel_rfl) underlying2 (jN (by omega) rfl))<|Lv (av ((x.bF:Int)+1)) gu<|Lv (pf t 11) (iO z 11)<|jf Dv 11 (av ((x.bF:Int)+1)) fun CW Gd LU z14 => ?_;obtain⟨N,eV7⟩ : ∃ V:dA,V=⟨L.o,L.seq,L.bB,L.aI,L.node,L.dst,(x.bF:Int)+1,L.bK,L.of⟩:=⟨_,rfl⟩;have SL:jB N:=by rw[eV7]; exact⟨SK.o,SK.seq,SK.bB,SK.aI,SK.node,SK.dst,(show Br ((x.bF:Int)+1)from⟨by omega,by omega⟩),SK.bK,SK.of⟩
  have aDb:N.o=(o:Int)+1/\N.seq=(M.ml o).s.aF o+1/\N.bB=(M.ml o).s.aF:=by rw[eV7]; exact aC9
  have aDc:wL N:=by rw[eV7]; exact⟨by show(x.bF:Int)+1<=65536; omega,aDa.bK⟩
  have vG:aM CW t 14 (dH N) 30:=Gd.congr (fun j u=>by rw[eV7]; exact Lg _ _ j u);have aeA:=gJ LU Dv.ty;have qO:=jU aeA BZ;have rO:=Eu.cK LU (by omega);have b18:=LU.below b17 b17.size (by omega);refine aC<|Wl<|Lv (pf F 7) (iO R 7)<|Lv (.int .u8 (x.bK:Int)) (aR qO.aJ 7)<|Lv (aG x.bK) (dQ rfl rfl (by kernel_rfl) underlying26 (jO (by omega) rfl))<|Lv (aG ((x.bK:Int)+1)) gu<|Lv (pf t 12) (iO z 12)<|jf vG 12 (aG ((x.bK:Int)+1)) fun w16 tY Qg z15 => ?_;obtain⟨V8,eV8⟩ : ∃ V:dA,V=⟨N.o,N.seq,N.bB,N.aI,N.node,N.dst,N.bF,(x.bK:Int)+1,N.of⟩:=⟨_,rfl⟩;have aDd:jB V8:=by rw[eV8]; exact⟨SL.o,SL.seq,SL.bB,SL.aI,SL.node,SL.dst,SL.bF,(show nU ((x.bK:Int)+1)from⟨by omega,by omega⟩),SL.of⟩
  have aDe:V8.o=(o:Int)+1/\V8.seq=(M.ml o).s.aF o+1/\V8.bB=(M.ml o).s.aF:=by rw[eV8]; exact aDb
  have aDf:wL V8:=by rw[eV8]; exact⟨aDc.bF,by show(x.bK:Int)+1<=256; omega⟩
  have qz:aM w16 t 14 (dH V8) 30:=tY.congr (fun j u=>by rw[eV8]; exact aex _ _ j u);have qQ:=rO.cK Qg (by omega);have b19:=Qg.below b18 b18.size (by omega);refine Ln<|bS<|sN<|ay<|Lv (.agg (aA 14 (dH V8))) (dZ qz.aJ 0 (ha:=z))<|dY qQ 0 (ha:=D) (h1:=(lu _)) fun Fg pV M6 z16 => ?_;have qA:aM Fg S 14 (dH V8) 30:=aO pV;have vH:=qz.cK M6 (by omega);have b20:=M6.below b19 b19.size (by omega);refine aC (Wr (⟨.agg (aA 14 (dH V8)),rV Tryz.results20 ⟨_,D,aU qA.aJ (by kernel_rfl) (by kernel_rfl)⟩,?_⟩));exact⟨V8,aDd,aDf,by rw[<- eo]; exact aDe,rfl,b20⟩
 refine Lv aD (gX c94)<|au aD<|aC<|aL<|ay ?_;by_cases atF:d.aI=4
 ·refine Lv aH (gU atF)<|au aH<|aC<|aP<|ay<|Lv (pf F 7) (iO R 7)<|Lv (.int .u8 (x.bK:Int)) (aR oo.aJ 7)<|Lv (aG x.bK) (dQ rfl rfl (by kernel_rfl) underlying26 (jO (by omega) rfl))<|Lv (aG ((x.bK:Int)+1)) gu<|Lv (pf t 12) (iO z 12)<|jf G 12 (aG ((x.bK:Int)+1)) fun En qR s20 z17 => ?_;obtain⟨O,eV9⟩ : ∃ V:dA,V=⟨d.o,d.seq,d.bB,d.aI,d.node,d.dst,d.bF,(x.bK:Int)+1,d.of⟩:=⟨_,rfl⟩;have SN:jB O:=by rw[eV9]; exact⟨h.o,h.seq,h.bB,h.aI,h.node,h.dst,h.bF,(show nU ((x.bK:Int)+1)from⟨by omega,by omega⟩),h.of⟩
  have aDg:O.o=(o:Int)+1/\O.seq=(M.ml o).s.aF o+1/\O.bB=(M.ml o).s.aF:=by rw[eV9]; exact hd0
  have atG:wL O:=by rw[eV9]; exact⟨Q.bF,by show(x.bK:Int)+1<=256; omega⟩
  have tZ:aM En t 14 (dH O) 30:=qR.congr (fun j u=>by rw[eV9]; exact aex _ _ j u);have atH:=gJ s20 G.ty;have zD:=jU atH oo;have wG:=sF.cK s20 (by omega);have DW:=s20.below E E.size (by omega);refine aC<|Wl<|Lv (pf F 8) (iO R 8)<|Lv (.int .u8 (x.of:Int)) (aR zD.aJ 8)<|Lv (aG x.of) (dQ rfl rfl (by kernel_rfl) underlying26 (jO (by omega) rfl))<|Lv (aG ((x.of:Int)+1)) gu<|Lv (pf t 13) (iO z 13)<|jf tZ 13 (aG ((x.of:Int)+1)) fun YF wH Rf z18 => ?_;obtain⟨X,aiZ⟩ : ∃ V:dA,V=⟨O.o,O.seq,O.bB,O.aI,O.node,O.dst,O.bF,O.bK,(x.of:Int)+1⟩:=⟨_,rfl⟩;have atI:jB X:=by rw[aiZ]; exact⟨SN.o,SN.seq,SN.bB,SN.aI,SN.node,SN.dst,SN.bF,SN.bK,(show nU ((x.of:Int)+1)from⟨by omega,by omega⟩)⟩
  have atJ:X.o=(o:Int)+1/\X.seq=(M.ml o).s.aF o+1/\X.bB=(M.ml o).s.aF:=by rw[aiZ]; exact aDg
  have atK:wL X:=by rw[aiZ]; exact⟨atG.bF,atG.bK⟩
  have Ay:aM YF t 14 (dH X) 30:=wH.congr (fun j u=>by rw[aiZ]; exact aty _ _ j u);have uf:=wG.cK Rf (by omega);have zl:=Rf.below DW DW.size (by omega);refine Ln<|bS<|sN<|ay<|Lv (.agg (aA 14 (dH X))) (dZ Ay.aJ 0 (ha:=z))<|dY uf 0 (ha:=D) (h1:=(lu _)) fun TN oQ Xc z19 => ?_;have wI:aM TN S 14 (dH X) 30:=aO oQ;have wJ:=Ay.cK Xc (by omega);have Fh:=Xc.below zl zl.size (by omega);refine aC (Wr (⟨.agg (aA 14 (dH X)),rV Tryz.results20 ⟨_,D,aU wI.aJ (by kernel_rfl) (by kernel_rfl)⟩,?_⟩));exact⟨X,atI,atK,by rw[<- eo]; exact atJ,rfl,Fh⟩
 refine Lv aD (gX atF)<|au aD<|aC<|aL<|ay ?_;by_cases atL:d.aI=5
 ·refine Lv aH (gU atL)<|au aH<|aC<|aP<|ay<|bA h4<|Lv (pf t 9) (iO z 9)<|jf G 9 (aG W) fun WE Bu Ze z20 => ?_;obtain⟨I,aja⟩ : ∃ V:dA,V=⟨d.o,d.seq,d.bB,d.aI,W,d.dst,d.bF,d.bK,d.of⟩:=⟨_,rfl⟩;have Io:jB I:=by rw[aja]; exact⟨h.o,h.seq,h.bB,h.aI,XU,h.dst,h.bF,h.bK,h.of⟩
  have atN:I.o=(o:Int)+1/\I.seq=(M.ml o).s.aF o+1/\I.bB=(M.ml o).s.aF:=by rw[aja]; exact hd0
  have atO:wL I:=by rw[aja]; exact⟨Q.bF,Q.bK⟩
  have Ca:aM WE t 14 (dH I) 30:=Bu.congr (fun j u=>by rw[aja]; exact JC _ _ j u);have atP:=gJ Ze G.ty;have zF:=jU atP oo;have zG:=sF.cK Ze (by omega);have Gs:=Ze.below E E.size (by omega);refine aC<|ay<|Lv (pf F 6) (iO R 6)<|Lv (.int .u16 (x.bF:Int)) (aR zF.aJ 6)<|Lv (av x.bF) (dQ rfl rfl (by kernel_rfl) underlying2 (jN (by omega) rfl))<|Lv (av ((x.bF:Int)+1)) gu<|Lv (pf t 11) (iO z 11)<|jf Ca 11 (av ((x.bF:Int)+1)) fun YG Az s24 z21 => ?_;obtain⟨J,ajb⟩ : ∃ V:dA,V=⟨I.o,I.seq,I.bB,I.aI,I.node,I.dst,(x.bF:Int)+1,I.bK,I.of⟩:=⟨_,rfl⟩;have Iq:jB J:=by rw[ajb]; exact⟨Io.o,Io.seq,Io.bB,Io.aI,Io.node,Io.dst,(show Br ((x.bF:Int)+1)from⟨by omega,by omega⟩),Io.bK,Io.of⟩
  have atQ:J.o=(o:Int)+1/\J.seq=(M.ml o).s.aF o+1/\J.bB=(M.ml o).s.aF:=by rw[ajb]; exact atN
  have alp:wL J:=by rw[ajb]; exact⟨by show(x.bF:Int)+1<=65536; omega,atO.bK⟩
  have Bv:aM YG t 14 (dH J) 30:=Az.congr (fun j u=>by rw[ajb]; exact Lg _ _ j u);have atS:=gJ s24 Ca.ty;have Dw:=jU atS zF;have AA:=zG.cK s24 (by omega);have M7:=s24.below Gs Gs.size (by omega);refine aC ?_;obtain⟨P,er6⟩ : ∃ r,r=x.dst % 6:=⟨_,rfl⟩;have hr6:P<6:=by rw[er6]; exact I_ _ (by omega)
  refine Wl<|Lv (pf F 5) (iO R 5)<|Lv (.int .u8 (x.dst:Int)) (aR Dw.aJ 5)<|Lv (av x.dst) (dQ rfl rfl (by kernel_rfl) underlying3 (jN (by omega) rfl))<|Lv (av P) (BK rfl rfl rfl (by omega) (Lf er6))<|Lv (av ((P:Int)+1)) gu<|Lv (pf t 10) (iO z 10)<|jf Bv 10 (av ((P:Int)+1)) fun yB DC s25 z22 => ?_;obtain⟨Y,ajc⟩ : ∃ V:dA,V=⟨J.o,J.seq,J.bB,J.aI,J.node,(P:Int)+1,J.bF,J.bK,J.of⟩:=⟨_,rfl⟩;have atU:jB Y:=by rw[ajc]; exact⟨Iq.o,Iq.seq,Iq.bB,Iq.aI,Iq.node,(show Br ((P:Int)+1)from⟨by omega,by omega⟩),Iq.bF,Iq.bK,Iq.of⟩
  have atV:Y.o=(o:Int)+1/\Y.seq=(M.ml o).s.aF o+1/\Y.bB=(M.ml o).s.aF:=by rw[ajc]; exact atQ
  have atW:wL Y:=by rw[ajc]; exact⟨alp.bF,alp.bK⟩
  have Dx:aM yB t 14 (dH Y) 30:=DC.congr (fun j u=>by rw[ajc]; exact aew _ _ j u);have zH:=AA.cK s25 (by omega);have TS:=s25.below M7 M7.size (by omega);refine Ln<|bS<|sN<|ay<|Lv (.agg (aA 14 (dH Y))) (dZ Dx.aJ 0 (ha:=z))<|dY zH 0 (ha:=D) (h1:=(lu _)) fun Ui AJ s26 z23 => ?_;have AL:aM Ui S 14 (dH Y) 30:=aO AJ;have Cc:=Dx.cK s26 (by omega);have UG:=s26.below TS TS.size (by omega);refine aC (Wr (⟨.agg (aA 14 (dH Y)),rV Tryz.results20 ⟨_,D,aU AL.aJ (by kernel_rfl) (by kernel_rfl)⟩,?_⟩));exact⟨Y,atU,atW,by rw[<- eo]; exact atV,rfl,UG⟩
 refine Lv aD (gX atL)<|au aD<|aC<|aL<|ay ?_;by_cases atX:d.aI=6
 ·refine Lv aH (gU atX)<|au aH<|aC<|aP ?_;obtain⟨P,er6⟩ : ∃ r,r=x.dst % 6:=⟨_,rfl⟩;have hr6:P<6:=by rw[er6]; exact I_ _ (by omega)
  refine Wl<|Lv (pf F 5) (iO R 5)<|Lv (.int .u8 (x.dst:Int)) (aR oo.aJ 5)<|Lv (av x.dst) (dQ rfl rfl (by kernel_rfl) underlying3 (jN (by omega) rfl))<|Lv (av P) (BK rfl rfl rfl (by omega) (Lf er6))<|Lv (av ((P:Int)+1)) gu<|Lv (pf t 10) (iO z 10)<|jf G 10 (av ((P:Int)+1)) fun w25 Ev YK z24 => ?_;obtain⟨Z,ajd⟩ : ∃ V:dA,V=⟨d.o,d.seq,d.bB,d.aI,d.node,(P:Int)+1,d.bF,d.bK,d.of⟩:=⟨_,rfl⟩;have atY:jB Z:=by rw[ajd]; exact⟨h.o,h.seq,h.bB,h.aI,h.node,(show Br ((P:Int)+1)from⟨by omega,by omega⟩),h.bF,h.bK,h.of⟩
  have atZ:Z.o=(o:Int)+1/\Z.seq=(M.ml o).s.aF o+1/\Z.bB=(M.ml o).s.aF:=by rw[ajd]; exact hd0
  have aua:wL Z:=by rw[ajd]; exact⟨Q.bF,Q.bK⟩
  have Cg:aM w25 t 14 (dH Z) 30:=Ev.congr (fun j u=>by rw[ajd]; exact aew _ _ j u);have Fw:=sF.cK YK (by omega);have UH:=YK.below E E.size (by omega);refine Ln<|bS<|sN<|ay<|Lv (.agg (aA 14 (dH Z))) (dZ Cg.aJ 0 (ha:=z))<|dY Fw 0 (ha:=D) (h1:=(lu _)) fun YM Dy s28 z25 => ?_;have Ew:aM YM S 14 (dH Z) 30:=aO Dy;have Md:=Cg.cK s28 (by omega);have b29:=s28.below UH UH.size (by omega);refine aC (Wr (⟨.agg (aA 14 (dH Z)),rV Tryz.results20 ⟨_,D,aU Ew.aJ (by kernel_rfl) (by kernel_rfl)⟩,?_⟩));exact⟨Z,atY,aua,by rw[<- eo]; exact atZ,rfl,b29⟩
 refine Lv aD (gX atX)<|au aD<|aC<|aL<|Wk<|bS<|sN<|ay<|Lv (.agg (aA 14 (dH d))) (dZ G.aJ 0 (ha:=z))<|dY sF 0 (ha:=D) (h1:=(lu _)) fun w27 IX s29 z26 => ?_;have Ey:aM w27 S 14 (dH d) 30:=aO IX;have FB:=G.cK s29 (by omega);have b30:=s29.below E E.size (by omega);refine aC (Wr (⟨.agg (aA 14 (dH d)),rV Tryz.results20 ⟨_,D,aU Ey.aJ (by kernel_rfl) (by kernel_rfl)⟩,?_⟩));exact⟨d,h,Q,by rw[<- eo]; exact hd0,rfl,b30⟩
theorem Rt.ZR{L:iQ}{v:dA}(h:dP L v=0):dG v=true:=by
 unfold dP at h;split at h; · cases h
 rename_i h1; simpa using h1
structure Rt.DoR(o:Nat)(x:Ld)(M M':WM)(v:dA):Prop where
 n:M'.n=M.n
 oth : ∀ q,q≠o->M'.ml q=M.ml q
 c:(v=Nk/\M'.an=M.an/\M'.ev=M.ev/\((M'.ml o).aW=(M.ml o).aW\/x.SG=true/\(M'.ml o).aW=KC M.ev M.an (M.ml (x.FX % M.n)).s.aF (M.ml o).aW))\/(x.SG=false/\M'.an=M.an+1/\M'.ev=aN M.ev M.an v/\dP (M.ml o).aW v=0/\(M'.ml o).aW=fF (M.ml o).aW v/\v.o=(o:Int)+1/\v.seq=(M.ml o).s.aF o+1/\v.bB=(M.ml o).s.aF)
theorem Rt.Dr{L:iQ}{v:dA}(h:dP L v=0):(fF L v).aF=aN L.aF (aX v) (L.aF (aX v)+1):=by
 rcases wM L v with ⟨_,a⟩|⟨h1,_⟩
 ·exact a
 exact L_ h h1
theorem Rt.SQ:jB Nk:=by
 have z:nU 0:=⟨by decide,by decide⟩;have y:Br 0:=⟨by decide,by decide⟩;exact⟨y,z,fun _ _=>z,⟨by decide,by decide⟩,z,y,y,z,z⟩
def wdS(p:Nat)(M:WM)(k:Nat):Prop:=k=p\/(Value.slice M.la M.n M.lc).ownBlock=some k\/(Value.slice M.aa M.an M.ac).ownBlock=some k
def aje(w:World)(p:Nat)(M a:WM):Prop := ∀ k,wdS p a k->wdS p M k\/w.heap.size<=k
theorem sj.ge{w:World}{B p T:Nat}{M:WM}(h:sj w B p M T) : ∀ k,wdS p M k->B<=k/\k<w.heap.size:=fun k b=>by
 rcases b with rfl|e|e
 ·exact⟨h.pB,h.c.lt⟩
 ·exact h.l.ge e
 ·exact h.a.ge e
theorem sj.Vy{M:WM}(B:sj c m k M b)(a:m<=c.heap.size)(w:ko (wdS k M) c h):Below m c h:=Fx.ko.below (Below.refl m c) w (fun w' p=>(B.ge w' p).1) a
theorem aje.app{M a:WM}(i:(Value.slice M.aa M.an M.ac).ownBlock=some m\/m=U.heap.size)(l:c.heap.size<=U.heap.size)(h1:a.la=M.la:=by rfl)(g:a.n=M.n:=by rfl)(d:a.lc=M.lc:=by rfl)(f:(Value.slice a.aa a.an a.ac).ownBlock=some m:=by rfl):aje c k M a:=fun w j=>by
 rcases j with h|h|h
 ·exact .inl (.inl h)
 ·rw[h1,g,d]at h; exact .inl (.inr (.inl h))
 ·have e:=C_ (f.symm.trans h)
  rcases i with h5|h5
  ·exact .inl (.inr (.inr (e ▸ h5)))
  ·exact .inr (by omega)
set_option maxRecDepth 20000 in
set_option maxHeartbeats 2000000 in
theorem aub(M:WM)(B p T:Nat)(x:Ld)(w:World)(d:sj w B p M T)(hB:B<=w.heap.size)(hx:NY x)(han:M.an<=60)(hT:T<=890000) :
 Calls prog 6 #[(pt p),.agg (aA 9 (Mv x))] w fun e w' => ∃ v,e = .returned (.agg (aA 14 (dH v)))/\jB v /\ ∃ O,sj w' B p O (T+3660)/\DoR (x.SF % M.n) x M O v/\O.an<=M.an+1/\(x.SG=true->O.an=M.an)/\ko (wdS p M) w w'/\aje w p M O:=by
 have hWc:=d.c;have hWl:=d.l;have hWa:=d.a;have hWg:=d.g;have hn1:=d.n1;have hn6:=d.n6;have hpB:=d.pB;have lpp:p<w.heap.size:=hWc.lt;have hxw:=hx.SF;have hxo:=hx.FX;have hxk:=hx.aI;have hxn:=hx.node;have hxt:=hx.dst;have hxa:=hx.bF;have hxr:=hx.bK;have hxf:=hx.of;refine bX func6 94 ?_;refine ay<|oq fun g1 w1 kV m1 s1 z1 => ?_;have⟨m2,f,m4,m5,m6⟩:=oK s1.bP hWc hWl hWa hWg d;have b1:=(vR (wdS p M) w).then s1 (.inr (vR (wdS p M) w).size);have tJ:w.heap.size<=g1:=by rw[kV]; exact(vR (wdS p M) w).size
 have rJ:=gD kV hWc.lt;have vB:=m1.lt;refine oJ 14 zQ0 fun R w2 nN m7 s2 z2 => ?_;have⟨m8,m9,m10,m11,kY,m13⟩:=oL s2.bP m2 f m4 m5 m6 m1;have b2:=b1.then s2 (.inr b1.size);have xw:=gQ nN b1.size;have akG:=gD nN m2.lt;have GX:(.slice M.aa (M.an) (M.ac):Value).ownBlock≠some R:=by rw[nN]; exact m4.gW (A_ _)
 have EI:=gD nN m1.lt;have zR:=m7.lt;refine aC<|aQ ?_;obtain⟨o,Q⟩ : ∃ r,r=x.SF % M.n:=⟨_,rfl⟩;have ho:o<M.n:=by rw[Q]; exact I_ _ (by omega)
 refine zu<|bI (pt g1)<|Qv (.int .u8 (x.SF:Int)) (fun D C=>aR (m13.aJ.dr C) 0)<|Qv (av x.SF) (fun D C=>dQ rfl rfl (by kernel_rfl) underlying3 (jN (by omega) rfl))<|bI (pt p)<|bI (pt p)<|bI (pt p)<|Qv (.slice M.la (M.n) (M.lc)) (fun D C=>aR (m8.aJ.dr C) 0)<|bI (av M.n)<|Qv (av o) (fun D C=>BK rfl rfl rfl (by omega) (Lf Q))<|bI (av o)<|Qn ?_;rintro _ ⟨qd,rfl⟩;obtain⟨IC,xI⟩ : ∃ D,D=World.drewN w2 qd:=⟨_,rfl⟩;rw[<- xI];have s3:eG w2.heap.size w2 IC:=by rw[xI]; exact Sb (kQ w2 qd)
 have⟨m14,m15,m16,m17,m18,Z,m20⟩:=kU s3.bP m8 m9 m10 m11 kY m13 m7;have b3:=b2.then s3 (.inr b2.size);clear xI;refine sN<|aQ<|ay<|au (pf g1 1) ?_;by_cases H:x.SG=true
 ·refine Lv aH (aR Z.aJ 1 ((show _=Value.bool x.SG from rfl).trans (K_ Value.bool H)))<|aC<|aP<|aQ ?_;obtain⟨A,apg⟩ : ∃ r,r=x.FX % M.n:=⟨_,rfl⟩;have aH8:A<M.n:=by rw[apg]; exact I_ _ (by omega)
  have aiX:=m17 A (by omega);have aey:=aiX.c;have aiY:=m17 o (by omega);refine nP [0,1,2,4,5,6,7,9,12,13,14,16,17,18,20,23,24,25,3,8,10,11,15,19,21,22,26,27,28,29,30,31,32,33,34,35,36,37] [0,0,0,1,0,0,0,0,4,0,0,4,0,0,0,4,0,0,0,4,0,4,0,0,0,0,4,0,0,0,4,0,0,0,4,2,0,3] [(37,3,[3]),(35,8,[11,10,8]),(37,8,[8]),(35,11,[11]),(37,11,[11]),(35,15,[15]),(37,15,[15]),(35,19,[34,33,32,31,30,29,19]),(37,19,[19]),(35,21,[34,33,32,31,30,29,28,22,21]),(37,21,[21]),(35,26,[34,33,32,31,30,29,28,27,26]),(37,26,[26]),(35,30,[34,33,32,31,30]),(37,30,[30]),(35,34,[34]),(37,34,[34]),(36,35,[35]),(37,35,[35])] fun qN eX iM => ?_;have s4:eG IC.heap.size IC qN:=Sb eX;have⟨G,m22,m23,m24,mU,pK,pO,om⟩:=lY eX m14 m15 m16 m17 Z m20 aey aiY;have b4:=b3.then s4 (.inr b3.size);refine aS (pt p)<|aS (pt p)<|aS (pt p)<|aS (av o)<|aS (pt p)<|aS (pt p)<|aS (pt p)<|aS (av o)<|aS (pt p)<|aS (pt p)<|aS (pf p 1)<|aS (pt p)<|aS (pt p)<|aS (pt p)<|aS (pf g1 2)<|aS (pt p)<|aS (pt p)<|aS (pt p)<|lI (v := .slice M.la (M.n) (M.lc)) (by rfl) (by rfl) (mE _) (fun D C=>bE (x:=Sw (.slice M.la (M.n) (M.lc)) (.slice M.aa (M.an) (M.ac))) rfl rfl (by kernel_rfl) (G.aJ.below C (by have:=G.lt; omega)) (i:=0) (by omega) (by omega) rfl) ?_;refine Rs (.slice M.la (M.n) (M.lc)) (aR G.aJ 0) ?_;obtain⟨S,J⟩:=m22.wz (by omega);have qb:aY qN B 49 1 (dz S M.n M.lc) M.n (K5 M.pl):=m22.fE (K_ (fun q=>Value.slice q M.n M.lc) J);refine Rp (pf S o) (fun _=>fC 1 (hx:=(rfl.trans (K_ (fun q=>Value.slice q (M.n) (M.lc)) J))))<|Rs (pt (M.pl o)) (aR qb.aJ o) ?_;refine Rs (.slice M.aa (M.an) (M.ac)) (aR G.aJ 1) ?_;refine Rs (.slice M.la (M.n) (M.lc)) (aR G.aJ 0) ?_;refine Rs (.int .u8 (x.FX:Int)) (aR mU.aJ 2) ?_;refine Rp (av x.FX) (fun D=>dQ rfl rfl (by kernel_rfl) underlying3 (jN (by omega) rfl))<|Rs (.slice M.la (M.n) (M.lc)) (aR G.aJ 0) ?_;refine aS (av M.n)<|Rp (av A) (fun D=>BK rfl rfl rfl (by omega) (Lf apg))<|Rp (pf S A) (fun _=>fC 1 (hx:=(rfl.trans (K_ (fun q=>Value.slice q (M.n) (M.lc)) J))))<|Rs (pt (M.pl A)) (aR qb.aJ A) ?_;refine aS (pt (M.pl A))<|aS (pt (M.pl A))<|aS (pf (M.pl A) 12)<|Rs (.agg (aA 6 (rv .u64 ((M.ml A).s.aF)))) (dZ pO.aJ 12 (fun j X=>nD _ (by omega) (fA _ X (by omega)))) ?_;refine mF<|lX (ahM (M.ml o) B (M.pl o) T M.aa M.an M.ac M.ev ((M.ml A).s.aF) _ om (d.uU o (by omega)) m23.oI d.wf d.iV d.sm han hT) ?_;rintro e9 w3 ⟨t,f,E,hlc,hI3,hL1,hb1⟩;refine⟨(pt t),E,?_⟩;clear E;have s5:=Sb hb1;have⟨qV,mY,m32,pz,rE⟩:=oK hb1 G m23 m24 pK qb;have b5:=b4.then s5 (.inr b4.size);refine Ln ⟨s5.bP,?_⟩;refine Rp (pf S o) (fun _=>fC 1 (hx:=(rfl.trans (K_ (fun q=>Value.slice q (M.n) (M.lc)) J))))<|jP<|Gb rE o (pt t) fun w4 sD s6 z3 => ?_;have gT:=gJ s6 rE.Wq;have⟨qM,qW,vk,qx,uF⟩:=xu gT qV mY m32 pz hL1;have b6:=b5.then s6 (.inl (.inr (.inl (by rw[J]; rfl))));have sQ:aY w4 B 49 1 (dz S M.n M.lc) M.n (K5 (aN M.pl o t)):=sD.congr (fun F _=>congrFun aej F);refine Ln<|dJ<|ay<|au (.agg (aA 14 zQ0))<|dY qx 0 (h1:=(fun F _=>by show(zQ0 F).oneCell'=true; simp only[zQ0]; repeat (first|rfl|split))) fun w5 qc s7 z4 => ?_
  have tK:aM w5 R 14 zQ0 30:=aO qc;have jC:=gJ s7 qx.ty;have xY:=jU jC qM;have uN:=qW.cK s7 GX;have⟨yj,xA,yH⟩:=wB jC vk uF sQ;have b7:=b6.then s7 (.inr xw);refine aC (Wr (sR (⟨.agg (aA 14 zQ0),rV Tryz.results6 ⟨_,rfl,aU tK.aJ (by kernel_rfl) (by kernel_rfl)⟩,?_⟩)));have wC:aY w5 B 49 1 (.slice M.la (M.n) (M.lc)) M.n (K5 (aN M.pl o t)):=yH.fE (K_ (fun q=>Value.slice q M.n M.lc) J.symm);exact⟨Nk,K_ (fun z=>Ending.returned (Value.agg z)) (fI (y:=dH Nk) fun j X=>by rcases j with _|_|_|_|_|_|_|_|_|_|_|_|_|_|j <;> first|rfl|omega),SQ,{ M with pl:=aN M.pl o t,ml:=aN M.ml o f },{ c:=xY,l:=wC,a:=uN,g:=yj.put xA,uU:=(fun i U=>by show UL (aN M.ml o f i).aW _; unfold aN; split; exact hI3; exact(d.uU i U).mono (by omega)),wf:=d.wf,iV:=d.iV,sm:=d.sm,cz:=d.cz.learn (o:=o) (by omega) (L:=(M.ml o).aW) rfl (fun q u=>by show(aN M.ml o f q).s.aF=_; unfold aN; rw[b_ u]) (by show(aN M.ml o f o).s.aF=_; unfold aN; rw[d_ rfl]; exact K_ iQ.aF hlc),pB:=hpB,n1:=hn1,n6:=hn6 },(by rw[<- Q]; exact⟨rfl,fun q u=>by show aN M.ml o f q=_; unfold aN; rw[b_ u],.inl ⟨rfl,rfl,rfl,.inr ⟨H,by rw[<- apg]; show(aN M.ml o f o).aW=_; unfold aN; rw[d_ rfl]; exact hlc⟩⟩⟩),(by show M.an<=M.an+1; omega),(fun _=>rfl),b7,fun _ h => .inl h⟩
 rw[R_]at H;refine Lv aD (aR Z.aJ 1 ((show _=Value.bool x.SG from rfl).trans (K_ Value.bool H)))<|aC<|aL<|Wk<|sN<|ay<|au (pt p)<|Lv (.agg (aA 9 (Mv x))) (dZ Z.aJ 0)<|lX (aiV M B p T x _ m18 hx) ?_;rintro e9 w6 ⟨V,hV,hVs,hVd,E,hb2⟩;refine⟨_,E,?_⟩;clear E;rw[<- Q]at hVd;have s8:=Sb hb2;have⟨vU,wD,tL,uG,sF,pE⟩:=oL hb2 m14 m15 m16 m17 Z m20;have b8:=b3.then s8 (.inr b3.size);refine oJ 14 zQ0 fun g3 w7 nO vV s9 z5 => ?_;have⟨m64,xB,sG,sH,sI,tN⟩:=oL s9.bP vU wD tL uG sF pE;have b9:=b8.then s9 (.inr b8.size);have Gc:=gQ nO b8.size;have aDi:=gD nO vU.lt;have Vz:(.slice M.aa (M.an) (M.ac):Value).ownBlock≠some g3:=by rw[nO]; exact tL.gW (A_ _)
 have⟨aDj,aDk⟩:=oM nO sF.lt pE.lt;have Gr:=vV.lt;refine dY vV 0 (h1:=(lu _)) fun w8 tO oP z6 => ?_;have qg:aM w8 g3 14 (dH V) 30:=aO tO;have oz:=gJ oP vV.ty;have⟨sS,vW⟩:=lZ oz m64 xB;have yR:=sG.cK oP Vz;have⟨xZ,wE⟩:=lZ oz sH sI;have zh:=tN.cK oP (by omega);have b10:=b9.then oP (.inr Gc);refine aC<|aQ ?_;have aDl:=xZ o (by omega);refine nP [0,1,2,4,3,5,6,7,8,9,10,11,12,13] [0,0,0,4,0,0,4,4,3,0,0,0,0,0] [(8,3,[6,5,3]),(8,6,[6]),(8,7,[7]),(9,8,[8]),(10,8,[9,8]),(11,8,[9,8]),(12,8,[8]),(13,8,[8])] fun Fu iZ rM => ?_;have s11:eG w8.heap.size w8 Fu:=Sb iZ;have⟨yS,zi,yI,xC,zk,zS,zw,Aj⟩:=lY iZ sS vW yR xZ wE zh qg aDl;have b11:=b10.then s11 (.inr b10.size);refine aS (pt p)<|aS (pt p)<|aS (pt p)<|aS (av o)<|Rs (.slice M.la (M.n) (M.lc)) (aR yS.aJ 0) ?_;obtain⟨OY,K⟩:=zi.wz (by omega);have Bq:aY Fu B 49 1 (dz OY M.n M.lc) M.n (K5 M.pl):=zi.fE (K_ (fun q=>Value.slice q M.n M.lc) K);refine Rp (pf OY o) (fun _=>fC 1 (hx:=(rfl.trans (K_ (fun q=>Value.slice q (M.n) (M.lc)) K))))<|Rs (pt (M.pl o)) (aR Bq.aJ o) ?_;refine Rs (.agg (aA 14 (dH V))) (dZ zw.aJ 0) ?_;refine jP<|lX (Xe (M.ml o) B (M.pl o) T V _ Aj hV (d.uU o (by omega)).w (by omega)) ?_;rintro e9 w9 ⟨t,f,E,hc3,hL2,hb3⟩;refine⟨.tuple #[(pt t),av (dP (M.ml o).aW V)],E,?_⟩;clear E;have s12:=Sb hb3;have⟨BQ,zT,BR,Bj,Ak,BF,DY⟩:=kU hb3 yS yI xC zk zS zw Bq;have b12:=b11.then s12 (.inr b11.size);refine Ln<|aS (.tuple #[(pt t),av (dP (M.ml o).aW V)])<|aS (pt t)<|aS (av (dP (M.ml o).aW V))<|aS (pt t)<|aS (av (dP (M.ml o).aW V))<|dJ<|aQ<|ay<|au (av (dP (M.ml o).aW V)) ?_;by_cases I:(dP (M.ml o).aW V)=0
 ·refine Lv aD (kr I)<|aC<|aL<|Wk<|sN<|ay<|au (pt p)<|au (pt p)<|au (pt p)<|Lv (.slice M.la (M.n) (M.lc)) (aR BQ.aJ 0)<|au (av o)<|au (pt t)<|Lv (pf OY o) (fC 1 (hx:=(rfl.trans (K_ (fun q=>Value.slice q (M.n) (M.lc)) K))))<|Gb DY o (pt t) fun uE Et s13 z7 => ?_;have tV:=gJ s13 DY.Wq;have⟨Bt,Dv,BZ,Eu,Gd,vG,qO⟩:=QD tV BQ zT BR Bj Ak BF hL2;have b13:=b12.then s13 (.inl (.inr (.inl (by rw[K]; rfl))));have rO:aY uE B 49 1 (dz OY M.n M.lc) M.n (K5 (aN M.pl o t)):=Et.congr (fun F _=>congrFun aej F);refine aC<|aQ ?_;have tY:aY uE B 49 1 (.slice M.la (M.n) (M.lc)) M.n (K5 (aN M.pl o t)):=rO.fE (K_ (fun q=>Value.slice q M.n M.lc) K.symm);refine W.nC [0,1,2,3,4,5,6,7,8,9,10] [0,0,0,0,1,4,2,2,0,0,3] (jk [30]) vS Fx.jk.trans (bR := [(10,4,[4]),(6,5,[5]),(7,5,[6,5]),(10,5,[5]),(7,6,[6]),(8,6,[6]),(9,6,[6]),(10,6,[6]),(8,7,[7]),(9,7,[7]),(10,7,[7])]) (by kernel_rfl) (by kernel_rfl) (by kernel_rfl) (by kernel_rfl) (by kernel_rfl) fun MU mZ DZ => ?_;have D5:eG uE.heap.size uE MU:=Sb mZ;have⟨qz,qP,qQ,pV,qA,uR,vH,qR⟩:=lY mZ Bt Dv BZ Eu Gd vG qO tY;have b14:=b13.then D5 (.inr b13.size);refine aS (pt p)<|aS (pt p)<|aS (pt p)<|aS (pf p 1)<|lI (v := .slice M.aa (M.an) (M.ac)) (by rfl) (by rfl) (vS _) (fun D C=>bE (x:=Sw (.slice M.la (M.n) (M.lc)) (.slice M.aa (M.an) (M.ac))) rfl rfl (by kernel_rfl) (qz.nA C (by decide)).aJ (i:=1) (by omega) (by omega) rfl) ?_;refine Rs (.agg (aA 14 (dH V))) (dZ uR.aJ 0) ?_;refine mF<|uz (vs := [(0,.agg (aA 14 (dH V)))]) (s:=14) (zc:=fun b=>if b<1 then av 0 else if b<8 then aG 0 else if b<9 then .int .u8 (0)else if b<10 then aG 0 else if b<12 then av 0 else aG 0) (y:=bJ (fun j=>zQ0 (j % 14)) (0*14) 14 (dH V)) (by rfl) rfl rfl underlying36 (by kernel_rfl) (by rfl) (by rfl) (by kernel_rfl) (by rw[aT (off:=0*14) (s:=14) (y:=dH V) rfl (bM _ _) (by rfl)]; rfl) rfl fun g4 Bg yL tZ s15 z8 => ?_;have⟨zD,wG,wH,yV,uf,oQ,wI⟩:=kU s15.bP qz qP qQ qA uR vH qR;have b15:=b14.then s15 (.inr b14.size);have Uw:=gQ yL b14.size;have axd:=gD yL qz.lt;have axe:(.slice M.aa (M.an) (M.ac):Value).ownBlock≠some g4:=by rw[yL]; exact qP.gW (A_ _)
  have⟨axf,axg,axh⟩:=El yL pV.lt qA.lt uR.lt;have TR:=tZ.lt;refine Ln ⟨Fx.jk.jr s15.bP,?_⟩;refine mF<|xX (B:=B) (s:=14) (bytes:=112) (k:=M.an) (m:=1) (v := .slice M.aa (M.an) (M.ac)) (x:=evX M.ev) (by rfl) rfl rfl rfl underlying36 (by kernel_rfl) (by kernel_rfl) rfl rfl wG tZ.aJ (CZ (fun j=>(show(dH V j).oneCell'=true by unfold dH; repeat (first|rfl|split)))) (by omega) (by omega) (by omega) (m_ hB b15.size) fun N sK BD ho1 hg1 vE hlt1 => ?_
  have tX:=yc hg1 wG;have⟨wJ,Bu⟩:=lZ tX zD wH;have zF:=yV.grown hg1 GX;have axi:R≠N:=fun e=>vE.elim (fun P=>GX (by rw[e]; exact P)) (fun P=>by have:=yV.lt; omega);have zG:=uf.grown hg1 Vz;have axj:g3≠N:=fun e=>vE.elim (fun P=>Vz (by rw[e]; exact P)) (fun P=>by have:=uf.lt; omega);have⟨Az,Bv⟩:=lZ tX oQ wI;have yX:aY BD B 30 14 (dz N (M.an+1) sK) (M.an+1) (evX (aN M.ev M.an V)):=(ho1.congr (fun j X=>apa j X));have b16:ko (wdS p M) w BD:=Fx.ko.grow b15 hg1 (fun q u => .inl (.inr (.inr u)));refine Ln ⟨tX,?_⟩;refine aS (pt p)<|aS (pf p 1)<|jP<|jf wJ 1 (dz N (M.an+1) sK) fun Bh Dw s16 z9 => ?_;have AA:aM Bh p 2 (Sw (.slice M.la (M.n) (M.lc)) (dz N (M.an+1) sK)) 38:=Dw.congr (atv _ _ _);have Av:=gJ s16 wJ.ty;have⟨DC,AB,zH,AJ,AL,Cb⟩:=YD Av Bu zF zG Az Bv yX;have b17:=b16.then s16 (.inl (.inl rfl));refine Ln<|dJ<|ay<|Lv (.agg (aA 14 (dH V))) (dZ zH.aJ 0)<|dY AB 0 (h1:=(lu _)) fun EU Cc LU QM => ?_;have Ev:aM EU R 14 (dH V) 30:=aO Cc;have yU:=gJ LU AB.ty;have Cg:=jU yU DC;have Fw:=zH.cK LU (by omega);have⟨Dy,Ew⟩:=lZ yU AJ AL;have Ce:=Cb.agG LU (by omega);have Md:=jU yU AA;have b18:=b17.then LU (.inr xw);refine aC (Wr (⟨.agg (aA 14 (dH V)),rV Tryz.results6 ⟨_,rfl,aU Ev.aJ (by kernel_rfl) (by kernel_rfl)⟩,?_⟩));have hinv:UL f.aW (T+3660):=by rw[hc3]; exact(Ni hVs (d.uU o (by omega))).mono (by omega)
  have eRo:aX V=o:=by unfold aX; omega
  have hk3:f.s.aF=aN (M.ml o).s.aF o ((M.ml o).s.aF o+1):=(K_ iQ.aF hc3).trans (by rw[Dr I,eRo]; rfl);exact⟨V,rfl,hV,{ M with pl:=aN M.pl o t,ml:=aN M.ml o f,an:=M.an+1,aa:=some ⟨N,0,none⟩,ac:=sK,ev:=aN M.ev M.an V },{ c:=Md,l:=Ew,a:=Ce,g:=Cg.put Dy,uU:=(fun i U=>by show UL (aN M.ml o f i).aW _; unfold aN; split; exact hinv; exact(d.uU i U).mono (by omega)),wf:=(fun k Y=>by have hk2:k<M.an+1:=Y; show jB (aN M.ev M.an V k); unfold aN; split; exact hV; exact d.wf k (by omega)),iV:=(fun k Y=>by have hk2:k<M.an+1:=Y; show dG (aN M.ev M.an V k)=true; unfold aN; split; exact ZR I; exact d.iV k (by omega)),sm:=(fun k Y=>by have hk2:k<M.an+1:=Y; show wL (aN M.ev M.an V k); unfold aN; split; exact hVs; exact d.sm k (by omega)),cz:=d.cz.event (o:=o) (by omega) (mK I) eRo hVd.2.2 (fun q u=>by show(aN M.ml o f q).s.aF=_; unfold aN; rw[b_ u]) (by show(aN M.ml o f o).s.aF=_; unfold aN; rw[d_ rfl]; exact hk3),pB:=hpB,n1:=hn1,n6:=hn6 },(by rw[<- Q]; exact⟨rfl,fun q u=>by show aN M.ml o f q=_; unfold aN; rw[b_ u],.inr ⟨H,rfl,rfl,I,by show(aN M.ml o f o).aW=_; unfold aN; rw[d_ rfl]; exact hc3,hVd⟩⟩),A_ _,(fun u=>by rw[H]at u; cases u),b18,aje.app vE b15.size⟩
 refine Lv aH (mO I)<|aC<|aP<|ay<|au (.agg (aA 14 zQ0))<|dY Ak 0 (h1:=(fun F _=>by show(zQ0 F).oneCell'=true; simp only[zQ0]; repeat (first|rfl|split))) fun CW IX Qg z11 => ?_
 have Ey:aM CW R 14 zQ0 30:=aO IX;have BX:=gJ Qg Ak.ty;have OJ:=jU BX BQ;have FB:=zT.cK Qg GX;have Gw:=jU BX BR;have Kg:=BF.cK Qg (by omega);have Ez:=jU BX DY;have b19:=b12.then Qg (.inr xw);refine aC (Wr (sR (⟨.agg (aA 14 zQ0),rV Tryz.results6 ⟨_,rfl,aU Ey.aJ (by kernel_rfl) (by kernel_rfl)⟩,?_⟩)));have Kh:aY CW B 49 1 (.slice M.la (M.n) (M.lc)) M.n (K5 M.pl):=Ez.fE (K_ (fun q=>Value.slice q M.n M.lc) K.symm);exact⟨Nk,K_ (fun z=>Ending.returned (Value.agg z)) (fI (y:=dH Nk) fun j X=>by rcases j with _|_|_|_|_|_|_|_|_|_|_|_|_|_|j <;> first|rfl|omega),SQ,M,{ c:=OJ,l:=Kh,a:=FB,g:=Gw,uU:=fun i U=>(d.uU i U).mono (by omega),wf:=d.wf,iV:=d.iV,sm:=d.sm,cz:=d.cz,pB:=hpB,n1:=hn1,n6:=hn6 },⟨rfl,fun _ _=>rfl,.inl ⟨rfl,rfl,rfl,.inl rfl⟩⟩,by omega,(fun _=>rfl),b19,fun _ h => .inl h⟩
theorem auc(M:WM)(B p T:Nat)(x:Ld)(w:World)(c:sj w B p M T)(b:B<=w.heap.size)(hx:NY x)(m:M.an<=60)(l:T<=890000) :
 Calls prog 6 #[(pt p),.agg (aA 9 (Mv x))] w fun e w' => ∃ v,e = .returned (.agg (aA 14 (dH v)))/\jB v /\ ∃ a,sj w' B p a (T+3660)/\DoR (x.SF % M.n) x M a v/\a.an<=M.an+1/\(x.SG=true->a.an=M.an)/\Below B w w' :=
 (aub _ _ _ _ _ _ c b hx m l).mono fun _ _ ⟨v,d,f,a,g,h,i,j,k,_⟩=>⟨v,d,f,a,g,h,i,j,c.Vy b k⟩
section
namespace Rt
def vM(k:Nat):Ab:=eY (Cr k 0 0 0 0 0 0)
structure Ws(k:Nat)(ev:Nat->dA)(an:Nat):Prop extends Evs (vM k) ev an where
 sm : ∀ i,i<an->wL (ev i)
 an:an<=1000
structure Bz(k:Nat)(ev:Nat->dA)(an:Nat)(L:iQ):Prop where
 ex : ∃ m N,Jz m L N/\Aa m/\eY m=dh ev L.aF (vM k) an
 kc:zV ev an L.aF
section
variable {ev ev':Nat->dA} {an n k i j:Nat} {K:Nat->Int} {L L':iQ} {v:dA} {m:fO} {N S:Nat} {A:Ab}
theorem aph(h:dG v=true):WS v:=by
 have a:=rR h;refine⟨⟨a.1,a.2.1⟩,a.2.2,?_,fun b=>⟨(EM h b).1,(EM h b).2.1⟩⟩;by_cases c:v.aI=2\/v.aI=3\/v.aI=5
 ·have:=(nX h c).1; omega
 grind [zx,dG,eU,oN]
theorem VA(k:Nat):(vM k).Ok:=⟨rfl,fun _ h=>(nomatch h),fun _ _=>rfl,fun _ _ h=>(nomatch h),fun _ _ _=>rfl⟩
theorem apj(k:Nat):(vM k).Sm 0:=⟨fun _ _=>M_ _,fun _ _ h=>(nomatch h)⟩
theorem ow0(k:Nat):Aa (Cr k 0 0 0 0 0 0):=⟨rfl,fun _ _=>by show(0:Int)<=5; decide⟩
theorem Ab.Sm.mono{S':Nat}(h:A.Sm S)(a:S<=S'):A.Sm S':=⟨fun y p=>by have:=h.r y p; omega,h.g⟩
theorem Evs.cz(h:Evs A ev an):Cz 6 an ev (fun _=>jc ev an) where
 rd:=h.rd
 MR:=fun k a=>(h.g k a).MR.2
 own:=fun _ _=>rfl
 kc:=fun _ _=>⟨fun _ _=>M_ _,fun k a _ i b=>P_ ((I4 (h.rd k a)).2.2 i b) (FJ)⟩
theorem Ws.fsm(W:Ws k ev an)(a:zV ev an K) : ∀ n,n<=an->(dh ev K (vM k) n).Sm n
 | 0,_=>apj k
 | n+1,hn=>by
   have b:=W.fsm a n (by omega)
   cases c:qm K (ev n)with
   | true =>
     rw[gZ c];exact b.ru ((kI W.toEvs (n+1) hn K a).2 n (by omega) c).pre (I4 (W.rd n (by omega))).1 (W.sm n (by omega)).bF
   | false=>rw[jG c]; exact b.mono (by omega)
theorem Bz.tw(h:Bz k ev an L)(W:Ws k ev an) : ∃ m N,Tw m L N an/\eY m=dh ev L.aF (vM k) an:=by
 obtain⟨m,N,a,b,c⟩:=h.ex;exact⟨m,N,⟨a,b,by grind [W.fsm,h.kc],by grind [W.an]⟩,c⟩
theorem Bz.ready(h:Bz k ev an L)(W:Ws k ev an)(c:j<an)(hr:fq L.aF (ev j)=true):dP L (ev j)=0:=by
 obtain⟨m,N,a,d⟩:=h.tw W;have b:=Nn W.toEvs h.kc c hr (show j<=an by omega) (A_ _);rw[<- d]at b;rw[<- (a.t.s.apply a.t.t a.t.i (ev j)).1];exact(a.Ry (W.sm j c).bF (by grind [a.t.s.aF])).2 b
theorem Bz.apply(h:Bz k ev an L)(W:Ws k ev an)(g:j<an):Bz k ev an (fF L (ev j)):=by
 rcases wM L (ev j)with ⟨c,e⟩|⟨c,e⟩
 ·have l:=mK c;obtain⟨m,N,a,b,d⟩:=h.ex;have f:=(a.s.apply a.t a.i (ev j)).1.trans c;refine⟨⟨mI m (ev j),N+1,a.apply (ev j),b.apply,?_⟩,by grind [W.toEvs.cz.step,h.kc]⟩;rw[ZQ a.t a.s.ga f,d,e];exact(ahN W.toEvs h.kc g l).symm
 simp_all
theorem Bz.Pm(W:Ws k ev an){a:Nat->Int}(h:Bz k ev an L) : ∀ j,j<=an->Bz k ev an (qJ ev a L j)
 | 0,_=>h
 | j+1,hj=>by
   unfold qJ;split
   ·exact(h.Pm W j (by omega)).apply W (by omega)
   ·exact h.Pm W j (by omega)
theorem Bz.jL(W:Ws k ev an){a:Nat->Int} : ∀ f L,Bz k ev an L->Bz k ev an (jL ev an a f L)
 | 0,L,hL=>by grind [Rt.jL]
 | f+1,L,hL=>by
   unfold Rt.jL;split
   ·exact hL.Pm W an (A_ _)
   ·exact Bz.jL W f _ (hL.Pm W an (A_ _))
theorem Bz.TT(k:Nat)(ev:Nat->dA)(an:Nat)(e : ∀ i,i<an->1<=(ev i).seq)(d:Nat):Bz k ev an (tT k d).aW:=by
 have a : ∀ n,n<=an->dh ev (fun _=>0) (vM k) n=vM k:=fun n=>by
  induction n with
  | zero=>intro _; rfl
  | succ n ih =>
    grind [qm,jG]
 exact⟨⟨Cr k 0 0 0 0 0 0,0,Jz.TT k,ow0 k,(a an (A_ _)).symm⟩,fun i b=>KD an i,fun i b c j f=>L_ (show(ev i).seq<=0 from c) (by grind)⟩
theorem G9(h : ∀ i,i<n->ev' i=ev i):dh ev' K A n=dh ev K A n:=by
 induction n with
 | zero=>rfl
 | succ n ih =>
   grind [dh]
theorem AZ{v:dA} : ∀ i,i<an->aN ev an v i=ev i:=fun i a=>b_
theorem za{v:dA}:aN ev an v an=v:=d_ rfl
theorem zV.more(h:zV ev an K)(f:dG v=true)(l:v.seq=jc ev an (aX v)+1):zV (aN ev an v) (an+1) K/\qm K v=false:=by
 have d : ¬ v.seq<=K (aX v):=by have:=h.le _ (ql f); omega
 refine⟨⟨fun i a => ?_,fun i a b j c => ?_⟩,g_ d⟩
 ·have:=h.le i a;have g:=FJ (ev:=aN ev an v) (j:=an) (k:=an+1) (i:=i) (by omega)
  grind [FK]
 by_cases e:i=an
 ·grind [za]
 rw[AZ i (by omega)]at b ⊢;exact h.cl i (by omega) b j c
theorem Bz.more(h:Bz k ev an L)(f:dG v=true)(e:v.seq=jc ev an (aX v)+1):Bz k (aN ev an v) (an+1) L:=by
 obtain⟨m,N,c,d,g⟩:=h.ex;obtain⟨a,b⟩:=h.kc.more f e;refine⟨⟨m,N,c,d,?_⟩,a⟩
 grind [jG,za,G9,AZ]
theorem Ws.more(W:Ws k ev an)(h:Bz k ev an L)(u:an<1000)(p:wL v)(c:dP L v=0)(f:v.bB=L.aF)(o:v.seq=jc ev an (aX v)+1):Ws k (aN ev an v) (an+1):=by
 have n:=mK c;have q:=(I4 n).1;have d : ∀ j,j<=an -> ∀ i,jc (aN ev an v) j i=jc ev j i:=fun j a i=>FK j a i;have r : ∀ j,j<=an->jc (aN ev an v) j=jc ev j:=fun j a=>funext (d j a);refine { ok0:=W.ok0,rd:=fun j a => ?_,g:=fun j a => ?_,dc:=fun j a => ?_,tk:=fun j a => ?_,sm:=fun j a => ?_,an:=by omega }
 ·by_cases e:j=an
  ·simp_all [za,Pk,h.kc.le]
  grind [AZ,W.rd]
 ·grind [za,aph,AZ,W.g]
 ·by_cases e:j=an
  ·grind [za,h.kc.more]
  rw[AZ j (by omega)]; exact((W.dc j (by omega)).more q o).1
 ·by_cases e:j=an
  ·rw[e,za,f,G9 AZ];obtain⟨m,N,b,l⟩:=h.tw W;rw[<- l];exact(b.Ry p.bF (by grind [b.t.s.aF])).1 ((b.t.s.apply b.t.t b.t.i v).1.trans c)
  rw[AZ j (by omega),G9 fun i w=>AZ i (by omega)]; grind [W.tk]
 grind [za,AZ,W.sm]
theorem Ws.zero(k:Nat)(ev:Nat->dA):Ws k ev 0 where
 ok0:=VA k
 rd:=fun _ h=>L_ h (z_ _)
 g:=fun _ h=>L_ h (z_ _)
 dc:=fun _ h=>L_ h (z_ _)
 tk:=fun _ h=>L_ h (z_ _)
 sm:=fun _ h=>L_ h (z_ _)
 an:=by decide
end
structure WC(M:WM):Prop where
 w:Ws M.n M.ev M.an
 f : ∀ o,o<M.n->Bz M.n M.ev M.an (M.ml o).aW
theorem WC.TT{M:WM}(a:M.an=0)(h : ∀ i,(M.ml i).aW=(tT M.n 0).aW):WC M:=by
 refine⟨by rw[a]; exact .zero _ _,fun o c=>by rw[h,a]; exact .TT _ _ _ (fun i b=>L_ b (z_ _)) 0⟩
theorem WC.do{M g:WM}{x:Ld}{v:dA}(w':WC M)(u:sj h k b g j)(B:m<M.n)(a:DoR m x M g v)(y:M.an<1000)(D:(M.ml m).s.aF m=jc M.ev M.an m):WC g:=by
 rcases a.c with ⟨t,i,T,p⟩|⟨t,i,T,p,h5,h6,h7,h8⟩
 ·refine⟨by grind [a.n,w'.w],fun q d => ?_⟩;rw[a.n]at d;rw[a.n,i,T];by_cases e:q=m
  ·rw[e]
   rcases p with p|⟨_,p⟩
   ·grind [w'.f]
   rw[p]; exact Bz.jL w'.w _ _ (w'.f m B)
  grind [a.oth,w'.f]
 have z:=mK p;have o:=(I4 z).1;have C:aX v=m:=by grind [aX]
 have l:v.seq=jc M.ev M.an (aX v)+1:=by simp_all
 have A:wL v:=by
  have:=u.sm M.an (by omega)
  simp_all [za]
 have r:=w'.w.more (w'.f m B) y A p h8 l;refine⟨by grind [a.n],fun q d => ?_⟩;rw[a.n]at d;rw[a.n,i,T];by_cases e:q=m
 ·rw[e,h5];have:=((w'.f m B).more o l).apply r (show M.an<M.an+1 by omega)
  grind [za]
 rw[a.oth q e]; exact(w'.f q d).more o l
end Rt
end
section
namespace Rt
structure SS(L L':iQ):Prop where
 dF:L'.dF=L.dF
 left:L'.left=L.left
 kn : ∀ i,i<6->L'.aF i=L.aF i
 nn:L'.nn=L.nn
 gn:L'.gn=L.gn
 n : ∀ k,k<L.nn->L'.id k=L.id k/\L'.par k=L.par k/\L'.R k=L.R k
 g : ∀ k,k<L.gn -> ∀ p,p<5->L'.g k p=L.g k p
section
variable {ev:Nat->dA} {an k:Nat} {L L':iQ} {m m':fO} {N N':Nat}
theorem iT.ZT(h:iT m L)(a:k<L.gn):lH m (L.g k 0) (L.g k 1)=true /\ ∀ p,2<=p->p<=4->(eY m).g (L.g k 0) (L.g k 1) p=L.g k p:=by
 grind [h.g1,lH,xQ,iD,Dm,h.gi,eY]
theorem NZ{f g:Nat->Int}{n n':Nat}(c : ∀ i j,i<j->j<n->f i<f j)(d : ∀ i j,i<j->j<n'->g i<g j)(h1 : ∀ i,i<n -> ∃ j,j<n'/\g j=f i)(h : ∀ j,j<n' -> ∃ i,i<n/\f i=g j):n'=n /\ ∀ i,i<n->g i=f i:=by
 have e:=Di (by
  rw[List.pairwise_map];exact(List.pairwise_lt_range (n:=n)).imp_of_mem fun {a b} _ hb hab=>c a b hab (N_.1 hb)) (by
  rw[List.pairwise_map];exact(List.pairwise_lt_range (n:=n')).imp_of_mem fun {a b} _ hb hab=>d a b hab (N_.1 hb)) fun x=>by
  grind
 have k:n'=n:=by grind [List.length_map]
 simp_all
theorem Jz.same(h:Jz m L N)(d:Jz m' L' N')(u:wP L)(v:wP L')(e:eY m'=eY m)(B : ∀ i,i<6->L'.aF i=L.aF i):SS L L':=by
 have P : ∀ y,m'.T.has y=m.T.has y:=fun y=>congrFun (K_ Ab.has e) y;have C : ∀ y,m'.T.par y=m.T.par y:=fun y=>congrFun (K_ Ab.par e) y;have O : ∀ y,bQ m' y=bQ m y:=fun y=>congrFun (K_ Ab.R e) y;have t : ∀ o r,lH m' o r=lH m o r:=fun o r=>congrFun (congrFun (K_ Ab.gh e) o) r;have U : ∀ {m:fO} {L:iQ} {N:Nat},Jz m L N -> ∀ i,i<L.nn->m.T.has (L.id i)=true/\bQ m (L.id i)=L.R i:=fun {m L N} h i k=>by
  grind [h.s.T.has,bQ,h.s.row]
 obtain⟨H,z⟩:=NZ (f:=L.id) (g:=L'.id) (n:=L.nn) (n':=L'.nn) h.i.GD d.i.GD (fun i k=>(d.s.T.has _).1 (by grind)) (fun i k=>(h.s.T.has _).1 (by grind));have x : ∀ {m m':fO} {L L':iQ} {N N':Nat},Jz m L N->Jz m' L' N'->(∀ o r,lH m' o r=lH m o r) -> ∀ q,q<L.gn -> ∃ j,j<L'.gn/\pX (L'.g j)=pX (L.g q):=fun {m m' L L' N N'} h d t q l=>by
  have a:=(h.s.ZT l).1;rw[<- t]at a;obtain⟨j,Q,A,M⟩:=nk.1 a
  grind [d.s.g2,pX]
 obtain⟨D,E⟩:=NZ (f:=fun q=>pX (L.g q)) (g:=fun q=>pX (L'.g q)) (n:=L.gn) (n':=L'.gn) u.up v.up (x h d t) (x d h fun o r=>(t o r).symm);refine⟨by rw[<- h.s.dF,<- d.s.dF]; exact K_ Ab.dF e,by rw[<- h.s.left,<- d.s.left]; exact K_ Ab.left e,B,H,D,fun i k => ?_,fun q l p S => ?_⟩
 ·have F:i<L'.nn:=by omega
  refine⟨z i k,?_,?_⟩
  ·rw[<- h.s.T.par i k,<- d.s.T.par i F,C,z i k]
  grind
 have w:q<L'.gn:=by omega
 have G:=E q l;have I:=(u.wf q l).1;have J:=(v.wf q w).1;unfold pX at G;unfold nU at I J;have K:L'.g q 0=L.g q 0:=by omega
 have A:L'.g q 1=L.g q 1:=by omega
 by_cases c:2<=p
 ·have a:=(h.s.ZT l).2 p c (by omega);have b:=(d.s.ZT w).2 p c (by omega)
  simp_all
 rcases(show p=0\/p=1 by omega)with rfl|rfl
 ·omega
 omega
theorem PL{K K':Nat->Int}{A:Ab}(h : ∀ i,i<6->K' i=K i)(a : ∀ i,i<an->aX (ev i)<6) : ∀ n,n<=an->dh ev K' A n=dh ev K A n
 | 0,_=>rfl
 | n+1,hn=>by
   have c:qm K' (ev n)=qm K (ev n):=(by grind [qm]);show(if qm K' (ev n)=true then(dh ev K' A n).ru (ev n)else dh ev K' A n)=_;rw[PL h a n (by omega),c]; rfl
theorem Bz.same(h:Bz k ev an L)(f:Bz k ev an L')(W:Ws k ev an)(j:wP L)(l:wP L')(a : ∀ i,i<6->L'.aF i=L.aF i):SS L L':=by
 obtain⟨m,N,b,o,c⟩:=h.ex;obtain⟨m',N',d,p,e⟩:=f.ex;refine b.same d j l ?_ a;rw[c,e];exact PL a (fun i n=>(W.g i n).MR.2) an (A_ _)
theorem ajf(W:Ws k ev an) : ∀ i,i<an->1<=(ev i).seq:=fun i a=>(W.g i a).seq.1
end
end Rt
end
section
namespace Rt
def FY(K c:Nat->Int):Nat->Int:=fun q=>if K q<=c q then K q else c q
section
variable {ev:Nat->dA} {an k i r:Nat} {K K':Nat->Int} {L:iQ} {v:dA}
theorem Lh(ev:Nat->dA)(i q:Nat):jc ev (i+1) q=jc ev i q+if aX (ev i)=q then 1 else 0:=by rfl
theorem Bz.nextK(h:Bz k ev an L)(W:Ws k ev an)(hi:i<an)(f:zV ev an K)(g : ∀ q,q<6->L.aF q=FY K (jc ev i) q)(n:(ev i).seq<=K (aX (ev i))) :
 dP L (ev i)=0 /\ ∀ q,q<6->(fF L (ev i)).aF q=FY K (jc ev (i+1)) q:=by
 obtain⟨a,b,c⟩:=I4 (W.rd i hi);have m:=ql a;have l:L.aF (aX (ev i))=jc ev i (aX (ev i)):=by grind [FY]
 have j:fq L.aF (ev i)=true:=Pk a (by omega) fun q e=>by
  rw[g q e]; unfold FY;split
  ·simp_all [f.cl]
  simp_all
 have d:=h.ready W hi j;refine⟨d,fun q e => ?_⟩;rw[Dr d]
 grind [aN,FY,Lh]
where aqC {a b:Int} (h:b<=a):(if a<=b then a else b)=b:=by omega
theorem aud(W:Ws k ev an)(hi:i<an)(c : ∀ q,q<6->L.aF q=FY K (jc ev i) q)(a : ¬ (ev i).seq<=K (aX (ev i))) : ∀ q,q<6->L.aF q=FY K (jc ev (i+1)) q:=fun q d=>by
 have b:=(I4 (W.rd i hi)).2.1;rw[c q d];unfold FY;rw[Lh];by_cases e:aX (ev i)=q
 ·rw[d_ e]; rw[e]at b a;rw[d_,d_]
 ·rw[b_ e,D_]
theorem aue(c:zV ev an K)(a : ∀ q,q<6->0<=K q) : ∀ q,q<6->(0:Int)=FY K (jc ev 0) q:=fun q b=>by
 unfold FY; show(0:Int)=if K q<=0 then K q else 0;have:=a q b;split <;> omega
theorem aDm(a:zV ev an K) : ∀ q,q<6->FY K (jc ev an) q=K q:=by grind [FY,a.le]
end
end Rt
end
section
namespace Rt
def Li(K K':Nat->Int):Nat->Int:=fun q=>ou (K q) (K' q)
def Lj(c:Nat->Int)(P:Nat->Bool):Nat->Int
 | 0=>0
 | n+1=>Lj c P n+if P n=true then c n else 0
def cV(A0:Ab)(ev:Nat->dA)(y:Int)(p:Nat):Nat->Int:=fun i=>(dh ev (ev i).bB A0 i).dl (ev i) y p
structure Jn(A B M:Ab):Prop where
 dF : ∀ j,M.dF j=(A.dF j || B.dF j)
 left : ∀ j,M.left j=(A.left j || B.left j)
 has : ∀ y,M.has y=(A.has y || B.has y)
 gh : ∀ o r,M.gh o r=(A.gh o r || B.gh o r)
section
variable {A0 A B M:Ab} {ev:Nat->dA} {an n i j k a p:Nat} {K K':Nat->Int} {v:dA} {y:Int}
theorem ZU(a b:Int):a<=ou a b:=by grind [ou]
theorem ajg(a b:Int):b<=ou a b:=by grind [ou]
theorem alq:d<=ou e V<->d<=e\/d<=V:=by grind [ou]
theorem He(h:e<=d):ou d e=d:=by grind [ou]
theorem wQ(h:e<=d):ou e d=d:=by grind [ou]
theorem zV.max(h:zV ev an K)(b:zV ev an K'):zV ev an (Li K K') :=
 ⟨fun i a=>by have e:=h.le i a; have f:=b.le i a; grind [Li,ou],
  fun k c d i a=>(alq.1 d).elim (fun q=>P_ (h.cl k c q i a) (ZU _ _)) fun q=>P_ (b.cl k c q i a) (ajg _ _)⟩
theorem PN:qm (Li K K') v=(qm K v || qm K' v):=by
 rw[Bool.eq_iff_iff,Bool.or_eq_true,jF,jF,jF]; exact alq
theorem or3(a b c:Bool):((a || b) || c)=((a || c) || (b || c)):=by grind
theorem ajh(a b c:Bool):((a || b) || c)=((a || c) || b):=by grind
theorem aji(a b c:Bool):((a || b) || c)=(a || (b || c)):=by grind
theorem Jn.both(h:Jn A B M)(v:dA):Jn (A.ru v) (B.ru v) (M.ru v) :=
 ⟨fun j=>(K_ (· || _) (h.dF j)).trans (or3 _ _ _),fun j=>(K_ (· || _) (h.left j)).trans (or3 _ _ _),fun y=>(K_ (· || _) (h.has y)).trans (or3 _ _ _),fun o r=>(K_ (· || _) (h.gh o r)).trans (or3 _ _ _)⟩
theorem Jn.l(h:Jn A B M)(v:dA):Jn (A.ru v) B (M.ru v) :=
 ⟨fun j=>(K_ (· || _) (h.dF j)).trans (ajh _ _ _),fun j=>(K_ (· || _) (h.left j)).trans (ajh _ _ _),fun y=>(K_ (· || _) (h.has y)).trans (ajh _ _ _),fun o r=>(K_ (· || _) (h.gh o r)).trans (ajh _ _ _)⟩
theorem Jn.r(h:Jn A B M)(v:dA):Jn A (B.ru v) (M.ru v) :=
 ⟨fun j=>(K_ (· || _) (h.dF j)).trans (aji _ _ _),fun j=>(K_ (· || _) (h.left j)).trans (aji _ _ _),fun y=>(K_ (· || _) (h.has y)).trans (aji _ _ _),fun o r=>(K_ (· || _) (h.gh o r)).trans (aji _ _ _)⟩
theorem XV : ∀ n,Jn (dh ev K A0 n) (dh ev K' A0 n) (dh ev (Li K K') A0 n)
 | 0=>⟨fun _=>(Bool.or_self _).symm,fun _=>(Bool.or_self _).symm,fun _=>(Bool.or_self _).symm,fun _ _=>(Bool.or_self _).symm⟩
 | n+1=>by
   have a:=XV n
   grind [PN,qm,jG,gZ,a.r,a.l,a.both]
theorem auf(h:Evs A0 ev an)(a:zV ev an K)(hi:i<an)(d:qm K (ev i)=true)(y:Int)(p:Nat):(dh ev K A0 i).dl (ev i) y p=cV A0 ev y p i:=by
 obtain⟨b,l⟩:=kI h i (by omega) (ev i).bB (h.dc i hi);obtain⟨o,v⟩:=kI h i (by omega) K a;have j:=(I4 (h.rd i hi)).1;have f:=Jr h _ (h.g i hi).MR.2 (a.cl i hi (jF.1 d)) i (by omega) b o l v fun q k e _=>by
  have m:=h.mono (by omega) hi e k;have c:=Rv j;refine jF.2 ?_;rw[show aX (ev q)=aX (ev i)from e,c]; omega
 exact f.dl (b i (A_ _)) (o i (A_ _)) (h.tk i hi).pre y p
theorem Cw(h:Evs A0 ev an)(a:zV ev an K)(y:Int)(p:Nat) : ∀ n,n<=an->(dh ev K A0 n).R y p=A0.R y p+Lj (cV A0 ev y p) (fun i=>qm K (ev i)) n
 | 0,_=>(D_ _).symm
 | n+1,hn=>by
   have b:=Cw h a y p n (by omega);have e:Lj (cV A0 ev y p) (fun i=>qm K (ev i)) (n+1)=Lj (cV A0 ev y p) (fun i=>qm K (ev i)) n+if qm K (ev n)=true then cV A0 ev y p n else 0:=rfl
   cases c:qm K (ev n)with
   | false=>grind [jG]
   | true =>
     rw[gZ c,e,c,d_ rfl,<- Int.add_assoc,<- b,<- auf h a (by omega) c]; rfl
theorem VB{c:Nat->Int}{P Q:Nat->Bool} : ∀ n,(∀ i,i<n->0<=c i)->(∀ i,i<n->P i=true->Q i=true\/c i=0)->Lj c P n<=Lj c Q n
 | 0,_,_=>M_ _
 | n+1,h0,h=>by
   have b:=VB n (fun i a=>h0 i (by omega)) (fun i a=>h i (by omega))
   grind [Lj]
theorem alr(W:Ws k ev an)(hi:i<an)(y:Int)(p:Nat):0<=cV (vM k) ev y p i:=by
 have d:=(W.g i hi).bF;have a:=(W.tk i hi).pre;have b:=W.fsm (W.dc i hi) i (by omega);unfold cV Ab.dl;by_cases c:(ev i).aI=4
 ·have:=(b.g _ _ (a.n4 c)).1;omega
 omega
theorem apk(b:p<54) : ∃ a,a<6/\ahb a p:=by
 rcases Nat.lt_or_ge p 6 with h|h
 ·exact⟨p,h,.inl rfl⟩
 rcases Nat.lt_or_ge p 12 with h2|h2
 ·exact⟨p-6,by omega,.inr (.inl (by omega))⟩
 rcases Nat.lt_or_ge p 18 with h3|h3
 ·exact⟨p-12,by omega,.inr (.inr (.inl (by omega)))⟩
 exact⟨(p-18) / 6,by omega,.inr (.inr (.inr ⟨(p-18) % 6,by omega,by omega⟩))⟩
theorem PO(W:Ws k ev an)(d:zV ev an K)(f:zV ev an K')(ha:a<6)(h:ahb a p)(l:K a<=K' a)(y:Int):(dh ev K (vM k) an).R y p<=(dh ev K' (vM k) an).R y p:=by
 rw[Cw W.toEvs d y p an (A_ _),Cw W.toEvs f y p an (A_ _)];have:=VB (c:=cV (vM k) ev y p) (P:=fun i=>qm K (ev i)) (Q:=fun i=>qm K' (ev i)) an (fun i b=>alr W b y p) fun i b j=>by
  by_cases e:aV (ev i)=a
  ·grind [jF,acC]
  ·exact .inr (Ab.abA (W.g i b) e ha h y)
 omega
theorem PS(k:Nat)(y:Int):(vM k).has y=false:=by rfl
theorem Cx(k:Nat)(o r:Int):(vM k).gh o r=false:=by rfl
theorem VD(W:Ws k ev an)(d:zV ev an K)(h:54<=p)(y:Int):(dh ev K (vM k) an).R y p=0:=by
 have c : ∀ i,i<an->cV (vM k) ev y p i=0:=fun i a=>by
  have f:=(W.g i a).MR.2;have e:=(W.g i a).dst
  grind [dV,cV,Ab.dl]
 have b:=(VA k).r0 y p (PS k y);have z : ∀ n,n<=an->Lj (cV (vM k) ev y p) (fun i=>qm K (ev i)) n=0:=fun n=>by
  induction n with
  | zero=>intro _; rfl
  | succ n ih =>
    grind [Lj]
 grind [Cw,W.toEvs]
theorem aeC(W:Ws k ev an)(d:zV ev an K)(y:Int)(p:Nat):0<=(dh ev K (vM k) an).R y p:=by
 have b:=(VA k).r0 y p (PS k y);have:=VB (c:=cV (vM k) ev y p) (P:=fun _=>false) (Q:=fun i=>qm K (ev i)) an (fun i a=>alr W a y p) fun i _ h=>by cases h
 have z : ∀ n,Lj (cV (vM k) ev y p) (fun _=>false) n=0:=fun n=>by
  induction n with
  | zero=>rfl
  | succ n ih=>grind [Lj]
 grind [Cw,W.toEvs]
theorem ajj(W:Ws k ev an)(d:zV ev an K)(e:zV ev an K')(y:Int)(p:Nat):(dh ev (Li K K') (vM k) an).R y p=ou ((dh ev K (vM k) an).R y p) ((dh ev K' (vM k) an).R y p):=by
 have b:=d.max e
 rcases Nat.lt_or_ge p 54 with hp|hp
 case inr=>rw[VD W b hp,VD W d hp,VD W e hp]; rfl
 obtain⟨a,c,f⟩:=apk hp;have i:=PO W d b c f (ZU _ _) y;have j:=PO W e b c f (ajg _ _) y
 rcases Int.le_total (K a) (K' a)with h|h
 ·have g:=PO W b e c f (Int.le_of_eq (wQ h)) y
  grind [wQ]
 have g:=PO W b d c f (Int.le_of_eq (He h)) y
 grind [He]
theorem VE : ∀ n,(dh ev K (vM k) n).has y=true -> ∃ i,i<n/\qm K (ev i)=true/\(ev i).aI=1/\wU (ev i)=y
 | 0,h=>by grind [dh,PS]
 | n+1,h=>by
   cases c:qm K (ev n)with
   | false =>
     rw[jG c]at h;obtain⟨i,a,q⟩:=VE n h; grind
   | true =>
     rw[gZ c]at h
     rcases(Bool.or_eq_true _ _).mp h with h|h
     ·obtain⟨i,a,q⟩:=VE n h; grind
     grind
theorem aeD(h:Evs A0 ev an)(a:zV ev an K) : ∀ n,n<=an -> ∀ i,i<n->qm K (ev i)=true->(ev i).aI=1->(dh ev K A0 n).has (wU (ev i))=true/\(dh ev K A0 n).par (wU (ev i))=(ev i).node
 | 0,_=>fun _ b=>L_ b (z_ _)
 | n+1,hn=>fun i b d f=>by
   have g:=(kI h (n+1) hn K a).2 n (by omega);by_cases e:i=n
   ·subst e;rw[gZ d];refine⟨?_,d_ ⟨f,rfl⟩⟩;show(_ || (decide ((ev i).aI=1)&&decide (wU (ev i)=wU (ev i))))=true
    simp_all
   ·obtain⟨j,k⟩:=aeD h a n (by omega) i (by omega) d f
    cases c:qm K (ev n)with
    | false=>grind [jG]
    | true =>
      rw[gZ c];have l:=(g c).pre
      grind [Ab.Fp,Ab.OG]
theorem XW(h:Evs (vM k) ev an)(a:zV ev an K)(b:zV ev an K')(c : ∀ v,qm K v=true->qm K' v=true)(hy:(dh ev K (vM k) an).has y=true):(dh ev K' (vM k) an).par y=(dh ev K (vM k) an).par y:=by
 grind [VE,aeD]
theorem apl(a:v.o≠d):(A.ru v).g d e m=A.g d e m/\(A.ru v).gh d e=A.gh d e:=by
 refine⟨?_,?_⟩
 ·show(if _ then _ else if _ then _ else _)=_
  grind
 show(_ || _)=_
 grind
theorem SV(h:Evs A0 ev an)(i:zV ev an K)(j:zV ev an K')(p : ∀ o r,A0.gh o r=false)(s:K a<=K' a) : ∀ n,n<=an -> ∀ r,(dh ev K A0 n).gh ((a:Int)+1) r=true ->
 (dh ev K' A0 n).gh ((a:Int)+1) r=true/\(dh ev K' A0 n).g ((a:Int)+1) r 2=(dh ev K A0 n).g ((a:Int)+1) r 2/\(dh ev K' A0 n).g ((a:Int)+1) r 3=(dh ev K A0 n).g ((a:Int)+1) r 3 /\
 ((dh ev K A0 n).g ((a:Int)+1) r 4=0\/(dh ev K' A0 n).g ((a:Int)+1) r 4=(dh ev K A0 n).g ((a:Int)+1) r 4)
 | 0,_,r,hr=>by grind [dh]
 | n+1,hn,r,hr=>by
   have l:=SV h i j p s n (by omega) r;have y:=(kI h (n+1) hn K' j).2 n (by omega);obtain⟨A,B⟩:=(h.g n (by omega)).MR;generalize hX:dh ev K A0 n=X at *;generalize hY:dh ev K' A0 n=Y at *;by_cases e:aV (ev n)=a
   ·have C:(ev n).o=(a:Int)+1:=by omega
    cases c1:qm K (ev n)with
    | true =>
      have b:qm K' (ev n)=true:=jF.2 (by grind [jF,acC]);rw[gZ c1,hX]at hr ⊢;rw[gZ b,hY];by_cases f:(ev n).aI=3/\(a:Int)+1=(ev n).o/\r=(ev n).bK
      ·refine⟨?_,?_,?_,.inl ?_⟩
       ·show(_ || (decide ((ev n).aI=3)&&(decide ((a:Int)+1=(ev n).o)&&decide (r=(ev n).bK))))=true
        grind
       ·show(if _ then _ else _)=(if _ then _ else _)
        grind
       ·show(if _ then _ else _)=(if _ then _ else _)
        grind
       ·show(if _ then _ else _)=_
        grind
      ·have t:X.gh ((a:Int)+1) r=true:=by
        rcases(Bool.or_eq_true _ _).mp hr with q|q
        ·exact q
        simp_all
       obtain⟨d,u,v,w⟩:=l t;have x : ∀ q:Nat,q≠4 -> ¬ ((ev n).aI=4/\(a:Int)+1=(ev n).o/\r=(ev n).of/\q=4):=fun q c z=>c z.2.2.2;refine⟨Ab.Ul d,?_,?_,?_⟩
       ·show(if _ then _ else if _ then _ else _)=(if _ then _ else if _ then _ else _)
        simp_all
       ·show(if _ then _ else if _ then _ else _)=(if _ then _ else if _ then _ else _)
        simp_all
       ·show(if _ then _ else if _ then _ else _)=_\/(if _ then _ else if _ then _ else _)=(if _ then _ else if _ then _ else _)
        grind
    | false =>
      rw[jG c1,hX]at hr ⊢;obtain⟨d,u,v,w⟩:=l hr
      cases b:qm K' (ev n)with
      | false=>grind [jG]
      | true =>
        have k:=y b;rw[gZ b,hY];have f : ¬ ((ev n).aI=3/\(a:Int)+1=(ev n).o/\r=(ev n).bK):=fun z=>by
         have:=(k.pre.n3 z.1).2; grind
        have x : ∀ q:Nat,q≠4 -> ¬ ((ev n).aI=4/\(a:Int)+1=(ev n).o/\r=(ev n).of/\q=4):=fun q c z=>c z.2.2.2;refine⟨Ab.Ul d,?_,?_,?_⟩
        ·show(if _ then _ else if _ then _ else _)=_
         simp_all
        ·show(if _ then _ else if _ then _ else _)=_
         simp_all
        ·show _\/(if _ then _ else if _ then _ else _)=_;rw[b_ f];by_cases m:(ev n).aI=4/\(a:Int)+1=(ev n).o/\r=(ev n).of/\4=4
         ·have:=(k.k4 m.1).2.1
          grind
         omega
   grind [qm,gZ,apl,jG]
end
end Rt
end
end Go.Proofs.YtabjalhnkndjaaaGreatDoor
namespace Go.Proofs.YtabjalhnkndjaaaGreatDoor
namespace PU
abbrev vo:=BitVec 32
def pat:vo:=0xedb88320#32
def cK(s:vo):vo:=(s >>> 1) ^^^ (if s &&& 1#32=1#32 then pat else 0#32)
def aeE:Nat->vo->vo
 | 0,s=>s
 | n+1,s=>cK (aeE n s)
def B(c:UInt8):vo:=BitVec.ofNat 32 c.toNat
def zO(s:vo)(c:UInt8):vo:=aeE 8 (s ^^^ B c)
def more(a:vo)(l:List UInt8):vo := ~~~ (l.foldl zO (~~~ a))
def sum(l:List UInt8):vo:=more 0#32 l
def I(x:vo):Int:=x.toNat
def J(c:UInt8):Int:=c.toNat
theorem aDn(x:vo):0<=I x:=by unfold I; omega
theorem aDo(x:vo):I x<=4294967295:=by grind [I,x.isLt]
theorem aDp(x:UInt8):0<=J x:=by unfold J; omega
theorem aDq(x:UInt8):J x<=255:=by grind [J,x.toNat_lt]
theorem J_I(c:UInt8):J c=I (B c):=by
 grind [I,J,B,c.toNat_lt]
theorem ajk(a b:vo):bits .xor .u32 (I a) (I b)=I (a ^^^ b):=by
 unfold I; rw[u32_xor _ _ (by omega) (by omega) (by omega) (by omega)]; simp
theorem aug(a b:vo):bits .and .u32 (I a) (I b)=I (a &&& b):=by
 unfold I; rw[u32_and _ _ (by omega) (by omega) (by omega) (by omega)]; simp
theorem auh(a:vo):bits .xor .u32 IntKind.u32.max (I a)=I (~~~ a):=by
 have:=ajk 0xffffffff#32 a
 assumption
theorem VF:IntKind.u32.signed=false:=by rfl
theorem aDr(a:vo):I a / (2:Int)=I (a >>> 1):=by
 rfl
theorem aDs(a:vo):bits .and .u32 (I a) 1=I (a &&& 1#32):=aug a 1#32
theorem aui(a:vo)(c:UInt8):bits .xor .u32 (I a) (J c)=I (a ^^^ B c):=by rw[J_I,ajk]
theorem apm(a:vo):IntKind.u32.wrap (I a)=I a:=by
 rw[IntKind.wrap_u32']; have:=aDn a; have:=aDo a; omega
theorem apn(a:UInt8):IntKind.u32.wrap (J a)=J a:=by
 rw[IntKind.wrap_u32']; have:=aDp a; have:=aDq a; omega
theorem XY(s:vo):s &&& 1#32=0#32\/s &&& 1#32=1#32:=by
 grind
theorem ajl(s:vo):IntKind.u32.wrap (3988292384*I (s &&& 1#32))=I (if s &&& 1#32=1#32 then pat else 0#32):=by
 rcases XY s with h|h
 ·rw[h]; rfl
 rw[h]; rfl
theorem aeF(s:vo):I (s >>> 1 ^^^ (if s &&& 1#32=1#32 then pat else 0#32))=I (cK s):=by rfl
theorem aDt(s:vo):bits .xor .u32 (I s) 3988292384=I (s ^^^ pat):=ajk s pat
theorem Jc{b a:Type}(f:a->b->a)(s:a)(l:List b)(k:Nat)(h:k<l.length) :
 (l.take (k+1)).foldl f s=f ((l.take k).foldl f s) l[k]:=by
 grind [List.take_succ_eq_append_getElem]
def Rd(w:World)(a:Option Addr)(l:List UInt8):Prop :=
 ∀ k (h:k<l.length),∃ b c,a=some ⟨b,c,none⟩/\w.cell? ⟨b,c+k,none⟩=some (.int .u8 (J l[k]))
theorem auj{l:List UInt8}(h:Rd c u l)(k:Nat)(d:k<l.length) :
 ∃ b w,u=some ⟨b,w,none⟩/\c.cell? ⟨b,w+k,none⟩=some (.int .u8 (J l[k])):=h k d
theorem aeG(s:vo)(a:List UInt8)(k:Nat)(h : ¬ k<a.length) :
 (~~~ ((a.take k).foldl zO (~~~ s)))=more s a:=by
 rw[List.take_of_length_le (by omega)]; rfl
theorem aDu(c:UInt8)(m:Nat):J c / (2:Int)^m % (4294967296:Int)=I (B c >>> m):=by
 rw[J_I]; unfold I;rw[BitVec.toNat_ushiftRight,Nat.shiftRight_eq_div_pow];have h:((B c).toNat:Int) / (2:Int)^m=(((B c).toNat / 2^m:Nat):Int):=by
  rfl
 rw[h];have a:(B c).toNat / 2^m<4294967296:=Nat.lt_of_le_of_lt (Nat.div_le_self _ _) (B c).isLt
 grind
def oI(f:Nat->vo):Array Value:=Array.ofFn (fun i:Fin 32 => .int .u32 (I (f i)))
end PU
end Go.Proofs.YtabjalhnkndjaaaGreatDoor
namespace Go.Proofs.YtabjalhnkndjaaaGreatDoor
open Go.Proofs.Tryz
open Fx hiding E9 Fa HY Jf Jk L R start
open Go.RowKit Rt
namespace Rt
structure iK where
 id:Int
 par:Int
 R:Nat->Int
structure jD where
 o:Int
 r:Int
 n:Int
 a:Int
 b:Int
def nd0:iK:=⟨0,0,fun _=>0⟩
def gr0:jD:=⟨0,0,0,0,0⟩
structure jA where
 dF:Nat->Bool
 left:Nat->Bool
 aF:Nat->Int
 ns:List iK
 gs:List jD
def Qi:jA:=⟨fun _=>false,fun _=>false,fun _=>0,[],[]⟩
def bY(l:List iK)(k:Nat):iK:=l.getD k nd0
def dK(l:List jD)(k:Nat):jD:=l.getD k gr0
def og(l:List iK)(x:Int):Int:=gF (fun i=>decide ((bY l i).id=x)) l.length
def qK(l:List iK):Nat->Int->Bool
 | 0,_=>false
 | f+1,x=>if x=0 then true else if og l x<0 then false else qK l f (bY l (og l x).toNat).par
def kg(x y:jD):Prop:=x.o<y.o\/(x.o=y.o/\x.r<y.r)
instance (x y:jD):Decidable (kg x y):=by unfold kg; infer_instance
def auk(l:List iK)(k:Nat):Prop:=(bY l k).id≠0/\iV (bY l k).R=true/\qK l 33 (bY l k).id=true
def Ll(l:List iK)(g:jD):Prop:=1<=g.o/\g.o<=6/\g.r≠0/\0<=og l g.n/\1<=g.a/\g.a<=1125899906842624/\g.b≠g.r
structure vN(m:jA):Prop where
 kn : ∀ i,i<6->m.aF i<=1099511627776
 nn:m.ns.length<=32
 gn:m.gs.length<=4096
 nr : ∀ k,k+1<m.ns.length->(bY m.ns k).id<(bY m.ns (k+1)).id
 gr : ∀ k,k+1<m.gs.length->kg (dK m.gs k) (dK m.gs (k+1))
 li : ∀ i,i<6->m.left i=true->m.dF i=true
 nd : ∀ k,k<m.ns.length->auk m.ns k
 gd : ∀ k,k<m.gs.length->Ll m.ns (dK m.gs k)
open Classical in
noncomputable def wR(m:jA):Bool:=decide (vN m)
def MP(x:Int):UInt8:=UInt8.ofNat (x % 256).toNat
def be:Nat->Int->List UInt8
 | 0,_ => []
 | k+1,n=>MP (n / 256^k)::be k n
def ZV(b c:Bool):UInt8:=(if b then 1 else 0)+(if c then 2 else 0)
def EN(m:jA):List UInt8:=(List.range 6).map fun i=>ZV (m.dF i) (m.left i)
def oC(x:Nat->Int)(n:Nat):List UInt8:=(List.range n).flatMap fun i=>be 8 (x i)
def ndB(x:iK):List UInt8:=be 8 x.id++be 8 x.par++oC x.R 54
def grB(g:jD):List UInt8:=MP g.o::(be 8 g.r++be 8 g.n++be 8 g.a++be 8 g.b)
def Cy(m:jA):List UInt8 := [76,83,78,80]++EN m++oC m.aF 6++be 2 m.ns.length++m.ns.flatMap ndB++be 2 m.gs.length++m.gs.flatMap grB
def ze(m:jA):List UInt8:=Cy m++be 4 (PU.I (PU.sum (Cy m)))
open Classical in
noncomputable def mR(m:jA):List UInt8:=if vN m then ze m else []
def pY(l:List UInt8):Int:=l.foldl (fun n c=>n*256+PU.J c) 0
abbrev Ct:=Nat × Bool
def yu(l:List UInt8)(s:Ct)(k:Nat):Ct:=if s.2=true\/l.length-s.1<k then(s.1,true)else(s.1+k,false)
def wS(l:List UInt8)(s:Ct)(k:Nat):Int:=if s.2=true\/l.length-s.1<k then 0 else pY ((l.drop s.1).take k)
def qC(l:List UInt8)(k:Nat):Nat->Ct->Ct
 | 0,s=>s
 | n+1,s=>yu l (qC l k n s) k
def bC(l:List UInt8)(s:Ct)(k i:Nat):Int:=wS l (qC l k i s) k
def DJ(x:Int):Int:=IntKind.i64.wrap x
def Gl(l:List UInt8)(s:Ct):iK:=⟨bC l s 8 0,bC l s 8 1,fun p=>DJ (bC l s 8 (2+p))⟩
def grV(l:List UInt8)(s:Ct):jD:=⟨wS l s 1,bC l (yu l s 1) 8 0,bC l (yu l s 1) 8 1,DJ (bC l (yu l s 1) 8 2),bC l (yu l s 1) 8 3⟩
def ndS(l:List UInt8)(s:Ct):Ct:=qC l 8 56 s
def grS(l:List UInt8)(s:Ct):Ct:=qC l 8 4 (yu l s 1)
def DK(l:List UInt8):Nat->Ct->List iK × Ct
 | 0,s=>([],s)
 | n+1,s=>if s.2=true then([],s)else(Gl l s::(DK l n (ndS l s)).1,(DK l n (ndS l s)).2)
def ZW(l:List UInt8):Nat->Ct->List jD × Ct
 | 0,s=>([],s)
 | n+1,s=>if s.2=true then([],s)else(grV l s::(ZW l n (grS l s)).1,(ZW l n (grS l s)).2)
def s4(l:List UInt8):Ct:=yu l (0,false) 4
def oP(l:List UInt8):Ct:=qC l 1 6 (s4 l)
def s58(l:List UInt8):Ct:=qC l 8 6 (oP l)
def s60(l:List UInt8):Ct:=yu l (s58 l) 2
def nnV(l:List UInt8):Nat:=(wS l (s58 l) 2).toNat
def CB(l:List UInt8):List iK × Ct:=DK l (nnV l) (s60 l)
def gnV(l:List UInt8):Nat:=(wS l (CB l).2 2).toNat
def gsV(l:List UInt8):List jD × Ct:=ZW l (gnV l) (yu l (CB l).2 2)
def uq(l:List UInt8):jA:=⟨fun i=>decide (bC l (s4 l) 1 i % 2=1),fun i=>decide (bC l (s4 l) 1 i / 2 % 2=1),fun i=>bC l (oP l) 8 i,(CB l).1,(gsV l).1⟩
def ZX(l:List UInt8):Prop:=(gsV l).2.2=false/\l ≠ []/\mR (uq l)=l
open Classical in
noncomputable def uw(l:List UInt8):jA:=if ZX l then uq l else Qi
open Classical in
noncomputable def ajn(l:List UInt8):Int:=if ZX l then 0 else 5
def BI(x y:iK):iK:=⟨x.id,x.par,yJ x.R y.R⟩
def CF(x y:jD):jD:=⟨x.o,x.r,x.n,x.a,ou x.b y.b⟩
def gH(x y:jD):Prop:=x.n≠y.n\/x.a≠y.a\/(x.b≠y.b/\x.b≠0/\y.b≠0)
instance (x y:jD):Decidable (gH x y):=by unfold gH; infer_instance
def cO:List iK->List iK->Option (List iK)
 | [],b=>some b
 | x::a,[]=>some (x::a)
 | x::a,y::b=>if x.id<y.id then(cO a (y::b)).map (x :: ·)else if y.id<x.id then(cO (x::a) b).map (y :: ·)else if x.par≠y.par then none else(cO a b).map (BI x y :: ·)
termination_by a b=>a.length+b.length
def dw:List jD->List jD->Option (List jD)
 | [],b=>some b
 | x::a,[]=>some (x::a)
 | x::a,y::b=>if kg x y then(dw a (y::b)).map (x :: ·)else if kg y x then(dw (x::a) b).map (y :: ·)else if gH x y then none else(dw a b).map (CF x y :: ·)
termination_by a b=>a.length+b.length
def xR(a b:jA)(l:List iK)(g:List jD):jA:=⟨fun i=>a.dF i || b.dF i,fun i=>a.left i || b.left i,fun i=>ou (a.aF i) (b.aF i),l,g⟩
open Classical in
noncomputable def gM(a b:jA):jA × Int :=
 if ¬ vN a \/ ¬ vN b then(Qi,1)else
 match cO a.ns b.ns with
 | none=>(Qi,9)
 | some l=>match dw a.gs b.gs with
   | none=>(Qi,14)
   | some g=>if vN (xR a b l g)then(xR a b l g,0)else(Qi,6)
def PV(x y:iK):Prop:=x.id=y.id/\x.par=y.par /\ ∀ p,p<54->x.R p=y.R p
structure jg(a b:jA):Prop where
 dF : ∀ i,i<6->a.dF i=b.dF i
 left : ∀ i,i<6->a.left i=b.left i
 aF : ∀ i,i<6->a.aF i=b.aF i
 nn:a.ns.length=b.ns.length
 gn:a.gs.length=b.gs.length
 n : ∀ k,k<a.ns.length->PV (bY a.ns k) (bY b.ns k)
 g : ∀ k,k<a.gs.length->dK a.gs k=dK b.gs k
open Classical in
noncomputable def Bp(a b:jA):Bool:=decide ((gM a b).2=0/\jg (gM a b).1 b)
end Rt
namespace Rt
def wh(x:Int):Prop:=0<=x/\x<=18446744073709551615
def FZ(x:Int):Prop := -9223372036854775808<=x/\x<=9223372036854775807
def Qj(K:Nat->Int):Prop := ∀ i,i<6->wh (K i)
theorem Qj.kd(h:Qj X):Kd (List.replicate 6 (some .u64)) (rv .u64 X):=Wm fun i a=>xk (h i a)
theorem aeI:(∀ i,i<6->rv .u64 (fun p=>uV (Y p) (X p)) i=rv .u64 X i) <-> ∀ i,i<6->Y i<=X i:=by
 have e : ∀ i,(rv .u64 (fun p=>uV (Y p) (X p)) i=rv .u64 X i)<->Y i<=X i:=fun i=>by
  show Value.int .u64 (uV (Y i) (X i))=aG (X i)<->_;simp only[Value.int.injEq,true_and]; unfold uV; split <;> omega
 exact⟨fun h i a=>(e i).1 (h i a),fun h i a=>(e i).2 (h i a)⟩
instance (D K:Nat->Int):Decidable (∀ i,i<6->D i<=K i):=inferInstanceAs (Decidable (∀ i,i<6->D i<=K i))
def Ef(D K:Nat->Int):Bool:=decide (∀ i,i<6->D i<=K i)
def XZ(K:Nat->Int):Bool:=Ef K fun _=>1099511627776
theorem X0:Qj fun _=>1099511627776:=fun _ _=>⟨by show(0:Int)<=1099511627776; decide,by show(1099511627776:Int)<=18446744073709551615; decide⟩
end Rt
theorem aeJ(D K:Nat->Int)(h:aM c m (2*6) x T)(e : ∀ j,j<2*6->x j=vx (V2 D K) j) :
 Calls prog 24 #[dz m 2 2] c fun e w'=>e = .returned (.agg (aA 6 (rv .u64 fun p=>uV (D p) (K p))))/\Below c.heap.size c w' :=
 adt (some ⟨m,0,none⟩) 2 2 (V2 D K) c (by omega) (fun _=>⟨A_ _,m,0,rfl,(h.congr e).aJ⟩)
theorem Rt.aeK(z:Nat->Value)(D K:Nat->Int) : ∀ j,j<2*6->bJ (bJ z (0*6) 6 (rv .u64 D)) (1*6) 6 (rv .u64 K) j=vx (V2 D K) j:=fun j a=>by
 unfold bJ vx;by_cases c:j<6
 ·rw[b_,d_,show j / 6=0 by omega,show j % 6=j by omega]; rfl
 ·rw[d_,show j / 6=1 by omega,show j % 6=j-1*6 by omega]; rfl
theorem X3(D K:Nat->Int)(w:World)(a:Qj D)(b:Qj K) :
 Calls prog 79 #[.agg (aA 6 (rv .u64 D)),.agg (aA 6 (rv .u64 K))] w fun e w'=>e = .returned (.bool (Ef D K))/\Below w.heap.size w w' :=
 (U9 _ _ w a b).mono fun e w' h=>⟨h.1.trans (gN (by rw[Bool.eq_iff_iff,GJ,aeI]; exact decide_eq_true_iff.symm)),h.2⟩
theorem apq(k:Int)(w:World) :
 Calls prog 81 #[av k] w fun e w'=>e = .returned (aG 1099511627776)/\w'=w:=by
 refine bX func81 3 ?_;refine ay<|au (aG 0)<|aC<|ay<|au (aG 1099511627776)<|aC<|Wr<|aK (aG 1099511627776)<|⟨rfl,rfl⟩
theorem ajo(w:World) :
 Calls prog 80 #[.func (.func 81) #[] #[]] w fun e w'=>e = .returned (.agg (aA 6 (rv .u64 (fun _=>1099511627776))))/\Below w.heap.size w w':=by
 refine bX func80 14 ?_;refine ay<|DR (m:=6) (y:=rv .u64 (fun _=>0)) (by rfl) rfl (by kernel_rfl) rfl fun a F s l B O =>have o:=bL B.bP (Below.refl w.heap.size w);have L:=iy s;have M:=l.lt;aC<|aQ<|ay<|au (av 0)<|aC<|Wb<|have t:aM F a 6 (rv .u64 (uW (fun _=>1099511627776) 0)) 28:=l;Wo (fun f n => ∃ k:Nat,k<=6/\f 0 = .func (.func 81) #[] #[]/\f 2=(pt a)/\f 4=av (k:Int)/\aM n a 6 (rv .u64 (uW (fun _=>1099511627776) k)) 28/\Below w.heap.size w n) (fun f _=>(6-(intOf (f 4)).toNat)) ⟨0,by omega,(by rfl),(by rfl),ic,t,o⟩ ?_;rintro I N ⟨k,J,i,b,c,g,d⟩;refine ay ?_;by_cases h:(k:Int)<6
 ·refine Lv aH (fK h (hx:=c))<|aC<|aQ<|aP<|Wk<|sN<|aQ<|Wb<|ay<|bA c<|au (av k)<|aC<|Wl<|au (av k)<|bA i<|au (av k)<|zW (by rfl) (uJ (args := [av (k:Int)]) rfl rfl rfl (all := #[av (k:Int)]) rfl func81 rfl rfl) rfl<|(apq (k:Int) _).mono ?_;rintro e E ⟨j,K⟩;subst E;refine⟨aG 1099511627776,by rw[j],?_⟩;clear j;refine Lv (pf a k) (jh 6 1 (hx:=b))<|jf g k (aG 1099511627776) fun G u C P =>have v:aM G a 6 (rv .u64 (fZ (uW (fun _=>1099511627776) k) k 1099511627776)) 28:=u.to (yA _ _ _ _);have p:=C.below d d.size (by omega);Ln<|bS<|sN<|Wl<|Lv (av ((k:Int)+1)) (gu (hx:=c))<|au (av ((k:Int)+1))<|Ln<|have x:=v.to (K_ (rv .u64) (KO (fun _=>1099511627776) k));iA ⟨k+1,by omega,i,b,ic,x,p⟩ ?_;show(6-(intOf (av ((k:Int)+1))).toNat)<_;simp only[c,intOf]; omega
 refine Lv aD (fM h (hx:=c))<|aC<|aQ<|aL<|Wx<|cZ<|iC<|dB<|sN<|ay<|Lv (.agg (aA 6 (rv .u64 (uW (fun _=>1099511627776) k)))) (dZ g.aJ 0 (ha:=b))<|dY g 0 (ha:=b) fun H z D Q =>have A:aM H a 6 (rv .u64 (uW (fun _=>1099511627776) k)) 28:=aO z;have q:=D.below d d.size (by omega);aC (Wr (⟨.agg (aA 6 (rv .u64 (uW (fun _=>1099511627776) k))),rV Tryz.results80 ⟨_,b,aU A.aJ⟩,?_⟩));have r:k=6:=by omega
 exact⟨by rw[r,Nz],q⟩
theorem aeL(K:Nat->Int)(w:World)(c:Qj K) :
 Calls prog 49 #[.agg (aA 6 (rv .u64 K))] w fun e w'=>e = .returned (.bool (XZ K))/\Below w.heap.size w w':=by
 refine bX func49 6 ?_;refine ay<|oq fun m q h d l t =>have b:=bL l.bP (Below.refl w.heap.size w);have n:=iy h;have o:=d.lt;au aD<|aC<|aQ ?_;refine rA<|Qv (.agg (aA 6 (rv .u64 K))) (fun p k=>dZ (d.cb k) 0)<|zo (fun _ _=>ajo _) _ rfl ?_;by_cases a:(Ef K (fun _=>1099511627776))=true
 ·refine zo (fun _ _=>X3 _ _ _ c X0) aH (by rw[a])<|bI aH<|Qn ?_;intro r i;have f:=bL i b;refine sN<|Wr<|aK aH<|⟨gN a.symm,f⟩
 rw[R_]at a;refine zo (fun _ _=>X3 _ _ _ c X0) aD (by rw[a])<|bI aD<|Qn ?_;intro s j;have g:=bL j b;refine sN<|Wr<|aK aD<|⟨gN a.symm,g⟩
end Go.Proofs.YtabjalhnkndjaaaGreatDoor
