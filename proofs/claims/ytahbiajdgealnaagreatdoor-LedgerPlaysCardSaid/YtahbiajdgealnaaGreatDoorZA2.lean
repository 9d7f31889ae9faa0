/-
  What the proof of the law rests on, part 2: walks of functions, and plain laws; each says its conditions itself.
-/
import Derived.MapKept
import Derived.Maps.RangeRun
import Derived.WideKeyRuns
import Derived.DeepKeys3
import Derived.Test.YtahbiajdgealnaaGreatDoorRows
import Derived.RangeFuncNested
import Derived.RangeFuncBound
import Derived.RangeFuncCalls
import Derived.RangeFuncLeaves
import Derived.RangeFuncFrom
import Derived.Sort.LotA
import Derived.Sort.LotB
import Derived.Sort.LotC
import Derived.Sort.LotD3
import Derived.Sort.LotD1
import Derived.Test.YtahbiajdgealnaaGreatDoorZA1
set_option maxHeartbeats 1600000
set_option linter.unusedVariables false
set_option linter.unusedSimpArgs false
namespace Go.Proofs.YtahbiajdgealnaaGreatDoor.Fx
open Go.RowKit Go.MapKept
def Mp(w:World)(b n:Nat)(key:Nat->Int)(val:Nat->Value):Prop :=
 ∃ a c,w.heap[b]? = some (.map a c)/\Stamped a c/\a.size=n /\ ∀ i,i<n -> ∃ e,a[i]? = some e/\e.key = .int .u64 (key i)/\e.val=val i
def aQ{a:Type}(f:Nat->a)(j:Nat)(v:a):Nat->a:=fun i=>if i=j then v else f i
section
variable {w w':World} {b n:Nat} {key:Nat->Int} {val:Nat->Value}
theorem Mp.lt(h:Mp w b n key val):b<w.heap.size:=by
 obtain⟨a,c,h,_⟩:=h
 exact(Array.getElem?_eq_some_iff.1 h).1
theorem Mp.keep(h:Mp w b n key val)(e:w'.heap[b]? = w.heap[b]?):Mp w' b n key val:=by
 obtain⟨a,c,d,f⟩:=h
 exact⟨a,c,e.trans d,f⟩
theorem Mp.bZ{g:Nat}(h:Mp w b n key val)(a:Stp g w w')(c:b≠g):Mp w' b n key val:=h.keep (a.block b h.lt c)
theorem Mp.up(h:Mp w b n key val)(a:Below w.heap.size w w'):Mp w' b n key val:=h.keep (a.block b h.lt)
instance:Rt.Tr w w' (Mp w b n key val) (Mp w' b n key val):=⟨fun b h=>h.up b⟩
theorem Mp.qw{T:TypeId}(h:Mp w b n key val)(a:Ty w b T):False:=by
 obtain⟨e,c,h,_⟩:=h
 obtain⟨d,a⟩:=a
 rw[h]at a; cases a
theorem Mp.jG{Ts:List TypeId}(h:Mp w b n key val)(a:iG Ts w w')(_:True):Mp w' b n key val:=h.keep (a.block b h.lt fun _ c=>(h.qw c).elim)
instance {Ts:List TypeId}:Rt.Tc Ts w w' (Mp w b n key val) (Mp w' b n key val) true:=⟨fun b h _=>h.jG b trivial⟩
theorem Mp.ne{g:Nat}{T:TypeId}(h:Mp w b n key val)(a:Ty w g T):g≠b:=fun e=>h.qw (e ▸ a)
theorem Mp.qU{g:Nat->Int}{j:Nat->Value}(h:Mp w b n key val)(e : ∀ i,i<n->key i=g i/\val i=j i):Mp w b n g j:=by
 obtain⟨k,c,l,m,o,p⟩:=h
 exact⟨k,c,l,m,o,fun i hi=>by
  obtain⟨x,a,d,f⟩:=p i hi
  exact⟨x,a,by rw[d,(e i hi).1],by rw[f,(e i hi).2]⟩⟩
theorem Mp.inj(h:Mp w b n key val) : ∀ i j,i<n->j<n->key i=key j->i=j:=fun i j hi t e=>by
 obtain⟨g,c,_,⟨_,_,u⟩,hn,hg⟩:=h
 obtain⟨x,d,q,_⟩:=hg i hi
 obtain⟨y,f,r,_⟩:=hg j t
 rw[Array.getElem?_eq_some_iff]at d f
 obtain⟨m,d⟩:=d
 obtain⟨o,f⟩:=f
 have v:=List.pairwise_iff_getElem.1 u
 have p : ∀ a c (k:a<g.size) (l:c<g.size),a<c->g[a].key≠g[c].key:=fun a c k l s=>by
  have:=v a c (by simpa using k) (by simpa using l) s
  simpa only[List.getElem_map,Array.getElem_toList] using this
 rcases Nat.lt_trichotomy i j with h1|h1|h1
 ·exact absurd (by rw[d,f,q,r,e]) (p i j m o h1)
 ·exact h1
 ·exact absurd (by rw[d,f,q,r,e]) (p j i o m h1)
end
section
variable {P:Program} {f:Nat->Value} {w:World} {o:Oper}
variable {b n:Nat} {key:Nat->Int} {val:Nat->Value}
theorem Mp.find(h:Mp w b n key val){a:Array MapEntry}{c:Nat}(s:w.heap[b]? = some (.map a c))(k:Int) :
 (Instr.findNow (.int .u64) (.int .u64 k) a.toList 0=some none /\ ∀ i,i<n->key i≠k) \/ ∃ j,j<n/\key j=k/\Instr.findNow (.int .u64) (.int .u64 k) a.toList 0=some (some (j,val j)):=by
 obtain⟨A,z,o,B,q,p⟩:=h
 rw[s]at o
 simp only[Option.some.injEq,Obj.map.injEq]at o
 obtain⟨rfl,rfl⟩:=o
 have t : ∀ x∈a.toList,IsKey (.int .u64) x.key:=fun x u=>by
  obtain⟨i,hi,e⟩:=List.getElem_of_mem u
  obtain⟨y,l,m,_⟩:=p i (by simpa [<- q] using hi)
  have:y=x:=by
   have f:a.toList[i]? = some x:=by rw[List.getElem?_eq_getElem hi,e]
   rw[Array.getElem?_toList,l]at f
   exact Option.some.inj f
  rw[<- this,m]; exact rfl
 rcases findNow_spec (d := .int .u64) (k := .int .u64 k) rfl a.toList 0 t with ⟨f,g⟩|⟨j,e,f,g,h7⟩
 ·left
  refine⟨f,fun i hi e => ?_⟩
  obtain⟨y,l,m,_⟩:=p i hi
  exact g y (Array.mem_toList_iff.2 (Array.mem_of_getElem? l)) (by rw[m,e])
 right
 have r:j<n:=by
  rw[Array.getElem?_toList]at g
  rw[<- q]; exact(Array.getElem?_eq_some_iff.1 g).1
 obtain⟨y,l,m,v⟩:=p j r
 rw[Array.getElem?_toList,l]at g
 obtain rfl:=Option.some.inj g
 rw[m]at h7
 simp only[Value.int.injEq,true_and]at h7
 exact⟨j,r,h7,by rw[f,Nat.zero_add,v]⟩
theorem nS{T K E:TypeId}{k:Int}{ok:Bool}{z:Value}(h:Mp w b n key val)(o:P.underlying T=some (.map K E))(l:P.underlying K=some (.int .u64))(v:(zeroValue E).run P w = .ok z w) :
 ((∀ i,i<n->key i≠k)->(Instr.lookup T (.map (some b)) (.int .u64 k) ok).run P w = .ok (if ok then .tuple #[z,.bool false]else z) w) /\
 ∀ j,j<n->key j=k->(Instr.lookup T (.map (some b)) (.int .u64 k) ok).run P w = .ok (if ok then .tuple #[val j,.bool true]else val j) w:=by
 have t:=h
 obtain⟨q,c,d,_⟩:=t
 have m:(Instr.checkKey q.isEmpty 10000 K (.int .u64 k)).run P w = .ok () w:=run_checkKey l (show IsKey (.int .u64) (.int .u64 k)from rfl) _ 9999
 rcases h.find d k with ⟨f,r⟩|⟨j,a,hkj,f⟩
 ·refine⟨fun _ => ?_,fun j a e=>absurd e (r j a)⟩
  have g:=run_findKey (w:=w) l f
  unfold Instr.lookup
  simp only[Sem.run_bind,run_underlying o,Result.andThen_ok,Go.MapKept.run_getObj_map d,Sem.run_pure,m,g,v]
 refine⟨fun u=>absurd hkj (u j a),fun p s e => ?_⟩
 obtain rfl:p=j:=h.inj p j s a (e.trans hkj.symm)
 have g:=run_findKey (w:=w) l f
 unfold Instr.lookup
 simp only[Sem.run_bind,run_underlying o,Result.andThen_ok,Go.MapKept.run_getObj_map d,Sem.run_pure,m,g]
theorem Mj{T K E:TypeId}{x ix:Operand}{k:Int}{z:Value}(d:o.op = .lookup T x ix false)(hx:ev f x = .map (some b))(hi:ev f ix = .int .u64 k)(h:Mp w b n key val)(e:P.underlying T=some (.map K E))(a:P.underlying K=some (.int .u64))(g:(zeroValue E).run P w = .ok z w)(c : ∀ i,i<n->key i≠k):Runs P f o w z:=by
 unfold Runs execOp
 simp only[d,hx,hi,Sem.run_bind,((nS (ok:=false) h e a g).1 c),Result.andThen_ok,Sem.run_pure]; rfl
theorem uN{T K E:TypeId}{x ix:Operand}{k:Int}{z v:Value}{j:Nat}(e:o.op = .lookup T x ix false)(hx:ev f x = .map (some b))(hi:ev f ix = .int .u64 k)(h:Mp w b n key val)(g:P.underlying T=some (.map K E))(d:P.underlying K=some (.int .u64))(l:(zeroValue E).run P w = .ok z w)(c:j<n)(a:key j=k)(i:val j=v):Runs P f o w v:=by
 subst i
 unfold Runs execOp
 simp only[e,hx,hi,Sem.run_bind,((nS (ok:=false) h g d l).2 j c a),Result.andThen_ok,Sem.run_pure]; rfl
theorem Du{T K E:TypeId}{x ix:Operand}{k:Int}{z:Value}(d:o.op = .lookup T x ix true)(hx:ev f x = .map (some b))(hi:ev f ix = .int .u64 k)(h:Mp w b n key val)(e:P.underlying T=some (.map K E))(a:P.underlying K=some (.int .u64))(g:(zeroValue E).run P w = .ok z w)(c : ∀ i,i<n->key i≠k):Runs P f o w (.tuple #[z,.bool false]):=by
 unfold Runs execOp
 simp only[d,hx,hi,Sem.run_bind,((nS (ok:=true) h e a g).1 c),Result.andThen_ok,Sem.run_pure]; rfl
theorem Dv{T K E:TypeId}{x ix:Operand}{k:Int}{z v:Value}{j:Nat}(e:o.op = .lookup T x ix true)(hx:ev f x = .map (some b))(hi:ev f ix = .int .u64 k)(h:Mp w b n key val)(g:P.underlying T=some (.map K E))(d:P.underlying K=some (.int .u64))(l:(zeroValue E).run P w = .ok z w)(c:j<n)(a:key j=k)(i:val j=v):Runs P f o w (.tuple #[v,.bool true]):=by
 subst i
 unfold Runs execOp
 simp only[e,hx,hi,Sem.run_bind,((nS (ok:=true) h g d l).2 j c a),Result.andThen_ok,Sem.run_pure]; rfl
end
section
variable {P:Program} {w:World} {b n:Nat} {key:Nat->Int} {val:Nat->Value}
theorem Gw{w:World}{b:Nat}{o o':Obj}(d:w.heap[b]? = some o):({ w with heap:=w.heap.setIfInBounds b o' }:World).heap[b]? = some o'/\Stp b w { w with heap:=w.heap.setIfInBounds b o' }/\({ w with heap:=w.heap.setIfInBounds b o' }:World).heap.size=w.heap.size:=by
 obtain⟨a,c⟩:=heap_set (o':=o') d
 exact⟨a,⟨rfl,rfl,rfl,by simp,fun k _ e=>c k e⟩,by simp⟩
theorem yu{T K E:TypeId}{k:Int}{v:Value}(h:Mp w b n key val)(J:P.underlying T=some (.map K E))(u:P.underlying K=some (.int .u64)) :
 (∀ j,j<n->key j=k -> ∃ w',(Instr.mapUpdate T (.map (some b)) (.int .u64 k) v).run P w = .ok () w'/\Mp w' b n key (aQ val j v)/\Stp b w w'/\w'.heap.size=w.heap.size) /\
 ((∀ i,i<n->key i≠k) -> ∃ w',(Instr.mapUpdate T (.map (some b)) (.int .u64 k) v).run P w = .ok () w'/\Mp w' b (n+1) (aQ key n k) (aQ val n v)/\Stp b w w'/\w'.heap.size=w.heap.size):=by
 have Q:=h
 obtain⟨f,c,d,G,m,p⟩:=Q
 have I:(Instr.checkKey false 10000 K (.int .u64 k)).run P w = .ok () w:=run_checkKey u (show IsKey (.int .u64) (.int .u64 k)from rfl) _ 9999
 rcases h.find d k with ⟨s,H⟩|⟨j,o,hkj,s⟩
 ·refine⟨fun j o e=>absurd e (H j o),fun _ => ?_⟩
  have t:=run_findKey (w:=w) u s
  obtain⟨B,C,D⟩:=Gw (o' := .map (f.push { key := .int .u64 k,val:=v,born:=c }) (c+1)) d
  have A:(Instr.mapUpdate T (.map (some b)) (.int .u64 k) v).run P w = .ok () { w with heap:=w.heap.setIfInBounds b (.map (f.push { key := .int .u64 k,val:=v,born:=c }) (c+1)) }:=by
   unfold Instr.mapUpdate
   simp only[Sem.run_bind,run_underlying J,Result.andThen_ok,Go.MapKept.run_getObj_map d,I,t]
   exact run_setObj_map _ d
  refine⟨_,A,⟨_,_,B,stamped_push G fun x q e => ?_,by simp[m],fun i hi => ?_⟩,C,D⟩
  ·obtain⟨i,hi,N⟩:=List.getElem_of_mem q
   obtain⟨y,g,l,_⟩:=p i (by simpa [<- m] using hi)
   have F:f.toList[i]? = some x:=by rw[List.getElem?_eq_getElem hi,N]
   rw[Array.getElem?_toList,g]at F
   obtain rfl:=Option.some.inj F
   rw[l]at e
   simp only[Value.int.injEq,true_and]at e
   exact H i (by simpa [<- m] using hi) e
  by_cases e:i=n
  ·subst e
   refine⟨_,by rw[Array.getElem?_push,if_pos m.symm],?_,?_⟩
   ·show Value.int .u64 k=_; unfold aQ; rw[if_pos rfl]
   show v=_; unfold aQ; rw[if_pos rfl]
  obtain⟨y,g,l,M⟩:=p i (by omega)
  refine⟨y,by rw[Array.getElem?_push,if_neg (by omega)]; exact g,?_,?_⟩
  ·unfold aQ; rw[if_neg e]; exact l
  unfold aQ; rw[if_neg e]; exact M
 refine⟨fun a O e => ?_,fun R=>absurd hkj (R j o)⟩
 obtain rfl:a=j:=h.inj a j O o (e.trans hkj.symm)
 have t:=run_findKey (w:=w) u s
 obtain⟨y,g,l,M⟩:=p a o
 obtain⟨B,C,D⟩:=Gw (o' := .map (f.modify a fun e => { e with key := .int .u64 k,val:=v }) c) d
 have S:(Instr.keyThatStays (((f[a]?).map (·.key)).getD (.int .u64 k)) (.int .u64 k)).run P w = .ok (.int .u64 k) w:=by
  rw[g]
  show(Instr.keyThatStays y.key (.int .u64 k)).run P w=_
  rw[l,e]
  unfold Instr.keyThatStays
  rw[if_pos (by simp[Instr.sameBits])]; rfl
 have A:(Instr.mapUpdate T (.map (some b)) (.int .u64 k) v).run P w = .ok () { w with heap:=w.heap.setIfInBounds b (.map (f.modify a fun e => { e with key := .int .u64 k,val:=v }) c) }:=by
  unfold Instr.mapUpdate
  simp only[Sem.run_bind,run_underlying J,Result.andThen_ok,Go.MapKept.run_getObj_map d,I,t,S]
  exact run_setObj_map _ d
 refine⟨_,A,⟨_,_,B,stamped_modify G a _ (fun _ _=>rfl) (fun x _ q => ?_),by simp[m],fun i hi => ?_⟩,C,D⟩
 ·rw[g]at q
  obtain rfl:=Option.some.inj q
  show Value.int .u64 k=y.key
  rw[l,e]
 obtain⟨z,L,U,V⟩:=p i hi
 by_cases r:a=i
 ·subst r
  refine⟨{ z with key := .int .u64 k,val:=v },by rw[Array.getElem?_modify,if_pos rfl,L]; rfl,?_,?_⟩
  ·show Value.int .u64 k=_; rw[e]
  show v=_; unfold aQ; rw[if_pos rfl]
 refine⟨z,by rw[Array.getElem?_modify,if_neg r]; exact L,U,?_⟩
 unfold aQ; rw[if_neg (fun h=>r h.symm)]; exact V
end
def It(w:World)(r b n:Nat)(S:Nat->Bool):Prop :=
 ∃ a d c g f,w.heap[b]? = some (.map a d)/\w.heap[r]? = some (.mapIter (some b) c g f)/\(∀ x∈a.toList,x.born<c)/\c<=f/\a.size=n/\(∀ x∈a.toList,x.born<d)/\c<=d/\(∀(i j:Nat) (x y:MapEntry),a[i]? = some x->a[j]? = some y->x.born=y.born->i=j) /\ ∀ i,i<n -> ∃ e,a[i]? = some e/\g.contains e.born=S i
section
variable {w w':World} {r b n:Nat} {S:Nat->Bool}
theorem It.lt(h:It w r b n S):r<w.heap.size:=by
 obtain⟨d,c,s,e,a,_,h,_⟩:=h
 exact(Array.getElem?_eq_some_iff.1 h).1
theorem It.O9(h:It w r b n S):b<w.heap.size:=by
 obtain⟨d,c,s,e,a,h,_⟩:=h
 exact(Array.getElem?_eq_some_iff.1 h).1
theorem It.keep(h:It w r b n S)(e:w'.heap[b]? = w.heap[b]?)(d:w'.heap[r]? = w.heap[r]?):It w' r b n S:=by
 obtain⟨f,c,s,k,a,g,i,j⟩:=h
 exact⟨f,c,s,k,a,e.trans g,d.trans i,j⟩
theorem It.up(h:It w r b n S)(a:Below w.heap.size w w'):It w' r b n S:=h.keep (a.block b h.O9) (a.block r h.lt)
instance:Rt.Tr w w' (It w r b n S) (It w' r b n S):=⟨fun b h=>h.up b⟩
theorem It.qw{T:TypeId}(h:It w r b n S)(a:Ty w r T):False:=by
 obtain⟨f,c,s,g,d,_,h,_⟩:=h
 obtain⟨e,a⟩:=a
 rw[h]at a; cases a
theorem It.PV{T:TypeId}(h:It w r b n S)(a:Ty w b T):False:=by
 obtain⟨f,c,s,g,d,h,_⟩:=h
 obtain⟨e,a⟩:=a
 rw[h]at a; cases a
theorem It.jG{Ts:List TypeId}(h:It w r b n S)(c:iG Ts w w')(_:True):It w' r b n S:=h.keep (c.block b h.O9 fun _ a=>(h.PV a).elim) (c.block r h.lt fun _ a=>(h.qw a).elim)
instance {Ts:List TypeId}:Rt.Tc Ts w w' (It w r b n S) (It w' r b n S) true:=⟨fun b h _=>h.jG b trivial⟩
theorem It.rb(h:It w r b n S):r≠b:=fun e=>by
 obtain⟨g,c,s,i,f,d,a,_⟩:=h
 rw[e,d]at a; cases a
end
def zn(w:World)(r b i:Nat):Prop :=
 ∃ a c f d e,w.heap[b]? = some (.map a c)/\w.heap[r]? = some (.mapIter (some b) f (Array.push d e.born) c)/\a[i]? = some e/\(a.toList.map (·.born)).Nodup
section
variable {w w':World} {r b i:Nat}
theorem zn.lt(h:zn w r b i):r<w.heap.size:=by
 obtain⟨a,c,s,d,e,_,h,_⟩:=h
 exact(Array.getElem?_eq_some_iff.1 h).1
theorem zn.O9(h:zn w r b i):b<w.heap.size:=by
 obtain⟨a,c,s,d,e,h,_⟩:=h
 exact(Array.getElem?_eq_some_iff.1 h).1
theorem zn.keep(h:zn w r b i)(e:w'.heap[b]? = w.heap[b]?)(a:w'.heap[r]? = w.heap[r]?):zn w' r b i:=by
 obtain⟨d,c,s,k,x,f,g,j⟩:=h
 exact⟨d,c,s,k,x,e.trans f,a.trans g,j⟩
theorem zn.up(h:zn w r b i)(a:Below w.heap.size w w'):zn w' r b i:=h.keep (a.block b h.O9) (a.block r h.lt)
instance:Rt.Tr w w' (zn w r b i) (zn w' r b i):=⟨fun b h=>h.up b⟩
theorem zn.qw{T:TypeId}(h:zn w r b i)(a:Ty w r T):False:=by
 obtain⟨f,c,s,g,e,_,h,_⟩:=h
 obtain⟨d,a⟩:=a
 rw[h]at a; cases a
theorem zn.PV{T:TypeId}(h:zn w r b i)(a:Ty w b T):False:=by
 obtain⟨f,c,s,g,e,h,_⟩:=h
 obtain⟨d,a⟩:=a
 rw[h]at a; cases a
theorem zn.jG{Ts:List TypeId}(h:zn w r b i)(c:iG Ts w w')(_:True):zn w' r b i:=h.keep (c.block b h.O9 fun _ a=>(h.PV a).elim) (c.block r h.lt fun _ a=>(h.qw a).elim)
instance {Ts:List TypeId}:Rt.Tc Ts w w' (zn w r b i) (zn w' r b i) true:=⟨fun b h _=>h.jG b trivial⟩
end
def Fam(w:World)(n:Nat)(pb:Nat->Nat)(s:Nat)(x:Nat->Nat->Value)(T:TypeId):Prop := ∀ i,i<n->aP w (pb i) s (x i) T
section
variable {w w':World} {n s:Nat} {pb:Nat->Nat} {x:Nat->Nat->Value} {T:TypeId}
theorem Fam.up(h:Fam w n pb s x T)(a:Below w.heap.size w w'):Fam w' n pb s x T:=fun i hi=>(h i hi).bZ (Sb a) (Nat.ne_of_lt (h i hi).lt)
instance:Rt.Tr w w' (Fam w n pb s x T) (Fam w' n pb s x T):=⟨fun b h=>h.up b⟩
theorem Fam.jG{Ts:List TypeId}(h:Fam w n pb s x T)(a:iG Ts w w')(b:Ts.contains T=false):Fam w' n pb s x T:=fun i hi=>(h i hi).jG a b
instance {Ts:List TypeId}:Rt.Tc Ts w w' (Fam w n pb s x T) (Fam w' n pb s x T) (!(Ts.contains T)):=⟨fun b h e=>h.jG b (by simpa using e)⟩
theorem Fam.bZ{g:Nat}(h:Fam w n pb s x T)(a:Stp g w w')(b : ∀ i,i<n->pb i≠g):Fam w' n pb s x T:=fun i hi=>(h i hi).bZ a (b i hi)
theorem Fam.put{j:Nat}{y:Nat->Value}(h:Fam w n pb s x T)(f:Stp (pb j) w w')(c:aP w' (pb j) s y T)(hi : ∀ i k,i<n->k<n->pb i=pb k->i=k)(d:j<n):Fam w' n pb s (aQ x j y) T:=fun i a=>by
 unfold aQ
 by_cases e:i=j
 ·subst e; rw[if_pos rfl]; exact c
 ·rw[if_neg e]; exact(h i a).bZ f fun b=>e (hi i j a d b)
theorem Fam.to{x':Nat->Nat->Value}(h:Fam w n pb s x T)(e : ∀ i,i<n->x i=x' i):Fam w n pb s x' T:=fun i hi=>e i hi ▸ h i hi
theorem Fam.push{g:Nat}{y:Nat->Value}(h:Fam w n pb s x T)(a:aP w g s y T):Fam w (n+1) (aQ pb n g) s (aQ x n y) T:=fun i hi=>by
 unfold aQ
 by_cases e:i=n
 ·rw[if_pos e,if_pos e]; exact a
 ·rw[if_neg e,if_neg e]; exact h i (by omega)
end
def unseen(S:Nat->Bool):Nat->Nat
 | 0=>0
 | n+1=>unseen S n+if S n then 0 else 1
theorem yw(S:Nat->Bool)(i:Nat) : ∀ n,n<=i->unseen (aQ S i true) n=unseen S n
 | 0,_=>rfl
 | n+1,h=>by
   unfold unseen
   rw[yw S i n (by omega)]
   have:aQ S i true n=S n:=by unfold aQ; rw[if_neg (by omega)]
   rw[this]
theorem nC{S:Nat->Bool}{i:Nat}(a:S i=false) : ∀ n,i<n->unseen (aQ S i true) n+1=unseen S n
 | 0,h=>absurd h (Nat.not_lt_zero _)
 | n+1,h=>by
   unfold unseen
   by_cases e:i=n
   ·subst e
    rw[yw S i i (Nat.le_refl _),a]
    have:aQ S i true i=true:=by unfold aQ; rw[if_pos rfl]
    rw[this]; simp
   ·have:aQ S i true n=S n:=by unfold aQ; rw[if_neg (by omega)]
    rw[this,<- nC a n (by omega)]
    omega
theorem run_makeMap'{P:Program}(t:TypeId)(w:World):(Instr.makeMap t none).run P w = .ok (.map (some w.heap.size)) (w.alloc (.map #[] 0)):=rfl
section
variable {P:Program} {n0:Nat} {Q:Post} {f:Nat->Value} {w:World} {ops:Array Oper} {rest:List Oper} {o:Oper} {b n:Nat} {key:Nat->Int} {val:Nat->Value}
theorem L.YQ{T K E:TypeId}{x ix v:Operand}{k:Int}{u:Value}{j:Nat}(y:Region.wanted o (yf ops f)=true)(a:o.dst=none)(p:o.op = .mapUpdate T x ix v)(hx:ev f x = .map (some b))(hi:ev f ix = .int .u64 k)(t:ev f v=u)(h:Mp w b n key val)(s:P.underlying T=some (.map K E))(m:P.underlying K=some (.int .u64))(l:j<n)(i:key j=k)
 (g : ∀ w',Mp w' b n key (aQ val j u)->Stp b w w'->w'.heap.size=w.heap.size->L P n0 ops Q rest f w'):L P n0 ops Q (o::rest) f w:=by
 obtain⟨w',q,c,d,e⟩:=(yu (v:=u) h s m).1 j l i
 have r:(execOp (ev f) o).run P w = .ok .skip w':=by
  unfold execOp
  simp only[p,hx,hi,t,Sem.run_bind,q,Result.andThen_ok,Sem.run_pure]
 refine L.unit y r (by rw[a]; rfl) ?_
 rw[a]; exact g w' c d e
theorem L.NS{T K E:TypeId}{x ix v:Operand}{k:Int}{u:Value}(t:Region.wanted o (yf ops f)=true)(a:o.dst=none)(m:o.op = .mapUpdate T x ix v)(hx:ev f x = .map (some b))(hi:ev f ix = .int .u64 k)(s:ev f v=u)(h:Mp w b n key val)(r:P.underlying T=some (.map K E))(j:P.underlying K=some (.int .u64))(l : ∀ i,i<n->key i≠k)
 (g : ∀ w',Mp w' b (n+1) (aQ key n k) (aQ val n u)->Stp b w w'->w'.heap.size=w.heap.size->L P n0 ops Q rest f w'):L P n0 ops Q (o::rest) f w:=by
 obtain⟨w',p,c,d,e⟩:=(yu (v:=u) h r j).2 l
 have q:(execOp (ev f) o).run P w = .ok .skip w':=by
  unfold execOp
  simp only[m,hx,hi,s,Sem.run_bind,p,Result.andThen_ok,Sem.run_pure]
 refine L.unit t q (by rw[a]; rfl) ?_
 rw[a]; exact g w' c d e
theorem L.Ir{T:TypeId}(e:Region.wanted o (yf ops f)=true)(b:inn n0 o.dst=true)(c:o.op = .makeMap T none)
 (a : ∀ g w',g=w.heap.size->Mp w' g 0 (fun _=>0) (fun _ => .pointer none)->Stp w.heap.size w w'->w'.heap.size=w.heap.size+1->L P n0 ops Q rest (put f o.dst (.map (some g))) w'):L P n0 ops Q (o::rest) f w:=by
 have d:(execOp (ev f) o).run P w = .ok (.value (.map (some w.heap.size))) (w.alloc (.map #[] 0)):=by
  unfold execOp
  simp only[c,Option.map_none]
  simp[run_makeMap']
 refine L.val e d b (a _ _ rfl ?_ (Stp.alloc _ _) (by simp))
 exact⟨#[],0,by rw[alloc_at,if_pos rfl],stamped_empty 0,rfl,fun i hi=>absurd hi (Nat.not_lt_zero _)⟩
theorem PW{T K E:TypeId}{x:Operand}{Ts:Array TypeId}(g:o.op = .call { callee := .builtin .len,args := #[x],argTypes:=Ts })(e:Ts = #[T])(hx:ev f x = .map (some b))(h:Mp w b n key val)(j:P.underlying T=some (.map K E)):Runs P f o w (.int .i64 n):=by
 obtain⟨k,c,a,_,d,_⟩:=h
 unfold Runs execOp
 simp only[g]
 unfold resolve invoke
 simp only[e,List.map_toArray,List.map_cons,List.map_nil,hx]
 unfold builtin
 have i:(Builtin.len_ #[T] o.type #[.map (some b)]).run P w = .ok (.int .i64 n) w:=by
  unfold Builtin.len_
  simp[run_underlying j,Go.MapKept.run_getObj_map a,goInt,d]
 simp only[Sem.run_bind,Sem.run_pure,Result.andThen_ok,i]
theorem L.range{T K E:TypeId}{x:Operand}(J:Region.wanted o (yf ops f)=true)(A:inn n0 o.dst=true)(D:o.op = .range T x)(hx:ev f x = .map (some b))(h:Mp w b n key val)(I:P.underlying T=some (.map K E))
 (l : ∀ g w',g=w.heap.size->It w' g b n (fun _=>false)->Stp w.heap.size w w'->w'.heap.size=w.heap.size+1->L P n0 ops Q rest (put f o.dst (.pointer (some ⟨g,0,none⟩))) w'):L P n0 ops Q (o::rest) f w:=by
 have C:=h
 obtain⟨d,c,p,m,u,v⟩:=C
 have G:=run_range_map (P:=P) w T K E b d c I p
 have H:(execOp (ev f) o).run P w = .ok (.value (.pointer (some ⟨w.heap.size,0,none⟩))) (w.alloc (.mapIter (some b) c #[] c)):=by
  unfold execOp
  simp only[D,hx,Sem.run_bind,G,Result.andThen_ok,Sem.run_pure]
 refine L.val J H A (l _ _ rfl ?_ (Stp.alloc _ _) (by simp))
 refine⟨d,c,c,#[],c,?_,by rw[alloc_at,if_pos rfl],m.1,Nat.le_refl _,u,m.1,Nat.le_refl _,fun i j x y hx k e => ?_,fun i hi => ?_⟩
 ·rw[alloc_at,if_neg (Nat.ne_of_lt h.lt)]; exact p
 ·rw[Array.getElem?_eq_some_iff]at hx k
  obtain⟨r,hx⟩:=hx
  obtain⟨s,k⟩:=k
  have F:=List.pairwise_iff_getElem.1 m.2.1
  have t : ∀ a c (q:a<d.size) (l:c<d.size),a<c->d[a].born≠d[c].born:=fun a c q l z=>by
   have:=F a c (by simpa using q) (by simpa using l) z
   simpa only[List.getElem_map,Array.getElem_toList] using this
  rcases Nat.lt_trichotomy i j with h5|h5|h5
  ·exact absurd (by rw[hx,k,e]) (t i j r s h5)
  ·exact h5
  exact absurd (by rw[hx,k,e]) (t j i s r h5)
 obtain⟨e,B,_⟩:=v i hi
 exact⟨e,B,by simp⟩
theorem L.next{x:Operand}{r:Nat}{S:Nat->Bool}(O:Region.wanted o (yf ops f)=true)(J:inn n0 o.dst=true)(K:o.op = .next x false)(hx:ev f x = .pointer (some ⟨r,0,none⟩))(h:Mp w b n key val)(hi:It w r b n S)
 (hc0:(∀ i,i<n->S i=true)->L P n0 ops Q rest (put f o.dst (.tuple #[.bool false])) w)
 (hc1 : ∀ i w',i<n->S i=false->It w' r b n (aQ S i true)->zn w' r b i->Stp r w w'->w'.heap.size=w.heap.size->L P n0 ops Q rest (put f o.dst (.tuple #[.bool true,.int .u64 (key i),val i])) w'):L P n0 ops Q (o::rest) f w:=by
 obtain⟨g,c,d,a,V,l,s,G,Y,Z,h6,H,I,C⟩:=hi
 obtain⟨es',c',k1,kst,_,k4⟩:=h
 rw[l]at k1
 simp only[Option.some.injEq,Obj.map.injEq]at k1
 obtain⟨rfl,rfl⟩:=k1
 have hrb:r≠b:=fun e=>by rw[e,l]at s; cases s
 rcases run_next_at (P:=P) w o.type r b d V a g c s l G Y with ⟨z,E⟩|⟨e,he,w1,hw1,E⟩
 ·have t:(execOp (ev f) o).run P w = .ok (.value (.tuple #[.bool false])) w:=by
   unfold execOp
   simp only[K,hx,Sem.run_bind,E,Result.andThen_ok,Sem.run_pure]
  refine L.val O t J<|hc0 fun i hi => ?_
  obtain⟨y,u,F⟩:=C i hi
  rw[<- F]
  cases hq:a.contains y.born with
  | true=>rfl
  | false =>
    have q:y∈leftOf g a:=by
     unfold leftOf
     rw[Array.mem_filter]
     exact⟨Array.mem_of_getElem? u,by rw[hq]; rfl⟩
    have:=Array.size_pos_of_mem q
    omega
 have t:(execOp (ev f) o).run P w = .ok (.value (.tuple #[.bool true,e.key,e.val])) (Go.ChangeMaps.setBlock w1 r (.mapIter (some b) d (a.push e.born) c)):=by
  unfold execOp
  simp only[K,hx,Sem.run_bind,E,Result.andThen_ok,Sem.run_pure]
 have q:e∈leftOf g a:=Array.mem_toList_iff.1 he
 unfold leftOf at q
 rw[Array.mem_filter]at q
 obtain⟨hme,hns⟩:=q
 obtain⟨i,hi,X⟩:=Array.getElem_of_mem hme
 have m:g[i]? = some e:=by rw[Array.getElem?_eq_getElem hi,X]
 obtain⟨y,u,ky,vy⟩:=k4 i (by omega)
 rw[m]at u
 obtain rfl:=Option.some.inj u
 obtain⟨y2,R,F⟩:=C i (by omega)
 rw[m]at R
 obtain rfl:=Option.some.inj R
 have hsf:S i=false:=by rw[<- F]; simpa using hns
 have p:w1.os=w.os/\w1.tape=w.tape/\w1.output=w.output/\w1.heap=w.heap:=by rcases hw1 with rfl|rfl <;> exact⟨rfl,rfl,rfl,rfl⟩
 have N:(Go.ChangeMaps.setBlock w1 r (.mapIter (some b) d (a.push e.born) c)).heap.size=w.heap.size:=by
  show(w1.heap.setIfInBounds r _).size=_; rw[p.2.2.2]; simp
 have M:Stp r w (Go.ChangeMaps.setBlock w1 r (.mapIter (some b) d (a.push e.born) c)) :=
  ⟨p.1,p.2.1,p.2.2.1,by rw[N]; exact Nat.le_refl _,fun k _ D=>by show(w1.heap.setIfInBounds r _)[k]? = _; rw[p.2.2.2,Array.getElem?_setIfInBounds_ne (Ne.symm D)]⟩
 have YR:r<w1.heap.size:=by
  rcases hw1 with rfl|rfl <;> exact(Array.getElem?_eq_some_iff.1 s).1
 rw[ky,vy]at t
 have T:(Go.ChangeMaps.setBlock w1 r (.mapIter (some b) d (a.push e.born) c)).heap[b]? = some (.map g c):=by rw[M.block b (Array.getElem?_eq_some_iff.1 l).1 (Ne.symm hrb)]; exact l
 have U:(Go.ChangeMaps.setBlock w1 r (.mapIter (some b) d (a.push e.born) c)).heap[r]? = some (.mapIter (some b) d (a.push e.born) c):=by simp[Go.ChangeMaps.setBlock,YR]
 refine L.val O t J (hc1 i _ (by omega) hsf ⟨g,c,d,a.push e.born,c,T,U,G,H,Z,h6,H,I,fun j hj => ?_⟩ ⟨g,c,d,a,e,T,U,m,kst.2.1⟩ M N)
 obtain⟨A,v,hs3⟩:=C j hj
 refine⟨A,v,?_⟩
 unfold aQ
 by_cases B:j=i
 ·subst B
  rw[m]at v
  obtain rfl:=Option.some.inj v
  rw[if_pos rfl]; simp
 rw[if_neg B,<- hs3]
 have D:A.born≠e.born:=fun W=>B (I j i A e v m W)
 cases hq:a.contains A.born with
 | true=>simp at hq ⊢; exact .inl hq
 | false=>simp at hq ⊢; exact⟨hq,D⟩
theorem Ml{x:Operand}{r i:Nat}(p:o.op = .entry x)(hx:ev f x = .pointer (some ⟨r,0,none⟩))(h:Mp w b n key val)(hi:zn w r b i)(m:i<n):Runs P f o w (.tuple #[.int .u64 (key i),val i]):=by
 obtain⟨j,c,s,v,e,a,k,d,l⟩:=hi
 obtain⟨B,A,k1,_,_,t⟩:=h
 rw[a]at k1
 simp only[Option.some.injEq,Obj.map.injEq]at k1
 obtain⟨rfl,rfl⟩:=k1
 obtain⟨y,g,u,z⟩:=t i m
 rw[d]at g
 obtain rfl:=Option.some.inj g
 have q:=run_entry_at (P:=P) w r b s v j c e k a (Array.mem_toList_iff.2 (Array.mem_of_getElem? d)) l
 unfold Runs execOp
 simp only[p,hx,Sem.run_bind,q,Result.andThen_ok,Sem.run_pure,u,z]
end
structure NT(r:Nat)(w w':World):Prop where
 s:Stp r w w'
 no : ∀ T,¬ Ty w r T
section
variable {w w':World} {r b n:Nat}
theorem Mp.AB{m:Nat}{key:Nat->Int}{val:Nat->Value}(h:Mp w r m key val)(a:Stp r w w'):NT r w w':=⟨a,fun _ b=>h.qw b⟩
theorem It.AB{m q:Nat}{S:Nat->Bool}(h:It w r q m S)(a:Stp r w w'):NT r w w':=⟨a,fun _ b=>h.qw b⟩
theorem zn.AB{q i:Nat}(h:zn w r q i)(a:Stp r w w'):NT r w w':=⟨a,fun _ b=>h.qw b⟩
theorem Fam.dJ{m s:Nat}{pb:Nat->Nat}{x:Nat->Nat->Value}{T:TypeId}(h:Fam w m pb s x T)(a:NT r w w'):Fam w' m pb s x T:=fun i hi=>(h i hi).bZ a.s fun e=>a.no T (e ▸ (h i hi).ty)
theorem aP.dJ{x:Nat->Value}{T:TypeId}(h:aP w b n x T)(a:NT r w w'):aP w' b n x T:=h.bZ a.s fun e=>a.no T (e ▸ h.ty)
theorem Own.dJ{B s:Nat}{E:TypeId}{v:Value}{x:Nat->Value}(h:Own w B E s v n x)(a:NT r w w'):Own w' B E s v n x:=h.bZ a.s fun e=>a.no E (h.ty e)
theorem Mp.dJ{key:Nat->Int}{val:Nat->Value}(h:Mp w b n key val)(a:NT r w w')(c:b≠r):Mp w' b n key val:=h.bZ a.s c
end
theorem qx(key:Nat->Int)(n:Nat)(k:Int):(∃ j,j<n/\key j=k) \/ ∀ i,i<n->key i≠k:=by
 by_cases h : ∃ j,j<n/\key j=k
 ·exact .inl h
 exact .inr fun i hi e=>h ⟨i,hi,e⟩
theorem uO{p:Nat->Prop}(h : ∃ k,p k) : ∃ k,p k /\ ∀ j,p j->k<=j:=by
 obtain⟨k,c⟩:=h
 induction k using Nat.strongRecOn with
 | _ k ih =>
   by_cases b : ∃ j,j<k/\p j
   ·obtain⟨j,a,e⟩:=b; exact ih j a e
   ·exact⟨k,c,fun j a=>Nat.not_lt.1 fun d=>b ⟨j,d,a⟩⟩
open Classical in
theorem Dw{P:Program}{n:Nat}{c:Code}{Q:Post}{f:Nat->Value}{w:World}(I:Nat->(Nat->Value)->World->Prop)(j:Nat)(l:I j f w)
 (hr : ∀ k f w,I k f w->W P n c (Ie (fun f w => ∃ a,a<k/\I a f w) (fun _ _=>0) 1 Q) f w):W P n (.loop c) Q f w:=by
 refine Wo (fun f w => ∃ k,I k f w) (fun f w=>if h : ∃ k,I k f w then(uO h).choose else 0) ⟨j,l⟩ fun f w h => ?_
 refine(hr _ f w (uO h).choose_spec.1).mono fun e d w' i => ?_
 rw[dif_pos h]
 cases e with
 | normal =>
   obtain⟨⟨a,m,b⟩,_⟩:=i
   refine⟨⟨a,b⟩,?_⟩
   have g : ∃ k,I k d w':=⟨a,b⟩
   show(if h : ∃ k,I k d w' then(uO h).choose else 0)<_
   rw[dif_pos g]
   exact Nat.lt_of_le_of_lt ((uO g).choose_spec.2 a b) m
 | _=>exact i
structure EF(Ts:List TypeId)(w w':World):Prop where
 os:w'.os=w.os
 tape:w'.tape=w.tape
 output:w'.output=w.output
 size:w.heap.size<=w'.heap.size
 block : ∀ k T,Ty w k T->Ts.contains T=false->w'.heap[k]? = w.heap[k]?
section
variable {w w' w2:World} {Ts Us:List TypeId}
theorem EF.refl(w:World):EF Ts w w:=⟨rfl,rfl,rfl,Nat.le_refl _,fun _ _ _ _=>rfl⟩
theorem Ty.ltw{k:Nat}{T:TypeId}(h:Ty w k T):k<w.heap.size:=by
 obtain⟨c,h⟩:=h
 exact(Array.getElem?_eq_some_iff.1 h).1
theorem EF.trans(w w' w2:World)(h:EF Ts w w')(k:EF Ts w' w2):EF Ts w w2:=⟨k.os.trans h.os,k.tape.trans h.tape,k.output.trans h.output,Nat.le_trans h.size k.size,fun i T b a=>by
 have e:=h.block i T b a
 obtain⟨c,d⟩:=b
 exact(k.block i T ⟨c,e.trans d⟩ a).trans e⟩
theorem EF.YS(h:iG Ts w w'):EF Ts w w':=⟨h.os,h.tape,h.output,h.size,fun k T a b=>h.block k a.ltw fun d c=>by rw[Ty.only a c]; exact b⟩
theorem EF.of_below(h:Below w.heap.size w w'):EF Ts w w' := .YS (.of_below h)
theorem EF.wide(h:EF Ts w w')(d:Ts.all Us.contains=true):EF Us w w':=⟨h.os,h.tape,h.output,h.size,fun k T f c=>h.block k T f (by
 cases e:Ts.contains T with
 | false=>rfl
 | true =>
   have b:T∈Ts:=by simpa using e
   have a:=(List.all_eq_true.1 d) T b
   rw[c]at a; cases a)⟩
theorem aP.Ke{b n:Nat}{x:Nat->Value}{T:TypeId}(h:aP w b n x T)(a:EF Ts w w')(c:Ts.contains T=false):aP w' b n x T:=(a.block b T h.ty c).trans h
theorem Fam.Ke{n s:Nat}{pb:Nat->Nat}{x:Nat->Nat->Value}{T:TypeId}(h:Fam w n pb s x T)(a:EF Ts w w')(b:Ts.contains T=false):Fam w' n pb s x T:=fun i hi=>(h i hi).Ke a b
theorem Own.Ke{B s n:Nat}{E:TypeId}{v:Value}{x:Nat->Value}(h:Own w B E s v n x)(a:EF Ts w w')(b:Ts.contains E=false):Own w' B E s v n x:=by
 refine⟨h.1,?_⟩
 rcases h.2 with hn|⟨g,cap,cur,hv,hB,hg,rest⟩
 ·exact .inl hn
 exact .inr ⟨g,cap,cur,hv,hB,(a.block g E ⟨cur,hg⟩ b).trans hg,rest⟩
end
end Go.Proofs.YtahbiajdgealnaaGreatDoor.Fx
namespace Go.Proofs.YtahbiajdgealnaaGreatDoor.Fx
open Go.RowKit Go.MapKept
def kS(a b:Int):Value := .agg #[.int .i64 a,.int .u64 b]
structure Cc(a b:Int):Prop where
 a : -9223372036854775808<=a/\a<=9223372036854775807
 b:0<=b/\b<=18446744073709551615
theorem KG{a b c d:Int}(h:kS a b=kS c d):a=c/\b=d:=by
 unfold kS at h
 simp only[Value.agg.injEq]at h
 have h:=congrArg Array.toList h
 simp at h; exact h
theorem yx{y:Nat->Value}{a b:Int}(c:y 0 = .int .i64 a)(h1:y 1 = .int .u64 b):Value.agg (aA 2 y)=kS a b:=by
 unfold kS
 congr 1
 apply Array.ext'
 rw[E9]
 show [y 0,y 1]=_
 rw[c,h1]
structure uP(P:Program)(K:TypeId):Prop where
 kt:P.keyTypeAt 12 K=true
 fl:flatK P 12 K=some [some .i64,some .u64]
 ag:Dk P K=true
section
variable {P:Program} {K:TypeId} {a b c d:Int} {w:World}
theorem uP.wide(h:uP P K):(match P.underlying K with|some (.array _ _)|some (.struct _)=>true|_=>false)=true:=by
 have h:=h.ag
 unfold Dk at h
 cases hu:P.underlying K with
 | none=>rw[hu]at h; cases h
 | some d=>rw[hu]at h; cases d <;> first|rfl|(cases h)
theorem Cc.fit(h:Cc a b):Fit [some .i64,some .u64] (#[Value.int .i64 a,.int .u64 b]:Array Value).toList [.int .i64 a,.int .u64 b]:=by
 refine⟨?_,?_,trivial⟩
 ·simp[mZ,Py h.a]
 simp[mZ,rE h.b]
theorem uP.eq(e:uP P K)(h1:Cc a b)(f:Cc c d)(w:World) : ∃ r:Bool,(Op.equal K (kS a b) (kS c d)).run P w = .ok r w/\(r=true<->kS a b=kS c d):=by
 refine⟨decide (a=c/\b=d),?_,?_⟩
 ·have:=ny w 12 9988 K _ #[.int .i64 a,.int .u64 b] #[.int .i64 c,.int .u64 d] _ _ e.kt e.fl e.wide h1.fit f.fit (decide (a=c/\b=d)) (by simp)
  exact this
 rw[decide_eq_true_iff]
 constructor
 ·rintro ⟨rfl,rfl⟩; rfl
 exact KG
theorem uP.formed(g:uP P K)(h1:Cc a b):(kS a b).formed P K=true:=by
 have d:=g.wide
 have c:=g.fl
 unfold Value.formed kS
 cases hu:P.underlying K with
 | none=>rw[hu]at d; cases d
 | some td =>
   have h:P.cellsOf K=2:=by
    unfold flatK at c
    rw[hu]at c d
    cases td with
    | array n e =>
      simp only at c
      cases h2:flatK P 11 e with
      | none=>rw[h2]at c; cases c
      | some l =>
        rw[h2]at c
        simp only at c
        split at c
        ·rename_i h3
         simp only[Option.some.injEq]at c
         have f:=congrArg List.length c
         rw[ql]at f
         exact h3.2.symm.trans f
        ·cases c
    | struct fs =>
      simp only at c
      cases h2:uH P.cellsOf (flatK P 11) fs.toList 0 with
      | none=>rw[h2]at c; cases c
      | some l =>
        rw[h2]at c
        simp only at c
        split at c
        ·rename_i h3
         simp only[Option.some.injEq]at c
         rw[<- h3,c]; rfl
        ·cases c
    | _=>cases d
   rw[hu]at d
   cases td <;> first|(cases d; done)|simp[h]
theorem uP.check(c:uP P K)(h1:Cc a b)(d:Bool)(w:World):(Instr.checkKey d 10000 K (kS a b)).run P w = .ok () w:=by
 have h:=run_checkKey_deep d 9988 12 K c.kt
 exact h w 12 (kS a b) _ (c.formed h1) (nX 12 K _ _ _ c.fl (by simpa [Value.cells,kS] using h1.fit))
theorem Iu(a b:Int):Instr.sameBits 10000 (kS a b) (kS a b)=true:=by
 unfold kS
 show Instr.sameBits (9999+1) _ _=true
 simp[Instr.sameBits]
end
def gN(w:World)(b n:Nat)(k1 k2:Nat->Int)(val:Nat->Value):Prop :=
 ∃ a c,w.heap[b]? = some (.map a c)/\Stamped a c/\a.size=n /\ ∀ i,i<n -> ∃ e,a[i]? = some e/\e.key=kS (k1 i) (k2 i)/\e.val=val i/\Cc (k1 i) (k2 i)
section
variable {w w':World} {b n:Nat} {k1 k2:Nat->Int} {val:Nat->Value}
theorem gN.lt(h:gN w b n k1 k2 val):b<w.heap.size:=by
 obtain⟨a,c,h,_⟩:=h
 exact(Array.getElem?_eq_some_iff.1 h).1
theorem gN.keep(h:gN w b n k1 k2 val)(e:w'.heap[b]? = w.heap[b]?):gN w' b n k1 k2 val:=by
 obtain⟨a,c,d,f⟩:=h
 exact⟨a,c,e.trans d,f⟩
theorem gN.bZ{g:Nat}(h:gN w b n k1 k2 val)(a:Stp g w w')(c:b≠g):gN w' b n k1 k2 val:=h.keep (a.block b h.lt c)
theorem gN.up(h:gN w b n k1 k2 val)(a:Below w.heap.size w w'):gN w' b n k1 k2 val:=h.keep (a.block b h.lt)
instance:Rt.Tr w w' (gN w b n k1 k2 val) (gN w' b n k1 k2 val):=⟨fun b h=>h.up b⟩
theorem gN.qw{T:TypeId}(h:gN w b n k1 k2 val)(a:Ty w b T):False:=by
 obtain⟨e,c,h,_⟩:=h
 obtain⟨d,a⟩:=a
 rw[h]at a; cases a
theorem gN.jG{Ts:List TypeId}(h:gN w b n k1 k2 val)(a:iG Ts w w')(_:True):gN w' b n k1 k2 val:=h.keep (a.block b h.lt fun _ c=>(h.qw c).elim)
instance {Ts:List TypeId}:Rt.Tc Ts w w' (gN w b n k1 k2 val) (gN w' b n k1 k2 val) true:=⟨fun b h _=>h.jG b trivial⟩
theorem gN.AB(h:gN w b n k1 k2 val)(a:Stp b w w'):NT b w w':=⟨a,fun _ c=>h.qw c⟩
theorem gN.dJ{r:Nat}(h:gN w b n k1 k2 val)(a:NT r w w')(c:b≠r):gN w' b n k1 k2 val:=h.bZ a.s c
theorem gN.ok(h:gN w b n k1 k2 val){i:Nat}(hi:i<n):Cc (k1 i) (k2 i):=by
 obtain⟨f,c,_,_,_,a⟩:=h
 obtain⟨e,_,_,_,d⟩:=a i hi; exact d
theorem gN.qU{l m:Nat->Int}{o:Nat->Value}(h:gN w b n k1 k2 val)(e : ∀ i,i<n->k1 i=l i/\k2 i=m i/\val i=o i):gN w b n l m o:=by
 obtain⟨q,c,r,s,t,u⟩:=h
 exact⟨q,c,r,s,t,fun i hi=>by
  obtain⟨x,a,d,f,g⟩:=u i hi
  obtain⟨j,k,p⟩:=e i hi
  exact⟨x,a,by rw[d,j,k],by rw[f,p],by rw[<- j,<- k]; exact g⟩⟩
theorem gN.inj(h:gN w b n k1 k2 val) : ∀ i j,i<n->j<n->k1 i=k1 j->k2 i=k2 j->i=j:=fun i j hi u g k=>by
 obtain⟨f,c,_,⟨_,_,v⟩,hn,hg⟩:=h
 obtain⟨x,d,r,_⟩:=hg i hi
 obtain⟨y,e,s,_⟩:=hg j u
 rw[Array.getElem?_eq_some_iff]at d e
 obtain⟨o,d⟩:=d
 obtain⟨p,e⟩:=e
 have z:=List.pairwise_iff_getElem.1 v
 have q : ∀ a c (l:a<f.size) (m:c<f.size),a<c->f[a].key≠f[c].key:=fun a c l m t=>by
  have:=z a c (by simpa using l) (by simpa using m) t
  simpa only[List.getElem_map,Array.getElem_toList] using this
 rcases Nat.lt_trichotomy i j with h1|h1|h1
 ·exact absurd (by rw[d,e,r,s,g,k]) (q i j o p h1)
 ·exact h1
 ·exact absurd (by rw[d,e,r,s,g,k]) (q j i p o h1)
end
theorem wN(k1 k2:Nat->Int)(n:Nat)(a b:Int):(∃ j,j<n/\k1 j=a/\k2 j=b) \/ ∀ i,i<n -> ¬ (k1 i=a/\k2 i=b):=by
 by_cases h : ∃ j,j<n/\k1 j=a/\k2 j=b
 ·exact .inl h
 exact .inr fun i hi e=>h ⟨i,hi,e⟩
section
variable {P:Program} {f:Nat->Value} {w:World} {o:Oper} {K:TypeId}
variable {b n:Nat} {k1 k2:Nat->Int} {val:Nat->Value}
theorem Iw(k:uP P K){x y:Int}(l:Cc x y)(w:World) : ∀(a:List MapEntry) (i:Nat),(∀ e∈a,∃ u v,e.key=kS u v/\Cc u v) ->
 ((Instr.findAsking K (kS x y) a i).run P w = .ok none w /\ ∀ e∈a,e.key≠kS x y) \/ ∃ j e,(Instr.findAsking K (kS x y) a i).run P w = .ok (some (i+j,e.val)) w/\a[j]? = some e/\e.key=kS x y
 | [],i,_ => .inl ⟨by simp[Instr.findAsking],by simp⟩
 | e::a,i,hall=>by
   obtain⟨u,v,m,o⟩:=hall e (by simp)
   obtain⟨r,c,g⟩:=k.eq l o w
   rw[<- m]at c g
   cases r
   ·have n:e.key≠kS x y:=fun h=>by have:=g.2 h.symm; cases this
    rcases Iw k l w a (i+1) (fun y b=>hall y (by simp[b]))with ⟨d,f⟩|⟨j,e',d,f,h3⟩
    ·left
     refine⟨by simp[Instr.findAsking,c,d],fun y b => ?_⟩
     rcases List.mem_cons.1 b with rfl|b
     ·exact n
     ·exact f y b
    ·right
     exact⟨j+1,e',by simp[Instr.findAsking,c,d,Nat.add_assoc,Nat.add_comm 1 j],by simpa using f,h3⟩
   ·right
    exact⟨0,e,by simp[Instr.findAsking,c],rfl,(g.1 rfl).symm⟩
theorem gN.find(h:gN w b n k1 k2 val)(p:uP P K){a:Array MapEntry}{c:Nat}(t:w.heap[b]? = some (.map a c)){x y:Int}(z:Cc x y) :
 ((Instr.findKey K (kS x y) a.toList).run P w = .ok none w /\ ∀ i,i<n -> ¬ (k1 i=x/\k2 i=y)) \/ ∃ j,j<n/\k1 j=x/\k2 j=y/\(Instr.findKey K (kS x y) a.toList).run P w = .ok (some (j,val j)) w:=by
 obtain⟨F,E,l,G,o,m⟩:=h
 rw[t]at l
 simp only[Option.some.injEq,Obj.map.injEq]at l
 obtain⟨rfl,rfl⟩:=l
 have A : ∀ e∈a.toList,∃ u v,e.key=kS u v/\Cc u v:=fun x B=>by
  obtain⟨i,hi,e⟩:=List.getElem_of_mem B
  obtain⟨y,g,k,_,C⟩:=m i (by simpa [<- o] using hi)
  have:y=x:=by
   have d:a.toList[i]? = some x:=by rw[List.getElem?_eq_getElem hi,e]
   rw[Array.getElem?_toList,g]at d
   exact Option.some.inj d
  subst this
  exact⟨_,_,k,C⟩
 rw[run_findKey_eq w p.wide]
 rcases Iw p z w a.toList 0 A with ⟨d,f⟩|⟨j,e,d,f,h7⟩
 ·left
  refine⟨d,fun i hi e => ?_⟩
  obtain⟨y,g,k,_⟩:=m i hi
  exact f y (Array.mem_toList_iff.2 (Array.mem_of_getElem? g)) (by rw[k,e.1,e.2])
 right
 have q:j<n:=by
  rw[Array.getElem?_toList]at f
  rw[<- o]; exact(Array.getElem?_eq_some_iff.1 f).1
 obtain⟨y,g,k,D,_⟩:=m j q
 rw[Array.getElem?_toList,g]at f
 obtain rfl:=Option.some.inj f
 rw[k]at h7
 obtain⟨r,s⟩:=KG h7
 exact⟨j,q,r,s,by rw[d,Nat.zero_add,D]⟩
theorem mG{T E:TypeId}{x y:Int}{ok:Bool}{z:Value}(m:Cc x y)(h:gN w b n k1 k2 val)(o:P.underlying T=some (.map K E))(k:uP P K)(v:(zeroValue E).run P w = .ok z w) :
 ((∀ i,i<n -> ¬ (k1 i=x/\k2 i=y))->(Instr.lookup T (.map (some b)) (kS x y) ok).run P w = .ok (if ok then .tuple #[z,.bool false]else z) w) /\
 ∀ j,j<n->k1 j=x->k2 j=y->(Instr.lookup T (.map (some b)) (kS x y) ok).run P w = .ok (if ok then .tuple #[val j,.bool true]else val j) w:=by
 have t:=h
 obtain⟨q,c,f,_⟩:=t
 have l:=k.check m q.isEmpty w
 rcases h.find k f m with ⟨g,r⟩|⟨j,a,hkj,PX,g⟩
 ·refine⟨fun _ => ?_,fun j a e d=>absurd ⟨e,d⟩ (r j a)⟩
  unfold Instr.lookup
  simp only[Sem.run_bind,run_underlying o,Result.andThen_ok,Go.MapKept.run_getObj_map f,Sem.run_pure,l,g,v]
 refine⟨fun u=>absurd ⟨hkj,PX⟩ (u j a),fun p s e d => ?_⟩
 obtain rfl:p=j:=h.inj p j s a (e.trans hkj.symm) (d.trans PX.symm)
 unfold Instr.lookup
 simp only[Sem.run_bind,run_underlying o,Result.andThen_ok,Go.MapKept.run_getObj_map f,Sem.run_pure,l,g]
variable {T E:TypeId} {x ix:Operand} {a r:Int} {z v:Value} {j:Nat}
theorem Iy(g:o.op = .lookup T x ix false)(hx:ev f x = .map (some b))(hi:ev f ix=kS a r)(d:Cc a r)(h:gN w b n k1 k2 val)(j:P.underlying T=some (.map K E))(c:uP P K)(k:(zeroValue E).run P w = .ok z w)(e : ∀ i,i<n -> ¬ (k1 i=a/\k2 i=r)):Runs P f o w z:=by
 unfold Runs execOp
 simp only[g,hx,hi,Sem.run_bind,((mG (ok:=false) d h j c k).1 e),Result.andThen_ok,Sem.run_pure]; rfl
theorem Iz(k:o.op = .lookup T x ix false)(hx:ev f x = .map (some b))(hi:ev f ix=kS a r)(i:Cc a r)(h:gN w b n k1 k2 val)(l:P.underlying T=some (.map K E))(e:uP P K)(p:(zeroValue E).run P w = .ok z w)(g:j<n)(c:k1 j=a)(d:k2 j=r)(m:val j=v):Runs P f o w v:=by
 subst m
 unfold Runs execOp
 simp only[k,hx,hi,Sem.run_bind,((mG (ok:=false) i h l e p).2 j g c d),Result.andThen_ok,Sem.run_pure]; rfl
theorem NU(g:o.op = .lookup T x ix true)(hx:ev f x = .map (some b))(hi:ev f ix=kS a r)(d:Cc a r)(h:gN w b n k1 k2 val)(j:P.underlying T=some (.map K E))(c:uP P K)(k:(zeroValue E).run P w = .ok z w)(e : ∀ i,i<n -> ¬ (k1 i=a/\k2 i=r)):Runs P f o w (.tuple #[z,.bool false]):=by
 unfold Runs execOp
 simp only[g,hx,hi,Sem.run_bind,((mG (ok:=true) d h j c k).1 e),Result.andThen_ok,Sem.run_pure]; rfl
theorem NV(k:o.op = .lookup T x ix true)(hx:ev f x = .map (some b))(hi:ev f ix=kS a r)(i:Cc a r)(h:gN w b n k1 k2 val)(l:P.underlying T=some (.map K E))(e:uP P K)(p:(zeroValue E).run P w = .ok z w)(g:j<n)(c:k1 j=a)(d:k2 j=r)(m:val j=v):Runs P f o w (.tuple #[v,.bool true]):=by
 subst m
 unfold Runs execOp
 simp only[k,hx,hi,Sem.run_bind,((mG (ok:=true) i h l e p).2 j g c d),Result.andThen_ok,Sem.run_pure]; rfl
end
section
variable {P:Program} {w:World} {b n:Nat} {k1 k2:Nat->Int} {val:Nat->Value} {K:TypeId}
theorem wO{T E:TypeId}{x y:Int}{v:Value}(u:Cc x y)(h:gN w b n k1 k2 val)(L:P.underlying T=some (.map K E))(I:uP P K) :
 (∀ j,j<n->k1 j=x->k2 j=y -> ∃ w',(Instr.mapUpdate T (.map (some b)) (kS x y) v).run P w = .ok () w'/\gN w' b n k1 k2 (aQ val j v)/\Stp b w w'/\w'.heap.size=w.heap.size) /\
 ((∀ i,i<n -> ¬ (k1 i=x/\k2 i=y)) -> ∃ w',(Instr.mapUpdate T (.map (some b)) (kS x y) v).run P w = .ok () w'/\gN w' b (n+1) (aQ k1 n x) (aQ k2 n y) (aQ val n v)/\Stp b w w'/\w'.heap.size=w.heap.size):=by
 have V:=h
 obtain⟨g,c,d,G,m,p⟩:=V
 have J:=I.check u false w
 rcases h.find I d u with ⟨t,H⟩|⟨j,o,hkj,PX,t⟩
 ·refine⟨fun j o e f=>absurd ⟨e,f⟩ (H j o),fun _ => ?_⟩
  obtain⟨B,C,D⟩:=Gw (o' := .map (g.push { key:=kS x y,val:=v,born:=c }) (c+1)) d
  have A:(Instr.mapUpdate T (.map (some b)) (kS x y) v).run P w = .ok () { w with heap:=w.heap.setIfInBounds b (.map (g.push { key:=kS x y,val:=v,born:=c }) (c+1)) }:=by
   unfold Instr.mapUpdate
   simp only[Sem.run_bind,run_underlying L,Result.andThen_ok,Go.MapKept.run_getObj_map d,J,t]
   exact run_setObj_map _ d
  refine⟨_,A,⟨_,_,B,stamped_push G fun q r e => ?_,by simp[m],fun i hi => ?_⟩,C,D⟩
  ·obtain⟨i,hi,S⟩:=List.getElem_of_mem r
   obtain⟨z,k,l,_⟩:=p i (by simpa [<- m] using hi)
   have F:g.toList[i]? = some q:=by rw[List.getElem?_eq_getElem hi,S]
   rw[Array.getElem?_toList,k]at F
   obtain rfl:=Option.some.inj F
   rw[l]at e
   exact H i (by simpa [<- m] using hi) (KG e)
  by_cases e:i=n
  ·subst e
   refine⟨_,by rw[Array.getElem?_push,if_pos m.symm],?_,?_,?_⟩
   ·show kS x y=_; unfold aQ; rw[if_pos rfl,if_pos rfl]
   ·show v=_; unfold aQ; rw[if_pos rfl]
   unfold aQ; rw[if_pos rfl,if_pos rfl]; exact u
  obtain⟨z,k,l,Q,O⟩:=p i (by omega)
  refine⟨z,by rw[Array.getElem?_push,if_neg (by omega)]; exact k,?_,?_,?_⟩
  ·unfold aQ; rw[if_neg e,if_neg e]; exact l
  ·unfold aQ; rw[if_neg e]; exact Q
  unfold aQ; rw[if_neg e,if_neg e]; exact O
 refine⟨fun a U e f => ?_,fun W=>absurd ⟨hkj,PX⟩ (W j o)⟩
 obtain rfl:a=j:=h.inj a j U o (e.trans hkj.symm) (f.trans PX.symm)
 obtain⟨z,k,l,Q,O⟩:=p a o
 obtain⟨B,C,D⟩:=Gw (o' := .map (g.modify a fun q => { q with key:=kS x y,val:=v }) c) d
 have X:(Instr.keyThatStays (((g[a]?).map (·.key)).getD (kS x y)) (kS x y)).run P w = .ok (kS x y) w:=by
  rw[k]
  show(Instr.keyThatStays z.key (kS x y)).run P w=_
  rw[l,e,f]
  unfold Instr.keyThatStays
  rw[if_pos (Iu x y)]; rfl
 have A:(Instr.mapUpdate T (.map (some b)) (kS x y) v).run P w = .ok () { w with heap:=w.heap.setIfInBounds b (.map (g.modify a fun q => { q with key:=kS x y,val:=v }) c) }:=by
  unfold Instr.mapUpdate
  simp only[Sem.run_bind,run_underlying L,Result.andThen_ok,Go.MapKept.run_getObj_map d,J,t,X]
  exact run_setObj_map _ d
 refine⟨_,A,⟨_,_,B,stamped_modify G a _ (fun _ _=>rfl) (fun q _ r => ?_),by simp[m],fun i hi => ?_⟩,C,D⟩
 ·rw[k]at r
  obtain rfl:=Option.some.inj r
  show kS x y=z.key
  rw[l,e,f]
 obtain⟨R,M,Y,Z,N⟩:=p i hi
 by_cases s:a=i
 ·subst s
  refine⟨{ R with key:=kS x y,val:=v },by rw[Array.getElem?_modify,if_pos rfl,M]; rfl,?_,?_,N⟩
  ·show kS x y=_; rw[e,f]
  show v=_; unfold aQ; rw[if_pos rfl]
 refine⟨R,by rw[Array.getElem?_modify,if_neg s]; exact M,Y,?_,N⟩
 unfold aQ; rw[if_neg (fun h=>s h.symm)]; exact Z
end
section
variable {P:Program} {n0:Nat} {Q:Post} {f:Nat->Value} {w:World} {ops:Array Oper} {rest:List Oper} {o:Oper} {b n:Nat} {k1 k2:Nat->Int} {val:Nat->Value} {T K E:TypeId} {x ix v:Operand} {a r:Int} {u:Value} {j:Nat}
theorem L.acF(B:Region.wanted o (yf ops f)=true)(c:o.dst=none)(s:o.op = .mapUpdate T x ix v)(hx:ev f x = .map (some b))(hi:ev f ix=kS a r)(q:Cc a r)(A:ev f v=u)(h:gN w b n k1 k2 val)(z:P.underlying T=some (.map K E))(l:uP P K)(p:j<n)(d:k1 j=a)(e:k2 j=r)
 (m : ∀ w',gN w' b n k1 k2 (aQ val j u)->Stp b w w'->w'.heap.size=w.heap.size->L P n0 ops Q rest f w'):L P n0 ops Q (o::rest) f w:=by
 obtain⟨w',t,g,i,k⟩:=(wO (v:=u) q h z l).1 j p d e
 have y:(execOp (ev f) o).run P w = .ok .skip w':=by
  unfold execOp
  simp only[s,hx,hi,A,Sem.run_bind,t,Result.andThen_ok,Sem.run_pure]
 refine L.unit B y (by rw[c]; rfl) ?_
 rw[c]; exact m w' g i k
theorem L.PY(z:Region.wanted o (yf ops f)=true)(c:o.dst=none)(p:o.op = .mapUpdate T x ix v)(hx:ev f x = .map (some b))(hi:ev f ix=kS a r)(l:Cc a r)(y:ev f v=u)(h:gN w b n k1 k2 val)(t:P.underlying T=some (.map K E))(j:uP P K)(m : ∀ i,i<n -> ¬ (k1 i=a/\k2 i=r))
 (k : ∀ w',gN w' b (n+1) (aQ k1 n a) (aQ k2 n r) (aQ val n u)->Stp b w w'->w'.heap.size=w.heap.size->L P n0 ops Q rest f w'):L P n0 ops Q (o::rest) f w:=by
 obtain⟨w',q,d,e,g⟩:=(wO (v:=u) l h t j).2 m
 have s:(execOp (ev f) o).run P w = .ok .skip w':=by
  unfold execOp
  simp only[p,hx,hi,y,Sem.run_bind,q,Result.andThen_ok,Sem.run_pure]
 refine L.unit z s (by rw[c]; rfl) ?_
 rw[c]; exact k w' d e g
theorem L.PZ{T:TypeId}(e:Region.wanted o (yf ops f)=true)(b:inn n0 o.dst=true)(c:o.op = .makeMap T none)
 (a : ∀ g w',g=w.heap.size->gN w' g 0 (fun _=>0) (fun _=>0) (fun _ => .pointer none)->Stp w.heap.size w w'->w'.heap.size=w.heap.size+1->L P n0 ops Q rest (put f o.dst (.map (some g))) w'):L P n0 ops Q (o::rest) f w:=by
 have d:(execOp (ev f) o).run P w = .ok (.value (.map (some w.heap.size))) (w.alloc (.map #[] 0)):=by
  unfold execOp
  simp only[c,Option.map_none]
  simp[run_makeMap']
 refine L.val e d b (a _ _ rfl ?_ (Stp.alloc _ _) (by simp))
 exact⟨#[],0,by rw[alloc_at,if_pos rfl],stamped_empty 0,rfl,fun i hi=>absurd hi (Nat.not_lt_zero _)⟩
theorem L.YT(J:Region.wanted o (yf ops f)=true)(A:inn n0 o.dst=true)(D:o.op = .range T x)(hx:ev f x = .map (some b))(h:gN w b n k1 k2 val)(I:P.underlying T=some (.map K E))
 (l : ∀ g w',g=w.heap.size->It w' g b n (fun _=>false)->Stp w.heap.size w w'->w'.heap.size=w.heap.size+1->L P n0 ops Q rest (put f o.dst (.pointer (some ⟨g,0,none⟩))) w'):L P n0 ops Q (o::rest) f w:=by
 have C:=h
 obtain⟨d,c,p,m,u,v⟩:=C
 have G:=run_range_map (P:=P) w T K E b d c I p
 have H:(execOp (ev f) o).run P w = .ok (.value (.pointer (some ⟨w.heap.size,0,none⟩))) (w.alloc (.mapIter (some b) c #[] c)):=by
  unfold execOp
  simp only[D,hx,Sem.run_bind,G,Result.andThen_ok,Sem.run_pure]
 refine L.val J H A (l _ _ rfl ?_ (Stp.alloc _ _) (by simp))
 refine⟨d,c,c,#[],c,?_,by rw[alloc_at,if_pos rfl],m.1,Nat.le_refl _,u,m.1,Nat.le_refl _,fun i j x y hx k e => ?_,fun i hi => ?_⟩
 ·rw[alloc_at,if_neg (Nat.ne_of_lt h.lt)]; exact p
 ·rw[Array.getElem?_eq_some_iff]at hx k
  obtain⟨r,hx⟩:=hx
  obtain⟨s,k⟩:=k
  have F:=List.pairwise_iff_getElem.1 m.2.1
  have t : ∀ a c (q:a<d.size) (l:c<d.size),a<c->d[a].born≠d[c].born:=fun a c q l z=>by
   have:=F a c (by simpa using q) (by simpa using l) z
   simpa only[List.getElem_map,Array.getElem_toList] using this
  rcases Nat.lt_trichotomy i j with h5|h5|h5
  ·exact absurd (by rw[hx,k,e]) (t i j r s h5)
  ·exact h5
  exact absurd (by rw[hx,k,e]) (t j i s r h5)
 obtain⟨e,B,_⟩:=v i hi
 exact⟨e,B,by simp⟩
theorem L.acG{x:Operand}{r:Nat}{S:Nat->Bool}(R:Region.wanted o (yf ops f)=true)(K:inn n0 o.dst=true)(M:o.op = .next x false)(hx:ev f x = .pointer (some ⟨r,0,none⟩))(h:gN w b n k1 k2 val)(hi:It w r b n S)
 (hc0:(∀ i,i<n->S i=true)->L P n0 ops Q rest (put f o.dst (.tuple #[.bool false])) w)
 (hc1 : ∀ i w',i<n->S i=false->It w' r b n (aQ S i true)->zn w' r b i->Stp r w w'->w'.heap.size=w.heap.size->L P n0 ops Q rest (put f o.dst (.tuple #[.bool true,kS (k1 i) (k2 i),val i])) w'):L P n0 ops Q (o::rest) f w:=by
 obtain⟨g,c,d,a,W,l,s,H,Z,h5,h6,I,J,C⟩:=hi
 obtain⟨es',c',G,kst,_,k4⟩:=h
 rw[l]at G
 simp only[Option.some.injEq,Obj.map.injEq]at G
 obtain⟨rfl,rfl⟩:=G
 have hrb:r≠b:=fun e=>by rw[e,l]at s; cases s
 rcases run_next_at (P:=P) w o.type r b d W a g c s l H Z with ⟨z,E⟩|⟨e,he,w1,hw1,E⟩
 ·have t:(execOp (ev f) o).run P w = .ok (.value (.tuple #[.bool false])) w:=by
   unfold execOp
   simp only[M,hx,Sem.run_bind,E,Result.andThen_ok,Sem.run_pure]
  refine L.val R t K<|hc0 fun i hi => ?_
  obtain⟨y,u,F⟩:=C i hi
  rw[<- F]
  cases hq:a.contains y.born with
  | true=>rfl
  | false =>
    have q:y∈leftOf g a:=by
     unfold leftOf
     rw[Array.mem_filter]
     exact⟨Array.mem_of_getElem? u,by rw[hq]; rfl⟩
    have:=Array.size_pos_of_mem q
    omega
 have t:(execOp (ev f) o).run P w = .ok (.value (.tuple #[.bool true,e.key,e.val])) (Go.ChangeMaps.setBlock w1 r (.mapIter (some b) d (a.push e.born) c)):=by
  unfold execOp
  simp only[M,hx,Sem.run_bind,E,Result.andThen_ok,Sem.run_pure]
 have q:e∈leftOf g a:=Array.mem_toList_iff.1 he
 unfold leftOf at q
 rw[Array.mem_filter]at q
 obtain⟨hme,hns⟩:=q
 obtain⟨i,hi,Y⟩:=Array.getElem_of_mem hme
 have m:g[i]? = some e:=by rw[Array.getElem?_eq_getElem hi,Y]
 obtain⟨y,u,ky,vy,_⟩:=k4 i (by omega)
 rw[m]at u
 obtain rfl:=Option.some.inj u
 obtain⟨y2,T,F⟩:=C i (by omega)
 rw[m]at T
 obtain rfl:=Option.some.inj T
 have hsf:S i=false:=by rw[<- F]; simpa using hns
 have p:w1.os=w.os/\w1.tape=w.tape/\w1.output=w.output/\w1.heap=w.heap:=by rcases hw1 with rfl|rfl <;> exact⟨rfl,rfl,rfl,rfl⟩
 have O:(Go.ChangeMaps.setBlock w1 r (.mapIter (some b) d (a.push e.born) c)).heap.size=w.heap.size:=by
  show(w1.heap.setIfInBounds r _).size=_; rw[p.2.2.2]; simp
 have N:Stp r w (Go.ChangeMaps.setBlock w1 r (.mapIter (some b) d (a.push e.born) c)) :=
  ⟨p.1,p.2.1,p.2.2.1,by rw[O]; exact Nat.le_refl _,fun k _ D=>by show(w1.heap.setIfInBounds r _)[k]? = _; rw[p.2.2.2,Array.getElem?_setIfInBounds_ne (Ne.symm D)]⟩
 have YR:r<w1.heap.size:=by
  rcases hw1 with rfl|rfl <;> exact(Array.getElem?_eq_some_iff.1 s).1
 rw[ky,vy]at t
 have U:(Go.ChangeMaps.setBlock w1 r (.mapIter (some b) d (a.push e.born) c)).heap[b]? = some (.map g c):=by rw[N.block b (Array.getElem?_eq_some_iff.1 l).1 (Ne.symm hrb)]; exact l
 have V:(Go.ChangeMaps.setBlock w1 r (.mapIter (some b) d (a.push e.born) c)).heap[r]? = some (.mapIter (some b) d (a.push e.born) c):=by simp[Go.ChangeMaps.setBlock,YR]
 refine L.val R t K (hc1 i _ (by omega) hsf ⟨g,c,d,a.push e.born,c,U,V,H,I,h5,h6,I,J,fun j hj => ?_⟩ ⟨g,c,d,a,e,U,V,m,kst.2.1⟩ N O)
 obtain⟨A,v,hs3⟩:=C j hj
 refine⟨A,v,?_⟩
 unfold aQ
 by_cases B:j=i
 ·subst B
  rw[m]at v
  obtain rfl:=Option.some.inj v
  rw[if_pos rfl]; simp
 rw[if_neg B,<- hs3]
 have D:A.born≠e.born:=fun X=>B (J j i A e v m X)
 cases hq:a.contains A.born with
 | true=>simp at hq ⊢; exact .inl hq
 | false=>simp at hq ⊢; exact⟨hq,D⟩
theorem P5{x:Operand}{r i:Nat}(q:o.op = .entry x)(hx:ev f x = .pointer (some ⟨r,0,none⟩))(h:gN w b n k1 k2 val)(hi:zn w r b i)(p:i<n):Runs P f o w (.tuple #[kS (k1 i) (k2 i),val i]):=by
 obtain⟨k,c,s,z,e,d,l,g,m⟩:=hi
 obtain⟨C,B,a,_,_,u⟩:=h
 rw[d]at a
 simp only[Option.some.injEq,Obj.map.injEq]at a
 obtain⟨rfl,rfl⟩:=a
 obtain⟨y,j,v,A,_⟩:=u i p
 rw[g]at j
 obtain rfl:=Option.some.inj j
 have t:=run_entry_at (P:=P) w r b s z k c e l d (Array.mem_toList_iff.2 (Array.mem_of_getElem? g)) m
 unfold Runs execOp
 simp only[q,hx,Sem.run_bind,t,Result.andThen_ok,Sem.run_pure,v,A]
end
end Go.Proofs.YtahbiajdgealnaaGreatDoor.Fx
namespace Go.Proofs.YtahbiajdgealnaaGreatDoor
open Go.RowKit Go
set_option linter.unusedVariables false
namespace Rgq
def Mq{c:Type}(q:Nat)(J:c->World->Prop):Prop := ∀ s W a b,J s W->W.grownBy a b->(∀ r,b=some r->r=q)->J s a
def acI{d:Type}(F:Fence)(n:Nat)(P:Program)(g:Nat)(lb:Array Value)(j:d->Array Value)(i:World->World->Prop)(S:List d->Prop)(N q:Nat)(h:World->Prop):Prop :=
 ∀(l:Nat) (J:List d->World->Prop) (W:World),h W->Mq q J ->
  (∀ c x b,J c b->c.length<N->YieldAt F (n-1) P l (j x) b fun e a=>e = .returned (.bool true)/\J (c ++ [x]) a/\i b a) ->
  J [] W ->
  CallsIn F n P g (#[.func (.yield l) #[] #[]]++lb) W fun e a=>(∃ v,e = .returned v) /\ ∃ f,S f/\J f a
def NW{c:Type}(q B:Nat)(I:c->World->Prop):Prop :=
 ∀ s W a b,I s W->W.grownBy a b->(∀ r,b=some r->r=q\/(B<=r /\ ∃ o:Obj,W.heap[r]? = some o/\o.isCells=false))->I s a
variable {F:Fence} {n:Nat} {P:Program}
theorem NW.putObj{a:Type}{q B:Nat}{I:a->World->Prop}(h:NW q B I){s:a}{W:World}{l:Nat}{o:Obj}(o':Obj)(f:I s W)(b:B<=l)(c:W.heap[l]? = some o)(d:o.isCells=false):I s (W.putObj l o') :=
 h s W _ (some l) f (grownBy_putObj' W l o') (fun r e=>by cases e; exact .inr ⟨b,o,c,d⟩)
theorem NW.alloc{a:Type}{q B:Nat}{I:a->World->Prop}(h:NW q B I){s:a}{W:World}(o:Obj)(b:I s W):I s (W.alloc o) :=
 h s W _ none b (World.grownBy_alloc W o none) (fun r e=>by cases e)
def acJ{a:Type}(b:World->World->Prop)(I:List a->World->Prop)(c:List a)(W:World):Exit->Act->World->Prop
 | .normal,_,W'=>KeepsOthers W W'/\b W W'/\I c W'
 | _,_,_=>False
theorem Fe{W a:World}{q:Nat}{row:Option Nat}(b:W.grownBy a row)(f : ∀ r,row=some r->r=q){k:Nat}{o:Obj}(c:W.heap[k]? = some o)(d:k≠q):a.heap[k]? = W.heap[k]? :=
 b.block k (Array.getElem?_eq_some_iff.1 c).1 fun e=>d (f k e.symm)
theorem Ce{α:Type}{g:Operand}{ps:Array Tmp}{assign body:Code}{Q:Exit->Act->World->Prop}{a:Act}{w:World}
 (hro:F.round=none) (h1:1<=n) {gf:Nat} {lb:Array Value} (hg:a.eval g = .func (.func gf) #[] lb) (hFg:F.fn gf) (eg : ∀ args w,(callFunc gf args).run P w = .ok (.enter gf args) w)
 {encs:α->Array Value} {Kp:World->World->Prop} {S:List α->Prop} {N q:Nat} {Ip:World->Prop} (hseq:acI F (n-1) P gf lb encs Kp S N q Ip) (hq:q<w.heap.size)
 (hIp:Ip w) (KH : ∀ W o,w.heap.size<=W.heap.size->Ip W->Ip (W.alloc o))
 (hKt : ∀ {A B C:World},Kp A B->Kp B C->Kp A C) (hKb : ∀(W:World) (l:Nat) (o o':Obj),w.heap.size<=l->W.heap[l]? = some o->o.isCells=false->o.isWalk=false->Kp W (W.putObj l o')) (hps : ∀ x,(encs x).size=ps.size)
 (I:List α->World->Prop) (hI:NW q w.heap.size I) (h0:I [] w) (A₁:α->Act->Prop)
 (hassign : ∀(l:Nat) (x:α) (W:World),assign.wpIn (F.inRound l) (n-1-1) P (Exit.then (fun a' W'=>A₁ x a'/\W'=W) (fun _ _ _=>False)) { tmps:=(ps.zip (encs x)).foldl (fun t (p,v)=>t.setIfInBounds p v) a.tmps,defers := [] } W)
 (hbody : ∀(l:Nat) (pre:List α) (x:α) (W:World) (a':Act),A₁ x a'->I pre W->pre.length<N->body.wpIn (F.inRound l) (n-1-1) P (acJ Kp I (pre ++ [x]) W) a' W)
 (hdone : ∀(D:Nat) (xs:List α) (W:World),w.heap.size<=D->S xs->I xs W->W.heap[D]? = some (.deferred (some []))->Q .normal { a with defers := { target := .collected D,args := #[] }::a.defers } W) :
 (Code.rangeFunc g ps assign body).wpIn F n P Q a w:=by
 refine wpIn_rangeFunc ?_
 intro fn hfn
 rw[hro]
 obtain⟨rec,hrec⟩ : ∃ rec:LoopState->Option Code->Loop,rec=fun st pe => { state:=st,pending:=pe,fn,tmps:=a.tmps,params:=ps,assign,body,defers:=w.heap.size }:=⟨_,rfl⟩
 obtain⟨W1,hW1⟩ : ∃ W1,(w.alloc (.deferred (some []))).alloc (.loop (rec .ready none))=W1:=⟨_,rfl⟩
 have hL1:W1.heap[w.heap.size+1]? = some (.loop (rec .ready none)):=by
  rw[<- hW1]; have:=World.alloc_heap_new (w.alloc (.deferred (some []))) (.loop (rec .ready none)); rwa [World.size_alloc]at this
 have hK1:W1.heap[w.heap.size]? = some (.deferred (some [])):=by
  rw[<- hW1]; exact(Below.heap_alloc _ _ _ (by simp)).trans (World.alloc_heap_new w _)
 have hI1:I [] W1:=by rw[<- hW1]; exact hI.alloc _ (hI.alloc _ h0)
 have hp1:Ip W1:=by rw[<- hW1]; exact KH _ _ (by simp) (KH _ _ (Nat.le_refl _) hIp)
 refine⟨w.heap.size+1,[{ target := .collected w.heap.size,args := #[] }],W1,{ target := .fn (.func gf) lb,args := #[.func (.yield (w.heap.size+1)) #[] #[]] },W1,gf,
  #[.func (.yield (w.heap.size+1)) #[] #[]]++lb,W1,?_,?_,?_,?_,fun _=>h1,?_⟩
 ·rw[<- hW1,hrec]; exact run_enterLoop_outer _ _ _ _ _
 ·simp only[resolve,hg]
  simp[go_sem]
 ·intro f' hf'; simp[Target.leads]at hf'; subst hf'; exact hFg
 ·simp[invoke,go_sem,eg]
 refine(hseq (w.heap.size+1)
  (fun pre W=>I pre W/\W.heap[w.heap.size+1]? = some (.loop (rec .ready none))/\W.heap[w.heap.size]? = some (.deferred (some [])))
  W1 hp1
  (fun s A B row hs hg' hr=>⟨hI s A B row hs.1 hg' (fun r e => .inl (hr r e)),(Fe hg' hr hs.2.1 (by omega)).trans hs.2.1,(Fe hg' hr hs.2.2 (by omega)).trans hs.2.2⟩)
  ?_ ⟨hI1,hL1,hK1⟩).mono ?_
 ·-- one round
  rintro pre x W ⟨hi,hl,hk⟩ hlen
  have hlt:w.heap.size+1<W.heap.size:=(Array.getElem?_eq_some_iff.1 hl).1
  have hy:=run_yield (P:=P) (args:=encs x) hl (by rw[hrec]; exact hps x)
  rw[hrec]at hy
  refine⟨fn,_,assign,body,hy,roundIn_of_wpIn hfn (wpIn_mono (hassign _ x W) ?_)⟩
  rintro e1 a1 w1 hq1
  cases e1 with
  | exit id=>exact hq1.elim
  | goto t=>exact hq1.elim
  | ret=>exact hq1.elim
  | panic ch=>exact hq1.elim
  | outgrown=>exact hq1.elim
  | normal =>
  obtain⟨hA1,ew⟩:=hq1
  rw[ew]
  refine⟨_,run_beginRound hl (by rw[hrec]),?_⟩
  have hl2:(W.putObj (w.heap.size+1) (.loop { rec .ready none with state := .busy })).heap[w.heap.size+1]? = some (.loop { rec .ready none with state := .busy }):=World.putObj_heap_same hlt
  have hk2:(W.putObj (w.heap.size+1) (.loop { rec .ready none with state := .busy })).heap[w.heap.size]? = some (.deferred (some [])):=(World.putObj_heap_other (by omega)).trans hk
  have hw2:Kp W (W.putObj (w.heap.size+1) (.loop { rec .ready none with state := .busy })):=hKb _ _ _ _ (by omega) hl rfl rfl
  refine wpIn_mono (hbody _ pre x _ a1 hA1 (hI.putObj _ hi (by omega) hl rfl) hlen) ?_
  rintro e a3 W3 hp
  cases e with
  | normal =>
    obtain⟨hk3,hkp3,hi3⟩:=hp
    have hl3:=hk3.same _ _ hl2 rfl
    have hr:=run_endRound (P:=P) none hl3
    rw[hrec]at hr hl3
    refine⟨_,_,hr,rfl,⟨hI.putObj _ hi3 (by omega) hl3 rfl,?_,(World.putObj_heap_other (by omega)).trans (hk3.same _ _ hk2 rfl)⟩,hKt (hKt hw2 hkp3) (hKb _ _ _ _ (by omega) hl3 rfl rfl)⟩
    rw[hrec]; exact World.putObj_heap_same (Array.getElem?_eq_some_iff.1 hl3).1
  | ret=>exact hp.elim
  | exit id=>exact hp.elim
  | goto t=>exact hp.elim
  | panic ch=>exact hp.elim
  | outgrown=>exact hp.elim
 rintro e W2 ⟨⟨v,rfl⟩,xs,hS,hi,hl,hk⟩
 exact⟨none,_,by have:=run_endLoop (P:=P) hl (by rw[hrec]; simp); rw[hrec]at this; exact this,hdone _ xs _ (Nat.le_refl _) hS (hI.putObj _ hi (by omega) hl rfl) ((World.putObj_heap_other (by omega)).trans hk)⟩
end Rgq
end Go.Proofs.YtahbiajdgealnaaGreatDoor
namespace Go.Proofs.YtahbiajdgealnaaGreatDoor
open Go.RowKit Go
set_option linter.unusedVariables false
namespace Fx
structure zo(a:Act)(n:Nat)(f:Nat->Value):Prop where
 size:a.tmps.size=n
 get : ∀ i,a.tmps.getD i undef=f i
theorem Fr.to0{a:Act}{n:Nat}{f:Nat->Value}(h:Fr a n f):zo a n f:=⟨h.size,h.get⟩
theorem zo.to{a:Act}{n:Nat}{f:Nat->Value}(h:zo a n f)(b:a.defers = []):Fr a n f:=⟨h.size,b,h.get⟩
theorem zo.ev{a:Act}{n:Nat}{f:Nat->Value}(h:zo a n f):a.eval=Fx.ev f:=by
 funext x
 cases x <;> simp only[Act.eval,Fx.ev]
 exact h.get _
theorem zo.put{a:Act}{n:Nat}{f:Nat->Value}(h:zo a n f){d:Option Nat}(e:inn n d=true)(v:Value):zo (a.put d v) n (Fx.put f d v):=by
 have c:Fr { a with defers := [] } n f:=⟨h.size,rfl,h.get⟩
 have b:=c.put e v
 cases d with
 | none=>exact⟨b.size,b.get⟩
 | some d=>exact⟨b.size,b.get⟩
theorem zo.yf{a:Act}{n:Nat}{f:Nat->Value}(h:zo a n f)(ops:Array Oper):yielded ops a.tmps=Fx.yf ops f:=by
 have b:Fr { a with defers := [] } n f:=⟨h.size,rfl,h.get⟩
 exact b.yf ops
theorem IB{a:Act}{n p:Nat}{v:Value}{f:Nat->Value}(h:zo (a.put (some p) v) n f):zo { tmps:=(#[p].zip #[v]).foldl (fun t (p,v)=>t.setIfInBounds p v) a.tmps,defers := [] } n f:=by
 have e:(#[p].zip #[v]).foldl (fun t (p,v)=>t.setIfInBounds p v) a.tmps=(a.put (some p) v).tmps:=by simp[Array.zip,Act.put]
 rw[e]; exact⟨h.size,h.get⟩
theorem put_defers(a:Act)(d:Option Nat)(v:Value):(a.put d v).defers=a.defers:=by cases d <;> rfl
def FR(ro:Option Nat):Fence := { Fence.wide with round:=ro }
def jw(o:Oper):Bool:=match o.op with | .defer _=>false|_=>true
def P6(n:Nat)(ds:List Deferred)(Q:Post):Exit->Act->World->Prop:=fun e a w => ∃ f,zo a n f/\a.defers=ds/\Q e f w
section
variable {P:Program} {n m:Nat} {ro:Option Nat} {Q:Post} {f:Nat->Value} {w:World} {o:Oper} {ops:Array Oper} {rest:List Oper}
theorem IC(ro:Option Nat)(ρ:Operand->Value)(h:jw o=true):o.semAt ro ρ=execOp ρ o :=
 Oper.semAt_eq ro ρ o fun c e=>by unfold jw at h; rw[e]at h; cases h
theorem Out.wpIn{a:Act}{K:Value->World->Prop}{d:Act->World->Prop}{j:Exit->Act->World->Prop}(ha:zo a n f)(k:jw o=true)(h:Out P f o w K)(c : ∀ v w',K v w'->d (a.put o.dst v) w'):o.wpIn (FR ro) m P a w d j:=by
 unfold Oper.wpIn
 refine⟨fun _ _=>trivial,?_⟩
 rw[IC _ _ k,ha.ev]
 rcases h with ⟨v,w',b,h⟩|⟨w',b,h⟩|⟨g,args,b,h⟩
 ·rw[b]; exact c v w' h
 ·rw[b]; exact c undef w' h
 rw[b,Oper.uponIn_enter]
 refine⟨fun h=>(by cases h),?_⟩
 have key : ∀ R,Calls P g args w R->CallsIn (FR ro) (m-1) P g args w R:=fun R i=>by
  cases ro with
  | none=>exact callsIn_wide.2 i
  | some l=>exact CallsIn.inRound l (callsIn_wide.2 i)
 refine key _<|h.mono fun e w' ⟨v,p,q⟩ => ?_
 subst p; exact c v w' q
theorem L.toIn : ∀ {l:List Oper} {f:Nat->Value} {w:World},L P n ops Q l f w->l.all jw=true -> ∀ a,zo a n f->wpListIn (FR ro) m P ops (P6 n a.defers Q) l a w
 | [],f,w,h,_,a,ha=>⟨f,ha,rfl,h⟩
 | o::rest,f,w,⟨hd,h⟩,hn,a,ha=>by
   rw[List.all_cons,Bool.and_eq_true]at hn
   unfold wpListIn
   rw[ha.yf]
   rcases h with ⟨b,h⟩|⟨b,h⟩
   ·rw[if_pos b]
    exact h.wpIn ha hn.1 fun v w' c=>by have:=L.toIn c hn.2 _ (ha.put hd v); rwa [put_defers]at this
   ·rw[if_neg (by rw[b]; decide)]
    exact⟨fun _ _=>trivial,by have:=L.toIn h hn.2 _ (ha.put hd undef); rwa [put_defers]at this⟩
theorem Fg{id:Nat}{ops:List Oper}{a:Act}{b:Exit->Act->World->Prop}(ha:zo a n f)(h:L P n ops.toArray Q ops f w)(d:ops.all jw=true:=by rfl)(g : ∀ e c w',P6 n a.defers Q e c w'->b e c w'):(Code.region id ops.toArray false).wpIn (FR ro) m P b a w :=
 wpIn_mono (wpIn_region_lit (L.toIn h d a ha)) g
def YU(m:Nat)(P:Program)(f:Nat->Value)(o:Oper)(w:World)(K:Value->World->Prop):Prop :=
 Out P f o w K \/ ∃ l c d a b,(execOp (ev f) o).run P w = .ok (.round l c d a b) w/\RoundIn (FR none) (m-1) P l c d a b w fun e w' => ∃ v,e = .returned v/\K v w'
def Ly(m:Nat)(P:Program)(n:Nat)(ops:Array Oper)(Q:Post):List Oper->(Nat->Value)->World->Prop
 | [],f,w=>Q .normal f w
 | o::rest,f,w=>inn n o.dst=true/\((Region.wanted o (yf ops f)=true/\YU m P f o w fun v w'=>Ly m P n ops Q rest (put f o.dst v) w')\/(Region.wanted o (yf ops f)=false/\Ly m P n ops Q rest (put f o.dst undef) w))
theorem YU.wpIn{a:Act}{K:Value->World->Prop}{b:Act->World->Prop}{g:Exit->Act->World->Prop}(ha:zo a n f)(c:jw o=true)(h:YU m P f o w K)(d : ∀ v w',K v w'->b (a.put o.dst v) w'):o.wpIn (FR none) m P a w b g:=by
 rcases h with h|⟨l,fn,tmps,assign,body,hr,h⟩
 ·exact h.wpIn ha c d
 unfold Oper.wpIn
 refine⟨fun _ _=>trivial,?_⟩
 rw[IC _ _ c,ha.ev,hr,Oper.uponIn_round]
 exact⟨fun h=>(by cases h),h.mono fun e w' ⟨v,i,j⟩=>by subst i; exact d v w' j⟩
theorem Ly.to : ∀ {l:List Oper} {f:Nat->Value} {w:World},Ly m P n ops Q l f w->l.all jw=true -> ∀ a,zo a n f->wpListIn (FR none) m P ops (P6 n a.defers Q) l a w
 | [],f,w,h,_,a,ha=>⟨f,ha,rfl,h⟩
 | o::rest,f,w,⟨hd,h⟩,hn,a,ha=>by
   rw[List.all_cons,Bool.and_eq_true]at hn
   unfold wpListIn
   rw[ha.yf]
   rcases h with ⟨b,h⟩|⟨b,h⟩
   ·rw[if_pos b]
    exact h.wpIn ha hn.1 fun v w' c=>by have:=Ly.to c hn.2 _ (ha.put hd v); rwa [put_defers]at this
   ·rw[if_neg (by rw[b]; decide)]
    exact⟨fun _ _=>trivial,by have:=Ly.to h hn.2 _ (ha.put hd undef); rwa [put_defers]at this⟩
theorem W.XE(m:Nat){id:Nat}{ops:List Oper}(h:Ly m P n ops.toArray Q ops f w)(j:ops.all jw=true:=by rfl):W P n (.region id ops.toArray false) Q f w:=fun a b =>
 (wpIn_wide (n:=m)).1 (wpIn_mono (wpIn_region_lit (Ly.to h j a b.to0)) fun e k w' ⟨c,d,g,i⟩=>⟨c,d.to (g.trans b.defers),i⟩)
theorem Ly.nil(h:Q .normal f w):Ly m P n ops Q [] f w:=h
theorem Ly.v(v:Value)(hr:Runs P f o w v)(h:Ly m P n ops Q rest (put f o.dst v) w)(b:Region.wanted o (yf ops f)=true:=by rfl)(a:inn n o.dst=true:=by rfl):Ly m P n ops Q (o::rest) f w:=⟨a,.inl ⟨b,.inl (.inl ⟨v,w,hr,h⟩)⟩⟩
theorem Ly.skip(b:Region.wanted o (yf ops f)=false)(a:inn n o.dst=true)(h:Ly m P n ops Q rest (put f o.dst undef) w):Ly m P n ops Q (o::rest) f w:=⟨a,.inr ⟨b,h⟩⟩
theorem Ly.call{g:FuncId}{args:Array Value}(b:Region.wanted o (yf ops f)=true)(hr:(execOp (ev f) o).run P w = .ok (.enter g args) w)(a:inn n o.dst=true)
 (h:Calls P g args w fun e w' => ∃ v,e = .returned v/\Ly m P n ops Q rest (put f o.dst v) w'):Ly m P n ops Q (o::rest) f w:=⟨a,.inl ⟨b,.inl (.inr (.inr ⟨g,args,hr,h⟩))⟩⟩
theorem Ly.yield{l:Nat}{x:Operand}{a:List Operand}{args:List Value}{Ts:Array TypeId}{R:Ending->World->Prop}(p:Region.wanted o (yf ops f)=true)(j:o.op = .call { callee := .value x,args:=a.toArray,argTypes:=Ts })(hx:ev f x = .func (.yield l) #[] #[])(q:a.map (ev f)=args)(i:inn n o.dst=true)
 (hy:YieldAt (FR none) (m-1) P l args.toArray w R) (h : ∀ e w',R e w' -> ∃ v,e = .returned v/\Ly m P n ops Q rest (put f o.dst v) w'):Ly m P n ops Q (o::rest) f w:=by
 obtain⟨d,r,b,c,k,g⟩:=hy
 refine⟨i,.inl ⟨p,.inr ⟨l,d,r,b,c,?_,g.mono h⟩⟩⟩
 unfold execOp
 simp only[j]
 unfold resolve
 simp only[Sem.run_bind,List.map_toArray,q,hx,Deferred.ofValue,Sem.run_pure,Result.andThen_ok]
 unfold invoke
 have e:(#[]++args.toArray:Array Value)=args.toArray:=by simp
 show(Instr.yield l (#[]++args.toArray)).run P w=_
 rw[e]
 exact k
theorem P7{a:Act}(h:zo a n f)(b:Func):results b a.tmps=zw b f:=by
 have c:Fr { a with defers := [] } n f:=⟨h.size,rfl,h.get⟩
 exact L8 c b
theorem leave1{a:Act}{b:Func}{R:Ending->World->Prop}{D:Nat}{v:Value}(h:zo a n f)(e:a.defers = [{ target := .collected D,args := #[] }])(c:w.heap[D]? = some (.deferred (some [])))
 (g:(zw b f).run P (w.putObj D (.deferred none)) = .ok v (w.putObj D (.deferred none))) (d:R (.returned v) (w.putObj D (.deferred none))):bodyPostM (FR none) m P b R .ret a w:=by
 show LeavesInM (FR none) m P b a.tmps R a.defers .returning w
 rw[e]
 exact⟨by simp,.inl ⟨D,_,rfl,run_takeDeferred c,v,by rw[P7 h]; exact g,d⟩⟩
end
end Fx
end Go.Proofs.YtahbiajdgealnaaGreatDoor
namespace Go.Proofs.YtahbiajdgealnaaGreatDoor
open Go.RowKit Rt
open Fx (fD eT fI bC gL gK dw dR fZ iL dZ jg fP jh iV Lv sN Ln Ws Qv Wl Rp Wc Qs Wr Sb Lk Wk rC rV sR Rs Rn Rd Rk Wb Wx Wo Dw Wt qQ Qn EI Ao yj yI Ca Dl pG gY yL lZ sO uq vP wB xR Ak rv aA aP bG aQ ev bX Stp aU flat dz Mp aT gN iF bD down iH jB iA ku bH bJ cells_one iG bT unseen jr gM bU dH bK bP bV bW fU gJ oQ gG)
abbrev bI(g n c:Nat):Value := .slice (some ⟨g,0,none⟩) n c
theorem nD{k:IntKind}{a b:Int}(h:a=b):Ending.returned (.int k a) = .returned (.int k b):=by rw[h]
theorem gP{a b:Bool}(h:a=b):Ending.returned (.bool a) = .returned (.bool b):=by rw[h]
abbrev pt(g:Nat):Value := .pointer (some ⟨g,0,none⟩)
abbrev pf(g o:Nat):Value := .pointer (some ⟨g,o,none⟩)
theorem Fx.ic{k:IntKind}{a b:Int}(h:a=b:=by first|rfl|omega):Value.int k a = .int k b:=congrArg _ h
theorem Fx.io{a c:Int}(h : -9223372036854775808<=c/\c<=9223372036854775807:=by omega)(e:a=c:=by omega):IntKind.i64.wrap a=c:=Fx.iA h e
theorem Fx.aP.ne{w:World}{g n:Nat}{x:Nat->Value}{T:TypeId}(h:Fx.aP w g n x T):g≠w.heap.size:=Nat.ne_of_lt h.lt
namespace Rt
def mx:Int:=1125899906842624
def yO(n:Int):Bool:=decide (0<=n)&&decide (n<=1125899906842624)
def kU(l:List Int):Bool:=l.all yO
def lD(l:List Int):Int × Bool:=if kU l then(l.sum,true)else(0,false)
theorem Cg(l:List Int)(k:Nat)(h:k<l.length):kU (l.take (k+1))=(kU (l.take k)&&yO l[k]):=by
 unfold kU; rw[List.take_succ_eq_append_getElem h,List.all_append]; simp
theorem EL(l:List Int)(k:Nat)(h:k<l.length):(l.take (k+1)).sum=(l.take k).sum+l[k]:=by
 rw[List.take_succ_eq_append_getElem h,List.sum_append]; simp
theorem AJ : ∀(l:List Int),kU l=true->0<=l.sum/\l.sum<=1125899906842624*(l.length:Int)
 | [],_=>by simp
 | x::l,h=>by
   unfold kU at h
   rw[List.all_cons,Bool.and_eq_true]at h
   have:=AJ l h.2
   have a:=h.1
   unfold yO at a
   simp at a
   rw[List.sum_cons,List.length_cons]
   omega
theorem uQ(l:List Int):0<=(lD l).1/\(lD l).1<=1125899906842624*(l.length:Int):=by
 unfold lD
 by_cases h:kU l=true
 ·rw[if_pos h]; exact AJ l h
 rw[if_neg h]; simp; omega
theorem EM{l:List Int}{k:Nat}(a:k<l.length)(h:yO l[k]=false):kU l=false:=by
 unfold kU
 rw[List.all_eq_false]
 exact⟨l[k],List.getElem_mem a,by simpa using h⟩
def G(x:Nat->Int)(i:Nat):Int:=x i
def C(x:Nat->Int)(i:Nat):Int:=x (6+i)
def F(x:Nat->Int)(i:Nat):Int:=x (12+i)
def R(x:Nat->Int)(i j:Nat):Int:=x (18+i*6+j)
def outs(x:Nat->Int)(k:Nat):Nat->List Int
 | 0 => [C x k]
 | j+1=>outs x k j ++ [R x k j]
def ins(x:Nat->Int)(k:Nat):Nat->List Int
 | 0 => [G x k,F x k]
 | j+1=>ins x k j ++ [R x j k]
def localM(x:Nat->Int)(k:Nat):Int × Bool:=((lD (ins x k 6)).1-(lD (outs x k 6)).1,(lD (outs x k 6)).2&&(lD (ins x k 6)).2)
theorem NY(x:Nat->Int)(k:Nat):(outs x k 6).length=7:=rfl
theorem P8(x:Nat->Int)(k:Nat):(ins x k 6).length=8:=rfl
end Rt
def RdI(k:IntKind)(w:World)(a:Option Addr)(l:List Int):Prop :=
 ∀ i (h:i<l.length),∃ b c,a=some ⟨b,c,none⟩/\w.cell? ⟨b,c+i,none⟩=some (.int k l[i])
end Go.Proofs.YtahbiajdgealnaaGreatDoor
namespace Go.Proofs.YtahbiajdgealnaaGreatDoor.Fx
open Go.RowKit
def P9(I:(Nat->Value)->World->Prop)(Q:Post):Post:=fun e f w=>match e with | .normal=>I f w|e=>Q e f w
section
variable {P:Program} {n:Nat} {Q:Post} {f:Nat->Value} {w:World} {I:(Nat->Value)->World->Prop}
theorem Cy{x y:Code}(I:(Nat->Value)->World->Prop)(h1:W P n x (P9 I Q) f w)(b : ∀ f w,I f w->W P n y Q f w):W P n (.seq x y) Q f w :=
 Ws (W.mono h1 fun e f w a=>by
  cases e <;> first|exact b f w a|exact a)
theorem wD(h:I f w):P9 I Q .normal f w:=h
theorem jnR(h:Q .ret f w):P9 I Q .ret f w:=h
end
end Go.Proofs.YtahbiajdgealnaaGreatDoor.Fx
namespace Go.Proofs.YtahbiajdgealnaaGreatDoor
open Go.RowKit Rt
open Fx (fD eT fI bC gL gK dw dR fZ iL dZ jg fP jh iV Lv sN Ln Ws Qv Wl Rp Wc Qs Wr Sb Lk Wk rC rV sR Rs Rn Rd Rk Wb Wx Wo Dw Wt qQ Qn EI Ao yj yI Ca Dl pG gY yL lZ sO uq vP wB xR Cy Ak rv aA aP bG aQ ev bX Stp aU flat dz Mp aT gN iF bD down iH jB iA ku bH bJ cells_one iG bT wD unseen jr gM bU dH bK bP bV bW fU gJ oQ gG)
section
set_option maxRecDepth 20000
namespace Rt
def dP(x:Nat->Int):Nat->Int->Bool
 | 0,_=>false
 | n+1,k=>dP x n k || decide (x n=k)
def gZ(x p:Nat->Int):Nat->Int->Int
 | 0,_=>0
 | n+1,k=>if x n=k then p n else gZ x p n k
section
variable {x p:Nat->Int} {n j:Nat} {k:Int}
theorem iW : ∀ {n:Nat},j<n->x j=k->dP x n k=true
 | n+1,h,e=>by
   unfold dP
   by_cases c:j=n
   ·subst c; rw[decide_eq_true e,Bool.or_true]
   ·rw[iW (show j<n by omega) e,Bool.true_or]
theorem xC : ∀ {n:Nat},(∀ i,i<n->x i≠k)->dP x n k=false
 | 0,_=>rfl
 | n+1,h=>by unfold dP; rw[xC fun i hi=>h i (by omega),decide_eq_false (h n (by omega))]; rfl
theorem fT : ∀ {n:Nat},dP x n k=true -> ∃ j,j<n/\x j=k
 | n+1,h=>by
   unfold dP at h
   rw[Bool.or_eq_true]at h
   rcases h with h|h
   ·obtain⟨j,a,e⟩:=fT h; exact⟨j,by omega,e⟩
   ·exact⟨n,by omega,of_decide_eq_true h⟩
theorem zD(hi : ∀ a b,a<n->b<n->x a=x b->a=b)(h:j<n)(e:x j=k):gZ x p n k=p j:=by
 induction n with
 | zero=>omega
 | succ n ih =>
   unfold gZ
   by_cases c:j=n
   ·subst c; rw[if_pos e]
   ·rw[if_neg fun d=>c (hi j n (by omega) (by omega) (e.trans d.symm))]
    exact ih (fun a b f g=>hi a b (by omega) (by omega)) (by omega)
def iX(x p:Nat->Int)(n:Nat):Nat->Int->List Int
 | 0,_ => []
 | d+1,k=>if dP x n k=true then k::iX x p n d (gZ x p n k)else []
def iO(x p:Nat->Int)(n:Nat):Nat->Int->Prop
 | 0,k=>dP x n k=false
 | d+1,k=>dP x n k=true->iO x p n d (gZ x p n k)
theorem kH{d:Nat}(h:dP x n k=false):iX x p n d k = []:=by cases d with
 | zero=>rfl
 | succ d=>unfold iX; rw[if_neg (by rw[h]; decide)]
theorem Fh{d:Nat}(h:iO x p n d k)(a:dP x n k=true) : ∃ e,d=e+1/\iO x p n e (gZ x p n k)/\iX x p n d k=k::iX x p n e (gZ x p n k):=by
 cases d with
 | zero=>have h:dP x n k=false:=h; rw[a]at h; cases h
 | succ d=>exact⟨d,rfl,h a,by show(if _ then _ else _)=_; rw[if_pos a]⟩
end
structure JF(q:Nat)(J:List Int->World->Prop)(pre:List Int)(w:World):Prop where
 ab:Rgq.Mq q J
 j:J pre w
theorem JF.bZ{q:Nat}{J:List Int->World->Prop}{b:List Int}{w w':World}(h:JF q J b w)(a:Stp q w w'):JF q J b w' :=
 ⟨h.ab,h.ab _ w w' (some q) h.j ⟨a.os,a.tape,a.output,a.size,fun k c d=>a.block k c (fun e=>d (by rw[e]))⟩ (fun r e=>(Option.some.inj e).symm)⟩
theorem JF.up{q:Nat}{J:List Int->World->Prop}{b:List Int}{w w':World}(h:JF q J b w)(a:Below w.heap.size w w'):JF q J b w' :=
 ⟨h.ab,h.ab _ w w' none h.j ⟨a.os,a.tape,a.output,a.size,fun k c _=>a.block k c⟩ (fun r e=>by cases e)⟩
instance {q:Nat} {J:List Int->World->Prop} {a:List Int} {w w':World}:Rt.Tr w w' (JF q J a w) (JF q J a w'):=⟨fun b h=>h.up b⟩
structure Qa(tp mb bt q:Nat)(w w':World):Prop where
 size:w.heap.size<=w'.heap.size
 t:w'.heap[tp]? = w.heap[tp]?
 m:w'.heap[mb]? = w.heap[mb]?
 b:w'.heap[bt]? = w.heap[bt]?
 q:w'.heap[q]? = w.heap[q]?
end Rt
theorem Dx(x p:Nat->Int)(n a c:Nat)(k:Int)(w:World)(g:aP w a 1 (fun _ => .map (some c)) 135)(f:Mp w c n x (fun j=>aD (p j))) :
 Calls Tryz.prog 106 #[(pt a),aD k] w fun e w'=>e = .returned (.bool (dP x n k))/\w'=w:=by
 have i:=g.lt
 refine Kent Tryz.func106 19 ?_
 refine ay<|av aF<|aC<|Ws<|ay<|av ((pt a))<|Lv aF (Fx.nQ rfl rfl rfl (by kernel_rfl))<|aC<|aK<|Wk<|sN<|ay<|av ((pt a))<|av ((pt a))<|av ((pt a))<|Lv (.map (some c)) (aL g.aH 0)<|av (aD k) ?_
 rcases Fx.qx x n k with ⟨b,h,d⟩|iP
 ·refine Lv (.tuple #[aD (p b),.bool true]) (Fx.Dv rfl rfl rfl f Tryz.underlying100 Tryz.underlying28 (by rfl) h d rfl)<|av (.tuple #[aD (p b),.bool true])<|av (aD (p b))<|av aG<|av (aD (p b))<|av aG<|aC<|ay<|av aG<|av aG<|aC<|Wr<|aI aG ?_
  exact⟨gP (Eq.symm (iW h d)),rfl⟩
 refine Lv (.tuple #[aD 0,.bool false]) (Fx.Du rfl rfl rfl f Tryz.underlying100 Tryz.underlying28 (by rfl) iP)<|av (.tuple #[aD 0,.bool false])<|av (aD 0)<|av aF<|av (aD 0)<|av aF<|aC<|ay<|av aF<|av aF<|aC<|Wr<|aI aF ?_
 exact⟨gP (Eq.symm (xC iP)),rfl⟩
theorem ahv(f:Nat)(k:Int)(w:World) :
 Calls Tryz.prog 74 #[(pt f),aD k] w fun e w' => ∃ c q,e = .returned (.func (.func 105) #[] #[(pt c),(pt q)])/\w.heap.size<=c/\w.heap.size<=q/\aP w' c 1 (fun _=>(pt f)) 98/\aP w' q 1 (fun _=>aD k) 28/\Below w.heap.size w w':=by
 refine Kent Tryz.func74 6 ?_
 refine ay<|yM ((pt f)) fun a v l d p x => ?_
 have g:=aY p.old (Below.refl w.heap.size w)
 have m:=gH l
 have t:=d.lt
 refine yM (aD k) fun b w2 h i r y => ?_
 have⟨o,j⟩:=eG r.old d g
 have n:=jc h g.size
 have s:=bY h d.lt
 have u:=i.lt
 refine av (.nilFunc)<|aC<|ay<|Lv (.func (.func 105) #[] #[(pt a),(pt b)]) (Fx.mh (us := []) (vs := [(pt a),(pt b)]) rfl rfl rfl)<|av (.func (.func 105) #[] #[(pt a),(pt b)])<|aC<|Wr<|aI (.func (.func 105) #[] #[(pt a),(pt b)]) ?_
 exact⟨a,b,rfl,m,n,o,i,j⟩
theorem acK(J:List Int->World->Prop)(l g o r q n u:Nat)(x p:Nat->Int)(k:Int)(w:World)(hT:aP w g 1 (fun _ => .map (some o)) 135)(hM:Mp w o n x (fun j=>aD (p j)))(hB:aP w r 1 (fun _=>(pt g)) 98)(Q:aP w q 1 (fun _=>aD k) 28)(hinj : ∀ a b,a<n->b<n->x a=x b->a=b)(YV:iO x p n u k)(hJ:JF q J [] w)(hd:r≠q/\g≠q)
 (hY : ∀ h v D,J h D->h.length<(iX x p n u k).length->Go.YieldAt (Fx.FR none) 1 Tryz.prog l #[aD v] D fun e N=>e = .returned (.bool true)/\J (h ++ [v]) N/\Qa g o r q D N) :
  Calls Tryz.prog 105 #[.func (.yield l) #[] #[],(pt r),(pt q)] w fun e w'=>(∃ v,e = .returned v) /\ ∃ xs,xs=iX x p n u k/\J xs w':=by
 obtain⟨hd1,hd2⟩:=hd
 have lq:=Q.lt
 refine Kent Tryz.func105 18 ?_
 refine Wb<|Dw (fun d f B => ∃ h:List Int,∃ c:Int,iO x p n d c/\h++iX x p n d c=iX x p n u k/\f 0 = .func (.yield l) #[] #[]/\f 1=(pt r)/\f 2=(pt q)/\aP B g 1 (fun _ => .map (some o)) 135/\Mp B o n x (fun j=>aD (p j))/\aP B r 1 (fun _=>(pt g)) 98/\aP B q 1 (fun _=>aD c) 28/\JF q J h B) (u) ⟨[],k,YV,(List.nil_append _),(by rfl),(by rfl),(by rfl),hT,hM,hB,Q,hJ⟩ ?_
 rintro d f1 w1 ⟨h,c,hst,A,P,E,y,G,I,X,K,L⟩
 refine Ws<|Ws<|Fx.W.XE 2<|Fx.Ly.v ((pt g)) (bC (x:=fun _=>(pt g)) rfl E (by kernel_rfl) X.aH (i:=0) (by omega) (by omega) rfl) ?_
 refine Fx.Ly.v (aD c) (bC (x:=fun _=>aD c) rfl y (by kernel_rfl) K.aH (i:=0) (by omega) (by omega) rfl) ?_
 by_cases s:(dP x n c)=true
 ·refine Fx.Ly.call (by rfl) (rC (args := [(pt g),aD c]) rfl rfl Tryz.func106 rfl rfl) rfl<|(Dx x p n g o c _ G I).mono ?_
  rintro e M ⟨z,hv1⟩
  subst M
  refine⟨.bool true,by rw[z,s],?_⟩
  clear z
  refine Fx.Ly.v (.bool true) (fD rfl rfl) ?_
  refine Fx.Ly.v (.func (.yield l) #[] #[]) (fD rfl P) ?_
  refine Fx.Ly.v (aD c) (bC (x:=fun _=>aD c) rfl y (by kernel_rfl) K.aH (i:=0) (by omega) (by omega) rfl) ?_
  obtain⟨d1,ed1,ahw,S⟩:=Fh hst s
  refine Fx.Ly.yield (l:=l) (args := [aD c]) rfl rfl rfl (Fx.args1 rfl) rfl (hY h c _ L.j (by have:=congrArg List.length A; rw[S,List.length_append,List.length_cons]at this; omega)) ?_
  rintro e9 w2 ⟨rfl,hJ1,C⟩
  refine⟨.bool true,rfl,?_⟩
  have m6:aP w2 g 1 (fun _ => .map (some o)) 135:=(C.t).trans G
  have m7:Mp w2 o n x (fun j=>aD (p j)):=I.keep C.m
  have m8:aP w2 r 1 (fun _=>(pt g)) 98:=(C.b).trans X
  have m9:aP w2 q 1 (fun _=>aD c) 28:=(C.q).trans K
  have m10:JF q J (h ++ [c]) w2:=⟨L.ab,hJ1⟩
  refine Fx.Ly.v (.bool true) (gK rfl rfl rfl) ?_
  refine Fx.Ly.nil ?_
  refine sN<|aM<|Wk<|sN<|Wb ?_
  obtain⟨F,R,O⟩:=fT s
  -- region 1 draws
  refine jo [0,1,2,3,4,5,6] [4,0,0,4,4,3,3] [(5,0,[3,2,1,0]),(6,0,[0]),(5,3,[3]),(6,3,[3]),(5,4,[4]),(6,4,[4]),(6,5,[5])] fun oU dL gU => ?_
  have⟨T,U,V,H,m15⟩:=qm dL m6 m7 m8 m9 m10
  refine Rs ((pt g)) (aL V.aH 0 (ha:=E)) ?_
  refine aV ((pt g))<|aV ((pt g))<|Rs (.map (some o)) (aL T.aH 0) ?_
  refine Rs (aD c) (aL H.aH 0 (ha:=y)) ?_
  refine fQ<|Lv (aD (p F)) (Fx.uN rfl rfl rfl U Tryz.underlying100 Tryz.underlying28 (by rfl) R O rfl)<|Ln<|fQ<|iQ H 0 (aD (p F)) (ha:=y) fun Z m16 Y z1 => ?_
  have m17:aP Z q 1 (fun _=>aD (p F)) 28:=dH m16
  have gI:=gY Y H.ty
  have⟨m18,m19,m20⟩:=EK gI T U V
  have m21:=m15.bZ Y
  refine Ln<|Rn<|bP ?_
  have m22:aP Z q 1 (fun _=>aD (gZ x p n c)) 28:=by rw[zD hinj R O]; exact m17
  skip
  refine gJ ⟨d1,(by omega),(h ++ [c]),(gZ x p n c),ahw,(by rw[List.append_assoc]; rw[S]at A; exact A),P,E,y,m18,m19,m20,m22,m21⟩ (by decide)
 rw[Bool.not_eq_true]at s
 refine Fx.Ly.call (by rfl) (rC (args := [(pt g),aD c]) rfl rfl Tryz.func106 rfl rfl) rfl<|(Dx x p n g o c _ G I).mono ?_
 rintro e M ⟨z,hv1⟩
 subst M
 refine⟨.bool false,by rw[z,s],?_⟩
 clear z
 refine Fx.Ly.v (.bool false) (fD rfl rfl) ?_
 refine Fx.Ly.skip (by rfl) rfl ?_
 refine Fx.Ly.skip (by rfl) rfl ?_
 refine Fx.Ly.skip (by rfl) rfl ?_
 refine Fx.Ly.v (.bool false) (gL rfl rfl rfl) ?_
 refine Fx.Ly.nil ?_
 refine sN (aK (Wx (bV (fU (bW (⟨.tuple #[],iH Tryz.results105,?_⟩))))))
 exact⟨⟨_,rfl⟩,h,(by rw[kH s,List.append_nil]at A; exact A),L.j⟩
end
end Go.Proofs.YtahbiajdgealnaaGreatDoor
namespace Go.Proofs.YtahbiajdgealnaaGreatDoor
open Go.RowKit Go Rt
set_option linter.unusedVariables false
namespace Rt
def wE(l:List Int):Nat->Value:=fun i=>aD (l.getD i 0)
theorem UN{l:List Int}{v:Int}{z:Nat->Value} : ∀ j,j<(l.length+1)*1->Fx.gM (wE l) (l.length*1) (Fx.bG z (0*1) 1 (fun _=>aD v)) j=wE (l ++ [v]) j:=fun j a=>by
 unfold Fx.gM wE
 by_cases h:j<l.length*1
 ·rw[if_pos h,List.getD_eq_getElem?_getD,List.getD_eq_getElem?_getD,List.getElem?_append_left (by omega)]
 ·rw[if_neg h]
  obtain rfl:j=l.length:=by omega
  unfold Fx.bG
  rw[if_pos (by omega)]; simp
structure PI(gl bt q B:Nat)(w0:World)(pre:List Int)(w:World):Prop where
 ex : ∃ a c,Fx.aP w gl 1 (fun _ => .slice a pre.length c) 63/\Fx.Own w B 28 1 (.slice a pre.length c) pre.length (wE pre)/\(∀ r,(Value.slice a pre.length c).ownBlock=some r->r≠bt/\r≠q/\r≠gl)
 be:Below B w0 w
 lb:bt<w.heap.size
 lq:q<w.heap.size
theorem KeepsOthers.AL{g:Nat}{w w':World}(h:Fx.Stp g w w')(c : ∀ o,w.heap[g]? = some o->o.isCells=true):KeepsOthers w w' :=
 ⟨h.size,fun k o a b=>by
  by_cases e:k=g
  ·subst e; rw[c o a]at b; cases b
  ·exact(h.block k (Array.getElem?_eq_some_iff.1 a).1 e).trans a⟩
theorem KeepsOthers.Qb{w w':World}{v:Value}(h:w.grownBy w' v.ownBlock)(c : ∀ r o,v.ownBlock=some r->w.heap[r]? = some o->o.isCells=true):KeepsOthers w w' :=
 ⟨h.size,fun k o a b=>by
  refine(h.block k (Array.getElem?_eq_some_iff.1 a).1 fun e => ?_).trans a
  rw[c k o e.symm a]at b; cases b⟩
theorem zF{w:World}{g:Nat}{T:TypeId}(h:Fx.Ty w g T) : ∀ o,w.heap[g]? = some o->o.isCells=true:=fun o a=>by
 obtain⟨b,h⟩:=h
 rw[h]at a; cases a; rfl
theorem Qa.trans{d c a q:Nat}{A B C:World}(h:Qa d c a q A B)(k:Qa d c a q B C):Qa d c a q A C:=⟨Nat.le_trans h.size k.size,k.t.trans h.t,k.m.trans h.m,k.b.trans h.b,k.q.trans h.q⟩
theorem Qa.of{c b a q:Nat}{A B:World}(d:A.heap.size<=B.heap.size)(h : ∀ k,k=c\/k=b\/k=a\/k=q->B.heap[k]? = A.heap[k]?):Qa c b a q A B:=⟨d,h _ (.inl rfl),h _ (.inr (.inl rfl)),h _ (.inr (.inr (.inl rfl))),h _ (.inr (.inr (.inr rfl)))⟩
theorem PI.own{b k q B c:Nat}{j:World}(l:B<=j.heap.size)(n:b≠q)(p:B<=q)(y:B<=c):Rgq.NW q c (PI b k q B j):=fun s W x w u a i=>by
 obtain⟨⟨d,f,m,o,h⟩,hbe,hlb,hlq⟩:=u
 have g : ∀ r T,Fx.Ty W r T->r≠q->w≠some r:=fun r T v t e=>by
  rcases i r e with h1|⟨_,ob,h1,h2⟩
  ·exact t h1
  ·rw[zF v ob h1]at h2; cases h2
 refine⟨⟨d,f,?_,?_,h⟩,hbe.grown a (Nat.le_trans l hbe.size) fun r e => ?_,Nat.lt_of_lt_of_le hlb a.size,Nat.lt_of_lt_of_le hlq a.size⟩
 ·exact(a.block b m.lt fun e=>g b _ m.ty n e.symm).trans m
 ·refine World.ownsRow.kept o a ?_
  cases hb:(Value.slice d s.length f).ownBlock with
  | none=>exact .inl rfl
  | some r=>exact .inr fun e=>g r _ (o.ty hb) (h r hb).2.1 e.symm
 ·rcases i r e with rfl|⟨h1,_⟩
  ·exact p
  ·omega
end Rt
open Rt
theorem UO(d f c q n e:Nat)(x p:Nat->Int)(k:Int)(u : ∀ a b,a<n->b<n->x a=x b->a=b)(y:iO x p n e k)(t:c≠q/\d≠q) :
 Rgq.acI (Fx.FR none) 2 Tryz.prog 105 #[(pt c),(pt q)] (fun v:Int => #[aD v]) (Qa d f c q) (fun z=>z=iX x p n e k) (iX x p n e k).length q
  (fun w=>Fx.aP w d 1 (fun _ => .map (some f)) 135/\Fx.Mp w f n x (fun j=>aD (p j))/\Fx.aP w c 1 (fun _=>(pt d)) 98/\Fx.aP w q 1 (fun _=>aD k) 28) :=
 fun l J W ⟨o,i,h,m⟩ s r g=>callsIn_wide.2 (acK J l d f c q n e x p k W o i h m u y ⟨s,g⟩ t r)
set_option maxRecDepth 10000 in
theorem KI(x p:Nat->Int)(n A K C:Nat)(k:Int)(w:World)(hT:Fx.aP w A 1 (fun _ => .map (some K)) 135)(hM:Fx.Mp w K n x (fun j=>aD (p j)))(hinj : ∀ a b,a<n->b<n->x a=x b->a=b)(YV:iO x p n C k)(hlen:(iX x p n C k).length<=1000000) :
 Calls Tryz.prog 49 #[(pt A),aD k] w fun e w' => ∃ a c,e = .returned (.slice a (iX x p n C k).length c)/\Fx.Own w' w.heap.size 28 1 (.slice a (iX x p n C k).length c) (iX x p n C k).length (wE (iX x p n C k))/\Below w.heap.size w w':=by
 have ltp:=hT.lt
 have lmb:=hM.lt
 refine(callsIn_wide (n:=3)).1 (callsIn_of_wp_marks (F:=Fx.FR none) Tryz.func49 rfl trivial ?_ rfl)
 have ha:Fx.zo { tmps := #[(pt A),aD k]++Array.replicate (Tryz.f49.ntmps-2) undef,defers := [] } 15 (Fx.start #[(pt A),aD k]):=by
  refine⟨by rfl,fun i => ?_⟩
  simp only[Fx.start,Array.getD_eq_getD_getElem?,Array.getElem?_append,Array.getElem?_replicate]
  by_cases hi:i<2
  ·simp[hi]
  ·have R : ¬ i<(#[(pt A),aD k]:Array Value).size:=by simpa using hi
   rw[if_neg R]
   split
   ·rw[Array.getElem?_eq_none (by simpa using hi)]; rfl
   ·rw[Array.getElem?_eq_none (by simpa using hi)]
 refine wpIn_seq<|Fx.Fg (Q:=fun e f1 M=>e = .normal/\f1 0=(pt A)/\f1 1=aD k/\f1 4=(pt w.heap.size)/\Fx.aP M w.heap.size 1 (fun _ => .slice none 0 0) 63/\Below w.heap.size w M) ha ?_ (by rfl) ?_
 ·refine Fx.Ca (m:=1) (y:=fun _ => .slice none 0 0) (by rfl) rfl (by kernel_rfl) rfl fun g1 M kV Y s1 z1 => ?_
  subst kV
  exact Fx.Ln ⟨rfl,rfl,rfl,rfl,Y,s1.old⟩
 rintro e a1 M ⟨f1,ha1,hd1,rfl,h0,O,S,Y,b1⟩
 have XF:=Y.lt
 refine wpIn_seq<|wpIn_seq<|Fx.Fg (Q:=fun e V w2=>e = .normal/\V 4=(pt w.heap.size)/\Below M.heap.size M w2 /\ ∃ t q,V 8 = .func (.func 105) #[] #[(pt t),(pt q)]/\M.heap.size<=t/\M.heap.size<=q/\Fx.aP w2 t 1 (fun _=>(pt A)) 98/\Fx.aP w2 q 1 (fun _=>aD k) 28) ha1 ?_ (by rfl) ?_
 ·refine aS h0<|aS O<|jM (ahv A k _) ?_
  rintro e w2 ⟨t,q,he,lb,lq,mb',mq',hb⟩
  exact⟨_,he,Fx.Ln ⟨rfl,S,hb,t,q,rfl,lb,lq,mb',mq'⟩⟩
 rintro e a2 w2 ⟨V,ha2,hd2,rfl,S,b2,t,q,h8,lbt,lq,mbt,mq⟩
 have hds:a2.defers = []:=hd2.trans hd1
 have tbt:=mbt.lt
 have tq:=mq.lt
 have bq:t≠q:=fun e=>by
  subst e
  have:=mbt.symm.trans mq
  simp only[Option.some.injEq,Obj.cells.injEq]at this
  exact absurd this.2.1 (by decide)
 have m2:=Y.bZ (Fx.Sb b2) (Nat.ne_of_lt Y.lt)
 have s1:=b1.size
 have s2:=b2.size
 have b12:Below w.heap.size w w2:=b1.trans (b2.mono s1)
 have hT2:Fx.aP w2 A 1 (fun _ => .map (some K)) 135:=(b12.block A ltp).trans hT
 have hM2:Fx.Mp w2 K n x (fun j=>aD (p j)):=hM.keep (b12.block K lmb)
 have hgq:w.heap.size≠q:=by omega
 refine wpIn_block (Rgq.Ce (F:=Fx.FR none) rfl (by decide) (gf:=105) (lb := #[(pt t),(pt q)]) ?hg trivial (fun args w=>jy Tryz.func105 (by kernel_rfl) rfl args w)
  (UO A K t q n C x p k hinj YV ⟨bq,by omega⟩) tq ⟨hT2,hM2,mbt,mq⟩ ?KH (fun h k=>h.trans k) ?hKb (fun _=>rfl) (PI w.heap.size t q w.heap.size w) (PI.own (Nat.le_refl _) hgq (by omega) (by omega))
  ⟨⟨none,0,m2,Fx.wB _ _ _ _ _,fun r e=>by cases e⟩,b12,tbt,tq⟩ (fun v a => ∃ f,Fx.zo a 15 f/\f 4=(pt w.heap.size)/\f 5=aD v) ?assign ?body ?done)
 case hg=>rw[ha2.ev]; exact h8
 case KH =>
  rintro W o hw ⟨i1,i2,i3,i4⟩
  exact⟨(Below.heap_alloc W o A i1.lt).trans i1,i2.keep (Below.heap_alloc W o K i2.lt),(Below.heap_alloc W o t i3.lt).trans i3,(Below.heap_alloc W o q i4.lt).trans i4⟩
 case hKb =>
  intro W l o o' hl _ _ _
  exact Qa.of (by simp) fun r hr=>World.putObj_heap_other (by omega)
 case assign =>
  intro l v W
  have hp:=ha2.put (d:=some 9) rfl (aD v)
  refine Fx.Fg (ro:=some l) (n:=15) (f:=Fx.put V (some 9) (aD v)) (Q:=fun e f w'=>e = .normal/\f 4=(pt w.heap.size)/\f 5=aD v/\w'=W) (Fx.IB hp) ?_ (by rfl) ?_
  ·exact Fx.Lv (aD v) (Fx.eT rfl rfl) (Fx.Ln ⟨rfl,S,rfl,rfl⟩)
  ·rintro e a' w' ⟨f',hf',_,rfl,g4,g5,rfl⟩
   exact⟨⟨f',hf',g4,g5⟩,rfl⟩
 case body =>
  rintro l L v W a' ⟨f',hf',g4,g5⟩ ⟨⟨G,H,U,o3,X⟩,P,hpb,hpq⟩ hpl
  have hbs:=P.size
  have Dy:=U.lt
  refine wpIn_block<|Fx.Fg (ro:=some l) (Q:=fun e f w'=>e = .normal/\KeepsOthers W w'/\Qa A K t q W w'/\PI w.heap.size t q w.heap.size w (L ++ [v]) w') hf' ?_ (by rfl) ?_
  ·refine Fx.Lv (.slice G L.length H) (aL U.aH 0 (ha:=g4))<|aS g5<|Fx.yj (vs := [(0,aD v)]) (s:=1) (zc:=fun _=>aD 0) (y:=Fx.bG (fun j=>aD 0) (0*1) 1 (fun _=>aD v)) (by rfl) rfl rfl Tryz.underlying63 (by kernel_rfl) (by rfl) (by rfl) (by kernel_rfl) (by rw[Fx.bD (off:=0*1) (s:=1) (y:=fun _=>aD v) rfl (Fx.cells_one (by rfl)) (by rfl)]; rfl) rfl fun g4' w4 KJ m4 E z4 => ?_
   have⟨m5,o5⟩:=eG E.old U o3
   have hB4:w.heap.size<=w4.heap.size:=Nat.le_trans hbs E.size
   refine Fx.yI (B:=w.heap.size) (s:=1) (bytes:=8) (k:=L.length) (m:=1) (v := .slice G L.length H) (x:=wE L) (by rfl) rfl rfl rfl Tryz.underlying63 (by kernel_rfl) (by kernel_rfl) rfl rfl o5 m4.aH (fun j hj=>by unfold Fx.bG; split <;> rfl) (by omega) (by omega) (by omega) hB4 fun J Gx w6 ho1 I tJ hlt1 => ?_
   have m6:=m5.grown I (fun e=>(X _ e).2.2 rfl)
   refine iQ m6 0 (bI J (L.length+1) Gx) (ha:=g4) fun N Z u z7 => ?_
   have e4 : ∀ r,r<W.heap.size->r≠w.heap.size->(∀ z,(Value.slice G L.length H).ownBlock=some z->z≠r)->N.heap[r]? = W.heap[r]? := fun r O R h3 =>
    (u.block r (Nat.lt_of_lt_of_le (Nat.lt_of_lt_of_le O E.size) I.size) R).trans ((I.block r (Nat.lt_of_lt_of_le O E.size) fun e=>h3 r e.symm rfl).trans (E.block r O (Nat.ne_of_lt O)))
   have hg6:J≠t/\J≠q/\J≠w.heap.size:=by
    rcases tJ with h|h
    ·exact X J h
    ·have:=E.size; have:=P.block
     refine⟨?_,?_,?_⟩
     ·omega
     ·omega
     ·omega
   have mC:Fx.aP N w.heap.size 1 (fun _=>bI J (L.length+1) Gx) 63:=Fx.aP.congr Z (by
    intro j hj
    obtain rfl:j=0:=by omega
    rfl)
   refine Fx.Ln ⟨rfl,?_,?_,⟨?_,?_,?_,?_⟩⟩
   ·refine(KeepsOthers.AL E fun o ho => ?_).trans ((KeepsOthers.Qb I fun r o e ho=>zF (o5.ty e) o ho).trans (KeepsOthers.AL u (zF m6.ty)))
    have:=(Array.getElem?_eq_some_iff.1 ho).1; omega
   ·refine Qa.of (Nat.le_trans E.size (Nat.le_trans I.size u.size)) fun r hr=>e4 r ?_ ?_ fun z hz => ?_
    ·rcases hr with rfl|rfl|rfl|rfl <;> omega
    ·rcases hr with rfl|rfl|rfl|rfl <;> omega
    ·have O:=(o3.ge hz).1; have R:=X z hz
     rcases hr with rfl|rfl|rfl|rfl
     ·omega
     ·omega
     ·exact R.1
     ·exact R.2.1
   ·refine⟨some ⟨J,0,none⟩,Gx,?_,?_,fun r e => ?_⟩
    ·rw[List.length_append]; exact mC
    ·rw[List.length_append]; exact(ho1.congr UN).bZ u (fun e=>hg6.2.2 (Option.some.inj e))
    ·obtain rfl:J=r:=Option.some.inj e
     exact hg6
   ·refine u.below ((E.below P hbs hbs).grown I hB4 fun r e=>(o5.ge e).1) (Nat.le_trans hB4 I.size) (Nat.le_refl _)
   ·exact Nat.lt_of_lt_of_le hpb (Nat.le_trans E.size (Nat.le_trans I.size u.size))
   ·exact Nat.lt_of_lt_of_le hpq (Nat.le_trans E.size (Nat.le_trans I.size u.size))
  ·rintro e a5 w5 ⟨f5,_,_,rfl,q1,q2,q3⟩
   exact⟨q1,q2,q3⟩
 case done =>
  rintro D xs W hD rfl ⟨⟨G,H,U,o3,X⟩,P,hpb,hpq⟩ hK
  have hcD : ∀ g,g<w2.heap.size->g≠D:=fun g h e=>by omega
  have hkc : ∀ {g T},Fx.Ty W g T->g≠D:=fun ht e=>by
   have:=zF ht _ (e ▸ hK); cases this
  have hDn:(w.heap.size:Nat)≠D:=by omega
  show Code.wpIn _ _ _ _ _ _ _
  refine wpIn_seq<|Fx.Fg (Q:=fun e f w'=>e = .normal/\f 4=(pt w.heap.size)/\Fx.Stp w.heap.size W w'/\Fx.aP w' w.heap.size 1 (fun _ => .slice G (iX x p n C k).length H) 63) (f:=V) ⟨ha2.size,ha2.get⟩ ?_ (by rfl) ?_
  ·refine Fx.Lv (.slice G (iX x p n C k).length H) (aL U.aH 0 (ha:=S))<|iQ U 0 (.slice G (iX x p n C k).length H) (ha:=S) fun N Z u z7 => ?_
   exact Fx.Ln ⟨rfl,S,u,Fx.aP.congr Z fun j hj=>by
    obtain rfl:j=0:=by omega
    rfl⟩
  rintro e a7 N ⟨f7,ha7,hd7,rfl,q4,u,Z⟩
  have hK7:N.heap[D]? = some (.deferred (some [])):=(u.block D (Array.getElem?_eq_some_iff.1 hK).1 (Ne.symm hDn)).trans hK
  have m8:Fx.aP (N.putObj D (.deferred none)) w.heap.size 1 (fun _ => .slice G (iX x p n C k).length H) 63:=(World.putObj_heap_other hDn).trans Z
  refine wpIn_ret (Fx.leave1 ha7 (hd7.trans (by rw[hds])) hK7 (Fx.rV Tryz.results49 ⟨_,q4,Fx.NK m8.aH (by kernel_rfl) (i:=0) (by omega) (by omega) rfl⟩) ⟨G,H,rfl,?_,?_⟩)
  ·have o7:=o3.bZ u (fun e=>(X _ e).2.2 rfl)
   exact World.ownsRow.kept o7 (grownBy_putObj' N D _) (.inr fun e=>by
    exact hkc (o3.ty e) rfl)
  ·exact(u.below P P.size (Nat.le_refl _)).grown (grownBy_putObj' N D _) (Nat.le_trans P.size u.size) fun r e=>by cases e; omega
end Go.Proofs.YtahbiajdgealnaaGreatDoor
namespace Go.Proofs.YtahbiajdgealnaaGreatDoor
open Go.RowKit Go
set_option linter.unusedVariables false
namespace Rt
section
variable {x p x' p':Nat->Int} {n n' j d e:Nat} {k id pa:Int}
theorem xD : ∀ {d:Nat} {k:Int},(iX x p n d k).length<=d
 | 0,k=>Nat.le_refl _
 | d+1,k=>by
   unfold iX
   split
   ·rw[List.length_cons]; exact Nat.succ_le_succ xD
   ·exact Nat.zero_le _
theorem zG : ∀ {d e:Nat} {k:Int},iO x p n d k->(iX x p n d k).length<=e->iO x p n e k
 | 0,0,k,h,_=>h
 | 0,e+1,k,h,_=>fun b=>by
   have h:dP x n k=false:=h
   rw[h]at b; cases b
 | d+1,0,k,h,hl=>by
   show dP x n k=false
   cases a:dP x n k with
   | false=>rfl
   | true =>
     unfold iX at hl
     rw[if_pos a,List.length_cons]at hl
     omega
 | d+1,e+1,k,h,hl=>fun a=>by
   unfold iX at hl
   rw[if_pos a,List.length_cons]at hl
   exact zG (h a) (by omega)
theorem IE : ∀ {d:Nat} {k:Int},iO x p n d k->iX x p n (d+1) k=iX x p n d k
 | 0,k,h=>by
   have h:dP x n k=false:=h
   rw[kH h,kH h]
 | d+1,k,h=>by
   cases hk:dP x n k with
   | false=>rw[kH hk,kH hk]
   | true =>
     show(if dP x n k=true then k::iX x p n (d+1) (gZ x p n k)else [])=(if dP x n k=true then k::iX x p n d (gZ x p n k)else [])
     rw[if_pos hk,if_pos hk,IE (h hk)]
theorem KL{d:Nat}{k:Int}(h:iO x p n d k):iO x p n (d+1) k:=zG h (Nat.le_succ_of_le xD)
theorem Gy{d e:Nat}{k:Int}(h:iO x p n d k)(a:d<=e):iX x p n e k=iX x p n d k/\iO x p n e k:=by
 induction a with
 | refl=>exact⟨rfl,h⟩
 | step _ ih=>exact⟨(IE ih.2).trans ih.1,KL ih.2⟩
theorem Fj(a : ∀ k,dP x' n' k=dP x n k)(b : ∀ k,dP x n k=true->gZ x' p' n' k=gZ x p n k) : ∀(d:Nat) (k:Int),iX x' p' n' d k=iX x p n d k
 | 0,_=>rfl
 | d+1,k=>by
   unfold iX
   rw[a]
   cases hk:dP x n k with
   | false=>rfl
   | true=>rw[if_pos rfl,if_pos rfl,b k hk,Fj a b d]
structure AO(n:Nat)(x p:Nat->Int):Prop where
 inj : ∀ a b,a<n->b<n->x a=x b->a=b
 pos : ∀ j,j<n->0<x j/\x j<=18446744073709551615
 stop : ∀ k,iO x p n 4 k
 small:n<=32
 par : ∀ j,j<n->p j=0 \/ ∃ i,i<j/\x i=p j
theorem AO.zero(x p:Nat->Int):AO 0 x p:=⟨fun a b h=>by omega,fun j h=>by omega,fun k h=>(nomatch h),by omega,fun j h=>by omega⟩
theorem AO.YW(h:AO n x p):dP x n 0=false:=xC fun i hi e=>by have:=h.pos i hi; omega
theorem AO.acL(h:AO n x p)(d:Nat):iX x p n d 0 = []:=kH h.YW
theorem AO.len(h:AO n x p)(k:Int):(iX x p n 4 k).length<=1000000:=Nat.le_trans xD (by omega)
def qV(x p:Nat->Int)(n:Nat)(id pa:Int):Int :=
 if id=0 then 1 else if dP x n id=true then 14 else if ¬ pa=0/\dP x n pa=false then 9 else if 32<=n\/4<=(iX x p n 4 pa).length then 6 else 0
inductive YX (n:Nat) (x p:Nat->Int) (id pa:Int):Int->Nat->(Nat->Int)->(Nat->Int)->Prop
 | no {c:Int} (hc:qV x p n id pa=c) (h0:c≠0):YX n x p id pa c n x p
 | yes (hc:qV x p n id pa=0):YX n x p id pa 0 (n+1) (Fx.aQ x n id) (Fx.aQ p n pa)
theorem KM(a:qV x p n id pa=0):id≠0/\dP x n id=false/\(pa=0\/dP x n pa=true)/\n<32/\(iX x p n 4 pa).length<4:=by
 unfold qV at a
 split at a
 ·cases a
 split at a
 ·cases a
 split at a
 ·cases a
 split at a
 ·cases a
 rename_i h1 h2 h3 h4
 refine⟨h1,by simpa using h2,?_,by omega,by omega⟩
 by_cases b:pa=0
 ·exact .inl b
 right
 cases hk:dP x n pa with
 | true=>rfl
 | false=>exact absurd ⟨b,hk⟩ h3
theorem jH(id k:Int):dP (Fx.aQ x n id) (n+1) k=(dP x n k || decide (id=k)):=by
 have e : ∀ m,m<=n->dP (Fx.aQ x n id) m k=dP x m k:=fun m=>by
  induction m with
  | zero=>exact fun _=>rfl
  | succ m ih =>
    intro a
    show(dP (Fx.aQ x n id) m k || decide (Fx.aQ x n id m=k))=(dP x m k || decide (x m=k))
    rw[ih (by omega)]
    unfold Fx.aQ
    rw[if_neg (by omega)]
 show(dP (Fx.aQ x n id) n k || decide (Fx.aQ x n id n=k))=_
 rw[e n (Nat.le_refl _)]
 unfold Fx.aQ
 rw[if_pos rfl]
theorem uR(id pa k:Int):gZ (Fx.aQ x n id) (Fx.aQ p n pa) (n+1) k=if id=k then pa else gZ x p n k:=by
 have e : ∀ m,m<=n->gZ (Fx.aQ x n id) (Fx.aQ p n pa) m k=gZ x p m k:=fun m=>by
  induction m with
  | zero=>exact fun _=>rfl
  | succ m ih =>
    intro a
    show(if Fx.aQ x n id m=k then Fx.aQ p n pa m else gZ (Fx.aQ x n id) (Fx.aQ p n pa) m k)=(if x m=k then p m else gZ x p m k)
    rw[ih (by omega),show Fx.aQ x n id m=x m by unfold Fx.aQ; rw[if_neg (by omega)],show Fx.aQ p n pa m=p m by unfold Fx.aQ; rw[if_neg (by omega)]]
 show(if Fx.aQ x n id n=k then Fx.aQ p n pa n else gZ (Fx.aQ x n id) (Fx.aQ p n pa) n k)=_
 rw[e n (Nat.le_refl _),show Fx.aQ x n id n=id by unfold Fx.aQ; rw[if_pos rfl],show Fx.aQ p n pa n=pa by unfold Fx.aQ; rw[if_pos rfl]]
theorem AO.up(h:AO n x p)(b:dP x n k=true):gZ x p n k=0\/dP x n (gZ x p n k)=true:=by
 obtain⟨j,a,e⟩:=fT b
 rw[zD h.inj a e]
 rcases h.par j a with h1|⟨i,hi,h1⟩
 ·exact .inl h1
 exact .inr (iW (by omega) h1)
theorem Dz(h:AO n x p)(c:dP x n id=false)(b:id≠0) : ∀(d:Nat) (k:Int),k≠id->iO x p n d k->iO (Fx.aQ x n id) (Fx.aQ p n pa) (n+1) d k
 | 0,k,hk,hs=>by
   show dP _ _ _=false
   rw[jH,decide_eq_false (fun e=>hk e.symm),Bool.or_false]; exact hs
 | d+1,k,hk,hs=>fun a=>by
   rw[jH,decide_eq_false (fun e=>hk e.symm),Bool.or_false]at a
   rw[uR,if_neg (fun e=>hk e.symm)]
   refine Dz h c b d _ ?_ (hs a)
   intro e
   rcases h.up a with h1|h1
   ·exact b (e.symm.trans h1)
   ·rw[e,c]at h1; cases h1
theorem AO.put(h:AO n x p)(y:qV x p n id pa=0)(o:0<=id/\id<=18446744073709551615):AO (n+1) (Fx.aQ x n id) (Fx.aQ p n pa):=by
 obtain⟨m,f,s,B,A⟩:=KM y
 have l:Fx.aQ x n id n=id:=by unfold Fx.aQ; rw[if_pos rfl]
 have d : ∀ j,j<n->Fx.aQ x n id j=x j:=fun j c=>by unfold Fx.aQ; rw[if_neg (by omega)]
 have t:Fx.aQ p n pa n=pa:=by unfold Fx.aQ; rw[if_pos rfl]
 have u : ∀ j,j<n->Fx.aQ p n pa j=p j:=fun j c=>by unfold Fx.aQ; rw[if_neg (by omega)]
 have r : ∀ j,j<n->x j≠id:=fun j c e=>by rw[iW c e]at f; cases f
 have z:pa≠id:=fun e=>by
  subst e
  rcases s with h1|h1
  ·exact m h1
  ·rw[f]at h1; cases h1
 have g : ∀ j,j<n+1->j<n\/j=n:=fun j c=>by omega
 refine⟨fun a b w o e => ?_,fun j c => ?_,fun k => ?_,by omega,fun j c => ?_⟩
 ·rcases g a w with h1|rfl <;> rcases g b o with h2|rfl
  ·rw[d a h1,d b h2]at e; exact h.inj a b h1 h2 e
  ·rw[d a h1,l]at e; exact absurd e (r a h1)
  ·rw[l,d b h2]at e; exact absurd e.symm (r b h2)
  rfl
 ·rcases g j c with h1|rfl
  ·rw[d j h1]; exact h.pos j h1
  rw[l]; omega
 ·by_cases q:k=id
  ·subst q
   intro _
   rw[uR,if_pos rfl]
   exact Dz h f m 3 pa z (zG (h.stop pa) (by omega))
  exact Dz h f m 4 k q (h.stop k)
 rcases g j c with h1|rfl
 ·rw[u j h1]
  rcases h.par j h1 with h2|⟨i,hi,h2⟩
  ·exact .inl h2
  exact .inr ⟨i,hi,by rw[d i (by omega)]; exact h2⟩
 rw[t]
 rcases s with h2|h2
 ·exact .inl h2
 obtain⟨i,hi,v⟩:=fT h2
 exact .inr ⟨i,hi,by rw[d i hi]; exact v⟩
theorem xE : ∀ {l m:List Int},l.Pairwise (· < ·)->m.Pairwise (· < ·)->(∀ k,k∈l<->k∈m)->l=m
 | [],[],_,_,_=>rfl
 | [],b::m,_,_,h=>by have:=(h b).2 (by simp); simp at this
 | a::l,[],_,_,h=>by have:=(h a).1 (by simp); simp at this
 | a::l,b::m,hl,hm,h=>by
   rw[List.pairwise_cons]at hl hm
   have e:a=b:=by
    have c:=(h a).1 (by simp)
    have d:=(h b).2 (by simp)
    rw[List.mem_cons]at c d
    rcases c with c|c
    ·exact c
    rcases d with d|d
    ·exact d.symm
    have:=hm.1 _ c; have:=hl.1 _ d; omega
   subst e
   rw[xE hl.2 hm.2 fun k => ?_]
   have f:=h k
   rw[List.mem_cons,List.mem_cons]at f
   constructor
   ·intro q
    rcases f.1 (.inr q)with rfl|c
    ·have:=hl.1 _ q; omega
    ·exact c
   ·intro q
    rcases f.2 (.inr q)with rfl|c
    ·have:=hm.1 _ q; omega
    ·exact c
end
theorem Fp(S:Nat->Bool) : ∀ n,Fx.unseen S n<=n
 | 0=>Nat.le_refl _
 | n+1=>by
   unfold Fx.unseen
   have:=Fp S n
   split <;> omega
structure Qc(n:Nat)(P:Nat->Prop)(S:Nat->Bool)(m:Nat)(τ:Nat->Nat)(kk:Nat):Prop where
 lt : ∀ q,q<m->τ q<n
 inj : ∀ q r,q<m->r<m->τ q=τ r->q=r
 mem : ∀ i,i<n->S i=true->P i -> ∃ q,q<m/\τ q=i
 yes : ∀ q,q<m->P (τ q)
 seen : ∀ q,q<m->S (τ q)=true
 le:m+kk<=n
 kk:kk=Fx.unseen S n
section
variable {n m kk:Nat} {P:Nat->Prop} {S:Nat->Bool} {τ:Nat->Nat}
theorem Qc.start(n:Nat)(P:Nat->Prop)(τ:Nat->Nat):Qc n P (fun _=>false) 0 τ (Fx.unseen (fun _=>false) n) :=
 ⟨fun _ h=>absurd h (Nat.not_lt_zero _),fun _ _ h=>absurd h (Nat.not_lt_zero _),fun _ _ h=>(nomatch h),fun _ h=>absurd h (Nat.not_lt_zero _),fun _ h=>absurd h (Nat.not_lt_zero _),by have:=Fp (fun _=>false) n; omega,rfl⟩
theorem Qc.skip(h:Qc n P S m τ kk){i:Nat}(hi:i<n)(g:S i=false)(d : ¬ P i):Qc n P (Fx.aQ S i true) m τ (Fx.unseen (Fx.aQ S i true) n):=by
 have o:=Fx.nC g n hi
 have k:=h.kk
 have l:=h.le
 refine⟨h.lt,h.inj,fun j c a b => ?_,h.yes,fun q f => ?_,by omega,rfl⟩
 ·unfold Fx.aQ at a
  split at a
  ·rename_i e; subst e; exact absurd b d
  exact h.mem j c a b
 unfold Fx.aQ; split
 ·rfl
 exact h.seen q f
theorem Qc.take(h:Qc n P S m τ kk){i:Nat}(hi:i<n)(g:S i=false)(p:P i):Qc n P (Fx.aQ S i true) (m+1) (Fx.aQ τ m i) (Fx.unseen (Fx.aQ S i true) n):=by
 have w:=Fx.nC g n hi
 have u:=h.kk
 have v:=h.le
 have c:Fx.aQ τ m i m=i:=by unfold Fx.aQ; rw[if_pos rfl]
 have b : ∀ q,q<m->Fx.aQ τ m i q=τ q:=fun q a=>by unfold Fx.aQ; rw[if_neg (by omega)]
 have k : ∀ q,q<m->τ q≠i:=fun q a e=>by have:=h.seen q a; rw[e,g]at this; cases this
 have d : ∀ q,q<m+1->q<m\/q=m:=fun q a=>by omega
 refine⟨fun q a => ?_,fun q r a t e => ?_,fun j o f l => ?_,fun q a => ?_,fun q a => ?_,by omega,rfl⟩
 ·rcases d q a with h1|rfl
  ·rw[b q h1]; exact h.lt q h1
  rw[c]; exact hi
 ·rcases d q a with h1|h1 <;> rcases d r t with h2|h2
  ·rw[b q h1,b r h2]at e; exact h.inj q r h1 h2 e
  ·subst h2; rw[b q h1,c]at e; exact absurd e (k q h1)
  ·subst h1; rw[b r h2,c]at e; exact absurd e.symm (k r h2)
  omega
 ·by_cases e:j=i
  ·exact⟨m,by omega,by rw[c,e]⟩
  unfold Fx.aQ at f
  rw[if_neg e]at f
  obtain⟨q,a,s⟩:=h.mem j o f l
  exact⟨q,by omega,by rw[b q a,s]⟩
 ·rcases d q a with h1|rfl
  ·rw[b q h1]; exact h.yes q h1
  rw[c]; exact p
 rcases d q a with h1|rfl
 ·rw[b q h1]; unfold Fx.aQ; split
  ·rfl
  exact h.seen q h1
 rw[c]; unfold Fx.aQ; rw[if_pos rfl]
end
end Rt
end Go.Proofs.YtahbiajdgealnaaGreatDoor
namespace Go.Proofs.YtahbiajdgealnaaGreatDoor
open Go.RowKit Rt
open Fx (fD eT fI bC gL gK dw dR fZ iL dZ jg fP jh iV Lv sN Ln Ws Qv Wl Rp Wc Qs Wr Sb Lk Wk rC rV sR Rs Rn Rd Rk Wb Wx Wo Dw Wt qQ Qn EI Ao yj yI Ca Dl pG gY yL lZ sO uq vP wB xR Cy Ak rv aA aP bG aQ ev bX Stp aU flat dz Mp aT gN iF bD down iH jB iA ku bH bJ cells_one iG bT wD unseen jr gM bU dH bK bP bV bW fU gJ oQ gG)
section
open Rt
set_option maxRecDepth 10000
theorem acM(x p:Nat->Int)(w:World) :
 Calls Tryz.prog 39 #[] w fun e w' => ∃ c b,e = .returned ((pt c))/\w.heap.size<=c/\w.heap.size<=b/\aP w' c 1 (fun _ => .map (some b)) 135/\Mp w' b 0 x (fun j=>aD (p j))/\Below w.heap.size w w':=by
 refine Kent Tryz.func39 4 ?_
 refine ay<|av (.pointer none)<|aC<|ay<|Fx.L.Ir (by rfl) rfl rfl fun m y l a r z => ?_
 have d:=aY r.old (Below.refl w.heap.size w)
 have n:=gH l
 have u:=a.lt
 refine av (.agg (aA 1 (bG (fun _ => .map none) 0 1 (fun _ => .map (some m)))))<|pK fun g w2 f h s A => ?_
 have⟨q,k⟩:=eG s.old a d
 have o:=jc f d.size
 have t:=bY f a.lt
 have v:=h.lt
 refine av ((pt g))<|aC<|Wr<|aI ((pt g)) ?_
 exact⟨_,_,rfl,o,n,h,q.qU (fun i hi=>absurd hi (Nat.not_lt_zero _)),k⟩
theorem Rt.tK{l:List Int}{i:Nat}{v:Int}(hi:i<l.length)(e:l.getD i 0=v):v∈l:=by
 rw[List.getD_eq_getElem?_getD,List.getElem?_eq_getElem hi]at e
 rw[<- e]; exact List.getElem_mem hi
theorem Rt.UQ{l:List Int}{v:Int}(h : ∀ j,j<l.length->l.getD j 0≠v) : ¬ v∈l:=fun a=>by
 obtain⟨i,hi,e⟩:=List.getElem_of_mem a
 refine h i hi ?_
 rw[List.getD_eq_getElem?_getD,List.getElem?_eq_getElem hi]; exact e
theorem ahy(l:List Int)(v:Int)(B c:Nat)(a:Option Addr)(w:World)(C:Fx.Own w B 28 1 (.slice a l.length c) l.length (wE l))(F:l.length<=1000) :
 Calls Tryz.prog 197 #[.slice a (l.length) (c),aD v] w fun e w' => ∃ r:Int,e = .returned (au r)/\(0<=r<->v∈l)/\Below w.heap.size w w':=by
 refine Kent Tryz.func197 19 ?_
 refine ay<|av (au 0)<|aC<|Ws<|ay<|av (.slice a (l.length) (c))<|av (au l.length)<|av (au 0)<|aC<|Wb<|Wo (fun f A => ∃ i:Nat,(∀ j,j<i->l.getD j 0≠v)/\f 0 = .slice a (l.length) (c)/\f 1=aD v/\f 7=au ((l.length:Int))/\f 8=au ((i:Int))/\Fx.Own A B 28 1 (.slice a (l.length) (c)) l.length (wE l)/\Below w.heap.size w A) (fun f _=>((l.length:Int)-intOf (f 8)).toNat) ⟨0,(fun j n=>absurd n (Nat.not_lt_zero _)),(by rfl),Fx.ic,Fx.ic,Fx.ic,C,(Below.refl w.heap.size w)⟩ ?_
 rintro E z ⟨i,u,s,t,m,b,x,g⟩
 refine ay ?_
 by_cases o:(i:Int)<(l.length:Int)
 ·refine Lv aG (gy o (hx:=b) (hy:=m))<|aC<|Ws<|aM<|Wk<|sN<|Ws<|Wb<|ay<|aS b<|av (au i)<|aC<|ay<|aS t<|aS s<|av (au i) ?_
  obtain⟨p,k⟩:=x.addr (by omega)
  have y:Fx.Own z B 28 1 (bI p l.length c) l.length (wE l):=x.dU (congrArg (fun q=>Value.slice q l.length c) k)
  refine Lv ((pf p i)) (cu 1 (hx:=(rfl.trans (congrArg (fun q=>Value.slice q (l.length) (c)) k))))<|Lv (aD (l.getD i 0)) (aL y.aH i) ?_
  by_cases d:v=(l.getD i 0)
  ·refine Lv aG (eP d)<|aC<|aM<|ay<|av (au i)<|av (au i)<|aC<|Wr<|bK<|sR<|oQ<|bK<|sR<|aI (au i) ?_
   exact⟨_,rfl,⟨fun _=>tK (by omega) d.symm,fun _=>by omega⟩,g⟩
  refine Lv aF (fF d)<|aC<|aK<|Wk<|bP<|sN<|Wl<|Lv (au ((i:Int)+1)) (eZ (hx:=b))<|av (au ((i:Int)+1))<|Ln ?_
  have D:Fx.Own z B 28 1 (.slice a (l.length) (c)) l.length (wE l):=y.dU (congrArg (fun q=>Value.slice q l.length c) k.symm)
  refine gJ ⟨i+1,(fun j n=>by by_cases e:j=i; subst e; exact fun e=>d e.symm; exact u j (by omega)),s,(t.trans Fx.ic),(m.trans Fx.ic),Fx.ic,D,g⟩ ?_
  show((l.length:Int)-intOf ((au ((i:Int)+1)))).toNat<_
  simp only[b,intOf]; omega
 refine Lv aF (gD o (hx:=b) (hy:=m))<|aC<|Ws<|aK<|Wx<|bV<|fU<|bW<|sN<|ay<|av (au (-1))<|aC<|Wr<|aI (au (-1)) ?_
 exact⟨_,rfl,⟨fun h=>by omega,fun h=>absurd h (UQ (fun j n=>u j (by omega)))⟩,g⟩
theorem ahz(l:List Int)(v:Int)(B c:Nat)(a:Option Addr)(w:World)(g:Fx.Own w B 28 1 (.slice a l.length c) l.length (wE l))(i:l.length<=1000) :
 Calls Tryz.prog 186 #[.slice a (l.length) (c),aD v] w fun e w'=>e = .returned (.bool (decide (v∈l)))/\Below w.heap.size w w':=by
 refine Kent Tryz.func186 9 ?_
 refine ay<|av aF<|aC<|ay<|av (.slice a (l.length) (c))<|av (aD v)<|jM (ahy l v B c a _ g i) ?_
 rintro j k ⟨r,b,h,f⟩
 refine⟨_,b,?_⟩
 clear b
 have d:=aY f (Below.refl w.heap.size w)
 refine Lv (.bool (decide (0<=r))) (Fx.Dj rfl rfl rfl)<|av (.bool (decide (0<=r)))<|aC<|Wr<|aI (.bool (decide (0<=r))) ?_
 exact⟨by rw[decide_eq_decide.2 h],d⟩
theorem acN(x p:Nat->Int)(n b a:Nat)(id pa:Int)(w:World)(f:aP w b 1 (fun _ => .map (some a)) 135)(d:Mp w a n x (fun j=>aD (p j)))(h:AO n x p) :
 Calls Tryz.prog 172 #[(pt b),aD id,aD pa] w fun e w' => ∃ c F x2 G,e = .returned (au c)/\YX n x p id pa c F x2 G/\aP w' b 1 (fun _ => .map (some a)) 135/\Mp w' a F x2 (fun j=>aD (G j))/\Stp a w w':=by
 have ab:=f.lt
 have aa:=d.lt
 have Z:=h.small
 have Y:(iX x p n 4 pa).length<=4:=xD
 refine Kent Tryz.func172 44 ?_
 refine ay<|av (au 0)<|aC<|Ws<|Wb<|ay<|av ((pt b))<|Lv aF (Fx.nQ rfl rfl rfl (by kernel_rfl))<|av aF<|aC<|aK<|ay<|av (aD id) ?_
 by_cases k:id=0
 ·refine Lv aG (eP k)<|av aG<|aC<|aM<|ay<|av (au 1)<|aC<|Wr<|bK<|sR<|aI (au 1) ?_
  exact⟨_,_,_,_,rfl,.no (by unfold qV; rw[if_pos k]) (by decide),f,d,(lZ a w)⟩
 refine Lv aF (fF k)<|av aF<|aC<|aK<|ay<|av ((pt b))<|av (aD id) ?_
 by_cases g:(dP x n id)=true
 ·refine kg (Dx x p n b a id _ f d) aG (by rw[g])<|av aG<|aC<|aM<|ay<|av (au 14)<|aC<|Wr<|bK<|sR<|aI (au 14) ?_
  exact⟨_,_,_,_,rfl,.no (by unfold qV; rw[if_neg k,g,if_pos rfl]) (by decide),f,d,(lZ a w)⟩
 rw[Bool.not_eq_true]at g
 refine kg (Dx x p n b a id _ f d) aF (by rw[g])<|av aF<|aC<|aK<|ay<|av (aD pa) ?_
 by_cases m:pa=0
 ·refine Lv aF (jJ m)<|av aF<|cB<|cB<|cB<|cB<|av aF<|av aF<|aC<|aK<|Ws<|ay<|av ((pt b))<|av ((pt b))<|av ((pt b))<|Lv (.map (some a)) (aL f.aH 0)<|Lv (au n) (Fx.PW rfl rfl rfl d Tryz.underlying100) ?_
  by_cases o:32<=(n:Int)
  ·refine Lv aG (jv o)<|av aG<|aC<|aM<|Wk<|sN<|aM<|ay<|av (au 6)<|aC<|Wr<|bK<|sR<|aI (au 6) ?_
   exact⟨_,_,_,_,rfl,.no (by unfold qV; rw[if_neg k,g,if_neg (by decide),if_neg (fun h=>h.1 m),if_pos (by omega)]) (by decide),f,d,(lZ a w)⟩
  refine Lv aF (ji o)<|av aF<|aC<|aK<|Wl<|av ((pt b))<|av (aD pa)<|jM (KI x p n b a 4 pa _ f d h.inj (h.stop _) (h.len _)) ?_
  rintro M w1 ⟨XG,pc1,r,N,B⟩
  refine⟨_,r,?_⟩
  clear r
  have V:=Sb B
  have⟨u,v⟩:=eG B f d
  have z:=(lZ a w).then V (.inr (lZ a w).size)
  refine av (au (((iX x p n 4 pa).length:Nat):Int)) ?_
  by_cases q:4<=(((iX x p n 4 pa).length:Nat):Int)
  ·refine Lv aG (jv q)<|av aG<|aC<|aM<|ay<|av (au 6)<|aC<|Wr<|bK<|sR<|aI (au 6) ?_
   exact⟨_,_,_,_,rfl,.no (by unfold qV; rw[if_neg k,g,if_neg (by decide),if_neg (fun h=>h.1 m),if_pos (by omega)]) (by decide),u,v,z⟩
  refine Lv aF (ji q)<|av aF<|aC<|aK<|Wk<|bP<|sN<|Ws ?_
  have s : ∀ i,i<n->x i≠id:=fun i hi e=>by rw[iW hi e]at g; cases g
  refine Wl<|av ((pt b))<|av ((pt b))<|av ((pt b))<|Lv (.map (some a)) (aL u.aH 0)<|av (aD id)<|av (aD pa)<|Fx.L.NS (by rfl) rfl rfl rfl rfl rfl v Tryz.underlying100 Tryz.underlying28 s fun w2 R H z1 => ?_
  have D:=v.AB H
  have S:=u.dJ D
  have m6:=N.dJ D
  have J:=z.then H (.inl rfl)
  have T:Mp w2 a (n+1) (aQ x n id) (fun j=>aD (aQ p n pa j)):=R.qU (fun i _=>⟨rfl,by unfold aQ; split <;> rfl⟩)
  refine aC<|ay<|av (au 0)<|aC<|Wr<|aI (au 0) ?_
  exact⟨_,_,_,_,rfl,.yes (by unfold qV; rw[if_neg k,g,if_neg (by decide),if_neg (fun h=>h.1 m),if_neg (by omega)]),S,T,J⟩
 refine Lv aG (mE m)<|av aG<|av ((pt b))<|av (aD pa) ?_
 by_cases l:(dP x n pa)=true
 ·refine kg (Dx x p n b a pa _ f d) aG (by rw[l])<|av aF<|av aF<|av aF<|aC<|aK<|Ws<|ay<|av ((pt b))<|av ((pt b))<|av ((pt b))<|Lv (.map (some a)) (aL f.aH 0)<|Lv (au n) (Fx.PW rfl rfl rfl d Tryz.underlying100) ?_
  by_cases o:32<=(n:Int)
  ·refine Lv aG (jv o)<|av aG<|aC<|aM<|Wk<|sN<|aM<|ay<|av (au 6)<|aC<|Wr<|bK<|sR<|aI (au 6) ?_
   exact⟨_,_,_,_,rfl,.no (by unfold qV; rw[if_neg k,g,if_neg (by decide),if_neg (fun h=>by rw[l]at h; cases h.2),if_pos (by omega)]) (by decide),f,d,(lZ a w)⟩
  refine Lv aF (ji o)<|av aF<|aC<|aK<|Wl<|av ((pt b))<|av (aD pa)<|jM (KI x p n b a 4 pa _ f d h.inj (h.stop _) (h.len _)) ?_
  rintro M w3 ⟨pa2,pc2,r,U,C⟩
  refine⟨_,r,?_⟩
  clear r
  have W:=Sb C
  have⟨y,t⟩:=eG C f d
  have A:=(lZ a w).then W (.inr (lZ a w).size)
  refine av (au (((iX x p n 4 pa).length:Nat):Int)) ?_
  by_cases q:4<=(((iX x p n 4 pa).length:Nat):Int)
  ·refine Lv aG (jv q)<|av aG<|aC<|aM<|ay<|av (au 6)<|aC<|Wr<|bK<|sR<|aI (au 6) ?_
   exact⟨_,_,_,_,rfl,.no (by unfold qV; rw[if_neg k,g,if_neg (by decide),if_neg (fun h=>by rw[l]at h; cases h.2),if_pos (by omega)]) (by decide),y,t,A⟩
  refine Lv aF (ji q)<|av aF<|aC<|aK<|Wk<|bP<|sN<|Ws ?_
  have s : ∀ i,i<n->x i≠id:=fun i hi e=>by rw[iW hi e]at g; cases g
  refine Wl<|av ((pt b))<|av ((pt b))<|av ((pt b))<|Lv (.map (some a)) (aL y.aH 0)<|av (aD id)<|av (aD pa)<|Fx.L.NS (by rfl) rfl rfl rfl rfl rfl t Tryz.underlying100 Tryz.underlying28 s fun X O I z2 => ?_
  have E:=t.AB I
  have P:=y.dJ E
  have ac:=U.dJ E
  have K:=A.then I (.inl rfl)
  have Q:Mp X a (n+1) (aQ x n id) (fun j=>aD (aQ p n pa j)):=O.qU (fun i _=>⟨rfl,by unfold aQ; split <;> rfl⟩)
  refine aC<|ay<|av (au 0)<|aC<|Wr<|aI (au 0) ?_
  exact⟨_,_,_,_,rfl,.yes (by unfold qV; rw[if_neg k,g,if_neg (by decide),if_neg (fun h=>by rw[l]at h; cases h.2),if_neg (by omega)]),P,Q,K⟩
 rw[Bool.not_eq_true]at l
 refine kg (Dx x p n b a pa _ f d) aF (by rw[l])<|av aG<|av aG<|av aG<|aC<|aM<|ay<|av (au 9)<|aC<|Wr<|bK<|sR<|aI (au 9) ?_
 exact⟨_,_,_,_,rfl,.no (by unfold qV; rw[if_neg k,g,if_neg (by decide),if_pos ⟨m,l⟩]) (by decide),f,d,(lZ a w)⟩
theorem acO(k:Int)(w:World) :
 Calls Tryz.prog 66 #[aD k] w fun e w'=>e = .returned (.bool true)/\w'=w:=by
 refine Kent Tryz.func66 3 ?_
 refine ay<|av aF<|aC<|ay<|av aG<|aC<|Wr<|aI aG ?_
 exact⟨rfl,rfl⟩
-- (*tree.Tree).Below$1 is not in this seat
end
section
set_option linter.unusedVariables false
namespace Rt
open Go.Sort (ltInt swp)
def gA(d:Array Int):Nat->Int:=fun i=>d[i]!
section
variable {d d':Array Int} {n a b i j k p:Nat}
theorem YZ(e:d.size=n)(hi:i<n)(c:j<n)(k:Nat):gA (swp d i j) k=if k=i then gA d j else if k=j then gA d i else gA d k:=by
 unfold gA
 by_cases b:k=i
 ·subst b
  rw[if_pos rfl]
  by_cases a:k=j
  ·subst a; exact Sort.swp_right d k k (by omega)
  exact Sort.swp_left d k j (by omega) a
 rw[if_neg b]
 by_cases a:k=j
 ·subst a; rw[if_pos rfl]; exact Sort.swp_right d i k (by omega)
 rw[if_neg a]; exact Sort.swp_other d i j k b a
theorem eB(a:d.size=n)(i j:Nat):(swp d i j).size=n:=by rw[Sort.size_swp]; exact a
theorem gQ(e:d.size=n)(hi:i<n)(c:j<n) : ∀ p,p<n*1->dz (dz (rv .u64 (gA d)) i (aD (gA d j))) j (aD (gA d i)) p=rv .u64 (gA (swp d i j)) p:=fun p f=>by
 show _=Value.int .u64 (gA (swp d i j) p)
 rw[YZ e hi c]
 unfold dz
 by_cases b:p=j
 ·subst b
  rw[if_pos rfl]
  by_cases a:p=i
  ·subst a; rw[if_pos rfl]
  ·rw[if_neg a,if_pos rfl]
 ·rw[if_neg b]
  by_cases a:p=i
  ·rw[if_pos a,if_pos a]
  ·rw[if_neg a,if_neg a,if_neg b]; rfl
theorem rY(h:gA d i<gA d j):ltInt d[i]! d[j]! = true:=decide_eq_true h
theorem vQ(h : ¬ gA d i<gA d j):ltInt d[i]! d[j]! = false:=decide_eq_false h
theorem Y0(c:a<j)(b:gA d j<gA d (j-1)):Sort.insInner ltInt a (j-1) (swp d j (j-1))=Sort.insInner ltInt a j d:=by
 obtain⟨k,rfl⟩ : ∃ k,j=k+1:=⟨j-1,by omega⟩
 have b:=rY b
 rw[Nat.add_sub_cancel]at b ⊢
 conv=>rhs; rw[Sort.insInner]
 rw[b,decide_eq_true (show k+1>a by omega)]; rfl
theorem IG(h:j<=a \/ ¬ gA d j<gA d (j-1)):Sort.insInner ltInt a j d=d:=by
 cases j with
 | zero=>rw[Sort.insInner]
 | succ k =>
   rw[Sort.insInner]
   rcases h with h|h
   ·rw[decide_eq_false (show ¬ k+1>a by omega)]; rfl
   ·have h:=vQ h
    rw[Nat.add_sub_cancel]at h
    rw[h,Bool.and_false]; rfl
theorem Qd(h:i<b)(hi:Sort.insInner ltInt a i d=d'):Sort.insOuter ltInt a b (i+1) d'=Sort.insOuter ltInt a b i d:=by
 conv=>rhs; rw[Sort.insOuter,if_pos h]
 rw[hi]
theorem Qe(h : ¬ i<b):Sort.insOuter ltInt a b i d=d:=by rw[Sort.insOuter,if_neg h]
variable {f r hi x0 x1 x2:Nat}
theorem DC(h:hi<=2*r+1):Sort.siftDown ltInt hi f r d=d:=by rw[Sort.siftDown,dif_pos (by omega)]
theorem II(c:x1=f+(2*r+1))(g:x2=f+(2*r+2))(e0:x0=f+r)(h:2*r+1<hi)(b:hi<=2*r+2 \/ ¬ gA d x1<gA d x2) :
 Sort.siftDown ltInt hi f r d=if gA d x0<gA d x1 then Sort.siftDown ltInt hi f (2*r+1) (swp d x0 x1)else d:=by
 rw[Sort.siftDown,dif_neg (by omega)]
 have e:(decide (2*r+1+1<hi)&&ltInt d[f+(2*r+1)]! d[f+(2*r+1)+1]!)=false:=by
  rcases b with b|b
  ·rw[decide_eq_false (by omega),Bool.false_and]
  ·rw[<- c,show x1+1=x2 by omega,vQ b,Bool.and_false]
 rw[e,<- c,<- e0]
 by_cases a:gA d x0<gA d x1
 ·rw[rY a,if_pos a]; rfl
 rw[vQ a,if_neg a]; rfl
theorem Qf(b:x1=f+(2*r+1))(c:x2=f+(2*r+2))(e0:x0=f+r)(h:2*r+2<hi)(e:gA d x1<gA d x2) :
 Sort.siftDown ltInt hi f r d=if gA d x0<gA d x2 then Sort.siftDown ltInt hi f (2*r+2) (swp d x0 x2)else d:=by
 rw[Sort.siftDown,dif_neg (by omega)]
 have g:(decide (2*r+1+1<hi)&&ltInt d[f+(2*r+1)]! d[f+(2*r+1)+1]!)=true:=by
  rw[decide_eq_true (by omega),<- b,show x1+1=x2 by omega,rY e]; rfl
 rw[g,<- c,<- e0]
 by_cases a:gA d x0<gA d x2
 ·rw[rY a,if_pos a]; simp only[if_true,Bool.not_true,dif_pos h]; rfl
 rw[vQ a,if_neg a]; rfl
theorem Qg(a:0<k):Sort.heapBuild ltInt hi f (k-1) (Sort.siftDown ltInt hi f (k-1) d)=Sort.heapBuild ltInt hi f k d:=by
 obtain⟨j,rfl⟩ : ∃ j,k=j+1:=⟨k-1,by omega⟩
 rfl
theorem Y1{x:Nat}(a:0<k)(e:x=f+(k-1)):Sort.heapPop ltInt f (k-1) (Sort.siftDown ltInt (k-1) f 0 (swp d f x))=Sort.heapPop ltInt f k d:=by
 subst e
 obtain⟨j,rfl⟩ : ∃ j,k=j+1:=⟨k-1,by omega⟩
 rfl
theorem CB(h:f+hi<=n) : ∀(m r:Nat) (d:Array Int),hi-r<=m->d.size=n->(Sort.siftDown ltInt hi f r d).size=n
 | 0,r,d,hm,hd=>by rw[DC (by omega)]; exact hd
 | m+1,r,d,hm,hd=>by
   by_cases b:2*r+1<hi
   ·by_cases a:2*r+2<hi/\gA d (f+(2*r+1))<gA d (f+(2*r+2))
    ·rw[Qf rfl rfl rfl a.1 a.2]
     split
     ·exact CB h m _ _ (by omega) (eB hd _ _)
     ·exact hd
    ·rw[II rfl rfl rfl b (by by_cases c:2*r+2<hi; exact .inr fun e=>a ⟨c,e⟩; exact .inl (by omega))]
     split
     ·exact CB h m _ _ (by omega) (eB hd _ _)
     ·exact hd
   ·rw[DC (by omega)]; exact hd
theorem Y2(h:i<j):Sort.reverseLoop (i+1) (j-1) (swp d i j)=Sort.reverseLoop i j d:=by conv=>rhs; rw[Sort.reverseLoop,if_pos h]
theorem Qh(h : ¬ i<j):Sort.reverseLoop i j d=d:=by rw[Sort.reverseLoop,if_neg h]
theorem XH{p:Int->Bool}(h:i<=j)(a:p d[i]! = true):Sort.scanUp p d j (i+1)=Sort.scanUp p d j i:=by
 conv=>rhs; rw[Sort.scanUp,a,decide_eq_true h]
 rfl
theorem rG{p:Int->Bool}(h:j<i\/p d[i]! = false):Sort.scanUp p d j i=i:=by
 rw[Sort.scanUp]
 rcases h with h|h
 ·rw[decide_eq_false (by omega)]; rfl
 rw[h,Bool.and_false]; rfl
theorem XI{p:Int->Bool}(h:i<=j)(b:0<j)(a:p d[j]! = true):Sort.scanDown p d i (j-1)=Sort.scanDown p d i j:=by
 obtain⟨k,rfl⟩ : ∃ k,j=k+1:=⟨j-1,by omega⟩
 conv=>rhs; rw[Sort.scanDown,a,decide_eq_true h]
 rfl
theorem CF{p:Int->Bool}(h:j<i\/p d[j]! = false):Sort.scanDown p d i j=j:=by
 cases j with
 | zero=>rfl
 | succ k =>
   rw[Sort.scanDown]
   rcases h with h|h
   ·rw[decide_eq_false (by omega)]; rfl
   ·rw[h,Bool.and_false]; rfl
theorem Qi(h:i<=j)(b:gA d i<gA d a):Sort.partLoop ltInt a (i+1) j d=Sort.partLoop ltInt a i j d:=by
 rw[Sort.partLoop_eq,Sort.partLoop_eq (i:=i),XH (p:=fun x=>ltInt x d[a]!) h (rY b)]
theorem Fq(h:i<=j)(c:0<j)(b : ¬ gA d i<gA d a)(e : ¬ gA d j<gA d a):Sort.partLoop ltInt a i (j-1) d=Sort.partLoop ltInt a i j d:=by
 rw[Sort.partLoop_eq,Sort.partLoop_eq (j:=j),rG (p:=fun x=>ltInt x d[a]!) (.inr (vQ b)),rG (p:=fun x=>ltInt x d[a]!) (.inr (vQ b)),XI (p:=fun x => !ltInt x d[a]!) h c (by rw[vQ e]; rfl)]
theorem Fu(h:i<=j)(c : ¬ gA d i<gA d a)(b:gA d j<gA d a):Sort.partLoop ltInt a (i+1) (j-1) (swp d i j)=Sort.partLoop ltInt a i j d:=by
 rw[Sort.partLoop_eq (i:=i),rG (p:=fun x=>ltInt x d[a]!) (.inr (vQ c)),CF (p:=fun x => !ltInt x d[a]!) (.inr (by rw[rY b]; rfl)),if_neg (by omega)]
theorem AP(h:j<i):Sort.partLoop ltInt a i j d=(j,d):=by
 rw[Sort.partLoop_eq,rG (p:=fun x=>ltInt x d[a]!) (.inl h),CF (p:=fun x => !ltInt x d[a]!) (.inl h),if_pos h]
theorem acP(h:i<=j)(b : ¬ gA d a<gA d i):Sort.partEqLoop ltInt a (i+1) j d=Sort.partEqLoop ltInt a i j d:=by
 rw[Sort.partEqLoop_eq,Sort.partEqLoop_eq (i:=i),XH (p:=fun x => !ltInt d[a]! x) h (by rw[vQ b]; rfl)]
theorem XJ(h:i<=j)(c:0<j)(b:gA d a<gA d i)(e:gA d a<gA d j):Sort.partEqLoop ltInt a i (j-1) d=Sort.partEqLoop ltInt a i j d:=by
 rw[Sort.partEqLoop_eq,Sort.partEqLoop_eq (j:=j),rG (p:=fun x => !ltInt d[a]! x) (.inr (by rw[rY b]; rfl)),rG (p:=fun x => !ltInt d[a]! x) (.inr (by rw[rY b]; rfl)),XI (p:=fun x=>ltInt d[a]! x) h c (rY e)]
theorem XK(h:i<=j)(c:gA d a<gA d i)(b : ¬ gA d a<gA d j):Sort.partEqLoop ltInt a (i+1) (j-1) (swp d i j)=Sort.partEqLoop ltInt a i j d:=by
 rw[Sort.partEqLoop_eq (i:=i),rG (p:=fun x => !ltInt d[a]! x) (.inr (by rw[rY c]; rfl)),CF (p:=fun x=>ltInt d[a]! x) (.inr (vQ b)),if_neg (by omega)]
theorem Qj(h:j<i):Sort.partEqLoop ltInt a i j d=(i,d):=by
 rw[Sort.partEqLoop_eq,rG (p:=fun x => !ltInt d[a]! x) (.inl h),CF (p:=fun x=>ltInt d[a]! x) (.inl h),if_pos h]
theorem KN(a:Nat)(d:Array Int):Sort.SortedIn ltInt a (a+1) d:=fun i j b c e=>by omega
end
end Rt
end
section
open Rt
set_option maxRecDepth 10000
theorem acQ(n:Int)(w:World) :
 Calls Tryz.prog 70 #[aD n] w fun e w'=>e = .returned (.bool false)/\w'=w:=by
 refine Kent Tryz.func70 6 ?_
 refine ay<|av aF<|aC<|ay<|av (aD n)<|av (aD n)<|Lv aF (jJ rfl)<|av aF<|aC<|Wr<|aI aF ?_
 exact⟨rfl,rfl⟩
theorem dI(a b:Int)(w:World) :
 Calls Tryz.prog 135 #[aD a,aD b] w fun e w'=>e = .returned (.bool (decide (a<b)))/\w'=w:=by
 refine Kent Tryz.func135 17 ?_
 refine ay<|av aF<|aC<|ay<|av (aD a)<|kg (acQ a _) _ rfl<|av aF<|cB<|cB<|cB<|av aF<|av aF<|av (aD a)<|av (aD b)<|Lv (.bool (decide (a<b))) (Fx.Pp rfl rfl rfl)<|av (.bool (decide (a<b)))<|av (.bool (decide (a<b)))<|aC<|Wr<|aI (.bool (decide (a<b))) ?_
 exact⟨rfl,rfl⟩
theorem acR(a b:Nat)(B g n cap:Nat)(d:Array Int)(w:World)(h:Fx.Own w B 28 1 (bI g n cap) n (rv .u64 (gA d)))(p:B<=w.heap.size)(Y:d.size=n)(hs:n<=1000)(ha:a<=b)(hb:b<=n) :
 Calls Tryz.prog 129 #[bI g n cap,au ((a:Int)),au ((b:Int))] w fun e w'=>e = .returned (.tuple #[])/\Fx.Own w' B 28 1 (bI g n cap) n (rv .u64 (gA (Sort.insertionSort Sort.ltInt d a b)))/\Below B w w':=by
 refine Kent Tryz.func129 49 ?_
 refine ay<|av (au a)<|Lv (au ((a:Int)+1)) eZ<|av (au ((a:Int)+1))<|aC<|Wb<|Wo (fun f u => ∃ i:Nat,∃ o:Array Int,(a<i/\i<=b+1)/\o.size=n/\Sort.insOuter Sort.ltInt a b i o=Sort.insOuter Sort.ltInt a b (a+1) d/\f 0=bI g n cap/\f 1=au ((a:Int))/\f 2=au ((b:Int))/\f 6=au ((i:Int))/\Fx.Own u B 28 1 (bI g n cap) n (rv .u64 (gA o))/\Below B w u) (fun f _=>((b:Int)+1-intOf (f 6)).toNat) ⟨a+1,d,(by omega),Y,rfl,(by rfl),Fx.ic,Fx.ic,Fx.ic,h,(Below.refl B w)⟩ ?_
 rintro f1 w1 ⟨i,o,hi,X,x,V,W,K,s,P,F⟩
 refine Ws<|ay<|aS s<|aS K ?_
 by_cases I:(i:Int)<(b:Int)
 ·refine Lv aG (gy I)<|aC<|aM<|Wk<|sN<|Ws<|Wb<|ay<|aS s<|av (au i)<|aC<|Wb<|Wo (fun f u => ∃ j:Nat,∃ c:Array Int,(a<=j/\j<=i)/\c.size=n/\Sort.insInner Sort.ltInt a j c=Sort.insInner Sort.ltInt a i o/\f 0=bI g n cap/\f 1=au ((a:Int))/\f 2=au ((b:Int))/\f 6=au ((i:Int))/\f 7=au ((j:Int))/\Fx.Own u B 28 1 (bI g n cap) n (rv .u64 (gA c))/\Below B w u) (fun f _=>(intOf (f 7)).toNat) ⟨i,o,(by omega),X,rfl,V,(W.trans Fx.ic),(K.trans Fx.ic),(s.trans Fx.ic),Fx.ic,P,F⟩ ?_
  rintro f2 w2 ⟨j,c,hji,y,E,k,v,C,D,l,t,A⟩
  refine Ws<|Ws ?_
  -- region 4 draws
  refine kZ<|dS l<|dS v ?_
  by_cases J:(a:Int)<(j:Int)
  ·refine Qv aG (fun q m=>jY J)<|aR aG<|dS k<|dS l<|Qv ((pf g j)) (fun q m=>cu 1)<|Qv (aD ((gA c) j)) (fun q m=>aL (t.cb m) j)<|dS k<|dS l<|Qv (au ((j:Int)-1)) (fun q m=>fO)<|Qv ((pf g (j-1))) (fun q m=>cu 1)<|Qv (aD ((gA c) (j-1))) (fun q m=>aL (t.cb m) (j-1)) ?_
   by_cases r:(decide ((gA c) j<(gA c) (j-1)))=true
   ·refine oz (fun _ _=>dI ((gA c) j) ((gA c) (j-1)) _) aG (by rw[r])<|aR aG<|Qn ?_
    intro UR L
    have Z:=aY L t
    have R:=dX L A p
    refine sN<|aM<|Wk<|sN<|Ws<|Wb ?_
    -- region 6 draws
    refine jo [0,1,2,3,4,5,6,7,8,10,11,12,9,13,14,15,16,17] [0,0,0,0,0,0,0,0,0,4,0,0,0,4,0,3,0,3] [(15,9,[9]),(17,9,[9]),(15,13,[13]),(17,13,[13]),(16,15,[15]),(17,15,[15])] fun oU O gU => ?_
    have z:=aY O Z
    have G:=dX O R p
    refine bQ k<|bQ l<|bQ k<|bQ l<|Rp (au ((j:Int)-1)) (fun _=>fO)<|bQ k<|bQ l<|Rp (au ((j:Int)-1)) (fun _=>fO)<|Rp ((pf g (j-1))) (fun _=>cu 1)<|bQ k<|bQ l<|Rp ((pf g j)) (fun _=>cu 1)<|Rs (aD ((gA c) (j-1))) (aL z.aH (j-1)) ?_
    refine Rs (aD ((gA c) j)) (aL z.aH j) ?_
    refine Rp ((pf g j)) (fun _=>cu 1)<|fQ<|oC z j (aD ((gA c) (j-1))) fun w3 Q s3 z1 => ?_
    have H:=s3.below G (Nat.le_trans p G.size) z.blk.1
    refine Ln<|Rp ((pf g (j-1))) (fun _=>cu 1)<|fQ<|oC Q (j-1) (aD ((gA c) j)) fun w4 m6 s4 z2 => ?_
    have S:=s4.below H (Nat.le_trans p H.size) Q.blk.1
    have m7:Fx.Own w4 B 28 1 (bI g n cap) n (rv .u64 (gA (Sort.swp c j (j-1)))):=m6.congr (gQ y (by omega) (by omega))
    refine Ln<|Rn<|bP<|sN<|Wl<|aS l<|Lv (au ((j:Int)-1)) fO<|av (au ((j:Int)-1))<|Ln<|gJ ⟨j-1,Sort.swp c j (j-1),(by omega),(eB y _ _),((Y0 (by omega) (of_decide_eq_true r)).trans E),k,(v.trans Fx.ic),(C.trans Fx.ic),(D.trans Fx.ic),Fx.ic,m7,S⟩ ?_
    show(intOf ((au ((j:Int)-1)))).toNat<_
    simp only[l,intOf]; omega
   rw[Bool.not_eq_true]at r
   refine oz (fun _ _=>dI ((gA c) j) ((gA c) (j-1)) _) aF (by rw[r])<|aR aF<|Qn ?_
   intro XL M
   have m8:=aY M t
   have T:=dX M A p
   refine sN<|aK<|Wx<|bV<|fU<|bW<|bP<|sN<|Wl<|aS D<|Lv (au ((i:Int)+1)) eZ<|av (au ((i:Int)+1))<|Ln<|gJ ⟨i+1,c,(by omega),y,((Qd (by omega) (E.symm.trans (IG (.inr (of_decide_eq_false r))))).trans x),k,(v.trans Fx.ic),(C.trans Fx.ic),Fx.ic,m8,T⟩ ?_
   show((b:Int)+1-intOf ((au ((i:Int)+1)))).toNat<_
   simp only[s,intOf]; omega
  refine Qv aF (fun q m=>jZ J)<|aR aF<|aN<|aN<|aN<|aN<|aN<|aN<|aN<|aN<|aN<|aN<|aR aF<|Qn ?_
  intro Y3 N
  have m9:=aY N t
  have U:=dX N A p
  refine sN<|aK<|Wx<|bV<|fU<|bW<|bP<|sN<|Wl<|aS D<|Lv (au ((i:Int)+1)) eZ<|av (au ((i:Int)+1))<|Ln<|gJ ⟨i+1,c,(by omega),y,((Qd (by omega) (E.symm.trans (IG (.inl (by omega))))).trans x),k,(v.trans Fx.ic),(C.trans Fx.ic),Fx.ic,m9,U⟩ ?_
  show((b:Int)+1-intOf ((au ((i:Int)+1)))).toNat<_
  simp only[s,intOf]; omega
 refine Lv aF (gD I) (aC (aK (Wx (bV (fU (bW (⟨.tuple #[],iH Tryz.results129,?_⟩)))))))
 rw[Qe (by omega)]at x; subst x; exact⟨rfl,P,F⟩
end
section
open Rt
set_option maxRecDepth 10000
theorem Y4(q hi a:Nat)(B g n cap:Nat)(d:Array Int)(w:World)(h:Fx.Own w B 28 1 (bI g n cap) n (rv .u64 (gA d)))(l:B<=w.heap.size)(hn:d.size=n)(hs:n<=1000)(hf:a+hi<=n/\q<=1000) :
 Calls Tryz.prog 141 #[bI g n cap,au ((q:Int)),au ((hi:Int)),au ((a:Int))] w fun e w'=>e = .returned (.tuple #[])/\Fx.Own w' B 28 1 (bI g n cap) n (rv .u64 (gA (Sort.siftDown Sort.ltInt hi a q d)))/\Below B w w':=by
 obtain⟨hf,hlo⟩:=hf
 refine Kent Tryz.func141 76 ?_
 refine ay<|av (au q)<|av (au q)<|aC<|Wb<|Wo (fun f w_ => ∃ r:Nat,∃ b:Array Int,b.size=n/\Sort.siftDown Sort.ltInt hi a r b=Sort.siftDown Sort.ltInt hi a q d/\r<=hi+q/\f 0=bI g n cap/\f 1=au ((q:Int))/\f 2=au ((hi:Int))/\f 3=au ((a:Int))/\f 8=au ((r:Int))/\Fx.Own w_ B 28 1 (bI g n cap) n (rv .u64 (gA b))/\Below B w w_) (fun f _=>((hi:Int)+q-intOf (f 8)).toNat) ⟨q,d,hn,rfl,(by omega),(by rfl),Fx.ic,Fx.ic,Fx.ic,Fx.ic,h,(Below.refl B w)⟩ ?_
 rintro f1 w1 ⟨r,b,t,o,hr,j,F,v,k,p,u,x⟩
 refine Wb<|ay<|aS p<|Lv (au (2*(r:Int))) (Fx.EZ rfl rfl rfl Fx.io)<|Lv (au (2*(r:Int)+1)) eZ<|av (au (2*(r:Int)+1))<|aC<|Ws<|ay<|av (au (2*(r:Int)+1))<|aS v ?_
 by_cases P:(hi:Int)<=(2*(r:Int)+1)
 ·refine Lv aG (jv P) (aC (aM (Wx (bV (Fx.Kn rfl (fU (bW (⟨.tuple #[],iH Tryz.results141,?_⟩))))))))
  rw[DC (by omega)]at o; subst o; exact⟨rfl,u,x⟩
 refine Lv aF (ji P)<|aC<|aK<|Wk<|sN<|Ws<|Ws ?_
 -- region 3 draws
 refine kZ<|aR (au (2*(r:Int)+1))<|Qv (au (2*(r:Int)+2)) (fun i c=>eZ)<|dS v ?_
 by_cases Q:(2*(r:Int)+2)<(hi:Int)
 ·refine Qv aG (fun i c=>gy Q)<|aR aG<|dS j<|dS k<|aR (au (2*(r:Int)+1))<|Qv (au ((a:Int)+2*(r:Int)+1)) (fun i c=>eZ)<|Qv ((pf g (a+2*r+1))) (fun i c=>cu 1)<|Qv (aD ((gA b) (a+2*r+1))) (fun i c=>aL (u.cb c) (a+2*r+1))<|dS j<|dS k<|aR (au (2*(r:Int)+1))<|Qv (au ((a:Int)+2*(r:Int)+1)) (fun i c=>eZ)<|Qv (au ((a:Int)+2*(r:Int)+2)) (fun i c=>eZ)<|Qv ((pf g (a+2*r+2))) (fun i c=>cu 1)<|Qv (aD ((gA b) (a+2*r+2))) (fun i c=>aL (u.cb c) (a+2*r+2)) ?_
  by_cases s:(decide ((gA b) (a+2*r+1)<(gA b) (a+2*r+2)))=true
  ·refine oz (fun _ _=>dI ((gA b) (a+2*r+1)) ((gA b) (a+2*r+2)) _) aG (by rw[s])<|aR aG<|Qn ?_
   intro UR R
   have C:=aY R u
   have L:=dX R x l
   refine sN<|aM<|Wl<|av (au (2*(r:Int)+1))<|Lv (au (2*(r:Int)+2)) eZ<|av (au (2*(r:Int)+2))<|aC<|Ws<|Ws ?_
   -- region 5 draws
   refine kZ<|dS j<|dS k<|dS p<|Qv (au ((a:Int)+(r:Int))) (fun i c=>eZ)<|Qv ((pf g (a+r))) (fun i c=>cu 1)<|Qv (aD ((gA b) (a+r))) (fun i c=>aL (C.cb c) (a+r))<|dS j<|dS k<|aR (au (2*(r:Int)+2))<|Qv (au ((a:Int)+2*(r:Int)+2)) (fun i c=>eZ)<|Qv ((pf g (a+2*r+2))) (fun i c=>cu 1)<|Qv (aD ((gA b) (a+2*r+2))) (fun i c=>aL (C.cb c) (a+2*r+2)) ?_
   by_cases m:(decide ((gA b) (a+r)<(gA b) (a+2*r+2)))=true
   ·refine oz (fun _ _=>dI ((gA b) (a+r)) ((gA b) (a+2*r+2)) _) aG (by rw[m])<|aR aF<|Qn ?_
    intro XL S
    have m3:=aY S C
    have b3:=dX S L l
    refine sN<|aK<|Wk<|sN<|Ws ?_
    -- region 6 draws
    refine jo [0,1,2,3,4,5,6,7,8,9,10,11,12,14,15,16,17,18,13,19,20,21,22,23] [0,0,0,0,0,0,0,0,0,0,0,0,0,4,0,0,0,0,0,4,0,3,0,3] [(21,13,[13]),(23,13,[13]),(21,19,[19]),(23,19,[19]),(22,21,[21]),(23,21,[21])] fun oU aa gU => ?_
    have D:=aY aa m3
    have M:=dX aa b3 l
    refine bQ j<|bQ k<|bQ p<|Rp (au ((a:Int)+(r:Int))) (fun _=>eZ)<|bQ j<|bQ k<|aV (au (2*(r:Int)+2))<|Rp (au ((a:Int)+2*(r:Int)+2)) (fun _=>eZ)<|bQ j<|bQ k<|aV (au (2*(r:Int)+2))<|Rp (au ((a:Int)+2*(r:Int)+2)) (fun _=>eZ)<|Rp ((pf g (a+2*r+2))) (fun _=>cu 1)<|bQ j<|bQ k<|bQ p<|Rp (au ((a:Int)+(r:Int))) (fun _=>eZ)<|Rp ((pf g (a+r))) (fun _=>cu 1)<|Rs (aD ((gA b) (a+2*r+2))) (aL D.aH (a+2*r+2)) ?_
    refine Rs (aD ((gA b) (a+r))) (aL D.aH (a+r)) ?_
    refine Rp ((pf g (a+r))) (fun _=>cu 1)<|fQ<|oC D (a+r) (aD ((gA b) (a+2*r+2))) fun w2 m5 s4 z1 => ?_
    have N:=s4.below M (Nat.le_trans l M.size) D.blk.1
    refine Ln<|Rp ((pf g (a+2*r+2))) (fun _=>cu 1)<|fQ<|oC m5 (a+2*r+2) (aD ((gA b) (a+r))) fun w3 m6 s5 z2 => ?_
    have b6:=s5.below N (Nat.le_trans l N.size) m5.blk.1
    have m7:Fx.Own w3 B 28 1 (bI g n cap) n (rv .u64 (gA (Sort.swp b (a+r) (a+2*r+2)))):=m6.congr (gQ t (by omega) (by omega))
    refine Ln<|bM<|Wl<|av (au (2*(r:Int)+2))<|av (au (2*(r:Int)+2))<|Ln<|bP<|gJ ⟨2*r+2,Sort.swp b (a+r) (a+2*r+2),(eB t _ _),(by rw[Qf (x0:=a+r) (x1:=a+2*r+1) (x2:=a+2*r+2) (by omega) (by omega) rfl (by omega) (of_decide_eq_true s),if_pos (of_decide_eq_true m)]at o; exact o),(by omega),j,(F.trans Fx.ic),(v.trans Fx.ic),(k.trans Fx.ic),Fx.ic,m7,b6⟩ ?_
    show((hi:Int)+q-intOf ((au (2*(r:Int)+2)))).toNat<_
    simp only[p,intOf]; omega
   rw[Bool.not_eq_true]at m
   refine oz (fun _ _=>dI ((gA b) (a+r)) ((gA b) (a+2*r+2)) _) aF (by rw[m])<|aR aG<|Qn ?_
   intro Y3 T
   have m8:=aY T C
   have b7:=dX T L l
   refine sN (aM (Wr (sR (bK (oQ (bK (⟨.tuple #[],iH Tryz.results141,?_⟩)))))))
   rw[Qf (x0:=a+r) (x1:=a+2*r+1) (x2:=a+2*r+2) (by omega) (by omega) rfl (by omega) (of_decide_eq_true s),if_neg (of_decide_eq_false m)]at o; subst o; exact⟨rfl,m8,b7⟩
  rw[Bool.not_eq_true]at s
  refine oz (fun _ _=>dI ((gA b) (a+2*r+1)) ((gA b) (a+2*r+2)) _) aF (by rw[s])<|aR aF<|Qn ?_
  intro wb4 U
  have E:=aY U u
  have O:=dX U x l
  refine sN<|aK<|Wk<|sN<|Ws<|Ws ?_
  -- region 5 draws
  refine kZ<|dS j<|dS k<|dS p<|Qv (au ((a:Int)+(r:Int))) (fun i c=>eZ)<|Qv ((pf g (a+r))) (fun i c=>cu 1)<|Qv (aD ((gA b) (a+r))) (fun i c=>aL (E.cb c) (a+r))<|dS j<|dS k<|aR (au (2*(r:Int)+1))<|Qv (au ((a:Int)+2*(r:Int)+1)) (fun i c=>eZ)<|Qv ((pf g (a+2*r+1))) (fun i c=>cu 1)<|Qv (aD ((gA b) (a+2*r+1))) (fun i c=>aL (E.cb c) (a+2*r+1)) ?_
  by_cases m:(decide ((gA b) (a+r)<(gA b) (a+2*r+1)))=true
  ·refine oz (fun _ _=>dI ((gA b) (a+r)) ((gA b) (a+2*r+1)) _) aG (by rw[m])<|aR aF<|Qn ?_
   intro wb5 V
   have m10:=aY V E
   have b9:=dX V O l
   refine sN<|aK<|Wk<|sN<|Ws ?_
   -- region 6 draws
   refine jo [0,1,2,3,4,5,6,7,8,9,10,11,12,14,15,16,17,18,13,19,20,21,22,23] [0,0,0,0,0,0,0,0,0,0,0,0,0,4,0,0,0,0,0,4,0,3,0,3] [(21,13,[13]),(23,13,[13]),(21,19,[19]),(23,19,[19]),(22,21,[21]),(23,21,[21])] fun yP ab lQ => ?_
   have y:=aY ab m10
   have G:=dX ab b9 l
   refine bQ j<|bQ k<|bQ p<|Rp (au ((a:Int)+(r:Int))) (fun _=>eZ)<|bQ j<|bQ k<|aV (au (2*(r:Int)+1))<|Rp (au ((a:Int)+2*(r:Int)+1)) (fun _=>eZ)<|bQ j<|bQ k<|aV (au (2*(r:Int)+1))<|Rp (au ((a:Int)+2*(r:Int)+1)) (fun _=>eZ)<|Rp ((pf g (a+2*r+1))) (fun _=>cu 1)<|bQ j<|bQ k<|bQ p<|Rp (au ((a:Int)+(r:Int))) (fun _=>eZ)<|Rp ((pf g (a+r))) (fun _=>cu 1)<|Rs (aD ((gA b) (a+2*r+1))) (aL y.aH (a+2*r+1)) ?_
   refine Rs (aD ((gA b) (a+r))) (aL y.aH (a+r)) ?_
   refine Rp ((pf g (a+r))) (fun _=>cu 1)<|fQ<|oC y (a+r) (aD ((gA b) (a+2*r+1))) fun w4 m12 s10 z3 => ?_
   have H:=s10.below G (Nat.le_trans l G.size) y.blk.1
   refine Ln<|Rp ((pf g (a+2*r+1))) (fun _=>cu 1)<|fQ<|oC m12 (a+2*r+1) (aD ((gA b) (a+r))) fun w5 m13 s11 z4 => ?_
   have b12:=s11.below H (Nat.le_trans l H.size) m12.blk.1
   have m14:Fx.Own w5 B 28 1 (bI g n cap) n (rv .u64 (gA (Sort.swp b (a+r) (a+2*r+1)))):=m13.congr (gQ t (by omega) (by omega))
   refine Ln<|bM<|Wl<|av (au (2*(r:Int)+1))<|av (au (2*(r:Int)+1))<|Ln<|bP<|gJ ⟨2*r+1,Sort.swp b (a+r) (a+2*r+1),(eB t _ _),(by rw[II (x0:=a+r) (x1:=a+2*r+1) (x2:=a+2*r+2) (by omega) (by omega) rfl (by omega) (.inr (of_decide_eq_false s)),if_pos (of_decide_eq_true m)]at o; exact o),(by omega),j,(F.trans Fx.ic),(v.trans Fx.ic),(k.trans Fx.ic),Fx.ic,m14,b12⟩ ?_
   show((hi:Int)+q-intOf ((au (2*(r:Int)+1)))).toNat<_
   simp only[p,intOf]; omega
  rw[Bool.not_eq_true]at m
  refine oz (fun _ _=>dI ((gA b) (a+r)) ((gA b) (a+2*r+1)) _) aF (by rw[m])<|aR aG<|Qn ?_
  intro wb6 W
  have m15:=aY W E
  have b13:=dX W O l
  refine sN (aM (Wr (sR (bK (oQ (bK (⟨.tuple #[],iH Tryz.results141,?_⟩)))))))
  rw[II (x0:=a+r) (x1:=a+2*r+1) (x2:=a+2*r+2) (by omega) (by omega) rfl (by omega) (.inr (of_decide_eq_false s)),if_neg (of_decide_eq_false m)]at o; subst o; exact⟨rfl,m15,b13⟩
 refine Qv aF (fun i c=>gD Q)<|aR aF<|aN<|aN<|aN<|aN<|aN<|aN<|aN<|aN<|aN<|aN<|aN<|aN<|aN<|aN<|aR aF<|Qn ?_
 intro wb7 X
 have z:=aY X u
 have I:=dX X x l
 refine sN<|aK<|Wk<|sN<|Ws<|Ws ?_
 -- region 5 draws
 refine kZ<|dS j<|dS k<|dS p<|Qv (au ((a:Int)+(r:Int))) (fun i c=>eZ)<|Qv ((pf g (a+r))) (fun i c=>cu 1)<|Qv (aD ((gA b) (a+r))) (fun i c=>aL (z.cb c) (a+r))<|dS j<|dS k<|aR (au (2*(r:Int)+1))<|Qv (au ((a:Int)+2*(r:Int)+1)) (fun i c=>eZ)<|Qv ((pf g (a+2*r+1))) (fun i c=>cu 1)<|Qv (aD ((gA b) (a+2*r+1))) (fun i c=>aL (z.cb c) (a+2*r+1)) ?_
 by_cases m:(decide ((gA b) (a+r)<(gA b) (a+2*r+1)))=true
 ·refine oz (fun _ _=>dI ((gA b) (a+r)) ((gA b) (a+2*r+1)) _) aG (by rw[m])<|aR aF<|Qn ?_
  intro wb8 Y
  have m17:=aY Y z
  have b15:=dX Y I l
  refine sN<|aK<|Wk<|sN<|Ws ?_
  -- region 6 draws
  refine jo [0,1,2,3,4,5,6,7,8,9,10,11,12,14,15,16,17,18,13,19,20,21,22,23] [0,0,0,0,0,0,0,0,0,0,0,0,0,4,0,0,0,0,0,4,0,3,0,3] [(21,13,[13]),(23,13,[13]),(21,19,[19]),(23,19,[19]),(22,21,[21]),(23,21,[21])] fun Pb ac zH => ?_
  have A:=aY ac m17
  have J:=dX ac b15 l
  refine bQ j<|bQ k<|bQ p<|Rp (au ((a:Int)+(r:Int))) (fun _=>eZ)<|bQ j<|bQ k<|aV (au (2*(r:Int)+1))<|Rp (au ((a:Int)+2*(r:Int)+1)) (fun _=>eZ)<|bQ j<|bQ k<|aV (au (2*(r:Int)+1))<|Rp (au ((a:Int)+2*(r:Int)+1)) (fun _=>eZ)<|Rp ((pf g (a+2*r+1))) (fun _=>cu 1)<|bQ j<|bQ k<|bQ p<|Rp (au ((a:Int)+(r:Int))) (fun _=>eZ)<|Rp ((pf g (a+r))) (fun _=>cu 1)<|Rs (aD ((gA b) (a+2*r+1))) (aL A.aH (a+2*r+1)) ?_
  refine Rs (aD ((gA b) (a+r))) (aL A.aH (a+r)) ?_
  refine Rp ((pf g (a+r))) (fun _=>cu 1)<|fQ<|oC A (a+r) (aD ((gA b) (a+2*r+1))) fun w6 m19 s16 z5 => ?_
  have K:=s16.below J (Nat.le_trans l J.size) A.blk.1
  refine Ln<|Rp ((pf g (a+2*r+1))) (fun _=>cu 1)<|fQ<|oC m19 (a+2*r+1) (aD ((gA b) (a+r))) fun w7 m20 H7 z6 => ?_
  have b18:=H7.below K (Nat.le_trans l K.size) m19.blk.1
  have m21:Fx.Own w7 B 28 1 (bI g n cap) n (rv .u64 (gA (Sort.swp b (a+r) (a+2*r+1)))):=m20.congr (gQ t (by omega) (by omega))
  refine Ln<|bM<|Wl<|av (au (2*(r:Int)+1))<|av (au (2*(r:Int)+1))<|Ln<|bP<|gJ ⟨2*r+1,Sort.swp b (a+r) (a+2*r+1),(eB t _ _),(by rw[II (x0:=a+r) (x1:=a+2*r+1) (x2:=a+2*r+2) (by omega) (by omega) rfl (by omega) (.inl (by omega)),if_pos (of_decide_eq_true m)]at o; exact o),(by omega),j,(F.trans Fx.ic),(v.trans Fx.ic),(k.trans Fx.ic),Fx.ic,m21,b18⟩ ?_
  show((hi:Int)+q-intOf ((au (2*(r:Int)+1)))).toNat<_
  simp only[p,intOf]; omega
 rw[Bool.not_eq_true]at m
 refine oz (fun _ _=>dI ((gA b) (a+r)) ((gA b) (a+2*r+1)) _) aF (by rw[m])<|aR aG<|Qn ?_
 intro wb9 Z
 have m22:=aY Z z
 have b19:=dX Z I l
 refine sN (aM (Wr (sR (bK (oQ (bK (⟨.tuple #[],iH Tryz.results141,?_⟩)))))))
 rw[II (x0:=a+r) (x1:=a+2*r+1) (x2:=a+2*r+2) (by omega) (by omega) rfl (by omega) (.inl (by omega)),if_neg (of_decide_eq_false m)]at o; subst o; exact⟨rfl,m22,b19⟩
theorem Mr{i f c:Int}(b hi a:Nat)(l:i=(b:Int))(k:f=(hi:Int))(j:c=(a:Int))(B g n cap:Nat)(d:Array Int)(w:World)(h:Fx.Own w B 28 1 (bI g n cap) n (rv .u64 (gA d)))(m:B<=w.heap.size)(p:d.size=n)(q:n<=1000)(o:a+hi<=n/\b<=1000) :
 Calls Tryz.prog 141 #[bI g n cap,au i,au f,au c] w fun e w'=>e = .returned (.tuple #[])/\Fx.Own w' B 28 1 (bI g n cap) n (rv .u64 (gA (Sort.siftDown Sort.ltInt hi a b d)))/\Below B w w':=by
 subst l k j; exact Y4 b hi a B g n cap d w h m p q o
theorem Y5(a b:Nat)(B g n cap:Nat)(d:Array Int)(w:World)(h:Fx.Own w B 28 1 (bI g n cap) n (rv .u64 (gA d)))(p:B<=w.heap.size)(hn:d.size=n)(Q:n<=1000)(ha:a<b)(hb:b<=n) :
 Calls Tryz.prog 130 #[bI g n cap,au ((a:Int)),au ((b:Int))] w fun e w'=>e = .returned (.tuple #[])/\Fx.Own w' B 28 1 (bI g n cap) n (rv .u64 (gA (Sort.heapSort Sort.ltInt d a b)))/\Below B w w':=by
 obtain⟨j,aa⟩ : ∃ j,j=(b-a-1) / 2:=⟨_,rfl⟩
 refine Kent Tryz.func130 56 ?_
 refine ay<|av (au a)<|av (au a)<|aC<|ay<|av (au 0)<|aC<|ay<|av (au b)<|av (au a)<|Lv (au ((b:Int)-(a:Int))) fO<|av (au ((b:Int)-(a:Int)))<|aC<|Ws<|ay<|av (au ((b:Int)-(a:Int)))<|Lv (au ((b:Int)-(a:Int)-1)) fO<|Lv (au j) (Fx.BF rfl rfl rfl (by omega) (iA (by omega) (by rw[Int.tdiv_eq_ediv_of_nonneg (by omega)]; omega)))<|av (au j)<|aC<|Wb<|Wo (fun f q => ∃ k:Nat,∃ c:Array Int,c.size=n/\Sort.heapBuild Sort.ltInt (b-a) a k c=Sort.heapBuild Sort.ltInt (b-a) a (j+1) d/\k<=j+1/\f 0=bI g n cap/\f 1=au ((a:Int))/\f 2=au ((b:Int))/\f 6=au ((a:Int))/\f 7=au 0/\f 8=au ((b:Int)-(a:Int))/\f 9=au ((k:Int)-1)/\Fx.Own q B 28 1 (bI g n cap) n (rv .u64 (gA c))/\Below B w q) (fun f _=>(intOf (f 9)+1).toNat) ⟨j+1,d,hn,rfl,(by omega),(by rfl),Fx.ic,Fx.ic,Fx.ic,Fx.ic,Fx.ic,Fx.ic,h,(Below.refl B w)⟩ ?_
 rintro f1 w1 ⟨k,c,z,N,hkm,u,K,L,v,M,y,r,R,t⟩
 refine Ws<|ay<|aS r ?_
 by_cases G:0<=((k:Int)-1)
 ·refine Lv aG (jv G)<|aC<|aM<|Wk<|sN<|Ws<|Wb<|Wl<|aS u<|aS r<|aS y<|aS v<|dA (Mr (k-1) (b-a) a (by omega) (by omega) (by omega) B g n cap c _ R (Nat.le_trans p t.size) z Q ⟨by omega,by omega⟩) (ax := #[bI g n cap,au ((k:Int)-1),au ((b:Int)-(a:Int)),au ((a:Int))]) _ rfl ?_
  rintro w2 ⟨m2,Y⟩
  have U:=t.trans Y
  refine Ln<|bP<|sN<|Wl<|aS r<|Lv (au ((k:Int)-2)) fO<|av (au ((k:Int)-2))<|Ln<|gJ ⟨k-1,Sort.siftDown Sort.ltInt (b-a) a (k-1) c,(CB (by omega) _ _ _ (Nat.le_refl _) z),((Qg (by omega)).trans N),(by omega),u,(K.trans Fx.ic),(L.trans Fx.ic),(v.trans Fx.ic),(M.trans Fx.ic),(y.trans Fx.ic),Fx.ic,m2,U⟩ ?_
  show(intOf ((au ((k:Int)-2)))+1).toNat<_
  simp only[r,intOf]; omega
 refine Lv aF (ji G)<|aC<|aK<|Wx<|bV<|fU<|bW<|sN<|ay<|aS y<|Lv (au ((b:Int)-(a:Int)-1)) fO<|av (au ((b:Int)-(a:Int)-1))<|aC<|Wb ?_
 obtain rfl:k=0:=by omega
 obtain⟨I,hd1⟩ : ∃ I,I=c:=⟨_,rfl⟩
 refine Wo (fun f q => ∃ k2:Nat,∃ i:Array Int,i.size=n/\Sort.heapPop Sort.ltInt a k2 i=Sort.heapPop Sort.ltInt a (b-a) c/\k2<=b-a/\f 0=bI g n cap/\f 1=au ((a:Int))/\f 2=au ((b:Int))/\f 6=au ((a:Int))/\f 7=au 0/\f 10=au ((k2:Int)-1)/\Fx.Own q B 28 1 (bI g n cap) n (rv .u64 (gA i))/\Below B w q) (fun f _=>(intOf (f 10)+1).toNat) ⟨b-a,c,z,rfl,(by omega),u,(K.trans Fx.ic),(L.trans Fx.ic),(v.trans Fx.ic),(M.trans Fx.ic),Fx.ic,R,t⟩ ?_
 rintro f2 w3 ⟨k2,i,A,O,hkp,o,X,W,l,J,m,S,C⟩
 refine Ws<|ay<|aS m ?_
 by_cases H:0<=((k2:Int)-1)
 ·refine Lv aG (jv H)<|aC<|aM<|Wk<|sN<|Ws<|Wb<|Ws ?_
  -- region 10 draws
  refine jo [0,1,2,3,4,5,6,7,8,9,10,12,13,14,11,15,16,17,18,19] [0,0,0,0,0,0,0,0,0,0,0,4,0,0,0,4,0,3,0,3] [(17,11,[11]),(19,11,[11]),(17,15,[15]),(19,15,[15]),(18,17,[17]),(19,17,[17])] fun oU P gU => ?_
  have s:=aY P S
  have D:=dX P C p
  refine bQ o<|bQ l<|bQ o<|bQ l<|bQ m<|Rp (au ((a:Int)+(k2:Int)-1)) (fun _=>eZ)<|bQ o<|bQ l<|bQ m<|Rp (au ((a:Int)+(k2:Int)-1)) (fun _=>eZ)<|Rp ((pf g (a+k2-1))) (fun _=>cu 1)<|bQ o<|bQ l<|Rp ((pf g a)) (fun _=>cu 1)<|Rs (aD ((gA i) (a+k2-1))) (aL s.aH (a+k2-1)) ?_
  refine Rs (aD ((gA i) a)) (aL s.aH a) ?_
  refine Rp ((pf g a)) (fun _=>cu 1)<|fQ<|oC s a (aD ((gA i) (a+k2-1))) fun w4 T s2 z1 => ?_
  have E:=s2.below D (Nat.le_trans p D.size) s.blk.1
  refine Ln<|Rp ((pf g (a+k2-1))) (fun _=>cu 1)<|fQ<|oC T (a+k2-1) (aD ((gA i) a)) fun w5 m6 s3 z2 => ?_
  have F:=s3.below E (Nat.le_trans p E.size) T.blk.1
  have m7:Fx.Own w5 B 28 1 (bI g n cap) n (rv .u64 (gA (Sort.swp i a (a+k2-1)))):=m6.congr (gQ A (by omega) (by omega))
  refine Ln<|bM<|Wl<|aS o<|aS J<|aS m<|aS l<|dA (Mr 0 (k2-1) a (by omega) (by omega) (by omega) B g n cap (Sort.swp i a (a+k2-1)) _ m7 (Nat.le_trans p F.size) (eB A _ _) Q ⟨by omega,by omega⟩) (ax := #[bI g n cap,au 0,au ((k2:Int)-1),au ((a:Int))]) _ rfl ?_
  rintro w6 ⟨m8,Z⟩
  have V:=F.trans Z
  refine Ln<|bP<|sN<|Wl<|aS m<|Lv (au ((k2:Int)-2)) fO<|av (au ((k2:Int)-2))<|Ln<|gJ ⟨k2-1,Sort.siftDown Sort.ltInt (k2-1) a 0 (Sort.swp i a (a+k2-1)),(CB (by omega) _ _ _ (Nat.le_refl _) (eB A _ _)),((Y1 (x:=a+k2-1) (by omega) (by omega)).trans O),(by omega),o,(X.trans Fx.ic),(W.trans Fx.ic),(l.trans Fx.ic),(J.trans Fx.ic),Fx.ic,m8,V⟩ ?_
  show(intOf ((au ((k2:Int)-2)))+1).toNat<_
  simp only[m,intOf]; omega
 refine Lv aF (ji H) (aC (aK (Wx (bV (fU (bW (⟨.tuple #[],iH Tryz.results130,?_⟩)))))))
 obtain rfl:k2=0:=by omega
 unfold Sort.heapSort; rw[<- aa,<- N,show Sort.heapBuild Sort.ltInt (b-a) a 0 c=c from rfl,<- O]; exact⟨rfl,S,C⟩
theorem acT(a b:Nat)(B g n cap:Nat)(d:Array Int)(w:World)(h:Fx.Own w B 28 1 (bI g n cap) n (rv .u64 (gA d)))(p:B<=w.heap.size)(F:d.size=n)(O:n<=1000)(ha:a<b)(M:b<=n) :
 Calls Tryz.prog 133 #[bI g n cap,au ((a:Int)),au ((b:Int))] w fun e w'=>e = .returned (.tuple #[])/\Fx.Own w' B 28 1 (bI g n cap) n (rv .u64 (gA (Sort.reverseRange d a b)))/\Below B w w':=by
 refine Kent Tryz.func133 32 ?_
 refine ay<|av (au a)<|av (au a)<|aC<|ay<|av (au b)<|Lv (au ((b:Int)-1)) fO<|av (au ((b:Int)-1))<|aC<|Wb<|Wo (fun f A => ∃ i:Nat,∃ j:Nat,∃ c:Array Int,c.size=n/\(a<=i/\j<b/\i<=b)/\Sort.reverseLoop i j c=Sort.reverseLoop a (b-1) d/\f 0=bI g n cap/\f 1=au ((a:Int))/\f 2=au ((b:Int))/\f 6=au ((i:Int))/\f 7=au ((j:Int))/\Fx.Own A B 28 1 (bI g n cap) n (rv .u64 (gA c))/\Below B w A) (fun f _=>((b:Int)-intOf (f 6)).toNat) ⟨a,b-1,d,F,(by omega),rfl,(by rfl),Fx.ic,Fx.ic,Fx.ic,Fx.ic,h,(Below.refl B w)⟩ ?_
 rintro L Q ⟨i,j,c,x,N,q,k,D,E,l,m,y,r⟩
 refine Ws<|ay<|aS l<|aS m ?_
 by_cases u:(i:Int)<(j:Int)
 ·refine Lv aG (gy u)<|aC<|aM<|Wk<|sN<|Wb<|Ws ?_
  -- region 3 draws
  refine jo [0,1,2,3,4,5,6,8,9,10,7,11,12,13,14,15] [0,0,0,0,0,0,0,4,0,0,0,4,0,3,0,3] [(13,7,[7]),(15,7,[7]),(13,11,[11]),(15,11,[11]),(14,13,[13]),(15,13,[13])] fun R v P => ?_
  have o:=aY v y
  have s:=dX v r p
  refine bQ k<|bQ l<|bQ k<|bQ m<|bQ k<|bQ m<|Rp ((pf g j)) (fun _=>cu 1)<|bQ k<|bQ l<|Rp ((pf g i)) (fun _=>cu 1)<|Rs (aD ((gA c) j)) (aL o.aH j) ?_
  refine Rs (aD ((gA c) i)) (aL o.aH i) ?_
  refine Rp ((pf g i)) (fun _=>cu 1)<|fQ<|oC o i (aD ((gA c) j)) fun w2 z I S => ?_
  have t:=I.below s (Nat.le_trans p s.size) o.blk.1
  refine Ln<|Rp ((pf g j)) (fun _=>cu 1)<|fQ<|oC z j (aD ((gA c) i)) fun K G J T => ?_
  have C:=J.below t (Nat.le_trans p t.size) z.blk.1
  have H:Fx.Own K B 28 1 (bI g n cap) n (rv .u64 (gA (Sort.swp c i j))):=G.congr (gQ x (by omega) (by omega))
  refine Ln<|bM<|ay<|aS l<|Lv (au ((i:Int)+1)) eZ<|av (au ((i:Int)+1))<|aC<|Wl<|aS m<|Lv (au ((j:Int)-1)) fO<|av (au ((j:Int)-1))<|Ln<|bP<|gJ ⟨i+1,j-1,Sort.swp c i j,(eB x _ _),(by omega),((Y2 (by omega)).trans q),k,(D.trans Fx.ic),(E.trans Fx.ic),Fx.ic,Fx.ic,H,C⟩ ?_
  show((b:Int)-intOf ((au ((i:Int)+1)))).toNat<_
  simp only[l,intOf]; omega
 refine Lv aF (gD u) (aC (aK (Wx (bV (fU (bW (⟨.tuple #[],iH Tryz.results133,?_⟩)))))))
 rw[Qh (by omega)]at q; unfold Sort.reverseRange; rw[<- q]; exact⟨rfl,y,r⟩
end
end Go.Proofs.YtahbiajdgealnaaGreatDoor
namespace Go.Proofs.YtahbiajdgealnaaGreatDoor
open Go.RowKit Rt
set_option linter.unusedVariables false
namespace Fx
def dG(a b:Int):Int:=((BitVec.ofInt 64 a ^^^ BitVec.ofInt 64 b).toNat:Int)
def IJ(a b:Int):Int:=((BitVec.ofInt 64 a &&& BitVec.ofInt 64 b).toNat:Int)
def eX(a:Int)(b:Nat):Int:=IntKind.u64.wrap (a*2^b)
theorem Ms(a b:Int):0<=dG a b/\dG a b<=18446744073709551615:=by
 unfold dG; have:=(BitVec.ofInt 64 a ^^^ BitVec.ofInt 64 b).isLt; omega
theorem Gz(a:Int){b:Int}(h:0<=b)(c:b<=18446744073709551615):0<=IJ a b/\IJ a b<=b:=by
 unfold IJ
 rw[BitVec.toNat_and]
 have d:(BitVec.ofInt 64 b).toNat=b.toNat:=by rw[BitVec.toNat_ofInt]; omega
 have:=Nat.and_le_right (n:=(BitVec.ofInt 64 a).toNat) (m:=(BitVec.ofInt 64 b).toNat)
 omega
section
variable {P:Program} {f:Nat->Value} {w:World} {o:Oper}
theorem Qk{T T':TypeId}{x y:Operand}{a b:Int}(c:o.op = .binOp .xor T x y T')(hx:ev f x = .int .u64 a)(hy:ev f y = .int .u64 b):Runs P f o w (.int .u64 (dG a b)) :=
 rD c hx hy (by
  have h:=jr (Ms a b) rfl
  simp only[binOp,Op.intBits]
  show(pure (Value.int .u64 (IntKind.u64.wrap (dG a b))):Sem Value).run P w=_
  rw[h]; rfl)
theorem acU{T T':TypeId}{x y:Operand}{a b:Int}(g:o.op = .binOp .and T x y T')(hx:ev f x = .int .u64 a)(hy:ev f y = .int .u64 b)(d:0<=b)(h1:b<=18446744073709551615):Runs P f o w (.int .u64 (IJ a b)) :=
 rD g hx hy (by
  have e:=Gz a d h1
  have h:=jr (c:=IJ a b) ⟨e.1,by omega⟩ rfl
  simp only[binOp,Op.intBits]
  show(pure (Value.int .u64 (IntKind.u64.wrap (IJ a b))):Sem Value).run P w=_
  rw[h]; rfl)
theorem Y6{T:TypeId}{x i:Operand}{s:ByteArray}{j:Nat}(e:o.op = .index T x i)(hx:ev f x = .string s)(hi:ev f i = .int .u8 (j:Int))(h:P.underlying T=some .string)(d:j<64)
 (g : ∀ q,q<64->(s[q]?).map (·.toNat)=some (Sort.bitsLen q)):Runs P f o w (.int .u8 (Sort.bitsLen j:Int)):=by
 obtain⟨b,a,c⟩:=Option.map_eq_some_iff.1 (g j d)
 unfold Runs execOp
 simp only[e,hx,hi]
 simp[Instr.index,asIntOf,underlying,h,a,c]
end
end Fx
theorem Rt.Mt{n:Nat}(h:n<64):Sort.bitsLen n<=6:=(Sort.bitsLen_le_iff _ _).2 (by omega)
end Go.Proofs.YtahbiajdgealnaaGreatDoor
namespace Go.Proofs.YtahbiajdgealnaaGreatDoor
open Go.RowKit Rt
open Fx (fD eT fI bC gL gK dw dR fZ iL dZ jg fP jh iV Lv sN Ln Ws Qv Wl Rp Wc Qs Wr Sb Lk Wk rC rV sR Rs Rn Rd Rk Wb Wx Wo Dw Wt qQ Qn EI Ao yj yI Ca Dl pG gY yL lZ sO uq vP wB xR Cy Ak rv aA aP bG aQ ev bX Stp dG aU flat dz Mp eX aT gN iF bD down iH jB iA ku bH bJ cells_one iG bT wD unseen jr gM bU dH bK bP bV bW fU gJ oQ gG)
section
open Rt
set_option maxRecDepth 10000
theorem UU(n:Nat)(w:World)(a:n<64) :
 Calls Tryz.prog 103 #[aD ((n:Int))] w fun e w'=>e = .returned (au (Sort.bitsLen n:Int))/\w'=w:=by
 have b:=Mt a
 refine Kent Tryz.func103 25 ?_
 refine ay<|av (au 0)<|aC<|Ws<|ay<|av (aD n)<|Lv aF Io<|aC<|aK<|Wk<|sN<|Ws<|ay<|av (aD n)<|Lv aF Io<|aC<|aK<|Wk<|sN<|Ws<|ay<|av (aD n)<|Lv aF Io<|aC<|aK<|Wk<|sN<|ay<|av (au 0)<|av (aD n)<|Lv (.int .u8 ((n:Int))) (dw rfl rfl (by kernel_rfl) Tryz.underlying5 (Fx.u8e (by omega) rfl))<|Lv (.int .u8 ((Sort.bitsLen n:Int))) (Fx.Y6 rfl rfl rfl Tryz.underlying9 a (by decide +kernel))<|Lv (au (Sort.bitsLen n:Int)) (dw rfl rfl (by kernel_rfl) Tryz.underlying3 (iA (by omega) rfl))<|Lv (au (0+(Sort.bitsLen n:Int))) eZ<|av (au (0+(Sort.bitsLen n:Int)))<|aC<|Wr<|aI (au (0+(Sort.bitsLen n:Int))) ?_
 exact⟨by rw[Int.zero_add],rfl⟩
theorem Ql(n:Nat)(w:World)(a:n<64) :
 Calls Tryz.prog 68 #[aD ((n:Int))] w fun e w'=>e = .returned (au (Sort.bitsLen n:Int))/\w'=w:=by
 have b:=Mt a
 refine Kent Tryz.func68 8 ?_
 refine ay<|av (au 0)<|aC<|Ws<|aK<|Wk<|sN<|ay<|av (aD n)<|kg (UU n _ a) _ rfl<|av (au (Sort.bitsLen n:Int))<|aC<|Wr<|aI (au (Sort.bitsLen n:Int)) ?_
 exact⟨rfl,rfl⟩
theorem acV(n m:Nat)(w:World)(f:n<64)(c:0<n)(a:m=2^Sort.bitsLen n) :
 Calls Tryz.prog 122 #[au ((n:Int))] w fun e w'=>e = .returned (aD (m:Int))/\w'=w:=by
 have g:=Mt f
 have d:=Sort.two_pow_bitsLen_le c
 rw[<- a]at d
 refine Kent Tryz.func122 7 ?_
 refine ay<|av (aD 0)<|aC<|ay<|av (au n)<|Lv (aD n) (dw rfl rfl (by kernel_rfl) Tryz.underlying142 (jr (by omega) rfl))<|kg (Ql n _ (by omega)) _ rfl<|Lv (aD m) (Fx.Ik (b:=Sort.bitsLen n) rfl rfl rfl (show _<=64 by omega) (jr (by omega) (by rw[a]; simp)))<|av (aD m)<|aC<|Wr<|aI (aD m) ?_
 exact⟨rfl,rfl⟩
theorem Y7(a:Nat)(r:Int)(w:World)(h:aP w a 1 (fun _=>aD r) 184) :
 Calls Tryz.prog 123 #[(pt a)] w fun e w' => ∃ d,e = .returned (aD d)/\(0<=d/\d<=18446744073709551615)/\Stp a w w'/\aP w' a 1 (fun _=>aD d) 184:=by
 refine Kent Tryz.func123 33 ?_
 refine ay<|av (aD 0)<|aC<|Ws ?_
 -- region 1 draws
 refine jo [0,1,3,4,2,5,6,7,8,9] [0,0,4,0,0,4,0,0,0,3] [(9,2,[2]),(9,5,[5])] fun J m M => ?_
 have C:Stp w.heap.size w J:=Sb m
 have f:=aY m h
 have s:=(lZ a w).then C (.inr (lZ a w).size)
 refine aV ((pt a))<|aV ((pt a))<|aV ((pt a))<|aV ((pt a))<|Rs (aD r) (aL f.aH 0) ?_
 refine Rs (aD r) (aL f.aH 0) ?_
 refine Rp (aD (eX r 13)) (fun c=>Fx.Ik (b:=13) rfl rfl rfl (by decide) rfl)<|Rp (aD (dG r (eX r 13))) (fun c=>Fx.Qk rfl rfl rfl)<|aV ((pt a))<|fQ<|iQ f 0 (aD (dG r (eX r 13))) fun j x D P => ?_
 have y:aP j a 1 (fun _=>aD (dG r (eX r 13))) 184:=dH x
 have k:=s.then D (by omega)
 refine Ln<|bM<|Ws ?_
 -- region 2 draws
 refine jo [0,1,3,4,2,5,6,7,8,9] [0,0,4,0,0,4,0,0,0,3] [(9,2,[2]),(9,5,[5])] fun K n N => ?_
 have E:Stp j.heap.size j K:=Sb n
 have g:=aY n y
 have t:=k.then E (.inr k.size)
 refine aV ((pt a))<|aV ((pt a))<|aV ((pt a))<|aV ((pt a))<|Rs (aD (dG r (eX r 13))) (aL g.aH 0) ?_
 refine Rs (aD (dG r (eX r 13))) (aL g.aH 0) ?_
 refine Rp (aD ((dG r (eX r 13)) / 128)) (fun c=>Fx.XA (b:=7) (q:=128) rfl rfl rfl (by decide) (by decide))<|Rp (aD (dG (dG r (eX r 13)) ((dG r (eX r 13)) / 128))) (fun c=>Fx.Qk rfl rfl rfl)<|aV ((pt a))<|fQ<|iQ g 0 (aD (dG (dG r (eX r 13)) ((dG r (eX r 13)) / 128))) fun w2 z F Q => ?_
 have A:aP w2 a 1 (fun _=>aD (dG (dG r (eX r 13)) ((dG r (eX r 13)) / 128))) 184:=dH z
 have l:=t.then F (by omega)
 refine Ln<|bM<|Ws ?_
 -- region 3 draws
 refine jo [0,1,3,4,2,5,6,7,8,9] [0,0,4,0,0,4,0,0,0,3] [(9,2,[2]),(9,5,[5])] fun L o O => ?_
 have G:Stp w2.heap.size w2 L:=Sb o
 have i:=aY o A
 have u:=l.then G (.inr l.size)
 refine aV ((pt a))<|aV ((pt a))<|aV ((pt a))<|aV ((pt a))<|Rs (aD (dG (dG r (eX r 13)) ((dG r (eX r 13)) / 128))) (aL i.aH 0) ?_
 refine Rs (aD (dG (dG r (eX r 13)) ((dG r (eX r 13)) / 128))) (aL i.aH 0) ?_
 refine Rp (aD (eX (dG (dG r (eX r 13)) ((dG r (eX r 13)) / 128)) 17)) (fun c=>Fx.Ik (b:=17) rfl rfl rfl (by decide) rfl)<|Rp (aD (dG (dG (dG r (eX r 13)) ((dG r (eX r 13)) / 128)) (eX (dG (dG r (eX r 13)) ((dG r (eX r 13)) / 128)) 17))) (fun c=>Fx.Qk rfl rfl rfl)<|aV ((pt a))<|fQ<|iQ i 0 (aD (dG (dG (dG r (eX r 13)) ((dG r (eX r 13)) / 128)) (eX (dG (dG r (eX r 13)) ((dG r (eX r 13)) / 128)) 17))) fun I B H R => ?_
 have p:aP I a 1 (fun _=>aD (dG (dG (dG r (eX r 13)) ((dG r (eX r 13)) / 128)) (eX (dG (dG r (eX r 13)) ((dG r (eX r 13)) / 128)) 17))) 184:=dH B
 have v:=u.then H (by omega)
 refine Ln<|bM<|ay<|av ((pt a))<|av ((pt a))<|Lv (aD (dG (dG (dG r (eX r 13)) ((dG r (eX r 13)) / 128)) (eX (dG (dG r (eX r 13)) ((dG r (eX r 13)) / 128)) 17))) (aL p.aH 0)<|av (aD (dG (dG (dG r (eX r 13)) ((dG r (eX r 13)) / 128)) (eX (dG (dG r (eX r 13)) ((dG r (eX r 13)) / 128)) 17)))<|aC<|Wr<|aI (aD (dG (dG (dG r (eX r 13)) ((dG r (eX r 13)) / 128)) (eX (dG (dG r (eX r 13)) ((dG r (eX r 13)) / 128)) 17))) ?_
 exact⟨_,rfl,Fx.Ms _ _,v,p⟩
end
section
open Rt
set_option maxRecDepth 10000
theorem Y8{a:Int}(n m:Nat)(w:World)(e:a=(n:Int))(d:n<64)(b:0<n)(c:m=2^Sort.bitsLen n):Calls Tryz.prog 122 #[au a] w fun e w'=>e = .returned (aD (m:Int))/\w'=w:=by
 subst e; exact acV n m w d b c
theorem acW(a b:Nat)(B g n cap:Nat)(d:Array Int)(w:World)(h:Fx.Own w B 28 1 (bI g n cap) n (rv .u64 (gA d)))(o:B<=w.heap.size)(X:d.size=n)(hs:n<=1000)(ha:a<b)(hb:b<=n)(h50:n<50) :
 Calls Tryz.prog 131 #[bI g n cap,au ((a:Int)),au ((b:Int))] w fun e w' => ∃ y:Array Int,e = .returned (.tuple #[])/\y.size=n/\Sort.PermIn a b d y/\Fx.Own w' B 28 1 (bI g n cap) n (rv .u64 (gA y))/\Below B w w':=by
 obtain⟨i,hq0⟩ : ∃ i,i=(b-a) / 4:=⟨_,rfl⟩
 refine Kent Tryz.func131 65 ?_
 refine ay<|av (au b)<|av (au a)<|Lv (au ((b:Int)-(a:Int))) fO<|av (au ((b:Int)-(a:Int)))<|aC<|ay<|av (au ((b:Int)-(a:Int))) ?_
 by_cases O:8<=((b:Int)-(a:Int))
 ·refine Lv aG (jv O)<|aC<|aM<|ay<|av (au ((b:Int)-(a:Int)))<|Lv (aD ((b:Int)-(a:Int))) (dw rfl rfl (by kernel_rfl) Tryz.underlying184 (jr (by omega) rfl))<|wC 1 (rv .u64 (fun _=>0)) fun v w1 R D s1 z1 => ?_
  have m2:=aY s1.old h
  have I:=dX s1.old (Below.refl B w) o
  have tL:=jc R (Below.refl B w).size
  have mH:=bY R h.lt
  have vR:=D.lt
  refine iQ D 0 (aD ((b:Int)-(a:Int))) fun w2 m3 s2 z2 => ?_
  have m4:aP w2 v 1 (fun _=>aD ((b:Int)-(a:Int))) 184:=dH m3
  have gI:=gY s2 D.ty
  have m5:=kR gI m2
  have b2:=s2.below I (Nat.le_trans o I.size) (by omega)
  refine aC<|ay<|av (au ((b:Int)-(a:Int))) ?_
  obtain⟨m,W⟩ : ∃ m,m=2^Sort.bitsLen (b-a):=⟨_,rfl⟩
  have hm2:=Sort.two_pow_bitsLen_le (show 0<b-a by omega)
  have hm3:=Sort.lt_two_pow_bitsLen (b-a)
  rw[<- W]at hm2 hm3
  refine kg (Y8 (b-a) m _ (by omega) (by omega) (by omega) W) (ax := #[au ((b:Int)-(a:Int))]) _ rfl<|av (aD m)<|aC<|ay<|av (au a)<|av (au ((b:Int)-(a:Int)))<|Lv (au i) (Fx.BF rfl rfl rfl (by omega) (iA (by omega) (by rw[Int.tdiv_eq_ediv_of_nonneg (by omega)]; omega)))<|Lv (au ((i:Int)*2)) (Fx.EZ rfl rfl rfl Fx.io)<|Lv (au ((a:Int)+2*(i:Int))) eZ<|Lv (au ((a:Int)+2*(i:Int)-1)) fO<|av (au ((a:Int)+2*(i:Int)-1))<|aC<|Wb<|Wo (fun f H => ∃ ix:Nat,∃ G:Int,∃ j:Array Int,j.size=n/\Sort.PermIn a b d j/\(a+2*i<=ix+1/\ix<=a+2*i+2)/\f 0=bI g n cap/\f 1=au ((a:Int))/\f 2=au ((b:Int))/\f 6=au ((b:Int)-(a:Int))/\f 7=(pt v)/\f 8=aD ((m:Int))/\f 9=au ((ix:Int))/\Fx.Own H B 28 1 (bI g n cap) n (rv .u64 (gA j))/\aP H v 1 (fun _=>aD G) 184/\Below B w H) (fun f _=>((a:Int)+2*i+2-intOf (f 9)).toNat) ⟨a+2*i-1,((b:Int)-(a:Int)),d,X,(Sort.permIn_refl _ _ _),(by omega),(by rfl),Fx.ic,Fx.ic,Fx.ic,(by rfl),Fx.ic,Fx.ic,m5,m4,b2⟩ ?_
  rintro f1 w3 ⟨ix,G,j,s,C,hix,k,p,S,r,z,A,l,Y,Z,x⟩
  refine Ws<|ay<|aS l<|aS p<|aS r<|Lv (au i) (Fx.BF rfl rfl rfl (by omega) (iA (by omega) (by rw[Int.tdiv_eq_ediv_of_nonneg (by omega)]; omega)))<|Lv (au ((i:Int)*2)) (Fx.EZ rfl rfl rfl Fx.io)<|Lv (au ((a:Int)+2*(i:Int))) eZ<|Lv (au ((a:Int)+2*(i:Int)+1)) eZ ?_
  by_cases P:(ix:Int)<=((a:Int)+2*(i:Int)+1)
  ·refine Lv aG (mD P) (aC (aM (Wk (sN (Ws (Wb (ay (jM (Y7 v G _ Z) ?_ (hr:=rC rfl (Fx.args1 z) Tryz.func123 rfl rfl)))))))))
   rintro e9 w4 ⟨q,V,hr1,s3,m8⟩
   refine⟨_,V,?_⟩
   clear V
   have jN:=gY s3 Z.ty
   have m9:=kR jN Y
   have J:=s3.below x (Nat.le_trans o x.size) (by omega)
   refine aS A<|Lv (aD ((m:Int)-1)) fO ?_
   obtain⟨c,ho1,ko1⟩ : ∃ c:Nat,(c:Int)=Fx.IJ q ((m:Int)-1)/\(c:Int)<=(m:Int)-1:=⟨(Fx.IJ q ((m:Int)-1)).toNat,by have:=Fx.Gz q (show 0<=(m:Int)-1 by omega) (by omega); omega,by have:=Fx.Gz q (show 0<=(m:Int)-1 by omega) (by omega); omega⟩
   refine Lv (aD c) ((by rw[ho1]; exact Fx.acU rfl rfl rfl (by omega) (by omega)))<|Lv (au c) (dw rfl rfl (by kernel_rfl) Tryz.underlying3 (iA (by omega) rfl))<|av (au c)<|aC<|Ws<|ay<|av (au c)<|aS r ?_
   by_cases Q:((b:Int)-(a:Int))<=(c:Int)
   ·refine Lv aG (jv Q)<|aC<|aM<|Wl<|av (au c)<|aS r<|Lv (au ((a:Int)+(c:Int)-(b:Int))) fO<|av (au ((a:Int)+(c:Int)-(b:Int)))<|aC ?_
    -- region 10 draws
    refine jo [0,1,2,3,4,5,6,7,8,9,10,12,13,14,11,15,16,17,18,19] [0,0,0,0,0,0,0,0,0,0,0,4,0,0,0,4,0,3,0,3] [(17,11,[11]),(19,11,[11]),(17,15,[15]),(19,15,[15]),(18,17,[17]),(19,17,[17])] fun oU T gU => ?_
    have⟨t,m11⟩:=eG T m9 m8
    have K:=dX T J o
    refine bQ k<|bQ l<|bQ k<|bQ p<|aV (au ((a:Int)+(c:Int)-(b:Int)))<|Rp (au (2*(a:Int)+(c:Int)-(b:Int))) (fun _=>eZ)<|bQ k<|bQ p<|aV (au ((a:Int)+(c:Int)-(b:Int)))<|Rp (au (2*(a:Int)+(c:Int)-(b:Int))) (fun _=>eZ)<|Rp ((pf g (2*a+c-b))) (fun _=>cu 1)<|bQ k<|bQ l<|Rp ((pf g ix)) (fun _=>cu 1)<|Rs (aD ((gA j) (2*a+c-b))) (aL t.aH (2*a+c-b)) ?_
    refine Rs (aD ((gA j) ix)) (aL t.aH ix) ?_
    refine Rp ((pf g ix)) (fun _=>cu 1)<|fQ<|oC t ix (aD ((gA j) (2*a+c-b))) fun w5 E s5 z3 => ?_
    have qy:=gY s5 t.Il
    have m13:=kR qy m11
    have L:=s5.below K (Nat.le_trans o K.size) t.blk.1
    refine Ln<|Rp ((pf g (2*a+c-b))) (fun _=>cu 1)<|fQ<|oC E (2*a+c-b) (aD ((gA j) ix)) fun w6 m14 s6 z4 => ?_
    have yQ:=gY s6 E.Il
    have m15:=kR yQ m13
    have b7:=s6.below L (Nat.le_trans o L.size) E.blk.1
    have m16:Fx.Own w6 B 28 1 (bI g n cap) n (rv .u64 (gA (Sort.swp j ix (2*a+c-b)))):=m14.congr (gQ s (by omega) (by omega))
    refine Ln<|Rn<|bP<|sN<|Wl<|aS l<|Lv (au ((ix:Int)+1)) eZ<|av (au ((ix:Int)+1))<|Ln<|gJ ⟨ix+1,q,Sort.swp j ix (2*a+c-b),(eB s _ _),(Sort.permIn_trans _ _ _ _ _ C (Sort.swp_permIn _ _ _ _ _ (by omega) (by omega) (by omega) (by omega) (by omega))),(by omega),k,(p.trans Fx.ic),(S.trans Fx.ic),(r.trans Fx.ic),z,(A.trans Fx.ic),Fx.ic,m16,m15,b7⟩ ?_
    show((a:Int)+2*i+2-intOf ((au ((ix:Int)+1)))).toNat<_
    simp only[l,intOf]; omega
   refine Lv aF (ji Q)<|aC<|aK<|Wk<|sN ?_
   -- region 10 draws
   refine jo [0,1,2,3,4,5,6,7,8,9,10,12,13,14,11,15,16,17,18,19] [0,0,0,0,0,0,0,0,0,0,0,4,0,0,0,4,0,3,0,3] [(17,11,[11]),(19,11,[11]),(17,15,[15]),(19,15,[15]),(18,17,[17]),(19,17,[17])] fun yP U lQ => ?_
   have⟨u,m18⟩:=eG U m9 m8
   have M:=dX U J o
   refine bQ k<|bQ l<|bQ k<|bQ p<|aV (au c)<|Rp (au ((a:Int)+(c:Int))) (fun _=>eZ)<|bQ k<|bQ p<|aV (au c)<|Rp (au ((a:Int)+(c:Int))) (fun _=>eZ)<|Rp ((pf g (a+c))) (fun _=>cu 1)<|bQ k<|bQ l<|Rp ((pf g ix)) (fun _=>cu 1)<|Rs (aD ((gA j) (a+c))) (aL u.aH (a+c)) ?_
   refine Rs (aD ((gA j) ix)) (aL u.aH ix) ?_
   refine Rp ((pf g ix)) (fun _=>cu 1)<|fQ<|oC u ix (aD ((gA j) (a+c))) fun w7 F s8 z5 => ?_
   have xU:=gY s8 u.Il
   have m20:=kR xU m18
   have N:=s8.below M (Nat.le_trans o M.size) u.blk.1
   refine Ln<|Rp ((pf g (a+c))) (fun _=>cu 1)<|fQ<|oC F (a+c) (aD ((gA j) ix)) fun w8 m21 s9 z6 => ?_
   have xV:=gY s9 F.Il
   have m22:=kR xV m20
   have b10:=s9.below N (Nat.le_trans o N.size) F.blk.1
   have m23:Fx.Own w8 B 28 1 (bI g n cap) n (rv .u64 (gA (Sort.swp j ix (a+c)))):=m21.congr (gQ s (by omega) (by omega))
   refine Ln<|Rn<|bP<|sN<|Wl<|aS l<|Lv (au ((ix:Int)+1)) eZ<|av (au ((ix:Int)+1))<|Ln<|gJ ⟨ix+1,q,Sort.swp j ix (a+c),(eB s _ _),(Sort.permIn_trans _ _ _ _ _ C (Sort.swp_permIn _ _ _ _ _ (by omega) (by omega) (by omega) (by omega) (by omega))),(by omega),k,(p.trans Fx.ic),(S.trans Fx.ic),(r.trans Fx.ic),z,(A.trans Fx.ic),Fx.ic,m23,m22,b10⟩ ?_
   show((a:Int)+2*i+2-intOf ((au ((ix:Int)+1)))).toNat<_
   simp only[l,intOf]; omega
  refine Lv aF (mV P) (aC (aK (Wx (bV (fU (bW (⟨.tuple #[],iH Tryz.results131,?_⟩)))))))
  exact⟨j,rfl,s,C,Y,x⟩
 refine Lv aF (ji O) (aC (aK (Wk (⟨.tuple #[],iH Tryz.results131,?_⟩))))
 exact⟨d,rfl,X,Sort.permIn_refl _ _ _,h,(Below.refl B w)⟩
end
section
open Rt
set_option maxRecDepth 10000
theorem Y9(a b f:Nat)(c:Int)(B g n cap:Nat)(d:Array Int)(w:World)(h:Fx.Own w B 28 1 (bI g n cap) n (rv .u64 (gA d)))(l:B<=w.heap.size)(J:d.size=n)(K:n<=1000)(ha:a<n)(H:b<n)(I:B<=f)(q:aP w f 1 (fun _=>au c) 3)(L:0<=c/\c<=1000) :
 Calls Tryz.prog 144 #[bI g n cap,au ((a:Int)),au ((b:Int)),(pt f)] w fun e w' => ∃(x y:Nat) (i:Int),e = .returned (.tuple #[au (x:Int),au (y:Int)])/\((x=a/\y=b)\/(x=b/\y=a))/\(c<=i/\i<=c+1)/\aP w' f 1 (fun _=>au i) 3/\Fx.Own w' B 28 1 (bI g n cap) n (rv .u64 (gA d))/\Below B w w':=by
 refine Kent Tryz.func144 28 ?_
 refine ay<|av (au 0)<|av (au 0)<|aC<|Ws<|Ws ?_
 -- region 1 draws
 refine kZ<|aR (bI g n cap)<|aR (au b)<|Qv ((pf g b)) (fun o j=>cu 1)<|Qv (aD ((gA d) b)) (fun o j=>aL (h.cb j) b)<|aR (bI g n cap)<|aR (au a)<|Qv ((pf g a)) (fun o j=>cu 1)<|Qv (aD ((gA d) a)) (fun o j=>aL (h.cb j) a) ?_
 by_cases k:(decide ((gA d) b<(gA d) a))=true
 ·refine oz (fun _ _=>dI ((gA d) b) ((gA d) a) _) aG (by rw[k])<|Qn ?_
  intro M r
  have⟨z,m⟩:=eG r h q
  have p:=dX r (Below.refl B w) l
  refine sN<|aM<|ay<|av ((pt f))<|av ((pt f))<|Lv (au c) (aL m.aH 0)<|Lv (au (c+1)) eZ<|av ((pt f))<|iQ m 0 (au (c+1)) fun G A i O => ?_
  have C:aP G f 1 (fun _=>au (c+1)) 3:=dH A
  have v:=gY i m.ty
  have D:=kR v z
  have t:=i.below p (Nat.le_trans l p.size) (by omega)
  refine aC<|ay<|av (au b)<|av (au a)<|av (au b)<|av (au a)<|aC<|Wr<|sR<|aI (.tuple #[au ((b:Int)),au ((a:Int))]) ?_
  exact⟨b,a,c+1,rfl,.inr ⟨rfl,rfl⟩,by omega,C,D,t⟩
 rw[Bool.not_eq_true]at k
 refine oz (fun _ _=>dI ((gA d) b) ((gA d) a) _) aF (by rw[k])<|Qn ?_
 intro N s
 have⟨E,F⟩:=eG s h q
 have u:=dX s (Below.refl B w) l
 refine sN<|aK<|Wk<|sN<|ay<|av (au a)<|av (au b)<|av (au a)<|av (au b)<|aC<|Wr<|aI (.tuple #[au ((a:Int)),au ((b:Int))]) ?_
 exact⟨a,b,c,rfl,.inl ⟨rfl,rfl⟩,by omega,F,E,u⟩
theorem GA{j k:Int}(a b:Nat)(l:j=(a:Int))(m:k=(b:Int))(f:Nat)(c:Int)(B g n cap:Nat)(d:Array Int)(w:World)(h:Fx.Own w B 28 1 (bI g n cap) n (rv .u64 (gA d)))(o:B<=w.heap.size)(s:d.size=n)(t:n<=1000)(ha:a<n)(p:b<n)(q:B<=f)(r:aP w f 1 (fun _=>au c) 3)(u:0<=c/\c<=1000) :
 Calls Tryz.prog 144 #[bI g n cap,au j,au k,(pt f)] w fun e w' => ∃(x y:Nat) (i:Int),e = .returned (.tuple #[au (x:Int),au (y:Int)])/\((x=a/\y=b)\/(x=b/\y=a))/\(c<=i/\i<=c+1)/\aP w' f 1 (fun _=>au i) 3/\Fx.Own w' B 28 1 (bI g n cap) n (rv .u64 (gA d))/\Below B w w':=by
 subst l m; exact Y9 a b f c B g n cap d w h o s t ha p q r u
theorem acX(a b c f:Nat)(j:Int)(B g n cap:Nat)(d:Array Int)(w:World)(h:Fx.Own w B 28 1 (bI g n cap) n (rv .u64 (gA d)))(m:B<=w.heap.size)(p:d.size=n)(q:n<=1000)(ha:a<n)(L:b<n)(M:c<n)(z:B<=f)(o:aP w f 1 (fun _=>au j) 3)(Q:0<=j/\j<=100) :
 Calls Tryz.prog 143 #[bI g n cap,au ((a:Int)),au ((b:Int)),au ((c:Int)),(pt f)] w fun e w' => ∃(x:Nat) (r:Int),e = .returned (au (x:Int))/\(x=a\/x=b\/x=c)/\(j<=r/\r<=j+3)/\aP w' f 1 (fun _=>au r) 3/\Fx.Own w' B 28 1 (bI g n cap) n (rv .u64 (gA d))/\Below B w w':=by
 refine Kent Tryz.func143 36 ?_
 refine ay<|av (au 0)<|aC<|ay<|av (bI g n cap)<|av (au a)<|av (au b)<|av ((pt f))<|jM (GA a b (by omega) (by omega) f j B g n cap d _ h (Nat.le_trans m (Below.refl B w).size) p q (by omega) (by omega) (by omega) o (by omega)) (ax := #[bI g n cap,au ((a:Int)),au ((b:Int)),(pt f)]) ?_
 rintro y V ⟨x1,k,J,i,R,N,D,E,z⟩
 refine⟨_,i,?_⟩
 clear i
 have u:=(Below.refl B w).trans z
 refine av (.tuple #[au ((x1:Int)),au ((k:Int))])<|av (au x1)<|av (au k)<|av (au x1)<|av (au k)<|aC<|ay<|av (bI g n cap)<|av (au k)<|av (au c)<|av ((pt f))<|jM (GA k c (by omega) (by omega) f J B g n cap d _ E (Nat.le_trans m u.size) p q (by omega) (by omega) (by omega) D (by omega)) (ax := #[bI g n cap,au ((k:Int)),au ((c:Int)),(pt f)]) ?_
 rintro y w2 ⟨x2,t,K,i,S,O,F,G,o⟩
 refine⟨_,i,?_⟩
 clear i
 have v:=u.trans o
 refine av (.tuple #[au ((x2:Int)),au ((t:Int))])<|av (au x2)<|av (au t)<|av (au x2)<|av (au t)<|aC<|ay<|av (bI g n cap)<|av (au x1)<|av (au x2)<|av ((pt f))<|jM (GA x1 x2 (by omega) (by omega) f K B g n cap d _ G (Nat.le_trans m v.size) p q (by omega) (by omega) (by omega) F (by omega)) (ax := #[bI g n cap,au ((x1:Int)),au ((x2:Int)),(pt f)]) ?_
 rintro y W ⟨s,l,U,i,T,P,H,I,C⟩
 refine⟨_,i,?_⟩
 clear i
 have A:=v.trans C
 refine av (.tuple #[au ((s:Int)),au ((l:Int))])<|av (au s)<|av (au l)<|av (au s)<|av (au l)<|aC<|ay<|av (au l)<|av (au l)<|aC<|Wr<|aI (au l) ?_
 exact⟨_,_,rfl,by omega,by omega,H,I,A⟩
theorem Za{k l m:Int}(a b c:Nat)(o:k=(a:Int))(p:l=(b:Int))(q:m=(c:Int))(i:Nat)(f:Int)(B g n cap:Nat)(d:Array Int)(w:World)(h:Fx.Own w B 28 1 (bI g n cap) n (rv .u64 (gA d)))(r:B<=w.heap.size)(y:d.size=n)(z:n<=1000)(ha:a<n)(s:b<n)(v:c<n)(t:B<=i)(u:aP w i 1 (fun _=>au f) 3)(A:0<=f/\f<=100) :
 Calls Tryz.prog 143 #[bI g n cap,au k,au l,au m,(pt i)] w fun e w' => ∃(x:Nat) (j:Int),e = .returned (au (x:Int))/\(x=a\/x=b\/x=c)/\(f<=j/\j<=f+3)/\aP w' i 1 (fun _=>au j) 3/\Fx.Own w' B 28 1 (bI g n cap) n (rv .u64 (gA d))/\Below B w w':=by
 subst o p q; exact acX a b c i f B g n cap d w h r y z ha s v t u A
theorem acY(a b:Nat)(B g n cap:Nat)(d:Array Int)(w:World)(h:Fx.Own w B 28 1 (bI g n cap) n (rv .u64 (gA d)))(x:B<=w.heap.size)(E:d.size=n)(F:n<=1000)(ha:a<b)(J:b<=n)(I:n<50) :
 Calls Tryz.prog 132 #[bI g n cap,au ((a:Int)),au ((b:Int))] w fun e w' => ∃(p:Nat) (D:Int),e = .returned (.tuple #[au (p:Int),au D])/\a<=p/\p<b/\Fx.Own w' B 28 1 (bI g n cap) n (rv .u64 (gA d))/\Below B w w':=by
 obtain⟨c,K⟩ : ∃ c,c=(b-a) / 4:=⟨_,rfl⟩
 refine Kent Tryz.func132 57 ?_
 refine ay<|av (au 0)<|av (au 0)<|aC<|ay<|av (au b)<|av (au a)<|Lv (au ((b:Int)-(a:Int))) fO<|av (au ((b:Int)-(a:Int)))<|aC<|ay<|Ca (m:=1) (y:=rv .i64 (fun _=>0)) (by rfl) rfl (by kernel_rfl) rfl fun v Q u o A R => ?_
 have k:=aY A.old h
 have f:=dX A.old (Below.refl B w) x
 have N:=jc u (Below.refl B w).size
 have O:=bY u h.lt
 have P:=o.lt
 refine aC<|ay<|av (au a)<|av (au ((b:Int)-(a:Int)))<|Lv (au c) (Fx.BF rfl rfl rfl (by omega) (iA (by omega) (by rw[Int.tdiv_eq_ediv_of_nonneg (by omega)]; omega)))<|Lv (au ((c:Int)*1)) (Fx.EZ rfl rfl rfl Fx.io)<|Lv (au ((a:Int)+(c:Int))) eZ<|av (au ((a:Int)+(c:Int)))<|aC<|ay<|av (au a)<|av (au ((b:Int)-(a:Int)))<|Lv (au c) (Fx.BF rfl rfl rfl (by omega) (iA (by omega) (by rw[Int.tdiv_eq_ediv_of_nonneg (by omega)]; omega)))<|Lv (au ((c:Int)*2)) (Fx.EZ rfl rfl rfl Fx.io)<|Lv (au ((a:Int)+2*(c:Int))) eZ<|av (au ((a:Int)+2*(c:Int)))<|aC<|ay<|av (au a)<|av (au ((b:Int)-(a:Int)))<|Lv (au c) (Fx.BF rfl rfl rfl (by omega) (iA (by omega) (by rw[Int.tdiv_eq_ediv_of_nonneg (by omega)]; omega)))<|Lv (au ((c:Int)*3)) (Fx.EZ rfl rfl rfl Fx.io)<|Lv (au ((a:Int)+3*(c:Int))) eZ<|av (au ((a:Int)+3*(c:Int)))<|aC<|Ws<|ay<|av (au ((b:Int)-(a:Int))) ?_
 by_cases t:8<=((b:Int)-(a:Int))
 ·refine Lv aG (jv t)<|aC<|aM<|Ws<|ay<|av (au ((b:Int)-(a:Int)))<|Lv aF Io<|aC<|aK<|Wk<|sN<|Wl<|av (bI g n cap)<|av (au ((a:Int)+(c:Int)))<|av (au ((a:Int)+2*(c:Int)))<|av (au ((a:Int)+3*(c:Int)))<|jM (Za (a+c) (a+2*c) (a+3*c) (by omega) (by omega) (by omega) v 0 B g n cap d _ k (Nat.le_trans x f.size) E F (by omega) (by omega) (by omega) (by omega) o (by omega)) (ax := #[bI g n cap,au ((a:Int)+(c:Int)),au ((a:Int)+2*(c:Int)),au ((a:Int)+3*(c:Int)),(pt v)]) ?_
  rintro H w2 ⟨x1,s,z,M,L,G,r,C⟩
  refine⟨_,z,?_⟩
  clear z
  have l:=f.trans C
  refine av (au x1)<|aC<|ay<|Lv (au s) (aL G.aH 0)<|aC<|Wb<|ay ?_
  by_cases i:s=0
  ·refine Lv aG (eP i)<|av aG<|aC<|aM<|ay<|av (au x1)<|av (au x1)<|av (au 1)<|aC<|Wr<|bK<|aI (.tuple #[au ((x1:Int)),au 1]) ?_
   exact⟨x1,1,congrArg (fun q=>Ending.returned (.tuple #[au q,au 1])) (by omega),by omega,by omega,r,l⟩
  refine Lv aF (fF i)<|av aF<|aC<|aK<|ay ?_
  by_cases j:s=12
  ·refine Lv aG (eP j)<|av aG<|aC<|aM<|ay<|av (au x1)<|av (au x1)<|av (au 2)<|aC<|Wr<|bK<|aI (.tuple #[au ((x1:Int)),au 2]) ?_
   exact⟨x1,2,congrArg (fun q=>Ending.returned (.tuple #[au q,au 2])) (by omega),by omega,by omega,r,l⟩
  refine Lv aF (fF j)<|av aF<|aC<|aK<|ay<|av (au x1)<|av (au x1)<|av (au 0)<|aC<|Wr<|bK<|aI (.tuple #[au ((x1:Int)),au 0]) ?_
  exact⟨x1,0,congrArg (fun q=>Ending.returned (.tuple #[au q,au 0])) (by omega),by omega,by omega,r,l⟩
 refine Lv aF (ji t)<|aC<|aK<|Wk<|sN<|ay<|Lv (au 0) (aL o.aH 0)<|aC<|Wb<|ay ?_
 by_cases i:(0:Int)=0
 ·refine Lv aG (eP i)<|av aG<|aC<|aM<|ay<|av (au ((a:Int)+2*(c:Int)))<|av (au ((a:Int)+2*(c:Int)))<|av (au 1)<|aC<|Wr<|bK<|aI (.tuple #[au ((a:Int)+2*(c:Int)),au 1]) ?_
  exact⟨a+2*c,1,congrArg (fun q=>Ending.returned (.tuple #[au q,au 1])) (by omega),by omega,by omega,k,f⟩
 refine Lv aF (fF i)<|av aF<|aC<|aK<|ay ?_
 by_cases j:(0:Int)=12
 ·refine Lv aG (eP j)<|av aG<|aC<|aM<|ay<|av (au ((a:Int)+2*(c:Int)))<|av (au ((a:Int)+2*(c:Int)))<|av (au 2)<|aC<|Wr<|bK<|aI (.tuple #[au ((a:Int)+2*(c:Int)),au 2]) ?_
  exact⟨a+2*c,2,congrArg (fun q=>Ending.returned (.tuple #[au q,au 2])) (by omega),by omega,by omega,k,f⟩
 refine Lv aF (fF j)<|av aF<|aC<|aK<|ay<|av (au ((a:Int)+2*(c:Int)))<|av (au ((a:Int)+2*(c:Int)))<|av (au 0)<|aC<|Wr<|bK<|aI (.tuple #[au ((a:Int)+2*(c:Int)),au 0]) ?_
 exact⟨a+2*c,0,congrArg (fun q=>Ending.returned (.tuple #[au q,au 0])) (by omega),by omega,by omega,k,f⟩
end
section
open Rt
set_option maxRecDepth 10000
theorem Zb(a b:Nat)(B g n cap:Nat)(d:Array Int)(w:World)(h:Fx.Own w B 28 1 (bI g n cap) n (rv .u64 (gA d)))(v:B<=w.heap.size)(V:d.size=n)(W:n<=1000)(ha:a<b)(U:b<=n)(T:n<50) :
 Calls Tryz.prog 134 #[bI g n cap,au ((a:Int)),au ((b:Int))] w fun e w' => ∃ r:Bool,e = .returned (.bool r)/\(r=true->Sort.SortedIn Sort.ltInt a b d)/\Fx.Own w' B 28 1 (bI g n cap) n (rv .u64 (gA d))/\Below B w w':=by
 refine Kent Tryz.func134 133 ?_
 refine ay<|av aF<|aC<|ay<|av (au a)<|Lv (au ((a:Int)+1)) eZ<|av (au ((a:Int)+1))<|aC<|Ws<|ay<|av (au 0)<|aC<|Wb<|Wo (fun f p=>f 0=bI g n cap/\f 1=au ((a:Int))/\f 2=au ((b:Int))/\f 7=au ((a:Int)+1)/\f 8=au 0/\Fx.Own p B 28 1 (bI g n cap) n (rv .u64 (gA d))/\Below B w p) (fun f _=>(5-intOf (f 8)).toNat) ⟨(by rfl),Fx.ic,Fx.ic,Fx.ic,Fx.ic,h,(Below.refl B w)⟩ ?_
 rintro R X ⟨K,M,N,O,C,P,I⟩
 refine Ws<|ay<|aS C<|Lv aG Mg<|aC<|aM<|Wk<|sN<|Ws<|Wb<|Ws<|Wb<|Wo (fun f p => ∃ i:Nat,Sort.SortedIn Sort.ltInt a i d/\(a<i/\i<=b)/\f 0=bI g n cap/\f 1=au ((a:Int))/\f 2=au ((b:Int))/\f 7=au ((i:Int))/\f 8=au 0/\Fx.Own p B 28 1 (bI g n cap) n (rv .u64 (gA d))/\Below B w p) (fun f _=>((b:Int)-intOf (f 7)).toNat) ⟨a+1,(KN _ _),(by omega),K,(M.trans Fx.ic),(N.trans Fx.ic),(O.trans Fx.ic),(C.trans Fx.ic),P,I⟩ ?_
 rintro S w2 ⟨i,x,hi,t,u,k,j,L,o,s⟩
 refine Ws<|Ws ?_
 -- region 5 draws
 refine kZ<|dS j<|dS k ?_
 by_cases A:(i:Int)<(b:Int)
 ·refine Qv aG (fun l c=>gy A)<|aR aG<|dS t<|dS j<|Qv ((pf g i)) (fun l c=>cu 1)<|Qv (aD ((gA d) i)) (fun l c=>aL (o.cb c) i)<|dS t<|dS j<|Qv (au ((i:Int)-1)) (fun l c=>fO)<|Qv ((pf g (i-1))) (fun l c=>cu 1)<|Qv (aD ((gA d) (i-1))) (fun l c=>aL (o.cb c) (i-1)) ?_
  by_cases q:(decide ((gA d) i<(gA d) (i-1)))=true
  ·refine oz (fun _ _=>dI ((gA d) i) ((gA d) (i-1)) _) aG (by rw[q])<|aR aF<|aR aF<|Qn ?_
   intro Y D
   have G:=aY D o
   have y:=dX D s v
   refine sN<|aK<|Wx<|bV<|fU<|bW<|sN<|Ws<|ay<|aS j<|aS k ?_
   by_cases m:(i:Int)=(b:Int)
   ·refine Lv aG (eP m)<|aC<|aM<|ay<|av aG<|aC<|Wr<|sR<|bK<|sR<|oQ<|bK<|sR<|aI aG ?_
    exact⟨true,rfl,(fun _=>by rw[show b=i by omega]; exact x),G,y⟩
   refine Lv aF (fF m)<|aC<|aK<|Wk<|sN<|Ws<|ay<|aS k<|aS u<|Lv (au ((b:Int)-(a:Int))) fO<|Lv aG Mg<|aC<|aM<|ay<|av aF<|aC<|Wr<|sR<|bK<|sR<|oQ<|bK<|sR<|aI aF ?_
   exact⟨false,rfl,(fun h=>nomatch h),G,y⟩
  rw[Bool.not_eq_true]at q
  refine oz (fun _ _=>dI ((gA d) i) ((gA d) (i-1)) _) aF (by rw[q])<|aR aG<|aR aG<|Qn ?_
  intro Z E
  have Q:=aY E o
  have J:=dX E s v
  refine sN<|aM<|Wk<|sN<|Wb<|Wl<|aS j<|Lv (au ((i:Int)+1)) eZ<|av (au ((i:Int)+1))<|Ln<|bP<|gJ ⟨i+1,(Sort.SortedIn.snoc Sort.swo_ltInt x (vQ (of_decide_eq_false q))),(by omega),t,(u.trans Fx.ic),(k.trans Fx.ic),Fx.ic,(L.trans Fx.ic),Q,J⟩ ?_
  show((b:Int)-intOf ((au ((i:Int)+1)))).toNat<_
  simp only[j,intOf]; omega
 refine Qv aF (fun l c=>gD A)<|aR aF<|aN<|aN<|aN<|aN<|aN<|aN<|aN<|aN<|aN<|aN<|aN<|aR aF<|Qn ?_
 intro aa F
 have H:=aY F o
 have z:=dX F s v
 refine sN<|aK<|Wx<|bV<|fU<|bW<|sN<|Ws<|ay<|aS j<|aS k ?_
 by_cases m:(i:Int)=(b:Int)
 ·refine Lv aG (eP m)<|aC<|aM<|ay<|av aG<|aC<|Wr<|sR<|bK<|sR<|oQ<|bK<|sR<|aI aG ?_
  exact⟨true,rfl,(fun _=>by rw[show b=i by omega]; exact x),H,z⟩
 refine Lv aF (fF m)<|aC<|aK<|Wk<|sN<|Ws<|ay<|aS k<|aS u<|Lv (au ((b:Int)-(a:Int))) fO<|Lv aG Mg<|aC<|aM<|ay<|av aF<|aC<|Wr<|sR<|bK<|sR<|oQ<|bK<|sR<|aI aF ?_
 exact⟨false,rfl,(fun h=>nomatch h),H,z⟩
theorem ahE(a b p:Nat)(B g n cap:Nat)(d:Array Int)(w:World)(h:Fx.Own w B 28 1 (bI g n cap) n (rv .u64 (gA d)))(o:B<=w.heap.size)(hn:d.size=n)(hs:n<=1000)(ha:a<=p)(hp:p<b)(hb:b<=n) :
 Calls Tryz.prog 136 #[bI g n cap,au ((a:Int)),au ((b:Int)),au ((p:Int))] w fun e w' => ∃(mid:Nat) (V:Array Int),e = .returned (au (mid:Int))/\Sort.partitionEqual Sort.ltInt d a b p=(mid,V)/\V.size=n/\Fx.Own w' B 28 1 (bI g n cap) n (rv .u64 (gA V))/\Below B w w':=by
 refine Kent Tryz.func136 84 ?_
 refine ay<|av (au 0)<|aC<|Ws ?_
 -- region 1 draws
 refine jo [0,1,2,3,4,5,6,8,9,10,7,11,12,13,14,15] [0,0,0,0,0,0,0,4,0,0,0,4,0,3,0,3] [(13,7,[7]),(15,7,[7]),(13,11,[11]),(15,11,[11]),(14,13,[13]),(15,13,[13])] fun oU dL gU => ?_
 have P:=aY dL h
 have b1:=dX dL (Below.refl B w) o
 refine aV (bI g n cap)<|aV (au a)<|aV (bI g n cap)<|aV (au p)<|aV (bI g n cap)<|aV (au p)<|Rp ((pf g p)) (fun _=>cu 1)<|aV (bI g n cap)<|aV (au a)<|Rp ((pf g a)) (fun _=>cu 1)<|Rs (aD ((gA d) p)) (aL P.aH p) ?_
 refine Rs (aD ((gA d) a)) (aL P.aH a) ?_
 refine Rp ((pf g a)) (fun _=>cu 1)<|fQ<|oC P a (aD ((gA d) p)) fun w1 m2 s2 z1 => ?_
 have b2:=s2.below b1 (Nat.le_trans o b1.size) P.blk.1
 refine Ln<|Rp ((pf g p)) (fun _=>cu 1)<|fQ<|oC m2 p (aD ((gA d) a)) fun w2 m3 s3 z2 => ?_
 have b3:=s3.below b2 (Nat.le_trans o b2.size) m2.blk.1
 have m4:Fx.Own w2 B 28 1 (bI g n cap) n (rv .u64 (gA (Sort.swp d a p))):=m3.congr (gQ hn (by omega) (by omega))
 refine Ln<|bM<|ay<|av (au a)<|Lv (au ((a:Int)+1)) eZ<|av (au b)<|Lv (au ((b:Int)-1)) fO<|av (au ((a:Int)+1))<|av (au ((b:Int)-1))<|aC<|Ws<|Wb<|Wo (fun f s => ∃ i:Nat,∃ j:Nat,∃ k:Array Int,k.size=n/\Sort.partEqLoop Sort.ltInt a i j k=Sort.partEqLoop Sort.ltInt a (a+1) (b-1) (Sort.swp d a p)/\(a<i/\j<b/\i<=b)/\f 0=bI g n cap/\f 1=au ((a:Int))/\f 2=au ((b:Int))/\f 9=au ((i:Int))/\f 10=au ((j:Int))/\Fx.Own s B 28 1 (bI g n cap) n (rv .u64 (gA k))/\Below B w s) (fun f _=>((b:Int)-intOf (f 9)).toNat) ⟨a+1,b-1,Sort.swp d a p,(eB hn _ _),rfl,(by omega),(by rfl),Fx.ic,Fx.ic,Fx.ic,Fx.ic,m4,b3⟩ ?_
 rintro f1 w3 ⟨i,j,k,E,O,hij,h1,h2,h3,Y,h5,m5,b4⟩
 refine Wb<|Ws<|Wb<|Wo (fun f s => ∃ c:Nat,Sort.partEqLoop Sort.ltInt a c j k=Sort.partEqLoop Sort.ltInt a i j k/\(i<=c/\c<=b)/\f 0=bI g n cap/\f 1=au ((a:Int))/\f 2=au ((b:Int))/\f 9=au ((c:Int))/\f 10=au ((j:Int))/\Fx.Own s B 28 1 (bI g n cap) n (rv .u64 (gA k))/\Below B w s) (fun f _=>((j:Int)+1-intOf (f 9)).toNat) ⟨i,rfl,(by omega),h1,(h2.trans Fx.ic),(h3.trans Fx.ic),(Y.trans Fx.ic),(h5.trans Fx.ic),m5,b4⟩ ?_
 rintro f2 w4 ⟨c,I,hi2,H,N,Z,D,M,K,T⟩
 refine Ws<|Ws ?_
 -- region 3 draws
 refine kZ<|dS D<|dS M ?_
 by_cases c31:(c:Int)<=(j:Int)
 ·refine Qv aG (fun q m=>mD c31)<|aR aG<|dS H<|dS N<|Qv ((pf g a)) (fun q m=>cu 1)<|Qv (aD ((gA k) a)) (fun q m=>aL (K.cb m) a)<|dS H<|dS D<|Qv ((pf g c)) (fun q m=>cu 1)<|Qv (aD ((gA k) c)) (fun q m=>aL (K.cb m) c) ?_
  by_cases F:(decide ((gA k) a<(gA k) c))=true
  ·refine oz (fun _ _=>dI ((gA k) a) ((gA k) c) _) aG (by rw[F])<|aR aF<|aR aF<|Qn ?_
   intro UR rH
   have m7:=aY rH K
   have b6:=dX rH T o
   refine sN<|aK<|Wx<|bV<|fU<|bW<|sN<|Ws<|Wb<|Wo (fun f s => ∃ l:Nat,Sort.partEqLoop Sort.ltInt a c l k=Sort.partEqLoop Sort.ltInt a c j k/\((l<c\/gA k a<gA k c))/\l<=j/\f 0=bI g n cap/\f 1=au ((a:Int))/\f 2=au ((b:Int))/\f 9=au ((c:Int))/\f 10=au ((l:Int))/\Fx.Own s B 28 1 (bI g n cap) n (rv .u64 (gA k))/\Below B w s) (fun f _=>(intOf (f 10)).toNat) ⟨j,rfl,(.inr (of_decide_eq_true F)),(by omega),H,(N.trans Fx.ic),(Z.trans Fx.ic),(D.trans Fx.ic),(M.trans Fx.ic),m7,b6⟩ ?_
   rintro f3 w5 ⟨l,A,C,hj2,v,W,KO,x,t,L,U⟩
   refine Ws<|Ws ?_
   -- region 5 draws
   refine kZ<|dS x<|dS t ?_
   by_cases G:(c:Int)<=(l:Int)
   ·refine Qv aG (fun q m=>mD G)<|aR aG<|dS v<|dS W<|Qv ((pf g a)) (fun q m=>cu 1)<|Qv (aD ((gA k) a)) (fun q m=>aL (L.cb m) a)<|dS v<|dS t<|Qv ((pf g l)) (fun q m=>cu 1)<|Qv (aD ((gA k) l)) (fun q m=>aL (L.cb m) l) ?_
    by_cases r:(decide ((gA k) a<(gA k) l))=true
    ·refine oz (fun _ _=>dI ((gA k) a) ((gA k) l) _) aG (by rw[r])<|aR aG<|Qn ?_
     intro XL vS
     have m9:=aY vS L
     have b8:=dX vS U o
     refine sN<|aM<|Wk<|sN<|Wb<|Wl<|aS t<|Lv (au ((l:Int)-1)) fO<|av (au ((l:Int)-1))<|Ln<|bP<|gJ ⟨l-1,((XJ (by omega) (by omega) (C.resolve_left (by omega)) (of_decide_eq_true r)).trans A),(C.elim (fun h => .inl (by omega)) .inr),(by omega),v,(W.trans Fx.ic),(KO.trans Fx.ic),(x.trans Fx.ic),Fx.ic,m9,b8⟩ ?_
     show(intOf ((au ((l:Int)-1)))).toNat<_
     simp only[t,intOf]; omega
    rw[Bool.not_eq_true]at r
    refine oz (fun _ _=>dI ((gA k) a) ((gA k) l) _) aF (by rw[r])<|aR aF<|Qn ?_
    intro Y3 vT
    have m10:=aY vT L
    have b9:=dX vT U o
    refine sN<|aK<|Wx<|bV<|fU<|bW<|sN<|Ws<|ay<|aS x<|aS t<|Lv aF wL<|aC<|aK<|Wk<|sN<|Ws ?_
    -- region 8 draws
    refine jo [0,1,2,3,4,5,6,8,9,10,7,11,12,13,14,15] [0,0,0,0,0,0,0,4,0,0,0,4,0,3,0,3] [(13,7,[7]),(15,7,[7]),(13,11,[11]),(15,11,[11]),(14,13,[13]),(15,13,[13])] fun yP fG lQ => ?_
    have Q:=aY fG m10
    have b10:=dX fG b9 o
    refine bQ v<|bQ x<|bQ v<|bQ t<|bQ v<|bQ t<|Rp ((pf g l)) (fun _=>cu 1)<|bQ v<|bQ x<|Rp ((pf g c)) (fun _=>cu 1)<|Rs (aD ((gA k) l)) (aL Q.aH l) ?_
    refine Rs (aD ((gA k) c)) (aL Q.aH c) ?_
    refine Rp ((pf g c)) (fun _=>cu 1)<|fQ<|oC Q c (aD ((gA k) l)) fun w6 m12 s8 z3 => ?_
    have b11:=s8.below b10 (Nat.le_trans o b10.size) Q.blk.1
    refine Ln<|Rp ((pf g l)) (fun _=>cu 1)<|fQ<|oC m12 l (aD ((gA k) c)) fun w7 m13 s9 z4 => ?_
    have b12:=s9.below b11 (Nat.le_trans o b11.size) m12.blk.1
    have m14:Fx.Own w7 B 28 1 (bI g n cap) n (rv .u64 (gA (Sort.swp k c l))):=m13.congr (gQ E (by omega) (by omega))
    refine Ln<|bM<|ay<|aS x<|Lv (au ((c:Int)+1)) eZ<|av (au ((c:Int)+1))<|aC<|Wl<|aS t<|Lv (au ((l:Int)-1)) fO<|av (au ((l:Int)-1))<|Ln<|bP<|gJ ⟨c+1,l-1,Sort.swp k c l,(eB E _ _),((XK (by omega) (C.resolve_left (by omega)) (of_decide_eq_false r)).trans (A.trans (I.trans O))),(by omega),v,(W.trans Fx.ic),(KO.trans Fx.ic),Fx.ic,Fx.ic,m14,b12⟩ ?_
    show((b:Int)-intOf ((au ((c:Int)+1)))).toNat<_
    simp only[Y,intOf]; omega
   refine Qv aF (fun q m=>mV G)<|aR aF<|aN<|aN<|aN<|aN<|aN<|aN<|aN<|aN<|aN<|aR aF<|Qn ?_
   intro wb4 zI
   have m15:=aY zI L
   have b13:=dX zI U o
   refine sN<|aK<|Wx<|bV<|fU<|bW<|sN<|Ws<|ay<|aS x<|aS t<|Lv aG zB<|aC<|aM<|Wx<|bV<|Fx.Kn rfl<|fU<|bW<|sN<|ay<|aS x<|av (au c)<|aC<|Wr<|aI (au c) ?_
   exact⟨c,k,rfl,O.symm.trans (I.symm.trans (A.symm.trans (Qj (by omega)))),E,m15,b13⟩
  rw[Bool.not_eq_true]at F
  refine oz (fun _ _=>dI ((gA k) a) ((gA k) c) _) aF (by rw[F])<|aR aG<|aR aG<|Qn ?_
  intro wb5 DF
  have m16:=aY DF K
  have b14:=dX DF T o
  refine sN<|aM<|Wk<|sN<|Wb<|Wl<|aS D<|Lv (au ((c:Int)+1)) eZ<|av (au ((c:Int)+1))<|Ln<|bP<|gJ ⟨c+1,((acP (by omega) (of_decide_eq_false F)).trans I),(by omega),H,(N.trans Fx.ic),(Z.trans Fx.ic),Fx.ic,(M.trans Fx.ic),m16,b14⟩ ?_
  show((j:Int)+1-intOf ((au ((c:Int)+1)))).toNat<_
  simp only[D,intOf]; omega
 refine Qv aF (fun q m=>mV c31)<|aR aF<|aN<|aN<|aN<|aN<|aN<|aN<|aN<|aN<|aN<|aN<|aR aF<|Qn ?_
 intro wb6 IK
 have m17:=aY IK K
 have b15:=dX IK T o
 refine sN<|aK<|Wx<|bV<|fU<|bW<|sN<|Ws<|Wb<|Wo (fun f s => ∃ l:Nat,Sort.partEqLoop Sort.ltInt a c l k=Sort.partEqLoop Sort.ltInt a c j k/\((l<c\/gA k a<gA k c))/\l<=j/\f 0=bI g n cap/\f 1=au ((a:Int))/\f 2=au ((b:Int))/\f 9=au ((c:Int))/\f 10=au ((l:Int))/\Fx.Own s B 28 1 (bI g n cap) n (rv .u64 (gA k))/\Below B w s) (fun f _=>(intOf (f 10)).toNat) ⟨j,rfl,(.inl (by omega)),(by omega),H,(N.trans Fx.ic),(Z.trans Fx.ic),(D.trans Fx.ic),(M.trans Fx.ic),m17,b15⟩ ?_
 rintro f4 w8 ⟨l,A,C,hj2,y,X,h18,z,u,J,S⟩
 refine Ws<|Ws ?_
 -- region 5 draws
 refine kZ<|dS z<|dS u ?_
 by_cases G:(c:Int)<=(l:Int)
 ·refine Qv aG (fun q m=>mD G)<|aR aG<|dS y<|dS X<|Qv ((pf g a)) (fun q m=>cu 1)<|Qv (aD ((gA k) a)) (fun q m=>aL (J.cb m) a)<|dS y<|dS u<|Qv ((pf g l)) (fun q m=>cu 1)<|Qv (aD ((gA k) l)) (fun q m=>aL (J.cb m) l) ?_
  by_cases r:(decide ((gA k) a<(gA k) l))=true
  ·refine oz (fun _ _=>dI ((gA k) a) ((gA k) l) _) aG (by rw[r])<|aR aG<|Qn ?_
   intro wb7 IL
   have m19:=aY IL J
   have b17:=dX IL S o
   refine sN<|aM<|Wk<|sN<|Wb<|Wl<|aS u<|Lv (au ((l:Int)-1)) fO<|av (au ((l:Int)-1))<|Ln<|bP<|gJ ⟨l-1,((XJ (by omega) (by omega) (C.resolve_left (by omega)) (of_decide_eq_true r)).trans A),(C.elim (fun h => .inl (by omega)) .inr),(by omega),y,(X.trans Fx.ic),(h18.trans Fx.ic),(z.trans Fx.ic),Fx.ic,m19,b17⟩ ?_
   show(intOf ((au ((l:Int)-1)))).toNat<_
   simp only[u,intOf]; omega
  rw[Bool.not_eq_true]at r
  refine oz (fun _ _=>dI ((gA k) a) ((gA k) l) _) aF (by rw[r])<|aR aF<|Qn ?_
  intro wb8 IQ
  have m20:=aY IQ J
  have b18:=dX IQ S o
  refine sN<|aK<|Wx<|bV<|fU<|bW<|sN<|Ws<|ay<|aS z<|aS u<|Lv aF wL<|aC<|aK<|Wk<|sN<|Ws ?_
  -- region 8 draws
  refine jo [0,1,2,3,4,5,6,8,9,10,7,11,12,13,14,15] [0,0,0,0,0,0,0,4,0,0,0,4,0,3,0,3] [(13,7,[7]),(15,7,[7]),(13,11,[11]),(15,11,[11]),(14,13,[13]),(15,13,[13])] fun Pb kF zH => ?_
  have R:=aY kF m20
  have b19:=dX kF b18 o
  refine bQ y<|bQ z<|bQ y<|bQ u<|bQ y<|bQ u<|Rp ((pf g l)) (fun _=>cu 1)<|bQ y<|bQ z<|Rp ((pf g c)) (fun _=>cu 1)<|Rs (aD ((gA k) l)) (aL R.aH l) ?_
  refine Rs (aD ((gA k) c)) (aL R.aH c) ?_
  refine Rp ((pf g c)) (fun _=>cu 1)<|fQ<|oC R c (aD ((gA k) l)) fun w9 m22 s16 z5 => ?_
  have b20:=s16.below b19 (Nat.le_trans o b19.size) R.blk.1
  refine Ln<|Rp ((pf g l)) (fun _=>cu 1)<|fQ<|oC m22 l (aD ((gA k) c)) fun rJ m23 H7 z6 => ?_
  have KP:=H7.below b20 (Nat.le_trans o b20.size) m22.blk.1
  have m24:Fx.Own rJ B 28 1 (bI g n cap) n (rv .u64 (gA (Sort.swp k c l))):=m23.congr (gQ E (by omega) (by omega))
  refine Ln<|bM<|ay<|aS z<|Lv (au ((c:Int)+1)) eZ<|av (au ((c:Int)+1))<|aC<|Wl<|aS u<|Lv (au ((l:Int)-1)) fO<|av (au ((l:Int)-1))<|Ln<|bP<|gJ ⟨c+1,l-1,Sort.swp k c l,(eB E _ _),((XK (by omega) (C.resolve_left (by omega)) (of_decide_eq_false r)).trans (A.trans (I.trans O))),(by omega),y,(X.trans Fx.ic),(h18.trans Fx.ic),Fx.ic,Fx.ic,m24,KP⟩ ?_
  show((b:Int)-intOf ((au ((c:Int)+1)))).toNat<_
  simp only[Y,intOf]; omega
 refine Qv aF (fun q m=>mV G)<|aR aF<|aN<|aN<|aN<|aN<|aN<|aN<|aN<|aN<|aN<|aR aF<|Qn ?_
 intro wb9 IU
 have lW:=aY IU J
 have Kg:=dX IU S o
 refine sN<|aK<|Wx<|bV<|fU<|bW<|sN<|Ws<|ay<|aS z<|aS u<|Lv aG zB<|aC<|aM<|Wx<|bV<|Fx.Kn rfl<|fU<|bW<|sN<|ay<|aS z<|av (au c)<|aC<|Wr<|aI (au c) ?_
 exact⟨c,k,rfl,O.symm.trans (I.symm.trans (A.symm.trans (Qj (by omega)))),E,lW,Kg⟩
theorem acZ(a b p:Nat)(B g n cap:Nat)(d:Array Int)(w:World)(h:Fx.Own w B 28 1 (bI g n cap) n (rv .u64 (gA d)))(q:B<=w.heap.size)(Q:d.size=n)(hs:n<=1000)(ha:a<=p)(hp:p<b)(hb:b<=n) :
 Calls Tryz.prog 137 #[bI g n cap,au ((a:Int)),au ((b:Int)),au ((p:Int))] w fun e w' => ∃(mid:Nat) (ap:Bool) (d4:Array Int),e = .returned (.tuple #[au (mid:Int),.bool ap])/\(Sort.partition Sort.ltInt d a b p).1=mid/\(Sort.partition Sort.ltInt d a b p).2.2=d4/\d4.size=n/\Fx.Own w' B 28 1 (bI g n cap) n (rv .u64 (gA d4))/\Below B w w':=by
 refine Kent Tryz.func137 168 ?_
 refine ay<|av (au 0)<|av aF<|aC<|Ws ?_
 -- region 1 draws
 refine jo [0,1,2,3,4,5,6,8,9,10,7,11,12,13,14,15] [0,0,0,0,0,0,0,4,0,0,0,4,0,3,0,3] [(13,7,[7]),(15,7,[7]),(13,11,[11]),(15,11,[11]),(14,13,[13]),(15,13,[13])] fun oU dL gU => ?_
 have m1:=aY dL h
 have b1:=dX dL (Below.refl B w) q
 refine aV (bI g n cap)<|aV (au a)<|aV (bI g n cap)<|aV (au p)<|aV (bI g n cap)<|aV (au p)<|Rp ((pf g p)) (fun _=>cu 1)<|aV (bI g n cap)<|aV (au a)<|Rp ((pf g a)) (fun _=>cu 1)<|Rs (aD ((gA d) p)) (aL m1.aH p) ?_
 refine Rs (aD ((gA d) a)) (aL m1.aH a) ?_
 refine Rp ((pf g a)) (fun _=>cu 1)<|fQ<|oC m1 a (aD ((gA d) p)) fun w1 m2 s2 z1 => ?_
 have b2:=s2.below b1 (Nat.le_trans q b1.size) m1.blk.1
 refine Ln<|Rp ((pf g p)) (fun _=>cu 1)<|fQ<|oC m2 p (aD ((gA d) a)) fun w2 m3 s3 z2 => ?_
 have b3:=s3.below b2 (Nat.le_trans q b2.size) m2.blk.1
 have m4:Fx.Own w2 B 28 1 (bI g n cap) n (rv .u64 (gA (Sort.swp d a p))):=m3.congr (gQ Q (by omega) (by omega))
 refine Ln<|bM<|ay<|av (au a)<|Lv (au ((a:Int)+1)) eZ<|av (au b)<|Lv (au ((b:Int)-1)) fO<|av (au ((a:Int)+1))<|av (au ((b:Int)-1))<|aC<|Ws<|Wb<|Wo (fun f t => ∃ s:Nat,Sort.partLoop Sort.ltInt a s (b-1) (Sort.swp d a p)=Sort.partLoop Sort.ltInt a (a+1) (b-1) (Sort.swp d a p)/\(a+1<=s/\s<=b)/\f 0=bI g n cap/\f 1=au ((a:Int))/\f 2=au ((b:Int))/\f 10=au ((s:Int))/\f 11=au ((b:Int)-1)/\Fx.Own t B 28 1 (bI g n cap) n (rv .u64 (gA (Sort.swp d a p)))/\Below B w t) (fun f _=>((b:Int)-intOf (f 10)).toNat) ⟨a+1,rfl,(by omega),(by rfl),Fx.ic,Fx.ic,Fx.ic,Fx.ic,m4,b3⟩ ?_
 rintro f1 w3 ⟨s,hY0,aqc,h1,h2,h3,h4,h5,m5,b4⟩
 refine Ws<|Ws ?_
 -- region 3 draws
 refine kZ<|dS h4<|dS h5 ?_
 by_cases c32:(s:Int)<=((b:Int)-1)
 ·refine Qv aG (fun r o=>mD c32)<|aR aG<|dS h1<|dS h4<|Qv ((pf g s)) (fun r o=>cu 1)<|Qv (aD ((gA (Sort.swp d a p)) s)) (fun r o=>aL (m5.cb o) s)<|dS h1<|dS h2<|Qv ((pf g a)) (fun r o=>cu 1)<|Qv (aD ((gA (Sort.swp d a p)) a)) (fun r o=>aL (m5.cb o) a) ?_
  by_cases Qm:(decide ((gA (Sort.swp d a p)) s<(gA (Sort.swp d a p)) a))=true
  ·refine oz (fun _ _=>dI ((gA (Sort.swp d a p)) s) ((gA (Sort.swp d a p)) a) _) aG (by rw[Qm])<|aR aG<|Qn ?_
   intro UR rH
   have m6:=aY rH m5
   have b5:=dX rH b4 q
   refine sN<|aM<|Wk<|sN<|Wb<|Wl<|aS h4<|Lv (au ((s:Int)+1)) eZ<|av (au ((s:Int)+1))<|Ln<|bP<|gJ ⟨s+1,((Qi (by omega) (of_decide_eq_true Qm)).trans hY0),(by omega),h1,(h2.trans Fx.ic),(h3.trans Fx.ic),Fx.ic,(h5.trans Fx.ic),m6,b5⟩ ?_
   show((b:Int)-intOf ((au ((s:Int)+1)))).toNat<_
   simp only[h4,intOf]; omega
  rw[Bool.not_eq_true]at Qm
  refine oz (fun _ _=>dI ((gA (Sort.swp d a p)) s) ((gA (Sort.swp d a p)) a) _) aF (by rw[Qm])<|aR aF<|Qn ?_
  intro XL vS
  have m7:=aY vS m5
  have b6:=dX vS b4 q
  refine sN<|aK<|Wx<|bV<|fU<|bW<|sN<|Ws<|Wb<|Wo (fun f t => ∃ m:Nat,Sort.partLoop Sort.ltInt a s m (Sort.swp d a p)=Sort.partLoop Sort.ltInt a (a+1) (b-1) (Sort.swp d a p)/\((m<s \/ ¬ gA (Sort.swp d a p) s<gA (Sort.swp d a p) a))/\(m<b/\m<=b)/\f 0=bI g n cap/\f 1=au ((a:Int))/\f 2=au ((b:Int))/\f 10=au ((s:Int))/\f 11=au ((m:Int))/\Fx.Own t B 28 1 (bI g n cap) n (rv .u64 (gA (Sort.swp d a p)))/\Below B w t) (fun f _=>(intOf (f 11)).toNat) ⟨b-1,hY0,(.inr (of_decide_eq_false Qm)),(by omega),h1,(h2.trans Fx.ic),(h3.trans Fx.ic),(h4.trans Fx.ic),(h5.trans Fx.ic),m7,b6⟩ ?_
  rintro f2 w4 ⟨m,Y,Z,ahF,M,h7,h8,W,A,m8,b7⟩
  refine Ws<|Ws ?_
  -- region 5 draws
  refine kZ<|dS W<|dS A ?_
  by_cases c48:(s:Int)<=(m:Int)
  ·refine Qv aG (fun r o=>mD c48)<|aR aG<|dS M<|dS A<|Qv ((pf g m)) (fun r o=>cu 1)<|Qv (aD ((gA (Sort.swp d a p)) m)) (fun r o=>aL (m8.cb o) m)<|dS M<|dS h7<|Qv ((pf g a)) (fun r o=>cu 1)<|Qv (aD ((gA (Sort.swp d a p)) a)) (fun r o=>aL (m8.cb o) a) ?_
   by_cases P:(decide ((gA (Sort.swp d a p)) m<(gA (Sort.swp d a p)) a))=true
   ·refine oz (fun _ _=>dI ((gA (Sort.swp d a p)) m) ((gA (Sort.swp d a p)) a) _) aG (by rw[P])<|aR aF<|aR aF<|Qn ?_
    intro Y3 vT
    have m9:=aY vT m8
    have b8:=dX vT b7 q
    refine sN<|aK<|Wx<|bV<|fU<|bW<|sN<|Ws<|ay<|aS W<|aS A<|Lv aF wL<|aC<|aK<|Wk<|sN<|Ws ?_
    -- region 10 draws
    refine jo [0,1,2,3,4,5,6,8,9,10,7,11,12,13,14,15] [0,0,0,0,0,0,0,4,0,0,0,4,0,3,0,3] [(13,7,[7]),(15,7,[7]),(13,11,[11]),(15,11,[11]),(14,13,[13]),(15,13,[13])] fun yP fG lQ => ?_
    have m10:=aY fG m9
    have b9:=dX fG b8 q
    refine bQ M<|bQ W<|bQ M<|bQ A<|bQ M<|bQ A<|Rp ((pf g m)) (fun _=>cu 1)<|bQ M<|bQ W<|Rp ((pf g s)) (fun _=>cu 1)<|Rs (aD ((gA (Sort.swp d a p)) m)) (aL m10.aH m) ?_
    refine Rs (aD ((gA (Sort.swp d a p)) s)) (aL m10.aH s) ?_
    refine Rp ((pf g s)) (fun _=>cu 1)<|fQ<|oC m10 s (aD ((gA (Sort.swp d a p)) m)) fun w5 m11 s8 z3 => ?_
    have b10:=s8.below b9 (Nat.le_trans q b9.size) m10.blk.1
    refine Ln<|Rp ((pf g m)) (fun _=>cu 1)<|fQ<|oC m11 m (aD ((gA (Sort.swp d a p)) s)) fun w6 m12 s9 z4 => ?_
    have b11:=s9.below b10 (Nat.le_trans q b10.size) m11.blk.1
    have m13:Fx.Own w6 B 28 1 (bI g n cap) n (rv .u64 (gA (Sort.swp (Sort.swp d a p) s m))):=m12.congr (gQ (eB Q _ _) (by omega) (by omega))
    refine Ln<|bM<|ay<|aS W<|Lv (au ((s:Int)+1)) eZ<|av (au ((s:Int)+1))<|aC<|ay<|aS A<|Lv (au ((m:Int)-1)) fO<|av (au ((m:Int)-1))<|aC<|Ws<|Wb<|Wo (fun f t => ∃ i:Nat,∃ j:Nat,∃ k:Array Int,k.size=n/\Sort.partLoop Sort.ltInt a i j k=Sort.partLoop Sort.ltInt a (a+1) (b-1) (Sort.swp d a p)/\(a<i/\j<b/\i<=b)/\f 0=bI g n cap/\f 1=au ((a:Int))/\f 2=au ((b:Int))/\f 10=au ((i:Int))/\f 11=au ((j:Int))/\Fx.Own t B 28 1 (bI g n cap) n (rv .u64 (gA k))/\Below B w t) (fun f _=>((b:Int)-intOf (f 10)).toNat) ⟨s+1,m-1,Sort.swp (Sort.swp d a p) s m,(eB (eB Q _ _) _ _),((Fu (by omega) (Z.resolve_left (by omega)) (of_decide_eq_true P)).trans Y),(by omega),M,(h7.trans Fx.ic),(h8.trans Fx.ic),Fx.ic,Fx.ic,m13,b11⟩ ?_
    rintro f3 w7 ⟨i,j,k,x,hX,hij,h11,h12,KO,Pf,Ul,m14,b12⟩
    refine Wb<|Ws<|Wb<|Wo (fun f t => ∃ l:Nat,Sort.partLoop Sort.ltInt a l j k=Sort.partLoop Sort.ltInt a (a+1) (b-1) (Sort.swp d a p)/\(i<=l/\l<=b)/\f 0=bI g n cap/\f 1=au ((a:Int))/\f 2=au ((b:Int))/\f 10=au ((l:Int))/\f 11=au ((j:Int))/\Fx.Own t B 28 1 (bI g n cap) n (rv .u64 (gA k))/\Below B w t) (fun f _=>((b:Int)-intOf (f 10)).toNat) ⟨i,hX,(by omega),h11,(h12.trans Fx.ic),(KO.trans Fx.ic),(Pf.trans Fx.ic),(Ul.trans Fx.ic),m14,b12⟩ ?_
    rintro f4 w8 ⟨l,X,ahG,h16,Pg,h18,aa,h20,m15,b13⟩
    refine Ws<|Ws ?_
    -- region 13 draws
    refine kZ<|dS aa<|dS h20 ?_
    by_cases Qo:(l:Int)<=(j:Int)
    ·refine Qv aG (fun r o=>mD Qo)<|aR aG<|dS h16<|dS aa<|Qv ((pf g l)) (fun r o=>cu 1)<|Qv (aD ((gA k) l)) (fun r o=>aL (m15.cb o) l)<|dS h16<|dS Pg<|Qv ((pf g a)) (fun r o=>cu 1)<|Qv (aD ((gA k) a)) (fun r o=>aL (m15.cb o) a) ?_
     by_cases N:(decide ((gA k) l<(gA k) a))=true
     ·refine oz (fun _ _=>dI ((gA k) l) ((gA k) a) _) aG (by rw[N])<|aR aG<|Qn ?_
      intro wb4 zI
      have m16:=aY zI m15
      have b14:=dX zI b13 q
      refine sN<|aM<|Wk<|sN<|Wb<|Wl<|aS aa<|Lv (au ((l:Int)+1)) eZ<|av (au ((l:Int)+1))<|Ln<|bP<|gJ ⟨l+1,((Qi (by omega) (of_decide_eq_true N)).trans X),(by omega),h16,(Pg.trans Fx.ic),(h18.trans Fx.ic),Fx.ic,(h20.trans Fx.ic),m16,b14⟩ ?_
      show((b:Int)-intOf ((au ((l:Int)+1)))).toNat<_
      simp only[aa,intOf]; omega
     rw[Bool.not_eq_true]at N
     refine oz (fun _ _=>dI ((gA k) l) ((gA k) a) _) aF (by rw[N])<|aR aF<|Qn ?_
     intro wb5 DF
     have m17:=aY DF m15
     have b15:=dX DF b13 q
     refine sN<|aK<|Wx<|bV<|fU<|bW<|sN<|Ws<|Wb<|Wo (fun f t => ∃ c:Nat,Sort.partLoop Sort.ltInt a l c k=Sort.partLoop Sort.ltInt a (a+1) (b-1) (Sort.swp d a p)/\((c<l \/ ¬ gA k l<gA k a))/\(c<b/\c<=j)/\f 0=bI g n cap/\f 1=au ((a:Int))/\f 2=au ((b:Int))/\f 10=au ((l:Int))/\f 11=au ((c:Int))/\Fx.Own t B 28 1 (bI g n cap) n (rv .u64 (gA k))/\Below B w t) (fun f _=>(intOf (f 11)).toNat) ⟨j,X,(.inr (of_decide_eq_false N)),(by omega),h16,(Pg.trans Fx.ic),(h18.trans Fx.ic),(aa.trans Fx.ic),(h20.trans Fx.ic),m17,b15⟩ ?_
     rintro f5 w9 ⟨c,y,z,Zc,C,h22,h23,R,D,m18,b16⟩
     refine Ws<|Ws ?_
     -- region 15 draws
     refine kZ<|dS R<|dS D ?_
     by_cases O:(l:Int)<=(c:Int)
     ·refine Qv aG (fun r o=>mD O)<|aR aG<|dS C<|dS D<|Qv ((pf g c)) (fun r o=>cu 1)<|Qv (aD ((gA k) c)) (fun r o=>aL (m18.cb o) c)<|dS C<|dS h22<|Qv ((pf g a)) (fun r o=>cu 1)<|Qv (aD ((gA k) a)) (fun r o=>aL (m18.cb o) a) ?_
      by_cases u:(decide ((gA k) c<(gA k) a))=true
      ·refine oz (fun _ _=>dI ((gA k) c) ((gA k) a) _) aG (by rw[u])<|aR aF<|aR aF<|Qn ?_
       intro wb6 IK
       have m19:=aY IK m18
       have b17:=dX IK b16 q
       refine sN<|aK<|Wx<|bV<|fU<|bW<|sN<|Ws<|ay<|aS R<|aS D<|Lv aF wL<|aC<|aK<|Wk<|sN<|Ws ?_
       -- region 18 draws
       refine jo [0,1,2,3,4,5,6,8,9,10,7,11,12,13,14,15] [0,0,0,0,0,0,0,4,0,0,0,4,0,3,0,3] [(13,7,[7]),(15,7,[7]),(13,11,[11]),(15,11,[11]),(14,13,[13]),(15,13,[13])] fun Pb kF zH => ?_
       have m20:=aY kF m19
       have b18:=dX kF b17 q
       refine bQ C<|bQ R<|bQ C<|bQ D<|bQ C<|bQ D<|Rp ((pf g c)) (fun _=>cu 1)<|bQ C<|bQ R<|Rp ((pf g l)) (fun _=>cu 1)<|Rs (aD ((gA k) c)) (aL m20.aH c) ?_
       refine Rs (aD ((gA k) l)) (aL m20.aH l) ?_
       refine Rp ((pf g l)) (fun _=>cu 1)<|fQ<|oC m20 l (aD ((gA k) c)) fun rJ m21 AQ z5 => ?_
       have b19:=AQ.below b18 (Nat.le_trans q b18.size) m20.blk.1
       refine Ln<|Rp ((pf g c)) (fun _=>cu 1)<|fQ<|oC m21 c (aD ((gA k) l)) fun DI m22 s15 z6 => ?_
       have b20:=s15.below b19 (Nat.le_trans q b19.size) m21.blk.1
       have m23:Fx.Own DI B 28 1 (bI g n cap) n (rv .u64 (gA (Sort.swp k l c))):=m22.congr (gQ x (by omega) (by omega))
       refine Ln<|bM<|ay<|aS R<|Lv (au ((l:Int)+1)) eZ<|av (au ((l:Int)+1))<|aC<|Wl<|aS D<|Lv (au ((c:Int)-1)) fO<|av (au ((c:Int)-1))<|Ln<|bP<|gJ ⟨l+1,c-1,Sort.swp k l c,(eB x _ _),((Fu (by omega) (z.resolve_left (by omega)) (of_decide_eq_true u)).trans y),(by omega),C,(h22.trans Fx.ic),(h23.trans Fx.ic),Fx.ic,Fx.ic,m23,b20⟩ ?_
       show((b:Int)-intOf ((au ((l:Int)+1)))).toNat<_
       simp only[Pf,intOf]; omega
      rw[Bool.not_eq_true]at u
      refine oz (fun _ _=>dI ((gA k) c) ((gA k) a) _) aF (by rw[u])<|aR aG<|aR aG<|Qn ?_
      intro wb7 IL
      have m24:=aY IL m18
      have KP:=dX IL b16 q
      refine sN<|aM<|Wk<|sN<|Wb<|Wl<|aS D<|Lv (au ((c:Int)-1)) fO<|av (au ((c:Int)-1))<|Ln<|bP<|gJ ⟨c-1,((Fq (by omega) (by omega) (z.resolve_left (by omega)) (of_decide_eq_false u)).trans y),(z.elim (fun h => .inl (by omega)) .inr),(by omega),C,(h22.trans Fx.ic),(h23.trans Fx.ic),(R.trans Fx.ic),Fx.ic,m24,KP⟩ ?_
      show(intOf ((au ((c:Int)-1)))).toNat<_
      simp only[D,intOf]; omega
     refine Qv aF (fun r o=>mV O)<|aR aF<|aN<|aN<|aN<|aN<|aN<|aN<|aN<|aN<|aN<|aN<|aR aF<|Qn ?_
     intro wb8 IQ
     have lW:=aY IQ m18
     have Kg:=dX IQ b16 q
     refine sN<|aK<|Wx<|bV<|fU<|bW<|sN<|Ws<|ay<|aS R<|aS D<|Lv aG zB<|aC<|aM<|Wx<|bV<|Fx.Kn rfl<|fU<|bW<|sN<|Ws ?_
     -- region 21 draws
     refine jo [0,1,2,3,4,5,6,8,9,10,7,11,12,13,14,15] [0,0,0,0,0,0,0,4,0,0,0,4,0,3,0,3] [(13,7,[7]),(15,7,[7]),(13,11,[11]),(15,11,[11]),(14,13,[13]),(15,13,[13])] fun Zd oV Fv => ?_
     have mR:=aY oV lW
     have Qp:=dX oV Kg q
     refine bQ C<|bQ D<|bQ C<|bQ h22<|bQ C<|bQ h22<|Rp ((pf g a)) (fun _=>cu 1)<|bQ C<|bQ D<|Rp ((pf g c)) (fun _=>cu 1)<|Rs (aD ((gA k) a)) (aL mR.aH a) ?_
     refine Rs (aD ((gA k) c)) (aL mR.aH c) ?_
     refine Rp ((pf g c)) (fun _=>cu 1)<|fQ<|oC mR c (aD ((gA k) a)) fun Ch nY s19 z7 => ?_
     have Qq:=s19.below Qp (Nat.le_trans q Qp.size) mR.blk.1
     refine Ln<|Rp ((pf g a)) (fun _=>cu 1)<|fQ<|oC nY a (aD ((gA k) c)) fun EN nT s20 z8 => ?_
     have Ze:=s20.below Qq (Nat.le_trans q Qq.size) nY.blk.1
     have oF:Fx.Own EN B 28 1 (bI g n cap) n (rv .u64 (gA (Sort.swp k c a))):=nT.congr (gQ x (by omega) (by omega))
     refine Ln<|bM<|ay<|aS D<|av (au c)<|av aF<|aC<|Wr<|aI (.tuple #[au ((c:Int)),.bool false]) ?_
     have v:=y.symm.trans (AP (by omega))
     exact⟨c,false,_,rfl,by rw[Sort.partition_fst,v],by rw[Sort.partition_arr,v],(eB x _ _),oF,Ze⟩
    refine Qv aF (fun r o=>mV Qo)<|aR aF<|aN<|aN<|aN<|aN<|aN<|aN<|aN<|aN<|aN<|aR aF<|Qn ?_
    intro wb9 IU
    have nE:=aY IU m15
    have UW:=dX IU b13 q
    refine sN<|aK<|Wx<|bV<|fU<|bW<|sN<|Ws<|Wb<|Wo (fun f t => ∃ c:Nat,Sort.partLoop Sort.ltInt a l c k=Sort.partLoop Sort.ltInt a (a+1) (b-1) (Sort.swp d a p)/\((c<l \/ ¬ gA k l<gA k a))/\(c<b/\c<=j)/\f 0=bI g n cap/\f 1=au ((a:Int))/\f 2=au ((b:Int))/\f 10=au ((l:Int))/\f 11=au ((c:Int))/\Fx.Own t B 28 1 (bI g n cap) n (rv .u64 (gA k))/\Below B w t) (fun f _=>(intOf (f 11)).toNat) ⟨j,X,(.inl (by omega)),(by omega),h16,(Pg.trans Fx.ic),(h18.trans Fx.ic),(aa.trans Fx.ic),(h20.trans Fx.ic),nE,UW⟩ ?_
    rintro f6 Mv ⟨c,y,z,Zc,E,h27,h28,S,F,lH,UY⟩
    refine Ws<|Ws ?_
    -- region 15 draws
    refine kZ<|dS S<|dS F ?_
    by_cases O:(l:Int)<=(c:Int)
    ·refine Qv aG (fun r o=>mD O)<|aR aG<|dS E<|dS F<|Qv ((pf g c)) (fun r o=>cu 1)<|Qv (aD ((gA k) c)) (fun r o=>aL (lH.cb o) c)<|dS E<|dS h27<|Qv ((pf g a)) (fun r o=>cu 1)<|Qv (aD ((gA k) a)) (fun r o=>aL (lH.cb o) a) ?_
     by_cases u:(decide ((gA k) c<(gA k) a))=true
     ·refine oz (fun _ _=>dI ((gA k) c) ((gA k) a) _) aG (by rw[u])<|aR aF<|aR aF<|Qn ?_
      intro aqd Qr
      have m32:=aY Qr lH
      have NZ:=dX Qr UY q
      refine sN<|aK<|Wx<|bV<|fU<|bW<|sN<|Ws<|ay<|aS S<|aS F<|Lv aF wL<|aC<|aK<|Wk<|sN<|Ws ?_
      -- region 18 draws
      refine jo [0,1,2,3,4,5,6,8,9,10,7,11,12,13,14,15] [0,0,0,0,0,0,0,4,0,0,0,4,0,3,0,3] [(13,7,[7]),(15,7,[7]),(13,11,[11]),(15,11,[11]),(14,13,[13]),(15,13,[13])] fun wt5 yA Qu => ?_
      have oI:=aY yA m32
      have b29:=dX yA NZ q
      refine bQ E<|bQ S<|bQ E<|bQ F<|bQ E<|bQ F<|Rp ((pf g c)) (fun _=>cu 1)<|bQ E<|bQ S<|Rp ((pf g l)) (fun _=>cu 1)<|Rs (aD ((gA k) c)) (aL oI.aH c) ?_
      refine Rs (aD ((gA k) l)) (aL oI.aH l) ?_
      refine Rp ((pf g l)) (fun _=>cu 1)<|fQ<|oC oI l (aD ((gA k) c)) fun Mw nG s24 z9 => ?_
      have Zf:=s24.below b29 (Nat.le_trans q b29.size) oI.blk.1
      refine Ln<|Rp ((pf g c)) (fun _=>cu 1)<|fQ<|oC nG c (aD ((gA k) l)) fun w16 oJ XM z10 => ?_
      have Zg:=XM.below Zf (Nat.le_trans q Zf.size) nG.blk.1
      have pO:Fx.Own w16 B 28 1 (bI g n cap) n (rv .u64 (gA (Sort.swp k l c))):=oJ.congr (gQ x (by omega) (by omega))
      refine Ln<|bM<|ay<|aS S<|Lv (au ((l:Int)+1)) eZ<|av (au ((l:Int)+1))<|aC<|Wl<|aS F<|Lv (au ((c:Int)-1)) fO<|av (au ((c:Int)-1))<|Ln<|bP<|gJ ⟨l+1,c-1,Sort.swp k l c,(eB x _ _),((Fu (by omega) (z.resolve_left (by omega)) (of_decide_eq_true u)).trans y),(by omega),E,(h27.trans Fx.ic),(h28.trans Fx.ic),Fx.ic,Fx.ic,pO,Zg⟩ ?_
      show((b:Int)-intOf ((au ((l:Int)+1)))).toNat<_
      simp only[Pf,intOf]; omega
     rw[Bool.not_eq_true]at u
     refine oz (fun _ _=>dI ((gA k) c) ((gA k) a) _) aF (by rw[u])<|aR aG<|aR aG<|Qn ?_
     intro aqe Qw
     have qL:=aY Qw lH
     have b32:=dX Qw UY q
     refine sN<|aM<|Wk<|sN<|Wb<|Wl<|aS F<|Lv (au ((c:Int)-1)) fO<|av (au ((c:Int)-1))<|Ln<|bP<|gJ ⟨c-1,((Fq (by omega) (by omega) (z.resolve_left (by omega)) (of_decide_eq_false u)).trans y),(z.elim (fun h => .inl (by omega)) .inr),(by omega),E,(h27.trans Fx.ic),(h28.trans Fx.ic),(S.trans Fx.ic),Fx.ic,qL,b32⟩ ?_
     show(intOf ((au ((c:Int)-1)))).toNat<_
     simp only[F,intOf]; omega
    refine Qv aF (fun r o=>mV O)<|aR aF<|aN<|aN<|aN<|aN<|aN<|aN<|aN<|aN<|aN<|aN<|aR aF<|Qn ?_
    intro aqf Qx
    have qM:=aY Qx lH
    have b33:=dX Qx UY q
    refine sN<|aK<|Wx<|bV<|fU<|bW<|sN<|Ws<|ay<|aS S<|aS F<|Lv aG zB<|aC<|aM<|Wx<|bV<|Fx.Kn rfl<|fU<|bW<|sN<|Ws ?_
    -- region 21 draws
    refine jo [0,1,2,3,4,5,6,8,9,10,7,11,12,13,14,15] [0,0,0,0,0,0,0,4,0,0,0,4,0,3,0,3] [(13,7,[7]),(15,7,[7]),(13,11,[11]),(15,11,[11]),(14,13,[13]),(15,13,[13])] fun wt6 IV ade => ?_
    have pQ:=aY IV qM
    have b34:=dX IV b33 q
    refine bQ E<|bQ F<|bQ E<|bQ h27<|bQ E<|bQ h27<|Rp ((pf g a)) (fun _=>cu 1)<|bQ E<|bQ F<|Rp ((pf g c)) (fun _=>cu 1)<|Rs (aD ((gA k) a)) (aL pQ.aH a) ?_
    refine Rs (aD ((gA k) c)) (aL pQ.aH c) ?_
    refine Rp ((pf g c)) (fun _=>cu 1)<|fQ<|oC pQ c (aD ((gA k) a)) fun Qy qW s29 z11 => ?_
    have b35:=s29.below b34 (Nat.le_trans q b34.size) pQ.blk.1
    refine Ln<|Rp ((pf g a)) (fun _=>cu 1)<|fQ<|oC qW a (aD ((gA k) c)) fun Qz mW s30 z12 => ?_
    have b36:=s30.below b35 (Nat.le_trans q b35.size) qW.blk.1
    have lY:Fx.Own Qz B 28 1 (bI g n cap) n (rv .u64 (gA (Sort.swp k c a))):=mW.congr (gQ x (by omega) (by omega))
    refine Ln<|bM<|ay<|aS F<|av (au c)<|av aF<|aC<|Wr<|aI (.tuple #[au ((c:Int)),.bool false]) ?_
    have v:=y.symm.trans (AP (by omega))
    exact⟨c,false,_,rfl,by rw[Sort.partition_fst,v],by rw[Sort.partition_arr,v],(eB x _ _),lY,b36⟩
   rw[Bool.not_eq_true]at P
   refine oz (fun _ _=>dI ((gA (Sort.swp d a p)) m) ((gA (Sort.swp d a p)) a) _) aF (by rw[P])<|aR aG<|aR aG<|Qn ?_
   intro aqj QA
   have lX:=aY QA m8
   have b37:=dX QA b7 q
   refine sN<|aM<|Wk<|sN<|Wb<|Wl<|aS A<|Lv (au ((m:Int)-1)) fO<|av (au ((m:Int)-1))<|Ln<|bP<|gJ ⟨m-1,((Fq (by omega) (by omega) (Z.resolve_left (by omega)) (of_decide_eq_false P)).trans Y),(Z.elim (fun h => .inl (by omega)) .inr),(by omega),M,(h7.trans Fx.ic),(h8.trans Fx.ic),(W.trans Fx.ic),Fx.ic,lX,b37⟩ ?_
   show(intOf ((au ((m:Int)-1)))).toNat<_
   simp only[A,intOf]; omega
  refine Qv aF (fun r o=>mV c48)<|aR aF<|aN<|aN<|aN<|aN<|aN<|aN<|aN<|aN<|aN<|aN<|aR aF<|Qn ?_
  intro aql QC
  have qX:=aY QC m8
  have b38:=dX QC b7 q
  refine sN<|aK<|Wx<|bV<|fU<|bW<|sN<|Ws<|ay<|aS W<|aS A<|Lv aG zB<|aC<|aM<|Ws ?_
  -- region 8 draws
  refine jo [0,1,2,3,4,5,6,8,9,10,7,11,12,13,14,15] [0,0,0,0,0,0,0,4,0,0,0,4,0,3,0,3] [(13,7,[7]),(15,7,[7]),(13,11,[11]),(15,11,[11]),(14,13,[13]),(15,13,[13])] fun wt7 IW adg => ?_
  have oZ:=aY IW qX
  have b39:=dX IW b38 q
  refine bQ M<|bQ A<|bQ M<|bQ h7<|bQ M<|bQ h7<|Rp ((pf g a)) (fun _=>cu 1)<|bQ M<|bQ A<|Rp ((pf g m)) (fun _=>cu 1)<|Rs (aD ((gA (Sort.swp d a p)) a)) (aL oZ.aH a) ?_
  refine Rs (aD ((gA (Sort.swp d a p)) m)) (aL oZ.aH m) ?_
  refine Rp ((pf g m)) (fun _=>cu 1)<|fQ<|oC oZ m (aD ((gA (Sort.swp d a p)) a)) fun XO mX s34 z13 => ?_
  have b40:=s34.below b39 (Nat.le_trans q b39.size) oZ.blk.1
  refine Ln<|Rp ((pf g a)) (fun _=>cu 1)<|fQ<|oC mX a (aD ((gA (Sort.swp d a p)) m)) fun Mx rM s35 z14 => ?_
  have b41:=s35.below b40 (Nat.le_trans q b40.size) mX.blk.1
  have vU:Fx.Own Mx B 28 1 (bI g n cap) n (rv .u64 (gA (Sort.swp (Sort.swp d a p) m a))):=rM.congr (gQ (eB Q _ _) (by omega) (by omega))
  refine Ln<|bM<|ay<|aS A<|av (au m)<|av aG<|aC<|Wr<|sR<|aI (.tuple #[au ((m:Int)),.bool true]) ?_
  have v:=Y.symm.trans (AP (by omega))
  exact⟨m,true,_,rfl,by rw[Sort.partition_fst,v],by rw[Sort.partition_arr,v],(eB (eB Q _ _) _ _),vU,b41⟩
 refine Qv aF (fun r o=>mV c32)<|aR aF<|aN<|aN<|aN<|aN<|aN<|aN<|aN<|aN<|aN<|aR aF<|Qn ?_
 intro aqs QD
 have qY:=aY QD m5
 have b42:=dX QD b4 q
 refine sN<|aK<|Wx<|bV<|fU<|bW<|sN<|Ws<|Wb<|Wo (fun f t => ∃ m:Nat,Sort.partLoop Sort.ltInt a s m (Sort.swp d a p)=Sort.partLoop Sort.ltInt a (a+1) (b-1) (Sort.swp d a p)/\((m<s \/ ¬ gA (Sort.swp d a p) s<gA (Sort.swp d a p) a))/\(m<b/\m<=b)/\f 0=bI g n cap/\f 1=au ((a:Int))/\f 2=au ((b:Int))/\f 10=au ((s:Int))/\f 11=au ((m:Int))/\Fx.Own t B 28 1 (bI g n cap) n (rv .u64 (gA (Sort.swp d a p)))/\Below B w t) (fun f _=>(intOf (f 11)).toNat) ⟨b-1,hY0,(.inl (by omega)),(by omega),h1,(h2.trans Fx.ic),(h3.trans Fx.ic),(h4.trans Fx.ic),(h5.trans Fx.ic),qY,b42⟩ ?_
 rintro f7 Um ⟨m,Y,Z,ahF,G,h32,h33,T,H,qZ,b43⟩
 refine Ws<|Ws ?_
 -- region 5 draws
 refine kZ<|dS T<|dS H ?_
 by_cases c48:(s:Int)<=(m:Int)
 ·refine Qv aG (fun r o=>mD c48)<|aR aG<|dS G<|dS H<|Qv ((pf g m)) (fun r o=>cu 1)<|Qv (aD ((gA (Sort.swp d a p)) m)) (fun r o=>aL (qZ.cb o) m)<|dS G<|dS h32<|Qv ((pf g a)) (fun r o=>cu 1)<|Qv (aD ((gA (Sort.swp d a p)) a)) (fun r o=>aL (qZ.cb o) a) ?_
  by_cases P:(decide ((gA (Sort.swp d a p)) m<(gA (Sort.swp d a p)) a))=true
  ·refine oz (fun _ _=>dI ((gA (Sort.swp d a p)) m) ((gA (Sort.swp d a p)) a) _) aG (by rw[P])<|aR aF<|aR aF<|Qn ?_
   intro aqu QE
   have uw:=aY QE qZ
   have b44:=dX QE b43 q
   refine sN<|aK<|Wx<|bV<|fU<|bW<|sN<|Ws<|ay<|aS T<|aS H<|Lv aF wL<|aC<|aK<|Wk<|sN<|Ws ?_
   -- region 10 draws
   refine jo [0,1,2,3,4,5,6,8,9,10,7,11,12,13,14,15] [0,0,0,0,0,0,0,4,0,0,0,4,0,3,0,3] [(13,7,[7]),(15,7,[7]),(13,11,[11]),(15,11,[11]),(14,13,[13]),(15,13,[13])] fun wt8 XP aof => ?_
   have uS:=aY XP uw
   have b45:=dX XP b44 q
   refine bQ G<|bQ T<|bQ G<|bQ H<|bQ G<|bQ H<|Rp ((pf g m)) (fun _=>cu 1)<|bQ G<|bQ T<|Rp ((pf g s)) (fun _=>cu 1)<|Rs (aD ((gA (Sort.swp d a p)) m)) (aL uS.aH m) ?_
   refine Rs (aD ((gA (Sort.swp d a p)) s)) (aL uS.aH s) ?_
   refine Rp ((pf g s)) (fun _=>cu 1)<|fQ<|oC uS s (aD ((gA (Sort.swp d a p)) m)) fun w22 rZ s39 z15 => ?_
   have b46:=s39.below b45 (Nat.le_trans q b45.size) uS.blk.1
   refine Ln<|Rp ((pf g m)) (fun _=>cu 1)<|fQ<|oC rZ m (aD ((gA (Sort.swp d a p)) s)) fun w23 sP s40 z16 => ?_
   have b47:=s40.below b46 (Nat.le_trans q b46.size) rZ.blk.1
   have wP:Fx.Own w23 B 28 1 (bI g n cap) n (rv .u64 (gA (Sort.swp (Sort.swp d a p) s m))):=sP.congr (gQ (eB Q _ _) (by omega) (by omega))
   refine Ln<|bM<|ay<|aS T<|Lv (au ((s:Int)+1)) eZ<|av (au ((s:Int)+1))<|aC<|ay<|aS H<|Lv (au ((m:Int)-1)) fO<|av (au ((m:Int)-1))<|aC<|Ws<|Wb<|Wo (fun f t => ∃ i:Nat,∃ j:Nat,∃ k:Array Int,k.size=n/\Sort.partLoop Sort.ltInt a i j k=Sort.partLoop Sort.ltInt a (a+1) (b-1) (Sort.swp d a p)/\(a<i/\j<b/\i<=b)/\f 0=bI g n cap/\f 1=au ((a:Int))/\f 2=au ((b:Int))/\f 10=au ((i:Int))/\f 11=au ((j:Int))/\Fx.Own t B 28 1 (bI g n cap) n (rv .u64 (gA k))/\Below B w t) (fun f _=>((b:Int)-intOf (f 10)).toNat) ⟨s+1,m-1,Sort.swp (Sort.swp d a p) s m,(eB (eB Q _ _) _ _),((Fu (by omega) (Z.resolve_left (by omega)) (of_decide_eq_true P)).trans Y),(by omega),G,(h32.trans Fx.ic),(h33.trans Fx.ic),Fx.ic,Fx.ic,wP,b47⟩ ?_
   rintro f8 w24 ⟨i,j,k,x,hX,hij,h36,h37,h38,h39,h40,sQ,b48⟩
   refine Wb<|Ws<|Wb<|Wo (fun f t => ∃ l:Nat,Sort.partLoop Sort.ltInt a l j k=Sort.partLoop Sort.ltInt a (a+1) (b-1) (Sort.swp d a p)/\(i<=l/\l<=b)/\f 0=bI g n cap/\f 1=au ((a:Int))/\f 2=au ((b:Int))/\f 10=au ((l:Int))/\f 11=au ((j:Int))/\Fx.Own t B 28 1 (bI g n cap) n (rv .u64 (gA k))/\Below B w t) (fun f _=>((b:Int)-intOf (f 10)).toNat) ⟨i,hX,(by omega),h36,(h37.trans Fx.ic),(h38.trans Fx.ic),(h39.trans Fx.ic),(h40.trans Fx.ic),sQ,b48⟩ ?_
   rintro f9 w25 ⟨l,X,ahG,h41,h42,h43,h44,h45,sS,b49⟩
   refine Ws<|Ws ?_
   -- region 13 draws
   refine kZ<|dS h44<|dS h45 ?_
   by_cases Qo:(l:Int)<=(j:Int)
   ·refine Qv aG (fun r o=>mD Qo)<|aR aG<|dS h41<|dS h44<|Qv ((pf g l)) (fun r o=>cu 1)<|Qv (aD ((gA k) l)) (fun r o=>aL (sS.cb o) l)<|dS h41<|dS h42<|Qv ((pf g a)) (fun r o=>cu 1)<|Qv (aD ((gA k) a)) (fun r o=>aL (sS.cb o) a) ?_
    by_cases N:(decide ((gA k) l<(gA k) a))=true
    ·refine oz (fun _ _=>dI ((gA k) l) ((gA k) a) _) aG (by rw[N])<|aR aG<|Qn ?_
     intro aqD QF
     have rO:=aY QF sS
     have b50:=dX QF b49 q
     refine sN<|aM<|Wk<|sN<|Wb<|Wl<|aS h44<|Lv (au ((l:Int)+1)) eZ<|av (au ((l:Int)+1))<|Ln<|bP<|gJ ⟨l+1,((Qi (by omega) (of_decide_eq_true N)).trans X),(by omega),h41,(h42.trans Fx.ic),(h43.trans Fx.ic),Fx.ic,(h45.trans Fx.ic),rO,b50⟩ ?_
     show((b:Int)-intOf ((au ((l:Int)+1)))).toNat<_
     simp only[h44,intOf]; omega
    rw[Bool.not_eq_true]at N
    refine oz (fun _ _=>dI ((gA k) l) ((gA k) a) _) aF (by rw[N])<|aR aF<|Qn ?_
    intro aqF QG
    have vV:=aY QG sS
    have b51:=dX QG b49 q
    refine sN<|aK<|Wx<|bV<|fU<|bW<|sN<|Ws<|Wb<|Wo (fun f t => ∃ c:Nat,Sort.partLoop Sort.ltInt a l c k=Sort.partLoop Sort.ltInt a (a+1) (b-1) (Sort.swp d a p)/\((c<l \/ ¬ gA k l<gA k a))/\(c<b/\c<=j)/\f 0=bI g n cap/\f 1=au ((a:Int))/\f 2=au ((b:Int))/\f 10=au ((l:Int))/\f 11=au ((c:Int))/\Fx.Own t B 28 1 (bI g n cap) n (rv .u64 (gA k))/\Below B w t) (fun f _=>(intOf (f 11)).toNat) ⟨j,X,(.inr (of_decide_eq_false N)),(by omega),h41,(h42.trans Fx.ic),(h43.trans Fx.ic),(h44.trans Fx.ic),(h45.trans Fx.ic),vV,b51⟩ ?_
    rintro f10 w26 ⟨c,y,z,Zc,I,h47,h48,U,J,pR,b52⟩
    refine Ws<|Ws ?_
    -- region 15 draws
    refine kZ<|dS U<|dS J ?_
    by_cases O:(l:Int)<=(c:Int)
    ·refine Qv aG (fun r o=>mD O)<|aR aG<|dS I<|dS J<|Qv ((pf g c)) (fun r o=>cu 1)<|Qv (aD ((gA k) c)) (fun r o=>aL (pR.cb o) c)<|dS I<|dS h47<|Qv ((pf g a)) (fun r o=>cu 1)<|Qv (aD ((gA k) a)) (fun r o=>aL (pR.cb o) a) ?_
     by_cases u:(decide ((gA k) c<(gA k) a))=true
     ·refine oz (fun _ _=>dI ((gA k) c) ((gA k) a) _) aG (by rw[u])<|aR aF<|aR aF<|Qn ?_
      intro aqH QH
      have vW:=aY QH pR
      have b53:=dX QH b52 q
      refine sN<|aK<|Wx<|bV<|fU<|bW<|sN<|Ws<|ay<|aS U<|aS J<|Lv aF wL<|aC<|aK<|Wk<|sN<|Ws ?_
      -- region 18 draws
      refine jo [0,1,2,3,4,5,6,8,9,10,7,11,12,13,14,15] [0,0,0,0,0,0,0,4,0,0,0,4,0,3,0,3] [(13,7,[7]),(15,7,[7]),(13,11,[11]),(15,11,[11]),(14,13,[13]),(15,13,[13])] fun wt9 XQ aok => ?_
      have mU:=aY XQ vW
      have b54:=dX XQ b53 q
      refine bQ I<|bQ U<|bQ I<|bQ J<|bQ I<|bQ J<|Rp ((pf g c)) (fun _=>cu 1)<|bQ I<|bQ U<|Rp ((pf g l)) (fun _=>cu 1)<|Rs (aD ((gA k) c)) (aL mU.aH c) ?_
      refine Rs (aD ((gA k) l)) (aL mU.aH l) ?_
      refine Rp ((pf g l)) (fun _=>cu 1)<|fQ<|oC mU l (aD ((gA k) c)) fun w27 qN s45 z17 => ?_
      have b55:=s45.below b54 (Nat.le_trans q b54.size) mU.blk.1
      refine Ln<|Rp ((pf g c)) (fun _=>cu 1)<|fQ<|oC qN c (aD ((gA k) l)) fun w28 m64 s46 z18 => ?_
      have b56:=s46.below b55 (Nat.le_trans q b55.size) qN.blk.1
      have wm:Fx.Own w28 B 28 1 (bI g n cap) n (rv .u64 (gA (Sort.swp k l c))):=m64.congr (gQ x (by omega) (by omega))
      refine Ln<|bM<|ay<|aS U<|Lv (au ((l:Int)+1)) eZ<|av (au ((l:Int)+1))<|aC<|Wl<|aS J<|Lv (au ((c:Int)-1)) fO<|av (au ((c:Int)-1))<|Ln<|bP<|gJ ⟨l+1,c-1,Sort.swp k l c,(eB x _ _),((Fu (by omega) (z.resolve_left (by omega)) (of_decide_eq_true u)).trans y),(by omega),I,(h47.trans Fx.ic),(h48.trans Fx.ic),Fx.ic,Fx.ic,wm,b56⟩ ?_
      show((b:Int)-intOf ((au ((l:Int)+1)))).toNat<_
      simp only[h39,intOf]; omega
     rw[Bool.not_eq_true]at u
     refine oz (fun _ _=>dI ((gA k) c) ((gA k) a) _) aF (by rw[u])<|aR aG<|aR aG<|Qn ?_
     intro aqN QI
     have uy:=aY QI pR
     have b57:=dX QI b52 q
     refine sN<|aM<|Wk<|sN<|Wb<|Wl<|aS J<|Lv (au ((c:Int)-1)) fO<|av (au ((c:Int)-1))<|Ln<|bP<|gJ ⟨c-1,((Fq (by omega) (by omega) (z.resolve_left (by omega)) (of_decide_eq_false u)).trans y),(z.elim (fun h => .inl (by omega)) .inr),(by omega),I,(h47.trans Fx.ic),(h48.trans Fx.ic),(U.trans Fx.ic),Fx.ic,uy,b57⟩ ?_
     show(intOf ((au ((c:Int)-1)))).toNat<_
     simp only[J,intOf]; omega
    refine Qv aF (fun r o=>mV O)<|aR aF<|aN<|aN<|aN<|aN<|aN<|aN<|aN<|aN<|aN<|aN<|aR aF<|Qn ?_
    intro aqP QJ
    have uz:=aY QJ pR
    have b58:=dX QJ b52 q
    refine sN<|aK<|Wx<|bV<|fU<|bW<|sN<|Ws<|ay<|aS U<|aS J<|Lv aG zB<|aC<|aM<|Wx<|bV<|Fx.Kn rfl<|fU<|bW<|sN<|Ws ?_
    -- region 21 draws
    refine jo [0,1,2,3,4,5,6,8,9,10,7,11,12,13,14,15] [0,0,0,0,0,0,0,4,0,0,0,4,0,3,0,3] [(13,7,[7]),(15,7,[7]),(13,11,[11]),(15,11,[11]),(14,13,[13]),(15,13,[13])] fun aqR QK ahP => ?_
    have sj:=aY QK uz
    have b59:=dX QK b58 q
    refine bQ I<|bQ J<|bQ I<|bQ h47<|bQ I<|bQ h47<|Rp ((pf g a)) (fun _=>cu 1)<|bQ I<|bQ J<|Rp ((pf g c)) (fun _=>cu 1)<|Rs (aD ((gA k) a)) (aL sj.aH a) ?_
    refine Rs (aD ((gA k) c)) (aL sj.aH c) ?_
    refine Rp ((pf g c)) (fun _=>cu 1)<|fQ<|oC sj c (aD ((gA k) a)) fun w29 ru s50 z19 => ?_
    have b60:=s50.below b59 (Nat.le_trans q b59.size) sj.blk.1
    refine Ln<|Rp ((pf g a)) (fun _=>cu 1)<|fQ<|oC ru a (aD ((gA k) c)) fun w30 sU s51 z20 => ?_
    have b61:=s51.below b60 (Nat.le_trans q b60.size) ru.blk.1
    have sV:Fx.Own w30 B 28 1 (bI g n cap) n (rv .u64 (gA (Sort.swp k c a))):=sU.congr (gQ x (by omega) (by omega))
    refine Ln<|bM<|ay<|aS J<|av (au c)<|av aF<|aC<|Wr<|aI (.tuple #[au ((c:Int)),.bool false]) ?_
    have v:=y.symm.trans (AP (by omega))
    exact⟨c,false,_,rfl,by rw[Sort.partition_fst,v],by rw[Sort.partition_arr,v],(eB x _ _),sV,b61⟩
   refine Qv aF (fun r o=>mV Qo)<|aR aF<|aN<|aN<|aN<|aN<|aN<|aN<|aN<|aN<|aN<|aR aF<|Qn ?_
   intro aqW QL
   have uD:=aY QL sS
   have b62:=dX QL b49 q
   refine sN<|aK<|Wx<|bV<|fU<|bW<|sN<|Ws<|Wb<|Wo (fun f t => ∃ c:Nat,Sort.partLoop Sort.ltInt a l c k=Sort.partLoop Sort.ltInt a (a+1) (b-1) (Sort.swp d a p)/\((c<l \/ ¬ gA k l<gA k a))/\(c<b/\c<=j)/\f 0=bI g n cap/\f 1=au ((a:Int))/\f 2=au ((b:Int))/\f 10=au ((l:Int))/\f 11=au ((c:Int))/\Fx.Own t B 28 1 (bI g n cap) n (rv .u64 (gA k))/\Below B w t) (fun f _=>(intOf (f 11)).toNat) ⟨j,X,(.inl (by omega)),(by omega),h41,(h42.trans Fx.ic),(h43.trans Fx.ic),(h44.trans Fx.ic),(h45.trans Fx.ic),uD,b62⟩ ?_
   rintro f11 w31 ⟨c,y,z,Zc,K,h52,h53,V,L,sZ,b63⟩
   refine Ws<|Ws ?_
   -- region 15 draws
   refine kZ<|dS V<|dS L ?_
   by_cases O:(l:Int)<=(c:Int)
   ·refine Qv aG (fun r o=>mD O)<|aR aG<|dS K<|dS L<|Qv ((pf g c)) (fun r o=>cu 1)<|Qv (aD ((gA k) c)) (fun r o=>aL (sZ.cb o) c)<|dS K<|dS h52<|Qv ((pf g a)) (fun r o=>cu 1)<|Qv (aD ((gA k) a)) (fun r o=>aL (sZ.cb o) a) ?_
    by_cases u:(decide ((gA k) c<(gA k) a))=true
    ·refine oz (fun _ _=>dI ((gA k) c) ((gA k) a) _) aG (by rw[u])<|aR aF<|aR aF<|Qn ?_
     intro aqZ QM
     have yB:=aY QM sZ
     have b64:=dX QM b63 q
     refine sN<|aK<|Wx<|bV<|fU<|bW<|sN<|Ws<|ay<|aS V<|aS L<|Lv aF wL<|aC<|aK<|Wk<|sN<|Ws ?_
     -- region 18 draws
     refine jo [0,1,2,3,4,5,6,8,9,10,7,11,12,13,14,15] [0,0,0,0,0,0,0,4,0,0,0,4,0,3,0,3] [(13,7,[7]),(15,7,[7]),(13,11,[11]),(15,11,[11]),(14,13,[13]),(15,13,[13])] fun ara QN ahR => ?_
     have uE:=aY QN yB
     have b65:=dX QN b64 q
     refine bQ K<|bQ V<|bQ K<|bQ L<|bQ K<|bQ L<|Rp ((pf g c)) (fun _=>cu 1)<|bQ K<|bQ V<|Rp ((pf g l)) (fun _=>cu 1)<|Rs (aD ((gA k) c)) (aL uE.aH c) ?_
     refine Rs (aD ((gA k) l)) (aL uE.aH l) ?_
     refine Rp ((pf g l)) (fun _=>cu 1)<|fQ<|oC uE l (aD ((gA k) c)) fun w32 wQ s55 z21 => ?_
     have b66:=s55.below b65 (Nat.le_trans q b65.size) uE.blk.1
     refine Ln<|Rp ((pf g c)) (fun _=>cu 1)<|fQ<|oC wQ c (aD ((gA k) l)) fun w33 wF s56 z22 => ?_
     have b67:=s56.below b66 (Nat.le_trans q b66.size) wQ.blk.1
     have wR:Fx.Own w33 B 28 1 (bI g n cap) n (rv .u64 (gA (Sort.swp k l c))):=wF.congr (gQ x (by omega) (by omega))
     refine Ln<|bM<|ay<|aS V<|Lv (au ((l:Int)+1)) eZ<|av (au ((l:Int)+1))<|aC<|Wl<|aS L<|Lv (au ((c:Int)-1)) fO<|av (au ((c:Int)-1))<|Ln<|bP<|gJ ⟨l+1,c-1,Sort.swp k l c,(eB x _ _),((Fu (by omega) (z.resolve_left (by omega)) (of_decide_eq_true u)).trans y),(by omega),K,(h52.trans Fx.ic),(h53.trans Fx.ic),Fx.ic,Fx.ic,wR,b67⟩ ?_
     show((b:Int)-intOf ((au ((l:Int)+1)))).toNat<_
     simp only[h39,intOf]; omega
    rw[Bool.not_eq_true]at u
    refine oz (fun _ _=>dI ((gA k) c) ((gA k) a) _) aF (by rw[u])<|aR aG<|aR aG<|Qn ?_
    intro arh QO
    have vX:=aY QO sZ
    have b68:=dX QO b63 q
    refine sN<|aM<|Wk<|sN<|Wb<|Wl<|aS L<|Lv (au ((c:Int)-1)) fO<|av (au ((c:Int)-1))<|Ln<|bP<|gJ ⟨c-1,((Fq (by omega) (by omega) (z.resolve_left (by omega)) (of_decide_eq_false u)).trans y),(z.elim (fun h => .inl (by omega)) .inr),(by omega),K,(h52.trans Fx.ic),(h53.trans Fx.ic),(V.trans Fx.ic),Fx.ic,vX,b68⟩ ?_
    show(intOf ((au ((c:Int)-1)))).toNat<_
    simp only[L,intOf]; omega
   refine Qv aF (fun r o=>mV O)<|aR aF<|aN<|aN<|aN<|aN<|aN<|aN<|aN<|aN<|aN<|aN<|aR aF<|Qn ?_
   intro arj QS
   have uT:=aY QS sZ
   have b69:=dX QS b63 q
   refine sN<|aK<|Wx<|bV<|fU<|bW<|sN<|Ws<|ay<|aS V<|aS L<|Lv aG zB<|aC<|aM<|Wx<|bV<|Fx.Kn rfl<|fU<|bW<|sN<|Ws ?_
   -- region 21 draws
   refine jo [0,1,2,3,4,5,6,8,9,10,7,11,12,13,14,15] [0,0,0,0,0,0,0,4,0,0,0,4,0,3,0,3] [(13,7,[7]),(15,7,[7]),(13,11,[11]),(15,11,[11]),(14,13,[13]),(15,13,[13])] fun arl QT ahS => ?_
   have tN:=aY QT uT
   have b70:=dX QT b69 q
   refine bQ K<|bQ L<|bQ K<|bQ h52<|bQ K<|bQ h52<|Rp ((pf g a)) (fun _=>cu 1)<|bQ K<|bQ L<|Rp ((pf g c)) (fun _=>cu 1)<|Rs (aD ((gA k) a)) (aL tN.aH a) ?_
   refine Rs (aD ((gA k) c)) (aL tN.aH c) ?_
   refine Rp ((pf g c)) (fun _=>cu 1)<|fQ<|oC tN c (aD ((gA k) a)) fun w34 wo s60 z23 => ?_
   have b71:=s60.below b70 (Nat.le_trans q b70.size) tN.blk.1
   refine Ln<|Rp ((pf g a)) (fun _=>cu 1)<|fQ<|oC wo a (aD ((gA k) c)) fun w35 xW s61 z24 => ?_
   have b72:=s61.below b71 (Nat.le_trans q b71.size) wo.blk.1
   have wu:Fx.Own w35 B 28 1 (bI g n cap) n (rv .u64 (gA (Sort.swp k c a))):=xW.congr (gQ x (by omega) (by omega))
   refine Ln<|bM<|ay<|aS L<|av (au c)<|av aF<|aC<|Wr<|aI (.tuple #[au ((c:Int)),.bool false]) ?_
   have v:=y.symm.trans (AP (by omega))
   exact⟨c,false,_,rfl,by rw[Sort.partition_fst,v],by rw[Sort.partition_arr,v],(eB x _ _),wu,b72⟩
  rw[Bool.not_eq_true]at P
  refine oz (fun _ _=>dI ((gA (Sort.swp d a p)) m) ((gA (Sort.swp d a p)) a) _) aF (by rw[P])<|aR aG<|aR aG<|Qn ?_
  intro aru QU
  have yR:=aY QU qZ
  have b73:=dX QU b43 q
  refine sN<|aM<|Wk<|sN<|Wb<|Wl<|aS H<|Lv (au ((m:Int)-1)) fO<|av (au ((m:Int)-1))<|Ln<|bP<|gJ ⟨m-1,((Fq (by omega) (by omega) (Z.resolve_left (by omega)) (of_decide_eq_false P)).trans Y),(Z.elim (fun h => .inl (by omega)) .inr),(by omega),G,(h32.trans Fx.ic),(h33.trans Fx.ic),(T.trans Fx.ic),Fx.ic,yR,b73⟩ ?_
  show(intOf ((au ((m:Int)-1)))).toNat<_
  simp only[H,intOf]; omega
 refine Qv aF (fun r o=>mV c48)<|aR aF<|aN<|aN<|aN<|aN<|aN<|aN<|aN<|aN<|aN<|aN<|aR aF<|Qn ?_
 intro arw QV
 have yC:=aY QV qZ
 have b74:=dX QV b43 q
 refine sN<|aK<|Wx<|bV<|fU<|bW<|sN<|Ws<|ay<|aS T<|aS H<|Lv aG zB<|aC<|aM<|Ws ?_
 -- region 8 draws
 refine jo [0,1,2,3,4,5,6,8,9,10,7,11,12,13,14,15] [0,0,0,0,0,0,0,4,0,0,0,4,0,3,0,3] [(13,7,[7]),(15,7,[7]),(13,11,[11]),(15,11,[11]),(14,13,[13]),(15,13,[13])] fun arz QW ahT => ?_
 have xX:=aY QW yC
 have b75:=dX QW b74 q
 refine bQ G<|bQ H<|bQ G<|bQ h32<|bQ G<|bQ h32<|Rp ((pf g a)) (fun _=>cu 1)<|bQ G<|bQ H<|Rp ((pf g m)) (fun _=>cu 1)<|Rs (aD ((gA (Sort.swp d a p)) a)) (aL xX.aH a) ?_
 refine Rs (aD ((gA (Sort.swp d a p)) m)) (aL xX.aH m) ?_
 refine Rp ((pf g m)) (fun _=>cu 1)<|fQ<|oC xX m (aD ((gA (Sort.swp d a p)) a)) fun w36 xG s65 z25 => ?_
 have b76:=s65.below b75 (Nat.le_trans q b75.size) xX.blk.1
 refine Ln<|Rp ((pf g a)) (fun _=>cu 1)<|fQ<|oC xG a (aD ((gA (Sort.swp d a p)) m)) fun w37 xY s66 z26 => ?_
 have b77:=s66.below b76 (Nat.le_trans q b76.size) xG.blk.1
 have yS:Fx.Own w37 B 28 1 (bI g n cap) n (rv .u64 (gA (Sort.swp (Sort.swp d a p) m a))):=xY.congr (gQ (eB Q _ _) (by omega) (by omega))
 refine Ln<|bM<|ay<|aS H<|av (au m)<|av aG<|aC<|Wr<|sR<|aI (.tuple #[au ((m:Int)),.bool true]) ?_
 have v:=Y.symm.trans (AP (by omega))
 exact⟨m,true,_,rfl,by rw[Sort.partition_fst,v],by rw[Sort.partition_arr,v],(eB (eB Q _ _) _ _),yS,b77⟩
end
end Go.Proofs.YtahbiajdgealnaaGreatDoor
