/-
  What the proof of the law rests on, part 2: walks of functions, and plain laws; each says its conditions itself.
-/
import Derived.MapKept
import Derived.Maps.RangeRun
import Derived.WideKeyRuns
import Derived.DeepKeys3
import Derived.Test.YtcbedgfikejkoaaGreatDoorRows
import Derived.RangeFuncNested
import Derived.RangeFuncBound
import Derived.RangeFuncCalls
import Derived.RangeFuncLeaves
import Derived.RangeFuncFrom
import Derived.Sort.LotA
import Derived.Sort.LotB
import Derived.Sort.LotC
import Derived.Sort.LotD3
import Derived.Sort.LotD1
import Derived.Test.YtcbedgfikejkoaaGreatDoorZD1
set_option maxRecDepth 20000
set_option linter.unusedVariables false
set_option maxHeartbeats 1600000
set_option linter.unusedSimpArgs false
namespace Go.Proofs.YtcbedgfikejkoaaGreatDoor.Fx
open Go.RowKit Go.MapKept
def Mp(w:World)(b n:Nat)(key:Nat->Int)(val:Nat->Value):Prop :=
 ∃ a c,w.heap[b]? = some (.map a c)/\Stamped a c/\a.size=n /\ ∀ i,i<n -> ∃ e,a[i]? = some e/\e.key = .int .u64 (key i)/\e.val=val i
def aO{a:Type}(f:Nat->a)(j:Nat)(v:a):Nat->a:=fun i=>if i=j then v else f i
section
variable {w w':World} {b n:Nat} {key:Nat->Int} {val:Nat->Value}
theorem Mp.lt(h:Mp w b n key val):b<w.heap.size:=by
 obtain⟨a,c,h,_⟩:=h;exact(t_.1 h).1
theorem Mp.keep(h:Mp w b n key val)(e:w'.heap[b]? = w.heap[b]?):Mp w' b n key val:=by
 obtain⟨a,c,d,f⟩:=h;exact⟨a,c,e.trans d,f⟩
theorem Mp.cZ{g:Nat}(h:Mp w b n key val)(a:Stp g w w')(c:b≠g):Mp w' b n key val:=h.keep (a.block b h.lt c)
theorem Mp.up(h:Mp w b n key val)(a:Below w.heap.size w w'):Mp w' b n key val:=h.keep (a.block b h.lt)
instance:Rt.Tr w w' (Mp w b n key val) (Mp w' b n key val):=⟨fun b h=>h.up b⟩
theorem Mp.tL{T:TypeId}(h:Mp w b n key val)(a:Ty w b T):False:=by
 obtain⟨e,c,h,_⟩:=h;obtain⟨d,a⟩:=a;rw[h]at a; cases a
theorem Mp.lu{Ts:List TypeId}(h:Mp w b n key val)(a:iF Ts w w')(_:True):Mp w' b n key val:=h.keep (a.block b h.lt fun _ c=>(h.tL c).elim)
instance {Ts:List TypeId}:Rt.Tc Ts w w' (Mp w b n key val) (Mp w' b n key val) true:=⟨fun b h _=>h.lu b trivial⟩
theorem Mp.ne{g:Nat}{T:TypeId}(h:Mp w b n key val)(a:Ty w g T):g≠b:=fun e=>h.tL (e ▸ a)
theorem Mp.vX{g:Nat->Int}{j:Nat->Value}(h:Mp w b n key val)(e : ∀ i,i<n->key i=g i/\val i=j i):Mp w b n g j:=by
 obtain⟨k,c,l,m,o,p⟩:=h;exact⟨k,c,l,m,o,fun i hi=>by
  obtain⟨x,a,d,f⟩:=p i hi;exact⟨x,a,by rw[d,(e i hi).1],by rw[f,(e i hi).2]⟩⟩
theorem Mp.inj(h:Mp w b n key val) : ∀ i j,i<n->j<n->key i=key j->i=j:=fun i j hi t e=>by
 obtain⟨g,c,_,⟨_,_,u⟩,hn,hg⟩:=h;obtain⟨x,d,q,_⟩:=hg i hi;obtain⟨y,f,r,_⟩:=hg j t;rw[t_]at d f;obtain⟨m,d⟩:=d;obtain⟨o,f⟩:=f;have v:=List.pairwise_iff_getElem.1 u;have p : ∀ a c (k:a<g.size) (l:c<g.size),a<c->g[a].key≠g[c].key:=fun a c k l s=>by
  have:=v a c (by simpa using k) (by simpa using l) s
  simpa only[List.getElem_map,Array.getElem_toList] using this
 rcases Nat.lt_trichotomy i j with h1|h1|h1
 ·exact M_ (by rw[d,f,q,r,e]) (p i j m o h1)
 ·exact h1
 ·exact M_ (by rw[d,f,q,r,e]) (p j i o m h1)
end
section
variable {P:Program} {f:Nat->Value} {w:World} {o:Oper}
variable {b n:Nat} {key:Nat->Int} {val:Nat->Value}
theorem Mp.find(h:Mp w b n key val){a:Array MapEntry}{c:Nat}(s:w.heap[b]? = some (.map a c))(k:Int) :
 (Instr.findNow (.int .u64) (.int .u64 k) a.toList 0=some none /\ ∀ i,i<n->key i≠k) \/ ∃ j,j<n/\key j=k/\Instr.findNow (.int .u64) (.int .u64 k) a.toList 0=some (some (j,val j)):=by
 obtain⟨A,z,o,B,q,p⟩:=h;rw[s]at o;simp only[Option.some.injEq,Obj.map.injEq]at o;obtain⟨rfl,rfl⟩:=o;have t : ∀ x∈a.toList,IsKey (.int .u64) x.key:=fun x u=>by
  obtain⟨i,hi,e⟩:=List.getElem_of_mem u;obtain⟨y,l,m,_⟩:=p i (by simpa [<- q] using hi);have:y=x:=by
   have f:a.toList[i]? = some x:=(by rw[o_ hi,e]);rw[Array.getElem?_toList,l]at f;exact C_ f
  rw[<- this,m]; exact rfl
 rcases findNow_spec (d := .int .u64) (k := .int .u64 k) rfl a.toList 0 t with ⟨f,g⟩|⟨j,e,f,g,h7⟩
 ·left;refine⟨f,fun i hi e => ?_⟩;obtain⟨y,l,m,_⟩:=p i hi;exact g y (Array.mem_toList_iff.2 (Array.mem_of_getElem? l)) (by rw[m,e])
 right;have r:j<n:=by
  rw[Array.getElem?_toList]at g;rw[<- q]; exact(t_.1 g).1
 obtain⟨y,l,m,v⟩:=p j r;rw[Array.getElem?_toList,l]at g;obtain rfl:=C_ g;rw[m]at h7;simp only[Value.int.injEq,true_and]at h7;exact⟨j,r,h7,by rw[f,G_,v]⟩
theorem qp{T K E:TypeId}{k:Int}{ok:Bool}{z:Value}(h:Mp w b n key val)(o:P.underlying T=some (.map K E))(l:P.underlying K=some (.int .u64))(v:(zeroValue E).run P w = .ok z w) :
 ((∀ i,i<n->key i≠k)->(Instr.lookup T (.map (some b)) (.int .u64 k) ok).run P w = .ok (if ok then .tuple #[z,.bool false]else z) w) /\
 ∀ j,j<n->key j=k->(Instr.lookup T (.map (some b)) (.int .u64 k) ok).run P w = .ok (if ok then .tuple #[val j,.bool true]else val j) w:=by
 have t:=h;obtain⟨q,c,d,_⟩:=t;have m:(Instr.checkKey q.isEmpty 10000 K (.int .u64 k)).run P w = .ok () w:=run_checkKey l (show IsKey (.int .u64) (.int .u64 k)from rfl) _ 9999
 rcases h.find d k with ⟨f,r⟩|⟨j,a,hkj,f⟩
 ·refine⟨fun _ => ?_,fun j a e=>M_ e (r j a)⟩;have g:=run_findKey (w:=w) l f;unfold Instr.lookup;simp only[Sem.run_bind,run_underlying o,Result.andThen_ok,Go.MapKept.run_getObj_map d,Sem.run_pure,m,g,v]
 refine⟨fun u=>M_ hkj (u j a),fun p s e => ?_⟩;obtain rfl:p=j:=h.inj p j s a (e.trans hkj.symm);have g:=run_findKey (w:=w) l f;unfold Instr.lookup;simp only[Sem.run_bind,run_underlying o,Result.andThen_ok,Go.MapKept.run_getObj_map d,Sem.run_pure,m,g]
theorem Py{T K E:TypeId}{x ix:Operand}{k:Int}{z:Value}(d:o.op = .lookup T x ix false)(hx:ev f x = .map (some b))(hi:ev f ix = .int .u64 k)(h:Mp w b n key val)(e:P.underlying T=some (.map K E))(a:P.underlying K=some (.int .u64))(g:(zeroValue E).run P w = .ok z w)(c : ∀ i,i<n->key i≠k):Runs P f o w z:=by
 unfold Runs execOp;simp only[d,hx,hi,Sem.run_bind,((qp (ok:=false) h e a g).1 c),Result.andThen_ok,Sem.run_pure]; rfl
theorem wZ{T K E:TypeId}{x ix:Operand}{k:Int}{z v:Value}{j:Nat}(e:o.op = .lookup T x ix false)(hx:ev f x = .map (some b))(hi:ev f ix = .int .u64 k)(h:Mp w b n key val)(g:P.underlying T=some (.map K E))(d:P.underlying K=some (.int .u64))(l:(zeroValue E).run P w = .ok z w)(c:j<n)(a:key j=k)(i:val j=v):Runs P f o w v:=by
 subst i;unfold Runs execOp;simp only[e,hx,hi,Sem.run_bind,((qp (ok:=false) h g d l).2 j c a),Result.andThen_ok,Sem.run_pure]; rfl
theorem FB{T K E:TypeId}{x ix:Operand}{k:Int}{z:Value}(d:o.op = .lookup T x ix true)(hx:ev f x = .map (some b))(hi:ev f ix = .int .u64 k)(h:Mp w b n key val)(e:P.underlying T=some (.map K E))(a:P.underlying K=some (.int .u64))(g:(zeroValue E).run P w = .ok z w)(c : ∀ i,i<n->key i≠k):Runs P f o w (.tuple #[z,.bool false]):=by
 unfold Runs execOp;simp only[d,hx,hi,Sem.run_bind,((qp (ok:=true) h e a g).1 c),Result.andThen_ok,Sem.run_pure]; rfl
theorem FC{T K E:TypeId}{x ix:Operand}{k:Int}{z v:Value}{j:Nat}(e:o.op = .lookup T x ix true)(hx:ev f x = .map (some b))(hi:ev f ix = .int .u64 k)(h:Mp w b n key val)(g:P.underlying T=some (.map K E))(d:P.underlying K=some (.int .u64))(l:(zeroValue E).run P w = .ok z w)(c:j<n)(a:key j=k)(i:val j=v):Runs P f o w (.tuple #[v,.bool true]):=by
 subst i;unfold Runs execOp;simp only[e,hx,hi,Sem.run_bind,((qp (ok:=true) h g d l).2 j c a),Result.andThen_ok,Sem.run_pure]; rfl
end
section
variable {P:Program} {w:World} {b n:Nat} {key:Nat->Int} {val:Nat->Value}
theorem JG{w:World}{b:Nat}{o o':Obj}(d:w.heap[b]? = some o):({ w with heap:=w.heap.setIfInBounds b o' }:World).heap[b]? = some o'/\Stp b w { w with heap:=w.heap.setIfInBounds b o' }/\({ w with heap:=w.heap.setIfInBounds b o' }:World).heap.size=w.heap.size:=by
 obtain⟨a,c⟩:=heap_set (o':=o') d;exact⟨a,⟨rfl,rfl,rfl,by simp,fun k _ e=>c k e⟩,by simp⟩
theorem Ak{T K E:TypeId}{k:Int}{v:Value}(h:Mp w b n key val)(J:P.underlying T=some (.map K E))(u:P.underlying K=some (.int .u64)) :
 (∀ j,j<n->key j=k -> ∃ w',(Instr.mapUpdate T (.map (some b)) (.int .u64 k) v).run P w = .ok () w'/\Mp w' b n key (aO val j v)/\Stp b w w'/\w'.heap.size=w.heap.size) /\
 ((∀ i,i<n->key i≠k) -> ∃ w',(Instr.mapUpdate T (.map (some b)) (.int .u64 k) v).run P w = .ok () w'/\Mp w' b (n+1) (aO key n k) (aO val n v)/\Stp b w w'/\w'.heap.size=w.heap.size):=by
 have Q:=h;obtain⟨f,c,d,G,m,p⟩:=Q;have I:(Instr.checkKey false 10000 K (.int .u64 k)).run P w = .ok () w:=run_checkKey u (show IsKey (.int .u64) (.int .u64 k)from rfl) _ 9999
 rcases h.find d k with ⟨s,H⟩|⟨j,o,hkj,s⟩
 ·refine⟨fun j o e=>M_ e (H j o),fun _ => ?_⟩;have t:=run_findKey (w:=w) u s;obtain⟨B,C,D⟩:=JG (o' := .map (f.push { key := .int .u64 k,val:=v,born:=c }) (c+1)) d;have A:(Instr.mapUpdate T (.map (some b)) (.int .u64 k) v).run P w = .ok () { w with heap:=w.heap.setIfInBounds b (.map (f.push { key := .int .u64 k,val:=v,born:=c }) (c+1)) }:=by
   unfold Instr.mapUpdate;simp only[Sem.run_bind,run_underlying J,Result.andThen_ok,Go.MapKept.run_getObj_map d,I,t];exact run_setObj_map _ d
  refine⟨_,A,⟨_,_,B,stamped_push G fun x q e => ?_,by simp[m],fun i hi => ?_⟩,C,D⟩
  ·obtain⟨i,hi,N⟩:=List.getElem_of_mem q;obtain⟨y,g,l,_⟩:=p i (by simpa [<- m] using hi);have F:f.toList[i]? = some x:=(by rw[o_ hi,N]);rw[Array.getElem?_toList,g]at F;obtain rfl:=C_ F;rw[l]at e;simp only[Value.int.injEq,true_and]at e;exact H i (by simpa [<- m] using hi) e
  by_cases e:i=n
  ·subst e;refine⟨_,by rw[Array.getElem?_push,d_ m.symm],?_,?_⟩
   ·show Value.int .u64 k=_; unfold aO; rw[d_ rfl]
   show v=_; unfold aO; rw[d_ rfl]
  obtain⟨y,g,l,M⟩:=p i (by omega);refine⟨y,by rw[Array.getElem?_push,b_ (by omega)]; exact g,?_,?_⟩
  ·unfold aO; rw[b_ e]; exact l
  unfold aO; rw[b_ e]; exact M
 refine⟨fun a O e => ?_,fun R=>M_ hkj (R j o)⟩;obtain rfl:a=j:=h.inj a j O o (e.trans hkj.symm);have t:=run_findKey (w:=w) u s;obtain⟨y,g,l,M⟩:=p a o;obtain⟨B,C,D⟩:=JG (o' := .map (f.modify a fun e => { e with key := .int .u64 k,val:=v }) c) d;have S:(Instr.keyThatStays (((f[a]?).map (·.key)).getD (.int .u64 k)) (.int .u64 k)).run P w = .ok (.int .u64 k) w:=by
  rw[g];show(Instr.keyThatStays y.key (.int .u64 k)).run P w=_;rw[l,e];unfold Instr.keyThatStays;rw[d_ (by simp[Instr.sameBits])]; rfl
 have A:(Instr.mapUpdate T (.map (some b)) (.int .u64 k) v).run P w = .ok () { w with heap:=w.heap.setIfInBounds b (.map (f.modify a fun e => { e with key := .int .u64 k,val:=v }) c) }:=by
  unfold Instr.mapUpdate;simp only[Sem.run_bind,run_underlying J,Result.andThen_ok,Go.MapKept.run_getObj_map d,I,t,S];exact run_setObj_map _ d
 refine⟨_,A,⟨_,_,B,stamped_modify G a _ (fun _ _=>rfl) (fun x _ q => ?_),by simp[m],fun i hi => ?_⟩,C,D⟩
 ·rw[g]at q;obtain rfl:=C_ q;show Value.int .u64 k=y.key;rw[l,e]
 obtain⟨z,L,U,V⟩:=p i hi;by_cases r:a=i
 ·subst r;refine⟨{ z with key := .int .u64 k,val:=v },by rw[Array.getElem?_modify,d_ rfl,L]; rfl,?_,?_⟩
  ·show Value.int .u64 k=_; rw[e]
  show v=_; unfold aO; rw[d_ rfl]
 refine⟨z,by rw[Array.getElem?_modify,b_ r]; exact L,U,?_⟩;unfold aO; rw[b_ (fun h=>r h.symm)]; exact V
end
def It(w:World)(r b n:Nat)(S:Nat->Bool):Prop :=
 ∃ a d c g f,w.heap[b]? = some (.map a d)/\w.heap[r]? = some (.mapIter (some b) c g f)/\(∀ x∈a.toList,x.born<c)/\c<=f/\a.size=n/\(∀ x∈a.toList,x.born<d)/\c<=d/\(∀(i j:Nat) (x y:MapEntry),a[i]? = some x->a[j]? = some y->x.born=y.born->i=j) /\ ∀ i,i<n -> ∃ e,a[i]? = some e/\g.contains e.born=S i
section
variable {w w':World} {r b n:Nat} {S:Nat->Bool}
theorem It.lt(h:It w r b n S):r<w.heap.size:=by
 obtain⟨d,c,s,e,a,_,h,_⟩:=h;exact(t_.1 h).1
theorem It.SQ(h:It w r b n S):b<w.heap.size:=by
 obtain⟨d,c,s,e,a,h,_⟩:=h;exact(t_.1 h).1
theorem It.keep(h:It w r b n S)(e:w'.heap[b]? = w.heap[b]?)(d:w'.heap[r]? = w.heap[r]?):It w' r b n S:=by
 obtain⟨f,c,s,k,a,g,i,j⟩:=h;exact⟨f,c,s,k,a,e.trans g,d.trans i,j⟩
theorem It.up(h:It w r b n S)(a:Below w.heap.size w w'):It w' r b n S:=h.keep (a.block b h.SQ) (a.block r h.lt)
instance:Rt.Tr w w' (It w r b n S) (It w' r b n S):=⟨fun b h=>h.up b⟩
theorem It.tL{T:TypeId}(h:It w r b n S)(a:Ty w r T):False:=by
 obtain⟨f,c,s,g,d,_,h,_⟩:=h;obtain⟨e,a⟩:=a;rw[h]at a; cases a
theorem It.TM{T:TypeId}(h:It w r b n S)(a:Ty w b T):False:=by
 obtain⟨f,c,s,g,d,h,_⟩:=h;obtain⟨e,a⟩:=a;rw[h]at a; cases a
theorem It.lu{Ts:List TypeId}(h:It w r b n S)(c:iF Ts w w')(_:True):It w' r b n S:=h.keep (c.block b h.SQ fun _ a=>(h.TM a).elim) (c.block r h.lt fun _ a=>(h.tL a).elim)
instance {Ts:List TypeId}:Rt.Tc Ts w w' (It w r b n S) (It w' r b n S) true:=⟨fun b h _=>h.lu b trivial⟩
theorem It.rb(h:It w r b n S):r≠b:=fun e=>by
 obtain⟨g,c,s,i,f,d,a,_⟩:=h;rw[e,d]at a; cases a
end
def Bl(w:World)(r b i:Nat):Prop :=
 ∃ a c f d e,w.heap[b]? = some (.map a c)/\w.heap[r]? = some (.mapIter (some b) f (Array.push d e.born) c)/\a[i]? = some e/\(a.toList.map (·.born)).Nodup
section
variable {w w':World} {r b i:Nat}
theorem Bl.lt(h:Bl w r b i):r<w.heap.size:=by
 obtain⟨a,c,s,d,e,_,h,_⟩:=h;exact(t_.1 h).1
theorem Bl.SQ(h:Bl w r b i):b<w.heap.size:=by
 obtain⟨a,c,s,d,e,h,_⟩:=h;exact(t_.1 h).1
theorem Bl.keep(h:Bl w r b i)(e:w'.heap[b]? = w.heap[b]?)(a:w'.heap[r]? = w.heap[r]?):Bl w' r b i:=by
 obtain⟨d,c,s,k,x,f,g,j⟩:=h;exact⟨d,c,s,k,x,e.trans f,a.trans g,j⟩
theorem Bl.up(h:Bl w r b i)(a:Below w.heap.size w w'):Bl w' r b i:=h.keep (a.block b h.SQ) (a.block r h.lt)
instance:Rt.Tr w w' (Bl w r b i) (Bl w' r b i):=⟨fun b h=>h.up b⟩
theorem Bl.tL{T:TypeId}(h:Bl w r b i)(a:Ty w r T):False:=by
 obtain⟨f,c,s,g,e,_,h,_⟩:=h;obtain⟨d,a⟩:=a;rw[h]at a; cases a
theorem Bl.TM{T:TypeId}(h:Bl w r b i)(a:Ty w b T):False:=by
 obtain⟨f,c,s,g,e,h,_⟩:=h;obtain⟨d,a⟩:=a;rw[h]at a; cases a
theorem Bl.lu{Ts:List TypeId}(h:Bl w r b i)(c:iF Ts w w')(_:True):Bl w' r b i:=h.keep (c.block b h.SQ fun _ a=>(h.TM a).elim) (c.block r h.lt fun _ a=>(h.tL a).elim)
instance {Ts:List TypeId}:Rt.Tc Ts w w' (Bl w r b i) (Bl w' r b i) true:=⟨fun b h _=>h.lu b trivial⟩
end
def Fam(w:World)(n:Nat)(pb:Nat->Nat)(s:Nat)(x:Nat->Nat->Value)(T:TypeId):Prop := ∀ i,i<n->aP w (pb i) s (x i) T
section
variable {w w':World} {n s:Nat} {pb:Nat->Nat} {x:Nat->Nat->Value} {T:TypeId}
end
def unseen(S:Nat->Bool):Nat->Nat
 | 0=>0
 | n+1=>unseen S n+if S n then 0 else 1
theorem Al(S:Nat->Bool)(i:Nat) : ∀ n,n<=i->unseen (aO S i true) n=unseen S n
 | 0,_=>rfl
 | n+1,h=>by
   unfold unseen;rw[Al S i n (by omega)];have:aO S i true n=S n:=(by unfold aO; rw[b_ (by omega)]);rw[this]
theorem qb{S:Nat->Bool}{i:Nat}(a:S i=false) : ∀ n,i<n->unseen (aO S i true) n+1=unseen S n
 | 0,h=>M_ h (z_ _)
 | n+1,h=>by
   unfold unseen;by_cases e:i=n
   ·subst e;rw[Al S i i (A_ _),a];have:aO S i true i=true:=(by unfold aO; rw[d_ rfl]);rw[this]; simp
   ·have:aO S i true n=S n:=(by unfold aO; rw[b_ (by omega)]);rw[this,<- qb a n (by omega)];omega
theorem run_makeMap'{P:Program}(t:TypeId)(w:World):(Instr.makeMap t none).run P w = .ok (.map (some w.heap.size)) (w.alloc (.map #[] 0)):=rfl
section
variable {P:Program} {n0:Nat} {Q:Post} {f:Nat->Value} {w:World} {ops:Array Oper} {rest:List Oper} {o:Oper} {b n:Nat} {key:Nat->Int} {val:Nat->Value}
theorem L.acS{T K E:TypeId}{x ix v:Operand}{k:Int}{u:Value}{j:Nat}(y:Region.wanted o (yf ops f)=true)(a:o.dst=none)(p:o.op = .mapUpdate T x ix v)(hx:ev f x = .map (some b))(hi:ev f ix = .int .u64 k)(t:ev f v=u)(h:Mp w b n key val)(s:P.underlying T=some (.map K E))(m:P.underlying K=some (.int .u64))(l:j<n)(i:key j=k)
 (g : ∀ w',Mp w' b n key (aO val j u)->Stp b w w'->w'.heap.size=w.heap.size->L P n0 ops Q rest f w'):L P n0 ops Q (o::rest) f w:=by
 obtain⟨w',q,c,d,e⟩:=(Ak (v:=u) h s m).1 j l i;have r:(execOp (ev f) o).run P w = .ok .skip w':=by
  unfold execOp;simp only[p,hx,hi,t,Sem.run_bind,q,Result.andThen_ok,Sem.run_pure]
 refine L.unit y r (by rw[a]; rfl) ?_;rw[a]; exact g w' c d e
theorem L.Ra{T K E:TypeId}{x ix v:Operand}{k:Int}{u:Value}(t:Region.wanted o (yf ops f)=true)(a:o.dst=none)(m:o.op = .mapUpdate T x ix v)(hx:ev f x = .map (some b))(hi:ev f ix = .int .u64 k)(s:ev f v=u)(h:Mp w b n key val)(r:P.underlying T=some (.map K E))(j:P.underlying K=some (.int .u64))(l : ∀ i,i<n->key i≠k)
 (g : ∀ w',Mp w' b (n+1) (aO key n k) (aO val n u)->Stp b w w'->w'.heap.size=w.heap.size->L P n0 ops Q rest f w'):L P n0 ops Q (o::rest) f w:=by
 obtain⟨w',p,c,d,e⟩:=(Ak (v:=u) h r j).2 l;have q:(execOp (ev f) o).run P w = .ok .skip w':=by
  unfold execOp;simp only[m,hx,hi,s,Sem.run_bind,p,Result.andThen_ok,Sem.run_pure]
 refine L.unit t q (by rw[a]; rfl) ?_;rw[a]; exact g w' c d e
theorem L.K6{T:TypeId}(e:Region.wanted o (yf ops f)=true)(b:inn n0 o.dst=true)(c:o.op = .makeMap T none)
 (a : ∀ g w',g=w.heap.size->Mp w' g 0 (fun _=>0) (fun _ => .pointer none)->Stp w.heap.size w w'->w'.heap.size=w.heap.size+1->L P n0 ops Q rest (put f o.dst (.map (some g))) w'):L P n0 ops Q (o::rest) f w:=by
 have d:(execOp (ev f) o).run P w = .ok (.value (.map (some w.heap.size))) (w.alloc (.map #[] 0)):=by
  unfold execOp;simp only[c,Option.map_none];simp[run_makeMap']
 refine L.val e d b (a _ _ rfl ?_ (Stp.alloc _ _) (by simp));exact⟨#[],0,by rw[alloc_at,d_ rfl],stamped_empty 0,rfl,fun i hi=>M_ hi (z_ _)⟩
theorem TN{T K E:TypeId}{x:Operand}{Ts:Array TypeId}(g:o.op = .call { callee := .builtin .len,args := #[x],argTypes:=Ts })(e:Ts = #[T])(hx:ev f x = .map (some b))(h:Mp w b n key val)(j:P.underlying T=some (.map K E)):Runs P f o w (.int .i64 n):=by
 obtain⟨k,c,a,_,d,_⟩:=h;unfold Runs execOp;simp only[g];unfold resolve invoke;simp only[e,List.map_toArray,List.map_cons,List.map_nil,hx];unfold builtin;have i:(Builtin.len_ #[T] o.type #[.map (some b)]).run P w = .ok (.int .i64 n) w:=by
  unfold Builtin.len_;simp[run_underlying j,Go.MapKept.run_getObj_map a,goInt,d]
 simp only[Sem.run_bind,Sem.run_pure,Result.andThen_ok,i]
theorem L.range{T K E:TypeId}{x:Operand}(J:Region.wanted o (yf ops f)=true)(A:inn n0 o.dst=true)(D:o.op = .range T x)(hx:ev f x = .map (some b))(h:Mp w b n key val)(I:P.underlying T=some (.map K E))
 (l : ∀ g w',g=w.heap.size->It w' g b n (fun _=>false)->Stp w.heap.size w w'->w'.heap.size=w.heap.size+1->L P n0 ops Q rest (put f o.dst (.pointer (some ⟨g,0,none⟩))) w'):L P n0 ops Q (o::rest) f w:=by
 have C:=h;obtain⟨d,c,p,m,u,v⟩:=C;have G:=run_range_map (P:=P) w T K E b d c I p;have H:(execOp (ev f) o).run P w = .ok (.value (.pointer (some ⟨w.heap.size,0,none⟩))) (w.alloc (.mapIter (some b) c #[] c)):=by
  unfold execOp;simp only[D,hx,Sem.run_bind,G,Result.andThen_ok,Sem.run_pure]
 refine L.val J H A (l _ _ rfl ?_ (Stp.alloc _ _) (by simp));refine⟨d,c,c,#[],c,?_,by rw[alloc_at,d_ rfl],m.1,A_ _,u,m.1,A_ _,fun i j x y hx k e => ?_,fun i hi => ?_⟩
 ·rw[alloc_at,b_ (u_ h.lt)]; exact p
 ·rw[t_]at hx k;obtain⟨r,hx⟩:=hx;obtain⟨s,k⟩:=k;have F:=List.pairwise_iff_getElem.1 m.2.1;have t : ∀ a c (q:a<d.size) (l:c<d.size),a<c->d[a].born≠d[c].born:=fun a c q l z=>by
   have:=F a c (by simpa using q) (by simpa using l) z
   simpa only[List.getElem_map,Array.getElem_toList] using this
  rcases Nat.lt_trichotomy i j with h5|h5|h5
  ·exact M_ (by rw[hx,k,e]) (t i j r s h5)
  ·exact h5
  exact M_ (by rw[hx,k,e]) (t j i s r h5)
 obtain⟨e,B,_⟩:=v i hi;exact⟨e,B,by simp⟩
theorem L.next{x:Operand}{r:Nat}{S:Nat->Bool}(O:Region.wanted o (yf ops f)=true)(J:inn n0 o.dst=true)(K:o.op = .next x false)(hx:ev f x = .pointer (some ⟨r,0,none⟩))(h:Mp w b n key val)(hi:It w r b n S)
 (hc0:(∀ i,i<n->S i=true)->L P n0 ops Q rest (put f o.dst (.tuple #[.bool false])) w)
 (hc1 : ∀ i w',i<n->S i=false->It w' r b n (aO S i true)->Bl w' r b i->Stp r w w'->w'.heap.size=w.heap.size->L P n0 ops Q rest (put f o.dst (.tuple #[.bool true,.int .u64 (key i),val i])) w'):L P n0 ops Q (o::rest) f w:=by
 obtain⟨g,c,d,a,V,l,s,G,Y,Z,h6,H,I,C⟩:=hi;obtain⟨es',c',k1,kst,_,k4⟩:=h;rw[l]at k1;simp only[Option.some.injEq,Obj.map.injEq]at k1;obtain⟨rfl,rfl⟩:=k1;have hrb:r≠b:=fun e=>by rw[e,l]at s; cases s
 rcases run_next_at (P:=P) w o.type r b d V a g c s l G Y with ⟨z,E⟩|⟨e,he,w1,hw1,E⟩
 ·have t:(execOp (ev f) o).run P w = .ok (.value (.tuple #[.bool false])) w:=by
   unfold execOp;simp only[K,hx,Sem.run_bind,E,Result.andThen_ok,Sem.run_pure]
  refine L.val O t J<|hc0 fun i hi => ?_;obtain⟨y,u,F⟩:=C i hi;rw[<- F]
  cases hq:a.contains y.born with
  | true=>rfl
  | false =>
    have q:y∈leftOf g a:=by
     unfold leftOf;rw[Array.mem_filter];exact⟨Array.mem_of_getElem? u,by rw[hq]; rfl⟩
    have:=Array.size_pos_of_mem q;omega
 have t:(execOp (ev f) o).run P w = .ok (.value (.tuple #[.bool true,e.key,e.val])) (Go.ChangeMaps.setBlock w1 r (.mapIter (some b) d (a.push e.born) c)):=by
  unfold execOp;simp only[K,hx,Sem.run_bind,E,Result.andThen_ok,Sem.run_pure]
 have q:e∈leftOf g a:=Array.mem_toList_iff.1 he;unfold leftOf at q;rw[Array.mem_filter]at q;obtain⟨hme,hns⟩:=q;obtain⟨i,hi,X⟩:=Array.getElem_of_mem hme;have m:g[i]? = some e:=by rw[Array.getElem?_eq_getElem hi,X]
 obtain⟨y,u,ky,vy⟩:=k4 i (by omega);rw[m]at u;obtain rfl:=C_ u;obtain⟨y2,R,F⟩:=C i (by omega);rw[m]at R;obtain rfl:=C_ R;have hsf:S i=false:=by rw[<- F]; simpa using hns
 have p:w1.os=w.os/\w1.tape=w.tape/\w1.output=w.output/\w1.heap=w.heap:=by rcases hw1 with rfl|rfl <;> exact⟨rfl,rfl,rfl,rfl⟩
 have N:(Go.ChangeMaps.setBlock w1 r (.mapIter (some b) d (a.push e.born) c)).heap.size=w.heap.size:=by
  show(w1.heap.setIfInBounds r _).size=_; rw[p.2.2.2]; simp
 have M:Stp r w (Go.ChangeMaps.setBlock w1 r (.mapIter (some b) d (a.push e.born) c)) :=
  ⟨p.1,p.2.1,p.2.2.1,by rw[N]; exact A_ _,fun k _ D=>by show(w1.heap.setIfInBounds r _)[k]? = _; rw[p.2.2.2,Array.getElem?_setIfInBounds_ne (Ne.symm D)]⟩
 have acT:r<w1.heap.size:=by
  rcases hw1 with rfl|rfl <;> exact(t_.1 s).1
 rw[ky,vy]at t;have T:(Go.ChangeMaps.setBlock w1 r (.mapIter (some b) d (a.push e.born) c)).heap[b]? = some (.map g c):=by rw[M.block b (t_.1 l).1 (Ne.symm hrb)]; exact l
 have U:(Go.ChangeMaps.setBlock w1 r (.mapIter (some b) d (a.push e.born) c)).heap[r]? = some (.mapIter (some b) d (a.push e.born) c):=by simp[Go.ChangeMaps.setBlock,acT]
 refine L.val O t J (hc1 i _ (by omega) hsf ⟨g,c,d,a.push e.born,c,T,U,G,H,Z,h6,H,I,fun j hj => ?_⟩ ⟨g,c,d,a,e,T,U,m,kst.2.1⟩ M N);obtain⟨A,v,hs3⟩:=C j hj;refine⟨A,v,?_⟩;unfold aO;by_cases B:j=i
 ·subst B;rw[m]at v;obtain rfl:=C_ v;rw[d_ rfl]; simp
 rw[b_ B,<- hs3];have D:A.born≠e.born:=fun W=>B (I j i A e v m W)
 cases hq:a.contains A.born with
 | true=>simp at hq ⊢; exact .inl hq
 | false=>simp at hq ⊢; exact⟨hq,D⟩
theorem Pz{x:Operand}{r i:Nat}(p:o.op = .entry x)(hx:ev f x = .pointer (some ⟨r,0,none⟩))(h:Mp w b n key val)(hi:Bl w r b i)(m:i<n):Runs P f o w (.tuple #[.int .u64 (key i),val i]):=by
 obtain⟨j,c,s,v,e,a,k,d,l⟩:=hi;obtain⟨B,A,k1,_,_,t⟩:=h;rw[a]at k1;simp only[Option.some.injEq,Obj.map.injEq]at k1;obtain⟨rfl,rfl⟩:=k1;obtain⟨y,g,u,z⟩:=t i m;rw[d]at g;obtain rfl:=C_ g;have q:=run_entry_at (P:=P) w r b s v j c e k a (Array.mem_toList_iff.2 (Array.mem_of_getElem? d)) l;unfold Runs execOp;simp only[p,hx,Sem.run_bind,q,Result.andThen_ok,Sem.run_pure,u,z]
end
structure Rb(r:Nat)(w w':World):Prop where
 s:Stp r w w'
 no : ∀ T,¬ Ty w r T
section
variable {w w':World} {r b n:Nat}
theorem Mp.Cy{m:Nat}{key:Nat->Int}{val:Nat->Value}(h:Mp w r m key val)(a:Stp r w w'):Rb r w w':=⟨a,fun _ b=>h.tL b⟩
theorem It.Cy{m q:Nat}{S:Nat->Bool}(h:It w r q m S)(a:Stp r w w'):Rb r w w':=⟨a,fun _ b=>h.tL b⟩
theorem aP.eB{x:Nat->Value}{T:TypeId}(h:aP w b n x T)(a:Rb r w w'):aP w' b n x T:=h.cZ a.s fun e=>a.no T (e ▸ h.ty)
theorem Own.eB{B s:Nat}{E:TypeId}{v:Value}{x:Nat->Value}(h:Own w B E s v n x)(a:Rb r w w'):Own w' B E s v n x:=h.cZ a.s fun e=>a.no E (h.ty e)
theorem Mp.eB{key:Nat->Int}{val:Nat->Value}(h:Mp w b n key val)(a:Rb r w w')(c:b≠r):Mp w' b n key val:=h.cZ a.s c
end
theorem tN(key:Nat->Int)(n:Nat)(k:Int):(∃ j,j<n/\key j=k) \/ ∀ i,i<n->key i≠k:=by
 by_cases h : ∃ j,j<n/\key j=k
 ·exact .inl h
 exact .inr fun i hi e=>h ⟨i,hi,e⟩
theorem xg{p:Nat->Prop}(h : ∃ k,p k) : ∃ k,p k /\ ∀ j,p j->k<=j:=by
 obtain⟨k,c⟩:=h
 induction k using Nat.strongRecOn with
 | _ k ih =>
   by_cases b : ∃ j,j<k/\p j
   ·obtain⟨j,a,e⟩:=b; exact ih j a e
   ·exact⟨k,c,fun j a=>Nat.not_lt.1 fun d=>b ⟨j,d,a⟩⟩
open Classical in
theorem DU{P:Program}{n:Nat}{c:Code}{Q:Post}{f:Nat->Value}{w:World}(I:Nat->(Nat->Value)->World->Prop)(j:Nat)(l:I j f w)
 (hr : ∀ k f w,I k f w->W P n c (KS (fun f w => ∃ a,a<k/\I a f w) (fun _ _=>0) 1 Q) f w):W P n (.loop c) Q f w:=by
 refine Wo (fun f w => ∃ k,I k f w) (fun f w=>if h : ∃ k,I k f w then(xg h).choose else 0) ⟨j,l⟩ fun f w h => ?_;refine(hr _ f w (xg h).choose_spec.1).mono fun e d w' i => ?_;rw[dif_pos h]
 cases e with
 | normal =>
   obtain⟨⟨a,m,b⟩,_⟩:=i;refine⟨⟨a,b⟩,?_⟩;have g : ∃ k,I k d w':=⟨a,b⟩;show(if h : ∃ k,I k d w' then(xg h).choose else 0)<_;rw[dif_pos g];exact Nat.lt_of_le_of_lt ((xg g).choose_spec.2 a b) m
 | _=>exact i
structure zF(Ts:List TypeId)(w w':World):Prop where
 os:w'.os=w.os
 tape:w'.tape=w.tape
 output:w'.output=w.output
 size:w.heap.size<=w'.heap.size
 block : ∀ k T,Ty w k T->Ts.contains T=false->w'.heap[k]? = w.heap[k]?
section
variable {w w' w2:World} {Ts Us:List TypeId}
theorem zF.refl(w:World):zF Ts w w:=⟨rfl,rfl,rfl,A_ _,fun _ _ _ _=>rfl⟩
theorem Ty.ltw{k:Nat}{T:TypeId}(h:Ty w k T):k<w.heap.size:=by
 obtain⟨c,h⟩:=h;exact(t_.1 h).1
theorem zF.trans(w w' w2:World)(h:zF Ts w w')(k:zF Ts w' w2):zF Ts w w2:=⟨k.os.trans h.os,k.tape.trans h.tape,k.output.trans h.output,m_ h.size k.size,fun i T b a=>by
 have e:=h.block i T b a;obtain⟨c,d⟩:=b;exact(k.block i T ⟨c,e.trans d⟩ a).trans e⟩
theorem zF.JH(h:iF Ts w w'):zF Ts w w':=⟨h.os,h.tape,h.output,h.size,fun k T a b=>h.block k a.ltw fun d c=>by rw[Ty.only a c]; exact b⟩
theorem aP.Em{b n:Nat}{x:Nat->Value}{T:TypeId}(h:aP w b n x T)(a:zF Ts w w')(c:Ts.contains T=false):aP w' b n x T:=(a.block b T h.ty c).trans h
theorem Own.Em{B s n:Nat}{E:TypeId}{v:Value}{x:Nat->Value}(h:Own w B E s v n x)(a:zF Ts w w')(b:Ts.contains E=false):Own w' B E s v n x:=by
 refine⟨h.1,?_⟩
 rcases h.2 with hn|⟨g,cap,cur,hv,hB,hg,rest⟩
 ·exact .inl hn
 exact .inr ⟨g,cap,cur,hv,hB,(a.block g E ⟨cur,hg⟩ b).trans hg,rest⟩
end
end Go.Proofs.YtcbedgfikejkoaaGreatDoor.Fx
namespace Go.Proofs.YtcbedgfikejkoaaGreatDoor.Fx
open Go.RowKit Go.MapKept
def kS(a b:Int):Value := .agg #[.int .i64 a,.int .u64 b]
structure En(a b:Int):Prop where
 a : -9223372036854775808<=a/\a<=9223372036854775807
 b:0<=b/\b<=18446744073709551615
theorem NP{a b c d:Int}(h:kS a b=kS c d):a=c/\b=d:=by
 unfold kS at h;simp only[Value.agg.injEq]at h;have h:=L_ Array.toList h;simp at h; exact h
theorem Am{y:Nat->Value}{a b:Int}(c:y 0 = .int .i64 a)(h1:y 1 = .int .u64 b):Value.agg (aA 2 y)=kS a b:=by
 unfold kS
 congr 1
 apply Array.ext';rw[Ig];show [y 0,y 1]=_;rw[c,h1]
structure xk(P:Program)(K:TypeId):Prop where
 kt:P.keyTypeAt 12 K=true
 fl:flatK P 12 K=some [some .i64,some .u64]
 ag:Fp P K=true
section
variable {P:Program} {K:TypeId} {a b c d:Int} {w:World}
theorem xk.wide(h:xk P K):(match P.underlying K with|some (.array _ _)|some (.struct _)=>true|_=>false)=true:=by
 have h:=h.ag;unfold Fp at h
 cases hu:P.underlying K with
 | none=>rw[hu]at h; cases h
 | some d=>rw[hu]at h; cases d <;> first|rfl|(cases h)
theorem En.fit(h:En a b):Fit [some .i64,some .u64] (#[Value.int .i64 a,.int .u64 b]:Array Value).toList [.int .i64 a,.int .u64 b]:=by
 refine⟨?_,?_,trivial⟩
 ·simp[oG,NC h.a]
 simp[oG,qA h.b]
theorem xk.eq(e:xk P K)(h1:En a b)(f:En c d)(w:World) : ∃ r:Bool,(Op.equal K (kS a b) (kS c d)).run P w = .ok r w/\(r=true<->kS a b=kS c d):=by
 refine⟨decide (a=c/\b=d),?_,?_⟩
 ·have:=pX w 12 9988 K _ #[.int .i64 a,.int .u64 b] #[.int .i64 c,.int .u64 d] _ _ e.kt e.fl e.wide h1.fit f.fit (decide (a=c/\b=d)) (by simp);exact this
 rw[Q_];constructor
 ·rintro ⟨rfl,rfl⟩; rfl
 exact NP
theorem xk.formed(g:xk P K)(h1:En a b):(kS a b).formed P K=true:=by
 have d:=g.wide;have c:=g.fl;unfold Value.formed kS
 cases hu:P.underlying K with
 | none=>rw[hu]at d; cases d
 | some td =>
   have h:P.cellsOf K=2:=by
    unfold flatK at c;rw[hu]at c d
    cases td with
    | array n e =>
      simp only at c
      cases h2:flatK P 11 e with
      | none=>rw[h2]at c; cases c
      | some l =>
        rw[h2]at c;simp only at c;split at c
        ·rename_i h3;simp only[Option.some.injEq]at c;have f:=L_ List.length c;rw[tJ]at f;exact h3.2.symm.trans f
        ·cases c
    | struct fs =>
      simp only at c
      cases h2:wS P.cellsOf (flatK P 11) fs.toList 0 with
      | none=>rw[h2]at c; cases c
      | some l =>
        rw[h2]at c;simp only at c;split at c
        ·rename_i h3;simp only[Option.some.injEq]at c;rw[<- h3,c]; rfl
        ·cases c
    | _=>cases d
   rw[hu]at d
   cases td <;> first|(cases d; done)|simp[h]
theorem xk.check(c:xk P K)(h1:En a b)(d:Bool)(w:World):(Instr.checkKey d 10000 K (kS a b)).run P w = .ok () w:=by
 have h:=run_checkKey_deep d 9988 12 K c.kt;exact h w 12 (kS a b) _ (c.formed h1) (qz 12 K _ _ _ c.fl (by simpa [Value.cells,kS] using h1.fit))
theorem K7(a b:Int):Instr.sameBits 10000 (kS a b) (kS a b)=true:=by
 unfold kS;show Instr.sameBits (9999+1) _ _=true;simp[Instr.sameBits]
end
def iI(w:World)(b n:Nat)(k1 k2:Nat->Int)(val:Nat->Value):Prop :=
 ∃ a c,w.heap[b]? = some (.map a c)/\Stamped a c/\a.size=n /\ ∀ i,i<n -> ∃ e,a[i]? = some e/\e.key=kS (k1 i) (k2 i)/\e.val=val i/\En (k1 i) (k2 i)
section
variable {w w':World} {b n:Nat} {k1 k2:Nat->Int} {val:Nat->Value}
theorem iI.lt(h:iI w b n k1 k2 val):b<w.heap.size:=by
 obtain⟨a,c,h,_⟩:=h;exact(t_.1 h).1
theorem iI.keep(h:iI w b n k1 k2 val)(e:w'.heap[b]? = w.heap[b]?):iI w' b n k1 k2 val:=by
 obtain⟨a,c,d,f⟩:=h;exact⟨a,c,e.trans d,f⟩
theorem iI.cZ{g:Nat}(h:iI w b n k1 k2 val)(a:Stp g w w')(c:b≠g):iI w' b n k1 k2 val:=h.keep (a.block b h.lt c)
theorem iI.up(h:iI w b n k1 k2 val)(a:Below w.heap.size w w'):iI w' b n k1 k2 val:=h.keep (a.block b h.lt)
instance:Rt.Tr w w' (iI w b n k1 k2 val) (iI w' b n k1 k2 val):=⟨fun b h=>h.up b⟩
theorem iI.tL{T:TypeId}(h:iI w b n k1 k2 val)(a:Ty w b T):False:=by
 obtain⟨e,c,h,_⟩:=h;obtain⟨d,a⟩:=a;rw[h]at a; cases a
theorem iI.lu{Ts:List TypeId}(h:iI w b n k1 k2 val)(a:iF Ts w w')(_:True):iI w' b n k1 k2 val:=h.keep (a.block b h.lt fun _ c=>(h.tL c).elim)
instance {Ts:List TypeId}:Rt.Tc Ts w w' (iI w b n k1 k2 val) (iI w' b n k1 k2 val) true:=⟨fun b h _=>h.lu b trivial⟩
theorem iI.Cy(h:iI w b n k1 k2 val)(a:Stp b w w'):Rb b w w':=⟨a,fun _ c=>h.tL c⟩
theorem iI.eB{r:Nat}(h:iI w b n k1 k2 val)(a:Rb r w w')(c:b≠r):iI w' b n k1 k2 val:=h.cZ a.s c
theorem iI.ok(h:iI w b n k1 k2 val){i:Nat}(hi:i<n):En (k1 i) (k2 i):=by
 obtain⟨f,c,_,_,_,a⟩:=h;obtain⟨e,_,_,_,d⟩:=a i hi; exact d
theorem iI.vX{l m:Nat->Int}{o:Nat->Value}(h:iI w b n k1 k2 val)(e : ∀ i,i<n->k1 i=l i/\k2 i=m i/\val i=o i):iI w b n l m o:=by
 obtain⟨q,c,r,s,t,u⟩:=h;exact⟨q,c,r,s,t,fun i hi=>by
  obtain⟨x,a,d,f,g⟩:=u i hi;obtain⟨j,k,p⟩:=e i hi;exact⟨x,a,by rw[d,j,k],by rw[f,p],by rw[<- j,<- k]; exact g⟩⟩
theorem iI.inj(h:iI w b n k1 k2 val) : ∀ i j,i<n->j<n->k1 i=k1 j->k2 i=k2 j->i=j:=fun i j hi u g k=>by
 obtain⟨f,c,_,⟨_,_,v⟩,hn,hg⟩:=h;obtain⟨x,d,r,_⟩:=hg i hi;obtain⟨y,e,s,_⟩:=hg j u;rw[t_]at d e;obtain⟨o,d⟩:=d;obtain⟨p,e⟩:=e;have z:=List.pairwise_iff_getElem.1 v;have q : ∀ a c (l:a<f.size) (m:c<f.size),a<c->f[a].key≠f[c].key:=fun a c l m t=>by
  have:=z a c (by simpa using l) (by simpa using m) t
  simpa only[List.getElem_map,Array.getElem_toList] using this
 rcases Nat.lt_trichotomy i j with h1|h1|h1
 ·exact M_ (by rw[d,e,r,s,g,k]) (q i j o p h1)
 ·exact h1
 ·exact M_ (by rw[d,e,r,s,g,k]) (q j i p o h1)
end
theorem yP(k1 k2:Nat->Int)(n:Nat)(a b:Int):(∃ j,j<n/\k1 j=a/\k2 j=b) \/ ∀ i,i<n -> ¬ (k1 i=a/\k2 i=b):=by
 by_cases h : ∃ j,j<n/\k1 j=a/\k2 j=b
 ·exact .inl h
 exact .inr fun i hi e=>h ⟨i,hi,e⟩
section
variable {P:Program} {f:Nat->Value} {w:World} {o:Oper} {K:TypeId}
variable {b n:Nat} {k1 k2:Nat->Int} {val:Nat->Value}
theorem K8(k:xk P K){x y:Int}(l:En x y)(w:World) : ∀(a:List MapEntry) (i:Nat),(∀ e∈a,∃ u v,e.key=kS u v/\En u v) ->
 ((Instr.findAsking K (kS x y) a i).run P w = .ok none w /\ ∀ e∈a,e.key≠kS x y) \/ ∃ j e,(Instr.findAsking K (kS x y) a i).run P w = .ok (some (i+j,e.val)) w/\a[j]? = some e/\e.key=kS x y
 | [],i,_ => .inl ⟨by simp[Instr.findAsking],by simp⟩
 | e::a,i,hall=>by
   obtain⟨u,v,m,o⟩:=hall e (by simp);obtain⟨r,c,g⟩:=k.eq l o w;rw[<- m]at c g
   cases r
   ·have n:e.key≠kS x y:=fun h=>by have:=g.2 h.symm; cases this
    rcases K8 k l w a (i+1) (fun y b=>hall y (by simp[b]))with ⟨d,f⟩|⟨j,e',d,f,h3⟩
    ·left;refine⟨by simp[Instr.findAsking,c,d],fun y b => ?_⟩
     rcases List.mem_cons.1 b with rfl|b
     ·exact n
     ·exact f y b
    ·right;exact⟨j+1,e',by simp[Instr.findAsking,c,d,Nat.add_assoc,Nat.add_comm 1 j],by simpa using f,h3⟩
   ·right;exact⟨0,e,by simp[Instr.findAsking,c],rfl,(g.1 rfl).symm⟩
theorem iI.find(h:iI w b n k1 k2 val)(p:xk P K){a:Array MapEntry}{c:Nat}(t:w.heap[b]? = some (.map a c)){x y:Int}(z:En x y) :
 ((Instr.findKey K (kS x y) a.toList).run P w = .ok none w /\ ∀ i,i<n -> ¬ (k1 i=x/\k2 i=y)) \/ ∃ j,j<n/\k1 j=x/\k2 j=y/\(Instr.findKey K (kS x y) a.toList).run P w = .ok (some (j,val j)) w:=by
 obtain⟨F,E,l,G,o,m⟩:=h;rw[t]at l;simp only[Option.some.injEq,Obj.map.injEq]at l;obtain⟨rfl,rfl⟩:=l;have A : ∀ e∈a.toList,∃ u v,e.key=kS u v/\En u v:=fun x B=>by
  obtain⟨i,hi,e⟩:=List.getElem_of_mem B;obtain⟨y,g,k,_,C⟩:=m i (by simpa [<- o] using hi);have:y=x:=by
   have d:a.toList[i]? = some x:=(by rw[o_ hi,e]);rw[Array.getElem?_toList,g]at d;exact C_ d
  subst this;exact⟨_,_,k,C⟩
 rw[run_findKey_eq w p.wide]
 rcases K8 p z w a.toList 0 A with ⟨d,f⟩|⟨j,e,d,f,h7⟩
 ·left;refine⟨d,fun i hi e => ?_⟩;obtain⟨y,g,k,_⟩:=m i hi;exact f y (Array.mem_toList_iff.2 (Array.mem_of_getElem? g)) (by rw[k,e.1,e.2])
 right;have q:j<n:=by
  rw[Array.getElem?_toList]at f;rw[<- o]; exact(t_.1 f).1
 obtain⟨y,g,k,D,_⟩:=m j q;rw[Array.getElem?_toList,g]at f;obtain rfl:=C_ f;rw[k]at h7;obtain⟨r,s⟩:=NP h7;exact⟨j,q,r,s,by rw[d,G_,D]⟩
theorem oK{T E:TypeId}{x y:Int}{ok:Bool}{z:Value}(m:En x y)(h:iI w b n k1 k2 val)(o:P.underlying T=some (.map K E))(k:xk P K)(v:(zeroValue E).run P w = .ok z w) :
 ((∀ i,i<n -> ¬ (k1 i=x/\k2 i=y))->(Instr.lookup T (.map (some b)) (kS x y) ok).run P w = .ok (if ok then .tuple #[z,.bool false]else z) w) /\
 ∀ j,j<n->k1 j=x->k2 j=y->(Instr.lookup T (.map (some b)) (kS x y) ok).run P w = .ok (if ok then .tuple #[val j,.bool true]else val j) w:=by
 have t:=h;obtain⟨q,c,f,_⟩:=t;have l:=k.check m q.isEmpty w
 rcases h.find k f m with ⟨g,r⟩|⟨j,a,hkj,TP,g⟩
 ·refine⟨fun _ => ?_,fun j a e d=>M_ ⟨e,d⟩ (r j a)⟩;unfold Instr.lookup;simp only[Sem.run_bind,run_underlying o,Result.andThen_ok,Go.MapKept.run_getObj_map f,Sem.run_pure,l,g,v]
 refine⟨fun u=>M_ ⟨hkj,TP⟩ (u j a),fun p s e d => ?_⟩;obtain rfl:p=j:=h.inj p j s a (e.trans hkj.symm) (d.trans TP.symm);unfold Instr.lookup;simp only[Sem.run_bind,run_underlying o,Result.andThen_ok,Go.MapKept.run_getObj_map f,Sem.run_pure,l,g]
variable {T E:TypeId} {x ix:Operand} {a r:Int} {z v:Value} {j:Nat}
theorem K9(g:o.op = .lookup T x ix false)(hx:ev f x = .map (some b))(hi:ev f ix=kS a r)(d:En a r)(h:iI w b n k1 k2 val)(j:P.underlying T=some (.map K E))(c:xk P K)(k:(zeroValue E).run P w = .ok z w)(e : ∀ i,i<n -> ¬ (k1 i=a/\k2 i=r)):Runs P f o w z:=by
 unfold Runs execOp;simp only[g,hx,hi,Sem.run_bind,((oK (ok:=false) d h j c k).1 e),Result.andThen_ok,Sem.run_pure]; rfl
theorem La(k:o.op = .lookup T x ix false)(hx:ev f x = .map (some b))(hi:ev f ix=kS a r)(i:En a r)(h:iI w b n k1 k2 val)(l:P.underlying T=some (.map K E))(e:xk P K)(p:(zeroValue E).run P w = .ok z w)(g:j<n)(c:k1 j=a)(d:k2 j=r)(m:val j=v):Runs P f o w v:=by
 subst m;unfold Runs execOp;simp only[k,hx,hi,Sem.run_bind,((oK (ok:=false) i h l e p).2 j g c d),Result.andThen_ok,Sem.run_pure]; rfl
theorem Rc(g:o.op = .lookup T x ix true)(hx:ev f x = .map (some b))(hi:ev f ix=kS a r)(d:En a r)(h:iI w b n k1 k2 val)(j:P.underlying T=some (.map K E))(c:xk P K)(k:(zeroValue E).run P w = .ok z w)(e : ∀ i,i<n -> ¬ (k1 i=a/\k2 i=r)):Runs P f o w (.tuple #[z,.bool false]):=by
 unfold Runs execOp;simp only[g,hx,hi,Sem.run_bind,((oK (ok:=true) d h j c k).1 e),Result.andThen_ok,Sem.run_pure]; rfl
theorem Rf(k:o.op = .lookup T x ix true)(hx:ev f x = .map (some b))(hi:ev f ix=kS a r)(i:En a r)(h:iI w b n k1 k2 val)(l:P.underlying T=some (.map K E))(e:xk P K)(p:(zeroValue E).run P w = .ok z w)(g:j<n)(c:k1 j=a)(d:k2 j=r)(m:val j=v):Runs P f o w (.tuple #[v,.bool true]):=by
 subst m;unfold Runs execOp;simp only[k,hx,hi,Sem.run_bind,((oK (ok:=true) i h l e p).2 j g c d),Result.andThen_ok,Sem.run_pure]; rfl
end
section
variable {P:Program} {w:World} {b n:Nat} {k1 k2:Nat->Int} {val:Nat->Value} {K:TypeId}
theorem yQ{T E:TypeId}{x y:Int}{v:Value}(u:En x y)(h:iI w b n k1 k2 val)(L:P.underlying T=some (.map K E))(I:xk P K) :
 (∀ j,j<n->k1 j=x->k2 j=y -> ∃ w',(Instr.mapUpdate T (.map (some b)) (kS x y) v).run P w = .ok () w'/\iI w' b n k1 k2 (aO val j v)/\Stp b w w'/\w'.heap.size=w.heap.size) /\
 ((∀ i,i<n -> ¬ (k1 i=x/\k2 i=y)) -> ∃ w',(Instr.mapUpdate T (.map (some b)) (kS x y) v).run P w = .ok () w'/\iI w' b (n+1) (aO k1 n x) (aO k2 n y) (aO val n v)/\Stp b w w'/\w'.heap.size=w.heap.size):=by
 have V:=h;obtain⟨g,c,d,G,m,p⟩:=V;have J:=I.check u false w
 rcases h.find I d u with ⟨t,H⟩|⟨j,o,hkj,TP,t⟩
 ·refine⟨fun j o e f=>M_ ⟨e,f⟩ (H j o),fun _ => ?_⟩;obtain⟨B,C,D⟩:=JG (o' := .map (g.push { key:=kS x y,val:=v,born:=c }) (c+1)) d;have A:(Instr.mapUpdate T (.map (some b)) (kS x y) v).run P w = .ok () { w with heap:=w.heap.setIfInBounds b (.map (g.push { key:=kS x y,val:=v,born:=c }) (c+1)) }:=by
   unfold Instr.mapUpdate;simp only[Sem.run_bind,run_underlying L,Result.andThen_ok,Go.MapKept.run_getObj_map d,J,t];exact run_setObj_map _ d
  refine⟨_,A,⟨_,_,B,stamped_push G fun q r e => ?_,by simp[m],fun i hi => ?_⟩,C,D⟩
  ·obtain⟨i,hi,S⟩:=List.getElem_of_mem r;obtain⟨z,k,l,_⟩:=p i (by simpa [<- m] using hi);have F:g.toList[i]? = some q:=(by rw[o_ hi,S]);rw[Array.getElem?_toList,k]at F;obtain rfl:=C_ F;rw[l]at e;exact H i (by simpa [<- m] using hi) (NP e)
  by_cases e:i=n
  ·subst e;refine⟨_,by rw[Array.getElem?_push,d_ m.symm],?_,?_,?_⟩
   ·show kS x y=_; unfold aO; rw[d_ rfl,d_ rfl]
   ·show v=_; unfold aO; rw[d_ rfl]
   unfold aO; rw[d_ rfl,d_ rfl]; exact u
  obtain⟨z,k,l,Q,O⟩:=p i (by omega);refine⟨z,by rw[Array.getElem?_push,b_ (by omega)]; exact k,?_,?_,?_⟩
  ·unfold aO; rw[b_ e,b_ e]; exact l
  ·unfold aO; rw[b_ e]; exact Q
  unfold aO; rw[b_ e,b_ e]; exact O
 refine⟨fun a U e f => ?_,fun W=>M_ ⟨hkj,TP⟩ (W j o)⟩;obtain rfl:a=j:=h.inj a j U o (e.trans hkj.symm) (f.trans TP.symm);obtain⟨z,k,l,Q,O⟩:=p a o;obtain⟨B,C,D⟩:=JG (o' := .map (g.modify a fun q => { q with key:=kS x y,val:=v }) c) d;have X:(Instr.keyThatStays (((g[a]?).map (·.key)).getD (kS x y)) (kS x y)).run P w = .ok (kS x y) w:=by
  rw[k];show(Instr.keyThatStays z.key (kS x y)).run P w=_;rw[l,e,f];unfold Instr.keyThatStays;rw[d_ (K7 x y)]; rfl
 have A:(Instr.mapUpdate T (.map (some b)) (kS x y) v).run P w = .ok () { w with heap:=w.heap.setIfInBounds b (.map (g.modify a fun q => { q with key:=kS x y,val:=v }) c) }:=by
  unfold Instr.mapUpdate;simp only[Sem.run_bind,run_underlying L,Result.andThen_ok,Go.MapKept.run_getObj_map d,J,t,X];exact run_setObj_map _ d
 refine⟨_,A,⟨_,_,B,stamped_modify G a _ (fun _ _=>rfl) (fun q _ r => ?_),by simp[m],fun i hi => ?_⟩,C,D⟩
 ·rw[k]at r;obtain rfl:=C_ r;show kS x y=z.key;rw[l,e,f]
 obtain⟨R,M,Y,Z,N⟩:=p i hi;by_cases s:a=i
 ·subst s;refine⟨{ R with key:=kS x y,val:=v },by rw[Array.getElem?_modify,d_ rfl,M]; rfl,?_,?_,N⟩
  ·show kS x y=_; rw[e,f]
  show v=_; unfold aO; rw[d_ rfl]
 refine⟨R,by rw[Array.getElem?_modify,b_ s]; exact M,Y,?_,N⟩;unfold aO; rw[b_ (fun h=>s h.symm)]; exact Z
end
section
variable {P:Program} {n0:Nat} {Q:Post} {f:Nat->Value} {w:World} {ops:Array Oper} {rest:List Oper} {o:Oper} {b n:Nat} {k1 k2:Nat->Int} {val:Nat->Value} {T K E:TypeId} {x ix v:Operand} {a r:Int} {u:Value} {j:Nat}
theorem L.aho(B:Region.wanted o (yf ops f)=true)(c:o.dst=none)(s:o.op = .mapUpdate T x ix v)(hx:ev f x = .map (some b))(hi:ev f ix=kS a r)(q:En a r)(A:ev f v=u)(h:iI w b n k1 k2 val)(z:P.underlying T=some (.map K E))(l:xk P K)(p:j<n)(d:k1 j=a)(e:k2 j=r)
 (m : ∀ w',iI w' b n k1 k2 (aO val j u)->Stp b w w'->w'.heap.size=w.heap.size->L P n0 ops Q rest f w'):L P n0 ops Q (o::rest) f w:=by
 obtain⟨w',t,g,i,k⟩:=(yQ (v:=u) q h z l).1 j p d e;have y:(execOp (ev f) o).run P w = .ok .skip w':=by
  unfold execOp;simp only[s,hx,hi,A,Sem.run_bind,t,Result.andThen_ok,Sem.run_pure]
 refine L.unit B y (by rw[c]; rfl) ?_;rw[c]; exact m w' g i k
theorem L.TQ(z:Region.wanted o (yf ops f)=true)(c:o.dst=none)(p:o.op = .mapUpdate T x ix v)(hx:ev f x = .map (some b))(hi:ev f ix=kS a r)(l:En a r)(y:ev f v=u)(h:iI w b n k1 k2 val)(t:P.underlying T=some (.map K E))(j:xk P K)(m : ∀ i,i<n -> ¬ (k1 i=a/\k2 i=r))
 (k : ∀ w',iI w' b (n+1) (aO k1 n a) (aO k2 n r) (aO val n u)->Stp b w w'->w'.heap.size=w.heap.size->L P n0 ops Q rest f w'):L P n0 ops Q (o::rest) f w:=by
 obtain⟨w',q,d,e,g⟩:=(yQ (v:=u) l h t j).2 m;have s:(execOp (ev f) o).run P w = .ok .skip w':=by
  unfold execOp;simp only[p,hx,hi,y,Sem.run_bind,q,Result.andThen_ok,Sem.run_pure]
 refine L.unit z s (by rw[c]; rfl) ?_;rw[c]; exact k w' d e g
theorem L.TR{T:TypeId}(e:Region.wanted o (yf ops f)=true)(b:inn n0 o.dst=true)(c:o.op = .makeMap T none)
 (a : ∀ g w',g=w.heap.size->iI w' g 0 (fun _=>0) (fun _=>0) (fun _ => .pointer none)->Stp w.heap.size w w'->w'.heap.size=w.heap.size+1->L P n0 ops Q rest (put f o.dst (.map (some g))) w'):L P n0 ops Q (o::rest) f w:=by
 have d:(execOp (ev f) o).run P w = .ok (.value (.map (some w.heap.size))) (w.alloc (.map #[] 0)):=by
  unfold execOp;simp only[c,Option.map_none];simp[run_makeMap']
 refine L.val e d b (a _ _ rfl ?_ (Stp.alloc _ _) (by simp));exact⟨#[],0,by rw[alloc_at,d_ rfl],stamped_empty 0,rfl,fun i hi=>M_ hi (z_ _)⟩
theorem L.acU(J:Region.wanted o (yf ops f)=true)(A:inn n0 o.dst=true)(D:o.op = .range T x)(hx:ev f x = .map (some b))(h:iI w b n k1 k2 val)(I:P.underlying T=some (.map K E))
 (l : ∀ g w',g=w.heap.size->It w' g b n (fun _=>false)->Stp w.heap.size w w'->w'.heap.size=w.heap.size+1->L P n0 ops Q rest (put f o.dst (.pointer (some ⟨g,0,none⟩))) w'):L P n0 ops Q (o::rest) f w:=by
 have C:=h;obtain⟨d,c,p,m,u,v⟩:=C;have G:=run_range_map (P:=P) w T K E b d c I p;have H:(execOp (ev f) o).run P w = .ok (.value (.pointer (some ⟨w.heap.size,0,none⟩))) (w.alloc (.mapIter (some b) c #[] c)):=by
  unfold execOp;simp only[D,hx,Sem.run_bind,G,Result.andThen_ok,Sem.run_pure]
 refine L.val J H A (l _ _ rfl ?_ (Stp.alloc _ _) (by simp));refine⟨d,c,c,#[],c,?_,by rw[alloc_at,d_ rfl],m.1,A_ _,u,m.1,A_ _,fun i j x y hx k e => ?_,fun i hi => ?_⟩
 ·rw[alloc_at,b_ (u_ h.lt)]; exact p
 ·rw[t_]at hx k;obtain⟨r,hx⟩:=hx;obtain⟨s,k⟩:=k;have F:=List.pairwise_iff_getElem.1 m.2.1;have t : ∀ a c (q:a<d.size) (l:c<d.size),a<c->d[a].born≠d[c].born:=fun a c q l z=>by
   have:=F a c (by simpa using q) (by simpa using l) z
   simpa only[List.getElem_map,Array.getElem_toList] using this
  rcases Nat.lt_trichotomy i j with h5|h5|h5
  ·exact M_ (by rw[hx,k,e]) (t i j r s h5)
  ·exact h5
  exact M_ (by rw[hx,k,e]) (t j i s r h5)
 obtain⟨e,B,_⟩:=v i hi;exact⟨e,B,by simp⟩
theorem L.ahp{x:Operand}{r:Nat}{S:Nat->Bool}(R:Region.wanted o (yf ops f)=true)(K:inn n0 o.dst=true)(M:o.op = .next x false)(hx:ev f x = .pointer (some ⟨r,0,none⟩))(h:iI w b n k1 k2 val)(hi:It w r b n S)
 (hc0:(∀ i,i<n->S i=true)->L P n0 ops Q rest (put f o.dst (.tuple #[.bool false])) w)
 (hc1 : ∀ i w',i<n->S i=false->It w' r b n (aO S i true)->Bl w' r b i->Stp r w w'->w'.heap.size=w.heap.size->L P n0 ops Q rest (put f o.dst (.tuple #[.bool true,kS (k1 i) (k2 i),val i])) w'):L P n0 ops Q (o::rest) f w:=by
 obtain⟨g,c,d,a,W,l,s,H,Z,h5,h6,I,J,C⟩:=hi;obtain⟨es',c',G,kst,_,k4⟩:=h;rw[l]at G;simp only[Option.some.injEq,Obj.map.injEq]at G;obtain⟨rfl,rfl⟩:=G;have hrb:r≠b:=fun e=>by rw[e,l]at s; cases s
 rcases run_next_at (P:=P) w o.type r b d W a g c s l H Z with ⟨z,E⟩|⟨e,he,w1,hw1,E⟩
 ·have t:(execOp (ev f) o).run P w = .ok (.value (.tuple #[.bool false])) w:=by
   unfold execOp;simp only[M,hx,Sem.run_bind,E,Result.andThen_ok,Sem.run_pure]
  refine L.val R t K<|hc0 fun i hi => ?_;obtain⟨y,u,F⟩:=C i hi;rw[<- F]
  cases hq:a.contains y.born with
  | true=>rfl
  | false =>
    have q:y∈leftOf g a:=by
     unfold leftOf;rw[Array.mem_filter];exact⟨Array.mem_of_getElem? u,by rw[hq]; rfl⟩
    have:=Array.size_pos_of_mem q;omega
 have t:(execOp (ev f) o).run P w = .ok (.value (.tuple #[.bool true,e.key,e.val])) (Go.ChangeMaps.setBlock w1 r (.mapIter (some b) d (a.push e.born) c)):=by
  unfold execOp;simp only[M,hx,Sem.run_bind,E,Result.andThen_ok,Sem.run_pure]
 have q:e∈leftOf g a:=Array.mem_toList_iff.1 he;unfold leftOf at q;rw[Array.mem_filter]at q;obtain⟨hme,hns⟩:=q;obtain⟨i,hi,Y⟩:=Array.getElem_of_mem hme;have m:g[i]? = some e:=by rw[Array.getElem?_eq_getElem hi,Y]
 obtain⟨y,u,ky,vy,_⟩:=k4 i (by omega);rw[m]at u;obtain rfl:=C_ u;obtain⟨y2,T,F⟩:=C i (by omega);rw[m]at T;obtain rfl:=C_ T;have hsf:S i=false:=by rw[<- F]; simpa using hns
 have p:w1.os=w.os/\w1.tape=w.tape/\w1.output=w.output/\w1.heap=w.heap:=by rcases hw1 with rfl|rfl <;> exact⟨rfl,rfl,rfl,rfl⟩
 have O:(Go.ChangeMaps.setBlock w1 r (.mapIter (some b) d (a.push e.born) c)).heap.size=w.heap.size:=by
  show(w1.heap.setIfInBounds r _).size=_; rw[p.2.2.2]; simp
 have N:Stp r w (Go.ChangeMaps.setBlock w1 r (.mapIter (some b) d (a.push e.born) c)) :=
  ⟨p.1,p.2.1,p.2.2.1,by rw[O]; exact A_ _,fun k _ D=>by show(w1.heap.setIfInBounds r _)[k]? = _; rw[p.2.2.2,Array.getElem?_setIfInBounds_ne (Ne.symm D)]⟩
 have acT:r<w1.heap.size:=by
  rcases hw1 with rfl|rfl <;> exact(t_.1 s).1
 rw[ky,vy]at t;have U:(Go.ChangeMaps.setBlock w1 r (.mapIter (some b) d (a.push e.born) c)).heap[b]? = some (.map g c):=by rw[N.block b (t_.1 l).1 (Ne.symm hrb)]; exact l
 have V:(Go.ChangeMaps.setBlock w1 r (.mapIter (some b) d (a.push e.born) c)).heap[r]? = some (.mapIter (some b) d (a.push e.born) c):=by simp[Go.ChangeMaps.setBlock,acT]
 refine L.val R t K (hc1 i _ (by omega) hsf ⟨g,c,d,a.push e.born,c,U,V,H,I,h5,h6,I,J,fun j hj => ?_⟩ ⟨g,c,d,a,e,U,V,m,kst.2.1⟩ N O);obtain⟨A,v,hs3⟩:=C j hj;refine⟨A,v,?_⟩;unfold aO;by_cases B:j=i
 ·subst B;rw[m]at v;obtain rfl:=C_ v;rw[d_ rfl]; simp
 rw[b_ B,<- hs3];have D:A.born≠e.born:=fun X=>B (J j i A e v m X)
 cases hq:a.contains A.born with
 | true=>simp at hq ⊢; exact .inl hq
 | false=>simp at hq ⊢; exact⟨hq,D⟩
theorem TS{x:Operand}{r i:Nat}(q:o.op = .entry x)(hx:ev f x = .pointer (some ⟨r,0,none⟩))(h:iI w b n k1 k2 val)(hi:Bl w r b i)(p:i<n):Runs P f o w (.tuple #[kS (k1 i) (k2 i),val i]):=by
 obtain⟨k,c,s,z,e,d,l,g,m⟩:=hi;obtain⟨C,B,a,_,_,u⟩:=h;rw[d]at a;simp only[Option.some.injEq,Obj.map.injEq]at a;obtain⟨rfl,rfl⟩:=a;obtain⟨y,j,v,A,_⟩:=u i p;rw[g]at j;obtain rfl:=C_ j;have t:=run_entry_at (P:=P) w r b s z k c e l d (Array.mem_toList_iff.2 (Array.mem_of_getElem? g)) m;unfold Runs execOp;simp only[q,hx,Sem.run_bind,t,Result.andThen_ok,Sem.run_pure,v,A]
end
end Go.Proofs.YtcbedgfikejkoaaGreatDoor.Fx
namespace Go.Proofs.YtcbedgfikejkoaaGreatDoor
open Go.RowKit Go
namespace Rgq
def PD{c:Type}(q:Nat)(J:c->World->Prop):Prop := ∀ s W a b,J s W->W.grownBy a b->(∀ r,b=some r->r=q)->J s a
def ahr{d:Type}(F:Fence)(n:Nat)(P:Program)(g:Nat)(lb:Array Value)(j:d->Array Value)(i:World->World->Prop)(S:List d->Prop)(N q:Nat)(h:World->Prop):Prop :=
 ∀(l:Nat) (J:List d->World->Prop) (W:World),h W->PD q J ->
  (∀ c x b,J c b->c.length<N->YieldAt F (n-1) P l (j x) b fun e a=>e = .returned (.bool true)/\J (c ++ [x]) a/\i b a) ->
  J [] W ->
  CallsIn F n P g (#[.func (.yield l) #[] #[]]++lb) W fun e a=>(∃ v,e = .returned v) /\ ∃ f,S f/\J f a
def Rh{c:Type}(q B:Nat)(I:c->World->Prop):Prop :=
 ∀ s W a b,I s W->W.grownBy a b->(∀ r,b=some r->r=q\/(B<=r /\ ∃ o:Obj,W.heap[r]? = some o/\o.isCells=false))->I s a
variable {F:Fence} {n:Nat} {P:Program}
theorem Rh.putObj{a:Type}{q B:Nat}{I:a->World->Prop}(h:Rh q B I){s:a}{W:World}{l:Nat}{o:Obj}(o':Obj)(f:I s W)(b:B<=l)(c:W.heap[l]? = some o)(d:o.isCells=false):I s (W.putObj l o') :=
 h s W _ (some l) f (grownBy_putObj' W l o') (fun r e=>by cases e; exact .inr ⟨b,o,c,d⟩)
theorem Rh.alloc{a:Type}{q B:Nat}{I:a->World->Prop}(h:Rh q B I){s:a}{W:World}(o:Obj)(b:I s W):I s (W.alloc o) :=
 h s W _ none b (World.grownBy_alloc W o none) (fun r e=>by cases e)
def ahs{a:Type}(b:World->World->Prop)(I:List a->World->Prop)(c:List a)(W:World):Exit->Act->World->Prop
 | .normal,_,W'=>KeepsOthers W W'/\b W W'/\I c W'
 | _,_,_=>False
theorem Il{W a:World}{q:Nat}{row:Option Nat}(b:W.grownBy a row)(f : ∀ r,row=some r->r=q){k:Nat}{o:Obj}(c:W.heap[k]? = some o)(d:k≠q):a.heap[k]? = W.heap[k]? :=
 b.block k (t_.1 c).1 fun e=>d (f k e.symm)
theorem Eo{α:Type}{g:Operand}{ps:Array Tmp}{assign body:Code}{Q:Exit->Act->World->Prop}{a:Act}{w:World}
 (hro:F.round=none) (h1:1<=n) {gf:Nat} {lb:Array Value} (hg:a.eval g = .func (.func gf) #[] lb) (hFg:F.fn gf) (eg : ∀ args w,(callFunc gf args).run P w = .ok (.enter gf args) w)
 {encs:α->Array Value} {Kp:World->World->Prop} {S:List α->Prop} {N q:Nat} {Ip:World->Prop} (hseq:ahr F (n-1) P gf lb encs Kp S N q Ip) (hq:q<w.heap.size)
 (hIp:Ip w) (NQ : ∀ W o,w.heap.size<=W.heap.size->Ip W->Ip (W.alloc o))
 (hKt : ∀ {A B C:World},Kp A B->Kp B C->Kp A C) (hKb : ∀(W:World) (l:Nat) (o o':Obj),w.heap.size<=l->W.heap[l]? = some o->o.isCells=false->o.isWalk=false->Kp W (W.putObj l o')) (hps : ∀ x,(encs x).size=ps.size)
 (I:List α->World->Prop) (hI:Rh q w.heap.size I) (h0:I [] w) (A₁:α->Act->Prop)
 (hassign : ∀(l:Nat) (x:α) (W:World),assign.wpIn (F.inRound l) (n-1-1) P (Exit.then (fun a' W'=>A₁ x a'/\W'=W) (fun _ _ _=>False)) { tmps:=(ps.zip (encs x)).foldl (fun t (p,v)=>t.setIfInBounds p v) a.tmps,defers := [] } W)
 (hbody : ∀(l:Nat) (pre:List α) (x:α) (W:World) (a':Act),A₁ x a'->I pre W->pre.length<N->body.wpIn (F.inRound l) (n-1-1) P (ahs Kp I (pre ++ [x]) W) a' W)
 (hdone : ∀(D:Nat) (xs:List α) (W:World),w.heap.size<=D->S xs->I xs W->W.heap[D]? = some (.deferred (some []))->Q .normal { a with defers := { target := .collected D,args := #[] }::a.defers } W) :
 (Code.rangeFunc g ps assign body).wpIn F n P Q a w:=by
 refine wpIn_rangeFunc ?_;intro fn hfn;rw[hro];obtain⟨rec,hrec⟩ : ∃ rec:LoopState->Option Code->Loop,rec=fun st pe => { state:=st,pending:=pe,fn,tmps:=a.tmps,params:=ps,assign,body,defers:=w.heap.size }:=⟨_,rfl⟩;obtain⟨W1,hW1⟩ : ∃ W1,(w.alloc (.deferred (some []))).alloc (.loop (rec .ready none))=W1:=⟨_,rfl⟩;have hL1:W1.heap[w.heap.size+1]? = some (.loop (rec .ready none)):=by
  rw[<- hW1]; have:=World.alloc_heap_new (w.alloc (.deferred (some []))) (.loop (rec .ready none)); rwa [World.size_alloc]at this
 have hK1:W1.heap[w.heap.size]? = some (.deferred (some [])):=by
  rw[<- hW1]; exact(Below.heap_alloc _ _ _ (by simp)).trans (World.alloc_heap_new w _)
 have hI1:I [] W1:=by rw[<- hW1]; exact hI.alloc _ (hI.alloc _ h0)
 have hp1:Ip W1:=by rw[<- hW1]; exact NQ _ _ (by simp) (NQ _ _ (A_ _) hIp)
 refine⟨w.heap.size+1,[{ target := .collected w.heap.size,args := #[] }],W1,{ target := .fn (.func gf) lb,args := #[.func (.yield (w.heap.size+1)) #[] #[]] },W1,gf,
  #[.func (.yield (w.heap.size+1)) #[] #[]]++lb,W1,?_,?_,?_,?_,fun _=>h1,?_⟩
 ·rw[<- hW1,hrec]; exact run_enterLoop_outer _ _ _ _ _
 ·simp only[resolve,hg];simp[go_sem]
 ·intro f' hf'; simp[Target.leads]at hf'; subst hf'; exact hFg
 ·simp[invoke,go_sem,eg]
 refine(hseq (w.heap.size+1)
  (fun pre W=>I pre W/\W.heap[w.heap.size+1]? = some (.loop (rec .ready none))/\W.heap[w.heap.size]? = some (.deferred (some [])))
  W1 hp1
  (fun s A B row hs hg' hr=>⟨hI s A B row hs.1 hg' (fun r e => .inl (hr r e)),(Il hg' hr hs.2.1 (by omega)).trans hs.2.1,(Il hg' hr hs.2.2 (by omega)).trans hs.2.2⟩)
  ?_ ⟨hI1,hL1,hK1⟩).mono ?_
 ·-- one round
  rintro pre x W ⟨hi,hl,hk⟩ hlen;have hlt:w.heap.size+1<W.heap.size:=(t_.1 hl).1;have hy:=run_yield (P:=P) (args:=encs x) hl (by rw[hrec]; exact hps x);rw[hrec]at hy;refine⟨fn,_,assign,body,hy,roundIn_of_wpIn hfn (wpIn_mono (hassign _ x W) ?_)⟩;rintro e1 a1 w1 hq1
  cases e1 with
  | exit id=>exact hq1.elim
  | goto t=>exact hq1.elim
  | ret=>exact hq1.elim
  | panic ch=>exact hq1.elim
  | outgrown=>exact hq1.elim
  | normal =>
  obtain⟨hA1,ew⟩:=hq1;rw[ew];refine⟨_,run_beginRound hl (by rw[hrec]),?_⟩;have hl2:(W.putObj (w.heap.size+1) (.loop { rec .ready none with state := .busy })).heap[w.heap.size+1]? = some (.loop { rec .ready none with state := .busy }):=World.putObj_heap_same hlt;have hk2:(W.putObj (w.heap.size+1) (.loop { rec .ready none with state := .busy })).heap[w.heap.size]? = some (.deferred (some [])):=(World.putObj_heap_other (by omega)).trans hk;have hw2:Kp W (W.putObj (w.heap.size+1) (.loop { rec .ready none with state := .busy })):=hKb _ _ _ _ (by omega) hl rfl rfl;refine wpIn_mono (hbody _ pre x _ a1 hA1 (hI.putObj _ hi (by omega) hl rfl) hlen) ?_;rintro e a3 W3 hp
  cases e with
  | normal =>
    obtain⟨hk3,hkp3,hi3⟩:=hp;have hl3:=hk3.same _ _ hl2 rfl;have hr:=run_endRound (P:=P) none hl3;rw[hrec]at hr hl3;refine⟨_,_,hr,rfl,⟨hI.putObj _ hi3 (by omega) hl3 rfl,?_,(World.putObj_heap_other (by omega)).trans (hk3.same _ _ hk2 rfl)⟩,hKt (hKt hw2 hkp3) (hKb _ _ _ _ (by omega) hl3 rfl rfl)⟩;rw[hrec]; exact World.putObj_heap_same (t_.1 hl3).1
  | ret=>exact hp.elim
  | exit id=>exact hp.elim
  | goto t=>exact hp.elim
  | panic ch=>exact hp.elim
  | outgrown=>exact hp.elim
 rintro e W2 ⟨⟨v,rfl⟩,xs,hS,hi,hl,hk⟩;exact⟨none,_,by have:=run_endLoop (P:=P) hl (by rw[hrec]; simp); rw[hrec]at this; exact this,hdone _ xs _ (A_ _) hS (hI.putObj _ hi (by omega) hl rfl) ((World.putObj_heap_other (by omega)).trans hk)⟩
end Rgq
namespace Fx
structure Bn(a:Act)(n:Nat)(f:Nat->Value):Prop where
 size:a.tmps.size=n
 get : ∀ i,a.tmps.getD i undef=f i
theorem Fr.to0{a:Act}{n:Nat}{f:Nat->Value}(h:Fr a n f):Bn a n f:=⟨h.size,h.get⟩
theorem Bn.to{a:Act}{n:Nat}{f:Nat->Value}(h:Bn a n f)(b:a.defers = []):Fr a n f:=⟨h.size,b,h.get⟩
theorem Bn.ev{a:Act}{n:Nat}{f:Nat->Value}(h:Bn a n f):a.eval=Fx.ev f:=by
 funext x
 cases x <;> simp only[Act.eval,Fx.ev]
 exact h.get _
theorem Bn.put{a:Act}{n:Nat}{f:Nat->Value}(h:Bn a n f){d:Option Nat}(e:inn n d=true)(v:Value):Bn (a.put d v) n (Fx.put f d v):=by
 have c:Fr { a with defers := [] } n f:=⟨h.size,rfl,h.get⟩;have b:=c.put e v
 cases d with
 | none=>exact⟨b.size,b.get⟩
 | some d=>exact⟨b.size,b.get⟩
theorem Bn.yf{a:Act}{n:Nat}{f:Nat->Value}(h:Bn a n f)(ops:Array Oper):yielded ops a.tmps=Fx.yf ops f:=by
 have b:Fr { a with defers := [] } n f:=⟨h.size,rfl,h.get⟩;exact b.yf ops
theorem Lb{a:Act}{n p:Nat}{v:Value}{f:Nat->Value}(h:Bn (a.put (some p) v) n f):Bn { tmps:=(#[p].zip #[v]).foldl (fun t (p,v)=>t.setIfInBounds p v) a.tmps,defers := [] } n f:=by
 have e:(#[p].zip #[v]).foldl (fun t (p,v)=>t.setIfInBounds p v) a.tmps=(a.put (some p) v).tmps:=by simp[Array.zip,Act.put]
 rw[e]; exact⟨h.size,h.get⟩
theorem put_defers(a:Act)(d:Option Nat)(v:Value):(a.put d v).defers=a.defers:=by cases d <;> rfl
def FR(ro:Option Nat):Fence := { Fence.wide with round:=ro }
def kK(o:Oper):Bool:=match o.op with | .defer _=>false|_=>true
def TT(n:Nat)(ds:List Deferred)(Q:Post):Exit->Act->World->Prop:=fun e a w => ∃ f,Bn a n f/\a.defers=ds/\Q e f w
section
variable {P:Program} {n m:Nat} {ro:Option Nat} {Q:Post} {f:Nat->Value} {w:World} {o:Oper} {ops:Array Oper} {rest:List Oper}
theorem Lc(ro:Option Nat)(ρ:Operand->Value)(h:kK o=true):o.semAt ro ρ=execOp ρ o :=
 Oper.semAt_eq ro ρ o fun c e=>by unfold kK at h; rw[e]at h; cases h
theorem Out.wpIn{a:Act}{K:Value->World->Prop}{d:Act->World->Prop}{j:Exit->Act->World->Prop}(ha:Bn a n f)(k:kK o=true)(h:Out P f o w K)(c : ∀ v w',K v w'->d (a.put o.dst v) w'):o.wpIn (FR ro) m P a w d j:=by
 unfold Oper.wpIn;refine⟨fun _ _=>trivial,?_⟩;rw[Lc _ _ k,ha.ev]
 rcases h with ⟨v,w',b,h⟩|⟨w',b,h⟩|⟨g,args,b,h⟩
 ·rw[b]; exact c v w' h
 ·rw[b]; exact c undef w' h
 rw[b,Oper.uponIn_enter];refine⟨fun h=>(by cases h),?_⟩
 have key : ∀ R,Calls P g args w R->CallsIn (FR ro) (m-1) P g args w R:=fun R i=>by
  cases ro with
  | none=>exact callsIn_wide.2 i
  | some l=>exact CallsIn.inRound l (callsIn_wide.2 i)
 refine key _<|h.mono fun e w' ⟨v,p,q⟩ => ?_;subst p; exact c v w' q
theorem L.toIn : ∀ {l:List Oper} {f:Nat->Value} {w:World},L P n ops Q l f w->l.all kK=true -> ∀ a,Bn a n f->wpListIn (FR ro) m P ops (TT n a.defers Q) l a w
 | [],f,w,h,_,a,ha=>⟨f,ha,rfl,h⟩
 | o::rest,f,w,⟨hd,h⟩,hn,a,ha=>by
   rw[List.all_cons,T_]at hn;unfold wpListIn;rw[ha.yf]
   rcases h with ⟨b,h⟩|⟨b,h⟩
   ·rw[d_ b];exact h.wpIn ha hn.1 fun v w' c=>by have:=L.toIn c hn.2 _ (ha.put hd v); rwa [put_defers]at this
   ·rw[b_ (by rw[b]; decide)];exact⟨fun _ _=>trivial,by have:=L.toIn h hn.2 _ (ha.put hd undef); rwa [put_defers]at this⟩
theorem Im{id:Nat}{ops:List Oper}{a:Act}{b:Exit->Act->World->Prop}(ha:Bn a n f)(h:L P n ops.toArray Q ops f w)(d:ops.all kK=true:=by rfl)(g : ∀ e c w',TT n a.defers Q e c w'->b e c w'):(Code.region id ops.toArray false).wpIn (FR ro) m P b a w :=
 wpIn_mono (wpIn_region_lit (L.toIn h d a ha)) g
def acV(m:Nat)(P:Program)(f:Nat->Value)(o:Oper)(w:World)(K:Value->World->Prop):Prop :=
 Out P f o w K \/ ∃ l c d a b,(execOp (ev f) o).run P w = .ok (.round l c d a b) w/\RoundIn (FR none) (m-1) P l c d a b w fun e w' => ∃ v,e = .returned v/\K v w'
def Ly(m:Nat)(P:Program)(n:Nat)(ops:Array Oper)(Q:Post):List Oper->(Nat->Value)->World->Prop
 | [],f,w=>Q .normal f w
 | o::rest,f,w=>inn n o.dst=true/\((Region.wanted o (yf ops f)=true/\acV m P f o w fun v w'=>Ly m P n ops Q rest (put f o.dst v) w')\/(Region.wanted o (yf ops f)=false/\Ly m P n ops Q rest (put f o.dst undef) w))
theorem acV.wpIn{a:Act}{K:Value->World->Prop}{b:Act->World->Prop}{g:Exit->Act->World->Prop}(ha:Bn a n f)(c:kK o=true)(h:acV m P f o w K)(d : ∀ v w',K v w'->b (a.put o.dst v) w'):o.wpIn (FR none) m P a w b g:=by
 rcases h with h|⟨l,fn,tmps,assign,body,hr,h⟩
 ·exact h.wpIn ha c d
 unfold Oper.wpIn;refine⟨fun _ _=>trivial,?_⟩;rw[Lc _ _ c,ha.ev,hr,Oper.uponIn_round];exact⟨fun h=>(by cases h),h.mono fun e w' ⟨v,i,j⟩=>by subst i; exact d v w' j⟩
theorem Ly.to : ∀ {l:List Oper} {f:Nat->Value} {w:World},Ly m P n ops Q l f w->l.all kK=true -> ∀ a,Bn a n f->wpListIn (FR none) m P ops (TT n a.defers Q) l a w
 | [],f,w,h,_,a,ha=>⟨f,ha,rfl,h⟩
 | o::rest,f,w,⟨hd,h⟩,hn,a,ha=>by
   rw[List.all_cons,T_]at hn;unfold wpListIn;rw[ha.yf]
   rcases h with ⟨b,h⟩|⟨b,h⟩
   ·rw[d_ b];exact h.wpIn ha hn.1 fun v w' c=>by have:=Ly.to c hn.2 _ (ha.put hd v); rwa [put_defers]at this
   ·rw[b_ (by rw[b]; decide)];exact⟨fun _ _=>trivial,by have:=Ly.to h hn.2 _ (ha.put hd undef); rwa [put_defers]at this⟩
theorem W.abn(m:Nat){id:Nat}{ops:List Oper}(h:Ly m P n ops.toArray Q ops f w)(j:ops.all kK=true:=by rfl):W P n (.region id ops.toArray false) Q f w:=fun a b =>
 (wpIn_wide (n:=m)).1 (wpIn_mono (wpIn_region_lit (Ly.to h j a b.to0)) fun e k w' ⟨c,d,g,i⟩=>⟨c,d.to (g.trans b.defers),i⟩)
theorem Ly.nil(h:Q .normal f w):Ly m P n ops Q [] f w:=h
theorem Ly.v(v:Value)(hr:Runs P f o w v)(h:Ly m P n ops Q rest (put f o.dst v) w)(b:Region.wanted o (yf ops f)=true:=by rfl)(a:inn n o.dst=true:=by rfl):Ly m P n ops Q (o::rest) f w:=⟨a,.inl ⟨b,.inl (.inl ⟨v,w,hr,h⟩)⟩⟩
theorem Ly.skip(b:Region.wanted o (yf ops f)=false)(a:inn n o.dst=true)(h:Ly m P n ops Q rest (put f o.dst undef) w):Ly m P n ops Q (o::rest) f w:=⟨a,.inr ⟨b,h⟩⟩
theorem Ly.call{g:FuncId}{args:Array Value}(b:Region.wanted o (yf ops f)=true)(hr:(execOp (ev f) o).run P w = .ok (.enter g args) w)(a:inn n o.dst=true)
 (h:Calls P g args w fun e w' => ∃ v,e = .returned v/\Ly m P n ops Q rest (put f o.dst v) w'):Ly m P n ops Q (o::rest) f w:=⟨a,.inl ⟨b,.inl (.inr (.inr ⟨g,args,hr,h⟩))⟩⟩
theorem Ly.yield{l:Nat}{x:Operand}{a:List Operand}{args:List Value}{Ts:Array TypeId}{R:Ending->World->Prop}(p:Region.wanted o (yf ops f)=true)(j:o.op = .call { callee := .value x,args:=a.toArray,argTypes:=Ts })(hx:ev f x = .func (.yield l) #[] #[])(q:a.map (ev f)=args)(i:inn n o.dst=true)
 (hy:YieldAt (FR none) (m-1) P l args.toArray w R) (h : ∀ e w',R e w' -> ∃ v,e = .returned v/\Ly m P n ops Q rest (put f o.dst v) w'):Ly m P n ops Q (o::rest) f w:=by
 obtain⟨d,r,b,c,k,g⟩:=hy;refine⟨i,.inl ⟨p,.inr ⟨l,d,r,b,c,?_,g.mono h⟩⟩⟩;unfold execOp;simp only[j];unfold resolve;simp only[Sem.run_bind,List.map_toArray,q,hx,Deferred.ofValue,Sem.run_pure,Result.andThen_ok];unfold invoke;have e:(#[]++args.toArray:Array Value)=args.toArray:=by simp
 show(Instr.yield l (#[]++args.toArray)).run P w=_;rw[e];exact k
theorem TU{a:Act}(h:Bn a n f)(b:Func):results b a.tmps=zW b f:=by
 have c:Fr { a with defers := [] } n f:=⟨h.size,rfl,h.get⟩;exact Pk c b
theorem leave1{a:Act}{b:Func}{R:Ending->World->Prop}{D:Nat}{v:Value}(h:Bn a n f)(e:a.defers = [{ target := .collected D,args := #[] }])(c:w.heap[D]? = some (.deferred (some [])))
 (g:(zW b f).run P (w.putObj D (.deferred none)) = .ok v (w.putObj D (.deferred none))) (d:R (.returned v) (w.putObj D (.deferred none))):bodyPostM (FR none) m P b R .ret a w:=by
 show LeavesInM (FR none) m P b a.tmps R a.defers .returning w;rw[e];exact⟨by simp,.inl ⟨D,_,rfl,run_takeDeferred c,v,by rw[TU h]; exact g,d⟩⟩
end
end Fx
end Go.Proofs.YtcbedgfikejkoaaGreatDoor
namespace Go.Proofs.YtcbedgfikejkoaaGreatDoor
open Go.RowKit Rt
abbrev bK(g n c:Nat):Value := .slice (some ⟨g,0,none⟩) n c
theorem oL{k:IntKind}{a b:Int}(h:a=b):Ending.returned (.int k a) = .returned (.int k b):=by rw[h]
theorem iD{a b:Bool}(h:a=b):Ending.returned (.bool a) = .returned (.bool b):=by rw[h]
abbrev pt(g:Nat):Value := .pointer (some ⟨g,0,none⟩)
abbrev pf(g o:Nat):Value := .pointer (some ⟨g,o,none⟩)
theorem Fx.ic{k:IntKind}{a b:Int}(h:a=b:=by first|rfl|omega):Value.int k a = .int k b:=L_ _ h
theorem Fx.io{a c:Int}(h : -9223372036854775808<=c/\c<=9223372036854775807:=by omega)(e:a=c:=by omega):IntKind.i64.wrap a=c:=Fx.iN h e
namespace Rt
def AO(n:Int):Bool:=decide (0<=n)&&decide (n<=1125899906842624)
def nu(l:List Int):Bool:=l.all AO
def nP(l:List Int):Int × Bool:=if nu l then(l.sum,true)else(0,false)
theorem Ep(l:List Int)(k:Nat)(h:k<l.length):nu (l.take (k+1))=(nu (l.take k)&&AO l[k]):=by
 unfold nu; rw[List.take_succ_eq_append_getElem h,List.all_append]; simp
theorem Hw(l:List Int)(k:Nat)(h:k<l.length):(l.take (k+1)).sum=(l.take k).sum+l[k]:=by
 rw[List.take_succ_eq_append_getElem h,List.sum_append]; simp
theorem CB : ∀(l:List Int),nu l=true->0<=l.sum/\l.sum<=1125899906842624*(l.length:Int)
 | [],_=>by simp
 | x::l,h=>by
   unfold nu at h;rw[List.all_cons,T_]at h;have:=CB l h.2;have a:=h.1;unfold AO at a;simp at a;rw[List.sum_cons,List.length_cons];omega
theorem xq(l:List Int):0<=(nP l).1/\(nP l).1<=1125899906842624*(l.length:Int):=by
 unfold nP;by_cases h:nu l=true
 ·rw[d_ h]; exact CB l h
 rw[b_ h]; simp; omega
theorem Hy{l:List Int}{k:Nat}(a:k<l.length)(h:AO l[k]=false):nu l=false:=by
 unfold nu;rw[List.all_eq_false];exact⟨l[k],R_ a,by simpa using h⟩
def G(x:Nat->Int)(i:Nat):Int:=x i
def C(x:Nat->Int)(i:Nat):Int:=x (6+i)
def F(x:Nat->Int)(i:Nat):Int:=x (12+i)
def R(x:Nat->Int)(i j:Nat):Int:=x (18+i*6+j)
def outs(x:Nat->Int)(k:Nat):Nat->List Int
 | 0 => [C x k]
 | j+1=>outs x k j ++ [R x k j]
def ins(x:Nat->Int)(k:Nat):Nat->List Int
 | 0 => [G x k,F x k]
 | j+1=>ins x k j ++ [R x j k]
def localM(x:Nat->Int)(k:Nat):Int × Bool:=((nP (ins x k 6)).1-(nP (outs x k 6)).1,(nP (outs x k 6)).2&&(nP (ins x k 6)).2)
theorem Ri(x:Nat->Int)(k:Nat):(outs x k 6).length=7:=rfl
theorem TV(x:Nat->Int)(k:Nat):(ins x k 6).length=8:=rfl
end Rt
def RdI(k:IntKind)(w:World)(a:Option Addr)(l:List Int):Prop :=
 ∀ i (h:i<l.length),∃ b c,a=some ⟨b,c,none⟩/\w.cell? ⟨b,c+i,none⟩=some (.int k l[i])
end Go.Proofs.YtcbedgfikejkoaaGreatDoor
namespace Go.Proofs.YtcbedgfikejkoaaGreatDoor.Fx
open Go.RowKit
def TW(I:(Nat->Value)->World->Prop)(Q:Post):Post:=fun e f w=>match e with | .normal=>I f w|e=>Q e f w
section
variable {P:Program} {n:Nat} {Q:Post} {f:Nat->Value} {w:World} {I:(Nat->Value)->World->Prop}
theorem Bo{x y:Code}(I:(Nat->Value)->World->Prop)(h1:W P n x (TW I Q) f w)(b : ∀ f w,I f w->W P n y Q f w):W P n (.seq x y) Q f w :=
 Ws (W.mono h1 fun e f w a=>by
  cases e <;> first|exact b f w a|exact a)
theorem rT(h:I f w):TW I Q .normal f w:=h
theorem jnR(h:Q .ret f w):TW I Q .ret f w:=h
end
end Go.Proofs.YtcbedgfikejkoaaGreatDoor.Fx
namespace Go.Proofs.YtcbedgfikejkoaaGreatDoor
open Go.RowKit Rt
open Fx (fG bA gU gT Lv sN Ln Ws Wr Wk rC Rs Rn Wb Wx DU gH aP Stp Mp iJ dD bP bX bY gP gW)
section
namespace Rt
def dW(x:Nat->Int):Nat->Int->Bool
 | 0,_=>false
 | n+1,k=>dW x n k || decide (x n=k)
def iO(x p:Nat->Int):Nat->Int->Int
 | 0,_=>0
 | n+1,k=>if x n=k then p n else iO x p n k
section
variable {x p:Nat->Int} {n j:Nat} {k:Int}
theorem jU : ∀ {n:Nat},j<n->x j=k->dW x n k=true
 | n+1,h,e=>by
   unfold dW;by_cases c:j=n
   ·subst c; rw[f_ e,Bool.or_true]
   ·rw[jU (show j<n by omega) e,Bool.true_or]
theorem zG : ∀ {n:Nat},(∀ i,i<n->x i≠k)->dW x n k=false
 | 0,_=>rfl
 | n+1,h=>by unfold dW; rw[zG fun i hi=>h i (by omega),g_ (h n (by omega))]; rfl
theorem iA : ∀ {n:Nat},dW x n k=true -> ∃ j,j<n/\x j=k
 | n+1,h=>by
   unfold dW at h;rw[Bool.or_eq_true]at h
   rcases h with h|h
   ·obtain⟨j,a,e⟩:=iA h; exact⟨j,by omega,e⟩
   ·exact⟨n,by omega,h_ h⟩
theorem BA(hi : ∀ a b,a<n->b<n->x a=x b->a=b)(h:j<n)(e:x j=k):iO x p n k=p j:=by
 induction n with
 | zero=>omega
 | succ n ih =>
   unfold iO;by_cases c:j=n
   ·subst c; rw[d_ e]
   ·rw[b_ fun d=>c (hi j n (by omega) (by omega) (e.trans d.symm))];exact ih (fun a b f g=>hi a b (by omega) (by omega)) (by omega)
def jO(x p:Nat->Int)(n:Nat):Nat->Int->List Int
 | 0,_ => []
 | d+1,k=>if dW x n k=true then k::jO x p n d (iO x p n k)else []
def jK(x p:Nat->Int)(n:Nat):Nat->Int->Prop
 | 0,k=>dW x n k=false
 | d+1,k=>dW x n k=true->jK x p n d (iO x p n k)
theorem lK{d:Nat}(h:dW x n k=false):jO x p n d k = []:=by cases d with
 | zero=>rfl
 | succ d=>unfold jO; rw[b_ (by rw[h]; decide)]
theorem Io{d:Nat}(h:jK x p n d k)(a:dW x n k=true) : ∃ e,d=e+1/\jK x p n e (iO x p n k)/\jO x p n d k=k::jO x p n e (iO x p n k):=by
 cases d with
 | zero=>have h:dW x n k=false:=h; rw[a]at h; cases h
 | succ d=>exact⟨d,rfl,h a,by show(if _ then _ else _)=_; rw[d_ a]⟩
end
structure JF(q:Nat)(J:List Int->World->Prop)(pre:List Int)(w:World):Prop where
 ab:Rgq.PD q J
 j:J pre w
theorem JF.cZ{q:Nat}{J:List Int->World->Prop}{b:List Int}{w w':World}(h:JF q J b w)(a:Stp q w w'):JF q J b w' :=
 ⟨h.ab,h.ab _ w w' (some q) h.j ⟨a.os,a.tape,a.output,a.size,fun k c d=>a.block k c (fun e=>d (by rw[e]))⟩ (fun r e=>(C_ e).symm)⟩
theorem JF.up{q:Nat}{J:List Int->World->Prop}{b:List Int}{w w':World}(h:JF q J b w)(a:Below w.heap.size w w'):JF q J b w' :=
 ⟨h.ab,h.ab _ w w' none h.j ⟨a.os,a.tape,a.output,a.size,fun k c _=>a.block k c⟩ (fun r e=>by cases e)⟩
instance {q:Nat} {J:List Int->World->Prop} {a:List Int} {w w':World}:Rt.Tr w w' (JF q J a w) (JF q J a w'):=⟨fun b h=>h.up b⟩
structure TY(tp mb bt q:Nat)(w w':World):Prop where
 size:w.heap.size<=w'.heap.size
 t:w'.heap[tp]? = w.heap[tp]?
 m:w'.heap[mb]? = w.heap[mb]?
 b:w'.heap[bt]? = w.heap[bt]?
 q:w'.heap[q]? = w.heap[q]?
end Rt
theorem FD(x p:Nat->Int)(n a c:Nat)(k:Int)(w:World)(g:aP w a 1 (fun _ => .map (some c)) 165)(f:Mp w c n x (fun j=>aD (p j))) :
 Calls Tryz.prog 145 #[(pt a),aD k] w fun e w'=>e = .returned (.bool (dW x n k))/\w'=w:=by
 have i:=g.lt;refine Kent Tryz.func145 19 ?_;refine ay<|av aF<|aC<|Ws<|ay<|av (pt a)<|Lv aF (Fx.oH rfl rfl rfl (by kernel_rfl))<|aC<|aK<|Wk<|sN<|ay<|av (pt a)<|av (pt a)<|av (pt a)<|Lv (.map (some c)) (aL g.aH 0)<|av (aD k) ?_
 rcases Fx.tN x n k with ⟨b,h,d⟩|jL
 ·refine Lv (.tuple #[aD (p b),.bool true]) (Fx.FC (z:=aD 0) rfl rfl rfl f Tryz.underlying108 Tryz.underlying23 (by rfl) h d rfl)<|av (.tuple #[aD (p b),.bool true])<|av (aD (p b))<|av aG<|av (aD (p b))<|av aG<|aC<|ay<|av aG<|av aG<|aC<|Wr<|aJ aG ?_;exact⟨iD (Eq.symm (jU h d)),rfl⟩
 refine Lv (.tuple #[aD 0,.bool false]) (Fx.FB (z:=aD 0) rfl rfl rfl f Tryz.underlying108 Tryz.underlying23 (by rfl) jL)<|av (.tuple #[aD 0,.bool false])<|av (aD 0)<|av aF<|av (aD 0)<|av aF<|aC<|ay<|av aF<|av aF<|aC<|Wr<|aJ aF ?_;exact⟨iD (Eq.symm (zG jL)),rfl⟩
theorem amI(f:Nat)(k:Int)(w:World) :
 Calls Tryz.prog 93 #[(pt f),aD k] w fun e w' => ∃ c q,e = .returned (.func (.func 144) #[] #[(pt c),(pt q)])/\w.heap.size<=c/\w.heap.size<=q/\aP w' c 1 (fun _=>(pt f)) 107/\aP w' q 1 (fun _=>aD k) 23/\Below w.heap.size w w':=by
 refine Kent Tryz.func93 6 ?_;refine ay<|vU (pt f) fun a v l d p x => ?_;have g:=bf p.old (Below.refl w.heap.size w);have m:=gD l;have t:=d.lt;refine vU (aD k) fun b w2 h i r y => ?_;have⟨o,j⟩:=eU r.old d g;have n:=iw h g.size;have s:=cu h d.lt;have u:=i.lt;refine av (.nilFunc)<|aC<|ay<|Lv (.func (.func 144) #[] #[(pt a),(pt b)]) (Fx.lJ (us := []) (vs := [(pt a),(pt b)]) rfl rfl rfl)<|av (.func (.func 144) #[] #[(pt a),(pt b)])<|aC<|Wr<|aJ (.func (.func 144) #[] #[(pt a),(pt b)]) ?_;exact⟨a,b,rfl,m,n,o,i,j⟩
theorem aht(J:List Int->World->Prop)(l g o r q n u:Nat)(x p:Nat->Int)(k:Int)(w:World)(hT:aP w g 1 (fun _ => .map (some o)) 165)(hM:Mp w o n x (fun j=>aD (p j)))(hB:aP w r 1 (fun _=>(pt g)) 107)(R:aP w q 1 (fun _=>aD k) 23)(hinj : ∀ a b,a<n->b<n->x a=x b->a=b)(acW:jK x p n u k)(hJ:JF q J [] w)(hd:r≠q/\g≠q)
 (hY : ∀ h v E,J h E->h.length<(jO x p n u k).length->Go.YieldAt (Fx.FR none) 1 Tryz.prog l #[aD v] E fun e O=>e = .returned (.bool true)/\J (h ++ [v]) O/\TY g o r q E O) :
  Calls Tryz.prog 144 #[.func (.yield l) #[] #[],(pt r),(pt q)] w fun e w'=>(∃ v,e = .returned v) /\ ∃ xs,xs=jO x p n u k/\J xs w':=by
 obtain⟨hd1,hd2⟩:=hd;have lq:=R.lt;refine Kent Tryz.func144 18 ?_;refine Wb<|DU (fun d f C => ∃ h:List Int,∃ c:Int,jK x p n d c/\h++jO x p n d c=jO x p n u k/\f 0 = .func (.yield l) #[] #[]/\f 1=(pt r)/\f 2=(pt q)/\aP C g 1 (fun _ => .map (some o)) 165/\Mp C o n x (fun j=>aD (p j))/\aP C r 1 (fun _=>(pt g)) 107/\aP C q 1 (fun _=>aD c) 23/\JF q J h C) (u) ⟨[],k,acW,(List.nil_append _),(by rfl),(by rfl),(by rfl),hT,hM,hB,R,hJ⟩ ?_;rintro d f1 w1 ⟨h,c,hst,B,Q,F,y,H,K,Y,L,M⟩;refine Ws<|Ws<|Fx.W.abn 2<|Fx.Ly.v (pt g) (bA (x:=fun _=>(pt g)) rfl F (by kernel_rfl) Y.aH (i:=0) (by omega) (by omega) rfl) ?_;refine Fx.Ly.v (aD c) (bA (x:=fun _=>aD c) rfl y (by kernel_rfl) L.aH (i:=0) (by omega) (by omega) rfl) ?_;by_cases s:(dW x n c)=true
 ·refine Fx.Ly.call (by rfl) (rC (args := [(pt g),aD c]) rfl rfl Tryz.func145 rfl rfl) rfl<|(FD x p n g o c _ H K).mono ?_;rintro e N ⟨A,hv1⟩;subst N;refine⟨.bool true,by rw[A,s],?_⟩;clear A;refine Fx.Ly.v (.bool true) (fG rfl rfl) ?_;refine Fx.Ly.v (.func (.yield l) #[] #[]) (fG rfl Q) ?_;refine Fx.Ly.v (aD c) (bA (x:=fun _=>aD c) rfl y (by kernel_rfl) L.aH (i:=0) (by omega) (by omega) rfl) ?_;obtain⟨d1,ed1,amJ,T⟩:=Io hst s;refine Fx.Ly.yield (l:=l) (args := [aD c]) rfl rfl rfl (Fx.args1 rfl) rfl (hY h c _ M.j (by have:=L_ List.length B; rw[T,E_,List.length_cons]at this; omega)) ?_;rintro e9 w2 ⟨rfl,hJ1,D⟩;refine⟨.bool true,rfl,?_⟩;have m6:aP w2 g 1 (fun _ => .map (some o)) 165:=(D.t).trans H;have m7:Mp w2 o n x (fun j=>aD (p j)):=K.keep D.m;have m8:aP w2 r 1 (fun _=>(pt g)) 107:=(D.b).trans Y;have m9:aP w2 q 1 (fun _=>aD c) 23:=(D.q).trans L;have m10:JF q J (h ++ [c]) w2:=⟨M.ab,hJ1⟩;refine Fx.Ly.v (.bool true) (gT rfl rfl rfl) ?_;refine Fx.Ly.nil ?_;refine sN<|aM<|Wk<|sN<|Wb ?_;obtain⟨G,S,P⟩:=iA s;refine kH [0,1,2,3,4,5,6] [4,0,0,4,4,3,3] [(5,0,[3,2,1,0]),(6,0,[0]),(5,3,[3]),(6,3,[3]),(5,4,[4]),(6,4,[4]),(6,5,[5])] fun rE dR iK => ?_;have⟨U,V,X,I,m15⟩:=nN dR m6 m7 m8 m9 m10;refine Rs (pt g) (aL X.aH 0 (ha:=F)) ?_;refine aX (pt g)<|aX (pt g)<|Rs (.map (some o)) (aL U.aH 0) ?_;refine Rs (aD c) (aL I.aH 0 (ha:=y)) ?_;refine gZ<|Lv (aD (p G)) (Fx.wZ (z:=aD 0) rfl rfl rfl V Tryz.underlying108 Tryz.underlying23 (by rfl) S P rfl)<|Ln<|gZ<|ji I 0 (aD (p G)) (ha:=y) fun w3 m16 Z z1 => ?_;have m17:aP w3 q 1 (fun _=>aD (p G)) 23:=dD m16;have fV:=gH Z I.ty;have⟨m18,m19,m20⟩:=zZ fV U V X;have m21:=m15.cZ Z;refine Ln<|Rn<|bP ?_;have m22:aP w3 q 1 (fun _=>aD (iO x p n c)) 23:=by rw[BA hinj S P]; exact m17
  skip
  refine gW ⟨d1,(by omega),(h ++ [c]),(iO x p n c),amJ,(by rw[List.append_assoc]; rw[T]at B; exact B),Q,F,y,m18,m19,m20,m22,m21⟩ (by decide)
 rw[U_]at s;refine Fx.Ly.call (by rfl) (rC (args := [(pt g),aD c]) rfl rfl Tryz.func145 rfl rfl) rfl<|(FD x p n g o c _ H K).mono ?_;rintro e N ⟨A,hv1⟩;subst N;refine⟨.bool false,by rw[A,s],?_⟩;clear A;refine Fx.Ly.v (.bool false) (fG rfl rfl) ?_;refine Fx.Ly.skip (by rfl) rfl ?_;refine Fx.Ly.skip (by rfl) rfl ?_;refine Fx.Ly.skip (by rfl) rfl ?_;refine Fx.Ly.v (.bool false) (gU rfl rfl rfl) ?_;refine Fx.Ly.nil ?_;refine sN (aK (Wx (bX (gP (bY (⟨.tuple #[],iJ Tryz.results144,?_⟩))))));exact⟨⟨_,rfl⟩,h,(by rw[lK s,List.append_nil]at B; exact B),M.j⟩
end
end Go.Proofs.YtcbedgfikejkoaaGreatDoor
namespace Go.Proofs.YtcbedgfikejkoaaGreatDoor
open Go.RowKit Go Rt
namespace Rt
def yH(l:List Int):Nat->Value:=fun i=>aD (l.getD i 0)
theorem YG{l:List Int}{v:Int}{z:Nat->Value} : ∀ j,j<(l.length+1)*1->Fx.ig (yH l) (l.length*1) (Fx.bB z (0*1) 1 (fun _=>aD v)) j=yH (l ++ [v]) j:=fun j a=>by
 unfold Fx.ig yH;by_cases h:j<l.length*1
 ·rw[d_ h,r_,r_,List.getElem?_append_left (by omega)]
 ·rw[b_ h];obtain rfl:j=l.length:=by omega
  unfold Fx.bB;rw[d_ (by omega)]; simp
structure PI(gl bt q B:Nat)(w0:World)(pre:List Int)(w:World):Prop where
 ex : ∃ a c,Fx.aP w gl 1 (fun _ => .slice a pre.length c) 53/\Fx.Own w B 23 1 (.slice a pre.length c) pre.length (yH pre)/\(∀ r,(Value.slice a pre.length c).ownBlock=some r->r≠bt/\r≠q/\r≠gl)
 be:Below B w0 w
 lb:bt<w.heap.size
 lq:q<w.heap.size
theorem KeepsOthers.CF{g:Nat}{w w':World}(h:Fx.Stp g w w')(c : ∀ o,w.heap[g]? = some o->o.isCells=true):KeepsOthers w w' :=
 ⟨h.size,fun k o a b=>by
  by_cases e:k=g
  ·subst e; rw[c o a]at b; cases b
  ·exact(h.block k (t_.1 a).1 e).trans a⟩
theorem KeepsOthers.T9{w w':World}{v:Value}(h:w.grownBy w' v.ownBlock)(c : ∀ r o,v.ownBlock=some r->w.heap[r]? = some o->o.isCells=true):KeepsOthers w w' :=
 ⟨h.size,fun k o a b=>by
  refine(h.block k (t_.1 a).1 fun e => ?_).trans a;rw[c k o e.symm a]at b; cases b⟩
theorem BD{w:World}{g:Nat}{T:TypeId}(h:Fx.Ty w g T) : ∀ o,w.heap[g]? = some o->o.isCells=true:=fun o a=>by
 obtain⟨b,h⟩:=h;rw[h]at a; cases a; rfl
theorem TY.trans{d c a q:Nat}{A B C:World}(h:TY d c a q A B)(k:TY d c a q B C):TY d c a q A C:=⟨m_ h.size k.size,k.t.trans h.t,k.m.trans h.m,k.b.trans h.b,k.q.trans h.q⟩
theorem TY.of{c b a q:Nat}{A B:World}(d:A.heap.size<=B.heap.size)(h : ∀ k,k=c\/k=b\/k=a\/k=q->B.heap[k]? = A.heap[k]?):TY c b a q A B:=⟨d,h _ (.inl rfl),h _ (.inr (.inl rfl)),h _ (.inr (.inr (.inl rfl))),h _ (.inr (.inr (.inr rfl)))⟩
theorem PI.own{b k q B c:Nat}{j:World}(l:B<=j.heap.size)(n:b≠q)(p:B<=q)(y:B<=c):Rgq.Rh q c (PI b k q B j):=fun s W x w u a i=>by
 obtain⟨⟨d,f,m,o,h⟩,hbe,hlb,hlq⟩:=u;have g : ∀ r T,Fx.Ty W r T->r≠q->w≠some r:=fun r T v t e=>by
  rcases i r e with h1|⟨_,ob,h1,h2⟩
  ·exact t h1
  ·rw[BD v ob h1]at h2; cases h2
 refine⟨⟨d,f,?_,?_,h⟩,hbe.grown a (m_ l hbe.size) fun r e => ?_,n_ hlb a.size,n_ hlq a.size⟩
 ·exact(a.block b m.lt fun e=>g b _ m.ty n e.symm).trans m
 ·refine World.ownsRow.kept o a ?_
  cases hb:(Value.slice d s.length f).ownBlock with
  | none=>exact .inl rfl
  | some r=>exact .inr fun e=>g r _ (o.ty hb) (h r hb).2.1 e.symm
 ·rcases i r e with rfl|⟨h1,_⟩
  ·exact p
  ·omega
end Rt
open Rt
theorem YH(d f c q n e:Nat)(x p:Nat->Int)(k:Int)(u : ∀ a b,a<n->b<n->x a=x b->a=b)(y:jK x p n e k)(t:c≠q/\d≠q) :
 Rgq.ahr (Fx.FR none) 2 Tryz.prog 144 #[(pt c),(pt q)] (fun v:Int => #[aD v]) (TY d f c q) (fun z=>z=jO x p n e k) (jO x p n e k).length q
  (fun w=>Fx.aP w d 1 (fun _ => .map (some f)) 165/\Fx.Mp w f n x (fun j=>aD (p j))/\Fx.aP w c 1 (fun _=>(pt d)) 107/\Fx.aP w q 1 (fun _=>aD k) 23) :=
 fun l J W ⟨o,i,h,m⟩ s r g=>callsIn_wide.2 (aht J l d f c q n e x p k W o i h m u y ⟨s,g⟩ t r)
set_option maxRecDepth 10000 in
theorem NR(x p:Nat->Int)(n A K C:Nat)(k:Int)(w:World)(hT:Fx.aP w A 1 (fun _ => .map (some K)) 165)(hM:Fx.Mp w K n x (fun j=>aD (p j)))(hinj : ∀ a b,a<n->b<n->x a=x b->a=b)(acW:jK x p n C k)(hlen:(jO x p n C k).length<=1000000) :
 Calls Tryz.prog 59 #[(pt A),aD k] w fun e w' => ∃ a c,e = .returned (.slice a (jO x p n C k).length c)/\Fx.Own w' w.heap.size 23 1 (.slice a (jO x p n C k).length c) (jO x p n C k).length (yH (jO x p n C k))/\Below w.heap.size w w':=by
 have ltp:=hT.lt;have lmb:=hM.lt;refine(callsIn_wide (n:=3)).1 (callsIn_of_wp_marks (F:=Fx.FR none) Tryz.func59 rfl trivial ?_ rfl);have ha:Fx.Bn { tmps := #[(pt A),aD k]++Array.replicate (Tryz.f59.ntmps-2) undef,defers := [] } 15 (Fx.start #[(pt A),aD k]):=by
  refine⟨by rfl,fun i => ?_⟩;simp only[Fx.start,Array.getD_eq_getD_getElem?,Array.getElem?_append,Array.getElem?_replicate];by_cases hi:i<2
  ·simp[hi]
  ·have R : ¬ i<(#[(pt A),aD k]:Array Value).size:=(by simpa using hi);rw[b_ R];split
   ·rw[Array.getElem?_eq_none (by simpa using hi)]; rfl
   ·rw[Array.getElem?_eq_none (by simpa using hi)]
 refine wpIn_seq<|Fx.Im (Q:=fun e f1 M=>e = .normal/\f1 0=(pt A)/\f1 1=aD k/\f1 4=(pt w.heap.size)/\Fx.aP M w.heap.size 1 (fun _ => .slice none 0 0) 53/\Below w.heap.size w M) ha ?_ (by rfl) ?_
 ·refine Fx.Bv (m:=1) (y:=fun _ => .slice none 0 0) (by rfl) rfl (by kernel_rfl) rfl fun g1 M kQ Y s1 z1 => ?_;subst kQ;exact Fx.Ln ⟨rfl,rfl,rfl,rfl,Y,s1.old⟩
 rintro e a1 M ⟨f1,ha1,hd1,rfl,h0,O,S,Y,b1⟩;have YI:=Y.lt;refine wpIn_seq<|wpIn_seq<|Fx.Im (Q:=fun e V w2=>e = .normal/\V 4=(pt w.heap.size)/\Below M.heap.size M w2 /\ ∃ t q,V 8 = .func (.func 144) #[] #[(pt t),(pt q)]/\M.heap.size<=t/\M.heap.size<=q/\Fx.aP w2 t 1 (fun _=>(pt A)) 107/\Fx.aP w2 q 1 (fun _=>aD k) 23) ha1 ?_ (by rfl) ?_
 ·refine aU h0<|aU O<|lD (amI A k _) ?_;rintro e w2 ⟨t,q,he,lb,lq,mb',mq',hb⟩;exact⟨_,he,Fx.Ln ⟨rfl,S,hb,t,q,rfl,lb,lq,mb',mq'⟩⟩
 rintro e a2 w2 ⟨V,ha2,hd2,rfl,S,b2,t,q,h8,lbt,lq,mbt,mq⟩;have hds:a2.defers = []:=hd2.trans hd1;have tbt:=mbt.lt;have tq:=mq.lt;have bq:t≠q:=fun e=>by
  subst e;have:=mbt.symm.trans mq;simp only[Option.some.injEq,Obj.cells.injEq]at this;exact M_ this.2.1 (by decide)
 have m2:=Y.cZ (Fx.Sb b2) (u_ Y.lt);have s1:=b1.size;have s2:=b2.size;have b12:Below w.heap.size w w2:=b1.trans (b2.mono s1);have hT2:Fx.aP w2 A 1 (fun _ => .map (some K)) 165:=(b12.block A ltp).trans hT;have hM2:Fx.Mp w2 K n x (fun j=>aD (p j)):=hM.keep (b12.block K lmb);have hgq:w.heap.size≠q:=by omega
 refine wpIn_block (Rgq.Eo (F:=Fx.FR none) rfl (by decide) (gf:=144) (lb := #[(pt t),(pt q)]) ?hg trivial (fun args w=>kN Tryz.func144 (by kernel_rfl) rfl args w)
  (YH A K t q n C x p k hinj acW ⟨bq,by omega⟩) tq ⟨hT2,hM2,mbt,mq⟩ ?NQ (fun h k=>h.trans k) ?hKb (fun _=>rfl) (PI w.heap.size t q w.heap.size w) (PI.own (A_ _) hgq (by omega) (by omega))
  ⟨⟨none,0,m2,Fx.tK _ _ _ _ _,fun r e=>by cases e⟩,b12,tbt,tq⟩ (fun v a => ∃ f,Fx.Bn a 15 f/\f 4=(pt w.heap.size)/\f 5=aD v) ?assign ?body ?done)
 case hg=>rw[ha2.ev]; exact h8
 case NQ =>
  rintro W o hw ⟨i1,i2,i3,i4⟩;exact⟨(Below.heap_alloc W o A i1.lt).trans i1,i2.keep (Below.heap_alloc W o K i2.lt),(Below.heap_alloc W o t i3.lt).trans i3,(Below.heap_alloc W o q i4.lt).trans i4⟩
 case hKb =>
  intro W l o o' hl _ _ _;exact TY.of (by simp) fun r hr=>World.putObj_heap_other (by omega)
 case assign =>
  intro l v W;have hp:=ha2.put (d:=some 9) rfl (aD v);refine Fx.Im (ro:=some l) (n:=15) (f:=Fx.put V (some 9) (aD v)) (Q:=fun e f w'=>e = .normal/\f 4=(pt w.heap.size)/\f 5=aD v/\w'=W) (Fx.Lb hp) ?_ (by rfl) ?_
  ·exact Fx.Lv (aD v) (Fx.eP rfl rfl) (Fx.Ln ⟨rfl,S,rfl,rfl⟩)
  ·rintro e a' w' ⟨f',hf',_,rfl,g4,g5,rfl⟩;exact⟨⟨f',hf',g4,g5⟩,rfl⟩
 case body =>
  rintro l L v W a' ⟨f',hf',g4,g5⟩ ⟨⟨G,H,U,o3,X⟩,P,hpb,hpq⟩ hpl;have hbs:=P.size;have Bp:=U.lt;refine wpIn_block<|Fx.Im (ro:=some l) (Q:=fun e f w'=>e = .normal/\KeepsOthers W w'/\TY A K t q W w'/\PI w.heap.size t q w.heap.size w (L ++ [v]) w') hf' ?_ (by rfl) ?_
  ·refine Fx.Lv (.slice G L.length H) (aL U.aH 0 (ha:=g4))<|aU g5<|Fx.wV (vs := [(0,aD v)]) (s:=1) (zc:=fun _=>aD 0) (y:=Fx.bB (fun j=>aD 0) (0*1) 1 (fun _=>aD v)) (by rfl) rfl rfl Tryz.underlying53 (by kernel_rfl) (by rfl) (by rfl) (by kernel_rfl) (by rw[Fx.aZ (off:=0*1) (s:=1) (y:=fun _=>aD v) rfl (Fx.cells_one (by rfl)) (by rfl)]; rfl) rfl fun g4' w4 KA m4 E z4 => ?_;have⟨m5,o5⟩:=eU E.old U o3;have hB4:w.heap.size<=w4.heap.size:=m_ hbs E.size;refine Fx.yc (B:=w.heap.size) (s:=1) (bytes:=8) (k:=L.length) (m:=1) (v := .slice G L.length H) (x:=yH L) (by rfl) rfl rfl rfl Tryz.underlying53 (by kernel_rfl) (by kernel_rfl) rfl rfl o5 m4.aH (fun j hj=>by unfold Fx.bB; split <;> rfl) (by omega) (by omega) (by omega) hB4 fun J Rj w6 ho1 I tO hlt1 => ?_
   have m6:=m5.grown I (fun e=>(X _ e).2.2 rfl);refine ji m6 0 (bK J (L.length+1) Rj) (ha:=g4) fun N Z u z7 => ?_;have e4 : ∀ r,r<W.heap.size->r≠w.heap.size->(∀ z,(Value.slice G L.length H).ownBlock=some z->z≠r)->N.heap[r]? = W.heap[r]? := fun r O R h3 =>
    (u.block r (n_ (n_ O E.size) I.size) R).trans ((I.block r (n_ O E.size) fun e=>h3 r e.symm rfl).trans (E.block r O (u_ O)))
   have hg6:J≠t/\J≠q/\J≠w.heap.size:=by
    rcases tO with h|h
    ·exact X J h
    ·have:=E.size; have:=P.block;refine⟨?_,?_,?_⟩
     ·omega
     ·omega
     ·omega
   have mC:Fx.aP N w.heap.size 1 (fun _=>bK J (L.length+1) Rj) 53:=Fx.aP.congr Z (by
    intro j hj;obtain rfl:j=0:=(by omega);rfl)
   refine Fx.Ln ⟨rfl,?_,?_,⟨?_,?_,?_,?_⟩⟩
   ·refine(KeepsOthers.CF E fun o ho => ?_).trans ((KeepsOthers.T9 I fun r o e ho=>BD (o5.ty e) o ho).trans (KeepsOthers.CF u (BD m6.ty)));have:=(t_.1 ho).1; omega
   ·refine TY.of (m_ E.size (m_ I.size u.size)) fun r hr=>e4 r ?_ ?_ fun z hz => ?_
    ·rcases hr with rfl|rfl|rfl|rfl <;> omega
    ·rcases hr with rfl|rfl|rfl|rfl <;> omega
    ·have O:=(o3.ge hz).1; have R:=X z hz
     rcases hr with rfl|rfl|rfl|rfl
     ·omega
     ·omega
     ·exact R.1
     ·exact R.2.1
   ·refine⟨some ⟨J,0,none⟩,Rj,?_,?_,fun r e => ?_⟩
    ·rw[E_]; exact mC
    ·rw[E_]; exact(ho1.congr YG).cZ u (fun e=>hg6.2.2 (C_ e))
    ·obtain rfl:J=r:=C_ e;exact hg6
   ·refine u.below ((E.below P hbs hbs).grown I hB4 fun r e=>(o5.ge e).1) (m_ hB4 I.size) (A_ _)
   ·exact n_ hpb (m_ E.size (m_ I.size u.size))
   ·exact n_ hpq (m_ E.size (m_ I.size u.size))
  ·rintro e a5 w5 ⟨f5,_,_,rfl,q1,q2,q3⟩;exact⟨q1,q2,q3⟩
 case done =>
  rintro D xs W hD rfl ⟨⟨G,H,U,o3,X⟩,P,hpb,hpq⟩ hK;have hcD : ∀ g,g<w2.heap.size->g≠D:=fun g h e=>by omega
  have hkc : ∀ {g T},Fx.Ty W g T->g≠D:=fun ht e=>by
   have:=BD ht _ (e ▸ hK); cases this
  have hDn:(w.heap.size:Nat)≠D:=by omega
  show Code.wpIn _ _ _ _ _ _ _;refine wpIn_seq<|Fx.Im (Q:=fun e f w'=>e = .normal/\f 4=(pt w.heap.size)/\Fx.Stp w.heap.size W w'/\Fx.aP w' w.heap.size 1 (fun _ => .slice G (jO x p n C k).length H) 53) (f:=V) ⟨ha2.size,ha2.get⟩ ?_ (by rfl) ?_
  ·refine Fx.Lv (.slice G (jO x p n C k).length H) (aL U.aH 0 (ha:=S))<|ji U 0 (.slice G (jO x p n C k).length H) (ha:=S) fun N Z u z7 => ?_;exact Fx.Ln ⟨rfl,S,u,Fx.aP.congr Z fun j hj=>by
    obtain rfl:j=0:=(by omega);rfl⟩
  rintro e a7 N ⟨f7,ha7,hd7,rfl,q4,u,Z⟩;have hK7:N.heap[D]? = some (.deferred (some [])):=(u.block D (t_.1 hK).1 (Ne.symm hDn)).trans hK;have m8:Fx.aP (N.putObj D (.deferred none)) w.heap.size 1 (fun _ => .slice G (jO x p n C k).length H) 53:=(World.putObj_heap_other hDn).trans Z;refine wpIn_ret (Fx.leave1 ha7 (hd7.trans (by rw[hds])) hK7 (Fx.rV Tryz.results59 ⟨_,q4,Fx.Q5 m8.aH (by kernel_rfl) (i:=0) (by omega) (by omega) rfl⟩) ⟨G,H,rfl,?_,?_⟩)
  ·have o7:=o3.cZ u (fun e=>(X _ e).2.2 rfl);exact World.ownsRow.kept o7 (grownBy_putObj' N D _) (.inr fun e=>by
    exact hkc (o3.ty e) rfl)
  ·exact(u.below P P.size (A_ _)).grown (grownBy_putObj' N D _) (m_ P.size u.size) fun r e=>by cases e; omega
end Go.Proofs.YtcbedgfikejkoaaGreatDoor
namespace Go.Proofs.YtcbedgfikejkoaaGreatDoor
open Go.RowKit Go
namespace Rt
section
variable {x p x' p':Nat->Int} {n n' j d e:Nat} {k id pa:Int}
theorem zH : ∀ {d:Nat} {k:Int},(jO x p n d k).length<=d
 | 0,k=>A_ _
 | d+1,k=>by
   unfold jO;split
   ·rw[List.length_cons]; exact Nat.succ_le_succ zH
   ·exact K_ _
theorem BF : ∀ {d e:Nat} {k:Int},jK x p n d k->(jO x p n d k).length<=e->jK x p n e k
 | 0,0,k,h,_=>h
 | 0,e+1,k,h,_=>fun b=>by
   have h:dW x n k=false:=h;rw[h]at b; cases b
 | d+1,0,k,h,hl=>by
   show dW x n k=false
   cases a:dW x n k with
   | false=>rfl
   | true =>
     unfold jO at hl;rw[d_ a,List.length_cons]at hl;omega
 | d+1,e+1,k,h,hl=>fun a=>by
   unfold jO at hl;rw[d_ a,List.length_cons]at hl;exact BF (h a) (by omega)
theorem Ld : ∀ {d:Nat} {k:Int},jK x p n d k->jO x p n (d+1) k=jO x p n d k
 | 0,k,h=>by
   have h:dW x n k=false:=h;rw[lK h,lK h]
 | d+1,k,h=>by
   cases hk:dW x n k with
   | false=>rw[lK hk,lK hk]
   | true =>
     show(if dW x n k=true then k::jO x p n (d+1) (iO x p n k)else [])=(if dW x n k=true then k::jO x p n d (iO x p n k)else []);rw[d_ hk,d_ hk,Ld (h hk)]
theorem NS{d:Nat}{k:Int}(h:jK x p n d k):jK x p n (d+1) k:=BF h (Nat.le_succ_of_le zH)
theorem JI{d e:Nat}{k:Int}(h:jK x p n d k)(a:d<=e):jO x p n e k=jO x p n d k/\jK x p n e k:=by
 induction a with
 | refl=>exact⟨rfl,h⟩
 | step _ ih=>exact⟨(Ld ih.2).trans ih.1,NS ih.2⟩
structure Cq(n:Nat)(x p:Nat->Int):Prop where
 inj : ∀ a b,a<n->b<n->x a=x b->a=b
 pos : ∀ j,j<n->0<x j/\x j<=18446744073709551615
 stop : ∀ k,jK x p n 4 k
 small:n<=32
 par : ∀ j,j<n->p j=0 \/ ∃ i,i<j/\x i=p j
theorem Cq.zero(x p:Nat->Int):Cq 0 x p:=⟨fun a b h=>by omega,fun j h=>by omega,fun k h=>(nomatch h),by omega,fun j h=>by omega⟩
theorem Cq.YJ(h:Cq n x p):dW x n 0=false:=zG fun i hi e=>by have:=h.pos i hi; omega
theorem Cq.ahu(h:Cq n x p)(d:Nat):jO x p n d 0 = []:=lK h.YJ
theorem Cq.len(h:Cq n x p)(k:Int):(jO x p n 4 k).length<=1000000:=m_ zH (by omega)
def sG(x p:Nat->Int)(n:Nat)(id pa:Int):Int :=
 if id=0 then 1 else if dW x n id=true then 14 else if ¬ pa=0/\dW x n pa=false then 9 else if 32<=n\/4<=(jO x p n 4 pa).length then 6 else 0
inductive acX (n:Nat) (x p:Nat->Int) (id pa:Int):Int->Nat->(Nat->Int)->(Nat->Int)->Prop
 | no {c:Int} (hc:sG x p n id pa=c) (h0:c≠0):acX n x p id pa c n x p
 | yes (hc:sG x p n id pa=0):acX n x p id pa 0 (n+1) (Fx.aO x n id) (Fx.aO p n pa)
theorem FE(a:sG x p n id pa=0):id≠0/\dW x n id=false/\(pa=0\/dW x n pa=true)/\n<32/\(jO x p n 4 pa).length<4:=by
 unfold sG at a;split at a
 ·cases a
 split at a
 ·cases a
 split at a
 ·cases a
 split at a
 ·cases a
 rename_i h1 h2 h3 h4;refine⟨h1,by simpa using h2,?_,by omega,by omega⟩;by_cases b:pa=0
 ·exact .inl b
 right
 cases hk:dW x n pa with
 | true=>rfl
 | false=>exact M_ ⟨b,hk⟩ h3
theorem jQ(id k:Int):dW (Fx.aO x n id) (n+1) k=(dW x n k || decide (id=k)):=by
 have e : ∀ m,m<=n->dW (Fx.aO x n id) m k=dW x m k:=fun m=>by
  induction m with
  | zero=>exact fun _=>rfl
  | succ m ih =>
    intro a;show(dW (Fx.aO x n id) m k || decide (Fx.aO x n id m=k))=(dW x m k || decide (x m=k));rw[ih (by omega)];unfold Fx.aO;rw[b_ (by omega)]
 show(dW (Fx.aO x n id) n k || decide (Fx.aO x n id n=k))=_;rw[e n (A_ _)];unfold Fx.aO;rw[d_ rfl]
theorem uM(id pa k:Int):iO (Fx.aO x n id) (Fx.aO p n pa) (n+1) k=if id=k then pa else iO x p n k:=by
 have e : ∀ m,m<=n->iO (Fx.aO x n id) (Fx.aO p n pa) m k=iO x p m k:=fun m=>by
  induction m with
  | zero=>exact fun _=>rfl
  | succ m ih =>
    intro a;show(if Fx.aO x n id m=k then Fx.aO p n pa m else iO (Fx.aO x n id) (Fx.aO p n pa) m k)=(if x m=k then p m else iO x p m k);rw[ih (by omega),show Fx.aO x n id m=x m by unfold Fx.aO; rw[b_ (by omega)],show Fx.aO p n pa m=p m by unfold Fx.aO; rw[b_ (by omega)]]
 show(if Fx.aO x n id n=k then Fx.aO p n pa n else iO (Fx.aO x n id) (Fx.aO p n pa) n k)=_;rw[e n (A_ _),show Fx.aO x n id n=id by unfold Fx.aO; rw[d_ rfl],show Fx.aO p n pa n=pa by unfold Fx.aO; rw[d_ rfl]]
theorem Cq.up(h:Cq n x p)(b:dW x n k=true):iO x p n k=0\/dW x n (iO x p n k)=true:=by
 obtain⟨j,a,e⟩:=iA b;rw[BA h.inj a e]
 rcases h.par j a with h1|⟨i,hi,h1⟩
 ·exact .inl h1
 exact .inr (jU (by omega) h1)
theorem FH(h:Cq n x p)(c:dW x n id=false)(b:id≠0) : ∀(d:Nat) (k:Int),k≠id->jK x p n d k->jK (Fx.aO x n id) (Fx.aO p n pa) (n+1) d k
 | 0,k,hk,hs=>by
   show dW _ _ _=false;rw[jQ,g_ (fun e=>hk e.symm),H_]; exact hs
 | d+1,k,hk,hs=>fun a=>by
   rw[jQ,g_ (fun e=>hk e.symm),H_]at a;rw[uM,b_ (fun e=>hk e.symm)];refine FH h c b d _ ?_ (hs a);intro e
   rcases h.up a with h1|h1
   ·exact b (e.symm.trans h1)
   ·rw[e,c]at h1; cases h1
theorem Cq.put(h:Cq n x p)(y:sG x p n id pa=0)(o:0<=id/\id<=18446744073709551615):Cq (n+1) (Fx.aO x n id) (Fx.aO p n pa):=by
 obtain⟨m,f,s,B,A⟩:=FE y;have l:Fx.aO x n id n=id:=by unfold Fx.aO; rw[d_ rfl]
 have d : ∀ j,j<n->Fx.aO x n id j=x j:=fun j c=>by unfold Fx.aO; rw[b_ (by omega)]
 have t:Fx.aO p n pa n=pa:=by unfold Fx.aO; rw[d_ rfl]
 have u : ∀ j,j<n->Fx.aO p n pa j=p j:=fun j c=>by unfold Fx.aO; rw[b_ (by omega)]
 have r : ∀ j,j<n->x j≠id:=fun j c e=>by rw[jU c e]at f; cases f
 have z:pa≠id:=fun e=>by
  subst e
  rcases s with h1|h1
  ·exact m h1
  ·rw[f]at h1; cases h1
 have g : ∀ j,j<n+1->j<n\/j=n:=fun j c=>by omega
 refine⟨fun a b w o e => ?_,fun j c => ?_,fun k => ?_,by omega,fun j c => ?_⟩
 ·rcases g a w with h1|rfl <;> rcases g b o with h2|rfl
  ·rw[d a h1,d b h2]at e; exact h.inj a b h1 h2 e
  ·rw[d a h1,l]at e; exact M_ e (r a h1)
  ·rw[l,d b h2]at e; exact M_ e.symm (r b h2)
  rfl
 ·rcases g j c with h1|rfl
  ·rw[d j h1]; exact h.pos j h1
  rw[l]; omega
 ·by_cases q:k=id
  ·subst q;intro _;rw[uM,d_ rfl];exact FH h f m 3 pa z (BF (h.stop pa) (by omega))
  exact FH h f m 4 k q (h.stop k)
 rcases g j c with h1|rfl
 ·rw[u j h1]
  rcases h.par j h1 with h2|⟨i,hi,h2⟩
  ·exact .inl h2
  exact .inr ⟨i,hi,by rw[d i (by omega)]; exact h2⟩
 rw[t]
 rcases s with h2|h2
 ·exact .inl h2
 obtain⟨i,hi,v⟩:=iA h2;exact .inr ⟨i,hi,by rw[d i hi]; exact v⟩
theorem vY : ∀ {l m:List Int},l.Pairwise (· < ·)->m.Pairwise (· < ·)->(∀ k,k∈l<->k∈m)->l=m
 | [],[],_,_,_=>rfl
 | [],b::m,_,_,h=>by have:=(h b).2 (by simp); simp at this
 | a::l,[],_,_,h=>by have:=(h a).1 (by simp); simp at this
 | a::l,b::m,hl,hm,h=>by
   rw[List.pairwise_cons]at hl hm;have e:a=b:=by
    have c:=(h a).1 (by simp);have d:=(h b).2 (by simp);rw[List.mem_cons]at c d
    rcases c with c|c
    ·exact c
    rcases d with d|d
    ·exact d.symm
    have:=hm.1 _ c; have:=hl.1 _ d; omega
   subst e;rw[vY hl.2 hm.2 fun k => ?_];have f:=h k;rw[List.mem_cons,List.mem_cons]at f;constructor
   ·intro q
    rcases f.1 (.inr q)with rfl|c
    ·have:=hl.1 _ q; omega
    ·exact c
   ·intro q
    rcases f.2 (.inr q)with rfl|c
    ·have:=hm.1 _ q; omega
    ·exact c
end
theorem Ir(S:Nat->Bool) : ∀ n,Fx.unseen S n<=n
 | 0=>A_ _
 | n+1=>by
   unfold Fx.unseen;have:=Ir S n;split <;> omega
structure Ua(n:Nat)(P:Nat->Prop)(S:Nat->Bool)(m:Nat)(τ:Nat->Nat)(kk:Nat):Prop where
 lt : ∀ q,q<m->τ q<n
 inj : ∀ q r,q<m->r<m->τ q=τ r->q=r
 mem : ∀ i,i<n->S i=true->P i -> ∃ q,q<m/\τ q=i
 yes : ∀ q,q<m->P (τ q)
 seen : ∀ q,q<m->S (τ q)=true
 le:m+kk<=n
 kk:kk=Fx.unseen S n
section
variable {n m kk:Nat} {P:Nat->Prop} {S:Nat->Bool} {τ:Nat->Nat}
theorem Ua.start(n:Nat)(P:Nat->Prop)(τ:Nat->Nat):Ua n P (fun _=>false) 0 τ (Fx.unseen (fun _=>false) n) :=
 ⟨fun _ h=>M_ h (z_ _),fun _ _ h=>M_ h (z_ _),fun _ _ h=>(nomatch h),fun _ h=>M_ h (z_ _),fun _ h=>M_ h (z_ _),by have:=Ir (fun _=>false) n; omega,rfl⟩
theorem Ua.take(h:Ua n P S m τ kk){i:Nat}(hi:i<n)(g:S i=false)(p:P i):Ua n P (Fx.aO S i true) (m+1) (Fx.aO τ m i) (Fx.unseen (Fx.aO S i true) n):=by
 have w:=Fx.qb g n hi;have u:=h.kk;have v:=h.le;have c:Fx.aO τ m i m=i:=by unfold Fx.aO; rw[d_ rfl]
 have b : ∀ q,q<m->Fx.aO τ m i q=τ q:=fun q a=>by unfold Fx.aO; rw[b_ (by omega)]
 have k : ∀ q,q<m->τ q≠i:=fun q a e=>by have:=h.seen q a; rw[e,g]at this; cases this
 have d : ∀ q,q<m+1->q<m\/q=m:=fun q a=>by omega
 refine⟨fun q a => ?_,fun q r a t e => ?_,fun j o f l => ?_,fun q a => ?_,fun q a => ?_,by omega,rfl⟩
 ·rcases d q a with h1|rfl
  ·rw[b q h1]; exact h.lt q h1
  rw[c]; exact hi
 ·rcases d q a with h1|h1 <;> rcases d r t with h2|h2
  ·rw[b q h1,b r h2]at e; exact h.inj q r h1 h2 e
  ·subst h2; rw[b q h1,c]at e; exact M_ e (k q h1)
  ·subst h1; rw[b r h2,c]at e; exact M_ e.symm (k r h2)
  omega
 ·by_cases e:j=i
  ·exact⟨m,by omega,by rw[c,e]⟩
  unfold Fx.aO at f;rw[b_ e]at f;obtain⟨q,a,s⟩:=h.mem j o f l;exact⟨q,by omega,by rw[b q a,s]⟩
 ·rcases d q a with h1|rfl
  ·rw[b q h1]; exact h.yes q h1
  rw[c]; exact p
 rcases d q a with h1|rfl
 ·rw[b q h1]; unfold Fx.aO; split
  ·rfl
  exact h.seen q h1
 rw[c]; unfold Fx.aO; rw[d_ rfl]
end
end Rt
end Go.Proofs.YtcbedgfikejkoaaGreatDoor
namespace Go.Proofs.YtcbedgfikejkoaaGreatDoor
open Go.RowKit Rt
open Fx (Lv sN Ln Ws Qv Wl Rp Wr Sb Wk sR Rs Rn Wb Wx Wo Qn nG rv aA aP bB aO Stp dB Mp iJ iN bL bP bX bY gP gW pV)
section
open Rt
theorem ahv(x p:Nat->Int)(w:World) :
 Calls Tryz.prog 58 #[] w fun e w' => ∃ c b,e = .returned (pt c)/\w.heap.size<=c/\w.heap.size<=b/\aP w' c 1 (fun _ => .map (some b)) 165/\Mp w' b 0 x (fun j=>aD (p j))/\Below w.heap.size w w':=by
 refine Kent Tryz.func58 4 ?_;refine ay<|av (.pointer none)<|aC<|ay<|Fx.L.K6 (by rfl) rfl rfl fun m y l a r z => ?_;have d:=bf r.old (Below.refl w.heap.size w);have n:=gD l;have u:=a.lt;refine av (.agg (aA 1 (bB (fun _ => .map none) 0 1 (fun _ => .map (some m)))))<|oz fun g w2 f h s A => ?_;have⟨q,k⟩:=eU s.old a d;have o:=iw f d.size;have t:=cu f a.lt;have v:=h.lt;refine av (pt g)<|aC<|Wr<|aJ (pt g) ?_;exact⟨_,_,rfl,o,n,h,q.vX (fun i hi=>M_ hi (z_ _)),k⟩
theorem Rt.vZ{l:List Int}{i:Nat}{v:Int}(hi:i<l.length)(e:l.getD i 0=v):v∈l:=by
 rw[r_,o_ hi]at e;rw[<- e]; exact R_ hi
theorem Rt.YK{l:List Int}{v:Int}(h : ∀ j,j<l.length->l.getD j 0≠v) : ¬ v∈l:=fun a=>by
 obtain⟨i,hi,e⟩:=List.getElem_of_mem a;refine h i hi ?_;rw[r_,o_ hi]; exact e
theorem amL(l:List Int)(v:Int)(B c:Nat)(a:Option Addr)(w:World)(C:Fx.Own w B 23 1 (.slice a l.length c) l.length (yH l))(F:l.length<=1000) :
 Calls Tryz.prog 242 #[.slice a (l.length) (c),aD v] w fun e w' => ∃ r:Int,e = .returned (au r)/\(0<=r<->v∈l)/\Below w.heap.size w w':=by
 refine Kent Tryz.func242 19 ?_;refine ay<|av (au 0)<|aC<|Ws<|ay<|av (.slice a (l.length) (c))<|av (au l.length)<|av (au 0)<|aC<|Wb<|Wo (fun f A => ∃ i:Nat,(∀ j,j<i->l.getD j 0≠v)/\f 0 = .slice a (l.length) (c)/\f 1=aD v/\f 7=au (l.length:Int)/\f 8=au (i:Int)/\Fx.Own A B 23 1 (.slice a (l.length) (c)) l.length (yH l)/\Below w.heap.size w A) (fun f _=>((l.length:Int)-intOf (f 8)).toNat) ⟨0,(fun j n=>M_ n (z_ _)),(by rfl),Fx.ic,Fx.ic,Fx.ic,C,(Below.refl w.heap.size w)⟩ ?_;rintro E z ⟨i,u,s,t,m,b,x,g⟩;refine ay ?_;by_cases o:(i:Int)<(l.length:Int)
 ·refine Lv aG (gM o (hx:=b) (hy:=m))<|aC<|Ws<|aM<|Wk<|sN<|Ws<|Wb<|ay<|aU b<|av (au i)<|aC<|ay<|aU t<|aU s<|av (au i) ?_;obtain⟨p,k⟩:=x.addr (by omega);have y:Fx.Own z B 23 1 (bK p l.length c) l.length (yH l):=x.eY (L_ (fun q=>Value.slice q l.length c) k);refine Lv (pf p i) (dw 1 (hx:=(rfl.trans (L_ (fun q=>Value.slice q (l.length) (c)) k))))<|Lv (aD (l.getD i 0)) (aL y.aH i) ?_;by_cases d:v=(l.getD i 0)
  ·refine Lv aG (eH d)<|aC<|aM<|ay<|av (au i)<|av (au i)<|aC<|Wr<|bL<|sR<|pV<|bL<|sR<|aJ (au i) ?_;exact⟨_,rfl,⟨fun _=>vZ (by omega) d.symm,fun _=>by omega⟩,g⟩
  refine Lv aF (fC d)<|aC<|aK<|Wk<|bP<|sN<|Wl<|Lv (au ((i:Int)+1)) (fA (hx:=b))<|av (au ((i:Int)+1))<|Ln ?_;have D:Fx.Own z B 23 1 (.slice a (l.length) (c)) l.length (yH l):=y.eY (L_ (fun q=>Value.slice q l.length c) k.symm);refine gW ⟨i+1,(fun j n=>by by_cases e:j=i; subst e; exact fun e=>d e.symm; exact u j (by omega)),s,(t.trans Fx.ic),(m.trans Fx.ic),Fx.ic,D,g⟩ ?_;show((l.length:Int)-intOf (au ((i:Int)+1))).toNat<_;simp only[b,intOf]; omega
 refine Lv aF (gN o (hx:=b) (hy:=m))<|aC<|Ws<|aK<|Wx<|bX<|gP<|bY<|sN<|ay<|av (au (-1))<|aC<|Wr<|aJ (au (-1)) ?_;exact⟨_,rfl,⟨fun h=>by omega,fun h=>M_ h (YK (fun j n=>u j (by omega)))⟩,g⟩
theorem amM(l:List Int)(v:Int)(B c:Nat)(a:Option Addr)(w:World)(g:Fx.Own w B 23 1 (.slice a l.length c) l.length (yH l))(i:l.length<=1000) :
 Calls Tryz.prog 231 #[.slice a (l.length) (c),aD v] w fun e w'=>e = .returned (.bool (decide (v∈l)))/\Below w.heap.size w w':=by
 refine Kent Tryz.func231 9 ?_;refine ay<|av aF<|aC<|ay<|av (.slice a (l.length) (c))<|av (aD v)<|lD (amL l v B c a _ g i) ?_;rintro j k ⟨r,b,h,f⟩;refine⟨_,b,?_⟩;clear b;have d:=bf f (Below.refl w.heap.size w);refine Lv (.bool (decide (0<=r))) (Fx.Fj rfl rfl rfl)<|av (.bool (decide (0<=r)))<|aC<|Wr<|aJ (.bool (decide (0<=r))) ?_;exact⟨by rw[decide_eq_decide.2 h],d⟩
theorem ahw(x p:Nat->Int)(n b a:Nat)(id pa:Int)(w:World)(f:aP w b 1 (fun _ => .map (some a)) 165)(d:Mp w a n x (fun j=>aD (p j)))(h:Cq n x p) :
 Calls Tryz.prog 217 #[(pt b),aD id,aD pa] w fun e w' => ∃ c F x2 G,e = .returned (au c)/\acX n x p id pa c F x2 G/\aP w' b 1 (fun _ => .map (some a)) 165/\Mp w' a F x2 (fun j=>aD (G j))/\Stp a w w':=by
 have ab:=f.lt;have aa:=d.lt;have Z:=h.small;have Y:(jO x p n 4 pa).length<=4:=zH;refine Kent Tryz.func217 44 ?_;refine ay<|av (au 0)<|aC<|Ws<|Wb<|ay<|av (pt b)<|Lv aF (Fx.oH rfl rfl rfl (by kernel_rfl))<|av aF<|aC<|aK<|ay<|av (aD id) ?_;by_cases k:id=0
 ·refine Lv aG (eH k)<|av aG<|aC<|aM<|ay<|av (au 1)<|aC<|Wr<|bL<|sR<|aJ (au 1) ?_;exact⟨_,_,_,_,rfl,.no (by unfold sG; rw[d_ k]) (by decide),f,d,(nG a w)⟩
 refine Lv aF (fC k)<|av aF<|aC<|aK<|ay<|av (pt b)<|av (aD id) ?_;by_cases g:(dW x n id)=true
 ·refine lH (FD x p n b a id _ f d) aG (by rw[g])<|av aG<|aC<|aM<|ay<|av (au 14)<|aC<|Wr<|bL<|sR<|aJ (au 14) ?_;exact⟨_,_,_,_,rfl,.no (by unfold sG; rw[b_ k,g,d_ rfl]) (by decide),f,d,(nG a w)⟩
 rw[U_]at g;refine lH (FD x p n b a id _ f d) aF (by rw[g])<|av aF<|aC<|aK<|ay<|av (aD pa) ?_;by_cases m:pa=0
 ·refine Lv aF (jG m)<|av aF<|bO<|bO<|bO<|bO<|av aF<|av aF<|aC<|aK<|Ws<|ay<|av (pt b)<|av (pt b)<|av (pt b)<|Lv (.map (some a)) (aL f.aH 0)<|Lv (au n) (Fx.TN rfl rfl rfl d Tryz.underlying108) ?_;by_cases o:32<=(n:Int)
  ·refine Lv aG (kR o)<|av aG<|aC<|aM<|Wk<|sN<|aM<|ay<|av (au 6)<|aC<|Wr<|bL<|sR<|aJ (au 6) ?_;exact⟨_,_,_,_,rfl,.no (by unfold sG; rw[b_ k,g,b_ (by decide),b_ (fun h=>h.1 m),d_ (by omega)]) (by decide),f,d,(nG a w)⟩
  refine Lv aF (kJ o)<|av aF<|aC<|aK<|Wl<|av (pt b)<|av (aD pa)<|lD (NR x p n b a 4 pa _ f d h.inj (h.stop _) (h.len _)) ?_;rintro M w1 ⟨pa1,pc1,r,N,B⟩;refine⟨_,r,?_⟩;clear r;have V:=Sb B;have⟨u,v⟩:=eU B f d;have z:=(nG a w).then V (.inr (nG a w).size);refine av (au (((jO x p n 4 pa).length:Nat):Int)) ?_;by_cases q:4<=(((jO x p n 4 pa).length:Nat):Int)
  ·refine Lv aG (kR q)<|av aG<|aC<|aM<|ay<|av (au 6)<|aC<|Wr<|bL<|sR<|aJ (au 6) ?_;exact⟨_,_,_,_,rfl,.no (by unfold sG; rw[b_ k,g,b_ (by decide),b_ (fun h=>h.1 m),d_ (by omega)]) (by decide),u,v,z⟩
  refine Lv aF (kJ q)<|av aF<|aC<|aK<|Wk<|bP<|sN<|Ws ?_;have s : ∀ i,i<n->x i≠id:=fun i hi e=>by rw[jU hi e]at g; cases g
  refine Wl<|av (pt b)<|av (pt b)<|av (pt b)<|Lv (.map (some a)) (aL u.aH 0)<|av (aD id)<|av (aD pa)<|Fx.L.Ra (by rfl) rfl rfl rfl rfl rfl v Tryz.underlying108 Tryz.underlying23 s fun w2 R H z1 => ?_;have D:=v.Cy H;have S:=u.eB D;have m6:=N.eB D;have J:=z.then H (.inl rfl);have T:Mp w2 a (n+1) (aO x n id) (fun j=>aD (aO p n pa j)):=R.vX (fun i _=>⟨rfl,by unfold aO; split <;> rfl⟩)
  refine aC<|ay<|av (au 0)<|aC<|Wr<|aJ (au 0) ?_;exact⟨_,_,_,_,rfl,.yes (by unfold sG; rw[b_ k,g,b_ (by decide),b_ (fun h=>h.1 m),b_ (by omega)]),S,T,J⟩
 refine Lv aG (mG m)<|av aG<|av (pt b)<|av (aD pa) ?_;by_cases l:(dW x n pa)=true
 ·refine lH (FD x p n b a pa _ f d) aG (by rw[l])<|av aF<|av aF<|av aF<|aC<|aK<|Ws<|ay<|av (pt b)<|av (pt b)<|av (pt b)<|Lv (.map (some a)) (aL f.aH 0)<|Lv (au n) (Fx.TN rfl rfl rfl d Tryz.underlying108) ?_;by_cases o:32<=(n:Int)
  ·refine Lv aG (kR o)<|av aG<|aC<|aM<|Wk<|sN<|aM<|ay<|av (au 6)<|aC<|Wr<|bL<|sR<|aJ (au 6) ?_;exact⟨_,_,_,_,rfl,.no (by unfold sG; rw[b_ k,g,b_ (by decide),b_ (fun h=>by rw[l]at h; cases h.2),d_ (by omega)]) (by decide),f,d,(nG a w)⟩
  refine Lv aF (kJ o)<|av aF<|aC<|aK<|Wl<|av (pt b)<|av (aD pa)<|lD (NR x p n b a 4 pa _ f d h.inj (h.stop _) (h.len _)) ?_;rintro M w3 ⟨pa2,pc2,r,U,C⟩;refine⟨_,r,?_⟩;clear r;have W:=Sb C;have⟨y,t⟩:=eU C f d;have A:=(nG a w).then W (.inr (nG a w).size);refine av (au (((jO x p n 4 pa).length:Nat):Int)) ?_;by_cases q:4<=(((jO x p n 4 pa).length:Nat):Int)
  ·refine Lv aG (kR q)<|av aG<|aC<|aM<|ay<|av (au 6)<|aC<|Wr<|bL<|sR<|aJ (au 6) ?_;exact⟨_,_,_,_,rfl,.no (by unfold sG; rw[b_ k,g,b_ (by decide),b_ (fun h=>by rw[l]at h; cases h.2),d_ (by omega)]) (by decide),y,t,A⟩
  refine Lv aF (kJ q)<|av aF<|aC<|aK<|Wk<|bP<|sN<|Ws ?_;have s : ∀ i,i<n->x i≠id:=fun i hi e=>by rw[jU hi e]at g; cases g
  refine Wl<|av (pt b)<|av (pt b)<|av (pt b)<|Lv (.map (some a)) (aL y.aH 0)<|av (aD id)<|av (aD pa)<|Fx.L.Ra (by rfl) rfl rfl rfl rfl rfl t Tryz.underlying108 Tryz.underlying23 s fun X O I z2 => ?_;have E:=t.Cy I;have P:=y.eB E;have ac:=U.eB E;have K:=A.then I (.inl rfl);have Q:Mp X a (n+1) (aO x n id) (fun j=>aD (aO p n pa j)):=O.vX (fun i _=>⟨rfl,by unfold aO; split <;> rfl⟩)
  refine aC<|ay<|av (au 0)<|aC<|Wr<|aJ (au 0) ?_;exact⟨_,_,_,_,rfl,.yes (by unfold sG; rw[b_ k,g,b_ (by decide),b_ (fun h=>by rw[l]at h; cases h.2),b_ (by omega)]),P,Q,K⟩
 rw[U_]at l;refine lH (FD x p n b a pa _ f d) aF (by rw[l])<|av aG<|av aG<|av aG<|aC<|aM<|ay<|av (au 9)<|aC<|Wr<|bL<|sR<|aJ (au 9) ?_;exact⟨_,_,_,_,rfl,.no (by unfold sG; rw[b_ k,g,b_ (by decide),d_ ⟨m,l⟩]) (by decide),f,d,(nG a w)⟩
theorem ahx(k:Int)(w:World) :
 Calls Tryz.prog 85 #[aD k] w fun e w'=>e = .returned (.bool true)/\w'=w:=by
 refine Kent Tryz.func85 3 ?_;refine ay<|av aF<|aC<|ay<|av aG<|aC<|Wr<|aJ aG ?_;exact⟨rfl,rfl⟩
end
section
namespace Rt
open Go.Sort (ltInt swp)
def gA(d:Array Int):Nat->Int:=fun i=>d[i]!
section
variable {d d':Array Int} {n a b i j k p:Nat}
theorem acY(e:d.size=n)(hi:i<n)(c:j<n)(k:Nat):gA (swp d i j) k=if k=i then gA d j else if k=j then gA d i else gA d k:=by
 unfold gA;by_cases b:k=i
 ·subst b;rw[d_ rfl];by_cases a:k=j
  ·subst a; exact Sort.swp_right d k k (by omega)
  exact Sort.swp_left d k j (by omega) a
 rw[b_ b];by_cases a:k=j
 ·subst a; rw[d_ rfl]; exact Sort.swp_right d i k (by omega)
 rw[b_ a]; exact Sort.swp_other d i j k b a
theorem fD(a:d.size=n)(i j:Nat):(swp d i j).size=n:=by rw[Sort.size_swp]; exact a
theorem iP(e:d.size=n)(hi:i<n)(c:j<n) : ∀ p,p<n*1->dB (dB (rv .u64 (gA d)) i (aD (gA d j))) j (aD (gA d i)) p=rv .u64 (gA (swp d i j)) p:=fun p f=>by
 show _=Value.int .u64 (gA (swp d i j) p);rw[acY e hi c];unfold dB;by_cases b:p=j
 ·subst b;rw[d_ rfl];by_cases a:p=i
  ·subst a; rw[d_ rfl]
  ·rw[b_ a,d_ rfl]
 ·rw[b_ b];by_cases a:p=i
  ·rw[d_ a,d_ a]
  ·rw[b_ a,b_ a,b_ b]; rfl
theorem uY(h:gA d i<gA d j):ltInt d[i]! d[j]! = true:=f_ h
theorem yg(h : ¬ gA d i<gA d j):ltInt d[i]! d[j]! = false:=g_ h
theorem acZ(c:a<j)(b:gA d j<gA d (j-1)):Sort.insInner ltInt a (j-1) (swp d j (j-1))=Sort.insInner ltInt a j d:=by
 obtain⟨k,rfl⟩ : ∃ k,j=k+1:=⟨j-1,by omega⟩;have b:=uY b;rw[Nat.add_sub_cancel]at b ⊢
 conv=>rhs; rw[Sort.insInner]
 rw[b,f_ (show k+1>a by omega)]; rfl
theorem Lf(h:j<=a \/ ¬ gA d j<gA d (j-1)):Sort.insInner ltInt a j d=d:=by
 cases j with
 | zero=>rw[Sort.insInner]
 | succ k =>
   rw[Sort.insInner]
   rcases h with h|h
   ·rw[g_ (show ¬ k+1>a by omega)]; rfl
   ·have h:=yg h;rw[Nat.add_sub_cancel]at h;rw[h,I_]; rfl
theorem Ub(h:i<b)(hi:Sort.insInner ltInt a i d=d'):Sort.insOuter ltInt a b (i+1) d'=Sort.insOuter ltInt a b i d:=by
 conv=>rhs; rw[Sort.insOuter,d_ h]
 rw[hi]
theorem Uc(h : ¬ i<b):Sort.insOuter ltInt a b i d=d:=by rw[Sort.insOuter,b_ h]
variable {f r hi x0 x1 x2:Nat}
theorem FI(h:hi<=2*r+1):Sort.siftDown ltInt hi f r d=d:=by rw[Sort.siftDown,dif_pos (by omega)]
theorem Lg(c:x1=f+(2*r+1))(g:x2=f+(2*r+2))(e0:x0=f+r)(h:2*r+1<hi)(b:hi<=2*r+2 \/ ¬ gA d x1<gA d x2) :
 Sort.siftDown ltInt hi f r d=if gA d x0<gA d x1 then Sort.siftDown ltInt hi f (2*r+1) (swp d x0 x1)else d:=by
 rw[Sort.siftDown,dif_neg (by omega)];have e:(decide (2*r+1+1<hi)&&ltInt d[f+(2*r+1)]! d[f+(2*r+1)+1]!)=false:=by
  rcases b with b|b
  ·rw[g_ (by omega),Bool.false_and]
  ·rw[<- c,show x1+1=x2 by omega,yg b,I_]
 rw[e,<- c,<- e0];by_cases a:gA d x0<gA d x1
 ·rw[uY a,d_ a]; rfl
 rw[yg a,b_ a]; rfl
theorem Ud(b:x1=f+(2*r+1))(c:x2=f+(2*r+2))(e0:x0=f+r)(h:2*r+2<hi)(e:gA d x1<gA d x2) :
 Sort.siftDown ltInt hi f r d=if gA d x0<gA d x2 then Sort.siftDown ltInt hi f (2*r+2) (swp d x0 x2)else d:=by
 rw[Sort.siftDown,dif_neg (by omega)];have g:(decide (2*r+1+1<hi)&&ltInt d[f+(2*r+1)]! d[f+(2*r+1)+1]!)=true:=by
  rw[f_ (by omega),<- b,show x1+1=x2 by omega,uY e]; rfl
 rw[g,<- c,<- e0];by_cases a:gA d x0<gA d x2
 ·rw[uY a,d_ a]; simp only[if_true,Bool.not_true,dif_pos h]; rfl
 rw[yg a,b_ a]; rfl
theorem Ue(a:0<k):Sort.heapBuild ltInt hi f (k-1) (Sort.siftDown ltInt hi f (k-1) d)=Sort.heapBuild ltInt hi f k d:=by
 obtain⟨j,rfl⟩ : ∃ j,k=j+1:=⟨k-1,by omega⟩;rfl
theorem ada{x:Nat}(a:0<k)(e:x=f+(k-1)):Sort.heapPop ltInt f (k-1) (Sort.siftDown ltInt (k-1) f 0 (swp d f x))=Sort.heapPop ltInt f k d:=by
 subst e;obtain⟨j,rfl⟩ : ∃ j,k=j+1:=⟨k-1,by omega⟩;rfl
theorem EK(h:f+hi<=n) : ∀(m r:Nat) (d:Array Int),hi-r<=m->d.size=n->(Sort.siftDown ltInt hi f r d).size=n
 | 0,r,d,hm,hd=>by rw[FI (by omega)]; exact hd
 | m+1,r,d,hm,hd=>by
   by_cases b:2*r+1<hi
   ·by_cases a:2*r+2<hi/\gA d (f+(2*r+1))<gA d (f+(2*r+2))
    ·rw[Ud rfl rfl rfl a.1 a.2];split
     ·exact EK h m _ _ (by omega) (fD hd _ _)
     ·exact hd
    ·rw[Lg rfl rfl rfl b (by by_cases c:2*r+2<hi; exact .inr fun e=>a ⟨c,e⟩; exact .inl (by omega))];split
     ·exact EK h m _ _ (by omega) (fD hd _ _)
     ·exact hd
   ·rw[FI (by omega)]; exact hd
theorem adb(h:i<j):Sort.reverseLoop (i+1) (j-1) (swp d i j)=Sort.reverseLoop i j d:=by conv=>rhs; rw[Sort.reverseLoop,d_ h]
theorem Uf(h : ¬ i<j):Sort.reverseLoop i j d=d:=by rw[Sort.reverseLoop,b_ h]
theorem abp{p:Int->Bool}(h:i<=j)(a:p d[i]! = true):Sort.scanUp p d j (i+1)=Sort.scanUp p d j i:=by
 conv=>rhs; rw[Sort.scanUp,a,f_ h]
 rfl
theorem uN{p:Int->Bool}(h:j<i\/p d[i]! = false):Sort.scanUp p d j i=i:=by
 rw[Sort.scanUp]
 rcases h with h|h
 ·rw[g_ (by omega)]; rfl
 rw[h,I_]; rfl
theorem abq{p:Int->Bool}(h:i<=j)(b:0<j)(a:p d[j]! = true):Sort.scanDown p d i (j-1)=Sort.scanDown p d i j:=by
 obtain⟨k,rfl⟩ : ∃ k,j=k+1:=⟨j-1,by omega⟩
 conv=>rhs; rw[Sort.scanDown,a,f_ h]
 rfl
theorem EL{p:Int->Bool}(h:j<i\/p d[j]! = false):Sort.scanDown p d i j=j:=by
 cases j with
 | zero=>rfl
 | succ k =>
   rw[Sort.scanDown]
   rcases h with h|h
   ·rw[g_ (by omega)]; rfl
   ·rw[h,I_]; rfl
theorem Ug(h:i<=j)(b:gA d i<gA d a):Sort.partLoop ltInt a (i+1) j d=Sort.partLoop ltInt a i j d:=by
 rw[Sort.partLoop_eq,Sort.partLoop_eq (i:=i),abp (p:=fun x=>ltInt x d[a]!) h (uY b)]
theorem Iu(h:i<=j)(c:0<j)(b : ¬ gA d i<gA d a)(e : ¬ gA d j<gA d a):Sort.partLoop ltInt a i (j-1) d=Sort.partLoop ltInt a i j d:=by
 rw[Sort.partLoop_eq,Sort.partLoop_eq (j:=j),uN (p:=fun x=>ltInt x d[a]!) (.inr (yg b)),uN (p:=fun x=>ltInt x d[a]!) (.inr (yg b)),abq (p:=fun x => !ltInt x d[a]!) h c (by rw[yg e]; rfl)]
theorem Iw(h:i<=j)(c : ¬ gA d i<gA d a)(b:gA d j<gA d a):Sort.partLoop ltInt a (i+1) (j-1) (swp d i j)=Sort.partLoop ltInt a i j d:=by
 rw[Sort.partLoop_eq (i:=i),uN (p:=fun x=>ltInt x d[a]!) (.inr (yg c)),EL (p:=fun x => !ltInt x d[a]!) (.inr (by rw[uY b]; rfl)),b_ (by omega)]
theorem CG(h:j<i):Sort.partLoop ltInt a i j d=(j,d):=by
 rw[Sort.partLoop_eq,uN (p:=fun x=>ltInt x d[a]!) (.inl h),EL (p:=fun x => !ltInt x d[a]!) (.inl h),d_ h]
theorem ahy(h:i<=j)(b : ¬ gA d a<gA d i):Sort.partEqLoop ltInt a (i+1) j d=Sort.partEqLoop ltInt a i j d:=by
 rw[Sort.partEqLoop_eq,Sort.partEqLoop_eq (i:=i),abp (p:=fun x => !ltInt d[a]! x) h (by rw[yg b]; rfl)]
theorem abr(h:i<=j)(c:0<j)(b:gA d a<gA d i)(e:gA d a<gA d j):Sort.partEqLoop ltInt a i (j-1) d=Sort.partEqLoop ltInt a i j d:=by
 rw[Sort.partEqLoop_eq,Sort.partEqLoop_eq (j:=j),uN (p:=fun x => !ltInt d[a]! x) (.inr (by rw[uY b]; rfl)),uN (p:=fun x => !ltInt d[a]! x) (.inr (by rw[uY b]; rfl)),abq (p:=fun x=>ltInt d[a]! x) h c (uY e)]
theorem abt(h:i<=j)(c:gA d a<gA d i)(b : ¬ gA d a<gA d j):Sort.partEqLoop ltInt a (i+1) (j-1) (swp d i j)=Sort.partEqLoop ltInt a i j d:=by
 rw[Sort.partEqLoop_eq (i:=i),uN (p:=fun x => !ltInt d[a]! x) (.inr (by rw[uY c]; rfl)),EL (p:=fun x=>ltInt d[a]! x) (.inr (yg b)),b_ (by omega)]
theorem Uh(h:j<i):Sort.partEqLoop ltInt a i j d=(i,d):=by
 rw[Sort.partEqLoop_eq,uN (p:=fun x => !ltInt d[a]! x) (.inl h),EL (p:=fun x=>ltInt d[a]! x) (.inl h),d_ h]
theorem NT(a:Nat)(d:Array Int):Sort.SortedIn ltInt a (a+1) d:=fun i j b c e=>by omega
end
end Rt
end
section
open Rt
theorem ahz(n:Int)(w:World) :
 Calls Tryz.prog 89 #[aD n] w fun e w'=>e = .returned (.bool false)/\w'=w:=by
 refine Kent Tryz.func89 6 ?_;refine ay<|av aF<|aC<|ay<|av (aD n)<|av (aD n)<|Lv aF (jG rfl)<|av aF<|aC<|Wr<|aJ aF ?_;exact⟨rfl,rfl⟩
theorem dS(a b:Int)(w:World) :
 Calls Tryz.prog 182 #[aD a,aD b] w fun e w'=>e = .returned (.bool (decide (a<b)))/\w'=w:=by
 refine Kent Tryz.func182 17 ?_;refine ay<|av aF<|aC<|ay<|av (aD a)<|lH (ahz a _) _ rfl<|av aF<|bO<|bO<|bO<|av aF<|av aF<|av (aD a)<|av (aD b)<|Lv (.bool (decide (a<b))) (Fx.Tk rfl rfl rfl)<|av (.bool (decide (a<b)))<|av (.bool (decide (a<b)))<|aC<|Wr<|aJ (.bool (decide (a<b))) ?_;exact⟨rfl,rfl⟩
theorem ahA(a b:Nat)(B g n cap:Nat)(d:Array Int)(w:World)(h:Fx.Own w B 23 1 (bK g n cap) n (rv .u64 (gA d)))(p:B<=w.heap.size)(Y:d.size=n)(hs:n<=1000)(ha:a<=b)(hb:b<=n) :
 Calls Tryz.prog 176 #[bK g n cap,au (a:Int),au (b:Int)] w fun e w'=>e = .returned (.tuple #[])/\Fx.Own w' B 23 1 (bK g n cap) n (rv .u64 (gA (Sort.insertionSort Sort.ltInt d a b)))/\Below B w w':=by
 refine Kent Tryz.func176 49 ?_;refine ay<|av (au a)<|Lv (au ((a:Int)+1)) fA<|av (au ((a:Int)+1))<|aC<|Wb<|Wo (fun f u => ∃ i:Nat,∃ o:Array Int,(a<i/\i<=b+1)/\o.size=n/\Sort.insOuter Sort.ltInt a b i o=Sort.insOuter Sort.ltInt a b (a+1) d/\f 0=bK g n cap/\f 1=au (a:Int)/\f 2=au (b:Int)/\f 6=au (i:Int)/\Fx.Own u B 23 1 (bK g n cap) n (rv .u64 (gA o))/\Below B w u) (fun f _=>((b:Int)+1-intOf (f 6)).toNat) ⟨a+1,d,(by omega),Y,rfl,(by rfl),Fx.ic,Fx.ic,Fx.ic,h,(Below.refl B w)⟩ ?_;rintro f1 w1 ⟨i,o,hi,X,x,V,W,K,s,P,F⟩;refine Ws<|ay<|aU s<|aU K ?_;by_cases I:(i:Int)<(b:Int)
 ·refine Lv aG (gM I)<|aC<|aM<|Wk<|sN<|Ws<|Wb<|ay<|aU s<|av (au i)<|aC<|Wb<|Wo (fun f u => ∃ j:Nat,∃ c:Array Int,(a<=j/\j<=i)/\c.size=n/\Sort.insInner Sort.ltInt a j c=Sort.insInner Sort.ltInt a i o/\f 0=bK g n cap/\f 1=au (a:Int)/\f 2=au (b:Int)/\f 6=au (i:Int)/\f 7=au (j:Int)/\Fx.Own u B 23 1 (bK g n cap) n (rv .u64 (gA c))/\Below B w u) (fun f _=>(intOf (f 7)).toNat) ⟨i,o,(by omega),X,rfl,V,(W.trans Fx.ic),(K.trans Fx.ic),(s.trans Fx.ic),Fx.ic,P,F⟩ ?_;rintro f2 w2 ⟨j,c,hji,y,E,k,v,C,D,l,t,A⟩;refine Ws<|Ws ?_;refine nM<|eG l<|eG v ?_;by_cases J:(a:Int)<(j:Int)
  ·refine Qv aG (fun q m=>ni J)<|aW aG<|eG k<|eG l<|Qv (pf g j) (fun q m=>dw 1)<|Qv (aD ((gA c) j)) (fun q m=>aL (t.cb m) j)<|eG k<|eG l<|Qv (au ((j:Int)-1)) (fun q m=>gQ)<|Qv (pf g (j-1)) (fun q m=>dw 1)<|Qv (aD ((gA c) (j-1))) (fun q m=>aL (t.cb m) (j-1)) ?_;by_cases r:(decide ((gA c) j<(gA c) (j-1)))=true
   ·refine qQ (fun _ _=>dS ((gA c) j) ((gA c) (j-1)) _) aG (by rw[r])<|aW aG<|Qn ?_;intro YL L;have Z:=bf L t;have R:=eZ L A p;refine sN<|aM<|Wk<|sN<|Ws<|Wb ?_;refine kH [0,1,2,3,4,5,6,7,8,10,11,12,9,13,14,15,16,17] [0,0,0,0,0,0,0,0,0,4,0,0,0,4,0,3,0,3] [(15,9,[9]),(17,9,[9]),(15,13,[13]),(17,13,[13]),(16,15,[15]),(17,15,[15])] fun rE O iK => ?_;have z:=bf O Z;have G:=eZ O R p;refine bZ k<|bZ l<|bZ k<|bZ l<|Rp (au ((j:Int)-1)) (fun _=>gQ)<|bZ k<|bZ l<|Rp (au ((j:Int)-1)) (fun _=>gQ)<|Rp (pf g (j-1)) (fun _=>dw 1)<|bZ k<|bZ l<|Rp (pf g j) (fun _=>dw 1)<|Rs (aD ((gA c) (j-1))) (aL z.aH (j-1)) ?_;refine Rs (aD ((gA c) j)) (aL z.aH j) ?_;refine Rp (pf g j) (fun _=>dw 1)<|gZ<|qU z j (aD ((gA c) (j-1))) fun w3 Q s3 z1 => ?_;have H:=s3.below G (m_ p G.size) z.blk.1;refine Ln<|Rp (pf g (j-1)) (fun _=>dw 1)<|gZ<|qU Q (j-1) (aD ((gA c) j)) fun w4 m6 s4 z2 => ?_;have S:=s4.below H (m_ p H.size) Q.blk.1;have m7:Fx.Own w4 B 23 1 (bK g n cap) n (rv .u64 (gA (Sort.swp c j (j-1)))):=m6.congr (iP y (by omega) (by omega));refine Ln<|Rn<|bP<|sN<|Wl<|aU l<|Lv (au ((j:Int)-1)) gQ<|av (au ((j:Int)-1))<|Ln<|gW ⟨j-1,Sort.swp c j (j-1),(by omega),(fD y _ _),((acZ (by omega) (h_ r)).trans E),k,(v.trans Fx.ic),(C.trans Fx.ic),(D.trans Fx.ic),Fx.ic,m7,S⟩ ?_;show(intOf (au ((j:Int)-1))).toNat<_;simp only[l,intOf]; omega
   rw[U_]at r;refine qQ (fun _ _=>dS ((gA c) j) ((gA c) (j-1)) _) aF (by rw[r])<|aW aF<|Qn ?_;intro wb2 M;have m8:=bf M t;have T:=eZ M A p;refine sN<|aK<|Wx<|bX<|gP<|bY<|bP<|sN<|Wl<|aU D<|Lv (au ((i:Int)+1)) fA<|av (au ((i:Int)+1))<|Ln<|gW ⟨i+1,c,(by omega),y,((Ub (by omega) (E.symm.trans (Lf (.inr (j_ r))))).trans x),k,(v.trans Fx.ic),(C.trans Fx.ic),Fx.ic,m8,T⟩ ?_;show((b:Int)+1-intOf (au ((i:Int)+1))).toNat<_;simp only[s,intOf]; omega
  refine Qv aF (fun q m=>nk J)<|aW aF<|aR<|aR<|aR<|aR<|aR<|aR<|aR<|aR<|aR<|aR<|aW aF<|Qn ?_;intro wb3 N;have m9:=bf N t;have U:=eZ N A p;refine sN<|aK<|Wx<|bX<|gP<|bY<|bP<|sN<|Wl<|aU D<|Lv (au ((i:Int)+1)) fA<|av (au ((i:Int)+1))<|Ln<|gW ⟨i+1,c,(by omega),y,((Ub (by omega) (E.symm.trans (Lf (.inl (by omega))))).trans x),k,(v.trans Fx.ic),(C.trans Fx.ic),Fx.ic,m9,U⟩ ?_;show((b:Int)+1-intOf (au ((i:Int)+1))).toNat<_;simp only[s,intOf]; omega
 refine Lv aF (gN I) (aC (aK (Wx (bX (gP (bY (⟨.tuple #[],iJ Tryz.results176,?_⟩)))))));rw[Uc (by omega)]at x; subst x; exact⟨rfl,P,F⟩
end
section
open Rt
theorem adf(q hi a:Nat)(B g n cap:Nat)(d:Array Int)(w:World)(h:Fx.Own w B 23 1 (bK g n cap) n (rv .u64 (gA d)))(l:B<=w.heap.size)(hn:d.size=n)(hs:n<=1000)(hf:a+hi<=n/\q<=1000) :
 Calls Tryz.prog 186 #[bK g n cap,au (q:Int),au (hi:Int),au (a:Int)] w fun e w'=>e = .returned (.tuple #[])/\Fx.Own w' B 23 1 (bK g n cap) n (rv .u64 (gA (Sort.siftDown Sort.ltInt hi a q d)))/\Below B w w':=by
 obtain⟨hf,hlo⟩:=hf;refine Kent Tryz.func186 76 ?_;refine ay<|av (au q)<|av (au q)<|aC<|Wb<|Wo (fun f w_ => ∃ r:Nat,∃ b:Array Int,b.size=n/\Sort.siftDown Sort.ltInt hi a r b=Sort.siftDown Sort.ltInt hi a q d/\r<=hi+q/\f 0=bK g n cap/\f 1=au (q:Int)/\f 2=au (hi:Int)/\f 3=au (a:Int)/\f 8=au (r:Int)/\Fx.Own w_ B 23 1 (bK g n cap) n (rv .u64 (gA b))/\Below B w w_) (fun f _=>((hi:Int)+q-intOf (f 8)).toNat) ⟨q,d,hn,rfl,(by omega),(by rfl),Fx.ic,Fx.ic,Fx.ic,Fx.ic,h,(Below.refl B w)⟩ ?_;rintro f1 w1 ⟨r,b,t,o,hr,j,F,v,k,p,u,x⟩;refine Wb<|ay<|aU p<|Lv (au (2*(r:Int))) (Fx.Ib rfl rfl rfl Fx.io)<|Lv (au (2*(r:Int)+1)) fA<|av (au (2*(r:Int)+1))<|aC<|Ws<|ay<|av (au (2*(r:Int)+1))<|aU v ?_;by_cases P:(hi:Int)<=(2*(r:Int)+1)
 ·refine Lv aG (kR P) (aC (aM (Wx (bX (Fx.Ny rfl (gP (bY (⟨.tuple #[],iJ Tryz.results186,?_⟩))))))));rw[FI (by omega)]at o; subst o; exact⟨rfl,u,x⟩
 refine Lv aF (kJ P)<|aC<|aK<|Wk<|sN<|Ws<|Ws ?_;refine nM<|aW (au (2*(r:Int)+1))<|Qv (au (2*(r:Int)+2)) (fun i c=>fA)<|eG v ?_;by_cases Q:(2*(r:Int)+2)<(hi:Int)
 ·refine Qv aG (fun i c=>gM Q)<|aW aG<|eG j<|eG k<|aW (au (2*(r:Int)+1))<|Qv (au ((a:Int)+2*(r:Int)+1)) (fun i c=>fA)<|Qv (pf g (a+2*r+1)) (fun i c=>dw 1)<|Qv (aD ((gA b) (a+2*r+1))) (fun i c=>aL (u.cb c) (a+2*r+1))<|eG j<|eG k<|aW (au (2*(r:Int)+1))<|Qv (au ((a:Int)+2*(r:Int)+1)) (fun i c=>fA)<|Qv (au ((a:Int)+2*(r:Int)+2)) (fun i c=>fA)<|Qv (pf g (a+2*r+2)) (fun i c=>dw 1)<|Qv (aD ((gA b) (a+2*r+2))) (fun i c=>aL (u.cb c) (a+2*r+2)) ?_;by_cases s:(decide ((gA b) (a+2*r+1)<(gA b) (a+2*r+2)))=true
  ·refine qQ (fun _ _=>dS ((gA b) (a+2*r+1)) ((gA b) (a+2*r+2)) _) aG (by rw[s])<|aW aG<|Qn ?_;intro YL R;have C:=bf R u;have L:=eZ R x l;refine sN<|aM<|Wl<|av (au (2*(r:Int)+1))<|Lv (au (2*(r:Int)+2)) fA<|av (au (2*(r:Int)+2))<|aC<|Ws<|Ws ?_;refine nM<|eG j<|eG k<|eG p<|Qv (au ((a:Int)+(r:Int))) (fun i c=>fA)<|Qv (pf g (a+r)) (fun i c=>dw 1)<|Qv (aD ((gA b) (a+r))) (fun i c=>aL (C.cb c) (a+r))<|eG j<|eG k<|aW (au (2*(r:Int)+2))<|Qv (au ((a:Int)+2*(r:Int)+2)) (fun i c=>fA)<|Qv (pf g (a+2*r+2)) (fun i c=>dw 1)<|Qv (aD ((gA b) (a+2*r+2))) (fun i c=>aL (C.cb c) (a+2*r+2)) ?_;by_cases m:(decide ((gA b) (a+r)<(gA b) (a+2*r+2)))=true
   ·refine qQ (fun _ _=>dS ((gA b) (a+r)) ((gA b) (a+2*r+2)) _) aG (by rw[m])<|aW aF<|Qn ?_;intro wb2 S;have m3:=bf S C;have b3:=eZ S L l;refine sN<|aK<|Wk<|sN<|Ws ?_;refine kH [0,1,2,3,4,5,6,7,8,9,10,11,12,14,15,16,17,18,13,19,20,21,22,23] [0,0,0,0,0,0,0,0,0,0,0,0,0,4,0,0,0,0,0,4,0,3,0,3] [(21,13,[13]),(23,13,[13]),(21,19,[19]),(23,19,[19]),(22,21,[21]),(23,21,[21])] fun rE aa iK => ?_;have D:=bf aa m3;have M:=eZ aa b3 l;refine bZ j<|bZ k<|bZ p<|Rp (au ((a:Int)+(r:Int))) (fun _=>fA)<|bZ j<|bZ k<|aX (au (2*(r:Int)+2))<|Rp (au ((a:Int)+2*(r:Int)+2)) (fun _=>fA)<|bZ j<|bZ k<|aX (au (2*(r:Int)+2))<|Rp (au ((a:Int)+2*(r:Int)+2)) (fun _=>fA)<|Rp (pf g (a+2*r+2)) (fun _=>dw 1)<|bZ j<|bZ k<|bZ p<|Rp (au ((a:Int)+(r:Int))) (fun _=>fA)<|Rp (pf g (a+r)) (fun _=>dw 1)<|Rs (aD ((gA b) (a+2*r+2))) (aL D.aH (a+2*r+2)) ?_;refine Rs (aD ((gA b) (a+r))) (aL D.aH (a+r)) ?_;refine Rp (pf g (a+r)) (fun _=>dw 1)<|gZ<|qU D (a+r) (aD ((gA b) (a+2*r+2))) fun w2 m5 s4 z1 => ?_;have N:=s4.below M (m_ l M.size) D.blk.1;refine Ln<|Rp (pf g (a+2*r+2)) (fun _=>dw 1)<|gZ<|qU m5 (a+2*r+2) (aD ((gA b) (a+r))) fun w3 m6 s5 z2 => ?_;have b6:=s5.below N (m_ l N.size) m5.blk.1;have m7:Fx.Own w3 B 23 1 (bK g n cap) n (rv .u64 (gA (Sort.swp b (a+r) (a+2*r+2)))):=m6.congr (iP t (by omega) (by omega));refine Ln<|bS<|Wl<|av (au (2*(r:Int)+2))<|av (au (2*(r:Int)+2))<|Ln<|bP<|gW ⟨2*r+2,Sort.swp b (a+r) (a+2*r+2),(fD t _ _),(by rw[Ud (x0:=a+r) (x1:=a+2*r+1) (x2:=a+2*r+2) (by omega) (by omega) rfl (by omega) (h_ s),d_ (h_ m)]at o; exact o),(by omega),j,(F.trans Fx.ic),(v.trans Fx.ic),(k.trans Fx.ic),Fx.ic,m7,b6⟩ ?_;show((hi:Int)+q-intOf (au (2*(r:Int)+2))).toNat<_;simp only[p,intOf]; omega
   rw[U_]at m;refine qQ (fun _ _=>dS ((gA b) (a+r)) ((gA b) (a+2*r+2)) _) aF (by rw[m])<|aW aG<|Qn ?_;intro wb3 T;have m8:=bf T C;have b7:=eZ T L l;refine sN (aM (Wr (sR (bL (pV (bL (⟨.tuple #[],iJ Tryz.results186,?_⟩)))))));rw[Ud (x0:=a+r) (x1:=a+2*r+1) (x2:=a+2*r+2) (by omega) (by omega) rfl (by omega) (h_ s),b_ (j_ m)]at o; subst o; exact⟨rfl,m8,b7⟩
  rw[U_]at s;refine qQ (fun _ _=>dS ((gA b) (a+2*r+1)) ((gA b) (a+2*r+2)) _) aF (by rw[s])<|aW aF<|Qn ?_;intro wb4 U;have E:=bf U u;have O:=eZ U x l;refine sN<|aK<|Wk<|sN<|Ws<|Ws ?_;refine nM<|eG j<|eG k<|eG p<|Qv (au ((a:Int)+(r:Int))) (fun i c=>fA)<|Qv (pf g (a+r)) (fun i c=>dw 1)<|Qv (aD ((gA b) (a+r))) (fun i c=>aL (E.cb c) (a+r))<|eG j<|eG k<|aW (au (2*(r:Int)+1))<|Qv (au ((a:Int)+2*(r:Int)+1)) (fun i c=>fA)<|Qv (pf g (a+2*r+1)) (fun i c=>dw 1)<|Qv (aD ((gA b) (a+2*r+1))) (fun i c=>aL (E.cb c) (a+2*r+1)) ?_;by_cases m:(decide ((gA b) (a+r)<(gA b) (a+2*r+1)))=true
  ·refine qQ (fun _ _=>dS ((gA b) (a+r)) ((gA b) (a+2*r+1)) _) aG (by rw[m])<|aW aF<|Qn ?_;intro wb5 V;have m10:=bf V E;have b9:=eZ V O l;refine sN<|aK<|Wk<|sN<|Ws ?_;refine kH [0,1,2,3,4,5,6,7,8,9,10,11,12,14,15,16,17,18,13,19,20,21,22,23] [0,0,0,0,0,0,0,0,0,0,0,0,0,4,0,0,0,0,0,4,0,3,0,3] [(21,13,[13]),(23,13,[13]),(21,19,[19]),(23,19,[19]),(22,21,[21]),(23,21,[21])] fun CJ ab nZ => ?_;have y:=bf ab m10;have G:=eZ ab b9 l;refine bZ j<|bZ k<|bZ p<|Rp (au ((a:Int)+(r:Int))) (fun _=>fA)<|bZ j<|bZ k<|aX (au (2*(r:Int)+1))<|Rp (au ((a:Int)+2*(r:Int)+1)) (fun _=>fA)<|bZ j<|bZ k<|aX (au (2*(r:Int)+1))<|Rp (au ((a:Int)+2*(r:Int)+1)) (fun _=>fA)<|Rp (pf g (a+2*r+1)) (fun _=>dw 1)<|bZ j<|bZ k<|bZ p<|Rp (au ((a:Int)+(r:Int))) (fun _=>fA)<|Rp (pf g (a+r)) (fun _=>dw 1)<|Rs (aD ((gA b) (a+2*r+1))) (aL y.aH (a+2*r+1)) ?_;refine Rs (aD ((gA b) (a+r))) (aL y.aH (a+r)) ?_;refine Rp (pf g (a+r)) (fun _=>dw 1)<|gZ<|qU y (a+r) (aD ((gA b) (a+2*r+1))) fun w4 m12 s10 z3 => ?_;have H:=s10.below G (m_ l G.size) y.blk.1;refine Ln<|Rp (pf g (a+2*r+1)) (fun _=>dw 1)<|gZ<|qU m12 (a+2*r+1) (aD ((gA b) (a+r))) fun w5 m13 s11 z4 => ?_;have b12:=s11.below H (m_ l H.size) m12.blk.1;have m14:Fx.Own w5 B 23 1 (bK g n cap) n (rv .u64 (gA (Sort.swp b (a+r) (a+2*r+1)))):=m13.congr (iP t (by omega) (by omega));refine Ln<|bS<|Wl<|av (au (2*(r:Int)+1))<|av (au (2*(r:Int)+1))<|Ln<|bP<|gW ⟨2*r+1,Sort.swp b (a+r) (a+2*r+1),(fD t _ _),(by rw[Lg (x0:=a+r) (x1:=a+2*r+1) (x2:=a+2*r+2) (by omega) (by omega) rfl (by omega) (.inr (j_ s)),d_ (h_ m)]at o; exact o),(by omega),j,(F.trans Fx.ic),(v.trans Fx.ic),(k.trans Fx.ic),Fx.ic,m14,b12⟩ ?_;show((hi:Int)+q-intOf (au (2*(r:Int)+1))).toNat<_;simp only[p,intOf]; omega
  rw[U_]at m;refine qQ (fun _ _=>dS ((gA b) (a+r)) ((gA b) (a+2*r+1)) _) aF (by rw[m])<|aW aG<|Qn ?_;intro wb6 W;have m15:=bf W E;have b13:=eZ W O l;refine sN (aM (Wr (sR (bL (pV (bL (⟨.tuple #[],iJ Tryz.results186,?_⟩)))))));rw[Lg (x0:=a+r) (x1:=a+2*r+1) (x2:=a+2*r+2) (by omega) (by omega) rfl (by omega) (.inr (j_ s)),b_ (j_ m)]at o; subst o; exact⟨rfl,m15,b13⟩
 refine Qv aF (fun i c=>gN Q)<|aW aF<|aR<|aR<|aR<|aR<|aR<|aR<|aR<|aR<|aR<|aR<|aR<|aR<|aR<|aR<|aW aF<|Qn ?_;intro wb7 X;have z:=bf X u;have I:=eZ X x l;refine sN<|aK<|Wk<|sN<|Ws<|Ws ?_;refine nM<|eG j<|eG k<|eG p<|Qv (au ((a:Int)+(r:Int))) (fun i c=>fA)<|Qv (pf g (a+r)) (fun i c=>dw 1)<|Qv (aD ((gA b) (a+r))) (fun i c=>aL (z.cb c) (a+r))<|eG j<|eG k<|aW (au (2*(r:Int)+1))<|Qv (au ((a:Int)+2*(r:Int)+1)) (fun i c=>fA)<|Qv (pf g (a+2*r+1)) (fun i c=>dw 1)<|Qv (aD ((gA b) (a+2*r+1))) (fun i c=>aL (z.cb c) (a+2*r+1)) ?_;by_cases m:(decide ((gA b) (a+r)<(gA b) (a+2*r+1)))=true
 ·refine qQ (fun _ _=>dS ((gA b) (a+r)) ((gA b) (a+2*r+1)) _) aG (by rw[m])<|aW aF<|Qn ?_;intro wb8 Y;have m17:=bf Y z;have b15:=eZ Y I l;refine sN<|aK<|Wk<|sN<|Ws ?_;refine kH [0,1,2,3,4,5,6,7,8,9,10,11,12,14,15,16,17,18,13,19,20,21,22,23] [0,0,0,0,0,0,0,0,0,0,0,0,0,4,0,0,0,0,0,4,0,3,0,3] [(21,13,[13]),(23,13,[13]),(21,19,[19]),(23,19,[19]),(22,21,[21]),(23,21,[21])] fun SS ac BG => ?_;have A:=bf ac m17;have J:=eZ ac b15 l;refine bZ j<|bZ k<|bZ p<|Rp (au ((a:Int)+(r:Int))) (fun _=>fA)<|bZ j<|bZ k<|aX (au (2*(r:Int)+1))<|Rp (au ((a:Int)+2*(r:Int)+1)) (fun _=>fA)<|bZ j<|bZ k<|aX (au (2*(r:Int)+1))<|Rp (au ((a:Int)+2*(r:Int)+1)) (fun _=>fA)<|Rp (pf g (a+2*r+1)) (fun _=>dw 1)<|bZ j<|bZ k<|bZ p<|Rp (au ((a:Int)+(r:Int))) (fun _=>fA)<|Rp (pf g (a+r)) (fun _=>dw 1)<|Rs (aD ((gA b) (a+2*r+1))) (aL A.aH (a+2*r+1)) ?_;refine Rs (aD ((gA b) (a+r))) (aL A.aH (a+r)) ?_;refine Rp (pf g (a+r)) (fun _=>dw 1)<|gZ<|qU A (a+r) (aD ((gA b) (a+2*r+1))) fun w6 m19 s16 z5 => ?_;have K:=s16.below J (m_ l J.size) A.blk.1;refine Ln<|Rp (pf g (a+2*r+1)) (fun _=>dw 1)<|gZ<|qU m19 (a+2*r+1) (aD ((gA b) (a+r))) fun w7 m20 KC z6 => ?_;have b18:=KC.below K (m_ l K.size) m19.blk.1;have m21:Fx.Own w7 B 23 1 (bK g n cap) n (rv .u64 (gA (Sort.swp b (a+r) (a+2*r+1)))):=m20.congr (iP t (by omega) (by omega));refine Ln<|bS<|Wl<|av (au (2*(r:Int)+1))<|av (au (2*(r:Int)+1))<|Ln<|bP<|gW ⟨2*r+1,Sort.swp b (a+r) (a+2*r+1),(fD t _ _),(by rw[Lg (x0:=a+r) (x1:=a+2*r+1) (x2:=a+2*r+2) (by omega) (by omega) rfl (by omega) (.inl (by omega)),d_ (h_ m)]at o; exact o),(by omega),j,(F.trans Fx.ic),(v.trans Fx.ic),(k.trans Fx.ic),Fx.ic,m21,b18⟩ ?_;show((hi:Int)+q-intOf (au (2*(r:Int)+1))).toNat<_;simp only[p,intOf]; omega
 rw[U_]at m;refine qQ (fun _ _=>dS ((gA b) (a+r)) ((gA b) (a+2*r+1)) _) aF (by rw[m])<|aW aG<|Qn ?_;intro wb9 Z;have m22:=bf Z z;have b19:=eZ Z I l;refine sN (aM (Wr (sR (bL (pV (bL (⟨.tuple #[],iJ Tryz.results186,?_⟩)))))));rw[Lg (x0:=a+r) (x1:=a+2*r+1) (x2:=a+2*r+2) (by omega) (by omega) rfl (by omega) (.inl (by omega)),b_ (j_ m)]at o; subst o; exact⟨rfl,m22,b19⟩
theorem PE{i f c:Int}(b hi a:Nat)(l:i=(b:Int))(k:f=(hi:Int))(j:c=(a:Int))(B g n cap:Nat)(d:Array Int)(w:World)(h:Fx.Own w B 23 1 (bK g n cap) n (rv .u64 (gA d)))(m:B<=w.heap.size)(p:d.size=n)(q:n<=1000)(o:a+hi<=n/\b<=1000) :
 Calls Tryz.prog 186 #[bK g n cap,au i,au f,au c] w fun e w'=>e = .returned (.tuple #[])/\Fx.Own w' B 23 1 (bK g n cap) n (rv .u64 (gA (Sort.siftDown Sort.ltInt hi a b d)))/\Below B w w':=by
 subst l k j; exact adf b hi a B g n cap d w h m p q o
theorem adg(a b:Nat)(B g n cap:Nat)(d:Array Int)(w:World)(h:Fx.Own w B 23 1 (bK g n cap) n (rv .u64 (gA d)))(p:B<=w.heap.size)(hn:d.size=n)(Q:n<=1000)(ha:a<b)(hb:b<=n) :
 Calls Tryz.prog 177 #[bK g n cap,au (a:Int),au (b:Int)] w fun e w'=>e = .returned (.tuple #[])/\Fx.Own w' B 23 1 (bK g n cap) n (rv .u64 (gA (Sort.heapSort Sort.ltInt d a b)))/\Below B w w':=by
 obtain⟨j,aa⟩ : ∃ j,j=(b-a-1) / 2:=⟨_,rfl⟩;refine Kent Tryz.func177 56 ?_;refine ay<|av (au a)<|av (au a)<|aC<|ay<|av (au 0)<|aC<|ay<|av (au b)<|av (au a)<|Lv (au ((b:Int)-(a:Int))) gQ<|av (au ((b:Int)-(a:Int)))<|aC<|Ws<|ay<|av (au ((b:Int)-(a:Int)))<|Lv (au ((b:Int)-(a:Int)-1)) gQ<|Lv (au j) (Fx.DL rfl rfl rfl (by omega) (iN (by omega) (by rw[Int.tdiv_eq_ediv_of_nonneg (by omega)]; omega)))<|av (au j)<|aC<|Wb<|Wo (fun f q => ∃ k:Nat,∃ c:Array Int,c.size=n/\Sort.heapBuild Sort.ltInt (b-a) a k c=Sort.heapBuild Sort.ltInt (b-a) a (j+1) d/\k<=j+1/\f 0=bK g n cap/\f 1=au (a:Int)/\f 2=au (b:Int)/\f 6=au (a:Int)/\f 7=au 0/\f 8=au ((b:Int)-(a:Int))/\f 9=au ((k:Int)-1)/\Fx.Own q B 23 1 (bK g n cap) n (rv .u64 (gA c))/\Below B w q) (fun f _=>(intOf (f 9)+1).toNat) ⟨j+1,d,hn,rfl,(by omega),(by rfl),Fx.ic,Fx.ic,Fx.ic,Fx.ic,Fx.ic,Fx.ic,h,(Below.refl B w)⟩ ?_;rintro f1 w1 ⟨k,c,z,N,hkm,u,K,L,v,M,y,r,R,t⟩;refine Ws<|ay<|aU r ?_;by_cases G:0<=((k:Int)-1)
 ·refine Lv aG (kR G)<|aC<|aM<|Wk<|sN<|Ws<|Wb<|Wl<|aU u<|aU r<|aU y<|aU v<|dH (PE (k-1) (b-a) a (by omega) (by omega) (by omega) B g n cap c _ R (m_ p t.size) z Q ⟨by omega,by omega⟩) (ax := #[bK g n cap,au ((k:Int)-1),au ((b:Int)-(a:Int)),au (a:Int)]) _ rfl ?_;rintro w2 ⟨m2,Y⟩;have U:=t.trans Y;refine Ln<|bP<|sN<|Wl<|aU r<|Lv (au ((k:Int)-2)) gQ<|av (au ((k:Int)-2))<|Ln<|gW ⟨k-1,Sort.siftDown Sort.ltInt (b-a) a (k-1) c,(EK (by omega) _ _ _ (A_ _) z),((Ue (by omega)).trans N),(by omega),u,(K.trans Fx.ic),(L.trans Fx.ic),(v.trans Fx.ic),(M.trans Fx.ic),(y.trans Fx.ic),Fx.ic,m2,U⟩ ?_;show(intOf (au ((k:Int)-2))+1).toNat<_;simp only[r,intOf]; omega
 refine Lv aF (kJ G)<|aC<|aK<|Wx<|bX<|gP<|bY<|sN<|ay<|aU y<|Lv (au ((b:Int)-(a:Int)-1)) gQ<|av (au ((b:Int)-(a:Int)-1))<|aC<|Wb ?_;obtain rfl:k=0:=by omega
 obtain⟨I,hd1⟩ : ∃ I,I=c:=⟨_,rfl⟩;refine Wo (fun f q => ∃ k2:Nat,∃ i:Array Int,i.size=n/\Sort.heapPop Sort.ltInt a k2 i=Sort.heapPop Sort.ltInt a (b-a) c/\k2<=b-a/\f 0=bK g n cap/\f 1=au (a:Int)/\f 2=au (b:Int)/\f 6=au (a:Int)/\f 7=au 0/\f 10=au ((k2:Int)-1)/\Fx.Own q B 23 1 (bK g n cap) n (rv .u64 (gA i))/\Below B w q) (fun f _=>(intOf (f 10)+1).toNat) ⟨b-a,c,z,rfl,(by omega),u,(K.trans Fx.ic),(L.trans Fx.ic),(v.trans Fx.ic),(M.trans Fx.ic),Fx.ic,R,t⟩ ?_;rintro f2 w3 ⟨k2,i,A,O,hkp,o,X,W,l,J,m,S,C⟩;refine Ws<|ay<|aU m ?_;by_cases H:0<=((k2:Int)-1)
 ·refine Lv aG (kR H)<|aC<|aM<|Wk<|sN<|Ws<|Wb<|Ws ?_;refine kH [0,1,2,3,4,5,6,7,8,9,10,12,13,14,11,15,16,17,18,19] [0,0,0,0,0,0,0,0,0,0,0,4,0,0,0,4,0,3,0,3] [(17,11,[11]),(19,11,[11]),(17,15,[15]),(19,15,[15]),(18,17,[17]),(19,17,[17])] fun rE P iK => ?_;have s:=bf P S;have D:=eZ P C p;refine bZ o<|bZ l<|bZ o<|bZ l<|bZ m<|Rp (au ((a:Int)+(k2:Int)-1)) (fun _=>fA)<|bZ o<|bZ l<|bZ m<|Rp (au ((a:Int)+(k2:Int)-1)) (fun _=>fA)<|Rp (pf g (a+k2-1)) (fun _=>dw 1)<|bZ o<|bZ l<|Rp (pf g a) (fun _=>dw 1)<|Rs (aD ((gA i) (a+k2-1))) (aL s.aH (a+k2-1)) ?_;refine Rs (aD ((gA i) a)) (aL s.aH a) ?_;refine Rp (pf g a) (fun _=>dw 1)<|gZ<|qU s a (aD ((gA i) (a+k2-1))) fun w4 T s2 z1 => ?_;have E:=s2.below D (m_ p D.size) s.blk.1;refine Ln<|Rp (pf g (a+k2-1)) (fun _=>dw 1)<|gZ<|qU T (a+k2-1) (aD ((gA i) a)) fun w5 m6 s3 z2 => ?_;have F:=s3.below E (m_ p E.size) T.blk.1;have m7:Fx.Own w5 B 23 1 (bK g n cap) n (rv .u64 (gA (Sort.swp i a (a+k2-1)))):=m6.congr (iP A (by omega) (by omega));refine Ln<|bS<|Wl<|aU o<|aU J<|aU m<|aU l<|dH (PE 0 (k2-1) a (by omega) (by omega) (by omega) B g n cap (Sort.swp i a (a+k2-1)) _ m7 (m_ p F.size) (fD A _ _) Q ⟨by omega,by omega⟩) (ax := #[bK g n cap,au 0,au ((k2:Int)-1),au (a:Int)]) _ rfl ?_;rintro w6 ⟨m8,Z⟩;have V:=F.trans Z;refine Ln<|bP<|sN<|Wl<|aU m<|Lv (au ((k2:Int)-2)) gQ<|av (au ((k2:Int)-2))<|Ln<|gW ⟨k2-1,Sort.siftDown Sort.ltInt (k2-1) a 0 (Sort.swp i a (a+k2-1)),(EK (by omega) _ _ _ (A_ _) (fD A _ _)),((ada (x:=a+k2-1) (by omega) (by omega)).trans O),(by omega),o,(X.trans Fx.ic),(W.trans Fx.ic),(l.trans Fx.ic),(J.trans Fx.ic),Fx.ic,m8,V⟩ ?_;show(intOf (au ((k2:Int)-2))+1).toNat<_;simp only[m,intOf]; omega
 refine Lv aF (kJ H) (aC (aK (Wx (bX (gP (bY (⟨.tuple #[],iJ Tryz.results177,?_⟩)))))));obtain rfl:k2=0:=by omega
 unfold Sort.heapSort; rw[<- aa,<- N,show Sort.heapBuild Sort.ltInt (b-a) a 0 c=c from rfl,<- O]; exact⟨rfl,S,C⟩
theorem ahC(a b:Nat)(B g n cap:Nat)(d:Array Int)(w:World)(h:Fx.Own w B 23 1 (bK g n cap) n (rv .u64 (gA d)))(p:B<=w.heap.size)(F:d.size=n)(O:n<=1000)(ha:a<b)(M:b<=n) :
 Calls Tryz.prog 180 #[bK g n cap,au (a:Int),au (b:Int)] w fun e w'=>e = .returned (.tuple #[])/\Fx.Own w' B 23 1 (bK g n cap) n (rv .u64 (gA (Sort.reverseRange d a b)))/\Below B w w':=by
 refine Kent Tryz.func180 32 ?_;refine ay<|av (au a)<|av (au a)<|aC<|ay<|av (au b)<|Lv (au ((b:Int)-1)) gQ<|av (au ((b:Int)-1))<|aC<|Wb<|Wo (fun f A => ∃ i:Nat,∃ j:Nat,∃ c:Array Int,c.size=n/\(a<=i/\j<b/\i<=b)/\Sort.reverseLoop i j c=Sort.reverseLoop a (b-1) d/\f 0=bK g n cap/\f 1=au (a:Int)/\f 2=au (b:Int)/\f 6=au (i:Int)/\f 7=au (j:Int)/\Fx.Own A B 23 1 (bK g n cap) n (rv .u64 (gA c))/\Below B w A) (fun f _=>((b:Int)-intOf (f 6)).toNat) ⟨a,b-1,d,F,(by omega),rfl,(by rfl),Fx.ic,Fx.ic,Fx.ic,Fx.ic,h,(Below.refl B w)⟩ ?_;rintro L Q ⟨i,j,c,x,N,q,k,D,E,l,m,y,r⟩;refine Ws<|ay<|aU l<|aU m ?_;by_cases u:(i:Int)<(j:Int)
 ·refine Lv aG (gM u)<|aC<|aM<|Wk<|sN<|Wb<|Ws ?_;refine kH [0,1,2,3,4,5,6,8,9,10,7,11,12,13,14,15] [0,0,0,0,0,0,0,4,0,0,0,4,0,3,0,3] [(13,7,[7]),(15,7,[7]),(13,11,[11]),(15,11,[11]),(14,13,[13]),(15,13,[13])] fun R v P => ?_;have o:=bf v y;have s:=eZ v r p;refine bZ k<|bZ l<|bZ k<|bZ m<|bZ k<|bZ m<|Rp (pf g j) (fun _=>dw 1)<|bZ k<|bZ l<|Rp (pf g i) (fun _=>dw 1)<|Rs (aD ((gA c) j)) (aL o.aH j) ?_;refine Rs (aD ((gA c) i)) (aL o.aH i) ?_;refine Rp (pf g i) (fun _=>dw 1)<|gZ<|qU o i (aD ((gA c) j)) fun w2 z I S => ?_;have t:=I.below s (m_ p s.size) o.blk.1;refine Ln<|Rp (pf g j) (fun _=>dw 1)<|gZ<|qU z j (aD ((gA c) i)) fun K G J T => ?_;have C:=J.below t (m_ p t.size) z.blk.1;have H:Fx.Own K B 23 1 (bK g n cap) n (rv .u64 (gA (Sort.swp c i j))):=G.congr (iP x (by omega) (by omega));refine Ln<|bS<|ay<|aU l<|Lv (au ((i:Int)+1)) fA<|av (au ((i:Int)+1))<|aC<|Wl<|aU m<|Lv (au ((j:Int)-1)) gQ<|av (au ((j:Int)-1))<|Ln<|bP<|gW ⟨i+1,j-1,Sort.swp c i j,(fD x _ _),(by omega),((adb (by omega)).trans q),k,(D.trans Fx.ic),(E.trans Fx.ic),Fx.ic,Fx.ic,H,C⟩ ?_;show((b:Int)-intOf (au ((i:Int)+1))).toNat<_;simp only[l,intOf]; omega
 refine Lv aF (gN u) (aC (aK (Wx (bX (gP (bY (⟨.tuple #[],iJ Tryz.results180,?_⟩)))))));rw[Uf (by omega)]at q; unfold Sort.reverseRange; rw[<- q]; exact⟨rfl,y,r⟩
end
end Go.Proofs.YtcbedgfikejkoaaGreatDoor
namespace Go.Proofs.YtcbedgfikejkoaaGreatDoor
open Go.RowKit Rt
namespace Fx
def dL(a b:Int):Int:=((BitVec.ofInt 64 a ^^^ BitVec.ofInt 64 b).toNat:Int)
def Lh(a b:Int):Int:=((BitVec.ofInt 64 a &&& BitVec.ofInt 64 b).toNat:Int)
def fE(a:Int)(b:Nat):Int:=IntKind.u64.wrap (a*2^b)
theorem PG(a b:Int):0<=dL a b/\dL a b<=18446744073709551615:=by
 unfold dL; have:=(BitVec.ofInt 64 a ^^^ BitVec.ofInt 64 b).isLt; omega
theorem JJ(a:Int){b:Int}(h:0<=b)(c:b<=18446744073709551615):0<=Lh a b/\Lh a b<=b:=by
 unfold Lh;rw[BitVec.toNat_and];have d:(BitVec.ofInt 64 b).toNat=b.toNat:=by rw[BitVec.toNat_ofInt]; omega
 have:=Nat.and_le_right (n:=(BitVec.ofInt 64 a).toNat) (m:=(BitVec.ofInt 64 b).toNat);omega
section
variable {P:Program} {f:Nat->Value} {w:World} {o:Oper}
theorem Ui{T T':TypeId}{x y:Operand}{a b:Int}(c:o.op = .binOp .xor T x y T')(hx:ev f x = .int .u64 a)(hy:ev f y = .int .u64 b):Runs P f o w (.int .u64 (dL a b)) :=
 uK c hx hy (by
  have h:=jS (PG a b) rfl;simp only[binOp,Op.intBits];show(pure (Value.int .u64 (IntKind.u64.wrap (dL a b))):Sem Value).run P w=_;rw[h]; rfl)
theorem ahD{T T':TypeId}{x y:Operand}{a b:Int}(g:o.op = .binOp .and T x y T')(hx:ev f x = .int .u64 a)(hy:ev f y = .int .u64 b)(d:0<=b)(h1:b<=18446744073709551615):Runs P f o w (.int .u64 (Lh a b)) :=
 uK g hx hy (by
  have e:=JJ a d h1;have h:=jS (c:=Lh a b) ⟨e.1,by omega⟩ rfl;simp only[binOp,Op.intBits];show(pure (Value.int .u64 (IntKind.u64.wrap (Lh a b))):Sem Value).run P w=_;rw[h]; rfl)
theorem adh{T:TypeId}{x i:Operand}{s:ByteArray}{j:Nat}(e:o.op = .index T x i)(hx:ev f x = .string s)(hi:ev f i = .int .u8 (j:Int))(h:P.underlying T=some .string)(d:j<64)
 (g : ∀ q,q<64->(s[q]?).map (·.toNat)=some (Sort.bitsLen q)):Runs P f o w (.int .u8 (Sort.bitsLen j:Int)):=by
 obtain⟨b,a,c⟩:=Option.map_eq_some_iff.1 (g j d);unfold Runs execOp;simp only[e,hx,hi];simp[Instr.index,asIntOf,underlying,h,a,c]
end
end Fx
theorem Rt.PK{n:Nat}(h:n<64):Sort.bitsLen n<=6:=(Sort.bitsLen_le_iff _ _).2 (by omega)
end Go.Proofs.YtcbedgfikejkoaaGreatDoor
namespace Go.Proofs.YtcbedgfikejkoaaGreatDoor
open Go.RowKit Rt
open Fx (dA Lv sN Ln Ws Qv Wl Rp Wr Sb Wk rC sR Rs Rn Wb Wx Wo Qn Bv gH nG rv aP Stp dL fE iJ iN jS dD bL bP bX bY gP gW pV)
section
open Rt
theorem YM(n:Nat)(w:World)(a:n<64) :
 Calls Tryz.prog 138 #[aD (n:Int)] w fun e w'=>e = .returned (au (Sort.bitsLen n:Int))/\w'=w:=by
 have b:=PK a;refine Kent Tryz.func138 25 ?_;refine ay<|av (au 0)<|aC<|Ws<|ay<|av (aD n)<|Lv aF Ik<|aC<|aK<|Wk<|sN<|Ws<|ay<|av (aD n)<|Lv aF Ik<|aC<|aK<|Wk<|sN<|Ws<|ay<|av (aD n)<|Lv aF Ik<|aC<|aK<|Wk<|sN<|ay<|av (au 0)<|av (aD n)<|Lv (.int .u8 (n:Int)) (dA rfl rfl (by kernel_rfl) Tryz.underlying5 (Fx.u8e (by omega) rfl))<|Lv (.int .u8 (Sort.bitsLen n:Int)) (Fx.adh rfl rfl rfl Tryz.underlying9 a (by decide +kernel))<|Lv (au (Sort.bitsLen n:Int)) (dA rfl rfl (by kernel_rfl) Tryz.underlying3 (iN (by omega) rfl))<|Lv (au (0+(Sort.bitsLen n:Int))) fA<|av (au (0+(Sort.bitsLen n:Int)))<|aC<|Wr<|aJ (au (0+(Sort.bitsLen n:Int))) ?_;exact⟨by rw[Int.zero_add],rfl⟩
theorem Uj(n:Nat)(w:World)(a:n<64) :
 Calls Tryz.prog 87 #[aD (n:Int)] w fun e w'=>e = .returned (au (Sort.bitsLen n:Int))/\w'=w:=by
 have b:=PK a;refine Kent Tryz.func87 8 ?_;refine ay<|av (au 0)<|aC<|Ws<|aK<|Wk<|sN<|ay<|av (aD n)<|lH (YM n _ a) _ rfl<|av (au (Sort.bitsLen n:Int))<|aC<|Wr<|aJ (au (Sort.bitsLen n:Int)) ?_;exact⟨rfl,rfl⟩
theorem ahE(n m:Nat)(w:World)(f:n<64)(c:0<n)(a:m=2^Sort.bitsLen n) :
 Calls Tryz.prog 165 #[au (n:Int)] w fun e w'=>e = .returned (aD (m:Int))/\w'=w:=by
 have g:=PK f;have d:=Sort.two_pow_bitsLen_le c;rw[<- a]at d;refine Kent Tryz.func165 7 ?_;refine ay<|av (aD 0)<|aC<|ay<|av (au n)<|Lv (aD n) (dA rfl rfl (by kernel_rfl) Tryz.underlying161 (jS (by omega) rfl))<|lH (Uj n _ (by omega)) _ rfl<|Lv (aD m) (Fx.KX (b:=Sort.bitsLen n) rfl rfl rfl (show _<=64 by omega) (jS (by omega) (by rw[a]; simp)))<|av (aD m)<|aC<|Wr<|aJ (aD m) ?_;exact⟨rfl,rfl⟩
theorem adi(a:Nat)(r:Int)(w:World)(h:aP w a 1 (fun _=>aD r) 237) :
 Calls Tryz.prog 166 #[(pt a)] w fun e w' => ∃ d,e = .returned (aD d)/\(0<=d/\d<=18446744073709551615)/\Stp a w w'/\aP w' a 1 (fun _=>aD d) 237:=by
 refine Kent Tryz.func166 33 ?_;refine ay<|av (aD 0)<|aC<|Ws ?_;refine kH [0,1,3,4,2,5,6,7,8,9] [0,0,4,0,0,4,0,0,0,3] [(9,2,[2]),(9,5,[5])] fun J m M => ?_;have C:Stp w.heap.size w J:=Sb m;have f:=bf m h;have s:=(nG a w).then C (.inr (nG a w).size);refine aX (pt a)<|aX (pt a)<|aX (pt a)<|aX (pt a)<|Rs (aD r) (aL f.aH 0) ?_;refine Rs (aD r) (aL f.aH 0) ?_;refine Rp (aD (fE r 13)) (fun c=>Fx.KX (b:=13) rfl rfl rfl (by decide) rfl)<|Rp (aD (dL r (fE r 13))) (fun c=>Fx.Ui rfl rfl rfl)<|aX (pt a)<|gZ<|ji f 0 (aD (dL r (fE r 13))) fun j x D P => ?_;have y:aP j a 1 (fun _=>aD (dL r (fE r 13))) 237:=dD x;have k:=s.then D (by omega);refine Ln<|bS<|Ws ?_;refine kH [0,1,3,4,2,5,6,7,8,9] [0,0,4,0,0,4,0,0,0,3] [(9,2,[2]),(9,5,[5])] fun K n N => ?_;have E:Stp j.heap.size j K:=Sb n;have g:=bf n y;have t:=k.then E (.inr k.size);refine aX (pt a)<|aX (pt a)<|aX (pt a)<|aX (pt a)<|Rs (aD (dL r (fE r 13))) (aL g.aH 0) ?_;refine Rs (aD (dL r (fE r 13))) (aL g.aH 0) ?_;refine Rp (aD ((dL r (fE r 13)) / 128)) (fun c=>Fx.abh (b:=7) (q:=128) rfl rfl rfl (by decide) (by decide))<|Rp (aD (dL (dL r (fE r 13)) ((dL r (fE r 13)) / 128))) (fun c=>Fx.Ui rfl rfl rfl)<|aX (pt a)<|gZ<|ji g 0 (aD (dL (dL r (fE r 13)) ((dL r (fE r 13)) / 128))) fun w2 z F Q => ?_;have A:aP w2 a 1 (fun _=>aD (dL (dL r (fE r 13)) ((dL r (fE r 13)) / 128))) 237:=dD z;have l:=t.then F (by omega);refine Ln<|bS<|Ws ?_;refine kH [0,1,3,4,2,5,6,7,8,9] [0,0,4,0,0,4,0,0,0,3] [(9,2,[2]),(9,5,[5])] fun L o O => ?_;have G:Stp w2.heap.size w2 L:=Sb o;have i:=bf o A;have u:=l.then G (.inr l.size);refine aX (pt a)<|aX (pt a)<|aX (pt a)<|aX (pt a)<|Rs (aD (dL (dL r (fE r 13)) ((dL r (fE r 13)) / 128))) (aL i.aH 0) ?_;refine Rs (aD (dL (dL r (fE r 13)) ((dL r (fE r 13)) / 128))) (aL i.aH 0) ?_;refine Rp (aD (fE (dL (dL r (fE r 13)) ((dL r (fE r 13)) / 128)) 17)) (fun c=>Fx.KX (b:=17) rfl rfl rfl (by decide) rfl)<|Rp (aD (dL (dL (dL r (fE r 13)) ((dL r (fE r 13)) / 128)) (fE (dL (dL r (fE r 13)) ((dL r (fE r 13)) / 128)) 17))) (fun c=>Fx.Ui rfl rfl rfl)<|aX (pt a)<|gZ<|ji i 0 (aD (dL (dL (dL r (fE r 13)) ((dL r (fE r 13)) / 128)) (fE (dL (dL r (fE r 13)) ((dL r (fE r 13)) / 128)) 17))) fun I B H R => ?_;have p:aP I a 1 (fun _=>aD (dL (dL (dL r (fE r 13)) ((dL r (fE r 13)) / 128)) (fE (dL (dL r (fE r 13)) ((dL r (fE r 13)) / 128)) 17))) 237:=dD B;have v:=u.then H (by omega);refine Ln<|bS<|ay<|av (pt a)<|av (pt a)<|Lv (aD (dL (dL (dL r (fE r 13)) ((dL r (fE r 13)) / 128)) (fE (dL (dL r (fE r 13)) ((dL r (fE r 13)) / 128)) 17))) (aL p.aH 0)<|av (aD (dL (dL (dL r (fE r 13)) ((dL r (fE r 13)) / 128)) (fE (dL (dL r (fE r 13)) ((dL r (fE r 13)) / 128)) 17)))<|aC<|Wr<|aJ (aD (dL (dL (dL r (fE r 13)) ((dL r (fE r 13)) / 128)) (fE (dL (dL r (fE r 13)) ((dL r (fE r 13)) / 128)) 17))) ?_;exact⟨_,rfl,Fx.PG _ _,v,p⟩
end
section
open Rt
theorem adj{a:Int}(n m:Nat)(w:World)(e:a=(n:Int))(d:n<64)(b:0<n)(c:m=2^Sort.bitsLen n):Calls Tryz.prog 165 #[au a] w fun e w'=>e = .returned (aD (m:Int))/\w'=w:=by
 subst e; exact ahE n m w d b c
theorem ahF(a b:Nat)(B g n cap:Nat)(d:Array Int)(w:World)(h:Fx.Own w B 23 1 (bK g n cap) n (rv .u64 (gA d)))(o:B<=w.heap.size)(X:d.size=n)(hs:n<=1000)(ha:a<b)(hb:b<=n)(h50:n<50) :
 Calls Tryz.prog 178 #[bK g n cap,au (a:Int),au (b:Int)] w fun e w' => ∃ y:Array Int,e = .returned (.tuple #[])/\y.size=n/\Sort.PermIn a b d y/\Fx.Own w' B 23 1 (bK g n cap) n (rv .u64 (gA y))/\Below B w w':=by
 obtain⟨i,hq0⟩ : ∃ i,i=(b-a) / 4:=⟨_,rfl⟩;refine Kent Tryz.func178 65 ?_;refine ay<|av (au b)<|av (au a)<|Lv (au ((b:Int)-(a:Int))) gQ<|av (au ((b:Int)-(a:Int)))<|aC<|ay<|av (au ((b:Int)-(a:Int))) ?_;by_cases O:8<=((b:Int)-(a:Int))
 ·refine Lv aG (kR O)<|aC<|aM<|ay<|av (au ((b:Int)-(a:Int)))<|Lv (aD ((b:Int)-(a:Int))) (dA rfl rfl (by kernel_rfl) Tryz.underlying237 (jS (by omega) rfl))<|qR 1 (rv .u64 (fun _=>0)) fun v w1 R D s1 z1 => ?_;have m2:=bf s1.old h;have I:=eZ s1.old (Below.refl B w) o;have rF:=iw R (Below.refl B w).size;have ny:=cu R h.lt;have sQ:=D.lt;refine ji D 0 (aD ((b:Int)-(a:Int))) fun w2 m3 s2 z2 => ?_;have m4:aP w2 v 1 (fun _=>aD ((b:Int)-(a:Int))) 237:=dD m3;have fV:=gH s2 D.ty;have m5:=jo fV m2;have b2:=s2.below I (m_ o I.size) (by omega);refine aC<|ay<|av (au ((b:Int)-(a:Int))) ?_;obtain⟨m,W⟩ : ∃ m,m=2^Sort.bitsLen (b-a):=⟨_,rfl⟩;have hm2:=Sort.two_pow_bitsLen_le (show 0<b-a by omega);have hm3:=Sort.lt_two_pow_bitsLen (b-a);rw[<- W]at hm2 hm3;refine lH (adj (b-a) m _ (by omega) (by omega) (by omega) W) (ax := #[au ((b:Int)-(a:Int))]) _ rfl<|av (aD m)<|aC<|ay<|av (au a)<|av (au ((b:Int)-(a:Int)))<|Lv (au i) (Fx.DL rfl rfl rfl (by omega) (iN (by omega) (by rw[Int.tdiv_eq_ediv_of_nonneg (by omega)]; omega)))<|Lv (au ((i:Int)*2)) (Fx.Ib rfl rfl rfl Fx.io)<|Lv (au ((a:Int)+2*(i:Int))) fA<|Lv (au ((a:Int)+2*(i:Int)-1)) gQ<|av (au ((a:Int)+2*(i:Int)-1))<|aC<|Wb<|Wo (fun f H => ∃ ix:Nat,∃ G:Int,∃ j:Array Int,j.size=n/\Sort.PermIn a b d j/\(a+2*i<=ix+1/\ix<=a+2*i+2)/\f 0=bK g n cap/\f 1=au (a:Int)/\f 2=au (b:Int)/\f 6=au ((b:Int)-(a:Int))/\f 7=(pt v)/\f 8=aD (m:Int)/\f 9=au (ix:Int)/\Fx.Own H B 23 1 (bK g n cap) n (rv .u64 (gA j))/\aP H v 1 (fun _=>aD G) 237/\Below B w H) (fun f _=>((a:Int)+2*i+2-intOf (f 9)).toNat) ⟨a+2*i-1,((b:Int)-(a:Int)),d,X,(Sort.permIn_refl _ _ _),(by omega),(by rfl),Fx.ic,Fx.ic,Fx.ic,(by rfl),Fx.ic,Fx.ic,m5,m4,b2⟩ ?_;rintro f1 w3 ⟨ix,G,j,s,C,hix,k,p,S,r,z,A,l,Y,Z,x⟩;refine Ws<|ay<|aU l<|aU p<|aU r<|Lv (au i) (Fx.DL rfl rfl rfl (by omega) (iN (by omega) (by rw[Int.tdiv_eq_ediv_of_nonneg (by omega)]; omega)))<|Lv (au ((i:Int)*2)) (Fx.Ib rfl rfl rfl Fx.io)<|Lv (au ((a:Int)+2*(i:Int))) fA<|Lv (au ((a:Int)+2*(i:Int)+1)) fA ?_;by_cases P:(ix:Int)<=((a:Int)+2*(i:Int)+1)
  ·refine Lv aG (nL P) (aC (aM (Wk (sN (Ws (Wb (ay (lD (adi v G _ Z) ?_ (hr:=rC rfl (Fx.args1 z) Tryz.func166 rfl rfl)))))))));rintro e9 w4 ⟨q,V,hr1,s3,m8⟩;refine⟨_,V,?_⟩;clear V;have jr:=gH s3 Z.ty;have m9:=jo jr Y;have J:=s3.below x (m_ o x.size) (by omega);refine aU A<|Lv (aD ((m:Int)-1)) gQ ?_;obtain⟨c,ho1,ko1⟩ : ∃ c:Nat,(c:Int)=Fx.Lh q ((m:Int)-1)/\(c:Int)<=(m:Int)-1:=⟨(Fx.Lh q ((m:Int)-1)).toNat,by have:=Fx.JJ q (show 0<=(m:Int)-1 by omega) (by omega); omega,by have:=Fx.JJ q (show 0<=(m:Int)-1 by omega) (by omega); omega⟩;refine Lv (aD c) (by rw[ho1]; exact Fx.ahD rfl rfl rfl (by omega) (by omega))<|Lv (au c) (dA rfl rfl (by kernel_rfl) Tryz.underlying3 (iN (by omega) rfl))<|av (au c)<|aC<|Ws<|ay<|av (au c)<|aU r ?_;by_cases Q:((b:Int)-(a:Int))<=(c:Int)
   ·refine Lv aG (kR Q)<|aC<|aM<|Wl<|av (au c)<|aU r<|Lv (au ((a:Int)+(c:Int)-(b:Int))) gQ<|av (au ((a:Int)+(c:Int)-(b:Int)))<|aC ?_;refine kH [0,1,2,3,4,5,6,7,8,9,10,12,13,14,11,15,16,17,18,19] [0,0,0,0,0,0,0,0,0,0,0,4,0,0,0,4,0,3,0,3] [(17,11,[11]),(19,11,[11]),(17,15,[15]),(19,15,[15]),(18,17,[17]),(19,17,[17])] fun rE T iK => ?_;have⟨t,m11⟩:=eU T m9 m8;have K:=eZ T J o;refine bZ k<|bZ l<|bZ k<|bZ p<|aX (au ((a:Int)+(c:Int)-(b:Int)))<|Rp (au (2*(a:Int)+(c:Int)-(b:Int))) (fun _=>fA)<|bZ k<|bZ p<|aX (au ((a:Int)+(c:Int)-(b:Int)))<|Rp (au (2*(a:Int)+(c:Int)-(b:Int))) (fun _=>fA)<|Rp (pf g (2*a+c-b)) (fun _=>dw 1)<|bZ k<|bZ l<|Rp (pf g ix) (fun _=>dw 1)<|Rs (aD ((gA j) (2*a+c-b))) (aL t.aH (2*a+c-b)) ?_;refine Rs (aD ((gA j) ix)) (aL t.aH ix) ?_;refine Rp (pf g ix) (fun _=>dw 1)<|gZ<|qU t ix (aD ((gA j) (2*a+c-b))) fun w5 E s5 z3 => ?_;have qc:=gH s5 t.KY;have m13:=jo qc m11;have L:=s5.below K (m_ o K.size) t.blk.1;refine Ln<|Rp (pf g (2*a+c-b)) (fun _=>dw 1)<|gZ<|qU E (2*a+c-b) (aD ((gA j) ix)) fun w6 m14 s6 z4 => ?_;have xu:=gH s6 E.KY;have m15:=jo xu m13;have b7:=s6.below L (m_ o L.size) E.blk.1;have m16:Fx.Own w6 B 23 1 (bK g n cap) n (rv .u64 (gA (Sort.swp j ix (2*a+c-b)))):=m14.congr (iP s (by omega) (by omega));refine Ln<|Rn<|bP<|sN<|Wl<|aU l<|Lv (au ((ix:Int)+1)) fA<|av (au ((ix:Int)+1))<|Ln<|gW ⟨ix+1,q,Sort.swp j ix (2*a+c-b),(fD s _ _),(Sort.permIn_trans _ _ _ _ _ C (Sort.swp_permIn _ _ _ _ _ (by omega) (by omega) (by omega) (by omega) (by omega))),(by omega),k,(p.trans Fx.ic),(S.trans Fx.ic),(r.trans Fx.ic),z,(A.trans Fx.ic),Fx.ic,m16,m15,b7⟩ ?_;show((a:Int)+2*i+2-intOf (au ((ix:Int)+1))).toNat<_;simp only[l,intOf]; omega
   refine Lv aF (kJ Q)<|aC<|aK<|Wk<|sN ?_;refine kH [0,1,2,3,4,5,6,7,8,9,10,12,13,14,11,15,16,17,18,19] [0,0,0,0,0,0,0,0,0,0,0,4,0,0,0,4,0,3,0,3] [(17,11,[11]),(19,11,[11]),(17,15,[15]),(19,15,[15]),(18,17,[17]),(19,17,[17])] fun CJ U nZ => ?_;have⟨u,m18⟩:=eU U m9 m8;have M:=eZ U J o;refine bZ k<|bZ l<|bZ k<|bZ p<|aX (au c)<|Rp (au ((a:Int)+(c:Int))) (fun _=>fA)<|bZ k<|bZ p<|aX (au c)<|Rp (au ((a:Int)+(c:Int))) (fun _=>fA)<|Rp (pf g (a+c)) (fun _=>dw 1)<|bZ k<|bZ l<|Rp (pf g ix) (fun _=>dw 1)<|Rs (aD ((gA j) (a+c))) (aL u.aH (a+c)) ?_;refine Rs (aD ((gA j) ix)) (aL u.aH ix) ?_;refine Rp (pf g ix) (fun _=>dw 1)<|gZ<|qU u ix (aD ((gA j) (a+c))) fun w7 F s8 z5 => ?_;have Aa:=gH s8 u.KY;have m20:=jo Aa m18;have N:=s8.below M (m_ o M.size) u.blk.1;refine Ln<|Rp (pf g (a+c)) (fun _=>dw 1)<|gZ<|qU F (a+c) (aD ((gA j) ix)) fun w8 m21 s9 z6 => ?_;have Ac:=gH s9 F.KY;have m22:=jo Ac m20;have b10:=s9.below N (m_ o N.size) F.blk.1;have m23:Fx.Own w8 B 23 1 (bK g n cap) n (rv .u64 (gA (Sort.swp j ix (a+c)))):=m21.congr (iP s (by omega) (by omega));refine Ln<|Rn<|bP<|sN<|Wl<|aU l<|Lv (au ((ix:Int)+1)) fA<|av (au ((ix:Int)+1))<|Ln<|gW ⟨ix+1,q,Sort.swp j ix (a+c),(fD s _ _),(Sort.permIn_trans _ _ _ _ _ C (Sort.swp_permIn _ _ _ _ _ (by omega) (by omega) (by omega) (by omega) (by omega))),(by omega),k,(p.trans Fx.ic),(S.trans Fx.ic),(r.trans Fx.ic),z,(A.trans Fx.ic),Fx.ic,m23,m22,b10⟩ ?_;show((a:Int)+2*i+2-intOf (au ((ix:Int)+1))).toNat<_;simp only[l,intOf]; omega
  refine Lv aF (ow P) (aC (aK (Wx (bX (gP (bY (⟨.tuple #[],iJ Tryz.results178,?_⟩)))))));exact⟨j,rfl,s,C,Y,x⟩
 refine Lv aF (kJ O) (aC (aK (Wk (⟨.tuple #[],iJ Tryz.results178,?_⟩))));exact⟨d,rfl,X,Sort.permIn_refl _ _ _,h,(Below.refl B w)⟩
end
section
open Rt
theorem adk(a b f:Nat)(c:Int)(B g n cap:Nat)(d:Array Int)(w:World)(h:Fx.Own w B 23 1 (bK g n cap) n (rv .u64 (gA d)))(l:B<=w.heap.size)(J:d.size=n)(K:n<=1000)(ha:a<n)(H:b<n)(I:B<=f)(q:aP w f 1 (fun _=>au c) 3)(L:0<=c/\c<=1000) :
 Calls Tryz.prog 189 #[bK g n cap,au (a:Int),au (b:Int),(pt f)] w fun e w' => ∃(x y:Nat) (i:Int),e = .returned (.tuple #[au (x:Int),au (y:Int)])/\((x=a/\y=b)\/(x=b/\y=a))/\(c<=i/\i<=c+1)/\aP w' f 1 (fun _=>au i) 3/\Fx.Own w' B 23 1 (bK g n cap) n (rv .u64 (gA d))/\Below B w w':=by
 refine Kent Tryz.func189 28 ?_;refine ay<|av (au 0)<|av (au 0)<|aC<|Ws<|Ws ?_;refine nM<|aW (bK g n cap)<|aW (au b)<|Qv (pf g b) (fun o j=>dw 1)<|Qv (aD ((gA d) b)) (fun o j=>aL (h.cb j) b)<|aW (bK g n cap)<|aW (au a)<|Qv (pf g a) (fun o j=>dw 1)<|Qv (aD ((gA d) a)) (fun o j=>aL (h.cb j) a) ?_;by_cases k:(decide ((gA d) b<(gA d) a))=true
 ·refine qQ (fun _ _=>dS ((gA d) b) ((gA d) a) _) aG (by rw[k])<|Qn ?_;intro M r;have⟨z,m⟩:=eU r h q;have p:=eZ r (Below.refl B w) l;refine sN<|aM<|ay<|av (pt f)<|av (pt f)<|Lv (au c) (aL m.aH 0)<|Lv (au (c+1)) fA<|av (pt f)<|ji m 0 (au (c+1)) fun G A i O => ?_;have C:aP G f 1 (fun _=>au (c+1)) 3:=dD A;have v:=gH i m.ty;have D:=jo v z;have t:=i.below p (m_ l p.size) (by omega);refine aC<|ay<|av (au b)<|av (au a)<|av (au b)<|av (au a)<|aC<|Wr<|sR<|aJ (.tuple #[au (b:Int),au (a:Int)]) ?_;exact⟨b,a,c+1,rfl,.inr ⟨rfl,rfl⟩,by omega,C,D,t⟩
 rw[U_]at k;refine qQ (fun _ _=>dS ((gA d) b) ((gA d) a) _) aF (by rw[k])<|Qn ?_;intro N s;have⟨E,F⟩:=eU s h q;have u:=eZ s (Below.refl B w) l;refine sN<|aK<|Wk<|sN<|ay<|av (au a)<|av (au b)<|av (au a)<|av (au b)<|aC<|Wr<|aJ (.tuple #[au (a:Int),au (b:Int)]) ?_;exact⟨a,b,c,rfl,.inl ⟨rfl,rfl⟩,by omega,F,E,u⟩
theorem JK{j k:Int}(a b:Nat)(l:j=(a:Int))(m:k=(b:Int))(f:Nat)(c:Int)(B g n cap:Nat)(d:Array Int)(w:World)(h:Fx.Own w B 23 1 (bK g n cap) n (rv .u64 (gA d)))(o:B<=w.heap.size)(s:d.size=n)(t:n<=1000)(ha:a<n)(p:b<n)(q:B<=f)(r:aP w f 1 (fun _=>au c) 3)(u:0<=c/\c<=1000) :
 Calls Tryz.prog 189 #[bK g n cap,au j,au k,(pt f)] w fun e w' => ∃(x y:Nat) (i:Int),e = .returned (.tuple #[au (x:Int),au (y:Int)])/\((x=a/\y=b)\/(x=b/\y=a))/\(c<=i/\i<=c+1)/\aP w' f 1 (fun _=>au i) 3/\Fx.Own w' B 23 1 (bK g n cap) n (rv .u64 (gA d))/\Below B w w':=by
 subst l m; exact adk a b f c B g n cap d w h o s t ha p q r u
theorem ahG(a b c f:Nat)(j:Int)(B g n cap:Nat)(d:Array Int)(w:World)(h:Fx.Own w B 23 1 (bK g n cap) n (rv .u64 (gA d)))(m:B<=w.heap.size)(p:d.size=n)(q:n<=1000)(ha:a<n)(L:b<n)(M:c<n)(z:B<=f)(o:aP w f 1 (fun _=>au j) 3)(Q:0<=j/\j<=100) :
 Calls Tryz.prog 188 #[bK g n cap,au (a:Int),au (b:Int),au (c:Int),(pt f)] w fun e w' => ∃(x:Nat) (r:Int),e = .returned (au (x:Int))/\(x=a\/x=b\/x=c)/\(j<=r/\r<=j+3)/\aP w' f 1 (fun _=>au r) 3/\Fx.Own w' B 23 1 (bK g n cap) n (rv .u64 (gA d))/\Below B w w':=by
 refine Kent Tryz.func188 36 ?_;refine ay<|av (au 0)<|aC<|ay<|av (bK g n cap)<|av (au a)<|av (au b)<|av (pt f)<|lD (JK a b (by omega) (by omega) f j B g n cap d _ h (m_ m (Below.refl B w).size) p q (by omega) (by omega) (by omega) o (by omega)) (ax := #[bK g n cap,au (a:Int),au (b:Int),(pt f)]) ?_;rintro y V ⟨x1,k,J,i,R,N,D,E,z⟩;refine⟨_,i,?_⟩;clear i;have u:=(Below.refl B w).trans z;refine av (.tuple #[au (x1:Int),au (k:Int)])<|av (au x1)<|av (au k)<|av (au x1)<|av (au k)<|aC<|ay<|av (bK g n cap)<|av (au k)<|av (au c)<|av (pt f)<|lD (JK k c (by omega) (by omega) f J B g n cap d _ E (m_ m u.size) p q (by omega) (by omega) (by omega) D (by omega)) (ax := #[bK g n cap,au (k:Int),au (c:Int),(pt f)]) ?_;rintro y w2 ⟨x2,t,K,i,S,O,F,G,o⟩;refine⟨_,i,?_⟩;clear i;have v:=u.trans o;refine av (.tuple #[au (x2:Int),au (t:Int)])<|av (au x2)<|av (au t)<|av (au x2)<|av (au t)<|aC<|ay<|av (bK g n cap)<|av (au x1)<|av (au x2)<|av (pt f)<|lD (JK x1 x2 (by omega) (by omega) f K B g n cap d _ G (m_ m v.size) p q (by omega) (by omega) (by omega) F (by omega)) (ax := #[bK g n cap,au (x1:Int),au (x2:Int),(pt f)]) ?_;rintro y W ⟨s,l,U,i,T,P,H,I,C⟩;refine⟨_,i,?_⟩;clear i;have A:=v.trans C;refine av (.tuple #[au (s:Int),au (l:Int)])<|av (au s)<|av (au l)<|av (au s)<|av (au l)<|aC<|ay<|av (au l)<|av (au l)<|aC<|Wr<|aJ (au l) ?_;exact⟨_,_,rfl,by omega,by omega,H,I,A⟩
theorem adl{k l m:Int}(a b c:Nat)(o:k=(a:Int))(p:l=(b:Int))(q:m=(c:Int))(i:Nat)(f:Int)(B g n cap:Nat)(d:Array Int)(w:World)(h:Fx.Own w B 23 1 (bK g n cap) n (rv .u64 (gA d)))(r:B<=w.heap.size)(y:d.size=n)(z:n<=1000)(ha:a<n)(s:b<n)(v:c<n)(t:B<=i)(u:aP w i 1 (fun _=>au f) 3)(A:0<=f/\f<=100) :
 Calls Tryz.prog 188 #[bK g n cap,au k,au l,au m,(pt i)] w fun e w' => ∃(x:Nat) (j:Int),e = .returned (au (x:Int))/\(x=a\/x=b\/x=c)/\(f<=j/\j<=f+3)/\aP w' i 1 (fun _=>au j) 3/\Fx.Own w' B 23 1 (bK g n cap) n (rv .u64 (gA d))/\Below B w w':=by
 subst o p q; exact ahG a b c i f B g n cap d w h r y z ha s v t u A
theorem ahH(a b:Nat)(B g n cap:Nat)(d:Array Int)(w:World)(h:Fx.Own w B 23 1 (bK g n cap) n (rv .u64 (gA d)))(x:B<=w.heap.size)(E:d.size=n)(F:n<=1000)(ha:a<b)(J:b<=n)(I:n<50) :
 Calls Tryz.prog 179 #[bK g n cap,au (a:Int),au (b:Int)] w fun e w' => ∃(p:Nat) (D:Int),e = .returned (.tuple #[au (p:Int),au D])/\a<=p/\p<b/\Fx.Own w' B 23 1 (bK g n cap) n (rv .u64 (gA d))/\Below B w w':=by
 obtain⟨c,K⟩ : ∃ c,c=(b-a) / 4:=⟨_,rfl⟩;refine Kent Tryz.func179 57 ?_;refine ay<|av (au 0)<|av (au 0)<|aC<|ay<|av (au b)<|av (au a)<|Lv (au ((b:Int)-(a:Int))) gQ<|av (au ((b:Int)-(a:Int)))<|aC<|ay<|Bv (m:=1) (y:=rv .i64 (fun _=>0)) (by rfl) rfl (by kernel_rfl) rfl fun v Q u o A R => ?_;have k:=bf A.old h;have f:=eZ A.old (Below.refl B w) x;have N:=iw u (Below.refl B w).size;have O:=cu u h.lt;have P:=o.lt;refine aC<|ay<|av (au a)<|av (au ((b:Int)-(a:Int)))<|Lv (au c) (Fx.DL rfl rfl rfl (by omega) (iN (by omega) (by rw[Int.tdiv_eq_ediv_of_nonneg (by omega)]; omega)))<|Lv (au ((c:Int)*1)) (Fx.Ib rfl rfl rfl Fx.io)<|Lv (au ((a:Int)+(c:Int))) fA<|av (au ((a:Int)+(c:Int)))<|aC<|ay<|av (au a)<|av (au ((b:Int)-(a:Int)))<|Lv (au c) (Fx.DL rfl rfl rfl (by omega) (iN (by omega) (by rw[Int.tdiv_eq_ediv_of_nonneg (by omega)]; omega)))<|Lv (au ((c:Int)*2)) (Fx.Ib rfl rfl rfl Fx.io)<|Lv (au ((a:Int)+2*(c:Int))) fA<|av (au ((a:Int)+2*(c:Int)))<|aC<|ay<|av (au a)<|av (au ((b:Int)-(a:Int)))<|Lv (au c) (Fx.DL rfl rfl rfl (by omega) (iN (by omega) (by rw[Int.tdiv_eq_ediv_of_nonneg (by omega)]; omega)))<|Lv (au ((c:Int)*3)) (Fx.Ib rfl rfl rfl Fx.io)<|Lv (au ((a:Int)+3*(c:Int))) fA<|av (au ((a:Int)+3*(c:Int)))<|aC<|Ws<|ay<|av (au ((b:Int)-(a:Int))) ?_;by_cases t:8<=((b:Int)-(a:Int))
 ·refine Lv aG (kR t)<|aC<|aM<|Ws<|ay<|av (au ((b:Int)-(a:Int)))<|Lv aF Ik<|aC<|aK<|Wk<|sN<|Wl<|av (bK g n cap)<|av (au ((a:Int)+(c:Int)))<|av (au ((a:Int)+2*(c:Int)))<|av (au ((a:Int)+3*(c:Int)))<|lD (adl (a+c) (a+2*c) (a+3*c) (by omega) (by omega) (by omega) v 0 B g n cap d _ k (m_ x f.size) E F (by omega) (by omega) (by omega) (by omega) o (by omega)) (ax := #[bK g n cap,au ((a:Int)+(c:Int)),au ((a:Int)+2*(c:Int)),au ((a:Int)+3*(c:Int)),(pt v)]) ?_;rintro H w2 ⟨x1,s,z,M,L,G,r,C⟩;refine⟨_,z,?_⟩;clear z;have l:=f.trans C;refine av (au x1)<|aC<|ay<|Lv (au s) (aL G.aH 0)<|aC<|Wb<|ay ?_;by_cases i:s=0
  ·refine Lv aG (eH i)<|av aG<|aC<|aM<|ay<|av (au x1)<|av (au x1)<|av (au 1)<|aC<|Wr<|bL<|aJ (.tuple #[au (x1:Int),au 1]) ?_;exact⟨x1,1,L_ (fun q=>Ending.returned (.tuple #[au q,au 1])) (by omega),by omega,by omega,r,l⟩
  refine Lv aF (fC i)<|av aF<|aC<|aK<|ay ?_;by_cases j:s=12
  ·refine Lv aG (eH j)<|av aG<|aC<|aM<|ay<|av (au x1)<|av (au x1)<|av (au 2)<|aC<|Wr<|bL<|aJ (.tuple #[au (x1:Int),au 2]) ?_;exact⟨x1,2,L_ (fun q=>Ending.returned (.tuple #[au q,au 2])) (by omega),by omega,by omega,r,l⟩
  refine Lv aF (fC j)<|av aF<|aC<|aK<|ay<|av (au x1)<|av (au x1)<|av (au 0)<|aC<|Wr<|bL<|aJ (.tuple #[au (x1:Int),au 0]) ?_;exact⟨x1,0,L_ (fun q=>Ending.returned (.tuple #[au q,au 0])) (by omega),by omega,by omega,r,l⟩
 refine Lv aF (kJ t)<|aC<|aK<|Wk<|sN<|ay<|Lv (au 0) (aL o.aH 0)<|aC<|Wb<|ay ?_;by_cases i:(0:Int)=0
 ·refine Lv aG (eH i)<|av aG<|aC<|aM<|ay<|av (au ((a:Int)+2*(c:Int)))<|av (au ((a:Int)+2*(c:Int)))<|av (au 1)<|aC<|Wr<|bL<|aJ (.tuple #[au ((a:Int)+2*(c:Int)),au 1]) ?_;exact⟨a+2*c,1,L_ (fun q=>Ending.returned (.tuple #[au q,au 1])) (by omega),by omega,by omega,k,f⟩
 refine Lv aF (fC i)<|av aF<|aC<|aK<|ay ?_;by_cases j:(0:Int)=12
 ·refine Lv aG (eH j)<|av aG<|aC<|aM<|ay<|av (au ((a:Int)+2*(c:Int)))<|av (au ((a:Int)+2*(c:Int)))<|av (au 2)<|aC<|Wr<|bL<|aJ (.tuple #[au ((a:Int)+2*(c:Int)),au 2]) ?_;exact⟨a+2*c,2,L_ (fun q=>Ending.returned (.tuple #[au q,au 2])) (by omega),by omega,by omega,k,f⟩
 refine Lv aF (fC j)<|av aF<|aC<|aK<|ay<|av (au ((a:Int)+2*(c:Int)))<|av (au ((a:Int)+2*(c:Int)))<|av (au 0)<|aC<|Wr<|bL<|aJ (.tuple #[au ((a:Int)+2*(c:Int)),au 0]) ?_;exact⟨a+2*c,0,L_ (fun q=>Ending.returned (.tuple #[au q,au 0])) (by omega),by omega,by omega,k,f⟩
end
section
open Rt
theorem adn(a b:Nat)(B g n cap:Nat)(d:Array Int)(w:World)(h:Fx.Own w B 23 1 (bK g n cap) n (rv .u64 (gA d)))(v:B<=w.heap.size)(V:d.size=n)(W:n<=1000)(ha:a<b)(U:b<=n)(T:n<50) :
 Calls Tryz.prog 181 #[bK g n cap,au (a:Int),au (b:Int)] w fun e w' => ∃ r:Bool,e = .returned (.bool r)/\(r=true->Sort.SortedIn Sort.ltInt a b d)/\Fx.Own w' B 23 1 (bK g n cap) n (rv .u64 (gA d))/\Below B w w':=by
 refine Kent Tryz.func181 133 ?_;refine ay<|av aF<|aC<|ay<|av (au a)<|Lv (au ((a:Int)+1)) fA<|av (au ((a:Int)+1))<|aC<|Ws<|ay<|av (au 0)<|aC<|Wb<|Wo (fun f p=>f 0=bK g n cap/\f 1=au (a:Int)/\f 2=au (b:Int)/\f 7=au ((a:Int)+1)/\f 8=au 0/\Fx.Own p B 23 1 (bK g n cap) n (rv .u64 (gA d))/\Below B w p) (fun f _=>(5-intOf (f 8)).toNat) ⟨(by rfl),Fx.ic,Fx.ic,Fx.ic,Fx.ic,h,(Below.refl B w)⟩ ?_;rintro R X ⟨K,M,N,O,C,P,I⟩;refine Ws<|ay<|aU C<|Lv aG TJ<|aC<|aM<|Wk<|sN<|Ws<|Wb<|Ws<|Wb<|Wo (fun f p => ∃ i:Nat,Sort.SortedIn Sort.ltInt a i d/\(a<i/\i<=b)/\f 0=bK g n cap/\f 1=au (a:Int)/\f 2=au (b:Int)/\f 7=au (i:Int)/\f 8=au 0/\Fx.Own p B 23 1 (bK g n cap) n (rv .u64 (gA d))/\Below B w p) (fun f _=>((b:Int)-intOf (f 7)).toNat) ⟨a+1,(NT _ _),(by omega),K,(M.trans Fx.ic),(N.trans Fx.ic),(O.trans Fx.ic),(C.trans Fx.ic),P,I⟩ ?_;rintro S w2 ⟨i,x,hi,t,u,k,j,L,o,s⟩;refine Ws<|Ws ?_;refine nM<|eG j<|eG k ?_;by_cases A:(i:Int)<(b:Int)
 ·refine Qv aG (fun l c=>gM A)<|aW aG<|eG t<|eG j<|Qv (pf g i) (fun l c=>dw 1)<|Qv (aD ((gA d) i)) (fun l c=>aL (o.cb c) i)<|eG t<|eG j<|Qv (au ((i:Int)-1)) (fun l c=>gQ)<|Qv (pf g (i-1)) (fun l c=>dw 1)<|Qv (aD ((gA d) (i-1))) (fun l c=>aL (o.cb c) (i-1)) ?_;by_cases q:(decide ((gA d) i<(gA d) (i-1)))=true
  ·refine qQ (fun _ _=>dS ((gA d) i) ((gA d) (i-1)) _) aG (by rw[q])<|aW aF<|aW aF<|Qn ?_;intro Y D;have G:=bf D o;have y:=eZ D s v;refine sN<|aK<|Wx<|bX<|gP<|bY<|sN<|Ws<|ay<|aU j<|aU k ?_;by_cases m:(i:Int)=(b:Int)
   ·refine Lv aG (eH m)<|aC<|aM<|ay<|av aG<|aC<|Wr<|sR<|bL<|sR<|pV<|bL<|sR<|aJ aG ?_;exact⟨true,rfl,(fun _=>by rw[show b=i by omega]; exact x),G,y⟩
   refine Lv aF (fC m)<|aC<|aK<|Wk<|sN<|Ws<|ay<|aU k<|aU u<|Lv (au ((b:Int)-(a:Int))) gQ<|Lv aG TJ<|aC<|aM<|ay<|av aF<|aC<|Wr<|sR<|bL<|sR<|pV<|bL<|sR<|aJ aF ?_;exact⟨false,rfl,(fun h=>nomatch h),G,y⟩
  rw[U_]at q;refine qQ (fun _ _=>dS ((gA d) i) ((gA d) (i-1)) _) aF (by rw[q])<|aW aG<|aW aG<|Qn ?_;intro Z E;have Q:=bf E o;have J:=eZ E s v;refine sN<|aM<|Wk<|sN<|Wb<|Wl<|aU j<|Lv (au ((i:Int)+1)) fA<|av (au ((i:Int)+1))<|Ln<|bP<|gW ⟨i+1,(Sort.SortedIn.snoc Sort.swo_ltInt x (yg (j_ q))),(by omega),t,(u.trans Fx.ic),(k.trans Fx.ic),Fx.ic,(L.trans Fx.ic),Q,J⟩ ?_;show((b:Int)-intOf (au ((i:Int)+1))).toNat<_;simp only[j,intOf]; omega
 refine Qv aF (fun l c=>gN A)<|aW aF<|aR<|aR<|aR<|aR<|aR<|aR<|aR<|aR<|aR<|aR<|aR<|aW aF<|Qn ?_;intro aa F;have H:=bf F o;have z:=eZ F s v;refine sN<|aK<|Wx<|bX<|gP<|bY<|sN<|Ws<|ay<|aU j<|aU k ?_;by_cases m:(i:Int)=(b:Int)
 ·refine Lv aG (eH m)<|aC<|aM<|ay<|av aG<|aC<|Wr<|sR<|bL<|sR<|pV<|bL<|sR<|aJ aG ?_;exact⟨true,rfl,(fun _=>by rw[show b=i by omega]; exact x),H,z⟩
 refine Lv aF (fC m)<|aC<|aK<|Wk<|sN<|Ws<|ay<|aU k<|aU u<|Lv (au ((b:Int)-(a:Int))) gQ<|Lv aG TJ<|aC<|aM<|ay<|av aF<|aC<|Wr<|sR<|bL<|sR<|pV<|bL<|sR<|aJ aF ?_;exact⟨false,rfl,(fun h=>nomatch h),H,z⟩
theorem amR(a b p:Nat)(B g n cap:Nat)(d:Array Int)(w:World)(h:Fx.Own w B 23 1 (bK g n cap) n (rv .u64 (gA d)))(o:B<=w.heap.size)(hn:d.size=n)(hs:n<=1000)(ha:a<=p)(hp:p<b)(hb:b<=n) :
 Calls Tryz.prog 183 #[bK g n cap,au (a:Int),au (b:Int),au (p:Int)] w fun e w' => ∃(mid:Nat) (V:Array Int),e = .returned (au (mid:Int))/\Sort.partitionEqual Sort.ltInt d a b p=(mid,V)/\V.size=n/\Fx.Own w' B 23 1 (bK g n cap) n (rv .u64 (gA V))/\Below B w w':=by
 refine Kent Tryz.func183 84 ?_;refine ay<|av (au 0)<|aC<|Ws ?_;refine kH [0,1,2,3,4,5,6,8,9,10,7,11,12,13,14,15] [0,0,0,0,0,0,0,4,0,0,0,4,0,3,0,3] [(13,7,[7]),(15,7,[7]),(13,11,[11]),(15,11,[11]),(14,13,[13]),(15,13,[13])] fun rE dR iK => ?_;have P:=bf dR h;have b1:=eZ dR (Below.refl B w) o;refine aX (bK g n cap)<|aX (au a)<|aX (bK g n cap)<|aX (au p)<|aX (bK g n cap)<|aX (au p)<|Rp (pf g p) (fun _=>dw 1)<|aX (bK g n cap)<|aX (au a)<|Rp (pf g a) (fun _=>dw 1)<|Rs (aD ((gA d) p)) (aL P.aH p) ?_;refine Rs (aD ((gA d) a)) (aL P.aH a) ?_;refine Rp (pf g a) (fun _=>dw 1)<|gZ<|qU P a (aD ((gA d) p)) fun w1 m2 s2 z1 => ?_;have b2:=s2.below b1 (m_ o b1.size) P.blk.1;refine Ln<|Rp (pf g p) (fun _=>dw 1)<|gZ<|qU m2 p (aD ((gA d) a)) fun w2 m3 s3 z2 => ?_;have b3:=s3.below b2 (m_ o b2.size) m2.blk.1;have m4:Fx.Own w2 B 23 1 (bK g n cap) n (rv .u64 (gA (Sort.swp d a p))):=m3.congr (iP hn (by omega) (by omega));refine Ln<|bS<|ay<|av (au a)<|Lv (au ((a:Int)+1)) fA<|av (au b)<|Lv (au ((b:Int)-1)) gQ<|av (au ((a:Int)+1))<|av (au ((b:Int)-1))<|aC<|Ws<|Wb<|Wo (fun f s => ∃ i:Nat,∃ j:Nat,∃ k:Array Int,k.size=n/\Sort.partEqLoop Sort.ltInt a i j k=Sort.partEqLoop Sort.ltInt a (a+1) (b-1) (Sort.swp d a p)/\(a<i/\j<b/\i<=b)/\f 0=bK g n cap/\f 1=au (a:Int)/\f 2=au (b:Int)/\f 9=au (i:Int)/\f 10=au (j:Int)/\Fx.Own s B 23 1 (bK g n cap) n (rv .u64 (gA k))/\Below B w s) (fun f _=>((b:Int)-intOf (f 9)).toNat) ⟨a+1,b-1,Sort.swp d a p,(fD hn _ _),rfl,(by omega),(by rfl),Fx.ic,Fx.ic,Fx.ic,Fx.ic,m4,b3⟩ ?_;rintro f1 w3 ⟨i,j,k,E,O,hij,h1,h2,h3,Y,h5,m5,b4⟩;refine Wb<|Ws<|Wb<|Wo (fun f s => ∃ c:Nat,Sort.partEqLoop Sort.ltInt a c j k=Sort.partEqLoop Sort.ltInt a i j k/\(i<=c/\c<=b)/\f 0=bK g n cap/\f 1=au (a:Int)/\f 2=au (b:Int)/\f 9=au (c:Int)/\f 10=au (j:Int)/\Fx.Own s B 23 1 (bK g n cap) n (rv .u64 (gA k))/\Below B w s) (fun f _=>((j:Int)+1-intOf (f 9)).toNat) ⟨i,rfl,(by omega),h1,(h2.trans Fx.ic),(h3.trans Fx.ic),(Y.trans Fx.ic),(h5.trans Fx.ic),m5,b4⟩ ?_;rintro f2 w4 ⟨c,I,hi2,H,N,Z,D,M,K,T⟩;refine Ws<|Ws ?_;refine nM<|eG D<|eG M ?_;by_cases c31:(c:Int)<=(j:Int)
 ·refine Qv aG (fun q m=>nL c31)<|aW aG<|eG H<|eG N<|Qv (pf g a) (fun q m=>dw 1)<|Qv (aD ((gA k) a)) (fun q m=>aL (K.cb m) a)<|eG H<|eG D<|Qv (pf g c) (fun q m=>dw 1)<|Qv (aD ((gA k) c)) (fun q m=>aL (K.cb m) c) ?_;by_cases F:(decide ((gA k) a<(gA k) c))=true
  ·refine qQ (fun _ _=>dS ((gA k) a) ((gA k) c) _) aG (by rw[F])<|aW aF<|aW aF<|Qn ?_;intro YL uO;have m7:=bf uO K;have b6:=eZ uO T o;refine sN<|aK<|Wx<|bX<|gP<|bY<|sN<|Ws<|Wb<|Wo (fun f s => ∃ l:Nat,Sort.partEqLoop Sort.ltInt a c l k=Sort.partEqLoop Sort.ltInt a c j k/\(l<c\/gA k a<gA k c)/\l<=j/\f 0=bK g n cap/\f 1=au (a:Int)/\f 2=au (b:Int)/\f 9=au (c:Int)/\f 10=au (l:Int)/\Fx.Own s B 23 1 (bK g n cap) n (rv .u64 (gA k))/\Below B w s) (fun f _=>(intOf (f 10)).toNat) ⟨j,rfl,(.inr (h_ F)),(by omega),H,(N.trans Fx.ic),(Z.trans Fx.ic),(D.trans Fx.ic),(M.trans Fx.ic),m7,b6⟩ ?_;rintro f3 w5 ⟨l,A,C,hj2,v,W,Rl,x,t,L,U⟩;refine Ws<|Ws ?_;refine nM<|eG x<|eG t ?_;by_cases G:(c:Int)<=(l:Int)
   ·refine Qv aG (fun q m=>nL G)<|aW aG<|eG v<|eG W<|Qv (pf g a) (fun q m=>dw 1)<|Qv (aD ((gA k) a)) (fun q m=>aL (L.cb m) a)<|eG v<|eG t<|Qv (pf g l) (fun q m=>dw 1)<|Qv (aD ((gA k) l)) (fun q m=>aL (L.cb m) l) ?_;by_cases r:(decide ((gA k) a<(gA k) l))=true
    ·refine qQ (fun _ _=>dS ((gA k) a) ((gA k) l) _) aG (by rw[r])<|aW aG<|Qn ?_;intro wb2 yh;have m9:=bf yh L;have b8:=eZ yh U o;refine sN<|aM<|Wk<|sN<|Wb<|Wl<|aU t<|Lv (au ((l:Int)-1)) gQ<|av (au ((l:Int)-1))<|Ln<|bP<|gW ⟨l-1,((abr (by omega) (by omega) (C.resolve_left (by omega)) (h_ r)).trans A),(C.elim (fun h => .inl (by omega)) .inr),(by omega),v,(W.trans Fx.ic),(Rl.trans Fx.ic),(x.trans Fx.ic),Fx.ic,m9,b8⟩ ?_;show(intOf (au ((l:Int)-1))).toNat<_;simp only[t,intOf]; omega
    rw[U_]at r;refine qQ (fun _ _=>dS ((gA k) a) ((gA k) l) _) aF (by rw[r])<|aW aF<|Qn ?_;intro wb3 yj;have m10:=bf yj L;have b9:=eZ yj U o;refine sN<|aK<|Wx<|bX<|gP<|bY<|sN<|Ws<|ay<|aU x<|aU t<|Lv aF yO<|aC<|aK<|Wk<|sN<|Ws ?_;refine kH [0,1,2,3,4,5,6,8,9,10,7,11,12,13,14,15] [0,0,0,0,0,0,0,4,0,0,0,4,0,3,0,3] [(13,7,[7]),(15,7,[7]),(13,11,[11]),(15,11,[11]),(14,13,[13]),(15,13,[13])] fun CJ gJ nZ => ?_;have Q:=bf gJ m10;have b10:=eZ gJ b9 o;refine bZ v<|bZ x<|bZ v<|bZ t<|bZ v<|bZ t<|Rp (pf g l) (fun _=>dw 1)<|bZ v<|bZ x<|Rp (pf g c) (fun _=>dw 1)<|Rs (aD ((gA k) l)) (aL Q.aH l) ?_;refine Rs (aD ((gA k) c)) (aL Q.aH c) ?_;refine Rp (pf g c) (fun _=>dw 1)<|gZ<|qU Q c (aD ((gA k) l)) fun w6 m12 s8 z3 => ?_;have b11:=s8.below b10 (m_ o b10.size) Q.blk.1;refine Ln<|Rp (pf g l) (fun _=>dw 1)<|gZ<|qU m12 l (aD ((gA k) c)) fun w7 m13 s9 z4 => ?_;have b12:=s9.below b11 (m_ o b11.size) m12.blk.1;have m14:Fx.Own w7 B 23 1 (bK g n cap) n (rv .u64 (gA (Sort.swp k c l))):=m13.congr (iP E (by omega) (by omega));refine Ln<|bS<|ay<|aU x<|Lv (au ((c:Int)+1)) fA<|av (au ((c:Int)+1))<|aC<|Wl<|aU t<|Lv (au ((l:Int)-1)) gQ<|av (au ((l:Int)-1))<|Ln<|bP<|gW ⟨c+1,l-1,Sort.swp k c l,(fD E _ _),((abt (by omega) (C.resolve_left (by omega)) (j_ r)).trans (A.trans (I.trans O))),(by omega),v,(W.trans Fx.ic),(Rl.trans Fx.ic),Fx.ic,Fx.ic,m14,b12⟩ ?_;show((b:Int)-intOf (au ((c:Int)+1))).toNat<_;simp only[Y,intOf]; omega
   refine Qv aF (fun q m=>ow G)<|aW aF<|aR<|aR<|aR<|aR<|aR<|aR<|aR<|aR<|aR<|aW aF<|Qn ?_;intro wb4 BH;have m15:=bf BH L;have b13:=eZ BH U o;refine sN<|aK<|Wx<|bX<|gP<|bY<|sN<|Ws<|ay<|aU x<|aU t<|Lv aG DT<|aC<|aM<|Wx<|bX<|Fx.Ny rfl<|gP<|bY<|sN<|ay<|aU x<|av (au c)<|aC<|Wr<|aJ (au c) ?_;exact⟨c,k,rfl,O.symm.trans (I.symm.trans (A.symm.trans (Uh (by omega)))),E,m15,b13⟩
  rw[U_]at F;refine qQ (fun _ _=>dS ((gA k) a) ((gA k) c) _) aF (by rw[F])<|aW aG<|aW aG<|Qn ?_;intro wb5 FJ;have m16:=bf FJ K;have b14:=eZ FJ T o;refine sN<|aM<|Wk<|sN<|Wb<|Wl<|aU D<|Lv (au ((c:Int)+1)) fA<|av (au ((c:Int)+1))<|Ln<|bP<|gW ⟨c+1,((ahy (by omega) (j_ F)).trans I),(by omega),H,(N.trans Fx.ic),(Z.trans Fx.ic),Fx.ic,(M.trans Fx.ic),m16,b14⟩ ?_;show((j:Int)+1-intOf (au ((c:Int)+1))).toNat<_;simp only[D,intOf]; omega
 refine Qv aF (fun q m=>ow c31)<|aW aF<|aR<|aR<|aR<|aR<|aR<|aR<|aR<|aR<|aR<|aR<|aW aF<|Qn ?_;intro wb6 Li;have m17:=bf Li K;have b15:=eZ Li T o;refine sN<|aK<|Wx<|bX<|gP<|bY<|sN<|Ws<|Wb<|Wo (fun f s => ∃ l:Nat,Sort.partEqLoop Sort.ltInt a c l k=Sort.partEqLoop Sort.ltInt a c j k/\(l<c\/gA k a<gA k c)/\l<=j/\f 0=bK g n cap/\f 1=au (a:Int)/\f 2=au (b:Int)/\f 9=au (c:Int)/\f 10=au (l:Int)/\Fx.Own s B 23 1 (bK g n cap) n (rv .u64 (gA k))/\Below B w s) (fun f _=>(intOf (f 10)).toNat) ⟨j,rfl,(.inl (by omega)),(by omega),H,(N.trans Fx.ic),(Z.trans Fx.ic),(D.trans Fx.ic),(M.trans Fx.ic),m17,b15⟩ ?_;rintro f4 w8 ⟨l,A,C,hj2,y,X,h18,z,u,J,S⟩;refine Ws<|Ws ?_;refine nM<|eG z<|eG u ?_;by_cases G:(c:Int)<=(l:Int)
 ·refine Qv aG (fun q m=>nL G)<|aW aG<|eG y<|eG X<|Qv (pf g a) (fun q m=>dw 1)<|Qv (aD ((gA k) a)) (fun q m=>aL (J.cb m) a)<|eG y<|eG u<|Qv (pf g l) (fun q m=>dw 1)<|Qv (aD ((gA k) l)) (fun q m=>aL (J.cb m) l) ?_;by_cases r:(decide ((gA k) a<(gA k) l))=true
  ·refine qQ (fun _ _=>dS ((gA k) a) ((gA k) l) _) aG (by rw[r])<|aW aG<|Qn ?_;intro wb7 Lj;have m19:=bf Lj J;have b17:=eZ Lj S o;refine sN<|aM<|Wk<|sN<|Wb<|Wl<|aU u<|Lv (au ((l:Int)-1)) gQ<|av (au ((l:Int)-1))<|Ln<|bP<|gW ⟨l-1,((abr (by omega) (by omega) (C.resolve_left (by omega)) (h_ r)).trans A),(C.elim (fun h => .inl (by omega)) .inr),(by omega),y,(X.trans Fx.ic),(h18.trans Fx.ic),(z.trans Fx.ic),Fx.ic,m19,b17⟩ ?_;show(intOf (au ((l:Int)-1))).toNat<_;simp only[u,intOf]; omega
  rw[U_]at r;refine qQ (fun _ _=>dS ((gA k) a) ((gA k) l) _) aF (by rw[r])<|aW aF<|Qn ?_;intro wb8 Ll;have m20:=bf Ll J;have b18:=eZ Ll S o;refine sN<|aK<|Wx<|bX<|gP<|bY<|sN<|Ws<|ay<|aU z<|aU u<|Lv aF yO<|aC<|aK<|Wk<|sN<|Ws ?_;refine kH [0,1,2,3,4,5,6,8,9,10,7,11,12,13,14,15] [0,0,0,0,0,0,0,4,0,0,0,4,0,3,0,3] [(13,7,[7]),(15,7,[7]),(13,11,[11]),(15,11,[11]),(14,13,[13]),(15,13,[13])] fun SS mQ BG => ?_;have R:=bf mQ m20;have b19:=eZ mQ b18 o;refine bZ y<|bZ z<|bZ y<|bZ u<|bZ y<|bZ u<|Rp (pf g l) (fun _=>dw 1)<|bZ y<|bZ z<|Rp (pf g c) (fun _=>dw 1)<|Rs (aD ((gA k) l)) (aL R.aH l) ?_;refine Rs (aD ((gA k) c)) (aL R.aH c) ?_;refine Rp (pf g c) (fun _=>dw 1)<|gZ<|qU R c (aD ((gA k) l)) fun w9 m22 s16 z5 => ?_;have b20:=s16.below b19 (m_ o b19.size) R.blk.1;refine Ln<|Rp (pf g l) (fun _=>dw 1)<|gZ<|qU m22 l (aD ((gA k) c)) fun pJ m23 KC z6 => ?_;have NU:=KC.below b20 (m_ o b20.size) m22.blk.1;have m24:Fx.Own pJ B 23 1 (bK g n cap) n (rv .u64 (gA (Sort.swp k c l))):=m23.congr (iP E (by omega) (by omega));refine Ln<|bS<|ay<|aU z<|Lv (au ((c:Int)+1)) fA<|av (au ((c:Int)+1))<|aC<|Wl<|aU u<|Lv (au ((l:Int)-1)) gQ<|av (au ((l:Int)-1))<|Ln<|bP<|gW ⟨c+1,l-1,Sort.swp k c l,(fD E _ _),((abt (by omega) (C.resolve_left (by omega)) (j_ r)).trans (A.trans (I.trans O))),(by omega),y,(X.trans Fx.ic),(h18.trans Fx.ic),Fx.ic,Fx.ic,m24,NU⟩ ?_;show((b:Int)-intOf (au ((c:Int)+1))).toNat<_;simp only[Y,intOf]; omega
 refine Qv aF (fun q m=>ow G)<|aW aF<|aR<|aR<|aR<|aR<|aR<|aR<|aR<|aR<|aR<|aW aF<|Qn ?_;intro wb9 Lm;have mZ:=bf Lm J;have PL:=eZ Lm S o;refine sN<|aK<|Wx<|bX<|gP<|bY<|sN<|Ws<|ay<|aU z<|aU u<|Lv aG DT<|aC<|aM<|Wx<|bX<|Fx.Ny rfl<|gP<|bY<|sN<|ay<|aU z<|av (au c)<|aC<|Wr<|aJ (au c) ?_;exact⟨c,k,rfl,O.symm.trans (I.symm.trans (A.symm.trans (Uh (by omega)))),E,mZ,PL⟩
theorem ahI(a b p:Nat)(B g n cap:Nat)(d:Array Int)(w:World)(h:Fx.Own w B 23 1 (bK g n cap) n (rv .u64 (gA d)))(q:B<=w.heap.size)(Q:d.size=n)(hs:n<=1000)(ha:a<=p)(hp:p<b)(hb:b<=n) :
 Calls Tryz.prog 184 #[bK g n cap,au (a:Int),au (b:Int),au (p:Int)] w fun e w' => ∃(mid:Nat) (ap:Bool) (d4:Array Int),e = .returned (.tuple #[au (mid:Int),.bool ap])/\(Sort.partition Sort.ltInt d a b p).1=mid/\(Sort.partition Sort.ltInt d a b p).2.2=d4/\d4.size=n/\Fx.Own w' B 23 1 (bK g n cap) n (rv .u64 (gA d4))/\Below B w w':=by
 refine Kent Tryz.func184 168 ?_;refine ay<|av (au 0)<|av aF<|aC<|Ws ?_;refine kH [0,1,2,3,4,5,6,8,9,10,7,11,12,13,14,15] [0,0,0,0,0,0,0,4,0,0,0,4,0,3,0,3] [(13,7,[7]),(15,7,[7]),(13,11,[11]),(15,11,[11]),(14,13,[13]),(15,13,[13])] fun rE dR iK => ?_;have m1:=bf dR h;have b1:=eZ dR (Below.refl B w) q;refine aX (bK g n cap)<|aX (au a)<|aX (bK g n cap)<|aX (au p)<|aX (bK g n cap)<|aX (au p)<|Rp (pf g p) (fun _=>dw 1)<|aX (bK g n cap)<|aX (au a)<|Rp (pf g a) (fun _=>dw 1)<|Rs (aD ((gA d) p)) (aL m1.aH p) ?_;refine Rs (aD ((gA d) a)) (aL m1.aH a) ?_;refine Rp (pf g a) (fun _=>dw 1)<|gZ<|qU m1 a (aD ((gA d) p)) fun w1 m2 s2 z1 => ?_;have b2:=s2.below b1 (m_ q b1.size) m1.blk.1;refine Ln<|Rp (pf g p) (fun _=>dw 1)<|gZ<|qU m2 p (aD ((gA d) a)) fun w2 m3 s3 z2 => ?_;have b3:=s3.below b2 (m_ q b2.size) m2.blk.1;have m4:Fx.Own w2 B 23 1 (bK g n cap) n (rv .u64 (gA (Sort.swp d a p))):=m3.congr (iP Q (by omega) (by omega));refine Ln<|bS<|ay<|av (au a)<|Lv (au ((a:Int)+1)) fA<|av (au b)<|Lv (au ((b:Int)-1)) gQ<|av (au ((a:Int)+1))<|av (au ((b:Int)-1))<|aC<|Ws<|Wb<|Wo (fun f t => ∃ s:Nat,Sort.partLoop Sort.ltInt a s (b-1) (Sort.swp d a p)=Sort.partLoop Sort.ltInt a (a+1) (b-1) (Sort.swp d a p)/\(a+1<=s/\s<=b)/\f 0=bK g n cap/\f 1=au (a:Int)/\f 2=au (b:Int)/\f 10=au (s:Int)/\f 11=au ((b:Int)-1)/\Fx.Own t B 23 1 (bK g n cap) n (rv .u64 (gA (Sort.swp d a p)))/\Below B w t) (fun f _=>((b:Int)-intOf (f 10)).toNat) ⟨a+1,rfl,(by omega),(by rfl),Fx.ic,Fx.ic,Fx.ic,Fx.ic,m4,b3⟩ ?_;rintro f1 w3 ⟨s,hY0,avG,h1,h2,h3,h4,h5,m5,b4⟩;refine Ws<|Ws ?_;refine nM<|eG h4<|eG h5 ?_;by_cases c32:(s:Int)<=((b:Int)-1)
 ·refine Qv aG (fun r o=>nL c32)<|aW aG<|eG h1<|eG h4<|Qv (pf g s) (fun r o=>dw 1)<|Qv (aD ((gA (Sort.swp d a p)) s)) (fun r o=>aL (m5.cb o) s)<|eG h1<|eG h2<|Qv (pf g a) (fun r o=>dw 1)<|Qv (aD ((gA (Sort.swp d a p)) a)) (fun r o=>aL (m5.cb o) a) ?_;by_cases Uk:(decide ((gA (Sort.swp d a p)) s<(gA (Sort.swp d a p)) a))=true
  ·refine qQ (fun _ _=>dS ((gA (Sort.swp d a p)) s) ((gA (Sort.swp d a p)) a) _) aG (by rw[Uk])<|aW aG<|Qn ?_;intro YL uO;have m6:=bf uO m5;have b5:=eZ uO b4 q;refine sN<|aM<|Wk<|sN<|Wb<|Wl<|aU h4<|Lv (au ((s:Int)+1)) fA<|av (au ((s:Int)+1))<|Ln<|bP<|gW ⟨s+1,((Ug (by omega) (h_ Uk)).trans hY0),(by omega),h1,(h2.trans Fx.ic),(h3.trans Fx.ic),Fx.ic,(h5.trans Fx.ic),m6,b5⟩ ?_;show((b:Int)-intOf (au ((s:Int)+1))).toNat<_;simp only[h4,intOf]; omega
  rw[U_]at Uk;refine qQ (fun _ _=>dS ((gA (Sort.swp d a p)) s) ((gA (Sort.swp d a p)) a) _) aF (by rw[Uk])<|aW aF<|Qn ?_;intro wb2 yh;have m7:=bf yh m5;have b6:=eZ yh b4 q;refine sN<|aK<|Wx<|bX<|gP<|bY<|sN<|Ws<|Wb<|Wo (fun f t => ∃ m:Nat,Sort.partLoop Sort.ltInt a s m (Sort.swp d a p)=Sort.partLoop Sort.ltInt a (a+1) (b-1) (Sort.swp d a p)/\(m<s \/ ¬ gA (Sort.swp d a p) s<gA (Sort.swp d a p) a)/\(m<b/\m<=b)/\f 0=bK g n cap/\f 1=au (a:Int)/\f 2=au (b:Int)/\f 10=au (s:Int)/\f 11=au (m:Int)/\Fx.Own t B 23 1 (bK g n cap) n (rv .u64 (gA (Sort.swp d a p)))/\Below B w t) (fun f _=>(intOf (f 11)).toNat) ⟨b-1,hY0,(.inr (j_ Uk)),(by omega),h1,(h2.trans Fx.ic),(h3.trans Fx.ic),(h4.trans Fx.ic),(h5.trans Fx.ic),m7,b6⟩ ?_;rintro f2 w4 ⟨m,Y,Z,amS,M,h7,h8,W,A,m8,b7⟩;refine Ws<|Ws ?_;refine nM<|eG W<|eG A ?_;by_cases c48:(s:Int)<=(m:Int)
  ·refine Qv aG (fun r o=>nL c48)<|aW aG<|eG M<|eG A<|Qv (pf g m) (fun r o=>dw 1)<|Qv (aD ((gA (Sort.swp d a p)) m)) (fun r o=>aL (m8.cb o) m)<|eG M<|eG h7<|Qv (pf g a) (fun r o=>dw 1)<|Qv (aD ((gA (Sort.swp d a p)) a)) (fun r o=>aL (m8.cb o) a) ?_;by_cases P:(decide ((gA (Sort.swp d a p)) m<(gA (Sort.swp d a p)) a))=true
   ·refine qQ (fun _ _=>dS ((gA (Sort.swp d a p)) m) ((gA (Sort.swp d a p)) a) _) aG (by rw[P])<|aW aF<|aW aF<|Qn ?_;intro wb3 yj;have m9:=bf yj m8;have b8:=eZ yj b7 q;refine sN<|aK<|Wx<|bX<|gP<|bY<|sN<|Ws<|ay<|aU W<|aU A<|Lv aF yO<|aC<|aK<|Wk<|sN<|Ws ?_;refine kH [0,1,2,3,4,5,6,8,9,10,7,11,12,13,14,15] [0,0,0,0,0,0,0,4,0,0,0,4,0,3,0,3] [(13,7,[7]),(15,7,[7]),(13,11,[11]),(15,11,[11]),(14,13,[13]),(15,13,[13])] fun CJ gJ nZ => ?_;have m10:=bf gJ m9;have b9:=eZ gJ b8 q;refine bZ M<|bZ W<|bZ M<|bZ A<|bZ M<|bZ A<|Rp (pf g m) (fun _=>dw 1)<|bZ M<|bZ W<|Rp (pf g s) (fun _=>dw 1)<|Rs (aD ((gA (Sort.swp d a p)) m)) (aL m10.aH m) ?_;refine Rs (aD ((gA (Sort.swp d a p)) s)) (aL m10.aH s) ?_;refine Rp (pf g s) (fun _=>dw 1)<|gZ<|qU m10 s (aD ((gA (Sort.swp d a p)) m)) fun w5 m11 s8 z3 => ?_;have b10:=s8.below b9 (m_ q b9.size) m10.blk.1;refine Ln<|Rp (pf g m) (fun _=>dw 1)<|gZ<|qU m11 m (aD ((gA (Sort.swp d a p)) s)) fun w6 m12 s9 z4 => ?_;have b11:=s9.below b10 (m_ q b10.size) m11.blk.1;have m13:Fx.Own w6 B 23 1 (bK g n cap) n (rv .u64 (gA (Sort.swp (Sort.swp d a p) s m))):=m12.congr (iP (fD Q _ _) (by omega) (by omega));refine Ln<|bS<|ay<|aU W<|Lv (au ((s:Int)+1)) fA<|av (au ((s:Int)+1))<|aC<|ay<|aU A<|Lv (au ((m:Int)-1)) gQ<|av (au ((m:Int)-1))<|aC<|Ws<|Wb<|Wo (fun f t => ∃ i:Nat,∃ j:Nat,∃ k:Array Int,k.size=n/\Sort.partLoop Sort.ltInt a i j k=Sort.partLoop Sort.ltInt a (a+1) (b-1) (Sort.swp d a p)/\(a<i/\j<b/\i<=b)/\f 0=bK g n cap/\f 1=au (a:Int)/\f 2=au (b:Int)/\f 10=au (i:Int)/\f 11=au (j:Int)/\Fx.Own t B 23 1 (bK g n cap) n (rv .u64 (gA k))/\Below B w t) (fun f _=>((b:Int)-intOf (f 10)).toNat) ⟨s+1,m-1,Sort.swp (Sort.swp d a p) s m,(fD (fD Q _ _) _ _),((Iw (by omega) (Z.resolve_left (by omega)) (h_ P)).trans Y),(by omega),M,(h7.trans Fx.ic),(h8.trans Fx.ic),Fx.ic,Fx.ic,m13,b11⟩ ?_;rintro f3 w7 ⟨i,j,k,x,hX,hij,h11,h12,Rl,SV,Ym,m14,b12⟩;refine Wb<|Ws<|Wb<|Wo (fun f t => ∃ l:Nat,Sort.partLoop Sort.ltInt a l j k=Sort.partLoop Sort.ltInt a (a+1) (b-1) (Sort.swp d a p)/\(i<=l/\l<=b)/\f 0=bK g n cap/\f 1=au (a:Int)/\f 2=au (b:Int)/\f 10=au (l:Int)/\f 11=au (j:Int)/\Fx.Own t B 23 1 (bK g n cap) n (rv .u64 (gA k))/\Below B w t) (fun f _=>((b:Int)-intOf (f 10)).toNat) ⟨i,hX,(by omega),h11,(h12.trans Fx.ic),(Rl.trans Fx.ic),(SV.trans Fx.ic),(Ym.trans Fx.ic),m14,b12⟩ ?_;rintro f4 w8 ⟨l,X,amT,h16,PN,h18,aa,h20,m15,b13⟩;refine Ws<|Ws ?_;refine nM<|eG aa<|eG h20 ?_;by_cases Ul:(l:Int)<=(j:Int)
    ·refine Qv aG (fun r o=>nL Ul)<|aW aG<|eG h16<|eG aa<|Qv (pf g l) (fun r o=>dw 1)<|Qv (aD ((gA k) l)) (fun r o=>aL (m15.cb o) l)<|eG h16<|eG PN<|Qv (pf g a) (fun r o=>dw 1)<|Qv (aD ((gA k) a)) (fun r o=>aL (m15.cb o) a) ?_;by_cases N:(decide ((gA k) l<(gA k) a))=true
     ·refine qQ (fun _ _=>dS ((gA k) l) ((gA k) a) _) aG (by rw[N])<|aW aG<|Qn ?_;intro wb4 BH;have m16:=bf BH m15;have b14:=eZ BH b13 q;refine sN<|aM<|Wk<|sN<|Wb<|Wl<|aU aa<|Lv (au ((l:Int)+1)) fA<|av (au ((l:Int)+1))<|Ln<|bP<|gW ⟨l+1,((Ug (by omega) (h_ N)).trans X),(by omega),h16,(PN.trans Fx.ic),(h18.trans Fx.ic),Fx.ic,(h20.trans Fx.ic),m16,b14⟩ ?_;show((b:Int)-intOf (au ((l:Int)+1))).toNat<_;simp only[aa,intOf]; omega
     rw[U_]at N;refine qQ (fun _ _=>dS ((gA k) l) ((gA k) a) _) aF (by rw[N])<|aW aF<|Qn ?_;intro wb5 FJ;have m17:=bf FJ m15;have b15:=eZ FJ b13 q;refine sN<|aK<|Wx<|bX<|gP<|bY<|sN<|Ws<|Wb<|Wo (fun f t => ∃ c:Nat,Sort.partLoop Sort.ltInt a l c k=Sort.partLoop Sort.ltInt a (a+1) (b-1) (Sort.swp d a p)/\(c<l \/ ¬ gA k l<gA k a)/\(c<b/\c<=j)/\f 0=bK g n cap/\f 1=au (a:Int)/\f 2=au (b:Int)/\f 10=au (l:Int)/\f 11=au (c:Int)/\Fx.Own t B 23 1 (bK g n cap) n (rv .u64 (gA k))/\Below B w t) (fun f _=>(intOf (f 11)).toNat) ⟨j,X,(.inr (j_ N)),(by omega),h16,(PN.trans Fx.ic),(h18.trans Fx.ic),(aa.trans Fx.ic),(h20.trans Fx.ic),m17,b15⟩ ?_;rintro f5 w9 ⟨c,y,z,ado,C,h22,h23,R,D,m18,b16⟩;refine Ws<|Ws ?_;refine nM<|eG R<|eG D ?_;by_cases O:(l:Int)<=(c:Int)
     ·refine Qv aG (fun r o=>nL O)<|aW aG<|eG C<|eG D<|Qv (pf g c) (fun r o=>dw 1)<|Qv (aD ((gA k) c)) (fun r o=>aL (m18.cb o) c)<|eG C<|eG h22<|Qv (pf g a) (fun r o=>dw 1)<|Qv (aD ((gA k) a)) (fun r o=>aL (m18.cb o) a) ?_;by_cases u:(decide ((gA k) c<(gA k) a))=true
      ·refine qQ (fun _ _=>dS ((gA k) c) ((gA k) a) _) aG (by rw[u])<|aW aF<|aW aF<|Qn ?_;intro wb6 Li;have m19:=bf Li m18;have b17:=eZ Li b16 q;refine sN<|aK<|Wx<|bX<|gP<|bY<|sN<|Ws<|ay<|aU R<|aU D<|Lv aF yO<|aC<|aK<|Wk<|sN<|Ws ?_;refine kH [0,1,2,3,4,5,6,8,9,10,7,11,12,13,14,15] [0,0,0,0,0,0,0,4,0,0,0,4,0,3,0,3] [(13,7,[7]),(15,7,[7]),(13,11,[11]),(15,11,[11]),(14,13,[13]),(15,13,[13])] fun SS mQ BG => ?_;have m20:=bf mQ m19;have b18:=eZ mQ b17 q;refine bZ C<|bZ R<|bZ C<|bZ D<|bZ C<|bZ D<|Rp (pf g c) (fun _=>dw 1)<|bZ C<|bZ R<|Rp (pf g l) (fun _=>dw 1)<|Rs (aD ((gA k) c)) (aL m20.aH c) ?_;refine Rs (aD ((gA k) l)) (aL m20.aH l) ?_;refine Rp (pf g l) (fun _=>dw 1)<|gZ<|qU m20 l (aD ((gA k) c)) fun pJ m21 Cr z5 => ?_;have b19:=Cr.below b18 (m_ q b18.size) m20.blk.1;refine Ln<|Rp (pf g c) (fun _=>dw 1)<|gZ<|qU m21 c (aD ((gA k) l)) fun DV m22 s15 z6 => ?_;have b20:=s15.below b19 (m_ q b19.size) m21.blk.1;have m23:Fx.Own DV B 23 1 (bK g n cap) n (rv .u64 (gA (Sort.swp k l c))):=m22.congr (iP x (by omega) (by omega));refine Ln<|bS<|ay<|aU R<|Lv (au ((l:Int)+1)) fA<|av (au ((l:Int)+1))<|aC<|Wl<|aU D<|Lv (au ((c:Int)-1)) gQ<|av (au ((c:Int)-1))<|Ln<|bP<|gW ⟨l+1,c-1,Sort.swp k l c,(fD x _ _),((Iw (by omega) (z.resolve_left (by omega)) (h_ u)).trans y),(by omega),C,(h22.trans Fx.ic),(h23.trans Fx.ic),Fx.ic,Fx.ic,m23,b20⟩ ?_;show((b:Int)-intOf (au ((l:Int)+1))).toNat<_;simp only[SV,intOf]; omega
      rw[U_]at u;refine qQ (fun _ _=>dS ((gA k) c) ((gA k) a) _) aF (by rw[u])<|aW aG<|aW aG<|Qn ?_;intro wb7 Lj;have m24:=bf Lj m18;have NU:=eZ Lj b16 q;refine sN<|aM<|Wk<|sN<|Wb<|Wl<|aU D<|Lv (au ((c:Int)-1)) gQ<|av (au ((c:Int)-1))<|Ln<|bP<|gW ⟨c-1,((Iu (by omega) (by omega) (z.resolve_left (by omega)) (j_ u)).trans y),(z.elim (fun h => .inl (by omega)) .inr),(by omega),C,(h22.trans Fx.ic),(h23.trans Fx.ic),(R.trans Fx.ic),Fx.ic,m24,NU⟩ ?_;show(intOf (au ((c:Int)-1))).toNat<_;simp only[D,intOf]; omega
     refine Qv aF (fun r o=>ow O)<|aW aF<|aR<|aR<|aR<|aR<|aR<|aR<|aR<|aR<|aR<|aR<|aW aF<|Qn ?_;intro wb8 Ll;have mZ:=bf Ll m18;have PL:=eZ Ll b16 q;refine sN<|aK<|Wx<|bX<|gP<|bY<|sN<|Ws<|ay<|aU R<|aU D<|Lv aG DT<|aC<|aM<|Wx<|bX<|Fx.Ny rfl<|gP<|bY<|sN<|Ws ?_;refine kH [0,1,2,3,4,5,6,8,9,10,7,11,12,13,14,15] [0,0,0,0,0,0,0,4,0,0,0,4,0,3,0,3] [(13,7,[7]),(15,7,[7]),(13,11,[11]),(15,11,[11]),(14,13,[13]),(15,13,[13])] fun wt4 rU Iy => ?_;have nQ:=bf rU mZ;have YN:=eZ rU PL q;refine bZ C<|bZ D<|bZ C<|bZ h22<|bZ C<|bZ h22<|Rp (pf g a) (fun _=>dw 1)<|bZ C<|bZ D<|Rp (pf g c) (fun _=>dw 1)<|Rs (aD ((gA k) a)) (aL nQ.aH a) ?_;refine Rs (aD ((gA k) c)) (aL nQ.aH c) ?_;refine Rp (pf g c) (fun _=>dw 1)<|gZ<|qU nQ c (aD ((gA k) a)) fun Ct nH s19 z7 => ?_;have YO:=s19.below YN (m_ q YN.size) nQ.blk.1;refine Ln<|Rp (pf g a) (fun _=>dw 1)<|gZ<|qU nH a (aD ((gA k) c)) fun EM og s20 z8 => ?_;have b25:=s20.below YO (m_ q YO.size) nH.blk.1;have oh:Fx.Own EM B 23 1 (bK g n cap) n (rv .u64 (gA (Sort.swp k c a))):=og.congr (iP x (by omega) (by omega));refine Ln<|bS<|ay<|aU D<|av (au c)<|av aF<|aC<|Wr<|aJ (.tuple #[au (c:Int),.bool false]) ?_;have v:=y.symm.trans (CG (by omega));exact⟨c,false,_,rfl,by rw[Sort.partition_fst,v],by rw[Sort.partition_arr,v],(fD x _ _),oh,b25⟩
    refine Qv aF (fun r o=>ow Ul)<|aW aF<|aR<|aR<|aR<|aR<|aR<|aR<|aR<|aR<|aR<|aW aF<|Qn ?_;intro wb9 Lm;have oD:=bf Lm m15;have b26:=eZ Lm b13 q;refine sN<|aK<|Wx<|bX<|gP<|bY<|sN<|Ws<|Wb<|Wo (fun f t => ∃ c:Nat,Sort.partLoop Sort.ltInt a l c k=Sort.partLoop Sort.ltInt a (a+1) (b-1) (Sort.swp d a p)/\(c<l \/ ¬ gA k l<gA k a)/\(c<b/\c<=j)/\f 0=bK g n cap/\f 1=au (a:Int)/\f 2=au (b:Int)/\f 10=au (l:Int)/\f 11=au (c:Int)/\Fx.Own t B 23 1 (bK g n cap) n (rv .u64 (gA k))/\Below B w t) (fun f _=>(intOf (f 11)).toNat) ⟨j,X,(.inl (by omega)),(by omega),h16,(PN.trans Fx.ic),(h18.trans Fx.ic),(aa.trans Fx.ic),(h20.trans Fx.ic),oD,b26⟩ ?_;rintro f6 KD ⟨c,y,z,ado,E,h27,h28,S,F,lI,b27⟩;refine Ws<|Ws ?_;refine nM<|eG S<|eG F ?_;by_cases O:(l:Int)<=(c:Int)
    ·refine Qv aG (fun r o=>nL O)<|aW aG<|eG E<|eG F<|Qv (pf g c) (fun r o=>dw 1)<|Qv (aD ((gA k) c)) (fun r o=>aL (lI.cb o) c)<|eG E<|eG h27<|Qv (pf g a) (fun r o=>dw 1)<|Qv (aD ((gA k) a)) (fun r o=>aL (lI.cb o) a) ?_;by_cases u:(decide ((gA k) c<(gA k) a))=true
     ·refine qQ (fun _ _=>dS ((gA k) c) ((gA k) a) _) aG (by rw[u])<|aW aF<|aW aF<|Qn ?_;intro avH Um;have m32:=bf Um lI;have b28:=eZ Um b27 q;refine sN<|aK<|Wx<|bX<|gP<|bY<|sN<|Ws<|ay<|aU S<|aU F<|Lv aF yO<|aC<|aK<|Wk<|sN<|Ws ?_;refine kH [0,1,2,3,4,5,6,8,9,10,7,11,12,13,14,15] [0,0,0,0,0,0,0,4,0,0,0,4,0,3,0,3] [(13,7,[7]),(15,7,[7]),(13,11,[11]),(15,11,[11]),(14,13,[13]),(15,13,[13])] fun wt5 Ao Un => ?_;have pE:=bf Ao m32;have b29:=eZ Ao b28 q;refine bZ E<|bZ S<|bZ E<|bZ F<|bZ E<|bZ F<|Rp (pf g c) (fun _=>dw 1)<|bZ E<|bZ S<|Rp (pf g l) (fun _=>dw 1)<|Rs (aD ((gA k) c)) (aL pE.aH c) ?_;refine Rs (aD ((gA k) l)) (aL pE.aH l) ?_;refine Rp (pf g l) (fun _=>dw 1)<|gZ<|qU pE l (aD ((gA k) c)) fun Lp nR s24 z9 => ?_;have b30:=s24.below b29 (m_ q b29.size) pE.blk.1;refine Ln<|Rp (pf g c) (fun _=>dw 1)<|gZ<|qU nR c (aD ((gA k) l)) fun w16 pF s25 z10 => ?_;have b31:=s25.below b30 (m_ q b30.size) nR.blk.1;have nS:Fx.Own w16 B 23 1 (bK g n cap) n (rv .u64 (gA (Sort.swp k l c))):=pF.congr (iP x (by omega) (by omega));refine Ln<|bS<|ay<|aU S<|Lv (au ((l:Int)+1)) fA<|av (au ((l:Int)+1))<|aC<|Wl<|aU F<|Lv (au ((c:Int)-1)) gQ<|av (au ((c:Int)-1))<|Ln<|bP<|gW ⟨l+1,c-1,Sort.swp k l c,(fD x _ _),((Iw (by omega) (z.resolve_left (by omega)) (h_ u)).trans y),(by omega),E,(h27.trans Fx.ic),(h28.trans Fx.ic),Fx.ic,Fx.ic,nS,b31⟩ ?_;show((b:Int)-intOf (au ((l:Int)+1))).toNat<_;simp only[SV,intOf]; omega
     rw[U_]at u;refine qQ (fun _ _=>dS ((gA k) c) ((gA k) a) _) aF (by rw[u])<|aW aG<|aW aG<|Qn ?_;intro avI Uo;have qW:=bf Uo lI;have b32:=eZ Uo b27 q;refine sN<|aM<|Wk<|sN<|Wb<|Wl<|aU F<|Lv (au ((c:Int)-1)) gQ<|av (au ((c:Int)-1))<|Ln<|bP<|gW ⟨c-1,((Iu (by omega) (by omega) (z.resolve_left (by omega)) (j_ u)).trans y),(z.elim (fun h => .inl (by omega)) .inr),(by omega),E,(h27.trans Fx.ic),(h28.trans Fx.ic),(S.trans Fx.ic),Fx.ic,qW,b32⟩ ?_;show(intOf (au ((c:Int)-1))).toNat<_;simp only[F,intOf]; omega
    refine Qv aF (fun r o=>ow O)<|aW aF<|aR<|aR<|aR<|aR<|aR<|aR<|aR<|aR<|aR<|aR<|aW aF<|Qn ?_;intro avJ Uq;have qB:=bf Uq lI;have b33:=eZ Uq b27 q;refine sN<|aK<|Wx<|bX<|gP<|bY<|sN<|Ws<|ay<|aU S<|aU F<|Lv aG DT<|aC<|aM<|Wx<|bX<|Fx.Ny rfl<|gP<|bY<|sN<|Ws ?_;refine kH [0,1,2,3,4,5,6,8,9,10,7,11,12,13,14,15] [0,0,0,0,0,0,0,4,0,0,0,4,0,3,0,3] [(13,7,[7]),(15,7,[7]),(13,11,[11]),(15,11,[11]),(14,13,[13]),(15,13,[13])] fun wt6 Lr ahN => ?_;have pK:=bf Lr qB;have b34:=eZ Lr b33 q;refine bZ E<|bZ F<|bZ E<|bZ h27<|bZ E<|bZ h27<|Rp (pf g a) (fun _=>dw 1)<|bZ E<|bZ F<|Rp (pf g c) (fun _=>dw 1)<|Rs (aD ((gA k) a)) (aL pK.aH a) ?_;refine Rs (aD ((gA k) c)) (aL pK.aH c) ?_;refine Rp (pf g c) (fun _=>dw 1)<|gZ<|qU pK c (aD ((gA k) a)) fun Ur sS s29 z11 => ?_;have b35:=s29.below b34 (m_ q b34.size) pK.blk.1;refine Ln<|Rp (pf g a) (fun _=>dw 1)<|gZ<|qU sS a (aD ((gA k) c)) fun Ut mh s30 z12 => ?_;have b36:=s30.below b35 (m_ q b35.size) sS.blk.1;have lM:Fx.Own Ut B 23 1 (bK g n cap) n (rv .u64 (gA (Sort.swp k c a))):=mh.congr (iP x (by omega) (by omega));refine Ln<|bS<|ay<|aU F<|av (au c)<|av aF<|aC<|Wr<|aJ (.tuple #[au (c:Int),.bool false]) ?_;have v:=y.symm.trans (CG (by omega));exact⟨c,false,_,rfl,by rw[Sort.partition_fst,v],by rw[Sort.partition_arr,v],(fD x _ _),lM,b36⟩
   rw[U_]at P;refine qQ (fun _ _=>dS ((gA (Sort.swp d a p)) m) ((gA (Sort.swp d a p)) a) _) aF (by rw[P])<|aW aG<|aW aG<|Qn ?_;intro avO Uu;have mH:=bf Uu m8;have b37:=eZ Uu b7 q;refine sN<|aM<|Wk<|sN<|Wb<|Wl<|aU A<|Lv (au ((m:Int)-1)) gQ<|av (au ((m:Int)-1))<|Ln<|bP<|gW ⟨m-1,((Iu (by omega) (by omega) (Z.resolve_left (by omega)) (j_ P)).trans Y),(Z.elim (fun h => .inl (by omega)) .inr),(by omega),M,(h7.trans Fx.ic),(h8.trans Fx.ic),(W.trans Fx.ic),Fx.ic,mH,b37⟩ ?_;show(intOf (au ((m:Int)-1))).toNat<_;simp only[A,intOf]; omega
  refine Qv aF (fun r o=>ow c48)<|aW aF<|aR<|aR<|aR<|aR<|aR<|aR<|aR<|aR<|aR<|aR<|aW aF<|Qn ?_;intro avQ Uv;have qg:=bf Uv m8;have b38:=eZ Uv b7 q;refine sN<|aK<|Wx<|bX<|gP<|bY<|sN<|Ws<|ay<|aU W<|aU A<|Lv aG DT<|aC<|aM<|Ws ?_;refine kH [0,1,2,3,4,5,6,8,9,10,7,11,12,13,14,15] [0,0,0,0,0,0,0,4,0,0,0,4,0,3,0,3] [(13,7,[7]),(15,7,[7]),(13,11,[11]),(15,11,[11]),(14,13,[13]),(15,13,[13])] fun wt7 Ls ahO => ?_;have qh:=bf Ls qg;have b39:=eZ Ls b38 q;refine bZ M<|bZ A<|bZ M<|bZ h7<|bZ M<|bZ h7<|Rp (pf g a) (fun _=>dw 1)<|bZ M<|bZ A<|Rp (pf g m) (fun _=>dw 1)<|Rs (aD ((gA (Sort.swp d a p)) a)) (aL qh.aH a) ?_;refine Rs (aD ((gA (Sort.swp d a p)) m)) (aL qh.aH m) ?_;refine Rp (pf g m) (fun _=>dw 1)<|gZ<|qU qh m (aD ((gA (Sort.swp d a p)) a)) fun w19 om s34 z13 => ?_;have b40:=s34.below b39 (m_ q b39.size) qh.blk.1;refine Ln<|Rp (pf g a) (fun _=>dw 1)<|gZ<|qU om a (aD ((gA (Sort.swp d a p)) m)) fun Uw rW s35 z14 => ?_;have b41:=s35.below b40 (m_ q b40.size) om.blk.1;have wh:Fx.Own Uw B 23 1 (bK g n cap) n (rv .u64 (gA (Sort.swp (Sort.swp d a p) m a))):=rW.congr (iP (fD Q _ _) (by omega) (by omega));refine Ln<|bS<|ay<|aU A<|av (au m)<|av aG<|aC<|Wr<|sR<|aJ (.tuple #[au (m:Int),.bool true]) ?_;have v:=Y.symm.trans (CG (by omega));exact⟨m,true,_,rfl,by rw[Sort.partition_fst,v],by rw[Sort.partition_arr,v],(fD (fD Q _ _) _ _),wh,b41⟩
 refine Qv aF (fun r o=>ow c32)<|aW aF<|aR<|aR<|aR<|aR<|aR<|aR<|aR<|aR<|aR<|aW aF<|Qn ?_;intro avW Ux;have uD:=bf Ux m5;have b42:=eZ Ux b4 q;refine sN<|aK<|Wx<|bX<|gP<|bY<|sN<|Ws<|Wb<|Wo (fun f t => ∃ m:Nat,Sort.partLoop Sort.ltInt a s m (Sort.swp d a p)=Sort.partLoop Sort.ltInt a (a+1) (b-1) (Sort.swp d a p)/\(m<s \/ ¬ gA (Sort.swp d a p) s<gA (Sort.swp d a p) a)/\(m<b/\m<=b)/\f 0=bK g n cap/\f 1=au (a:Int)/\f 2=au (b:Int)/\f 10=au (s:Int)/\f 11=au (m:Int)/\Fx.Own t B 23 1 (bK g n cap) n (rv .u64 (gA (Sort.swp d a p)))/\Below B w t) (fun f _=>(intOf (f 11)).toNat) ⟨b-1,hY0,(.inl (by omega)),(by omega),h1,(h2.trans Fx.ic),(h3.trans Fx.ic),(h4.trans Fx.ic),(h5.trans Fx.ic),uD,b42⟩ ?_;rintro f7 w21 ⟨m,Y,Z,amS,G,h32,h33,T,H,qX,b43⟩;refine Ws<|Ws ?_;refine nM<|eG T<|eG H ?_;by_cases c48:(s:Int)<=(m:Int)
 ·refine Qv aG (fun r o=>nL c48)<|aW aG<|eG G<|eG H<|Qv (pf g m) (fun r o=>dw 1)<|Qv (aD ((gA (Sort.swp d a p)) m)) (fun r o=>aL (qX.cb o) m)<|eG G<|eG h32<|Qv (pf g a) (fun r o=>dw 1)<|Qv (aD ((gA (Sort.swp d a p)) a)) (fun r o=>aL (qX.cb o) a) ?_;by_cases P:(decide ((gA (Sort.swp d a p)) m<(gA (Sort.swp d a p)) a))=true
  ·refine qQ (fun _ _=>dS ((gA (Sort.swp d a p)) m) ((gA (Sort.swp d a p)) a) _) aG (by rw[P])<|aW aF<|aW aF<|Qn ?_;intro avY Uy;have vJ:=bf Uy qX;have b44:=eZ Uy b43 q;refine sN<|aK<|Wx<|bX<|gP<|bY<|sN<|Ws<|ay<|aU T<|aU H<|Lv aF yO<|aC<|aK<|Wk<|sN<|Ws ?_;refine kH [0,1,2,3,4,5,6,8,9,10,7,11,12,13,14,15] [0,0,0,0,0,0,0,4,0,0,0,4,0,3,0,3] [(13,7,[7]),(15,7,[7]),(13,11,[11]),(15,11,[11]),(14,13,[13]),(15,13,[13])] fun wt8 abx atH => ?_;have uZ:=bf abx vJ;have b45:=eZ abx b44 q;refine bZ G<|bZ T<|bZ G<|bZ H<|bZ G<|bZ H<|Rp (pf g m) (fun _=>dw 1)<|bZ G<|bZ T<|Rp (pf g s) (fun _=>dw 1)<|Rs (aD ((gA (Sort.swp d a p)) m)) (aL uZ.aH m) ?_;refine Rs (aD ((gA (Sort.swp d a p)) s)) (aL uZ.aH s) ?_;refine Rp (pf g s) (fun _=>dw 1)<|gZ<|qU uZ s (aD ((gA (Sort.swp d a p)) m)) fun w22 uE s39 z15 => ?_;have b46:=s39.below b45 (m_ q b45.size) uZ.blk.1;refine Ln<|Rp (pf g m) (fun _=>dw 1)<|gZ<|qU uE m (aD ((gA (Sort.swp d a p)) s)) fun w23 wm s40 z16 => ?_;have b47:=s40.below b46 (m_ q b46.size) uE.blk.1;have wo:Fx.Own w23 B 23 1 (bK g n cap) n (rv .u64 (gA (Sort.swp (Sort.swp d a p) s m))):=wm.congr (iP (fD Q _ _) (by omega) (by omega));refine Ln<|bS<|ay<|aU T<|Lv (au ((s:Int)+1)) fA<|av (au ((s:Int)+1))<|aC<|ay<|aU H<|Lv (au ((m:Int)-1)) gQ<|av (au ((m:Int)-1))<|aC<|Ws<|Wb<|Wo (fun f t => ∃ i:Nat,∃ j:Nat,∃ k:Array Int,k.size=n/\Sort.partLoop Sort.ltInt a i j k=Sort.partLoop Sort.ltInt a (a+1) (b-1) (Sort.swp d a p)/\(a<i/\j<b/\i<=b)/\f 0=bK g n cap/\f 1=au (a:Int)/\f 2=au (b:Int)/\f 10=au (i:Int)/\f 11=au (j:Int)/\Fx.Own t B 23 1 (bK g n cap) n (rv .u64 (gA k))/\Below B w t) (fun f _=>((b:Int)-intOf (f 10)).toNat) ⟨s+1,m-1,Sort.swp (Sort.swp d a p) s m,(fD (fD Q _ _) _ _),((Iw (by omega) (Z.resolve_left (by omega)) (h_ P)).trans Y),(by omega),G,(h32.trans Fx.ic),(h33.trans Fx.ic),Fx.ic,Fx.ic,wo,b47⟩ ?_;rintro f8 w24 ⟨i,j,k,x,hX,hij,h36,h37,h38,h39,h40,tQ,b48⟩;refine Wb<|Ws<|Wb<|Wo (fun f t => ∃ l:Nat,Sort.partLoop Sort.ltInt a l j k=Sort.partLoop Sort.ltInt a (a+1) (b-1) (Sort.swp d a p)/\(i<=l/\l<=b)/\f 0=bK g n cap/\f 1=au (a:Int)/\f 2=au (b:Int)/\f 10=au (l:Int)/\f 11=au (j:Int)/\Fx.Own t B 23 1 (bK g n cap) n (rv .u64 (gA k))/\Below B w t) (fun f _=>((b:Int)-intOf (f 10)).toNat) ⟨i,hX,(by omega),h36,(h37.trans Fx.ic),(h38.trans Fx.ic),(h39.trans Fx.ic),(h40.trans Fx.ic),tQ,b48⟩ ?_;rintro f9 w25 ⟨l,X,amT,h41,h42,h43,h44,h45,tT,b49⟩;refine Ws<|Ws ?_;refine nM<|eG h44<|eG h45 ?_;by_cases Ul:(l:Int)<=(j:Int)
   ·refine Qv aG (fun r o=>nL Ul)<|aW aG<|eG h41<|eG h44<|Qv (pf g l) (fun r o=>dw 1)<|Qv (aD ((gA k) l)) (fun r o=>aL (tT.cb o) l)<|eG h41<|eG h42<|Qv (pf g a) (fun r o=>dw 1)<|Qv (aD ((gA k) a)) (fun r o=>aL (tT.cb o) a) ?_;by_cases N:(decide ((gA k) l<(gA k) a))=true
    ·refine qQ (fun _ _=>dS ((gA k) l) ((gA k) a) _) aG (by rw[N])<|aW aG<|Qn ?_;intro awj Uz;have uF:=bf Uz tT;have b50:=eZ Uz b49 q;refine sN<|aM<|Wk<|sN<|Wb<|Wl<|aU h44<|Lv (au ((l:Int)+1)) fA<|av (au ((l:Int)+1))<|Ln<|bP<|gW ⟨l+1,((Ug (by omega) (h_ N)).trans X),(by omega),h41,(h42.trans Fx.ic),(h43.trans Fx.ic),Fx.ic,(h45.trans Fx.ic),uF,b50⟩ ?_;show((b:Int)-intOf (au ((l:Int)+1))).toNat<_;simp only[h44,intOf]; omega
    rw[U_]at N;refine qQ (fun _ _=>dS ((gA k) l) ((gA k) a) _) aF (by rw[N])<|aW aF<|Qn ?_;intro awl UA;have yD:=bf UA tT;have b51:=eZ UA b49 q;refine sN<|aK<|Wx<|bX<|gP<|bY<|sN<|Ws<|Wb<|Wo (fun f t => ∃ c:Nat,Sort.partLoop Sort.ltInt a l c k=Sort.partLoop Sort.ltInt a (a+1) (b-1) (Sort.swp d a p)/\(c<l \/ ¬ gA k l<gA k a)/\(c<b/\c<=j)/\f 0=bK g n cap/\f 1=au (a:Int)/\f 2=au (b:Int)/\f 10=au (l:Int)/\f 11=au (c:Int)/\Fx.Own t B 23 1 (bK g n cap) n (rv .u64 (gA k))/\Below B w t) (fun f _=>(intOf (f 11)).toNat) ⟨j,X,(.inr (j_ N)),(by omega),h41,(h42.trans Fx.ic),(h43.trans Fx.ic),(h44.trans Fx.ic),(h45.trans Fx.ic),yD,b51⟩ ?_;rintro f10 w26 ⟨c,y,z,ado,I,h47,h48,U,J,rG,b52⟩;refine Ws<|Ws ?_;refine nM<|eG U<|eG J ?_;by_cases O:(l:Int)<=(c:Int)
    ·refine Qv aG (fun r o=>nL O)<|aW aG<|eG I<|eG J<|Qv (pf g c) (fun r o=>dw 1)<|Qv (aD ((gA k) c)) (fun r o=>aL (rG.cb o) c)<|eG I<|eG h47<|Qv (pf g a) (fun r o=>dw 1)<|Qv (aD ((gA k) a)) (fun r o=>aL (rG.cb o) a) ?_;by_cases u:(decide ((gA k) c<(gA k) a))=true
     ·refine qQ (fun _ _=>dS ((gA k) c) ((gA k) a) _) aG (by rw[u])<|aW aF<|aW aF<|Qn ?_;intro awn UC;have vK:=bf UC rG;have b53:=eZ UC b52 q;refine sN<|aK<|Wx<|bX<|gP<|bY<|sN<|Ws<|ay<|aU U<|aU J<|Lv aF yO<|aC<|aK<|Wk<|sN<|Ws ?_;refine kH [0,1,2,3,4,5,6,8,9,10,7,11,12,13,14,15] [0,0,0,0,0,0,0,4,0,0,0,4,0,3,0,3] [(13,7,[7]),(15,7,[7]),(13,11,[11]),(15,11,[11]),(14,13,[13]),(15,13,[13])] fun wt9 aby atP => ?_;have pz:=bf aby vK;have b54:=eZ aby b53 q;refine bZ I<|bZ U<|bZ I<|bZ J<|bZ I<|bZ J<|Rp (pf g c) (fun _=>dw 1)<|bZ I<|bZ U<|Rp (pf g l) (fun _=>dw 1)<|Rs (aD ((gA k) c)) (aL pz.aH c) ?_;refine Rs (aD ((gA k) l)) (aL pz.aH l) ?_;refine Rp (pf g l) (fun _=>dw 1)<|gZ<|qU pz l (aD ((gA k) c)) fun w27 uI s45 z17 => ?_;have b55:=s45.below b54 (m_ q b54.size) pz.blk.1;refine Ln<|Rp (pf g c) (fun _=>dw 1)<|gZ<|qU uI c (aD ((gA k) l)) fun w28 m64 s46 z18 => ?_;have b56:=s46.below b55 (m_ q b55.size) uI.blk.1;have xw:Fx.Own w28 B 23 1 (bK g n cap) n (rv .u64 (gA (Sort.swp k l c))):=m64.congr (iP x (by omega) (by omega));refine Ln<|bS<|ay<|aU U<|Lv (au ((l:Int)+1)) fA<|av (au ((l:Int)+1))<|aC<|Wl<|aU J<|Lv (au ((c:Int)-1)) gQ<|av (au ((c:Int)-1))<|Ln<|bP<|gW ⟨l+1,c-1,Sort.swp k l c,(fD x _ _),((Iw (by omega) (z.resolve_left (by omega)) (h_ u)).trans y),(by omega),I,(h47.trans Fx.ic),(h48.trans Fx.ic),Fx.ic,Fx.ic,xw,b56⟩ ?_;show((b:Int)-intOf (au ((l:Int)+1))).toNat<_;simp only[h39,intOf]; omega
     rw[U_]at u;refine qQ (fun _ _=>dS ((gA k) c) ((gA k) a) _) aF (by rw[u])<|aW aG<|aW aG<|Qn ?_;intro awu UD;have wN:=bf UD rG;have b57:=eZ UD b52 q;refine sN<|aM<|Wk<|sN<|Wb<|Wl<|aU J<|Lv (au ((c:Int)-1)) gQ<|av (au ((c:Int)-1))<|Ln<|bP<|gW ⟨c-1,((Iu (by omega) (by omega) (z.resolve_left (by omega)) (j_ u)).trans y),(z.elim (fun h => .inl (by omega)) .inr),(by omega),I,(h47.trans Fx.ic),(h48.trans Fx.ic),(U.trans Fx.ic),Fx.ic,wN,b57⟩ ?_;show(intOf (au ((c:Int)-1))).toNat<_;simp only[J,intOf]; omega
    refine Qv aF (fun r o=>ow O)<|aW aF<|aR<|aR<|aR<|aR<|aR<|aR<|aR<|aR<|aR<|aR<|aW aF<|Qn ?_;intro aww UE;have vL:=bf UE rG;have b58:=eZ UE b52 q;refine sN<|aK<|Wx<|bX<|gP<|bY<|sN<|Ws<|ay<|aU U<|aU J<|Lv aG DT<|aC<|aM<|Wx<|bX<|Fx.Ny rfl<|gP<|bY<|sN<|Ws ?_;refine kH [0,1,2,3,4,5,6,8,9,10,7,11,12,13,14,15] [0,0,0,0,0,0,0,4,0,0,0,4,0,3,0,3] [(13,7,[7]),(15,7,[7]),(13,11,[11]),(15,11,[11]),(14,13,[13]),(15,13,[13])] fun awy UF ana => ?_;have xA:=bf UF vL;have b59:=eZ UF b58 q;refine bZ I<|bZ J<|bZ I<|bZ h47<|bZ I<|bZ h47<|Rp (pf g a) (fun _=>dw 1)<|bZ I<|bZ J<|Rp (pf g c) (fun _=>dw 1)<|Rs (aD ((gA k) a)) (aL xA.aH a) ?_;refine Rs (aD ((gA k) c)) (aL xA.aH c) ?_;refine Rp (pf g c) (fun _=>dw 1)<|gZ<|qU xA c (aD ((gA k) a)) fun w29 tV s50 z19 => ?_;have b60:=s50.below b59 (m_ q b59.size) xA.blk.1;refine Ln<|Rp (pf g a) (fun _=>dw 1)<|gZ<|qU tV a (aD ((gA k) c)) fun w30 vM s51 z20 => ?_;have b61:=s51.below b60 (m_ q b60.size) tV.blk.1;have uP:Fx.Own w30 B 23 1 (bK g n cap) n (rv .u64 (gA (Sort.swp k c a))):=vM.congr (iP x (by omega) (by omega));refine Ln<|bS<|ay<|aU J<|av (au c)<|av aF<|aC<|Wr<|aJ (.tuple #[au (c:Int),.bool false]) ?_;have v:=y.symm.trans (CG (by omega));exact⟨c,false,_,rfl,by rw[Sort.partition_fst,v],by rw[Sort.partition_arr,v],(fD x _ _),uP,b61⟩
   refine Qv aF (fun r o=>ow Ul)<|aW aF<|aR<|aR<|aR<|aR<|aR<|aR<|aR<|aR<|aR<|aW aF<|Qn ?_;intro awF UG;have vN:=bf UG tT;have b62:=eZ UG b49 q;refine sN<|aK<|Wx<|bX<|gP<|bY<|sN<|Ws<|Wb<|Wo (fun f t => ∃ c:Nat,Sort.partLoop Sort.ltInt a l c k=Sort.partLoop Sort.ltInt a (a+1) (b-1) (Sort.swp d a p)/\(c<l \/ ¬ gA k l<gA k a)/\(c<b/\c<=j)/\f 0=bK g n cap/\f 1=au (a:Int)/\f 2=au (b:Int)/\f 10=au (l:Int)/\f 11=au (c:Int)/\Fx.Own t B 23 1 (bK g n cap) n (rv .u64 (gA k))/\Below B w t) (fun f _=>(intOf (f 11)).toNat) ⟨j,X,(.inl (by omega)),(by omega),h41,(h42.trans Fx.ic),(h43.trans Fx.ic),(h44.trans Fx.ic),(h45.trans Fx.ic),vN,b62⟩ ?_;rintro f11 w31 ⟨c,y,z,ado,K,h52,h53,V,L,vO,b63⟩;refine Ws<|Ws ?_;refine nM<|eG V<|eG L ?_;by_cases O:(l:Int)<=(c:Int)
   ·refine Qv aG (fun r o=>nL O)<|aW aG<|eG K<|eG L<|Qv (pf g c) (fun r o=>dw 1)<|Qv (aD ((gA k) c)) (fun r o=>aL (vO.cb o) c)<|eG K<|eG h52<|Qv (pf g a) (fun r o=>dw 1)<|Qv (aD ((gA k) a)) (fun r o=>aL (vO.cb o) a) ?_;by_cases u:(decide ((gA k) c<(gA k) a))=true
    ·refine qQ (fun _ _=>dS ((gA k) c) ((gA k) a) _) aG (by rw[u])<|aW aF<|aW aF<|Qn ?_;intro awH UH;have zI:=bf UH vO;have b64:=eZ UH b63 q;refine sN<|aK<|Wx<|bX<|gP<|bY<|sN<|Ws<|ay<|aU V<|aU L<|Lv aF yO<|aC<|aK<|Wk<|sN<|Ws ?_;refine kH [0,1,2,3,4,5,6,8,9,10,7,11,12,13,14,15] [0,0,0,0,0,0,0,4,0,0,0,4,0,3,0,3] [(13,7,[7]),(15,7,[7]),(13,11,[11]),(15,11,[11]),(14,13,[13]),(15,13,[13])] fun awI UJ anc => ?_;have wO:=bf UJ zI;have b65:=eZ UJ b64 q;refine bZ K<|bZ V<|bZ K<|bZ L<|bZ K<|bZ L<|Rp (pf g c) (fun _=>dw 1)<|bZ K<|bZ V<|Rp (pf g l) (fun _=>dw 1)<|Rs (aD ((gA k) c)) (aL wO.aH c) ?_;refine Rs (aD ((gA k) l)) (aL wO.aH l) ?_;refine Rp (pf g l) (fun _=>dw 1)<|gZ<|qU wO l (aD ((gA k) c)) fun w32 yI s55 z21 => ?_;have b66:=s55.below b65 (m_ q b65.size) wO.blk.1;refine Ln<|Rp (pf g c) (fun _=>dw 1)<|gZ<|qU yI c (aD ((gA k) l)) fun w33 yJ s56 z22 => ?_;have b67:=s56.below b66 (m_ q b66.size) yI.blk.1;have yK:Fx.Own w33 B 23 1 (bK g n cap) n (rv .u64 (gA (Sort.swp k l c))):=yJ.congr (iP x (by omega) (by omega));refine Ln<|bS<|ay<|aU V<|Lv (au ((l:Int)+1)) fA<|av (au ((l:Int)+1))<|aC<|Wl<|aU L<|Lv (au ((c:Int)-1)) gQ<|av (au ((c:Int)-1))<|Ln<|bP<|gW ⟨l+1,c-1,Sort.swp k l c,(fD x _ _),((Iw (by omega) (z.resolve_left (by omega)) (h_ u)).trans y),(by omega),K,(h52.trans Fx.ic),(h53.trans Fx.ic),Fx.ic,Fx.ic,yK,b67⟩ ?_;show((b:Int)-intOf (au ((l:Int)+1))).toNat<_;simp only[h39,intOf]; omega
    rw[U_]at u;refine qQ (fun _ _=>dS ((gA k) c) ((gA k) a) _) aF (by rw[u])<|aW aG<|aW aG<|Qn ?_;intro awN UK;have yt:=bf UK vO;have b68:=eZ UK b63 q;refine sN<|aM<|Wk<|sN<|Wb<|Wl<|aU L<|Lv (au ((c:Int)-1)) gQ<|av (au ((c:Int)-1))<|Ln<|bP<|gW ⟨c-1,((Iu (by omega) (by omega) (z.resolve_left (by omega)) (j_ u)).trans y),(z.elim (fun h => .inl (by omega)) .inr),(by omega),K,(h52.trans Fx.ic),(h53.trans Fx.ic),(V.trans Fx.ic),Fx.ic,yt,b68⟩ ?_;show(intOf (au ((c:Int)-1))).toNat<_;simp only[L,intOf]; omega
   refine Qv aF (fun r o=>ow O)<|aW aF<|aR<|aR<|aR<|aR<|aR<|aR<|aR<|aR<|aR<|aR<|aW aF<|Qn ?_;intro awP UL;have xB:=bf UL vO;have b69:=eZ UL b63 q;refine sN<|aK<|Wx<|bX<|gP<|bY<|sN<|Ws<|ay<|aU V<|aU L<|Lv aG DT<|aC<|aM<|Wx<|bX<|Fx.Ny rfl<|gP<|bY<|sN<|Ws ?_;refine kH [0,1,2,3,4,5,6,8,9,10,7,11,12,13,14,15] [0,0,0,0,0,0,0,4,0,0,0,4,0,3,0,3] [(13,7,[7]),(15,7,[7]),(13,11,[11]),(15,11,[11]),(14,13,[13]),(15,13,[13])] fun awR UM ane => ?_;have xC:=bf UM xB;have b70:=eZ UM b69 q;refine bZ K<|bZ L<|bZ K<|bZ h52<|bZ K<|bZ h52<|Rp (pf g a) (fun _=>dw 1)<|bZ K<|bZ L<|Rp (pf g c) (fun _=>dw 1)<|Rs (aD ((gA k) a)) (aL xC.aH a) ?_;refine Rs (aD ((gA k) c)) (aL xC.aH c) ?_;refine Rp (pf g c) (fun _=>dw 1)<|gZ<|qU xC c (aD ((gA k) a)) fun w34 yR s60 z23 => ?_;have b71:=s60.below b70 (m_ q b70.size) xC.blk.1;refine Ln<|Rp (pf g a) (fun _=>dw 1)<|gZ<|qU yR a (aD ((gA k) c)) fun w35 AP s61 z24 => ?_;have b72:=s61.below b71 (m_ q b71.size) yR.blk.1;have yS:Fx.Own w35 B 23 1 (bK g n cap) n (rv .u64 (gA (Sort.swp k c a))):=AP.congr (iP x (by omega) (by omega));refine Ln<|bS<|ay<|aU L<|av (au c)<|av aF<|aC<|Wr<|aJ (.tuple #[au (c:Int),.bool false]) ?_;have v:=y.symm.trans (CG (by omega));exact⟨c,false,_,rfl,by rw[Sort.partition_fst,v],by rw[Sort.partition_arr,v],(fD x _ _),yS,b72⟩
  rw[U_]at P;refine qQ (fun _ _=>dS ((gA (Sort.swp d a p)) m) ((gA (Sort.swp d a p)) a) _) aF (by rw[P])<|aW aG<|aW aG<|Qn ?_;intro awW UN;have BI:=bf UN qX;have b73:=eZ UN b43 q;refine sN<|aM<|Wk<|sN<|Wb<|Wl<|aU H<|Lv (au ((m:Int)-1)) gQ<|av (au ((m:Int)-1))<|Ln<|bP<|gW ⟨m-1,((Iu (by omega) (by omega) (Z.resolve_left (by omega)) (j_ P)).trans Y),(Z.elim (fun h => .inl (by omega)) .inr),(by omega),G,(h32.trans Fx.ic),(h33.trans Fx.ic),(T.trans Fx.ic),Fx.ic,BI,b73⟩ ?_;show(intOf (au ((m:Int)-1))).toNat<_;simp only[H,intOf]; omega
 refine Qv aF (fun r o=>ow c48)<|aW aF<|aR<|aR<|aR<|aR<|aR<|aR<|aR<|aR<|aR<|aR<|aW aF<|Qn ?_;intro awY UO;have Bq:=bf UO qX;have b74:=eZ UO b43 q;refine sN<|aK<|Wx<|bX<|gP<|bY<|sN<|Ws<|ay<|aU T<|aU H<|Lv aG DT<|aC<|aM<|Ws ?_;refine kH [0,1,2,3,4,5,6,8,9,10,7,11,12,13,14,15] [0,0,0,0,0,0,0,4,0,0,0,4,0,3,0,3] [(13,7,[7]),(15,7,[7]),(13,11,[11]),(15,11,[11]),(14,13,[13]),(15,13,[13])] fun axa UQ anf => ?_;have Br:=bf UQ Bq;have b75:=eZ UQ b74 q;refine bZ G<|bZ H<|bZ G<|bZ h32<|bZ G<|bZ h32<|Rp (pf g a) (fun _=>dw 1)<|bZ G<|bZ H<|Rp (pf g m) (fun _=>dw 1)<|Rs (aD ((gA (Sort.swp d a p)) a)) (aL Br.aH a) ?_;refine Rs (aD ((gA (Sort.swp d a p)) m)) (aL Br.aH m) ?_;refine Rp (pf g m) (fun _=>dw 1)<|gZ<|qU Br m (aD ((gA (Sort.swp d a p)) a)) fun w36 AQ s65 z25 => ?_;have b76:=s65.below b75 (m_ q b75.size) Br.blk.1;refine Ln<|Rp (pf g a) (fun _=>dw 1)<|gZ<|qU AQ a (aD ((gA (Sort.swp d a p)) m)) fun w37 AU s66 z26 => ?_;have b77:=s66.below b76 (m_ q b76.size) AQ.blk.1;have BJ:Fx.Own w37 B 23 1 (bK g n cap) n (rv .u64 (gA (Sort.swp (Sort.swp d a p) m a))):=AU.congr (iP (fD Q _ _) (by omega) (by omega));refine Ln<|bS<|ay<|aU H<|av (au m)<|av aG<|aC<|Wr<|sR<|aJ (.tuple #[au (m:Int),.bool true]) ?_;have v:=Y.symm.trans (CG (by omega));exact⟨m,true,_,rfl,by rw[Sort.partition_fst,v],by rw[Sort.partition_arr,v],(fD (fD Q _ _) _ _),BJ,b77⟩
end
end Go.Proofs.YtcbedgfikejkoaaGreatDoor
