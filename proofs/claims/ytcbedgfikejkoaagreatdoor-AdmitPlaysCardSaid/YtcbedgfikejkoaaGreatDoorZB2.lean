/-
  What the proof of the law rests on, part 2: walks of functions, and plain laws; each says its conditions itself.
-/
import Derived.MapKept
import Derived.Maps.RangeRun
import Derived.WideKeyRuns
import Derived.DeepKeys3
import Derived.Test.YtcbedgfikejkoaaGreatDoorRows
import Derived.RangeFuncNested
import Derived.RangeFuncBound
import Derived.RangeFuncCalls
import Derived.RangeFuncLeaves
import Derived.RangeFuncFrom
import Derived.Sort.LotA
import Derived.Sort.LotB
import Derived.Sort.LotC
import Derived.Sort.LotD3
import Derived.Sort.LotD1
import Derived.Test.YtcbedgfikejkoaaGreatDoorZB1
set_option maxRecDepth 20000
set_option linter.unusedVariables false
set_option maxHeartbeats 1600000
set_option linter.unusedSimpArgs false
namespace Go.Proofs.YtcbedgfikejkoaaGreatDoor.Fx
open Go.RowKit Go.MapKept
def Mp(w:World)(b n:Nat)(key:Nat->Int)(val:Nat->Value):Prop :=
 ∃ a c,w.heap[b]? = some (.map a c)/\Stamped a c/\a.size=n /\ ∀ i,i<n -> ∃ e,a[i]? = some e/\e.key = .int .u64 (key i)/\e.val=val i
def aO{a:Type}(f:Nat->a)(j:Nat)(v:a):Nat->a:=fun i=>if i=j then v else f i
section
variable {w w':World} {b n:Nat} {key:Nat->Int} {val:Nat->Value}
theorem Mp.lt(h:Mp w b n key val):b<w.heap.size:=by
 obtain⟨a,c,h,_⟩:=h;exact(t_.1 h).1
theorem Mp.keep(h:Mp w b n key val)(e:w'.heap[b]? = w.heap[b]?):Mp w' b n key val:=by
 obtain⟨a,c,d,f⟩:=h;exact⟨a,c,e.trans d,f⟩
theorem Mp.cB{g:Nat}(h:Mp w b n key val)(a:Stp g w w')(c:b≠g):Mp w' b n key val:=h.keep (a.block b h.lt c)
theorem Mp.up(h:Mp w b n key val)(a:Below w.heap.size w w'):Mp w' b n key val:=h.keep (a.block b h.lt)
instance:Rt.Tr w w' (Mp w b n key val) (Mp w' b n key val):=⟨fun b h=>h.up b⟩
theorem Mp.rZ{T:TypeId}(h:Mp w b n key val)(a:Ty w b T):False:=by
 obtain⟨e,c,h,_⟩:=h;obtain⟨d,a⟩:=a;rw[h]at a; cases a
theorem Mp.kL{Ts:List TypeId}(h:Mp w b n key val)(a:iW Ts w w')(_:True):Mp w' b n key val:=h.keep (a.block b h.lt fun _ c=>(h.rZ c).elim)
instance {Ts:List TypeId}:Rt.Tc Ts w w' (Mp w b n key val) (Mp w' b n key val) true:=⟨fun b h _=>h.kL b trivial⟩
theorem Mp.ne{g:Nat}{T:TypeId}(h:Mp w b n key val)(a:Ty w g T):g≠b:=fun e=>h.rZ (e ▸ a)
theorem Mp.uT{g:Nat->Int}{j:Nat->Value}(h:Mp w b n key val)(e : ∀ i,i<n->key i=g i/\val i=j i):Mp w b n g j:=by
 obtain⟨k,c,l,m,o,p⟩:=h;exact⟨k,c,l,m,o,fun i hi=>by
  obtain⟨x,a,d,f⟩:=p i hi;exact⟨x,a,by rw[d,(e i hi).1],by rw[f,(e i hi).2]⟩⟩
theorem Mp.inj(h:Mp w b n key val) : ∀ i j,i<n->j<n->key i=key j->i=j:=fun i j hi t e=>by
 obtain⟨g,c,_,⟨_,_,u⟩,hn,hg⟩:=h;obtain⟨x,d,q,_⟩:=hg i hi;obtain⟨y,f,r,_⟩:=hg j t;rw[t_]at d f;obtain⟨m,d⟩:=d;obtain⟨o,f⟩:=f;have v:=List.pairwise_iff_getElem.1 u;have p : ∀ a c (k:a<g.size) (l:c<g.size),a<c->g[a].key≠g[c].key:=fun a c k l s=>by
  have:=v a c (by simpa using k) (by simpa using l) s
  simpa only[List.getElem_map,Array.getElem_toList] using this
 rcases Nat.lt_trichotomy i j with h1|h1|h1
 ·exact M_ (by rw[d,f,q,r,e]) (p i j m o h1)
 ·exact h1
 ·exact M_ (by rw[d,f,q,r,e]) (p j i o m h1)
end
section
variable {P:Program} {f:Nat->Value} {w:World} {o:Oper}
variable {b n:Nat} {key:Nat->Int} {val:Nat->Value}
theorem Mp.find(h:Mp w b n key val){a:Array MapEntry}{c:Nat}(s:w.heap[b]? = some (.map a c))(k:Int) :
 (Instr.findNow (.int .u64) (.int .u64 k) a.toList 0=some none /\ ∀ i,i<n->key i≠k) \/ ∃ j,j<n/\key j=k/\Instr.findNow (.int .u64) (.int .u64 k) a.toList 0=some (some (j,val j)):=by
 obtain⟨A,z,o,B,q,p⟩:=h;rw[s]at o;simp only[Option.some.injEq,Obj.map.injEq]at o;obtain⟨rfl,rfl⟩:=o;have t : ∀ x∈a.toList,IsKey (.int .u64) x.key:=fun x u=>by
  obtain⟨i,hi,e⟩:=List.getElem_of_mem u;obtain⟨y,l,m,_⟩:=p i (by simpa [<- q] using hi);have:y=x:=by
   have f:a.toList[i]? = some x:=(by rw[o_ hi,e]);rw[Array.getElem?_toList,l]at f;exact C_ f
  rw[<- this,m]; exact rfl
 rcases findNow_spec (d := .int .u64) (k := .int .u64 k) rfl a.toList 0 t with ⟨f,g⟩|⟨j,e,f,g,h7⟩
 ·left;refine⟨f,fun i hi e => ?_⟩;obtain⟨y,l,m,_⟩:=p i hi;exact g y (Array.mem_toList_iff.2 (Array.mem_of_getElem? l)) (by rw[m,e])
 right;have r:j<n:=by
  rw[Array.getElem?_toList]at g;rw[<- q]; exact(t_.1 g).1
 obtain⟨y,l,m,v⟩:=p j r;rw[Array.getElem?_toList,l]at g;obtain rfl:=C_ g;rw[m]at h7;simp only[Value.int.injEq,true_and]at h7;exact⟨j,r,h7,by rw[f,G_,v]⟩
theorem pQ{T K E:TypeId}{k:Int}{ok:Bool}{z:Value}(h:Mp w b n key val)(o:P.underlying T=some (.map K E))(l:P.underlying K=some (.int .u64))(v:(zeroValue E).run P w = .ok z w) :
 ((∀ i,i<n->key i≠k)->(Instr.lookup T (.map (some b)) (.int .u64 k) ok).run P w = .ok (if ok then .tuple #[z,.bool false]else z) w) /\
 ∀ j,j<n->key j=k->(Instr.lookup T (.map (some b)) (.int .u64 k) ok).run P w = .ok (if ok then .tuple #[val j,.bool true]else val j) w:=by
 have t:=h;obtain⟨q,c,d,_⟩:=t;have m:(Instr.checkKey q.isEmpty 10000 K (.int .u64 k)).run P w = .ok () w:=run_checkKey l (show IsKey (.int .u64) (.int .u64 k)from rfl) _ 9999
 rcases h.find d k with ⟨f,r⟩|⟨j,a,hkj,f⟩
 ·refine⟨fun _ => ?_,fun j a e=>M_ e (r j a)⟩;have g:=run_findKey (w:=w) l f;unfold Instr.lookup;simp only[Sem.run_bind,run_underlying o,Result.andThen_ok,Go.MapKept.run_getObj_map d,Sem.run_pure,m,g,v]
 refine⟨fun u=>M_ hkj (u j a),fun p s e => ?_⟩;obtain rfl:p=j:=h.inj p j s a (e.trans hkj.symm);have g:=run_findKey (w:=w) l f;unfold Instr.lookup;simp only[Sem.run_bind,run_underlying o,Result.andThen_ok,Go.MapKept.run_getObj_map d,Sem.run_pure,m,g]
theorem Oe{T K E:TypeId}{x ix:Operand}{k:Int}{z:Value}(d:o.op = .lookup T x ix false)(hx:ev f x = .map (some b))(hi:ev f ix = .int .u64 k)(h:Mp w b n key val)(e:P.underlying T=some (.map K E))(a:P.underlying K=some (.int .u64))(g:(zeroValue E).run P w = .ok z w)(c : ∀ i,i<n->key i≠k):Runs P f o w z:=by
 unfold Runs execOp;simp only[d,hx,hi,Sem.run_bind,((pQ (ok:=false) h e a g).1 c),Result.andThen_ok,Sem.run_pure]; rfl
theorem vZ{T K E:TypeId}{x ix:Operand}{k:Int}{z v:Value}{j:Nat}(e:o.op = .lookup T x ix false)(hx:ev f x = .map (some b))(hi:ev f ix = .int .u64 k)(h:Mp w b n key val)(g:P.underlying T=some (.map K E))(d:P.underlying K=some (.int .u64))(l:(zeroValue E).run P w = .ok z w)(c:j<n)(a:key j=k)(i:val j=v):Runs P f o w v:=by
 subst i;unfold Runs execOp;simp only[e,hx,hi,Sem.run_bind,((pQ (ok:=false) h g d l).2 j c a),Result.andThen_ok,Sem.run_pure]; rfl
theorem EG{T K E:TypeId}{x ix:Operand}{k:Int}{z:Value}(d:o.op = .lookup T x ix true)(hx:ev f x = .map (some b))(hi:ev f ix = .int .u64 k)(h:Mp w b n key val)(e:P.underlying T=some (.map K E))(a:P.underlying K=some (.int .u64))(g:(zeroValue E).run P w = .ok z w)(c : ∀ i,i<n->key i≠k):Runs P f o w (.tuple #[z,.bool false]):=by
 unfold Runs execOp;simp only[d,hx,hi,Sem.run_bind,((pQ (ok:=true) h e a g).1 c),Result.andThen_ok,Sem.run_pure]; rfl
theorem EH{T K E:TypeId}{x ix:Operand}{k:Int}{z v:Value}{j:Nat}(e:o.op = .lookup T x ix true)(hx:ev f x = .map (some b))(hi:ev f ix = .int .u64 k)(h:Mp w b n key val)(g:P.underlying T=some (.map K E))(d:P.underlying K=some (.int .u64))(l:(zeroValue E).run P w = .ok z w)(c:j<n)(a:key j=k)(i:val j=v):Runs P f o w (.tuple #[v,.bool true]):=by
 subst i;unfold Runs execOp;simp only[e,hx,hi,Sem.run_bind,((pQ (ok:=true) h g d l).2 j c a),Result.andThen_ok,Sem.run_pure]; rfl
end
section
variable {P:Program} {w:World} {b n:Nat} {key:Nat->Int} {val:Nat->Value}
theorem I7{w:World}{b:Nat}{o o':Obj}(d:w.heap[b]? = some o):({ w with heap:=w.heap.setIfInBounds b o' }:World).heap[b]? = some o'/\Stp b w { w with heap:=w.heap.setIfInBounds b o' }/\({ w with heap:=w.heap.setIfInBounds b o' }:World).heap.size=w.heap.size:=by
 obtain⟨a,c⟩:=heap_set (o':=o') d;exact⟨a,⟨rfl,rfl,rfl,by simp,fun k _ e=>c k e⟩,by simp⟩
theorem zB{T K E:TypeId}{k:Int}{v:Value}(h:Mp w b n key val)(J:P.underlying T=some (.map K E))(u:P.underlying K=some (.int .u64)) :
 (∀ j,j<n->key j=k -> ∃ w',(Instr.mapUpdate T (.map (some b)) (.int .u64 k) v).run P w = .ok () w'/\Mp w' b n key (aO val j v)/\Stp b w w'/\w'.heap.size=w.heap.size) /\
 ((∀ i,i<n->key i≠k) -> ∃ w',(Instr.mapUpdate T (.map (some b)) (.int .u64 k) v).run P w = .ok () w'/\Mp w' b (n+1) (aO key n k) (aO val n v)/\Stp b w w'/\w'.heap.size=w.heap.size):=by
 have Q:=h;obtain⟨f,c,d,G,m,p⟩:=Q;have I:(Instr.checkKey false 10000 K (.int .u64 k)).run P w = .ok () w:=run_checkKey u (show IsKey (.int .u64) (.int .u64 k)from rfl) _ 9999
 rcases h.find d k with ⟨s,H⟩|⟨j,o,hkj,s⟩
 ·refine⟨fun j o e=>M_ e (H j o),fun _ => ?_⟩;have t:=run_findKey (w:=w) u s;obtain⟨B,C,D⟩:=I7 (o' := .map (f.push { key := .int .u64 k,val:=v,born:=c }) (c+1)) d;have A:(Instr.mapUpdate T (.map (some b)) (.int .u64 k) v).run P w = .ok () { w with heap:=w.heap.setIfInBounds b (.map (f.push { key := .int .u64 k,val:=v,born:=c }) (c+1)) }:=by
   unfold Instr.mapUpdate;simp only[Sem.run_bind,run_underlying J,Result.andThen_ok,Go.MapKept.run_getObj_map d,I,t];exact run_setObj_map _ d
  refine⟨_,A,⟨_,_,B,stamped_push G fun x q e => ?_,by simp[m],fun i hi => ?_⟩,C,D⟩
  ·obtain⟨i,hi,N⟩:=List.getElem_of_mem q;obtain⟨y,g,l,_⟩:=p i (by simpa [<- m] using hi);have F:f.toList[i]? = some x:=(by rw[o_ hi,N]);rw[Array.getElem?_toList,g]at F;obtain rfl:=C_ F;rw[l]at e;simp only[Value.int.injEq,true_and]at e;exact H i (by simpa [<- m] using hi) e
  by_cases e:i=n
  ·subst e;refine⟨_,by rw[Array.getElem?_push,d_ m.symm],?_,?_⟩
   ·show Value.int .u64 k=_; unfold aO; rw[d_ rfl]
   show v=_; unfold aO; rw[d_ rfl]
  obtain⟨y,g,l,M⟩:=p i (by omega);refine⟨y,by rw[Array.getElem?_push,b_ (by omega)]; exact g,?_,?_⟩
  ·unfold aO; rw[b_ e]; exact l
  unfold aO; rw[b_ e]; exact M
 refine⟨fun a O e => ?_,fun R=>M_ hkj (R j o)⟩;obtain rfl:a=j:=h.inj a j O o (e.trans hkj.symm);have t:=run_findKey (w:=w) u s;obtain⟨y,g,l,M⟩:=p a o;obtain⟨B,C,D⟩:=I7 (o' := .map (f.modify a fun e => { e with key := .int .u64 k,val:=v }) c) d;have S:(Instr.keyThatStays (((f[a]?).map (·.key)).getD (.int .u64 k)) (.int .u64 k)).run P w = .ok (.int .u64 k) w:=by
  rw[g];show(Instr.keyThatStays y.key (.int .u64 k)).run P w=_;rw[l,e];unfold Instr.keyThatStays;rw[d_ (by simp[Instr.sameBits])]; rfl
 have A:(Instr.mapUpdate T (.map (some b)) (.int .u64 k) v).run P w = .ok () { w with heap:=w.heap.setIfInBounds b (.map (f.modify a fun e => { e with key := .int .u64 k,val:=v }) c) }:=by
  unfold Instr.mapUpdate;simp only[Sem.run_bind,run_underlying J,Result.andThen_ok,Go.MapKept.run_getObj_map d,I,t,S];exact run_setObj_map _ d
 refine⟨_,A,⟨_,_,B,stamped_modify G a _ (fun _ _=>rfl) (fun x _ q => ?_),by simp[m],fun i hi => ?_⟩,C,D⟩
 ·rw[g]at q;obtain rfl:=C_ q;show Value.int .u64 k=y.key;rw[l,e]
 obtain⟨z,L,U,V⟩:=p i hi;by_cases r:a=i
 ·subst r;refine⟨{ z with key := .int .u64 k,val:=v },by rw[Array.getElem?_modify,d_ rfl,L]; rfl,?_,?_⟩
  ·show Value.int .u64 k=_; rw[e]
  show v=_; unfold aO; rw[d_ rfl]
 refine⟨z,by rw[Array.getElem?_modify,b_ r]; exact L,U,?_⟩;unfold aO; rw[b_ (fun h=>r h.symm)]; exact V
end
def It(w:World)(r b n:Nat)(S:Nat->Bool):Prop :=
 ∃ a d c g f,w.heap[b]? = some (.map a d)/\w.heap[r]? = some (.mapIter (some b) c g f)/\(∀ x∈a.toList,x.born<c)/\c<=f/\a.size=n/\(∀ x∈a.toList,x.born<d)/\c<=d/\(∀(i j:Nat) (x y:MapEntry),a[i]? = some x->a[j]? = some y->x.born=y.born->i=j) /\ ∀ i,i<n -> ∃ e,a[i]? = some e/\g.contains e.born=S i
section
variable {w w':World} {r b n:Nat} {S:Nat->Bool}
theorem It.lt(h:It w r b n S):r<w.heap.size:=by
 obtain⟨d,c,s,e,a,_,h,_⟩:=h;exact(t_.1 h).1
theorem It.Ra(h:It w r b n S):b<w.heap.size:=by
 obtain⟨d,c,s,e,a,h,_⟩:=h;exact(t_.1 h).1
theorem It.keep(h:It w r b n S)(e:w'.heap[b]? = w.heap[b]?)(d:w'.heap[r]? = w.heap[r]?):It w' r b n S:=by
 obtain⟨f,c,s,k,a,g,i,j⟩:=h;exact⟨f,c,s,k,a,e.trans g,d.trans i,j⟩
theorem It.up(h:It w r b n S)(a:Below w.heap.size w w'):It w' r b n S:=h.keep (a.block b h.Ra) (a.block r h.lt)
instance:Rt.Tr w w' (It w r b n S) (It w' r b n S):=⟨fun b h=>h.up b⟩
theorem It.rZ{T:TypeId}(h:It w r b n S)(a:Ty w r T):False:=by
 obtain⟨f,c,s,g,d,_,h,_⟩:=h;obtain⟨e,a⟩:=a;rw[h]at a; cases a
theorem It.RU{T:TypeId}(h:It w r b n S)(a:Ty w b T):False:=by
 obtain⟨f,c,s,g,d,h,_⟩:=h;obtain⟨e,a⟩:=a;rw[h]at a; cases a
theorem It.kL{Ts:List TypeId}(h:It w r b n S)(c:iW Ts w w')(_:True):It w' r b n S:=h.keep (c.block b h.Ra fun _ a=>(h.RU a).elim) (c.block r h.lt fun _ a=>(h.rZ a).elim)
instance {Ts:List TypeId}:Rt.Tc Ts w w' (It w r b n S) (It w' r b n S) true:=⟨fun b h _=>h.kL b trivial⟩
theorem It.rb(h:It w r b n S):r≠b:=fun e=>by
 obtain⟨g,c,s,i,f,d,a,_⟩:=h;rw[e,d]at a; cases a
end
def Ap(w:World)(r b i:Nat):Prop :=
 ∃ a c f d e,w.heap[b]? = some (.map a c)/\w.heap[r]? = some (.mapIter (some b) f (Array.push d e.born) c)/\a[i]? = some e/\(a.toList.map (·.born)).Nodup
section
variable {w w':World} {r b i:Nat}
theorem Ap.lt(h:Ap w r b i):r<w.heap.size:=by
 obtain⟨a,c,s,d,e,_,h,_⟩:=h;exact(t_.1 h).1
theorem Ap.Ra(h:Ap w r b i):b<w.heap.size:=by
 obtain⟨a,c,s,d,e,h,_⟩:=h;exact(t_.1 h).1
theorem Ap.keep(h:Ap w r b i)(e:w'.heap[b]? = w.heap[b]?)(a:w'.heap[r]? = w.heap[r]?):Ap w' r b i:=by
 obtain⟨d,c,s,k,x,f,g,j⟩:=h;exact⟨d,c,s,k,x,e.trans f,a.trans g,j⟩
theorem Ap.up(h:Ap w r b i)(a:Below w.heap.size w w'):Ap w' r b i:=h.keep (a.block b h.Ra) (a.block r h.lt)
instance:Rt.Tr w w' (Ap w r b i) (Ap w' r b i):=⟨fun b h=>h.up b⟩
theorem Ap.rZ{T:TypeId}(h:Ap w r b i)(a:Ty w r T):False:=by
 obtain⟨f,c,s,g,e,_,h,_⟩:=h;obtain⟨d,a⟩:=a;rw[h]at a; cases a
theorem Ap.RU{T:TypeId}(h:Ap w r b i)(a:Ty w b T):False:=by
 obtain⟨f,c,s,g,e,h,_⟩:=h;obtain⟨d,a⟩:=a;rw[h]at a; cases a
theorem Ap.kL{Ts:List TypeId}(h:Ap w r b i)(c:iW Ts w w')(_:True):Ap w' r b i:=h.keep (c.block b h.Ra fun _ a=>(h.RU a).elim) (c.block r h.lt fun _ a=>(h.rZ a).elim)
instance {Ts:List TypeId}:Rt.Tc Ts w w' (Ap w r b i) (Ap w' r b i) true:=⟨fun b h _=>h.kL b trivial⟩
end
def Fam(w:World)(n:Nat)(pb:Nat->Nat)(s:Nat)(x:Nat->Nat->Value)(T:TypeId):Prop := ∀ i,i<n->aR w (pb i) s (x i) T
section
variable {w w':World} {n s:Nat} {pb:Nat->Nat} {x:Nat->Nat->Value} {T:TypeId}
theorem Fam.up(h:Fam w n pb s x T)(a:Below w.heap.size w w'):Fam w' n pb s x T:=fun i hi=>(h i hi).cB (Sb a) (u_ (h i hi).lt)
instance:Rt.Tr w w' (Fam w n pb s x T) (Fam w' n pb s x T):=⟨fun b h=>h.up b⟩
theorem Fam.kL{Ts:List TypeId}(h:Fam w n pb s x T)(a:iW Ts w w')(b:Ts.contains T=false):Fam w' n pb s x T:=fun i hi=>(h i hi).kL a b
instance {Ts:List TypeId}:Rt.Tc Ts w w' (Fam w n pb s x T) (Fam w' n pb s x T) (!(Ts.contains T)):=⟨fun b h e=>h.kL b (by simpa using e)⟩
theorem Fam.cB{g:Nat}(h:Fam w n pb s x T)(a:Stp g w w')(b : ∀ i,i<n->pb i≠g):Fam w' n pb s x T:=fun i hi=>(h i hi).cB a (b i hi)
theorem Fam.put{j:Nat}{y:Nat->Value}(h:Fam w n pb s x T)(f:Stp (pb j) w w')(c:aR w' (pb j) s y T)(hi : ∀ i k,i<n->k<n->pb i=pb k->i=k)(d:j<n):Fam w' n pb s (aO x j y) T:=fun i a=>by
 unfold aO;by_cases e:i=j
 ·subst e; rw[d_ rfl]; exact c
 ·rw[b_ e]; exact(h i a).cB f fun b=>e (hi i j a d b)
theorem Fam.to{x':Nat->Nat->Value}(h:Fam w n pb s x T)(e : ∀ i,i<n->x i=x' i):Fam w n pb s x' T:=fun i hi=>e i hi ▸ h i hi
theorem Fam.push{g:Nat}{y:Nat->Value}(h:Fam w n pb s x T)(a:aR w g s y T):Fam w (n+1) (aO pb n g) s (aO x n y) T:=fun i hi=>by
 unfold aO;by_cases e:i=n
 ·rw[d_ e,d_ e]; exact a
 ·rw[b_ e,b_ e]; exact h i (by omega)
end
def unseen(S:Nat->Bool):Nat->Nat
 | 0=>0
 | n+1=>unseen S n+if S n then 0 else 1
theorem zC(S:Nat->Bool)(i:Nat) : ∀ n,n<=i->unseen (aO S i true) n=unseen S n
 | 0,_=>rfl
 | n+1,h=>by
   unfold unseen;rw[zC S i n (by omega)];have:aO S i true n=S n:=(by unfold aO; rw[b_ (by omega)]);rw[this]
theorem oU{S:Nat->Bool}{i:Nat}(a:S i=false) : ∀ n,i<n->unseen (aO S i true) n+1=unseen S n
 | 0,h=>M_ h (z_ _)
 | n+1,h=>by
   unfold unseen;by_cases e:i=n
   ·subst e;rw[zC S i i (A_ _),a];have:aO S i true i=true:=(by unfold aO; rw[d_ rfl]);rw[this]; simp
   ·have:aO S i true n=S n:=(by unfold aO; rw[b_ (by omega)]);rw[this,<- oU a n (by omega)];omega
theorem run_makeMap'{P:Program}(t:TypeId)(w:World):(Instr.makeMap t none).run P w = .ok (.map (some w.heap.size)) (w.alloc (.map #[] 0)):=rfl
section
variable {P:Program} {n0:Nat} {Q:Post} {f:Nat->Value} {w:World} {ops:Array Oper} {rest:List Oper} {o:Oper} {b n:Nat} {key:Nat->Int} {val:Nat->Value}
theorem L.abe{T K E:TypeId}{x ix v:Operand}{k:Int}{u:Value}{j:Nat}(y:Region.wanted o (yf ops f)=true)(a:o.dst=none)(p:o.op = .mapUpdate T x ix v)(hx:ev f x = .map (some b))(hi:ev f ix = .int .u64 k)(t:ev f v=u)(h:Mp w b n key val)(s:P.underlying T=some (.map K E))(m:P.underlying K=some (.int .u64))(l:j<n)(i:key j=k)
 (g : ∀ w',Mp w' b n key (aO val j u)->Stp b w w'->w'.heap.size=w.heap.size->L P n0 ops Q rest f w'):L P n0 ops Q (o::rest) f w:=by
 obtain⟨w',q,c,d,e⟩:=(zB (v:=u) h s m).1 j l i;have r:(execOp (ev f) o).run P w = .ok .skip w':=by
  unfold execOp;simp only[p,hx,hi,t,Sem.run_bind,q,Result.andThen_ok,Sem.run_pure]
 refine L.unit y r (by rw[a]; rfl) ?_;rw[a]; exact g w' c d e
theorem L.PN{T K E:TypeId}{x ix v:Operand}{k:Int}{u:Value}(t:Region.wanted o (yf ops f)=true)(a:o.dst=none)(m:o.op = .mapUpdate T x ix v)(hx:ev f x = .map (some b))(hi:ev f ix = .int .u64 k)(s:ev f v=u)(h:Mp w b n key val)(r:P.underlying T=some (.map K E))(j:P.underlying K=some (.int .u64))(l : ∀ i,i<n->key i≠k)
 (g : ∀ w',Mp w' b (n+1) (aO key n k) (aO val n u)->Stp b w w'->w'.heap.size=w.heap.size->L P n0 ops Q rest f w'):L P n0 ops Q (o::rest) f w:=by
 obtain⟨w',p,c,d,e⟩:=(zB (v:=u) h r j).2 l;have q:(execOp (ev f) o).run P w = .ok .skip w':=by
  unfold execOp;simp only[m,hx,hi,s,Sem.run_bind,p,Result.andThen_ok,Sem.run_pure]
 refine L.unit t q (by rw[a]; rfl) ?_;rw[a]; exact g w' c d e
theorem L.Ki{T:TypeId}(e:Region.wanted o (yf ops f)=true)(b:inn n0 o.dst=true)(c:o.op = .makeMap T none)
 (a : ∀ g w',g=w.heap.size->Mp w' g 0 (fun _=>0) (fun _ => .pointer none)->Stp w.heap.size w w'->w'.heap.size=w.heap.size+1->L P n0 ops Q rest (put f o.dst (.map (some g))) w'):L P n0 ops Q (o::rest) f w:=by
 have d:(execOp (ev f) o).run P w = .ok (.value (.map (some w.heap.size))) (w.alloc (.map #[] 0)):=by
  unfold execOp;simp only[c,Option.map_none];simp[run_makeMap']
 refine L.val e d b (a _ _ rfl ?_ (Stp.alloc _ _) (by simp));exact⟨#[],0,by rw[alloc_at,d_ rfl],stamped_empty 0,rfl,fun i hi=>M_ hi (z_ _)⟩
theorem RV{T K E:TypeId}{x:Operand}{Ts:Array TypeId}(g:o.op = .call { callee := .builtin .len,args := #[x],argTypes:=Ts })(e:Ts = #[T])(hx:ev f x = .map (some b))(h:Mp w b n key val)(j:P.underlying T=some (.map K E)):Runs P f o w (.int .i64 n):=by
 obtain⟨k,c,a,_,d,_⟩:=h;unfold Runs execOp;simp only[g];unfold resolve invoke;simp only[e,List.map_toArray,List.map_cons,List.map_nil,hx];unfold builtin;have i:(Builtin.len_ #[T] o.type #[.map (some b)]).run P w = .ok (.int .i64 n) w:=by
  unfold Builtin.len_;simp[run_underlying j,Go.MapKept.run_getObj_map a,goInt,d]
 simp only[Sem.run_bind,Sem.run_pure,Result.andThen_ok,i]
theorem L.range{T K E:TypeId}{x:Operand}(J:Region.wanted o (yf ops f)=true)(A:inn n0 o.dst=true)(D:o.op = .range T x)(hx:ev f x = .map (some b))(h:Mp w b n key val)(I:P.underlying T=some (.map K E))
 (l : ∀ g w',g=w.heap.size->It w' g b n (fun _=>false)->Stp w.heap.size w w'->w'.heap.size=w.heap.size+1->L P n0 ops Q rest (put f o.dst (.pointer (some ⟨g,0,none⟩))) w'):L P n0 ops Q (o::rest) f w:=by
 have C:=h;obtain⟨d,c,p,m,u,v⟩:=C;have G:=run_range_map (P:=P) w T K E b d c I p;have H:(execOp (ev f) o).run P w = .ok (.value (.pointer (some ⟨w.heap.size,0,none⟩))) (w.alloc (.mapIter (some b) c #[] c)):=by
  unfold execOp;simp only[D,hx,Sem.run_bind,G,Result.andThen_ok,Sem.run_pure]
 refine L.val J H A (l _ _ rfl ?_ (Stp.alloc _ _) (by simp));refine⟨d,c,c,#[],c,?_,by rw[alloc_at,d_ rfl],m.1,A_ _,u,m.1,A_ _,fun i j x y hx k e => ?_,fun i hi => ?_⟩
 ·rw[alloc_at,b_ (u_ h.lt)]; exact p
 ·rw[t_]at hx k;obtain⟨r,hx⟩:=hx;obtain⟨s,k⟩:=k;have F:=List.pairwise_iff_getElem.1 m.2.1;have t : ∀ a c (q:a<d.size) (l:c<d.size),a<c->d[a].born≠d[c].born:=fun a c q l z=>by
   have:=F a c (by simpa using q) (by simpa using l) z
   simpa only[List.getElem_map,Array.getElem_toList] using this
  rcases Nat.lt_trichotomy i j with h5|h5|h5
  ·exact M_ (by rw[hx,k,e]) (t i j r s h5)
  ·exact h5
  exact M_ (by rw[hx,k,e]) (t j i s r h5)
 obtain⟨e,B,_⟩:=v i hi;exact⟨e,B,by simp⟩
theorem L.next{x:Operand}{r:Nat}{S:Nat->Bool}(O:Region.wanted o (yf ops f)=true)(J:inn n0 o.dst=true)(K:o.op = .next x false)(hx:ev f x = .pointer (some ⟨r,0,none⟩))(h:Mp w b n key val)(hi:It w r b n S)
 (hc0:(∀ i,i<n->S i=true)->L P n0 ops Q rest (put f o.dst (.tuple #[.bool false])) w)
 (hc1 : ∀ i w',i<n->S i=false->It w' r b n (aO S i true)->Ap w' r b i->Stp r w w'->w'.heap.size=w.heap.size->L P n0 ops Q rest (put f o.dst (.tuple #[.bool true,.int .u64 (key i),val i])) w'):L P n0 ops Q (o::rest) f w:=by
 obtain⟨g,c,d,a,V,l,s,G,Y,Z,h6,H,I,C⟩:=hi;obtain⟨es',c',k1,kst,_,k4⟩:=h;rw[l]at k1;simp only[Option.some.injEq,Obj.map.injEq]at k1;obtain⟨rfl,rfl⟩:=k1;have hrb:r≠b:=fun e=>by rw[e,l]at s; cases s
 rcases run_next_at (P:=P) w o.type r b d V a g c s l G Y with ⟨z,E⟩|⟨e,he,w1,hw1,E⟩
 ·have t:(execOp (ev f) o).run P w = .ok (.value (.tuple #[.bool false])) w:=by
   unfold execOp;simp only[K,hx,Sem.run_bind,E,Result.andThen_ok,Sem.run_pure]
  refine L.val O t J<|hc0 fun i hi => ?_;obtain⟨y,u,F⟩:=C i hi;rw[<- F]
  cases hq:a.contains y.born with
  | true=>rfl
  | false =>
    have q:y∈leftOf g a:=by
     unfold leftOf;rw[Array.mem_filter];exact⟨Array.mem_of_getElem? u,by rw[hq]; rfl⟩
    have:=Array.size_pos_of_mem q;omega
 have t:(execOp (ev f) o).run P w = .ok (.value (.tuple #[.bool true,e.key,e.val])) (Go.ChangeMaps.setBlock w1 r (.mapIter (some b) d (a.push e.born) c)):=by
  unfold execOp;simp only[K,hx,Sem.run_bind,E,Result.andThen_ok,Sem.run_pure]
 have q:e∈leftOf g a:=Array.mem_toList_iff.1 he;unfold leftOf at q;rw[Array.mem_filter]at q;obtain⟨hme,hns⟩:=q;obtain⟨i,hi,X⟩:=Array.getElem_of_mem hme;have m:g[i]? = some e:=by rw[Array.getElem?_eq_getElem hi,X]
 obtain⟨y,u,ky,vy⟩:=k4 i (by omega);rw[m]at u;obtain rfl:=C_ u;obtain⟨y2,R,F⟩:=C i (by omega);rw[m]at R;obtain rfl:=C_ R;have hsf:S i=false:=by rw[<- F]; simpa using hns
 have p:w1.os=w.os/\w1.tape=w.tape/\w1.output=w.output/\w1.heap=w.heap:=by rcases hw1 with rfl|rfl <;> exact⟨rfl,rfl,rfl,rfl⟩
 have N:(Go.ChangeMaps.setBlock w1 r (.mapIter (some b) d (a.push e.born) c)).heap.size=w.heap.size:=by
  show(w1.heap.setIfInBounds r _).size=_; rw[p.2.2.2]; simp
 have M:Stp r w (Go.ChangeMaps.setBlock w1 r (.mapIter (some b) d (a.push e.born) c)) :=
  ⟨p.1,p.2.1,p.2.2.1,by rw[N]; exact A_ _,fun k _ D=>by show(w1.heap.setIfInBounds r _)[k]? = _; rw[p.2.2.2,Array.getElem?_setIfInBounds_ne (Ne.symm D)]⟩
 have abf:r<w1.heap.size:=by
  rcases hw1 with rfl|rfl <;> exact(t_.1 s).1
 rw[ky,vy]at t;have T:(Go.ChangeMaps.setBlock w1 r (.mapIter (some b) d (a.push e.born) c)).heap[b]? = some (.map g c):=by rw[M.block b (t_.1 l).1 (Ne.symm hrb)]; exact l
 have U:(Go.ChangeMaps.setBlock w1 r (.mapIter (some b) d (a.push e.born) c)).heap[r]? = some (.mapIter (some b) d (a.push e.born) c):=by simp[Go.ChangeMaps.setBlock,abf]
 refine L.val O t J (hc1 i _ (by omega) hsf ⟨g,c,d,a.push e.born,c,T,U,G,H,Z,h6,H,I,fun j hj => ?_⟩ ⟨g,c,d,a,e,T,U,m,kst.2.1⟩ M N);obtain⟨A,v,hs3⟩:=C j hj;refine⟨A,v,?_⟩;unfold aO;by_cases B:j=i
 ·subst B;rw[m]at v;obtain rfl:=C_ v;rw[d_ rfl]; simp
 rw[b_ B,<- hs3];have D:A.born≠e.born:=fun W=>B (I j i A e v m W)
 cases hq:a.contains A.born with
 | true=>simp at hq ⊢; exact .inl hq
 | false=>simp at hq ⊢; exact⟨hq,D⟩
theorem Og{x:Operand}{r i:Nat}(p:o.op = .entry x)(hx:ev f x = .pointer (some ⟨r,0,none⟩))(h:Mp w b n key val)(hi:Ap w r b i)(m:i<n):Runs P f o w (.tuple #[.int .u64 (key i),val i]):=by
 obtain⟨j,c,s,v,e,a,k,d,l⟩:=hi;obtain⟨B,A,k1,_,_,t⟩:=h;rw[a]at k1;simp only[Option.some.injEq,Obj.map.injEq]at k1;obtain⟨rfl,rfl⟩:=k1;obtain⟨y,g,u,z⟩:=t i m;rw[d]at g;obtain rfl:=C_ g;have q:=run_entry_at (P:=P) w r b s v j c e k a (Array.mem_toList_iff.2 (Array.mem_of_getElem? d)) l;unfold Runs execOp;simp only[p,hx,Sem.run_bind,q,Result.andThen_ok,Sem.run_pure,u,z]
end
structure PO(r:Nat)(w w':World):Prop where
 s:Stp r w w'
 no : ∀ T,¬ Ty w r T
section
variable {w w':World} {r b n:Nat}
theorem Mp.BN{m:Nat}{key:Nat->Int}{val:Nat->Value}(h:Mp w r m key val)(a:Stp r w w'):PO r w w':=⟨a,fun _ b=>h.rZ b⟩
theorem It.BN{m q:Nat}{S:Nat->Bool}(h:It w r q m S)(a:Stp r w w'):PO r w w':=⟨a,fun _ b=>h.rZ b⟩
theorem Ap.BN{q i:Nat}(h:Ap w r q i)(a:Stp r w w'):PO r w w':=⟨a,fun _ b=>h.rZ b⟩
theorem Fam.dY{m s:Nat}{pb:Nat->Nat}{x:Nat->Nat->Value}{T:TypeId}(h:Fam w m pb s x T)(a:PO r w w'):Fam w' m pb s x T:=fun i hi=>(h i hi).cB a.s fun e=>a.no T (e ▸ (h i hi).ty)
theorem aR.dY{x:Nat->Value}{T:TypeId}(h:aR w b n x T)(a:PO r w w'):aR w' b n x T:=h.cB a.s fun e=>a.no T (e ▸ h.ty)
theorem Own.dY{B s:Nat}{E:TypeId}{v:Value}{x:Nat->Value}(h:Own w B E s v n x)(a:PO r w w'):Own w' B E s v n x:=h.cB a.s fun e=>a.no E (h.ty e)
theorem Mp.dY{key:Nat->Int}{val:Nat->Value}(h:Mp w b n key val)(a:PO r w w')(c:b≠r):Mp w' b n key val:=h.cB a.s c
end
theorem sj(key:Nat->Int)(n:Nat)(k:Int):(∃ j,j<n/\key j=k) \/ ∀ i,i<n->key i≠k:=by
 by_cases h : ∃ j,j<n/\key j=k
 ·exact .inl h
 exact .inr fun i hi e=>h ⟨i,hi,e⟩
theorem wh{p:Nat->Prop}(h : ∃ k,p k) : ∃ k,p k /\ ∀ j,p j->k<=j:=by
 obtain⟨k,c⟩:=h
 induction k using Nat.strongRecOn with
 | _ k ih =>
   by_cases b : ∃ j,j<k/\p j
   ·obtain⟨j,a,e⟩:=b; exact ih j a e
   ·exact⟨k,c,fun j a=>Nat.not_lt.1 fun d=>b ⟨j,d,a⟩⟩
open Classical in
theorem Dx{P:Program}{n:Nat}{c:Code}{Q:Post}{f:Nat->Value}{w:World}(I:Nat->(Nat->Value)->World->Prop)(j:Nat)(l:I j f w)
 (hr : ∀ k f w,I k f w->W P n c (J6 (fun f w => ∃ a,a<k/\I a f w) (fun _ _=>0) 1 Q) f w):W P n (.loop c) Q f w:=by
 refine Wo (fun f w => ∃ k,I k f w) (fun f w=>if h : ∃ k,I k f w then(wh h).choose else 0) ⟨j,l⟩ fun f w h => ?_;refine(hr _ f w (wh h).choose_spec.1).mono fun e d w' i => ?_;rw[dif_pos h]
 cases e with
 | normal =>
   obtain⟨⟨a,m,b⟩,_⟩:=i;refine⟨⟨a,b⟩,?_⟩;have g : ∃ k,I k d w':=⟨a,b⟩;show(if h : ∃ k,I k d w' then(wh h).choose else 0)<_;rw[dif_pos g];exact Nat.lt_of_le_of_lt ((wh g).choose_spec.2 a b) m
 | _=>exact i
structure Aq(Ts:List TypeId)(w w':World):Prop where
 os:w'.os=w.os
 tape:w'.tape=w.tape
 output:w'.output=w.output
 size:w.heap.size<=w'.heap.size
 block : ∀ k T,Ty w k T->Ts.contains T=false->w'.heap[k]? = w.heap[k]?
section
variable {w w' w2:World} {Ts Us:List TypeId}
theorem Aq.refl(w:World):Aq Ts w w:=⟨rfl,rfl,rfl,A_ _,fun _ _ _ _=>rfl⟩
theorem Ty.ltw{k:Nat}{T:TypeId}(h:Ty w k T):k<w.heap.size:=by
 obtain⟨c,h⟩:=h;exact(t_.1 h).1
theorem Aq.trans(w w' w2:World)(h:Aq Ts w w')(k:Aq Ts w' w2):Aq Ts w w2:=⟨k.os.trans h.os,k.tape.trans h.tape,k.output.trans h.output,m_ h.size k.size,fun i T b a=>by
 have e:=h.block i T b a;obtain⟨c,d⟩:=b;exact(k.block i T ⟨c,e.trans d⟩ a).trans e⟩
theorem Aq.I8(h:iW Ts w w'):Aq Ts w w':=⟨h.os,h.tape,h.output,h.size,fun k T a b=>h.block k a.ltw fun d c=>by rw[Ty.only a c]; exact b⟩
theorem Aq.of_below(h:Below w.heap.size w w'):Aq Ts w w' := .I8 (.of_below h)
theorem Aq.wide(h:Aq Ts w w')(d:Ts.all Us.contains=true):Aq Us w w':=⟨h.os,h.tape,h.output,h.size,fun k T f c=>h.block k T f (by
 cases e:Ts.contains T with
 | false=>rfl
 | true =>
   have b:T∈Ts:=(by simpa using e);have a:=(List.all_eq_true.1 d) T b;rw[c]at a; cases a)⟩
theorem aR.I9{b n:Nat}{x:Nat->Value}{T:TypeId}(h:aR w b n x T)(a:Aq Ts w w')(c:Ts.contains T=false):aR w' b n x T:=(a.block b T h.ty c).trans h
theorem Fam.I9{n s:Nat}{pb:Nat->Nat}{x:Nat->Nat->Value}{T:TypeId}(h:Fam w n pb s x T)(a:Aq Ts w w')(b:Ts.contains T=false):Fam w' n pb s x T:=fun i hi=>(h i hi).I9 a b
theorem Own.I9{B s n:Nat}{E:TypeId}{v:Value}{x:Nat->Value}(h:Own w B E s v n x)(a:Aq Ts w w')(b:Ts.contains E=false):Own w' B E s v n x:=by
 refine⟨h.1,?_⟩
 rcases h.2 with hn|⟨g,cap,cur,hv,hB,hg,rest⟩
 ·exact .inl hn
 exact .inr ⟨g,cap,cur,hv,hB,(a.block g E ⟨cur,hg⟩ b).trans hg,rest⟩
end
end Go.Proofs.YtcbedgfikejkoaaGreatDoor.Fx
namespace Go.Proofs.YtcbedgfikejkoaaGreatDoor.Fx
open Go.RowKit Go.MapKept
def kS(a b:Int):Value := .agg #[.int .i64 a,.int .u64 b]
structure Dy(a b:Int):Prop where
 a : -9223372036854775808<=a/\a<=9223372036854775807
 b:0<=b/\b<=18446744073709551615
theorem MS{a b c d:Int}(h:kS a b=kS c d):a=c/\b=d:=by
 unfold kS at h;simp only[Value.agg.injEq]at h;have h:=L_ Array.toList h;simp at h; exact h
theorem zD{y:Nat->Value}{a b:Int}(c:y 0 = .int .i64 a)(h1:y 1 = .int .u64 b):Value.agg (aA 2 y)=kS a b:=by
 unfold kS
 congr 1
 apply Array.ext';rw[GJ];show [y 0,y 1]=_;rw[c,h1]
structure wm(P:Program)(K:TypeId):Prop where
 kt:P.keyTypeAt 12 K=true
 fl:flatK P 12 K=some [some .i64,some .u64]
 ag:Ey P K=true
section
variable {P:Program} {K:TypeId} {a b c d:Int} {w:World}
theorem wm.wide(h:wm P K):(match P.underlying K with|some (.array _ _)|some (.struct _)=>true|_=>false)=true:=by
 have h:=h.ag;unfold Ey at h
 cases hu:P.underlying K with
 | none=>rw[hu]at h; cases h
 | some d=>rw[hu]at h; cases d <;> first|rfl|(cases h)
theorem Dy.fit(h:Dy a b):Fit [some .i64,some .u64] (#[Value.int .i64 a,.int .u64 b]:Array Value).toList [.int .i64 a,.int .u64 b]:=by
 refine⟨?_,?_,trivial⟩
 ·simp[oK,RB h.a]
 simp[oK,tV h.b]
theorem wm.eq(e:wm P K)(h1:Dy a b)(f:Dy c d)(w:World) : ∃ r:Bool,(Op.equal K (kS a b) (kS c d)).run P w = .ok r w/\(r=true<->kS a b=kS c d):=by
 refine⟨decide (a=c/\b=d),?_,?_⟩
 ·have:=oO w 12 9988 K _ #[.int .i64 a,.int .u64 b] #[.int .i64 c,.int .u64 d] _ _ e.kt e.fl e.wide h1.fit f.fit (decide (a=c/\b=d)) (by simp);exact this
 rw[P_];constructor
 ·rintro ⟨rfl,rfl⟩; rfl
 exact MS
theorem wm.formed(g:wm P K)(h1:Dy a b):(kS a b).formed P K=true:=by
 have d:=g.wide;have c:=g.fl;unfold Value.formed kS
 cases hu:P.underlying K with
 | none=>rw[hu]at d; cases d
 | some td =>
   have h:P.cellsOf K=2:=by
    unfold flatK at c;rw[hu]at c d
    cases td with
    | array n e =>
      simp only at c
      cases h2:flatK P 11 e with
      | none=>rw[h2]at c; cases c
      | some l =>
        rw[h2]at c;simp only at c;split at c
        ·rename_i h3;simp only[Option.some.injEq]at c;have f:=L_ List.length c;rw[rY]at f;exact h3.2.symm.trans f
        ·cases c
    | struct fs =>
      simp only at c
      cases h2:vT P.cellsOf (flatK P 11) fs.toList 0 with
      | none=>rw[h2]at c; cases c
      | some l =>
        rw[h2]at c;simp only at c;split at c
        ·rename_i h3;simp only[Option.some.injEq]at c;rw[<- h3,c]; rfl
        ·cases c
    | _=>cases d
   rw[hu]at d
   cases td <;> first|(cases d; done)|simp[h]
theorem wm.check(c:wm P K)(h1:Dy a b)(d:Bool)(w:World):(Instr.checkKey d 10000 K (kS a b)).run P w = .ok () w:=by
 have h:=run_checkKey_deep d 9988 12 K c.kt;exact h w 12 (kS a b) _ (c.formed h1) (pW 12 K _ _ _ c.fl (by simpa [Value.cells,kS] using h1.fit))
theorem Kj(a b:Int):Instr.sameBits 10000 (kS a b) (kS a b)=true:=by
 unfold kS;show Instr.sameBits (9999+1) _ _=true;simp[Instr.sameBits]
end
def iB(w:World)(b n:Nat)(k1 k2:Nat->Int)(val:Nat->Value):Prop :=
 ∃ a c,w.heap[b]? = some (.map a c)/\Stamped a c/\a.size=n /\ ∀ i,i<n -> ∃ e,a[i]? = some e/\e.key=kS (k1 i) (k2 i)/\e.val=val i/\Dy (k1 i) (k2 i)
section
variable {w w':World} {b n:Nat} {k1 k2:Nat->Int} {val:Nat->Value}
theorem iB.lt(h:iB w b n k1 k2 val):b<w.heap.size:=by
 obtain⟨a,c,h,_⟩:=h;exact(t_.1 h).1
theorem iB.keep(h:iB w b n k1 k2 val)(e:w'.heap[b]? = w.heap[b]?):iB w' b n k1 k2 val:=by
 obtain⟨a,c,d,f⟩:=h;exact⟨a,c,e.trans d,f⟩
theorem iB.cB{g:Nat}(h:iB w b n k1 k2 val)(a:Stp g w w')(c:b≠g):iB w' b n k1 k2 val:=h.keep (a.block b h.lt c)
theorem iB.up(h:iB w b n k1 k2 val)(a:Below w.heap.size w w'):iB w' b n k1 k2 val:=h.keep (a.block b h.lt)
instance:Rt.Tr w w' (iB w b n k1 k2 val) (iB w' b n k1 k2 val):=⟨fun b h=>h.up b⟩
theorem iB.rZ{T:TypeId}(h:iB w b n k1 k2 val)(a:Ty w b T):False:=by
 obtain⟨e,c,h,_⟩:=h;obtain⟨d,a⟩:=a;rw[h]at a; cases a
theorem iB.kL{Ts:List TypeId}(h:iB w b n k1 k2 val)(a:iW Ts w w')(_:True):iB w' b n k1 k2 val:=h.keep (a.block b h.lt fun _ c=>(h.rZ c).elim)
instance {Ts:List TypeId}:Rt.Tc Ts w w' (iB w b n k1 k2 val) (iB w' b n k1 k2 val) true:=⟨fun b h _=>h.kL b trivial⟩
theorem iB.BN(h:iB w b n k1 k2 val)(a:Stp b w w'):PO b w w':=⟨a,fun _ c=>h.rZ c⟩
theorem iB.dY{r:Nat}(h:iB w b n k1 k2 val)(a:PO r w w')(c:b≠r):iB w' b n k1 k2 val:=h.cB a.s c
theorem iB.ok(h:iB w b n k1 k2 val){i:Nat}(hi:i<n):Dy (k1 i) (k2 i):=by
 obtain⟨f,c,_,_,_,a⟩:=h;obtain⟨e,_,_,_,d⟩:=a i hi; exact d
theorem iB.uT{l m:Nat->Int}{o:Nat->Value}(h:iB w b n k1 k2 val)(e : ∀ i,i<n->k1 i=l i/\k2 i=m i/\val i=o i):iB w b n l m o:=by
 obtain⟨q,c,r,s,t,u⟩:=h;exact⟨q,c,r,s,t,fun i hi=>by
  obtain⟨x,a,d,f,g⟩:=u i hi;obtain⟨j,k,p⟩:=e i hi;exact⟨x,a,by rw[d,j,k],by rw[f,p],by rw[<- j,<- k]; exact g⟩⟩
theorem iB.inj(h:iB w b n k1 k2 val) : ∀ i j,i<n->j<n->k1 i=k1 j->k2 i=k2 j->i=j:=fun i j hi u g k=>by
 obtain⟨f,c,_,⟨_,_,v⟩,hn,hg⟩:=h;obtain⟨x,d,r,_⟩:=hg i hi;obtain⟨y,e,s,_⟩:=hg j u;rw[t_]at d e;obtain⟨o,d⟩:=d;obtain⟨p,e⟩:=e;have z:=List.pairwise_iff_getElem.1 v;have q : ∀ a c (l:a<f.size) (m:c<f.size),a<c->f[a].key≠f[c].key:=fun a c l m t=>by
  have:=z a c (by simpa using l) (by simpa using m) t
  simpa only[List.getElem_map,Array.getElem_toList] using this
 rcases Nat.lt_trichotomy i j with h1|h1|h1
 ·exact M_ (by rw[d,e,r,s,g,k]) (q i j o p h1)
 ·exact h1
 ·exact M_ (by rw[d,e,r,s,g,k]) (q j i p o h1)
end
theorem xU(k1 k2:Nat->Int)(n:Nat)(a b:Int):(∃ j,j<n/\k1 j=a/\k2 j=b) \/ ∀ i,i<n -> ¬ (k1 i=a/\k2 i=b):=by
 by_cases h : ∃ j,j<n/\k1 j=a/\k2 j=b
 ·exact .inl h
 exact .inr fun i hi e=>h ⟨i,hi,e⟩
section
variable {P:Program} {f:Nat->Value} {w:World} {o:Oper} {K:TypeId}
variable {b n:Nat} {k1 k2:Nat->Int} {val:Nat->Value}
theorem Kk(k:wm P K){x y:Int}(l:Dy x y)(w:World) : ∀(a:List MapEntry) (i:Nat),(∀ e∈a,∃ u v,e.key=kS u v/\Dy u v) ->
 ((Instr.findAsking K (kS x y) a i).run P w = .ok none w /\ ∀ e∈a,e.key≠kS x y) \/ ∃ j e,(Instr.findAsking K (kS x y) a i).run P w = .ok (some (i+j,e.val)) w/\a[j]? = some e/\e.key=kS x y
 | [],i,_ => .inl ⟨by simp[Instr.findAsking],by simp⟩
 | e::a,i,hall=>by
   obtain⟨u,v,m,o⟩:=hall e (by simp);obtain⟨r,c,g⟩:=k.eq l o w;rw[<- m]at c g
   cases r
   ·have n:e.key≠kS x y:=fun h=>by have:=g.2 h.symm; cases this
    rcases Kk k l w a (i+1) (fun y b=>hall y (by simp[b]))with ⟨d,f⟩|⟨j,e',d,f,h3⟩
    ·left;refine⟨by simp[Instr.findAsking,c,d],fun y b => ?_⟩
     rcases List.mem_cons.1 b with rfl|b
     ·exact n
     ·exact f y b
    ·right;exact⟨j+1,e',by simp[Instr.findAsking,c,d,Nat.add_assoc,Nat.add_comm 1 j],by simpa using f,h3⟩
   ·right;exact⟨0,e,by simp[Instr.findAsking,c],rfl,(g.1 rfl).symm⟩
theorem iB.find(h:iB w b n k1 k2 val)(p:wm P K){a:Array MapEntry}{c:Nat}(t:w.heap[b]? = some (.map a c)){x y:Int}(z:Dy x y) :
 ((Instr.findKey K (kS x y) a.toList).run P w = .ok none w /\ ∀ i,i<n -> ¬ (k1 i=x/\k2 i=y)) \/ ∃ j,j<n/\k1 j=x/\k2 j=y/\(Instr.findKey K (kS x y) a.toList).run P w = .ok (some (j,val j)) w:=by
 obtain⟨F,E,l,G,o,m⟩:=h;rw[t]at l;simp only[Option.some.injEq,Obj.map.injEq]at l;obtain⟨rfl,rfl⟩:=l;have A : ∀ e∈a.toList,∃ u v,e.key=kS u v/\Dy u v:=fun x B=>by
  obtain⟨i,hi,e⟩:=List.getElem_of_mem B;obtain⟨y,g,k,_,C⟩:=m i (by simpa [<- o] using hi);have:y=x:=by
   have d:a.toList[i]? = some x:=(by rw[o_ hi,e]);rw[Array.getElem?_toList,g]at d;exact C_ d
  subst this;exact⟨_,_,k,C⟩
 rw[run_findKey_eq w p.wide]
 rcases Kk p z w a.toList 0 A with ⟨d,f⟩|⟨j,e,d,f,h7⟩
 ·left;refine⟨d,fun i hi e => ?_⟩;obtain⟨y,g,k,_⟩:=m i hi;exact f y (Array.mem_toList_iff.2 (Array.mem_of_getElem? g)) (by rw[k,e.1,e.2])
 right;have q:j<n:=by
  rw[Array.getElem?_toList]at f;rw[<- o]; exact(t_.1 f).1
 obtain⟨y,g,k,D,_⟩:=m j q;rw[Array.getElem?_toList,g]at f;obtain rfl:=C_ f;rw[k]at h7;obtain⟨r,s⟩:=MS h7;exact⟨j,q,r,s,by rw[d,G_,D]⟩
theorem nS{T E:TypeId}{x y:Int}{ok:Bool}{z:Value}(m:Dy x y)(h:iB w b n k1 k2 val)(o:P.underlying T=some (.map K E))(k:wm P K)(v:(zeroValue E).run P w = .ok z w) :
 ((∀ i,i<n -> ¬ (k1 i=x/\k2 i=y))->(Instr.lookup T (.map (some b)) (kS x y) ok).run P w = .ok (if ok then .tuple #[z,.bool false]else z) w) /\
 ∀ j,j<n->k1 j=x->k2 j=y->(Instr.lookup T (.map (some b)) (kS x y) ok).run P w = .ok (if ok then .tuple #[val j,.bool true]else val j) w:=by
 have t:=h;obtain⟨q,c,f,_⟩:=t;have l:=k.check m q.isEmpty w
 rcases h.find k f m with ⟨g,r⟩|⟨j,a,hkj,RX,g⟩
 ·refine⟨fun _ => ?_,fun j a e d=>M_ ⟨e,d⟩ (r j a)⟩;unfold Instr.lookup;simp only[Sem.run_bind,run_underlying o,Result.andThen_ok,Go.MapKept.run_getObj_map f,Sem.run_pure,l,g,v]
 refine⟨fun u=>M_ ⟨hkj,RX⟩ (u j a),fun p s e d => ?_⟩;obtain rfl:p=j:=h.inj p j s a (e.trans hkj.symm) (d.trans RX.symm);unfold Instr.lookup;simp only[Sem.run_bind,run_underlying o,Result.andThen_ok,Go.MapKept.run_getObj_map f,Sem.run_pure,l,g]
variable {T E:TypeId} {x ix:Operand} {a r:Int} {z v:Value} {j:Nat}
theorem Kl(g:o.op = .lookup T x ix false)(hx:ev f x = .map (some b))(hi:ev f ix=kS a r)(d:Dy a r)(h:iB w b n k1 k2 val)(j:P.underlying T=some (.map K E))(c:wm P K)(k:(zeroValue E).run P w = .ok z w)(e : ∀ i,i<n -> ¬ (k1 i=a/\k2 i=r)):Runs P f o w z:=by
 unfold Runs execOp;simp only[g,hx,hi,Sem.run_bind,((nS (ok:=false) d h j c k).1 e),Result.andThen_ok,Sem.run_pure]; rfl
theorem Km(k:o.op = .lookup T x ix false)(hx:ev f x = .map (some b))(hi:ev f ix=kS a r)(i:Dy a r)(h:iB w b n k1 k2 val)(l:P.underlying T=some (.map K E))(e:wm P K)(p:(zeroValue E).run P w = .ok z w)(g:j<n)(c:k1 j=a)(d:k2 j=r)(m:val j=v):Runs P f o w v:=by
 subst m;unfold Runs execOp;simp only[k,hx,hi,Sem.run_bind,((nS (ok:=false) i h l e p).2 j g c d),Result.andThen_ok,Sem.run_pure]; rfl
theorem PS(g:o.op = .lookup T x ix true)(hx:ev f x = .map (some b))(hi:ev f ix=kS a r)(d:Dy a r)(h:iB w b n k1 k2 val)(j:P.underlying T=some (.map K E))(c:wm P K)(k:(zeroValue E).run P w = .ok z w)(e : ∀ i,i<n -> ¬ (k1 i=a/\k2 i=r)):Runs P f o w (.tuple #[z,.bool false]):=by
 unfold Runs execOp;simp only[g,hx,hi,Sem.run_bind,((nS (ok:=true) d h j c k).1 e),Result.andThen_ok,Sem.run_pure]; rfl
theorem PU(k:o.op = .lookup T x ix true)(hx:ev f x = .map (some b))(hi:ev f ix=kS a r)(i:Dy a r)(h:iB w b n k1 k2 val)(l:P.underlying T=some (.map K E))(e:wm P K)(p:(zeroValue E).run P w = .ok z w)(g:j<n)(c:k1 j=a)(d:k2 j=r)(m:val j=v):Runs P f o w (.tuple #[v,.bool true]):=by
 subst m;unfold Runs execOp;simp only[k,hx,hi,Sem.run_bind,((nS (ok:=true) i h l e p).2 j g c d),Result.andThen_ok,Sem.run_pure]; rfl
end
section
variable {P:Program} {w:World} {b n:Nat} {k1 k2:Nat->Int} {val:Nat->Value} {K:TypeId}
theorem xV{T E:TypeId}{x y:Int}{v:Value}(u:Dy x y)(h:iB w b n k1 k2 val)(L:P.underlying T=some (.map K E))(I:wm P K) :
 (∀ j,j<n->k1 j=x->k2 j=y -> ∃ w',(Instr.mapUpdate T (.map (some b)) (kS x y) v).run P w = .ok () w'/\iB w' b n k1 k2 (aO val j v)/\Stp b w w'/\w'.heap.size=w.heap.size) /\
 ((∀ i,i<n -> ¬ (k1 i=x/\k2 i=y)) -> ∃ w',(Instr.mapUpdate T (.map (some b)) (kS x y) v).run P w = .ok () w'/\iB w' b (n+1) (aO k1 n x) (aO k2 n y) (aO val n v)/\Stp b w w'/\w'.heap.size=w.heap.size):=by
 have V:=h;obtain⟨g,c,d,G,m,p⟩:=V;have J:=I.check u false w
 rcases h.find I d u with ⟨t,H⟩|⟨j,o,hkj,RX,t⟩
 ·refine⟨fun j o e f=>M_ ⟨e,f⟩ (H j o),fun _ => ?_⟩;obtain⟨B,C,D⟩:=I7 (o' := .map (g.push { key:=kS x y,val:=v,born:=c }) (c+1)) d;have A:(Instr.mapUpdate T (.map (some b)) (kS x y) v).run P w = .ok () { w with heap:=w.heap.setIfInBounds b (.map (g.push { key:=kS x y,val:=v,born:=c }) (c+1)) }:=by
   unfold Instr.mapUpdate;simp only[Sem.run_bind,run_underlying L,Result.andThen_ok,Go.MapKept.run_getObj_map d,J,t];exact run_setObj_map _ d
  refine⟨_,A,⟨_,_,B,stamped_push G fun q r e => ?_,by simp[m],fun i hi => ?_⟩,C,D⟩
  ·obtain⟨i,hi,S⟩:=List.getElem_of_mem r;obtain⟨z,k,l,_⟩:=p i (by simpa [<- m] using hi);have F:g.toList[i]? = some q:=(by rw[o_ hi,S]);rw[Array.getElem?_toList,k]at F;obtain rfl:=C_ F;rw[l]at e;exact H i (by simpa [<- m] using hi) (MS e)
  by_cases e:i=n
  ·subst e;refine⟨_,by rw[Array.getElem?_push,d_ m.symm],?_,?_,?_⟩
   ·show kS x y=_; unfold aO; rw[d_ rfl,d_ rfl]
   ·show v=_; unfold aO; rw[d_ rfl]
   unfold aO; rw[d_ rfl,d_ rfl]; exact u
  obtain⟨z,k,l,Q,O⟩:=p i (by omega);refine⟨z,by rw[Array.getElem?_push,b_ (by omega)]; exact k,?_,?_,?_⟩
  ·unfold aO; rw[b_ e,b_ e]; exact l
  ·unfold aO; rw[b_ e]; exact Q
  unfold aO; rw[b_ e,b_ e]; exact O
 refine⟨fun a U e f => ?_,fun W=>M_ ⟨hkj,RX⟩ (W j o)⟩;obtain rfl:a=j:=h.inj a j U o (e.trans hkj.symm) (f.trans RX.symm);obtain⟨z,k,l,Q,O⟩:=p a o;obtain⟨B,C,D⟩:=I7 (o' := .map (g.modify a fun q => { q with key:=kS x y,val:=v }) c) d;have X:(Instr.keyThatStays (((g[a]?).map (·.key)).getD (kS x y)) (kS x y)).run P w = .ok (kS x y) w:=by
  rw[k];show(Instr.keyThatStays z.key (kS x y)).run P w=_;rw[l,e,f];unfold Instr.keyThatStays;rw[d_ (Kj x y)]; rfl
 have A:(Instr.mapUpdate T (.map (some b)) (kS x y) v).run P w = .ok () { w with heap:=w.heap.setIfInBounds b (.map (g.modify a fun q => { q with key:=kS x y,val:=v }) c) }:=by
  unfold Instr.mapUpdate;simp only[Sem.run_bind,run_underlying L,Result.andThen_ok,Go.MapKept.run_getObj_map d,J,t,X];exact run_setObj_map _ d
 refine⟨_,A,⟨_,_,B,stamped_modify G a _ (fun _ _=>rfl) (fun q _ r => ?_),by simp[m],fun i hi => ?_⟩,C,D⟩
 ·rw[k]at r;obtain rfl:=C_ r;show kS x y=z.key;rw[l,e,f]
 obtain⟨R,M,Y,Z,N⟩:=p i hi;by_cases s:a=i
 ·subst s;refine⟨{ R with key:=kS x y,val:=v },by rw[Array.getElem?_modify,d_ rfl,M]; rfl,?_,?_,N⟩
  ·show kS x y=_; rw[e,f]
  show v=_; unfold aO; rw[d_ rfl]
 refine⟨R,by rw[Array.getElem?_modify,b_ s]; exact M,Y,?_,N⟩;unfold aO; rw[b_ (fun h=>s h.symm)]; exact Z
end
section
variable {P:Program} {n0:Nat} {Q:Post} {f:Nat->Value} {w:World} {ops:Array Oper} {rest:List Oper} {o:Oper} {b n:Nat} {k1 k2:Nat->Int} {val:Nat->Value} {T K E:TypeId} {x ix v:Operand} {a r:Int} {u:Value} {j:Nat}
theorem L.afB(B:Region.wanted o (yf ops f)=true)(c:o.dst=none)(s:o.op = .mapUpdate T x ix v)(hx:ev f x = .map (some b))(hi:ev f ix=kS a r)(q:Dy a r)(A:ev f v=u)(h:iB w b n k1 k2 val)(z:P.underlying T=some (.map K E))(l:wm P K)(p:j<n)(d:k1 j=a)(e:k2 j=r)
 (m : ∀ w',iB w' b n k1 k2 (aO val j u)->Stp b w w'->w'.heap.size=w.heap.size->L P n0 ops Q rest f w'):L P n0 ops Q (o::rest) f w:=by
 obtain⟨w',t,g,i,k⟩:=(xV (v:=u) q h z l).1 j p d e;have y:(execOp (ev f) o).run P w = .ok .skip w':=by
  unfold execOp;simp only[s,hx,hi,A,Sem.run_bind,t,Result.andThen_ok,Sem.run_pure]
 refine L.unit B y (by rw[c]; rfl) ?_;rw[c]; exact m w' g i k
theorem L.RY(z:Region.wanted o (yf ops f)=true)(c:o.dst=none)(p:o.op = .mapUpdate T x ix v)(hx:ev f x = .map (some b))(hi:ev f ix=kS a r)(l:Dy a r)(y:ev f v=u)(h:iB w b n k1 k2 val)(t:P.underlying T=some (.map K E))(j:wm P K)(m : ∀ i,i<n -> ¬ (k1 i=a/\k2 i=r))
 (k : ∀ w',iB w' b (n+1) (aO k1 n a) (aO k2 n r) (aO val n u)->Stp b w w'->w'.heap.size=w.heap.size->L P n0 ops Q rest f w'):L P n0 ops Q (o::rest) f w:=by
 obtain⟨w',q,d,e,g⟩:=(xV (v:=u) l h t j).2 m;have s:(execOp (ev f) o).run P w = .ok .skip w':=by
  unfold execOp;simp only[p,hx,hi,y,Sem.run_bind,q,Result.andThen_ok,Sem.run_pure]
 refine L.unit z s (by rw[c]; rfl) ?_;rw[c]; exact k w' d e g
theorem L.RZ{T:TypeId}(e:Region.wanted o (yf ops f)=true)(b:inn n0 o.dst=true)(c:o.op = .makeMap T none)
 (a : ∀ g w',g=w.heap.size->iB w' g 0 (fun _=>0) (fun _=>0) (fun _ => .pointer none)->Stp w.heap.size w w'->w'.heap.size=w.heap.size+1->L P n0 ops Q rest (put f o.dst (.map (some g))) w'):L P n0 ops Q (o::rest) f w:=by
 have d:(execOp (ev f) o).run P w = .ok (.value (.map (some w.heap.size))) (w.alloc (.map #[] 0)):=by
  unfold execOp;simp only[c,Option.map_none];simp[run_makeMap']
 refine L.val e d b (a _ _ rfl ?_ (Stp.alloc _ _) (by simp));exact⟨#[],0,by rw[alloc_at,d_ rfl],stamped_empty 0,rfl,fun i hi=>M_ hi (z_ _)⟩
theorem L.abg(J:Region.wanted o (yf ops f)=true)(A:inn n0 o.dst=true)(D:o.op = .range T x)(hx:ev f x = .map (some b))(h:iB w b n k1 k2 val)(I:P.underlying T=some (.map K E))
 (l : ∀ g w',g=w.heap.size->It w' g b n (fun _=>false)->Stp w.heap.size w w'->w'.heap.size=w.heap.size+1->L P n0 ops Q rest (put f o.dst (.pointer (some ⟨g,0,none⟩))) w'):L P n0 ops Q (o::rest) f w:=by
 have C:=h;obtain⟨d,c,p,m,u,v⟩:=C;have G:=run_range_map (P:=P) w T K E b d c I p;have H:(execOp (ev f) o).run P w = .ok (.value (.pointer (some ⟨w.heap.size,0,none⟩))) (w.alloc (.mapIter (some b) c #[] c)):=by
  unfold execOp;simp only[D,hx,Sem.run_bind,G,Result.andThen_ok,Sem.run_pure]
 refine L.val J H A (l _ _ rfl ?_ (Stp.alloc _ _) (by simp));refine⟨d,c,c,#[],c,?_,by rw[alloc_at,d_ rfl],m.1,A_ _,u,m.1,A_ _,fun i j x y hx k e => ?_,fun i hi => ?_⟩
 ·rw[alloc_at,b_ (u_ h.lt)]; exact p
 ·rw[t_]at hx k;obtain⟨r,hx⟩:=hx;obtain⟨s,k⟩:=k;have F:=List.pairwise_iff_getElem.1 m.2.1;have t : ∀ a c (q:a<d.size) (l:c<d.size),a<c->d[a].born≠d[c].born:=fun a c q l z=>by
   have:=F a c (by simpa using q) (by simpa using l) z
   simpa only[List.getElem_map,Array.getElem_toList] using this
  rcases Nat.lt_trichotomy i j with h5|h5|h5
  ·exact M_ (by rw[hx,k,e]) (t i j r s h5)
  ·exact h5
  exact M_ (by rw[hx,k,e]) (t j i s r h5)
 obtain⟨e,B,_⟩:=v i hi;exact⟨e,B,by simp⟩
theorem L.afC{x:Operand}{r:Nat}{S:Nat->Bool}(R:Region.wanted o (yf ops f)=true)(K:inn n0 o.dst=true)(M:o.op = .next x false)(hx:ev f x = .pointer (some ⟨r,0,none⟩))(h:iB w b n k1 k2 val)(hi:It w r b n S)
 (hc0:(∀ i,i<n->S i=true)->L P n0 ops Q rest (put f o.dst (.tuple #[.bool false])) w)
 (hc1 : ∀ i w',i<n->S i=false->It w' r b n (aO S i true)->Ap w' r b i->Stp r w w'->w'.heap.size=w.heap.size->L P n0 ops Q rest (put f o.dst (.tuple #[.bool true,kS (k1 i) (k2 i),val i])) w'):L P n0 ops Q (o::rest) f w:=by
 obtain⟨g,c,d,a,W,l,s,H,Z,h5,h6,I,J,C⟩:=hi;obtain⟨es',c',G,kst,_,k4⟩:=h;rw[l]at G;simp only[Option.some.injEq,Obj.map.injEq]at G;obtain⟨rfl,rfl⟩:=G;have hrb:r≠b:=fun e=>by rw[e,l]at s; cases s
 rcases run_next_at (P:=P) w o.type r b d W a g c s l H Z with ⟨z,E⟩|⟨e,he,w1,hw1,E⟩
 ·have t:(execOp (ev f) o).run P w = .ok (.value (.tuple #[.bool false])) w:=by
   unfold execOp;simp only[M,hx,Sem.run_bind,E,Result.andThen_ok,Sem.run_pure]
  refine L.val R t K<|hc0 fun i hi => ?_;obtain⟨y,u,F⟩:=C i hi;rw[<- F]
  cases hq:a.contains y.born with
  | true=>rfl
  | false =>
    have q:y∈leftOf g a:=by
     unfold leftOf;rw[Array.mem_filter];exact⟨Array.mem_of_getElem? u,by rw[hq]; rfl⟩
    have:=Array.size_pos_of_mem q;omega
 have t:(execOp (ev f) o).run P w = .ok (.value (.tuple #[.bool true,e.key,e.val])) (Go.ChangeMaps.setBlock w1 r (.mapIter (some b) d (a.push e.born) c)):=by
  unfold execOp;simp only[M,hx,Sem.run_bind,E,Result.andThen_ok,Sem.run_pure]
 have q:e∈leftOf g a:=Array.mem_toList_iff.1 he;unfold leftOf at q;rw[Array.mem_filter]at q;obtain⟨hme,hns⟩:=q;obtain⟨i,hi,Y⟩:=Array.getElem_of_mem hme;have m:g[i]? = some e:=by rw[Array.getElem?_eq_getElem hi,Y]
 obtain⟨y,u,ky,vy,_⟩:=k4 i (by omega);rw[m]at u;obtain rfl:=C_ u;obtain⟨y2,T,F⟩:=C i (by omega);rw[m]at T;obtain rfl:=C_ T;have hsf:S i=false:=by rw[<- F]; simpa using hns
 have p:w1.os=w.os/\w1.tape=w.tape/\w1.output=w.output/\w1.heap=w.heap:=by rcases hw1 with rfl|rfl <;> exact⟨rfl,rfl,rfl,rfl⟩
 have O:(Go.ChangeMaps.setBlock w1 r (.mapIter (some b) d (a.push e.born) c)).heap.size=w.heap.size:=by
  show(w1.heap.setIfInBounds r _).size=_; rw[p.2.2.2]; simp
 have N:Stp r w (Go.ChangeMaps.setBlock w1 r (.mapIter (some b) d (a.push e.born) c)) :=
  ⟨p.1,p.2.1,p.2.2.1,by rw[O]; exact A_ _,fun k _ D=>by show(w1.heap.setIfInBounds r _)[k]? = _; rw[p.2.2.2,Array.getElem?_setIfInBounds_ne (Ne.symm D)]⟩
 have abf:r<w1.heap.size:=by
  rcases hw1 with rfl|rfl <;> exact(t_.1 s).1
 rw[ky,vy]at t;have U:(Go.ChangeMaps.setBlock w1 r (.mapIter (some b) d (a.push e.born) c)).heap[b]? = some (.map g c):=by rw[N.block b (t_.1 l).1 (Ne.symm hrb)]; exact l
 have V:(Go.ChangeMaps.setBlock w1 r (.mapIter (some b) d (a.push e.born) c)).heap[r]? = some (.mapIter (some b) d (a.push e.born) c):=by simp[Go.ChangeMaps.setBlock,abf]
 refine L.val R t K (hc1 i _ (by omega) hsf ⟨g,c,d,a.push e.born,c,U,V,H,I,h5,h6,I,J,fun j hj => ?_⟩ ⟨g,c,d,a,e,U,V,m,kst.2.1⟩ N O);obtain⟨A,v,hs3⟩:=C j hj;refine⟨A,v,?_⟩;unfold aO;by_cases B:j=i
 ·subst B;rw[m]at v;obtain rfl:=C_ v;rw[d_ rfl]; simp
 rw[b_ B,<- hs3];have D:A.born≠e.born:=fun X=>B (J j i A e v m X)
 cases hq:a.contains A.born with
 | true=>simp at hq ⊢; exact .inl hq
 | false=>simp at hq ⊢; exact⟨hq,D⟩
theorem R3{x:Operand}{r i:Nat}(q:o.op = .entry x)(hx:ev f x = .pointer (some ⟨r,0,none⟩))(h:iB w b n k1 k2 val)(hi:Ap w r b i)(p:i<n):Runs P f o w (.tuple #[kS (k1 i) (k2 i),val i]):=by
 obtain⟨k,c,s,z,e,d,l,g,m⟩:=hi;obtain⟨C,B,a,_,_,u⟩:=h;rw[d]at a;simp only[Option.some.injEq,Obj.map.injEq]at a;obtain⟨rfl,rfl⟩:=a;obtain⟨y,j,v,A,_⟩:=u i p;rw[g]at j;obtain rfl:=C_ j;have t:=run_entry_at (P:=P) w r b s z k c e l d (Array.mem_toList_iff.2 (Array.mem_of_getElem? g)) m;unfold Runs execOp;simp only[q,hx,Sem.run_bind,t,Result.andThen_ok,Sem.run_pure,v,A]
end
end Go.Proofs.YtcbedgfikejkoaaGreatDoor.Fx
namespace Go.Proofs.YtcbedgfikejkoaaGreatDoor
open Go.RowKit Go
namespace Rgq
def Oh{c:Type}(q:Nat)(J:c->World->Prop):Prop := ∀ s W a b,J s W->W.grownBy a b->(∀ r,b=some r->r=q)->J s a
def afE{d:Type}(F:Fence)(n:Nat)(P:Program)(g:Nat)(lb:Array Value)(j:d->Array Value)(i:World->World->Prop)(S:List d->Prop)(N q:Nat)(h:World->Prop):Prop :=
 ∀(l:Nat) (J:List d->World->Prop) (W:World),h W->Oh q J ->
  (∀ c x b,J c b->c.length<N->YieldAt F (n-1) P l (j x) b fun e a=>e = .returned (.bool true)/\J (c ++ [x]) a/\i b a) ->
  J [] W ->
  CallsIn F n P g (#[.func (.yield l) #[] #[]]++lb) W fun e a=>(∃ v,e = .returned v) /\ ∃ f,S f/\J f a
def PV{c:Type}(q B:Nat)(I:c->World->Prop):Prop :=
 ∀ s W a b,I s W->W.grownBy a b->(∀ r,b=some r->r=q\/(B<=r /\ ∃ o:Obj,W.heap[r]? = some o/\o.isCells=false))->I s a
variable {F:Fence} {n:Nat} {P:Program}
theorem PV.putObj{a:Type}{q B:Nat}{I:a->World->Prop}(h:PV q B I){s:a}{W:World}{l:Nat}{o:Obj}(o':Obj)(f:I s W)(b:B<=l)(c:W.heap[l]? = some o)(d:o.isCells=false):I s (W.putObj l o') :=
 h s W _ (some l) f (grownBy_putObj' W l o') (fun r e=>by cases e; exact .inr ⟨b,o,c,d⟩)
theorem PV.alloc{a:Type}{q B:Nat}{I:a->World->Prop}(h:PV q B I){s:a}{W:World}(o:Obj)(b:I s W):I s (W.alloc o) :=
 h s W _ none b (World.grownBy_alloc W o none) (fun r e=>by cases e)
def afF{a:Type}(b:World->World->Prop)(I:List a->World->Prop)(c:List a)(W:World):Exit->Act->World->Prop
 | .normal,_,W'=>KeepsOthers W W'/\b W W'/\I c W'
 | _,_,_=>False
theorem GU{W a:World}{q:Nat}{row:Option Nat}(b:W.grownBy a row)(f : ∀ r,row=some r->r=q){k:Nat}{o:Obj}(c:W.heap[k]? = some o)(d:k≠q):a.heap[k]? = W.heap[k]? :=
 b.block k (t_.1 c).1 fun e=>d (f k e.symm)
theorem Dz{α:Type}{g:Operand}{ps:Array Tmp}{assign body:Code}{Q:Exit->Act->World->Prop}{a:Act}{w:World}
 (hro:F.round=none) (h1:1<=n) {gf:Nat} {lb:Array Value} (hg:a.eval g = .func (.func gf) #[] lb) (hFg:F.fn gf) (eg : ∀ args w,(callFunc gf args).run P w = .ok (.enter gf args) w)
 {encs:α->Array Value} {Kp:World->World->Prop} {S:List α->Prop} {N q:Nat} {Ip:World->Prop} (hseq:afE F (n-1) P gf lb encs Kp S N q Ip) (hq:q<w.heap.size)
 (hIp:Ip w) (MU : ∀ W o,w.heap.size<=W.heap.size->Ip W->Ip (W.alloc o))
 (hKt : ∀ {A B C:World},Kp A B->Kp B C->Kp A C) (hKb : ∀(W:World) (l:Nat) (o o':Obj),w.heap.size<=l->W.heap[l]? = some o->o.isCells=false->o.isWalk=false->Kp W (W.putObj l o')) (hps : ∀ x,(encs x).size=ps.size)
 (I:List α->World->Prop) (hI:PV q w.heap.size I) (h0:I [] w) (A₁:α->Act->Prop)
 (hassign : ∀(l:Nat) (x:α) (W:World),assign.wpIn (F.inRound l) (n-1-1) P (Exit.then (fun a' W'=>A₁ x a'/\W'=W) (fun _ _ _=>False)) { tmps:=(ps.zip (encs x)).foldl (fun t (p,v)=>t.setIfInBounds p v) a.tmps,defers := [] } W)
 (hbody : ∀(l:Nat) (pre:List α) (x:α) (W:World) (a':Act),A₁ x a'->I pre W->pre.length<N->body.wpIn (F.inRound l) (n-1-1) P (afF Kp I (pre ++ [x]) W) a' W)
 (hdone : ∀(D:Nat) (xs:List α) (W:World),w.heap.size<=D->S xs->I xs W->W.heap[D]? = some (.deferred (some []))->Q .normal { a with defers := { target := .collected D,args := #[] }::a.defers } W) :
 (Code.rangeFunc g ps assign body).wpIn F n P Q a w:=by
 refine wpIn_rangeFunc ?_;intro fn hfn;rw[hro];obtain⟨rec,hrec⟩ : ∃ rec:LoopState->Option Code->Loop,rec=fun st pe => { state:=st,pending:=pe,fn,tmps:=a.tmps,params:=ps,assign,body,defers:=w.heap.size }:=⟨_,rfl⟩;obtain⟨W1,hW1⟩ : ∃ W1,(w.alloc (.deferred (some []))).alloc (.loop (rec .ready none))=W1:=⟨_,rfl⟩;have hL1:W1.heap[w.heap.size+1]? = some (.loop (rec .ready none)):=by
  rw[<- hW1]; have:=World.alloc_heap_new (w.alloc (.deferred (some []))) (.loop (rec .ready none)); rwa [World.size_alloc]at this
 have hK1:W1.heap[w.heap.size]? = some (.deferred (some [])):=by
  rw[<- hW1]; exact(Below.heap_alloc _ _ _ (by simp)).trans (World.alloc_heap_new w _)
 have hI1:I [] W1:=by rw[<- hW1]; exact hI.alloc _ (hI.alloc _ h0)
 have hp1:Ip W1:=by rw[<- hW1]; exact MU _ _ (by simp) (MU _ _ (A_ _) hIp)
 refine⟨w.heap.size+1,[{ target := .collected w.heap.size,args := #[] }],W1,{ target := .fn (.func gf) lb,args := #[.func (.yield (w.heap.size+1)) #[] #[]] },W1,gf,
  #[.func (.yield (w.heap.size+1)) #[] #[]]++lb,W1,?_,?_,?_,?_,fun _=>h1,?_⟩
 ·rw[<- hW1,hrec]; exact run_enterLoop_outer _ _ _ _ _
 ·simp only[resolve,hg];simp[go_sem]
 ·intro f' hf'; simp[Target.leads]at hf'; subst hf'; exact hFg
 ·simp[invoke,go_sem,eg]
 refine(hseq (w.heap.size+1)
  (fun pre W=>I pre W/\W.heap[w.heap.size+1]? = some (.loop (rec .ready none))/\W.heap[w.heap.size]? = some (.deferred (some [])))
  W1 hp1
  (fun s A B row hs hg' hr=>⟨hI s A B row hs.1 hg' (fun r e => .inl (hr r e)),(GU hg' hr hs.2.1 (by omega)).trans hs.2.1,(GU hg' hr hs.2.2 (by omega)).trans hs.2.2⟩)
  ?_ ⟨hI1,hL1,hK1⟩).mono ?_
 ·-- one round
  rintro pre x W ⟨hi,hl,hk⟩ hlen;have hlt:w.heap.size+1<W.heap.size:=(t_.1 hl).1;have hy:=run_yield (P:=P) (args:=encs x) hl (by rw[hrec]; exact hps x);rw[hrec]at hy;refine⟨fn,_,assign,body,hy,roundIn_of_wpIn hfn (wpIn_mono (hassign _ x W) ?_)⟩;rintro e1 a1 w1 hq1
  cases e1 with
  | exit id=>exact hq1.elim
  | goto t=>exact hq1.elim
  | ret=>exact hq1.elim
  | panic ch=>exact hq1.elim
  | outgrown=>exact hq1.elim
  | normal =>
  obtain⟨hA1,ew⟩:=hq1;rw[ew];refine⟨_,run_beginRound hl (by rw[hrec]),?_⟩;have hl2:(W.putObj (w.heap.size+1) (.loop { rec .ready none with state := .busy })).heap[w.heap.size+1]? = some (.loop { rec .ready none with state := .busy }):=World.putObj_heap_same hlt;have hk2:(W.putObj (w.heap.size+1) (.loop { rec .ready none with state := .busy })).heap[w.heap.size]? = some (.deferred (some [])):=(World.putObj_heap_other (by omega)).trans hk;have hw2:Kp W (W.putObj (w.heap.size+1) (.loop { rec .ready none with state := .busy })):=hKb _ _ _ _ (by omega) hl rfl rfl;refine wpIn_mono (hbody _ pre x _ a1 hA1 (hI.putObj _ hi (by omega) hl rfl) hlen) ?_;rintro e a3 W3 hp
  cases e with
  | normal =>
    obtain⟨hk3,hkp3,hi3⟩:=hp;have hl3:=hk3.same _ _ hl2 rfl;have hr:=run_endRound (P:=P) none hl3;rw[hrec]at hr hl3;refine⟨_,_,hr,rfl,⟨hI.putObj _ hi3 (by omega) hl3 rfl,?_,(World.putObj_heap_other (by omega)).trans (hk3.same _ _ hk2 rfl)⟩,hKt (hKt hw2 hkp3) (hKb _ _ _ _ (by omega) hl3 rfl rfl)⟩;rw[hrec]; exact World.putObj_heap_same (t_.1 hl3).1
  | ret=>exact hp.elim
  | exit id=>exact hp.elim
  | goto t=>exact hp.elim
  | panic ch=>exact hp.elim
  | outgrown=>exact hp.elim
 rintro e W2 ⟨⟨v,rfl⟩,xs,hS,hi,hl,hk⟩;exact⟨none,_,by have:=run_endLoop (P:=P) hl (by rw[hrec]; simp); rw[hrec]at this; exact this,hdone _ xs _ (A_ _) hS (hI.putObj _ hi (by omega) hl rfl) ((World.putObj_heap_other (by omega)).trans hk)⟩
end Rgq
namespace Fx
structure Ar(a:Act)(n:Nat)(f:Nat->Value):Prop where
 size:a.tmps.size=n
 get : ∀ i,a.tmps.getD i undef=f i
theorem Fr.to0{a:Act}{n:Nat}{f:Nat->Value}(h:Fr a n f):Ar a n f:=⟨h.size,h.get⟩
theorem Ar.to{a:Act}{n:Nat}{f:Nat->Value}(h:Ar a n f)(b:a.defers = []):Fr a n f:=⟨h.size,b,h.get⟩
theorem Ar.ev{a:Act}{n:Nat}{f:Nat->Value}(h:Ar a n f):a.eval=Fx.ev f:=by
 funext x
 cases x <;> simp only[Act.eval,Fx.ev]
 exact h.get _
theorem Ar.put{a:Act}{n:Nat}{f:Nat->Value}(h:Ar a n f){d:Option Nat}(e:inn n d=true)(v:Value):Ar (a.put d v) n (Fx.put f d v):=by
 have c:Fr { a with defers := [] } n f:=⟨h.size,rfl,h.get⟩;have b:=c.put e v
 cases d with
 | none=>exact⟨b.size,b.get⟩
 | some d=>exact⟨b.size,b.get⟩
theorem Ar.yf{a:Act}{n:Nat}{f:Nat->Value}(h:Ar a n f)(ops:Array Oper):yielded ops a.tmps=Fx.yf ops f:=by
 have b:Fr { a with defers := [] } n f:=⟨h.size,rfl,h.get⟩;exact b.yf ops
theorem Kn{a:Act}{n p:Nat}{v:Value}{f:Nat->Value}(h:Ar (a.put (some p) v) n f):Ar { tmps:=(#[p].zip #[v]).foldl (fun t (p,v)=>t.setIfInBounds p v) a.tmps,defers := [] } n f:=by
 have e:(#[p].zip #[v]).foldl (fun t (p,v)=>t.setIfInBounds p v) a.tmps=(a.put (some p) v).tmps:=by simp[Array.zip,Act.put]
 rw[e]; exact⟨h.size,h.get⟩
theorem put_defers(a:Act)(d:Option Nat)(v:Value):(a.put d v).defers=a.defers:=by cases d <;> rfl
def FR(ro:Option Nat):Fence := { Fence.wide with round:=ro }
def jX(o:Oper):Bool:=match o.op with | .defer _=>false|_=>true
def R4(n:Nat)(ds:List Deferred)(Q:Post):Exit->Act->World->Prop:=fun e a w => ∃ f,Ar a n f/\a.defers=ds/\Q e f w
section
variable {P:Program} {n m:Nat} {ro:Option Nat} {Q:Post} {f:Nat->Value} {w:World} {o:Oper} {ops:Array Oper} {rest:List Oper}
theorem Ko(ro:Option Nat)(ρ:Operand->Value)(h:jX o=true):o.semAt ro ρ=execOp ρ o :=
 Oper.semAt_eq ro ρ o fun c e=>by unfold jX at h; rw[e]at h; cases h
theorem Out.wpIn{a:Act}{K:Value->World->Prop}{d:Act->World->Prop}{j:Exit->Act->World->Prop}(ha:Ar a n f)(k:jX o=true)(h:Out P f o w K)(c : ∀ v w',K v w'->d (a.put o.dst v) w'):o.wpIn (FR ro) m P a w d j:=by
 unfold Oper.wpIn;refine⟨fun _ _=>trivial,?_⟩;rw[Ko _ _ k,ha.ev]
 rcases h with ⟨v,w',b,h⟩|⟨w',b,h⟩|⟨g,args,b,h⟩
 ·rw[b]; exact c v w' h
 ·rw[b]; exact c undef w' h
 rw[b,Oper.uponIn_enter];refine⟨fun h=>(by cases h),?_⟩
 have key : ∀ R,Calls P g args w R->CallsIn (FR ro) (m-1) P g args w R:=fun R i=>by
  cases ro with
  | none=>exact callsIn_wide.2 i
  | some l=>exact CallsIn.inRound l (callsIn_wide.2 i)
 refine key _<|h.mono fun e w' ⟨v,p,q⟩ => ?_;subst p; exact c v w' q
theorem L.toIn : ∀ {l:List Oper} {f:Nat->Value} {w:World},L P n ops Q l f w->l.all jX=true -> ∀ a,Ar a n f->wpListIn (FR ro) m P ops (R4 n a.defers Q) l a w
 | [],f,w,h,_,a,ha=>⟨f,ha,rfl,h⟩
 | o::rest,f,w,⟨hd,h⟩,hn,a,ha=>by
   rw[List.all_cons,S_]at hn;unfold wpListIn;rw[ha.yf]
   rcases h with ⟨b,h⟩|⟨b,h⟩
   ·rw[d_ b];exact h.wpIn ha hn.1 fun v w' c=>by have:=L.toIn c hn.2 _ (ha.put hd v); rwa [put_defers]at this
   ·rw[b_ (by rw[b]; decide)];exact⟨fun _ _=>trivial,by have:=L.toIn h hn.2 _ (ha.put hd undef); rwa [put_defers]at this⟩
theorem GV{id:Nat}{ops:List Oper}{a:Act}{b:Exit->Act->World->Prop}(ha:Ar a n f)(h:L P n ops.toArray Q ops f w)(d:ops.all jX=true:=by rfl)(g : ∀ e c w',R4 n a.defers Q e c w'->b e c w'):(Code.region id ops.toArray false).wpIn (FR ro) m P b a w :=
 wpIn_mono (wpIn_region_lit (L.toIn h d a ha)) g
def abh(m:Nat)(P:Program)(f:Nat->Value)(o:Oper)(w:World)(K:Value->World->Prop):Prop :=
 Out P f o w K \/ ∃ l c d a b,(execOp (ev f) o).run P w = .ok (.round l c d a b) w/\RoundIn (FR none) (m-1) P l c d a b w fun e w' => ∃ v,e = .returned v/\K v w'
def Ly(m:Nat)(P:Program)(n:Nat)(ops:Array Oper)(Q:Post):List Oper->(Nat->Value)->World->Prop
 | [],f,w=>Q .normal f w
 | o::rest,f,w=>inn n o.dst=true/\((Region.wanted o (yf ops f)=true/\abh m P f o w fun v w'=>Ly m P n ops Q rest (put f o.dst v) w')\/(Region.wanted o (yf ops f)=false/\Ly m P n ops Q rest (put f o.dst undef) w))
theorem abh.wpIn{a:Act}{K:Value->World->Prop}{b:Act->World->Prop}{g:Exit->Act->World->Prop}(ha:Ar a n f)(c:jX o=true)(h:abh m P f o w K)(d : ∀ v w',K v w'->b (a.put o.dst v) w'):o.wpIn (FR none) m P a w b g:=by
 rcases h with h|⟨l,fn,tmps,assign,body,hr,h⟩
 ·exact h.wpIn ha c d
 unfold Oper.wpIn;refine⟨fun _ _=>trivial,?_⟩;rw[Ko _ _ c,ha.ev,hr,Oper.uponIn_round];exact⟨fun h=>(by cases h),h.mono fun e w' ⟨v,i,j⟩=>by subst i; exact d v w' j⟩
theorem Ly.to : ∀ {l:List Oper} {f:Nat->Value} {w:World},Ly m P n ops Q l f w->l.all jX=true -> ∀ a,Ar a n f->wpListIn (FR none) m P ops (R4 n a.defers Q) l a w
 | [],f,w,h,_,a,ha=>⟨f,ha,rfl,h⟩
 | o::rest,f,w,⟨hd,h⟩,hn,a,ha=>by
   rw[List.all_cons,S_]at hn;unfold wpListIn;rw[ha.yf]
   rcases h with ⟨b,h⟩|⟨b,h⟩
   ·rw[d_ b];exact h.wpIn ha hn.1 fun v w' c=>by have:=Ly.to c hn.2 _ (ha.put hd v); rwa [put_defers]at this
   ·rw[b_ (by rw[b]; decide)];exact⟨fun _ _=>trivial,by have:=Ly.to h hn.2 _ (ha.put hd undef); rwa [put_defers]at this⟩
theorem W.ZN(m:Nat){id:Nat}{ops:List Oper}(h:Ly m P n ops.toArray Q ops f w)(j:ops.all jX=true:=by rfl):W P n (.region id ops.toArray false) Q f w:=fun a b =>
 (wpIn_wide (n:=m)).1 (wpIn_mono (wpIn_region_lit (Ly.to h j a b.to0)) fun e k w' ⟨c,d,g,i⟩=>⟨c,d.to (g.trans b.defers),i⟩)
theorem Ly.nil(h:Q .normal f w):Ly m P n ops Q [] f w:=h
theorem Ly.v(v:Value)(hr:Runs P f o w v)(h:Ly m P n ops Q rest (put f o.dst v) w)(b:Region.wanted o (yf ops f)=true:=by rfl)(a:inn n o.dst=true:=by rfl):Ly m P n ops Q (o::rest) f w:=⟨a,.inl ⟨b,.inl (.inl ⟨v,w,hr,h⟩)⟩⟩
theorem Ly.skip(b:Region.wanted o (yf ops f)=false)(a:inn n o.dst=true)(h:Ly m P n ops Q rest (put f o.dst undef) w):Ly m P n ops Q (o::rest) f w:=⟨a,.inr ⟨b,h⟩⟩
theorem Ly.call{g:FuncId}{args:Array Value}(b:Region.wanted o (yf ops f)=true)(hr:(execOp (ev f) o).run P w = .ok (.enter g args) w)(a:inn n o.dst=true)
 (h:Calls P g args w fun e w' => ∃ v,e = .returned v/\Ly m P n ops Q rest (put f o.dst v) w'):Ly m P n ops Q (o::rest) f w:=⟨a,.inl ⟨b,.inl (.inr (.inr ⟨g,args,hr,h⟩))⟩⟩
theorem Ly.yield{l:Nat}{x:Operand}{a:List Operand}{args:List Value}{Ts:Array TypeId}{R:Ending->World->Prop}(p:Region.wanted o (yf ops f)=true)(j:o.op = .call { callee := .value x,args:=a.toArray,argTypes:=Ts })(hx:ev f x = .func (.yield l) #[] #[])(q:a.map (ev f)=args)(i:inn n o.dst=true)
 (hy:YieldAt (FR none) (m-1) P l args.toArray w R) (h : ∀ e w',R e w' -> ∃ v,e = .returned v/\Ly m P n ops Q rest (put f o.dst v) w'):Ly m P n ops Q (o::rest) f w:=by
 obtain⟨d,r,b,c,k,g⟩:=hy;refine⟨i,.inl ⟨p,.inr ⟨l,d,r,b,c,?_,g.mono h⟩⟩⟩;unfold execOp;simp only[j];unfold resolve;simp only[Sem.run_bind,List.map_toArray,q,hx,Deferred.ofValue,Sem.run_pure,Result.andThen_ok];unfold invoke;have e:(#[]++args.toArray:Array Value)=args.toArray:=by simp
 show(Instr.yield l (#[]++args.toArray)).run P w=_;rw[e];exact k
theorem R5{a:Act}(h:Ar a n f)(b:Func):results b a.tmps=za b f:=by
 have c:Fr { a with defers := [] } n f:=⟨h.size,rfl,h.get⟩;exact NW c b
theorem leave1{a:Act}{b:Func}{R:Ending->World->Prop}{D:Nat}{v:Value}(h:Ar a n f)(e:a.defers = [{ target := .collected D,args := #[] }])(c:w.heap[D]? = some (.deferred (some [])))
 (g:(za b f).run P (w.putObj D (.deferred none)) = .ok v (w.putObj D (.deferred none))) (d:R (.returned v) (w.putObj D (.deferred none))):bodyPostM (FR none) m P b R .ret a w:=by
 show LeavesInM (FR none) m P b a.tmps R a.defers .returning w;rw[e];exact⟨by simp,.inl ⟨D,_,rfl,run_takeDeferred c,v,by rw[R5 h]; exact g,d⟩⟩
end
end Fx
end Go.Proofs.YtcbedgfikejkoaaGreatDoor
namespace Go.Proofs.YtcbedgfikejkoaaGreatDoor
open Go.RowKit Rt
abbrev bL(g n c:Nat):Value := .slice (some ⟨g,0,none⟩) n c
theorem oV{k:IntKind}{a b:Int}(h:a=b):Ending.returned (.int k a) = .returned (.int k b):=by rw[h]
theorem iE{a b:Bool}(h:a=b):Ending.returned (.bool a) = .returned (.bool b):=by rw[h]
abbrev pt(g:Nat):Value := .pointer (some ⟨g,0,none⟩)
abbrev pf(g o:Nat):Value := .pointer (some ⟨g,o,none⟩)
theorem Fx.ic{k:IntKind}{a b:Int}(h:a=b:=by first|rfl|omega):Value.int k a = .int k b:=L_ _ h
theorem Fx.io{a c:Int}(h : -9223372036854775808<=c/\c<=9223372036854775807:=by omega)(e:a=c:=by omega):IntKind.i64.wrap a=c:=Fx.iO h e
theorem Fx.aR.ne{w:World}{g n:Nat}{x:Nat->Value}{T:TypeId}(h:Fx.aR w g n x T):g≠w.heap.size:=u_ h.lt
namespace Rt
def mx:Int:=1125899906842624
def zR(n:Int):Bool:=decide (0<=n)&&decide (n<=1125899906842624)
def mI(l:List Int):Bool:=l.all zR
def nE(l:List Int):Int × Bool:=if mI l then(l.sum,true)else(0,false)
theorem DC(l:List Int)(k:Nat)(h:k<l.length):mI (l.take (k+1))=(mI (l.take k)&&zR l[k]):=by
 unfold mI; rw[List.take_succ_eq_append_getElem h,List.all_append]; simp
theorem Gn(l:List Int)(k:Nat)(h:k<l.length):(l.take (k+1)).sum=(l.take k).sum+l[k]:=by
 rw[List.take_succ_eq_append_getElem h,List.sum_append]; simp
theorem BO : ∀(l:List Int),mI l=true->0<=l.sum/\l.sum<=1125899906842624*(l.length:Int)
 | [],_=>by simp
 | x::l,h=>by
   unfold mI at h;rw[List.all_cons,S_]at h;have:=BO l h.2;have a:=h.1;unfold zR at a;simp at a;rw[List.sum_cons,List.length_cons];omega
theorem wo(l:List Int):0<=(nE l).1/\(nE l).1<=1125899906842624*(l.length:Int):=by
 unfold nE;by_cases h:mI l=true
 ·rw[d_ h]; exact BO l h
 rw[b_ h]; simp; omega
theorem Gp{l:List Int}{k:Nat}(a:k<l.length)(h:zR l[k]=false):mI l=false:=by
 unfold mI;rw[List.all_eq_false];exact⟨l[k],Q_ a,by simpa using h⟩
def G(x:Nat->Int)(i:Nat):Int:=x i
def C(x:Nat->Int)(i:Nat):Int:=x (6+i)
def F(x:Nat->Int)(i:Nat):Int:=x (12+i)
def R(x:Nat->Int)(i j:Nat):Int:=x (18+i*6+j)
def outs(x:Nat->Int)(k:Nat):Nat->List Int
 | 0 => [C x k]
 | j+1=>outs x k j ++ [R x k j]
def ins(x:Nat->Int)(k:Nat):Nat->List Int
 | 0 => [G x k,F x k]
 | j+1=>ins x k j ++ [R x j k]
def localM(x:Nat->Int)(k:Nat):Int × Bool:=((nE (ins x k 6)).1-(nE (outs x k 6)).1,(nE (outs x k 6)).2&&(nE (ins x k 6)).2)
theorem PW(x:Nat->Int)(k:Nat):(outs x k 6).length=7:=rfl
theorem R6(x:Nat->Int)(k:Nat):(ins x k 6).length=8:=rfl
end Rt
def RdI(k:IntKind)(w:World)(a:Option Addr)(l:List Int):Prop :=
 ∀ i (h:i<l.length),∃ b c,a=some ⟨b,c,none⟩/\w.cell? ⟨b,c+i,none⟩=some (.int k l[i])
end Go.Proofs.YtcbedgfikejkoaaGreatDoor
namespace Go.Proofs.YtcbedgfikejkoaaGreatDoor.Fx
open Go.RowKit
def R7(I:(Nat->Value)->World->Prop)(Q:Post):Post:=fun e f w=>match e with | .normal=>I f w|e=>Q e f w
section
variable {P:Program} {n:Nat} {Q:Post} {f:Nat->Value} {w:World} {I:(Nat->Value)->World->Prop}
theorem CY{x y:Code}(I:(Nat->Value)->World->Prop)(h1:W P n x (R7 I Q) f w)(b : ∀ f w,I f w->W P n y Q f w):W P n (.seq x y) Q f w :=
 Ws (W.mono h1 fun e f w a=>by
  cases e <;> first|exact b f w a|exact a)
theorem wX(h:I f w):R7 I Q .normal f w:=h
theorem jnR(h:Q .ret f w):R7 I Q .ret f w:=h
end
end Go.Proofs.YtcbedgfikejkoaaGreatDoor.Fx
namespace Go.Proofs.YtcbedgfikejkoaaGreatDoor
open Go.RowKit Rt
open Fx (fG bf gV gU Lv sN Ln Ws Wr Wk rC Rs Rn Wb Wx Dx gQ aR Stp Mp iN dD bP bW bX gP iq)
section
namespace Rt
def dS(x:Nat->Int):Nat->Int->Bool
 | 0,_=>false
 | n+1,k=>dS x n k || decide (x n=k)
def iF(x p:Nat->Int):Nat->Int->Int
 | 0,_=>0
 | n+1,k=>if x n=k then p n else iF x p n k
section
variable {x p:Nat->Int} {n j:Nat} {k:Int}
theorem jL : ∀ {n:Nat},j<n->x j=k->dS x n k=true
 | n+1,h,e=>by
   unfold dS;by_cases c:j=n
   ·subst c; rw[f_ e,Bool.or_true]
   ·rw[jL (show j<n by omega) e,Bool.true_or]
theorem yH : ∀ {n:Nat},(∀ i,i<n->x i≠k)->dS x n k=false
 | 0,_=>rfl
 | n+1,h=>by unfold dS; rw[yH fun i hi=>h i (by omega),g_ (h n (by omega))]; rfl
theorem gX : ∀ {n:Nat},dS x n k=true -> ∃ j,j<n/\x j=k
 | n+1,h=>by
   unfold dS at h;rw[Bool.or_eq_true]at h
   rcases h with h|h
   ·obtain⟨j,a,e⟩:=gX h; exact⟨j,by omega,e⟩
   ·exact⟨n,by omega,h_ h⟩
theorem AJ(hi : ∀ a b,a<n->b<n->x a=x b->a=b)(h:j<n)(e:x j=k):iF x p n k=p j:=by
 induction n with
 | zero=>omega
 | succ n ih =>
   unfold iF;by_cases c:j=n
   ·subst c; rw[d_ e]
   ·rw[b_ fun d=>c (hi j n (by omega) (by omega) (e.trans d.symm))];exact ih (fun a b f g=>hi a b (by omega) (by omega)) (by omega)
def jD(x p:Nat->Int)(n:Nat):Nat->Int->List Int
 | 0,_ => []
 | d+1,k=>if dS x n k=true then k::jD x p n d (iF x p n k)else []
def jB(x p:Nat->Int)(n:Nat):Nat->Int->Prop
 | 0,k=>dS x n k=false
 | d+1,k=>dS x n k=true->jB x p n d (iF x p n k)
theorem kW{d:Nat}(h:dS x n k=false):jD x p n d k = []:=by cases d with
 | zero=>rfl
 | succ d=>unfold jD; rw[b_ (by rw[h]; decide)]
theorem GX{d:Nat}(h:jB x p n d k)(a:dS x n k=true) : ∃ e,d=e+1/\jB x p n e (iF x p n k)/\jD x p n d k=k::jD x p n e (iF x p n k):=by
 cases d with
 | zero=>have h:dS x n k=false:=h; rw[a]at h; cases h
 | succ d=>exact⟨d,rfl,h a,by show(if _ then _ else _)=_; rw[d_ a]⟩
end
structure JF(q:Nat)(J:List Int->World->Prop)(pre:List Int)(w:World):Prop where
 ab:Rgq.Oh q J
 j:J pre w
theorem JF.cB{q:Nat}{J:List Int->World->Prop}{b:List Int}{w w':World}(h:JF q J b w)(a:Stp q w w'):JF q J b w' :=
 ⟨h.ab,h.ab _ w w' (some q) h.j ⟨a.os,a.tape,a.output,a.size,fun k c d=>a.block k c (fun e=>d (by rw[e]))⟩ (fun r e=>(C_ e).symm)⟩
theorem JF.up{q:Nat}{J:List Int->World->Prop}{b:List Int}{w w':World}(h:JF q J b w)(a:Below w.heap.size w w'):JF q J b w' :=
 ⟨h.ab,h.ab _ w w' none h.j ⟨a.os,a.tape,a.output,a.size,fun k c _=>a.block k c⟩ (fun r e=>by cases e)⟩
instance {q:Nat} {J:List Int->World->Prop} {a:List Int} {w w':World}:Rt.Tr w w' (JF q J a w) (JF q J a w'):=⟨fun b h=>h.up b⟩
structure R8(tp mb bt q:Nat)(w w':World):Prop where
 size:w.heap.size<=w'.heap.size
 t:w'.heap[tp]? = w.heap[tp]?
 m:w'.heap[mb]? = w.heap[mb]?
 b:w'.heap[bt]? = w.heap[bt]?
 q:w'.heap[q]? = w.heap[q]?
end Rt
theorem EI(x p:Nat->Int)(n a c:Nat)(k:Int)(w:World)(g:aR w a 1 (fun _ => .map (some c)) 165)(f:Mp w c n x (fun j=>aC (p j))) :
 Calls Tryz.prog 145 #[(pt a),aC k] w fun e w'=>e = .returned (.bool (dS x n k))/\w'=w:=by
 have i:=g.lt;refine Kent Tryz.func145 19 ?_;refine ay<|av aF<|aD<|Ws<|ay<|av (pt a)<|Lv aF (Fx.mU rfl rfl rfl (by kernel_rfl))<|aD<|aK<|Wk<|sN<|ay<|av (pt a)<|av (pt a)<|av (pt a)<|Lv (.map (some c)) (aL g.aH 0)<|av (aC k) ?_
 rcases Fx.sj x n k with ⟨b,h,d⟩|jC
 ·refine Lv (.tuple #[aC (p b),.bool true]) (Fx.EH (z:=aC 0) rfl rfl rfl f Tryz.underlying108 Tryz.underlying23 (by rfl) h d rfl)<|av (.tuple #[aC (p b),.bool true])<|av (aC (p b))<|av aG<|av (aC (p b))<|av aG<|aD<|ay<|av aG<|av aG<|aD<|Wr<|aJ aG ?_;exact⟨iE (Eq.symm (jL h d)),rfl⟩
 refine Lv (.tuple #[aC 0,.bool false]) (Fx.EG (z:=aC 0) rfl rfl rfl f Tryz.underlying108 Tryz.underlying23 (by rfl) jC)<|av (.tuple #[aC 0,.bool false])<|av (aC 0)<|av aF<|av (aC 0)<|av aF<|aD<|ay<|av aF<|av aF<|aD<|Wr<|aJ aF ?_;exact⟨iE (Eq.symm (yH jC)),rfl⟩
theorem akJ(f:Nat)(k:Int)(w:World) :
 Calls Tryz.prog 93 #[(pt f),aC k] w fun e w' => ∃ c q,e = .returned (.func (.func 144) #[] #[(pt c),(pt q)])/\w.heap.size<=c/\w.heap.size<=q/\aR w' c 1 (fun _=>(pt f)) 107/\aR w' q 1 (fun _=>aC k) 23/\Below w.heap.size w w':=by
 refine Kent Tryz.func93 6 ?_;refine ay<|xS (pt f) fun a v l d p x => ?_;have g:=bB p.old (Below.refl w.heap.size w);have m:=gH l;have t:=d.lt;refine xS (aC k) fun b w2 h i r y => ?_;have⟨o,j⟩:=eO r.old d g;have n:=iI h g.size;have s:=bY h d.lt;have u:=i.lt;refine av (.nilFunc)<|aD<|ay<|Lv (.func (.func 144) #[] #[(pt a),(pt b)]) (Fx.nu (us := []) (vs := [(pt a),(pt b)]) rfl rfl rfl)<|av (.func (.func 144) #[] #[(pt a),(pt b)])<|aD<|Wr<|aJ (.func (.func 144) #[] #[(pt a),(pt b)]) ?_;exact⟨a,b,rfl,m,n,o,i,j⟩
theorem afG(J:List Int->World->Prop)(l g o r q n u:Nat)(x p:Nat->Int)(k:Int)(w:World)(hT:aR w g 1 (fun _ => .map (some o)) 165)(hM:Mp w o n x (fun j=>aC (p j)))(hB:aR w r 1 (fun _=>(pt g)) 107)(R:aR w q 1 (fun _=>aC k) 23)(hinj : ∀ a b,a<n->b<n->x a=x b->a=b)(abj:jB x p n u k)(hJ:JF q J [] w)(hd:r≠q/\g≠q)
 (hY : ∀ h v E,J h E->h.length<(jD x p n u k).length->Go.YieldAt (Fx.FR none) 1 Tryz.prog l #[aC v] E fun e O=>e = .returned (.bool true)/\J (h ++ [v]) O/\R8 g o r q E O) :
  Calls Tryz.prog 144 #[.func (.yield l) #[] #[],(pt r),(pt q)] w fun e w'=>(∃ v,e = .returned v) /\ ∃ xs,xs=jD x p n u k/\J xs w':=by
 obtain⟨hd1,hd2⟩:=hd;have lq:=R.lt;refine Kent Tryz.func144 18 ?_;refine Wb<|Dx (fun d f C => ∃ h:List Int,∃ c:Int,jB x p n d c/\h++jD x p n d c=jD x p n u k/\f 0 = .func (.yield l) #[] #[]/\f 1=(pt r)/\f 2=(pt q)/\aR C g 1 (fun _ => .map (some o)) 165/\Mp C o n x (fun j=>aC (p j))/\aR C r 1 (fun _=>(pt g)) 107/\aR C q 1 (fun _=>aC c) 23/\JF q J h C) (u) ⟨[],k,abj,(List.nil_append _),(by rfl),(by rfl),(by rfl),hT,hM,hB,R,hJ⟩ ?_;rintro d f1 w1 ⟨h,c,hst,B,Q,F,y,H,K,Y,L,M⟩;refine Ws<|Ws<|Fx.W.ZN 2<|Fx.Ly.v (pt g) (bf (x:=fun _=>(pt g)) rfl F (by kernel_rfl) Y.aH (i:=0) (by omega) (by omega) rfl) ?_;refine Fx.Ly.v (aC c) (bf (x:=fun _=>aC c) rfl y (by kernel_rfl) L.aH (i:=0) (by omega) (by omega) rfl) ?_;by_cases s:(dS x n c)=true
 ·refine Fx.Ly.call (by rfl) (rC (args := [(pt g),aC c]) rfl rfl Tryz.func145 rfl rfl) rfl<|(EI x p n g o c _ H K).mono ?_;rintro e N ⟨A,hv1⟩;subst N;refine⟨.bool true,by rw[A,s],?_⟩;clear A;refine Fx.Ly.v (.bool true) (fG rfl rfl) ?_;refine Fx.Ly.v (.func (.yield l) #[] #[]) (fG rfl Q) ?_;refine Fx.Ly.v (aC c) (bf (x:=fun _=>aC c) rfl y (by kernel_rfl) L.aH (i:=0) (by omega) (by omega) rfl) ?_;obtain⟨d1,ed1,akK,T⟩:=GX hst s;refine Fx.Ly.yield (l:=l) (args := [aC c]) rfl rfl rfl (Fx.args1 rfl) rfl (hY h c _ M.j (by have:=L_ List.length B; rw[T,E_,List.length_cons]at this; omega)) ?_;rintro e9 w2 ⟨rfl,hJ1,D⟩;refine⟨.bool true,rfl,?_⟩;have m6:aR w2 g 1 (fun _ => .map (some o)) 165:=(D.t).trans H;have m7:Mp w2 o n x (fun j=>aC (p j)):=K.keep D.m;have m8:aR w2 r 1 (fun _=>(pt g)) 107:=(D.b).trans Y;have m9:aR w2 q 1 (fun _=>aC c) 23:=(D.q).trans L;have m10:JF q J (h ++ [c]) w2:=⟨M.ab,hJ1⟩;refine Fx.Ly.v (.bool true) (gU rfl rfl rfl) ?_;refine Fx.Ly.nil ?_;refine sN<|aM<|Wk<|sN<|Wb ?_;obtain⟨G,S,P⟩:=gX s;refine jW [0,1,2,3,4,5,6] [4,0,0,4,4,3,3] [(5,0,[3,2,1,0]),(6,0,[0]),(5,3,[3]),(6,3,[3]),(5,4,[4]),(6,4,[4]),(6,5,[5])] fun qE dP iC => ?_;have⟨U,V,X,I,m15⟩:=oQ dP m6 m7 m8 m9 m10;refine Rs (pt g) (aL X.aH 0 (ha:=F)) ?_;refine aY (pt g)<|aY (pt g)<|Rs (.map (some o)) (aL U.aH 0) ?_;refine Rs (aC c) (aL I.aH 0 (ha:=y)) ?_;refine gW<|Lv (aC (p G)) (Fx.vZ (z:=aC 0) rfl rfl rfl V Tryz.underlying108 Tryz.underlying23 (by rfl) S P rfl)<|Ln<|gW<|jd I 0 (aC (p G)) (ha:=y) fun w3 m16 Z z1 => ?_;have m17:aR w3 q 1 (fun _=>aC (p G)) 23:=dD m16;have gY:=gQ Z I.ty;have⟨m18,m19,m20⟩:=AB gY U V X;have m21:=m15.cB Z;refine Ln<|Rn<|bP ?_;have m22:aR w3 q 1 (fun _=>aC (iF x p n c)) 23:=by rw[AJ hinj S P]; exact m17
  skip
  refine iq ⟨d1,(by omega),(h ++ [c]),(iF x p n c),akK,(by rw[List.append_assoc]; rw[T]at B; exact B),Q,F,y,m18,m19,m20,m22,m21⟩ (by decide)
 rw[T_]at s;refine Fx.Ly.call (by rfl) (rC (args := [(pt g),aC c]) rfl rfl Tryz.func145 rfl rfl) rfl<|(EI x p n g o c _ H K).mono ?_;rintro e N ⟨A,hv1⟩;subst N;refine⟨.bool false,by rw[A,s],?_⟩;clear A;refine Fx.Ly.v (.bool false) (fG rfl rfl) ?_;refine Fx.Ly.skip (by rfl) rfl ?_;refine Fx.Ly.skip (by rfl) rfl ?_;refine Fx.Ly.skip (by rfl) rfl ?_;refine Fx.Ly.v (.bool false) (gV rfl rfl rfl) ?_;refine Fx.Ly.nil ?_;refine sN (aK (Wx (bW (gP (bX (⟨.tuple #[],iN Tryz.results144,?_⟩))))));exact⟨⟨_,rfl⟩,h,(by rw[kW s,List.append_nil]at B; exact B),M.j⟩
end
end Go.Proofs.YtcbedgfikejkoaaGreatDoor
namespace Go.Proofs.YtcbedgfikejkoaaGreatDoor
open Go.RowKit Go Rt
namespace Rt
def xI(l:List Int):Nat->Value:=fun i=>aC (l.getD i 0)
theorem Xo{l:List Int}{v:Int}{z:Nat->Value} : ∀ j,j<(l.length+1)*1->Fx.iD (xI l) (l.length*1) (Fx.bC z (0*1) 1 (fun _=>aC v)) j=xI (l ++ [v]) j:=fun j a=>by
 unfold Fx.iD xI;by_cases h:j<l.length*1
 ·rw[d_ h,r_,r_,List.getElem?_append_left (by omega)]
 ·rw[b_ h];obtain rfl:j=l.length:=by omega
  unfold Fx.bC;rw[d_ (by omega)]; simp
structure PI(gl bt q B:Nat)(w0:World)(pre:List Int)(w:World):Prop where
 ex : ∃ a c,Fx.aR w gl 1 (fun _ => .slice a pre.length c) 53/\Fx.Own w B 23 1 (.slice a pre.length c) pre.length (xI pre)/\(∀ r,(Value.slice a pre.length c).ownBlock=some r->r≠bt/\r≠q/\r≠gl)
 be:Below B w0 w
 lb:bt<w.heap.size
 lq:q<w.heap.size
theorem KeepsOthers.BP{g:Nat}{w w':World}(h:Fx.Stp g w w')(c : ∀ o,w.heap[g]? = some o->o.isCells=true):KeepsOthers w w' :=
 ⟨h.size,fun k o a b=>by
  by_cases e:k=g
  ·subst e; rw[c o a]at b; cases b
  ·exact(h.block k (t_.1 a).1 e).trans a⟩
theorem KeepsOthers.R9{w w':World}{v:Value}(h:w.grownBy w' v.ownBlock)(c : ∀ r o,v.ownBlock=some r->w.heap[r]? = some o->o.isCells=true):KeepsOthers w w' :=
 ⟨h.size,fun k o a b=>by
  refine(h.block k (t_.1 a).1 fun e => ?_).trans a;rw[c k o e.symm a]at b; cases b⟩
theorem AL{w:World}{g:Nat}{T:TypeId}(h:Fx.Ty w g T) : ∀ o,w.heap[g]? = some o->o.isCells=true:=fun o a=>by
 obtain⟨b,h⟩:=h;rw[h]at a; cases a; rfl
theorem R8.trans{d c a q:Nat}{A B C:World}(h:R8 d c a q A B)(k:R8 d c a q B C):R8 d c a q A C:=⟨m_ h.size k.size,k.t.trans h.t,k.m.trans h.m,k.b.trans h.b,k.q.trans h.q⟩
theorem R8.of{c b a q:Nat}{A B:World}(d:A.heap.size<=B.heap.size)(h : ∀ k,k=c\/k=b\/k=a\/k=q->B.heap[k]? = A.heap[k]?):R8 c b a q A B:=⟨d,h _ (.inl rfl),h _ (.inr (.inl rfl)),h _ (.inr (.inr (.inl rfl))),h _ (.inr (.inr (.inr rfl)))⟩
theorem PI.own{b k q B c:Nat}{j:World}(l:B<=j.heap.size)(n:b≠q)(p:B<=q)(y:B<=c):Rgq.PV q c (PI b k q B j):=fun s W x w u a i=>by
 obtain⟨⟨d,f,m,o,h⟩,hbe,hlb,hlq⟩:=u;have g : ∀ r T,Fx.Ty W r T->r≠q->w≠some r:=fun r T v t e=>by
  rcases i r e with h1|⟨_,ob,h1,h2⟩
  ·exact t h1
  ·rw[AL v ob h1]at h2; cases h2
 refine⟨⟨d,f,?_,?_,h⟩,hbe.grown a (m_ l hbe.size) fun r e => ?_,n_ hlb a.size,n_ hlq a.size⟩
 ·exact(a.block b m.lt fun e=>g b _ m.ty n e.symm).trans m
 ·refine World.ownsRow.kept o a ?_
  cases hb:(Value.slice d s.length f).ownBlock with
  | none=>exact .inl rfl
  | some r=>exact .inr fun e=>g r _ (o.ty hb) (h r hb).2.1 e.symm
 ·rcases i r e with rfl|⟨h1,_⟩
  ·exact p
  ·omega
end Rt
open Rt
theorem Xp(d f c q n e:Nat)(x p:Nat->Int)(k:Int)(u : ∀ a b,a<n->b<n->x a=x b->a=b)(y:jB x p n e k)(t:c≠q/\d≠q) :
 Rgq.afE (Fx.FR none) 2 Tryz.prog 144 #[(pt c),(pt q)] (fun v:Int => #[aC v]) (R8 d f c q) (fun z=>z=jD x p n e k) (jD x p n e k).length q
  (fun w=>Fx.aR w d 1 (fun _ => .map (some f)) 165/\Fx.Mp w f n x (fun j=>aC (p j))/\Fx.aR w c 1 (fun _=>(pt d)) 107/\Fx.aR w q 1 (fun _=>aC k) 23) :=
 fun l J W ⟨o,i,h,m⟩ s r g=>callsIn_wide.2 (afG J l d f c q n e x p k W o i h m u y ⟨s,g⟩ t r)
set_option maxRecDepth 10000 in
theorem MV(x p:Nat->Int)(n A K C:Nat)(k:Int)(w:World)(hT:Fx.aR w A 1 (fun _ => .map (some K)) 165)(hM:Fx.Mp w K n x (fun j=>aC (p j)))(hinj : ∀ a b,a<n->b<n->x a=x b->a=b)(abj:jB x p n C k)(hlen:(jD x p n C k).length<=1000000) :
 Calls Tryz.prog 59 #[(pt A),aC k] w fun e w' => ∃ a c,e = .returned (.slice a (jD x p n C k).length c)/\Fx.Own w' w.heap.size 23 1 (.slice a (jD x p n C k).length c) (jD x p n C k).length (xI (jD x p n C k))/\Below w.heap.size w w':=by
 have ltp:=hT.lt;have lmb:=hM.lt;refine(callsIn_wide (n:=3)).1 (callsIn_of_wp_marks (F:=Fx.FR none) Tryz.func59 rfl trivial ?_ rfl);have ha:Fx.Ar { tmps := #[(pt A),aC k]++Array.replicate (Tryz.f59.ntmps-2) undef,defers := [] } 15 (Fx.start #[(pt A),aC k]):=by
  refine⟨by rfl,fun i => ?_⟩;simp only[Fx.start,Array.getD_eq_getD_getElem?,Array.getElem?_append,Array.getElem?_replicate];by_cases hi:i<2
  ·simp[hi]
  ·have R : ¬ i<(#[(pt A),aC k]:Array Value).size:=(by simpa using hi);rw[b_ R];split
   ·rw[Array.getElem?_eq_none (by simpa using hi)]; rfl
   ·rw[Array.getElem?_eq_none (by simpa using hi)]
 refine wpIn_seq<|Fx.GV (Q:=fun e f1 M=>e = .normal/\f1 0=(pt A)/\f1 1=aC k/\f1 4=(pt w.heap.size)/\Fx.aR M w.heap.size 1 (fun _ => .slice none 0 0) 53/\Below w.heap.size w M) ha ?_ (by rfl) ?_
 ·refine Fx.BH (m:=1) (y:=fun _ => .slice none 0 0) (by rfl) rfl (by kernel_rfl) rfl fun g1 M lY Y s1 z1 => ?_;subst lY;exact Fx.Ln ⟨rfl,rfl,rfl,rfl,Y,s1.old⟩
 rintro e a1 M ⟨f1,ha1,hd1,rfl,h0,O,S,Y,b1⟩;have ZO:=Y.lt;refine wpIn_seq<|wpIn_seq<|Fx.GV (Q:=fun e V w2=>e = .normal/\V 4=(pt w.heap.size)/\Below M.heap.size M w2 /\ ∃ t q,V 8 = .func (.func 144) #[] #[(pt t),(pt q)]/\M.heap.size<=t/\M.heap.size<=q/\Fx.aR w2 t 1 (fun _=>(pt A)) 107/\Fx.aR w2 q 1 (fun _=>aC k) 23) ha1 ?_ (by rfl) ?_
 ·refine aX h0<|aX O<|kV (akJ A k _) ?_;rintro e w2 ⟨t,q,he,lb,lq,mb',mq',hb⟩;exact⟨_,he,Fx.Ln ⟨rfl,S,hb,t,q,rfl,lb,lq,mb',mq'⟩⟩
 rintro e a2 w2 ⟨V,ha2,hd2,rfl,S,b2,t,q,h8,lbt,lq,mbt,mq⟩;have hds:a2.defers = []:=hd2.trans hd1;have tbt:=mbt.lt;have tq:=mq.lt;have bq:t≠q:=fun e=>by
  subst e;have:=mbt.symm.trans mq;simp only[Option.some.injEq,Obj.cells.injEq]at this;exact M_ this.2.1 (by decide)
 have m2:=Y.cB (Fx.Sb b2) (u_ Y.lt);have s1:=b1.size;have s2:=b2.size;have b12:Below w.heap.size w w2:=b1.trans (b2.mono s1);have hT2:Fx.aR w2 A 1 (fun _ => .map (some K)) 165:=(b12.block A ltp).trans hT;have hM2:Fx.Mp w2 K n x (fun j=>aC (p j)):=hM.keep (b12.block K lmb);have hgq:w.heap.size≠q:=by omega
 refine wpIn_block (Rgq.Dz (F:=Fx.FR none) rfl (by decide) (gf:=144) (lb := #[(pt t),(pt q)]) ?hg trivial (fun args w=>jY Tryz.func144 (by kernel_rfl) rfl args w)
  (Xp A K t q n C x p k hinj abj ⟨bq,by omega⟩) tq ⟨hT2,hM2,mbt,mq⟩ ?MU (fun h k=>h.trans k) ?hKb (fun _=>rfl) (PI w.heap.size t q w.heap.size w) (PI.own (A_ _) hgq (by omega) (by omega))
  ⟨⟨none,0,m2,Fx.wW _ _ _ _ _,fun r e=>by cases e⟩,b12,tbt,tq⟩ (fun v a => ∃ f,Fx.Ar a 15 f/\f 4=(pt w.heap.size)/\f 5=aC v) ?assign ?body ?done)
 case hg=>rw[ha2.ev]; exact h8
 case MU =>
  rintro W o hw ⟨i1,i2,i3,i4⟩;exact⟨(Below.heap_alloc W o A i1.lt).trans i1,i2.keep (Below.heap_alloc W o K i2.lt),(Below.heap_alloc W o t i3.lt).trans i3,(Below.heap_alloc W o q i4.lt).trans i4⟩
 case hKb =>
  intro W l o o' hl _ _ _;exact R8.of (by simp) fun r hr=>World.putObj_heap_other (by omega)
 case assign =>
  intro l v W;have hp:=ha2.put (d:=some 9) rfl (aC v);refine Fx.GV (ro:=some l) (n:=15) (f:=Fx.put V (some 9) (aC v)) (Q:=fun e f w'=>e = .normal/\f 4=(pt w.heap.size)/\f 5=aC v/\w'=W) (Fx.Kn hp) ?_ (by rfl) ?_
  ·exact Fx.Lv (aC v) (Fx.eU rfl rfl) (Fx.Ln ⟨rfl,S,rfl,rfl⟩)
  ·rintro e a' w' ⟨f',hf',_,rfl,g4,g5,rfl⟩;exact⟨⟨f',hf',g4,g5⟩,rfl⟩
 case body =>
  rintro l L v W a' ⟨f',hf',g4,g5⟩ ⟨⟨G,H,U,o3,X⟩,P,hpb,hpq⟩ hpl;have hbs:=P.size;have BQ:=U.lt;refine wpIn_block<|Fx.GV (ro:=some l) (Q:=fun e f w'=>e = .normal/\KeepsOthers W w'/\R8 A K t q W w'/\PI w.heap.size t q w.heap.size w (L ++ [v]) w') hf' ?_ (by rfl) ?_
  ·refine Fx.Lv (.slice G L.length H) (aL U.aH 0 (ha:=g4))<|aX g5<|Fx.xO (vs := [(0,aC v)]) (s:=1) (zc:=fun _=>aC 0) (y:=Fx.bC (fun j=>aC 0) (0*1) 1 (fun _=>aC v)) (by rfl) rfl rfl Tryz.underlying53 (by kernel_rfl) (by rfl) (by rfl) (by kernel_rfl) (by rw[Fx.aZ (off:=0*1) (s:=1) (y:=fun _=>aC v) rfl (Fx.cells_one (by rfl)) (by rfl)]; rfl) rfl fun g4' w4 JU m4 E z4 => ?_;have⟨m5,o5⟩:=eO E.old U o3;have hB4:w.heap.size<=w4.heap.size:=m_ hbs E.size;refine Fx.zf (B:=w.heap.size) (s:=1) (bytes:=8) (k:=L.length) (m:=1) (v := .slice G L.length H) (x:=xI L) (by rfl) rfl rfl rfl Tryz.underlying53 (by kernel_rfl) (by kernel_rfl) rfl rfl o5 m4.aH (fun j hj=>by unfold Fx.bC; split <;> rfl) (by omega) (by omega) (by omega) hB4 fun J PX w6 ho1 I wu hlt1 => ?_
   have m6:=m5.grown I (fun e=>(X _ e).2.2 rfl);refine jd m6 0 (bL J (L.length+1) PX) (ha:=g4) fun N Z u z7 => ?_;have e4 : ∀ r,r<W.heap.size->r≠w.heap.size->(∀ z,(Value.slice G L.length H).ownBlock=some z->z≠r)->N.heap[r]? = W.heap[r]? := fun r O R h3 =>
    (u.block r (n_ (n_ O E.size) I.size) R).trans ((I.block r (n_ O E.size) fun e=>h3 r e.symm rfl).trans (E.block r O (u_ O)))
   have hg6:J≠t/\J≠q/\J≠w.heap.size:=by
    rcases wu with h|h
    ·exact X J h
    ·have:=E.size; have:=P.block;refine⟨?_,?_,?_⟩
     ·omega
     ·omega
     ·omega
   have mC:Fx.aR N w.heap.size 1 (fun _=>bL J (L.length+1) PX) 53:=Fx.aR.congr Z (by
    intro j hj;obtain rfl:j=0:=(by omega);rfl)
   refine Fx.Ln ⟨rfl,?_,?_,⟨?_,?_,?_,?_⟩⟩
   ·refine(KeepsOthers.BP E fun o ho => ?_).trans ((KeepsOthers.R9 I fun r o e ho=>AL (o5.ty e) o ho).trans (KeepsOthers.BP u (AL m6.ty)));have:=(t_.1 ho).1; omega
   ·refine R8.of (m_ E.size (m_ I.size u.size)) fun r hr=>e4 r ?_ ?_ fun z hz => ?_
    ·rcases hr with rfl|rfl|rfl|rfl <;> omega
    ·rcases hr with rfl|rfl|rfl|rfl <;> omega
    ·have O:=(o3.ge hz).1; have R:=X z hz
     rcases hr with rfl|rfl|rfl|rfl
     ·omega
     ·omega
     ·exact R.1
     ·exact R.2.1
   ·refine⟨some ⟨J,0,none⟩,PX,?_,?_,fun r e => ?_⟩
    ·rw[E_]; exact mC
    ·rw[E_]; exact(ho1.congr Xo).cB u (fun e=>hg6.2.2 (C_ e))
    ·obtain rfl:J=r:=C_ e;exact hg6
   ·refine u.below ((E.below P hbs hbs).grown I hB4 fun r e=>(o5.ge e).1) (m_ hB4 I.size) (A_ _)
   ·exact n_ hpb (m_ E.size (m_ I.size u.size))
   ·exact n_ hpq (m_ E.size (m_ I.size u.size))
  ·rintro e a5 w5 ⟨f5,_,_,rfl,q1,q2,q3⟩;exact⟨q1,q2,q3⟩
 case done =>
  rintro D xs W hD rfl ⟨⟨G,H,U,o3,X⟩,P,hpb,hpq⟩ hK;have hcD : ∀ g,g<w2.heap.size->g≠D:=fun g h e=>by omega
  have hkc : ∀ {g T},Fx.Ty W g T->g≠D:=fun ht e=>by
   have:=AL ht _ (e ▸ hK); cases this
  have hDn:(w.heap.size:Nat)≠D:=by omega
  show Code.wpIn _ _ _ _ _ _ _;refine wpIn_seq<|Fx.GV (Q:=fun e f w'=>e = .normal/\f 4=(pt w.heap.size)/\Fx.Stp w.heap.size W w'/\Fx.aR w' w.heap.size 1 (fun _ => .slice G (jD x p n C k).length H) 53) (f:=V) ⟨ha2.size,ha2.get⟩ ?_ (by rfl) ?_
  ·refine Fx.Lv (.slice G (jD x p n C k).length H) (aL U.aH 0 (ha:=S))<|jd U 0 (.slice G (jD x p n C k).length H) (ha:=S) fun N Z u z7 => ?_;exact Fx.Ln ⟨rfl,S,u,Fx.aR.congr Z fun j hj=>by
    obtain rfl:j=0:=(by omega);rfl⟩
  rintro e a7 N ⟨f7,ha7,hd7,rfl,q4,u,Z⟩;have hK7:N.heap[D]? = some (.deferred (some [])):=(u.block D (t_.1 hK).1 (Ne.symm hDn)).trans hK;have m8:Fx.aR (N.putObj D (.deferred none)) w.heap.size 1 (fun _ => .slice G (jD x p n C k).length H) 53:=(World.putObj_heap_other hDn).trans Z;refine wpIn_ret (Fx.leave1 ha7 (hd7.trans (by rw[hds])) hK7 (Fx.rV Tryz.results59 ⟨_,q4,Fx.Pz m8.aH (by kernel_rfl) (i:=0) (by omega) (by omega) rfl⟩) ⟨G,H,rfl,?_,?_⟩)
  ·have o7:=o3.cB u (fun e=>(X _ e).2.2 rfl);exact World.ownsRow.kept o7 (grownBy_putObj' N D _) (.inr fun e=>by
    exact hkc (o3.ty e) rfl)
  ·exact(u.below P P.size (A_ _)).grown (grownBy_putObj' N D _) (m_ P.size u.size) fun r e=>by cases e; omega
end Go.Proofs.YtcbedgfikejkoaaGreatDoor
namespace Go.Proofs.YtcbedgfikejkoaaGreatDoor
open Go.RowKit Go
namespace Rt
section
variable {x p x' p':Nat->Int} {n n' j d e:Nat} {k id pa:Int}
theorem yI : ∀ {d:Nat} {k:Int},(jD x p n d k).length<=d
 | 0,k=>A_ _
 | d+1,k=>by
   unfold jD;split
   ·rw[List.length_cons]; exact Nat.succ_le_succ yI
   ·exact K_ _
theorem AO : ∀ {d e:Nat} {k:Int},jB x p n d k->(jD x p n d k).length<=e->jB x p n e k
 | 0,0,k,h,_=>h
 | 0,e+1,k,h,_=>fun b=>by
   have h:dS x n k=false:=h;rw[h]at b; cases b
 | d+1,0,k,h,hl=>by
   show dS x n k=false
   cases a:dS x n k with
   | false=>rfl
   | true =>
     unfold jD at hl;rw[d_ a,List.length_cons]at hl;omega
 | d+1,e+1,k,h,hl=>fun a=>by
   unfold jD at hl;rw[d_ a,List.length_cons]at hl;exact AO (h a) (by omega)
theorem Kq : ∀ {d:Nat} {k:Int},jB x p n d k->jD x p n (d+1) k=jD x p n d k
 | 0,k,h=>by
   have h:dS x n k=false:=h;rw[kW h,kW h]
 | d+1,k,h=>by
   cases hk:dS x n k with
   | false=>rw[kW hk,kW hk]
   | true =>
     show(if dS x n k=true then k::jD x p n (d+1) (iF x p n k)else [])=(if dS x n k=true then k::jD x p n d (iF x p n k)else []);rw[d_ hk,d_ hk,Kq (h hk)]
theorem MW{d:Nat}{k:Int}(h:jB x p n d k):jB x p n (d+1) k:=AO h (Nat.le_succ_of_le yI)
theorem Ja{d e:Nat}{k:Int}(h:jB x p n d k)(a:d<=e):jD x p n e k=jD x p n d k/\jB x p n e k:=by
 induction a with
 | refl=>exact⟨rfl,h⟩
 | step _ ih=>exact⟨(Kq ih.2).trans ih.1,MW ih.2⟩
theorem GY(a : ∀ k,dS x' n' k=dS x n k)(b : ∀ k,dS x n k=true->iF x' p' n' k=iF x p n k) : ∀(d:Nat) (k:Int),jD x' p' n' d k=jD x p n d k
 | 0,_=>rfl
 | d+1,k=>by
   unfold jD;rw[a]
   cases hk:dS x n k with
   | false=>rfl
   | true=>rw[d_ rfl,d_ rfl,b k hk,GY a b d]
structure BA(n:Nat)(x p:Nat->Int):Prop where
 inj : ∀ a b,a<n->b<n->x a=x b->a=b
 pos : ∀ j,j<n->0<x j/\x j<=18446744073709551615
 stop : ∀ k,jB x p n 4 k
 small:n<=32
 par : ∀ j,j<n->p j=0 \/ ∃ i,i<j/\x i=p j
theorem BA.zero(x p:Nat->Int):BA 0 x p:=⟨fun a b h=>by omega,fun j h=>by omega,fun k h=>(nomatch h),by omega,fun j h=>by omega⟩
theorem BA.Xq(h:BA n x p):dS x n 0=false:=yH fun i hi e=>by have:=h.pos i hi; omega
theorem BA.afH(h:BA n x p)(d:Nat):jD x p n d 0 = []:=kW h.Xq
theorem BA.len(h:BA n x p)(k:Int):(jD x p n 4 k).length<=1000000:=m_ yI (by omega)
def rF(x p:Nat->Int)(n:Nat)(id pa:Int):Int :=
 if id=0 then 1 else if dS x n id=true then 14 else if ¬ pa=0/\dS x n pa=false then 9 else if 32<=n\/4<=(jD x p n 4 pa).length then 6 else 0
inductive abk (n:Nat) (x p:Nat->Int) (id pa:Int):Int->Nat->(Nat->Int)->(Nat->Int)->Prop
 | no {c:Int} (hc:rF x p n id pa=c) (h0:c≠0):abk n x p id pa c n x p
 | yes (hc:rF x p n id pa=0):abk n x p id pa 0 (n+1) (Fx.aO x n id) (Fx.aO p n pa)
theorem EJ(a:rF x p n id pa=0):id≠0/\dS x n id=false/\(pa=0\/dS x n pa=true)/\n<32/\(jD x p n 4 pa).length<4:=by
 unfold rF at a;split at a
 ·cases a
 split at a
 ·cases a
 split at a
 ·cases a
 split at a
 ·cases a
 rename_i h1 h2 h3 h4;refine⟨h1,by simpa using h2,?_,by omega,by omega⟩;by_cases b:pa=0
 ·exact .inl b
 right
 cases hk:dS x n pa with
 | true=>rfl
 | false=>exact M_ ⟨b,hk⟩ h3
theorem jF(id k:Int):dS (Fx.aO x n id) (n+1) k=(dS x n k || decide (id=k)):=by
 have e : ∀ m,m<=n->dS (Fx.aO x n id) m k=dS x m k:=fun m=>by
  induction m with
  | zero=>exact fun _=>rfl
  | succ m ih =>
    intro a;show(dS (Fx.aO x n id) m k || decide (Fx.aO x n id m=k))=(dS x m k || decide (x m=k));rw[ih (by omega)];unfold Fx.aO;rw[b_ (by omega)]
 show(dS (Fx.aO x n id) n k || decide (Fx.aO x n id n=k))=_;rw[e n (A_ _)];unfold Fx.aO;rw[d_ rfl]
theorem tZ(id pa k:Int):iF (Fx.aO x n id) (Fx.aO p n pa) (n+1) k=if id=k then pa else iF x p n k:=by
 have e : ∀ m,m<=n->iF (Fx.aO x n id) (Fx.aO p n pa) m k=iF x p m k:=fun m=>by
  induction m with
  | zero=>exact fun _=>rfl
  | succ m ih =>
    intro a;show(if Fx.aO x n id m=k then Fx.aO p n pa m else iF (Fx.aO x n id) (Fx.aO p n pa) m k)=(if x m=k then p m else iF x p m k);rw[ih (by omega),show Fx.aO x n id m=x m by unfold Fx.aO; rw[b_ (by omega)],show Fx.aO p n pa m=p m by unfold Fx.aO; rw[b_ (by omega)]]
 show(if Fx.aO x n id n=k then Fx.aO p n pa n else iF (Fx.aO x n id) (Fx.aO p n pa) n k)=_;rw[e n (A_ _),show Fx.aO x n id n=id by unfold Fx.aO; rw[d_ rfl],show Fx.aO p n pa n=pa by unfold Fx.aO; rw[d_ rfl]]
theorem BA.up(h:BA n x p)(b:dS x n k=true):iF x p n k=0\/dS x n (iF x p n k)=true:=by
 obtain⟨j,a,e⟩:=gX b;rw[AJ h.inj a e]
 rcases h.par j a with h1|⟨i,hi,h1⟩
 ·exact .inl h1
 exact .inr (jL (by omega) h1)
theorem EK(h:BA n x p)(c:dS x n id=false)(b:id≠0) : ∀(d:Nat) (k:Int),k≠id->jB x p n d k->jB (Fx.aO x n id) (Fx.aO p n pa) (n+1) d k
 | 0,k,hk,hs=>by
   show dS _ _ _=false;rw[jF,g_ (fun e=>hk e.symm),H_]; exact hs
 | d+1,k,hk,hs=>fun a=>by
   rw[jF,g_ (fun e=>hk e.symm),H_]at a;rw[tZ,b_ (fun e=>hk e.symm)];refine EK h c b d _ ?_ (hs a);intro e
   rcases h.up a with h1|h1
   ·exact b (e.symm.trans h1)
   ·rw[e,c]at h1; cases h1
theorem BA.put(h:BA n x p)(y:rF x p n id pa=0)(o:0<=id/\id<=18446744073709551615):BA (n+1) (Fx.aO x n id) (Fx.aO p n pa):=by
 obtain⟨m,f,s,B,A⟩:=EJ y;have l:Fx.aO x n id n=id:=by unfold Fx.aO; rw[d_ rfl]
 have d : ∀ j,j<n->Fx.aO x n id j=x j:=fun j c=>by unfold Fx.aO; rw[b_ (by omega)]
 have t:Fx.aO p n pa n=pa:=by unfold Fx.aO; rw[d_ rfl]
 have u : ∀ j,j<n->Fx.aO p n pa j=p j:=fun j c=>by unfold Fx.aO; rw[b_ (by omega)]
 have r : ∀ j,j<n->x j≠id:=fun j c e=>by rw[jL c e]at f; cases f
 have z:pa≠id:=fun e=>by
  subst e
  rcases s with h1|h1
  ·exact m h1
  ·rw[f]at h1; cases h1
 have g : ∀ j,j<n+1->j<n\/j=n:=fun j c=>by omega
 refine⟨fun a b w o e => ?_,fun j c => ?_,fun k => ?_,by omega,fun j c => ?_⟩
 ·rcases g a w with h1|rfl <;> rcases g b o with h2|rfl
  ·rw[d a h1,d b h2]at e; exact h.inj a b h1 h2 e
  ·rw[d a h1,l]at e; exact M_ e (r a h1)
  ·rw[l,d b h2]at e; exact M_ e.symm (r b h2)
  rfl
 ·rcases g j c with h1|rfl
  ·rw[d j h1]; exact h.pos j h1
  rw[l]; omega
 ·by_cases q:k=id
  ·subst q;intro _;rw[tZ,d_ rfl];exact EK h f m 3 pa z (AO (h.stop pa) (by omega))
  exact EK h f m 4 k q (h.stop k)
 rcases g j c with h1|rfl
 ·rw[u j h1]
  rcases h.par j h1 with h2|⟨i,hi,h2⟩
  ·exact .inl h2
  exact .inr ⟨i,hi,by rw[d i (by omega)]; exact h2⟩
 rw[t]
 rcases s with h2|h2
 ·exact .inl h2
 obtain⟨i,hi,v⟩:=gX h2;exact .inr ⟨i,hi,by rw[d i hi]; exact v⟩
theorem uU : ∀ {l m:List Int},l.Pairwise (· < ·)->m.Pairwise (· < ·)->(∀ k,k∈l<->k∈m)->l=m
 | [],[],_,_,_=>rfl
 | [],b::m,_,_,h=>by have:=(h b).2 (by simp); simp at this
 | a::l,[],_,_,h=>by have:=(h a).1 (by simp); simp at this
 | a::l,b::m,hl,hm,h=>by
   rw[List.pairwise_cons]at hl hm;have e:a=b:=by
    have c:=(h a).1 (by simp);have d:=(h b).2 (by simp);rw[List.mem_cons]at c d
    rcases c with c|c
    ·exact c
    rcases d with d|d
    ·exact d.symm
    have:=hm.1 _ c; have:=hl.1 _ d; omega
   subst e;rw[uU hl.2 hm.2 fun k => ?_];have f:=h k;rw[List.mem_cons,List.mem_cons]at f;constructor
   ·intro q
    rcases f.1 (.inr q)with rfl|c
    ·have:=hl.1 _ q; omega
    ·exact c
   ·intro q
    rcases f.2 (.inr q)with rfl|c
    ·have:=hm.1 _ q; omega
    ·exact c
end
theorem GZ(S:Nat->Bool) : ∀ n,Fx.unseen S n<=n
 | 0=>A_ _
 | n+1=>by
   unfold Fx.unseen;have:=GZ S n;split <;> omega
structure Sc(n:Nat)(P:Nat->Prop)(S:Nat->Bool)(m:Nat)(τ:Nat->Nat)(kk:Nat):Prop where
 lt : ∀ q,q<m->τ q<n
 inj : ∀ q r,q<m->r<m->τ q=τ r->q=r
 mem : ∀ i,i<n->S i=true->P i -> ∃ q,q<m/\τ q=i
 yes : ∀ q,q<m->P (τ q)
 seen : ∀ q,q<m->S (τ q)=true
 le:m+kk<=n
 kk:kk=Fx.unseen S n
section
variable {n m kk:Nat} {P:Nat->Prop} {S:Nat->Bool} {τ:Nat->Nat}
theorem Sc.start(n:Nat)(P:Nat->Prop)(τ:Nat->Nat):Sc n P (fun _=>false) 0 τ (Fx.unseen (fun _=>false) n) :=
 ⟨fun _ h=>M_ h (z_ _),fun _ _ h=>M_ h (z_ _),fun _ _ h=>(nomatch h),fun _ h=>M_ h (z_ _),fun _ h=>M_ h (z_ _),by have:=GZ (fun _=>false) n; omega,rfl⟩
theorem Sc.skip(h:Sc n P S m τ kk){i:Nat}(hi:i<n)(g:S i=false)(d : ¬ P i):Sc n P (Fx.aO S i true) m τ (Fx.unseen (Fx.aO S i true) n):=by
 have o:=Fx.oU g n hi;have k:=h.kk;have l:=h.le;refine⟨h.lt,h.inj,fun j c a b => ?_,h.yes,fun q f => ?_,by omega,rfl⟩
 ·unfold Fx.aO at a;split at a
  ·rename_i e; subst e; exact M_ b d
  exact h.mem j c a b
 unfold Fx.aO; split
 ·rfl
 exact h.seen q f
theorem Sc.take(h:Sc n P S m τ kk){i:Nat}(hi:i<n)(g:S i=false)(p:P i):Sc n P (Fx.aO S i true) (m+1) (Fx.aO τ m i) (Fx.unseen (Fx.aO S i true) n):=by
 have w:=Fx.oU g n hi;have u:=h.kk;have v:=h.le;have c:Fx.aO τ m i m=i:=by unfold Fx.aO; rw[d_ rfl]
 have b : ∀ q,q<m->Fx.aO τ m i q=τ q:=fun q a=>by unfold Fx.aO; rw[b_ (by omega)]
 have k : ∀ q,q<m->τ q≠i:=fun q a e=>by have:=h.seen q a; rw[e,g]at this; cases this
 have d : ∀ q,q<m+1->q<m\/q=m:=fun q a=>by omega
 refine⟨fun q a => ?_,fun q r a t e => ?_,fun j o f l => ?_,fun q a => ?_,fun q a => ?_,by omega,rfl⟩
 ·rcases d q a with h1|rfl
  ·rw[b q h1]; exact h.lt q h1
  rw[c]; exact hi
 ·rcases d q a with h1|h1 <;> rcases d r t with h2|h2
  ·rw[b q h1,b r h2]at e; exact h.inj q r h1 h2 e
  ·subst h2; rw[b q h1,c]at e; exact M_ e (k q h1)
  ·subst h1; rw[b r h2,c]at e; exact M_ e.symm (k r h2)
  omega
 ·by_cases e:j=i
  ·exact⟨m,by omega,by rw[c,e]⟩
  unfold Fx.aO at f;rw[b_ e]at f;obtain⟨q,a,s⟩:=h.mem j o f l;exact⟨q,by omega,by rw[b q a,s]⟩
 ·rcases d q a with h1|rfl
  ·rw[b q h1]; exact h.yes q h1
  rw[c]; exact p
 rcases d q a with h1|rfl
 ·rw[b q h1]; unfold Fx.aO; split
  ·rfl
  exact h.seen q h1
 rw[c]; unfold Fx.aO; rw[d_ rfl]
end
end Rt
end Go.Proofs.YtcbedgfikejkoaaGreatDoor
namespace Go.Proofs.YtcbedgfikejkoaaGreatDoor
open Go.RowKit Rt
open Fx (Lv sN Ln Ws Qv Wl Rp Wr Sb Wk sR Rs Rn Wb Wx Wo Qn nk rv aA aR bC aO Stp dA Mp iN iO bK bP bW bX gP iq pK)
section
open Rt
theorem afI(x p:Nat->Int)(w:World) :
 Calls Tryz.prog 58 #[] w fun e w' => ∃ c b,e = .returned (pt c)/\w.heap.size<=c/\w.heap.size<=b/\aR w' c 1 (fun _ => .map (some b)) 165/\Mp w' b 0 x (fun j=>aC (p j))/\Below w.heap.size w w':=by
 refine Kent Tryz.func58 4 ?_;refine ay<|av (.pointer none)<|aD<|ay<|Fx.L.Ki (by rfl) rfl rfl fun m y l a r z => ?_;have d:=bB r.old (Below.refl w.heap.size w);have n:=gH l;have u:=a.lt;refine av (.agg (aA 1 (bC (fun _ => .map none) 0 1 (fun _ => .map (some m)))))<|oL fun g w2 f h s A => ?_;have⟨q,k⟩:=eO s.old a d;have o:=iI f d.size;have t:=bY f a.lt;have v:=h.lt;refine av (pt g)<|aD<|Wr<|aJ (pt g) ?_;exact⟨_,_,rfl,o,n,h,q.uT (fun i hi=>M_ hi (z_ _)),k⟩
theorem Rt.uV{l:List Int}{i:Nat}{v:Int}(hi:i<l.length)(e:l.getD i 0=v):v∈l:=by
 rw[r_,o_ hi]at e;rw[<- e]; exact Q_ hi
theorem Rt.Xr{l:List Int}{v:Int}(h : ∀ j,j<l.length->l.getD j 0≠v) : ¬ v∈l:=fun a=>by
 obtain⟨i,hi,e⟩:=List.getElem_of_mem a;refine h i hi ?_;rw[r_,o_ hi]; exact e
theorem akM(l:List Int)(v:Int)(B c:Nat)(a:Option Addr)(w:World)(C:Fx.Own w B 23 1 (.slice a l.length c) l.length (xI l))(F:l.length<=1000) :
 Calls Tryz.prog 242 #[.slice a (l.length) (c),aC v] w fun e w' => ∃ r:Int,e = .returned (au r)/\(0<=r<->v∈l)/\Below w.heap.size w w':=by
 refine Kent Tryz.func242 19 ?_;refine ay<|av (au 0)<|aD<|Ws<|ay<|av (.slice a (l.length) (c))<|av (au l.length)<|av (au 0)<|aD<|Wb<|Wo (fun f A => ∃ i:Nat,(∀ j,j<i->l.getD j 0≠v)/\f 0 = .slice a (l.length) (c)/\f 1=aC v/\f 7=au (l.length:Int)/\f 8=au (i:Int)/\Fx.Own A B 23 1 (.slice a (l.length) (c)) l.length (xI l)/\Below w.heap.size w A) (fun f _=>((l.length:Int)-intOf (f 8)).toNat) ⟨0,(fun j n=>M_ n (z_ _)),(by rfl),Fx.ic,Fx.ic,Fx.ic,C,(Below.refl w.heap.size w)⟩ ?_;rintro E z ⟨i,u,s,t,m,b,x,g⟩;refine ay ?_;by_cases o:(i:Int)<(l.length:Int)
 ·refine Lv aG (gJ o (hx:=b) (hy:=m))<|aD<|Ws<|aM<|Wk<|sN<|Ws<|Wb<|ay<|aX b<|av (au i)<|aD<|ay<|aX t<|aX s<|av (au i) ?_;obtain⟨p,k⟩:=x.addr (by omega);have y:Fx.Own z B 23 1 (bL p l.length c) l.length (xI l):=x.fB (L_ (fun q=>Value.slice q l.length c) k);refine Lv (pf p i) (cO 1 (hx:=(rfl.trans (L_ (fun q=>Value.slice q (l.length) (c)) k))))<|Lv (aC (l.getD i 0)) (aL y.aH i) ?_;by_cases d:v=(l.getD i 0)
  ·refine Lv aG (fI d)<|aD<|aM<|ay<|av (au i)<|av (au i)<|aD<|Wr<|bK<|sR<|pK<|bK<|sR<|aJ (au i) ?_;exact⟨_,rfl,⟨fun _=>uV (by omega) d.symm,fun _=>by omega⟩,g⟩
  refine Lv aF (gG d)<|aD<|aK<|Wk<|bP<|sN<|Wl<|Lv (au ((i:Int)+1)) (fF (hx:=b))<|av (au ((i:Int)+1))<|Ln ?_;have D:Fx.Own z B 23 1 (.slice a (l.length) (c)) l.length (xI l):=y.fB (L_ (fun q=>Value.slice q l.length c) k.symm);refine iq ⟨i+1,(fun j n=>by by_cases e:j=i; subst e; exact fun e=>d e.symm; exact u j (by omega)),s,(t.trans Fx.ic),(m.trans Fx.ic),Fx.ic,D,g⟩ ?_;show((l.length:Int)-intOf (au ((i:Int)+1))).toNat<_;simp only[b,intOf]; omega
 refine Lv aF (gK o (hx:=b) (hy:=m))<|aD<|Ws<|aK<|Wx<|bW<|gP<|bX<|sN<|ay<|av (au (-1))<|aD<|Wr<|aJ (au (-1)) ?_;exact⟨_,rfl,⟨fun h=>by omega,fun h=>M_ h (Xr (fun j n=>u j (by omega)))⟩,g⟩
theorem akN(l:List Int)(v:Int)(B c:Nat)(a:Option Addr)(w:World)(g:Fx.Own w B 23 1 (.slice a l.length c) l.length (xI l))(i:l.length<=1000) :
 Calls Tryz.prog 231 #[.slice a (l.length) (c),aC v] w fun e w'=>e = .returned (.bool (decide (v∈l)))/\Below w.heap.size w w':=by
 refine Kent Tryz.func231 9 ?_;refine ay<|av aF<|aD<|ay<|av (.slice a (l.length) (c))<|av (aC v)<|kV (akM l v B c a _ g i) ?_;rintro j k ⟨r,b,h,f⟩;refine⟨_,b,?_⟩;clear b;have d:=bB f (Below.refl w.heap.size w);refine Lv (.bool (decide (0<=r))) (Fx.Ew rfl rfl rfl)<|av (.bool (decide (0<=r)))<|aD<|Wr<|aJ (.bool (decide (0<=r))) ?_;exact⟨by rw[decide_eq_decide.2 h],d⟩
theorem afJ(x p:Nat->Int)(n b a:Nat)(id pa:Int)(w:World)(f:aR w b 1 (fun _ => .map (some a)) 165)(d:Mp w a n x (fun j=>aC (p j)))(h:BA n x p) :
 Calls Tryz.prog 217 #[(pt b),aC id,aC pa] w fun e w' => ∃ c F x2 G,e = .returned (au c)/\abk n x p id pa c F x2 G/\aR w' b 1 (fun _ => .map (some a)) 165/\Mp w' a F x2 (fun j=>aC (G j))/\Stp a w w':=by
 have ab:=f.lt;have aa:=d.lt;have Z:=h.small;have Y:(jD x p n 4 pa).length<=4:=yI;refine Kent Tryz.func217 44 ?_;refine ay<|av (au 0)<|aD<|Ws<|Wb<|ay<|av (pt b)<|Lv aF (Fx.mU rfl rfl rfl (by kernel_rfl))<|av aF<|aD<|aK<|ay<|av (aC id) ?_;by_cases k:id=0
 ·refine Lv aG (fI k)<|av aG<|aD<|aM<|ay<|av (au 1)<|aD<|Wr<|bK<|sR<|aJ (au 1) ?_;exact⟨_,_,_,_,rfl,.no (by unfold rF; rw[d_ k]) (by decide),f,d,(nk a w)⟩
 refine Lv aF (gG k)<|av aF<|aD<|aK<|ay<|av (pt b)<|av (aC id) ?_;by_cases g:(dS x n id)=true
 ·refine kQ (EI x p n b a id _ f d) aG (by rw[g])<|av aG<|aD<|aM<|ay<|av (au 14)<|aD<|Wr<|bK<|sR<|aJ (au 14) ?_;exact⟨_,_,_,_,rfl,.no (by unfold rF; rw[b_ k,g,d_ rfl]) (by decide),f,d,(nk a w)⟩
 rw[T_]at g;refine kQ (EI x p n b a id _ f d) aF (by rw[g])<|av aF<|aD<|aK<|ay<|av (aC pa) ?_;by_cases m:pa=0
 ·refine Lv aF (jJ m)<|av aF<|dB<|dB<|dB<|dB<|av aF<|av aF<|aD<|aK<|Ws<|ay<|av (pt b)<|av (pt b)<|av (pt b)<|Lv (.map (some a)) (aL f.aH 0)<|Lv (au n) (Fx.RV rfl rfl rfl d Tryz.underlying108) ?_;by_cases o:32<=(n:Int)
  ·refine Lv aG (kP o)<|av aG<|aD<|aM<|Wk<|sN<|aM<|ay<|av (au 6)<|aD<|Wr<|bK<|sR<|aJ (au 6) ?_;exact⟨_,_,_,_,rfl,.no (by unfold rF; rw[b_ k,g,b_ (by decide),b_ (fun h=>h.1 m),d_ (by omega)]) (by decide),f,d,(nk a w)⟩
  refine Lv aF (ko o)<|av aF<|aD<|aK<|Wl<|av (pt b)<|av (aC pa)<|kV (MV x p n b a 4 pa _ f d h.inj (h.stop _) (h.len _)) ?_;rintro M w1 ⟨ZP,pc1,r,N,B⟩;refine⟨_,r,?_⟩;clear r;have V:=Sb B;have⟨u,v⟩:=eO B f d;have z:=(nk a w).then V (.inr (nk a w).size);refine av (au (((jD x p n 4 pa).length:Nat):Int)) ?_;by_cases q:4<=(((jD x p n 4 pa).length:Nat):Int)
  ·refine Lv aG (kP q)<|av aG<|aD<|aM<|ay<|av (au 6)<|aD<|Wr<|bK<|sR<|aJ (au 6) ?_;exact⟨_,_,_,_,rfl,.no (by unfold rF; rw[b_ k,g,b_ (by decide),b_ (fun h=>h.1 m),d_ (by omega)]) (by decide),u,v,z⟩
  refine Lv aF (ko q)<|av aF<|aD<|aK<|Wk<|bP<|sN<|Ws ?_;have s : ∀ i,i<n->x i≠id:=fun i hi e=>by rw[jL hi e]at g; cases g
  refine Wl<|av (pt b)<|av (pt b)<|av (pt b)<|Lv (.map (some a)) (aL u.aH 0)<|av (aC id)<|av (aC pa)<|Fx.L.PN (by rfl) rfl rfl rfl rfl rfl v Tryz.underlying108 Tryz.underlying23 s fun w2 R H z1 => ?_;have D:=v.BN H;have S:=u.dY D;have m6:=N.dY D;have J:=z.then H (.inl rfl);have T:Mp w2 a (n+1) (aO x n id) (fun j=>aC (aO p n pa j)):=R.uT (fun i _=>⟨rfl,by unfold aO; split <;> rfl⟩)
  refine aD<|ay<|av (au 0)<|aD<|Wr<|aJ (au 0) ?_;exact⟨_,_,_,_,rfl,.yes (by unfold rF; rw[b_ k,g,b_ (by decide),b_ (fun h=>h.1 m),b_ (by omega)]),S,T,J⟩
 refine Lv aG (nC m)<|av aG<|av (pt b)<|av (aC pa) ?_;by_cases l:(dS x n pa)=true
 ·refine kQ (EI x p n b a pa _ f d) aG (by rw[l])<|av aF<|av aF<|av aF<|aD<|aK<|Ws<|ay<|av (pt b)<|av (pt b)<|av (pt b)<|Lv (.map (some a)) (aL f.aH 0)<|Lv (au n) (Fx.RV rfl rfl rfl d Tryz.underlying108) ?_;by_cases o:32<=(n:Int)
  ·refine Lv aG (kP o)<|av aG<|aD<|aM<|Wk<|sN<|aM<|ay<|av (au 6)<|aD<|Wr<|bK<|sR<|aJ (au 6) ?_;exact⟨_,_,_,_,rfl,.no (by unfold rF; rw[b_ k,g,b_ (by decide),b_ (fun h=>by rw[l]at h; cases h.2),d_ (by omega)]) (by decide),f,d,(nk a w)⟩
  refine Lv aF (ko o)<|av aF<|aD<|aK<|Wl<|av (pt b)<|av (aC pa)<|kV (MV x p n b a 4 pa _ f d h.inj (h.stop _) (h.len _)) ?_;rintro M w3 ⟨pa2,pc2,r,U,C⟩;refine⟨_,r,?_⟩;clear r;have W:=Sb C;have⟨y,t⟩:=eO C f d;have A:=(nk a w).then W (.inr (nk a w).size);refine av (au (((jD x p n 4 pa).length:Nat):Int)) ?_;by_cases q:4<=(((jD x p n 4 pa).length:Nat):Int)
  ·refine Lv aG (kP q)<|av aG<|aD<|aM<|ay<|av (au 6)<|aD<|Wr<|bK<|sR<|aJ (au 6) ?_;exact⟨_,_,_,_,rfl,.no (by unfold rF; rw[b_ k,g,b_ (by decide),b_ (fun h=>by rw[l]at h; cases h.2),d_ (by omega)]) (by decide),y,t,A⟩
  refine Lv aF (ko q)<|av aF<|aD<|aK<|Wk<|bP<|sN<|Ws ?_;have s : ∀ i,i<n->x i≠id:=fun i hi e=>by rw[jL hi e]at g; cases g
  refine Wl<|av (pt b)<|av (pt b)<|av (pt b)<|Lv (.map (some a)) (aL y.aH 0)<|av (aC id)<|av (aC pa)<|Fx.L.PN (by rfl) rfl rfl rfl rfl rfl t Tryz.underlying108 Tryz.underlying23 s fun X O I z2 => ?_;have E:=t.BN I;have P:=y.dY E;have ac:=U.dY E;have K:=A.then I (.inl rfl);have Q:Mp X a (n+1) (aO x n id) (fun j=>aC (aO p n pa j)):=O.uT (fun i _=>⟨rfl,by unfold aO; split <;> rfl⟩)
  refine aD<|ay<|av (au 0)<|aD<|Wr<|aJ (au 0) ?_;exact⟨_,_,_,_,rfl,.yes (by unfold rF; rw[b_ k,g,b_ (by decide),b_ (fun h=>by rw[l]at h; cases h.2),b_ (by omega)]),P,Q,K⟩
 rw[T_]at l;refine kQ (EI x p n b a pa _ f d) aF (by rw[l])<|av aG<|av aG<|av aG<|aD<|aM<|ay<|av (au 9)<|aD<|Wr<|bK<|sR<|aJ (au 9) ?_;exact⟨_,_,_,_,rfl,.no (by unfold rF; rw[b_ k,g,b_ (by decide),d_ ⟨m,l⟩]) (by decide),f,d,(nk a w)⟩
theorem afK(k:Int)(w:World) :
 Calls Tryz.prog 85 #[aC k] w fun e w'=>e = .returned (.bool true)/\w'=w:=by
 refine Kent Tryz.func85 3 ?_;refine ay<|av aF<|aD<|ay<|av aG<|aD<|Wr<|aJ aG ?_;exact⟨rfl,rfl⟩
end
section
namespace Rt
open Go.Sort (ltInt swp)
def gA(d:Array Int):Nat->Int:=fun i=>d[i]!
section
variable {d d':Array Int} {n a b i j k p:Nat}
theorem abl(e:d.size=n)(hi:i<n)(c:j<n)(k:Nat):gA (swp d i j) k=if k=i then gA d j else if k=j then gA d i else gA d k:=by
 unfold gA;by_cases b:k=i
 ·subst b;rw[d_ rfl];by_cases a:k=j
  ·subst a; exact Sort.swp_right d k k (by omega)
  exact Sort.swp_left d k j (by omega) a
 rw[b_ b];by_cases a:k=j
 ·subst a; rw[d_ rfl]; exact Sort.swp_right d i k (by omega)
 rw[b_ a]; exact Sort.swp_other d i j k b a
theorem fu(a:d.size=n)(i j:Nat):(swp d i j).size=n:=by rw[Sort.size_swp]; exact a
theorem iG(e:d.size=n)(hi:i<n)(c:j<n) : ∀ p,p<n*1->dA (dA (rv .u64 (gA d)) i (aC (gA d j))) j (aC (gA d i)) p=rv .u64 (gA (swp d i j)) p:=fun p f=>by
 show _=Value.int .u64 (gA (swp d i j) p);rw[abl e hi c];unfold dA;by_cases b:p=j
 ·subst b;rw[d_ rfl];by_cases a:p=i
  ·subst a; rw[d_ rfl]
  ·rw[b_ a,d_ rfl]
 ·rw[b_ b];by_cases a:p=i
  ·rw[d_ a,d_ a]
  ·rw[b_ a,b_ a,b_ b]; rfl
theorem uy(h:gA d i<gA d j):ltInt d[i]! d[j]! = true:=f_ h
theorem wY(h : ¬ gA d i<gA d j):ltInt d[i]! d[j]! = false:=g_ h
theorem abm(c:a<j)(b:gA d j<gA d (j-1)):Sort.insInner ltInt a (j-1) (swp d j (j-1))=Sort.insInner ltInt a j d:=by
 obtain⟨k,rfl⟩ : ∃ k,j=k+1:=⟨j-1,by omega⟩;have b:=uy b;rw[Nat.add_sub_cancel]at b ⊢
 conv=>rhs; rw[Sort.insInner]
 rw[b,f_ (show k+1>a by omega)]; rfl
theorem Kt(h:j<=a \/ ¬ gA d j<gA d (j-1)):Sort.insInner ltInt a j d=d:=by
 cases j with
 | zero=>rw[Sort.insInner]
 | succ k =>
   rw[Sort.insInner]
   rcases h with h|h
   ·rw[g_ (show ¬ k+1>a by omega)]; rfl
   ·have h:=wY h;rw[Nat.add_sub_cancel]at h;rw[h,I_]; rfl
theorem Sd(h:i<b)(hi:Sort.insInner ltInt a i d=d'):Sort.insOuter ltInt a b (i+1) d'=Sort.insOuter ltInt a b i d:=by
 conv=>rhs; rw[Sort.insOuter,d_ h]
 rw[hi]
theorem Sg(h : ¬ i<b):Sort.insOuter ltInt a b i d=d:=by rw[Sort.insOuter,b_ h]
variable {f r hi x0 x1 x2:Nat}
theorem EL(h:hi<=2*r+1):Sort.siftDown ltInt hi f r d=d:=by rw[Sort.siftDown,dif_pos (by omega)]
theorem Ku(c:x1=f+(2*r+1))(g:x2=f+(2*r+2))(e0:x0=f+r)(h:2*r+1<hi)(b:hi<=2*r+2 \/ ¬ gA d x1<gA d x2) :
 Sort.siftDown ltInt hi f r d=if gA d x0<gA d x1 then Sort.siftDown ltInt hi f (2*r+1) (swp d x0 x1)else d:=by
 rw[Sort.siftDown,dif_neg (by omega)];have e:(decide (2*r+1+1<hi)&&ltInt d[f+(2*r+1)]! d[f+(2*r+1)+1]!)=false:=by
  rcases b with b|b
  ·rw[g_ (by omega),Bool.false_and]
  ·rw[<- c,show x1+1=x2 by omega,wY b,I_]
 rw[e,<- c,<- e0];by_cases a:gA d x0<gA d x1
 ·rw[uy a,d_ a]; rfl
 rw[wY a,b_ a]; rfl
theorem Si(b:x1=f+(2*r+1))(c:x2=f+(2*r+2))(e0:x0=f+r)(h:2*r+2<hi)(e:gA d x1<gA d x2) :
 Sort.siftDown ltInt hi f r d=if gA d x0<gA d x2 then Sort.siftDown ltInt hi f (2*r+2) (swp d x0 x2)else d:=by
 rw[Sort.siftDown,dif_neg (by omega)];have g:(decide (2*r+1+1<hi)&&ltInt d[f+(2*r+1)]! d[f+(2*r+1)+1]!)=true:=by
  rw[f_ (by omega),<- b,show x1+1=x2 by omega,uy e]; rfl
 rw[g,<- c,<- e0];by_cases a:gA d x0<gA d x2
 ·rw[uy a,d_ a]; simp only[if_true,Bool.not_true,dif_pos h]; rfl
 rw[wY a,b_ a]; rfl
theorem Sj(a:0<k):Sort.heapBuild ltInt hi f (k-1) (Sort.siftDown ltInt hi f (k-1) d)=Sort.heapBuild ltInt hi f k d:=by
 obtain⟨j,rfl⟩ : ∃ j,k=j+1:=⟨k-1,by omega⟩;rfl
theorem abn{x:Nat}(a:0<k)(e:x=f+(k-1)):Sort.heapPop ltInt f (k-1) (Sort.siftDown ltInt (k-1) f 0 (swp d f x))=Sort.heapPop ltInt f k d:=by
 subst e;obtain⟨j,rfl⟩ : ∃ j,k=j+1:=⟨k-1,by omega⟩;rfl
theorem DZ(h:f+hi<=n) : ∀(m r:Nat) (d:Array Int),hi-r<=m->d.size=n->(Sort.siftDown ltInt hi f r d).size=n
 | 0,r,d,hm,hd=>by rw[EL (by omega)]; exact hd
 | m+1,r,d,hm,hd=>by
   by_cases b:2*r+1<hi
   ·by_cases a:2*r+2<hi/\gA d (f+(2*r+1))<gA d (f+(2*r+2))
    ·rw[Si rfl rfl rfl a.1 a.2];split
     ·exact DZ h m _ _ (by omega) (fu hd _ _)
     ·exact hd
    ·rw[Ku rfl rfl rfl b (by by_cases c:2*r+2<hi; exact .inr fun e=>a ⟨c,e⟩; exact .inl (by omega))];split
     ·exact DZ h m _ _ (by omega) (fu hd _ _)
     ·exact hd
   ·rw[EL (by omega)]; exact hd
theorem abo(h:i<j):Sort.reverseLoop (i+1) (j-1) (swp d i j)=Sort.reverseLoop i j d:=by conv=>rhs; rw[Sort.reverseLoop,d_ h]
theorem Sk(h : ¬ i<j):Sort.reverseLoop i j d=d:=by rw[Sort.reverseLoop,b_ h]
theorem ZQ{p:Int->Bool}(h:i<=j)(a:p d[i]! = true):Sort.scanUp p d j (i+1)=Sort.scanUp p d j i:=by
 conv=>rhs; rw[Sort.scanUp,a,f_ h]
 rfl
theorem uf{p:Int->Bool}(h:j<i\/p d[i]! = false):Sort.scanUp p d j i=i:=by
 rw[Sort.scanUp]
 rcases h with h|h
 ·rw[g_ (by omega)]; rfl
 rw[h,I_]; rfl
theorem ZR{p:Int->Bool}(h:i<=j)(b:0<j)(a:p d[j]! = true):Sort.scanDown p d i (j-1)=Sort.scanDown p d i j:=by
 obtain⟨k,rfl⟩ : ∃ k,j=k+1:=⟨j-1,by omega⟩
 conv=>rhs; rw[Sort.scanDown,a,f_ h]
 rfl
theorem D5{p:Int->Bool}(h:j<i\/p d[j]! = false):Sort.scanDown p d i j=j:=by
 cases j with
 | zero=>rfl
 | succ k =>
   rw[Sort.scanDown]
   rcases h with h|h
   ·rw[g_ (by omega)]; rfl
   ·rw[h,I_]; rfl
theorem Sl(h:i<=j)(b:gA d i<gA d a):Sort.partLoop ltInt a (i+1) j d=Sort.partLoop ltInt a i j d:=by
 rw[Sort.partLoop_eq,Sort.partLoop_eq (i:=i),ZQ (p:=fun x=>ltInt x d[a]!) h (uy b)]
theorem G6(h:i<=j)(c:0<j)(b : ¬ gA d i<gA d a)(e : ¬ gA d j<gA d a):Sort.partLoop ltInt a i (j-1) d=Sort.partLoop ltInt a i j d:=by
 rw[Sort.partLoop_eq,Sort.partLoop_eq (j:=j),uf (p:=fun x=>ltInt x d[a]!) (.inr (wY b)),uf (p:=fun x=>ltInt x d[a]!) (.inr (wY b)),ZR (p:=fun x => !ltInt x d[a]!) h c (by rw[wY e]; rfl)]
theorem G7(h:i<=j)(c : ¬ gA d i<gA d a)(b:gA d j<gA d a):Sort.partLoop ltInt a (i+1) (j-1) (swp d i j)=Sort.partLoop ltInt a i j d:=by
 rw[Sort.partLoop_eq (i:=i),uf (p:=fun x=>ltInt x d[a]!) (.inr (wY c)),D5 (p:=fun x => !ltInt x d[a]!) (.inr (by rw[uy b]; rfl)),b_ (by omega)]
theorem BR(h:j<i):Sort.partLoop ltInt a i j d=(j,d):=by
 rw[Sort.partLoop_eq,uf (p:=fun x=>ltInt x d[a]!) (.inl h),D5 (p:=fun x => !ltInt x d[a]!) (.inl h),d_ h]
theorem afL(h:i<=j)(b : ¬ gA d a<gA d i):Sort.partEqLoop ltInt a (i+1) j d=Sort.partEqLoop ltInt a i j d:=by
 rw[Sort.partEqLoop_eq,Sort.partEqLoop_eq (i:=i),ZQ (p:=fun x => !ltInt d[a]! x) h (by rw[wY b]; rfl)]
theorem ZT(h:i<=j)(c:0<j)(b:gA d a<gA d i)(e:gA d a<gA d j):Sort.partEqLoop ltInt a i (j-1) d=Sort.partEqLoop ltInt a i j d:=by
 rw[Sort.partEqLoop_eq,Sort.partEqLoop_eq (j:=j),uf (p:=fun x => !ltInt d[a]! x) (.inr (by rw[uy b]; rfl)),uf (p:=fun x => !ltInt d[a]! x) (.inr (by rw[uy b]; rfl)),ZR (p:=fun x=>ltInt d[a]! x) h c (uy e)]
theorem ZU(h:i<=j)(c:gA d a<gA d i)(b : ¬ gA d a<gA d j):Sort.partEqLoop ltInt a (i+1) (j-1) (swp d i j)=Sort.partEqLoop ltInt a i j d:=by
 rw[Sort.partEqLoop_eq (i:=i),uf (p:=fun x => !ltInt d[a]! x) (.inr (by rw[uy c]; rfl)),D5 (p:=fun x=>ltInt d[a]! x) (.inr (wY b)),b_ (by omega)]
theorem Sn(h:j<i):Sort.partEqLoop ltInt a i j d=(i,d):=by
 rw[Sort.partEqLoop_eq,uf (p:=fun x => !ltInt d[a]! x) (.inl h),D5 (p:=fun x=>ltInt d[a]! x) (.inl h),d_ h]
theorem MX(a:Nat)(d:Array Int):Sort.SortedIn ltInt a (a+1) d:=fun i j b c e=>by omega
end
end Rt
end
section
open Rt
theorem afM(n:Int)(w:World) :
 Calls Tryz.prog 89 #[aC n] w fun e w'=>e = .returned (.bool false)/\w'=w:=by
 refine Kent Tryz.func89 6 ?_;refine ay<|av aF<|aD<|ay<|av (aC n)<|av (aC n)<|Lv aF (jJ rfl)<|av aF<|aD<|Wr<|aJ aF ?_;exact⟨rfl,rfl⟩
theorem dQ(a b:Int)(w:World) :
 Calls Tryz.prog 182 #[aC a,aC b] w fun e w'=>e = .returned (.bool (decide (a<b)))/\w'=w:=by
 refine Kent Tryz.func182 17 ?_;refine ay<|av aF<|aD<|ay<|av (aC a)<|kQ (afM a _) _ rfl<|av aF<|dB<|dB<|dB<|av aF<|av aF<|av (aC a)<|av (aC b)<|Lv (.bool (decide (a<b))) (Fx.Ru rfl rfl rfl)<|av (.bool (decide (a<b)))<|av (.bool (decide (a<b)))<|aD<|Wr<|aJ (.bool (decide (a<b))) ?_;exact⟨rfl,rfl⟩
theorem afN(a b:Nat)(B g n cap:Nat)(d:Array Int)(w:World)(h:Fx.Own w B 23 1 (bL g n cap) n (rv .u64 (gA d)))(p:B<=w.heap.size)(Y:d.size=n)(hs:n<=1000)(ha:a<=b)(hb:b<=n) :
 Calls Tryz.prog 176 #[bL g n cap,au (a:Int),au (b:Int)] w fun e w'=>e = .returned (.tuple #[])/\Fx.Own w' B 23 1 (bL g n cap) n (rv .u64 (gA (Sort.insertionSort Sort.ltInt d a b)))/\Below B w w':=by
 refine Kent Tryz.func176 49 ?_;refine ay<|av (au a)<|Lv (au ((a:Int)+1)) fF<|av (au ((a:Int)+1))<|aD<|Wb<|Wo (fun f u => ∃ i:Nat,∃ o:Array Int,(a<i/\i<=b+1)/\o.size=n/\Sort.insOuter Sort.ltInt a b i o=Sort.insOuter Sort.ltInt a b (a+1) d/\f 0=bL g n cap/\f 1=au (a:Int)/\f 2=au (b:Int)/\f 6=au (i:Int)/\Fx.Own u B 23 1 (bL g n cap) n (rv .u64 (gA o))/\Below B w u) (fun f _=>((b:Int)+1-intOf (f 6)).toNat) ⟨a+1,d,(by omega),Y,rfl,(by rfl),Fx.ic,Fx.ic,Fx.ic,h,(Below.refl B w)⟩ ?_;rintro f1 w1 ⟨i,o,hi,X,x,V,W,K,s,P,F⟩;refine Ws<|ay<|aX s<|aX K ?_;by_cases I:(i:Int)<(b:Int)
 ·refine Lv aG (gJ I)<|aD<|aM<|Wk<|sN<|Ws<|Wb<|ay<|aX s<|av (au i)<|aD<|Wb<|Wo (fun f u => ∃ j:Nat,∃ c:Array Int,(a<=j/\j<=i)/\c.size=n/\Sort.insInner Sort.ltInt a j c=Sort.insInner Sort.ltInt a i o/\f 0=bL g n cap/\f 1=au (a:Int)/\f 2=au (b:Int)/\f 6=au (i:Int)/\f 7=au (j:Int)/\Fx.Own u B 23 1 (bL g n cap) n (rv .u64 (gA c))/\Below B w u) (fun f _=>(intOf (f 7)).toNat) ⟨i,o,(by omega),X,rfl,V,(W.trans Fx.ic),(K.trans Fx.ic),(s.trans Fx.ic),Fx.ic,P,F⟩ ?_;rintro f2 w2 ⟨j,c,hji,y,E,k,v,C,D,l,t,A⟩;refine Ws<|Ws ?_;refine lX<|dO l<|dO v ?_;by_cases J:(a:Int)<(j:Int)
  ·refine Qv aG (fun q m=>mG J)<|aW aG<|dO k<|dO l<|Qv (pf g j) (fun q m=>cO 1)<|Qv (aC ((gA c) j)) (fun q m=>aL (t.cb m) j)<|dO k<|dO l<|Qv (au ((j:Int)-1)) (fun q m=>gF)<|Qv (pf g (j-1)) (fun q m=>cO 1)<|Qv (aC ((gA c) (j-1))) (fun q m=>aL (t.cb m) (j-1)) ?_;by_cases r:(decide ((gA c) j<(gA c) (j-1)))=true
   ·refine qw (fun _ _=>dQ ((gA c) j) ((gA c) (j-1)) _) aG (by rw[r])<|aW aG<|Qn ?_;intro WT L;have Z:=bB L t;have R:=eZ L A p;refine sN<|aM<|Wk<|sN<|Ws<|Wb ?_;refine jW [0,1,2,3,4,5,6,7,8,10,11,12,9,13,14,15,16,17] [0,0,0,0,0,0,0,0,0,4,0,0,0,4,0,3,0,3] [(15,9,[9]),(17,9,[9]),(15,13,[13]),(17,13,[13]),(16,15,[15]),(17,15,[15])] fun qE O iC => ?_;have z:=bB O Z;have G:=eZ O R p;refine bU k<|bU l<|bU k<|bU l<|Rp (au ((j:Int)-1)) (fun _=>gF)<|bU k<|bU l<|Rp (au ((j:Int)-1)) (fun _=>gF)<|Rp (pf g (j-1)) (fun _=>cO 1)<|bU k<|bU l<|Rp (pf g j) (fun _=>cO 1)<|Rs (aC ((gA c) (j-1))) (aL z.aH (j-1)) ?_;refine Rs (aC ((gA c) j)) (aL z.aH j) ?_;refine Rp (pf g j) (fun _=>cO 1)<|gW<|qx z j (aC ((gA c) (j-1))) fun w3 Q s3 z1 => ?_;have H:=s3.below G (m_ p G.size) z.blk.1;refine Ln<|Rp (pf g (j-1)) (fun _=>cO 1)<|gW<|qx Q (j-1) (aC ((gA c) j)) fun w4 m6 s4 z2 => ?_;have S:=s4.below H (m_ p H.size) Q.blk.1;have m7:Fx.Own w4 B 23 1 (bL g n cap) n (rv .u64 (gA (Sort.swp c j (j-1)))):=m6.congr (iG y (by omega) (by omega));refine Ln<|Rn<|bP<|sN<|Wl<|aX l<|Lv (au ((j:Int)-1)) gF<|av (au ((j:Int)-1))<|Ln<|iq ⟨j-1,Sort.swp c j (j-1),(by omega),(fu y _ _),((abm (by omega) (h_ r)).trans E),k,(v.trans Fx.ic),(C.trans Fx.ic),(D.trans Fx.ic),Fx.ic,m7,S⟩ ?_;show(intOf (au ((j:Int)-1))).toNat<_;simp only[l,intOf]; omega
   rw[T_]at r;refine qw (fun _ _=>dQ ((gA c) j) ((gA c) (j-1)) _) aF (by rw[r])<|aW aF<|Qn ?_;intro Xt M;have m8:=bB M t;have T:=eZ M A p;refine sN<|aK<|Wx<|bW<|gP<|bX<|bP<|sN<|Wl<|aX D<|Lv (au ((i:Int)+1)) fF<|av (au ((i:Int)+1))<|Ln<|iq ⟨i+1,c,(by omega),y,((Sd (by omega) (E.symm.trans (Kt (.inr (j_ r))))).trans x),k,(v.trans Fx.ic),(C.trans Fx.ic),Fx.ic,m8,T⟩ ?_;show((b:Int)+1-intOf (au ((i:Int)+1))).toNat<_;simp only[s,intOf]; omega
  refine Qv aF (fun q m=>mH J)<|aW aF<|aS<|aS<|aS<|aS<|aS<|aS<|aS<|aS<|aS<|aS<|aW aF<|Qn ?_;intro wb3 N;have m9:=bB N t;have U:=eZ N A p;refine sN<|aK<|Wx<|bW<|gP<|bX<|bP<|sN<|Wl<|aX D<|Lv (au ((i:Int)+1)) fF<|av (au ((i:Int)+1))<|Ln<|iq ⟨i+1,c,(by omega),y,((Sd (by omega) (E.symm.trans (Kt (.inl (by omega))))).trans x),k,(v.trans Fx.ic),(C.trans Fx.ic),Fx.ic,m9,U⟩ ?_;show((b:Int)+1-intOf (au ((i:Int)+1))).toNat<_;simp only[s,intOf]; omega
 refine Lv aF (gK I) (aD (aK (Wx (bW (gP (bX (⟨.tuple #[],iN Tryz.results176,?_⟩)))))));rw[Sg (by omega)]at x; subst x; exact⟨rfl,P,F⟩
end
section
open Rt
theorem abq(q hi a:Nat)(B g n cap:Nat)(d:Array Int)(w:World)(h:Fx.Own w B 23 1 (bL g n cap) n (rv .u64 (gA d)))(l:B<=w.heap.size)(hn:d.size=n)(hs:n<=1000)(hf:a+hi<=n/\q<=1000) :
 Calls Tryz.prog 186 #[bL g n cap,au (q:Int),au (hi:Int),au (a:Int)] w fun e w'=>e = .returned (.tuple #[])/\Fx.Own w' B 23 1 (bL g n cap) n (rv .u64 (gA (Sort.siftDown Sort.ltInt hi a q d)))/\Below B w w':=by
 obtain⟨hf,hlo⟩:=hf;refine Kent Tryz.func186 76 ?_;refine ay<|av (au q)<|av (au q)<|aD<|Wb<|Wo (fun f w_ => ∃ r:Nat,∃ b:Array Int,b.size=n/\Sort.siftDown Sort.ltInt hi a r b=Sort.siftDown Sort.ltInt hi a q d/\r<=hi+q/\f 0=bL g n cap/\f 1=au (q:Int)/\f 2=au (hi:Int)/\f 3=au (a:Int)/\f 8=au (r:Int)/\Fx.Own w_ B 23 1 (bL g n cap) n (rv .u64 (gA b))/\Below B w w_) (fun f _=>((hi:Int)+q-intOf (f 8)).toNat) ⟨q,d,hn,rfl,(by omega),(by rfl),Fx.ic,Fx.ic,Fx.ic,Fx.ic,h,(Below.refl B w)⟩ ?_;rintro f1 w1 ⟨r,b,t,o,hr,j,F,v,k,p,u,x⟩;refine Wb<|ay<|aX p<|Lv (au (2*(r:Int))) (Fx.GH rfl rfl rfl Fx.io)<|Lv (au (2*(r:Int)+1)) fF<|av (au (2*(r:Int)+1))<|aD<|Ws<|ay<|av (au (2*(r:Int)+1))<|aX v ?_;by_cases P:(hi:Int)<=(2*(r:Int)+1)
 ·refine Lv aG (kP P) (aD (aM (Wx (bW (Fx.MH rfl (gP (bX (⟨.tuple #[],iN Tryz.results186,?_⟩))))))));rw[EL (by omega)]at o; subst o; exact⟨rfl,u,x⟩
 refine Lv aF (ko P)<|aD<|aK<|Wk<|sN<|Ws<|Ws ?_;refine lX<|aW (au (2*(r:Int)+1))<|Qv (au (2*(r:Int)+2)) (fun i c=>fF)<|dO v ?_;by_cases Q:(2*(r:Int)+2)<(hi:Int)
 ·refine Qv aG (fun i c=>gJ Q)<|aW aG<|dO j<|dO k<|aW (au (2*(r:Int)+1))<|Qv (au ((a:Int)+2*(r:Int)+1)) (fun i c=>fF)<|Qv (pf g (a+2*r+1)) (fun i c=>cO 1)<|Qv (aC ((gA b) (a+2*r+1))) (fun i c=>aL (u.cb c) (a+2*r+1))<|dO j<|dO k<|aW (au (2*(r:Int)+1))<|Qv (au ((a:Int)+2*(r:Int)+1)) (fun i c=>fF)<|Qv (au ((a:Int)+2*(r:Int)+2)) (fun i c=>fF)<|Qv (pf g (a+2*r+2)) (fun i c=>cO 1)<|Qv (aC ((gA b) (a+2*r+2))) (fun i c=>aL (u.cb c) (a+2*r+2)) ?_;by_cases s:(decide ((gA b) (a+2*r+1)<(gA b) (a+2*r+2)))=true
  ·refine qw (fun _ _=>dQ ((gA b) (a+2*r+1)) ((gA b) (a+2*r+2)) _) aG (by rw[s])<|aW aG<|Qn ?_;intro WT R;have C:=bB R u;have L:=eZ R x l;refine sN<|aM<|Wl<|av (au (2*(r:Int)+1))<|Lv (au (2*(r:Int)+2)) fF<|av (au (2*(r:Int)+2))<|aD<|Ws<|Ws ?_;refine lX<|dO j<|dO k<|dO p<|Qv (au ((a:Int)+(r:Int))) (fun i c=>fF)<|Qv (pf g (a+r)) (fun i c=>cO 1)<|Qv (aC ((gA b) (a+r))) (fun i c=>aL (C.cb c) (a+r))<|dO j<|dO k<|aW (au (2*(r:Int)+2))<|Qv (au ((a:Int)+2*(r:Int)+2)) (fun i c=>fF)<|Qv (pf g (a+2*r+2)) (fun i c=>cO 1)<|Qv (aC ((gA b) (a+2*r+2))) (fun i c=>aL (C.cb c) (a+2*r+2)) ?_;by_cases m:(decide ((gA b) (a+r)<(gA b) (a+2*r+2)))=true
   ·refine qw (fun _ _=>dQ ((gA b) (a+r)) ((gA b) (a+2*r+2)) _) aG (by rw[m])<|aW aF<|Qn ?_;intro Xt S;have m3:=bB S C;have b3:=eZ S L l;refine sN<|aK<|Wk<|sN<|Ws ?_;refine jW [0,1,2,3,4,5,6,7,8,9,10,11,12,14,15,16,17,18,13,19,20,21,22,23] [0,0,0,0,0,0,0,0,0,0,0,0,0,4,0,0,0,0,0,4,0,3,0,3] [(21,13,[13]),(23,13,[13]),(21,19,[19]),(23,19,[19]),(22,21,[21]),(23,21,[21])] fun qE aa iC => ?_;have D:=bB aa m3;have M:=eZ aa b3 l;refine bU j<|bU k<|bU p<|Rp (au ((a:Int)+(r:Int))) (fun _=>fF)<|bU j<|bU k<|aY (au (2*(r:Int)+2))<|Rp (au ((a:Int)+2*(r:Int)+2)) (fun _=>fF)<|bU j<|bU k<|aY (au (2*(r:Int)+2))<|Rp (au ((a:Int)+2*(r:Int)+2)) (fun _=>fF)<|Rp (pf g (a+2*r+2)) (fun _=>cO 1)<|bU j<|bU k<|bU p<|Rp (au ((a:Int)+(r:Int))) (fun _=>fF)<|Rp (pf g (a+r)) (fun _=>cO 1)<|Rs (aC ((gA b) (a+2*r+2))) (aL D.aH (a+2*r+2)) ?_;refine Rs (aC ((gA b) (a+r))) (aL D.aH (a+r)) ?_;refine Rp (pf g (a+r)) (fun _=>cO 1)<|gW<|qx D (a+r) (aC ((gA b) (a+2*r+2))) fun w2 m5 s4 z1 => ?_;have N:=s4.below M (m_ l M.size) D.blk.1;refine Ln<|Rp (pf g (a+2*r+2)) (fun _=>cO 1)<|gW<|qx m5 (a+2*r+2) (aC ((gA b) (a+r))) fun w3 m6 s5 z2 => ?_;have b6:=s5.below N (m_ l N.size) m5.blk.1;have m7:Fx.Own w3 B 23 1 (bL g n cap) n (rv .u64 (gA (Sort.swp b (a+r) (a+2*r+2)))):=m6.congr (iG t (by omega) (by omega));refine Ln<|bQ<|Wl<|av (au (2*(r:Int)+2))<|av (au (2*(r:Int)+2))<|Ln<|bP<|iq ⟨2*r+2,Sort.swp b (a+r) (a+2*r+2),(fu t _ _),(by rw[Si (x0:=a+r) (x1:=a+2*r+1) (x2:=a+2*r+2) (by omega) (by omega) rfl (by omega) (h_ s),d_ (h_ m)]at o; exact o),(by omega),j,(F.trans Fx.ic),(v.trans Fx.ic),(k.trans Fx.ic),Fx.ic,m7,b6⟩ ?_;show((hi:Int)+q-intOf (au (2*(r:Int)+2))).toNat<_;simp only[p,intOf]; omega
   rw[T_]at m;refine qw (fun _ _=>dQ ((gA b) (a+r)) ((gA b) (a+2*r+2)) _) aF (by rw[m])<|aW aG<|Qn ?_;intro wb3 T;have m8:=bB T C;have b7:=eZ T L l;refine sN (aM (Wr (sR (bK (pK (bK (⟨.tuple #[],iN Tryz.results186,?_⟩)))))));rw[Si (x0:=a+r) (x1:=a+2*r+1) (x2:=a+2*r+2) (by omega) (by omega) rfl (by omega) (h_ s),b_ (j_ m)]at o; subst o; exact⟨rfl,m8,b7⟩
  rw[T_]at s;refine qw (fun _ _=>dQ ((gA b) (a+2*r+1)) ((gA b) (a+2*r+2)) _) aF (by rw[s])<|aW aF<|Qn ?_;intro wb4 U;have E:=bB U u;have O:=eZ U x l;refine sN<|aK<|Wk<|sN<|Ws<|Ws ?_;refine lX<|dO j<|dO k<|dO p<|Qv (au ((a:Int)+(r:Int))) (fun i c=>fF)<|Qv (pf g (a+r)) (fun i c=>cO 1)<|Qv (aC ((gA b) (a+r))) (fun i c=>aL (E.cb c) (a+r))<|dO j<|dO k<|aW (au (2*(r:Int)+1))<|Qv (au ((a:Int)+2*(r:Int)+1)) (fun i c=>fF)<|Qv (pf g (a+2*r+1)) (fun i c=>cO 1)<|Qv (aC ((gA b) (a+2*r+1))) (fun i c=>aL (E.cb c) (a+2*r+1)) ?_;by_cases m:(decide ((gA b) (a+r)<(gA b) (a+2*r+1)))=true
  ·refine qw (fun _ _=>dQ ((gA b) (a+r)) ((gA b) (a+2*r+1)) _) aG (by rw[m])<|aW aF<|Qn ?_;intro wb5 V;have m10:=bB V E;have b9:=eZ V O l;refine sN<|aK<|Wk<|sN<|Ws ?_;refine jW [0,1,2,3,4,5,6,7,8,9,10,11,12,14,15,16,17,18,13,19,20,21,22,23] [0,0,0,0,0,0,0,0,0,0,0,0,0,4,0,0,0,0,0,4,0,3,0,3] [(21,13,[13]),(23,13,[13]),(21,19,[19]),(23,19,[19]),(22,21,[21]),(23,21,[21])] fun CZ ab nT => ?_;have y:=bB ab m10;have G:=eZ ab b9 l;refine bU j<|bU k<|bU p<|Rp (au ((a:Int)+(r:Int))) (fun _=>fF)<|bU j<|bU k<|aY (au (2*(r:Int)+1))<|Rp (au ((a:Int)+2*(r:Int)+1)) (fun _=>fF)<|bU j<|bU k<|aY (au (2*(r:Int)+1))<|Rp (au ((a:Int)+2*(r:Int)+1)) (fun _=>fF)<|Rp (pf g (a+2*r+1)) (fun _=>cO 1)<|bU j<|bU k<|bU p<|Rp (au ((a:Int)+(r:Int))) (fun _=>fF)<|Rp (pf g (a+r)) (fun _=>cO 1)<|Rs (aC ((gA b) (a+2*r+1))) (aL y.aH (a+2*r+1)) ?_;refine Rs (aC ((gA b) (a+r))) (aL y.aH (a+r)) ?_;refine Rp (pf g (a+r)) (fun _=>cO 1)<|gW<|qx y (a+r) (aC ((gA b) (a+2*r+1))) fun w4 m12 s10 z3 => ?_;have H:=s10.below G (m_ l G.size) y.blk.1;refine Ln<|Rp (pf g (a+2*r+1)) (fun _=>cO 1)<|gW<|qx m12 (a+2*r+1) (aC ((gA b) (a+r))) fun w5 m13 s11 z4 => ?_;have b12:=s11.below H (m_ l H.size) m12.blk.1;have m14:Fx.Own w5 B 23 1 (bL g n cap) n (rv .u64 (gA (Sort.swp b (a+r) (a+2*r+1)))):=m13.congr (iG t (by omega) (by omega));refine Ln<|bQ<|Wl<|av (au (2*(r:Int)+1))<|av (au (2*(r:Int)+1))<|Ln<|bP<|iq ⟨2*r+1,Sort.swp b (a+r) (a+2*r+1),(fu t _ _),(by rw[Ku (x0:=a+r) (x1:=a+2*r+1) (x2:=a+2*r+2) (by omega) (by omega) rfl (by omega) (.inr (j_ s)),d_ (h_ m)]at o; exact o),(by omega),j,(F.trans Fx.ic),(v.trans Fx.ic),(k.trans Fx.ic),Fx.ic,m14,b12⟩ ?_;show((hi:Int)+q-intOf (au (2*(r:Int)+1))).toNat<_;simp only[p,intOf]; omega
  rw[T_]at m;refine qw (fun _ _=>dQ ((gA b) (a+r)) ((gA b) (a+2*r+1)) _) aF (by rw[m])<|aW aG<|Qn ?_;intro wb6 W;have m15:=bB W E;have b13:=eZ W O l;refine sN (aM (Wr (sR (bK (pK (bK (⟨.tuple #[],iN Tryz.results186,?_⟩)))))));rw[Ku (x0:=a+r) (x1:=a+2*r+1) (x2:=a+2*r+2) (by omega) (by omega) rfl (by omega) (.inr (j_ s)),b_ (j_ m)]at o; subst o; exact⟨rfl,m15,b13⟩
 refine Qv aF (fun i c=>gK Q)<|aW aF<|aS<|aS<|aS<|aS<|aS<|aS<|aS<|aS<|aS<|aS<|aS<|aS<|aS<|aS<|aW aF<|Qn ?_;intro wb7 X;have z:=bB X u;have I:=eZ X x l;refine sN<|aK<|Wk<|sN<|Ws<|Ws ?_;refine lX<|dO j<|dO k<|dO p<|Qv (au ((a:Int)+(r:Int))) (fun i c=>fF)<|Qv (pf g (a+r)) (fun i c=>cO 1)<|Qv (aC ((gA b) (a+r))) (fun i c=>aL (z.cb c) (a+r))<|dO j<|dO k<|aW (au (2*(r:Int)+1))<|Qv (au ((a:Int)+2*(r:Int)+1)) (fun i c=>fF)<|Qv (pf g (a+2*r+1)) (fun i c=>cO 1)<|Qv (aC ((gA b) (a+2*r+1))) (fun i c=>aL (z.cb c) (a+2*r+1)) ?_;by_cases m:(decide ((gA b) (a+r)<(gA b) (a+2*r+1)))=true
 ·refine qw (fun _ _=>dQ ((gA b) (a+r)) ((gA b) (a+2*r+1)) _) aG (by rw[m])<|aW aF<|Qn ?_;intro wb8 Y;have m17:=bB Y z;have b15:=eZ Y I l;refine sN<|aK<|Wk<|sN<|Ws ?_;refine jW [0,1,2,3,4,5,6,7,8,9,10,11,12,14,15,16,17,18,13,19,20,21,22,23] [0,0,0,0,0,0,0,0,0,0,0,0,0,4,0,0,0,0,0,4,0,3,0,3] [(21,13,[13]),(23,13,[13]),(21,19,[19]),(23,19,[19]),(22,21,[21]),(23,21,[21])] fun Rb ac AP => ?_;have A:=bB ac m17;have J:=eZ ac b15 l;refine bU j<|bU k<|bU p<|Rp (au ((a:Int)+(r:Int))) (fun _=>fF)<|bU j<|bU k<|aY (au (2*(r:Int)+1))<|Rp (au ((a:Int)+2*(r:Int)+1)) (fun _=>fF)<|bU j<|bU k<|aY (au (2*(r:Int)+1))<|Rp (au ((a:Int)+2*(r:Int)+1)) (fun _=>fF)<|Rp (pf g (a+2*r+1)) (fun _=>cO 1)<|bU j<|bU k<|bU p<|Rp (au ((a:Int)+(r:Int))) (fun _=>fF)<|Rp (pf g (a+r)) (fun _=>cO 1)<|Rs (aC ((gA b) (a+2*r+1))) (aL A.aH (a+2*r+1)) ?_;refine Rs (aC ((gA b) (a+r))) (aL A.aH (a+r)) ?_;refine Rp (pf g (a+r)) (fun _=>cO 1)<|gW<|qx A (a+r) (aC ((gA b) (a+2*r+1))) fun w6 m19 s16 z5 => ?_;have K:=s16.below J (m_ l J.size) A.blk.1;refine Ln<|Rp (pf g (a+2*r+1)) (fun _=>cO 1)<|gW<|qx m19 (a+2*r+1) (aC ((gA b) (a+r))) fun w7 m20 JV z6 => ?_;have b18:=JV.below K (m_ l K.size) m19.blk.1;have m21:Fx.Own w7 B 23 1 (bL g n cap) n (rv .u64 (gA (Sort.swp b (a+r) (a+2*r+1)))):=m20.congr (iG t (by omega) (by omega));refine Ln<|bQ<|Wl<|av (au (2*(r:Int)+1))<|av (au (2*(r:Int)+1))<|Ln<|bP<|iq ⟨2*r+1,Sort.swp b (a+r) (a+2*r+1),(fu t _ _),(by rw[Ku (x0:=a+r) (x1:=a+2*r+1) (x2:=a+2*r+2) (by omega) (by omega) rfl (by omega) (.inl (by omega)),d_ (h_ m)]at o; exact o),(by omega),j,(F.trans Fx.ic),(v.trans Fx.ic),(k.trans Fx.ic),Fx.ic,m21,b18⟩ ?_;show((hi:Int)+q-intOf (au (2*(r:Int)+1))).toNat<_;simp only[p,intOf]; omega
 rw[T_]at m;refine qw (fun _ _=>dQ ((gA b) (a+r)) ((gA b) (a+2*r+1)) _) aF (by rw[m])<|aW aG<|Qn ?_;intro wb9 Z;have m22:=bB Z z;have b19:=eZ Z I l;refine sN (aM (Wr (sR (bK (pK (bK (⟨.tuple #[],iN Tryz.results186,?_⟩)))))));rw[Ku (x0:=a+r) (x1:=a+2*r+1) (x2:=a+2*r+2) (by omega) (by omega) rfl (by omega) (.inl (by omega)),b_ (j_ m)]at o; subst o; exact⟨rfl,m22,b19⟩
theorem Oi{i f c:Int}(b hi a:Nat)(l:i=(b:Int))(k:f=(hi:Int))(j:c=(a:Int))(B g n cap:Nat)(d:Array Int)(w:World)(h:Fx.Own w B 23 1 (bL g n cap) n (rv .u64 (gA d)))(m:B<=w.heap.size)(p:d.size=n)(q:n<=1000)(o:a+hi<=n/\b<=1000) :
 Calls Tryz.prog 186 #[bL g n cap,au i,au f,au c] w fun e w'=>e = .returned (.tuple #[])/\Fx.Own w' B 23 1 (bL g n cap) n (rv .u64 (gA (Sort.siftDown Sort.ltInt hi a b d)))/\Below B w w':=by
 subst l k j; exact abq b hi a B g n cap d w h m p q o
theorem abr(a b:Nat)(B g n cap:Nat)(d:Array Int)(w:World)(h:Fx.Own w B 23 1 (bL g n cap) n (rv .u64 (gA d)))(p:B<=w.heap.size)(hn:d.size=n)(Q:n<=1000)(ha:a<b)(hb:b<=n) :
 Calls Tryz.prog 177 #[bL g n cap,au (a:Int),au (b:Int)] w fun e w'=>e = .returned (.tuple #[])/\Fx.Own w' B 23 1 (bL g n cap) n (rv .u64 (gA (Sort.heapSort Sort.ltInt d a b)))/\Below B w w':=by
 obtain⟨j,aa⟩ : ∃ j,j=(b-a-1) / 2:=⟨_,rfl⟩;refine Kent Tryz.func177 56 ?_;refine ay<|av (au a)<|av (au a)<|aD<|ay<|av (au 0)<|aD<|ay<|av (au b)<|av (au a)<|Lv (au ((b:Int)-(a:Int))) gF<|av (au ((b:Int)-(a:Int)))<|aD<|Ws<|ay<|av (au ((b:Int)-(a:Int)))<|Lv (au ((b:Int)-(a:Int)-1)) gF<|Lv (au j) (Fx.CV rfl rfl rfl (by omega) (iO (by omega) (by rw[Int.tdiv_eq_ediv_of_nonneg (by omega)]; omega)))<|av (au j)<|aD<|Wb<|Wo (fun f q => ∃ k:Nat,∃ c:Array Int,c.size=n/\Sort.heapBuild Sort.ltInt (b-a) a k c=Sort.heapBuild Sort.ltInt (b-a) a (j+1) d/\k<=j+1/\f 0=bL g n cap/\f 1=au (a:Int)/\f 2=au (b:Int)/\f 6=au (a:Int)/\f 7=au 0/\f 8=au ((b:Int)-(a:Int))/\f 9=au ((k:Int)-1)/\Fx.Own q B 23 1 (bL g n cap) n (rv .u64 (gA c))/\Below B w q) (fun f _=>(intOf (f 9)+1).toNat) ⟨j+1,d,hn,rfl,(by omega),(by rfl),Fx.ic,Fx.ic,Fx.ic,Fx.ic,Fx.ic,Fx.ic,h,(Below.refl B w)⟩ ?_;rintro f1 w1 ⟨k,c,z,N,hkm,u,K,L,v,M,y,r,R,t⟩;refine Ws<|ay<|aX r ?_;by_cases G:0<=((k:Int)-1)
 ·refine Lv aG (kP G)<|aD<|aM<|Wk<|sN<|Ws<|Wb<|Wl<|aX u<|aX r<|aX y<|aX v<|dK (Oi (k-1) (b-a) a (by omega) (by omega) (by omega) B g n cap c _ R (m_ p t.size) z Q ⟨by omega,by omega⟩) (ax := #[bL g n cap,au ((k:Int)-1),au ((b:Int)-(a:Int)),au (a:Int)]) _ rfl ?_;rintro w2 ⟨m2,Y⟩;have U:=t.trans Y;refine Ln<|bP<|sN<|Wl<|aX r<|Lv (au ((k:Int)-2)) gF<|av (au ((k:Int)-2))<|Ln<|iq ⟨k-1,Sort.siftDown Sort.ltInt (b-a) a (k-1) c,(DZ (by omega) _ _ _ (A_ _) z),((Sj (by omega)).trans N),(by omega),u,(K.trans Fx.ic),(L.trans Fx.ic),(v.trans Fx.ic),(M.trans Fx.ic),(y.trans Fx.ic),Fx.ic,m2,U⟩ ?_;show(intOf (au ((k:Int)-2))+1).toNat<_;simp only[r,intOf]; omega
 refine Lv aF (ko G)<|aD<|aK<|Wx<|bW<|gP<|bX<|sN<|ay<|aX y<|Lv (au ((b:Int)-(a:Int)-1)) gF<|av (au ((b:Int)-(a:Int)-1))<|aD<|Wb ?_;obtain rfl:k=0:=by omega
 obtain⟨I,hd1⟩ : ∃ I,I=c:=⟨_,rfl⟩;refine Wo (fun f q => ∃ k2:Nat,∃ i:Array Int,i.size=n/\Sort.heapPop Sort.ltInt a k2 i=Sort.heapPop Sort.ltInt a (b-a) c/\k2<=b-a/\f 0=bL g n cap/\f 1=au (a:Int)/\f 2=au (b:Int)/\f 6=au (a:Int)/\f 7=au 0/\f 10=au ((k2:Int)-1)/\Fx.Own q B 23 1 (bL g n cap) n (rv .u64 (gA i))/\Below B w q) (fun f _=>(intOf (f 10)+1).toNat) ⟨b-a,c,z,rfl,(by omega),u,(K.trans Fx.ic),(L.trans Fx.ic),(v.trans Fx.ic),(M.trans Fx.ic),Fx.ic,R,t⟩ ?_;rintro f2 w3 ⟨k2,i,A,O,hkp,o,X,W,l,J,m,S,C⟩;refine Ws<|ay<|aX m ?_;by_cases H:0<=((k2:Int)-1)
 ·refine Lv aG (kP H)<|aD<|aM<|Wk<|sN<|Ws<|Wb<|Ws ?_;refine jW [0,1,2,3,4,5,6,7,8,9,10,12,13,14,11,15,16,17,18,19] [0,0,0,0,0,0,0,0,0,0,0,4,0,0,0,4,0,3,0,3] [(17,11,[11]),(19,11,[11]),(17,15,[15]),(19,15,[15]),(18,17,[17]),(19,17,[17])] fun qE P iC => ?_;have s:=bB P S;have D:=eZ P C p;refine bU o<|bU l<|bU o<|bU l<|bU m<|Rp (au ((a:Int)+(k2:Int)-1)) (fun _=>fF)<|bU o<|bU l<|bU m<|Rp (au ((a:Int)+(k2:Int)-1)) (fun _=>fF)<|Rp (pf g (a+k2-1)) (fun _=>cO 1)<|bU o<|bU l<|Rp (pf g a) (fun _=>cO 1)<|Rs (aC ((gA i) (a+k2-1))) (aL s.aH (a+k2-1)) ?_;refine Rs (aC ((gA i) a)) (aL s.aH a) ?_;refine Rp (pf g a) (fun _=>cO 1)<|gW<|qx s a (aC ((gA i) (a+k2-1))) fun w4 T s2 z1 => ?_;have E:=s2.below D (m_ p D.size) s.blk.1;refine Ln<|Rp (pf g (a+k2-1)) (fun _=>cO 1)<|gW<|qx T (a+k2-1) (aC ((gA i) a)) fun w5 m6 s3 z2 => ?_;have F:=s3.below E (m_ p E.size) T.blk.1;have m7:Fx.Own w5 B 23 1 (bL g n cap) n (rv .u64 (gA (Sort.swp i a (a+k2-1)))):=m6.congr (iG A (by omega) (by omega));refine Ln<|bQ<|Wl<|aX o<|aX J<|aX m<|aX l<|dK (Oi 0 (k2-1) a (by omega) (by omega) (by omega) B g n cap (Sort.swp i a (a+k2-1)) _ m7 (m_ p F.size) (fu A _ _) Q ⟨by omega,by omega⟩) (ax := #[bL g n cap,au 0,au ((k2:Int)-1),au (a:Int)]) _ rfl ?_;rintro w6 ⟨m8,Z⟩;have V:=F.trans Z;refine Ln<|bP<|sN<|Wl<|aX m<|Lv (au ((k2:Int)-2)) gF<|av (au ((k2:Int)-2))<|Ln<|iq ⟨k2-1,Sort.siftDown Sort.ltInt (k2-1) a 0 (Sort.swp i a (a+k2-1)),(DZ (by omega) _ _ _ (A_ _) (fu A _ _)),((abn (x:=a+k2-1) (by omega) (by omega)).trans O),(by omega),o,(X.trans Fx.ic),(W.trans Fx.ic),(l.trans Fx.ic),(J.trans Fx.ic),Fx.ic,m8,V⟩ ?_;show(intOf (au ((k2:Int)-2))+1).toNat<_;simp only[m,intOf]; omega
 refine Lv aF (ko H) (aD (aK (Wx (bW (gP (bX (⟨.tuple #[],iN Tryz.results177,?_⟩)))))));obtain rfl:k2=0:=by omega
 unfold Sort.heapSort; rw[<- aa,<- N,show Sort.heapBuild Sort.ltInt (b-a) a 0 c=c from rfl,<- O]; exact⟨rfl,S,C⟩
theorem afP(a b:Nat)(B g n cap:Nat)(d:Array Int)(w:World)(h:Fx.Own w B 23 1 (bL g n cap) n (rv .u64 (gA d)))(p:B<=w.heap.size)(F:d.size=n)(O:n<=1000)(ha:a<b)(M:b<=n) :
 Calls Tryz.prog 180 #[bL g n cap,au (a:Int),au (b:Int)] w fun e w'=>e = .returned (.tuple #[])/\Fx.Own w' B 23 1 (bL g n cap) n (rv .u64 (gA (Sort.reverseRange d a b)))/\Below B w w':=by
 refine Kent Tryz.func180 32 ?_;refine ay<|av (au a)<|av (au a)<|aD<|ay<|av (au b)<|Lv (au ((b:Int)-1)) gF<|av (au ((b:Int)-1))<|aD<|Wb<|Wo (fun f A => ∃ i:Nat,∃ j:Nat,∃ c:Array Int,c.size=n/\(a<=i/\j<b/\i<=b)/\Sort.reverseLoop i j c=Sort.reverseLoop a (b-1) d/\f 0=bL g n cap/\f 1=au (a:Int)/\f 2=au (b:Int)/\f 6=au (i:Int)/\f 7=au (j:Int)/\Fx.Own A B 23 1 (bL g n cap) n (rv .u64 (gA c))/\Below B w A) (fun f _=>((b:Int)-intOf (f 6)).toNat) ⟨a,b-1,d,F,(by omega),rfl,(by rfl),Fx.ic,Fx.ic,Fx.ic,Fx.ic,h,(Below.refl B w)⟩ ?_;rintro L Q ⟨i,j,c,x,N,q,k,D,E,l,m,y,r⟩;refine Ws<|ay<|aX l<|aX m ?_;by_cases u:(i:Int)<(j:Int)
 ·refine Lv aG (gJ u)<|aD<|aM<|Wk<|sN<|Wb<|Ws ?_;refine jW [0,1,2,3,4,5,6,8,9,10,7,11,12,13,14,15] [0,0,0,0,0,0,0,4,0,0,0,4,0,3,0,3] [(13,7,[7]),(15,7,[7]),(13,11,[11]),(15,11,[11]),(14,13,[13]),(15,13,[13])] fun R v P => ?_;have o:=bB v y;have s:=eZ v r p;refine bU k<|bU l<|bU k<|bU m<|bU k<|bU m<|Rp (pf g j) (fun _=>cO 1)<|bU k<|bU l<|Rp (pf g i) (fun _=>cO 1)<|Rs (aC ((gA c) j)) (aL o.aH j) ?_;refine Rs (aC ((gA c) i)) (aL o.aH i) ?_;refine Rp (pf g i) (fun _=>cO 1)<|gW<|qx o i (aC ((gA c) j)) fun w2 z I S => ?_;have t:=I.below s (m_ p s.size) o.blk.1;refine Ln<|Rp (pf g j) (fun _=>cO 1)<|gW<|qx z j (aC ((gA c) i)) fun K G J T => ?_;have C:=J.below t (m_ p t.size) z.blk.1;have H:Fx.Own K B 23 1 (bL g n cap) n (rv .u64 (gA (Sort.swp c i j))):=G.congr (iG x (by omega) (by omega));refine Ln<|bQ<|ay<|aX l<|Lv (au ((i:Int)+1)) fF<|av (au ((i:Int)+1))<|aD<|Wl<|aX m<|Lv (au ((j:Int)-1)) gF<|av (au ((j:Int)-1))<|Ln<|bP<|iq ⟨i+1,j-1,Sort.swp c i j,(fu x _ _),(by omega),((abo (by omega)).trans q),k,(D.trans Fx.ic),(E.trans Fx.ic),Fx.ic,Fx.ic,H,C⟩ ?_;show((b:Int)-intOf (au ((i:Int)+1))).toNat<_;simp only[l,intOf]; omega
 refine Lv aF (gK u) (aD (aK (Wx (bW (gP (bX (⟨.tuple #[],iN Tryz.results180,?_⟩)))))));rw[Sk (by omega)]at q; unfold Sort.reverseRange; rw[<- q]; exact⟨rfl,y,r⟩
end
end Go.Proofs.YtcbedgfikejkoaaGreatDoor
namespace Go.Proofs.YtcbedgfikejkoaaGreatDoor
open Go.RowKit Rt
namespace Fx
def dI(a b:Int):Int:=((BitVec.ofInt 64 a ^^^ BitVec.ofInt 64 b).toNat:Int)
def Kv(a b:Int):Int:=((BitVec.ofInt 64 a &&& BitVec.ofInt 64 b).toNat:Int)
def fE(a:Int)(b:Nat):Int:=IntKind.u64.wrap (a*2^b)
theorem Oj(a b:Int):0<=dI a b/\dI a b<=18446744073709551615:=by
 unfold dI; have:=(BitVec.ofInt 64 a ^^^ BitVec.ofInt 64 b).isLt; omega
theorem Jb(a:Int){b:Int}(h:0<=b)(c:b<=18446744073709551615):0<=Kv a b/\Kv a b<=b:=by
 unfold Kv;rw[BitVec.toNat_and];have d:(BitVec.ofInt 64 b).toNat=b.toNat:=by rw[BitVec.toNat_ofInt]; omega
 have:=Nat.and_le_right (n:=(BitVec.ofInt 64 a).toNat) (m:=(BitVec.ofInt 64 b).toNat);omega
section
variable {P:Program} {f:Nat->Value} {w:World} {o:Oper}
theorem Sq{T T':TypeId}{x y:Operand}{a b:Int}(c:o.op = .binOp .xor T x y T')(hx:ev f x = .int .u64 a)(hy:ev f y = .int .u64 b):Runs P f o w (.int .u64 (dI a b)) :=
 tT c hx hy (by
  have h:=jH (Oj a b) rfl;simp only[binOp,Op.intBits];show(pure (Value.int .u64 (IntKind.u64.wrap (dI a b))):Sem Value).run P w=_;rw[h]; rfl)
theorem afQ{T T':TypeId}{x y:Operand}{a b:Int}(g:o.op = .binOp .and T x y T')(hx:ev f x = .int .u64 a)(hy:ev f y = .int .u64 b)(d:0<=b)(h1:b<=18446744073709551615):Runs P f o w (.int .u64 (Kv a b)) :=
 tT g hx hy (by
  have e:=Jb a d h1;have h:=jH (c:=Kv a b) ⟨e.1,by omega⟩ rfl;simp only[binOp,Op.intBits];show(pure (Value.int .u64 (IntKind.u64.wrap (Kv a b))):Sem Value).run P w=_;rw[h]; rfl)
theorem abt{T:TypeId}{x i:Operand}{s:ByteArray}{j:Nat}(e:o.op = .index T x i)(hx:ev f x = .string s)(hi:ev f i = .int .u8 (j:Int))(h:P.underlying T=some .string)(d:j<64)
 (g : ∀ q,q<64->(s[q]?).map (·.toNat)=some (Sort.bitsLen q)):Runs P f o w (.int .u8 (Sort.bitsLen j:Int)):=by
 obtain⟨b,a,c⟩:=Option.map_eq_some_iff.1 (g j d);unfold Runs execOp;simp only[e,hx,hi];simp[Instr.index,asIntOf,underlying,h,a,c]
end
end Fx
theorem Rt.Ol{n:Nat}(h:n<64):Sort.bitsLen n<=6:=(Sort.bitsLen_le_iff _ _).2 (by omega)
end Go.Proofs.YtcbedgfikejkoaaGreatDoor
namespace Go.Proofs.YtcbedgfikejkoaaGreatDoor
open Go.RowKit Rt
open Fx (dz Lv sN Ln Ws Qv Wl Rp Wr Sb Wk rC sR Rs Rn Wb Wx Wo Qn BH gQ nk rv aR Stp dI fE iN iO jH dD bK bP bW bX gP iq pK)
section
open Rt
theorem Xu(n:Nat)(w:World)(a:n<64) :
 Calls Tryz.prog 138 #[aC (n:Int)] w fun e w'=>e = .returned (au (Sort.bitsLen n:Int))/\w'=w:=by
 have b:=Ol a;refine Kent Tryz.func138 25 ?_;refine ay<|av (au 0)<|aD<|Ws<|ay<|av (aC n)<|Lv aF GR<|aD<|aK<|Wk<|sN<|Ws<|ay<|av (aC n)<|Lv aF GR<|aD<|aK<|Wk<|sN<|Ws<|ay<|av (aC n)<|Lv aF GR<|aD<|aK<|Wk<|sN<|ay<|av (au 0)<|av (aC n)<|Lv (.int .u8 (n:Int)) (dz rfl rfl (by kernel_rfl) Tryz.underlying5 (Fx.u8e (by omega) rfl))<|Lv (.int .u8 (Sort.bitsLen n:Int)) (Fx.abt rfl rfl rfl Tryz.underlying9 a (by decide +kernel))<|Lv (au (Sort.bitsLen n:Int)) (dz rfl rfl (by kernel_rfl) Tryz.underlying3 (iO (by omega) rfl))<|Lv (au (0+(Sort.bitsLen n:Int))) fF<|av (au (0+(Sort.bitsLen n:Int)))<|aD<|Wr<|aJ (au (0+(Sort.bitsLen n:Int))) ?_;exact⟨by rw[Int.zero_add],rfl⟩
theorem Sr(n:Nat)(w:World)(a:n<64) :
 Calls Tryz.prog 87 #[aC (n:Int)] w fun e w'=>e = .returned (au (Sort.bitsLen n:Int))/\w'=w:=by
 have b:=Ol a;refine Kent Tryz.func87 8 ?_;refine ay<|av (au 0)<|aD<|Ws<|aK<|Wk<|sN<|ay<|av (aC n)<|kQ (Xu n _ a) _ rfl<|av (au (Sort.bitsLen n:Int))<|aD<|Wr<|aJ (au (Sort.bitsLen n:Int)) ?_;exact⟨rfl,rfl⟩
theorem afR(n m:Nat)(w:World)(f:n<64)(c:0<n)(a:m=2^Sort.bitsLen n) :
 Calls Tryz.prog 165 #[au (n:Int)] w fun e w'=>e = .returned (aC (m:Int))/\w'=w:=by
 have g:=Ol f;have d:=Sort.two_pow_bitsLen_le c;rw[<- a]at d;refine Kent Tryz.func165 7 ?_;refine ay<|av (aC 0)<|aD<|ay<|av (au n)<|Lv (aC n) (dz rfl rfl (by kernel_rfl) Tryz.underlying161 (jH (by omega) rfl))<|kQ (Sr n _ (by omega)) _ rfl<|Lv (aC m) (Fx.Kc (b:=Sort.bitsLen n) rfl rfl rfl (show _<=64 by omega) (jH (by omega) (by rw[a]; simp)))<|av (aC m)<|aD<|Wr<|aJ (aC m) ?_;exact⟨rfl,rfl⟩
theorem abu(a:Nat)(r:Int)(w:World)(h:aR w a 1 (fun _=>aC r) 237) :
 Calls Tryz.prog 166 #[(pt a)] w fun e w' => ∃ d,e = .returned (aC d)/\(0<=d/\d<=18446744073709551615)/\Stp a w w'/\aR w' a 1 (fun _=>aC d) 237:=by
 refine Kent Tryz.func166 33 ?_;refine ay<|av (aC 0)<|aD<|Ws ?_;refine jW [0,1,3,4,2,5,6,7,8,9] [0,0,4,0,0,4,0,0,0,3] [(9,2,[2]),(9,5,[5])] fun J m M => ?_;have C:Stp w.heap.size w J:=Sb m;have f:=bB m h;have s:=(nk a w).then C (.inr (nk a w).size);refine aY (pt a)<|aY (pt a)<|aY (pt a)<|aY (pt a)<|Rs (aC r) (aL f.aH 0) ?_;refine Rs (aC r) (aL f.aH 0) ?_;refine Rp (aC (fE r 13)) (fun c=>Fx.Kc (b:=13) rfl rfl rfl (by decide) rfl)<|Rp (aC (dI r (fE r 13))) (fun c=>Fx.Sq rfl rfl rfl)<|aY (pt a)<|gW<|jd f 0 (aC (dI r (fE r 13))) fun j x D P => ?_;have y:aR j a 1 (fun _=>aC (dI r (fE r 13))) 237:=dD x;have k:=s.then D (by omega);refine Ln<|bQ<|Ws ?_;refine jW [0,1,3,4,2,5,6,7,8,9] [0,0,4,0,0,4,0,0,0,3] [(9,2,[2]),(9,5,[5])] fun K n N => ?_;have E:Stp j.heap.size j K:=Sb n;have g:=bB n y;have t:=k.then E (.inr k.size);refine aY (pt a)<|aY (pt a)<|aY (pt a)<|aY (pt a)<|Rs (aC (dI r (fE r 13))) (aL g.aH 0) ?_;refine Rs (aC (dI r (fE r 13))) (aL g.aH 0) ?_;refine Rp (aC ((dI r (fE r 13)) / 128)) (fun c=>Fx.ZJ (b:=7) (q:=128) rfl rfl rfl (by decide) (by decide))<|Rp (aC (dI (dI r (fE r 13)) ((dI r (fE r 13)) / 128))) (fun c=>Fx.Sq rfl rfl rfl)<|aY (pt a)<|gW<|jd g 0 (aC (dI (dI r (fE r 13)) ((dI r (fE r 13)) / 128))) fun w2 z F Q => ?_;have A:aR w2 a 1 (fun _=>aC (dI (dI r (fE r 13)) ((dI r (fE r 13)) / 128))) 237:=dD z;have l:=t.then F (by omega);refine Ln<|bQ<|Ws ?_;refine jW [0,1,3,4,2,5,6,7,8,9] [0,0,4,0,0,4,0,0,0,3] [(9,2,[2]),(9,5,[5])] fun L o O => ?_;have G:Stp w2.heap.size w2 L:=Sb o;have i:=bB o A;have u:=l.then G (.inr l.size);refine aY (pt a)<|aY (pt a)<|aY (pt a)<|aY (pt a)<|Rs (aC (dI (dI r (fE r 13)) ((dI r (fE r 13)) / 128))) (aL i.aH 0) ?_;refine Rs (aC (dI (dI r (fE r 13)) ((dI r (fE r 13)) / 128))) (aL i.aH 0) ?_;refine Rp (aC (fE (dI (dI r (fE r 13)) ((dI r (fE r 13)) / 128)) 17)) (fun c=>Fx.Kc (b:=17) rfl rfl rfl (by decide) rfl)<|Rp (aC (dI (dI (dI r (fE r 13)) ((dI r (fE r 13)) / 128)) (fE (dI (dI r (fE r 13)) ((dI r (fE r 13)) / 128)) 17))) (fun c=>Fx.Sq rfl rfl rfl)<|aY (pt a)<|gW<|jd i 0 (aC (dI (dI (dI r (fE r 13)) ((dI r (fE r 13)) / 128)) (fE (dI (dI r (fE r 13)) ((dI r (fE r 13)) / 128)) 17))) fun I B H R => ?_;have p:aR I a 1 (fun _=>aC (dI (dI (dI r (fE r 13)) ((dI r (fE r 13)) / 128)) (fE (dI (dI r (fE r 13)) ((dI r (fE r 13)) / 128)) 17))) 237:=dD B;have v:=u.then H (by omega);refine Ln<|bQ<|ay<|av (pt a)<|av (pt a)<|Lv (aC (dI (dI (dI r (fE r 13)) ((dI r (fE r 13)) / 128)) (fE (dI (dI r (fE r 13)) ((dI r (fE r 13)) / 128)) 17))) (aL p.aH 0)<|av (aC (dI (dI (dI r (fE r 13)) ((dI r (fE r 13)) / 128)) (fE (dI (dI r (fE r 13)) ((dI r (fE r 13)) / 128)) 17)))<|aD<|Wr<|aJ (aC (dI (dI (dI r (fE r 13)) ((dI r (fE r 13)) / 128)) (fE (dI (dI r (fE r 13)) ((dI r (fE r 13)) / 128)) 17))) ?_;exact⟨_,rfl,Fx.Oj _ _,v,p⟩
end
section
open Rt
theorem abv{a:Int}(n m:Nat)(w:World)(e:a=(n:Int))(d:n<64)(b:0<n)(c:m=2^Sort.bitsLen n):Calls Tryz.prog 165 #[au a] w fun e w'=>e = .returned (aC (m:Int))/\w'=w:=by
 subst e; exact afR n m w d b c
theorem afS(a b:Nat)(B g n cap:Nat)(d:Array Int)(w:World)(h:Fx.Own w B 23 1 (bL g n cap) n (rv .u64 (gA d)))(o:B<=w.heap.size)(X:d.size=n)(hs:n<=1000)(ha:a<b)(hb:b<=n)(h50:n<50) :
 Calls Tryz.prog 178 #[bL g n cap,au (a:Int),au (b:Int)] w fun e w' => ∃ y:Array Int,e = .returned (.tuple #[])/\y.size=n/\Sort.PermIn a b d y/\Fx.Own w' B 23 1 (bL g n cap) n (rv .u64 (gA y))/\Below B w w':=by
 obtain⟨i,hq0⟩ : ∃ i,i=(b-a) / 4:=⟨_,rfl⟩;refine Kent Tryz.func178 65 ?_;refine ay<|av (au b)<|av (au a)<|Lv (au ((b:Int)-(a:Int))) gF<|av (au ((b:Int)-(a:Int)))<|aD<|ay<|av (au ((b:Int)-(a:Int))) ?_;by_cases O:8<=((b:Int)-(a:Int))
 ·refine Lv aG (kP O)<|aD<|aM<|ay<|av (au ((b:Int)-(a:Int)))<|Lv (aC ((b:Int)-(a:Int))) (dz rfl rfl (by kernel_rfl) Tryz.underlying237 (jH (by omega) rfl))<|rD 1 (rv .u64 (fun _=>0)) fun v w1 R D s1 z1 => ?_;have m2:=bB s1.old h;have I:=eZ s1.old (Below.refl B w) o;have su:=iI R (Below.refl B w).size;have mJ:=bY R h.lt;have ug:=D.lt;refine jd D 0 (aC ((b:Int)-(a:Int))) fun w2 m3 s2 z2 => ?_;have m4:aR w2 v 1 (fun _=>aC ((b:Int)-(a:Int))) 237:=dD m3;have gY:=gQ s2 D.ty;have m5:=kR gY m2;have b2:=s2.below I (m_ o I.size) (by omega);refine aD<|ay<|av (au ((b:Int)-(a:Int))) ?_;obtain⟨m,W⟩ : ∃ m,m=2^Sort.bitsLen (b-a):=⟨_,rfl⟩;have hm2:=Sort.two_pow_bitsLen_le (show 0<b-a by omega);have hm3:=Sort.lt_two_pow_bitsLen (b-a);rw[<- W]at hm2 hm3;refine kQ (abv (b-a) m _ (by omega) (by omega) (by omega) W) (ax := #[au ((b:Int)-(a:Int))]) _ rfl<|av (aC m)<|aD<|ay<|av (au a)<|av (au ((b:Int)-(a:Int)))<|Lv (au i) (Fx.CV rfl rfl rfl (by omega) (iO (by omega) (by rw[Int.tdiv_eq_ediv_of_nonneg (by omega)]; omega)))<|Lv (au ((i:Int)*2)) (Fx.GH rfl rfl rfl Fx.io)<|Lv (au ((a:Int)+2*(i:Int))) fF<|Lv (au ((a:Int)+2*(i:Int)-1)) gF<|av (au ((a:Int)+2*(i:Int)-1))<|aD<|Wb<|Wo (fun f H => ∃ ix:Nat,∃ G:Int,∃ j:Array Int,j.size=n/\Sort.PermIn a b d j/\(a+2*i<=ix+1/\ix<=a+2*i+2)/\f 0=bL g n cap/\f 1=au (a:Int)/\f 2=au (b:Int)/\f 6=au ((b:Int)-(a:Int))/\f 7=(pt v)/\f 8=aC (m:Int)/\f 9=au (ix:Int)/\Fx.Own H B 23 1 (bL g n cap) n (rv .u64 (gA j))/\aR H v 1 (fun _=>aC G) 237/\Below B w H) (fun f _=>((a:Int)+2*i+2-intOf (f 9)).toNat) ⟨a+2*i-1,((b:Int)-(a:Int)),d,X,(Sort.permIn_refl _ _ _),(by omega),(by rfl),Fx.ic,Fx.ic,Fx.ic,(by rfl),Fx.ic,Fx.ic,m5,m4,b2⟩ ?_;rintro f1 w3 ⟨ix,G,j,s,C,hix,k,p,S,r,z,A,l,Y,Z,x⟩;refine Ws<|ay<|aX l<|aX p<|aX r<|Lv (au i) (Fx.CV rfl rfl rfl (by omega) (iO (by omega) (by rw[Int.tdiv_eq_ediv_of_nonneg (by omega)]; omega)))<|Lv (au ((i:Int)*2)) (Fx.GH rfl rfl rfl Fx.io)<|Lv (au ((a:Int)+2*(i:Int))) fF<|Lv (au ((a:Int)+2*(i:Int)+1)) fF ?_;by_cases P:(ix:Int)<=((a:Int)+2*(i:Int)+1)
  ·refine Lv aG (nA P) (aD (aM (Wk (sN (Ws (Wb (ay (kV (abu v G _ Z) ?_ (hr:=rC rfl (Fx.args1 z) Tryz.func166 rfl rfl)))))))));rintro e9 w4 ⟨q,V,hr1,s3,m8⟩;refine⟨_,V,?_⟩;clear V;have jQ:=gQ s3 Z.ty;have m9:=kR jQ Y;have J:=s3.below x (m_ o x.size) (by omega);refine aX A<|Lv (aC ((m:Int)-1)) gF ?_;obtain⟨c,ho1,ko1⟩ : ∃ c:Nat,(c:Int)=Fx.Kv q ((m:Int)-1)/\(c:Int)<=(m:Int)-1:=⟨(Fx.Kv q ((m:Int)-1)).toNat,by have:=Fx.Jb q (show 0<=(m:Int)-1 by omega) (by omega); omega,by have:=Fx.Jb q (show 0<=(m:Int)-1 by omega) (by omega); omega⟩;refine Lv (aC c) (by rw[ho1]; exact Fx.afQ rfl rfl rfl (by omega) (by omega))<|Lv (au c) (dz rfl rfl (by kernel_rfl) Tryz.underlying3 (iO (by omega) rfl))<|av (au c)<|aD<|Ws<|ay<|av (au c)<|aX r ?_;by_cases Q:((b:Int)-(a:Int))<=(c:Int)
   ·refine Lv aG (kP Q)<|aD<|aM<|Wl<|av (au c)<|aX r<|Lv (au ((a:Int)+(c:Int)-(b:Int))) gF<|av (au ((a:Int)+(c:Int)-(b:Int)))<|aD ?_;refine jW [0,1,2,3,4,5,6,7,8,9,10,12,13,14,11,15,16,17,18,19] [0,0,0,0,0,0,0,0,0,0,0,4,0,0,0,4,0,3,0,3] [(17,11,[11]),(19,11,[11]),(17,15,[15]),(19,15,[15]),(18,17,[17]),(19,17,[17])] fun qE T iC => ?_;have⟨t,m11⟩:=eO T m9 m8;have K:=eZ T J o;refine bU k<|bU l<|bU k<|bU p<|aY (au ((a:Int)+(c:Int)-(b:Int)))<|Rp (au (2*(a:Int)+(c:Int)-(b:Int))) (fun _=>fF)<|bU k<|bU p<|aY (au ((a:Int)+(c:Int)-(b:Int)))<|Rp (au (2*(a:Int)+(c:Int)-(b:Int))) (fun _=>fF)<|Rp (pf g (2*a+c-b)) (fun _=>cO 1)<|bU k<|bU l<|Rp (pf g ix) (fun _=>cO 1)<|Rs (aC ((gA j) (2*a+c-b))) (aL t.aH (2*a+c-b)) ?_;refine Rs (aC ((gA j) ix)) (aL t.aH ix) ?_;refine Rp (pf g ix) (fun _=>cO 1)<|gW<|qx t ix (aC ((gA j) (2*a+c-b))) fun w5 E s5 z3 => ?_;have qF:=gQ s5 t.Ke;have m13:=kR qF m11;have L:=s5.below K (m_ o K.size) t.blk.1;refine Ln<|Rp (pf g (2*a+c-b)) (fun _=>cO 1)<|gW<|qx E (2*a+c-b) (aC ((gA j) ix)) fun w6 m14 s6 z4 => ?_;have zS:=gQ s6 E.Ke;have m15:=kR zS m13;have b7:=s6.below L (m_ o L.size) E.blk.1;have m16:Fx.Own w6 B 23 1 (bL g n cap) n (rv .u64 (gA (Sort.swp j ix (2*a+c-b)))):=m14.congr (iG s (by omega) (by omega));refine Ln<|Rn<|bP<|sN<|Wl<|aX l<|Lv (au ((ix:Int)+1)) fF<|av (au ((ix:Int)+1))<|Ln<|iq ⟨ix+1,q,Sort.swp j ix (2*a+c-b),(fu s _ _),(Sort.permIn_trans _ _ _ _ _ C (Sort.swp_permIn _ _ _ _ _ (by omega) (by omega) (by omega) (by omega) (by omega))),(by omega),k,(p.trans Fx.ic),(S.trans Fx.ic),(r.trans Fx.ic),z,(A.trans Fx.ic),Fx.ic,m16,m15,b7⟩ ?_;show((a:Int)+2*i+2-intOf (au ((ix:Int)+1))).toNat<_;simp only[l,intOf]; omega
   refine Lv aF (ko Q)<|aD<|aK<|Wk<|sN ?_;refine jW [0,1,2,3,4,5,6,7,8,9,10,12,13,14,11,15,16,17,18,19] [0,0,0,0,0,0,0,0,0,0,0,4,0,0,0,4,0,3,0,3] [(17,11,[11]),(19,11,[11]),(17,15,[15]),(19,15,[15]),(18,17,[17]),(19,17,[17])] fun CZ U nT => ?_;have⟨u,m18⟩:=eO U m9 m8;have M:=eZ U J o;refine bU k<|bU l<|bU k<|bU p<|aY (au c)<|Rp (au ((a:Int)+(c:Int))) (fun _=>fF)<|bU k<|bU p<|aY (au c)<|Rp (au ((a:Int)+(c:Int))) (fun _=>fF)<|Rp (pf g (a+c)) (fun _=>cO 1)<|bU k<|bU l<|Rp (pf g ix) (fun _=>cO 1)<|Rs (aC ((gA j) (a+c))) (aL u.aH (a+c)) ?_;refine Rs (aC ((gA j) ix)) (aL u.aH ix) ?_;refine Rp (pf g ix) (fun _=>cO 1)<|gW<|qx u ix (aC ((gA j) (a+c))) fun w7 F s8 z5 => ?_;have zk:=gQ s8 u.Ke;have m20:=kR zk m18;have N:=s8.below M (m_ o M.size) u.blk.1;refine Ln<|Rp (pf g (a+c)) (fun _=>cO 1)<|gW<|qx F (a+c) (aC ((gA j) ix)) fun w8 m21 s9 z6 => ?_;have zl:=gQ s9 F.Ke;have m22:=kR zl m20;have b10:=s9.below N (m_ o N.size) F.blk.1;have m23:Fx.Own w8 B 23 1 (bL g n cap) n (rv .u64 (gA (Sort.swp j ix (a+c)))):=m21.congr (iG s (by omega) (by omega));refine Ln<|Rn<|bP<|sN<|Wl<|aX l<|Lv (au ((ix:Int)+1)) fF<|av (au ((ix:Int)+1))<|Ln<|iq ⟨ix+1,q,Sort.swp j ix (a+c),(fu s _ _),(Sort.permIn_trans _ _ _ _ _ C (Sort.swp_permIn _ _ _ _ _ (by omega) (by omega) (by omega) (by omega) (by omega))),(by omega),k,(p.trans Fx.ic),(S.trans Fx.ic),(r.trans Fx.ic),z,(A.trans Fx.ic),Fx.ic,m23,m22,b10⟩ ?_;show((a:Int)+2*i+2-intOf (au ((ix:Int)+1))).toNat<_;simp only[l,intOf]; omega
  refine Lv aF (nN P) (aD (aK (Wx (bW (gP (bX (⟨.tuple #[],iN Tryz.results178,?_⟩)))))));exact⟨j,rfl,s,C,Y,x⟩
 refine Lv aF (ko O) (aD (aK (Wk (⟨.tuple #[],iN Tryz.results178,?_⟩))));exact⟨d,rfl,X,Sort.permIn_refl _ _ _,h,(Below.refl B w)⟩
end
section
open Rt
theorem abw(a b f:Nat)(c:Int)(B g n cap:Nat)(d:Array Int)(w:World)(h:Fx.Own w B 23 1 (bL g n cap) n (rv .u64 (gA d)))(l:B<=w.heap.size)(J:d.size=n)(K:n<=1000)(ha:a<n)(H:b<n)(I:B<=f)(q:aR w f 1 (fun _=>au c) 3)(L:0<=c/\c<=1000) :
 Calls Tryz.prog 189 #[bL g n cap,au (a:Int),au (b:Int),(pt f)] w fun e w' => ∃(x y:Nat) (i:Int),e = .returned (.tuple #[au (x:Int),au (y:Int)])/\((x=a/\y=b)\/(x=b/\y=a))/\(c<=i/\i<=c+1)/\aR w' f 1 (fun _=>au i) 3/\Fx.Own w' B 23 1 (bL g n cap) n (rv .u64 (gA d))/\Below B w w':=by
 refine Kent Tryz.func189 28 ?_;refine ay<|av (au 0)<|av (au 0)<|aD<|Ws<|Ws ?_;refine lX<|aW (bL g n cap)<|aW (au b)<|Qv (pf g b) (fun o j=>cO 1)<|Qv (aC ((gA d) b)) (fun o j=>aL (h.cb j) b)<|aW (bL g n cap)<|aW (au a)<|Qv (pf g a) (fun o j=>cO 1)<|Qv (aC ((gA d) a)) (fun o j=>aL (h.cb j) a) ?_;by_cases k:(decide ((gA d) b<(gA d) a))=true
 ·refine qw (fun _ _=>dQ ((gA d) b) ((gA d) a) _) aG (by rw[k])<|Qn ?_;intro M r;have⟨z,m⟩:=eO r h q;have p:=eZ r (Below.refl B w) l;refine sN<|aM<|ay<|av (pt f)<|av (pt f)<|Lv (au c) (aL m.aH 0)<|Lv (au (c+1)) fF<|av (pt f)<|jd m 0 (au (c+1)) fun G A i O => ?_;have C:aR G f 1 (fun _=>au (c+1)) 3:=dD A;have v:=gQ i m.ty;have D:=kR v z;have t:=i.below p (m_ l p.size) (by omega);refine aD<|ay<|av (au b)<|av (au a)<|av (au b)<|av (au a)<|aD<|Wr<|sR<|aJ (.tuple #[au (b:Int),au (a:Int)]) ?_;exact⟨b,a,c+1,rfl,.inr ⟨rfl,rfl⟩,by omega,C,D,t⟩
 rw[T_]at k;refine qw (fun _ _=>dQ ((gA d) b) ((gA d) a) _) aF (by rw[k])<|Qn ?_;intro N s;have⟨E,F⟩:=eO s h q;have u:=eZ s (Below.refl B w) l;refine sN<|aK<|Wk<|sN<|ay<|av (au a)<|av (au b)<|av (au a)<|av (au b)<|aD<|Wr<|aJ (.tuple #[au (a:Int),au (b:Int)]) ?_;exact⟨a,b,c,rfl,.inl ⟨rfl,rfl⟩,by omega,F,E,u⟩
theorem Jc{j k:Int}(a b:Nat)(l:j=(a:Int))(m:k=(b:Int))(f:Nat)(c:Int)(B g n cap:Nat)(d:Array Int)(w:World)(h:Fx.Own w B 23 1 (bL g n cap) n (rv .u64 (gA d)))(o:B<=w.heap.size)(s:d.size=n)(t:n<=1000)(ha:a<n)(p:b<n)(q:B<=f)(r:aR w f 1 (fun _=>au c) 3)(u:0<=c/\c<=1000) :
 Calls Tryz.prog 189 #[bL g n cap,au j,au k,(pt f)] w fun e w' => ∃(x y:Nat) (i:Int),e = .returned (.tuple #[au (x:Int),au (y:Int)])/\((x=a/\y=b)\/(x=b/\y=a))/\(c<=i/\i<=c+1)/\aR w' f 1 (fun _=>au i) 3/\Fx.Own w' B 23 1 (bL g n cap) n (rv .u64 (gA d))/\Below B w w':=by
 subst l m; exact abw a b f c B g n cap d w h o s t ha p q r u
theorem afT(a b c f:Nat)(j:Int)(B g n cap:Nat)(d:Array Int)(w:World)(h:Fx.Own w B 23 1 (bL g n cap) n (rv .u64 (gA d)))(m:B<=w.heap.size)(p:d.size=n)(q:n<=1000)(ha:a<n)(L:b<n)(M:c<n)(z:B<=f)(o:aR w f 1 (fun _=>au j) 3)(Q:0<=j/\j<=100) :
 Calls Tryz.prog 188 #[bL g n cap,au (a:Int),au (b:Int),au (c:Int),(pt f)] w fun e w' => ∃(x:Nat) (r:Int),e = .returned (au (x:Int))/\(x=a\/x=b\/x=c)/\(j<=r/\r<=j+3)/\aR w' f 1 (fun _=>au r) 3/\Fx.Own w' B 23 1 (bL g n cap) n (rv .u64 (gA d))/\Below B w w':=by
 refine Kent Tryz.func188 36 ?_;refine ay<|av (au 0)<|aD<|ay<|av (bL g n cap)<|av (au a)<|av (au b)<|av (pt f)<|kV (Jc a b (by omega) (by omega) f j B g n cap d _ h (m_ m (Below.refl B w).size) p q (by omega) (by omega) (by omega) o (by omega)) (ax := #[bL g n cap,au (a:Int),au (b:Int),(pt f)]) ?_;rintro y V ⟨x1,k,J,i,R,N,D,E,z⟩;refine⟨_,i,?_⟩;clear i;have u:=(Below.refl B w).trans z;refine av (.tuple #[au (x1:Int),au (k:Int)])<|av (au x1)<|av (au k)<|av (au x1)<|av (au k)<|aD<|ay<|av (bL g n cap)<|av (au k)<|av (au c)<|av (pt f)<|kV (Jc k c (by omega) (by omega) f J B g n cap d _ E (m_ m u.size) p q (by omega) (by omega) (by omega) D (by omega)) (ax := #[bL g n cap,au (k:Int),au (c:Int),(pt f)]) ?_;rintro y w2 ⟨x2,t,K,i,S,O,F,G,o⟩;refine⟨_,i,?_⟩;clear i;have v:=u.trans o;refine av (.tuple #[au (x2:Int),au (t:Int)])<|av (au x2)<|av (au t)<|av (au x2)<|av (au t)<|aD<|ay<|av (bL g n cap)<|av (au x1)<|av (au x2)<|av (pt f)<|kV (Jc x1 x2 (by omega) (by omega) f K B g n cap d _ G (m_ m v.size) p q (by omega) (by omega) (by omega) F (by omega)) (ax := #[bL g n cap,au (x1:Int),au (x2:Int),(pt f)]) ?_;rintro y W ⟨s,l,U,i,T,P,H,I,C⟩;refine⟨_,i,?_⟩;clear i;have A:=v.trans C;refine av (.tuple #[au (s:Int),au (l:Int)])<|av (au s)<|av (au l)<|av (au s)<|av (au l)<|aD<|ay<|av (au l)<|av (au l)<|aD<|Wr<|aJ (au l) ?_;exact⟨_,_,rfl,by omega,by omega,H,I,A⟩
theorem abx{k l m:Int}(a b c:Nat)(o:k=(a:Int))(p:l=(b:Int))(q:m=(c:Int))(i:Nat)(f:Int)(B g n cap:Nat)(d:Array Int)(w:World)(h:Fx.Own w B 23 1 (bL g n cap) n (rv .u64 (gA d)))(r:B<=w.heap.size)(y:d.size=n)(z:n<=1000)(ha:a<n)(s:b<n)(v:c<n)(t:B<=i)(u:aR w i 1 (fun _=>au f) 3)(A:0<=f/\f<=100) :
 Calls Tryz.prog 188 #[bL g n cap,au k,au l,au m,(pt i)] w fun e w' => ∃(x:Nat) (j:Int),e = .returned (au (x:Int))/\(x=a\/x=b\/x=c)/\(f<=j/\j<=f+3)/\aR w' i 1 (fun _=>au j) 3/\Fx.Own w' B 23 1 (bL g n cap) n (rv .u64 (gA d))/\Below B w w':=by
 subst o p q; exact afT a b c i f B g n cap d w h r y z ha s v t u A
theorem afU(a b:Nat)(B g n cap:Nat)(d:Array Int)(w:World)(h:Fx.Own w B 23 1 (bL g n cap) n (rv .u64 (gA d)))(x:B<=w.heap.size)(E:d.size=n)(F:n<=1000)(ha:a<b)(J:b<=n)(I:n<50) :
 Calls Tryz.prog 179 #[bL g n cap,au (a:Int),au (b:Int)] w fun e w' => ∃(p:Nat) (D:Int),e = .returned (.tuple #[au (p:Int),au D])/\a<=p/\p<b/\Fx.Own w' B 23 1 (bL g n cap) n (rv .u64 (gA d))/\Below B w w':=by
 obtain⟨c,K⟩ : ∃ c,c=(b-a) / 4:=⟨_,rfl⟩;refine Kent Tryz.func179 57 ?_;refine ay<|av (au 0)<|av (au 0)<|aD<|ay<|av (au b)<|av (au a)<|Lv (au ((b:Int)-(a:Int))) gF<|av (au ((b:Int)-(a:Int)))<|aD<|ay<|BH (m:=1) (y:=rv .i64 (fun _=>0)) (by rfl) rfl (by kernel_rfl) rfl fun v Q u o A R => ?_;have k:=bB A.old h;have f:=eZ A.old (Below.refl B w) x;have N:=iI u (Below.refl B w).size;have O:=bY u h.lt;have P:=o.lt;refine aD<|ay<|av (au a)<|av (au ((b:Int)-(a:Int)))<|Lv (au c) (Fx.CV rfl rfl rfl (by omega) (iO (by omega) (by rw[Int.tdiv_eq_ediv_of_nonneg (by omega)]; omega)))<|Lv (au ((c:Int)*1)) (Fx.GH rfl rfl rfl Fx.io)<|Lv (au ((a:Int)+(c:Int))) fF<|av (au ((a:Int)+(c:Int)))<|aD<|ay<|av (au a)<|av (au ((b:Int)-(a:Int)))<|Lv (au c) (Fx.CV rfl rfl rfl (by omega) (iO (by omega) (by rw[Int.tdiv_eq_ediv_of_nonneg (by omega)]; omega)))<|Lv (au ((c:Int)*2)) (Fx.GH rfl rfl rfl Fx.io)<|Lv (au ((a:Int)+2*(c:Int))) fF<|av (au ((a:Int)+2*(c:Int)))<|aD<|ay<|av (au a)<|av (au ((b:Int)-(a:Int)))<|Lv (au c) (Fx.CV rfl rfl rfl (by omega) (iO (by omega) (by rw[Int.tdiv_eq_ediv_of_nonneg (by omega)]; omega)))<|Lv (au ((c:Int)*3)) (Fx.GH rfl rfl rfl Fx.io)<|Lv (au ((a:Int)+3*(c:Int))) fF<|av (au ((a:Int)+3*(c:Int)))<|aD<|Ws<|ay<|av (au ((b:Int)-(a:Int))) ?_;by_cases t:8<=((b:Int)-(a:Int))
 ·refine Lv aG (kP t)<|aD<|aM<|Ws<|ay<|av (au ((b:Int)-(a:Int)))<|Lv aF GR<|aD<|aK<|Wk<|sN<|Wl<|av (bL g n cap)<|av (au ((a:Int)+(c:Int)))<|av (au ((a:Int)+2*(c:Int)))<|av (au ((a:Int)+3*(c:Int)))<|kV (abx (a+c) (a+2*c) (a+3*c) (by omega) (by omega) (by omega) v 0 B g n cap d _ k (m_ x f.size) E F (by omega) (by omega) (by omega) (by omega) o (by omega)) (ax := #[bL g n cap,au ((a:Int)+(c:Int)),au ((a:Int)+2*(c:Int)),au ((a:Int)+3*(c:Int)),(pt v)]) ?_;rintro H w2 ⟨x1,s,z,M,L,G,r,C⟩;refine⟨_,z,?_⟩;clear z;have l:=f.trans C;refine av (au x1)<|aD<|ay<|Lv (au s) (aL G.aH 0)<|aD<|Wb<|ay ?_;by_cases i:s=0
  ·refine Lv aG (fI i)<|av aG<|aD<|aM<|ay<|av (au x1)<|av (au x1)<|av (au 1)<|aD<|Wr<|bK<|aJ (.tuple #[au (x1:Int),au 1]) ?_;exact⟨x1,1,L_ (fun q=>Ending.returned (.tuple #[au q,au 1])) (by omega),by omega,by omega,r,l⟩
  refine Lv aF (gG i)<|av aF<|aD<|aK<|ay ?_;by_cases j:s=12
  ·refine Lv aG (fI j)<|av aG<|aD<|aM<|ay<|av (au x1)<|av (au x1)<|av (au 2)<|aD<|Wr<|bK<|aJ (.tuple #[au (x1:Int),au 2]) ?_;exact⟨x1,2,L_ (fun q=>Ending.returned (.tuple #[au q,au 2])) (by omega),by omega,by omega,r,l⟩
  refine Lv aF (gG j)<|av aF<|aD<|aK<|ay<|av (au x1)<|av (au x1)<|av (au 0)<|aD<|Wr<|bK<|aJ (.tuple #[au (x1:Int),au 0]) ?_;exact⟨x1,0,L_ (fun q=>Ending.returned (.tuple #[au q,au 0])) (by omega),by omega,by omega,r,l⟩
 refine Lv aF (ko t)<|aD<|aK<|Wk<|sN<|ay<|Lv (au 0) (aL o.aH 0)<|aD<|Wb<|ay ?_;by_cases i:(0:Int)=0
 ·refine Lv aG (fI i)<|av aG<|aD<|aM<|ay<|av (au ((a:Int)+2*(c:Int)))<|av (au ((a:Int)+2*(c:Int)))<|av (au 1)<|aD<|Wr<|bK<|aJ (.tuple #[au ((a:Int)+2*(c:Int)),au 1]) ?_;exact⟨a+2*c,1,L_ (fun q=>Ending.returned (.tuple #[au q,au 1])) (by omega),by omega,by omega,k,f⟩
 refine Lv aF (gG i)<|av aF<|aD<|aK<|ay ?_;by_cases j:(0:Int)=12
 ·refine Lv aG (fI j)<|av aG<|aD<|aM<|ay<|av (au ((a:Int)+2*(c:Int)))<|av (au ((a:Int)+2*(c:Int)))<|av (au 2)<|aD<|Wr<|bK<|aJ (.tuple #[au ((a:Int)+2*(c:Int)),au 2]) ?_;exact⟨a+2*c,2,L_ (fun q=>Ending.returned (.tuple #[au q,au 2])) (by omega),by omega,by omega,k,f⟩
 refine Lv aF (gG j)<|av aF<|aD<|aK<|ay<|av (au ((a:Int)+2*(c:Int)))<|av (au ((a:Int)+2*(c:Int)))<|av (au 0)<|aD<|Wr<|bK<|aJ (.tuple #[au ((a:Int)+2*(c:Int)),au 0]) ?_;exact⟨a+2*c,0,L_ (fun q=>Ending.returned (.tuple #[au q,au 0])) (by omega),by omega,by omega,k,f⟩
end
section
open Rt
theorem aby(a b:Nat)(B g n cap:Nat)(d:Array Int)(w:World)(h:Fx.Own w B 23 1 (bL g n cap) n (rv .u64 (gA d)))(v:B<=w.heap.size)(V:d.size=n)(W:n<=1000)(ha:a<b)(U:b<=n)(T:n<50) :
 Calls Tryz.prog 181 #[bL g n cap,au (a:Int),au (b:Int)] w fun e w' => ∃ r:Bool,e = .returned (.bool r)/\(r=true->Sort.SortedIn Sort.ltInt a b d)/\Fx.Own w' B 23 1 (bL g n cap) n (rv .u64 (gA d))/\Below B w w':=by
 refine Kent Tryz.func181 133 ?_;refine ay<|av aF<|aD<|ay<|av (au a)<|Lv (au ((a:Int)+1)) fF<|av (au ((a:Int)+1))<|aD<|Ws<|ay<|av (au 0)<|aD<|Wb<|Wo (fun f p=>f 0=bL g n cap/\f 1=au (a:Int)/\f 2=au (b:Int)/\f 7=au ((a:Int)+1)/\f 8=au 0/\Fx.Own p B 23 1 (bL g n cap) n (rv .u64 (gA d))/\Below B w p) (fun f _=>(5-intOf (f 8)).toNat) ⟨(by rfl),Fx.ic,Fx.ic,Fx.ic,Fx.ic,h,(Below.refl B w)⟩ ?_;rintro R X ⟨K,M,N,O,C,P,I⟩;refine Ws<|ay<|aX C<|Lv aG RP<|aD<|aM<|Wk<|sN<|Ws<|Wb<|Ws<|Wb<|Wo (fun f p => ∃ i:Nat,Sort.SortedIn Sort.ltInt a i d/\(a<i/\i<=b)/\f 0=bL g n cap/\f 1=au (a:Int)/\f 2=au (b:Int)/\f 7=au (i:Int)/\f 8=au 0/\Fx.Own p B 23 1 (bL g n cap) n (rv .u64 (gA d))/\Below B w p) (fun f _=>((b:Int)-intOf (f 7)).toNat) ⟨a+1,(MX _ _),(by omega),K,(M.trans Fx.ic),(N.trans Fx.ic),(O.trans Fx.ic),(C.trans Fx.ic),P,I⟩ ?_;rintro S w2 ⟨i,x,hi,t,u,k,j,L,o,s⟩;refine Ws<|Ws ?_;refine lX<|dO j<|dO k ?_;by_cases A:(i:Int)<(b:Int)
 ·refine Qv aG (fun l c=>gJ A)<|aW aG<|dO t<|dO j<|Qv (pf g i) (fun l c=>cO 1)<|Qv (aC ((gA d) i)) (fun l c=>aL (o.cb c) i)<|dO t<|dO j<|Qv (au ((i:Int)-1)) (fun l c=>gF)<|Qv (pf g (i-1)) (fun l c=>cO 1)<|Qv (aC ((gA d) (i-1))) (fun l c=>aL (o.cb c) (i-1)) ?_;by_cases q:(decide ((gA d) i<(gA d) (i-1)))=true
  ·refine qw (fun _ _=>dQ ((gA d) i) ((gA d) (i-1)) _) aG (by rw[q])<|aW aF<|aW aF<|Qn ?_;intro Y D;have G:=bB D o;have y:=eZ D s v;refine sN<|aK<|Wx<|bW<|gP<|bX<|sN<|Ws<|ay<|aX j<|aX k ?_;by_cases m:(i:Int)=(b:Int)
   ·refine Lv aG (fI m)<|aD<|aM<|ay<|av aG<|aD<|Wr<|sR<|bK<|sR<|pK<|bK<|sR<|aJ aG ?_;exact⟨true,rfl,(fun _=>by rw[show b=i by omega]; exact x),G,y⟩
   refine Lv aF (gG m)<|aD<|aK<|Wk<|sN<|Ws<|ay<|aX k<|aX u<|Lv (au ((b:Int)-(a:Int))) gF<|Lv aG RP<|aD<|aM<|ay<|av aF<|aD<|Wr<|sR<|bK<|sR<|pK<|bK<|sR<|aJ aF ?_;exact⟨false,rfl,(fun h=>nomatch h),G,y⟩
  rw[T_]at q;refine qw (fun _ _=>dQ ((gA d) i) ((gA d) (i-1)) _) aF (by rw[q])<|aW aG<|aW aG<|Qn ?_;intro Z E;have Q:=bB E o;have J:=eZ E s v;refine sN<|aM<|Wk<|sN<|Wb<|Wl<|aX j<|Lv (au ((i:Int)+1)) fF<|av (au ((i:Int)+1))<|Ln<|bP<|iq ⟨i+1,(Sort.SortedIn.snoc Sort.swo_ltInt x (wY (j_ q))),(by omega),t,(u.trans Fx.ic),(k.trans Fx.ic),Fx.ic,(L.trans Fx.ic),Q,J⟩ ?_;show((b:Int)-intOf (au ((i:Int)+1))).toNat<_;simp only[j,intOf]; omega
 refine Qv aF (fun l c=>gK A)<|aW aF<|aS<|aS<|aS<|aS<|aS<|aS<|aS<|aS<|aS<|aS<|aS<|aW aF<|Qn ?_;intro aa F;have H:=bB F o;have z:=eZ F s v;refine sN<|aK<|Wx<|bW<|gP<|bX<|sN<|Ws<|ay<|aX j<|aX k ?_;by_cases m:(i:Int)=(b:Int)
 ·refine Lv aG (fI m)<|aD<|aM<|ay<|av aG<|aD<|Wr<|sR<|bK<|sR<|pK<|bK<|sR<|aJ aG ?_;exact⟨true,rfl,(fun _=>by rw[show b=i by omega]; exact x),H,z⟩
 refine Lv aF (gG m)<|aD<|aK<|Wk<|sN<|Ws<|ay<|aX k<|aX u<|Lv (au ((b:Int)-(a:Int))) gF<|Lv aG RP<|aD<|aM<|ay<|av aF<|aD<|Wr<|sR<|bK<|sR<|pK<|bK<|sR<|aJ aF ?_;exact⟨false,rfl,(fun h=>nomatch h),H,z⟩
theorem akS(a b p:Nat)(B g n cap:Nat)(d:Array Int)(w:World)(h:Fx.Own w B 23 1 (bL g n cap) n (rv .u64 (gA d)))(o:B<=w.heap.size)(hn:d.size=n)(hs:n<=1000)(ha:a<=p)(hp:p<b)(hb:b<=n) :
 Calls Tryz.prog 183 #[bL g n cap,au (a:Int),au (b:Int),au (p:Int)] w fun e w' => ∃(mid:Nat) (V:Array Int),e = .returned (au (mid:Int))/\Sort.partitionEqual Sort.ltInt d a b p=(mid,V)/\V.size=n/\Fx.Own w' B 23 1 (bL g n cap) n (rv .u64 (gA V))/\Below B w w':=by
 refine Kent Tryz.func183 84 ?_;refine ay<|av (au 0)<|aD<|Ws ?_;refine jW [0,1,2,3,4,5,6,8,9,10,7,11,12,13,14,15] [0,0,0,0,0,0,0,4,0,0,0,4,0,3,0,3] [(13,7,[7]),(15,7,[7]),(13,11,[11]),(15,11,[11]),(14,13,[13]),(15,13,[13])] fun qE dP iC => ?_;have P:=bB dP h;have b1:=eZ dP (Below.refl B w) o;refine aY (bL g n cap)<|aY (au a)<|aY (bL g n cap)<|aY (au p)<|aY (bL g n cap)<|aY (au p)<|Rp (pf g p) (fun _=>cO 1)<|aY (bL g n cap)<|aY (au a)<|Rp (pf g a) (fun _=>cO 1)<|Rs (aC ((gA d) p)) (aL P.aH p) ?_;refine Rs (aC ((gA d) a)) (aL P.aH a) ?_;refine Rp (pf g a) (fun _=>cO 1)<|gW<|qx P a (aC ((gA d) p)) fun w1 m2 s2 z1 => ?_;have b2:=s2.below b1 (m_ o b1.size) P.blk.1;refine Ln<|Rp (pf g p) (fun _=>cO 1)<|gW<|qx m2 p (aC ((gA d) a)) fun w2 m3 s3 z2 => ?_;have b3:=s3.below b2 (m_ o b2.size) m2.blk.1;have m4:Fx.Own w2 B 23 1 (bL g n cap) n (rv .u64 (gA (Sort.swp d a p))):=m3.congr (iG hn (by omega) (by omega));refine Ln<|bQ<|ay<|av (au a)<|Lv (au ((a:Int)+1)) fF<|av (au b)<|Lv (au ((b:Int)-1)) gF<|av (au ((a:Int)+1))<|av (au ((b:Int)-1))<|aD<|Ws<|Wb<|Wo (fun f s => ∃ i:Nat,∃ j:Nat,∃ k:Array Int,k.size=n/\Sort.partEqLoop Sort.ltInt a i j k=Sort.partEqLoop Sort.ltInt a (a+1) (b-1) (Sort.swp d a p)/\(a<i/\j<b/\i<=b)/\f 0=bL g n cap/\f 1=au (a:Int)/\f 2=au (b:Int)/\f 9=au (i:Int)/\f 10=au (j:Int)/\Fx.Own s B 23 1 (bL g n cap) n (rv .u64 (gA k))/\Below B w s) (fun f _=>((b:Int)-intOf (f 9)).toNat) ⟨a+1,b-1,Sort.swp d a p,(fu hn _ _),rfl,(by omega),(by rfl),Fx.ic,Fx.ic,Fx.ic,Fx.ic,m4,b3⟩ ?_;rintro f1 w3 ⟨i,j,k,E,O,hij,h1,h2,h3,Y,h5,m5,b4⟩;refine Wb<|Ws<|Wb<|Wo (fun f s => ∃ c:Nat,Sort.partEqLoop Sort.ltInt a c j k=Sort.partEqLoop Sort.ltInt a i j k/\(i<=c/\c<=b)/\f 0=bL g n cap/\f 1=au (a:Int)/\f 2=au (b:Int)/\f 9=au (c:Int)/\f 10=au (j:Int)/\Fx.Own s B 23 1 (bL g n cap) n (rv .u64 (gA k))/\Below B w s) (fun f _=>((j:Int)+1-intOf (f 9)).toNat) ⟨i,rfl,(by omega),h1,(h2.trans Fx.ic),(h3.trans Fx.ic),(Y.trans Fx.ic),(h5.trans Fx.ic),m5,b4⟩ ?_;rintro f2 w4 ⟨c,I,hi2,H,N,Z,D,M,K,T⟩;refine Ws<|Ws ?_;refine lX<|dO D<|dO M ?_;by_cases c31:(c:Int)<=(j:Int)
 ·refine Qv aG (fun q m=>nA c31)<|aW aG<|dO H<|dO N<|Qv (pf g a) (fun q m=>cO 1)<|Qv (aC ((gA k) a)) (fun q m=>aL (K.cb m) a)<|dO H<|dO D<|Qv (pf g c) (fun q m=>cO 1)<|Qv (aC ((gA k) c)) (fun q m=>aL (K.cb m) c) ?_;by_cases F:(decide ((gA k) a<(gA k) c))=true
  ·refine qw (fun _ _=>dQ ((gA k) a) ((gA k) c) _) aG (by rw[F])<|aW aF<|aW aF<|Qn ?_;intro WT qU;have m7:=bB qU K;have b6:=eZ qU T o;refine sN<|aK<|Wx<|bW<|gP<|bX<|sN<|Ws<|Wb<|Wo (fun f s => ∃ l:Nat,Sort.partEqLoop Sort.ltInt a c l k=Sort.partEqLoop Sort.ltInt a c j k/\(l<c\/gA k a<gA k c)/\l<=j/\f 0=bL g n cap/\f 1=au (a:Int)/\f 2=au (b:Int)/\f 9=au (c:Int)/\f 10=au (l:Int)/\Fx.Own s B 23 1 (bL g n cap) n (rv .u64 (gA k))/\Below B w s) (fun f _=>(intOf (f 10)).toNat) ⟨j,rfl,(.inr (h_ F)),(by omega),H,(N.trans Fx.ic),(Z.trans Fx.ic),(D.trans Fx.ic),(M.trans Fx.ic),m7,b6⟩ ?_;rintro f3 w5 ⟨l,A,C,hj2,v,W,Sv,x,t,L,U⟩;refine Ws<|Ws ?_;refine lX<|dO x<|dO t ?_;by_cases G:(c:Int)<=(l:Int)
   ·refine Qv aG (fun q m=>nA G)<|aW aG<|dO v<|dO W<|Qv (pf g a) (fun q m=>cO 1)<|Qv (aC ((gA k) a)) (fun q m=>aL (L.cb m) a)<|dO v<|dO t<|Qv (pf g l) (fun q m=>cO 1)<|Qv (aC ((gA k) l)) (fun q m=>aL (L.cb m) l) ?_;by_cases r:(decide ((gA k) a<(gA k) l))=true
    ·refine qw (fun _ _=>dQ ((gA k) a) ((gA k) l) _) aG (by rw[r])<|aW aG<|Qn ?_;intro Xt uh;have m9:=bB uh L;have b8:=eZ uh U o;refine sN<|aM<|Wk<|sN<|Wb<|Wl<|aX t<|Lv (au ((l:Int)-1)) gF<|av (au ((l:Int)-1))<|Ln<|bP<|iq ⟨l-1,((ZT (by omega) (by omega) (C.resolve_left (by omega)) (h_ r)).trans A),(C.elim (fun h => .inl (by omega)) .inr),(by omega),v,(W.trans Fx.ic),(Sv.trans Fx.ic),(x.trans Fx.ic),Fx.ic,m9,b8⟩ ?_;show(intOf (au ((l:Int)-1))).toNat<_;simp only[t,intOf]; omega
    rw[T_]at r;refine qw (fun _ _=>dQ ((gA k) a) ((gA k) l) _) aF (by rw[r])<|aW aF<|Qn ?_;intro wb3 wZ;have m10:=bB wZ L;have b9:=eZ wZ U o;refine sN<|aK<|Wx<|bW<|gP<|bX<|sN<|Ws<|ay<|aX x<|aX t<|Lv aF xR<|aD<|aK<|Wk<|sN<|Ws ?_;refine jW [0,1,2,3,4,5,6,8,9,10,7,11,12,13,14,15] [0,0,0,0,0,0,0,4,0,0,0,4,0,3,0,3] [(13,7,[7]),(15,7,[7]),(13,11,[11]),(15,11,[11]),(14,13,[13]),(15,13,[13])] fun CZ gL nT => ?_;have Q:=bB gL m10;have b10:=eZ gL b9 o;refine bU v<|bU x<|bU v<|bU t<|bU v<|bU t<|Rp (pf g l) (fun _=>cO 1)<|bU v<|bU x<|Rp (pf g c) (fun _=>cO 1)<|Rs (aC ((gA k) l)) (aL Q.aH l) ?_;refine Rs (aC ((gA k) c)) (aL Q.aH c) ?_;refine Rp (pf g c) (fun _=>cO 1)<|gW<|qx Q c (aC ((gA k) l)) fun w6 m12 s8 z3 => ?_;have b11:=s8.below b10 (m_ o b10.size) Q.blk.1;refine Ln<|Rp (pf g l) (fun _=>cO 1)<|gW<|qx m12 l (aC ((gA k) c)) fun w7 m13 s9 z4 => ?_;have b12:=s9.below b11 (m_ o b11.size) m12.blk.1;have m14:Fx.Own w7 B 23 1 (bL g n cap) n (rv .u64 (gA (Sort.swp k c l))):=m13.congr (iG E (by omega) (by omega));refine Ln<|bQ<|ay<|aX x<|Lv (au ((c:Int)+1)) fF<|av (au ((c:Int)+1))<|aD<|Wl<|aX t<|Lv (au ((l:Int)-1)) gF<|av (au ((l:Int)-1))<|Ln<|bP<|iq ⟨c+1,l-1,Sort.swp k c l,(fu E _ _),((ZU (by omega) (C.resolve_left (by omega)) (j_ r)).trans (A.trans (I.trans O))),(by omega),v,(W.trans Fx.ic),(Sv.trans Fx.ic),Fx.ic,Fx.ic,m14,b12⟩ ?_;show((b:Int)-intOf (au ((c:Int)+1))).toNat<_;simp only[Y,intOf]; omega
   refine Qv aF (fun q m=>nN G)<|aW aF<|aS<|aS<|aS<|aS<|aS<|aS<|aS<|aS<|aS<|aW aF<|Qn ?_;intro wb4 AQ;have m15:=bB AQ L;have b13:=eZ AQ U o;refine sN<|aK<|Wx<|bW<|gP<|bX<|sN<|Ws<|ay<|aX x<|aX t<|Lv aG CX<|aD<|aM<|Wx<|bW<|Fx.MH rfl<|gP<|bX<|sN<|ay<|aX x<|av (au c)<|aD<|Wr<|aJ (au c) ?_;exact⟨c,k,rfl,O.symm.trans (I.symm.trans (A.symm.trans (Sn (by omega)))),E,m15,b13⟩
  rw[T_]at F;refine qw (fun _ _=>dQ ((gA k) a) ((gA k) c) _) aF (by rw[F])<|aW aG<|aW aG<|Qn ?_;intro wb5 EM;have m16:=bB EM K;have b14:=eZ EM T o;refine sN<|aM<|Wk<|sN<|Wb<|Wl<|aX D<|Lv (au ((c:Int)+1)) fF<|av (au ((c:Int)+1))<|Ln<|bP<|iq ⟨c+1,((afL (by omega) (j_ F)).trans I),(by omega),H,(N.trans Fx.ic),(Z.trans Fx.ic),Fx.ic,(M.trans Fx.ic),m16,b14⟩ ?_;show((j:Int)+1-intOf (au ((c:Int)+1))).toNat<_;simp only[D,intOf]; omega
 refine Qv aF (fun q m=>nN c31)<|aW aF<|aS<|aS<|aS<|aS<|aS<|aS<|aS<|aS<|aS<|aS<|aW aF<|Qn ?_;intro wb6 Kw;have m17:=bB Kw K;have b15:=eZ Kw T o;refine sN<|aK<|Wx<|bW<|gP<|bX<|sN<|Ws<|Wb<|Wo (fun f s => ∃ l:Nat,Sort.partEqLoop Sort.ltInt a c l k=Sort.partEqLoop Sort.ltInt a c j k/\(l<c\/gA k a<gA k c)/\l<=j/\f 0=bL g n cap/\f 1=au (a:Int)/\f 2=au (b:Int)/\f 9=au (c:Int)/\f 10=au (l:Int)/\Fx.Own s B 23 1 (bL g n cap) n (rv .u64 (gA k))/\Below B w s) (fun f _=>(intOf (f 10)).toNat) ⟨j,rfl,(.inl (by omega)),(by omega),H,(N.trans Fx.ic),(Z.trans Fx.ic),(D.trans Fx.ic),(M.trans Fx.ic),m17,b15⟩ ?_;rintro f4 w8 ⟨l,A,C,hj2,y,X,h18,z,u,J,S⟩;refine Ws<|Ws ?_;refine lX<|dO z<|dO u ?_;by_cases G:(c:Int)<=(l:Int)
 ·refine Qv aG (fun q m=>nA G)<|aW aG<|dO y<|dO X<|Qv (pf g a) (fun q m=>cO 1)<|Qv (aC ((gA k) a)) (fun q m=>aL (J.cb m) a)<|dO y<|dO u<|Qv (pf g l) (fun q m=>cO 1)<|Qv (aC ((gA k) l)) (fun q m=>aL (J.cb m) l) ?_;by_cases r:(decide ((gA k) a<(gA k) l))=true
  ·refine qw (fun _ _=>dQ ((gA k) a) ((gA k) l) _) aG (by rw[r])<|aW aG<|Qn ?_;intro wb7 Ky;have m19:=bB Ky J;have b17:=eZ Ky S o;refine sN<|aM<|Wk<|sN<|Wb<|Wl<|aX u<|Lv (au ((l:Int)-1)) gF<|av (au ((l:Int)-1))<|Ln<|bP<|iq ⟨l-1,((ZT (by omega) (by omega) (C.resolve_left (by omega)) (h_ r)).trans A),(C.elim (fun h => .inl (by omega)) .inr),(by omega),y,(X.trans Fx.ic),(h18.trans Fx.ic),(z.trans Fx.ic),Fx.ic,m19,b17⟩ ?_;show(intOf (au ((l:Int)-1))).toNat<_;simp only[u,intOf]; omega
  rw[T_]at r;refine qw (fun _ _=>dQ ((gA k) a) ((gA k) l) _) aF (by rw[r])<|aW aF<|Qn ?_;intro wb8 Kz;have m20:=bB Kz J;have b18:=eZ Kz S o;refine sN<|aK<|Wx<|bW<|gP<|bX<|sN<|Ws<|ay<|aX z<|aX u<|Lv aF xR<|aD<|aK<|Wk<|sN<|Ws ?_;refine jW [0,1,2,3,4,5,6,8,9,10,7,11,12,13,14,15] [0,0,0,0,0,0,0,4,0,0,0,4,0,3,0,3] [(13,7,[7]),(15,7,[7]),(13,11,[11]),(15,11,[11]),(14,13,[13]),(15,13,[13])] fun Rb lW AP => ?_;have R:=bB lW m20;have b19:=eZ lW b18 o;refine bU y<|bU z<|bU y<|bU u<|bU y<|bU u<|Rp (pf g l) (fun _=>cO 1)<|bU y<|bU z<|Rp (pf g c) (fun _=>cO 1)<|Rs (aC ((gA k) l)) (aL R.aH l) ?_;refine Rs (aC ((gA k) c)) (aL R.aH c) ?_;refine Rp (pf g c) (fun _=>cO 1)<|gW<|qx R c (aC ((gA k) l)) fun w9 m22 s16 z5 => ?_;have b20:=s16.below b19 (m_ o b19.size) R.blk.1;refine Ln<|Rp (pf g l) (fun _=>cO 1)<|gW<|qx m22 l (aC ((gA k) c)) fun tH m23 JV z6 => ?_;have PY:=JV.below b20 (m_ o b20.size) m22.blk.1;have m24:Fx.Own tH B 23 1 (bL g n cap) n (rv .u64 (gA (Sort.swp k c l))):=m23.congr (iG E (by omega) (by omega));refine Ln<|bQ<|ay<|aX z<|Lv (au ((c:Int)+1)) fF<|av (au ((c:Int)+1))<|aD<|Wl<|aX u<|Lv (au ((l:Int)-1)) gF<|av (au ((l:Int)-1))<|Ln<|bP<|iq ⟨c+1,l-1,Sort.swp k c l,(fu E _ _),((ZU (by omega) (C.resolve_left (by omega)) (j_ r)).trans (A.trans (I.trans O))),(by omega),y,(X.trans Fx.ic),(h18.trans Fx.ic),Fx.ic,Fx.ic,m24,PY⟩ ?_;show((b:Int)-intOf (au ((c:Int)+1))).toNat<_;simp only[Y,intOf]; omega
 refine Qv aF (fun q m=>nN G)<|aW aF<|aS<|aS<|aS<|aS<|aS<|aS<|aS<|aS<|aS<|aW aF<|Qn ?_;intro wb9 KA;have mV:=bB KA J;have Om:=eZ KA S o;refine sN<|aK<|Wx<|bW<|gP<|bX<|sN<|Ws<|ay<|aX z<|aX u<|Lv aG CX<|aD<|aM<|Wx<|bW<|Fx.MH rfl<|gP<|bX<|sN<|ay<|aX z<|av (au c)<|aD<|Wr<|aJ (au c) ?_;exact⟨c,k,rfl,O.symm.trans (I.symm.trans (A.symm.trans (Sn (by omega)))),E,mV,Om⟩
theorem afV(a b p:Nat)(B g n cap:Nat)(d:Array Int)(w:World)(h:Fx.Own w B 23 1 (bL g n cap) n (rv .u64 (gA d)))(q:B<=w.heap.size)(Q:d.size=n)(hs:n<=1000)(ha:a<=p)(hp:p<b)(hb:b<=n) :
 Calls Tryz.prog 184 #[bL g n cap,au (a:Int),au (b:Int),au (p:Int)] w fun e w' => ∃(mid:Nat) (ap:Bool) (d4:Array Int),e = .returned (.tuple #[au (mid:Int),.bool ap])/\(Sort.partition Sort.ltInt d a b p).1=mid/\(Sort.partition Sort.ltInt d a b p).2.2=d4/\d4.size=n/\Fx.Own w' B 23 1 (bL g n cap) n (rv .u64 (gA d4))/\Below B w w':=by
 refine Kent Tryz.func184 168 ?_;refine ay<|av (au 0)<|av aF<|aD<|Ws ?_;refine jW [0,1,2,3,4,5,6,8,9,10,7,11,12,13,14,15] [0,0,0,0,0,0,0,4,0,0,0,4,0,3,0,3] [(13,7,[7]),(15,7,[7]),(13,11,[11]),(15,11,[11]),(14,13,[13]),(15,13,[13])] fun qE dP iC => ?_;have m1:=bB dP h;have b1:=eZ dP (Below.refl B w) q;refine aY (bL g n cap)<|aY (au a)<|aY (bL g n cap)<|aY (au p)<|aY (bL g n cap)<|aY (au p)<|Rp (pf g p) (fun _=>cO 1)<|aY (bL g n cap)<|aY (au a)<|Rp (pf g a) (fun _=>cO 1)<|Rs (aC ((gA d) p)) (aL m1.aH p) ?_;refine Rs (aC ((gA d) a)) (aL m1.aH a) ?_;refine Rp (pf g a) (fun _=>cO 1)<|gW<|qx m1 a (aC ((gA d) p)) fun w1 m2 s2 z1 => ?_;have b2:=s2.below b1 (m_ q b1.size) m1.blk.1;refine Ln<|Rp (pf g p) (fun _=>cO 1)<|gW<|qx m2 p (aC ((gA d) a)) fun w2 m3 s3 z2 => ?_;have b3:=s3.below b2 (m_ q b2.size) m2.blk.1;have m4:Fx.Own w2 B 23 1 (bL g n cap) n (rv .u64 (gA (Sort.swp d a p))):=m3.congr (iG Q (by omega) (by omega));refine Ln<|bQ<|ay<|av (au a)<|Lv (au ((a:Int)+1)) fF<|av (au b)<|Lv (au ((b:Int)-1)) gF<|av (au ((a:Int)+1))<|av (au ((b:Int)-1))<|aD<|Ws<|Wb<|Wo (fun f t => ∃ s:Nat,Sort.partLoop Sort.ltInt a s (b-1) (Sort.swp d a p)=Sort.partLoop Sort.ltInt a (a+1) (b-1) (Sort.swp d a p)/\(a+1<=s/\s<=b)/\f 0=bL g n cap/\f 1=au (a:Int)/\f 2=au (b:Int)/\f 10=au (s:Int)/\f 11=au ((b:Int)-1)/\Fx.Own t B 23 1 (bL g n cap) n (rv .u64 (gA (Sort.swp d a p)))/\Below B w t) (fun f _=>((b:Int)-intOf (f 10)).toNat) ⟨a+1,rfl,(by omega),(by rfl),Fx.ic,Fx.ic,Fx.ic,Fx.ic,m4,b3⟩ ?_;rintro f1 w3 ⟨s,hY0,atC,h1,h2,h3,h4,h5,m5,b4⟩;refine Ws<|Ws ?_;refine lX<|dO h4<|dO h5 ?_;by_cases c32:(s:Int)<=((b:Int)-1)
 ·refine Qv aG (fun r o=>nA c32)<|aW aG<|dO h1<|dO h4<|Qv (pf g s) (fun r o=>cO 1)<|Qv (aC ((gA (Sort.swp d a p)) s)) (fun r o=>aL (m5.cb o) s)<|dO h1<|dO h2<|Qv (pf g a) (fun r o=>cO 1)<|Qv (aC ((gA (Sort.swp d a p)) a)) (fun r o=>aL (m5.cb o) a) ?_;by_cases Sw:(decide ((gA (Sort.swp d a p)) s<(gA (Sort.swp d a p)) a))=true
  ·refine qw (fun _ _=>dQ ((gA (Sort.swp d a p)) s) ((gA (Sort.swp d a p)) a) _) aG (by rw[Sw])<|aW aG<|Qn ?_;intro WT qU;have m6:=bB qU m5;have b5:=eZ qU b4 q;refine sN<|aM<|Wk<|sN<|Wb<|Wl<|aX h4<|Lv (au ((s:Int)+1)) fF<|av (au ((s:Int)+1))<|Ln<|bP<|iq ⟨s+1,((Sl (by omega) (h_ Sw)).trans hY0),(by omega),h1,(h2.trans Fx.ic),(h3.trans Fx.ic),Fx.ic,(h5.trans Fx.ic),m6,b5⟩ ?_;show((b:Int)-intOf (au ((s:Int)+1))).toNat<_;simp only[h4,intOf]; omega
  rw[T_]at Sw;refine qw (fun _ _=>dQ ((gA (Sort.swp d a p)) s) ((gA (Sort.swp d a p)) a) _) aF (by rw[Sw])<|aW aF<|Qn ?_;intro Xt uh;have m7:=bB uh m5;have b6:=eZ uh b4 q;refine sN<|aK<|Wx<|bW<|gP<|bX<|sN<|Ws<|Wb<|Wo (fun f t => ∃ m:Nat,Sort.partLoop Sort.ltInt a s m (Sort.swp d a p)=Sort.partLoop Sort.ltInt a (a+1) (b-1) (Sort.swp d a p)/\(m<s \/ ¬ gA (Sort.swp d a p) s<gA (Sort.swp d a p) a)/\(m<b/\m<=b)/\f 0=bL g n cap/\f 1=au (a:Int)/\f 2=au (b:Int)/\f 10=au (s:Int)/\f 11=au (m:Int)/\Fx.Own t B 23 1 (bL g n cap) n (rv .u64 (gA (Sort.swp d a p)))/\Below B w t) (fun f _=>(intOf (f 11)).toNat) ⟨b-1,hY0,(.inr (j_ Sw)),(by omega),h1,(h2.trans Fx.ic),(h3.trans Fx.ic),(h4.trans Fx.ic),(h5.trans Fx.ic),m7,b6⟩ ?_;rintro f2 w4 ⟨m,Y,Z,akT,M,h7,h8,W,A,m8,b7⟩;refine Ws<|Ws ?_;refine lX<|dO W<|dO A ?_;by_cases c48:(s:Int)<=(m:Int)
  ·refine Qv aG (fun r o=>nA c48)<|aW aG<|dO M<|dO A<|Qv (pf g m) (fun r o=>cO 1)<|Qv (aC ((gA (Sort.swp d a p)) m)) (fun r o=>aL (m8.cb o) m)<|dO M<|dO h7<|Qv (pf g a) (fun r o=>cO 1)<|Qv (aC ((gA (Sort.swp d a p)) a)) (fun r o=>aL (m8.cb o) a) ?_;by_cases P:(decide ((gA (Sort.swp d a p)) m<(gA (Sort.swp d a p)) a))=true
   ·refine qw (fun _ _=>dQ ((gA (Sort.swp d a p)) m) ((gA (Sort.swp d a p)) a) _) aG (by rw[P])<|aW aF<|aW aF<|Qn ?_;intro wb3 wZ;have m9:=bB wZ m8;have b8:=eZ wZ b7 q;refine sN<|aK<|Wx<|bW<|gP<|bX<|sN<|Ws<|ay<|aX W<|aX A<|Lv aF xR<|aD<|aK<|Wk<|sN<|Ws ?_;refine jW [0,1,2,3,4,5,6,8,9,10,7,11,12,13,14,15] [0,0,0,0,0,0,0,4,0,0,0,4,0,3,0,3] [(13,7,[7]),(15,7,[7]),(13,11,[11]),(15,11,[11]),(14,13,[13]),(15,13,[13])] fun CZ gL nT => ?_;have m10:=bB gL m9;have b9:=eZ gL b8 q;refine bU M<|bU W<|bU M<|bU A<|bU M<|bU A<|Rp (pf g m) (fun _=>cO 1)<|bU M<|bU W<|Rp (pf g s) (fun _=>cO 1)<|Rs (aC ((gA (Sort.swp d a p)) m)) (aL m10.aH m) ?_;refine Rs (aC ((gA (Sort.swp d a p)) s)) (aL m10.aH s) ?_;refine Rp (pf g s) (fun _=>cO 1)<|gW<|qx m10 s (aC ((gA (Sort.swp d a p)) m)) fun w5 m11 s8 z3 => ?_;have b10:=s8.below b9 (m_ q b9.size) m10.blk.1;refine Ln<|Rp (pf g m) (fun _=>cO 1)<|gW<|qx m11 m (aC ((gA (Sort.swp d a p)) s)) fun w6 m12 s9 z4 => ?_;have b11:=s9.below b10 (m_ q b10.size) m11.blk.1;have m13:Fx.Own w6 B 23 1 (bL g n cap) n (rv .u64 (gA (Sort.swp (Sort.swp d a p) s m))):=m12.congr (iG (fu Q _ _) (by omega) (by omega));refine Ln<|bQ<|ay<|aX W<|Lv (au ((s:Int)+1)) fF<|av (au ((s:Int)+1))<|aD<|ay<|aX A<|Lv (au ((m:Int)-1)) gF<|av (au ((m:Int)-1))<|aD<|Ws<|Wb<|Wo (fun f t => ∃ i:Nat,∃ j:Nat,∃ k:Array Int,k.size=n/\Sort.partLoop Sort.ltInt a i j k=Sort.partLoop Sort.ltInt a (a+1) (b-1) (Sort.swp d a p)/\(a<i/\j<b/\i<=b)/\f 0=bL g n cap/\f 1=au (a:Int)/\f 2=au (b:Int)/\f 10=au (i:Int)/\f 11=au (j:Int)/\Fx.Own t B 23 1 (bL g n cap) n (rv .u64 (gA k))/\Below B w t) (fun f _=>((b:Int)-intOf (f 10)).toNat) ⟨s+1,m-1,Sort.swp (Sort.swp d a p) s m,(fu (fu Q _ _) _ _),((G7 (by omega) (Z.resolve_left (by omega)) (h_ P)).trans Y),(by omega),M,(h7.trans Fx.ic),(h8.trans Fx.ic),Fx.ic,Fx.ic,m13,b11⟩ ?_;rintro f3 w7 ⟨i,j,k,x,hX,hij,h11,h12,Sv,Xv,h15,m14,b12⟩;refine Wb<|Ws<|Wb<|Wo (fun f t => ∃ l:Nat,Sort.partLoop Sort.ltInt a l j k=Sort.partLoop Sort.ltInt a (a+1) (b-1) (Sort.swp d a p)/\(i<=l/\l<=b)/\f 0=bL g n cap/\f 1=au (a:Int)/\f 2=au (b:Int)/\f 10=au (l:Int)/\f 11=au (j:Int)/\Fx.Own t B 23 1 (bL g n cap) n (rv .u64 (gA k))/\Below B w t) (fun f _=>((b:Int)-intOf (f 10)).toNat) ⟨i,hX,(by omega),h11,(h12.trans Fx.ic),(Sv.trans Fx.ic),(Xv.trans Fx.ic),(h15.trans Fx.ic),m14,b12⟩ ?_;rintro f4 w8 ⟨l,X,akU,h16,Xw,h18,aa,h20,m15,b13⟩;refine Ws<|Ws ?_;refine lX<|dO aa<|dO h20 ?_;by_cases Sy:(l:Int)<=(j:Int)
    ·refine Qv aG (fun r o=>nA Sy)<|aW aG<|dO h16<|dO aa<|Qv (pf g l) (fun r o=>cO 1)<|Qv (aC ((gA k) l)) (fun r o=>aL (m15.cb o) l)<|dO h16<|dO Xw<|Qv (pf g a) (fun r o=>cO 1)<|Qv (aC ((gA k) a)) (fun r o=>aL (m15.cb o) a) ?_;by_cases N:(decide ((gA k) l<(gA k) a))=true
     ·refine qw (fun _ _=>dQ ((gA k) l) ((gA k) a) _) aG (by rw[N])<|aW aG<|Qn ?_;intro wb4 AQ;have m16:=bB AQ m15;have b14:=eZ AQ b13 q;refine sN<|aM<|Wk<|sN<|Wb<|Wl<|aX aa<|Lv (au ((l:Int)+1)) fF<|av (au ((l:Int)+1))<|Ln<|bP<|iq ⟨l+1,((Sl (by omega) (h_ N)).trans X),(by omega),h16,(Xw.trans Fx.ic),(h18.trans Fx.ic),Fx.ic,(h20.trans Fx.ic),m16,b14⟩ ?_;show((b:Int)-intOf (au ((l:Int)+1))).toNat<_;simp only[aa,intOf]; omega
     rw[T_]at N;refine qw (fun _ _=>dQ ((gA k) l) ((gA k) a) _) aF (by rw[N])<|aW aF<|Qn ?_;intro wb5 EM;have m17:=bB EM m15;have b15:=eZ EM b13 q;refine sN<|aK<|Wx<|bW<|gP<|bX<|sN<|Ws<|Wb<|Wo (fun f t => ∃ c:Nat,Sort.partLoop Sort.ltInt a l c k=Sort.partLoop Sort.ltInt a (a+1) (b-1) (Sort.swp d a p)/\(c<l \/ ¬ gA k l<gA k a)/\(c<b/\c<=j)/\f 0=bL g n cap/\f 1=au (a:Int)/\f 2=au (b:Int)/\f 10=au (l:Int)/\f 11=au (c:Int)/\Fx.Own t B 23 1 (bL g n cap) n (rv .u64 (gA k))/\Below B w t) (fun f _=>(intOf (f 11)).toNat) ⟨j,X,(.inr (j_ N)),(by omega),h16,(Xw.trans Fx.ic),(h18.trans Fx.ic),(aa.trans Fx.ic),(h20.trans Fx.ic),m17,b15⟩ ?_;rintro f5 w9 ⟨c,y,z,abA,C,h22,h23,R,D,m18,b16⟩;refine Ws<|Ws ?_;refine lX<|dO R<|dO D ?_;by_cases O:(l:Int)<=(c:Int)
     ·refine Qv aG (fun r o=>nA O)<|aW aG<|dO C<|dO D<|Qv (pf g c) (fun r o=>cO 1)<|Qv (aC ((gA k) c)) (fun r o=>aL (m18.cb o) c)<|dO C<|dO h22<|Qv (pf g a) (fun r o=>cO 1)<|Qv (aC ((gA k) a)) (fun r o=>aL (m18.cb o) a) ?_;by_cases u:(decide ((gA k) c<(gA k) a))=true
      ·refine qw (fun _ _=>dQ ((gA k) c) ((gA k) a) _) aG (by rw[u])<|aW aF<|aW aF<|Qn ?_;intro wb6 Kw;have m19:=bB Kw m18;have b17:=eZ Kw b16 q;refine sN<|aK<|Wx<|bW<|gP<|bX<|sN<|Ws<|ay<|aX R<|aX D<|Lv aF xR<|aD<|aK<|Wk<|sN<|Ws ?_;refine jW [0,1,2,3,4,5,6,8,9,10,7,11,12,13,14,15] [0,0,0,0,0,0,0,4,0,0,0,4,0,3,0,3] [(13,7,[7]),(15,7,[7]),(13,11,[11]),(15,11,[11]),(14,13,[13]),(15,13,[13])] fun Rb lW AP => ?_;have m20:=bB lW m19;have b18:=eZ lW b17 q;refine bU C<|bU R<|bU C<|bU D<|bU C<|bU D<|Rp (pf g c) (fun _=>cO 1)<|bU C<|bU R<|Rp (pf g l) (fun _=>cO 1)<|Rs (aC ((gA k) c)) (aL m20.aH c) ?_;refine Rs (aC ((gA k) l)) (aL m20.aH l) ?_;refine Rp (pf g l) (fun _=>cO 1)<|gW<|qx m20 l (aC ((gA k) c)) fun tH m21 BD z5 => ?_;have b19:=BD.below b18 (m_ q b18.size) m20.blk.1;refine Ln<|Rp (pf g c) (fun _=>cO 1)<|gW<|qx m21 c (aC ((gA k) l)) fun Gc m22 s15 z6 => ?_;have b20:=s15.below b19 (m_ q b19.size) m21.blk.1;have m23:Fx.Own Gc B 23 1 (bL g n cap) n (rv .u64 (gA (Sort.swp k l c))):=m22.congr (iG x (by omega) (by omega));refine Ln<|bQ<|ay<|aX R<|Lv (au ((l:Int)+1)) fF<|av (au ((l:Int)+1))<|aD<|Wl<|aX D<|Lv (au ((c:Int)-1)) gF<|av (au ((c:Int)-1))<|Ln<|bP<|iq ⟨l+1,c-1,Sort.swp k l c,(fu x _ _),((G7 (by omega) (z.resolve_left (by omega)) (h_ u)).trans y),(by omega),C,(h22.trans Fx.ic),(h23.trans Fx.ic),Fx.ic,Fx.ic,m23,b20⟩ ?_;show((b:Int)-intOf (au ((l:Int)+1))).toNat<_;simp only[Xv,intOf]; omega
      rw[T_]at u;refine qw (fun _ _=>dQ ((gA k) c) ((gA k) a) _) aF (by rw[u])<|aW aG<|aW aG<|Qn ?_;intro wb7 Ky;have m24:=bB Ky m18;have PY:=eZ Ky b16 q;refine sN<|aM<|Wk<|sN<|Wb<|Wl<|aX D<|Lv (au ((c:Int)-1)) gF<|av (au ((c:Int)-1))<|Ln<|bP<|iq ⟨c-1,((G6 (by omega) (by omega) (z.resolve_left (by omega)) (j_ u)).trans y),(z.elim (fun h => .inl (by omega)) .inr),(by omega),C,(h22.trans Fx.ic),(h23.trans Fx.ic),(R.trans Fx.ic),Fx.ic,m24,PY⟩ ?_;show(intOf (au ((c:Int)-1))).toNat<_;simp only[D,intOf]; omega
     refine Qv aF (fun r o=>nN O)<|aW aF<|aS<|aS<|aS<|aS<|aS<|aS<|aS<|aS<|aS<|aS<|aW aF<|Qn ?_;intro wb8 Kz;have mV:=bB Kz m18;have Om:=eZ Kz b16 q;refine sN<|aK<|Wx<|bW<|gP<|bX<|sN<|Ws<|ay<|aX R<|aX D<|Lv aG CX<|aD<|aM<|Wx<|bW<|Fx.MH rfl<|gP<|bX<|sN<|Ws ?_;refine jW [0,1,2,3,4,5,6,8,9,10,7,11,12,13,14,15] [0,0,0,0,0,0,0,4,0,0,0,4,0,3,0,3] [(13,7,[7]),(15,7,[7]),(13,11,[11]),(15,11,[11]),(14,13,[13]),(15,13,[13])] fun wt4 qV G8 => ?_;have nO:=bB qV mV;have Xx:=eZ qV Om q;refine bU C<|bU D<|bU C<|bU h22<|bU C<|bU h22<|Rp (pf g a) (fun _=>cO 1)<|bU C<|bU D<|Rp (pf g c) (fun _=>cO 1)<|Rs (aC ((gA k) a)) (aL nO.aH a) ?_;refine Rs (aC ((gA k) c)) (aL nO.aH c) ?_;refine Rp (pf g c) (fun _=>cO 1)<|gW<|qx nO c (aC ((gA k) a)) fun BF ow s19 z7 => ?_;have Xy:=s19.below Xx (m_ q Xx.size) nO.blk.1;refine Ln<|Rp (pf g a) (fun _=>cO 1)<|gW<|qx ow a (aC ((gA k) c)) fun Gq oD s20 z8 => ?_;have b25:=s20.below Xy (m_ q Xy.size) ow.blk.1;have nU:Fx.Own Gq B 23 1 (bL g n cap) n (rv .u64 (gA (Sort.swp k c a))):=oD.congr (iG x (by omega) (by omega));refine Ln<|bQ<|ay<|aX D<|av (au c)<|av aF<|aD<|Wr<|aJ (.tuple #[au (c:Int),.bool false]) ?_;have v:=y.symm.trans (BR (by omega));exact⟨c,false,_,rfl,by rw[Sort.partition_fst,v],by rw[Sort.partition_arr,v],(fu x _ _),nU,b25⟩
    refine Qv aF (fun r o=>nN Sy)<|aW aF<|aS<|aS<|aS<|aS<|aS<|aS<|aS<|aS<|aS<|aW aF<|Qn ?_;intro wb9 KA;have oz:=bB KA m15;have b26:=eZ KA b13 q;refine sN<|aK<|Wx<|bW<|gP<|bX<|sN<|Ws<|Wb<|Wo (fun f t => ∃ c:Nat,Sort.partLoop Sort.ltInt a l c k=Sort.partLoop Sort.ltInt a (a+1) (b-1) (Sort.swp d a p)/\(c<l \/ ¬ gA k l<gA k a)/\(c<b/\c<=j)/\f 0=bL g n cap/\f 1=au (a:Int)/\f 2=au (b:Int)/\f 10=au (l:Int)/\f 11=au (c:Int)/\Fx.Own t B 23 1 (bL g n cap) n (rv .u64 (gA k))/\Below B w t) (fun f _=>(intOf (f 11)).toNat) ⟨j,X,(.inl (by omega)),(by omega),h16,(Xw.trans Fx.ic),(h18.trans Fx.ic),(aa.trans Fx.ic),(h20.trans Fx.ic),oz,b26⟩ ?_;rintro f6 Mr ⟨c,y,z,abA,E,h27,h28,S,F,lZ,b27⟩;refine Ws<|Ws ?_;refine lX<|dO S<|dO F ?_;by_cases O:(l:Int)<=(c:Int)
    ·refine Qv aG (fun r o=>nA O)<|aW aG<|dO E<|dO F<|Qv (pf g c) (fun r o=>cO 1)<|Qv (aC ((gA k) c)) (fun r o=>aL (lZ.cb o) c)<|dO E<|dO h27<|Qv (pf g a) (fun r o=>cO 1)<|Qv (aC ((gA k) a)) (fun r o=>aL (lZ.cb o) a) ?_;by_cases u:(decide ((gA k) c<(gA k) a))=true
     ·refine qw (fun _ _=>dQ ((gA k) c) ((gA k) a) _) aG (by rw[u])<|aW aF<|aW aF<|Qn ?_;intro atD Sz;have m32:=bB Sz lZ;have b28:=eZ Sz b27 q;refine sN<|aK<|Wx<|bW<|gP<|bX<|sN<|Ws<|ay<|aX S<|aX F<|Lv aF xR<|aD<|aK<|Wk<|sN<|Ws ?_;refine jW [0,1,2,3,4,5,6,8,9,10,7,11,12,13,14,15] [0,0,0,0,0,0,0,4,0,0,0,4,0,3,0,3] [(13,7,[7]),(15,7,[7]),(13,11,[11]),(15,11,[11]),(14,13,[13]),(15,13,[13])] fun wt5 zF SA => ?_;have pR:=bB zF m32;have b29:=eZ zF b28 q;refine bU E<|bU S<|bU E<|bU F<|bU E<|bU F<|Rp (pf g c) (fun _=>cO 1)<|bU E<|bU S<|Rp (pf g l) (fun _=>cO 1)<|Rs (aC ((gA k) c)) (aL pR.aH c) ?_;refine Rs (aC ((gA k) l)) (aL pR.aH l) ?_;refine Rp (pf g l) (fun _=>cO 1)<|gW<|qx pR l (aC ((gA k) c)) fun Ms nG s24 z9 => ?_;have b30:=s24.below b29 (m_ q b29.size) pR.blk.1;refine Ln<|Rp (pf g c) (fun _=>cO 1)<|gW<|qx nG c (aC ((gA k) l)) fun w16 oF ZV z10 => ?_;have b31:=ZV.below b30 (m_ q b30.size) nG.blk.1;have nV:Fx.Own w16 B 23 1 (bL g n cap) n (rv .u64 (gA (Sort.swp k l c))):=oF.congr (iG x (by omega) (by omega));refine Ln<|bQ<|ay<|aX S<|Lv (au ((l:Int)+1)) fF<|av (au ((l:Int)+1))<|aD<|Wl<|aX F<|Lv (au ((c:Int)-1)) gF<|av (au ((c:Int)-1))<|Ln<|bP<|iq ⟨l+1,c-1,Sort.swp k l c,(fu x _ _),((G7 (by omega) (z.resolve_left (by omega)) (h_ u)).trans y),(by omega),E,(h27.trans Fx.ic),(h28.trans Fx.ic),Fx.ic,Fx.ic,nV,b31⟩ ?_;show((b:Int)-intOf (au ((l:Int)+1))).toNat<_;simp only[Xv,intOf]; omega
     rw[T_]at u;refine qw (fun _ _=>dQ ((gA k) c) ((gA k) a) _) aF (by rw[u])<|aW aG<|aW aG<|Qn ?_;intro atE SB;have rQ:=bB SB lZ;have b32:=eZ SB b27 q;refine sN<|aM<|Wk<|sN<|Wb<|Wl<|aX F<|Lv (au ((c:Int)-1)) gF<|av (au ((c:Int)-1))<|Ln<|bP<|iq ⟨c-1,((G6 (by omega) (by omega) (z.resolve_left (by omega)) (j_ u)).trans y),(z.elim (fun h => .inl (by omega)) .inr),(by omega),E,(h27.trans Fx.ic),(h28.trans Fx.ic),(S.trans Fx.ic),Fx.ic,rQ,b32⟩ ?_;show(intOf (au ((c:Int)-1))).toNat<_;simp only[F,intOf]; omega
    refine Qv aF (fun r o=>nN O)<|aW aF<|aS<|aS<|aS<|aS<|aS<|aS<|aS<|aS<|aS<|aS<|aW aF<|Qn ?_;intro atF SC;have qG:=bB SC lZ;have b33:=eZ SC b27 q;refine sN<|aK<|Wx<|bW<|gP<|bX<|sN<|Ws<|ay<|aX S<|aX F<|Lv aG CX<|aD<|aM<|Wx<|bW<|Fx.MH rfl<|gP<|bX<|sN<|Ws ?_;refine jW [0,1,2,3,4,5,6,8,9,10,7,11,12,13,14,15] [0,0,0,0,0,0,0,4,0,0,0,4,0,3,0,3] [(13,7,[7]),(15,7,[7]),(13,11,[11]),(15,11,[11]),(14,13,[13]),(15,13,[13])] fun wt6 KC aga => ?_;have qH:=bB KC qG;have b34:=eZ KC b33 q;refine bU E<|bU F<|bU E<|bU h27<|bU E<|bU h27<|Rp (pf g a) (fun _=>cO 1)<|bU E<|bU F<|Rp (pf g c) (fun _=>cO 1)<|Rs (aC ((gA k) a)) (aL qH.aH a) ?_;refine Rs (aC ((gA k) c)) (aL qH.aH c) ?_;refine Rp (pf g c) (fun _=>cO 1)<|gW<|qx qH c (aC ((gA k) a)) fun WU tN s29 z11 => ?_;have b35:=s29.below b34 (m_ q b34.size) qH.blk.1;refine Ln<|Rp (pf g a) (fun _=>cO 1)<|gW<|qx tN a (aC ((gA k) c)) fun WV mW s30 z12 => ?_;have b36:=s30.below b35 (m_ q b35.size) tN.blk.1;have mK:Fx.Own WV B 23 1 (bL g n cap) n (rv .u64 (gA (Sort.swp k c a))):=mW.congr (iG x (by omega) (by omega));refine Ln<|bQ<|ay<|aX F<|av (au c)<|av aF<|aD<|Wr<|aJ (.tuple #[au (c:Int),.bool false]) ?_;have v:=y.symm.trans (BR (by omega));exact⟨c,false,_,rfl,by rw[Sort.partition_fst,v],by rw[Sort.partition_arr,v],(fu x _ _),mK,b36⟩
   rw[T_]at P;refine qw (fun _ _=>dQ ((gA (Sort.swp d a p)) m) ((gA (Sort.swp d a p)) a) _) aF (by rw[P])<|aW aG<|aW aG<|Qn ?_;intro atK SE;have mX:=bB SE m8;have b37:=eZ SE b7 q;refine sN<|aM<|Wk<|sN<|Wb<|Wl<|aX A<|Lv (au ((m:Int)-1)) gF<|av (au ((m:Int)-1))<|Ln<|bP<|iq ⟨m-1,((G6 (by omega) (by omega) (Z.resolve_left (by omega)) (j_ P)).trans Y),(Z.elim (fun h => .inl (by omega)) .inr),(by omega),M,(h7.trans Fx.ic),(h8.trans Fx.ic),(W.trans Fx.ic),Fx.ic,mX,b37⟩ ?_;show(intOf (au ((m:Int)-1))).toNat<_;simp only[A,intOf]; omega
  refine Qv aF (fun r o=>nN c48)<|aW aF<|aS<|aS<|aS<|aS<|aS<|aS<|aS<|aS<|aS<|aS<|aW aF<|Qn ?_;intro atN SF;have qI:=bB SF m8;have b38:=eZ SF b7 q;refine sN<|aK<|Wx<|bW<|gP<|bX<|sN<|Ws<|ay<|aX W<|aX A<|Lv aG CX<|aD<|aM<|Ws ?_;refine jW [0,1,2,3,4,5,6,8,9,10,7,11,12,13,14,15] [0,0,0,0,0,0,0,4,0,0,0,4,0,3,0,3] [(13,7,[7]),(15,7,[7]),(13,11,[11]),(15,11,[11]),(14,13,[13]),(15,13,[13])] fun wt7 KD agb => ?_;have qy:=bB KD qI;have b39:=eZ KD b38 q;refine bU M<|bU A<|bU M<|bU h7<|bU M<|bU h7<|Rp (pf g a) (fun _=>cO 1)<|bU M<|bU A<|Rp (pf g m) (fun _=>cO 1)<|Rs (aC ((gA (Sort.swp d a p)) a)) (aL qy.aH a) ?_;refine Rs (aC ((gA (Sort.swp d a p)) m)) (aL qy.aH m) ?_;refine Rp (pf g m) (fun _=>cO 1)<|gW<|qx qy m (aC ((gA (Sort.swp d a p)) a)) fun w19 oG s34 z13 => ?_;have b40:=s34.below b39 (m_ q b39.size) qy.blk.1;refine Ln<|Rp (pf g a) (fun _=>cO 1)<|gW<|qx oG a (aC ((gA (Sort.swp d a p)) m)) fun WW rG s35 z14 => ?_;have b41:=s35.below b40 (m_ q b40.size) oG.blk.1;have uW:Fx.Own WW B 23 1 (bL g n cap) n (rv .u64 (gA (Sort.swp (Sort.swp d a p) m a))):=rG.congr (iG (fu Q _ _) (by omega) (by omega));refine Ln<|bQ<|ay<|aX A<|av (au m)<|av aG<|aD<|Wr<|sR<|aJ (.tuple #[au (m:Int),.bool true]) ?_;have v:=Y.symm.trans (BR (by omega));exact⟨m,true,_,rfl,by rw[Sort.partition_fst,v],by rw[Sort.partition_arr,v],(fu (fu Q _ _) _ _),uW,b41⟩
 refine Qv aF (fun r o=>nN c32)<|aW aF<|aS<|aS<|aS<|aS<|aS<|aS<|aS<|aS<|aS<|aW aF<|Qn ?_;intro atU SG;have tO:=bB SG m5;have b42:=eZ SG b4 q;refine sN<|aK<|Wx<|bW<|gP<|bX<|sN<|Ws<|Wb<|Wo (fun f t => ∃ m:Nat,Sort.partLoop Sort.ltInt a s m (Sort.swp d a p)=Sort.partLoop Sort.ltInt a (a+1) (b-1) (Sort.swp d a p)/\(m<s \/ ¬ gA (Sort.swp d a p) s<gA (Sort.swp d a p) a)/\(m<b/\m<=b)/\f 0=bL g n cap/\f 1=au (a:Int)/\f 2=au (b:Int)/\f 10=au (s:Int)/\f 11=au (m:Int)/\Fx.Own t B 23 1 (bL g n cap) n (rv .u64 (gA (Sort.swp d a p)))/\Below B w t) (fun f _=>(intOf (f 11)).toNat) ⟨b-1,hY0,(.inl (by omega)),(by omega),h1,(h2.trans Fx.ic),(h3.trans Fx.ic),(h4.trans Fx.ic),(h5.trans Fx.ic),tO,b42⟩ ?_;rintro f7 w21 ⟨m,Y,Z,akT,G,h32,h33,T,H,tJ,b43⟩;refine Ws<|Ws ?_;refine lX<|dO T<|dO H ?_;by_cases c48:(s:Int)<=(m:Int)
 ·refine Qv aG (fun r o=>nA c48)<|aW aG<|dO G<|dO H<|Qv (pf g m) (fun r o=>cO 1)<|Qv (aC ((gA (Sort.swp d a p)) m)) (fun r o=>aL (tJ.cb o) m)<|dO G<|dO h32<|Qv (pf g a) (fun r o=>cO 1)<|Qv (aC ((gA (Sort.swp d a p)) a)) (fun r o=>aL (tJ.cb o) a) ?_;by_cases P:(decide ((gA (Sort.swp d a p)) m<(gA (Sort.swp d a p)) a))=true
  ·refine qw (fun _ _=>dQ ((gA (Sort.swp d a p)) m) ((gA (Sort.swp d a p)) a) _) aG (by rw[P])<|aW aF<|aW aF<|Qn ?_;intro atW SH;have vN:=bB SH tJ;have b44:=eZ SH b43 q;refine sN<|aK<|Wx<|bW<|gP<|bX<|sN<|Ws<|ay<|aX T<|aX H<|Lv aF xR<|aD<|aK<|Wk<|sN<|Ws ?_;refine jW [0,1,2,3,4,5,6,8,9,10,7,11,12,13,14,15] [0,0,0,0,0,0,0,4,0,0,0,4,0,3,0,3] [(13,7,[7]),(15,7,[7]),(13,11,[11]),(15,11,[11]),(14,13,[13]),(15,13,[13])] fun wt8 ZW arJ => ?_;have uN:=bB ZW vN;have b45:=eZ ZW b44 q;refine bU G<|bU T<|bU G<|bU H<|bU G<|bU H<|Rp (pf g m) (fun _=>cO 1)<|bU G<|bU T<|Rp (pf g s) (fun _=>cO 1)<|Rs (aC ((gA (Sort.swp d a p)) m)) (aL uN.aH m) ?_;refine Rs (aC ((gA (Sort.swp d a p)) s)) (aL uN.aH s) ?_;refine Rp (pf g s) (fun _=>cO 1)<|gW<|qx uN s (aC ((gA (Sort.swp d a p)) m)) fun w22 uj s39 z15 => ?_;have b46:=s39.below b45 (m_ q b45.size) uN.blk.1;refine Ln<|Rp (pf g m) (fun _=>cO 1)<|gW<|qx uj m (aC ((gA (Sort.swp d a p)) s)) fun w23 uX s40 z16 => ?_;have b47:=s40.below b46 (m_ q b46.size) uj.blk.1;have xC:Fx.Own w23 B 23 1 (bL g n cap) n (rv .u64 (gA (Sort.swp (Sort.swp d a p) s m))):=uX.congr (iG (fu Q _ _) (by omega) (by omega));refine Ln<|bQ<|ay<|aX T<|Lv (au ((s:Int)+1)) fF<|av (au ((s:Int)+1))<|aD<|ay<|aX H<|Lv (au ((m:Int)-1)) gF<|av (au ((m:Int)-1))<|aD<|Ws<|Wb<|Wo (fun f t => ∃ i:Nat,∃ j:Nat,∃ k:Array Int,k.size=n/\Sort.partLoop Sort.ltInt a i j k=Sort.partLoop Sort.ltInt a (a+1) (b-1) (Sort.swp d a p)/\(a<i/\j<b/\i<=b)/\f 0=bL g n cap/\f 1=au (a:Int)/\f 2=au (b:Int)/\f 10=au (i:Int)/\f 11=au (j:Int)/\Fx.Own t B 23 1 (bL g n cap) n (rv .u64 (gA k))/\Below B w t) (fun f _=>((b:Int)-intOf (f 10)).toNat) ⟨s+1,m-1,Sort.swp (Sort.swp d a p) s m,(fu (fu Q _ _) _ _),((G7 (by omega) (Z.resolve_left (by omega)) (h_ P)).trans Y),(by omega),G,(h32.trans Fx.ic),(h33.trans Fx.ic),Fx.ic,Fx.ic,xC,b47⟩ ?_;rintro f8 w24 ⟨i,j,k,x,hX,hij,h36,h37,h38,h39,h40,sw,b48⟩;refine Wb<|Ws<|Wb<|Wo (fun f t => ∃ l:Nat,Sort.partLoop Sort.ltInt a l j k=Sort.partLoop Sort.ltInt a (a+1) (b-1) (Sort.swp d a p)/\(i<=l/\l<=b)/\f 0=bL g n cap/\f 1=au (a:Int)/\f 2=au (b:Int)/\f 10=au (l:Int)/\f 11=au (j:Int)/\Fx.Own t B 23 1 (bL g n cap) n (rv .u64 (gA k))/\Below B w t) (fun f _=>((b:Int)-intOf (f 10)).toNat) ⟨i,hX,(by omega),h36,(h37.trans Fx.ic),(h38.trans Fx.ic),(h39.trans Fx.ic),(h40.trans Fx.ic),sw,b48⟩ ?_;rintro f9 w25 ⟨l,X,akU,h41,h42,h43,h44,h45,sD,b49⟩;refine Ws<|Ws ?_;refine lX<|dO h44<|dO h45 ?_;by_cases Sy:(l:Int)<=(j:Int)
   ·refine Qv aG (fun r o=>nA Sy)<|aW aG<|dO h41<|dO h44<|Qv (pf g l) (fun r o=>cO 1)<|Qv (aC ((gA k) l)) (fun r o=>aL (sD.cb o) l)<|dO h41<|dO h42<|Qv (pf g a) (fun r o=>cO 1)<|Qv (aC ((gA k) a)) (fun r o=>aL (sD.cb o) a) ?_;by_cases N:(decide ((gA k) l<(gA k) a))=true
    ·refine qw (fun _ _=>dQ ((gA k) l) ((gA k) a) _) aG (by rw[N])<|aW aG<|Qn ?_;intro auf SI;have tK:=bB SI sD;have b50:=eZ SI b49 q;refine sN<|aM<|Wk<|sN<|Wb<|Wl<|aX h44<|Lv (au ((l:Int)+1)) fF<|av (au ((l:Int)+1))<|Ln<|bP<|iq ⟨l+1,((Sl (by omega) (h_ N)).trans X),(by omega),h41,(h42.trans Fx.ic),(h43.trans Fx.ic),Fx.ic,(h45.trans Fx.ic),tK,b50⟩ ?_;show((b:Int)-intOf (au ((l:Int)+1))).toNat<_;simp only[h44,intOf]; omega
    rw[T_]at N;refine qw (fun _ _=>dQ ((gA k) l) ((gA k) a) _) aF (by rw[N])<|aW aF<|Qn ?_;intro auh SK;have xD:=bB SK sD;have b51:=eZ SK b49 q;refine sN<|aK<|Wx<|bW<|gP<|bX<|sN<|Ws<|Wb<|Wo (fun f t => ∃ c:Nat,Sort.partLoop Sort.ltInt a l c k=Sort.partLoop Sort.ltInt a (a+1) (b-1) (Sort.swp d a p)/\(c<l \/ ¬ gA k l<gA k a)/\(c<b/\c<=j)/\f 0=bL g n cap/\f 1=au (a:Int)/\f 2=au (b:Int)/\f 10=au (l:Int)/\f 11=au (c:Int)/\Fx.Own t B 23 1 (bL g n cap) n (rv .u64 (gA k))/\Below B w t) (fun f _=>(intOf (f 11)).toNat) ⟨j,X,(.inr (j_ N)),(by omega),h41,(h42.trans Fx.ic),(h43.trans Fx.ic),(h44.trans Fx.ic),(h45.trans Fx.ic),xD,b51⟩ ?_;rintro f10 w26 ⟨c,y,z,abA,I,h47,h48,U,J,qJ,b52⟩;refine Ws<|Ws ?_;refine lX<|dO U<|dO J ?_;by_cases O:(l:Int)<=(c:Int)
    ·refine Qv aG (fun r o=>nA O)<|aW aG<|dO I<|dO J<|Qv (pf g c) (fun r o=>cO 1)<|Qv (aC ((gA k) c)) (fun r o=>aL (qJ.cb o) c)<|dO I<|dO h47<|Qv (pf g a) (fun r o=>cO 1)<|Qv (aC ((gA k) a)) (fun r o=>aL (qJ.cb o) a) ?_;by_cases u:(decide ((gA k) c<(gA k) a))=true
     ·refine qw (fun _ _=>dQ ((gA k) c) ((gA k) a) _) aG (by rw[u])<|aW aF<|aW aF<|Qn ?_;intro auj SL;have uz:=bB SL qJ;have b53:=eZ SL b52 q;refine sN<|aK<|Wx<|bW<|gP<|bX<|sN<|Ws<|ay<|aX U<|aX J<|Lv aF xR<|aD<|aK<|Wk<|sN<|Ws ?_;refine jW [0,1,2,3,4,5,6,8,9,10,7,11,12,13,14,15] [0,0,0,0,0,0,0,4,0,0,0,4,0,3,0,3] [(13,7,[7]),(15,7,[7]),(13,11,[11]),(15,11,[11]),(14,13,[13]),(15,13,[13])] fun wt9 ZX arQ => ?_;have nW:=bB ZX uz;have b54:=eZ ZX b53 q;refine bU I<|bU U<|bU I<|bU J<|bU I<|bU J<|Rp (pf g c) (fun _=>cO 1)<|bU I<|bU U<|Rp (pf g l) (fun _=>cO 1)<|Rs (aC ((gA k) c)) (aL nW.aH c) ?_;refine Rs (aC ((gA k) l)) (aL nW.aH l) ?_;refine Rp (pf g l) (fun _=>cO 1)<|gW<|qx nW l (aC ((gA k) c)) fun w27 tL s45 z17 => ?_;have b55:=s45.below b54 (m_ q b54.size) nW.blk.1;refine Ln<|Rp (pf g c) (fun _=>cO 1)<|gW<|qx tL c (aC ((gA k) l)) fun w28 m64 s46 z18 => ?_;have b56:=s46.below b55 (m_ q b55.size) tL.blk.1;have xE:Fx.Own w28 B 23 1 (bL g n cap) n (rv .u64 (gA (Sort.swp k l c))):=m64.congr (iG x (by omega) (by omega));refine Ln<|bQ<|ay<|aX U<|Lv (au ((l:Int)+1)) fF<|av (au ((l:Int)+1))<|aD<|Wl<|aX J<|Lv (au ((c:Int)-1)) gF<|av (au ((c:Int)-1))<|Ln<|bP<|iq ⟨l+1,c-1,Sort.swp k l c,(fu x _ _),((G7 (by omega) (z.resolve_left (by omega)) (h_ u)).trans y),(by omega),I,(h47.trans Fx.ic),(h48.trans Fx.ic),Fx.ic,Fx.ic,xE,b56⟩ ?_;show((b:Int)-intOf (au ((l:Int)+1))).toNat<_;simp only[h39,intOf]; omega
     rw[T_]at u;refine qw (fun _ _=>dQ ((gA k) c) ((gA k) a) _) aF (by rw[u])<|aW aG<|aW aG<|Qn ?_;intro aup SN;have xg:=bB SN qJ;have b57:=eZ SN b52 q;refine sN<|aM<|Wk<|sN<|Wb<|Wl<|aX J<|Lv (au ((c:Int)-1)) gF<|av (au ((c:Int)-1))<|Ln<|bP<|iq ⟨c-1,((G6 (by omega) (by omega) (z.resolve_left (by omega)) (j_ u)).trans y),(z.elim (fun h => .inl (by omega)) .inr),(by omega),I,(h47.trans Fx.ic),(h48.trans Fx.ic),(U.trans Fx.ic),Fx.ic,xg,b57⟩ ?_;show(intOf (au ((c:Int)-1))).toNat<_;simp only[J,intOf]; omega
    refine Qv aF (fun r o=>nN O)<|aW aF<|aS<|aS<|aS<|aS<|aS<|aS<|aS<|aS<|aS<|aS<|aW aF<|Qn ?_;intro aur SQ;have vO:=bB SQ qJ;have b58:=eZ SQ b52 q;refine sN<|aK<|Wx<|bW<|gP<|bX<|sN<|Ws<|ay<|aX U<|aX J<|Lv aG CX<|aD<|aM<|Wx<|bW<|Fx.MH rfl<|gP<|bX<|sN<|Ws ?_;refine jW [0,1,2,3,4,5,6,8,9,10,7,11,12,13,14,15] [0,0,0,0,0,0,0,4,0,0,0,4,0,3,0,3] [(13,7,[7]),(15,7,[7]),(13,11,[11]),(15,11,[11]),(14,13,[13]),(15,13,[13])] fun aut SS alb => ?_;have wz:=bB SS vO;have b59:=eZ SS b58 q;refine bU I<|bU J<|bU I<|bU h47<|bU I<|bU h47<|Rp (pf g a) (fun _=>cO 1)<|bU I<|bU J<|Rp (pf g c) (fun _=>cO 1)<|Rs (aC ((gA k) a)) (aL wz.aH a) ?_;refine Rs (aC ((gA k) c)) (aL wz.aH c) ?_;refine Rp (pf g c) (fun _=>cO 1)<|gW<|qx wz c (aC ((gA k) a)) fun w29 sF s50 z19 => ?_;have b60:=s50.below b59 (m_ q b59.size) wz.blk.1;refine Ln<|Rp (pf g a) (fun _=>cO 1)<|gW<|qx sF a (aC ((gA k) c)) fun w30 uO s51 z20 => ?_;have b61:=s51.below b60 (m_ q b60.size) sF.blk.1;have uY:Fx.Own w30 B 23 1 (bL g n cap) n (rv .u64 (gA (Sort.swp k c a))):=uO.congr (iG x (by omega) (by omega));refine Ln<|bQ<|ay<|aX J<|av (au c)<|av aF<|aD<|Wr<|aJ (.tuple #[au (c:Int),.bool false]) ?_;have v:=y.symm.trans (BR (by omega));exact⟨c,false,_,rfl,by rw[Sort.partition_fst,v],by rw[Sort.partition_arr,v],(fu x _ _),uY,b61⟩
   refine Qv aF (fun r o=>nN Sy)<|aW aF<|aS<|aS<|aS<|aS<|aS<|aS<|aS<|aS<|aS<|aW aF<|Qn ?_;intro auz SV;have vP:=bB SV sD;have b62:=eZ SV b49 q;refine sN<|aK<|Wx<|bW<|gP<|bX<|sN<|Ws<|Wb<|Wo (fun f t => ∃ c:Nat,Sort.partLoop Sort.ltInt a l c k=Sort.partLoop Sort.ltInt a (a+1) (b-1) (Sort.swp d a p)/\(c<l \/ ¬ gA k l<gA k a)/\(c<b/\c<=j)/\f 0=bL g n cap/\f 1=au (a:Int)/\f 2=au (b:Int)/\f 10=au (l:Int)/\f 11=au (c:Int)/\Fx.Own t B 23 1 (bL g n cap) n (rv .u64 (gA k))/\Below B w t) (fun f _=>(intOf (f 11)).toNat) ⟨j,X,(.inl (by omega)),(by omega),h41,(h42.trans Fx.ic),(h43.trans Fx.ic),(h44.trans Fx.ic),(h45.trans Fx.ic),vP,b62⟩ ?_;rintro f11 w31 ⟨c,y,z,abA,K,h52,h53,V,L,vQ,b63⟩;refine Ws<|Ws ?_;refine lX<|dO V<|dO L ?_;by_cases O:(l:Int)<=(c:Int)
   ·refine Qv aG (fun r o=>nA O)<|aW aG<|dO K<|dO L<|Qv (pf g c) (fun r o=>cO 1)<|Qv (aC ((gA k) c)) (fun r o=>aL (vQ.cb o) c)<|dO K<|dO h52<|Qv (pf g a) (fun r o=>cO 1)<|Qv (aC ((gA k) a)) (fun r o=>aL (vQ.cb o) a) ?_;by_cases u:(decide ((gA k) c<(gA k) a))=true
    ·refine qw (fun _ _=>dQ ((gA k) c) ((gA k) a) _) aG (by rw[u])<|aW aF<|aW aF<|Qn ?_;intro auB SX;have zG:=bB SX vQ;have b64:=eZ SX b63 q;refine sN<|aK<|Wx<|bW<|gP<|bX<|sN<|Ws<|ay<|aX V<|aX L<|Lv aF xR<|aD<|aK<|Wk<|sN<|Ws ?_;refine jW [0,1,2,3,4,5,6,8,9,10,7,11,12,13,14,15] [0,0,0,0,0,0,0,4,0,0,0,4,0,3,0,3] [(13,7,[7]),(15,7,[7]),(13,11,[11]),(15,11,[11]),(14,13,[13]),(15,13,[13])] fun auC SY ald => ?_;have xk:=bB SY zG;have b65:=eZ SY b64 q;refine bU K<|bU V<|bU K<|bU L<|bU K<|bU L<|Rp (pf g c) (fun _=>cO 1)<|bU K<|bU V<|Rp (pf g l) (fun _=>cO 1)<|Rs (aC ((gA k) c)) (aL xk.aH c) ?_;refine Rs (aC ((gA k) l)) (aL xk.aH l) ?_;refine Rp (pf g l) (fun _=>cO 1)<|gW<|qx xk l (aC ((gA k) c)) fun w32 zm s55 z21 => ?_;have b66:=s55.below b65 (m_ q b65.size) xk.blk.1;refine Ln<|Rp (pf g c) (fun _=>cO 1)<|gW<|qx zm c (aC ((gA k) l)) fun w33 zn s56 z22 => ?_;have b67:=s56.below b66 (m_ q b66.size) zm.blk.1;have yJ:Fx.Own w33 B 23 1 (bL g n cap) n (rv .u64 (gA (Sort.swp k l c))):=zn.congr (iG x (by omega) (by omega));refine Ln<|bQ<|ay<|aX V<|Lv (au ((l:Int)+1)) fF<|av (au ((l:Int)+1))<|aD<|Wl<|aX L<|Lv (au ((c:Int)-1)) gF<|av (au ((c:Int)-1))<|Ln<|bP<|iq ⟨l+1,c-1,Sort.swp k l c,(fu x _ _),((G7 (by omega) (z.resolve_left (by omega)) (h_ u)).trans y),(by omega),K,(h52.trans Fx.ic),(h53.trans Fx.ic),Fx.ic,Fx.ic,yJ,b67⟩ ?_;show((b:Int)-intOf (au ((l:Int)+1))).toNat<_;simp only[h39,intOf]; omega
    rw[T_]at u;refine qw (fun _ _=>dQ ((gA k) c) ((gA k) a) _) aF (by rw[u])<|aW aG<|aW aG<|Qn ?_;intro auH S9;have xq:=bB S9 vQ;have b68:=eZ S9 b63 q;refine sN<|aM<|Wk<|sN<|Wb<|Wl<|aX L<|Lv (au ((c:Int)-1)) gF<|av (au ((c:Int)-1))<|Ln<|bP<|iq ⟨c-1,((G6 (by omega) (by omega) (z.resolve_left (by omega)) (j_ u)).trans y),(z.elim (fun h => .inl (by omega)) .inr),(by omega),K,(h52.trans Fx.ic),(h53.trans Fx.ic),(V.trans Fx.ic),Fx.ic,xq,b68⟩ ?_;show(intOf (au ((c:Int)-1))).toNat<_;simp only[L,intOf]; omega
   refine Qv aF (fun r o=>nN O)<|aW aF<|aS<|aS<|aS<|aS<|aS<|aS<|aS<|aS<|aS<|aS<|aW aF<|Qn ?_;intro auJ Ta;have wB:=bB Ta vQ;have b69:=eZ Ta b63 q;refine sN<|aK<|Wx<|bW<|gP<|bX<|sN<|Ws<|ay<|aX V<|aX L<|Lv aG CX<|aD<|aM<|Wx<|bW<|Fx.MH rfl<|gP<|bX<|sN<|Ws ?_;refine jW [0,1,2,3,4,5,6,8,9,10,7,11,12,13,14,15] [0,0,0,0,0,0,0,4,0,0,0,4,0,3,0,3] [(13,7,[7]),(15,7,[7]),(13,11,[11]),(15,11,[11]),(14,13,[13]),(15,13,[13])] fun auL Td ale => ?_;have wC:=bB Td wB;have b70:=eZ Td b69 q;refine bU K<|bU L<|bU K<|bU h52<|bU K<|bU h52<|Rp (pf g a) (fun _=>cO 1)<|bU K<|bU L<|Rp (pf g c) (fun _=>cO 1)<|Rs (aC ((gA k) a)) (aL wC.aH a) ?_;refine Rs (aC ((gA k) c)) (aL wC.aH c) ?_;refine Rp (pf g c) (fun _=>cO 1)<|gW<|qx wC c (aC ((gA k) a)) fun w34 xW s60 z23 => ?_;have b71:=s60.below b70 (m_ q b70.size) wC.blk.1;refine Ln<|Rp (pf g a) (fun _=>cO 1)<|gW<|qx xW a (aC ((gA k) c)) fun w35 zT s61 z24 => ?_;have b72:=s61.below b71 (m_ q b71.size) xW.blk.1;have xX:Fx.Own w35 B 23 1 (bL g n cap) n (rv .u64 (gA (Sort.swp k c a))):=zT.congr (iG x (by omega) (by omega));refine Ln<|bQ<|ay<|aX L<|av (au c)<|av aF<|aD<|Wr<|aJ (.tuple #[au (c:Int),.bool false]) ?_;have v:=y.symm.trans (BR (by omega));exact⟨c,false,_,rfl,by rw[Sort.partition_fst,v],by rw[Sort.partition_arr,v],(fu x _ _),xX,b72⟩
  rw[T_]at P;refine qw (fun _ _=>dQ ((gA (Sort.swp d a p)) m) ((gA (Sort.swp d a p)) a) _) aF (by rw[P])<|aW aG<|aW aG<|Qn ?_;intro auQ Te;have AU:=bB Te tJ;have b73:=eZ Te b43 q;refine sN<|aM<|Wk<|sN<|Wb<|Wl<|aX H<|Lv (au ((m:Int)-1)) gF<|av (au ((m:Int)-1))<|Ln<|bP<|iq ⟨m-1,((G6 (by omega) (by omega) (Z.resolve_left (by omega)) (j_ P)).trans Y),(Z.elim (fun h => .inl (by omega)) .inr),(by omega),G,(h32.trans Fx.ic),(h33.trans Fx.ic),(T.trans Fx.ic),Fx.ic,AU,b73⟩ ?_;show(intOf (au ((m:Int)-1))).toNat<_;simp only[H,intOf]; omega
 refine Qv aF (fun r o=>nN c48)<|aW aF<|aS<|aS<|aS<|aS<|aS<|aS<|aS<|aS<|aS<|aS<|aW aF<|Qn ?_;intro auS Tf;have Au:=bB Tf tJ;have b74:=eZ Tf b43 q;refine sN<|aK<|Wx<|bW<|gP<|bX<|sN<|Ws<|ay<|aX T<|aX H<|Lv aG CX<|aD<|aM<|Ws ?_;refine jW [0,1,2,3,4,5,6,8,9,10,7,11,12,13,14,15] [0,0,0,0,0,0,0,4,0,0,0,4,0,3,0,3] [(13,7,[7]),(15,7,[7]),(13,11,[11]),(15,11,[11]),(14,13,[13]),(15,13,[13])] fun auU Tg alf => ?_;have Av:=bB Tg Au;have b75:=eZ Tg b74 q;refine bU G<|bU H<|bU G<|bU h32<|bU G<|bU h32<|Rp (pf g a) (fun _=>cO 1)<|bU G<|bU H<|Rp (pf g m) (fun _=>cO 1)<|Rs (aC ((gA (Sort.swp d a p)) a)) (aL Av.aH a) ?_;refine Rs (aC ((gA (Sort.swp d a p)) m)) (aL Av.aH m) ?_;refine Rp (pf g m) (fun _=>cO 1)<|gW<|qx Av m (aC ((gA (Sort.swp d a p)) a)) fun w36 zU s65 z25 => ?_;have b76:=s65.below b75 (m_ q b75.size) Av.blk.1;refine Ln<|Rp (pf g a) (fun _=>cO 1)<|gW<|qx zU a (aC ((gA (Sort.swp d a p)) m)) fun w37 zV s66 z26 => ?_;have b77:=s66.below b76 (m_ q b76.size) zU.blk.1;have AV:Fx.Own w37 B 23 1 (bL g n cap) n (rv .u64 (gA (Sort.swp (Sort.swp d a p) m a))):=zV.congr (iG (fu Q _ _) (by omega) (by omega));refine Ln<|bQ<|ay<|aX H<|av (au m)<|av aG<|aD<|Wr<|sR<|aJ (.tuple #[au (m:Int),.bool true]) ?_;have v:=Y.symm.trans (BR (by omega));exact⟨m,true,_,rfl,by rw[Sort.partition_fst,v],by rw[Sort.partition_arr,v],(fu (fu Q _ _) _ _),AV,b77⟩
end
end Go.Proofs.YtcbedgfikejkoaaGreatDoor
