/-
  What the proof of the law rests on, part 2: walks of functions, and plain laws; each says its conditions itself.
-/
import Derived.WideKeyRuns
import Derived.DeepKeys3
import Derived.Test.YtcbedgfikejkoaaDoorRows
import Derived.RangeFuncNested
import Derived.RangeFuncBound
import Derived.RangeFuncCalls
import Derived.RangeFuncLeaves
import Derived.RangeFuncFrom
import Derived.Sort.LotA
import Derived.Sort.LotB
import Derived.Sort.LotC
import Derived.Sort.LotD3
import Derived.Sort.LotD1
import Derived.Test.YtcbedgfikejkoaaDoorZB1
set_option maxHeartbeats 1600000
set_option linter.unusedVariables false
set_option linter.unusedSimpArgs false
namespace Go.Proofs.YtcbedgfikejkoaaDoor.Fx
open Go.RowKit Go.MapKept
def kS(a b:Int):Value := .agg #[.int .i64 a,.int .u64 b]
structure yC(a b:Int):Prop where
 a : -9223372036854775808<=a/\a<=9223372036854775807
 b:0<=b/\b<=18446744073709551615
theorem Gv{a b c d:Int}(h:kS a b=kS c d):a=c/\b=d:=by
 unfold kS at h
 simp only[Value.agg.injEq]at h
 have h:=congrArg Array.toList h
 simp at h; exact h
theorem tX{y:Nat->Value}{a b:Int}(c:y 0 = .int .i64 a)(h1:y 1 = .int .u64 b):Value.agg (aA 2 y)=kS a b:=by
 unfold kS
 congr 1
 apply Array.ext'
 rw[BI]
 show [y 0,y 1]=_
 rw[c,h1]
structure pQ(P:Program)(K:TypeId):Prop where
 kt:P.keyTypeAt 12 K=true
 fl:flatK P 12 K=some [some .i64,some .u64]
 ag:zy P K=true
section
variable {P:Program} {K:TypeId} {a b c d:Int} {w:World}
theorem pQ.wide(h:pQ P K):(match P.underlying K with|some (.array _ _)|some (.struct _)=>true|_=>false)=true:=by
 have h:=h.ag
 unfold zy at h
 cases hu:P.underlying K with
 | none=>rw[hu]at h; cases h
 | some d=>rw[hu]at h; cases d <;> first|rfl|(cases h)
theorem yC.fit(h:yC a b):Fit [some .i64,some .u64] (#[Value.int .i64 a,.int .u64 b]:Array Value).toList [.int .i64 a,.int .u64 b]:=by
 refine⟨?_,?_,trivial⟩
 ·simp[ku,Ls h.a]
 simp[ku,nC h.b]
theorem pQ.eq(e:pQ P K)(h1:yC a b)(f:yC c d)(w:World) : ∃ r:Bool,(Op.equal K (kS a b) (kS c d)).run P w = .ok r w/\(r=true<->kS a b=kS c d):=by
 refine⟨decide (a=c/\b=d),?_,?_⟩
 ·have:=kH w 12 9988 K _ #[.int .i64 a,.int .u64 b] #[.int .i64 c,.int .u64 d] _ _ e.kt e.fl e.wide h1.fit f.fit (decide (a=c/\b=d)) (by simp)
  exact this
 rw[decide_eq_true_iff]
 constructor
 ·rintro ⟨rfl,rfl⟩; rfl
 exact Gv
theorem pQ.formed(g:pQ P K)(h1:yC a b):(kS a b).formed P K=true:=by
 have d:=g.wide
 have c:=g.fl
 unfold Value.formed kS
 cases hu:P.underlying K with
 | none=>rw[hu]at d; cases d
 | some td =>
   have h:P.cellsOf K=2:=by
    unfold flatK at c
    rw[hu]at c d
    cases td with
    | array n e =>
      simp only at c
      cases h2:flatK P 11 e with
      | none=>rw[h2]at c; cases c
      | some l =>
        rw[h2]at c
        simp only at c
        split at c
        ·rename_i h3
         simp only[Option.some.injEq]at c
         have f:=congrArg List.length c
         rw[mF]at f
         exact h3.2.symm.trans f
        ·cases c
    | struct fs =>
      simp only at c
      cases h2:oV P.cellsOf (flatK P 11) fs.toList 0 with
      | none=>rw[h2]at c; cases c
      | some l =>
        rw[h2]at c
        simp only at c
        split at c
        ·rename_i h3
         simp only[Option.some.injEq]at c
         rw[<- h3,c]; rfl
        ·cases c
    | _=>cases d
   rw[hu]at d
   cases td <;> first|(cases d; done)|simp[h]
theorem pQ.check(c:pQ P K)(h1:yC a b)(d:Bool)(w:World):(Instr.checkKey d 10000 K (kS a b)).run P w = .ok () w:=by
 have h:=run_checkKey_deep d 9988 12 K c.kt
 exact h w 12 (kS a b) _ (c.formed h1) (kV 12 K _ _ _ c.fl (by simpa [Value.cells,kS] using h1.fit))
theorem Eu(a b:Int):Instr.sameBits 10000 (kS a b) (kS a b)=true:=by
 unfold kS
 show Instr.sameBits (9999+1) _ _=true
 simp[Instr.sameBits]
end
def fC(w:World)(b n:Nat)(k1 k2:Nat->Int)(val:Nat->Value):Prop :=
 ∃ a c,w.heap[b]? = some (.map a c)/\Stamped a c/\a.size=n /\ ∀ i,i<n -> ∃ e,a[i]? = some e/\e.key=kS (k1 i) (k2 i)/\e.val=val i/\yC (k1 i) (k2 i)
section
variable {w w':World} {b n:Nat} {k1 k2:Nat->Int} {val:Nat->Value}
theorem fC.lt(h:fC w b n k1 k2 val):b<w.heap.size:=by
 obtain⟨a,c,h,_⟩:=h
 exact(Array.getElem?_eq_some_iff.1 h).1
theorem fC.keep(h:fC w b n k1 k2 val)(e:w'.heap[b]? = w.heap[b]?):fC w' b n k1 k2 val:=by
 obtain⟨a,c,d,f⟩:=h
 exact⟨a,c,e.trans d,f⟩
theorem fC.eG{g:Nat}(h:fC w b n k1 k2 val)(a:Stp g w w')(c:b≠g):fC w' b n k1 k2 val:=h.keep (a.block b h.lt c)
theorem fC.up(h:fC w b n k1 k2 val)(a:Below w.heap.size w w'):fC w' b n k1 k2 val:=h.keep (a.block b h.lt)
instance:Rt.Tr w w' (fC w b n k1 k2 val) (fC w' b n k1 k2 val):=⟨fun b h=>h.up b⟩
theorem fC.mI{T:TypeId}(h:fC w b n k1 k2 val)(a:Ty w b T):False:=by
 obtain⟨e,c,h,_⟩:=h
 obtain⟨d,a⟩:=a
 rw[h]at a; cases a
theorem fC.om{a:List TypeId}(h:fC w b n k1 k2 val)(c:jO a w w')(_:True):fC w' b n k1 k2 val:=h.keep (c.block b h.lt fun _ d=>(h.mI d).elim)
instance {a:List TypeId}:Rt.Tc a w w' (fC w b n k1 k2 val) (fC w' b n k1 k2 val) true:=⟨fun b h _=>h.om b trivial⟩
theorem fC.xP(h:fC w b n k1 k2 val)(a:Stp b w w'):Kh b w w':=⟨a,fun _ c=>h.mI c⟩
theorem fC.dh{r:Nat}(h:fC w b n k1 k2 val)(a:Kh r w w')(c:b≠r):fC w' b n k1 k2 val:=h.eG a.s c
theorem fC.ok(h:fC w b n k1 k2 val){i:Nat}(hi:i<n):yC (k1 i) (k2 i):=by
 obtain⟨f,c,_,_,_,a⟩:=h
 obtain⟨e,_,_,_,d⟩:=a i hi; exact d
theorem fC.ni{l m:Nat->Int}{o:Nat->Value}(h:fC w b n k1 k2 val)(e : ∀ i,i<n->k1 i=l i/\k2 i=m i/\val i=o i):fC w b n l m o:=by
 obtain⟨q,c,r,s,t,u⟩:=h
 exact⟨q,c,r,s,t,fun i hi=>by
  obtain⟨x,a,d,f,g⟩:=u i hi
  obtain⟨j,k,p⟩:=e i hi
  exact⟨x,a,by rw[d,j,k],by rw[f,p],by rw[<- j,<- k]; exact g⟩⟩
theorem fC.inj(h:fC w b n k1 k2 val) : ∀ i j,i<n->j<n->k1 i=k1 j->k2 i=k2 j->i=j:=fun i j hi u g k=>by
 obtain⟨f,c,_,⟨_,_,v⟩,hn,hg⟩:=h
 obtain⟨x,d,r,_⟩:=hg i hi
 obtain⟨y,e,s,_⟩:=hg j u
 rw[Array.getElem?_eq_some_iff]at d e
 obtain⟨o,d⟩:=d
 obtain⟨p,e⟩:=e
 have z:=List.pairwise_iff_getElem.1 v
 have q : ∀ a c (l:a<f.size) (m:c<f.size),a<c->f[a].key≠f[c].key:=fun a c l m t=>by
  have:=z a c (by simpa using l) (by simpa using m) t
  simpa only[List.getElem_map,Array.getElem_toList] using this
 rcases Nat.lt_trichotomy i j with h1|h1|h1
 ·exact absurd (by rw[d,e,r,s,g,k]) (q i j o p h1)
 ·exact h1
 ·exact absurd (by rw[d,e,r,s,g,k]) (q j i p o h1)
end
theorem qW(k1 k2:Nat->Int)(n:Nat)(a b:Int):(∃ j,j<n/\k1 j=a/\k2 j=b) \/ ∀ i,i<n -> ¬ (k1 i=a/\k2 i=b):=by
 by_cases h : ∃ j,j<n/\k1 j=a/\k2 j=b
 ·exact .inl h
 exact .inr fun i hi e=>h ⟨i,hi,e⟩
section
variable {P:Program} {f:Nat->Value} {w:World} {o:Oper} {K:TypeId}
variable {b n:Nat} {k1 k2:Nat->Int} {val:Nat->Value}
theorem Ev(k:pQ P K){x y:Int}(l:yC x y)(w:World) : ∀(a:List MapEntry) (i:Nat),(∀ e∈a,∃ u v,e.key=kS u v/\yC u v) ->
 ((Instr.findAsking K (kS x y) a i).run P w = .ok none w /\ ∀ e∈a,e.key≠kS x y) \/ ∃ j e,(Instr.findAsking K (kS x y) a i).run P w = .ok (some (i+j,e.val)) w/\a[j]? = some e/\e.key=kS x y
 | [],i,_ => .inl ⟨by simp[Instr.findAsking],by simp⟩
 | e::a,i,hall=>by
   obtain⟨u,v,m,o⟩:=hall e (by simp)
   obtain⟨r,c,g⟩:=k.eq l o w
   rw[<- m]at c g
   cases r
   ·have n:e.key≠kS x y:=fun h=>by have:=g.2 h.symm; cases this
    rcases Ev k l w a (i+1) (fun y b=>hall y (by simp[b]))with ⟨d,f⟩|⟨j,e',d,f,h3⟩
    ·left
     refine⟨by simp[Instr.findAsking,c,d],fun y b => ?_⟩
     rcases List.mem_cons.1 b with rfl|b
     ·exact n
     ·exact f y b
    ·right
     exact⟨j+1,e',by simp[Instr.findAsking,c,d,Nat.add_assoc,Nat.add_comm 1 j],by simpa using f,h3⟩
   ·right
    exact⟨0,e,by simp[Instr.findAsking,c],rfl,(g.1 rfl).symm⟩
theorem fC.find(h:fC w b n k1 k2 val)(p:pQ P K){a:Array MapEntry}{c:Nat}(t:w.heap[b]? = some (.map a c)){x y:Int}(z:yC x y) :
 ((Instr.findKey K (kS x y) a.toList).run P w = .ok none w /\ ∀ i,i<n -> ¬ (k1 i=x/\k2 i=y)) \/ ∃ j,j<n/\k1 j=x/\k2 j=y/\(Instr.findKey K (kS x y) a.toList).run P w = .ok (some (j,val j)) w:=by
 obtain⟨F,E,l,G,o,m⟩:=h
 rw[t]at l
 simp only[Option.some.injEq,Obj.map.injEq]at l
 obtain⟨rfl,rfl⟩:=l
 have A : ∀ e∈a.toList,∃ u v,e.key=kS u v/\yC u v:=fun x B=>by
  obtain⟨i,hi,e⟩:=List.getElem_of_mem B
  obtain⟨y,g,k,_,C⟩:=m i (by simpa [<- o] using hi)
  have:y=x:=by
   have d:a.toList[i]? = some x:=by rw[List.getElem?_eq_getElem hi,e]
   rw[Array.getElem?_toList,g]at d
   exact Option.some.inj d
  subst this
  exact⟨_,_,k,C⟩
 rw[run_findKey_eq w p.wide]
 rcases Ev p z w a.toList 0 A with ⟨d,f⟩|⟨j,e,d,f,h7⟩
 ·left
  refine⟨d,fun i hi e => ?_⟩
  obtain⟨y,g,k,_⟩:=m i hi
  exact f y (Array.mem_toList_iff.2 (Array.mem_of_getElem? g)) (by rw[k,e.1,e.2])
 right
 have q:j<n:=by
  rw[Array.getElem?_toList]at f
  rw[<- o]; exact(Array.getElem?_eq_some_iff.1 f).1
 obtain⟨y,g,k,D,_⟩:=m j q
 rw[Array.getElem?_toList,g]at f
 obtain rfl:=Option.some.inj f
 rw[k]at h7
 obtain⟨r,s⟩:=Gv h7
 exact⟨j,q,r,s,by rw[d,Nat.zero_add,D]⟩
theorem jW{T E:TypeId}{x y:Int}{ok:Bool}{z:Value}(m:yC x y)(h:fC w b n k1 k2 val)(o:P.underlying T=some (.map K E))(k:pQ P K)(v:(zeroValue E).run P w = .ok z w) :
 ((∀ i,i<n -> ¬ (k1 i=x/\k2 i=y))->(Instr.lookup T (.map (some b)) (kS x y) ok).run P w = .ok (if ok then .tuple #[z,.bool false]else z) w) /\
 ∀ j,j<n->k1 j=x->k2 j=y->(Instr.lookup T (.map (some b)) (kS x y) ok).run P w = .ok (if ok then .tuple #[val j,.bool true]else val j) w:=by
 have t:=h
 obtain⟨q,c,f,_⟩:=t
 have l:=k.check m q.isEmpty w
 rcases h.find k f m with ⟨g,r⟩|⟨j,a,hkj,LM,g⟩
 ·refine⟨fun _ => ?_,fun j a e d=>absurd ⟨e,d⟩ (r j a)⟩
  unfold Instr.lookup
  simp only[Sem.run_bind,run_underlying o,Result.andThen_ok,Go.MapKept.run_getObj_map f,Sem.run_pure,l,g,v]
 refine⟨fun u=>absurd ⟨hkj,LM⟩ (u j a),fun p s e d => ?_⟩
 obtain rfl:p=j:=h.inj p j s a (e.trans hkj.symm) (d.trans LM.symm)
 unfold Instr.lookup
 simp only[Sem.run_bind,run_underlying o,Result.andThen_ok,Go.MapKept.run_getObj_map f,Sem.run_pure,l,g]
variable {T E:TypeId} {x ix:Operand} {a r:Int} {z v:Value} {j:Nat}
theorem Ew(g:o.op = .lookup T x ix false)(hx:ev f x = .map (some b))(hi:ev f ix=kS a r)(d:yC a r)(h:fC w b n k1 k2 val)(j:P.underlying T=some (.map K E))(c:pQ P K)(k:(zeroValue E).run P w = .ok z w)(e : ∀ i,i<n -> ¬ (k1 i=a/\k2 i=r)):Runs P f o w z:=by
 unfold Runs execOp
 simp only[g,hx,hi,Sem.run_bind,((jW (ok:=false) d h j c k).1 e),Result.andThen_ok,Sem.run_pure]; rfl
theorem Ey(k:o.op = .lookup T x ix false)(hx:ev f x = .map (some b))(hi:ev f ix=kS a r)(i:yC a r)(h:fC w b n k1 k2 val)(l:P.underlying T=some (.map K E))(e:pQ P K)(p:(zeroValue E).run P w = .ok z w)(g:j<n)(c:k1 j=a)(d:k2 j=r)(m:val j=v):Runs P f o w v:=by
 subst m
 unfold Runs execOp
 simp only[k,hx,hi,Sem.run_bind,((jW (ok:=false) i h l e p).2 j g c d),Result.andThen_ok,Sem.run_pure]; rfl
theorem Ki(g:o.op = .lookup T x ix true)(hx:ev f x = .map (some b))(hi:ev f ix=kS a r)(d:yC a r)(h:fC w b n k1 k2 val)(j:P.underlying T=some (.map K E))(c:pQ P K)(k:(zeroValue E).run P w = .ok z w)(e : ∀ i,i<n -> ¬ (k1 i=a/\k2 i=r)):Runs P f o w (.tuple #[z,.bool false]):=by
 unfold Runs execOp
 simp only[g,hx,hi,Sem.run_bind,((jW (ok:=true) d h j c k).1 e),Result.andThen_ok,Sem.run_pure]; rfl
theorem Kj(k:o.op = .lookup T x ix true)(hx:ev f x = .map (some b))(hi:ev f ix=kS a r)(i:yC a r)(h:fC w b n k1 k2 val)(l:P.underlying T=some (.map K E))(e:pQ P K)(p:(zeroValue E).run P w = .ok z w)(g:j<n)(c:k1 j=a)(d:k2 j=r)(m:val j=v):Runs P f o w (.tuple #[v,.bool true]):=by
 subst m
 unfold Runs execOp
 simp only[k,hx,hi,Sem.run_bind,((jW (ok:=true) i h l e p).2 j g c d),Result.andThen_ok,Sem.run_pure]; rfl
end
section
variable {P:Program} {w:World} {b n:Nat} {k1 k2:Nat->Int} {val:Nat->Value} {K:TypeId}
theorem qX{T E:TypeId}{x y:Int}{v:Value}(u:yC x y)(h:fC w b n k1 k2 val)(L:P.underlying T=some (.map K E))(I:pQ P K) :
 (∀ j,j<n->k1 j=x->k2 j=y -> ∃ w',(Instr.mapUpdate T (.map (some b)) (kS x y) v).run P w = .ok () w'/\fC w' b n k1 k2 (aI val j v)/\Stp b w w'/\w'.heap.size=w.heap.size) /\
 ((∀ i,i<n -> ¬ (k1 i=x/\k2 i=y)) -> ∃ w',(Instr.mapUpdate T (.map (some b)) (kS x y) v).run P w = .ok () w'/\fC w' b (n+1) (aI k1 n x) (aI k2 n y) (aI val n v)/\Stp b w w'/\w'.heap.size=w.heap.size):=by
 have V:=h
 obtain⟨g,c,d,G,m,p⟩:=V
 have J:=I.check u false w
 rcases h.find I d u with ⟨t,H⟩|⟨j,o,hkj,LM,t⟩
 ·refine⟨fun j o e f=>absurd ⟨e,f⟩ (H j o),fun _ => ?_⟩
  obtain⟨B,C,D⟩:=Df (o' := .map (g.push { key:=kS x y,val:=v,born:=c }) (c+1)) d
  have A:(Instr.mapUpdate T (.map (some b)) (kS x y) v).run P w = .ok () { w with heap:=w.heap.setIfInBounds b (.map (g.push { key:=kS x y,val:=v,born:=c }) (c+1)) }:=by
   unfold Instr.mapUpdate
   simp only[Sem.run_bind,run_underlying L,Result.andThen_ok,Go.MapKept.run_getObj_map d,J,t]
   exact run_setObj_map _ d
  refine⟨_,A,⟨_,_,B,stamped_push G fun q r e => ?_,by simp[m],fun i hi => ?_⟩,C,D⟩
  ·obtain⟨i,hi,S⟩:=List.getElem_of_mem r
   obtain⟨z,k,l,_⟩:=p i (by simpa [<- m] using hi)
   have F:g.toList[i]? = some q:=by rw[List.getElem?_eq_getElem hi,S]
   rw[Array.getElem?_toList,k]at F
   obtain rfl:=Option.some.inj F
   rw[l]at e
   exact H i (by simpa [<- m] using hi) (Gv e)
  by_cases e:i=n
  ·subst e
   refine⟨_,by rw[Array.getElem?_push,if_pos m.symm],?_,?_,?_⟩
   ·show kS x y=_; unfold aI; rw[if_pos rfl,if_pos rfl]
   ·show v=_; unfold aI; rw[if_pos rfl]
   unfold aI; rw[if_pos rfl,if_pos rfl]; exact u
  obtain⟨z,k,l,Q,O⟩:=p i (by omega)
  refine⟨z,by rw[Array.getElem?_push,if_neg (by omega)]; exact k,?_,?_,?_⟩
  ·unfold aI; rw[if_neg e,if_neg e]; exact l
  ·unfold aI; rw[if_neg e]; exact Q
  unfold aI; rw[if_neg e,if_neg e]; exact O
 refine⟨fun a U e f => ?_,fun W=>absurd ⟨hkj,LM⟩ (W j o)⟩
 obtain rfl:a=j:=h.inj a j U o (e.trans hkj.symm) (f.trans LM.symm)
 obtain⟨z,k,l,Q,O⟩:=p a o
 obtain⟨B,C,D⟩:=Df (o' := .map (g.modify a fun q => { q with key:=kS x y,val:=v }) c) d
 have X:(Instr.keyThatStays (((g[a]?).map (·.key)).getD (kS x y)) (kS x y)).run P w = .ok (kS x y) w:=by
  rw[k]
  show(Instr.keyThatStays z.key (kS x y)).run P w=_
  rw[l,e,f]
  unfold Instr.keyThatStays
  rw[if_pos (Eu x y)]; rfl
 have A:(Instr.mapUpdate T (.map (some b)) (kS x y) v).run P w = .ok () { w with heap:=w.heap.setIfInBounds b (.map (g.modify a fun q => { q with key:=kS x y,val:=v }) c) }:=by
  unfold Instr.mapUpdate
  simp only[Sem.run_bind,run_underlying L,Result.andThen_ok,Go.MapKept.run_getObj_map d,J,t,X]
  exact run_setObj_map _ d
 refine⟨_,A,⟨_,_,B,stamped_modify G a _ (fun _ _=>rfl) (fun q _ r => ?_),by simp[m],fun i hi => ?_⟩,C,D⟩
 ·rw[k]at r
  obtain rfl:=Option.some.inj r
  show kS x y=z.key
  rw[l,e,f]
 obtain⟨R,M,Y,Z,N⟩:=p i hi
 by_cases s:a=i
 ·subst s
  refine⟨{ R with key:=kS x y,val:=v },by rw[Array.getElem?_modify,if_pos rfl,M]; rfl,?_,?_,N⟩
  ·show kS x y=_; rw[e,f]
  show v=_; unfold aI; rw[if_pos rfl]
 refine⟨R,by rw[Array.getElem?_modify,if_neg s]; exact M,Y,?_,N⟩
 unfold aI; rw[if_neg (fun h=>s h.symm)]; exact Z
end
section
variable {P:Program} {n0:Nat} {Q:Post} {f:Nat->Value} {w:World} {ops:Array Oper} {rest:List Oper} {o:Oper} {b n:Nat} {k1 k2:Nat->Int} {val:Nat->Value} {T K E:TypeId} {x ix v:Operand} {a r:Int} {u:Value} {j:Nat}
theorem L.Xy(B:Region.wanted o (yf ops f)=true)(c:o.dst=none)(s:o.op = .mapUpdate T x ix v)(hx:ev f x = .map (some b))(hi:ev f ix=kS a r)(q:yC a r)(A:ev f v=u)(h:fC w b n k1 k2 val)(z:P.underlying T=some (.map K E))(l:pQ P K)(p:j<n)(d:k1 j=a)(e:k2 j=r)
 (m : ∀ w',fC w' b n k1 k2 (aI val j u)->Stp b w w'->w'.heap.size=w.heap.size->L P n0 ops Q rest f w'):L P n0 ops Q (o::rest) f w:=by
 obtain⟨w',t,g,i,k⟩:=(qX (v:=u) q h z l).1 j p d e
 have y:(execOp (ev f) o).run P w = .ok .skip w':=by
  unfold execOp
  simp only[s,hx,hi,A,Sem.run_bind,t,Result.andThen_ok,Sem.run_pure]
 refine L.unit B y (by rw[c]; rfl) ?_
 rw[c]; exact m w' g i k
theorem L.LP(z:Region.wanted o (yf ops f)=true)(c:o.dst=none)(p:o.op = .mapUpdate T x ix v)(hx:ev f x = .map (some b))(hi:ev f ix=kS a r)(l:yC a r)(y:ev f v=u)(h:fC w b n k1 k2 val)(t:P.underlying T=some (.map K E))(j:pQ P K)(m : ∀ i,i<n -> ¬ (k1 i=a/\k2 i=r))
 (k : ∀ w',fC w' b (n+1) (aI k1 n a) (aI k2 n r) (aI val n u)->Stp b w w'->w'.heap.size=w.heap.size->L P n0 ops Q rest f w'):L P n0 ops Q (o::rest) f w:=by
 obtain⟨w',q,d,e,g⟩:=(qX (v:=u) l h t j).2 m
 have s:(execOp (ev f) o).run P w = .ok .skip w':=by
  unfold execOp
  simp only[p,hx,hi,y,Sem.run_bind,q,Result.andThen_ok,Sem.run_pure]
 refine L.unit z s (by rw[c]; rfl) ?_
 rw[c]; exact k w' d e g
theorem L.LQ{T:TypeId}(e:Region.wanted o (yf ops f)=true)(b:inn n0 o.dst=true)(c:o.op = .makeMap T none)
 (a : ∀ g w',g=w.heap.size->fC w' g 0 (fun _=>0) (fun _=>0) (fun _ => .pointer none)->Stp w.heap.size w w'->w'.heap.size=w.heap.size+1->L P n0 ops Q rest (put f o.dst (.map (some g))) w'):L P n0 ops Q (o::rest) f w:=by
 have d:(execOp (ev f) o).run P w = .ok (.value (.map (some w.heap.size))) (w.alloc (.map #[] 0)):=by
  unfold execOp
  simp only[c,Option.map_none]
  simp[run_makeMap']
 refine L.val e d b (a _ _ rfl ?_ (Stp.alloc _ _) (by simp))
 exact⟨#[],0,by rw[alloc_at,if_pos rfl],stamped_empty 0,rfl,fun i hi=>absurd hi (Nat.not_lt_zero _)⟩
theorem L.TT(J:Region.wanted o (yf ops f)=true)(A:inn n0 o.dst=true)(D:o.op = .range T x)(hx:ev f x = .map (some b))(h:fC w b n k1 k2 val)(I:P.underlying T=some (.map K E))
 (l : ∀ g w',g=w.heap.size->It w' g b n (fun _=>false)->Stp w.heap.size w w'->w'.heap.size=w.heap.size+1->L P n0 ops Q rest (put f o.dst (.pointer (some ⟨g,0,none⟩))) w'):L P n0 ops Q (o::rest) f w:=by
 have C:=h
 obtain⟨d,c,p,m,u,v⟩:=C
 have G:=run_range_map (P:=P) w T K E b d c I p
 have H:(execOp (ev f) o).run P w = .ok (.value (.pointer (some ⟨w.heap.size,0,none⟩))) (w.alloc (.mapIter (some b) c #[] c)):=by
  unfold execOp
  simp only[D,hx,Sem.run_bind,G,Result.andThen_ok,Sem.run_pure]
 refine L.val J H A (l _ _ rfl ?_ (Stp.alloc _ _) (by simp))
 refine⟨d,c,c,#[],c,?_,by rw[alloc_at,if_pos rfl],m.1,Nat.le_refl _,u,m.1,Nat.le_refl _,fun i j x y hx k e => ?_,fun i hi => ?_⟩
 ·rw[alloc_at,if_neg (Nat.ne_of_lt h.lt)]; exact p
 ·rw[Array.getElem?_eq_some_iff]at hx k
  obtain⟨r,hx⟩:=hx
  obtain⟨s,k⟩:=k
  have F:=List.pairwise_iff_getElem.1 m.2.1
  have t : ∀ a c (q:a<d.size) (l:c<d.size),a<c->d[a].born≠d[c].born:=fun a c q l z=>by
   have:=F a c (by simpa using q) (by simpa using l) z
   simpa only[List.getElem_map,Array.getElem_toList] using this
  rcases Nat.lt_trichotomy i j with h5|h5|h5
  ·exact absurd (by rw[hx,k,e]) (t i j r s h5)
  ·exact h5
  exact absurd (by rw[hx,k,e]) (t j i s r h5)
 obtain⟨e,B,_⟩:=v i hi
 exact⟨e,B,by simp⟩
theorem L.Xz{x:Operand}{r:Nat}{S:Nat->Bool}(R:Region.wanted o (yf ops f)=true)(K:inn n0 o.dst=true)(M:o.op = .next x false)(hx:ev f x = .pointer (some ⟨r,0,none⟩))(h:fC w b n k1 k2 val)(hi:It w r b n S)
 (hc0:(∀ i,i<n->S i=true)->L P n0 ops Q rest (put f o.dst (.tuple #[.bool false])) w)
 (hc1 : ∀ i w',i<n->S i=false->It w' r b n (aI S i true)->uS w' r b i->Stp r w w'->w'.heap.size=w.heap.size->L P n0 ops Q rest (put f o.dst (.tuple #[.bool true,kS (k1 i) (k2 i),val i])) w'):L P n0 ops Q (o::rest) f w:=by
 obtain⟨g,c,d,a,W,l,s,H,Z,h5,h6,I,J,C⟩:=hi
 obtain⟨es',c',G,kst,_,k4⟩:=h
 rw[l]at G
 simp only[Option.some.injEq,Obj.map.injEq]at G
 obtain⟨rfl,rfl⟩:=G
 have hrb:r≠b:=fun e=>by rw[e,l]at s; cases s
 rcases run_next_at (P:=P) w o.type r b d W a g c s l H Z with ⟨z,E⟩|⟨e,he,w1,hw1,E⟩
 ·have t:(execOp (ev f) o).run P w = .ok (.value (.tuple #[.bool false])) w:=by
   unfold execOp
   simp only[M,hx,Sem.run_bind,E,Result.andThen_ok,Sem.run_pure]
  refine L.val R t K<|hc0 fun i hi => ?_
  obtain⟨y,u,F⟩:=C i hi
  rw[<- F]
  cases hq:a.contains y.born with
  | true=>rfl
  | false =>
    have q:y∈leftOf g a:=by
     unfold leftOf
     rw[Array.mem_filter]
     exact⟨Array.mem_of_getElem? u,by rw[hq]; rfl⟩
    have:=Array.size_pos_of_mem q
    omega
 have t:(execOp (ev f) o).run P w = .ok (.value (.tuple #[.bool true,e.key,e.val])) (Go.ChangeMaps.setBlock w1 r (.mapIter (some b) d (a.push e.born) c)):=by
  unfold execOp
  simp only[M,hx,Sem.run_bind,E,Result.andThen_ok,Sem.run_pure]
 have q:e∈leftOf g a:=Array.mem_toList_iff.1 he
 unfold leftOf at q
 rw[Array.mem_filter]at q
 obtain⟨hme,hns⟩:=q
 obtain⟨i,hi,Y⟩:=Array.getElem_of_mem hme
 have m:g[i]? = some e:=by rw[Array.getElem?_eq_getElem hi,Y]
 obtain⟨y,u,ky,vy,_⟩:=k4 i (by omega)
 rw[m]at u
 obtain rfl:=Option.some.inj u
 obtain⟨y2,T,F⟩:=C i (by omega)
 rw[m]at T
 obtain rfl:=Option.some.inj T
 have hsf:S i=false:=by rw[<- F]; simpa using hns
 have p:w1.os=w.os/\w1.tape=w.tape/\w1.output=w.output/\w1.heap=w.heap:=by rcases hw1 with rfl|rfl <;> exact⟨rfl,rfl,rfl,rfl⟩
 have O:(Go.ChangeMaps.setBlock w1 r (.mapIter (some b) d (a.push e.born) c)).heap.size=w.heap.size:=by
  show(w1.heap.setIfInBounds r _).size=_; rw[p.2.2.2]; simp
 have N:Stp r w (Go.ChangeMaps.setBlock w1 r (.mapIter (some b) d (a.push e.born) c)) :=
  ⟨p.1,p.2.1,p.2.2.1,by rw[O]; exact Nat.le_refl _,fun k _ D=>by show(w1.heap.setIfInBounds r _)[k]? = _; rw[p.2.2.2,Array.getElem?_setIfInBounds_ne (Ne.symm D)]⟩
 have TS:r<w1.heap.size:=by
  rcases hw1 with rfl|rfl <;> exact(Array.getElem?_eq_some_iff.1 s).1
 rw[ky,vy]at t
 have U:(Go.ChangeMaps.setBlock w1 r (.mapIter (some b) d (a.push e.born) c)).heap[b]? = some (.map g c):=by rw[N.block b (Array.getElem?_eq_some_iff.1 l).1 (Ne.symm hrb)]; exact l
 have V:(Go.ChangeMaps.setBlock w1 r (.mapIter (some b) d (a.push e.born) c)).heap[r]? = some (.mapIter (some b) d (a.push e.born) c):=by simp[Go.ChangeMaps.setBlock,TS]
 refine L.val R t K (hc1 i _ (by omega) hsf ⟨g,c,d,a.push e.born,c,U,V,H,I,h5,h6,I,J,fun j hj => ?_⟩ ⟨g,c,d,a,e,U,V,m,kst.2.1⟩ N O)
 obtain⟨A,v,hs3⟩:=C j hj
 refine⟨A,v,?_⟩
 unfold aI
 by_cases B:j=i
 ·subst B
  rw[m]at v
  obtain rfl:=Option.some.inj v
  rw[if_pos rfl]; simp
 rw[if_neg B,<- hs3]
 have D:A.born≠e.born:=fun X=>B (J j i A e v m X)
 cases hq:a.contains A.born with
 | true=>simp at hq ⊢; exact .inl hq
 | false=>simp at hq ⊢; exact⟨hq,D⟩
theorem LU{x:Operand}{r i:Nat}(q:o.op = .entry x)(hx:ev f x = .pointer (some ⟨r,0,none⟩))(h:fC w b n k1 k2 val)(hi:uS w r b i)(p:i<n):Runs P f o w (.tuple #[kS (k1 i) (k2 i),val i]):=by
 obtain⟨k,c,s,z,e,d,l,g,m⟩:=hi
 obtain⟨C,B,a,_,_,u⟩:=h
 rw[d]at a
 simp only[Option.some.injEq,Obj.map.injEq]at a
 obtain⟨rfl,rfl⟩:=a
 obtain⟨y,j,v,A,_⟩:=u i p
 rw[g]at j
 obtain rfl:=Option.some.inj j
 have t:=run_entry_at (P:=P) w r b s z k c e l d (Array.mem_toList_iff.2 (Array.mem_of_getElem? g)) m
 unfold Runs execOp
 simp only[q,hx,Sem.run_bind,t,Result.andThen_ok,Sem.run_pure,v,A]
end
end Go.Proofs.YtcbedgfikejkoaaDoor.Fx
namespace Go.Proofs.YtcbedgfikejkoaaDoor
open Go.RowKit Go
set_option linter.unusedVariables false
namespace XA
def I4{c:Type}(q:Nat)(J:c->World->Prop):Prop := ∀ s W a b,J s W->W.grownBy a b->(∀ r,b=some r->r=q)->J s a
def XB{d:Type}(F:Fence)(n:Nat)(P:Program)(g:Nat)(lb:Array Value)(j:d->Array Value)(i:World->World->Prop)(S:List d->Prop)(N q:Nat)(h:World->Prop):Prop :=
 ∀(l:Nat) (J:List d->World->Prop) (W:World),h W->I4 q J ->
  (∀ c x b,J c b->c.length<N->YieldAt F (n-1) P l (j x) b fun e a=>e = .returned (.bool true)/\J (c ++ [x]) a/\i b a) ->
  J [] W ->
  CallsIn F n P g (#[.func (.yield l) #[] #[]]++lb) W fun e a=>(∃ v,e = .returned v) /\ ∃ f,S f/\J f a
def Kk{c:Type}(q B:Nat)(I:c->World->Prop):Prop :=
 ∀ s W a b,I s W->W.grownBy a b->(∀ r,b=some r->r=q\/(B<=r /\ ∃ o:Obj,W.heap[r]? = some o/\o.isCells=false))->I s a
variable {F:Fence} {n:Nat} {P:Program}
theorem Kk.putObj{a:Type}{q B:Nat}{I:a->World->Prop}(h:Kk q B I){s:a}{W:World}{l:Nat}{o:Obj}(o':Obj)(f:I s W)(b:B<=l)(c:W.heap[l]? = some o)(d:o.isCells=false):I s (W.putObj l o') :=
 h s W _ (some l) f (grownBy_putObj' W l o') (fun r e=>by cases e; exact .inr ⟨b,o,c,d⟩)
theorem Kk.alloc{a:Type}{q B:Nat}{I:a->World->Prop}(h:Kk q B I){s:a}{W:World}(o:Obj)(b:I s W):I s (W.alloc o) :=
 h s W _ none b (World.grownBy_alloc W o none) (fun r e=>by cases e)
def XC{a:Type}(b:World->World->Prop)(I:List a->World->Prop)(c:List a)(W:World):Exit->Act->World->Prop
 | .normal,_,W'=>KeepsOthers W W'/\b W W'/\I c W'
 | _,_,_=>False
theorem BL{W a:World}{q:Nat}{row:Option Nat}(b:W.grownBy a row)(f : ∀ r,row=some r->r=q){k:Nat}{o:Obj}(c:W.heap[k]? = some o)(d:k≠q):a.heap[k]? = W.heap[k]? :=
 b.block k (Array.getElem?_eq_some_iff.1 c).1 fun e=>d (f k e.symm)
theorem yD{α:Type}{g:Operand}{ps:Array Tmp}{assign body:Code}{Q:Exit->Act->World->Prop}{a:Act}{w:World}
 (hro:F.round=none) (h1:1<=n) {gf:Nat} {lb:Array Value} (hg:a.eval g = .func (.func gf) #[] lb) (hFg:F.fn gf) (eg : ∀ args w,(callFunc gf args).run P w = .ok (.enter gf args) w)
 {encs:α->Array Value} {Kp:World->World->Prop} {S:List α->Prop} {N q:Nat} {Ip:World->Prop} (hseq:XB F (n-1) P gf lb encs Kp S N q Ip) (hq:q<w.heap.size)
 (hIp:Ip w) (Gw : ∀ W o,w.heap.size<=W.heap.size->Ip W->Ip (W.alloc o))
 (hKt : ∀ {A B C:World},Kp A B->Kp B C->Kp A C) (hKb : ∀(W:World) (l:Nat) (o o':Obj),w.heap.size<=l->W.heap[l]? = some o->o.isCells=false->o.isWalk=false->Kp W (W.putObj l o')) (hps : ∀ x,(encs x).size=ps.size)
 (I:List α->World->Prop) (hI:Kk q w.heap.size I) (h0:I [] w) (A₁:α->Act->Prop)
 (hassign : ∀(l:Nat) (x:α) (W:World),assign.wpIn (F.inRound l) (n-1-1) P (Exit.then (fun a' W'=>A₁ x a'/\W'=W) (fun _ _ _=>False)) { tmps:=(ps.zip (encs x)).foldl (fun t (p,v)=>t.setIfInBounds p v) a.tmps,defers := [] } W)
 (hbody : ∀(l:Nat) (pre:List α) (x:α) (W:World) (a':Act),A₁ x a'->I pre W->pre.length<N->body.wpIn (F.inRound l) (n-1-1) P (XC Kp I (pre ++ [x]) W) a' W)
 (hdone : ∀(D:Nat) (xs:List α) (W:World),w.heap.size<=D->S xs->I xs W->W.heap[D]? = some (.deferred (some []))->Q .normal { a with defers := { target := .collected D,args := #[] }::a.defers } W) :
 (Code.rangeFunc g ps assign body).wpIn F n P Q a w:=by
 refine wpIn_rangeFunc ?_
 intro fn hfn
 rw[hro]
 obtain⟨rec,hrec⟩ : ∃ rec:LoopState->Option Code->Loop,rec=fun st pe => { state:=st,pending:=pe,fn,tmps:=a.tmps,params:=ps,assign,body,defers:=w.heap.size }:=⟨_,rfl⟩
 obtain⟨W1,hW1⟩ : ∃ W1,(w.alloc (.deferred (some []))).alloc (.loop (rec .ready none))=W1:=⟨_,rfl⟩
 have hL1:W1.heap[w.heap.size+1]? = some (.loop (rec .ready none)):=by
  rw[<- hW1]; have:=World.alloc_heap_new (w.alloc (.deferred (some []))) (.loop (rec .ready none)); rwa [World.size_alloc]at this
 have hK1:W1.heap[w.heap.size]? = some (.deferred (some [])):=by
  rw[<- hW1]; exact(Below.heap_alloc _ _ _ (by simp)).trans (World.alloc_heap_new w _)
 have hI1:I [] W1:=by rw[<- hW1]; exact hI.alloc _ (hI.alloc _ h0)
 have hp1:Ip W1:=by rw[<- hW1]; exact Gw _ _ (by simp) (Gw _ _ (Nat.le_refl _) hIp)
 refine⟨w.heap.size+1,[{ target := .collected w.heap.size,args := #[] }],W1,{ target := .fn (.func gf) lb,args := #[.func (.yield (w.heap.size+1)) #[] #[]] },W1,gf,
  #[.func (.yield (w.heap.size+1)) #[] #[]]++lb,W1,?_,?_,?_,?_,fun _=>h1,?_⟩
 ·rw[<- hW1,hrec]; exact run_enterLoop_outer _ _ _ _ _
 ·simp only[resolve,hg]
  simp[go_sem]
 ·intro f' hf'; simp[Target.leads]at hf'; subst hf'; exact hFg
 ·simp[invoke,go_sem,eg]
 refine(hseq (w.heap.size+1)
  (fun pre W=>I pre W/\W.heap[w.heap.size+1]? = some (.loop (rec .ready none))/\W.heap[w.heap.size]? = some (.deferred (some [])))
  W1 hp1
  (fun s A B row hs hg' hr=>⟨hI s A B row hs.1 hg' (fun r e => .inl (hr r e)),(BL hg' hr hs.2.1 (by omega)).trans hs.2.1,(BL hg' hr hs.2.2 (by omega)).trans hs.2.2⟩)
  ?_ ⟨hI1,hL1,hK1⟩).mono ?_
 ·-- one round
  rintro pre x W ⟨hi,hl,hk⟩ hlen
  have hlt:w.heap.size+1<W.heap.size:=(Array.getElem?_eq_some_iff.1 hl).1
  have hy:=run_yield (P:=P) (args:=encs x) hl (by rw[hrec]; exact hps x)
  rw[hrec]at hy
  refine⟨fn,_,assign,body,hy,roundIn_of_wpIn hfn (wpIn_mono (hassign _ x W) ?_)⟩
  rintro e1 a1 w1 hq1
  cases e1 with
  | exit id=>exact hq1.elim
  | goto t=>exact hq1.elim
  | ret=>exact hq1.elim
  | panic ch=>exact hq1.elim
  | outgrown=>exact hq1.elim
  | normal =>
  obtain⟨hA1,ew⟩:=hq1
  rw[ew]
  refine⟨_,run_beginRound hl (by rw[hrec]),?_⟩
  have hl2:(W.putObj (w.heap.size+1) (.loop { rec .ready none with state := .busy })).heap[w.heap.size+1]? = some (.loop { rec .ready none with state := .busy }):=World.putObj_heap_same hlt
  have hk2:(W.putObj (w.heap.size+1) (.loop { rec .ready none with state := .busy })).heap[w.heap.size]? = some (.deferred (some [])):=(World.putObj_heap_other (by omega)).trans hk
  have hw2:Kp W (W.putObj (w.heap.size+1) (.loop { rec .ready none with state := .busy })):=hKb _ _ _ _ (by omega) hl rfl rfl
  refine wpIn_mono (hbody _ pre x _ a1 hA1 (hI.putObj _ hi (by omega) hl rfl) hlen) ?_
  rintro e a3 W3 hp
  cases e with
  | normal =>
    obtain⟨hk3,hkp3,hi3⟩:=hp
    have hl3:=hk3.same _ _ hl2 rfl
    have hr:=run_endRound (P:=P) none hl3
    rw[hrec]at hr hl3
    refine⟨_,_,hr,rfl,⟨hI.putObj _ hi3 (by omega) hl3 rfl,?_,(World.putObj_heap_other (by omega)).trans (hk3.same _ _ hk2 rfl)⟩,hKt (hKt hw2 hkp3) (hKb _ _ _ _ (by omega) hl3 rfl rfl)⟩
    rw[hrec]; exact World.putObj_heap_same (Array.getElem?_eq_some_iff.1 hl3).1
  | ret=>exact hp.elim
  | exit id=>exact hp.elim
  | goto t=>exact hp.elim
  | panic ch=>exact hp.elim
  | outgrown=>exact hp.elim
 rintro e W2 ⟨⟨v,rfl⟩,xs,hS,hi,hl,hk⟩
 exact⟨none,_,by have:=run_endLoop (P:=P) hl (by rw[hrec]; simp); rw[hrec]at this; exact this,hdone _ xs _ (Nat.le_refl _) hS (hI.putObj _ hi (by omega) hl rfl) ((World.putObj_heap_other (by omega)).trans hk)⟩
end XA
end Go.Proofs.YtcbedgfikejkoaaDoor
namespace Go.Proofs.YtcbedgfikejkoaaDoor
open Go.RowKit Go
set_option linter.unusedVariables false
namespace Fx
structure uT(a:Act)(n:Nat)(f:Nat->Value):Prop where
 size:a.tmps.size=n
 get : ∀ i,a.tmps.getD i undef=f i
theorem Fr.to0{a:Act}{n:Nat}{f:Nat->Value}(h:Fr a n f):uT a n f:=⟨h.size,h.get⟩
theorem uT.to{a:Act}{n:Nat}{f:Nat->Value}(h:uT a n f)(b:a.defers = []):Fr a n f:=⟨h.size,b,h.get⟩
theorem uT.ev{a:Act}{n:Nat}{f:Nat->Value}(h:uT a n f):a.eval=Fx.ev f:=by
 funext x
 cases x <;> simp only[Act.eval,Fx.ev]
 exact h.get _
theorem uT.put{a:Act}{n:Nat}{f:Nat->Value}(h:uT a n f){d:Option Nat}(e:inn n d=true)(v:Value):uT (a.put d v) n (Fx.put f d v):=by
 have c:Fr { a with defers := [] } n f:=⟨h.size,rfl,h.get⟩
 have b:=c.put e v
 cases d with
 | none=>exact⟨b.size,b.get⟩
 | some d=>exact⟨b.size,b.get⟩
theorem uT.yf{a:Act}{n:Nat}{f:Nat->Value}(h:uT a n f)(ops:Array Oper):yielded ops a.tmps=Fx.yf ops f:=by
 have b:Fr { a with defers := [] } n f:=⟨h.size,rfl,h.get⟩
 exact b.yf ops
theorem Ez{a:Act}{n p:Nat}{v:Value}{f:Nat->Value}(h:uT (a.put (some p) v) n f):uT { tmps:=(#[p].zip #[v]).foldl (fun t (p,v)=>t.setIfInBounds p v) a.tmps,defers := [] } n f:=by
 have e:(#[p].zip #[v]).foldl (fun t (p,v)=>t.setIfInBounds p v) a.tmps=(a.put (some p) v).tmps:=by simp[Array.zip,Act.put]
 rw[e]; exact⟨h.size,h.get⟩
theorem put_defers(a:Act)(d:Option Nat)(v:Value):(a.put d v).defers=a.defers:=by cases d <;> rfl
def FR(ro:Option Nat):Fence := { Fence.wide with round:=ro }
def iI(o:Oper):Bool:=match o.op with | .defer _=>false|_=>true
def LV(n:Nat)(ds:List Deferred)(Q:Post):Exit->Act->World->Prop:=fun e a w => ∃ f,uT a n f/\a.defers=ds/\Q e f w
section
variable {P:Program} {n m:Nat} {ro:Option Nat} {Q:Post} {f:Nat->Value} {w:World} {o:Oper} {ops:Array Oper} {rest:List Oper}
theorem EA(ro:Option Nat)(ρ:Operand->Value)(h:iI o=true):o.semAt ro ρ=execOp ρ o :=
 Oper.semAt_eq ro ρ o fun c e=>by unfold iI at h; rw[e]at h; cases h
theorem Out.wpIn{a:Act}{K:Value->World->Prop}{d:Act->World->Prop}{j:Exit->Act->World->Prop}(ha:uT a n f)(k:iI o=true)(h:Out P f o w K)(c : ∀ v w',K v w'->d (a.put o.dst v) w'):o.wpIn (FR ro) m P a w d j:=by
 unfold Oper.wpIn
 refine⟨fun _ _=>trivial,?_⟩
 rw[EA _ _ k,ha.ev]
 rcases h with ⟨v,w',b,h⟩|⟨w',b,h⟩|⟨g,args,b,h⟩
 ·rw[b]; exact c v w' h
 ·rw[b]; exact c undef w' h
 rw[b,Oper.uponIn_enter]
 refine⟨fun h=>(by cases h),?_⟩
 have r : ∀ R,Calls P g args w R->CallsIn (FR ro) (m-1) P g args w R:=fun R i=>by
  cases ro with
  | none=>exact callsIn_wide.2 i
  | some l=>exact CallsIn.inRound l (callsIn_wide.2 i)
 refine r _<|h.mono fun e w' ⟨v,p,q⟩ => ?_
 subst p; exact c v w' q
theorem L.toIn : ∀ {l:List Oper} {f:Nat->Value} {w:World},L P n ops Q l f w->l.all iI=true -> ∀ a,uT a n f->wpListIn (FR ro) m P ops (LV n a.defers Q) l a w
 | [],f,w,h,_,a,ha=>⟨f,ha,rfl,h⟩
 | o::rest,f,w,⟨hd,h⟩,hn,a,ha=>by
   rw[List.all_cons,Bool.and_eq_true]at hn
   unfold wpListIn
   rw[ha.yf]
   rcases h with ⟨b,h⟩|⟨b,h⟩
   ·rw[if_pos b]
    exact h.wpIn ha hn.1 fun v w' c=>by have:=L.toIn c hn.2 _ (ha.put hd v); rwa [put_defers]at this
   ·rw[if_neg (by rw[b]; decide)]
    exact⟨fun _ _=>trivial,by have:=L.toIn h hn.2 _ (ha.put hd undef); rwa [put_defers]at this⟩
theorem BM{id:Nat}{ops:List Oper}{a:Act}{b:Exit->Act->World->Prop}(ha:uT a n f)(h:L P n ops.toArray Q ops f w)(d:ops.all iI=true:=by rfl)(g : ∀ e c w',LV n a.defers Q e c w'->b e c w'):(Code.region id ops.toArray false).wpIn (FR ro) m P b a w :=
 wpIn_mono (wpIn_region_lit (L.toIn h d a ha)) g
def TU(m:Nat)(P:Program)(f:Nat->Value)(o:Oper)(w:World)(K:Value->World->Prop):Prop :=
 Out P f o w K \/ ∃ l c d a b,(execOp (ev f) o).run P w = .ok (.round l c d a b) w/\RoundIn (FR none) (m-1) P l c d a b w fun e w' => ∃ v,e = .returned v/\K v w'
def Ly(m:Nat)(P:Program)(n:Nat)(ops:Array Oper)(Q:Post):List Oper->(Nat->Value)->World->Prop
 | [],f,w=>Q .normal f w
 | o::rest,f,w=>inn n o.dst=true/\((Region.wanted o (yf ops f)=true/\TU m P f o w fun v w'=>Ly m P n ops Q rest (put f o.dst v) w')\/(Region.wanted o (yf ops f)=false/\Ly m P n ops Q rest (put f o.dst undef) w))
theorem TU.wpIn{a:Act}{K:Value->World->Prop}{b:Act->World->Prop}{g:Exit->Act->World->Prop}(ha:uT a n f)(c:iI o=true)(h:TU m P f o w K)(d : ∀ v w',K v w'->b (a.put o.dst v) w'):o.wpIn (FR none) m P a w b g:=by
 rcases h with h|⟨l,fn,tmps,assign,body,hr,h⟩
 ·exact h.wpIn ha c d
 unfold Oper.wpIn
 refine⟨fun _ _=>trivial,?_⟩
 rw[EA _ _ c,ha.ev,hr,Oper.uponIn_round]
 exact⟨fun h=>(by cases h),h.mono fun e w' ⟨v,i,j⟩=>by subst i; exact d v w' j⟩
theorem Ly.to : ∀ {l:List Oper} {f:Nat->Value} {w:World},Ly m P n ops Q l f w->l.all iI=true -> ∀ a,uT a n f->wpListIn (FR none) m P ops (LV n a.defers Q) l a w
 | [],f,w,h,_,a,ha=>⟨f,ha,rfl,h⟩
 | o::rest,f,w,⟨hd,h⟩,hn,a,ha=>by
   rw[List.all_cons,Bool.and_eq_true]at hn
   unfold wpListIn
   rw[ha.yf]
   rcases h with ⟨b,h⟩|⟨b,h⟩
   ·rw[if_pos b]
    exact h.wpIn ha hn.1 fun v w' c=>by have:=Ly.to c hn.2 _ (ha.put hd v); rwa [put_defers]at this
   ·rw[if_neg (by rw[b]; decide)]
    exact⟨fun _ _=>trivial,by have:=Ly.to h hn.2 _ (ha.put hd undef); rwa [put_defers]at this⟩
theorem W.RX(m:Nat){id:Nat}{ops:List Oper}(h:Ly m P n ops.toArray Q ops f w)(j:ops.all iI=true:=by rfl):W P n (.region id ops.toArray false) Q f w:=fun a b =>
 (wpIn_wide (n:=m)).1 (wpIn_mono (wpIn_region_lit (Ly.to h j a b.to0)) fun e k w' ⟨c,d,g,i⟩=>⟨c,d.to (g.trans b.defers),i⟩)
theorem Ly.nil(h:Q .normal f w):Ly m P n ops Q [] f w:=h
theorem Ly.v(v:Value)(hr:Runs P f o w v)(h:Ly m P n ops Q rest (put f o.dst v) w)(b:Region.wanted o (yf ops f)=true:=by rfl)(a:inn n o.dst=true:=by rfl):Ly m P n ops Q (o::rest) f w:=⟨a,.inl ⟨b,.inl (.inl ⟨v,w,hr,h⟩)⟩⟩
theorem Ly.skip(b:Region.wanted o (yf ops f)=false)(a:inn n o.dst=true)(h:Ly m P n ops Q rest (put f o.dst undef) w):Ly m P n ops Q (o::rest) f w:=⟨a,.inr ⟨b,h⟩⟩
theorem Ly.call{g:FuncId}{args:Array Value}(b:Region.wanted o (yf ops f)=true)(hr:(execOp (ev f) o).run P w = .ok (.enter g args) w)(a:inn n o.dst=true)
 (h:Calls P g args w fun e w' => ∃ v,e = .returned v/\Ly m P n ops Q rest (put f o.dst v) w'):Ly m P n ops Q (o::rest) f w:=⟨a,.inl ⟨b,.inl (.inr (.inr ⟨g,args,hr,h⟩))⟩⟩
theorem Ly.yield{l:Nat}{x:Operand}{a:List Operand}{args:List Value}{b:Array TypeId}{R:Ending->World->Prop}(q:Region.wanted o (yf ops f)=true)(k:o.op = .call { callee := .value x,args:=a.toArray,argTypes:=b })(hx:ev f x = .func (.yield l) #[] #[])(r:a.map (ev f)=args)(j:inn n o.dst=true)
 (hy:YieldAt (FR none) (m-1) P l args.toArray w R) (h : ∀ e w',R e w' -> ∃ v,e = .returned v/\Ly m P n ops Q rest (put f o.dst v) w'):Ly m P n ops Q (o::rest) f w:=by
 obtain⟨g,s,c,d,p,i⟩:=hy
 refine⟨j,.inl ⟨q,.inr ⟨l,g,s,c,d,?_,i.mono h⟩⟩⟩
 unfold execOp
 simp only[k]
 unfold resolve
 simp only[Sem.run_bind,List.map_toArray,r,hx,Deferred.ofValue,Sem.run_pure,Result.andThen_ok]
 unfold invoke
 have e:(#[]++args.toArray:Array Value)=args.toArray:=by simp
 show(Instr.yield l (#[]++args.toArray)).run P w=_
 rw[e]
 exact p
theorem LW{a:Act}(h:uT a n f)(b:Func):results b a.tmps=uY b f:=by
 have c:Fr { a with defers := [] } n f:=⟨h.size,rfl,h.get⟩
 exact IE c b
theorem leave1{a:Act}{b:Func}{R:Ending->World->Prop}{D:Nat}{v:Value}(h:uT a n f)(e:a.defers = [{ target := .collected D,args := #[] }])(c:w.heap[D]? = some (.deferred (some [])))
 (g:(uY b f).run P (w.putObj D (.deferred none)) = .ok v (w.putObj D (.deferred none))) (d:R (.returned v) (w.putObj D (.deferred none))):bodyPostM (FR none) m P b R .ret a w:=by
 show LeavesInM (FR none) m P b a.tmps R a.defers .returning w
 rw[e]
 exact⟨by simp,.inl ⟨D,_,rfl,run_takeDeferred c,v,by rw[LW h]; exact g,d⟩⟩
end
end Fx
end Go.Proofs.YtcbedgfikejkoaaDoor
namespace Go.Proofs.YtcbedgfikejkoaaDoor
open Go.RowKit Rt
open Fx (eU dJ fu bf fq eZ dS dM fA gQ dH gT eP gD gU Lv sN Ln Ws Qv Wl Rp Wc Qs Wr Sb Lk Wk rC rV sR Rs Rn Rd Rk Wb Wx Wo yT Wt pE Qn AX uo xL yB xJ AZ AY gG yR jM nT tC A8 yA yP yQ rv aA aL bC aI ev bT Stp aM flat fH Mp aV fC gI aX down fM iU ji jv bG bA cells_one jO aY unseen jk iT cu bW cB bY bZ iB iG qP gV)
abbrev bJ(g n c:Nat):Value := .slice (some ⟨g,0,none⟩) n c
theorem KrI{k:IntKind}{a b:Int}(h:a=b):Ending.returned (.int k a) = .returned (.int k b):=by rw[h]
theorem mK{a b:Bool}(h:a=b):Ending.returned (.bool a) = .returned (.bool b):=by rw[h]
abbrev pt(g:Nat):Value := .pointer (some ⟨g,0,none⟩)
abbrev pf(g o:Nat):Value := .pointer (some ⟨g,o,none⟩)
theorem Fx.ic{k:IntKind}{a b:Int}(h:a=b:=by first|rfl|omega):Value.int k a = .int k b:=congrArg _ h
theorem Fx.io{a c:Int}(h : -9223372036854775808<=c/\c<=9223372036854775807:=by omega)(e:a=c:=by omega):IntKind.i64.wrap a=c:=Fx.ji h e
theorem Fx.aL.ne{w:World}{g n:Nat}{x:Nat->Value}{T:TypeId}(h:Fx.aL w g n x T):g≠w.heap.size:=Nat.ne_of_lt h.lt
namespace Rt
def mx:Int:=1125899906842624
def F5(n:Int):Bool:=decide (0<=n)&&decide (n<=1125899906842624)
def jA(l:List Int):Bool:=l.all F5
def jJ(l:List Int):Int × Bool:=if jA l then(l.sum,true)else(0,false)
theorem yE(l:List Int)(k:Nat)(h:k<l.length):jA (l.take (k+1))=(jA (l.take k)&&F5 l[k]):=by
 unfold jA; rw[List.take_succ_eq_append_getElem h,List.all_append]; simp
theorem Bg(l:List Int)(k:Nat)(h:k<l.length):(l.take (k+1)).sum=(l.take k).sum+l[k]:=by
 rw[List.take_succ_eq_append_getElem h,List.sum_append]; simp
theorem wM : ∀(l:List Int),jA l=true->0<=l.sum/\l.sum<=1125899906842624*(l.length:Int)
 | [],_=>by simp
 | x::l,h=>by
   unfold jA at h
   rw[List.all_cons,Bool.and_eq_true]at h
   have:=wM l h.2
   have a:=h.1
   unfold F5 at a
   simp at a
   rw[List.sum_cons,List.length_cons]
   omega
theorem pR(l:List Int):0<=(jJ l).1/\(jJ l).1<=1125899906842624*(l.length:Int):=by
 unfold jJ
 by_cases h:jA l=true
 ·rw[if_pos h]; exact wM l h
 rw[if_neg h]; simp; omega
theorem Bh{l:List Int}{k:Nat}(a:k<l.length)(h:F5 l[k]=false):jA l=false:=by
 unfold jA
 rw[List.all_eq_false]
 exact⟨l[k],List.getElem_mem a,by simpa using h⟩
def G(x:Nat->Int)(i:Nat):Int:=x i
def C(x:Nat->Int)(i:Nat):Int:=x (6+i)
def F(x:Nat->Int)(i:Nat):Int:=x (12+i)
def R(x:Nat->Int)(i j:Nat):Int:=x (18+i*6+j)
def outs(x:Nat->Int)(k:Nat):Nat->List Int
 | 0 => [C x k]
 | j+1=>outs x k j ++ [R x k j]
def ins(x:Nat->Int)(k:Nat):Nat->List Int
 | 0 => [G x k,F x k]
 | j+1=>ins x k j ++ [R x j k]
def localM(x:Nat->Int)(k:Nat):Int × Bool:=((jJ (ins x k 6)).1-(jJ (outs x k 6)).1,(jJ (outs x k 6)).2&&(jJ (ins x k 6)).2)
theorem Kl(x:Nat->Int)(k:Nat):(outs x k 6).length=7:=rfl
theorem LX(x:Nat->Int)(k:Nat):(ins x k 6).length=8:=rfl
end Rt
def ZO(k:IntKind)(w:World)(a:Option Addr)(l:List Int):Prop :=
 ∀ i (h:i<l.length),∃ b c,a=some ⟨b,c,none⟩/\w.cell? ⟨b,c+i,none⟩=some (.int k l[i])
end Go.Proofs.YtcbedgfikejkoaaDoor
namespace Go.Proofs.YtcbedgfikejkoaaDoor.Fx
open Go.RowKit
def LY(I:(Nat->Value)->World->Prop)(Q:Post):Post:=fun e f w=>match e with | .normal=>I f w|e=>Q e f w
section
variable {P:Program} {n:Nat} {Q:Post} {f:Nat->Value} {w:World} {I:(Nat->Value)->World->Prop}
theorem xQ{x y:Code}(I:(Nat->Value)->World->Prop)(h1:W P n x (LY I Q) f w)(b : ∀ f w,I f w->W P n y Q f w):W P n (.seq x y) Q f w :=
 Ws (W.mono h1 fun e f w a=>by
  cases e <;> first|exact b f w a|exact a)
theorem nE(h:I f w):LY I Q .normal f w:=h
theorem jnR(h:Q .ret f w):LY I Q .ret f w:=h
end
end Go.Proofs.YtcbedgfikejkoaaDoor.Fx
namespace Go.Proofs.YtcbedgfikejkoaaDoor
open Go.RowKit Rt
open Fx (eU dJ fu bf fq eZ dS dM fA gQ dH gT eP gD gU Lv sN Ln Ws Qv Wl Rp Wc Qs Wr Sb Lk Wk rC rV sR Rs Rn Rd Rk Wb Wx Wo yT Wt pE Qn AX uo xL yB xJ AZ AY gG yR jM nT tC A8 yA yP xQ yQ rv aA aL bC aI ev bT Stp aM flat fH Mp aV fC gI aX down fM iU ji jv bG bA cells_one jO aY nE unseen jk iT cu bW cB bY bZ iB iG qP gV)
section
set_option maxRecDepth 20000
namespace Rt
def dD(x:Nat->Int):Nat->Int->Bool
 | 0,_=>false
 | n+1,k=>dD x n k || decide (x n=k)
def fI(x p:Nat->Int):Nat->Int->Int
 | 0,_=>0
 | n+1,k=>if x n=k then p n else fI x p n k
section
variable {x p:Nat->Int} {n j:Nat} {k:Int}
theorem gZ : ∀ {n:Nat},j<n->x j=k->dD x n k=true
 | n+1,h,e=>by
   unfold dD
   by_cases c:j=n
   ·subst c; rw[decide_eq_true e,Bool.or_true]
   ·rw[gZ (show j<n by omega) e,Bool.true_or]
theorem sI : ∀ {n:Nat},(∀ i,i<n->x i≠k)->dD x n k=false
 | 0,_=>rfl
 | n+1,h=>by unfold dD; rw[sI fun i hi=>h i (by omega),decide_eq_false (h n (by omega))]; rfl
theorem eT : ∀ {n:Nat},dD x n k=true -> ∃ j,j<n/\x j=k
 | n+1,h=>by
   unfold dD at h
   rw[Bool.or_eq_true]at h
   rcases h with h|h
   ·obtain⟨j,a,e⟩:=eT h; exact⟨j,by omega,e⟩
   ·exact⟨n,by omega,of_decide_eq_true h⟩
theorem vE(hi : ∀ a b,a<n->b<n->x a=x b->a=b)(h:j<n)(e:x j=k):fI x p n k=p j:=by
 induction n with
 | zero=>omega
 | succ n ih =>
   unfold fI
   by_cases c:j=n
   ·subst c; rw[if_pos e]
   ·rw[if_neg fun d=>c (hi j n (by omega) (by omega) (e.trans d.symm))]
    exact ih (fun a b f g=>hi a b (by omega) (by omega)) (by omega)
def ig(x p:Nat->Int)(n:Nat):Nat->Int->List Int
 | 0,_ => []
 | d+1,k=>if dD x n k=true then k::ig x p n d (fI x p n k)else []
def gJ(x p:Nat->Int)(n:Nat):Nat->Int->Prop
 | 0,k=>dD x n k=false
 | d+1,k=>dD x n k=true->gJ x p n d (fI x p n k)
theorem jm{d:Nat}(h:dD x n k=false):ig x p n d k = []:=by cases d with
 | zero=>rfl
 | succ d=>unfold ig; rw[if_neg (by rw[h]; decide)]
theorem BN{d:Nat}(h:gJ x p n d k)(a:dD x n k=true) : ∃ e,d=e+1/\gJ x p n e (fI x p n k)/\ig x p n d k=k::ig x p n e (fI x p n k):=by
 cases d with
 | zero=>have h:dD x n k=false:=h; rw[a]at h; cases h
 | succ d=>exact⟨d,rfl,h a,by show(if _ then _ else _)=_; rw[if_pos a]⟩
end
structure JF(q:Nat)(J:List Int->World->Prop)(pre:List Int)(w:World):Prop where
 ab:XA.I4 q J
 j:J pre w
theorem JF.eG{q:Nat}{J:List Int->World->Prop}{b:List Int}{w w':World}(h:JF q J b w)(a:Stp q w w'):JF q J b w' :=
 ⟨h.ab,h.ab _ w w' (some q) h.j ⟨a.os,a.tape,a.output,a.size,fun k c d=>a.block k c (fun e=>d (by rw[e]))⟩ (fun r e=>(Option.some.inj e).symm)⟩
theorem JF.up{q:Nat}{J:List Int->World->Prop}{b:List Int}{w w':World}(h:JF q J b w)(a:Below w.heap.size w w'):JF q J b w' :=
 ⟨h.ab,h.ab _ w w' none h.j ⟨a.os,a.tape,a.output,a.size,fun k c _=>a.block k c⟩ (fun r e=>by cases e)⟩
instance {q:Nat} {J:List Int->World->Prop} {a:List Int} {w w':World}:Rt.Tr w w' (JF q J a w) (JF q J a w'):=⟨fun b h=>h.up b⟩
structure LZ(tp mb bt q:Nat)(w w':World):Prop where
 size:w.heap.size<=w'.heap.size
 t:w'.heap[tp]? = w.heap[tp]?
 m:w'.heap[mb]? = w.heap[mb]?
 b:w'.heap[bt]? = w.heap[bt]?
 q:w'.heap[q]? = w.heap[q]?
end Rt
theorem zL(x p:Nat->Int)(n a c:Nat)(k:Int)(w:World)(g:aL w a 1 (fun _ => .map (some c)) 82)(f:Mp w c n x (fun j=>aC (p j))) :
 Calls Tryd.prog 106 #[(pt a),aC k] w fun e w'=>e = .returned (.bool (dD x n k))/\w'=w:=by
 have i:=g.lt
 refine Kent Tryd.func106 19 ?_
 refine ay<|av aF<|aD<|Ws<|ay<|av ((pt a))<|Lv aF (Fx.jF rfl rfl rfl (by kernel_rfl))<|aD<|aK<|Wk<|sN<|ay<|av ((pt a))<|av ((pt a))<|av ((pt a))<|Lv (.map (some c)) (aP g.aJ 0)<|av (aC k) ?_
 rcases Fx.mJ x n k with ⟨b,h,d⟩|gK
 ·refine Lv (.tuple #[aC (p b),.bool true]) (Fx.zK (z:=aC 0) rfl rfl rfl f Tryd.underlying53 Tryd.underlying29 (by rfl) h d rfl)<|av (.tuple #[aC (p b),.bool true])<|av (aC (p b))<|av aG<|av (aC (p b))<|av aG<|aD<|ay<|av aG<|av aG<|aD<|Wr<|aN aG ?_
  exact⟨mK (Eq.symm (gZ h d)),rfl⟩
 refine Lv (.tuple #[aC 0,.bool false]) (Fx.zJ (z:=aC 0) rfl rfl rfl f Tryd.underlying53 Tryd.underlying29 (by rfl) gK)<|av (.tuple #[aC 0,.bool false])<|av (aC 0)<|av aF<|av (aC 0)<|av aF<|aD<|ay<|av aF<|av aF<|aD<|Wr<|aN aF ?_
 exact⟨mK (Eq.symm (sI gK)),rfl⟩
theorem aaX(f:Nat)(k:Int)(w:World) :
 Calls Tryd.prog 143 #[(pt f),aC k] w fun e w' => ∃ c q,e = .returned (.func (.func 146) #[] #[(pt c),(pt q)])/\w.heap.size<=c/\w.heap.size<=q/\aL w' c 1 (fun _=>(pt f)) 51/\aL w' q 1 (fun _=>aC k) 29/\Below w.heap.size w w':=by
 refine Kent Tryd.func143 6 ?_
 refine ay<|qE ((pt f)) fun a v l d p y => ?_
 have g:=aR p.old (Below.refl w.heap.size w)
 have m:=gY l
 have t:=d.lt
 refine qE (aC k) fun b x h i r z => ?_
 have⟨o,j⟩:=iA r.old d g
 have n:=gM h g.size
 have s:=bR h d.lt
 have u:=i.lt
 refine av (.nilFunc)<|aD<|ay<|Lv (.func (.func 146) #[] #[(pt a),(pt b)]) (Fx.jl (us := []) (vs := [(pt a),(pt b)]) rfl rfl rfl)<|av (.func (.func 146) #[] #[(pt a),(pt b)])<|aD<|Wr<|aN (.func (.func 146) #[] #[(pt a),(pt b)]) ?_
 exact⟨a,b,rfl,m,n,o,i,j⟩
theorem XD(J:List Int->World->Prop)(l g o r q n u:Nat)(x p:Nat->Int)(k:Int)(w:World)(hT:aL w g 1 (fun _ => .map (some o)) 82)(hM:Mp w o n x (fun j=>aC (p j)))(hB:aL w r 1 (fun _=>(pt g)) 51)(S:aL w q 1 (fun _=>aC k) 29)(hinj : ∀ a b,a<n->b<n->x a=x b->a=b)(TV:gJ x p n u k)(hJ:JF q J [] w)(hd:r≠q/\g≠q)
 (hY : ∀ h v F,J h F->h.length<(ig x p n u k).length->Go.YieldAt (Fx.FR none) 1 Tryd.prog l #[aC v] F fun e P=>e = .returned (.bool true)/\J (h ++ [v]) P/\LZ g o r q F P) :
  Calls Tryd.prog 146 #[.func (.yield l) #[] #[],(pt r),(pt q)] w fun e w'=>(∃ v,e = .returned v) /\ ∃ xs,xs=ig x p n u k/\J xs w':=by
 obtain⟨hd1,hd2⟩:=hd
 have lq:=S.lt
 refine Kent Tryd.func146 18 ?_
 refine Wb<|yT (fun d f D => ∃ h:List Int,∃ c:Int,gJ x p n d c/\h++ig x p n d c=ig x p n u k/\f 0 = .func (.yield l) #[] #[]/\f 1=(pt r)/\f 2=(pt q)/\aL D g 1 (fun _ => .map (some o)) 82/\Mp D o n x (fun j=>aC (p j))/\aL D r 1 (fun _=>(pt g)) 51/\aL D q 1 (fun _=>aC c) 29/\JF q J h D) (u) ⟨[],k,TV,(List.nil_append _),(by rfl),(by rfl),(by rfl),hT,hM,hB,S,hJ⟩ ?_
 rintro d f1 w1 ⟨h,c,hst,B,R,G,y,I,L,Z,M,N⟩
 refine Ws<|Ws<|Fx.W.RX 2<|Fx.Ly.v ((pt g)) (bf (x:=fun _=>(pt g)) rfl G (by kernel_rfl) Z.aJ (i:=0) (by omega) (by omega) rfl) ?_
 refine Fx.Ly.v (aC c) (bf (x:=fun _=>aC c) rfl y (by kernel_rfl) M.aJ (i:=0) (by omega) (by omega) rfl) ?_
 by_cases s:(dD x n c)=true
 ·refine Fx.Ly.call (by rfl) (rC (args := [(pt g),aC c]) rfl rfl Tryd.func106 rfl rfl) rfl<|(zL x p n g o c _ I L).mono ?_
  rintro e O ⟨A,hv1⟩
  subst O
  refine⟨.bool true,by rw[A,s],?_⟩
  clear A
  refine Fx.Ly.v (.bool true) (eU rfl rfl) ?_
  refine Fx.Ly.v (.func (.yield l) #[] #[]) (eU rfl R) ?_
  refine Fx.Ly.v (aC c) (bf (x:=fun _=>aC c) rfl y (by kernel_rfl) M.aJ (i:=0) (by omega) (by omega) rfl) ?_
  obtain⟨d1,ed1,aaY,U⟩:=BN hst s
  refine Fx.Ly.yield (l:=l) (args := [aC c]) rfl rfl rfl (Fx.args1 rfl) rfl (hY h c _ N.j (by have:=congrArg List.length B; rw[U,List.length_append,List.length_cons]at this; omega)) ?_
  rintro e9 C ⟨rfl,hJ1,E⟩
  refine⟨.bool true,rfl,?_⟩
  have m6:aL C g 1 (fun _ => .map (some o)) 82:=(E.t).trans I
  have m7:Mp C o n x (fun j=>aC (p j)):=L.keep E.m
  have m8:aL C r 1 (fun _=>(pt g)) 51:=(E.b).trans Z
  have m9:aL C q 1 (fun _=>aC c) 29:=(E.q).trans M
  have m10:JF q J (h ++ [c]) C:=⟨N.ab,hJ1⟩
  refine Fx.Ly.v (.bool true) (eZ rfl rfl rfl) ?_
  refine Fx.Ly.nil ?_
  refine sN<|aQ<|Wk<|sN<|Wb ?_
  obtain⟨H,T,Q⟩:=eT s
  -- region 1 draws
  refine jS [0,1,2,3,4,5,6] [4,0,0,4,4,3,3] [(5,0,[3,2,1,0]),(6,0,[0]),(5,3,[3]),(6,3,[3]),(5,4,[4]),(6,4,[4]),(6,5,[5])] fun qY fO iC => ?_
  have⟨V,X,Y,K,m15⟩:=lV fO m6 m7 m8 m9 m10
  refine Rs ((pt g)) (aP Y.aJ 0 (ha:=G)) ?_
  refine aU ((pt g))<|aU ((pt g))<|Rs (.map (some o)) (aP V.aJ 0) ?_
  refine Rs (aC c) (aP K.aJ 0 (ha:=y)) ?_
  refine gP<|Lv (aC (p H)) (Fx.pK (z:=aC 0) rfl rfl rfl X Tryd.underlying53 Tryd.underlying29 (by rfl) T Q rfl)<|Ln<|gP<|mZ K 0 (aC (p H)) (ha:=y) fun w3 m16 s2 z1 => ?_
  have m17:aL w3 q 1 (fun _=>aC (p H)) 29:=cu m16
  have iq:=gG s2 K.ty
  have⟨m18,m19,m20⟩:=zI iq V X Y
  have m21:=m15.eG s2
  refine Ln<|Rn<|cB ?_
  have m22:aL w3 q 1 (fun _=>aC (fI x p n c)) 29:=by rw[vE hinj T Q]; exact m17
  skip
  refine iG ⟨d1,(by omega),(h ++ [c]),(fI x p n c),aaY,(by rw[List.append_assoc]; rw[U]at B; exact B),R,G,y,m18,m19,m20,m22,m21⟩ (by decide)
 rw[Bool.not_eq_true]at s
 refine Fx.Ly.call (by rfl) (rC (args := [(pt g),aC c]) rfl rfl Tryd.func106 rfl rfl) rfl<|(zL x p n g o c _ I L).mono ?_
 rintro e O ⟨A,hv1⟩
 subst O
 refine⟨.bool false,by rw[A,s],?_⟩
 clear A
 refine Fx.Ly.v (.bool false) (eU rfl rfl) ?_
 refine Fx.Ly.skip (by rfl) rfl ?_
 refine Fx.Ly.skip (by rfl) rfl ?_
 refine Fx.Ly.skip (by rfl) rfl ?_
 refine Fx.Ly.v (.bool false) (fq rfl rfl rfl) ?_
 refine Fx.Ly.nil ?_
 refine sN (aK (Wx (bY (iB (bZ (⟨.tuple #[],fM Tryd.results146,?_⟩))))))
 exact⟨⟨_,rfl⟩,h,(by rw[jm s,List.append_nil]at B; exact B),N.j⟩
end
end Go.Proofs.YtcbedgfikejkoaaDoor
namespace Go.Proofs.YtcbedgfikejkoaaDoor
open Go.RowKit Go Rt
set_option linter.unusedVariables false
namespace Rt
def qJ(l:List Int):Nat->Value:=fun i=>aC (l.getD i 0)
theorem PK{l:List Int}{v:Int}{z:Nat->Value} : ∀ j,j<(l.length+1)*1->Fx.iT (qJ l) (l.length*1) (Fx.bC z (0*1) 1 (fun _=>aC v)) j=qJ (l ++ [v]) j:=fun j a=>by
 unfold Fx.iT qJ
 by_cases h:j<l.length*1
 ·rw[if_pos h,List.getD_eq_getElem?_getD,List.getD_eq_getElem?_getD,List.getElem?_append_left (by omega)]
 ·rw[if_neg h]
  obtain rfl:j=l.length:=by omega
  unfold Fx.bC
  rw[if_pos (by omega)]; simp
structure PI(gl bt q B:Nat)(w0:World)(pre:List Int)(w:World):Prop where
 ex : ∃ a c,Fx.aL w gl 1 (fun _ => .slice a pre.length c) 61/\Fx.Own w B 29 1 (.slice a pre.length c) pre.length (qJ pre)/\(∀ r,(Value.slice a pre.length c).ownBlock=some r->r≠bt/\r≠q/\r≠gl)
 be:Below B w0 w
 lb:bt<w.heap.size
 lq:q<w.heap.size
theorem KeepsOthers.wN{g:Nat}{w w':World}(h:Fx.Stp g w w')(c : ∀ o,w.heap[g]? = some o->o.isCells=true):KeepsOthers w w' :=
 ⟨h.size,fun k o a b=>by
  by_cases e:k=g
  ·subst e; rw[c o a]at b; cases b
  ·exact(h.block k (Array.getElem?_eq_some_iff.1 a).1 e).trans a⟩
theorem KeepsOthers.L6{w w':World}{v:Value}(h:w.grownBy w' v.ownBlock)(c : ∀ r o,v.ownBlock=some r->w.heap[r]? = some o->o.isCells=true):KeepsOthers w w' :=
 ⟨h.size,fun k o a b=>by
  refine(h.block k (Array.getElem?_eq_some_iff.1 a).1 fun e => ?_).trans a
  rw[c k o e.symm a]at b; cases b⟩
theorem vF{w:World}{g:Nat}{T:TypeId}(h:Fx.Ty w g T) : ∀ o,w.heap[g]? = some o->o.isCells=true:=fun o a=>by
 obtain⟨b,h⟩:=h
 rw[h]at a; cases a; rfl
theorem LZ.trans{d c a q:Nat}{A B C:World}(h:LZ d c a q A B)(k:LZ d c a q B C):LZ d c a q A C:=⟨Nat.le_trans h.size k.size,k.t.trans h.t,k.m.trans h.m,k.b.trans h.b,k.q.trans h.q⟩
theorem LZ.of{c b a q:Nat}{A B:World}(d:A.heap.size<=B.heap.size)(h : ∀ k,k=c\/k=b\/k=a\/k=q->B.heap[k]? = A.heap[k]?):LZ c b a q A B:=⟨d,h _ (.inl rfl),h _ (.inr (.inl rfl)),h _ (.inr (.inr (.inl rfl))),h _ (.inr (.inr (.inr rfl)))⟩
theorem PI.own{b k q B c:Nat}{j:World}(l:B<=j.heap.size)(n:b≠q)(p:B<=q)(y:B<=c):XA.Kk q c (PI b k q B j):=fun s W x w u a i=>by
 obtain⟨⟨d,f,m,o,h⟩,hbe,hlb,hlq⟩:=u
 have g : ∀ r T,Fx.Ty W r T->r≠q->w≠some r:=fun r T v t e=>by
  rcases i r e with h1|⟨_,ob,h1,h2⟩
  ·exact t h1
  ·rw[vF v ob h1]at h2; cases h2
 refine⟨⟨d,f,?_,?_,h⟩,hbe.grown a (Nat.le_trans l hbe.size) fun r e => ?_,Nat.lt_of_lt_of_le hlb a.size,Nat.lt_of_lt_of_le hlq a.size⟩
 ·exact(a.block b m.lt fun e=>g b _ m.ty n e.symm).trans m
 ·refine World.ownsRow.kept o a ?_
  cases hb:(Value.slice d s.length f).ownBlock with
  | none=>exact .inl rfl
  | some r=>exact .inr fun e=>g r _ (o.ty hb) (h r hb).2.1 e.symm
 ·rcases i r e with rfl|⟨h1,_⟩
  ·exact p
  ·omega
end Rt
open Rt
theorem PL(d f c q n e:Nat)(x p:Nat->Int)(k:Int)(u : ∀ a b,a<n->b<n->x a=x b->a=b)(y:gJ x p n e k)(t:c≠q/\d≠q) :
 XA.XB (Fx.FR none) 2 Tryd.prog 146 #[(pt c),(pt q)] (fun v:Int => #[aC v]) (LZ d f c q) (fun z=>z=ig x p n e k) (ig x p n e k).length q
  (fun w=>Fx.aL w d 1 (fun _ => .map (some f)) 82/\Fx.Mp w f n x (fun j=>aC (p j))/\Fx.aL w c 1 (fun _=>(pt d)) 51/\Fx.aL w q 1 (fun _=>aC k) 29) :=
 fun l J W ⟨o,i,h,m⟩ s r g=>callsIn_wide.2 (XD J l d f c q n e x p k W o i h m u y ⟨s,g⟩ t r)
set_option maxRecDepth 10000 in
theorem Gx(x p:Nat->Int)(n A L C:Nat)(k:Int)(w:World)(hT:Fx.aL w A 1 (fun _ => .map (some L)) 82)(hM:Fx.Mp w L n x (fun j=>aC (p j)))(hinj : ∀ a b,a<n->b<n->x a=x b->a=b)(TV:gJ x p n C k)(hlen:(ig x p n C k).length<=1000000) :
 Calls Tryd.prog 131 #[(pt A),aC k] w fun e w' => ∃ a c,e = .returned (.slice a (ig x p n C k).length c)/\Fx.Own w' w.heap.size 29 1 (.slice a (ig x p n C k).length c) (ig x p n C k).length (qJ (ig x p n C k))/\Below w.heap.size w w':=by
 have ltp:=hT.lt
 have lmb:=hM.lt
 refine(callsIn_wide (n:=3)).1 (callsIn_of_wp_marks (F:=Fx.FR none) Tryd.func131 rfl trivial ?_ rfl)
 have ha:Fx.uT { tmps := #[(pt A),aC k]++Array.replicate (Tryd.f131.ntmps-2) undef,defers := [] } 15 (Fx.start #[(pt A),aC k]):=by
  refine⟨by rfl,fun i => ?_⟩
  simp only[Fx.start,Array.getD_eq_getD_getElem?,Array.getElem?_append,Array.getElem?_replicate]
  by_cases hi:i<2
  ·simp[hi]
  ·have S : ¬ i<(#[(pt A),aC k]:Array Value).size:=by simpa using hi
   rw[if_neg S]
   split
   ·rw[Array.getElem?_eq_none (by simpa using hi)]; rfl
   ·rw[Array.getElem?_eq_none (by simpa using hi)]
 refine wpIn_seq<|Fx.BM (Q:=fun e f1 N=>e = .normal/\f1 0=(pt A)/\f1 1=aC k/\f1 4=(pt w.heap.size)/\Fx.aL N w.heap.size 1 (fun _ => .slice none 0 0) 61/\Below w.heap.size w N) ha ?_ (by rfl) ?_
 ·refine Fx.xJ (m:=1) (y:=fun _ => .slice none 0 0) (by rfl) rfl (by kernel_rfl) rfl fun g1 N nk Z s1 z1 => ?_
  subst nk
  exact Fx.Ln ⟨rfl,rfl,rfl,rfl,Z,s1.old⟩
 rintro e a1 N ⟨f1,ha1,hd1,rfl,h0,P,U,Z,b1⟩
 have RY:=Z.lt
 refine wpIn_seq<|wpIn_seq<|Fx.BM (Q:=fun e X J=>e = .normal/\X 4=(pt w.heap.size)/\Below N.heap.size N J /\ ∃ t q,X 8 = .func (.func 146) #[] #[(pt t),(pt q)]/\N.heap.size<=t/\N.heap.size<=q/\Fx.aL J t 1 (fun _=>(pt A)) 51/\Fx.aL J q 1 (fun _=>aC k) 29) ha1 ?_ (by rfl) ?_
 ·refine aS h0<|aS P<|jy (aaX A k _) ?_
  rintro e J ⟨t,q,he,lb,lq,mb',mq',hb⟩
  exact⟨_,he,Fx.Ln ⟨rfl,U,hb,t,q,rfl,lb,lq,mb',mq'⟩⟩
 rintro e a2 J ⟨X,ha2,hd2,rfl,U,b2,t,q,h8,lbt,lq,mbt,mq⟩
 have hds:a2.defers = []:=hd2.trans hd1
 have tbt:=mbt.lt
 have tq:=mq.lt
 have bq:t≠q:=fun e=>by
  subst e
  have:=mbt.symm.trans mq
  simp only[Option.some.injEq,Obj.cells.injEq]at this
  exact absurd this.2.1 (by decide)
 have m2:=Z.eG (Fx.Sb b2) (Nat.ne_of_lt Z.lt)
 have s1:=b1.size
 have s2:=b2.size
 have b12:Below w.heap.size w J:=b1.trans (b2.mono s1)
 have XE:Fx.aL J A 1 (fun _ => .map (some L)) 82:=(b12.block A ltp).trans hT
 have hM2:Fx.Mp J L n x (fun j=>aC (p j)):=hM.keep (b12.block L lmb)
 have hgq:w.heap.size≠q:=by omega
 refine wpIn_block (XA.yD (F:=Fx.FR none) rfl (by decide) (gf:=146) (lb := #[(pt t),(pt q)]) ?hg trivial (fun args w=>iK Tryd.func146 (by kernel_rfl) rfl args w)
  (PL A L t q n C x p k hinj TV ⟨bq,by omega⟩) tq ⟨XE,hM2,mbt,mq⟩ ?Gw (fun h k=>h.trans k) ?hKb (fun _=>rfl) (PI w.heap.size t q w.heap.size w) (PI.own (Nat.le_refl _) hgq (by omega) (by omega))
  ⟨⟨none,0,m2,Fx.yA _ _ _ _ _,fun r e=>by cases e⟩,b12,tbt,tq⟩ (fun v a => ∃ f,Fx.uT a 15 f/\f 4=(pt w.heap.size)/\f 5=aC v) ?assign ?body ?done)
 case hg=>rw[ha2.ev]; exact h8
 case Gw =>
  rintro W o hw ⟨i1,i2,i3,i4⟩
  exact⟨(Below.heap_alloc W o A i1.lt).trans i1,i2.keep (Below.heap_alloc W o L i2.lt),(Below.heap_alloc W o t i3.lt).trans i3,(Below.heap_alloc W o q i4.lt).trans i4⟩
 case hKb =>
  intro W l o o' hl _ _ _
  exact LZ.of (by simp) fun r hr=>World.putObj_heap_other (by omega)
 case assign =>
  intro l v W
  have hp:=ha2.put (d:=some 9) rfl (aC v)
  refine Fx.BM (ro:=some l) (n:=15) (f:=Fx.put X (some 9) (aC v)) (Q:=fun e f w'=>e = .normal/\f 4=(pt w.heap.size)/\f 5=aC v/\w'=W) (Fx.Ez hp) ?_ (by rfl) ?_
  ·exact Fx.Lv (aC v) (Fx.dJ rfl rfl) (Fx.Ln ⟨rfl,U,rfl,rfl⟩)
  ·rintro e a' w' ⟨f',hf',_,rfl,g4,g5,rfl⟩
   exact⟨⟨f',hf',g4,g5⟩,rfl⟩
 case body =>
  rintro l M v W a' ⟨f',hf',g4,g5⟩ ⟨⟨G,H,V,o3,Y⟩,R,hpb,hpq⟩ hpl
  have hbs:=R.size
  have EB:=V.lt
  refine wpIn_block<|Fx.BM (ro:=some l) (Q:=fun e f w'=>e = .normal/\KeepsOthers W w'/\LZ A L t q W w'/\PI w.heap.size t q w.heap.size w (M ++ [v]) w') hf' ?_ (by rfl) ?_
  ·refine Fx.Lv (.slice G M.length H) (aP V.aJ 0 (ha:=g4))<|aS g5<|Fx.xL (vs := [(0,aC v)]) (s:=1) (zc:=fun _=>aC 0) (y:=Fx.bC (fun j=>aC 0) (0*1) 1 (fun _=>aC v)) (by rfl) rfl rfl Tryd.underlying61 (by kernel_rfl) (by rfl) (by rfl) (by kernel_rfl) (by rw[Fx.aX (off:=0*1) (s:=1) (y:=fun _=>aC v) rfl (Fx.cells_one (by rfl)) (by rfl)]; rfl) rfl fun g4' w4 Bj m4 E z4 => ?_
   have⟨m5,o5⟩:=iA E.old V o3
   have hB4:w.heap.size<=w4.heap.size:=Nat.le_trans hbs E.size
   refine Fx.yB (B:=w.heap.size) (s:=1) (bytes:=8) (k:=M.length) (m:=1) (v := .slice G M.length H) (x:=qJ M) (by rfl) rfl rfl rfl Tryd.underlying61 (by kernel_rfl) (by kernel_rfl) rfl rfl o5 m4.aJ (fun j hj=>by unfold Fx.bC; split <;> rfl) (by omega) (by omega) (by omega) hB4 fun K Bl w6 ho1 I L8 hlt1 => ?_
   have m6:=m5.grown I (fun e=>(Y _ e).2.2 rfl)
   refine mZ m6 0 (bJ K (M.length+1) Bl) (ha:=g4) fun O m7 u z7 => ?_
   have e4 : ∀ r,r<W.heap.size->r≠w.heap.size->(∀ z,(Value.slice G M.length H).ownBlock=some z->z≠r)->O.heap[r]? = W.heap[r]? := fun r P S h3 =>
    (u.block r (Nat.lt_of_lt_of_le (Nat.lt_of_lt_of_le P E.size) I.size) S).trans ((I.block r (Nat.lt_of_lt_of_le P E.size) fun e=>h3 r e.symm rfl).trans (E.block r P (Nat.ne_of_lt P)))
   have hg6:K≠t/\K≠q/\K≠w.heap.size:=by
    rcases L8 with h|h
    ·exact Y K h
    ·have:=E.size; have:=R.block
     refine⟨?_,?_,?_⟩
     ·omega
     ·omega
     ·omega
   have mC:Fx.aL O w.heap.size 1 (fun _=>bJ K (M.length+1) Bl) 61:=Fx.aL.congr m7 (by
    intro j hj
    obtain rfl:j=0:=by omega
    rfl)
   refine Fx.Ln ⟨rfl,?_,?_,⟨?_,?_,?_,?_⟩⟩
   ·refine(KeepsOthers.wN E fun o ho => ?_).trans ((KeepsOthers.L6 I fun r o e ho=>vF (o5.ty e) o ho).trans (KeepsOthers.wN u (vF m6.ty)))
    have:=(Array.getElem?_eq_some_iff.1 ho).1; omega
   ·refine LZ.of (Nat.le_trans E.size (Nat.le_trans I.size u.size)) fun r hr=>e4 r ?_ ?_ fun z hz => ?_
    ·rcases hr with rfl|rfl|rfl|rfl <;> omega
    ·rcases hr with rfl|rfl|rfl|rfl <;> omega
    ·have P:=(o3.ge hz).1; have S:=Y z hz
     rcases hr with rfl|rfl|rfl|rfl
     ·omega
     ·omega
     ·exact S.1
     ·exact S.2.1
   ·refine⟨some ⟨K,0,none⟩,Bl,?_,?_,fun r e => ?_⟩
    ·rw[List.length_append]; exact mC
    ·rw[List.length_append]; exact(ho1.congr PK).eG u (fun e=>hg6.2.2 (Option.some.inj e))
    ·obtain rfl:K=r:=Option.some.inj e
     exact hg6
   ·refine u.below ((E.below R hbs hbs).grown I hB4 fun r e=>(o5.ge e).1) (Nat.le_trans hB4 I.size) (Nat.le_refl _)
   ·exact Nat.lt_of_lt_of_le hpb (Nat.le_trans E.size (Nat.le_trans I.size u.size))
   ·exact Nat.lt_of_lt_of_le hpq (Nat.le_trans E.size (Nat.le_trans I.size u.size))
  ·rintro e a5 w5 ⟨f5,_,_,rfl,q1,q2,q3⟩
   exact⟨q1,q2,q3⟩
 case done =>
  rintro D xs W hD rfl ⟨⟨G,H,V,o3,Y⟩,R,hpb,hpq⟩ hK
  have hcD : ∀ g,g<J.heap.size->g≠D:=fun g h e=>by omega
  have hkc : ∀ {g T},Fx.Ty W g T->g≠D:=fun ht e=>by
   have:=vF ht _ (e ▸ hK); cases this
  have hDn:(w.heap.size:Nat)≠D:=by omega
  show Code.wpIn _ _ _ _ _ _ _
  refine wpIn_seq<|Fx.BM (Q:=fun e f w'=>e = .normal/\f 4=(pt w.heap.size)/\Fx.Stp w.heap.size W w'/\Fx.aL w' w.heap.size 1 (fun _ => .slice G (ig x p n C k).length H) 61) (f:=X) ⟨ha2.size,ha2.get⟩ ?_ (by rfl) ?_
  ·refine Fx.Lv (.slice G (ig x p n C k).length H) (aP V.aJ 0 (ha:=U))<|mZ V 0 (.slice G (ig x p n C k).length H) (ha:=U) fun O m7 u z7 => ?_
   exact Fx.Ln ⟨rfl,U,u,Fx.aL.congr m7 fun j hj=>by
    obtain rfl:j=0:=by omega
    rfl⟩
  rintro e a7 O ⟨f7,ha7,hd7,rfl,q4,u,m7⟩
  have hK7:O.heap[D]? = some (.deferred (some [])):=(u.block D (Array.getElem?_eq_some_iff.1 hK).1 (Ne.symm hDn)).trans hK
  have m8:Fx.aL (O.putObj D (.deferred none)) w.heap.size 1 (fun _ => .slice G (ig x p n C k).length H) 61:=(World.putObj_heap_other hDn).trans m7
  refine wpIn_ret (Fx.leave1 ha7 (hd7.trans (by rw[hds])) hK7 (Fx.rV Tryd.results131 ⟨_,q4,Fx.J6 m8.aJ (by kernel_rfl) (i:=0) (by omega) (by omega) rfl⟩) ⟨G,H,rfl,?_,?_⟩)
  ·have o7:=o3.eG u (fun e=>(Y _ e).2.2 rfl)
   exact World.ownsRow.kept o7 (grownBy_putObj' O D _) (.inr fun e=>by
    exact hkc (o3.ty e) rfl)
  ·exact(u.below R R.size (Nat.le_refl _)).grown (grownBy_putObj' O D _) (Nat.le_trans R.size u.size) fun r e=>by cases e; omega
end Go.Proofs.YtcbedgfikejkoaaDoor
namespace Go.Proofs.YtcbedgfikejkoaaDoor
open Go.RowKit Go
set_option linter.unusedVariables false
namespace Rt
section
variable {x p x' p':Nat->Int} {n n' j d e:Nat} {k id pa:Int}
theorem sJ : ∀ {d:Nat} {k:Int},(ig x p n d k).length<=d
 | 0,k=>Nat.le_refl _
 | d+1,k=>by
   unfold ig
   split
   ·rw[List.length_cons]; exact Nat.succ_le_succ sJ
   ·exact Nat.zero_le _
theorem vG : ∀ {d e:Nat} {k:Int},gJ x p n d k->(ig x p n d k).length<=e->gJ x p n e k
 | 0,0,k,h,_=>h
 | 0,e+1,k,h,_=>fun b=>by
   have h:dD x n k=false:=h
   rw[h]at b; cases b
 | d+1,0,k,h,hl=>by
   show dD x n k=false
   cases a:dD x n k with
   | false=>rfl
   | true =>
     unfold ig at hl
     rw[if_pos a,List.length_cons]at hl
     omega
 | d+1,e+1,k,h,hl=>fun a=>by
   unfold ig at hl
   rw[if_pos a,List.length_cons]at hl
   exact vG (h a) (by omega)
theorem EC : ∀ {d:Nat} {k:Int},gJ x p n d k->ig x p n (d+1) k=ig x p n d k
 | 0,k,h=>by
   have h:dD x n k=false:=h
   rw[jm h,jm h]
 | d+1,k,h=>by
   cases hk:dD x n k with
   | false=>rw[jm hk,jm hk]
   | true =>
     show(if dD x n k=true then k::ig x p n (d+1) (fI x p n k)else [])=(if dD x n k=true then k::ig x p n d (fI x p n k)else [])
     rw[if_pos hk,if_pos hk,EC (h hk)]
theorem Gy{d:Nat}{k:Int}(h:gJ x p n d k):gJ x p n (d+1) k:=vG h (Nat.le_succ_of_le sJ)
theorem Di{d e:Nat}{k:Int}(h:gJ x p n d k)(a:d<=e):ig x p n e k=ig x p n d k/\gJ x p n e k:=by
 induction a with
 | refl=>exact⟨rfl,h⟩
 | step _ ih=>exact⟨(EC ih.2).trans ih.1,Gy ih.2⟩
theorem BO(a : ∀ k,dD x' n' k=dD x n k)(b : ∀ k,dD x n k=true->fI x' p' n' k=fI x p n k) : ∀(d:Nat) (k:Int),ig x' p' n' d k=ig x p n d k
 | 0,_=>rfl
 | d+1,k=>by
   unfold ig
   rw[a]
   cases hk:dD x n k with
   | false=>rfl
   | true=>rw[if_pos rfl,if_pos rfl,b k hk,BO a b d]
structure wO(n:Nat)(x p:Nat->Int):Prop where
 inj : ∀ a b,a<n->b<n->x a=x b->a=b
 pos : ∀ j,j<n->0<x j/\x j<=18446744073709551615
 stop : ∀ k,gJ x p n 4 k
 small:n<=32
 par : ∀ j,j<n->p j=0 \/ ∃ i,i<j/\x i=p j
theorem wO.zero(x p:Nat->Int):wO 0 x p:=⟨fun a b h=>by omega,fun j h=>by omega,fun k h=>(nomatch h),by omega,fun j h=>by omega⟩
theorem wO.TW(h:wO n x p):dD x n 0=false:=sI fun i hi e=>by have:=h.pos i hi; omega
theorem wO.XF(h:wO n x p)(d:Nat):ig x p n d 0 = []:=jm h.TW
theorem wO.len(h:wO n x p)(k:Int):(ig x p n 4 k).length<=1000000:=Nat.le_trans sJ (by omega)
def nu(x p:Nat->Int)(n:Nat)(id pa:Int):Int :=
 if id=0 then 1 else if dD x n id=true then 14 else if ¬ pa=0/\dD x n pa=false then 9 else if 32<=n\/4<=(ig x p n 4 pa).length then 6 else 0
inductive TY (n:Nat) (x p:Nat->Int) (id pa:Int):Int->Nat->(Nat->Int)->(Nat->Int)->Prop
 | no {c:Int} (hc:nu x p n id pa=c) (h0:c≠0):TY n x p id pa c n x p
 | yes (hc:nu x p n id pa=0):TY n x p id pa 0 (n+1) (Fx.aI x n id) (Fx.aI p n pa)
theorem Gz(a:nu x p n id pa=0):id≠0/\dD x n id=false/\(pa=0\/dD x n pa=true)/\n<32/\(ig x p n 4 pa).length<4:=by
 unfold nu at a
 split at a
 ·cases a
 split at a
 ·cases a
 split at a
 ·cases a
 split at a
 ·cases a
 rename_i h1 h2 h3 h4
 refine⟨h1,by simpa using h2,?_,by omega,by omega⟩
 by_cases b:pa=0
 ·exact .inl b
 right
 cases hk:dD x n pa with
 | true=>rfl
 | false=>exact absurd ⟨b,hk⟩ h3
theorem iO(id k:Int):dD (Fx.aI x n id) (n+1) k=(dD x n k || decide (id=k)):=by
 have e : ∀ m,m<=n->dD (Fx.aI x n id) m k=dD x m k:=fun m=>by
  induction m with
  | zero=>exact fun _=>rfl
  | succ m ih =>
    intro a
    show(dD (Fx.aI x n id) m k || decide (Fx.aI x n id m=k))=(dD x m k || decide (x m=k))
    rw[ih (by omega)]
    unfold Fx.aI
    rw[if_neg (by omega)]
 show(dD (Fx.aI x n id) n k || decide (Fx.aI x n id n=k))=_
 rw[e n (Nat.le_refl _)]
 unfold Fx.aI
 rw[if_pos rfl]
theorem pU(id pa k:Int):fI (Fx.aI x n id) (Fx.aI p n pa) (n+1) k=if id=k then pa else fI x p n k:=by
 have e : ∀ m,m<=n->fI (Fx.aI x n id) (Fx.aI p n pa) m k=fI x p m k:=fun m=>by
  induction m with
  | zero=>exact fun _=>rfl
  | succ m ih =>
    intro a
    show(if Fx.aI x n id m=k then Fx.aI p n pa m else fI (Fx.aI x n id) (Fx.aI p n pa) m k)=(if x m=k then p m else fI x p m k)
    rw[ih (by omega),show Fx.aI x n id m=x m by unfold Fx.aI; rw[if_neg (by omega)],show Fx.aI p n pa m=p m by unfold Fx.aI; rw[if_neg (by omega)]]
 show(if Fx.aI x n id n=k then Fx.aI p n pa n else fI (Fx.aI x n id) (Fx.aI p n pa) n k)=_
 rw[e n (Nat.le_refl _),show Fx.aI x n id n=id by unfold Fx.aI; rw[if_pos rfl],show Fx.aI p n pa n=pa by unfold Fx.aI; rw[if_pos rfl]]
theorem wO.up(h:wO n x p)(b:dD x n k=true):fI x p n k=0\/dD x n (fI x p n k)=true:=by
 obtain⟨j,a,e⟩:=eT b
 rw[vE h.inj a e]
 rcases h.par j a with h1|⟨i,hi,h1⟩
 ·exact .inl h1
 exact .inr (gZ (by omega) h1)
theorem zM(h:wO n x p)(c:dD x n id=false)(b:id≠0) : ∀(d:Nat) (k:Int),k≠id->gJ x p n d k->gJ (Fx.aI x n id) (Fx.aI p n pa) (n+1) d k
 | 0,k,hk,hs=>by
   show dD _ _ _=false
   rw[iO,decide_eq_false (fun e=>hk e.symm),Bool.or_false]; exact hs
 | d+1,k,hk,hs=>fun a=>by
   rw[iO,decide_eq_false (fun e=>hk e.symm),Bool.or_false]at a
   rw[pU,if_neg (fun e=>hk e.symm)]
   refine zM h c b d _ ?_ (hs a)
   intro e
   rcases h.up a with h1|h1
   ·exact b (e.symm.trans h1)
   ·rw[e,c]at h1; cases h1
theorem wO.put(h:wO n x p)(y:nu x p n id pa=0)(o:0<=id/\id<=18446744073709551615):wO (n+1) (Fx.aI x n id) (Fx.aI p n pa):=by
 obtain⟨m,f,s,B,A⟩:=Gz y
 have l:Fx.aI x n id n=id:=by unfold Fx.aI; rw[if_pos rfl]
 have d : ∀ j,j<n->Fx.aI x n id j=x j:=fun j c=>by unfold Fx.aI; rw[if_neg (by omega)]
 have t:Fx.aI p n pa n=pa:=by unfold Fx.aI; rw[if_pos rfl]
 have u : ∀ j,j<n->Fx.aI p n pa j=p j:=fun j c=>by unfold Fx.aI; rw[if_neg (by omega)]
 have r : ∀ j,j<n->x j≠id:=fun j c e=>by rw[gZ c e]at f; cases f
 have z:pa≠id:=fun e=>by
  subst e
  rcases s with h1|h1
  ·exact m h1
  ·rw[f]at h1; cases h1
 have g : ∀ j,j<n+1->j<n\/j=n:=fun j c=>by omega
 refine⟨fun a b w o e => ?_,fun j c => ?_,fun k => ?_,by omega,fun j c => ?_⟩
 ·rcases g a w with h1|rfl <;> rcases g b o with h2|rfl
  ·rw[d a h1,d b h2]at e; exact h.inj a b h1 h2 e
  ·rw[d a h1,l]at e; exact absurd e (r a h1)
  ·rw[l,d b h2]at e; exact absurd e.symm (r b h2)
  rfl
 ·rcases g j c with h1|rfl
  ·rw[d j h1]; exact h.pos j h1
  rw[l]; omega
 ·by_cases q:k=id
  ·subst q
   intro _
   rw[pU,if_pos rfl]
   exact zM h f m 3 pa z (vG (h.stop pa) (by omega))
  exact zM h f m 4 k q (h.stop k)
 rcases g j c with h1|rfl
 ·rw[u j h1]
  rcases h.par j h1 with h2|⟨i,hi,h2⟩
  ·exact .inl h2
  exact .inr ⟨i,hi,by rw[d i (by omega)]; exact h2⟩
 rw[t]
 rcases s with h2|h2
 ·exact .inl h2
 obtain⟨i,hi,v⟩:=eT h2
 exact .inr ⟨i,hi,by rw[d i hi]; exact v⟩
theorem sK : ∀ {l m:List Int},l.Pairwise (· < ·)->m.Pairwise (· < ·)->(∀ k,k∈l<->k∈m)->l=m
 | [],[],_,_,_=>rfl
 | [],b::m,_,_,h=>by have:=(h b).2 (by simp); simp at this
 | a::l,[],_,_,h=>by have:=(h a).1 (by simp); simp at this
 | a::l,b::m,hl,hm,h=>by
   rw[List.pairwise_cons]at hl hm
   have e:a=b:=by
    have c:=(h a).1 (by simp)
    have d:=(h b).2 (by simp)
    rw[List.mem_cons]at c d
    rcases c with c|c
    ·exact c
    rcases d with d|d
    ·exact d.symm
    have:=hm.1 _ c; have:=hl.1 _ d; omega
   subst e
   rw[sK hl.2 hm.2 fun k => ?_]
   have f:=h k
   rw[List.mem_cons,List.mem_cons]at f
   constructor
   ·intro q
    rcases f.1 (.inr q)with rfl|c
    ·have:=hl.1 _ q; omega
    ·exact c
   ·intro q
    rcases f.2 (.inr q)with rfl|c
    ·have:=hm.1 _ q; omega
    ·exact c
end
theorem BP(S:Nat->Bool) : ∀ n,Fx.unseen S n<=n
 | 0=>Nat.le_refl _
 | n+1=>by
   unfold Fx.unseen
   have:=BP S n
   split <;> omega
structure L9(n:Nat)(P:Nat->Prop)(S:Nat->Bool)(m:Nat)(τ:Nat->Nat)(kk:Nat):Prop where
 lt : ∀ q,q<m->τ q<n
 inj : ∀ q r,q<m->r<m->τ q=τ r->q=r
 mem : ∀ i,i<n->S i=true->P i -> ∃ q,q<m/\τ q=i
 yes : ∀ q,q<m->P (τ q)
 seen : ∀ q,q<m->S (τ q)=true
 le:m+kk<=n
 kk:kk=Fx.unseen S n
section
variable {n m kk:Nat} {P:Nat->Prop} {S:Nat->Bool} {τ:Nat->Nat}
theorem L9.start(n:Nat)(P:Nat->Prop)(τ:Nat->Nat):L9 n P (fun _=>false) 0 τ (Fx.unseen (fun _=>false) n) :=
 ⟨fun _ h=>absurd h (Nat.not_lt_zero _),fun _ _ h=>absurd h (Nat.not_lt_zero _),fun _ _ h=>(nomatch h),fun _ h=>absurd h (Nat.not_lt_zero _),fun _ h=>absurd h (Nat.not_lt_zero _),by have:=BP (fun _=>false) n; omega,rfl⟩
theorem L9.skip(h:L9 n P S m τ kk){i:Nat}(hi:i<n)(g:S i=false)(d : ¬ P i):L9 n P (Fx.aI S i true) m τ (Fx.unseen (Fx.aI S i true) n):=by
 have o:=Fx.kK g n hi
 have k:=h.kk
 have l:=h.le
 refine⟨h.lt,h.inj,fun j c a b => ?_,h.yes,fun q f => ?_,by omega,rfl⟩
 ·unfold Fx.aI at a
  split at a
  ·rename_i e; subst e; exact absurd b d
  exact h.mem j c a b
 unfold Fx.aI; split
 ·rfl
 exact h.seen q f
theorem L9.take(h:L9 n P S m τ kk){i:Nat}(hi:i<n)(g:S i=false)(p:P i):L9 n P (Fx.aI S i true) (m+1) (Fx.aI τ m i) (Fx.unseen (Fx.aI S i true) n):=by
 have w:=Fx.kK g n hi
 have u:=h.kk
 have v:=h.le
 have c:Fx.aI τ m i m=i:=by unfold Fx.aI; rw[if_pos rfl]
 have b : ∀ q,q<m->Fx.aI τ m i q=τ q:=fun q a=>by unfold Fx.aI; rw[if_neg (by omega)]
 have k : ∀ q,q<m->τ q≠i:=fun q a e=>by have:=h.seen q a; rw[e,g]at this; cases this
 have d : ∀ q,q<m+1->q<m\/q=m:=fun q a=>by omega
 refine⟨fun q a => ?_,fun q r a t e => ?_,fun j o f l => ?_,fun q a => ?_,fun q a => ?_,by omega,rfl⟩
 ·rcases d q a with h1|rfl
  ·rw[b q h1]; exact h.lt q h1
  rw[c]; exact hi
 ·rcases d q a with h1|h1 <;> rcases d r t with h2|h2
  ·rw[b q h1,b r h2]at e; exact h.inj q r h1 h2 e
  ·subst h2; rw[b q h1,c]at e; exact absurd e (k q h1)
  ·subst h1; rw[b r h2,c]at e; exact absurd e.symm (k r h2)
  omega
 ·by_cases e:j=i
  ·exact⟨m,by omega,by rw[c,e]⟩
  unfold Fx.aI at f
  rw[if_neg e]at f
  obtain⟨q,a,s⟩:=h.mem j o f l
  exact⟨q,by omega,by rw[b q a,s]⟩
 ·rcases d q a with h1|rfl
  ·rw[b q h1]; exact h.yes q h1
  rw[c]; exact p
 rcases d q a with h1|rfl
 ·rw[b q h1]; unfold Fx.aI; split
  ·rfl
  exact h.seen q h1
 rw[c]; unfold Fx.aI; rw[if_pos rfl]
end
end Rt
end Go.Proofs.YtcbedgfikejkoaaDoor
namespace Go.Proofs.YtcbedgfikejkoaaDoor
open Go.RowKit Rt
open Fx (eU dJ fu bf fq eZ dS dM fA gQ dH gT eP gD gU Lv sN Ln Ws Qv Wl Rp Wc Qs Wr Sb Lk Wk rC rV sR Rs Rn Rd Rk Wb Wx Wo yT Wt pE Qn AX uo xL yB xJ AZ AY gG yR jM nT tC A8 yA yP xQ yQ rv aA aL bC aI ev bT Stp aM flat fH Mp aV fC gI aX down fM iU ji jv bG bA cells_one jO aY nE unseen jk iT cu bW cB bY bZ iB iG qP gV)
section
open Rt
set_option maxRecDepth 10000
theorem XG(x p:Nat->Int)(w:World) :
 Calls Tryd.prog 13 #[] w fun e w' => ∃ c b,e = .returned ((pt c))/\w.heap.size<=c/\w.heap.size<=b/\aL w' c 1 (fun _ => .map (some b)) 82/\Mp w' b 0 x (fun j=>aC (p j))/\Below w.heap.size w w':=by
 refine Kent Tryd.func13 4 ?_
 refine ay<|av (.pointer none)<|aD<|ay<|Fx.L.Et (by rfl) rfl rfl fun m y l a r A => ?_
 have d:=aR r.old (Below.refl w.heap.size w)
 have n:=gY l
 have u:=a.lt
 refine av (.agg (aA 1 (bC (fun _ => .map none) 0 1 (fun _ => .map (some m)))))<|sG fun g z f h s B => ?_
 have⟨q,k⟩:=iA s.old a d
 have o:=gM f d.size
 have t:=bR f a.lt
 have v:=h.lt
 refine av ((pt g))<|aD<|Wr<|aN ((pt g)) ?_
 exact⟨_,_,rfl,o,n,h,q.ni (fun i hi=>absurd hi (Nat.not_lt_zero _)),k⟩
theorem Rt.oz{l:List Int}{i:Nat}{v:Int}(hi:i<l.length)(e:l.getD i 0=v):v∈l:=by
 rw[List.getD_eq_getElem?_getD,List.getElem?_eq_getElem hi]at e
 rw[<- e]; exact List.getElem_mem hi
theorem Rt.PN{l:List Int}{v:Int}(h : ∀ j,j<l.length->l.getD j 0≠v) : ¬ v∈l:=fun a=>by
 obtain⟨i,hi,e⟩:=List.getElem_of_mem a
 refine h i hi ?_
 rw[List.getD_eq_getElem?_getD,List.getElem?_eq_getElem hi]; exact e
theorem abb(l:List Int)(v:Int)(B c:Nat)(a:Option Addr)(w:World)(C:Fx.Own w B 29 1 (.slice a l.length c) l.length (qJ l))(F:l.length<=1000) :
 Calls Tryd.prog 145 #[.slice a (l.length) (c),aC v] w fun e w' => ∃ r:Int,e = .returned (au r)/\(0<=r<->v∈l)/\Below w.heap.size w w':=by
 refine Kent Tryd.func145 19 ?_
 refine ay<|av (au 0)<|aD<|Ws<|ay<|av (.slice a (l.length) (c))<|av (au l.length)<|av (au 0)<|aD<|Wb<|Wo (fun f A => ∃ i:Nat,(∀ j,j<i->l.getD j 0≠v)/\f 0 = .slice a (l.length) (c)/\f 1=aC v/\f 7=au ((l.length:Int))/\f 8=au ((i:Int))/\Fx.Own A B 29 1 (.slice a (l.length) (c)) l.length (qJ l)/\Below w.heap.size w A) (fun f _=>((l.length:Int)-intOf (f 8)).toNat) ⟨0,(fun j n=>absurd n (Nat.not_lt_zero _)),(by rfl),Fx.ic,Fx.ic,Fx.ic,C,(Below.refl w.heap.size w)⟩ ?_
 rintro E z ⟨i,u,s,t,m,b,x,g⟩
 refine ay ?_
 by_cases o:(i:Int)<(l.length:Int)
 ·refine Lv aG (jU o (hx:=b) (hy:=m))<|aD<|Ws<|aQ<|Wk<|sN<|Ws<|Wb<|ay<|aS b<|av (au i)<|aD<|ay<|aS t<|aS s<|av (au i) ?_
  obtain⟨p,k⟩:=x.addr (by omega)
  have y:Fx.Own z B 29 1 (bJ p l.length c) l.length (qJ l):=x.mG (congrArg (fun q=>Value.slice q l.length c) k)
  refine Lv ((pf p i)) (dw 1 (hx:=(rfl.trans (congrArg (fun q=>Value.slice q (l.length) (c)) k))))<|Lv (aC (l.getD i 0)) (aP y.aJ i) ?_
  by_cases d:v=(l.getD i 0)
  ·refine Lv aG (gH d)<|aD<|aQ<|ay<|av (au i)<|av (au i)<|aD<|Wr<|bW<|sR<|qP<|bW<|sR<|aN (au i) ?_
   exact⟨_,rfl,⟨fun _=>oz (by omega) d.symm,fun _=>by omega⟩,g⟩
  refine Lv aF (iW d)<|aD<|aK<|Wk<|cB<|sN<|Wl<|Lv (au ((i:Int)+1)) (fZ (hx:=b))<|av (au ((i:Int)+1))<|Ln ?_
  have D:Fx.Own z B 29 1 (.slice a (l.length) (c)) l.length (qJ l):=y.mG (congrArg (fun q=>Value.slice q l.length c) k.symm)
  refine iG ⟨i+1,(fun j n=>by by_cases e:j=i; subst e; exact fun e=>d e.symm; exact u j (by omega)),s,(t.trans Fx.ic),(m.trans Fx.ic),Fx.ic,D,g⟩ ?_
  show((l.length:Int)-intOf ((au ((i:Int)+1)))).toNat<_
  simp only[b,intOf]; omega
 refine Lv aF (jV o (hx:=b) (hy:=m))<|aD<|Ws<|aK<|Wx<|bY<|iB<|bZ<|sN<|ay<|av (au (-1))<|aD<|Wr<|aN (au (-1)) ?_
 exact⟨_,rfl,⟨fun h=>by omega,fun h=>absurd h (PN (fun j n=>u j (by omega)))⟩,g⟩
theorem abd(l:List Int)(v:Int)(B c:Nat)(a:Option Addr)(w:World)(g:Fx.Own w B 29 1 (.slice a l.length c) l.length (qJ l))(i:l.length<=1000) :
 Calls Tryd.prog 133 #[.slice a (l.length) (c),aC v] w fun e w'=>e = .returned (.bool (decide (v∈l)))/\Below w.heap.size w w':=by
 refine Kent Tryd.func133 9 ?_
 refine ay<|av aF<|aD<|ay<|av (.slice a (l.length) (c))<|av (aC v)<|jy (abb l v B c a _ g i) ?_
 rintro j k ⟨r,b,h,f⟩
 refine⟨_,b,?_⟩
 clear b
 have d:=aR f (Below.refl w.heap.size w)
 refine Lv (.bool (decide (0<=r))) (Fx.zx rfl rfl rfl)<|av (.bool (decide (0<=r)))<|aD<|Wr<|aN (.bool (decide (0<=r))) ?_
 exact⟨by rw[decide_eq_decide.2 h],d⟩
theorem XH(x p:Nat->Int)(n b a:Nat)(id pa:Int)(w:World)(f:aL w b 1 (fun _ => .map (some a)) 82)(d:Mp w a n x (fun j=>aC (p j)))(h:wO n x p) :
 Calls Tryd.prog 118 #[(pt b),aC id,aC pa] w fun e w' => ∃ c F x2 G,e = .returned (au c)/\TY n x p id pa c F x2 G/\aL w' b 1 (fun _ => .map (some a)) 82/\Mp w' a F x2 (fun j=>aC (G j))/\Stp a w w':=by
 have ac:=f.lt
 have ab:=d.lt
 have aa:=h.small
 have Z:(ig x p n 4 pa).length<=4:=sJ
 refine Kent Tryd.func118 44 ?_
 refine ay<|av (au 0)<|aD<|Ws<|Wb<|ay<|av ((pt b))<|Lv aF (Fx.jF rfl rfl rfl (by kernel_rfl))<|av aF<|aD<|aK<|ay<|av (aC id) ?_
 by_cases k:id=0
 ·refine Lv aG (gH k)<|av aG<|aD<|aQ<|ay<|av (au 1)<|aD<|Wr<|bW<|sR<|aN (au 1) ?_
  exact⟨_,_,_,_,rfl,.no (by unfold nu; rw[if_pos k]) (by decide),f,d,(jM a w)⟩
 refine Lv aF (iW k)<|av aF<|aD<|aK<|ay<|av ((pt b))<|av (aC id) ?_
 by_cases g:(dD x n id)=true
 ·refine mH (zL x p n b a id _ f d) aG (by rw[g])<|av aG<|aD<|aQ<|ay<|av (au 14)<|aD<|Wr<|bW<|sR<|aN (au 14) ?_
  exact⟨_,_,_,_,rfl,.no (by unfold nu; rw[if_neg k,g,if_pos rfl]) (by decide),f,d,(jM a w)⟩
 rw[Bool.not_eq_true]at g
 refine mH (zL x p n b a id _ f d) aF (by rw[g])<|av aF<|aD<|aK<|ay<|av (aC pa) ?_
 by_cases m:pa=0
 ·refine Lv aF (kW m)<|av aF<|cO<|cO<|cO<|cO<|av aF<|av aF<|aD<|aK<|Ws<|ay<|av ((pt b))<|av ((pt b))<|av ((pt b))<|Lv (.map (some a)) (aP f.aJ 0)<|Lv (au n) (Fx.LK rfl rfl rfl d Tryd.underlying53) ?_
  by_cases o:32<=(n:Int)
  ·refine Lv aG (qD o)<|av aG<|aD<|aQ<|Wk<|sN<|aQ<|ay<|av (au 6)<|aD<|Wr<|bW<|sR<|aN (au 6) ?_
   exact⟨_,_,_,_,rfl,.no (by unfold nu; rw[if_neg k,g,if_neg (by decide),if_neg (fun h=>h.1 m),if_pos (by omega)]) (by decide),f,d,(jM a w)⟩
  refine Lv aF (pJ o)<|av aF<|aD<|aK<|Wl<|av ((pt b))<|av (aC pa)<|jy (Gx x p n b a 4 pa _ f d h.inj (h.stop _) (h.len _)) ?_
  rintro M w1 ⟨RZ,pc1,r,N,B⟩
  refine⟨_,r,?_⟩
  clear r
  have V:=Sb B
  have⟨u,v⟩:=iA B f d
  have z:=(jM a w).then V (.inr (jM a w).size)
  refine av (au (((ig x p n 4 pa).length:Nat):Int)) ?_
  by_cases q:4<=(((ig x p n 4 pa).length:Nat):Int)
  ·refine Lv aG (qD q)<|av aG<|aD<|aQ<|ay<|av (au 6)<|aD<|Wr<|bW<|sR<|aN (au 6) ?_
   exact⟨_,_,_,_,rfl,.no (by unfold nu; rw[if_neg k,g,if_neg (by decide),if_neg (fun h=>h.1 m),if_pos (by omega)]) (by decide),u,v,z⟩
  refine Lv aF (pJ q)<|av aF<|aD<|aK<|Wk<|cB<|sN<|Ws ?_
  have s : ∀ i,i<n->x i≠id:=fun i hi e=>by rw[gZ hi e]at g; cases g
  refine Wl<|av ((pt b))<|av ((pt b))<|av ((pt b))<|Lv (.map (some a)) (aP u.aJ 0)<|av (aC id)<|av (aC pa)<|Fx.L.Kg (by rfl) rfl rfl rfl rfl rfl v Tryd.underlying53 Tryd.underlying29 s fun X R H z1 => ?_
  have D:=v.xP H
  have S:=u.dh D
  have m6:=N.dh D
  have J:=z.then H (.inl rfl)
  have T:Mp X a (n+1) (aI x n id) (fun j=>aC (aI p n pa j)):=R.ni (fun i _=>⟨rfl,by unfold aI; split <;> rfl⟩)
  refine aD<|ay<|av (au 0)<|aD<|Wr<|aN (au 0) ?_
  exact⟨_,_,_,_,rfl,.yes (by unfold nu; rw[if_neg k,g,if_neg (by decide),if_neg (fun h=>h.1 m),if_neg (by omega)]),S,T,J⟩
 refine Lv aG (qV m)<|av aG<|av ((pt b))<|av (aC pa) ?_
 by_cases l:(dD x n pa)=true
 ·refine mH (zL x p n b a pa _ f d) aG (by rw[l])<|av aF<|av aF<|av aF<|aD<|aK<|Ws<|ay<|av ((pt b))<|av ((pt b))<|av ((pt b))<|Lv (.map (some a)) (aP f.aJ 0)<|Lv (au n) (Fx.LK rfl rfl rfl d Tryd.underlying53) ?_
  by_cases o:32<=(n:Int)
  ·refine Lv aG (qD o)<|av aG<|aD<|aQ<|Wk<|sN<|aQ<|ay<|av (au 6)<|aD<|Wr<|bW<|sR<|aN (au 6) ?_
   exact⟨_,_,_,_,rfl,.no (by unfold nu; rw[if_neg k,g,if_neg (by decide),if_neg (fun h=>by rw[l]at h; cases h.2),if_pos (by omega)]) (by decide),f,d,(jM a w)⟩
  refine Lv aF (pJ o)<|av aF<|aD<|aK<|Wl<|av ((pt b))<|av (aC pa)<|jy (Gx x p n b a 4 pa _ f d h.inj (h.stop _) (h.len _)) ?_
  rintro M w3 ⟨pa2,pc2,r,U,C⟩
  refine⟨_,r,?_⟩
  clear r
  have W:=Sb C
  have⟨y,t⟩:=iA C f d
  have A:=(jM a w).then W (.inr (jM a w).size)
  refine av (au (((ig x p n 4 pa).length:Nat):Int)) ?_
  by_cases q:4<=(((ig x p n 4 pa).length:Nat):Int)
  ·refine Lv aG (qD q)<|av aG<|aD<|aQ<|ay<|av (au 6)<|aD<|Wr<|bW<|sR<|aN (au 6) ?_
   exact⟨_,_,_,_,rfl,.no (by unfold nu; rw[if_neg k,g,if_neg (by decide),if_neg (fun h=>by rw[l]at h; cases h.2),if_pos (by omega)]) (by decide),y,t,A⟩
  refine Lv aF (pJ q)<|av aF<|aD<|aK<|Wk<|cB<|sN<|Ws ?_
  have s : ∀ i,i<n->x i≠id:=fun i hi e=>by rw[gZ hi e]at g; cases g
  refine Wl<|av ((pt b))<|av ((pt b))<|av ((pt b))<|Lv (.map (some a)) (aP y.aJ 0)<|av (aC id)<|av (aC pa)<|Fx.L.Kg (by rfl) rfl rfl rfl rfl rfl t Tryd.underlying53 Tryd.underlying29 s fun Y O I z2 => ?_
  have E:=t.xP I
  have P:=y.dh E
  have ad:=U.dh E
  have K:=A.then I (.inl rfl)
  have Q:Mp Y a (n+1) (aI x n id) (fun j=>aC (aI p n pa j)):=O.ni (fun i _=>⟨rfl,by unfold aI; split <;> rfl⟩)
  refine aD<|ay<|av (au 0)<|aD<|Wr<|aN (au 0) ?_
  exact⟨_,_,_,_,rfl,.yes (by unfold nu; rw[if_neg k,g,if_neg (by decide),if_neg (fun h=>by rw[l]at h; cases h.2),if_neg (by omega)]),P,Q,K⟩
 rw[Bool.not_eq_true]at l
 refine mH (zL x p n b a pa _ f d) aF (by rw[l])<|av aG<|av aG<|av aG<|aD<|aQ<|ay<|av (au 9)<|aD<|Wr<|bW<|sR<|aN (au 9) ?_
 exact⟨_,_,_,_,rfl,.no (by unfold nu; rw[if_neg k,g,if_neg (by decide),if_pos ⟨m,l⟩]) (by decide),f,d,(jM a w)⟩
theorem XI(k:Int)(w:World) :
 Calls Tryd.prog 32 #[aC k] w fun e w'=>e = .returned (.bool true)/\w'=w:=by
 refine Kent Tryd.func32 3 ?_
 refine ay<|av aF<|aD<|ay<|av aG<|aD<|Wr<|aN aG ?_
 exact⟨rfl,rfl⟩
-- (*tree.Tree).Below$1 is not in this seat
end
section
set_option linter.unusedVariables false
namespace Rt
open Go.Sort (ltInt swp)
def gA(d:Array Int):Nat->Int:=fun i=>d[i]!
section
variable {d d':Array Int} {n a b i j k p:Nat}
theorem T9(e:d.size=n)(hi:i<n)(c:j<n)(k:Nat):gA (swp d i j) k=if k=i then gA d j else if k=j then gA d i else gA d k:=by
 unfold gA
 by_cases b:k=i
 ·subst b
  rw[if_pos rfl]
  by_cases a:k=j
  ·subst a; exact Sort.swp_right d k k (by omega)
  exact Sort.swp_left d k j (by omega) a
 rw[if_neg b]
 by_cases a:k=j
 ·subst a; rw[if_pos rfl]; exact Sort.swp_right d i k (by omega)
 rw[if_neg a]; exact Sort.swp_other d i j k b a
theorem dI(a:d.size=n)(i j:Nat):(swp d i j).size=n:=by rw[Sort.size_swp]; exact a
theorem fD(e:d.size=n)(hi:i<n)(c:j<n) : ∀ p,p<n*1->fH (fH (rv .u64 (gA d)) i (aC (gA d j))) j (aC (gA d i)) p=rv .u64 (gA (swp d i j)) p:=fun p f=>by
 show _=Value.int .u64 (gA (swp d i j) p)
 rw[T9 e hi c]
 unfold fH
 by_cases b:p=j
 ·subst b
  rw[if_pos rfl]
  by_cases a:p=i
  ·subst a; rw[if_pos rfl]
  ·rw[if_neg a,if_pos rfl]
 ·rw[if_neg b]
  by_cases a:p=i
  ·rw[if_pos a,if_pos a]
  ·rw[if_neg a,if_neg a,if_neg b]; rfl
theorem nU(h:gA d i<gA d j):ltInt d[i]! d[j]! = true:=decide_eq_true h
theorem qw(h : ¬ gA d i<gA d j):ltInt d[i]! d[j]! = false:=decide_eq_false h
theorem Ua(c:a<j)(b:gA d j<gA d (j-1)):Sort.insInner ltInt a (j-1) (swp d j (j-1))=Sort.insInner ltInt a j d:=by
 obtain⟨k,rfl⟩ : ∃ k,j=k+1:=⟨j-1,by omega⟩
 have b:=nU b
 rw[Nat.add_sub_cancel]at b ⊢
 conv=>rhs; rw[Sort.insInner]
 rw[b,decide_eq_true (show k+1>a by omega)]; rfl
theorem ED(h:j<=a \/ ¬ gA d j<gA d (j-1)):Sort.insInner ltInt a j d=d:=by
 cases j with
 | zero=>rw[Sort.insInner]
 | succ k =>
   rw[Sort.insInner]
   rcases h with h|h
   ·rw[decide_eq_false (show ¬ k+1>a by omega)]; rfl
   ·have h:=qw h
    rw[Nat.add_sub_cancel]at h
    rw[h,Bool.and_false]; rfl
theorem Ma(h:i<b)(hi:Sort.insInner ltInt a i d=d'):Sort.insOuter ltInt a b (i+1) d'=Sort.insOuter ltInt a b i d:=by
 conv=>rhs; rw[Sort.insOuter,if_pos h]
 rw[hi]
theorem Mc(h : ¬ i<b):Sort.insOuter ltInt a b i d=d:=by rw[Sort.insOuter,if_neg h]
variable {f r hi x0 x1 x2:Nat}
theorem zN(h:hi<=2*r+1):Sort.siftDown ltInt hi f r d=d:=by rw[Sort.siftDown,dif_pos (by omega)]
theorem EF(c:x1=f+(2*r+1))(g:x2=f+(2*r+2))(e0:x0=f+r)(h:2*r+1<hi)(b:hi<=2*r+2 \/ ¬ gA d x1<gA d x2) :
 Sort.siftDown ltInt hi f r d=if gA d x0<gA d x1 then Sort.siftDown ltInt hi f (2*r+1) (swp d x0 x1)else d:=by
 rw[Sort.siftDown,dif_neg (by omega)]
 have e:(decide (2*r+1+1<hi)&&ltInt d[f+(2*r+1)]! d[f+(2*r+1)+1]!)=false:=by
  rcases b with b|b
  ·rw[decide_eq_false (by omega),Bool.false_and]
  ·rw[<- c,show x1+1=x2 by omega,qw b,Bool.and_false]
 rw[e,<- c,<- e0]
 by_cases a:gA d x0<gA d x1
 ·rw[nU a,if_pos a]; rfl
 rw[qw a,if_neg a]; rfl
theorem Md(b:x1=f+(2*r+1))(c:x2=f+(2*r+2))(e0:x0=f+r)(h:2*r+2<hi)(e:gA d x1<gA d x2) :
 Sort.siftDown ltInt hi f r d=if gA d x0<gA d x2 then Sort.siftDown ltInt hi f (2*r+2) (swp d x0 x2)else d:=by
 rw[Sort.siftDown,dif_neg (by omega)]
 have g:(decide (2*r+1+1<hi)&&ltInt d[f+(2*r+1)]! d[f+(2*r+1)+1]!)=true:=by
  rw[decide_eq_true (by omega),<- b,show x1+1=x2 by omega,nU e]; rfl
 rw[g,<- c,<- e0]
 by_cases a:gA d x0<gA d x2
 ·rw[nU a,if_pos a]; simp only[if_true,Bool.not_true,dif_pos h]; rfl
 rw[qw a,if_neg a]; rfl
theorem Me(a:0<k):Sort.heapBuild ltInt hi f (k-1) (Sort.siftDown ltInt hi f (k-1) d)=Sort.heapBuild ltInt hi f k d:=by
 obtain⟨j,rfl⟩ : ∃ j,k=j+1:=⟨k-1,by omega⟩
 rfl
theorem Ub{x:Nat}(a:0<k)(e:x=f+(k-1)):Sort.heapPop ltInt f (k-1) (Sort.siftDown ltInt (k-1) f 0 (swp d f x))=Sort.heapPop ltInt f k d:=by
 subst e
 obtain⟨j,rfl⟩ : ∃ j,k=j+1:=⟨k-1,by omega⟩
 rfl
theorem yU(h:f+hi<=n) : ∀(m r:Nat) (d:Array Int),hi-r<=m->d.size=n->(Sort.siftDown ltInt hi f r d).size=n
 | 0,r,d,hm,hd=>by rw[zN (by omega)]; exact hd
 | m+1,r,d,hm,hd=>by
   by_cases b:2*r+1<hi
   ·by_cases a:2*r+2<hi/\gA d (f+(2*r+1))<gA d (f+(2*r+2))
    ·rw[Md rfl rfl rfl a.1 a.2]
     split
     ·exact yU h m _ _ (by omega) (dI hd _ _)
     ·exact hd
    ·rw[EF rfl rfl rfl b (by by_cases c:2*r+2<hi; exact .inr fun e=>a ⟨c,e⟩; exact .inl (by omega))]
     split
     ·exact yU h m _ _ (by omega) (dI hd _ _)
     ·exact hd
   ·rw[zN (by omega)]; exact hd
theorem Uc(h:i<j):Sort.reverseLoop (i+1) (j-1) (swp d i j)=Sort.reverseLoop i j d:=by conv=>rhs; rw[Sort.reverseLoop,if_pos h]
theorem Mf(h : ¬ i<j):Sort.reverseLoop i j d=d:=by rw[Sort.reverseLoop,if_neg h]
theorem R3{p:Int->Bool}(h:i<=j)(a:p d[i]! = true):Sort.scanUp p d j (i+1)=Sort.scanUp p d j i:=by
 conv=>rhs; rw[Sort.scanUp,a,decide_eq_true h]
 rfl
theorem nG{p:Int->Bool}(h:j<i\/p d[i]! = false):Sort.scanUp p d j i=i:=by
 rw[Sort.scanUp]
 rcases h with h|h
 ·rw[decide_eq_false (by omega)]; rfl
 rw[h,Bool.and_false]; rfl
theorem R4{p:Int->Bool}(h:i<=j)(b:0<j)(a:p d[j]! = true):Sort.scanDown p d i (j-1)=Sort.scanDown p d i j:=by
 obtain⟨k,rfl⟩ : ∃ k,j=k+1:=⟨j-1,by omega⟩
 conv=>rhs; rw[Sort.scanDown,a,decide_eq_true h]
 rfl
theorem yV{p:Int->Bool}(h:j<i\/p d[j]! = false):Sort.scanDown p d i j=j:=by
 cases j with
 | zero=>rfl
 | succ k =>
   rw[Sort.scanDown]
   rcases h with h|h
   ·rw[decide_eq_false (by omega)]; rfl
   ·rw[h,Bool.and_false]; rfl
theorem Mg(h:i<=j)(b:gA d i<gA d a):Sort.partLoop ltInt a (i+1) j d=Sort.partLoop ltInt a i j d:=by
 rw[Sort.partLoop_eq,Sort.partLoop_eq (i:=i),R3 (p:=fun x=>ltInt x d[a]!) h (nU b)]
theorem BQ(h:i<=j)(c:0<j)(b : ¬ gA d i<gA d a)(e : ¬ gA d j<gA d a):Sort.partLoop ltInt a i (j-1) d=Sort.partLoop ltInt a i j d:=by
 rw[Sort.partLoop_eq,Sort.partLoop_eq (j:=j),nG (p:=fun x=>ltInt x d[a]!) (.inr (qw b)),nG (p:=fun x=>ltInt x d[a]!) (.inr (qw b)),R4 (p:=fun x => !ltInt x d[a]!) h c (by rw[qw e]; rfl)]
theorem BR(h:i<=j)(c : ¬ gA d i<gA d a)(b:gA d j<gA d a):Sort.partLoop ltInt a (i+1) (j-1) (swp d i j)=Sort.partLoop ltInt a i j d:=by
 rw[Sort.partLoop_eq (i:=i),nG (p:=fun x=>ltInt x d[a]!) (.inr (qw c)),yV (p:=fun x => !ltInt x d[a]!) (.inr (by rw[nU b]; rfl)),if_neg (by omega)]
theorem wP(h:j<i):Sort.partLoop ltInt a i j d=(j,d):=by
 rw[Sort.partLoop_eq,nG (p:=fun x=>ltInt x d[a]!) (.inl h),yV (p:=fun x => !ltInt x d[a]!) (.inl h),if_pos h]
theorem XJ(h:i<=j)(b : ¬ gA d a<gA d i):Sort.partEqLoop ltInt a (i+1) j d=Sort.partEqLoop ltInt a i j d:=by
 rw[Sort.partEqLoop_eq,Sort.partEqLoop_eq (i:=i),R3 (p:=fun x => !ltInt d[a]! x) h (by rw[qw b]; rfl)]
theorem R5(h:i<=j)(c:0<j)(b:gA d a<gA d i)(e:gA d a<gA d j):Sort.partEqLoop ltInt a i (j-1) d=Sort.partEqLoop ltInt a i j d:=by
 rw[Sort.partEqLoop_eq,Sort.partEqLoop_eq (j:=j),nG (p:=fun x => !ltInt d[a]! x) (.inr (by rw[nU b]; rfl)),nG (p:=fun x => !ltInt d[a]! x) (.inr (by rw[nU b]; rfl)),R4 (p:=fun x=>ltInt d[a]! x) h c (nU e)]
theorem R6(h:i<=j)(c:gA d a<gA d i)(b : ¬ gA d a<gA d j):Sort.partEqLoop ltInt a (i+1) (j-1) (swp d i j)=Sort.partEqLoop ltInt a i j d:=by
 rw[Sort.partEqLoop_eq (i:=i),nG (p:=fun x => !ltInt d[a]! x) (.inr (by rw[nU c]; rfl)),yV (p:=fun x=>ltInt d[a]! x) (.inr (qw b)),if_neg (by omega)]
theorem Mh(h:j<i):Sort.partEqLoop ltInt a i j d=(i,d):=by
 rw[Sort.partEqLoop_eq,nG (p:=fun x => !ltInt d[a]! x) (.inl h),yV (p:=fun x=>ltInt d[a]! x) (.inl h),if_pos h]
theorem GA(a:Nat)(d:Array Int):Sort.SortedIn ltInt a (a+1) d:=fun i j b c e=>by omega
end
end Rt
end
section
open Rt
set_option maxRecDepth 10000
theorem XK(n:Int)(w:World) :
 Calls Tryd.prog 36 #[aC n] w fun e w'=>e = .returned (.bool false)/\w'=w:=by
 refine Kent Tryd.func36 6 ?_
 refine ay<|av aF<|aD<|ay<|av (aC n)<|av (aC n)<|Lv aF (kW rfl)<|av aF<|aD<|Wr<|aN aF ?_
 exact⟨rfl,rfl⟩
theorem cK(a b:Int)(w:World) :
 Calls Tryd.prog 78 #[aC a,aC b] w fun e w'=>e = .returned (.bool (decide (a<b)))/\w'=w:=by
 refine Kent Tryd.func78 17 ?_
 refine ay<|av aF<|aD<|ay<|av (aC a)<|mH (XK a _) _ rfl<|av aF<|cO<|cO<|cO<|av aF<|av aF<|av (aC a)<|av (aC b)<|Lv (.bool (decide (a<b))) (Fx.Lj rfl rfl rfl)<|av (.bool (decide (a<b)))<|av (.bool (decide (a<b)))<|aD<|Wr<|aN (.bool (decide (a<b))) ?_
 exact⟨rfl,rfl⟩
theorem XL(a b:Nat)(B g n cap:Nat)(d:Array Int)(w:World)(h:Fx.Own w B 29 1 (bJ g n cap) n (rv .u64 (gA d)))(p:B<=w.heap.size)(Y:d.size=n)(hs:n<=1000)(ha:a<=b)(hb:b<=n) :
 Calls Tryd.prog 72 #[bJ g n cap,au ((a:Int)),au ((b:Int))] w fun e w'=>e = .returned (.tuple #[])/\Fx.Own w' B 29 1 (bJ g n cap) n (rv .u64 (gA (Sort.insertionSort Sort.ltInt d a b)))/\Below B w w':=by
 refine Kent Tryd.func72 49 ?_
 refine ay<|av (au a)<|Lv (au ((a:Int)+1)) fZ<|av (au ((a:Int)+1))<|aD<|Wb<|Wo (fun f u => ∃ i:Nat,∃ o:Array Int,(a<i/\i<=b+1)/\o.size=n/\Sort.insOuter Sort.ltInt a b i o=Sort.insOuter Sort.ltInt a b (a+1) d/\f 0=bJ g n cap/\f 1=au ((a:Int))/\f 2=au ((b:Int))/\f 6=au ((i:Int))/\Fx.Own u B 29 1 (bJ g n cap) n (rv .u64 (gA o))/\Below B w u) (fun f _=>((b:Int)+1-intOf (f 6)).toNat) ⟨a+1,d,(by omega),Y,rfl,(by rfl),Fx.ic,Fx.ic,Fx.ic,h,(Below.refl B w)⟩ ?_
 rintro f1 w1 ⟨i,o,hi,X,x,V,W,K,s,P,F⟩
 refine Ws<|ay<|aS s<|aS K ?_
 by_cases I:(i:Int)<(b:Int)
 ·refine Lv aG (jU I)<|aD<|aQ<|Wk<|sN<|Ws<|Wb<|ay<|aS s<|av (au i)<|aD<|Wb<|Wo (fun f u => ∃ j:Nat,∃ c:Array Int,(a<=j/\j<=i)/\c.size=n/\Sort.insInner Sort.ltInt a j c=Sort.insInner Sort.ltInt a i o/\f 0=bJ g n cap/\f 1=au ((a:Int))/\f 2=au ((b:Int))/\f 6=au ((i:Int))/\f 7=au ((j:Int))/\Fx.Own u B 29 1 (bJ g n cap) n (rv .u64 (gA c))/\Below B w u) (fun f _=>(intOf (f 7)).toNat) ⟨i,o,(by omega),X,rfl,V,(W.trans Fx.ic),(K.trans Fx.ic),(s.trans Fx.ic),Fx.ic,P,F⟩ ?_
  rintro f2 w2 ⟨j,c,hji,y,E,k,v,C,D,l,t,A⟩
  refine Ws<|Ws ?_
  -- region 4 draws
  refine lU<|dY l<|dY v ?_
  by_cases J:(a:Int)<(j:Int)
  ·refine Qv aG (fun q m=>vo J)<|bE aG<|dY k<|dY l<|Qv ((pf g j)) (fun q m=>dw 1)<|Qv (aC ((gA c) j)) (fun q m=>aP (t.cb m) j)<|dY k<|dY l<|Qv (au ((j:Int)-1)) (fun q m=>jw)<|Qv ((pf g (j-1))) (fun q m=>dw 1)<|Qv (aC ((gA c) (j-1))) (fun q m=>aP (t.cb m) (j-1)) ?_
   by_cases r:(decide ((gA c) j<(gA c) (j-1)))=true
   ·refine nD (fun _ _=>cK ((gA c) j) ((gA c) (j-1)) _) aG (by rw[r])<|bE aG<|Qn ?_
    intro XM L
    have Z:=aR L t
    have R:=gX L A p
    refine sN<|aQ<|Wk<|sN<|Ws<|Wb ?_
    -- region 6 draws
    refine jS [0,1,2,3,4,5,6,7,8,10,11,12,9,13,14,15,16,17] [0,0,0,0,0,0,0,0,0,4,0,0,0,4,0,3,0,3] [(15,9,[9]),(17,9,[9]),(15,13,[13]),(17,13,[13]),(16,15,[15]),(17,15,[15])] fun qY O iC => ?_
    have z:=aR O Z
    have G:=gX O R p
    refine bM k<|bM l<|bM k<|bM l<|Rp (au ((j:Int)-1)) (fun _=>jw)<|bM k<|bM l<|Rp (au ((j:Int)-1)) (fun _=>jw)<|Rp ((pf g (j-1))) (fun _=>dw 1)<|bM k<|bM l<|Rp ((pf g j)) (fun _=>dw 1)<|Rs (aC ((gA c) (j-1))) (aP z.aJ (j-1)) ?_
    refine Rs (aC ((gA c) j)) (aP z.aJ j) ?_
    refine Rp ((pf g j)) (fun _=>dw 1)<|gP<|lY z j (aC ((gA c) (j-1))) fun w3 Q s3 z1 => ?_
    have H:=s3.below G (Nat.le_trans p G.size) z.blk.1
    refine Ln<|Rp ((pf g (j-1))) (fun _=>dw 1)<|gP<|lY Q (j-1) (aC ((gA c) j)) fun w4 m6 s4 z2 => ?_
    have S:=s4.below H (Nat.le_trans p H.size) Q.blk.1
    have m7:Fx.Own w4 B 29 1 (bJ g n cap) n (rv .u64 (gA (Sort.swp c j (j-1)))):=m6.congr (fD y (by omega) (by omega))
    refine Ln<|Rn<|cB<|sN<|Wl<|aS l<|Lv (au ((j:Int)-1)) jw<|av (au ((j:Int)-1))<|Ln<|iG ⟨j-1,Sort.swp c j (j-1),(by omega),(dI y _ _),((Ua (by omega) (of_decide_eq_true r)).trans E),k,(v.trans Fx.ic),(C.trans Fx.ic),(D.trans Fx.ic),Fx.ic,m7,S⟩ ?_
    show(intOf ((au ((j:Int)-1)))).toNat<_
    simp only[l,intOf]; omega
   rw[Bool.not_eq_true]at r
   refine nD (fun _ _=>cK ((gA c) j) ((gA c) (j-1)) _) aF (by rw[r])<|bE aF<|Qn ?_
   intro XO M
   have m8:=aR M t
   have T:=gX M A p
   refine sN<|aK<|Wx<|bY<|iB<|bZ<|cB<|sN<|Wl<|aS D<|Lv (au ((i:Int)+1)) fZ<|av (au ((i:Int)+1))<|Ln<|iG ⟨i+1,c,(by omega),y,((Ma (by omega) (E.symm.trans (ED (.inr (of_decide_eq_false r))))).trans x),k,(v.trans Fx.ic),(C.trans Fx.ic),Fx.ic,m8,T⟩ ?_
   show((b:Int)+1-intOf ((au ((i:Int)+1)))).toNat<_
   simp only[s,intOf]; omega
  refine Qv aF (fun q m=>vv J)<|bE aF<|aW<|aW<|aW<|aW<|aW<|aW<|aW<|aW<|aW<|aW<|bE aF<|Qn ?_
  intro XP N
  have m9:=aR N t
  have U:=gX N A p
  refine sN<|aK<|Wx<|bY<|iB<|bZ<|cB<|sN<|Wl<|aS D<|Lv (au ((i:Int)+1)) fZ<|av (au ((i:Int)+1))<|Ln<|iG ⟨i+1,c,(by omega),y,((Ma (by omega) (E.symm.trans (ED (.inl (by omega))))).trans x),k,(v.trans Fx.ic),(C.trans Fx.ic),Fx.ic,m9,U⟩ ?_
  show((b:Int)+1-intOf ((au ((i:Int)+1)))).toNat<_
  simp only[s,intOf]; omega
 refine Lv aF (jV I) (aD (aK (Wx (bY (iB (bZ (⟨.tuple #[],fM Tryd.results72,?_⟩)))))))
 rw[Mc (by omega)]at x; subst x; exact⟨rfl,P,F⟩
end
section
open Rt
set_option maxRecDepth 10000
theorem Ud(q hi a:Nat)(B g n cap:Nat)(d:Array Int)(w:World)(h:Fx.Own w B 29 1 (bJ g n cap) n (rv .u64 (gA d)))(l:B<=w.heap.size)(hn:d.size=n)(hs:n<=1000)(hf:a+hi<=n/\q<=1000) :
 Calls Tryd.prog 84 #[bJ g n cap,au ((q:Int)),au ((hi:Int)),au ((a:Int))] w fun e w'=>e = .returned (.tuple #[])/\Fx.Own w' B 29 1 (bJ g n cap) n (rv .u64 (gA (Sort.siftDown Sort.ltInt hi a q d)))/\Below B w w':=by
 obtain⟨hf,hlo⟩:=hf
 refine Kent Tryd.func84 76 ?_
 refine ay<|av (au q)<|av (au q)<|aD<|Wb<|Wo (fun f w_ => ∃ r:Nat,∃ b:Array Int,b.size=n/\Sort.siftDown Sort.ltInt hi a r b=Sort.siftDown Sort.ltInt hi a q d/\r<=hi+q/\f 0=bJ g n cap/\f 1=au ((q:Int))/\f 2=au ((hi:Int))/\f 3=au ((a:Int))/\f 8=au ((r:Int))/\Fx.Own w_ B 29 1 (bJ g n cap) n (rv .u64 (gA b))/\Below B w w_) (fun f _=>((hi:Int)+q-intOf (f 8)).toNat) ⟨q,d,hn,rfl,(by omega),(by rfl),Fx.ic,Fx.ic,Fx.ic,Fx.ic,h,(Below.refl B w)⟩ ?_
 rintro f1 w1 ⟨r,b,t,o,hr,j,F,v,k,p,u,x⟩
 refine Wb<|ay<|aS p<|Lv (au (2*(r:Int))) (Fx.BG rfl rfl rfl Fx.io)<|Lv (au (2*(r:Int)+1)) fZ<|av (au (2*(r:Int)+1))<|aD<|Ws<|ay<|av (au (2*(r:Int)+1))<|aS v ?_
 by_cases P:(hi:Int)<=(2*(r:Int)+1)
 ·refine Lv aG (qD P) (aD (aQ (Wx (bY (Fx.Gm rfl (iB (bZ (⟨.tuple #[],fM Tryd.results84,?_⟩))))))))
  rw[zN (by omega)]at o; subst o; exact⟨rfl,u,x⟩
 refine Lv aF (pJ P)<|aD<|aK<|Wk<|sN<|Ws<|Ws ?_
 -- region 3 draws
 refine lU<|bE (au (2*(r:Int)+1))<|Qv (au (2*(r:Int)+2)) (fun i c=>fZ)<|dY v ?_
 by_cases Q:(2*(r:Int)+2)<(hi:Int)
 ·refine Qv aG (fun i c=>jU Q)<|bE aG<|dY j<|dY k<|bE (au (2*(r:Int)+1))<|Qv (au ((a:Int)+2*(r:Int)+1)) (fun i c=>fZ)<|Qv ((pf g (a+2*r+1))) (fun i c=>dw 1)<|Qv (aC ((gA b) (a+2*r+1))) (fun i c=>aP (u.cb c) (a+2*r+1))<|dY j<|dY k<|bE (au (2*(r:Int)+1))<|Qv (au ((a:Int)+2*(r:Int)+1)) (fun i c=>fZ)<|Qv (au ((a:Int)+2*(r:Int)+2)) (fun i c=>fZ)<|Qv ((pf g (a+2*r+2))) (fun i c=>dw 1)<|Qv (aC ((gA b) (a+2*r+2))) (fun i c=>aP (u.cb c) (a+2*r+2)) ?_
  by_cases s:(decide ((gA b) (a+2*r+1)<(gA b) (a+2*r+2)))=true
  ·refine nD (fun _ _=>cK ((gA b) (a+2*r+1)) ((gA b) (a+2*r+2)) _) aG (by rw[s])<|bE aG<|Qn ?_
   intro XM R
   have C:=aR R u
   have L:=gX R x l
   refine sN<|aQ<|Wl<|av (au (2*(r:Int)+1))<|Lv (au (2*(r:Int)+2)) fZ<|av (au (2*(r:Int)+2))<|aD<|Ws<|Ws ?_
   -- region 5 draws
   refine lU<|dY j<|dY k<|dY p<|Qv (au ((a:Int)+(r:Int))) (fun i c=>fZ)<|Qv ((pf g (a+r))) (fun i c=>dw 1)<|Qv (aC ((gA b) (a+r))) (fun i c=>aP (C.cb c) (a+r))<|dY j<|dY k<|bE (au (2*(r:Int)+2))<|Qv (au ((a:Int)+2*(r:Int)+2)) (fun i c=>fZ)<|Qv ((pf g (a+2*r+2))) (fun i c=>dw 1)<|Qv (aC ((gA b) (a+2*r+2))) (fun i c=>aP (C.cb c) (a+2*r+2)) ?_
   by_cases m:(decide ((gA b) (a+r)<(gA b) (a+2*r+2)))=true
   ·refine nD (fun _ _=>cK ((gA b) (a+r)) ((gA b) (a+2*r+2)) _) aG (by rw[m])<|bE aF<|Qn ?_
    intro XO S
    have m3:=aR S C
    have b3:=gX S L l
    refine sN<|aK<|Wk<|sN<|Ws ?_
    -- region 6 draws
    refine jS [0,1,2,3,4,5,6,7,8,9,10,11,12,14,15,16,17,18,13,19,20,21,22,23] [0,0,0,0,0,0,0,0,0,0,0,0,0,4,0,0,0,0,0,4,0,3,0,3] [(21,13,[13]),(23,13,[13]),(21,19,[19]),(23,19,[19]),(22,21,[21]),(23,21,[21])] fun qY aa iC => ?_
    have D:=aR aa m3
    have M:=gX aa b3 l
    refine bM j<|bM k<|bM p<|Rp (au ((a:Int)+(r:Int))) (fun _=>fZ)<|bM j<|bM k<|aU (au (2*(r:Int)+2))<|Rp (au ((a:Int)+2*(r:Int)+2)) (fun _=>fZ)<|bM j<|bM k<|aU (au (2*(r:Int)+2))<|Rp (au ((a:Int)+2*(r:Int)+2)) (fun _=>fZ)<|Rp ((pf g (a+2*r+2))) (fun _=>dw 1)<|bM j<|bM k<|bM p<|Rp (au ((a:Int)+(r:Int))) (fun _=>fZ)<|Rp ((pf g (a+r))) (fun _=>dw 1)<|Rs (aC ((gA b) (a+2*r+2))) (aP D.aJ (a+2*r+2)) ?_
    refine Rs (aC ((gA b) (a+r))) (aP D.aJ (a+r)) ?_
    refine Rp ((pf g (a+r))) (fun _=>dw 1)<|gP<|lY D (a+r) (aC ((gA b) (a+2*r+2))) fun w2 m5 s4 z1 => ?_
    have N:=s4.below M (Nat.le_trans l M.size) D.blk.1
    refine Ln<|Rp ((pf g (a+2*r+2))) (fun _=>dw 1)<|gP<|lY m5 (a+2*r+2) (aC ((gA b) (a+r))) fun w3 m6 s5 z2 => ?_
    have b6:=s5.below N (Nat.le_trans l N.size) m5.blk.1
    have m7:Fx.Own w3 B 29 1 (bJ g n cap) n (rv .u64 (gA (Sort.swp b (a+r) (a+2*r+2)))):=m6.congr (fD t (by omega) (by omega))
    refine Ln<|bF<|Wl<|av (au (2*(r:Int)+2))<|av (au (2*(r:Int)+2))<|Ln<|cB<|iG ⟨2*r+2,Sort.swp b (a+r) (a+2*r+2),(dI t _ _),(by rw[Md (x0:=a+r) (x1:=a+2*r+1) (x2:=a+2*r+2) (by omega) (by omega) rfl (by omega) (of_decide_eq_true s),if_pos (of_decide_eq_true m)]at o; exact o),(by omega),j,(F.trans Fx.ic),(v.trans Fx.ic),(k.trans Fx.ic),Fx.ic,m7,b6⟩ ?_
    show((hi:Int)+q-intOf ((au (2*(r:Int)+2)))).toNat<_
    simp only[p,intOf]; omega
   rw[Bool.not_eq_true]at m
   refine nD (fun _ _=>cK ((gA b) (a+r)) ((gA b) (a+2*r+2)) _) aF (by rw[m])<|bE aG<|Qn ?_
   intro XP T
   have m8:=aR T C
   have b7:=gX T L l
   refine sN (aQ (Wr (sR (bW (qP (bW (⟨.tuple #[],fM Tryd.results84,?_⟩)))))))
   rw[Md (x0:=a+r) (x1:=a+2*r+1) (x2:=a+2*r+2) (by omega) (by omega) rfl (by omega) (of_decide_eq_true s),if_neg (of_decide_eq_false m)]at o; subst o; exact⟨rfl,m8,b7⟩
  rw[Bool.not_eq_true]at s
  refine nD (fun _ _=>cK ((gA b) (a+2*r+1)) ((gA b) (a+2*r+2)) _) aF (by rw[s])<|bE aF<|Qn ?_
  intro wb4 U
  have E:=aR U u
  have O:=gX U x l
  refine sN<|aK<|Wk<|sN<|Ws<|Ws ?_
  -- region 5 draws
  refine lU<|dY j<|dY k<|dY p<|Qv (au ((a:Int)+(r:Int))) (fun i c=>fZ)<|Qv ((pf g (a+r))) (fun i c=>dw 1)<|Qv (aC ((gA b) (a+r))) (fun i c=>aP (E.cb c) (a+r))<|dY j<|dY k<|bE (au (2*(r:Int)+1))<|Qv (au ((a:Int)+2*(r:Int)+1)) (fun i c=>fZ)<|Qv ((pf g (a+2*r+1))) (fun i c=>dw 1)<|Qv (aC ((gA b) (a+2*r+1))) (fun i c=>aP (E.cb c) (a+2*r+1)) ?_
  by_cases m:(decide ((gA b) (a+r)<(gA b) (a+2*r+1)))=true
  ·refine nD (fun _ _=>cK ((gA b) (a+r)) ((gA b) (a+2*r+1)) _) aG (by rw[m])<|bE aF<|Qn ?_
   intro wb5 V
   have m10:=aR V E
   have b9:=gX V O l
   refine sN<|aK<|Wk<|sN<|Ws ?_
   -- region 6 draws
   refine jS [0,1,2,3,4,5,6,7,8,9,10,11,12,14,15,16,17,18,13,19,20,21,22,23] [0,0,0,0,0,0,0,0,0,0,0,0,0,4,0,0,0,0,0,4,0,3,0,3] [(21,13,[13]),(23,13,[13]),(21,19,[19]),(23,19,[19]),(22,21,[21]),(23,21,[21])] fun D9 ab oC => ?_
   have y:=aR ab m10
   have G:=gX ab b9 l
   refine bM j<|bM k<|bM p<|Rp (au ((a:Int)+(r:Int))) (fun _=>fZ)<|bM j<|bM k<|aU (au (2*(r:Int)+1))<|Rp (au ((a:Int)+2*(r:Int)+1)) (fun _=>fZ)<|bM j<|bM k<|aU (au (2*(r:Int)+1))<|Rp (au ((a:Int)+2*(r:Int)+1)) (fun _=>fZ)<|Rp ((pf g (a+2*r+1))) (fun _=>dw 1)<|bM j<|bM k<|bM p<|Rp (au ((a:Int)+(r:Int))) (fun _=>fZ)<|Rp ((pf g (a+r))) (fun _=>dw 1)<|Rs (aC ((gA b) (a+2*r+1))) (aP y.aJ (a+2*r+1)) ?_
   refine Rs (aC ((gA b) (a+r))) (aP y.aJ (a+r)) ?_
   refine Rp ((pf g (a+r))) (fun _=>dw 1)<|gP<|lY y (a+r) (aC ((gA b) (a+2*r+1))) fun w4 m12 s10 z3 => ?_
   have H:=s10.below G (Nat.le_trans l G.size) y.blk.1
   refine Ln<|Rp ((pf g (a+2*r+1))) (fun _=>dw 1)<|gP<|lY m12 (a+2*r+1) (aC ((gA b) (a+r))) fun w5 m13 s11 z4 => ?_
   have b12:=s11.below H (Nat.le_trans l H.size) m12.blk.1
   have m14:Fx.Own w5 B 29 1 (bJ g n cap) n (rv .u64 (gA (Sort.swp b (a+r) (a+2*r+1)))):=m13.congr (fD t (by omega) (by omega))
   refine Ln<|bF<|Wl<|av (au (2*(r:Int)+1))<|av (au (2*(r:Int)+1))<|Ln<|cB<|iG ⟨2*r+1,Sort.swp b (a+r) (a+2*r+1),(dI t _ _),(by rw[EF (x0:=a+r) (x1:=a+2*r+1) (x2:=a+2*r+2) (by omega) (by omega) rfl (by omega) (.inr (of_decide_eq_false s)),if_pos (of_decide_eq_true m)]at o; exact o),(by omega),j,(F.trans Fx.ic),(v.trans Fx.ic),(k.trans Fx.ic),Fx.ic,m14,b12⟩ ?_
   show((hi:Int)+q-intOf ((au (2*(r:Int)+1)))).toNat<_
   simp only[p,intOf]; omega
  rw[Bool.not_eq_true]at m
  refine nD (fun _ _=>cK ((gA b) (a+r)) ((gA b) (a+2*r+1)) _) aF (by rw[m])<|bE aG<|Qn ?_
  intro wb6 W
  have m15:=aR W E
  have b13:=gX W O l
  refine sN (aQ (Wr (sR (bW (qP (bW (⟨.tuple #[],fM Tryd.results84,?_⟩)))))))
  rw[EF (x0:=a+r) (x1:=a+2*r+1) (x2:=a+2*r+2) (by omega) (by omega) rfl (by omega) (.inr (of_decide_eq_false s)),if_neg (of_decide_eq_false m)]at o; subst o; exact⟨rfl,m15,b13⟩
 refine Qv aF (fun i c=>jV Q)<|bE aF<|aW<|aW<|aW<|aW<|aW<|aW<|aW<|aW<|aW<|aW<|aW<|aW<|aW<|aW<|bE aF<|Qn ?_
 intro wb7 X
 have z:=aR X u
 have I:=gX X x l
 refine sN<|aK<|Wk<|sN<|Ws<|Ws ?_
 -- region 5 draws
 refine lU<|dY j<|dY k<|dY p<|Qv (au ((a:Int)+(r:Int))) (fun i c=>fZ)<|Qv ((pf g (a+r))) (fun i c=>dw 1)<|Qv (aC ((gA b) (a+r))) (fun i c=>aP (z.cb c) (a+r))<|dY j<|dY k<|bE (au (2*(r:Int)+1))<|Qv (au ((a:Int)+2*(r:Int)+1)) (fun i c=>fZ)<|Qv ((pf g (a+2*r+1))) (fun i c=>dw 1)<|Qv (aC ((gA b) (a+2*r+1))) (fun i c=>aP (z.cb c) (a+2*r+1)) ?_
 by_cases m:(decide ((gA b) (a+r)<(gA b) (a+2*r+1)))=true
 ·refine nD (fun _ _=>cK ((gA b) (a+r)) ((gA b) (a+2*r+1)) _) aG (by rw[m])<|bE aF<|Qn ?_
  intro wb8 Y
  have m17:=aR Y z
  have b15:=gX Y I l
  refine sN<|aK<|Wk<|sN<|Ws ?_
  -- region 6 draws
  refine jS [0,1,2,3,4,5,6,7,8,9,10,11,12,14,15,16,17,18,13,19,20,21,22,23] [0,0,0,0,0,0,0,0,0,0,0,0,0,4,0,0,0,0,0,4,0,3,0,3] [(21,13,[13]),(23,13,[13]),(21,19,[19]),(23,19,[19]),(22,21,[21]),(23,21,[21])] fun XQ ac I5 => ?_
  have A:=aR ac m17
  have J:=gX ac b15 l
  refine bM j<|bM k<|bM p<|Rp (au ((a:Int)+(r:Int))) (fun _=>fZ)<|bM j<|bM k<|aU (au (2*(r:Int)+1))<|Rp (au ((a:Int)+2*(r:Int)+1)) (fun _=>fZ)<|bM j<|bM k<|aU (au (2*(r:Int)+1))<|Rp (au ((a:Int)+2*(r:Int)+1)) (fun _=>fZ)<|Rp ((pf g (a+2*r+1))) (fun _=>dw 1)<|bM j<|bM k<|bM p<|Rp (au ((a:Int)+(r:Int))) (fun _=>fZ)<|Rp ((pf g (a+r))) (fun _=>dw 1)<|Rs (aC ((gA b) (a+2*r+1))) (aP A.aJ (a+2*r+1)) ?_
  refine Rs (aC ((gA b) (a+r))) (aP A.aJ (a+r)) ?_
  refine Rp ((pf g (a+r))) (fun _=>dw 1)<|gP<|lY A (a+r) (aC ((gA b) (a+2*r+1))) fun w6 m19 s16 z5 => ?_
  have K:=s16.below J (Nat.le_trans l J.size) A.blk.1
  refine Ln<|Rp ((pf g (a+2*r+1))) (fun _=>dw 1)<|gP<|lY m19 (a+2*r+1) (aC ((gA b) (a+r))) fun w7 m20 Ue z6 => ?_
  have b18:=Ue.below K (Nat.le_trans l K.size) m19.blk.1
  have m21:Fx.Own w7 B 29 1 (bJ g n cap) n (rv .u64 (gA (Sort.swp b (a+r) (a+2*r+1)))):=m20.congr (fD t (by omega) (by omega))
  refine Ln<|bF<|Wl<|av (au (2*(r:Int)+1))<|av (au (2*(r:Int)+1))<|Ln<|cB<|iG ⟨2*r+1,Sort.swp b (a+r) (a+2*r+1),(dI t _ _),(by rw[EF (x0:=a+r) (x1:=a+2*r+1) (x2:=a+2*r+2) (by omega) (by omega) rfl (by omega) (.inl (by omega)),if_pos (of_decide_eq_true m)]at o; exact o),(by omega),j,(F.trans Fx.ic),(v.trans Fx.ic),(k.trans Fx.ic),Fx.ic,m21,b18⟩ ?_
  show((hi:Int)+q-intOf ((au (2*(r:Int)+1)))).toNat<_
  simp only[p,intOf]; omega
 rw[Bool.not_eq_true]at m
 refine nD (fun _ _=>cK ((gA b) (a+r)) ((gA b) (a+2*r+1)) _) aF (by rw[m])<|bE aG<|Qn ?_
 intro wb9 Z
 have m22:=aR Z z
 have b19:=gX Z I l
 refine sN (aQ (Wr (sR (bW (qP (bW (⟨.tuple #[],fM Tryd.results84,?_⟩)))))))
 rw[EF (x0:=a+r) (x1:=a+2*r+1) (x2:=a+2*r+2) (by omega) (by omega) rfl (by omega) (.inl (by omega)),if_neg (of_decide_eq_false m)]at o; subst o; exact⟨rfl,m22,b19⟩
theorem I6{i f c:Int}(b hi a:Nat)(l:i=(b:Int))(k:f=(hi:Int))(j:c=(a:Int))(B g n cap:Nat)(d:Array Int)(w:World)(h:Fx.Own w B 29 1 (bJ g n cap) n (rv .u64 (gA d)))(m:B<=w.heap.size)(p:d.size=n)(q:n<=1000)(o:a+hi<=n/\b<=1000) :
 Calls Tryd.prog 84 #[bJ g n cap,au i,au f,au c] w fun e w'=>e = .returned (.tuple #[])/\Fx.Own w' B 29 1 (bJ g n cap) n (rv .u64 (gA (Sort.siftDown Sort.ltInt hi a b d)))/\Below B w w':=by
 subst l k j; exact Ud b hi a B g n cap d w h m p q o
theorem Uf(a b:Nat)(B g n cap:Nat)(d:Array Int)(w:World)(h:Fx.Own w B 29 1 (bJ g n cap) n (rv .u64 (gA d)))(p:B<=w.heap.size)(hn:d.size=n)(Q:n<=1000)(ha:a<b)(hb:b<=n) :
 Calls Tryd.prog 73 #[bJ g n cap,au ((a:Int)),au ((b:Int))] w fun e w'=>e = .returned (.tuple #[])/\Fx.Own w' B 29 1 (bJ g n cap) n (rv .u64 (gA (Sort.heapSort Sort.ltInt d a b)))/\Below B w w':=by
 obtain⟨j,aa⟩ : ∃ j,j=(b-a-1) / 2:=⟨_,rfl⟩
 refine Kent Tryd.func73 56 ?_
 refine ay<|av (au a)<|av (au a)<|aD<|ay<|av (au 0)<|aD<|ay<|av (au b)<|av (au a)<|Lv (au ((b:Int)-(a:Int))) jw<|av (au ((b:Int)-(a:Int)))<|aD<|Ws<|ay<|av (au ((b:Int)-(a:Int)))<|Lv (au ((b:Int)-(a:Int)-1)) jw<|Lv (au j) (Fx.xI rfl rfl rfl (by omega) (ji (by omega) (by rw[Int.tdiv_eq_ediv_of_nonneg (by omega)]; omega)))<|av (au j)<|aD<|Wb<|Wo (fun f q => ∃ k:Nat,∃ c:Array Int,c.size=n/\Sort.heapBuild Sort.ltInt (b-a) a k c=Sort.heapBuild Sort.ltInt (b-a) a (j+1) d/\k<=j+1/\f 0=bJ g n cap/\f 1=au ((a:Int))/\f 2=au ((b:Int))/\f 6=au ((a:Int))/\f 7=au 0/\f 8=au ((b:Int)-(a:Int))/\f 9=au ((k:Int)-1)/\Fx.Own q B 29 1 (bJ g n cap) n (rv .u64 (gA c))/\Below B w q) (fun f _=>(intOf (f 9)+1).toNat) ⟨j+1,d,hn,rfl,(by omega),(by rfl),Fx.ic,Fx.ic,Fx.ic,Fx.ic,Fx.ic,Fx.ic,h,(Below.refl B w)⟩ ?_
 rintro f1 w1 ⟨k,c,z,N,hkm,u,K,L,v,M,y,r,R,t⟩
 refine Ws<|ay<|aS r ?_
 by_cases G:0<=((k:Int)-1)
 ·refine Lv aG (qD G)<|aD<|aQ<|Wk<|sN<|Ws<|Wb<|Wl<|aS u<|aS r<|aS y<|aS v<|fB (I6 (k-1) (b-a) a (by omega) (by omega) (by omega) B g n cap c _ R (Nat.le_trans p t.size) z Q ⟨by omega,by omega⟩) (ax := #[bJ g n cap,au ((k:Int)-1),au ((b:Int)-(a:Int)),au ((a:Int))]) _ rfl ?_
  rintro w2 ⟨m2,Y⟩
  have U:=t.trans Y
  refine Ln<|cB<|sN<|Wl<|aS r<|Lv (au ((k:Int)-2)) jw<|av (au ((k:Int)-2))<|Ln<|iG ⟨k-1,Sort.siftDown Sort.ltInt (b-a) a (k-1) c,(yU (by omega) _ _ _ (Nat.le_refl _) z),((Me (by omega)).trans N),(by omega),u,(K.trans Fx.ic),(L.trans Fx.ic),(v.trans Fx.ic),(M.trans Fx.ic),(y.trans Fx.ic),Fx.ic,m2,U⟩ ?_
  show(intOf ((au ((k:Int)-2)))+1).toNat<_
  simp only[r,intOf]; omega
 refine Lv aF (pJ G)<|aD<|aK<|Wx<|bY<|iB<|bZ<|sN<|ay<|aS y<|Lv (au ((b:Int)-(a:Int)-1)) jw<|av (au ((b:Int)-(a:Int)-1))<|aD<|Wb ?_
 obtain rfl:k=0:=by omega
 obtain⟨I,hd1⟩ : ∃ I,I=c:=⟨_,rfl⟩
 refine Wo (fun f q => ∃ k2:Nat,∃ i:Array Int,i.size=n/\Sort.heapPop Sort.ltInt a k2 i=Sort.heapPop Sort.ltInt a (b-a) c/\k2<=b-a/\f 0=bJ g n cap/\f 1=au ((a:Int))/\f 2=au ((b:Int))/\f 6=au ((a:Int))/\f 7=au 0/\f 10=au ((k2:Int)-1)/\Fx.Own q B 29 1 (bJ g n cap) n (rv .u64 (gA i))/\Below B w q) (fun f _=>(intOf (f 10)+1).toNat) ⟨b-a,c,z,rfl,(by omega),u,(K.trans Fx.ic),(L.trans Fx.ic),(v.trans Fx.ic),(M.trans Fx.ic),Fx.ic,R,t⟩ ?_
 rintro f2 w3 ⟨k2,i,A,O,hkp,o,X,W,l,J,m,S,C⟩
 refine Ws<|ay<|aS m ?_
 by_cases H:0<=((k2:Int)-1)
 ·refine Lv aG (qD H)<|aD<|aQ<|Wk<|sN<|Ws<|Wb<|Ws ?_
  -- region 10 draws
  refine jS [0,1,2,3,4,5,6,7,8,9,10,12,13,14,11,15,16,17,18,19] [0,0,0,0,0,0,0,0,0,0,0,4,0,0,0,4,0,3,0,3] [(17,11,[11]),(19,11,[11]),(17,15,[15]),(19,15,[15]),(18,17,[17]),(19,17,[17])] fun qY P iC => ?_
  have s:=aR P S
  have D:=gX P C p
  refine bM o<|bM l<|bM o<|bM l<|bM m<|Rp (au ((a:Int)+(k2:Int)-1)) (fun _=>fZ)<|bM o<|bM l<|bM m<|Rp (au ((a:Int)+(k2:Int)-1)) (fun _=>fZ)<|Rp ((pf g (a+k2-1))) (fun _=>dw 1)<|bM o<|bM l<|Rp ((pf g a)) (fun _=>dw 1)<|Rs (aC ((gA i) (a+k2-1))) (aP s.aJ (a+k2-1)) ?_
  refine Rs (aC ((gA i) a)) (aP s.aJ a) ?_
  refine Rp ((pf g a)) (fun _=>dw 1)<|gP<|lY s a (aC ((gA i) (a+k2-1))) fun w4 T s2 z1 => ?_
  have E:=s2.below D (Nat.le_trans p D.size) s.blk.1
  refine Ln<|Rp ((pf g (a+k2-1))) (fun _=>dw 1)<|gP<|lY T (a+k2-1) (aC ((gA i) a)) fun w5 m6 s3 z2 => ?_
  have F:=s3.below E (Nat.le_trans p E.size) T.blk.1
  have m7:Fx.Own w5 B 29 1 (bJ g n cap) n (rv .u64 (gA (Sort.swp i a (a+k2-1)))):=m6.congr (fD A (by omega) (by omega))
  refine Ln<|bF<|Wl<|aS o<|aS J<|aS m<|aS l<|fB (I6 0 (k2-1) a (by omega) (by omega) (by omega) B g n cap (Sort.swp i a (a+k2-1)) _ m7 (Nat.le_trans p F.size) (dI A _ _) Q ⟨by omega,by omega⟩) (ax := #[bJ g n cap,au 0,au ((k2:Int)-1),au ((a:Int))]) _ rfl ?_
  rintro w6 ⟨m8,Z⟩
  have V:=F.trans Z
  refine Ln<|cB<|sN<|Wl<|aS m<|Lv (au ((k2:Int)-2)) jw<|av (au ((k2:Int)-2))<|Ln<|iG ⟨k2-1,Sort.siftDown Sort.ltInt (k2-1) a 0 (Sort.swp i a (a+k2-1)),(yU (by omega) _ _ _ (Nat.le_refl _) (dI A _ _)),((Ub (x:=a+k2-1) (by omega) (by omega)).trans O),(by omega),o,(X.trans Fx.ic),(W.trans Fx.ic),(l.trans Fx.ic),(J.trans Fx.ic),Fx.ic,m8,V⟩ ?_
  show(intOf ((au ((k2:Int)-2)))+1).toNat<_
  simp only[m,intOf]; omega
 refine Lv aF (pJ H) (aD (aK (Wx (bY (iB (bZ (⟨.tuple #[],fM Tryd.results73,?_⟩)))))))
 obtain rfl:k2=0:=by omega
 unfold Sort.heapSort; rw[<- aa,<- N,show Sort.heapBuild Sort.ltInt (b-a) a 0 c=c from rfl,<- O]; exact⟨rfl,S,C⟩
theorem XR(a b:Nat)(B g n cap:Nat)(d:Array Int)(w:World)(h:Fx.Own w B 29 1 (bJ g n cap) n (rv .u64 (gA d)))(p:B<=w.heap.size)(F:d.size=n)(O:n<=1000)(ha:a<b)(M:b<=n) :
 Calls Tryd.prog 76 #[bJ g n cap,au ((a:Int)),au ((b:Int))] w fun e w'=>e = .returned (.tuple #[])/\Fx.Own w' B 29 1 (bJ g n cap) n (rv .u64 (gA (Sort.reverseRange d a b)))/\Below B w w':=by
 refine Kent Tryd.func76 32 ?_
 refine ay<|av (au a)<|av (au a)<|aD<|ay<|av (au b)<|Lv (au ((b:Int)-1)) jw<|av (au ((b:Int)-1))<|aD<|Wb<|Wo (fun f A => ∃ i:Nat,∃ j:Nat,∃ c:Array Int,c.size=n/\(a<=i/\j<b/\i<=b)/\Sort.reverseLoop i j c=Sort.reverseLoop a (b-1) d/\f 0=bJ g n cap/\f 1=au ((a:Int))/\f 2=au ((b:Int))/\f 6=au ((i:Int))/\f 7=au ((j:Int))/\Fx.Own A B 29 1 (bJ g n cap) n (rv .u64 (gA c))/\Below B w A) (fun f _=>((b:Int)-intOf (f 6)).toNat) ⟨a,b-1,d,F,(by omega),rfl,(by rfl),Fx.ic,Fx.ic,Fx.ic,Fx.ic,h,(Below.refl B w)⟩ ?_
 rintro L Q ⟨i,j,c,x,N,q,k,D,E,l,m,y,r⟩
 refine Ws<|ay<|aS l<|aS m ?_
 by_cases u:(i:Int)<(j:Int)
 ·refine Lv aG (jU u)<|aD<|aQ<|Wk<|sN<|Wb<|Ws ?_
  -- region 3 draws
  refine jS [0,1,2,3,4,5,6,8,9,10,7,11,12,13,14,15] [0,0,0,0,0,0,0,4,0,0,0,4,0,3,0,3] [(13,7,[7]),(15,7,[7]),(13,11,[11]),(15,11,[11]),(14,13,[13]),(15,13,[13])] fun S v P => ?_
  have o:=aR v y
  have s:=gX v r p
  refine bM k<|bM l<|bM k<|bM m<|bM k<|bM m<|Rp ((pf g j)) (fun _=>dw 1)<|bM k<|bM l<|Rp ((pf g i)) (fun _=>dw 1)<|Rs (aC ((gA c) j)) (aP o.aJ j) ?_
  refine Rs (aC ((gA c) i)) (aP o.aJ i) ?_
  refine Rp ((pf g i)) (fun _=>dw 1)<|gP<|lY o i (aC ((gA c) j)) fun R z I T => ?_
  have t:=I.below s (Nat.le_trans p s.size) o.blk.1
  refine Ln<|Rp ((pf g j)) (fun _=>dw 1)<|gP<|lY z j (aC ((gA c) i)) fun K G J U => ?_
  have C:=J.below t (Nat.le_trans p t.size) z.blk.1
  have H:Fx.Own K B 29 1 (bJ g n cap) n (rv .u64 (gA (Sort.swp c i j))):=G.congr (fD x (by omega) (by omega))
  refine Ln<|bF<|ay<|aS l<|Lv (au ((i:Int)+1)) fZ<|av (au ((i:Int)+1))<|aD<|Wl<|aS m<|Lv (au ((j:Int)-1)) jw<|av (au ((j:Int)-1))<|Ln<|cB<|iG ⟨i+1,j-1,Sort.swp c i j,(dI x _ _),(by omega),((Uc (by omega)).trans q),k,(D.trans Fx.ic),(E.trans Fx.ic),Fx.ic,Fx.ic,H,C⟩ ?_
  show((b:Int)-intOf ((au ((i:Int)+1)))).toNat<_
  simp only[l,intOf]; omega
 refine Lv aF (jV u) (aD (aK (Wx (bY (iB (bZ (⟨.tuple #[],fM Tryd.results76,?_⟩)))))))
 rw[Mf (by omega)]at q; unfold Sort.reverseRange; rw[<- q]; exact⟨rfl,y,r⟩
end
end Go.Proofs.YtcbedgfikejkoaaDoor
namespace Go.Proofs.YtcbedgfikejkoaaDoor
open Go.RowKit Rt
set_option linter.unusedVariables false
namespace Fx
def bU(a b:Int):Int:=((BitVec.ofInt 64 a ^^^ BitVec.ofInt 64 b).toNat:Int)
def EG(a b:Int):Int:=((BitVec.ofInt 64 a &&& BitVec.ofInt 64 b).toNat:Int)
def dL(a:Int)(b:Nat):Int:=IntKind.u64.wrap (a*2^b)
theorem I7(a b:Int):0<=bU a b/\bU a b<=18446744073709551615:=by
 unfold bU; have:=(BitVec.ofInt 64 a ^^^ BitVec.ofInt 64 b).isLt; omega
theorem Dj(a:Int){b:Int}(h:0<=b)(c:b<=18446744073709551615):0<=EG a b/\EG a b<=b:=by
 unfold EG
 rw[BitVec.toNat_and]
 have d:(BitVec.ofInt 64 b).toNat=b.toNat:=by rw[BitVec.toNat_ofInt]; omega
 have:=Nat.and_le_right (n:=(BitVec.ofInt 64 a).toNat) (m:=(BitVec.ofInt 64 b).toNat)
 omega
section
variable {P:Program} {f:Nat->Value} {w:World} {o:Oper}
theorem Mi{T c:TypeId}{x y:Operand}{a b:Int}(d:o.op = .binOp .xor T x y c)(hx:ev f x = .int .u64 a)(hy:ev f y = .int .u64 b):Runs P f o w (.int .u64 (bU a b)) :=
 nA d hx hy (by
  have h:=jk (I7 a b) rfl
  simp only[binOp,Op.intBits]
  show(pure (Value.int .u64 (IntKind.u64.wrap (bU a b))):Sem Value).run P w=_
  rw[h]; rfl)
theorem XT{T d:TypeId}{x y:Operand}{a b:Int}(i:o.op = .binOp .and T x y d)(hx:ev f x = .int .u64 a)(hy:ev f y = .int .u64 b)(e:0<=b)(h1:b<=18446744073709551615):Runs P f o w (.int .u64 (EG a b)) :=
 nA i hx hy (by
  have g:=Dj a e h1
  have h:=jk (c:=EG a b) ⟨g.1,by omega⟩ rfl
  simp only[binOp,Op.intBits]
  show(pure (Value.int .u64 (IntKind.u64.wrap (EG a b))):Sem Value).run P w=_
  rw[h]; rfl)
theorem Ug{T:TypeId}{x i:Operand}{s:ByteArray}{j:Nat}(e:o.op = .index T x i)(hx:ev f x = .string s)(hi:ev f i = .int .u8 (j:Int))(h:P.underlying T=some .string)(d:j<64)
 (g : ∀ q,q<64->(s[q]?).map (·.toNat)=some (Sort.bitsLen q)):Runs P f o w (.int .u8 (Sort.bitsLen j:Int)):=by
 obtain⟨b,a,c⟩:=Option.map_eq_some_iff.1 (g j d)
 unfold Runs execOp
 simp only[e,hx,hi]
 simp[Instr.index,asIntOf,underlying,h,a,c]
end
end Fx
theorem Rt.I8{n:Nat}(h:n<64):Sort.bitsLen n<=6:=(Sort.bitsLen_le_iff _ _).2 (by omega)
end Go.Proofs.YtcbedgfikejkoaaDoor
namespace Go.Proofs.YtcbedgfikejkoaaDoor
open Go.RowKit Rt
open Fx (eU dJ fu bf fq eZ dS dM fA gQ dH gT eP gD gU Lv sN Ln Ws Qv Wl Rp Wc Qs Wr Sb Lk Wk rC rV sR Rs Rn Rd Rk Wb Wx Wo yT Wt pE Qn AX uo xL yB xJ AZ AY gG yR jM nT tC A8 yA yP xQ yQ rv aA aL bC aI ev bT Stp bU aM flat fH Mp dL aV fC gI aX down fM iU ji jv bG bA cells_one jO aY nE unseen jk iT cu bW cB bY bZ iB iG qP gV)
section
open Rt
set_option maxRecDepth 10000
theorem PO(n:Nat)(w:World)(a:n<64) :
 Calls Tryd.prog 54 #[aC ((n:Int))] w fun e w'=>e = .returned (au (Sort.bitsLen n:Int))/\w'=w:=by
 have b:=I8 a
 refine Kent Tryd.func54 25 ?_
 refine ay<|av (au 0)<|aD<|Ws<|ay<|av (aC n)<|Lv aF BK<|aD<|aK<|Wk<|sN<|Ws<|ay<|av (aC n)<|Lv aF BK<|aD<|aK<|Wk<|sN<|Ws<|ay<|av (aC n)<|Lv aF BK<|aD<|aK<|Wk<|sN<|ay<|av (au 0)<|av (aC n)<|Lv (.int .u8 ((n:Int))) (dS rfl rfl (by kernel_rfl) Tryd.underlying5 (Fx.u8e (by omega) rfl))<|Lv (.int .u8 ((Sort.bitsLen n:Int))) (Fx.Ug rfl rfl rfl Tryd.underlying9 a (by decide +kernel))<|Lv (au (Sort.bitsLen n:Int)) (dS rfl rfl (by kernel_rfl) Tryd.underlying3 (ji (by omega) rfl))<|Lv (au (0+(Sort.bitsLen n:Int))) fZ<|av (au (0+(Sort.bitsLen n:Int)))<|aD<|Wr<|aN (au (0+(Sort.bitsLen n:Int))) ?_
 exact⟨by rw[Int.zero_add],rfl⟩
theorem Mj(n:Nat)(w:World)(a:n<64) :
 Calls Tryd.prog 34 #[aC ((n:Int))] w fun e w'=>e = .returned (au (Sort.bitsLen n:Int))/\w'=w:=by
 have b:=I8 a
 refine Kent Tryd.func34 8 ?_
 refine ay<|av (au 0)<|aD<|Ws<|aK<|Wk<|sN<|ay<|av (aC n)<|mH (PO n _ a) _ rfl<|av (au (Sort.bitsLen n:Int))<|aD<|Wr<|aN (au (Sort.bitsLen n:Int)) ?_
 exact⟨rfl,rfl⟩
theorem XU(n m:Nat)(w:World)(f:n<64)(c:0<n)(a:m=2^Sort.bitsLen n) :
 Calls Tryd.prog 63 #[au ((n:Int))] w fun e w'=>e = .returned (aC (m:Int))/\w'=w:=by
 have g:=I8 f
 have d:=Sort.two_pow_bitsLen_le c
 rw[<- a]at d
 refine Kent Tryd.func63 7 ?_
 refine ay<|av (aC 0)<|aD<|ay<|av (au n)<|Lv (aC n) (dS rfl rfl (by kernel_rfl) Tryd.underlying96 (jk (by omega) rfl))<|mH (Mj n _ (by omega)) _ rfl<|Lv (aC m) (Fx.IL (b:=Sort.bitsLen n) rfl rfl rfl (show _<=64 by omega) (jk (by omega) (by rw[a]; simp)))<|av (aC m)<|aD<|Wr<|aN (aC m) ?_
 exact⟨rfl,rfl⟩
theorem Uh(a:Nat)(r:Int)(w:World)(h:aL w a 1 (fun _=>aC r) 128) :
 Calls Tryd.prog 64 #[(pt a)] w fun e w' => ∃ d,e = .returned (aC d)/\(0<=d/\d<=18446744073709551615)/\Stp a w w'/\aL w' a 1 (fun _=>aC d) 128:=by
 refine Kent Tryd.func64 33 ?_
 refine ay<|av (aC 0)<|aD<|Ws ?_
 -- region 1 draws
 refine jS [0,1,3,4,2,5,6,7,8,9] [0,0,4,0,0,4,0,0,0,3] [(9,2,[2]),(9,5,[5])] fun K n N => ?_
 have D:Stp w.heap.size w K:=Sb n
 have f:=aR n h
 have t:=(jM a w).then D (.inr (jM a w).size)
 refine aU ((pt a))<|aU ((pt a))<|aU ((pt a))<|aU ((pt a))<|Rs (aC r) (aP f.aJ 0) ?_
 refine Rs (aC r) (aP f.aJ 0) ?_
 refine Rp (aC (dL r 13)) (fun c=>Fx.IL (b:=13) rfl rfl rfl (by decide) rfl)<|Rp (aC (bU r (dL r 13))) (fun c=>Fx.Mi rfl rfl rfl)<|aU ((pt a))<|gP<|mZ f 0 (aC (bU r (dL r 13))) fun j y E Q => ?_
 have z:aL j a 1 (fun _=>aC (bU r (dL r 13))) 128:=cu y
 have l:=t.then E (by omega)
 refine Ln<|bF<|Ws ?_
 -- region 2 draws
 refine jS [0,1,3,4,2,5,6,7,8,9] [0,0,4,0,0,4,0,0,0,3] [(9,2,[2]),(9,5,[5])] fun L o O => ?_
 have F:Stp j.heap.size j L:=Sb o
 have g:=aR o z
 have u:=l.then F (.inr l.size)
 refine aU ((pt a))<|aU ((pt a))<|aU ((pt a))<|aU ((pt a))<|Rs (aC (bU r (dL r 13))) (aP g.aJ 0) ?_
 refine Rs (aC (bU r (dL r 13))) (aP g.aJ 0) ?_
 refine Rp (aC ((bU r (dL r 13)) / 128)) (fun c=>Fx.Xt (b:=7) (q:=128) rfl rfl rfl (by decide) (by decide))<|Rp (aC (bU (bU r (dL r 13)) ((bU r (dL r 13)) / 128))) (fun c=>Fx.Mi rfl rfl rfl)<|aU ((pt a))<|gP<|mZ g 0 (aC (bU (bU r (dL r 13)) ((bU r (dL r 13)) / 128))) fun k A G R => ?_
 have B:aL k a 1 (fun _=>aC (bU (bU r (dL r 13)) ((bU r (dL r 13)) / 128))) 128:=cu A
 have m:=u.then G (by omega)
 refine Ln<|bF<|Ws ?_
 -- region 3 draws
 refine jS [0,1,3,4,2,5,6,7,8,9] [0,0,4,0,0,4,0,0,0,3] [(9,2,[2]),(9,5,[5])] fun M p P => ?_
 have H:Stp k.heap.size k M:=Sb p
 have i:=aR p B
 have v:=m.then H (.inr m.size)
 refine aU ((pt a))<|aU ((pt a))<|aU ((pt a))<|aU ((pt a))<|Rs (aC (bU (bU r (dL r 13)) ((bU r (dL r 13)) / 128))) (aP i.aJ 0) ?_
 refine Rs (aC (bU (bU r (dL r 13)) ((bU r (dL r 13)) / 128))) (aP i.aJ 0) ?_
 refine Rp (aC (dL (bU (bU r (dL r 13)) ((bU r (dL r 13)) / 128)) 17)) (fun c=>Fx.IL (b:=17) rfl rfl rfl (by decide) rfl)<|Rp (aC (bU (bU (bU r (dL r 13)) ((bU r (dL r 13)) / 128)) (dL (bU (bU r (dL r 13)) ((bU r (dL r 13)) / 128)) 17))) (fun c=>Fx.Mi rfl rfl rfl)<|aU ((pt a))<|gP<|mZ i 0 (aC (bU (bU (bU r (dL r 13)) ((bU r (dL r 13)) / 128)) (dL (bU (bU r (dL r 13)) ((bU r (dL r 13)) / 128)) 17))) fun J C I S => ?_
 have s:aL J a 1 (fun _=>aC (bU (bU (bU r (dL r 13)) ((bU r (dL r 13)) / 128)) (dL (bU (bU r (dL r 13)) ((bU r (dL r 13)) / 128)) 17))) 128:=cu C
 have x:=v.then I (by omega)
 refine Ln<|bF<|ay<|av ((pt a))<|av ((pt a))<|Lv (aC (bU (bU (bU r (dL r 13)) ((bU r (dL r 13)) / 128)) (dL (bU (bU r (dL r 13)) ((bU r (dL r 13)) / 128)) 17))) (aP s.aJ 0)<|av (aC (bU (bU (bU r (dL r 13)) ((bU r (dL r 13)) / 128)) (dL (bU (bU r (dL r 13)) ((bU r (dL r 13)) / 128)) 17)))<|aD<|Wr<|aN (aC (bU (bU (bU r (dL r 13)) ((bU r (dL r 13)) / 128)) (dL (bU (bU r (dL r 13)) ((bU r (dL r 13)) / 128)) 17))) ?_
 exact⟨_,rfl,Fx.I7 _ _,x,s⟩
end
section
open Rt
set_option maxRecDepth 10000
theorem Ui{a:Int}(n m:Nat)(w:World)(e:a=(n:Int))(d:n<64)(b:0<n)(c:m=2^Sort.bitsLen n):Calls Tryd.prog 63 #[au a] w fun e w'=>e = .returned (aC (m:Int))/\w'=w:=by
 subst e; exact XU n m w d b c
theorem XV(a b:Nat)(B g n cap:Nat)(d:Array Int)(w:World)(h:Fx.Own w B 29 1 (bJ g n cap) n (rv .u64 (gA d)))(o:B<=w.heap.size)(X:d.size=n)(hs:n<=1000)(ha:a<b)(hb:b<=n)(h50:n<50) :
 Calls Tryd.prog 74 #[bJ g n cap,au ((a:Int)),au ((b:Int))] w fun e w' => ∃ y:Array Int,e = .returned (.tuple #[])/\y.size=n/\Sort.PermIn a b d y/\Fx.Own w' B 29 1 (bJ g n cap) n (rv .u64 (gA y))/\Below B w w':=by
 obtain⟨i,hq0⟩ : ∃ i,i=(b-a) / 4:=⟨_,rfl⟩
 refine Kent Tryd.func74 65 ?_
 refine ay<|av (au b)<|av (au a)<|Lv (au ((b:Int)-(a:Int))) jw<|av (au ((b:Int)-(a:Int)))<|aD<|ay<|av (au ((b:Int)-(a:Int))) ?_
 by_cases O:8<=((b:Int)-(a:Int))
 ·refine Lv aG (qD O)<|aD<|aQ<|ay<|av (au ((b:Int)-(a:Int)))<|Lv (aC ((b:Int)-(a:Int))) (dS rfl rfl (by kernel_rfl) Tryd.underlying128 (jk (by omega) rfl))<|lM 1 (rv .u64 (fun _=>0)) fun v w1 R D s1 z1 => ?_
  have m2:=aR s1.old h
  have I:=gX s1.old (Below.refl B w) o
  have wF:=gM R (Below.refl B w).size
  have nH:=bR R h.lt
  have wQ:=D.lt
  refine mZ D 0 (aC ((b:Int)-(a:Int))) fun w2 m3 s2 z2 => ?_
  have m4:aL w2 v 1 (fun _=>aC ((b:Int)-(a:Int))) 128:=cu m3
  have iq:=gG s2 D.ty
  have m5:=kJ iq m2
  have b2:=s2.below I (Nat.le_trans o I.size) (by omega)
  refine aD<|ay<|av (au ((b:Int)-(a:Int))) ?_
  obtain⟨m,W⟩ : ∃ m,m=2^Sort.bitsLen (b-a):=⟨_,rfl⟩
  have hm2:=Sort.two_pow_bitsLen_le (show 0<b-a by omega)
  have hm3:=Sort.lt_two_pow_bitsLen (b-a)
  rw[<- W]at hm2 hm3
  refine mH (Ui (b-a) m _ (by omega) (by omega) (by omega) W) (ax := #[au ((b:Int)-(a:Int))]) _ rfl<|av (aC m)<|aD<|ay<|av (au a)<|av (au ((b:Int)-(a:Int)))<|Lv (au i) (Fx.xI rfl rfl rfl (by omega) (ji (by omega) (by rw[Int.tdiv_eq_ediv_of_nonneg (by omega)]; omega)))<|Lv (au ((i:Int)*2)) (Fx.BG rfl rfl rfl Fx.io)<|Lv (au ((a:Int)+2*(i:Int))) fZ<|Lv (au ((a:Int)+2*(i:Int)-1)) jw<|av (au ((a:Int)+2*(i:Int)-1))<|aD<|Wb<|Wo (fun f H => ∃ ix:Nat,∃ G:Int,∃ j:Array Int,j.size=n/\Sort.PermIn a b d j/\(a+2*i<=ix+1/\ix<=a+2*i+2)/\f 0=bJ g n cap/\f 1=au ((a:Int))/\f 2=au ((b:Int))/\f 6=au ((b:Int)-(a:Int))/\f 7=(pt v)/\f 8=aC ((m:Int))/\f 9=au ((ix:Int))/\Fx.Own H B 29 1 (bJ g n cap) n (rv .u64 (gA j))/\aL H v 1 (fun _=>aC G) 128/\Below B w H) (fun f _=>((a:Int)+2*i+2-intOf (f 9)).toNat) ⟨a+2*i-1,((b:Int)-(a:Int)),d,X,(Sort.permIn_refl _ _ _),(by omega),(by rfl),Fx.ic,Fx.ic,Fx.ic,(by rfl),Fx.ic,Fx.ic,m5,m4,b2⟩ ?_
  rintro f1 w3 ⟨ix,G,j,s,C,hix,k,p,S,r,z,A,l,Y,Z,x⟩
  refine Ws<|ay<|aS l<|aS p<|aS r<|Lv (au i) (Fx.xI rfl rfl rfl (by omega) (ji (by omega) (by rw[Int.tdiv_eq_ediv_of_nonneg (by omega)]; omega)))<|Lv (au ((i:Int)*2)) (Fx.BG rfl rfl rfl Fx.io)<|Lv (au ((a:Int)+2*(i:Int))) fZ<|Lv (au ((a:Int)+2*(i:Int)+1)) fZ ?_
  by_cases P:(ix:Int)<=((a:Int)+2*(i:Int)+1)
  ·refine Lv aG (qC P) (aD (aQ (Wk (sN (Ws (Wb (ay (jy (Uh v G _ Z) ?_ (hr:=rC rfl (Fx.args1 z) Tryd.func64 rfl rfl)))))))))
   rintro e9 w4 ⟨q,V,hr1,s3,m8⟩
   refine⟨_,V,?_⟩
   clear V
   have kX:=gG s3 Z.ty
   have m9:=kJ kX Y
   have J:=s3.below x (Nat.le_trans o x.size) (by omega)
   refine aS A<|Lv (aC ((m:Int)-1)) jw ?_
   obtain⟨c,ho1,ko1⟩ : ∃ c:Nat,(c:Int)=Fx.EG q ((m:Int)-1)/\(c:Int)<=(m:Int)-1:=⟨(Fx.EG q ((m:Int)-1)).toNat,by have:=Fx.Dj q (show 0<=(m:Int)-1 by omega) (by omega); omega,by have:=Fx.Dj q (show 0<=(m:Int)-1 by omega) (by omega); omega⟩
   refine Lv (aC c) ((by rw[ho1]; exact Fx.XT rfl rfl rfl (by omega) (by omega)))<|Lv (au c) (dS rfl rfl (by kernel_rfl) Tryd.underlying3 (ji (by omega) rfl))<|av (au c)<|aD<|Ws<|ay<|av (au c)<|aS r ?_
   by_cases Q:((b:Int)-(a:Int))<=(c:Int)
   ·refine Lv aG (qD Q)<|aD<|aQ<|Wl<|av (au c)<|aS r<|Lv (au ((a:Int)+(c:Int)-(b:Int))) jw<|av (au ((a:Int)+(c:Int)-(b:Int)))<|aD ?_
    -- region 10 draws
    refine jS [0,1,2,3,4,5,6,7,8,9,10,12,13,14,11,15,16,17,18,19] [0,0,0,0,0,0,0,0,0,0,0,4,0,0,0,4,0,3,0,3] [(17,11,[11]),(19,11,[11]),(17,15,[15]),(19,15,[15]),(18,17,[17]),(19,17,[17])] fun qY T iC => ?_
    have⟨t,m11⟩:=iA T m9 m8
    have K:=gX T J o
    refine bM k<|bM l<|bM k<|bM p<|aU (au ((a:Int)+(c:Int)-(b:Int)))<|Rp (au (2*(a:Int)+(c:Int)-(b:Int))) (fun _=>fZ)<|bM k<|bM p<|aU (au ((a:Int)+(c:Int)-(b:Int)))<|Rp (au (2*(a:Int)+(c:Int)-(b:Int))) (fun _=>fZ)<|Rp ((pf g (2*a+c-b))) (fun _=>dw 1)<|bM k<|bM l<|Rp ((pf g ix)) (fun _=>dw 1)<|Rs (aC ((gA j) (2*a+c-b))) (aP t.aJ (2*a+c-b)) ?_
    refine Rs (aC ((gA j) ix)) (aP t.aJ ix) ?_
    refine Rp ((pf g ix)) (fun _=>dw 1)<|gP<|lY t ix (aC ((gA j) (2*a+c-b))) fun w5 E s5 z3 => ?_
    have wR:=gG s5 t.ZN
    have m13:=kJ wR m11
    have L:=s5.below K (Nat.le_trans o K.size) t.blk.1
    refine Ln<|Rp ((pf g (2*a+c-b))) (fun _=>dw 1)<|gP<|lY E (2*a+c-b) (aC ((gA j) ix)) fun w6 m14 s6 z4 => ?_
    have Bn:=gG s6 E.ZN
    have m15:=kJ Bn m13
    have b7:=s6.below L (Nat.le_trans o L.size) E.blk.1
    have m16:Fx.Own w6 B 29 1 (bJ g n cap) n (rv .u64 (gA (Sort.swp j ix (2*a+c-b)))):=m14.congr (fD s (by omega) (by omega))
    refine Ln<|Rn<|cB<|sN<|Wl<|aS l<|Lv (au ((ix:Int)+1)) fZ<|av (au ((ix:Int)+1))<|Ln<|iG ⟨ix+1,q,Sort.swp j ix (2*a+c-b),(dI s _ _),(Sort.permIn_trans _ _ _ _ _ C (Sort.swp_permIn _ _ _ _ _ (by omega) (by omega) (by omega) (by omega) (by omega))),(by omega),k,(p.trans Fx.ic),(S.trans Fx.ic),(r.trans Fx.ic),z,(A.trans Fx.ic),Fx.ic,m16,m15,b7⟩ ?_
    show((a:Int)+2*i+2-intOf ((au ((ix:Int)+1)))).toNat<_
    simp only[l,intOf]; omega
   refine Lv aF (pJ Q)<|aD<|aK<|Wk<|sN ?_
   -- region 10 draws
   refine jS [0,1,2,3,4,5,6,7,8,9,10,12,13,14,11,15,16,17,18,19] [0,0,0,0,0,0,0,0,0,0,0,4,0,0,0,4,0,3,0,3] [(17,11,[11]),(19,11,[11]),(17,15,[15]),(19,15,[15]),(18,17,[17]),(19,17,[17])] fun D9 U oC => ?_
   have⟨u,m18⟩:=iA U m9 m8
   have M:=gX U J o
   refine bM k<|bM l<|bM k<|bM p<|aU (au c)<|Rp (au ((a:Int)+(c:Int))) (fun _=>fZ)<|bM k<|bM p<|aU (au c)<|Rp (au ((a:Int)+(c:Int))) (fun _=>fZ)<|Rp ((pf g (a+c))) (fun _=>dw 1)<|bM k<|bM l<|Rp ((pf g ix)) (fun _=>dw 1)<|Rs (aC ((gA j) (a+c))) (aP u.aJ (a+c)) ?_
   refine Rs (aC ((gA j) ix)) (aP u.aJ ix) ?_
   refine Rp ((pf g ix)) (fun _=>dw 1)<|gP<|lY u ix (aC ((gA j) (a+c))) fun w7 F s8 z5 => ?_
   have GD:=gG s8 u.ZN
   have m20:=kJ GD m18
   have N:=s8.below M (Nat.le_trans o M.size) u.blk.1
   refine Ln<|Rp ((pf g (a+c))) (fun _=>dw 1)<|gP<|lY F (a+c) (aC ((gA j) ix)) fun w8 m21 s9 z6 => ?_
   have EH:=gG s9 F.ZN
   have m22:=kJ EH m20
   have b10:=s9.below N (Nat.le_trans o N.size) F.blk.1
   have m23:Fx.Own w8 B 29 1 (bJ g n cap) n (rv .u64 (gA (Sort.swp j ix (a+c)))):=m21.congr (fD s (by omega) (by omega))
   refine Ln<|Rn<|cB<|sN<|Wl<|aS l<|Lv (au ((ix:Int)+1)) fZ<|av (au ((ix:Int)+1))<|Ln<|iG ⟨ix+1,q,Sort.swp j ix (a+c),(dI s _ _),(Sort.permIn_trans _ _ _ _ _ C (Sort.swp_permIn _ _ _ _ _ (by omega) (by omega) (by omega) (by omega) (by omega))),(by omega),k,(p.trans Fx.ic),(S.trans Fx.ic),(r.trans Fx.ic),z,(A.trans Fx.ic),Fx.ic,m23,m22,b10⟩ ?_
   show((a:Int)+2*i+2-intOf ((au ((ix:Int)+1)))).toNat<_
   simp only[l,intOf]; omega
  refine Lv aF (qU P) (aD (aK (Wx (bY (iB (bZ (⟨.tuple #[],fM Tryd.results74,?_⟩)))))))
  exact⟨j,rfl,s,C,Y,x⟩
 refine Lv aF (pJ O) (aD (aK (Wk (⟨.tuple #[],fM Tryd.results74,?_⟩))))
 exact⟨d,rfl,X,Sort.permIn_refl _ _ _,h,(Below.refl B w)⟩
end
section
open Rt
set_option maxRecDepth 10000
theorem Uj(a b f:Nat)(c:Int)(B g n cap:Nat)(d:Array Int)(w:World)(h:Fx.Own w B 29 1 (bJ g n cap) n (rv .u64 (gA d)))(l:B<=w.heap.size)(J:d.size=n)(K:n<=1000)(ha:a<n)(H:b<n)(I:B<=f)(q:aL w f 1 (fun _=>au c) 3)(L:0<=c/\c<=1000) :
 Calls Tryd.prog 89 #[bJ g n cap,au ((a:Int)),au ((b:Int)),(pt f)] w fun e w' => ∃(x y:Nat) (i:Int),e = .returned (.tuple #[au (x:Int),au (y:Int)])/\((x=a/\y=b)\/(x=b/\y=a))/\(c<=i/\i<=c+1)/\aL w' f 1 (fun _=>au i) 3/\Fx.Own w' B 29 1 (bJ g n cap) n (rv .u64 (gA d))/\Below B w w':=by
 refine Kent Tryd.func89 28 ?_
 refine ay<|av (au 0)<|av (au 0)<|aD<|Ws<|Ws ?_
 -- region 1 draws
 refine lU<|bE (bJ g n cap)<|bE (au b)<|Qv ((pf g b)) (fun o j=>dw 1)<|Qv (aC ((gA d) b)) (fun o j=>aP (h.cb j) b)<|bE (bJ g n cap)<|bE (au a)<|Qv ((pf g a)) (fun o j=>dw 1)<|Qv (aC ((gA d) a)) (fun o j=>aP (h.cb j) a) ?_
 by_cases k:(decide ((gA d) b<(gA d) a))=true
 ·refine nD (fun _ _=>cK ((gA d) b) ((gA d) a) _) aG (by rw[k])<|Qn ?_
  intro M r
  have⟨z,m⟩:=iA r h q
  have p:=gX r (Below.refl B w) l
  refine sN<|aQ<|ay<|av ((pt f))<|av ((pt f))<|Lv (au c) (aP m.aJ 0)<|Lv (au (c+1)) fZ<|av ((pt f))<|mZ m 0 (au (c+1)) fun G A i O => ?_
  have C:aL G f 1 (fun _=>au (c+1)) 3:=cu A
  have v:=gG i m.ty
  have D:=kJ v z
  have t:=i.below p (Nat.le_trans l p.size) (by omega)
  refine aD<|ay<|av (au b)<|av (au a)<|av (au b)<|av (au a)<|aD<|Wr<|sR<|aN (.tuple #[au ((b:Int)),au ((a:Int))]) ?_
  exact⟨b,a,c+1,rfl,.inr ⟨rfl,rfl⟩,by omega,C,D,t⟩
 rw[Bool.not_eq_true]at k
 refine nD (fun _ _=>cK ((gA d) b) ((gA d) a) _) aF (by rw[k])<|Qn ?_
 intro N s
 have⟨E,F⟩:=iA s h q
 have u:=gX s (Below.refl B w) l
 refine sN<|aK<|Wk<|sN<|ay<|av (au a)<|av (au b)<|av (au a)<|av (au b)<|aD<|Wr<|aN (.tuple #[au ((a:Int)),au ((b:Int))]) ?_
 exact⟨a,b,c,rfl,.inl ⟨rfl,rfl⟩,by omega,F,E,u⟩
theorem Dk{j k:Int}(a b:Nat)(l:j=(a:Int))(m:k=(b:Int))(f:Nat)(c:Int)(B g n cap:Nat)(d:Array Int)(w:World)(h:Fx.Own w B 29 1 (bJ g n cap) n (rv .u64 (gA d)))(o:B<=w.heap.size)(s:d.size=n)(t:n<=1000)(ha:a<n)(p:b<n)(q:B<=f)(r:aL w f 1 (fun _=>au c) 3)(u:0<=c/\c<=1000) :
 Calls Tryd.prog 89 #[bJ g n cap,au j,au k,(pt f)] w fun e w' => ∃(x y:Nat) (i:Int),e = .returned (.tuple #[au (x:Int),au (y:Int)])/\((x=a/\y=b)\/(x=b/\y=a))/\(c<=i/\i<=c+1)/\aL w' f 1 (fun _=>au i) 3/\Fx.Own w' B 29 1 (bJ g n cap) n (rv .u64 (gA d))/\Below B w w':=by
 subst l m; exact Uj a b f c B g n cap d w h o s t ha p q r u
theorem XW(a b c f:Nat)(j:Int)(B g n cap:Nat)(d:Array Int)(w:World)(h:Fx.Own w B 29 1 (bJ g n cap) n (rv .u64 (gA d)))(m:B<=w.heap.size)(p:d.size=n)(q:n<=1000)(ha:a<n)(L:b<n)(M:c<n)(z:B<=f)(o:aL w f 1 (fun _=>au j) 3)(Q:0<=j/\j<=100) :
 Calls Tryd.prog 86 #[bJ g n cap,au ((a:Int)),au ((b:Int)),au ((c:Int)),(pt f)] w fun e w' => ∃(x:Nat) (r:Int),e = .returned (au (x:Int))/\(x=a\/x=b\/x=c)/\(j<=r/\r<=j+3)/\aL w' f 1 (fun _=>au r) 3/\Fx.Own w' B 29 1 (bJ g n cap) n (rv .u64 (gA d))/\Below B w w':=by
 refine Kent Tryd.func86 36 ?_
 refine ay<|av (au 0)<|aD<|ay<|av (bJ g n cap)<|av (au a)<|av (au b)<|av ((pt f))<|jy (Dk a b (by omega) (by omega) f j B g n cap d _ h (Nat.le_trans m (Below.refl B w).size) p q (by omega) (by omega) (by omega) o (by omega)) (ax := #[bJ g n cap,au ((a:Int)),au ((b:Int)),(pt f)]) ?_
 rintro y V ⟨x1,k,J,i,R,N,D,E,z⟩
 refine⟨_,i,?_⟩
 clear i
 have u:=(Below.refl B w).trans z
 refine av (.tuple #[au ((x1:Int)),au ((k:Int))])<|av (au x1)<|av (au k)<|av (au x1)<|av (au k)<|aD<|ay<|av (bJ g n cap)<|av (au k)<|av (au c)<|av ((pt f))<|jy (Dk k c (by omega) (by omega) f J B g n cap d _ E (Nat.le_trans m u.size) p q (by omega) (by omega) (by omega) D (by omega)) (ax := #[bJ g n cap,au ((k:Int)),au ((c:Int)),(pt f)]) ?_
 rintro y W ⟨x2,t,K,i,S,O,F,G,o⟩
 refine⟨_,i,?_⟩
 clear i
 have v:=u.trans o
 refine av (.tuple #[au ((x2:Int)),au ((t:Int))])<|av (au x2)<|av (au t)<|av (au x2)<|av (au t)<|aD<|ay<|av (bJ g n cap)<|av (au x1)<|av (au x2)<|av ((pt f))<|jy (Dk x1 x2 (by omega) (by omega) f K B g n cap d _ G (Nat.le_trans m v.size) p q (by omega) (by omega) (by omega) F (by omega)) (ax := #[bJ g n cap,au ((x1:Int)),au ((x2:Int)),(pt f)]) ?_
 rintro y X ⟨s,l,U,i,T,P,H,I,C⟩
 refine⟨_,i,?_⟩
 clear i
 have A:=v.trans C
 refine av (.tuple #[au ((s:Int)),au ((l:Int))])<|av (au s)<|av (au l)<|av (au s)<|av (au l)<|aD<|ay<|av (au l)<|av (au l)<|aD<|Wr<|aN (au l) ?_
 exact⟨_,_,rfl,by omega,by omega,H,I,A⟩
theorem Uk{k l m:Int}(a b c:Nat)(o:k=(a:Int))(p:l=(b:Int))(q:m=(c:Int))(i:Nat)(f:Int)(B g n cap:Nat)(d:Array Int)(w:World)(h:Fx.Own w B 29 1 (bJ g n cap) n (rv .u64 (gA d)))(r:B<=w.heap.size)(y:d.size=n)(z:n<=1000)(ha:a<n)(s:b<n)(v:c<n)(t:B<=i)(u:aL w i 1 (fun _=>au f) 3)(A:0<=f/\f<=100) :
 Calls Tryd.prog 86 #[bJ g n cap,au k,au l,au m,(pt i)] w fun e w' => ∃(x:Nat) (j:Int),e = .returned (au (x:Int))/\(x=a\/x=b\/x=c)/\(f<=j/\j<=f+3)/\aL w' i 1 (fun _=>au j) 3/\Fx.Own w' B 29 1 (bJ g n cap) n (rv .u64 (gA d))/\Below B w w':=by
 subst o p q; exact XW a b c i f B g n cap d w h r y z ha s v t u A
theorem XY(a b:Nat)(B g n cap:Nat)(d:Array Int)(w:World)(h:Fx.Own w B 29 1 (bJ g n cap) n (rv .u64 (gA d)))(x:B<=w.heap.size)(E:d.size=n)(F:n<=1000)(ha:a<b)(J:b<=n)(I:n<50) :
 Calls Tryd.prog 75 #[bJ g n cap,au ((a:Int)),au ((b:Int))] w fun e w' => ∃(p:Nat) (D:Int),e = .returned (.tuple #[au (p:Int),au D])/\a<=p/\p<b/\Fx.Own w' B 29 1 (bJ g n cap) n (rv .u64 (gA d))/\Below B w w':=by
 obtain⟨c,K⟩ : ∃ c,c=(b-a) / 4:=⟨_,rfl⟩
 refine Kent Tryd.func75 57 ?_
 refine ay<|av (au 0)<|av (au 0)<|aD<|ay<|av (au b)<|av (au a)<|Lv (au ((b:Int)-(a:Int))) jw<|av (au ((b:Int)-(a:Int)))<|aD<|ay<|xJ (m:=1) (y:=rv .i64 (fun _=>0)) (by rfl) rfl (by kernel_rfl) rfl fun v Q u o A S => ?_
 have k:=aR A.old h
 have f:=gX A.old (Below.refl B w) x
 have N:=gM u (Below.refl B w).size
 have O:=bR u h.lt
 have P:=o.lt
 refine aD<|ay<|av (au a)<|av (au ((b:Int)-(a:Int)))<|Lv (au c) (Fx.xI rfl rfl rfl (by omega) (ji (by omega) (by rw[Int.tdiv_eq_ediv_of_nonneg (by omega)]; omega)))<|Lv (au ((c:Int)*1)) (Fx.BG rfl rfl rfl Fx.io)<|Lv (au ((a:Int)+(c:Int))) fZ<|av (au ((a:Int)+(c:Int)))<|aD<|ay<|av (au a)<|av (au ((b:Int)-(a:Int)))<|Lv (au c) (Fx.xI rfl rfl rfl (by omega) (ji (by omega) (by rw[Int.tdiv_eq_ediv_of_nonneg (by omega)]; omega)))<|Lv (au ((c:Int)*2)) (Fx.BG rfl rfl rfl Fx.io)<|Lv (au ((a:Int)+2*(c:Int))) fZ<|av (au ((a:Int)+2*(c:Int)))<|aD<|ay<|av (au a)<|av (au ((b:Int)-(a:Int)))<|Lv (au c) (Fx.xI rfl rfl rfl (by omega) (ji (by omega) (by rw[Int.tdiv_eq_ediv_of_nonneg (by omega)]; omega)))<|Lv (au ((c:Int)*3)) (Fx.BG rfl rfl rfl Fx.io)<|Lv (au ((a:Int)+3*(c:Int))) fZ<|av (au ((a:Int)+3*(c:Int)))<|aD<|Ws<|ay<|av (au ((b:Int)-(a:Int))) ?_
 by_cases t:8<=((b:Int)-(a:Int))
 ·refine Lv aG (qD t)<|aD<|aQ<|Ws<|ay<|av (au ((b:Int)-(a:Int)))<|Lv aF BK<|aD<|aK<|Wk<|sN<|Wl<|av (bJ g n cap)<|av (au ((a:Int)+(c:Int)))<|av (au ((a:Int)+2*(c:Int)))<|av (au ((a:Int)+3*(c:Int)))<|jy (Uk (a+c) (a+2*c) (a+3*c) (by omega) (by omega) (by omega) v 0 B g n cap d _ k (Nat.le_trans x f.size) E F (by omega) (by omega) (by omega) (by omega) o (by omega)) (ax := #[bJ g n cap,au ((a:Int)+(c:Int)),au ((a:Int)+2*(c:Int)),au ((a:Int)+3*(c:Int)),(pt v)]) ?_
  rintro H R ⟨x1,s,z,M,L,G,r,C⟩
  refine⟨_,z,?_⟩
  clear z
  have l:=f.trans C
  refine av (au x1)<|aD<|ay<|Lv (au s) (aP G.aJ 0)<|aD<|Wb<|ay ?_
  by_cases i:s=0
  ·refine Lv aG (gH i)<|av aG<|aD<|aQ<|ay<|av (au x1)<|av (au x1)<|av (au 1)<|aD<|Wr<|bW<|aN (.tuple #[au ((x1:Int)),au 1]) ?_
   exact⟨x1,1,congrArg (fun q=>Ending.returned (.tuple #[au q,au 1])) (by omega),by omega,by omega,r,l⟩
  refine Lv aF (iW i)<|av aF<|aD<|aK<|ay ?_
  by_cases j:s=12
  ·refine Lv aG (gH j)<|av aG<|aD<|aQ<|ay<|av (au x1)<|av (au x1)<|av (au 2)<|aD<|Wr<|bW<|aN (.tuple #[au ((x1:Int)),au 2]) ?_
   exact⟨x1,2,congrArg (fun q=>Ending.returned (.tuple #[au q,au 2])) (by omega),by omega,by omega,r,l⟩
  refine Lv aF (iW j)<|av aF<|aD<|aK<|ay<|av (au x1)<|av (au x1)<|av (au 0)<|aD<|Wr<|bW<|aN (.tuple #[au ((x1:Int)),au 0]) ?_
  exact⟨x1,0,congrArg (fun q=>Ending.returned (.tuple #[au q,au 0])) (by omega),by omega,by omega,r,l⟩
 refine Lv aF (pJ t)<|aD<|aK<|Wk<|sN<|ay<|Lv (au 0) (aP o.aJ 0)<|aD<|Wb<|ay ?_
 by_cases i:(0:Int)=0
 ·refine Lv aG (gH i)<|av aG<|aD<|aQ<|ay<|av (au ((a:Int)+2*(c:Int)))<|av (au ((a:Int)+2*(c:Int)))<|av (au 1)<|aD<|Wr<|bW<|aN (.tuple #[au ((a:Int)+2*(c:Int)),au 1]) ?_
  exact⟨a+2*c,1,congrArg (fun q=>Ending.returned (.tuple #[au q,au 1])) (by omega),by omega,by omega,k,f⟩
 refine Lv aF (iW i)<|av aF<|aD<|aK<|ay ?_
 by_cases j:(0:Int)=12
 ·refine Lv aG (gH j)<|av aG<|aD<|aQ<|ay<|av (au ((a:Int)+2*(c:Int)))<|av (au ((a:Int)+2*(c:Int)))<|av (au 2)<|aD<|Wr<|bW<|aN (.tuple #[au ((a:Int)+2*(c:Int)),au 2]) ?_
  exact⟨a+2*c,2,congrArg (fun q=>Ending.returned (.tuple #[au q,au 2])) (by omega),by omega,by omega,k,f⟩
 refine Lv aF (iW j)<|av aF<|aD<|aK<|ay<|av (au ((a:Int)+2*(c:Int)))<|av (au ((a:Int)+2*(c:Int)))<|av (au 0)<|aD<|Wr<|bW<|aN (.tuple #[au ((a:Int)+2*(c:Int)),au 0]) ?_
 exact⟨a+2*c,0,congrArg (fun q=>Ending.returned (.tuple #[au q,au 0])) (by omega),by omega,by omega,k,f⟩
end
section
open Rt
set_option maxRecDepth 10000
theorem Ul(a b:Nat)(B g n cap:Nat)(d:Array Int)(w:World)(h:Fx.Own w B 29 1 (bJ g n cap) n (rv .u64 (gA d)))(v:B<=w.heap.size)(V:d.size=n)(W:n<=1000)(ha:a<b)(U:b<=n)(T:n<50) :
 Calls Tryd.prog 77 #[bJ g n cap,au ((a:Int)),au ((b:Int))] w fun e w' => ∃ r:Bool,e = .returned (.bool r)/\(r=true->Sort.SortedIn Sort.ltInt a b d)/\Fx.Own w' B 29 1 (bJ g n cap) n (rv .u64 (gA d))/\Below B w w':=by
 refine Kent Tryd.func77 133 ?_
 refine ay<|av aF<|aD<|ay<|av (au a)<|Lv (au ((a:Int)+1)) fZ<|av (au ((a:Int)+1))<|aD<|Ws<|ay<|av (au 0)<|aD<|Wb<|Wo (fun f p=>f 0=bJ g n cap/\f 1=au ((a:Int))/\f 2=au ((b:Int))/\f 7=au ((a:Int)+1)/\f 8=au 0/\Fx.Own p B 29 1 (bJ g n cap) n (rv .u64 (gA d))/\Below B w p) (fun f _=>(5-intOf (f 8)).toNat) ⟨(by rfl),Fx.ic,Fx.ic,Fx.ic,Fx.ic,h,(Below.refl B w)⟩ ?_
 rintro R X ⟨K,M,N,O,C,P,I⟩
 refine Ws<|ay<|aS C<|Lv aG LG<|aD<|aQ<|Wk<|sN<|Ws<|Wb<|Ws<|Wb<|Wo (fun f p => ∃ i:Nat,Sort.SortedIn Sort.ltInt a i d/\(a<i/\i<=b)/\f 0=bJ g n cap/\f 1=au ((a:Int))/\f 2=au ((b:Int))/\f 7=au ((i:Int))/\f 8=au 0/\Fx.Own p B 29 1 (bJ g n cap) n (rv .u64 (gA d))/\Below B w p) (fun f _=>((b:Int)-intOf (f 7)).toNat) ⟨a+1,(GA _ _),(by omega),K,(M.trans Fx.ic),(N.trans Fx.ic),(O.trans Fx.ic),(C.trans Fx.ic),P,I⟩ ?_
 rintro S Y ⟨i,x,hi,t,u,k,j,L,o,s⟩
 refine Ws<|Ws ?_
 -- region 5 draws
 refine lU<|dY j<|dY k ?_
 by_cases A:(i:Int)<(b:Int)
 ·refine Qv aG (fun l c=>jU A)<|bE aG<|dY t<|dY j<|Qv ((pf g i)) (fun l c=>dw 1)<|Qv (aC ((gA d) i)) (fun l c=>aP (o.cb c) i)<|dY t<|dY j<|Qv (au ((i:Int)-1)) (fun l c=>jw)<|Qv ((pf g (i-1))) (fun l c=>dw 1)<|Qv (aC ((gA d) (i-1))) (fun l c=>aP (o.cb c) (i-1)) ?_
  by_cases q:(decide ((gA d) i<(gA d) (i-1)))=true
  ·refine nD (fun _ _=>cK ((gA d) i) ((gA d) (i-1)) _) aG (by rw[q])<|bE aF<|bE aF<|Qn ?_
   intro Z D
   have G:=aR D o
   have y:=gX D s v
   refine sN<|aK<|Wx<|bY<|iB<|bZ<|sN<|Ws<|ay<|aS j<|aS k ?_
   by_cases m:(i:Int)=(b:Int)
   ·refine Lv aG (gH m)<|aD<|aQ<|ay<|av aG<|aD<|Wr<|sR<|bW<|sR<|qP<|bW<|sR<|aN aG ?_
    exact⟨true,rfl,(fun _=>by rw[show b=i by omega]; exact x),G,y⟩
   refine Lv aF (iW m)<|aD<|aK<|Wk<|sN<|Ws<|ay<|aS k<|aS u<|Lv (au ((b:Int)-(a:Int))) jw<|Lv aG LG<|aD<|aQ<|ay<|av aF<|aD<|Wr<|sR<|bW<|sR<|qP<|bW<|sR<|aN aF ?_
   exact⟨false,rfl,(fun h=>nomatch h),G,y⟩
  rw[Bool.not_eq_true]at q
  refine nD (fun _ _=>cK ((gA d) i) ((gA d) (i-1)) _) aF (by rw[q])<|bE aG<|bE aG<|Qn ?_
  intro aa E
  have Q:=aR E o
  have J:=gX E s v
  refine sN<|aQ<|Wk<|sN<|Wb<|Wl<|aS j<|Lv (au ((i:Int)+1)) fZ<|av (au ((i:Int)+1))<|Ln<|cB<|iG ⟨i+1,(Sort.SortedIn.snoc Sort.swo_ltInt x (qw (of_decide_eq_false q))),(by omega),t,(u.trans Fx.ic),(k.trans Fx.ic),Fx.ic,(L.trans Fx.ic),Q,J⟩ ?_
  show((b:Int)-intOf ((au ((i:Int)+1)))).toNat<_
  simp only[j,intOf]; omega
 refine Qv aF (fun l c=>jV A)<|bE aF<|aW<|aW<|aW<|aW<|aW<|aW<|aW<|aW<|aW<|aW<|aW<|bE aF<|Qn ?_
 intro ab F
 have H:=aR F o
 have z:=gX F s v
 refine sN<|aK<|Wx<|bY<|iB<|bZ<|sN<|Ws<|ay<|aS j<|aS k ?_
 by_cases m:(i:Int)=(b:Int)
 ·refine Lv aG (gH m)<|aD<|aQ<|ay<|av aG<|aD<|Wr<|sR<|bW<|sR<|qP<|bW<|sR<|aN aG ?_
  exact⟨true,rfl,(fun _=>by rw[show b=i by omega]; exact x),H,z⟩
 refine Lv aF (iW m)<|aD<|aK<|Wk<|sN<|Ws<|ay<|aS k<|aS u<|Lv (au ((b:Int)-(a:Int))) jw<|Lv aG LG<|aD<|aQ<|ay<|av aF<|aD<|Wr<|sR<|bW<|sR<|qP<|bW<|sR<|aN aF ?_
 exact⟨false,rfl,(fun h=>nomatch h),H,z⟩
theorem abh(a b p:Nat)(B g n cap:Nat)(d:Array Int)(w:World)(h:Fx.Own w B 29 1 (bJ g n cap) n (rv .u64 (gA d)))(o:B<=w.heap.size)(hn:d.size=n)(hs:n<=1000)(ha:a<=p)(hp:p<b)(hb:b<=n) :
 Calls Tryd.prog 79 #[bJ g n cap,au ((a:Int)),au ((b:Int)),au ((p:Int))] w fun e w' => ∃(mid:Nat) (V:Array Int),e = .returned (au (mid:Int))/\Sort.partitionEqual Sort.ltInt d a b p=(mid,V)/\V.size=n/\Fx.Own w' B 29 1 (bJ g n cap) n (rv .u64 (gA V))/\Below B w w':=by
 refine Kent Tryd.func79 84 ?_
 refine ay<|av (au 0)<|aD<|Ws ?_
 -- region 1 draws
 refine jS [0,1,2,3,4,5,6,8,9,10,7,11,12,13,14,15] [0,0,0,0,0,0,0,4,0,0,0,4,0,3,0,3] [(13,7,[7]),(15,7,[7]),(13,11,[11]),(15,11,[11]),(14,13,[13]),(15,13,[13])] fun qY fO iC => ?_
 have P:=aR fO h
 have b1:=gX fO (Below.refl B w) o
 refine aU (bJ g n cap)<|aU (au a)<|aU (bJ g n cap)<|aU (au p)<|aU (bJ g n cap)<|aU (au p)<|Rp ((pf g p)) (fun _=>dw 1)<|aU (bJ g n cap)<|aU (au a)<|Rp ((pf g a)) (fun _=>dw 1)<|Rs (aC ((gA d) p)) (aP P.aJ p) ?_
 refine Rs (aC ((gA d) a)) (aP P.aJ a) ?_
 refine Rp ((pf g a)) (fun _=>dw 1)<|gP<|lY P a (aC ((gA d) p)) fun w1 m2 s2 z1 => ?_
 have b2:=s2.below b1 (Nat.le_trans o b1.size) P.blk.1
 refine Ln<|Rp ((pf g p)) (fun _=>dw 1)<|gP<|lY m2 p (aC ((gA d) a)) fun w2 m3 s3 z2 => ?_
 have b3:=s3.below b2 (Nat.le_trans o b2.size) m2.blk.1
 have m4:Fx.Own w2 B 29 1 (bJ g n cap) n (rv .u64 (gA (Sort.swp d a p))):=m3.congr (fD hn (by omega) (by omega))
 refine Ln<|bF<|ay<|av (au a)<|Lv (au ((a:Int)+1)) fZ<|av (au b)<|Lv (au ((b:Int)-1)) jw<|av (au ((a:Int)+1))<|av (au ((b:Int)-1))<|aD<|Ws<|Wb<|Wo (fun f s => ∃ i:Nat,∃ j:Nat,∃ k:Array Int,k.size=n/\Sort.partEqLoop Sort.ltInt a i j k=Sort.partEqLoop Sort.ltInt a (a+1) (b-1) (Sort.swp d a p)/\(a<i/\j<b/\i<=b)/\f 0=bJ g n cap/\f 1=au ((a:Int))/\f 2=au ((b:Int))/\f 9=au ((i:Int))/\f 10=au ((j:Int))/\Fx.Own s B 29 1 (bJ g n cap) n (rv .u64 (gA k))/\Below B w s) (fun f _=>((b:Int)-intOf (f 9)).toNat) ⟨a+1,b-1,Sort.swp d a p,(dI hn _ _),rfl,(by omega),(by rfl),Fx.ic,Fx.ic,Fx.ic,Fx.ic,m4,b3⟩ ?_
 rintro f1 w3 ⟨i,j,k,E,O,hij,h1,h2,h3,Y,h5,m5,b4⟩
 refine Wb<|Ws<|Wb<|Wo (fun f s => ∃ c:Nat,Sort.partEqLoop Sort.ltInt a c j k=Sort.partEqLoop Sort.ltInt a i j k/\(i<=c/\c<=b)/\f 0=bJ g n cap/\f 1=au ((a:Int))/\f 2=au ((b:Int))/\f 9=au ((c:Int))/\f 10=au ((j:Int))/\Fx.Own s B 29 1 (bJ g n cap) n (rv .u64 (gA k))/\Below B w s) (fun f _=>((j:Int)+1-intOf (f 9)).toNat) ⟨i,rfl,(by omega),h1,(h2.trans Fx.ic),(h3.trans Fx.ic),(Y.trans Fx.ic),(h5.trans Fx.ic),m5,b4⟩ ?_
 rintro f2 w4 ⟨c,I,hi2,H,N,Z,D,M,K,T⟩
 refine Ws<|Ws ?_
 -- region 3 draws
 refine lU<|dY D<|dY M ?_
 by_cases c31:(c:Int)<=(j:Int)
 ·refine Qv aG (fun q m=>qC c31)<|bE aG<|dY H<|dY N<|Qv ((pf g a)) (fun q m=>dw 1)<|Qv (aC ((gA k) a)) (fun q m=>aP (K.cb m) a)<|dY H<|dY D<|Qv ((pf g c)) (fun q m=>dw 1)<|Qv (aC ((gA k) c)) (fun q m=>aP (K.cb m) c) ?_
  by_cases F:(decide ((gA k) a<(gA k) c))=true
  ·refine nD (fun _ _=>cK ((gA k) a) ((gA k) c) _) aG (by rw[F])<|bE aF<|bE aF<|Qn ?_
   intro XM tY
   have m7:=aR tY K
   have b6:=gX tY T o
   refine sN<|aK<|Wx<|bY<|iB<|bZ<|sN<|Ws<|Wb<|Wo (fun f s => ∃ l:Nat,Sort.partEqLoop Sort.ltInt a c l k=Sort.partEqLoop Sort.ltInt a c j k/\((l<c\/gA k a<gA k c))/\l<=j/\f 0=bJ g n cap/\f 1=au ((a:Int))/\f 2=au ((b:Int))/\f 9=au ((c:Int))/\f 10=au ((l:Int))/\Fx.Own s B 29 1 (bJ g n cap) n (rv .u64 (gA k))/\Below B w s) (fun f _=>(intOf (f 10)).toNat) ⟨j,rfl,(.inr (of_decide_eq_true F)),(by omega),H,(N.trans Fx.ic),(Z.trans Fx.ic),(D.trans Fx.ic),(M.trans Fx.ic),m7,b6⟩ ?_
   rintro f3 w5 ⟨l,A,C,hj2,v,W,Km,x,t,L,U⟩
   refine Ws<|Ws ?_
   -- region 5 draws
   refine lU<|dY x<|dY t ?_
   by_cases G:(c:Int)<=(l:Int)
   ·refine Qv aG (fun q m=>qC G)<|bE aG<|dY v<|dY W<|Qv ((pf g a)) (fun q m=>dw 1)<|Qv (aC ((gA k) a)) (fun q m=>aP (L.cb m) a)<|dY v<|dY t<|Qv ((pf g l)) (fun q m=>dw 1)<|Qv (aC ((gA k) l)) (fun q m=>aP (L.cb m) l) ?_
    by_cases r:(decide ((gA k) a<(gA k) l))=true
    ·refine nD (fun _ _=>cK ((gA k) a) ((gA k) l) _) aG (by rw[r])<|bE aG<|Qn ?_
     intro XO tZ
     have m9:=aR tZ L
     have b8:=gX tZ U o
     refine sN<|aQ<|Wk<|sN<|Wb<|Wl<|aS t<|Lv (au ((l:Int)-1)) jw<|av (au ((l:Int)-1))<|Ln<|cB<|iG ⟨l-1,((R5 (by omega) (by omega) (C.resolve_left (by omega)) (of_decide_eq_true r)).trans A),(C.elim (fun h => .inl (by omega)) .inr),(by omega),v,(W.trans Fx.ic),(Km.trans Fx.ic),(x.trans Fx.ic),Fx.ic,m9,b8⟩ ?_
     show(intOf ((au ((l:Int)-1)))).toNat<_
     simp only[t,intOf]; omega
    rw[Bool.not_eq_true]at r
    refine nD (fun _ _=>cK ((gA k) a) ((gA k) l) _) aF (by rw[r])<|bE aF<|Qn ?_
    intro XP uf
    have m10:=aR uf L
    have b9:=gX uf U o
    refine sN<|aK<|Wx<|bY<|iB<|bZ<|sN<|Ws<|ay<|aS x<|aS t<|Lv aF tQ<|aD<|aK<|Wk<|sN<|Ws ?_
    -- region 8 draws
    refine jS [0,1,2,3,4,5,6,8,9,10,7,11,12,13,14,15] [0,0,0,0,0,0,0,4,0,0,0,4,0,3,0,3] [(13,7,[7]),(15,7,[7]),(13,11,[11]),(15,11,[11]),(14,13,[13]),(15,13,[13])] fun D9 jX oC => ?_
    have Q:=aR jX m10
    have b10:=gX jX b9 o
    refine bM v<|bM x<|bM v<|bM t<|bM v<|bM t<|Rp ((pf g l)) (fun _=>dw 1)<|bM v<|bM x<|Rp ((pf g c)) (fun _=>dw 1)<|Rs (aC ((gA k) l)) (aP Q.aJ l) ?_
    refine Rs (aC ((gA k) c)) (aP Q.aJ c) ?_
    refine Rp ((pf g c)) (fun _=>dw 1)<|gP<|lY Q c (aC ((gA k) l)) fun w6 m12 s8 z3 => ?_
    have b11:=s8.below b10 (Nat.le_trans o b10.size) Q.blk.1
    refine Ln<|Rp ((pf g l)) (fun _=>dw 1)<|gP<|lY m12 l (aC ((gA k) c)) fun w7 m13 s9 z4 => ?_
    have b12:=s9.below b11 (Nat.le_trans o b11.size) m12.blk.1
    have m14:Fx.Own w7 B 29 1 (bJ g n cap) n (rv .u64 (gA (Sort.swp k c l))):=m13.congr (fD E (by omega) (by omega))
    refine Ln<|bF<|ay<|aS x<|Lv (au ((c:Int)+1)) fZ<|av (au ((c:Int)+1))<|aD<|Wl<|aS t<|Lv (au ((l:Int)-1)) jw<|av (au ((l:Int)-1))<|Ln<|cB<|iG ⟨c+1,l-1,Sort.swp k c l,(dI E _ _),((R6 (by omega) (C.resolve_left (by omega)) (of_decide_eq_false r)).trans (A.trans (I.trans O))),(by omega),v,(W.trans Fx.ic),(Km.trans Fx.ic),Fx.ic,Fx.ic,m14,b12⟩ ?_
    show((b:Int)-intOf ((au ((c:Int)+1)))).toNat<_
    simp only[Y,intOf]; omega
   refine Qv aF (fun q m=>qU G)<|bE aF<|aW<|aW<|aW<|aW<|aW<|aW<|aW<|aW<|aW<|bE aF<|Qn ?_
   intro wb4 zO
   have m15:=aR zO L
   have b13:=gX zO U o
   refine sN<|aK<|Wx<|bY<|iB<|bZ<|sN<|Ws<|ay<|aS x<|aS t<|Lv aG xM<|aD<|aQ<|Wx<|bY<|Fx.Gm rfl<|iB<|bZ<|sN<|ay<|aS x<|av (au c)<|aD<|Wr<|aN (au c) ?_
   exact⟨c,k,rfl,O.symm.trans (I.symm.trans (A.symm.trans (Mh (by omega)))),E,m15,b13⟩
  rw[Bool.not_eq_true]at F
  refine nD (fun _ _=>cK ((gA k) a) ((gA k) c) _) aF (by rw[F])<|bE aG<|bE aG<|Qn ?_
  intro wb5 zP
  have m16:=aR zP K
  have b14:=gX zP T o
  refine sN<|aQ<|Wk<|sN<|Wb<|Wl<|aS D<|Lv (au ((c:Int)+1)) fZ<|av (au ((c:Int)+1))<|Ln<|cB<|iG ⟨c+1,((XJ (by omega) (of_decide_eq_false F)).trans I),(by omega),H,(N.trans Fx.ic),(Z.trans Fx.ic),Fx.ic,(M.trans Fx.ic),m16,b14⟩ ?_
  show((j:Int)+1-intOf ((au ((c:Int)+1)))).toNat<_
  simp only[D,intOf]; omega
 refine Qv aF (fun q m=>qU c31)<|bE aF<|aW<|aW<|aW<|aW<|aW<|aW<|aW<|aW<|aW<|aW<|bE aF<|Qn ?_
 intro wb6 EI
 have m17:=aR EI K
 have b15:=gX EI T o
 refine sN<|aK<|Wx<|bY<|iB<|bZ<|sN<|Ws<|Wb<|Wo (fun f s => ∃ l:Nat,Sort.partEqLoop Sort.ltInt a c l k=Sort.partEqLoop Sort.ltInt a c j k/\((l<c\/gA k a<gA k c))/\l<=j/\f 0=bJ g n cap/\f 1=au ((a:Int))/\f 2=au ((b:Int))/\f 9=au ((c:Int))/\f 10=au ((l:Int))/\Fx.Own s B 29 1 (bJ g n cap) n (rv .u64 (gA k))/\Below B w s) (fun f _=>(intOf (f 10)).toNat) ⟨j,rfl,(.inl (by omega)),(by omega),H,(N.trans Fx.ic),(Z.trans Fx.ic),(D.trans Fx.ic),(M.trans Fx.ic),m17,b15⟩ ?_
 rintro f4 w8 ⟨l,A,C,hj2,y,X,h18,z,u,J,S⟩
 refine Ws<|Ws ?_
 -- region 5 draws
 refine lU<|dY z<|dY u ?_
 by_cases G:(c:Int)<=(l:Int)
 ·refine Qv aG (fun q m=>qC G)<|bE aG<|dY y<|dY X<|Qv ((pf g a)) (fun q m=>dw 1)<|Qv (aC ((gA k) a)) (fun q m=>aP (J.cb m) a)<|dY y<|dY u<|Qv ((pf g l)) (fun q m=>dw 1)<|Qv (aC ((gA k) l)) (fun q m=>aP (J.cb m) l) ?_
  by_cases r:(decide ((gA k) a<(gA k) l))=true
  ·refine nD (fun _ _=>cK ((gA k) a) ((gA k) l) _) aG (by rw[r])<|bE aG<|Qn ?_
   intro wb7 EJ
   have m19:=aR EJ J
   have b17:=gX EJ S o
   refine sN<|aQ<|Wk<|sN<|Wb<|Wl<|aS u<|Lv (au ((l:Int)-1)) jw<|av (au ((l:Int)-1))<|Ln<|cB<|iG ⟨l-1,((R5 (by omega) (by omega) (C.resolve_left (by omega)) (of_decide_eq_true r)).trans A),(C.elim (fun h => .inl (by omega)) .inr),(by omega),y,(X.trans Fx.ic),(h18.trans Fx.ic),(z.trans Fx.ic),Fx.ic,m19,b17⟩ ?_
   show(intOf ((au ((l:Int)-1)))).toNat<_
   simp only[u,intOf]; omega
  rw[Bool.not_eq_true]at r
  refine nD (fun _ _=>cK ((gA k) a) ((gA k) l) _) aF (by rw[r])<|bE aF<|Qn ?_
  intro wb8 EK
  have m20:=aR EK J
  have b18:=gX EK S o
  refine sN<|aK<|Wx<|bY<|iB<|bZ<|sN<|Ws<|ay<|aS z<|aS u<|Lv aF tQ<|aD<|aK<|Wk<|sN<|Ws ?_
  -- region 8 draws
  refine jS [0,1,2,3,4,5,6,8,9,10,7,11,12,13,14,15] [0,0,0,0,0,0,0,4,0,0,0,4,0,3,0,3] [(13,7,[7]),(15,7,[7]),(13,11,[11]),(15,11,[11]),(14,13,[13]),(15,13,[13])] fun XQ zQ I5 => ?_
  have R:=aR zQ m20
  have b19:=gX zQ b18 o
  refine bM y<|bM z<|bM y<|bM u<|bM y<|bM u<|Rp ((pf g l)) (fun _=>dw 1)<|bM y<|bM z<|Rp ((pf g c)) (fun _=>dw 1)<|Rs (aC ((gA k) l)) (aP R.aJ l) ?_
  refine Rs (aC ((gA k) c)) (aP R.aJ c) ?_
  refine Rp ((pf g c)) (fun _=>dw 1)<|gP<|lY R c (aC ((gA k) l)) fun w9 m22 s16 z5 => ?_
  have b20:=s16.below b19 (Nat.le_trans o b19.size) R.blk.1
  refine Ln<|Rp ((pf g l)) (fun _=>dw 1)<|gP<|lY m22 l (aC ((gA k) c)) fun zR m23 Ue z6 => ?_
  have PS:=Ue.below b20 (Nat.le_trans o b20.size) m22.blk.1
  have m24:Fx.Own zR B 29 1 (bJ g n cap) n (rv .u64 (gA (Sort.swp k c l))):=m23.congr (fD E (by omega) (by omega))
  refine Ln<|bF<|ay<|aS z<|Lv (au ((c:Int)+1)) fZ<|av (au ((c:Int)+1))<|aD<|Wl<|aS u<|Lv (au ((l:Int)-1)) jw<|av (au ((l:Int)-1))<|Ln<|cB<|iG ⟨c+1,l-1,Sort.swp k c l,(dI E _ _),((R6 (by omega) (C.resolve_left (by omega)) (of_decide_eq_false r)).trans (A.trans (I.trans O))),(by omega),y,(X.trans Fx.ic),(h18.trans Fx.ic),Fx.ic,Fx.ic,m24,PS⟩ ?_
  show((b:Int)-intOf ((au ((c:Int)+1)))).toNat<_
  simp only[Y,intOf]; omega
 refine Qv aF (fun q m=>qU G)<|bE aF<|aW<|aW<|aW<|aW<|aW<|aW<|aW<|aW<|aW<|bE aF<|Qn ?_
 intro wb9 EL
 have qK:=aR EL J
 have WX:=gX EL S o
 refine sN<|aK<|Wx<|bY<|iB<|bZ<|sN<|Ws<|ay<|aS z<|aS u<|Lv aG xM<|aD<|aQ<|Wx<|bY<|Fx.Gm rfl<|iB<|bZ<|sN<|ay<|aS z<|av (au c)<|aD<|Wr<|aN (au c) ?_
 exact⟨c,k,rfl,O.symm.trans (I.symm.trans (A.symm.trans (Mh (by omega)))),E,qK,WX⟩
theorem XZ(a b p:Nat)(B g n cap:Nat)(d:Array Int)(w:World)(h:Fx.Own w B 29 1 (bJ g n cap) n (rv .u64 (gA d)))(q:B<=w.heap.size)(Q:d.size=n)(hs:n<=1000)(ha:a<=p)(hp:p<b)(hb:b<=n) :
 Calls Tryd.prog 80 #[bJ g n cap,au ((a:Int)),au ((b:Int)),au ((p:Int))] w fun e w' => ∃(mid:Nat) (ap:Bool) (d4:Array Int),e = .returned (.tuple #[au (mid:Int),.bool ap])/\(Sort.partition Sort.ltInt d a b p).1=mid/\(Sort.partition Sort.ltInt d a b p).2.2=d4/\d4.size=n/\Fx.Own w' B 29 1 (bJ g n cap) n (rv .u64 (gA d4))/\Below B w w':=by
 refine Kent Tryd.func80 168 ?_
 refine ay<|av (au 0)<|av aF<|aD<|Ws ?_
 -- region 1 draws
 refine jS [0,1,2,3,4,5,6,8,9,10,7,11,12,13,14,15] [0,0,0,0,0,0,0,4,0,0,0,4,0,3,0,3] [(13,7,[7]),(15,7,[7]),(13,11,[11]),(15,11,[11]),(14,13,[13]),(15,13,[13])] fun qY fO iC => ?_
 have m1:=aR fO h
 have b1:=gX fO (Below.refl B w) q
 refine aU (bJ g n cap)<|aU (au a)<|aU (bJ g n cap)<|aU (au p)<|aU (bJ g n cap)<|aU (au p)<|Rp ((pf g p)) (fun _=>dw 1)<|aU (bJ g n cap)<|aU (au a)<|Rp ((pf g a)) (fun _=>dw 1)<|Rs (aC ((gA d) p)) (aP m1.aJ p) ?_
 refine Rs (aC ((gA d) a)) (aP m1.aJ a) ?_
 refine Rp ((pf g a)) (fun _=>dw 1)<|gP<|lY m1 a (aC ((gA d) p)) fun w1 m2 s2 z1 => ?_
 have b2:=s2.below b1 (Nat.le_trans q b1.size) m1.blk.1
 refine Ln<|Rp ((pf g p)) (fun _=>dw 1)<|gP<|lY m2 p (aC ((gA d) a)) fun w2 m3 s3 z2 => ?_
 have b3:=s3.below b2 (Nat.le_trans q b2.size) m2.blk.1
 have m4:Fx.Own w2 B 29 1 (bJ g n cap) n (rv .u64 (gA (Sort.swp d a p))):=m3.congr (fD Q (by omega) (by omega))
 refine Ln<|bF<|ay<|av (au a)<|Lv (au ((a:Int)+1)) fZ<|av (au b)<|Lv (au ((b:Int)-1)) jw<|av (au ((a:Int)+1))<|av (au ((b:Int)-1))<|aD<|Ws<|Wb<|Wo (fun f t => ∃ s:Nat,Sort.partLoop Sort.ltInt a s (b-1) (Sort.swp d a p)=Sort.partLoop Sort.ltInt a (a+1) (b-1) (Sort.swp d a p)/\(a+1<=s/\s<=b)/\f 0=bJ g n cap/\f 1=au ((a:Int))/\f 2=au ((b:Int))/\f 10=au ((s:Int))/\f 11=au ((b:Int)-1)/\Fx.Own t B 29 1 (bJ g n cap) n (rv .u64 (gA (Sort.swp d a p)))/\Below B w t) (fun f _=>((b:Int)-intOf (f 10)).toNat) ⟨a+1,rfl,(by omega),(by rfl),Fx.ic,Fx.ic,Fx.ic,Fx.ic,m4,b3⟩ ?_
 rintro f1 w3 ⟨s,hY0,ahd,h1,h2,h3,h4,h5,m5,b4⟩
 refine Ws<|Ws ?_
 -- region 3 draws
 refine lU<|dY h4<|dY h5 ?_
 by_cases c32:(s:Int)<=((b:Int)-1)
 ·refine Qv aG (fun r o=>qC c32)<|bE aG<|dY h1<|dY h4<|Qv ((pf g s)) (fun r o=>dw 1)<|Qv (aC ((gA (Sort.swp d a p)) s)) (fun r o=>aP (m5.cb o) s)<|dY h1<|dY h2<|Qv ((pf g a)) (fun r o=>dw 1)<|Qv (aC ((gA (Sort.swp d a p)) a)) (fun r o=>aP (m5.cb o) a) ?_
  by_cases R7:(decide ((gA (Sort.swp d a p)) s<(gA (Sort.swp d a p)) a))=true
  ·refine nD (fun _ _=>cK ((gA (Sort.swp d a p)) s) ((gA (Sort.swp d a p)) a) _) aG (by rw[R7])<|bE aG<|Qn ?_
   intro XM tY
   have m6:=aR tY m5
   have b5:=gX tY b4 q
   refine sN<|aQ<|Wk<|sN<|Wb<|Wl<|aS h4<|Lv (au ((s:Int)+1)) fZ<|av (au ((s:Int)+1))<|Ln<|cB<|iG ⟨s+1,((Mg (by omega) (of_decide_eq_true R7)).trans hY0),(by omega),h1,(h2.trans Fx.ic),(h3.trans Fx.ic),Fx.ic,(h5.trans Fx.ic),m6,b5⟩ ?_
   show((b:Int)-intOf ((au ((s:Int)+1)))).toNat<_
   simp only[h4,intOf]; omega
  rw[Bool.not_eq_true]at R7
  refine nD (fun _ _=>cK ((gA (Sort.swp d a p)) s) ((gA (Sort.swp d a p)) a) _) aF (by rw[R7])<|bE aF<|Qn ?_
  intro XO tZ
  have m7:=aR tZ m5
  have b6:=gX tZ b4 q
  refine sN<|aK<|Wx<|bY<|iB<|bZ<|sN<|Ws<|Wb<|Wo (fun f t => ∃ m:Nat,Sort.partLoop Sort.ltInt a s m (Sort.swp d a p)=Sort.partLoop Sort.ltInt a (a+1) (b-1) (Sort.swp d a p)/\((m<s \/ ¬ gA (Sort.swp d a p) s<gA (Sort.swp d a p) a))/\(m<b/\m<=b)/\f 0=bJ g n cap/\f 1=au ((a:Int))/\f 2=au ((b:Int))/\f 10=au ((s:Int))/\f 11=au ((m:Int))/\Fx.Own t B 29 1 (bJ g n cap) n (rv .u64 (gA (Sort.swp d a p)))/\Below B w t) (fun f _=>(intOf (f 11)).toNat) ⟨b-1,hY0,(.inr (of_decide_eq_false R7)),(by omega),h1,(h2.trans Fx.ic),(h3.trans Fx.ic),(h4.trans Fx.ic),(h5.trans Fx.ic),m7,b6⟩ ?_
  rintro f2 w4 ⟨m,Y,Z,abj,M,h7,h8,W,A,m8,b7⟩
  refine Ws<|Ws ?_
  -- region 5 draws
  refine lU<|dY W<|dY A ?_
  by_cases R8:(s:Int)<=(m:Int)
  ·refine Qv aG (fun r o=>qC R8)<|bE aG<|dY M<|dY A<|Qv ((pf g m)) (fun r o=>dw 1)<|Qv (aC ((gA (Sort.swp d a p)) m)) (fun r o=>aP (m8.cb o) m)<|dY M<|dY h7<|Qv ((pf g a)) (fun r o=>dw 1)<|Qv (aC ((gA (Sort.swp d a p)) a)) (fun r o=>aP (m8.cb o) a) ?_
   by_cases P:(decide ((gA (Sort.swp d a p)) m<(gA (Sort.swp d a p)) a))=true
   ·refine nD (fun _ _=>cK ((gA (Sort.swp d a p)) m) ((gA (Sort.swp d a p)) a) _) aG (by rw[P])<|bE aF<|bE aF<|Qn ?_
    intro XP uf
    have m9:=aR uf m8
    have b8:=gX uf b7 q
    refine sN<|aK<|Wx<|bY<|iB<|bZ<|sN<|Ws<|ay<|aS W<|aS A<|Lv aF tQ<|aD<|aK<|Wk<|sN<|Ws ?_
    -- region 10 draws
    refine jS [0,1,2,3,4,5,6,8,9,10,7,11,12,13,14,15] [0,0,0,0,0,0,0,4,0,0,0,4,0,3,0,3] [(13,7,[7]),(15,7,[7]),(13,11,[11]),(15,11,[11]),(14,13,[13]),(15,13,[13])] fun D9 jX oC => ?_
    have m10:=aR jX m9
    have b9:=gX jX b8 q
    refine bM M<|bM W<|bM M<|bM A<|bM M<|bM A<|Rp ((pf g m)) (fun _=>dw 1)<|bM M<|bM W<|Rp ((pf g s)) (fun _=>dw 1)<|Rs (aC ((gA (Sort.swp d a p)) m)) (aP m10.aJ m) ?_
    refine Rs (aC ((gA (Sort.swp d a p)) s)) (aP m10.aJ s) ?_
    refine Rp ((pf g s)) (fun _=>dw 1)<|gP<|lY m10 s (aC ((gA (Sort.swp d a p)) m)) fun w5 m11 s8 z3 => ?_
    have b10:=s8.below b9 (Nat.le_trans q b9.size) m10.blk.1
    refine Ln<|Rp ((pf g m)) (fun _=>dw 1)<|gP<|lY m11 m (aC ((gA (Sort.swp d a p)) s)) fun w6 m12 s9 z4 => ?_
    have b11:=s9.below b10 (Nat.le_trans q b10.size) m11.blk.1
    have m13:Fx.Own w6 B 29 1 (bJ g n cap) n (rv .u64 (gA (Sort.swp (Sort.swp d a p) s m))):=m12.congr (fD (dI Q _ _) (by omega) (by omega))
    refine Ln<|bF<|ay<|aS W<|Lv (au ((s:Int)+1)) fZ<|av (au ((s:Int)+1))<|aD<|ay<|aS A<|Lv (au ((m:Int)-1)) jw<|av (au ((m:Int)-1))<|aD<|Ws<|Wb<|Wo (fun f t => ∃ i:Nat,∃ j:Nat,∃ k:Array Int,k.size=n/\Sort.partLoop Sort.ltInt a i j k=Sort.partLoop Sort.ltInt a (a+1) (b-1) (Sort.swp d a p)/\(a<i/\j<b/\i<=b)/\f 0=bJ g n cap/\f 1=au ((a:Int))/\f 2=au ((b:Int))/\f 10=au ((i:Int))/\f 11=au ((j:Int))/\Fx.Own t B 29 1 (bJ g n cap) n (rv .u64 (gA k))/\Below B w t) (fun f _=>((b:Int)-intOf (f 10)).toNat) ⟨s+1,m-1,Sort.swp (Sort.swp d a p) s m,(dI (dI Q _ _) _ _),((BR (by omega) (Z.resolve_left (by omega)) (of_decide_eq_true P)).trans Y),(by omega),M,(h7.trans Fx.ic),(h8.trans Fx.ic),Fx.ic,Fx.ic,m13,b11⟩ ?_
    rintro f3 w7 ⟨i,j,k,x,hX,hij,h11,h12,Km,GH,I9,m14,b12⟩
    refine Wb<|Ws<|Wb<|Wo (fun f t => ∃ l:Nat,Sort.partLoop Sort.ltInt a l j k=Sort.partLoop Sort.ltInt a (a+1) (b-1) (Sort.swp d a p)/\(i<=l/\l<=b)/\f 0=bJ g n cap/\f 1=au ((a:Int))/\f 2=au ((b:Int))/\f 10=au ((l:Int))/\f 11=au ((j:Int))/\Fx.Own t B 29 1 (bJ g n cap) n (rv .u64 (gA k))/\Below B w t) (fun f _=>((b:Int)-intOf (f 10)).toNat) ⟨i,hX,(by omega),h11,(h12.trans Fx.ic),(Km.trans Fx.ic),(GH.trans Fx.ic),(I9.trans Fx.ic),m14,b12⟩ ?_
    rintro f4 w8 ⟨l,X,abk,h16,GI,h18,aa,h20,m15,b13⟩
    refine Ws<|Ws ?_
    -- region 13 draws
    refine lU<|dY aa<|dY h20 ?_
    by_cases Ml:(l:Int)<=(j:Int)
    ·refine Qv aG (fun r o=>qC Ml)<|bE aG<|dY h16<|dY aa<|Qv ((pf g l)) (fun r o=>dw 1)<|Qv (aC ((gA k) l)) (fun r o=>aP (m15.cb o) l)<|dY h16<|dY GI<|Qv ((pf g a)) (fun r o=>dw 1)<|Qv (aC ((gA k) a)) (fun r o=>aP (m15.cb o) a) ?_
     by_cases N:(decide ((gA k) l<(gA k) a))=true
     ·refine nD (fun _ _=>cK ((gA k) l) ((gA k) a) _) aG (by rw[N])<|bE aG<|Qn ?_
      intro wb4 zO
      have m16:=aR zO m15
      have b14:=gX zO b13 q
      refine sN<|aQ<|Wk<|sN<|Wb<|Wl<|aS aa<|Lv (au ((l:Int)+1)) fZ<|av (au ((l:Int)+1))<|Ln<|cB<|iG ⟨l+1,((Mg (by omega) (of_decide_eq_true N)).trans X),(by omega),h16,(GI.trans Fx.ic),(h18.trans Fx.ic),Fx.ic,(h20.trans Fx.ic),m16,b14⟩ ?_
      show((b:Int)-intOf ((au ((l:Int)+1)))).toNat<_
      simp only[aa,intOf]; omega
     rw[Bool.not_eq_true]at N
     refine nD (fun _ _=>cK ((gA k) l) ((gA k) a) _) aF (by rw[N])<|bE aF<|Qn ?_
     intro wb5 zP
     have m17:=aR zP m15
     have b15:=gX zP b13 q
     refine sN<|aK<|Wx<|bY<|iB<|bZ<|sN<|Ws<|Wb<|Wo (fun f t => ∃ c:Nat,Sort.partLoop Sort.ltInt a l c k=Sort.partLoop Sort.ltInt a (a+1) (b-1) (Sort.swp d a p)/\((c<l \/ ¬ gA k l<gA k a))/\(c<b/\c<=j)/\f 0=bJ g n cap/\f 1=au ((a:Int))/\f 2=au ((b:Int))/\f 10=au ((l:Int))/\f 11=au ((c:Int))/\Fx.Own t B 29 1 (bJ g n cap) n (rv .u64 (gA k))/\Below B w t) (fun f _=>(intOf (f 11)).toNat) ⟨j,X,(.inr (of_decide_eq_false N)),(by omega),h16,(GI.trans Fx.ic),(h18.trans Fx.ic),(aa.trans Fx.ic),(h20.trans Fx.ic),m17,b15⟩ ?_
     rintro f5 w9 ⟨c,y,z,Um,C,h22,h23,R,D,m18,b16⟩
     refine Ws<|Ws ?_
     -- region 15 draws
     refine lU<|dY R<|dY D ?_
     by_cases O:(l:Int)<=(c:Int)
     ·refine Qv aG (fun r o=>qC O)<|bE aG<|dY C<|dY D<|Qv ((pf g c)) (fun r o=>dw 1)<|Qv (aC ((gA k) c)) (fun r o=>aP (m18.cb o) c)<|dY C<|dY h22<|Qv ((pf g a)) (fun r o=>dw 1)<|Qv (aC ((gA k) a)) (fun r o=>aP (m18.cb o) a) ?_
      by_cases u:(decide ((gA k) c<(gA k) a))=true
      ·refine nD (fun _ _=>cK ((gA k) c) ((gA k) a) _) aG (by rw[u])<|bE aF<|bE aF<|Qn ?_
       intro wb6 EI
       have m19:=aR EI m18
       have b17:=gX EI b16 q
       refine sN<|aK<|Wx<|bY<|iB<|bZ<|sN<|Ws<|ay<|aS R<|aS D<|Lv aF tQ<|aD<|aK<|Wk<|sN<|Ws ?_
       -- region 18 draws
       refine jS [0,1,2,3,4,5,6,8,9,10,7,11,12,13,14,15] [0,0,0,0,0,0,0,4,0,0,0,4,0,3,0,3] [(13,7,[7]),(15,7,[7]),(13,11,[11]),(15,11,[11]),(14,13,[13]),(15,13,[13])] fun XQ zQ I5 => ?_
       have m20:=aR zQ m19
       have b18:=gX zQ b17 q
       refine bM C<|bM R<|bM C<|bM D<|bM C<|bM D<|Rp ((pf g c)) (fun _=>dw 1)<|bM C<|bM R<|Rp ((pf g l)) (fun _=>dw 1)<|Rs (aC ((gA k) c)) (aP m20.aJ c) ?_
       refine Rs (aC ((gA k) l)) (aP m20.aJ l) ?_
       refine Rp ((pf g l)) (fun _=>dw 1)<|gP<|lY m20 l (aC ((gA k) c)) fun zR m21 PU z5 => ?_
       have b19:=PU.below b18 (Nat.le_trans q b18.size) m20.blk.1
       refine Ln<|Rp ((pf g c)) (fun _=>dw 1)<|gP<|lY m21 c (aC ((gA k) l)) fun Kn m22 s15 z6 => ?_
       have b20:=s15.below b19 (Nat.le_trans q b19.size) m21.blk.1
       have m23:Fx.Own Kn B 29 1 (bJ g n cap) n (rv .u64 (gA (Sort.swp k l c))):=m22.congr (fD x (by omega) (by omega))
       refine Ln<|bF<|ay<|aS R<|Lv (au ((l:Int)+1)) fZ<|av (au ((l:Int)+1))<|aD<|Wl<|aS D<|Lv (au ((c:Int)-1)) jw<|av (au ((c:Int)-1))<|Ln<|cB<|iG ⟨l+1,c-1,Sort.swp k l c,(dI x _ _),((BR (by omega) (z.resolve_left (by omega)) (of_decide_eq_true u)).trans y),(by omega),C,(h22.trans Fx.ic),(h23.trans Fx.ic),Fx.ic,Fx.ic,m23,b20⟩ ?_
       show((b:Int)-intOf ((au ((l:Int)+1)))).toNat<_
       simp only[GH,intOf]; omega
      rw[Bool.not_eq_true]at u
      refine nD (fun _ _=>cK ((gA k) c) ((gA k) a) _) aF (by rw[u])<|bE aG<|bE aG<|Qn ?_
      intro wb7 EJ
      have m24:=aR EJ m18
      have PS:=gX EJ b16 q
      refine sN<|aQ<|Wk<|sN<|Wb<|Wl<|aS D<|Lv (au ((c:Int)-1)) jw<|av (au ((c:Int)-1))<|Ln<|cB<|iG ⟨c-1,((BQ (by omega) (by omega) (z.resolve_left (by omega)) (of_decide_eq_false u)).trans y),(z.elim (fun h => .inl (by omega)) .inr),(by omega),C,(h22.trans Fx.ic),(h23.trans Fx.ic),(R.trans Fx.ic),Fx.ic,m24,PS⟩ ?_
      show(intOf ((au ((c:Int)-1)))).toNat<_
      simp only[D,intOf]; omega
     refine Qv aF (fun r o=>qU O)<|bE aF<|aW<|aW<|aW<|aW<|aW<|aW<|aW<|aW<|aW<|aW<|bE aF<|Qn ?_
     intro wb8 EK
     have qK:=aR EK m18
     have WX:=gX EK b16 q
     refine sN<|aK<|Wx<|bY<|iB<|bZ<|sN<|Ws<|ay<|aS R<|aS D<|Lv aG xM<|aD<|aQ<|Wx<|bY<|Fx.Gm rfl<|iB<|bZ<|sN<|Ws ?_
     -- region 21 draws
     refine jS [0,1,2,3,4,5,6,8,9,10,7,11,12,13,14,15] [0,0,0,0,0,0,0,4,0,0,0,4,0,3,0,3] [(13,7,[7]),(15,7,[7]),(13,11,[11]),(15,11,[11]),(14,13,[13]),(15,13,[13])] fun wt4 Ja R9 => ?_
     have qL:=aR Ja qK
     have WY:=gX Ja WX q
     refine bM C<|bM D<|bM C<|bM h22<|bM C<|bM h22<|Rp ((pf g a)) (fun _=>dw 1)<|bM C<|bM D<|Rp ((pf g c)) (fun _=>dw 1)<|Rs (aC ((gA k) a)) (aP qL.aJ a) ?_
     refine Rs (aC ((gA k) c)) (aP qL.aJ c) ?_
     refine Rp ((pf g c)) (fun _=>dw 1)<|gP<|lY qL c (aC ((gA k) a)) fun La qx X3 z7 => ?_
     have ZP:=X3.below WY (Nat.le_trans q WY.size) qL.blk.1
     refine Ln<|Rp ((pf g a)) (fun _=>dw 1)<|gP<|lY qx a (aC ((gA k) c)) fun Sc uU s20 z8 => ?_
     have Un:=s20.below ZP (Nat.le_trans q ZP.size) qx.blk.1
     have qZ:Fx.Own Sc B 29 1 (bJ g n cap) n (rv .u64 (gA (Sort.swp k c a))):=uU.congr (fD x (by omega) (by omega))
     refine Ln<|bF<|ay<|aS D<|av (au c)<|av aF<|aD<|Wr<|aN (.tuple #[au ((c:Int)),.bool false]) ?_
     have v:=y.symm.trans (wP (by omega))
     exact⟨c,false,_,rfl,by rw[Sort.partition_fst,v],by rw[Sort.partition_arr,v],(dI x _ _),qZ,Un⟩
    refine Qv aF (fun r o=>qU Ml)<|bE aF<|aW<|aW<|aW<|aW<|aW<|aW<|aW<|aW<|aW<|bE aF<|Qn ?_
    intro wb9 EL
    have tH:=aR EL m15
    have ZQ:=gX EL b13 q
    refine sN<|aK<|Wx<|bY<|iB<|bZ<|sN<|Ws<|Wb<|Wo (fun f t => ∃ c:Nat,Sort.partLoop Sort.ltInt a l c k=Sort.partLoop Sort.ltInt a (a+1) (b-1) (Sort.swp d a p)/\((c<l \/ ¬ gA k l<gA k a))/\(c<b/\c<=j)/\f 0=bJ g n cap/\f 1=au ((a:Int))/\f 2=au ((b:Int))/\f 10=au ((l:Int))/\f 11=au ((c:Int))/\Fx.Own t B 29 1 (bJ g n cap) n (rv .u64 (gA k))/\Below B w t) (fun f _=>(intOf (f 11)).toNat) ⟨j,X,(.inl (by omega)),(by omega),h16,(GI.trans Fx.ic),(h18.trans Fx.ic),(aa.trans Fx.ic),(h20.trans Fx.ic),tH,ZQ⟩ ?_
    rintro f6 Uo ⟨c,y,z,Um,E,h27,ZR,S,F,lJ,WZ⟩
    refine Ws<|Ws ?_
    -- region 15 draws
    refine lU<|dY S<|dY F ?_
    by_cases O:(l:Int)<=(c:Int)
    ·refine Qv aG (fun r o=>qC O)<|bE aG<|dY E<|dY F<|Qv ((pf g c)) (fun r o=>dw 1)<|Qv (aC ((gA k) c)) (fun r o=>aP (lJ.cb o) c)<|dY E<|dY h27<|Qv ((pf g a)) (fun r o=>dw 1)<|Qv (aC ((gA k) a)) (fun r o=>aP (lJ.cb o) a) ?_
     by_cases u:(decide ((gA k) c<(gA k) a))=true
     ·refine nD (fun _ _=>cK ((gA k) c) ((gA k) a) _) aG (by rw[u])<|bE aF<|bE aF<|Qn ?_
      intro ahe Mq
      have m32:=aR Mq lJ
      have ZT:=gX Mq WZ q
      refine sN<|aK<|Wx<|bY<|iB<|bZ<|sN<|Ws<|ay<|aS S<|aS F<|Lv aF tQ<|aD<|aK<|Wk<|sN<|Ws ?_
      -- region 18 draws
      refine jS [0,1,2,3,4,5,6,8,9,10,7,11,12,13,14,15] [0,0,0,0,0,0,0,4,0,0,0,4,0,3,0,3] [(13,7,[7]),(15,7,[7]),(13,11,[11]),(15,11,[11]),(14,13,[13]),(15,13,[13])] fun wt5 Jb X4 => ?_
      have oD:=aR Jb m32
      have X5:=gX Jb ZT q
      refine bM E<|bM S<|bM E<|bM F<|bM E<|bM F<|Rp ((pf g c)) (fun _=>dw 1)<|bM E<|bM S<|Rp ((pf g l)) (fun _=>dw 1)<|Rs (aC ((gA k) c)) (aP oD.aJ c) ?_
      refine Rs (aC ((gA k) l)) (aP oD.aJ l) ?_
      refine Rp ((pf g l)) (fun _=>dw 1)<|gP<|lY oD l (aC ((gA k) c)) fun W9 nI s24 z9 => ?_
      have ZU:=s24.below X5 (Nat.le_trans q X5.size) oD.blk.1
      refine Ln<|Rp ((pf g c)) (fun _=>dw 1)<|gP<|lY nI c (aC ((gA k) l)) fun w16 qM s25 ZV => ?_
      have ZW:=s25.below ZU (Nat.le_trans q ZU.size) nI.blk.1
      have pV:Fx.Own w16 B 29 1 (bJ g n cap) n (rv .u64 (gA (Sort.swp k l c))):=qM.congr (fD x (by omega) (by omega))
      refine Ln<|bF<|ay<|aS S<|Lv (au ((l:Int)+1)) fZ<|av (au ((l:Int)+1))<|aD<|Wl<|aS F<|Lv (au ((c:Int)-1)) jw<|av (au ((c:Int)-1))<|Ln<|cB<|iG ⟨l+1,c-1,Sort.swp k l c,(dI x _ _),((BR (by omega) (z.resolve_left (by omega)) (of_decide_eq_true u)).trans y),(by omega),E,(h27.trans Fx.ic),(ZR.trans Fx.ic),Fx.ic,Fx.ic,pV,ZW⟩ ?_
      show((b:Int)-intOf ((au ((l:Int)+1)))).toNat<_
      simp only[GH,intOf]; omega
     rw[Bool.not_eq_true]at u
     refine nD (fun _ _=>cK ((gA k) c) ((gA k) a) _) aF (by rw[u])<|bE aG<|bE aG<|Qn ?_
     intro ahh Mr
     have uD:=aR Mr lJ
     have b32:=gX Mr WZ q
     refine sN<|aQ<|Wk<|sN<|Wb<|Wl<|aS F<|Lv (au ((c:Int)-1)) jw<|av (au ((c:Int)-1))<|Ln<|cB<|iG ⟨c-1,((BQ (by omega) (by omega) (z.resolve_left (by omega)) (of_decide_eq_false u)).trans y),(z.elim (fun h => .inl (by omega)) .inr),(by omega),E,(h27.trans Fx.ic),(ZR.trans Fx.ic),(S.trans Fx.ic),Fx.ic,uD,b32⟩ ?_
     show(intOf ((au ((c:Int)-1)))).toNat<_
     simp only[F,intOf]; omega
    refine Qv aF (fun r o=>qU O)<|bE aF<|aW<|aW<|aW<|aW<|aW<|aW<|aW<|aW<|aW<|aW<|bE aF<|Qn ?_
    intro ahi Ms
    have qF:=aR Ms lJ
    have X6:=gX Ms WZ q
    refine sN<|aK<|Wx<|bY<|iB<|bZ<|sN<|Ws<|ay<|aS S<|aS F<|Lv aG xM<|aD<|aQ<|Wx<|bY<|Fx.Gm rfl<|iB<|bZ<|sN<|Ws ?_
    -- region 21 draws
    refine jS [0,1,2,3,4,5,6,8,9,10,7,11,12,13,14,15] [0,0,0,0,0,0,0,4,0,0,0,4,0,3,0,3] [(13,7,[7]),(15,7,[7]),(13,11,[11]),(15,11,[11]),(14,13,[13]),(15,13,[13])] fun wt6 Sd afi => ?_
    have sM:=aR Sd qF
    have X7:=gX Sd X6 q
    refine bM E<|bM F<|bM E<|bM h27<|bM E<|bM h27<|Rp ((pf g a)) (fun _=>dw 1)<|bM E<|bM F<|Rp ((pf g c)) (fun _=>dw 1)<|Rs (aC ((gA k) a)) (aP sM.aJ a) ?_
    refine Rs (aC ((gA k) c)) (aP sM.aJ c) ?_
    refine Rp ((pf g c)) (fun _=>dw 1)<|gP<|lY sM c (aC ((gA k) a)) fun X8 ug s29 ZX => ?_
    have X9:=s29.below X7 (Nat.le_trans q X7.size) sM.blk.1
    refine Ln<|Rp ((pf g a)) (fun _=>dw 1)<|gP<|lY ug a (aC ((gA k) c)) fun ZY pW s30 z12 => ?_
    have b36:=s30.below X9 (Nat.le_trans q X9.size) ug.blk.1
    have uE:Fx.Own ZY B 29 1 (bJ g n cap) n (rv .u64 (gA (Sort.swp k c a))):=pW.congr (fD x (by omega) (by omega))
    refine Ln<|bF<|ay<|aS F<|av (au c)<|av aF<|aD<|Wr<|aN (.tuple #[au ((c:Int)),.bool false]) ?_
    have v:=y.symm.trans (wP (by omega))
    exact⟨c,false,_,rfl,by rw[Sort.partition_fst,v],by rw[Sort.partition_arr,v],(dI x _ _),uE,b36⟩
   rw[Bool.not_eq_true]at P
   refine nD (fun _ _=>cK ((gA (Sort.swp d a p)) m) ((gA (Sort.swp d a p)) a) _) aF (by rw[P])<|bE aG<|bE aG<|Qn ?_
   intro ahl Mt
   have qN:=aR Mt m8
   have b37:=gX Mt b7 q
   refine sN<|aQ<|Wk<|sN<|Wb<|Wl<|aS A<|Lv (au ((m:Int)-1)) jw<|av (au ((m:Int)-1))<|Ln<|cB<|iG ⟨m-1,((BQ (by omega) (by omega) (Z.resolve_left (by omega)) (of_decide_eq_false P)).trans Y),(Z.elim (fun h => .inl (by omega)) .inr),(by omega),M,(h7.trans Fx.ic),(h8.trans Fx.ic),(W.trans Fx.ic),Fx.ic,qN,b37⟩ ?_
   show(intOf ((au ((m:Int)-1)))).toNat<_
   simp only[A,intOf]; omega
  refine Qv aF (fun r o=>qU R8)<|bE aF<|aW<|aW<|aW<|aW<|aW<|aW<|aW<|aW<|aW<|aW<|bE aF<|Qn ?_
  intro ahm Mv
  have ru:=aR Mv m8
  have b38:=gX Mv b7 q
  refine sN<|aK<|Wx<|bY<|iB<|bZ<|sN<|Ws<|ay<|aS W<|aS A<|Lv aG xM<|aD<|aQ<|Ws ?_
  -- region 8 draws
  refine jS [0,1,2,3,4,5,6,8,9,10,7,11,12,13,14,15] [0,0,0,0,0,0,0,4,0,0,0,4,0,3,0,3] [(13,7,[7]),(15,7,[7]),(13,11,[11]),(15,11,[11]),(14,13,[13]),(15,13,[13])] fun wt7 Sg afj => ?_
  have vH:=aR Sg ru
  have Z0:=gX Sg b38 q
  refine bM M<|bM A<|bM M<|bM h7<|bM M<|bM h7<|Rp ((pf g a)) (fun _=>dw 1)<|bM M<|bM A<|Rp ((pf g m)) (fun _=>dw 1)<|Rs (aC ((gA (Sort.swp d a p)) a)) (aP vH.aJ a) ?_
  refine Rs (aC ((gA (Sort.swp d a p)) m)) (aP vH.aJ m) ?_
  refine Rp ((pf g m)) (fun _=>dw 1)<|gP<|lY vH m (aC ((gA (Sort.swp d a p)) a)) fun w19 sO s34 z13 => ?_
  have Z4:=s34.below Z0 (Nat.le_trans q Z0.size) vH.blk.1
  refine Ln<|Rp ((pf g a)) (fun _=>dw 1)<|gP<|lY sO a (aC ((gA (Sort.swp d a p)) m)) fun Z5 xR s35 z14 => ?_
  have b41:=s35.below Z4 (Nat.le_trans q Z4.size) sO.blk.1
  have zS:Fx.Own Z5 B 29 1 (bJ g n cap) n (rv .u64 (gA (Sort.swp (Sort.swp d a p) m a))):=xR.congr (fD (dI Q _ _) (by omega) (by omega))
  refine Ln<|bF<|ay<|aS A<|av (au m)<|av aG<|aD<|Wr<|sR<|aN (.tuple #[au ((m:Int)),.bool true]) ?_
  have v:=Y.symm.trans (wP (by omega))
  exact⟨m,true,_,rfl,by rw[Sort.partition_fst,v],by rw[Sort.partition_arr,v],(dI (dI Q _ _) _ _),zS,b41⟩
 refine Qv aF (fun r o=>qU c32)<|bE aF<|aW<|aW<|aW<|aW<|aW<|aW<|aW<|aW<|aW<|bE aF<|Qn ?_
 intro aht Mw
 have wS:=aR Mw m5
 have b42:=gX Mw b4 q
 refine sN<|aK<|Wx<|bY<|iB<|bZ<|sN<|Ws<|Wb<|Wo (fun f t => ∃ m:Nat,Sort.partLoop Sort.ltInt a s m (Sort.swp d a p)=Sort.partLoop Sort.ltInt a (a+1) (b-1) (Sort.swp d a p)/\((m<s \/ ¬ gA (Sort.swp d a p) s<gA (Sort.swp d a p) a))/\(m<b/\m<=b)/\f 0=bJ g n cap/\f 1=au ((a:Int))/\f 2=au ((b:Int))/\f 10=au ((s:Int))/\f 11=au ((m:Int))/\Fx.Own t B 29 1 (bJ g n cap) n (rv .u64 (gA (Sort.swp d a p)))/\Below B w t) (fun f _=>(intOf (f 11)).toNat) ⟨b-1,hY0,(.inl (by omega)),(by omega),h1,(h2.trans Fx.ic),(h3.trans Fx.ic),(h4.trans Fx.ic),(h5.trans Fx.ic),wS,b42⟩ ?_
 rintro f7 w21 ⟨m,Y,Z,abj,G,h32,h33,T,H,uh,b43⟩
 refine Ws<|Ws ?_
 -- region 5 draws
 refine lU<|dY T<|dY H ?_
 by_cases R8:(s:Int)<=(m:Int)
 ·refine Qv aG (fun r o=>qC R8)<|bE aG<|dY G<|dY H<|Qv ((pf g m)) (fun r o=>dw 1)<|Qv (aC ((gA (Sort.swp d a p)) m)) (fun r o=>aP (uh.cb o) m)<|dY G<|dY h32<|Qv ((pf g a)) (fun r o=>dw 1)<|Qv (aC ((gA (Sort.swp d a p)) a)) (fun r o=>aP (uh.cb o) a) ?_
  by_cases P:(decide ((gA (Sort.swp d a p)) m<(gA (Sort.swp d a p)) a))=true
  ·refine nD (fun _ _=>cK ((gA (Sort.swp d a p)) m) ((gA (Sort.swp d a p)) a) _) aG (by rw[P])<|bE aF<|bE aF<|Qn ?_
   intro ahv Mx
   have vI:=aR Mx uh
   have b44:=gX Mx b43 q
   refine sN<|aK<|Wx<|bY<|iB<|bZ<|sN<|Ws<|ay<|aS T<|aS H<|Lv aF tQ<|aD<|aK<|Wk<|sN<|Ws ?_
   -- region 10 draws
   refine jS [0,1,2,3,4,5,6,8,9,10,7,11,12,13,14,15] [0,0,0,0,0,0,0,4,0,0,0,4,0,3,0,3] [(13,7,[7]),(15,7,[7]),(13,11,[11]),(15,11,[11]),(14,13,[13]),(15,13,[13])] fun wt8 Si afl => ?_
   have wG:=aR Si vI
   have b45:=gX Si b44 q
   refine bM G<|bM T<|bM G<|bM H<|bM G<|bM H<|Rp ((pf g m)) (fun _=>dw 1)<|bM G<|bM T<|Rp ((pf g s)) (fun _=>dw 1)<|Rs (aC ((gA (Sort.swp d a p)) m)) (aP wG.aJ m) ?_
   refine Rs (aC ((gA (Sort.swp d a p)) s)) (aP wG.aJ s) ?_
   refine Rp ((pf g s)) (fun _=>dw 1)<|gP<|lY wG s (aC ((gA (Sort.swp d a p)) m)) fun w22 vJ s39 z15 => ?_
   have b46:=s39.below b45 (Nat.le_trans q b45.size) wG.blk.1
   refine Ln<|Rp ((pf g m)) (fun _=>dw 1)<|gP<|lY vJ m (aC ((gA (Sort.swp d a p)) s)) fun w23 Bo s40 z16 => ?_
   have b47:=s40.below b46 (Nat.le_trans q b46.size) vJ.blk.1
   have wH:Fx.Own w23 B 29 1 (bJ g n cap) n (rv .u64 (gA (Sort.swp (Sort.swp d a p) s m))):=Bo.congr (fD (dI Q _ _) (by omega) (by omega))
   refine Ln<|bF<|ay<|aS T<|Lv (au ((s:Int)+1)) fZ<|av (au ((s:Int)+1))<|aD<|ay<|aS H<|Lv (au ((m:Int)-1)) jw<|av (au ((m:Int)-1))<|aD<|Ws<|Wb<|Wo (fun f t => ∃ i:Nat,∃ j:Nat,∃ k:Array Int,k.size=n/\Sort.partLoop Sort.ltInt a i j k=Sort.partLoop Sort.ltInt a (a+1) (b-1) (Sort.swp d a p)/\(a<i/\j<b/\i<=b)/\f 0=bJ g n cap/\f 1=au ((a:Int))/\f 2=au ((b:Int))/\f 10=au ((i:Int))/\f 11=au ((j:Int))/\Fx.Own t B 29 1 (bJ g n cap) n (rv .u64 (gA k))/\Below B w t) (fun f _=>((b:Int)-intOf (f 10)).toNat) ⟨s+1,m-1,Sort.swp (Sort.swp d a p) s m,(dI (dI Q _ _) _ _),((BR (by omega) (Z.resolve_left (by omega)) (of_decide_eq_true P)).trans Y),(by omega),G,(h32.trans Fx.ic),(h33.trans Fx.ic),Fx.ic,Fx.ic,wH,b47⟩ ?_
   rintro f8 w24 ⟨i,j,k,x,hX,hij,h36,h37,h38,h39,h40,vK,b48⟩
   refine Wb<|Ws<|Wb<|Wo (fun f t => ∃ l:Nat,Sort.partLoop Sort.ltInt a l j k=Sort.partLoop Sort.ltInt a (a+1) (b-1) (Sort.swp d a p)/\(i<=l/\l<=b)/\f 0=bJ g n cap/\f 1=au ((a:Int))/\f 2=au ((b:Int))/\f 10=au ((l:Int))/\f 11=au ((j:Int))/\Fx.Own t B 29 1 (bJ g n cap) n (rv .u64 (gA k))/\Below B w t) (fun f _=>((b:Int)-intOf (f 10)).toNat) ⟨i,hX,(by omega),h36,(h37.trans Fx.ic),(h38.trans Fx.ic),(h39.trans Fx.ic),(h40.trans Fx.ic),vK,b48⟩ ?_
   rintro f9 w25 ⟨l,X,abk,Ya,Z6,h43,Xa,h45,sP,b49⟩
   refine Ws<|Ws ?_
   -- region 13 draws
   refine lU<|dY Xa<|dY h45 ?_
   by_cases Ml:(l:Int)<=(j:Int)
   ·refine Qv aG (fun r o=>qC Ml)<|bE aG<|dY Ya<|dY Xa<|Qv ((pf g l)) (fun r o=>dw 1)<|Qv (aC ((gA k) l)) (fun r o=>aP (sP.cb o) l)<|dY Ya<|dY Z6<|Qv ((pf g a)) (fun r o=>dw 1)<|Qv (aC ((gA k) a)) (fun r o=>aP (sP.cb o) a) ?_
    by_cases N:(decide ((gA k) l<(gA k) a))=true
    ·refine nD (fun _ _=>cK ((gA k) l) ((gA k) a) _) aG (by rw[N])<|bE aG<|Qn ?_
     intro ahH MB
     have wI:=aR MB sP
     have b50:=gX MB b49 q
     refine sN<|aQ<|Wk<|sN<|Wb<|Wl<|aS Xa<|Lv (au ((l:Int)+1)) fZ<|av (au ((l:Int)+1))<|Ln<|cB<|iG ⟨l+1,((Mg (by omega) (of_decide_eq_true N)).trans X),(by omega),Ya,(Z6.trans Fx.ic),(h43.trans Fx.ic),Fx.ic,(h45.trans Fx.ic),wI,b50⟩ ?_
     show((b:Int)-intOf ((au ((l:Int)+1)))).toNat<_
     simp only[Xa,intOf]; omega
    rw[Bool.not_eq_true]at N
    refine nD (fun _ _=>cK ((gA k) l) ((gA k) a) _) aF (by rw[N])<|bE aF<|Qn ?_
    intro ahJ MC
    have xS:=aR MC sP
    have b51:=gX MC b49 q
    refine sN<|aK<|Wx<|bY<|iB<|bZ<|sN<|Ws<|Wb<|Wo (fun f t => ∃ c:Nat,Sort.partLoop Sort.ltInt a l c k=Sort.partLoop Sort.ltInt a (a+1) (b-1) (Sort.swp d a p)/\((c<l \/ ¬ gA k l<gA k a))/\(c<b/\c<=j)/\f 0=bJ g n cap/\f 1=au ((a:Int))/\f 2=au ((b:Int))/\f 10=au ((l:Int))/\f 11=au ((c:Int))/\Fx.Own t B 29 1 (bJ g n cap) n (rv .u64 (gA k))/\Below B w t) (fun f _=>(intOf (f 11)).toNat) ⟨j,X,(.inr (of_decide_eq_false N)),(by omega),Ya,(Z6.trans Fx.ic),(h43.trans Fx.ic),(Xa.trans Fx.ic),(h45.trans Fx.ic),xS,b51⟩ ?_
    rintro f10 w26 ⟨c,y,z,Um,I,h47,h48,U,J,oF,b52⟩
    refine Ws<|Ws ?_
    -- region 15 draws
    refine lU<|dY U<|dY J ?_
    by_cases O:(l:Int)<=(c:Int)
    ·refine Qv aG (fun r o=>qC O)<|bE aG<|dY I<|dY J<|Qv ((pf g c)) (fun r o=>dw 1)<|Qv (aC ((gA k) c)) (fun r o=>aP (oF.cb o) c)<|dY I<|dY h47<|Qv ((pf g a)) (fun r o=>dw 1)<|Qv (aC ((gA k) a)) (fun r o=>aP (oF.cb o) a) ?_
     by_cases u:(decide ((gA k) c<(gA k) a))=true
     ·refine nD (fun _ _=>cK ((gA k) c) ((gA k) a) _) aG (by rw[u])<|bE aF<|bE aF<|Qn ?_
      intro ahM ME
      have uV:=aR ME oF
      have b53:=gX ME b52 q
      refine sN<|aK<|Wx<|bY<|iB<|bZ<|sN<|Ws<|ay<|aS U<|aS J<|Lv aF tQ<|aD<|aK<|Wk<|sN<|Ws ?_
      -- region 18 draws
      refine jS [0,1,2,3,4,5,6,8,9,10,7,11,12,13,14,15] [0,0,0,0,0,0,0,4,0,0,0,4,0,3,0,3] [(13,7,[7]),(15,7,[7]),(13,11,[11]),(15,11,[11]),(14,13,[13]),(15,13,[13])] fun wt9 Sj afq => ?_
      have qy:=aR Sj uV
      have b54:=gX Sj b53 q
      refine bM I<|bM U<|bM I<|bM J<|bM I<|bM J<|Rp ((pf g c)) (fun _=>dw 1)<|bM I<|bM U<|Rp ((pf g l)) (fun _=>dw 1)<|Rs (aC ((gA k) c)) (aP qy.aJ c) ?_
      refine Rs (aC ((gA k) l)) (aP qy.aJ l) ?_
      refine Rp ((pf g l)) (fun _=>dw 1)<|gP<|lY qy l (aC ((gA k) c)) fun w27 xU s45 z17 => ?_
      have b55:=s45.below b54 (Nat.le_trans q b54.size) qy.blk.1
      refine Ln<|Rp ((pf g c)) (fun _=>dw 1)<|gP<|lY xU c (aC ((gA k) l)) fun w28 m64 s46 z18 => ?_
      have b56:=s46.below b55 (Nat.le_trans q b55.size) xU.blk.1
      have Bp:Fx.Own w28 B 29 1 (bJ g n cap) n (rv .u64 (gA (Sort.swp k l c))):=m64.congr (fD x (by omega) (by omega))
      refine Ln<|bF<|ay<|aS U<|Lv (au ((l:Int)+1)) fZ<|av (au ((l:Int)+1))<|aD<|Wl<|aS J<|Lv (au ((c:Int)-1)) jw<|av (au ((c:Int)-1))<|Ln<|cB<|iG ⟨l+1,c-1,Sort.swp k l c,(dI x _ _),((BR (by omega) (z.resolve_left (by omega)) (of_decide_eq_true u)).trans y),(by omega),I,(h47.trans Fx.ic),(h48.trans Fx.ic),Fx.ic,Fx.ic,Bp,b56⟩ ?_
      show((b:Int)-intOf ((au ((l:Int)+1)))).toNat<_
      simp only[h39,intOf]; omega
     rw[Bool.not_eq_true]at u
     refine nD (fun _ _=>cK ((gA k) c) ((gA k) a) _) aF (by rw[u])<|bE aG<|bE aG<|Qn ?_
     intro ahT MF
     have Bq:=aR MF oF
     have b57:=gX MF b52 q
     refine sN<|aQ<|Wk<|sN<|Wb<|Wl<|aS J<|Lv (au ((c:Int)-1)) jw<|av (au ((c:Int)-1))<|Ln<|cB<|iG ⟨c-1,((BQ (by omega) (by omega) (z.resolve_left (by omega)) (of_decide_eq_false u)).trans y),(z.elim (fun h => .inl (by omega)) .inr),(by omega),I,(h47.trans Fx.ic),(h48.trans Fx.ic),(U.trans Fx.ic),Fx.ic,Bq,b57⟩ ?_
     show(intOf ((au ((c:Int)-1)))).toNat<_
     simp only[J,intOf]; omega
    refine Qv aF (fun r o=>qU O)<|bE aF<|aW<|aW<|aW<|aW<|aW<|aW<|aW<|aW<|aW<|aW<|bE aF<|Qn ?_
    intro ahV MG
    have yF:=aR MG oF
    have b58:=gX MG b52 q
    refine sN<|aK<|Wx<|bY<|iB<|bZ<|sN<|Ws<|ay<|aS U<|aS J<|Lv aG xM<|aD<|aQ<|Wx<|bY<|Fx.Gm rfl<|iB<|bZ<|sN<|Ws ?_
    -- region 21 draws
    refine jS [0,1,2,3,4,5,6,8,9,10,7,11,12,13,14,15] [0,0,0,0,0,0,0,4,0,0,0,4,0,3,0,3] [(13,7,[7]),(15,7,[7]),(13,11,[11]),(15,11,[11]),(14,13,[13]),(15,13,[13])] fun ahX MH abx => ?_
    have zT:=aR MH yF
    have b59:=gX MH b58 q
    refine bM I<|bM J<|bM I<|bM h47<|bM I<|bM h47<|Rp ((pf g a)) (fun _=>dw 1)<|bM I<|bM J<|Rp ((pf g c)) (fun _=>dw 1)<|Rs (aC ((gA k) a)) (aP zT.aJ a) ?_
    refine Rs (aC ((gA k) c)) (aP zT.aJ c) ?_
    refine Rp ((pf g c)) (fun _=>dw 1)<|gP<|lY zT c (aC ((gA k) a)) fun w29 vL s50 z19 => ?_
    have b60:=s50.below b59 (Nat.le_trans q b59.size) zT.blk.1
    refine Ln<|Rp ((pf g a)) (fun _=>dw 1)<|gP<|lY vL a (aC ((gA k) c)) fun w30 Br s51 z20 => ?_
    have b61:=s51.below b60 (Nat.le_trans q b60.size) vL.blk.1
    have wT:Fx.Own w30 B 29 1 (bJ g n cap) n (rv .u64 (gA (Sort.swp k c a))):=Br.congr (fD x (by omega) (by omega))
    refine Ln<|bF<|ay<|aS J<|av (au c)<|av aF<|aD<|Wr<|aN (.tuple #[au ((c:Int)),.bool false]) ?_
    have v:=y.symm.trans (wP (by omega))
    exact⟨c,false,_,rfl,by rw[Sort.partition_fst,v],by rw[Sort.partition_arr,v],(dI x _ _),wT,b61⟩
   refine Qv aF (fun r o=>qU Ml)<|bE aF<|aW<|aW<|aW<|aW<|aW<|aW<|aW<|aW<|aW<|bE aF<|Qn ?_
   intro aic MI
   have zU:=aR MI sP
   have b62:=gX MI b49 q
   refine sN<|aK<|Wx<|bY<|iB<|bZ<|sN<|Ws<|Wb<|Wo (fun f t => ∃ c:Nat,Sort.partLoop Sort.ltInt a l c k=Sort.partLoop Sort.ltInt a (a+1) (b-1) (Sort.swp d a p)/\((c<l \/ ¬ gA k l<gA k a))/\(c<b/\c<=j)/\f 0=bJ g n cap/\f 1=au ((a:Int))/\f 2=au ((b:Int))/\f 10=au ((l:Int))/\f 11=au ((c:Int))/\Fx.Own t B 29 1 (bJ g n cap) n (rv .u64 (gA k))/\Below B w t) (fun f _=>(intOf (f 11)).toNat) ⟨j,X,(.inl (by omega)),(by omega),Ya,(Z6.trans Fx.ic),(h43.trans Fx.ic),(Xa.trans Fx.ic),(h45.trans Fx.ic),zU,b62⟩ ?_
   rintro f11 w31 ⟨c,y,z,Um,K,Yb,h53,V,L,yG,b63⟩
   refine Ws<|Ws ?_
   -- region 15 draws
   refine lU<|dY V<|dY L ?_
   by_cases O:(l:Int)<=(c:Int)
   ·refine Qv aG (fun r o=>qC O)<|bE aG<|dY K<|dY L<|Qv ((pf g c)) (fun r o=>dw 1)<|Qv (aC ((gA k) c)) (fun r o=>aP (yG.cb o) c)<|dY K<|dY Yb<|Qv ((pf g a)) (fun r o=>dw 1)<|Qv (aC ((gA k) a)) (fun r o=>aP (yG.cb o) a) ?_
    by_cases u:(decide ((gA k) c<(gA k) a))=true
    ·refine nD (fun _ _=>cK ((gA k) c) ((gA k) a) _) aG (by rw[u])<|bE aF<|bE aF<|Qn ?_
     intro aii MJ
     have EM:=aR MJ yG
     have b64:=gX MJ b63 q
     refine sN<|aK<|Wx<|bY<|iB<|bZ<|sN<|Ws<|ay<|aS V<|aS L<|Lv aF tQ<|aD<|aK<|Wk<|sN<|Ws ?_
     -- region 18 draws
     refine jS [0,1,2,3,4,5,6,8,9,10,7,11,12,13,14,15] [0,0,0,0,0,0,0,4,0,0,0,4,0,3,0,3] [(13,7,[7]),(15,7,[7]),(13,11,[11]),(15,11,[11]),(14,13,[13]),(15,13,[13])] fun aij MK abA => ?_
     have xV:=aR MK EM
     have b65:=gX MK b64 q
     refine bM K<|bM V<|bM K<|bM L<|bM K<|bM L<|Rp ((pf g c)) (fun _=>dw 1)<|bM K<|bM V<|Rp ((pf g l)) (fun _=>dw 1)<|Rs (aC ((gA k) c)) (aP xV.aJ c) ?_
     refine Rs (aC ((gA k) l)) (aP xV.aJ l) ?_
     refine Rp ((pf g l)) (fun _=>dw 1)<|gP<|lY xV l (aC ((gA k) c)) fun w32 BS s55 z21 => ?_
     have b66:=s55.below b65 (Nat.le_trans q b65.size) xV.blk.1
     refine Ln<|Rp ((pf g c)) (fun _=>dw 1)<|gP<|lY BS c (aC ((gA k) l)) fun w33 Ea s56 z22 => ?_
     have b67:=s56.below b66 (Nat.le_trans q b66.size) BS.blk.1
     have BU:Fx.Own w33 B 29 1 (bJ g n cap) n (rv .u64 (gA (Sort.swp k l c))):=Ea.congr (fD x (by omega) (by omega))
     refine Ln<|bF<|ay<|aS V<|Lv (au ((l:Int)+1)) fZ<|av (au ((l:Int)+1))<|aD<|Wl<|aS L<|Lv (au ((c:Int)-1)) jw<|av (au ((c:Int)-1))<|Ln<|cB<|iG ⟨l+1,c-1,Sort.swp k l c,(dI x _ _),((BR (by omega) (z.resolve_left (by omega)) (of_decide_eq_true u)).trans y),(by omega),K,(Yb.trans Fx.ic),(h53.trans Fx.ic),Fx.ic,Fx.ic,BU,b67⟩ ?_
     show((b:Int)-intOf ((au ((l:Int)+1)))).toNat<_
     simp only[h39,intOf]; omega
    rw[Bool.not_eq_true]at u
    refine nD (fun _ _=>cK ((gA k) c) ((gA k) a) _) aF (by rw[u])<|bE aG<|bE aG<|Qn ?_
    intro aio ML
    have A9:=aR ML yG
    have b68:=gX ML b63 q
    refine sN<|aQ<|Wk<|sN<|Wb<|Wl<|aS L<|Lv (au ((c:Int)-1)) jw<|av (au ((c:Int)-1))<|Ln<|cB<|iG ⟨c-1,((BQ (by omega) (by omega) (z.resolve_left (by omega)) (of_decide_eq_false u)).trans y),(z.elim (fun h => .inl (by omega)) .inr),(by omega),K,(Yb.trans Fx.ic),(h53.trans Fx.ic),(V.trans Fx.ic),Fx.ic,A9,b68⟩ ?_
    show(intOf ((au ((c:Int)-1)))).toNat<_
    simp only[L,intOf]; omega
   refine Qv aF (fun r o=>qU O)<|bE aF<|aW<|aW<|aW<|aW<|aW<|aW<|aW<|aW<|aW<|aW<|bE aF<|Qn ?_
   intro aiq MN
   have zV:=aR MN yG
   have b69:=gX MN b63 q
   refine sN<|aK<|Wx<|bY<|iB<|bZ<|sN<|Ws<|ay<|aS V<|aS L<|Lv aG xM<|aD<|aQ<|Wx<|bY<|Fx.Gm rfl<|iB<|bZ<|sN<|Ws ?_
   -- region 21 draws
   refine jS [0,1,2,3,4,5,6,8,9,10,7,11,12,13,14,15] [0,0,0,0,0,0,0,4,0,0,0,4,0,3,0,3] [(13,7,[7]),(15,7,[7]),(13,11,[11]),(15,11,[11]),(14,13,[13]),(15,13,[13])] fun ais MO abC => ?_
   have yX:=aR MO zV
   have b70:=gX MO b69 q
   refine bM K<|bM L<|bM K<|bM Yb<|bM K<|bM Yb<|Rp ((pf g a)) (fun _=>dw 1)<|bM K<|bM L<|Rp ((pf g c)) (fun _=>dw 1)<|Rs (aC ((gA k) a)) (aP yX.aJ a) ?_
   refine Rs (aC ((gA k) c)) (aP yX.aJ c) ?_
   refine Rp ((pf g c)) (fun _=>dw 1)<|gP<|lY yX c (aC ((gA k) a)) fun w34 Bt s60 z23 => ?_
   have b71:=s60.below b70 (Nat.le_trans q b70.size) yX.blk.1
   refine Ln<|Rp ((pf g a)) (fun _=>dw 1)<|gP<|lY Bt a (aC ((gA k) c)) fun w35 Dl s61 z24 => ?_
   have b72:=s61.below b71 (Nat.le_trans q b71.size) Bt.blk.1
   have F6:Fx.Own w35 B 29 1 (bJ g n cap) n (rv .u64 (gA (Sort.swp k c a))):=Dl.congr (fD x (by omega) (by omega))
   refine Ln<|bF<|ay<|aS L<|av (au c)<|av aF<|aD<|Wr<|aN (.tuple #[au ((c:Int)),.bool false]) ?_
   have v:=y.symm.trans (wP (by omega))
   exact⟨c,false,_,rfl,by rw[Sort.partition_fst,v],by rw[Sort.partition_arr,v],(dI x _ _),F6,b72⟩
  rw[Bool.not_eq_true]at P
  refine nD (fun _ _=>cK ((gA (Sort.swp d a p)) m) ((gA (Sort.swp d a p)) a) _) aF (by rw[P])<|bE aG<|bE aG<|Qn ?_
  intro aix MP
  have GJ:=aR MP uh
  have b73:=gX MP b43 q
  refine sN<|aQ<|Wk<|sN<|Wb<|Wl<|aS H<|Lv (au ((m:Int)-1)) jw<|av (au ((m:Int)-1))<|Ln<|cB<|iG ⟨m-1,((BQ (by omega) (by omega) (Z.resolve_left (by omega)) (of_decide_eq_false P)).trans Y),(Z.elim (fun h => .inl (by omega)) .inr),(by omega),G,(h32.trans Fx.ic),(h33.trans Fx.ic),(T.trans Fx.ic),Fx.ic,GJ,b73⟩ ?_
  show(intOf ((au ((m:Int)-1)))).toNat<_
  simp only[H,intOf]; omega
 refine Qv aF (fun r o=>qU R8)<|bE aF<|aW<|aW<|aW<|aW<|aW<|aW<|aW<|aW<|aW<|aW<|bE aF<|Qn ?_
 intro aiz MQ
 have Jc:=aR MQ uh
 have b74:=gX MQ b43 q
 refine sN<|aK<|Wx<|bY<|iB<|bZ<|sN<|Ws<|ay<|aS T<|aS H<|Lv aG xM<|aD<|aQ<|Ws ?_
 -- region 8 draws
 refine jS [0,1,2,3,4,5,6,8,9,10,7,11,12,13,14,15] [0,0,0,0,0,0,0,4,0,0,0,4,0,3,0,3] [(13,7,[7]),(15,7,[7]),(13,11,[11]),(15,11,[11]),(14,13,[13]),(15,13,[13])] fun aiB MR abD => ?_
 have BX:=aR MR Jc
 have b75:=gX MR b74 q
 refine bM G<|bM H<|bM G<|bM h32<|bM G<|bM h32<|Rp ((pf g a)) (fun _=>dw 1)<|bM G<|bM H<|Rp ((pf g m)) (fun _=>dw 1)<|Rs (aC ((gA (Sort.swp d a p)) a)) (aP BX.aJ a) ?_
 refine Rs (aC ((gA (Sort.swp d a p)) m)) (aP BX.aJ m) ?_
 refine Rp ((pf g m)) (fun _=>dw 1)<|gP<|lY BX m (aC ((gA (Sort.swp d a p)) a)) fun w36 F7 s65 z25 => ?_
 have b76:=s65.below b75 (Nat.le_trans q b75.size) BX.blk.1
 refine Ln<|Rp ((pf g a)) (fun _=>dw 1)<|gP<|lY F7 a (aC ((gA (Sort.swp d a p)) m)) fun w37 GK s66 z26 => ?_
 have b77:=s66.below b76 (Nat.le_trans q b76.size) F7.blk.1
 have F8:Fx.Own w37 B 29 1 (bJ g n cap) n (rv .u64 (gA (Sort.swp (Sort.swp d a p) m a))):=GK.congr (fD (dI Q _ _) (by omega) (by omega))
 refine Ln<|bF<|ay<|aS H<|av (au m)<|av aG<|aD<|Wr<|sR<|aN (.tuple #[au ((m:Int)),.bool true]) ?_
 have v:=Y.symm.trans (wP (by omega))
 exact⟨m,true,_,rfl,by rw[Sort.partition_fst,v],by rw[Sort.partition_arr,v],(dI (dI Q _ _) _ _),F8,b77⟩
end
section
open Rt
set_option maxRecDepth 10000
theorem Uq{c f:Int}(a b:Nat)(i:c=(a:Int))(j:f=(b:Int))(B g n cap:Nat)(d:Array Int)(w:World)(h:Fx.Own w B 29 1 (bJ g n cap) n (rv .u64 (gA d)))(k:B<=w.heap.size)(m:d.size=n)(o:n<=1000)(ha:a<=b)(l:b<=n) :
 Calls Tryd.prog 72 #[bJ g n cap,au c,au f] w fun e w'=>e = .returned (.tuple #[])/\Fx.Own w' B 29 1 (bJ g n cap) n (rv .u64 (gA (Sort.insertionSort Sort.ltInt d a b)))/\Below B w w':=by
 subst i j; exact XL a b B g n cap d w h k m o ha l
theorem PV{c f:Int}(a b:Nat)(i:c=(a:Int))(j:f=(b:Int))(B g n cap:Nat)(d:Array Int)(w:World)(h:Fx.Own w B 29 1 (bJ g n cap) n (rv .u64 (gA d)))(k:B<=w.heap.size)(m:d.size=n)(o:n<=1000)(ha:a<b)(l:b<=n) :
 Calls Tryd.prog 73 #[bJ g n cap,au c,au f] w fun e w'=>e = .returned (.tuple #[])/\Fx.Own w' B 29 1 (bJ g n cap) n (rv .u64 (gA (Sort.heapSort Sort.ltInt d a b)))/\Below B w w':=by
 subst i j; exact Uf a b B g n cap d w h k m o ha l
theorem Ur{c f:Int}(a b:Nat)(i:c=(a:Int))(j:f=(b:Int))(B g n cap:Nat)(d:Array Int)(w:World)(h:Fx.Own w B 29 1 (bJ g n cap) n (rv .u64 (gA d)))(k:B<=w.heap.size)(m:d.size=n)(o:n<=1000)(ha:a<b)(l:b<=n) :
 Calls Tryd.prog 76 #[bJ g n cap,au c,au f] w fun e w'=>e = .returned (.tuple #[])/\Fx.Own w' B 29 1 (bJ g n cap) n (rv .u64 (gA (Sort.reverseRange d a b)))/\Below B w w':=by
 subst i j; exact XR a b B g n cap d w h k m o ha l
def Sk(m:Nat):Prop := ∀(i j k:Int) (a b l:Nat) (B g n f:Nat) (d:Array Int) (w:World) (h:Fx.Own w B 29 1 (bJ g n f) n (rv .u64 (gA d))) (hB:B<=w.heap.size) (hn:d.size=n) (hs:n<=1000) (h50:n<50) (hl:l<=1000) (hab:a<=b) (hb:b<=n) (hBel:Sort.Below Sort.ltInt a b d),i=(a:Int)->j=(b:Int)->k=(l:Int)->b-a<m ->
    Calls Tryd.prog 61 #[bJ g n f,au i,au j,au k] w fun e w' => ∃ c:Array Int,e = .returned (.tuple #[])/\c.size=n/\Sort.PermIn a b d c/\Sort.SortedIn Sort.ltInt a b c/\Fx.Own w' B 29 1 (bJ g n f) n (rv .u64 (gA c))/\Below B w w'
theorem Ut(m:Nat)(ih:Sk m)(a b lim:Nat)(B g n cap:Nat)(d:Array Int)(w:World)(h:Fx.Own w B 29 1 (bJ g n cap) n (rv .u64 (gA d)))(r:B<=w.heap.size)(hn:d.size=n)(x:n<=1000)(V:n<50)(hl:lim<=1000)(hab:a<=b)(hb:b<=n)(hBel:Sort.Below Sort.ltInt a b d)(hm:b-a<m+1) :
 Calls Tryd.prog 61 #[bJ g n cap,au ((a:Int)),au ((b:Int)),au ((lim:Int))] w fun e w' => ∃ d2:Array Int,e = .returned (.tuple #[])/\d2.size=n/\Sort.PermIn a b d d2/\Sort.SortedIn Sort.ltInt a b d2/\Fx.Own w' B 29 1 (bJ g n cap) n (rv .u64 (gA d2))/\Below B w w':=by
 refine Kent Tryd.func61 134 ?_
 refine ay<|av aG<|aD<|ay<|av aG<|aD<|Wb<|yT (fun kk f A => ∃ c:Nat,∃ i:Nat,∃ N:Nat,∃ v:Array Int,∃ O:Bool,∃ wp:Bool,v.size=n/\Sort.Below Sort.ltInt c i v/\(∀ R,Sort.PermIn c i v R->Sort.SortedIn Sort.ltInt c i R->Sort.PermIn a b d R/\Sort.SortedIn Sort.ltInt a b R)/\(c<=i/\i<=n/\N<=1000/\i-c<=b-a)/\kk=i-c/\f 0=bJ g n cap/\f 1=au ((c:Int))/\f 2=au ((i:Int))/\f 3=au ((N:Int))/\f 8 = .bool O/\f 9 = .bool wp/\Fx.Own A B 29 1 (bJ g n cap) n (rv .u64 (gA v))/\Below B w A) (b-a) ⟨a,b,lim,d,true,true,hn,hBel,(fun R U J=>⟨U,J⟩),(by omega),rfl,(by rfl),Fx.ic,Fx.ic,Fx.ic,(by rfl),(by rfl),h,(Below.refl B w)⟩ ?_
 rintro kk f1 w1 ⟨c,i,N,v,O,wp,hk,hBl,K,aiF,hkk,U,J,h3,h4,h5,h6,m1,S⟩
 refine Wb<|ay<|aS h3<|aS J<|Lv (au ((i:Int)-(c:Int))) jw<|av (au ((i:Int)-(c:Int)))<|aD<|Ws<|ay<|av (au ((i:Int)-(c:Int))) ?_
 by_cases c23:((i:Int)-(c:Int))<=12
 ·refine Lv aG (qC c23)<|aD<|aQ<|ay<|aS U<|aS J<|aS h3<|fB (Uq c i (by omega) (by omega) B g n cap v _ m1 (Nat.le_trans r S.size) hk x (by omega) (by omega)) (ax := #[bJ g n cap,au ((c:Int)),au ((i:Int))]) _ rfl ?_
  rintro w2 ⟨m2,hb1⟩
  have b2:=S.trans hb1
  refine aD (Wr (sR (bW (qP (bW (⟨.tuple #[],fM Tryd.results61,?_⟩))))))
  have Y:=(Sort.insertionSort_holds Sort.swo_ltInt v c i (by omega) (by omega))
  have M:=K _ Y.1 Y.2
  exact⟨_,rfl,Y.1.1.trans hk,M.1,M.2,m2,b2⟩
 refine Lv aF (qU c23)<|aD<|aK<|Wk<|sN<|Ws<|ay<|aS h4 ?_
 by_cases Yc:(N:Int)=0
 ·refine Lv aG (gH Yc)<|aD<|aQ<|ay<|aS U<|aS J<|aS h3<|fB (PV c i (by omega) (by omega) B g n cap v _ m1 (Nat.le_trans r S.size) hk x (by omega) (by omega)) (ax := #[bJ g n cap,au ((c:Int)),au ((i:Int))]) _ rfl ?_
  rintro w3 ⟨m3,hb2⟩
  have b3:=S.trans hb2
  refine aD (Wr (sR (bW (qP (bW (⟨.tuple #[],fM Tryd.results61,?_⟩))))))
  have Y:=(Sort.heapSort_holds Sort.swo_ltInt v c i (by omega) (by omega))
  have M:=K _ Y.1 Y.2
  exact⟨_,rfl,Y.1.1.trans hk,M.1,M.2,m3,b3⟩
 refine Lv aF (iW Yc)<|aD<|aK<|Wk<|sN<|xQ (fun f A => ∃ p:Nat,∃ I:Array Int,I.size=n/\Sort.PermIn c i v I/\p<=1000/\f 0=bJ g n cap/\f 1=au ((c:Int))/\f 2=au ((i:Int))/\f 3=au ((p:Int))/\f 8 = .bool O/\f 9 = .bool wp/\f 10=au ((i:Int)-(c:Int))/\Fx.Own A B 29 1 (bJ g n cap) n (rv .u64 (gA I))/\Below B w A) ?_ ?_
 ·refine ay ?_
  by_cases c34:O=true
  ·refine aS (h5.trans (congrArg Value.bool c34))<|av aF<|aD<|aK<|Wk ?_
   exact nE ⟨N,v,hk,(Sort.permIn_refl _ _ _),(by omega),U,(J.trans Fx.ic),(h3.trans Fx.ic),(h4.trans Fx.ic),h5,h6,Fx.ic,m1,S⟩
  rw[Bool.not_eq_true]at c34
  refine aS (h5.trans (congrArg Value.bool c34))<|av aG<|aD<|aQ<|ay<|aS U<|aS J<|aS h3<|jy (XV c i B g n cap v _ m1 (Nat.le_trans r S.size) hk x (by omega) (by omega) V) ?_
  rintro D w4 ⟨dn1,l,hz1,hP1,m4,hb3⟩
  have b4:=S.trans hb3
  refine⟨_,l,?_⟩
  clear l
  refine aD<|Wl<|aS h4<|Lv (au ((N:Int)-1)) jw<|av (au ((N:Int)-1))<|Ln ?_
  exact nE ⟨N-1,dn1,hz1,hP1,(by omega),U,(J.trans Fx.ic),(h3.trans Fx.ic),Fx.ic,h5,h6,Fx.ic,m4,b4⟩
 rintro f2 w5 ⟨p,I,hk1,hP1,hl2,h7,h8,h9,h10,h11,h12,Km,m5,b5⟩
 refine ay<|aS h7<|aS h8<|aS h9<|jy (XY c i B g n cap I _ m5 (Nat.le_trans r b5.size) hk1 x (by omega) (by omega) V) ?_
 rintro D w6 ⟨H,ht1,l,hu1,G,m6,hb4⟩
 have b6:=b5.trans hb4
 refine⟨_,l,?_⟩
 clear l
 refine av (.tuple #[au ((H:Int)),au ht1])<|av (au H)<|av (au ht1)<|av (au H)<|av (au ht1)<|aD<|xQ (fun f A => ∃ q:Nat,∃ hint:Int,∃ o:Array Int,o.size=n/\Sort.PermIn c i v o/\(c<=q/\q<i)/\f 0=bJ g n cap/\f 1=au ((c:Int))/\f 2=au ((i:Int))/\f 3=au ((p:Int))/\f 8 = .bool O/\f 9 = .bool wp/\f 10=au ((i:Int)-(c:Int))/\f 11=au ((q:Int))/\f 12=au hint/\Fx.Own A B 29 1 (bJ g n cap) n (rv .u64 (gA o))/\Below B w A) ?_ ?_
 ·refine ay<|av (au ht1) ?_
  by_cases c50:ht1=2
  ·refine Lv aG (gH c50)<|aD<|aQ<|ay<|aS h7<|aS h8<|aS h9<|fB (Ur c i (by omega) (by omega) B g n cap I _ m6 (Nat.le_trans r b6.size) hk1 x (by omega) (by omega)) (ax := #[bJ g n cap,au ((c:Int)),au ((i:Int))]) _ rfl ?_
   rintro w7 ⟨m7,hb5⟩
   have b7:=b6.trans hb5
   refine aD<|ay<|aS h9<|Lv (au ((i:Int)-1)) jw<|av (au H)<|aS h8<|Lv (au ((H:Int)-(c:Int))) jw<|Lv (au ((c:Int)+(i:Int)-(H:Int)-1)) jw<|av (au ((c:Int)+(i:Int)-(H:Int)-1))<|aD<|Wl<|av (au 1)<|Ln ?_
   exact nE ⟨c+i-H-1,1,Sort.reverseRange I c i,((Sort.reverseRange_holds _ _ _ (by omega) (by omega)).1.trans hk1),(Sort.permIn_trans _ _ _ _ _ hP1 (Sort.reverseRange_holds _ _ _ (by omega) (by omega))),(by omega),h7,(h8.trans Fx.ic),(h9.trans Fx.ic),(h10.trans Fx.ic),h11,h12,(Km.trans Fx.ic),Fx.ic,Fx.ic,m7,b7⟩
  refine Lv aF (iW c50)<|aD<|aK<|Wk ?_
  exact nE ⟨H,ht1,I,hk1,hP1,(by omega),h7,(h8.trans Fx.ic),(h9.trans Fx.ic),(h10.trans Fx.ic),h11,h12,(Km.trans Fx.ic),Fx.ic,Fx.ic,m6,b6⟩
 rintro f3 w8 ⟨q,hint,o,hk2,F,L,GH,I9,h16,GI,h18,h19,h20,h21,h22,m8,b8⟩
 obtain⟨hpv1,hpv2⟩:=L
 have L:=And.intro hpv1 hpv2
 refine xQ (fun f A=>f 0=bJ g n cap/\f 1=au ((c:Int))/\f 2=au ((i:Int))/\f 3=au ((p:Int))/\f 8 = .bool O/\f 9 = .bool wp/\f 10=au ((i:Int)-(c:Int))/\f 11=au ((q:Int))/\Fx.Own A B 29 1 (bJ g n cap) n (rv .u64 (gA o))/\Below B w A) ?_ ?_
 ·refine ay ?_
  by_cases c61:O=true
  ·refine aS (h18.trans (congrArg Value.bool c61))<|av aG ?_
   by_cases c63:wp=true
   ·refine aS (h19.trans (congrArg Value.bool c63))<|av aG<|av aG<|aS h22 ?_
    by_cases c67:hint=1
    ·refine Lv aG (gH c67)<|av aG<|aD<|aQ<|ay<|aS GH<|aS I9<|aS h16<|jy (Ul c i B g n cap o _ m8 (Nat.le_trans r b8.size) hk2 x (by omega) (by omega) V) ?_
     rintro D w9 ⟨r1,l,hS1,m9,hb6⟩
     have b9:=b8.trans hb6
     rcases r1 with _|_
     ·refine⟨_,l,?_⟩
      clear l
      refine aD<|aK<|Wk ?_
      exact nE ⟨GH,(I9.trans Fx.ic),(h16.trans Fx.ic),(GI.trans Fx.ic),h18,h19,(h20.trans Fx.ic),(h21.trans Fx.ic),m9,b9⟩
     refine⟨_,l,?_⟩
     clear l
     refine aD (aQ (Wr (Fx.jnR (bW (qP (bW (⟨.tuple #[],fM Tryd.results61,?_⟩)))))))
     have M:=K _ F (hS1 rfl)
     exact⟨_,rfl,hk2,M.1,M.2,m9,b9⟩
    refine Lv aF (iW c67)<|av aF<|aD<|aK<|Wk ?_
    exact nE ⟨GH,(I9.trans Fx.ic),(h16.trans Fx.ic),(GI.trans Fx.ic),h18,h19,(h20.trans Fx.ic),(h21.trans Fx.ic),m8,b8⟩
   rw[Bool.not_eq_true]at c63
   refine aS (h19.trans (congrArg Value.bool c63))<|av aF<|av aF<|cO<|cO<|av aF<|aD<|aK<|Wk ?_
   exact nE ⟨GH,(I9.trans Fx.ic),(h16.trans Fx.ic),(GI.trans Fx.ic),h18,h19,(h20.trans Fx.ic),(h21.trans Fx.ic),m8,b8⟩
  rw[Bool.not_eq_true]at c61
  refine aS (h18.trans (congrArg Value.bool c61))<|av aF<|cO<|av aF<|av aF<|cO<|cO<|av aF<|aD<|aK<|Wk ?_
  exact nE ⟨GH,(I9.trans Fx.ic),(h16.trans Fx.ic),(GI.trans Fx.ic),h18,h19,(h20.trans Fx.ic),(h21.trans Fx.ic),m8,b8⟩
 rintro f4 zR ⟨s,y,C,E,h27,ZR,h29,Z7,m10,b10⟩
 refine Ws<|Ws ?_
 -- region 17 draws
 refine lU<|dY y ?_
 by_cases c74:0<(c:Int)
 ·refine Qv aG (fun v1 G=>vo c74)<|bE aG<|dY s<|dY y<|Qv (au ((c:Int)-1)) (fun v1 G=>jw)<|Qv ((pf g (c-1))) (fun v1 G=>dw 1)<|Qv (aC ((gA o) (c-1))) (fun v1 G=>aP (m10.cb G) (c-1))<|dY s<|dY Z7<|Qv ((pf g q)) (fun v1 G=>dw 1)<|Qv (aC ((gA o) q)) (fun v1 G=>aP (m10.cb G) q) ?_
  by_cases c85:(decide ((gA o) (c-1)<(gA o) q))=true
  ·refine nD (fun _ _=>cK ((gA o) (c-1)) ((gA o) q) _) aG (by rw[c85])<|bE aF<|bE aF<|Qn ?_
   intro XM tY
   have m11:=aR tY m10
   have b11:=gX tY b10 r
   refine sN<|aK<|Wk<|sN<|ay<|aS s<|aS y<|aS C<|aS Z7<|jy (XZ c i q B g n cap o _ m11 (Nat.le_trans r b11.size) hk2 x (by omega) (by omega) (by omega)) ?_
   rintro D Kn ⟨j,P,dn2,l,hu2,hv2,hz2,m12,Xb⟩
   have b12:=b11.trans Xb
   have hx:Sort.partition Sort.ltInt o c i q=(j,(Sort.partition Sort.ltInt o c i q).2.1,dn2):=Prod.ext hu2 (Prod.ext rfl hv2)
   obtain⟨r1,r2,r3,r4,r5,r6,r7⟩:=Sort.round_part Sort.swo_ltInt (Sort.partition_holds _) L.1 L.2 (by omega) (hBl.perm (by omega) F) hx
   clear hx
   refine⟨_,l,?_⟩
   clear l
   refine av (.tuple #[au ((j:Int)),.bool P])<|av (au j)<|av (.bool P)<|av (au j)<|av (.bool P)<|aD<|ay<|av (.bool P)<|av (.bool P)<|aD<|ay<|av (au j)<|aS y<|Lv (au ((j:Int)-(c:Int))) jw<|aS C<|av (au j)<|Lv (au ((i:Int)-(j:Int))) jw<|av (au ((j:Int)-(c:Int)))<|av (au ((i:Int)-(j:Int)))<|aD<|ay<|aS h29<|Lv (au ((i-c) / 8:Nat)) (Fx.xI rfl rfl rfl (by omega) (ji (by omega) (by rw[Int.tdiv_eq_ediv_of_nonneg (by omega)]; omega)))<|av (au ((i-c) / 8:Nat))<|aD<|ay<|av (au ((j:Int)-(c:Int)))<|av (au ((i:Int)-(j:Int))) ?_
   by_cases MS:((j:Int)-(c:Int))<((i:Int)-(j:Int))
   ·refine Lv aG (jU MS)<|aD<|aQ<|ay<|av (au ((j:Int)-(c:Int)))<|av (au ((i-c) / 8:Nat))<|Lv (.bool (decide (((i-c) / 8:Nat)<=((j:Int)-(c:Int))))) (Fx.zx rfl rfl rfl)<|av (.bool (decide (((i-c) / 8:Nat)<=((j:Int)-(c:Int)))))<|aD<|ay<|aS s<|aS y<|av (au j)<|aS E<|jy (ih _ _ _ c j p B g n cap dn2 _ m12 (Nat.le_trans r b12.size) hz2 x V (by omega) (by omega) (by omega) r4 (by omega) (by omega) (by omega) (by omega)) (ax := #[bJ g n cap,au ((c:Int)),au ((j:Int)),au ((p:Int))]) ?_
    rintro D La ⟨T,l,Z,W,X,m13,hb8⟩
    refine⟨_,l,?_⟩
    clear l
    have b13:=b12.trans hb8
    obtain⟨q1,z⟩:=r6 _ W X
    refine aD (Wl (av (au j) (Lv (au ((j:Int)+1)) fZ (av (au ((j:Int)+1)) (Ln (cB (iG ⟨i-(j+1),(by omega),j+1,i,p,T,(decide (((i-c) / 8:Nat)<=((j:Int)-(c:Int)))),(P),Z,q1,(fun R t u=>K R (Sort.permIn_trans _ _ _ _ _ F (z R t u).1) (z R t u).2),(by omega),rfl,s,Fx.ic,(C.trans Fx.ic),(E.trans Fx.ic),(by rfl),(by rfl),m13,b13⟩ (by decide))))))))
   refine Lv aF (jV MS)<|aD<|aK<|ay<|av (au ((i:Int)-(j:Int)))<|av (au ((i-c) / 8:Nat))<|Lv (.bool (decide (((i-c) / 8:Nat)<=((i:Int)-(j:Int))))) (Fx.zx rfl rfl rfl)<|av (.bool (decide (((i-c) / 8:Nat)<=((i:Int)-(j:Int)))))<|aD<|ay<|aS s<|av (au j)<|Lv (au ((j:Int)+1)) fZ<|aS C<|aS E<|jy (ih _ _ _ (j+1) i p B g n cap dn2 _ m12 (Nat.le_trans r b12.size) hz2 x V (by omega) (by omega) (by omega) r5 (by omega) (by omega) (by omega) (by omega)) (ax := #[bJ g n cap,au ((j:Int)+1),au ((i:Int)),au ((p:Int))]) ?_
   rintro D Sc ⟨T,l,Z,W,X,m14,hb9⟩
   refine⟨_,l,?_⟩
   clear l
   have b14:=b12.trans hb9
   obtain⟨q1,z⟩:=r7 _ W X
   refine aD (Wl (av (au j) (av (au j) (Ln (cB (iG ⟨j-c,(by omega),c,j,p,T,(decide (((i-c) / 8:Nat)<=((i:Int)-(j:Int)))),(P),Z,q1,(fun R t u=>K R (Sort.permIn_trans _ _ _ _ _ F (z R t u).1) (z R t u).2),(by omega),rfl,s,(y.trans Fx.ic),Fx.ic,(E.trans Fx.ic),(by rfl),(by rfl),m14,b14⟩ (by decide)))))))
  rw[Bool.not_eq_true]at c85
  refine nD (fun _ _=>cK ((gA o) (c-1)) ((gA o) q) _) aF (by rw[c85])<|bE aG<|bE aG<|Qn ?_
  intro XO tZ
  have m15:=aR tZ m10
  have b15:=gX tZ b10 r
  refine sN<|aQ<|ay<|aS s<|aS y<|aS C<|aS Z7<|jy (abh c i q B g n cap o _ m15 (Nat.le_trans r b15.size) hk2 x (by omega) (by omega) (by omega)) ?_
  rintro D Uo ⟨MU,dn3,l,hx1,hz3,m16,abI⟩
  have b16:=b15.trans abI
  obtain⟨r1,r2,r3,r4,r5⟩:=Sort.round_eq Sort.swo_ltInt (Sort.partitionEqual_holds _) (by omega) L.1 L.2 (by omega) (hBl.perm (by omega) F) (qw (of_decide_eq_false c85)) hx1
  refine⟨_,l,?_⟩
  clear l
  refine av (au MU) (aD (ay (av (au MU) (av (au MU) (aD (Wx (bY (bZ (iG ⟨i-MU,(by omega),MU,i,p,dn3,(O),(wp),hz3,r4,(fun R t u=>K R (Sort.permIn_trans _ _ _ _ _ F (r5 R t u).1) (r5 R t u).2),(by omega),rfl,s,Fx.ic,(C.trans Fx.ic),(E.trans Fx.ic),h27,ZR,m16,b16⟩ (by decide))))))))))
 refine Qv aF (fun v1 G=>vv c74)<|bE aF<|aW<|aW<|aW<|aW<|aW<|aW<|aW<|aW<|aW<|aW<|aW<|bE aF<|Qn ?_
 intro XP uf
 have m17:=aR uf m10
 have b17:=gX uf b10 r
 refine sN<|aK<|Wk<|sN<|ay<|aS s<|aS y<|aS C<|aS Z7<|jy (XZ c i q B g n cap o _ m17 (Nat.le_trans r b17.size) hk2 x (by omega) (by omega) (by omega)) ?_
 rintro D W9 ⟨k,Q,dn4,l,hu3,hv3,Sl,m18,abK⟩
 have b18:=b17.trans abK
 have hx:Sort.partition Sort.ltInt o c i q=(k,(Sort.partition Sort.ltInt o c i q).2.1,dn4):=Prod.ext hu3 (Prod.ext rfl hv3)
 obtain⟨r1,r2,r3,r4,r5,r6,r7⟩:=Sort.round_part Sort.swo_ltInt (Sort.partition_holds _) L.1 L.2 (by omega) (hBl.perm (by omega) F) hx
 clear hx
 refine⟨_,l,?_⟩
 clear l
 refine av (.tuple #[au ((k:Int)),.bool Q])<|av (au k)<|av (.bool Q)<|av (au k)<|av (.bool Q)<|aD<|ay<|av (.bool Q)<|av (.bool Q)<|aD<|ay<|av (au k)<|aS y<|Lv (au ((k:Int)-(c:Int))) jw<|aS C<|av (au k)<|Lv (au ((i:Int)-(k:Int))) jw<|av (au ((k:Int)-(c:Int)))<|av (au ((i:Int)-(k:Int)))<|aD<|ay<|aS h29<|Lv (au ((i-c) / 8:Nat)) (Fx.xI rfl rfl rfl (by omega) (ji (by omega) (by rw[Int.tdiv_eq_ediv_of_nonneg (by omega)]; omega)))<|av (au ((i-c) / 8:Nat))<|aD<|ay<|av (au ((k:Int)-(c:Int)))<|av (au ((i:Int)-(k:Int))) ?_
 by_cases MS:((k:Int)-(c:Int))<((i:Int)-(k:Int))
 ·refine Lv aG (jU MS)<|aD<|aQ<|ay<|av (au ((k:Int)-(c:Int)))<|av (au ((i-c) / 8:Nat))<|Lv (.bool (decide (((i-c) / 8:Nat)<=((k:Int)-(c:Int))))) (Fx.zx rfl rfl rfl)<|av (.bool (decide (((i-c) / 8:Nat)<=((k:Int)-(c:Int)))))<|aD<|ay<|aS s<|aS y<|av (au k)<|aS E<|jy (ih _ _ _ c k p B g n cap dn4 _ m18 (Nat.le_trans r b18.size) Sl x V (by omega) (by omega) (by omega) r4 (by omega) (by omega) (by omega) (by omega)) (ax := #[bJ g n cap,au ((c:Int)),au ((k:Int)),au ((p:Int))]) ?_
  rintro D w16 ⟨T,l,Z,W,X,m19,abL⟩
  refine⟨_,l,?_⟩
  clear l
  have b19:=b18.trans abL
  obtain⟨q1,z⟩:=r6 _ W X
  refine aD (Wl (av (au k) (Lv (au ((k:Int)+1)) fZ (av (au ((k:Int)+1)) (Ln (cB (iG ⟨i-(k+1),(by omega),k+1,i,p,T,(decide (((i-c) / 8:Nat)<=((k:Int)-(c:Int)))),(Q),Z,q1,(fun R t u=>K R (Sort.permIn_trans _ _ _ _ _ F (z R t u).1) (z R t u).2),(by omega),rfl,s,Fx.ic,(C.trans Fx.ic),(E.trans Fx.ic),(by rfl),(by rfl),m19,b19⟩ (by decide))))))))
 refine Lv aF (jV MS)<|aD<|aK<|ay<|av (au ((i:Int)-(k:Int)))<|av (au ((i-c) / 8:Nat))<|Lv (.bool (decide (((i-c) / 8:Nat)<=((i:Int)-(k:Int))))) (Fx.zx rfl rfl rfl)<|av (.bool (decide (((i-c) / 8:Nat)<=((i:Int)-(k:Int)))))<|aD<|ay<|aS s<|av (au k)<|Lv (au ((k:Int)+1)) fZ<|aS C<|aS E<|jy (ih _ _ _ (k+1) i p B g n cap dn4 _ m18 (Nat.le_trans r b18.size) Sl x V (by omega) (by omega) (by omega) r5 (by omega) (by omega) (by omega) (by omega)) (ax := #[bJ g n cap,au ((k:Int)+1),au ((i:Int)),au ((p:Int))]) ?_
 rintro D X8 ⟨T,l,Z,W,X,m20,abM⟩
 refine⟨_,l,?_⟩
 clear l
 have b20:=b18.trans abM
 obtain⟨q1,z⟩:=r7 _ W X
 refine aD (Wl (av (au k) (av (au k) (Ln (cB (iG ⟨k-c,(by omega),c,k,p,T,(decide (((i-c) / 8:Nat)<=((i:Int)-(k:Int)))),(Q),Z,q1,(fun R t u=>K R (Sort.permIn_trans _ _ _ _ _ F (z R t u).1) (z R t u).2),(by omega),rfl,s,(y.trans Fx.ic),Fx.ic,(E.trans Fx.ic),(by rfl),(by rfl),m20,b20⟩ (by decide)))))))
end
section
open Rt
set_option maxRecDepth 10000
theorem Sm : ∀ m,Sk m
 | 0=>by
   intro v x y a b u B g n c d w h k s t j q o p l e f i r
   omega
 | m+1=>by
   intro v x y a b u B g n c d w h k s t j q o p l e f i r
   subst e f i
   exact Ut m (Sm m) a b u B g n c d w h k s t j q o p l r
theorem PW(B g n cap:Nat)(d:Array Int)(w:World)(h:Fx.Own w B 29 1 (bJ g n cap) n (rv .u64 (gA d)))(j:B<=w.heap.size)(o:d.size=n)(p:n<=1000)(i:n<50) :
 Calls Tryd.prog 44 #[bJ g n cap] w fun e w' => ∃ a:Array Int,e = .returned (.tuple #[])/\a.size=n/\Sort.PermIn 0 n d a/\Sort.SortedIn Sort.ltInt 0 n a/\Fx.Own w' B 29 1 (bJ g n cap) n (rv .u64 (gA a))/\Below B w w':=by
 have t:=I8 (show n<64 by omega)
 refine Kent Tryd.func44 11 ?_
 refine ay<|av (bJ g n cap)<|av (au n)<|av (au n)<|aD<|Wl<|av (bJ g n cap)<|av (au n)<|av (au n)<|Lv (aC n) (dS rfl rfl (by kernel_rfl) Tryd.underlying96 (jk (by omega) rfl))<|mH (Mj n _ (by omega)) _ rfl<|jy (Sm (n+1) _ _ _ 0 n (Sort.bitsLen n) B g n cap d _ h (Nat.le_trans j (Below.refl B w).size) o p i (by omega) (by omega) (by omega) (.inl rfl) rfl rfl rfl (by omega)) (ax := #[bJ g n cap,au 0,au ((n:Int)),au ((Sort.bitsLen n:Int))]) ?_
 rintro s u ⟨f,b,q,k,l,r,m⟩
 refine⟨_,b,?_⟩
 clear b
 have c:=(Below.refl B w).trans m
 refine Ln (⟨.tuple #[],fM Tryd.results44,?_⟩)
 exact⟨f,rfl,q,k,l,r,c⟩
theorem Uu(w:World) :
 Calls Tryd.prog 72 #[.slice none 0 0,au 0,au 0] w fun e w'=>e = .returned (.tuple #[])/\Below w.heap.size w w':=by
 refine Kent Tryd.func72 49 ?_
 refine ay<|av (au 0)<|Lv (au 1) fZ<|av (au 1)<|aD<|Wb<|Wo (fun f d=>f 1=au 0/\f 2=au 0/\f 6=au 1/\Below w.heap.size w d) (fun f _=>0) ⟨Fx.ic,Fx.ic,Fx.ic,(Below.refl w.heap.size w)⟩ ?_
 rintro g i ⟨h,b,c,a⟩
 refine Ws (ay (aS c (aS b (Lv aF Er (aD (aK (Wx (bY (iB (bZ (⟨.tuple #[],fM Tryd.results72,?_⟩)))))))))))
 exact⟨rfl,a⟩
theorem Uv(w:World) :
 Calls Tryd.prog 61 #[.slice none 0 0,au 0,au 0,au 0] w fun e w'=>e = .returned (.tuple #[])/\Below w.heap.size w w':=by
 refine Kent Tryd.func61 134 ?_
 refine ay<|av aG<|aD<|ay<|av aG<|aD<|Wb<|Wo (fun f i=>f 0 = .slice none 0 0/\f 1=au 0/\f 2=au 0/\Below w.heap.size w i) (fun f _=>0) ⟨(by rfl),Fx.ic,Fx.ic,(Below.refl w.heap.size w)⟩ ?_
 rintro j k ⟨g,a,b,c⟩
 refine Wb<|ay<|aS b<|aS a<|Lv (au 0) jw<|av (au 0)<|aD<|Ws<|ay<|av (au 0)<|Lv aG Xu<|aD<|aQ<|ay<|aS g<|aS a<|aS b<|fB (Uu _) _ rfl ?_
 intro l h
 have d:=aR h c
 refine aD (Wr (sR (bW (qP (bW (⟨.tuple #[],fM Tryd.results61,?_⟩))))))
 exact⟨rfl,d⟩
theorem Uw(w:World):Calls Tryd.prog 34 #[aC 0] w fun e w'=>e = .returned (au 0)/\w'=w:=Mj 0 w (by omega)
theorem PX(w:World) :
 Calls Tryd.prog 44 #[.slice none 0 0] w fun e w'=>e = .returned (.tuple #[])/\Below w.heap.size w w':=by
 refine Kent Tryd.func44 11 ?_
 refine ay<|av (.slice none 0 0)<|av (au 0)<|av (au 0)<|aD<|Wl<|av (.slice none 0 0)<|av (au 0)<|av (au 0)<|Lv (aC 0) (dS rfl rfl (by kernel_rfl) Tryd.underlying96 (jk (by omega) rfl))<|mH (Uw _) _ rfl<|fB (Uv _) _ rfl ?_
 intro c b
 have a:=aR b (Below.refl w.heap.size w)
 refine Ln (⟨.tuple #[],fM Tryd.results44,?_⟩)
 exact⟨rfl,a⟩
theorem Ux{w:World}{B n cap:Nat}{a:Option Addr}{d:Array Int}(h:Fx.Own w B 29 1 (.slice a n cap) n (rv .u64 (gA d)))(f:B<=w.heap.size)(k:d.size=n)(p:n<50) :
 Calls Tryd.prog 44 #[.slice a n cap] w fun e w' => ∃ b:Array Int,e = .returned (.tuple #[])/\b.size=n/\Sort.PermIn 0 n d b/\Sort.SortedIn Sort.ltInt 0 n b/\Fx.Own w' B 29 1 (.slice a n cap) n (rv .u64 (gA b))/\Below B w w':=by
 rcases h.2 with ⟨c,l⟩|⟨g,c2,cur,c,_⟩
 ·subst l
  cases c
  exact(PX w).mono fun e w' ⟨m,o⟩=>⟨d,m,k,Sort.permIn_refl _ _ _,fun i j _ q r=>by omega,yA _ _ _ _ _,o.mono f⟩
 simp only[Value.slice.injEq]at c
 obtain⟨rfl,_,rfl⟩:=c
 exact PW B g n cap d w h f k (by omega) p
end
end Go.Proofs.YtcbedgfikejkoaaDoor
namespace Go.Proofs.YtcbedgfikejkoaaDoor
open Go.RowKit Go
set_option linter.unusedVariables false
namespace Rt
def dT(x:Nat->Int)(τ:Nat->Nat)(m:Nat):Array Int:=((List.range m).map fun q=>x (τ q)).toArray
section
variable {n m kk:Nat} {x:Nat->Int} {Q:Int->Prop} {S:Nat->Bool} {τ:Nat->Nat}
theorem Jd:(dT x τ m).size=m:=by unfold dT; simp
theorem Uy{q:Nat}(a:q<m):gA (dT x τ m) q=x (τ q):=by
 unfold gA dT
 rw[getElem!_pos _ q (by simpa using a)]; simp
theorem Yd : ∀ j,j<m*1->Value.int .u64 (x (τ j))=Fx.rv .u64 (gA (dT x τ m)) j:=fun j a=>by
 show _=Value.int .u64 (gA (dT x τ m) j)
 rw[Uy (by omega)]
theorem Uz{d:Array Int} : ∀ j,j<d.size*1->Fx.rv .u64 (gA d) j=qJ d.toList j:=fun j a=>by
 show Value.int .u64 d[j]! = Value.int .u64 (d.toList.getD j 0)
 rw[getElem!_pos d j (by omega),List.getD_eq_getElem?_getD,List.getElem?_eq_getElem (by simpa using (show j<d.size by omega))]
 simp
theorem Ko{c:Array Int}(h:L9 n (fun i=>Q (x i)) S m τ kk)(w : ∀ i,i<n->S i=true)(z : ∀ a b,a<n->b<n->x a=x b->a=b)
 (A:Sort.PermIn 0 m (dT x τ m) c) (B:Sort.SortedIn Sort.ltInt 0 m c) (C:c.size=m):c.toList.Pairwise (· < ·) /\ ∀ k,k∈c.toList<->(dD x n k=true/\Q k):=by
 have t:c.toList.Perm ((List.range m).map fun q=>x (τ q)):=by
  have r:=A.2.2
  have u:c.extract 0 m=c:=by rw[<- C]; simp
  have v : ∀ d:Array Int,d.size=m->d.extract 0 m=d:=fun d y=>by rw[<- y]; simp
  rw[u,v _ Jd]at r
  exact r
 have s:c.toList.Nodup:=by
  refine(t.nodup_iff).2 ?_
  rw[List.Nodup,List.pairwise_iff_getElem]
  intro i j hi f p
  simp only[List.getElem_map,List.getElem_range]
  simp only[List.length_map,List.length_range]at hi f
  exact fun e=>absurd (h.inj i j hi f (z _ _ (h.lt i hi) (h.lt j f) e)) (by omega)
 refine⟨?_,fun k => ?_⟩
 ·rw[List.pairwise_iff_getElem]
  intro i j hi f p
  simp only[Array.length_toList]at hi f
  have l:=of_decide_eq_false (B i j (Nat.zero_le _) p (by omega))
  rw[getElem!_pos c i hi,getElem!_pos c j f]at l
  rw[List.Nodup,List.pairwise_iff_getElem]at s
  have o:=s i j (by simpa using hi) (by simpa using f) p
  simp only[Array.getElem_toList]at o ⊢
  omega
 rw[t.mem_iff]
 simp only[List.mem_map,List.mem_range]
 constructor
 ·rintro ⟨q,g,rfl⟩
  exact⟨gZ (h.lt q g) rfl,h.yes q g⟩
 rintro ⟨l,o⟩
 obtain⟨i,hi,rfl⟩:=eT l
 obtain⟨q,g,rfl⟩:=h.mem i hi (w i hi) o
 exact⟨q,g,rfl⟩
theorem PY{z:Nat->Value}{i:Nat} : ∀ j,j<(m+1)*1->Fx.iT (fun q=>aC (x (τ q))) (m*1) (Fx.bC z (0*1) 1 (fun _=>aC (x i))) j=aC (x (Fx.aI τ m i j)):=fun j a=>by
 unfold Fx.iT Fx.bC Fx.aI
 by_cases e:j=m
 ·subst e; rw[if_neg (by omega),if_pos (by omega),if_pos rfl]
 ·rw[if_pos (by omega),if_neg e]
end
end Rt
open Rt
theorem UA{w:World}{B m cap:Nat}{a:Option Addr}{x:Nat->Int}{τ:Nat->Nat}(h:Fx.Own w B 29 1 (.slice a m cap) m (fun q=>aC (x (τ q))))(n:B<=w.heap.size)(p:m<=32) :
 Calls Tryd.prog 44 #[.slice a m cap] w fun e w'=>e = .returned (.tuple #[]) /\ ∃ b:Array Int,b.size=m/\Sort.PermIn 0 m (dT x τ m) b/\Sort.SortedIn Sort.ltInt 0 m b/\Fx.Own w' B 29 1 (.slice a m cap) m (qJ b.toList)/\Below B w w' :=
 (Ux (d:=dT x τ m) (h.congr Yd) n Jd (by omega)).mono fun e w' ⟨b,c,f,g,i,k,l⟩=>⟨c,b,f,g,i,k.congr fun j o=>Uz j (by omega),l⟩
end Go.Proofs.YtcbedgfikejkoaaDoor
namespace Go.Proofs.YtcbedgfikejkoaaDoor.Fx
open Go.RowKit
section
variable {P:Program} {n0:Nat} {Q:Post} {f:Nat->Value} {w:World} {ops:Array Oper} {rest:List Oper} {o:Oper}
theorem L.lo{T E:TypeId}{x lo:Operand}{a:Option Addr}{B n c s m:Nat}{k:IntKind}{j:Nat}{y:Nat->Value}(u:Region.wanted o (yf ops f)=true)(e:inn n0 o.dst=true)(q:o.op = .slice T x (some lo) none none)(hx:ev f x = .slice a n c)(l:ev f lo = .int k (j:Int))(t:P.underlying T=some (.slice E))(r:(P.info? E).map (·.size)=some s)(H:n=j+m)(C:Own w B E s (.slice a n c) n y)
 (d : ∀ v,jv w v m s (fun p=>y (j*s+p))->L P n0 ops Q rest (put f o.dst (.slice v m (c-j))) w):L P n0 ops Q (o::rest) f w:=by
 by_cases D:n=0
 ·obtain rfl:j=0:=by omega
  obtain rfl:m=0:=by omega
  subst D
  rcases C.2 with ⟨b,_⟩|⟨g,cap,cur,b,_,_,hn,_⟩
  ·simp only[Value.slice.injEq]at b
   obtain⟨rfl,_,rfl⟩:=b
   obtain⟨i,G,_⟩:=Option.map_eq_some_iff.1 r
   refine Lv _ (?_:Runs P f o w (.slice none 0 0)) (d none fun h=>absurd h (Nat.lt_irrefl 0)) u e
   unfold Runs execOp
   simp only[q,hx,l,Option.map_some,Option.map_none]
   simp[Instr.sliceAt,Instr.slice,underlying,t,Instr.sliceBounds,Instr.sliceBound,asIntOf,sizeOf,typeInfo,G]
  simp only[Value.slice.injEq]at b
  obtain⟨rfl,_,rfl⟩:=b
  exact Lv _ (uy (A:=if c=0 then some ⟨g,0,none⟩else some ⟨g,0+0*s,none⟩) (n':=0) (c':=c-0) q hx l t r (Nat.le_refl _) rfl rfl rfl) (d _ fun h=>absurd h (Nat.lt_irrefl 0)) u e
 obtain⟨g,J,z,K,M,O,F⟩:=C.form (by omega)
 simp only[Value.slice.injEq]at z
 obtain⟨rfl,_,rfl⟩:=z
 refine Lv _ (uy (A:=if c=j then some ⟨g,0,none⟩else some ⟨g,0+j*s,none⟩) (n':=m) (c':=c-j) q hx l t r (by omega) rfl (by omega) rfl) (d _ fun N => ?_) u e
 rw[if_neg (by omega)]
 refine⟨g,_,rfl,fun p R => ?_⟩
 have I:j*s+p<n*s:=by
  have:n*s=j*s+m*s:=by rw[H,Nat.add_mul]
  omega
 have:=F (j*s+p) I
 rw[Nat.zero_add]at this
 rw[Nat.zero_add]; exact this
theorem Own.Ye{B n c s j:Nat}{E:TypeId}{a:Option Addr}{y:Nat->Value}(h:Own w B E s (.slice a n c) n y)(e:j<=n):jv w a j s y:=fun k=>by
 obtain⟨g,i,b,l,m,o,d⟩:=h.form (by omega)
 simp only[Value.slice.injEq]at b
 refine⟨g,0,b.1,fun p f=>d p ?_⟩
 exact Nat.lt_of_lt_of_le f (Nat.mul_le_mul_right s e)
theorem Own.weak{B a n s:Nat}{E:TypeId}{v:Value}{y:Nat->Value}(h:Own w B E s v n y)(b:a<=B):Own w a E s v n y:=by
 refine⟨h.1,?_⟩
 rcases h.2 with hn|⟨g,cap,cur,hv,hb,rest⟩
 ·exact .inl hn
 exact .inr ⟨g,cap,cur,hv,Nat.le_trans b hb,rest⟩
end
end Go.Proofs.YtcbedgfikejkoaaDoor.Fx
namespace Go.Proofs.YtcbedgfikejkoaaDoor
open Go.RowKit Rt
open Fx (eU dJ fu bf fq eZ dS dM fA gQ dH gT eP gD gU Lv sN Ln Ws Qv Wl Rp Wc Qs Wr Sb Lk Wk rC rV sR Rs Rn Rd Rk Wb Wx Wo yT Wt pE Qn AX uo xL yB xJ AZ AY gG yR jM nT tC A8 yA yP xQ yQ rv aA aL bC aI ev bT Stp bU aM flat fH Mp dL aV fC gI aX down fM iU ji jv bG bA cells_one jO aY nE unseen jk iT cu bW cB bY bZ iB iG qP gV)
section
open Rt
set_option maxRecDepth 10000
theorem MV(x p:Nat->Int)(n g o:Nat)(w:World)(W:aL w g 1 (fun _ => .map (some o)) 82)(U:Mp w o n x (fun j=>aC (p j)))(h:wO n x p) :
 Calls Tryd.prog 31 #[(pt g),.func (.func 32) #[] #[]] w fun e w' => ∃ a c l,e = .returned (.slice a (List.length l) c)/\Fx.Own w' w.heap.size 29 1 (.slice a l.length c) l.length (qJ l)/\l.Pairwise (· < ·)/\(∀ k,k∈l<->(dD x n k=true/\True))/\l.length<=32/\Below w.heap.size w w':=by
 have hsm:=h.small
 refine Kent Tryd.func31 27 ?_
 refine ay<|av (.slice none 0 0)<|aD<|Ws<|ay<|av ((pt g))<|Lv aF (Fx.jF rfl rfl rfl (by kernel_rfl))<|aD<|aK<|Wk<|sN<|Ws<|ay<|av ((pt g))<|av ((pt g))<|av ((pt g))<|Lv (.map (some o)) (aP W.aJ 0)<|Fx.L.range (by rfl) rfl rfl rfl U Tryd.underlying53 fun R w1 nk m1 s1 z1 => ?_
 have⟨m2,m3,b1⟩:=jI s1.old W U (Below.refl w.heap.size w)
 have wF:=gY nk
 have wQ:=m1.lt
 refine aD<|Wb ?_
 have m4:Fx.Own w1 w.heap.size 29 1 (.slice none 0 0) 0 (fun q=>aC (x ((fun _=>0:Nat->Nat) q))):=yA _ _ _ _ _
 refine yT (fun kk f r => ∃ m:Nat,∃ τ:Nat->Nat,∃ S:Nat->Bool,∃ a:Option Addr,∃ d:Nat,L9 n (fun i=>(fun k=>True) (x i)) S m τ kk/\f 0=(pt g)/\f 1 = .func (.func 32) #[] #[]/\f 4 = .slice a (m) (d)/\f 12=(pt R)/\aL r g 1 (fun _ => .map (some o)) 82/\Mp r o n x (fun j=>aC (p j))/\Fx.It r R o n S/\Fx.Own r w.heap.size 29 1 (.slice a (m) (d)) m (fun q=>aC (x (τ q)))/\Below w.heap.size w r) (unseen (fun _=>false) n) ⟨0,(fun _=>0),(fun _=>false),none,0,(L9.start n _ _),(by rfl),(by rfl),(by rfl),(by rfl),m2,m3,m1,m4,b1⟩ ?_
 rintro kk P w2 ⟨m,τ,S,a,d,u,T,E,F,G,m5,m6,M,m8,t⟩
 have hml:=u.le
 refine ay<|Fx.L.next (by rfl) rfl rfl G m6 M (fun EN => ?_)<|fun b w3 I V m9 Xc s2 z2 => ?_
 ·skip
  refine av aF<|aD<|Ws<|aK<|Wx<|bY<|iB<|bZ<|sN<|ay<|aS F<|fB (UA m8 t.size (by omega)) _ rfl ?_
  rintro w4 ⟨O,aa,hp2,hs2,m10,hb1⟩
  have b3:=t.trans hb1
  refine aD<|ay<|aS F<|av (.slice a (m) (d))<|aD<|Wr<|aN (.slice a (m) (d)) ?_
  obtain⟨P,f2⟩:=Ko (Q:=fun k=>True) u EN h.inj hp2 hs2 aa
  have Z:m<=32:=by omega
  rw[show m=O.toList.length by rw[Array.length_toList]; exact aa.symm]at m10 Z ⊢
  exact⟨a,d,O.toList,rfl,m10,P,f2,Z,b3⟩
 skip
 have H:=M.xP s2
 have m11:=m5.dh H
 have J:=m6.dh H (M.rb.symm)
 have m13:=m8.dh H
 have N:=s2.below t t.size (by omega)
 refine av aG<|aD<|Ws<|aQ<|Wk<|sN<|Wb<|ay<|Lv (.tuple #[aC (x b),aC (p b)]) (Fx.IZ (key:=x) (val:=fun j=>aC (p j)) (i:=b) rfl G J Xc I)<|av (aC (x b))<|av (aC (x b))<|aD<|ay<|aS E<|av (aC (x b))<|uo (by rfl) (Fx.vg (args := [aC (x b)]) rfl rfl rfl (all := #[aC (x b)]) rfl Tryd.func32 rfl rfl) rfl<|(XI _ _).mono ?_
 rintro e v1 ⟨X,hv1⟩
 subst v1
 refine⟨.bool true,by rw[X],?_⟩
 clear X
 refine aD<|aQ<|Wl<|aS F<|av (aC (x b))<|xL (vs := [(0,aC (x b))]) (s:=1) (zc:=rv .u64 (fun _=>0)) (y:=bC (fun j=>(rv .u64 (fun _=>0)) (j % 1)) (0*1) 1 (fun _=>aC (x b))) (by rfl) rfl rfl Tryd.underlying61 (by kernel_rfl) (by rfl) (by rfl) (by kernel_rfl) (by rw[aX (off:=0*1) (s:=1) (y:=fun _=>aC (x b)) rfl (cells_one (by rfl)) (by rfl)]; rfl) rfl fun g2 w5 C m14 s3 z3 => ?_
 have⟨m15,m16,K,m19,z⟩:=lV s3.old m11 J m13 m9 N
 have yH:=gM C N.size
 have⟨uF,MW⟩:=ow C m11.lt J.lt
 have MX:(.slice a (m) (d):Value).ownBlock≠some g2:=by rw[C]; exact m13.uw (Nat.le_refl _)
 have Ba:=m14.lt
 refine yB (B:=w.heap.size) (s:=1) (bytes:=8) (k:=m) (m:=1) (v := .slice a (m) (d)) (x:=fun q=>aC (x (τ q))) (by rfl) rfl rfl rfl Tryd.underlying61 (by kernel_rfl) (by kernel_rfl) rfl rfl K m14.aJ (fun j hj=>by unfold bC; split <;> rfl) (by omega) (by omega) (by omega) z.size fun D A w6 ho1 Y L8 hlt1 => ?_
 have iq:=yR Y K
 have⟨m21,m22,m24⟩:=zI iq m15 m16 m19
 have m20:Fx.Own w6 w.heap.size 29 1 (bJ D (m+1) A) (m+1) (fun q=>aC (x (aI τ m b q))):=(ho1.congr PY)
 have b6:Below w.heap.size w w6:=yP z Y z.size (fun q hq=>(K.ge hq).1)
 refine av (bJ D (m+1) A)<|Ln<|cB ?_
 skip
 refine iG ⟨unseen (aI S b true) n,(by have T:=Fx.kK V n I; have E:=u.kk; omega),m+1,aI τ m b,aI S b true,(some ⟨D,0,none⟩),A,(u.take I V trivial),T,E,(by rfl),G,m21,m22,m24,m20,b6⟩ (by decide)
theorem UC(x p:Nat->Int)(n b i:Nat)(w:World)(r:aL w b 1 (fun _ => .map (some i)) 82)(q:Mp w i n x (fun j=>aC (p j)))(h:wO n x p) :
 Calls Tryd.prog 16 #[(pt b)] w fun e w' => ∃ a c l,e = .returned (.slice a (List.length l) c)/\Fx.Own w' w.heap.size 29 1 (.slice a l.length c) l.length (qJ l)/\l.Pairwise (· < ·)/\(∀ k,k∈l<->(dD x n k=true/\True))/\l.length<=32/\Below w.heap.size w w':=by
 refine Kent Tryd.func16 5 ?_
 refine ay<|av (.slice none 0 0)<|aD<|ay<|av ((pt b))<|jy (MV x p n b i _ r q h) ?_
 rintro z A ⟨d,f,g,o,y,t,u,v,s⟩
 refine⟨_,o,?_⟩
 clear o
 have m:=aR s (Below.refl w.heap.size w)
 refine av (.slice d (g.length) (f))<|aD<|Wr<|aN (.slice d (g.length) (f)) ?_
 exact⟨d,f,g,rfl,y.weak (by have:=m.size; first|exact Nat.le_refl _|exact(Below.refl w.heap.size w).size),t,u,v,m⟩
-- (*tree.Tree).Below is not in this seat
end
end Go.Proofs.YtcbedgfikejkoaaDoor
