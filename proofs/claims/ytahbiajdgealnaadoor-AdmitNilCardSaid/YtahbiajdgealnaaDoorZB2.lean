/-
  What the proof of the law rests on, part 2: walks of functions, and plain laws; each says its conditions itself.
-/
import Derived.WideKeyRuns
import Derived.DeepKeys3
import Derived.Test.YtahbiajdgealnaaDoorRows
import Derived.RangeFuncNested
import Derived.RangeFuncBound
import Derived.RangeFuncCalls
import Derived.RangeFuncLeaves
import Derived.RangeFuncFrom
import Derived.Sort.LotA
import Derived.Sort.LotB
import Derived.Sort.LotC
import Derived.Sort.LotD3
import Derived.Sort.LotD1
import Derived.Test.YtahbiajdgealnaaDoorZB1
set_option maxHeartbeats 1600000
set_option linter.unusedVariables false
set_option linter.unusedSimpArgs false
namespace Go.Proofs.YtahbiajdgealnaaDoor.Fx
open Go.RowKit Go.MapKept
def kS(a b:Int):Value := .agg #[.int .i64 a,.int .u64 b]
structure vk(a b:Int):Prop where
 a : -9223372036854775808<=a/\a<=9223372036854775807
 b:0<=b/\b<=18446744073709551615
theorem D6{a b c d:Int}(h:kS a b=kS c d):a=c/\b=d:=by
 unfold kS at h
 simp only[Value.agg.injEq]at h
 have h:=congrArg Array.toList h
 simp at h; exact h
theorem qA{y:Nat->Value}{a b:Int}(c:y 0 = .int .i64 a)(h1:y 1 = .int .u64 b):Value.agg (aC 2 y)=kS a b:=by
 unfold kS
 congr 1
 apply Array.ext'
 rw[yL]
 show [y 0,y 1]=_
 rw[c,h1]
structure nA(P:Program)(K:TypeId):Prop where
 kt:P.keyTypeAt 12 K=true
 fl:flatK P 12 K=some [some .i64,some .u64]
 ag:yu P K=true
section
variable {P:Program} {K:TypeId} {a b c d:Int} {w:World}
theorem nA.wide(h:nA P K):(match P.underlying K with|some (.array _ _)|some (.struct _)=>true|_=>false)=true:=by
 have h:=h.ag
 unfold yu at h
 cases hu:P.underlying K with
 | none=>rw[hu]at h; cases h
 | some d=>rw[hu]at h; cases d <;> first|rfl|(cases h)
theorem vk.fit(h:vk a b):Fit [some .i64,some .u64] (#[Value.int .i64 a,.int .u64 b]:Array Value).toList [.int .i64 a,.int .u64 b]:=by
 refine⟨?_,?_,trivial⟩
 ·simp[kY,Mc h.a]
 simp[kY,mG h.b]
theorem nA.eq(e:nA P K)(h1:vk a b)(f:vk c d)(w:World) : ∃ r:Bool,(Op.equal K (kS a b) (kS c d)).run P w = .ok r w/\(r=true<->kS a b=kS c d):=by
 refine⟨decide (a=c/\b=d),?_,?_⟩
 ·have:=jC w 12 9988 K _ #[.int .i64 a,.int .u64 b] #[.int .i64 c,.int .u64 d] _ _ e.kt e.fl e.wide h1.fit f.fit (decide (a=c/\b=d)) (by simp)
  exact this
 rw[decide_eq_true_iff]
 constructor
 ·rintro ⟨rfl,rfl⟩; rfl
 exact D6
theorem nA.formed(g:nA P K)(h1:vk a b):(kS a b).formed P K=true:=by
 have d:=g.wide
 have c:=g.fl
 unfold Value.formed kS
 cases hu:P.underlying K with
 | none=>rw[hu]at d; cases d
 | some td =>
   have h:P.cellsOf K=2:=by
    unfold flatK at c
    rw[hu]at c d
    cases td with
    | array n e =>
      simp only at c
      cases h2:flatK P 11 e with
      | none=>rw[h2]at c; cases c
      | some l =>
        rw[h2]at c
        simp only at c
        split at c
        ·rename_i h3
         simp only[Option.some.injEq]at c
         have f:=congrArg List.length c
         rw[kH]at f
         exact h3.2.symm.trans f
        ·cases c
    | struct fs =>
      simp only at c
      cases h2:ng P.cellsOf (flatK P 11) fs.toList 0 with
      | none=>rw[h2]at c; cases c
      | some l =>
        rw[h2]at c
        simp only at c
        split at c
        ·rename_i h3
         simp only[Option.some.injEq]at c
         rw[<- h3,c]; rfl
        ·cases c
    | _=>cases d
   rw[hu]at d
   cases td <;> first|(cases d; done)|simp[h]
theorem nA.check(c:nA P K)(h1:vk a b)(d:Bool)(w:World):(Instr.checkKey d 10000 K (kS a b)).run P w = .ok () w:=by
 have h:=run_checkKey_deep d 9988 12 K c.kt
 exact h w 12 (kS a b) _ (c.formed h1) (jM 12 K _ _ _ c.fl (by simpa [Value.cells,kS] using h1.fit))
theorem BN(a b:Int):Instr.sameBits 10000 (kS a b) (kS a b)=true:=by
 unfold kS
 show Instr.sameBits (9999+1) _ _=true
 simp[Instr.sameBits]
end
def fC(w:World)(b n:Nat)(k1 k2:Nat->Int)(val:Nat->Value):Prop :=
 ∃ a c,w.heap[b]? = some (.map a c)/\Stamped a c/\a.size=n /\ ∀ i,i<n -> ∃ e,a[i]? = some e/\e.key=kS (k1 i) (k2 i)/\e.val=val i/\vk (k1 i) (k2 i)
section
variable {w w':World} {b n:Nat} {k1 k2:Nat->Int} {val:Nat->Value}
theorem fC.lt(h:fC w b n k1 k2 val):b<w.heap.size:=by
 obtain⟨a,c,h,_⟩:=h
 exact(Array.getElem?_eq_some_iff.1 h).1
theorem fC.keep(h:fC w b n k1 k2 val)(e:w'.heap[b]? = w.heap[b]?):fC w' b n k1 k2 val:=by
 obtain⟨a,c,d,f⟩:=h
 exact⟨a,c,e.trans d,f⟩
theorem fC.dX{g:Nat}(h:fC w b n k1 k2 val)(a:Stp g w w')(c:b≠g):fC w' b n k1 k2 val:=h.keep (a.block b h.lt c)
theorem fC.up(h:fC w b n k1 k2 val)(a:Below w.heap.size w w'):fC w' b n k1 k2 val:=h.keep (a.block b h.lt)
instance:Rt.Tr w w' (fC w b n k1 k2 val) (fC w' b n k1 k2 val):=⟨fun b h=>h.up b⟩
theorem fC.kJ{T:TypeId}(h:fC w b n k1 k2 val)(a:Ty w b T):False:=by
 obtain⟨e,c,h,_⟩:=h
 obtain⟨d,a⟩:=a
 rw[h]at a; cases a
theorem fC.jo{a:List TypeId}(h:fC w b n k1 k2 val)(c:jm a w w')(_:True):fC w' b n k1 k2 val:=h.keep (c.block b h.lt fun _ d=>(h.kJ d).elim)
instance {a:List TypeId}:Rt.Tc a w w' (fC w b n k1 k2 val) (fC w' b n k1 k2 val) true:=⟨fun b h _=>h.jo b trivial⟩
theorem fC.uG(h:fC w b n k1 k2 val)(a:Stp b w w'):GA b w w':=⟨a,fun _ c=>h.kJ c⟩
theorem fC.bV{r:Nat}(h:fC w b n k1 k2 val)(a:GA r w w')(c:b≠r):fC w' b n k1 k2 val:=h.dX a.s c
theorem fC.ok(h:fC w b n k1 k2 val){i:Nat}(hi:i<n):vk (k1 i) (k2 i):=by
 obtain⟨f,c,_,_,_,a⟩:=h
 obtain⟨e,_,_,_,d⟩:=a i hi; exact d
theorem fC.mI{l m:Nat->Int}{o:Nat->Value}(h:fC w b n k1 k2 val)(e : ∀ i,i<n->k1 i=l i/\k2 i=m i/\val i=o i):fC w b n l m o:=by
 obtain⟨q,c,r,s,t,u⟩:=h
 exact⟨q,c,r,s,t,fun i hi=>by
  obtain⟨x,a,d,f,g⟩:=u i hi
  obtain⟨j,k,p⟩:=e i hi
  exact⟨x,a,by rw[d,j,k],by rw[f,p],by rw[<- j,<- k]; exact g⟩⟩
theorem fC.inj(h:fC w b n k1 k2 val) : ∀ i j,i<n->j<n->k1 i=k1 j->k2 i=k2 j->i=j:=fun i j hi u g k=>by
 obtain⟨f,c,_,⟨_,_,v⟩,hn,hg⟩:=h
 obtain⟨x,d,r,_⟩:=hg i hi
 obtain⟨y,e,s,_⟩:=hg j u
 rw[Array.getElem?_eq_some_iff]at d e
 obtain⟨o,d⟩:=d
 obtain⟨p,e⟩:=e
 have z:=List.pairwise_iff_getElem.1 v
 have q : ∀ a c (l:a<f.size) (m:c<f.size),a<c->f[a].key≠f[c].key:=fun a c l m t=>by
  have:=z a c (by simpa using l) (by simpa using m) t
  simpa only[List.getElem_map,Array.getElem_toList] using this
 rcases Nat.lt_trichotomy i j with h1|h1|h1
 ·exact absurd (by rw[d,e,r,s,g,k]) (q i j o p h1)
 ·exact h1
 ·exact absurd (by rw[d,e,r,s,g,k]) (q j i p o h1)
end
theorem oH(k1 k2:Nat->Int)(n:Nat)(a b:Int):(∃ j,j<n/\k1 j=a/\k2 j=b) \/ ∀ i,i<n -> ¬ (k1 i=a/\k2 i=b):=by
 by_cases h : ∃ j,j<n/\k1 j=a/\k2 j=b
 ·exact .inl h
 exact .inr fun i hi e=>h ⟨i,hi,e⟩
section
variable {P:Program} {f:Nat->Value} {w:World} {o:Oper} {K:TypeId}
variable {b n:Nat} {k1 k2:Nat->Int} {val:Nat->Value}
theorem BO(k:nA P K){x y:Int}(l:vk x y)(w:World) : ∀(a:List MapEntry) (i:Nat),(∀ e∈a,∃ u v,e.key=kS u v/\vk u v) ->
 ((Instr.findAsking K (kS x y) a i).run P w = .ok none w /\ ∀ e∈a,e.key≠kS x y) \/ ∃ j e,(Instr.findAsking K (kS x y) a i).run P w = .ok (some (i+j,e.val)) w/\a[j]? = some e/\e.key=kS x y
 | [],i,_ => .inl ⟨by simp[Instr.findAsking],by simp⟩
 | e::a,i,hall=>by
   obtain⟨u,v,m,o⟩:=hall e (by simp)
   obtain⟨r,c,g⟩:=k.eq l o w
   rw[<- m]at c g
   cases r
   ·have n:e.key≠kS x y:=fun h=>by have:=g.2 h.symm; cases this
    rcases BO k l w a (i+1) (fun y b=>hall y (by simp[b]))with ⟨d,f⟩|⟨j,e',d,f,h3⟩
    ·left
     refine⟨by simp[Instr.findAsking,c,d],fun y b => ?_⟩
     rcases List.mem_cons.1 b with rfl|b
     ·exact n
     ·exact f y b
    ·right
     exact⟨j+1,e',by simp[Instr.findAsking,c,d,Nat.add_assoc,Nat.add_comm 1 j],by simpa using f,h3⟩
   ·right
    exact⟨0,e,by simp[Instr.findAsking,c],rfl,(g.1 rfl).symm⟩
theorem fC.find(h:fC w b n k1 k2 val)(p:nA P K){a:Array MapEntry}{c:Nat}(t:w.heap[b]? = some (.map a c)){x y:Int}(z:vk x y) :
 ((Instr.findKey K (kS x y) a.toList).run P w = .ok none w /\ ∀ i,i<n -> ¬ (k1 i=x/\k2 i=y)) \/ ∃ j,j<n/\k1 j=x/\k2 j=y/\(Instr.findKey K (kS x y) a.toList).run P w = .ok (some (j,val j)) w:=by
 obtain⟨F,E,l,G,o,m⟩:=h
 rw[t]at l
 simp only[Option.some.injEq,Obj.map.injEq]at l
 obtain⟨rfl,rfl⟩:=l
 have A : ∀ e∈a.toList,∃ u v,e.key=kS u v/\vk u v:=fun x B=>by
  obtain⟨i,hi,e⟩:=List.getElem_of_mem B
  obtain⟨y,g,k,_,C⟩:=m i (by simpa [<- o] using hi)
  have:y=x:=by
   have d:a.toList[i]? = some x:=by rw[List.getElem?_eq_getElem hi,e]
   rw[Array.getElem?_toList,g]at d
   exact Option.some.inj d
  subst this
  exact⟨_,_,k,C⟩
 rw[run_findKey_eq w p.wide]
 rcases BO p z w a.toList 0 A with ⟨d,f⟩|⟨j,e,d,f,h7⟩
 ·left
  refine⟨d,fun i hi e => ?_⟩
  obtain⟨y,g,k,_⟩:=m i hi
  exact f y (Array.mem_toList_iff.2 (Array.mem_of_getElem? g)) (by rw[k,e.1,e.2])
 right
 have q:j<n:=by
  rw[Array.getElem?_toList]at f
  rw[<- o]; exact(Array.getElem?_eq_some_iff.1 f).1
 obtain⟨y,g,k,D,_⟩:=m j q
 rw[Array.getElem?_toList,g]at f
 obtain rfl:=Option.some.inj f
 rw[k]at h7
 obtain⟨r,s⟩:=D6 h7
 exact⟨j,q,r,s,by rw[d,Nat.zero_add,D]⟩
theorem iY{T E:TypeId}{x y:Int}{ok:Bool}{z:Value}(m:vk x y)(h:fC w b n k1 k2 val)(o:P.underlying T=some (.map K E))(k:nA P K)(v:(zeroValue E).run P w = .ok z w) :
 ((∀ i,i<n -> ¬ (k1 i=x/\k2 i=y))->(Instr.lookup T (.map (some b)) (kS x y) ok).run P w = .ok (if ok then .tuple #[z,.bool false]else z) w) /\
 ∀ j,j<n->k1 j=x->k2 j=y->(Instr.lookup T (.map (some b)) (kS x y) ok).run P w = .ok (if ok then .tuple #[val j,.bool true]else val j) w:=by
 have t:=h
 obtain⟨q,c,f,_⟩:=t
 have l:=k.check m q.isEmpty w
 rcases h.find k f m with ⟨g,r⟩|⟨j,a,hkj,IQ,g⟩
 ·refine⟨fun _ => ?_,fun j a e d=>absurd ⟨e,d⟩ (r j a)⟩
  unfold Instr.lookup
  simp only[Sem.run_bind,run_underlying o,Result.andThen_ok,Go.MapKept.run_getObj_map f,Sem.run_pure,l,g,v]
 refine⟨fun u=>absurd ⟨hkj,IQ⟩ (u j a),fun p s e d => ?_⟩
 obtain rfl:p=j:=h.inj p j s a (e.trans hkj.symm) (d.trans IQ.symm)
 unfold Instr.lookup
 simp only[Sem.run_bind,run_underlying o,Result.andThen_ok,Go.MapKept.run_getObj_map f,Sem.run_pure,l,g]
variable {T E:TypeId} {x ix:Operand} {a r:Int} {z v:Value} {j:Nat}
theorem BP(g:o.op = .lookup T x ix false)(hx:ev f x = .map (some b))(hi:ev f ix=kS a r)(d:vk a r)(h:fC w b n k1 k2 val)(j:P.underlying T=some (.map K E))(c:nA P K)(k:(zeroValue E).run P w = .ok z w)(e : ∀ i,i<n -> ¬ (k1 i=a/\k2 i=r)):Runs P f o w z:=by
 unfold Runs execOp
 simp only[g,hx,hi,Sem.run_bind,((iY (ok:=false) d h j c k).1 e),Result.andThen_ok,Sem.run_pure]; rfl
theorem BQ(k:o.op = .lookup T x ix false)(hx:ev f x = .map (some b))(hi:ev f ix=kS a r)(i:vk a r)(h:fC w b n k1 k2 val)(l:P.underlying T=some (.map K E))(e:nA P K)(p:(zeroValue E).run P w = .ok z w)(g:j<n)(c:k1 j=a)(d:k2 j=r)(m:val j=v):Runs P f o w v:=by
 subst m
 unfold Runs execOp
 simp only[k,hx,hi,Sem.run_bind,((iY (ok:=false) i h l e p).2 j g c d),Result.andThen_ok,Sem.run_pure]; rfl
theorem GD(g:o.op = .lookup T x ix true)(hx:ev f x = .map (some b))(hi:ev f ix=kS a r)(d:vk a r)(h:fC w b n k1 k2 val)(j:P.underlying T=some (.map K E))(c:nA P K)(k:(zeroValue E).run P w = .ok z w)(e : ∀ i,i<n -> ¬ (k1 i=a/\k2 i=r)):Runs P f o w (.tuple #[z,.bool false]):=by
 unfold Runs execOp
 simp only[g,hx,hi,Sem.run_bind,((iY (ok:=true) d h j c k).1 e),Result.andThen_ok,Sem.run_pure]; rfl
theorem GH(k:o.op = .lookup T x ix true)(hx:ev f x = .map (some b))(hi:ev f ix=kS a r)(i:vk a r)(h:fC w b n k1 k2 val)(l:P.underlying T=some (.map K E))(e:nA P K)(p:(zeroValue E).run P w = .ok z w)(g:j<n)(c:k1 j=a)(d:k2 j=r)(m:val j=v):Runs P f o w (.tuple #[v,.bool true]):=by
 subst m
 unfold Runs execOp
 simp only[k,hx,hi,Sem.run_bind,((iY (ok:=true) i h l e p).2 j g c d),Result.andThen_ok,Sem.run_pure]; rfl
end
section
variable {P:Program} {w:World} {b n:Nat} {k1 k2:Nat->Int} {val:Nat->Value} {K:TypeId}
theorem oI{T E:TypeId}{x y:Int}{v:Value}(u:vk x y)(h:fC w b n k1 k2 val)(L:P.underlying T=some (.map K E))(I:nA P K) :
 (∀ j,j<n->k1 j=x->k2 j=y -> ∃ w',(Instr.mapUpdate T (.map (some b)) (kS x y) v).run P w = .ok () w'/\fC w' b n k1 k2 (aH val j v)/\Stp b w w'/\w'.heap.size=w.heap.size) /\
 ((∀ i,i<n -> ¬ (k1 i=x/\k2 i=y)) -> ∃ w',(Instr.mapUpdate T (.map (some b)) (kS x y) v).run P w = .ok () w'/\fC w' b (n+1) (aH k1 n x) (aH k2 n y) (aH val n v)/\Stp b w w'/\w'.heap.size=w.heap.size):=by
 have V:=h
 obtain⟨g,c,d,G,m,p⟩:=V
 have J:=I.check u false w
 rcases h.find I d u with ⟨t,H⟩|⟨j,o,hkj,IQ,t⟩
 ·refine⟨fun j o e f=>absurd ⟨e,f⟩ (H j o),fun _ => ?_⟩
  obtain⟨B,C,D⟩:=Aa (o' := .map (g.push { key:=kS x y,val:=v,born:=c }) (c+1)) d
  have A:(Instr.mapUpdate T (.map (some b)) (kS x y) v).run P w = .ok () { w with heap:=w.heap.setIfInBounds b (.map (g.push { key:=kS x y,val:=v,born:=c }) (c+1)) }:=by
   unfold Instr.mapUpdate
   simp only[Sem.run_bind,run_underlying L,Result.andThen_ok,Go.MapKept.run_getObj_map d,J,t]
   exact run_setObj_map _ d
  refine⟨_,A,⟨_,_,B,stamped_push G fun q r e => ?_,by simp[m],fun i hi => ?_⟩,C,D⟩
  ·obtain⟨i,hi,S⟩:=List.getElem_of_mem r
   obtain⟨z,k,l,_⟩:=p i (by simpa [<- m] using hi)
   have F:g.toList[i]? = some q:=by rw[List.getElem?_eq_getElem hi,S]
   rw[Array.getElem?_toList,k]at F
   obtain rfl:=Option.some.inj F
   rw[l]at e
   exact H i (by simpa [<- m] using hi) (D6 e)
  by_cases e:i=n
  ·subst e
   refine⟨_,by rw[Array.getElem?_push,if_pos m.symm],?_,?_,?_⟩
   ·show kS x y=_; unfold aH; rw[if_pos rfl,if_pos rfl]
   ·show v=_; unfold aH; rw[if_pos rfl]
   unfold aH; rw[if_pos rfl,if_pos rfl]; exact u
  obtain⟨z,k,l,Q,O⟩:=p i (by omega)
  refine⟨z,by rw[Array.getElem?_push,if_neg (by omega)]; exact k,?_,?_,?_⟩
  ·unfold aH; rw[if_neg e,if_neg e]; exact l
  ·unfold aH; rw[if_neg e]; exact Q
  unfold aH; rw[if_neg e,if_neg e]; exact O
 refine⟨fun a U e f => ?_,fun W=>absurd ⟨hkj,IQ⟩ (W j o)⟩
 obtain rfl:a=j:=h.inj a j U o (e.trans hkj.symm) (f.trans IQ.symm)
 obtain⟨z,k,l,Q,O⟩:=p a o
 obtain⟨B,C,D⟩:=Aa (o' := .map (g.modify a fun q => { q with key:=kS x y,val:=v }) c) d
 have X:(Instr.keyThatStays (((g[a]?).map (·.key)).getD (kS x y)) (kS x y)).run P w = .ok (kS x y) w:=by
  rw[k]
  show(Instr.keyThatStays z.key (kS x y)).run P w=_
  rw[l,e,f]
  unfold Instr.keyThatStays
  rw[if_pos (BN x y)]; rfl
 have A:(Instr.mapUpdate T (.map (some b)) (kS x y) v).run P w = .ok () { w with heap:=w.heap.setIfInBounds b (.map (g.modify a fun q => { q with key:=kS x y,val:=v }) c) }:=by
  unfold Instr.mapUpdate
  simp only[Sem.run_bind,run_underlying L,Result.andThen_ok,Go.MapKept.run_getObj_map d,J,t,X]
  exact run_setObj_map _ d
 refine⟨_,A,⟨_,_,B,stamped_modify G a _ (fun _ _=>rfl) (fun q _ r => ?_),by simp[m],fun i hi => ?_⟩,C,D⟩
 ·rw[k]at r
  obtain rfl:=Option.some.inj r
  show kS x y=z.key
  rw[l,e,f]
 obtain⟨R,M,Y,Z,N⟩:=p i hi
 by_cases s:a=i
 ·subst s
  refine⟨{ R with key:=kS x y,val:=v },by rw[Array.getElem?_modify,if_pos rfl,M]; rfl,?_,?_,N⟩
  ·show kS x y=_; rw[e,f]
  show v=_; unfold aH; rw[if_pos rfl]
 refine⟨R,by rw[Array.getElem?_modify,if_neg s]; exact M,Y,?_,N⟩
 unfold aH; rw[if_neg (fun h=>s h.symm)]; exact Z
end
section
variable {P:Program} {n0:Nat} {Q:Post} {f:Nat->Value} {w:World} {ops:Array Oper} {rest:List Oper} {o:Oper} {b n:Nat} {k1 k2:Nat->Int} {val:Nat->Value} {T K E:TypeId} {x ix v:Operand} {a r:Int} {u:Value} {j:Nat}
theorem L.S9(B:Region.wanted o (yf ops f)=true)(c:o.dst=none)(s:o.op = .mapUpdate T x ix v)(hx:ev f x = .map (some b))(hi:ev f ix=kS a r)(q:vk a r)(A:ev f v=u)(h:fC w b n k1 k2 val)(z:P.underlying T=some (.map K E))(l:nA P K)(p:j<n)(d:k1 j=a)(e:k2 j=r)
 (m : ∀ w',fC w' b n k1 k2 (aH val j u)->Stp b w w'->w'.heap.size=w.heap.size->L P n0 ops Q rest f w'):L P n0 ops Q (o::rest) f w:=by
 obtain⟨w',t,g,i,k⟩:=(oI (v:=u) q h z l).1 j p d e
 have y:(execOp (ev f) o).run P w = .ok .skip w':=by
  unfold execOp
  simp only[s,hx,hi,A,Sem.run_bind,t,Result.andThen_ok,Sem.run_pure]
 refine L.unit B y (by rw[c]; rfl) ?_
 rw[c]; exact m w' g i k
theorem L.IU(z:Region.wanted o (yf ops f)=true)(c:o.dst=none)(p:o.op = .mapUpdate T x ix v)(hx:ev f x = .map (some b))(hi:ev f ix=kS a r)(l:vk a r)(y:ev f v=u)(h:fC w b n k1 k2 val)(t:P.underlying T=some (.map K E))(j:nA P K)(m : ∀ i,i<n -> ¬ (k1 i=a/\k2 i=r))
 (k : ∀ w',fC w' b (n+1) (aH k1 n a) (aH k2 n r) (aH val n u)->Stp b w w'->w'.heap.size=w.heap.size->L P n0 ops Q rest f w'):L P n0 ops Q (o::rest) f w:=by
 obtain⟨w',q,d,e,g⟩:=(oI (v:=u) l h t j).2 m
 have s:(execOp (ev f) o).run P w = .ok .skip w':=by
  unfold execOp
  simp only[p,hx,hi,y,Sem.run_bind,q,Result.andThen_ok,Sem.run_pure]
 refine L.unit z s (by rw[c]; rfl) ?_
 rw[c]; exact k w' d e g
theorem L.IV{T:TypeId}(e:Region.wanted o (yf ops f)=true)(b:inn n0 o.dst=true)(c:o.op = .makeMap T none)
 (a : ∀ g w',g=w.heap.size->fC w' g 0 (fun _=>0) (fun _=>0) (fun _ => .pointer none)->Stp w.heap.size w w'->w'.heap.size=w.heap.size+1->L P n0 ops Q rest (put f o.dst (.map (some g))) w'):L P n0 ops Q (o::rest) f w:=by
 have d:(execOp (ev f) o).run P w = .ok (.value (.map (some w.heap.size))) (w.alloc (.map #[] 0)):=by
  unfold execOp
  simp only[c,Option.map_none]
  simp[run_makeMap']
 refine L.val e d b (a _ _ rfl ?_ (Stp.alloc _ _) (by simp))
 exact⟨#[],0,by rw[alloc_at,if_pos rfl],stamped_empty 0,rfl,fun i hi=>absurd hi (Nat.not_lt_zero _)⟩
end
end Go.Proofs.YtahbiajdgealnaaDoor.Fx
namespace Go.Proofs.YtahbiajdgealnaaDoor
open Go.RowKit Go
set_option linter.unusedVariables false
namespace Ta
def Fv{c:Type}(q:Nat)(J:c->World->Prop):Prop := ∀ s W a b,J s W->W.grownBy a b->(∀ r,b=some r->r=q)->J s a
def Td{d:Type}(F:Fence)(n:Nat)(P:Program)(g:Nat)(lb:Array Value)(j:d->Array Value)(i:World->World->Prop)(S:List d->Prop)(N q:Nat)(h:World->Prop):Prop :=
 ∀(l:Nat) (J:List d->World->Prop) (W:World),h W->Fv q J ->
  (∀ c x b,J c b->c.length<N->YieldAt F (n-1) P l (j x) b fun e a=>e = .returned (.bool true)/\J (c ++ [x]) a/\i b a) ->
  J [] W ->
  CallsIn F n P g (#[.func (.yield l) #[] #[]]++lb) W fun e a=>(∃ v,e = .returned v) /\ ∃ f,S f/\J f a
def GI{c:Type}(q B:Nat)(I:c->World->Prop):Prop :=
 ∀ s W a b,I s W->W.grownBy a b->(∀ r,b=some r->r=q\/(B<=r /\ ∃ o:Obj,W.heap[r]? = some o/\o.isCells=false))->I s a
variable {F:Fence} {n:Nat} {P:Program}
theorem GI.putObj{a:Type}{q B:Nat}{I:a->World->Prop}(h:GI q B I){s:a}{W:World}{l:Nat}{o:Obj}(o':Obj)(f:I s W)(b:B<=l)(c:W.heap[l]? = some o)(d:o.isCells=false):I s (W.putObj l o') :=
 h s W _ (some l) f (grownBy_putObj' W l o') (fun r e=>by cases e; exact .inr ⟨b,o,c,d⟩)
theorem GI.alloc{a:Type}{q B:Nat}{I:a->World->Prop}(h:GI q B I){s:a}{W:World}(o:Obj)(b:I s W):I s (W.alloc o) :=
 h s W _ none b (World.grownBy_alloc W o none) (fun r e=>by cases e)
def Te{a:Type}(b:World->World->Prop)(I:List a->World->Prop)(c:List a)(W:World):Exit->Act->World->Prop
 | .normal,_,W'=>KeepsOthers W W'/\b W W'/\I c W'
 | _,_,_=>False
theorem yO{W a:World}{q:Nat}{row:Option Nat}(b:W.grownBy a row)(f : ∀ r,row=some r->r=q){k:Nat}{o:Obj}(c:W.heap[k]? = some o)(d:k≠q):a.heap[k]? = W.heap[k]? :=
 b.block k (Array.getElem?_eq_some_iff.1 c).1 fun e=>d (f k e.symm)
theorem vo{α:Type}{g:Operand}{ps:Array Tmp}{assign body:Code}{Q:Exit->Act->World->Prop}{a:Act}{w:World}
 (hro:F.round=none) (h1:1<=n) {gf:Nat} {lb:Array Value} (hg:a.eval g = .func (.func gf) #[] lb) (hFg:F.fn gf) (eg : ∀ args w,(callFunc gf args).run P w = .ok (.enter gf args) w)
 {encs:α->Array Value} {Kp:World->World->Prop} {S:List α->Prop} {N q:Nat} {Ip:World->Prop} (hseq:Td F (n-1) P gf lb encs Kp S N q Ip) (hq:q<w.heap.size)
 (VX:Ip w) (D7 : ∀ W o,w.heap.size<=W.heap.size->Ip W->Ip (W.alloc o))
 (hKt : ∀ {A B C:World},Kp A B->Kp B C->Kp A C) (hKb : ∀(W:World) (l:Nat) (o o':Obj),w.heap.size<=l->W.heap[l]? = some o->o.isCells=false->o.isWalk=false->Kp W (W.putObj l o')) (hps : ∀ x,(encs x).size=ps.size)
 (I:List α->World->Prop) (hI:GI q w.heap.size I) (h0:I [] w) (A₁:α->Act->Prop)
 (hassign : ∀(l:Nat) (x:α) (W:World),assign.wpIn (F.inRound l) (n-1-1) P (Exit.then (fun a' W'=>A₁ x a'/\W'=W) (fun _ _ _=>False)) { tmps:=(ps.zip (encs x)).foldl (fun t (p,v)=>t.setIfInBounds p v) a.tmps,defers := [] } W)
 (hbody : ∀(l:Nat) (pre:List α) (x:α) (W:World) (a':Act),A₁ x a'->I pre W->pre.length<N->body.wpIn (F.inRound l) (n-1-1) P (Te Kp I (pre ++ [x]) W) a' W)
 (hdone : ∀(D:Nat) (xs:List α) (W:World),w.heap.size<=D->S xs->I xs W->W.heap[D]? = some (.deferred (some []))->Q .normal { a with defers := { target := .collected D,args := #[] }::a.defers } W) :
 (Code.rangeFunc g ps assign body).wpIn F n P Q a w:=by
 refine wpIn_rangeFunc ?_
 intro fn hfn
 rw[hro]
 obtain⟨rec,hrec⟩ : ∃ rec:LoopState->Option Code->Loop,rec=fun st pe => { state:=st,pending:=pe,fn,tmps:=a.tmps,params:=ps,assign,body,defers:=w.heap.size }:=⟨_,rfl⟩
 obtain⟨W1,hW1⟩ : ∃ W1,(w.alloc (.deferred (some []))).alloc (.loop (rec .ready none))=W1:=⟨_,rfl⟩
 have hL1:W1.heap[w.heap.size+1]? = some (.loop (rec .ready none)):=by
  rw[<- hW1]; have:=World.alloc_heap_new (w.alloc (.deferred (some []))) (.loop (rec .ready none)); rwa [World.size_alloc]at this
 have hK1:W1.heap[w.heap.size]? = some (.deferred (some [])):=by
  rw[<- hW1]; exact(Below.heap_alloc _ _ _ (by simp)).trans (World.alloc_heap_new w _)
 have hI1:I [] W1:=by rw[<- hW1]; exact hI.alloc _ (hI.alloc _ h0)
 have hp1:Ip W1:=by rw[<- hW1]; exact D7 _ _ (by simp) (D7 _ _ (Nat.le_refl _) VX)
 refine⟨w.heap.size+1,[{ target := .collected w.heap.size,args := #[] }],W1,{ target := .fn (.func gf) lb,args := #[.func (.yield (w.heap.size+1)) #[] #[]] },W1,gf,
  #[.func (.yield (w.heap.size+1)) #[] #[]]++lb,W1,?_,?_,?_,?_,fun _=>h1,?_⟩
 ·rw[<- hW1,hrec]; exact run_enterLoop_outer _ _ _ _ _
 ·simp only[resolve,hg]
  simp[go_sem]
 ·intro f' hf'; simp[Target.leads]at hf'; subst hf'; exact hFg
 ·simp[invoke,go_sem,eg]
 refine(hseq (w.heap.size+1)
  (fun pre W=>I pre W/\W.heap[w.heap.size+1]? = some (.loop (rec .ready none))/\W.heap[w.heap.size]? = some (.deferred (some [])))
  W1 hp1
  (fun s A B row hs hg' hr=>⟨hI s A B row hs.1 hg' (fun r e => .inl (hr r e)),(yO hg' hr hs.2.1 (by omega)).trans hs.2.1,(yO hg' hr hs.2.2 (by omega)).trans hs.2.2⟩)
  ?_ ⟨hI1,hL1,hK1⟩).mono ?_
 ·-- one round
  rintro pre x W ⟨hi,hl,hk⟩ hlen
  have hlt:w.heap.size+1<W.heap.size:=(Array.getElem?_eq_some_iff.1 hl).1
  have hy:=run_yield (P:=P) (args:=encs x) hl (by rw[hrec]; exact hps x)
  rw[hrec]at hy
  refine⟨fn,_,assign,body,hy,roundIn_of_wpIn hfn (wpIn_mono (hassign _ x W) ?_)⟩
  rintro e1 a1 w1 hq1
  cases e1 with
  | exit id=>exact hq1.elim
  | goto t=>exact hq1.elim
  | ret=>exact hq1.elim
  | panic ch=>exact hq1.elim
  | outgrown=>exact hq1.elim
  | normal =>
  obtain⟨hA1,ew⟩:=hq1
  rw[ew]
  refine⟨_,run_beginRound hl (by rw[hrec]),?_⟩
  have hl2:(W.putObj (w.heap.size+1) (.loop { rec .ready none with state := .busy })).heap[w.heap.size+1]? = some (.loop { rec .ready none with state := .busy }):=World.putObj_heap_same hlt
  have hk2:(W.putObj (w.heap.size+1) (.loop { rec .ready none with state := .busy })).heap[w.heap.size]? = some (.deferred (some [])):=(World.putObj_heap_other (by omega)).trans hk
  have hw2:Kp W (W.putObj (w.heap.size+1) (.loop { rec .ready none with state := .busy })):=hKb _ _ _ _ (by omega) hl rfl rfl
  refine wpIn_mono (hbody _ pre x _ a1 hA1 (hI.putObj _ hi (by omega) hl rfl) hlen) ?_
  rintro e a3 W3 hp
  cases e with
  | normal =>
    obtain⟨hk3,hkp3,hi3⟩:=hp
    have hl3:=hk3.same _ _ hl2 rfl
    have hr:=run_endRound (P:=P) none hl3
    rw[hrec]at hr hl3
    refine⟨_,_,hr,rfl,⟨hI.putObj _ hi3 (by omega) hl3 rfl,?_,(World.putObj_heap_other (by omega)).trans (hk3.same _ _ hk2 rfl)⟩,hKt (hKt hw2 hkp3) (hKb _ _ _ _ (by omega) hl3 rfl rfl)⟩
    rw[hrec]; exact World.putObj_heap_same (Array.getElem?_eq_some_iff.1 hl3).1
  | ret=>exact hp.elim
  | exit id=>exact hp.elim
  | goto t=>exact hp.elim
  | panic ch=>exact hp.elim
  | outgrown=>exact hp.elim
 rintro e W2 ⟨⟨v,rfl⟩,xs,hS,hi,hl,hk⟩
 exact⟨none,_,by have:=run_endLoop (P:=P) hl (by rw[hrec]; simp); rw[hrec]at this; exact this,hdone _ xs _ (Nat.le_refl _) hS (hI.putObj _ hi (by omega) hl rfl) ((World.putObj_heap_other (by omega)).trans hk)⟩
end Ta
end Go.Proofs.YtahbiajdgealnaaDoor
namespace Go.Proofs.YtahbiajdgealnaaDoor
open Go.RowKit Go
set_option linter.unusedVariables false
namespace Fx
structure rD(a:Act)(n:Nat)(f:Nat->Value):Prop where
 size:a.tmps.size=n
 get : ∀ i,a.tmps.getD i undef=f i
theorem Fr.to0{a:Act}{n:Nat}{f:Nat->Value}(h:Fr a n f):rD a n f:=⟨h.size,h.get⟩
theorem rD.to{a:Act}{n:Nat}{f:Nat->Value}(h:rD a n f)(b:a.defers = []):Fr a n f:=⟨h.size,b,h.get⟩
theorem rD.ev{a:Act}{n:Nat}{f:Nat->Value}(h:rD a n f):a.eval=Fx.ev f:=by
 funext x
 cases x <;> simp only[Act.eval,Fx.ev]
 exact h.get _
theorem rD.put{a:Act}{n:Nat}{f:Nat->Value}(h:rD a n f){d:Option Nat}(e:inn n d=true)(v:Value):rD (a.put d v) n (Fx.put f d v):=by
 have c:Fr { a with defers := [] } n f:=⟨h.size,rfl,h.get⟩
 have b:=c.put e v
 cases d with
 | none=>exact⟨b.size,b.get⟩
 | some d=>exact⟨b.size,b.get⟩
theorem rD.yf{a:Act}{n:Nat}{f:Nat->Value}(h:rD a n f)(ops:Array Oper):yielded ops a.tmps=Fx.yf ops f:=by
 have b:Fr { a with defers := [] } n f:=⟨h.size,rfl,h.get⟩
 exact b.yf ops
theorem BR{a:Act}{n p:Nat}{v:Value}{f:Nat->Value}(h:rD (a.put (some p) v) n f):rD { tmps:=(#[p].zip #[v]).foldl (fun t (p,v)=>t.setIfInBounds p v) a.tmps,defers := [] } n f:=by
 have e:(#[p].zip #[v]).foldl (fun t (p,v)=>t.setIfInBounds p v) a.tmps=(a.put (some p) v).tmps:=by simp[Array.zip,Act.put]
 rw[e]; exact⟨h.size,h.get⟩
theorem put_defers(a:Act)(d:Option Nat)(v:Value):(a.put d v).defers=a.defers:=by cases d <;> rfl
def FR(ro:Option Nat):Fence := { Fence.wide with round:=ro }
def gG(o:Oper):Bool:=match o.op with | .defer _=>false|_=>true
def IW(n:Nat)(ds:List Deferred)(Q:Post):Exit->Act->World->Prop:=fun e a w => ∃ f,rD a n f/\a.defers=ds/\Q e f w
section
variable {P:Program} {n m:Nat} {ro:Option Nat} {Q:Post} {f:Nat->Value} {w:World} {o:Oper} {ops:Array Oper} {rest:List Oper}
theorem BS(ro:Option Nat)(ρ:Operand->Value)(h:gG o=true):o.semAt ro ρ=execOp ρ o :=
 Oper.semAt_eq ro ρ o fun c e=>by unfold gG at h; rw[e]at h; cases h
theorem Out.wpIn{a:Act}{K:Value->World->Prop}{d:Act->World->Prop}{j:Exit->Act->World->Prop}(ha:rD a n f)(k:gG o=true)(h:Out P f o w K)(c : ∀ v w',K v w'->d (a.put o.dst v) w'):o.wpIn (FR ro) m P a w d j:=by
 unfold Oper.wpIn
 refine⟨fun _ _=>trivial,?_⟩
 rw[BS _ _ k,ha.ev]
 rcases h with ⟨v,w',b,h⟩|⟨w',b,h⟩|⟨g,args,b,h⟩
 ·rw[b]; exact c v w' h
 ·rw[b]; exact c undef w' h
 rw[b,Oper.uponIn_enter]
 refine⟨fun h=>(by cases h),?_⟩
 have r : ∀ R,Calls P g args w R->CallsIn (FR ro) (m-1) P g args w R:=fun R i=>by
  cases ro with
  | none=>exact callsIn_wide.2 i
  | some l=>exact CallsIn.inRound l (callsIn_wide.2 i)
 refine r _<|h.mono fun e w' ⟨v,p,q⟩ => ?_
 subst p; exact c v w' q
theorem L.toIn : ∀ {l:List Oper} {f:Nat->Value} {w:World},L P n ops Q l f w->l.all gG=true -> ∀ a,rD a n f->wpListIn (FR ro) m P ops (IW n a.defers Q) l a w
 | [],f,w,h,_,a,ha=>⟨f,ha,rfl,h⟩
 | o::rest,f,w,⟨hd,h⟩,hn,a,ha=>by
   rw[List.all_cons,Bool.and_eq_true]at hn
   unfold wpListIn
   rw[ha.yf]
   rcases h with ⟨b,h⟩|⟨b,h⟩
   ·rw[if_pos b]
    exact h.wpIn ha hn.1 fun v w' c=>by have:=L.toIn c hn.2 _ (ha.put hd v); rwa [put_defers]at this
   ·rw[if_neg (by rw[b]; decide)]
    exact⟨fun _ _=>trivial,by have:=L.toIn h hn.2 _ (ha.put hd undef); rwa [put_defers]at this⟩
theorem yP{id:Nat}{ops:List Oper}{a:Act}{b:Exit->Act->World->Prop}(ha:rD a n f)(h:L P n ops.toArray Q ops f w)(d:ops.all gG=true:=by rfl)(g : ∀ e c w',IW n a.defers Q e c w'->b e c w'):(Code.region id ops.toArray false).wpIn (FR ro) m P b a w :=
 wpIn_mono (wpIn_region_lit (L.toIn h d a ha)) g
def PX(m:Nat)(P:Program)(f:Nat->Value)(o:Oper)(w:World)(K:Value->World->Prop):Prop :=
 Out P f o w K \/ ∃ l c d a b,(execOp (ev f) o).run P w = .ok (.round l c d a b) w/\RoundIn (FR none) (m-1) P l c d a b w fun e w' => ∃ v,e = .returned v/\K v w'
def Ly(m:Nat)(P:Program)(n:Nat)(ops:Array Oper)(Q:Post):List Oper->(Nat->Value)->World->Prop
 | [],f,w=>Q .normal f w
 | o::rest,f,w=>inn n o.dst=true/\((Region.wanted o (yf ops f)=true/\PX m P f o w fun v w'=>Ly m P n ops Q rest (put f o.dst v) w')\/(Region.wanted o (yf ops f)=false/\Ly m P n ops Q rest (put f o.dst undef) w))
theorem PX.wpIn{a:Act}{K:Value->World->Prop}{b:Act->World->Prop}{g:Exit->Act->World->Prop}(ha:rD a n f)(c:gG o=true)(h:PX m P f o w K)(d : ∀ v w',K v w'->b (a.put o.dst v) w'):o.wpIn (FR none) m P a w b g:=by
 rcases h with h|⟨l,fn,tmps,assign,body,hr,h⟩
 ·exact h.wpIn ha c d
 unfold Oper.wpIn
 refine⟨fun _ _=>trivial,?_⟩
 rw[BS _ _ c,ha.ev,hr,Oper.uponIn_round]
 exact⟨fun h=>(by cases h),h.mono fun e w' ⟨v,i,j⟩=>by subst i; exact d v w' j⟩
theorem Ly.to : ∀ {l:List Oper} {f:Nat->Value} {w:World},Ly m P n ops Q l f w->l.all gG=true -> ∀ a,rD a n f->wpListIn (FR none) m P ops (IW n a.defers Q) l a w
 | [],f,w,h,_,a,ha=>⟨f,ha,rfl,h⟩
 | o::rest,f,w,⟨hd,h⟩,hn,a,ha=>by
   rw[List.all_cons,Bool.and_eq_true]at hn
   unfold wpListIn
   rw[ha.yf]
   rcases h with ⟨b,h⟩|⟨b,h⟩
   ·rw[if_pos b]
    exact h.wpIn ha hn.1 fun v w' c=>by have:=Ly.to c hn.2 _ (ha.put hd v); rwa [put_defers]at this
   ·rw[if_neg (by rw[b]; decide)]
    exact⟨fun _ _=>trivial,by have:=Ly.to h hn.2 _ (ha.put hd undef); rwa [put_defers]at this⟩
theorem W.Oe(m:Nat){id:Nat}{ops:List Oper}(h:Ly m P n ops.toArray Q ops f w)(j:ops.all gG=true:=by rfl):W P n (.region id ops.toArray false) Q f w:=fun a b =>
 (wpIn_wide (n:=m)).1 (wpIn_mono (wpIn_region_lit (Ly.to h j a b.to0)) fun e k w' ⟨c,d,g,i⟩=>⟨c,d.to (g.trans b.defers),i⟩)
theorem Ly.nil(h:Q .normal f w):Ly m P n ops Q [] f w:=h
theorem Ly.v(v:Value)(hr:Runs P f o w v)(h:Ly m P n ops Q rest (put f o.dst v) w)(b:Region.wanted o (yf ops f)=true:=by rfl)(a:inn n o.dst=true:=by rfl):Ly m P n ops Q (o::rest) f w:=⟨a,.inl ⟨b,.inl (.inl ⟨v,w,hr,h⟩)⟩⟩
theorem Ly.skip(b:Region.wanted o (yf ops f)=false)(a:inn n o.dst=true)(h:Ly m P n ops Q rest (put f o.dst undef) w):Ly m P n ops Q (o::rest) f w:=⟨a,.inr ⟨b,h⟩⟩
theorem Ly.call{g:FuncId}{args:Array Value}(b:Region.wanted o (yf ops f)=true)(hr:(execOp (ev f) o).run P w = .ok (.enter g args) w)(a:inn n o.dst=true)
 (h:Calls P g args w fun e w' => ∃ v,e = .returned v/\Ly m P n ops Q rest (put f o.dst v) w'):Ly m P n ops Q (o::rest) f w:=⟨a,.inl ⟨b,.inl (.inr (.inr ⟨g,args,hr,h⟩))⟩⟩
theorem Ly.yield{l:Nat}{x:Operand}{a:List Operand}{args:List Value}{b:Array TypeId}{R:Ending->World->Prop}(q:Region.wanted o (yf ops f)=true)(k:o.op = .call { callee := .value x,args:=a.toArray,argTypes:=b })(hx:ev f x = .func (.yield l) #[] #[])(r:a.map (ev f)=args)(j:inn n o.dst=true)
 (hy:YieldAt (FR none) (m-1) P l args.toArray w R) (h : ∀ e w',R e w' -> ∃ v,e = .returned v/\Ly m P n ops Q rest (put f o.dst v) w'):Ly m P n ops Q (o::rest) f w:=by
 obtain⟨g,s,c,d,p,i⟩:=hy
 refine⟨j,.inl ⟨q,.inr ⟨l,g,s,c,d,?_,i.mono h⟩⟩⟩
 unfold execOp
 simp only[k]
 unfold resolve
 simp only[Sem.run_bind,List.map_toArray,r,hx,Deferred.ofValue,Sem.run_pure,Result.andThen_ok]
 unfold invoke
 have e:(#[]++args.toArray:Array Value)=args.toArray:=by simp
 show(Instr.yield l (#[]++args.toArray)).run P w=_
 rw[e]
 exact p
theorem IX{a:Act}(h:rD a n f)(b:Func):results b a.tmps=rM b f:=by
 have c:Fr { a with defers := [] } n f:=⟨h.size,rfl,h.get⟩
 exact E8 c b
theorem leave1{a:Act}{b:Func}{R:Ending->World->Prop}{D:Nat}{v:Value}(h:rD a n f)(e:a.defers = [{ target := .collected D,args := #[] }])(c:w.heap[D]? = some (.deferred (some [])))
 (g:(rM b f).run P (w.putObj D (.deferred none)) = .ok v (w.putObj D (.deferred none))) (d:R (.returned v) (w.putObj D (.deferred none))):bodyPostM (FR none) m P b R .ret a w:=by
 show LeavesInM (FR none) m P b a.tmps R a.defers .returning w
 rw[e]
 exact⟨by simp,.inl ⟨D,_,rfl,run_takeDeferred c,v,by rw[IX h]; exact g,d⟩⟩
end
end Fx
end Go.Proofs.YtahbiajdgealnaaDoor
namespace Go.Proofs.YtahbiajdgealnaaDoor
open Go.RowKit Rt
open Fx (eY dN fJ bC fI fH eO dS fK iq dY iw fq gT iy Lv sN Ln Ws Qv Wl Rp Wc Qs Wr Sb Lk Wk rC rV sR Rs Rn Rd Rk Wb Wx Wo Ab Wt qM Qn Ba uY Bc BF yw Bb DL jw Dt jl qh rQ DX Bd Dr Bf rv aC aK dn aH ev bQ Stp aS flat gu Mp bB fC gF bO down fG iR jr kZ dG bY cells_one jm bP unseen jv jE cO bU dA cZ dh gX iP rA iD)
abbrev bH(g n c:Nat):Value := .slice (some ⟨g,0,none⟩) n c
theorem KrI{k:IntKind}{a b:Int}(h:a=b):Ending.returned (.int k a) = .returned (.int k b):=by rw[h]
theorem lX{a b:Bool}(h:a=b):Ending.returned (.bool a) = .returned (.bool b):=by rw[h]
abbrev pt(g:Nat):Value := .pointer (some ⟨g,0,none⟩)
abbrev pf(g o:Nat):Value := .pointer (some ⟨g,o,none⟩)
theorem Fx.ic{k:IntKind}{a b:Int}(h:a=b:=by first|rfl|omega):Value.int k a = .int k b:=congrArg _ h
theorem Fx.io{a c:Int}(h : -9223372036854775808<=c/\c<=9223372036854775807:=by omega)(e:a=c:=by omega):IntKind.i64.wrap a=c:=Fx.jr h e
theorem Fx.aK.ne{w:World}{g n:Nat}{x:Nat->Value}{T:TypeId}(h:Fx.aK w g n x T):g≠w.heap.size:=Nat.ne_of_lt h.lt
namespace Rt
def mx:Int:=1125899906842624
def Du(n:Int):Bool:=decide (0<=n)&&decide (n<=1125899906842624)
def iF(l:List Int):Bool:=l.all Du
def iL(l:List Int):Int × Bool:=if iF l then(l.sum,true)else(0,false)
theorem vv(l:List Int)(k:Nat)(h:k<l.length):iF (l.take (k+1))=(iF (l.take k)&&Du l[k]):=by
 unfold iF; rw[List.take_succ_eq_append_getElem h,List.all_append]; simp
theorem yA(l:List Int)(k:Nat)(h:k<l.length):(l.take (k+1)).sum=(l.take k).sum+l[k]:=by
 rw[List.take_succ_eq_append_getElem h,List.sum_append]; simp
theorem tF : ∀(l:List Int),iF l=true->0<=l.sum/\l.sum<=1125899906842624*(l.length:Int)
 | [],_=>by simp
 | x::l,h=>by
   unfold iF at h
   rw[List.all_cons,Bool.and_eq_true]at h
   have:=tF l h.2
   have a:=h.1
   unfold Du at a
   simp at a
   rw[List.sum_cons,List.length_cons]
   omega
theorem nC(l:List Int):0<=(iL l).1/\(iL l).1<=1125899906842624*(l.length:Int):=by
 unfold iL
 by_cases h:iF l=true
 ·rw[if_pos h]; exact tF l h
 rw[if_neg h]; simp; omega
theorem yB{l:List Int}{k:Nat}(a:k<l.length)(h:Du l[k]=false):iF l=false:=by
 unfold iF
 rw[List.all_eq_false]
 exact⟨l[k],List.getElem_mem a,by simpa using h⟩
def G(x:Nat->Int)(i:Nat):Int:=x i
def C(x:Nat->Int)(i:Nat):Int:=x (6+i)
def F(x:Nat->Int)(i:Nat):Int:=x (12+i)
def R(x:Nat->Int)(i j:Nat):Int:=x (18+i*6+j)
def outs(x:Nat->Int)(k:Nat):Nat->List Int
 | 0 => [C x k]
 | j+1=>outs x k j ++ [R x k j]
def ins(x:Nat->Int)(k:Nat):Nat->List Int
 | 0 => [G x k,F x k]
 | j+1=>ins x k j ++ [R x j k]
def localM(x:Nat->Int)(k:Nat):Int × Bool:=((iL (ins x k 6)).1-(iL (outs x k 6)).1,(iL (outs x k 6)).2&&(iL (ins x k 6)).2)
theorem GJ(x:Nat->Int)(k:Nat):(outs x k 6).length=7:=rfl
theorem IY(x:Nat->Int)(k:Nat):(ins x k 6).length=8:=rfl
end Rt
def Vf(k:IntKind)(w:World)(a:Option Addr)(l:List Int):Prop :=
 ∀ i (h:i<l.length),∃ b c,a=some ⟨b,c,none⟩/\w.cell? ⟨b,c+i,none⟩=some (.int k l[i])
end Go.Proofs.YtahbiajdgealnaaDoor
namespace Go.Proofs.YtahbiajdgealnaaDoor.Fx
open Go.RowKit
def IZ(I:(Nat->Value)->World->Prop)(Q:Post):Post:=fun e f w=>match e with | .normal=>I f w|e=>Q e f w
section
variable {P:Program} {n:Nat} {Q:Post} {f:Nat->Value} {w:World} {I:(Nat->Value)->World->Prop}
theorem BU{x y:Code}(I:(Nat->Value)->World->Prop)(h1:W P n x (IZ I Q) f w)(b : ∀ f w,I f w->W P n y Q f w):W P n (.seq x y) Q f w :=
 Ws (W.mono h1 fun e f w a=>by
  cases e <;> first|exact b f w a|exact a)
theorem xV(h:I f w):IZ I Q .normal f w:=h
theorem jnR(h:Q .ret f w):IZ I Q .ret f w:=h
end
end Go.Proofs.YtahbiajdgealnaaDoor.Fx
namespace Go.Proofs.YtahbiajdgealnaaDoor
open Go.RowKit Rt
open Fx (eY dN fJ bC fI fH eO dS fK iq dY iw fq gT iy Lv sN Ln Ws Qv Wl Rp Wc Qs Wr Sb Lk Wk rC rV sR Rs Rn Rd Rk Wb Wx Wo Ab Wt qM Qn Ba uY Bc BF yw Bb DL jw Dt jl qh rQ DX Bd Dr BU Bf rv aC aK dn aH ev bQ Stp aS flat gu Mp bB fC gF bO down fG iR jr kZ dG bY cells_one jm bP xV unseen jv jE cO bU dA cZ dh gX iP rA iD)
section
set_option maxRecDepth 20000
namespace Rt
def bZ(x:Nat->Int):Nat->Int->Bool
 | 0,_=>false
 | n+1,k=>bZ x n k || decide (x n=k)
def eP(x p:Nat->Int):Nat->Int->Int
 | 0,_=>0
 | n+1,k=>if x n=k then p n else eP x p n k
section
variable {x p:Nat->Int} {n j:Nat} {k:Int}
theorem fO : ∀ {n:Nat},j<n->x j=k->bZ x n k=true
 | n+1,h,e=>by
   unfold bZ
   by_cases c:j=n
   ·subst c; rw[decide_eq_true e,Bool.or_true]
   ·rw[fO (show j<n by omega) e,Bool.true_or]
theorem pR : ∀ {n:Nat},(∀ i,i<n->x i≠k)->bZ x n k=false
 | 0,_=>rfl
 | n+1,h=>by unfold bZ; rw[pR fun i hi=>h i (by omega),decide_eq_false (h n (by omega))]; rfl
theorem dV : ∀ {n:Nat},bZ x n k=true -> ∃ j,j<n/\x j=k
 | n+1,h=>by
   unfold bZ at h
   rw[Bool.or_eq_true]at h
   rcases h with h|h
   ·obtain⟨j,a,e⟩:=dV h; exact⟨j,by omega,e⟩
   ·exact⟨n,by omega,of_decide_eq_true h⟩
theorem vL(hi : ∀ a b,a<n->b<n->x a=x b->a=b)(h:j<n)(e:x j=k):eP x p n k=p j:=by
 induction n with
 | zero=>omega
 | succ n ih =>
   unfold eP
   by_cases c:j=n
   ·subst c; rw[if_pos e]
   ·rw[if_neg fun d=>c (hi j n (by omega) (by omega) (e.trans d.symm))]
    exact ih (fun a b f g=>hi a b (by omega) (by omega)) (by omega)
def fP(x p:Nat->Int)(n:Nat):Nat->Int->List Int
 | 0,_ => []
 | d+1,k=>if bZ x n k=true then k::fP x p n d (eP x p n k)else []
def fD(x p:Nat->Int)(n:Nat):Nat->Int->Prop
 | 0,k=>bZ x n k=false
 | d+1,k=>bZ x n k=true->fD x p n d (eP x p n k)
theorem iA{d:Nat}(h:bZ x n k=false):fP x p n d k = []:=by cases d with
 | zero=>rfl
 | succ d=>unfold fP; rw[if_neg (by rw[h]; decide)]
theorem yQ{d:Nat}(h:fD x p n d k)(a:bZ x n k=true) : ∃ e,d=e+1/\fD x p n e (eP x p n k)/\fP x p n d k=k::fP x p n e (eP x p n k):=by
 cases d with
 | zero=>have h:bZ x n k=false:=h; rw[a]at h; cases h
 | succ d=>exact⟨d,rfl,h a,by show(if _ then _ else _)=_; rw[if_pos a]⟩
end
structure JF(q:Nat)(J:List Int->World->Prop)(pre:List Int)(w:World):Prop where
 ab:Ta.Fv q J
 j:J pre w
theorem JF.dX{q:Nat}{J:List Int->World->Prop}{b:List Int}{w w':World}(h:JF q J b w)(a:Stp q w w'):JF q J b w' :=
 ⟨h.ab,h.ab _ w w' (some q) h.j ⟨a.os,a.tape,a.output,a.size,fun k c d=>a.block k c (fun e=>d (by rw[e]))⟩ (fun r e=>(Option.some.inj e).symm)⟩
theorem JF.up{q:Nat}{J:List Int->World->Prop}{b:List Int}{w w':World}(h:JF q J b w)(a:Below w.heap.size w w'):JF q J b w' :=
 ⟨h.ab,h.ab _ w w' none h.j ⟨a.os,a.tape,a.output,a.size,fun k c _=>a.block k c⟩ (fun r e=>by cases e)⟩
instance {q:Nat} {J:List Int->World->Prop} {a:List Int} {w w':World}:Rt.Tr w w' (JF q J a w) (JF q J a w'):=⟨fun b h=>h.up b⟩
structure I4(tp mb bt q:Nat)(w w':World):Prop where
 size:w.heap.size<=w'.heap.size
 t:w'.heap[tp]? = w.heap[tp]?
 m:w'.heap[mb]? = w.heap[mb]?
 b:w'.heap[bt]? = w.heap[bt]?
 q:w'.heap[q]? = w.heap[q]?
end Rt
theorem wK(x p:Nat->Int)(n tp mb:Nat)(k:Int)(w:World)(d:aK w tp 1 (fun _ => .map (some mb)) 116)(c:Mp w mb n x (fun j=>aA (p j))) :
 Calls Tryd.prog 72 #[(pt tp),aA k] w fun e w'=>e = .returned (.bool (bZ x n k))/\w'=w:=by
 have g:=d.lt
 refine Kent Tryd.func72 19 ?_
 refine ay<|av aF<|aD<|Ws<|ay<|av ((pt tp))<|Lv aF (Fx.jI rfl rfl rfl (by kernel_rfl))<|aD<|aN<|Wk<|sN<|ay<|av ((pt tp))<|av ((pt tp))<|av ((pt tp))<|Lv (.map (some mb)) (aP d.aM 0)<|av (aA k) ?_
 rcases Fx.kL x n k with ⟨a,f,b⟩|fE
 ·refine Lv (.tuple #[aA (p a),.bool true]) (Fx.wJ (z:=aA 0) rfl rfl rfl c Tryd.underlying87 Tryd.underlying22 (by rfl) f b rfl)<|av (.tuple #[aA (p a),.bool true])<|av (aA (p a))<|av aI<|av (aA (p a))<|av aI<|aD<|ay<|av aI<|av aI<|aD<|Wr<|aL aI ?_
  exact⟨lX (Eq.symm (fO f b)),rfl⟩
 refine Lv (.tuple #[aA 0,.bool false]) (Fx.wI (z:=aA 0) rfl rfl rfl c Tryd.underlying87 Tryd.underlying22 (by rfl) fE)<|av (.tuple #[aA 0,.bool false])<|av (aA 0)<|av aF<|av (aA 0)<|av aF<|aD<|ay<|av aF<|av aF<|aD<|Wr<|aL aF ?_
 exact⟨lX (Eq.symm (pR fE)),rfl⟩
theorem VY(tp:Nat)(k:Int)(w:World) :
 Calls Tryd.prog 50 #[(pt tp),aA k] w fun e w' => ∃ c q,e = .returned (.func (.func 71) #[] #[(pt c),(pt q)])/\w.heap.size<=c/\w.heap.size<=q/\aK w' c 1 (fun _=>(pt tp)) 85/\aK w' q 1 (fun _=>aA k) 22/\Below w.heap.size w w':=by
 refine Kent Tryd.func50 6 ?_
 refine ay<|nZ ((pt tp)) fun a u j d o x => ?_
 have f:=aQ o.old (Below.refl w.heap.size w)
 have l:=gP j
 have s:=d.lt
 refine nZ (aA k) fun b v g h p y => ?_
 have⟨n,i⟩:=fV p.old d f
 have m:=iT g f.size
 have r:=bR g d.lt
 have t:=h.lt
 refine av (.nilFunc)<|aD<|ay<|Lv (.func (.func 71) #[] #[(pt a),(pt b)]) (Fx.iK (us := []) (vs := [(pt a),(pt b)]) rfl rfl rfl)<|av (.func (.func 71) #[] #[(pt a),(pt b)])<|aD<|Wr<|aL (.func (.func 71) #[] #[(pt a),(pt b)]) ?_
 exact⟨a,b,rfl,l,m,n,h,i⟩
theorem Tf(J:List Int->World->Prop)(l tp mb h q n r:Nat)(x p:Nat->Int)(k:Int)(w:World)(hT:aK w tp 1 (fun _ => .map (some mb)) 116)(hM:Mp w mb n x (fun j=>aA (p j)))(hB:aK w h 1 (fun _=>(pt tp)) 85)(Q:aK w q 1 (fun _=>aA k) 22)(hinj : ∀ a b,a<n->b<n->x a=x b->a=b)(PY:fD x p n r k)(hJ:JF q J [] w)(hd:h≠q/\tp≠q)
 (hY : ∀ g v D,J g D->g.length<(fP x p n r k).length->Go.YieldAt (Fx.FR none) 1 Tryd.prog l #[aA v] D fun e N=>e = .returned (.bool true)/\J (g ++ [v]) N/\I4 tp mb h q D N) :
  Calls Tryd.prog 71 #[.func (.yield l) #[] #[],(pt h),(pt q)] w fun e w'=>(∃ v,e = .returned v) /\ ∃ xs,xs=fP x p n r k/\J xs w':=by
 obtain⟨hd1,hd2⟩:=hd
 have lq:=Q.lt
 refine Kent Tryd.func71 18 ?_
 refine Wb<|Ab (fun d f B => ∃ g:List Int,∃ c:Int,fD x p n d c/\g++fP x p n d c=fP x p n r k/\f 0 = .func (.yield l) #[] #[]/\f 1=(pt h)/\f 2=(pt q)/\aK B tp 1 (fun _ => .map (some mb)) 116/\Mp B mb n x (fun j=>aA (p j))/\aK B h 1 (fun _=>(pt tp)) 85/\aK B q 1 (fun _=>aA c) 22/\JF q J g B) (r) ⟨[],k,PY,(List.nil_append _),(by rfl),(by rfl),(by rfl),hT,hM,hB,Q,hJ⟩ ?_
 rintro d f1 w1 ⟨g,c,hst,y,P,E,s,G,I,X,K,L⟩
 refine Ws<|Ws<|Fx.W.Oe 2<|Fx.Ly.v ((pt tp)) (bC (x:=fun _=>(pt tp)) rfl E (by kernel_rfl) X.aM (i:=0) (by omega) (by omega) rfl) ?_
 refine Fx.Ly.v (aA c) (bC (x:=fun _=>aA c) rfl s (by kernel_rfl) K.aM (i:=0) (by omega) (by omega) rfl) ?_
 by_cases o:(bZ x n c)=true
 ·refine Fx.Ly.call (by rfl) (rC (args := [(pt tp),aA c]) rfl rfl Tryd.func72 rfl rfl) rfl<|(wK x p n tp mb c _ G I).mono ?_
  rintro e M ⟨u,hv1⟩
  subst M
  refine⟨.bool true,by rw[u,o],?_⟩
  clear u
  refine Fx.Ly.v (.bool true) (eY rfl rfl) ?_
  refine Fx.Ly.v (.func (.yield l) #[] #[]) (eY rfl P) ?_
  refine Fx.Ly.v (aA c) (bC (x:=fun _=>aA c) rfl s (by kernel_rfl) K.aM (i:=0) (by omega) (by omega) rfl) ?_
  obtain⟨d1,ed1,VZ,S⟩:=yQ hst o
  refine Fx.Ly.yield (l:=l) (args := [aA c]) rfl rfl rfl (Fx.args1 rfl) rfl (hY g c _ L.j (by have:=congrArg List.length y; rw[S,List.length_append,List.length_cons]at this; omega)) ?_
  rintro e9 A ⟨rfl,hJ1,C⟩
  refine⟨.bool true,rfl,?_⟩
  have m6:aK A tp 1 (fun _ => .map (some mb)) 116:=(C.t).trans G
  have m7:Mp A mb n x (fun j=>aA (p j)):=I.keep C.m
  have m8:aK A h 1 (fun _=>(pt tp)) 85:=(C.b).trans X
  have m9:aK A q 1 (fun _=>aA c) 22:=(C.q).trans K
  have m10:JF q J (g ++ [c]) A:=⟨L.ab,hJ1⟩
  refine Fx.Ly.v (.bool true) (fH rfl rfl rfl) ?_
  refine Fx.Ly.nil ?_
  refine sN<|aT<|Wk<|sN<|Wb ?_
  obtain⟨F,R,O⟩:=dV o
  -- region 1 draws
  refine jy [0,1,2,3,4,5,6] [4,0,0,4,4,3,3] [(5,0,[3,2,1,0]),(6,0,[0]),(5,3,[3]),(6,3,[3]),(5,4,[4]),(6,4,[4]),(6,5,[5])] fun rE gL ig => ?_
  have⟨T,U,V,H,m15⟩:=ql gL m6 m7 m8 m9 m10
  refine Rs ((pt tp)) (aP V.aM 0 (ha:=E)) ?_
  refine aY ((pt tp))<|aY ((pt tp))<|Rs (.map (some mb)) (aP T.aM 0) ?_
  refine Rs (aA c) (aP H.aM 0 (ha:=s)) ?_
  refine fU<|Lv (aA (p F)) (Fx.rT (z:=aA 0) rfl rfl rfl U Tryd.underlying87 Tryd.underlying22 (by rfl) R O rfl)<|Ln<|fU<|mX H 0 (aA (p F)) (ha:=s) fun Z m16 Y z1 => ?_
  have m17:aK Z q 1 (fun _=>aA (p F)) 22:=cO m16
  have iZ:=jw Y H.ty
  have⟨m18,m19,m20⟩:=Gy iZ T U V
  have m21:=m15.dX Y
  refine Ln<|Rn<|dA ?_
  have m22:aK Z q 1 (fun _=>aA (eP x p n c)) 22:=by rw[vL hinj R O]; exact m17
  skip
  refine iP ⟨d1,(by omega),(g ++ [c]),(eP x p n c),VZ,(by rw[List.append_assoc]; rw[S]at y; exact y),P,E,s,m18,m19,m20,m22,m21⟩ (by decide)
 rw[Bool.not_eq_true]at o
 refine Fx.Ly.call (by rfl) (rC (args := [(pt tp),aA c]) rfl rfl Tryd.func72 rfl rfl) rfl<|(wK x p n tp mb c _ G I).mono ?_
 rintro e M ⟨u,hv1⟩
 subst M
 refine⟨.bool false,by rw[u,o],?_⟩
 clear u
 refine Fx.Ly.v (.bool false) (eY rfl rfl) ?_
 refine Fx.Ly.skip (by rfl) rfl ?_
 refine Fx.Ly.skip (by rfl) rfl ?_
 refine Fx.Ly.skip (by rfl) rfl ?_
 refine Fx.Ly.v (.bool false) (fI rfl rfl rfl) ?_
 refine Fx.Ly.nil ?_
 refine sN (aN (Wx (cZ (gX (dh (⟨.tuple #[],fG Tryd.results71,?_⟩))))))
 exact⟨⟨_,rfl⟩,g,(by rw[iA o,List.append_nil]at y; exact y),L.j⟩
end
end Go.Proofs.YtahbiajdgealnaaDoor
namespace Go.Proofs.YtahbiajdgealnaaDoor
open Go.RowKit Go Rt
set_option linter.unusedVariables false
namespace Rt
def qm(l:List Int):Nat->Value:=fun i=>aA (l.getD i 0)
theorem Mv{l:List Int}{v:Int}{z:Nat->Value} : ∀ j,j<(l.length+1)*1->Fx.jE (qm l) (l.length*1) (Fx.dn z (0*1) 1 (fun _=>aA v)) j=qm (l ++ [v]) j:=fun j a=>by
 unfold Fx.jE qm
 by_cases h:j<l.length*1
 ·rw[if_pos h,List.getD_eq_getElem?_getD,List.getD_eq_getElem?_getD,List.getElem?_append_left (by omega)]
 ·rw[if_neg h]
  obtain rfl:j=l.length:=by omega
  unfold Fx.dn
  rw[if_pos (by omega)]; simp
structure PI(gl bt q B:Nat)(w0:World)(pre:List Int)(w:World):Prop where
 ex : ∃ a c,Fx.aK w gl 1 (fun _ => .slice a pre.length c) 53/\Fx.Own w B 22 1 (.slice a pre.length c) pre.length (qm pre)/\(∀ r,(Value.slice a pre.length c).ownBlock=some r->r≠bt/\r≠q/\r≠gl)
 be:Below B w0 w
 lb:bt<w.heap.size
 lq:q<w.heap.size
theorem KeepsOthers.tH{g:Nat}{w w':World}(h:Fx.Stp g w w')(c : ∀ o,w.heap[g]? = some o->o.isCells=true):KeepsOthers w w' :=
 ⟨h.size,fun k o a b=>by
  by_cases e:k=g
  ·subst e; rw[c o a]at b; cases b
  ·exact(h.block k (Array.getElem?_eq_some_iff.1 a).1 e).trans a⟩
theorem KeepsOthers.I5{w w':World}{v:Value}(h:w.grownBy w' v.ownBlock)(c : ∀ r o,v.ownBlock=some r->w.heap[r]? = some o->o.isCells=true):KeepsOthers w w' :=
 ⟨h.size,fun k o a b=>by
  refine(h.block k (Array.getElem?_eq_some_iff.1 a).1 fun e => ?_).trans a
  rw[c k o e.symm a]at b; cases b⟩
theorem rW{w:World}{g:Nat}{T:TypeId}(h:Fx.Ty w g T) : ∀ o,w.heap[g]? = some o->o.isCells=true:=fun o a=>by
 obtain⟨b,h⟩:=h
 rw[h]at a; cases a; rfl
theorem I4.trans{tp mb a q:Nat}{A B C:World}(h:I4 tp mb a q A B)(k:I4 tp mb a q B C):I4 tp mb a q A C:=⟨Nat.le_trans h.size k.size,k.t.trans h.t,k.m.trans h.m,k.b.trans h.b,k.q.trans h.q⟩
theorem I4.of{tp mb a q:Nat}{A B:World}(b:A.heap.size<=B.heap.size)(h : ∀ k,k=tp\/k=mb\/k=a\/k=q->B.heap[k]? = A.heap[k]?):I4 tp mb a q A B:=⟨b,h _ (.inl rfl),h _ (.inr (.inl rfl)),h _ (.inr (.inr (.inl rfl))),h _ (.inr (.inr (.inr rfl)))⟩
theorem PI.own{b k q B c:Nat}{j:World}(l:B<=j.heap.size)(n:b≠q)(p:B<=q)(y:B<=c):Ta.GI q c (PI b k q B j):=fun s W x w u a i=>by
 obtain⟨⟨d,f,m,o,h⟩,hbe,hlb,hlq⟩:=u
 have g : ∀ r T,Fx.Ty W r T->r≠q->w≠some r:=fun r T v t e=>by
  rcases i r e with h1|⟨_,ob,h1,h2⟩
  ·exact t h1
  ·rw[rW v ob h1]at h2; cases h2
 refine⟨⟨d,f,?_,?_,h⟩,hbe.grown a (Nat.le_trans l hbe.size) fun r e => ?_,Nat.lt_of_lt_of_le hlb a.size,Nat.lt_of_lt_of_le hlq a.size⟩
 ·exact(a.block b m.lt fun e=>g b _ m.ty n e.symm).trans m
 ·refine World.ownsRow.kept o a ?_
  cases hb:(Value.slice d s.length f).ownBlock with
  | none=>exact .inl rfl
  | some r=>exact .inr fun e=>g r _ (o.ty hb) (h r hb).2.1 e.symm
 ·rcases i r e with rfl|⟨h1,_⟩
  ·exact p
  ·omega
end Rt
open Rt
theorem Mw(tp mb c q n d:Nat)(x p:Nat->Int)(k:Int)(s : ∀ a b,a<n->b<n->x a=x b->a=b)(t:fD x p n d k)(r:c≠q/\tp≠q) :
 Ta.Td (Fx.FR none) 2 Tryd.prog 71 #[(pt c),(pt q)] (fun v:Int => #[aA v]) (I4 tp mb c q) (fun u=>u=fP x p n d k) (fP x p n d k).length q
  (fun w=>Fx.aK w tp 1 (fun _ => .map (some mb)) 116/\Fx.Mp w mb n x (fun j=>aA (p j))/\Fx.aK w c 1 (fun _=>(pt tp)) 85/\Fx.aK w q 1 (fun _=>aA k) 22) :=
 fun l J W ⟨i,g,f,h⟩ o m e=>callsIn_wide.2 (Tf J l tp mb c q n d x p k W i g f h s t ⟨o,e⟩ r m)
set_option maxRecDepth 10000 in
theorem D8(x p:Nat->Int)(n tp mb A:Nat)(k:Int)(w:World)(hT:Fx.aK w tp 1 (fun _ => .map (some mb)) 116)(hM:Fx.Mp w mb n x (fun j=>aA (p j)))(hinj : ∀ a b,a<n->b<n->x a=x b->a=b)(PY:fD x p n A k)(hlen:(fP x p n A k).length<=1000000) :
 Calls Tryd.prog 31 #[(pt tp),aA k] w fun e w' => ∃ a c,e = .returned (.slice a (fP x p n A k).length c)/\Fx.Own w' w.heap.size 22 1 (.slice a (fP x p n A k).length c) (fP x p n A k).length (qm (fP x p n A k))/\Below w.heap.size w w':=by
 have ltp:=hT.lt
 have lmb:=hM.lt
 refine(callsIn_wide (n:=3)).1 (callsIn_of_wp_marks (F:=Fx.FR none) Tryd.func31 rfl trivial ?_ rfl)
 have ha:Fx.rD { tmps := #[(pt tp),aA k]++Array.replicate (Tryd.f31.ntmps-2) undef,defers := [] } 15 (Fx.start #[(pt tp),aA k]):=by
  refine⟨by rfl,fun i => ?_⟩
  simp only[Fx.start,Array.getD_eq_getD_getElem?,Array.getElem?_append,Array.getElem?_replicate]
  by_cases hi:i<2
  ·simp[hi]
  ·have P : ¬ i<(#[(pt tp),aA k]:Array Value).size:=by simpa using hi
   rw[if_neg P]
   split
   ·rw[Array.getElem?_eq_none (by simpa using hi)]; rfl
   ·rw[Array.getElem?_eq_none (by simpa using hi)]
 refine wpIn_seq<|Fx.yP (Q:=fun e f1 L=>e = .normal/\f1 0=(pt tp)/\f1 1=aA k/\f1 4=(pt w.heap.size)/\Fx.aK L w.heap.size 1 (fun _ => .slice none 0 0) 53/\Below w.heap.size w L) ha ?_ (by rfl) ?_
 ·refine Fx.yw (m:=1) (y:=fun _ => .slice none 0 0) (by rfl) rfl (by kernel_rfl) rfl fun g1 L rF X s1 z1 => ?_
  subst rF
  exact Fx.Ln ⟨rfl,rfl,rfl,rfl,X,s1.old⟩
 rintro e a1 L ⟨f1,ha1,hd1,rfl,h0,N,R,X,b1⟩
 have Og:=X.lt
 refine wpIn_seq<|wpIn_seq<|Fx.yP (Q:=fun e U I=>e = .normal/\U 4=(pt w.heap.size)/\Below L.heap.size L I /\ ∃ t q,U 8 = .func (.func 71) #[] #[(pt t),(pt q)]/\L.heap.size<=t/\L.heap.size<=q/\Fx.aK I t 1 (fun _=>(pt tp)) 85/\Fx.aK I q 1 (fun _=>aA k) 22) ha1 ?_ (by rfl) ?_
 ·refine aX h0<|aX N<|jT (VY tp k _) ?_
  rintro e I ⟨t,q,he,lb,lq,mb',mq',hb⟩
  exact⟨_,he,Fx.Ln ⟨rfl,R,hb,t,q,rfl,lb,lq,mb',mq'⟩⟩
 rintro e a2 I ⟨U,ha2,hd2,rfl,R,b2,t,q,h8,lbt,lq,V3,mq⟩
 have hds:a2.defers = []:=hd2.trans hd1
 have tbt:=V3.lt
 have tq:=mq.lt
 have bq:t≠q:=fun e=>by
  subst e
  have:=V3.symm.trans mq
  simp only[Option.some.injEq,Obj.cells.injEq]at this
  exact absurd this.2.1 (by decide)
 have m2:=X.dX (Fx.Sb b2) (Nat.ne_of_lt X.lt)
 have s1:=b1.size
 have s2:=b2.size
 have b12:Below w.heap.size w I:=b1.trans (b2.mono s1)
 have Tg:Fx.aK I tp 1 (fun _ => .map (some mb)) 116:=(b12.block tp ltp).trans hT
 have hM2:Fx.Mp I mb n x (fun j=>aA (p j)):=hM.keep (b12.block mb lmb)
 have hgq:w.heap.size≠q:=by omega
 refine wpIn_block (Ta.vo (F:=Fx.FR none) rfl (by decide) (gf:=71) (lb := #[(pt t),(pt q)]) ?hg trivial (fun args w=>gI Tryd.func71 (by kernel_rfl) rfl args w)
  (Mw tp mb t q n A x p k hinj PY ⟨bq,by omega⟩) tq ⟨Tg,hM2,V3,mq⟩ ?D7 (fun h k=>h.trans k) ?hKb (fun _=>rfl) (PI w.heap.size t q w.heap.size w) (PI.own (Nat.le_refl _) hgq (by omega) (by omega))
  ⟨⟨none,0,m2,Fx.Bd _ _ _ _ _,fun r e=>by cases e⟩,b12,tbt,tq⟩ (fun v a => ∃ f,Fx.rD a 15 f/\f 4=(pt w.heap.size)/\f 5=aA v) ?assign ?body ?done)
 case hg=>rw[ha2.ev]; exact h8
 case D7 =>
  rintro W o hw ⟨i1,i2,i3,i4⟩
  exact⟨(Below.heap_alloc W o tp i1.lt).trans i1,i2.keep (Below.heap_alloc W o mb i2.lt),(Below.heap_alloc W o t i3.lt).trans i3,(Below.heap_alloc W o q i4.lt).trans i4⟩
 case hKb =>
  intro W l o o' hl _ _ _
  exact I4.of (by simp) fun r hr=>World.putObj_heap_other (by omega)
 case assign =>
  intro l v W
  have hp:=ha2.put (d:=some 9) rfl (aA v)
  refine Fx.yP (ro:=some l) (n:=15) (f:=Fx.put U (some 9) (aA v)) (Q:=fun e f w'=>e = .normal/\f 4=(pt w.heap.size)/\f 5=aA v/\w'=W) (Fx.BR hp) ?_ (by rfl) ?_
  ·exact Fx.Lv (aA v) (Fx.dN rfl rfl) (Fx.Ln ⟨rfl,R,rfl,rfl⟩)
  ·rintro e a' w' ⟨f',hf',_,rfl,g4,g5,rfl⟩
   exact⟨⟨f',hf',g4,g5⟩,rfl⟩
 case body =>
  rintro l K v W a' ⟨f',hf',g4,g5⟩ ⟨⟨E,G,S,Z,V⟩,O,hpb,hpq⟩ hpl
  have hbs:=O.size
  have I6:=S.lt
  refine wpIn_block<|Fx.yP (ro:=some l) (Q:=fun e f w'=>e = .normal/\KeepsOthers W w'/\I4 tp mb t q W w'/\PI w.heap.size t q w.heap.size w (K ++ [v]) w') hf' ?_ (by rfl) ?_
  ·refine Fx.Lv (.slice E K.length G) (aP S.aM 0 (ha:=g4))<|aX g5<|Fx.Bc (vs := [(0,aA v)]) (s:=1) (zc:=fun _=>aA 0) (y:=Fx.dn (fun j=>aA 0) (0*1) 1 (fun _=>aA v)) (by rfl) rfl rfl Tryd.underlying53 (by kernel_rfl) (by rfl) (by rfl) (by kernel_rfl) (by rw[Fx.bO (off:=0*1) (s:=1) (y:=fun _=>aA v) rfl (Fx.cells_one (by rfl)) (by rfl)]; rfl) rfl fun g4' w4 Ia m4 C z4 => ?_
   have⟨m5,o5⟩:=fV C.old S Z
   have hB4:w.heap.size<=w4.heap.size:=Nat.le_trans hbs C.size
   refine Fx.BF (B:=w.heap.size) (s:=1) (bytes:=8) (k:=K.length) (m:=1) (v := .slice E K.length G) (x:=qm K) (by rfl) rfl rfl rfl Tryd.underlying53 (by kernel_rfl) (by kernel_rfl) rfl rfl o5 m4.aM (fun j hj=>by unfold Fx.dn; split <;> rfl) (by omega) (by omega) (by omega) hB4 fun J GK w6 ho1 H Ti hlt1 => ?_
   have m6:=m5.grown H (fun e=>(V _ e).2.2 rfl)
   refine mX m6 0 (bH J (K.length+1) GK) (ha:=g4) fun M Y u z7 => ?_
   have e4 : ∀ r,r<W.heap.size->r≠w.heap.size->(∀ z,(Value.slice E K.length G).ownBlock=some z->z≠r)->M.heap[r]? = W.heap[r]? := fun r N P h3 =>
    (u.block r (Nat.lt_of_lt_of_le (Nat.lt_of_lt_of_le N C.size) H.size) P).trans ((H.block r (Nat.lt_of_lt_of_le N C.size) fun e=>h3 r e.symm rfl).trans (C.block r N (Nat.ne_of_lt N)))
   have Y8:J≠t/\J≠q/\J≠w.heap.size:=by
    rcases Ti with h|h
    ·exact V J h
    ·have:=C.size; have:=O.block
     refine⟨?_,?_,?_⟩
     ·omega
     ·omega
     ·omega
   have mC:Fx.aK M w.heap.size 1 (fun _=>bH J (K.length+1) GK) 53:=Fx.aK.congr Y (by
    intro j hj
    obtain rfl:j=0:=by omega
    rfl)
   refine Fx.Ln ⟨rfl,?_,?_,⟨?_,?_,?_,?_⟩⟩
   ·refine(KeepsOthers.tH C fun o ho => ?_).trans ((KeepsOthers.I5 H fun r o e ho=>rW (o5.ty e) o ho).trans (KeepsOthers.tH u (rW m6.ty)))
    have:=(Array.getElem?_eq_some_iff.1 ho).1; omega
   ·refine I4.of (Nat.le_trans C.size (Nat.le_trans H.size u.size)) fun r hr=>e4 r ?_ ?_ fun z hz => ?_
    ·rcases hr with rfl|rfl|rfl|rfl <;> omega
    ·rcases hr with rfl|rfl|rfl|rfl <;> omega
    ·have N:=(Z.ge hz).1; have P:=V z hz
     rcases hr with rfl|rfl|rfl|rfl
     ·omega
     ·omega
     ·exact P.1
     ·exact P.2.1
   ·refine⟨some ⟨J,0,none⟩,GK,?_,?_,fun r e => ?_⟩
    ·rw[List.length_append]; exact mC
    ·rw[List.length_append]; exact(ho1.congr Mv).dX u (fun e=>Y8.2.2 (Option.some.inj e))
    ·obtain rfl:J=r:=Option.some.inj e
     exact Y8
   ·refine u.below ((C.below O hbs hbs).grown H hB4 fun r e=>(o5.ge e).1) (Nat.le_trans hB4 H.size) (Nat.le_refl _)
   ·exact Nat.lt_of_lt_of_le hpb (Nat.le_trans C.size (Nat.le_trans H.size u.size))
   ·exact Nat.lt_of_lt_of_le hpq (Nat.le_trans C.size (Nat.le_trans H.size u.size))
  ·rintro e a5 w5 ⟨f5,_,_,rfl,q1,q2,q3⟩
   exact⟨q1,q2,q3⟩
 case done =>
  rintro D xs W hD rfl ⟨⟨E,G,S,Z,V⟩,O,hpb,hpq⟩ hK
  have hcD : ∀ g,g<I.heap.size->g≠D:=fun g h e=>by omega
  have hkc : ∀ {g T},Fx.Ty W g T->g≠D:=fun ht e=>by
   have:=rW ht _ (e ▸ hK); cases this
  have hDn:(w.heap.size:Nat)≠D:=by omega
  show Code.wpIn _ _ _ _ _ _ _
  refine wpIn_seq<|Fx.yP (Q:=fun e f w'=>e = .normal/\f 4=(pt w.heap.size)/\Fx.Stp w.heap.size W w'/\Fx.aK w' w.heap.size 1 (fun _ => .slice E (fP x p n A k).length G) 53) (f:=U) ⟨ha2.size,ha2.get⟩ ?_ (by rfl) ?_
  ·refine Fx.Lv (.slice E (fP x p n A k).length G) (aP S.aM 0 (ha:=R))<|mX S 0 (.slice E (fP x p n A k).length G) (ha:=R) fun M Y u z7 => ?_
   exact Fx.Ln ⟨rfl,R,u,Fx.aK.congr Y fun j hj=>by
    obtain rfl:j=0:=by omega
    rfl⟩
  rintro e a7 M ⟨f7,ha7,hd7,rfl,q4,u,Y⟩
  have hK7:M.heap[D]? = some (.deferred (some [])):=(u.block D (Array.getElem?_eq_some_iff.1 hK).1 (Ne.symm hDn)).trans hK
  have m8:Fx.aK (M.putObj D (.deferred none)) w.heap.size 1 (fun _ => .slice E (fP x p n A k).length G) 53:=(World.putObj_heap_other hDn).trans Y
  refine wpIn_ret (Fx.leave1 ha7 (hd7.trans (by rw[hds])) hK7 (Fx.rV Tryd.results31 ⟨_,q4,Fx.Gt m8.aM (by kernel_rfl) (i:=0) (by omega) (by omega) rfl⟩) ⟨E,G,rfl,?_,?_⟩)
  ·have o7:=Z.dX u (fun e=>(V _ e).2.2 rfl)
   exact World.ownsRow.kept o7 (grownBy_putObj' M D _) (.inr fun e=>by
    exact hkc (Z.ty e) rfl)
  ·exact(u.below O O.size (Nat.le_refl _)).grown (grownBy_putObj' M D _) (Nat.le_trans O.size u.size) fun r e=>by cases e; omega
end Go.Proofs.YtahbiajdgealnaaDoor
namespace Go.Proofs.YtahbiajdgealnaaDoor
open Go.RowKit Go
set_option linter.unusedVariables false
namespace Rt
section
variable {x p x' p':Nat->Int} {n n' j d e:Nat} {k id pa:Int}
theorem pU : ∀ {d:Nat} {k:Int},(fP x p n d k).length<=d
 | 0,k=>Nat.le_refl _
 | d+1,k=>by
   unfold fP
   split
   ·rw[List.length_cons]; exact Nat.succ_le_succ pU
   ·exact Nat.zero_le _
theorem rX : ∀ {d e:Nat} {k:Int},fD x p n d k->(fP x p n d k).length<=e->fD x p n e k
 | 0,0,k,h,_=>h
 | 0,e+1,k,h,_=>fun b=>by
   have h:bZ x n k=false:=h
   rw[h]at b; cases b
 | d+1,0,k,h,hl=>by
   show bZ x n k=false
   cases a:bZ x n k with
   | false=>rfl
   | true =>
     unfold fP at hl
     rw[if_pos a,List.length_cons]at hl
     omega
 | d+1,e+1,k,h,hl=>fun a=>by
   unfold fP at hl
   rw[if_pos a,List.length_cons]at hl
   exact rX (h a) (by omega)
theorem BX : ∀ {d:Nat} {k:Int},fD x p n d k->fP x p n (d+1) k=fP x p n d k
 | 0,k,h=>by
   have h:bZ x n k=false:=h
   rw[iA h,iA h]
 | d+1,k,h=>by
   cases hk:bZ x n k with
   | false=>rw[iA hk,iA hk]
   | true =>
     show(if bZ x n k=true then k::fP x p n (d+1) (eP x p n k)else [])=(if bZ x n k=true then k::fP x p n d (eP x p n k)else [])
     rw[if_pos hk,if_pos hk,BX (h hk)]
theorem D9{d:Nat}{k:Int}(h:fD x p n d k):fD x p n (d+1) k:=rX h (Nat.le_succ_of_le pU)
theorem Ad{d e:Nat}{k:Int}(h:fD x p n d k)(a:d<=e):fP x p n e k=fP x p n d k/\fD x p n e k:=by
 induction a with
 | refl=>exact⟨rfl,h⟩
 | step _ ih=>exact⟨(BX ih.2).trans ih.1,D9 ih.2⟩
theorem yR(a : ∀ k,bZ x' n' k=bZ x n k)(b : ∀ k,bZ x n k=true->eP x' p' n' k=eP x p n k) : ∀(d:Nat) (k:Int),fP x' p' n' d k=fP x p n d k
 | 0,_=>rfl
 | d+1,k=>by
   unfold fP
   rw[a]
   cases hk:bZ x n k with
   | false=>rfl
   | true=>rw[if_pos rfl,if_pos rfl,b k hk,yR a b d]
structure tJ(n:Nat)(x p:Nat->Int):Prop where
 inj : ∀ a b,a<n->b<n->x a=x b->a=b
 pos : ∀ j,j<n->0<x j/\x j<=18446744073709551615
 stop : ∀ k,fD x p n 4 k
 small:n<=32
 par : ∀ j,j<n->p j=0 \/ ∃ i,i<j/\x i=p j
theorem tJ.zero(x p:Nat->Int):tJ 0 x p:=⟨fun a b h=>by omega,fun j h=>by omega,fun k h=>(nomatch h),by omega,fun j h=>by omega⟩
theorem tJ.PZ(h:tJ n x p):bZ x n 0=false:=pR fun i hi e=>by have:=h.pos i hi; omega
theorem tJ.Tj(h:tJ n x p)(d:Nat):fP x p n d 0 = []:=iA h.PZ
theorem tJ.len(h:tJ n x p)(k:Int):(fP x p n 4 k).length<=1000000:=Nat.le_trans pU (by omega)
def kX(x p:Nat->Int)(n:Nat)(id pa:Int):Int :=
 if id=0 then 1 else if bZ x n id=true then 14 else if ¬ pa=0/\bZ x n pa=false then 9 else if 32<=n\/4<=(fP x p n 4 pa).length then 6 else 0
inductive P5 (n:Nat) (x p:Nat->Int) (id pa:Int):Int->Nat->(Nat->Int)->(Nat->Int)->Prop
 | no {c:Int} (hc:kX x p n id pa=c) (h0:c≠0):P5 n x p id pa c n x p
 | yes (hc:kX x p n id pa=0):P5 n x p id pa 0 (n+1) (Fx.aH x n id) (Fx.aH p n pa)
theorem Ea(a:kX x p n id pa=0):id≠0/\bZ x n id=false/\(pa=0\/bZ x n pa=true)/\n<32/\(fP x p n 4 pa).length<4:=by
 unfold kX at a
 split at a
 ·cases a
 split at a
 ·cases a
 split at a
 ·cases a
 split at a
 ·cases a
 rename_i h1 h2 h3 h4
 refine⟨h1,by simpa using h2,?_,by omega,by omega⟩
 by_cases b:pa=0
 ·exact .inl b
 right
 cases hk:bZ x n pa with
 | true=>rfl
 | false=>exact absurd ⟨b,hk⟩ h3
theorem gM(id k:Int):bZ (Fx.aH x n id) (n+1) k=(bZ x n k || decide (id=k)):=by
 have e : ∀ m,m<=n->bZ (Fx.aH x n id) m k=bZ x m k:=fun m=>by
  induction m with
  | zero=>exact fun _=>rfl
  | succ m ih =>
    intro a
    show(bZ (Fx.aH x n id) m k || decide (Fx.aH x n id m=k))=(bZ x m k || decide (x m=k))
    rw[ih (by omega)]
    unfold Fx.aH
    rw[if_neg (by omega)]
 show(bZ (Fx.aH x n id) n k || decide (Fx.aH x n id n=k))=_
 rw[e n (Nat.le_refl _)]
 unfold Fx.aH
 rw[if_pos rfl]
theorem nD(id pa k:Int):eP (Fx.aH x n id) (Fx.aH p n pa) (n+1) k=if id=k then pa else eP x p n k:=by
 have e : ∀ m,m<=n->eP (Fx.aH x n id) (Fx.aH p n pa) m k=eP x p m k:=fun m=>by
  induction m with
  | zero=>exact fun _=>rfl
  | succ m ih =>
    intro a
    show(if Fx.aH x n id m=k then Fx.aH p n pa m else eP (Fx.aH x n id) (Fx.aH p n pa) m k)=(if x m=k then p m else eP x p m k)
    rw[ih (by omega),show Fx.aH x n id m=x m by unfold Fx.aH; rw[if_neg (by omega)],show Fx.aH p n pa m=p m by unfold Fx.aH; rw[if_neg (by omega)]]
 show(if Fx.aH x n id n=k then Fx.aH p n pa n else eP (Fx.aH x n id) (Fx.aH p n pa) n k)=_
 rw[e n (Nat.le_refl _),show Fx.aH x n id n=id by unfold Fx.aH; rw[if_pos rfl],show Fx.aH p n pa n=pa by unfold Fx.aH; rw[if_pos rfl]]
theorem tJ.up(h:tJ n x p)(b:bZ x n k=true):eP x p n k=0\/bZ x n (eP x p n k)=true:=by
 obtain⟨j,a,e⟩:=dV b
 rw[vL h.inj a e]
 rcases h.par j a with h1|⟨i,hi,h1⟩
 ·exact .inl h1
 exact .inr (fO (by omega) h1)
theorem wM(h:tJ n x p)(c:bZ x n id=false)(b:id≠0) : ∀(d:Nat) (k:Int),k≠id->fD x p n d k->fD (Fx.aH x n id) (Fx.aH p n pa) (n+1) d k
 | 0,k,hk,hs=>by
   show bZ _ _ _=false
   rw[gM,decide_eq_false (fun e=>hk e.symm),Bool.or_false]; exact hs
 | d+1,k,hk,hs=>fun a=>by
   rw[gM,decide_eq_false (fun e=>hk e.symm),Bool.or_false]at a
   rw[nD,if_neg (fun e=>hk e.symm)]
   refine wM h c b d _ ?_ (hs a)
   intro e
   rcases h.up a with h1|h1
   ·exact b (e.symm.trans h1)
   ·rw[e,c]at h1; cases h1
theorem tJ.put(h:tJ n x p)(y:kX x p n id pa=0)(o:0<=id/\id<=18446744073709551615):tJ (n+1) (Fx.aH x n id) (Fx.aH p n pa):=by
 obtain⟨m,f,s,B,A⟩:=Ea y
 have l:Fx.aH x n id n=id:=by unfold Fx.aH; rw[if_pos rfl]
 have d : ∀ j,j<n->Fx.aH x n id j=x j:=fun j c=>by unfold Fx.aH; rw[if_neg (by omega)]
 have t:Fx.aH p n pa n=pa:=by unfold Fx.aH; rw[if_pos rfl]
 have u : ∀ j,j<n->Fx.aH p n pa j=p j:=fun j c=>by unfold Fx.aH; rw[if_neg (by omega)]
 have r : ∀ j,j<n->x j≠id:=fun j c e=>by rw[fO c e]at f; cases f
 have z:pa≠id:=fun e=>by
  subst e
  rcases s with h1|h1
  ·exact m h1
  ·rw[f]at h1; cases h1
 have g : ∀ j,j<n+1->j<n\/j=n:=fun j c=>by omega
 refine⟨fun a b w o e => ?_,fun j c => ?_,fun k => ?_,by omega,fun j c => ?_⟩
 ·rcases g a w with h1|rfl <;> rcases g b o with h2|rfl
  ·rw[d a h1,d b h2]at e; exact h.inj a b h1 h2 e
  ·rw[d a h1,l]at e; exact absurd e (r a h1)
  ·rw[l,d b h2]at e; exact absurd e.symm (r b h2)
  rfl
 ·rcases g j c with h1|rfl
  ·rw[d j h1]; exact h.pos j h1
  rw[l]; omega
 ·by_cases q:k=id
  ·subst q
   intro _
   rw[nD,if_pos rfl]
   exact wM h f m 3 pa z (rX (h.stop pa) (by omega))
  exact wM h f m 4 k q (h.stop k)
 rcases g j c with h1|rfl
 ·rw[u j h1]
  rcases h.par j h1 with h2|⟨i,hi,h2⟩
  ·exact .inl h2
  exact .inr ⟨i,hi,by rw[d i (by omega)]; exact h2⟩
 rw[t]
 rcases s with h2|h2
 ·exact .inl h2
 obtain⟨i,hi,v⟩:=dV h2
 exact .inr ⟨i,hi,by rw[d i hi]; exact v⟩
theorem pV : ∀ {l m:List Int},l.Pairwise (· < ·)->m.Pairwise (· < ·)->(∀ k,k∈l<->k∈m)->l=m
 | [],[],_,_,_=>rfl
 | [],b::m,_,_,h=>by have:=(h b).2 (by simp); simp at this
 | a::l,[],_,_,h=>by have:=(h a).1 (by simp); simp at this
 | a::l,b::m,hl,hm,h=>by
   rw[List.pairwise_cons]at hl hm
   have e:a=b:=by
    have c:=(h a).1 (by simp)
    have d:=(h b).2 (by simp)
    rw[List.mem_cons]at c d
    rcases c with c|c
    ·exact c
    rcases d with d|d
    ·exact d.symm
    have:=hm.1 _ c; have:=hl.1 _ d; omega
   subst e
   rw[pV hl.2 hm.2 fun k => ?_]
   have f:=h k
   rw[List.mem_cons,List.mem_cons]at f
   constructor
   ·intro q
    rcases f.1 (.inr q)with rfl|c
    ·have:=hl.1 _ q; omega
    ·exact c
   ·intro q
    rcases f.2 (.inr q)with rfl|c
    ·have:=hm.1 _ q; omega
    ·exact c
end
theorem yS(S:Nat->Bool) : ∀ n,Fx.unseen S n<=n
 | 0=>Nat.le_refl _
 | n+1=>by
   unfold Fx.unseen
   have:=yS S n
   split <;> omega
structure I7(n:Nat)(P:Nat->Prop)(S:Nat->Bool)(m:Nat)(τ:Nat->Nat)(kk:Nat):Prop where
 lt : ∀ q,q<m->τ q<n
 inj : ∀ q r,q<m->r<m->τ q=τ r->q=r
 mem : ∀ i,i<n->S i=true->P i -> ∃ q,q<m/\τ q=i
 yes : ∀ q,q<m->P (τ q)
 seen : ∀ q,q<m->S (τ q)=true
 le:m+kk<=n
 kk:kk=Fx.unseen S n
section
variable {n m kk:Nat} {P:Nat->Prop} {S:Nat->Bool} {τ:Nat->Nat}
theorem I7.start(n:Nat)(P:Nat->Prop)(τ:Nat->Nat):I7 n P (fun _=>false) 0 τ (Fx.unseen (fun _=>false) n) :=
 ⟨fun _ h=>absurd h (Nat.not_lt_zero _),fun _ _ h=>absurd h (Nat.not_lt_zero _),fun _ _ h=>(nomatch h),fun _ h=>absurd h (Nat.not_lt_zero _),fun _ h=>absurd h (Nat.not_lt_zero _),by have:=yS (fun _=>false) n; omega,rfl⟩
theorem I7.skip(h:I7 n P S m τ kk){i:Nat}(hi:i<n)(g:S i=false)(d : ¬ P i):I7 n P (Fx.aH S i true) m τ (Fx.unseen (Fx.aH S i true) n):=by
 have o:=Fx.kK g n hi
 have k:=h.kk
 have l:=h.le
 refine⟨h.lt,h.inj,fun j c a b => ?_,h.yes,fun q f => ?_,by omega,rfl⟩
 ·unfold Fx.aH at a
  split at a
  ·rename_i e; subst e; exact absurd b d
  exact h.mem j c a b
 unfold Fx.aH; split
 ·rfl
 exact h.seen q f
theorem I7.take(h:I7 n P S m τ kk){i:Nat}(hi:i<n)(g:S i=false)(p:P i):I7 n P (Fx.aH S i true) (m+1) (Fx.aH τ m i) (Fx.unseen (Fx.aH S i true) n):=by
 have w:=Fx.kK g n hi
 have u:=h.kk
 have v:=h.le
 have c:Fx.aH τ m i m=i:=by unfold Fx.aH; rw[if_pos rfl]
 have b : ∀ q,q<m->Fx.aH τ m i q=τ q:=fun q a=>by unfold Fx.aH; rw[if_neg (by omega)]
 have k : ∀ q,q<m->τ q≠i:=fun q a e=>by have:=h.seen q a; rw[e,g]at this; cases this
 have d : ∀ q,q<m+1->q<m\/q=m:=fun q a=>by omega
 refine⟨fun q a => ?_,fun q r a t e => ?_,fun j o f l => ?_,fun q a => ?_,fun q a => ?_,by omega,rfl⟩
 ·rcases d q a with h1|rfl
  ·rw[b q h1]; exact h.lt q h1
  rw[c]; exact hi
 ·rcases d q a with h1|h1 <;> rcases d r t with h2|h2
  ·rw[b q h1,b r h2]at e; exact h.inj q r h1 h2 e
  ·subst h2; rw[b q h1,c]at e; exact absurd e (k q h1)
  ·subst h1; rw[b r h2,c]at e; exact absurd e.symm (k r h2)
  omega
 ·by_cases e:j=i
  ·exact⟨m,by omega,by rw[c,e]⟩
  unfold Fx.aH at f
  rw[if_neg e]at f
  obtain⟨q,a,s⟩:=h.mem j o f l
  exact⟨q,by omega,by rw[b q a,s]⟩
 ·rcases d q a with h1|rfl
  ·rw[b q h1]; exact h.yes q h1
  rw[c]; exact p
 rcases d q a with h1|rfl
 ·rw[b q h1]; unfold Fx.aH; split
  ·rfl
  exact h.seen q h1
 rw[c]; unfold Fx.aH; rw[if_pos rfl]
end
end Rt
end Go.Proofs.YtahbiajdgealnaaDoor
namespace Go.Proofs.YtahbiajdgealnaaDoor
open Go.RowKit Rt
open Fx (eY dN fJ bC fI fH eO dS fK iq dY iw fq gT iy Lv sN Ln Ws Qv Wl Rp Wc Qs Wr Sb Lk Wk rC rV sR Rs Rn Rd Rk Wb Wx Wo Ab Wt qM Qn Ba uY Bc BF yw Bb DL jw Dt jl qh rQ DX Bd Dr BU Bf rv aC aK dn aH ev bQ Stp aS flat gu Mp bB fC gF bO down fG iR jr kZ dG bY cells_one jm bP xV unseen jv jE cO bU dA cZ dh gX iP rA iD)
section
open Rt
set_option maxRecDepth 10000
theorem Tk(x p:Nat->Int)(w:World) :
 Calls Tryd.prog 28 #[] w fun e w' => ∃ tp mb,e = .returned ((pt tp))/\w.heap.size<=tp/\w.heap.size<=mb/\aK w' tp 1 (fun _ => .map (some mb)) 116/\Mp w' mb 0 x (fun j=>aA (p j))/\Below w.heap.size w w':=by
 refine Kent Tryd.func28 4 ?_
 refine ay<|av (.pointer none)<|aD<|ay<|Fx.L.BM (by rfl) rfl rfl fun k u h a o y => ?_
 have b:=aQ o.old (Below.refl w.heap.size w)
 have l:=gP h
 have s:=a.lt
 refine av (.agg (aC 1 (dn (fun _ => .map none) 0 1 (fun _ => .map (some k)))))<|rR fun d v c f q z => ?_
 have⟨n,g⟩:=fV q.old a b
 have m:=iT c b.size
 have r:=bR c a.lt
 have t:=f.lt
 refine av ((pt d))<|aD<|Wr<|aL ((pt d)) ?_
 exact⟨_,_,rfl,m,l,f,n.mI (fun i hi=>absurd hi (Nat.not_lt_zero _)),g⟩
theorem Rt.oJ{l:List Int}{i:Nat}{v:Int}(hi:i<l.length)(e:l.getD i 0=v):v∈l:=by
 rw[List.getD_eq_getElem?_getD,List.getElem?_eq_getElem hi]at e
 rw[<- e]; exact List.getElem_mem hi
theorem Rt.Mx{l:List Int}{v:Int}(h : ∀ j,j<l.length->l.getD j 0≠v) : ¬ v∈l:=fun a=>by
 obtain⟨i,hi,e⟩:=List.getElem_of_mem a
 refine h i hi ?_
 rw[List.getD_eq_getElem?_getD,List.getElem?_eq_getElem hi]; exact e
theorem V4(l:List Int)(v:Int)(B c:Nat)(a:Option Addr)(w:World)(C:Fx.Own w B 22 1 (.slice a l.length c) l.length (qm l))(F:l.length<=1000) :
 Calls Tryd.prog 180 #[.slice a (l.length) (c),aA v] w fun e w' => ∃ r:Int,e = .returned (au r)/\(0<=r<->v∈l)/\Below w.heap.size w w':=by
 refine Kent Tryd.func180 19 ?_
 refine ay<|av (au 0)<|aD<|Ws<|ay<|av (.slice a (l.length) (c))<|av (au l.length)<|av (au 0)<|aD<|Wb<|Wo (fun f A => ∃ i:Nat,(∀ j,j<i->l.getD j 0≠v)/\f 0 = .slice a (l.length) (c)/\f 1=aA v/\f 7=au ((l.length:Int))/\f 8=au ((i:Int))/\Fx.Own A B 22 1 (.slice a (l.length) (c)) l.length (qm l)/\Below w.heap.size w A) (fun f _=>((l.length:Int)-intOf (f 8)).toNat) ⟨0,(fun j n=>absurd n (Nat.not_lt_zero _)),(by rfl),Fx.ic,Fx.ic,Fx.ic,C,(Below.refl w.heap.size w)⟩ ?_
 rintro E z ⟨i,u,s,t,m,b,x,g⟩
 refine ay ?_
 by_cases o:(i:Int)<(l.length:Int)
 ·refine Lv aI (nV o (hx:=b) (hy:=m))<|aD<|Ws<|aT<|Wk<|sN<|Ws<|Wb<|ay<|aX b<|av (au i)<|aD<|ay<|aX t<|aX s<|av (au i) ?_
  obtain⟨p,k⟩:=x.addr (by omega)
  have y:Fx.Own z B 22 1 (bH p l.length c) l.length (qm l):=x.oD (congrArg (fun q=>Value.slice q l.length c) k)
  refine Lv ((pf p i)) (cK 1 (hx:=(rfl.trans (congrArg (fun q=>Value.slice q (l.length) (c)) k))))<|Lv (aA (l.getD i 0)) (aP y.aM i) ?_
  by_cases d:v=(l.getD i 0)
  ·refine Lv aI (iV d)<|aD<|aT<|ay<|av (au i)<|av (au i)<|aD<|Wr<|bU<|sR<|rA<|bU<|sR<|aL (au i) ?_
   exact⟨_,rfl,⟨fun _=>oJ (by omega) d.symm,fun _=>by omega⟩,g⟩
  refine Lv aF (mH d)<|aD<|aN<|Wk<|dA<|sN<|Wl<|Lv (au ((i:Int)+1)) (gD (hx:=b))<|av (au ((i:Int)+1))<|Ln ?_
  have D:Fx.Own z B 22 1 (.slice a (l.length) (c)) l.length (qm l):=y.oD (congrArg (fun q=>Value.slice q l.length c) k.symm)
  refine iP ⟨i+1,(fun j n=>by by_cases e:j=i; subst e; exact fun e=>d e.symm; exact u j (by omega)),s,(t.trans Fx.ic),(m.trans Fx.ic),Fx.ic,D,g⟩ ?_
  show((l.length:Int)-intOf ((au ((i:Int)+1)))).toNat<_
  simp only[b,intOf]; omega
 refine Lv aF (nW o (hx:=b) (hy:=m))<|aD<|Ws<|aN<|Wx<|cZ<|gX<|dh<|sN<|ay<|av (au (-1))<|aD<|Wr<|aL (au (-1)) ?_
 exact⟨_,rfl,⟨fun h=>by omega,fun h=>absurd h (Mx (fun j n=>u j (by omega)))⟩,g⟩
theorem V5(l:List Int)(v:Int)(B c:Nat)(a:Option Addr)(w:World)(g:Fx.Own w B 22 1 (.slice a l.length c) l.length (qm l))(i:l.length<=1000) :
 Calls Tryd.prog 169 #[.slice a (l.length) (c),aA v] w fun e w'=>e = .returned (.bool (decide (v∈l)))/\Below w.heap.size w w':=by
 refine Kent Tryd.func169 9 ?_
 refine ay<|av aF<|aD<|ay<|av (.slice a (l.length) (c))<|av (aA v)<|jT (V4 l v B c a _ g i) ?_
 rintro j k ⟨r,b,h,f⟩
 refine⟨_,b,?_⟩
 clear b
 have d:=aQ f (Below.refl w.heap.size w)
 refine Lv (.bool (decide (0<=r))) (Fx.wu rfl rfl rfl)<|av (.bool (decide (0<=r)))<|aD<|Wr<|aL (.bool (decide (0<=r))) ?_
 exact⟨by rw[decide_eq_decide.2 h],d⟩
theorem Tm(x p:Nat->Int)(n tp mb:Nat)(id pa:Int)(w:World)(b:aK w tp 1 (fun _ => .map (some mb)) 116)(a:Mp w mb n x (fun j=>aA (p j)))(h:tJ n x p) :
 Calls Tryd.prog 155 #[(pt tp),aA id,aA pa] w fun e w' => ∃ c D x2 E,e = .returned (au c)/\P5 n x p id pa c D x2 E/\aK w' tp 1 (fun _ => .map (some mb)) 116/\Mp w' mb D x2 (fun j=>aA (E j))/\Stp mb w w':=by
 have aa:=b.lt
 have Z:=a.lt
 have Y:=h.small
 have X:(fP x p n 4 pa).length<=4:=pU
 refine Kent Tryd.func155 44 ?_
 refine ay<|av (au 0)<|aD<|Ws<|Wb<|ay<|av ((pt tp))<|Lv aF (Fx.jI rfl rfl rfl (by kernel_rfl))<|av aF<|aD<|aN<|ay<|av (aA id) ?_
 by_cases f:id=0
 ·refine Lv aI (iV f)<|av aI<|aD<|aT<|ay<|av (au 1)<|aD<|Wr<|bU<|sR<|aL (au 1) ?_
  exact⟨_,_,_,_,rfl,.no (by unfold kX; rw[if_pos f]) (by decide),b,a,(jl mb w)⟩
 refine Lv aF (mH f)<|av aF<|aD<|aN<|ay<|av ((pt tp))<|av (aA id) ?_
 by_cases d:(bZ x n id)=true
 ·refine qj (wK x p n tp mb id _ b a) aI (by rw[d])<|av aI<|aD<|aT<|ay<|av (au 14)<|aD<|Wr<|bU<|sR<|aL (au 14) ?_
  exact⟨_,_,_,_,rfl,.no (by unfold kX; rw[if_neg f,d,if_pos rfl]) (by decide),b,a,(jl mb w)⟩
 rw[Bool.not_eq_true]at d
 refine qj (wK x p n tp mb id _ b a) aF (by rw[d])<|av aF<|aD<|aN<|ay<|av (aA pa) ?_
 by_cases k:pa=0
 ·refine Lv aF (qP k)<|av aF<|jP<|jP<|jP<|jP<|av aF<|av aF<|aD<|aN<|Ws<|ay<|av ((pt tp))<|av ((pt tp))<|av ((pt tp))<|Lv (.map (some mb)) (aP b.aM 0)<|Lv (au n) (Fx.IL rfl rfl rfl a Tryd.underlying87) ?_
  by_cases l:32<=(n:Int)
  ·refine Lv aI (nY l)<|av aI<|aD<|aT<|Wk<|sN<|aT<|ay<|av (au 6)<|aD<|Wr<|bU<|sR<|aL (au 6) ?_
   exact⟨_,_,_,_,rfl,.no (by unfold kX; rw[if_neg f,d,if_neg (by decide),if_neg (fun h=>h.1 k),if_pos (by omega)]) (by decide),b,a,(jl mb w)⟩
  refine Lv aF (nu l)<|av aF<|aD<|aN<|Wl<|av ((pt tp))<|av (aA pa)<|jT (D8 x p n tp mb 4 pa _ b a h.inj (h.stop _) (h.len _)) ?_
  rintro J w1 ⟨Oh,pc1,o,K,z⟩
  refine⟨_,o,?_⟩
  clear o
  have T:=Sb z
  have⟨s,t⟩:=fV z b a
  have v:=(jl mb w).then T (.inr (jl mb w).size)
  refine av (au (((fP x p n 4 pa).length:Nat):Int)) ?_
  by_cases m:4<=(((fP x p n 4 pa).length:Nat):Int)
  ·refine Lv aI (nY m)<|av aI<|aD<|aT<|ay<|av (au 6)<|aD<|Wr<|bU<|sR<|aL (au 6) ?_
   exact⟨_,_,_,_,rfl,.no (by unfold kX; rw[if_neg f,d,if_neg (by decide),if_neg (fun h=>h.1 k),if_pos (by omega)]) (by decide),s,t,v⟩
  refine Lv aF (nu m)<|av aF<|aD<|aN<|Wk<|dA<|sN<|Ws ?_
  have q : ∀ i,i<n->x i≠id:=fun i hi e=>by rw[fO hi e]at d; cases d
  refine Wl<|av ((pt tp))<|av ((pt tp))<|av ((pt tp))<|Lv (.map (some mb)) (aP s.aM 0)<|av (aA id)<|av (aA pa)<|Fx.L.Gz (by rfl) rfl rfl rfl rfl rfl t Tryd.underlying87 Tryd.underlying22 q fun V P F z1 => ?_
  have B:=t.uG F
  have Q:=s.bV B
  have m6:=K.bV B
  have H:=v.then F (.inl rfl)
  have R:Mp V mb (n+1) (aH x n id) (fun j=>aA (aH p n pa j)):=P.mI (fun i _=>⟨rfl,by unfold aH; split <;> rfl⟩)
  refine aD<|ay<|av (au 0)<|aD<|Wr<|aL (au 0) ?_
  exact⟨_,_,_,_,rfl,.yes (by unfold kX; rw[if_neg f,d,if_neg (by decide),if_neg (fun h=>h.1 k),if_neg (by omega)]),Q,R,H⟩
 refine Lv aI (tu k)<|av aI<|av ((pt tp))<|av (aA pa) ?_
 by_cases g:(bZ x n pa)=true
 ·refine qj (wK x p n tp mb pa _ b a) aI (by rw[g])<|av aF<|av aF<|av aF<|aD<|aN<|Ws<|ay<|av ((pt tp))<|av ((pt tp))<|av ((pt tp))<|Lv (.map (some mb)) (aP b.aM 0)<|Lv (au n) (Fx.IL rfl rfl rfl a Tryd.underlying87) ?_
  by_cases l:32<=(n:Int)
  ·refine Lv aI (nY l)<|av aI<|aD<|aT<|Wk<|sN<|aT<|ay<|av (au 6)<|aD<|Wr<|bU<|sR<|aL (au 6) ?_
   exact⟨_,_,_,_,rfl,.no (by unfold kX; rw[if_neg f,d,if_neg (by decide),if_neg (fun h=>by rw[g]at h; cases h.2),if_pos (by omega)]) (by decide),b,a,(jl mb w)⟩
  refine Lv aF (nu l)<|av aF<|aD<|aN<|Wl<|av ((pt tp))<|av (aA pa)<|jT (D8 x p n tp mb 4 pa _ b a h.inj (h.stop _) (h.len _)) ?_
  rintro J w3 ⟨pa2,pc2,o,S,A⟩
  refine⟨_,o,?_⟩
  clear o
  have U:=Sb A
  have⟨u,r⟩:=fV A b a
  have y:=(jl mb w).then U (.inr (jl mb w).size)
  refine av (au (((fP x p n 4 pa).length:Nat):Int)) ?_
  by_cases m:4<=(((fP x p n 4 pa).length:Nat):Int)
  ·refine Lv aI (nY m)<|av aI<|aD<|aT<|ay<|av (au 6)<|aD<|Wr<|bU<|sR<|aL (au 6) ?_
   exact⟨_,_,_,_,rfl,.no (by unfold kX; rw[if_neg f,d,if_neg (by decide),if_neg (fun h=>by rw[g]at h; cases h.2),if_pos (by omega)]) (by decide),u,r,y⟩
  refine Lv aF (nu m)<|av aF<|aD<|aN<|Wk<|dA<|sN<|Ws ?_
  have q : ∀ i,i<n->x i≠id:=fun i hi e=>by rw[fO hi e]at d; cases d
  refine Wl<|av ((pt tp))<|av ((pt tp))<|av ((pt tp))<|Lv (.map (some mb)) (aP u.aM 0)<|av (aA id)<|av (aA pa)<|Fx.L.Gz (by rfl) rfl rfl rfl rfl rfl r Tryd.underlying87 Tryd.underlying22 q fun W M G z2 => ?_
  have C:=r.uG G
  have N:=u.bV C
  have ab:=S.bV C
  have I:=y.then G (.inl rfl)
  have O:Mp W mb (n+1) (aH x n id) (fun j=>aA (aH p n pa j)):=M.mI (fun i _=>⟨rfl,by unfold aH; split <;> rfl⟩)
  refine aD<|ay<|av (au 0)<|aD<|Wr<|aL (au 0) ?_
  exact⟨_,_,_,_,rfl,.yes (by unfold kX; rw[if_neg f,d,if_neg (by decide),if_neg (fun h=>by rw[g]at h; cases h.2),if_neg (by omega)]),N,O,I⟩
 rw[Bool.not_eq_true]at g
 refine qj (wK x p n tp mb pa _ b a) aF (by rw[g])<|av aI<|av aI<|av aI<|aD<|aT<|ay<|av (au 9)<|aD<|Wr<|bU<|sR<|aL (au 9) ?_
 exact⟨_,_,_,_,rfl,.no (by unfold kX; rw[if_neg f,d,if_neg (by decide),if_pos ⟨k,g⟩]) (by decide),b,a,(jl mb w)⟩
theorem Tn(k:Int)(w:World) :
 Calls Tryd.prog 52 #[aA k] w fun e w'=>e = .returned (.bool true)/\w'=w:=by
 refine Kent Tryd.func52 3 ?_
 refine ay<|av aF<|aD<|ay<|av aI<|aD<|Wr<|aL aI ?_
 exact⟨rfl,rfl⟩
-- (*tree.Tree).Below$1 is not in this seat
end
section
set_option linter.unusedVariables false
namespace Rt
open Go.Sort (ltInt swp)
def gA(d:Array Int):Nat->Int:=fun i=>d[i]!
section
variable {d d':Array Int} {n a b i j k p:Nat}
theorem P6(e:d.size=n)(hi:i<n)(c:j<n)(k:Nat):gA (swp d i j) k=if k=i then gA d j else if k=j then gA d i else gA d k:=by
 unfold gA
 by_cases b:k=i
 ·subst b
  rw[if_pos rfl]
  by_cases a:k=j
  ·subst a; exact Sort.swp_right d k k (by omega)
  exact Sort.swp_left d k j (by omega) a
 rw[if_neg b]
 by_cases a:k=j
 ·subst a; rw[if_pos rfl]; exact Sort.swp_right d i k (by omega)
 rw[if_neg a]; exact Sort.swp_other d i j k b a
theorem dw(a:d.size=n)(i j:Nat):(swp d i j).size=n:=by rw[Sort.size_swp]; exact a
theorem dZ(e:d.size=n)(hi:i<n)(c:j<n) : ∀ p,p<n*1->gu (gu (rv .u64 (gA d)) i (aA (gA d j))) j (aA (gA d i)) p=rv .u64 (gA (swp d i j)) p:=fun p f=>by
 show _=Value.int .u64 (gA (swp d i j) p)
 rw[P6 e hi c]
 unfold gu
 by_cases b:p=j
 ·subst b
  rw[if_pos rfl]
  by_cases a:p=i
  ·subst a; rw[if_pos rfl]
  ·rw[if_neg a,if_pos rfl]
 ·rw[if_neg b]
  by_cases a:p=i
  ·rw[if_pos a,if_pos a]
  ·rw[if_neg a,if_neg a,if_neg b]; rfl
theorem lY(h:gA d i<gA d j):ltInt d[i]! d[j]! = true:=decide_eq_true h
theorem nQ(h : ¬ gA d i<gA d j):ltInt d[i]! d[j]! = false:=decide_eq_false h
theorem P7(c:a<j)(b:gA d j<gA d (j-1)):Sort.insInner ltInt a (j-1) (swp d j (j-1))=Sort.insInner ltInt a j d:=by
 obtain⟨k,rfl⟩ : ∃ k,j=k+1:=⟨j-1,by omega⟩
 have b:=lY b
 rw[Nat.add_sub_cancel]at b ⊢
 conv=>rhs; rw[Sort.insInner]
 rw[b,decide_eq_true (show k+1>a by omega)]; rfl
theorem BZ(h:j<=a \/ ¬ gA d j<gA d (j-1)):Sort.insInner ltInt a j d=d:=by
 cases j with
 | zero=>rw[Sort.insInner]
 | succ k =>
   rw[Sort.insInner]
   rcases h with h|h
   ·rw[decide_eq_false (show ¬ k+1>a by omega)]; rfl
   ·have h:=nQ h
    rw[Nat.add_sub_cancel]at h
    rw[h,Bool.and_false]; rfl
theorem I8(h:i<b)(hi:Sort.insInner ltInt a i d=d'):Sort.insOuter ltInt a b (i+1) d'=Sort.insOuter ltInt a b i d:=by
 conv=>rhs; rw[Sort.insOuter,if_pos h]
 rw[hi]
theorem I9(h : ¬ i<b):Sort.insOuter ltInt a b i d=d:=by rw[Sort.insOuter,if_neg h]
variable {f r hi x0 x1 x2:Nat}
theorem wN(h:hi<=2*r+1):Sort.siftDown ltInt hi f r d=d:=by rw[Sort.siftDown,dif_pos (by omega)]
theorem Ca(c:x1=f+(2*r+1))(i:x2=f+(2*r+2))(e:x0=f+r)(h:2*r+1<hi)(b:hi<=2*r+2 \/ ¬ gA d x1<gA d x2) :
 Sort.siftDown ltInt hi f r d=if gA d x0<gA d x1 then Sort.siftDown ltInt hi f (2*r+1) (swp d x0 x1)else d:=by
 rw[Sort.siftDown,dif_neg (by omega)]
 have g:(decide (2*r+1+1<hi)&&ltInt d[f+(2*r+1)]! d[f+(2*r+1)+1]!)=false:=by
  rcases b with b|b
  ·rw[decide_eq_false (by omega),Bool.false_and]
  ·rw[<- c,show x1+1=x2 by omega,nQ b,Bool.and_false]
 rw[g,<- c,<- e]
 by_cases a:gA d x0<gA d x1
 ·rw[lY a,if_pos a]; rfl
 rw[nQ a,if_neg a]; rfl
theorem Ja(c:x1=f+(2*r+1))(e:x2=f+(2*r+2))(b:x0=f+r)(h:2*r+2<hi)(g:gA d x1<gA d x2) :
 Sort.siftDown ltInt hi f r d=if gA d x0<gA d x2 then Sort.siftDown ltInt hi f (2*r+2) (swp d x0 x2)else d:=by
 rw[Sort.siftDown,dif_neg (by omega)]
 have i:(decide (2*r+1+1<hi)&&ltInt d[f+(2*r+1)]! d[f+(2*r+1)+1]!)=true:=by
  rw[decide_eq_true (by omega),<- c,show x1+1=x2 by omega,lY g]; rfl
 rw[i,<- e,<- b]
 by_cases a:gA d x0<gA d x2
 ·rw[lY a,if_pos a]; simp only[if_true,Bool.not_true,dif_pos h]; rfl
 rw[nQ a,if_neg a]; rfl
theorem Jb(a:0<k):Sort.heapBuild ltInt hi f (k-1) (Sort.siftDown ltInt hi f (k-1) d)=Sort.heapBuild ltInt hi f k d:=by
 obtain⟨j,rfl⟩ : ∃ j,k=j+1:=⟨k-1,by omega⟩
 rfl
theorem P8{x:Nat}(a:0<k)(e:x=f+(k-1)):Sort.heapPop ltInt f (k-1) (Sort.siftDown ltInt (k-1) f 0 (swp d f x))=Sort.heapPop ltInt f k d:=by
 subst e
 obtain⟨j,rfl⟩ : ∃ j,k=j+1:=⟨k-1,by omega⟩
 rfl
theorem vM(h:f+hi<=n) : ∀(m r:Nat) (d:Array Int),hi-r<=m->d.size=n->(Sort.siftDown ltInt hi f r d).size=n
 | 0,r,d,hm,hd=>by rw[wN (by omega)]; exact hd
 | m+1,r,d,hm,hd=>by
   by_cases b:2*r+1<hi
   ·by_cases a:2*r+2<hi/\gA d (f+(2*r+1))<gA d (f+(2*r+2))
    ·rw[Ja rfl rfl rfl a.1 a.2]
     split
     ·exact vM h m _ _ (by omega) (dw hd _ _)
     ·exact hd
    ·rw[Ca rfl rfl rfl b (by by_cases c:2*r+2<hi; exact .inr fun e=>a ⟨c,e⟩; exact .inl (by omega))]
     split
     ·exact vM h m _ _ (by omega) (dw hd _ _)
     ·exact hd
   ·rw[wN (by omega)]; exact hd
theorem P9(h:i<j):Sort.reverseLoop (i+1) (j-1) (swp d i j)=Sort.reverseLoop i j d:=by conv=>rhs; rw[Sort.reverseLoop,if_pos h]
theorem Jc(h : ¬ i<j):Sort.reverseLoop i j d=d:=by rw[Sort.reverseLoop,if_neg h]
theorem Oi{p:Int->Bool}(h:i<=j)(a:p d[i]! = true):Sort.scanUp p d j (i+1)=Sort.scanUp p d j i:=by
 conv=>rhs; rw[Sort.scanUp,a,decide_eq_true h]
 rfl
theorem lD{p:Int->Bool}(h:j<i\/p d[i]! = false):Sort.scanUp p d j i=i:=by
 rw[Sort.scanUp]
 rcases h with h|h
 ·rw[decide_eq_false (by omega)]; rfl
 rw[h,Bool.and_false]; rfl
theorem Oj{p:Int->Bool}(h:i<=j)(b:0<j)(a:p d[j]! = true):Sort.scanDown p d i (j-1)=Sort.scanDown p d i j:=by
 obtain⟨k,rfl⟩ : ∃ k,j=k+1:=⟨j-1,by omega⟩
 conv=>rhs; rw[Sort.scanDown,a,decide_eq_true h]
 rfl
theorem vN{p:Int->Bool}(h:j<i\/p d[j]! = false):Sort.scanDown p d i j=j:=by
 cases j with
 | zero=>rfl
 | succ k =>
   rw[Sort.scanDown]
   rcases h with h|h
   ·rw[decide_eq_false (by omega)]; rfl
   ·rw[h,Bool.and_false]; rfl
theorem Jd(h:i<=j)(b:gA d i<gA d a):Sort.partLoop ltInt a (i+1) j d=Sort.partLoop ltInt a i j d:=by
 rw[Sort.partLoop_eq,Sort.partLoop_eq (i:=i),Oi (p:=fun x=>ltInt x d[a]!) h (lY b)]
theorem yT(h:i<=j)(c:0<j)(b : ¬ gA d i<gA d a)(e : ¬ gA d j<gA d a):Sort.partLoop ltInt a i (j-1) d=Sort.partLoop ltInt a i j d:=by
 rw[Sort.partLoop_eq,Sort.partLoop_eq (j:=j),lD (p:=fun x=>ltInt x d[a]!) (.inr (nQ b)),lD (p:=fun x=>ltInt x d[a]!) (.inr (nQ b)),Oj (p:=fun x => !ltInt x d[a]!) h c (by rw[nQ e]; rfl)]
theorem yU(h:i<=j)(c : ¬ gA d i<gA d a)(b:gA d j<gA d a):Sort.partLoop ltInt a (i+1) (j-1) (swp d i j)=Sort.partLoop ltInt a i j d:=by
 rw[Sort.partLoop_eq (i:=i),lD (p:=fun x=>ltInt x d[a]!) (.inr (nQ c)),vN (p:=fun x => !ltInt x d[a]!) (.inr (by rw[lY b]; rfl)),if_neg (by omega)]
theorem tK(h:j<i):Sort.partLoop ltInt a i j d=(j,d):=by
 rw[Sort.partLoop_eq,lD (p:=fun x=>ltInt x d[a]!) (.inl h),vN (p:=fun x => !ltInt x d[a]!) (.inl h),if_pos h]
theorem Tp(h:i<=j)(b : ¬ gA d a<gA d i):Sort.partEqLoop ltInt a (i+1) j d=Sort.partEqLoop ltInt a i j d:=by
 rw[Sort.partEqLoop_eq,Sort.partEqLoop_eq (i:=i),Oi (p:=fun x => !ltInt d[a]! x) h (by rw[nQ b]; rfl)]
theorem Ol(h:i<=j)(c:0<j)(b:gA d a<gA d i)(e:gA d a<gA d j):Sort.partEqLoop ltInt a i (j-1) d=Sort.partEqLoop ltInt a i j d:=by
 rw[Sort.partEqLoop_eq,Sort.partEqLoop_eq (j:=j),lD (p:=fun x => !ltInt d[a]! x) (.inr (by rw[lY b]; rfl)),lD (p:=fun x => !ltInt d[a]! x) (.inr (by rw[lY b]; rfl)),Oj (p:=fun x=>ltInt d[a]! x) h c (lY e)]
theorem Om(h:i<=j)(c:gA d a<gA d i)(b : ¬ gA d a<gA d j):Sort.partEqLoop ltInt a (i+1) (j-1) (swp d i j)=Sort.partEqLoop ltInt a i j d:=by
 rw[Sort.partEqLoop_eq (i:=i),lD (p:=fun x => !ltInt d[a]! x) (.inr (by rw[lY c]; rfl)),vN (p:=fun x=>ltInt d[a]! x) (.inr (nQ b)),if_neg (by omega)]
theorem Je(h:j<i):Sort.partEqLoop ltInt a i j d=(i,d):=by
 rw[Sort.partEqLoop_eq,lD (p:=fun x => !ltInt d[a]! x) (.inl h),vN (p:=fun x=>ltInt d[a]! x) (.inl h),if_pos h]
theorem Eb(a:Nat)(d:Array Int):Sort.SortedIn ltInt a (a+1) d:=fun i j b c e=>by omega
end
end Rt
end
section
open Rt
set_option maxRecDepth 10000
theorem Tq(n:Int)(w:World) :
 Calls Tryd.prog 56 #[aA n] w fun e w'=>e = .returned (.bool false)/\w'=w:=by
 refine Kent Tryd.func56 6 ?_
 refine ay<|av aF<|aD<|ay<|av (aA n)<|av (aA n)<|Lv aF (qP rfl)<|av aF<|aD<|Wr<|aL aF ?_
 exact⟨rfl,rfl⟩
theorem bT(a b:Int)(w:World) :
 Calls Tryd.prog 116 #[aA a,aA b] w fun e w'=>e = .returned (.bool (decide (a<b)))/\w'=w:=by
 refine Kent Tryd.func116 17 ?_
 refine ay<|av aF<|aD<|ay<|av (aA a)<|qj (Tq a _) _ rfl<|av aF<|jP<|jP<|jP<|av aF<|av aF<|av (aA a)<|av (aA b)<|Lv (.bool (decide (a<b))) (Fx.Ik rfl rfl rfl)<|av (.bool (decide (a<b)))<|av (.bool (decide (a<b)))<|aD<|Wr<|aL (.bool (decide (a<b))) ?_
 exact⟨rfl,rfl⟩
theorem Tt(a b:Nat)(B g n cap:Nat)(d:Array Int)(w:World)(h:Fx.Own w B 22 1 (bH g n cap) n (rv .u64 (gA d)))(p:B<=w.heap.size)(Y:d.size=n)(hs:n<=1000)(ha:a<=b)(hb:b<=n) :
 Calls Tryd.prog 110 #[bH g n cap,au ((a:Int)),au ((b:Int))] w fun e w'=>e = .returned (.tuple #[])/\Fx.Own w' B 22 1 (bH g n cap) n (rv .u64 (gA (Sort.insertionSort Sort.ltInt d a b)))/\Below B w w':=by
 refine Kent Tryd.func110 49 ?_
 refine ay<|av (au a)<|Lv (au ((a:Int)+1)) gD<|av (au ((a:Int)+1))<|aD<|Wb<|Wo (fun f u => ∃ i:Nat,∃ o:Array Int,(a<i/\i<=b+1)/\o.size=n/\Sort.insOuter Sort.ltInt a b i o=Sort.insOuter Sort.ltInt a b (a+1) d/\f 0=bH g n cap/\f 1=au ((a:Int))/\f 2=au ((b:Int))/\f 6=au ((i:Int))/\Fx.Own u B 22 1 (bH g n cap) n (rv .u64 (gA o))/\Below B w u) (fun f _=>((b:Int)+1-intOf (f 6)).toNat) ⟨a+1,d,(by omega),Y,rfl,(by rfl),Fx.ic,Fx.ic,Fx.ic,h,(Below.refl B w)⟩ ?_
 rintro f1 w1 ⟨i,o,hi,X,x,V,W,K,s,P,F⟩
 refine Ws<|ay<|aX s<|aX K ?_
 by_cases I:(i:Int)<(b:Int)
 ·refine Lv aI (nV I)<|aD<|aT<|Wk<|sN<|Ws<|Wb<|ay<|aX s<|av (au i)<|aD<|Wb<|Wo (fun f u => ∃ j:Nat,∃ c:Array Int,(a<=j/\j<=i)/\c.size=n/\Sort.insInner Sort.ltInt a j c=Sort.insInner Sort.ltInt a i o/\f 0=bH g n cap/\f 1=au ((a:Int))/\f 2=au ((b:Int))/\f 6=au ((i:Int))/\f 7=au ((j:Int))/\Fx.Own u B 22 1 (bH g n cap) n (rv .u64 (gA c))/\Below B w u) (fun f _=>(intOf (f 7)).toNat) ⟨i,o,(by omega),X,rfl,V,(W.trans Fx.ic),(K.trans Fx.ic),(s.trans Fx.ic),Fx.ic,P,F⟩ ?_
  rintro f2 w2 ⟨j,c,hji,y,E,k,v,C,D,l,t,A⟩
  refine Ws<|Ws ?_
  -- region 4 draws
  refine jX<|dR l<|dR v ?_
  by_cases J:(a:Int)<(j:Int)
  ·refine Qv aI (fun q m=>BH J)<|aZ aI<|dR k<|dR l<|Qv ((pf g j)) (fun q m=>cK 1)<|Qv (aA ((gA c) j)) (fun q m=>aP (t.cb m) j)<|dR k<|dR l<|Qv (au ((j:Int)-1)) (fun q m=>iC)<|Qv ((pf g (j-1))) (fun q m=>cK 1)<|Qv (aA ((gA c) (j-1))) (fun q m=>aP (t.cb m) (j-1)) ?_
   by_cases r:(decide ((gA c) j<(gA c) (j-1)))=true
   ·refine lu (fun _ _=>bT ((gA c) j) ((gA c) (j-1)) _) aI (by rw[r])<|aZ aI<|Qn ?_
    intro Tv L
    have Z:=aQ L t
    have R:=fM L A p
    refine sN<|aT<|Wk<|sN<|Ws<|Wb ?_
    -- region 6 draws
    refine jy [0,1,2,3,4,5,6,7,8,10,11,12,9,13,14,15,16,17] [0,0,0,0,0,0,0,0,0,4,0,0,0,4,0,3,0,3] [(15,9,[9]),(17,9,[9]),(15,13,[13]),(17,13,[13]),(16,15,[15]),(17,15,[15])] fun rE O ig => ?_
    have z:=aQ O Z
    have G:=fM O R p
    refine bE k<|bE l<|bE k<|bE l<|Rp (au ((j:Int)-1)) (fun _=>iC)<|bE k<|bE l<|Rp (au ((j:Int)-1)) (fun _=>iC)<|Rp ((pf g (j-1))) (fun _=>cK 1)<|bE k<|bE l<|Rp ((pf g j)) (fun _=>cK 1)<|Rs (aA ((gA c) (j-1))) (aP z.aM (j-1)) ?_
    refine Rs (aA ((gA c) j)) (aP z.aM j) ?_
    refine Rp ((pf g j)) (fun _=>cK 1)<|fU<|ko z j (aA ((gA c) (j-1))) fun w3 Q s3 z1 => ?_
    have H:=s3.below G (Nat.le_trans p G.size) z.blk.1
    refine Ln<|Rp ((pf g (j-1))) (fun _=>cK 1)<|fU<|ko Q (j-1) (aA ((gA c) j)) fun w4 m6 s4 z2 => ?_
    have S:=s4.below H (Nat.le_trans p H.size) Q.blk.1
    have m7:Fx.Own w4 B 22 1 (bH g n cap) n (rv .u64 (gA (Sort.swp c j (j-1)))):=m6.congr (dZ y (by omega) (by omega))
    refine Ln<|Rn<|dA<|sN<|Wl<|aX l<|Lv (au ((j:Int)-1)) iC<|av (au ((j:Int)-1))<|Ln<|iP ⟨j-1,Sort.swp c j (j-1),(by omega),(dw y _ _),((P7 (by omega) (of_decide_eq_true r)).trans E),k,(v.trans Fx.ic),(C.trans Fx.ic),(D.trans Fx.ic),Fx.ic,m7,S⟩ ?_
    show(intOf ((au ((j:Int)-1)))).toNat<_
    simp only[l,intOf]; omega
   rw[Bool.not_eq_true]at r
   refine lu (fun _ _=>bT ((gA c) j) ((gA c) (j-1)) _) aF (by rw[r])<|aZ aF<|Qn ?_
   intro Tw M
   have m8:=aQ M t
   have T:=fM M A p
   refine sN<|aN<|Wx<|cZ<|gX<|dh<|dA<|sN<|Wl<|aX D<|Lv (au ((i:Int)+1)) gD<|av (au ((i:Int)+1))<|Ln<|iP ⟨i+1,c,(by omega),y,((I8 (by omega) (E.symm.trans (BZ (.inr (of_decide_eq_false r))))).trans x),k,(v.trans Fx.ic),(C.trans Fx.ic),Fx.ic,m8,T⟩ ?_
   show((b:Int)+1-intOf ((au ((i:Int)+1)))).toNat<_
   simp only[s,intOf]; omega
  refine Qv aF (fun q m=>BI J)<|aZ aF<|aU<|aU<|aU<|aU<|aU<|aU<|aU<|aU<|aU<|aU<|aZ aF<|Qn ?_
  intro Tx N
  have m9:=aQ N t
  have U:=fM N A p
  refine sN<|aN<|Wx<|cZ<|gX<|dh<|dA<|sN<|Wl<|aX D<|Lv (au ((i:Int)+1)) gD<|av (au ((i:Int)+1))<|Ln<|iP ⟨i+1,c,(by omega),y,((I8 (by omega) (E.symm.trans (BZ (.inl (by omega))))).trans x),k,(v.trans Fx.ic),(C.trans Fx.ic),Fx.ic,m9,U⟩ ?_
  show((b:Int)+1-intOf ((au ((i:Int)+1)))).toNat<_
  simp only[s,intOf]; omega
 refine Lv aF (nW I) (aD (aN (Wx (cZ (gX (dh (⟨.tuple #[],fG Tryd.results110,?_⟩)))))))
 rw[I9 (by omega)]at x; subst x; exact⟨rfl,P,F⟩
end
section
open Rt
set_option maxRecDepth 10000
theorem Qa(q hi a:Nat)(B g n cap:Nat)(d:Array Int)(w:World)(h:Fx.Own w B 22 1 (bH g n cap) n (rv .u64 (gA d)))(l:B<=w.heap.size)(hn:d.size=n)(hs:n<=1000)(hf:a+hi<=n/\q<=1000) :
 Calls Tryd.prog 123 #[bH g n cap,au ((q:Int)),au ((hi:Int)),au ((a:Int))] w fun e w'=>e = .returned (.tuple #[])/\Fx.Own w' B 22 1 (bH g n cap) n (rv .u64 (gA (Sort.siftDown Sort.ltInt hi a q d)))/\Below B w w':=by
 obtain⟨hf,hlo⟩:=hf
 refine Kent Tryd.func123 76 ?_
 refine ay<|av (au q)<|av (au q)<|aD<|Wb<|Wo (fun f w_ => ∃ r:Nat,∃ b:Array Int,b.size=n/\Sort.siftDown Sort.ltInt hi a r b=Sort.siftDown Sort.ltInt hi a q d/\r<=hi+q/\f 0=bH g n cap/\f 1=au ((q:Int))/\f 2=au ((hi:Int))/\f 3=au ((a:Int))/\f 8=au ((r:Int))/\Fx.Own w_ B 22 1 (bH g n cap) n (rv .u64 (gA b))/\Below B w w_) (fun f _=>((hi:Int)+q-intOf (f 8)).toNat) ⟨q,d,hn,rfl,(by omega),(by rfl),Fx.ic,Fx.ic,Fx.ic,Fx.ic,h,(Below.refl B w)⟩ ?_
 rintro f1 w1 ⟨r,b,t,o,hr,j,F,v,k,p,u,x⟩
 refine Wb<|ay<|aX p<|Lv (au (2*(r:Int))) (Fx.yJ rfl rfl rfl Fx.io)<|Lv (au (2*(r:Int)+1)) gD<|av (au (2*(r:Int)+1))<|aD<|Ws<|ay<|av (au (2*(r:Int)+1))<|aX v ?_
 by_cases P:(hi:Int)<=(2*(r:Int)+1)
 ·refine Lv aI (nY P) (aD (aT (Wx (cZ (Fx.DN rfl (gX (dh (⟨.tuple #[],fG Tryd.results123,?_⟩))))))))
  rw[wN (by omega)]at o; subst o; exact⟨rfl,u,x⟩
 refine Lv aF (nu P)<|aD<|aN<|Wk<|sN<|Ws<|Ws ?_
 -- region 3 draws
 refine jX<|aZ (au (2*(r:Int)+1))<|Qv (au (2*(r:Int)+2)) (fun i c=>gD)<|dR v ?_
 by_cases Q:(2*(r:Int)+2)<(hi:Int)
 ·refine Qv aI (fun i c=>nV Q)<|aZ aI<|dR j<|dR k<|aZ (au (2*(r:Int)+1))<|Qv (au ((a:Int)+2*(r:Int)+1)) (fun i c=>gD)<|Qv ((pf g (a+2*r+1))) (fun i c=>cK 1)<|Qv (aA ((gA b) (a+2*r+1))) (fun i c=>aP (u.cb c) (a+2*r+1))<|dR j<|dR k<|aZ (au (2*(r:Int)+1))<|Qv (au ((a:Int)+2*(r:Int)+1)) (fun i c=>gD)<|Qv (au ((a:Int)+2*(r:Int)+2)) (fun i c=>gD)<|Qv ((pf g (a+2*r+2))) (fun i c=>cK 1)<|Qv (aA ((gA b) (a+2*r+2))) (fun i c=>aP (u.cb c) (a+2*r+2)) ?_
  by_cases s:(decide ((gA b) (a+2*r+1)<(gA b) (a+2*r+2)))=true
  ·refine lu (fun _ _=>bT ((gA b) (a+2*r+1)) ((gA b) (a+2*r+2)) _) aI (by rw[s])<|aZ aI<|Qn ?_
   intro Tv R
   have C:=aQ R u
   have L:=fM R x l
   refine sN<|aT<|Wl<|av (au (2*(r:Int)+1))<|Lv (au (2*(r:Int)+2)) gD<|av (au (2*(r:Int)+2))<|aD<|Ws<|Ws ?_
   -- region 5 draws
   refine jX<|dR j<|dR k<|dR p<|Qv (au ((a:Int)+(r:Int))) (fun i c=>gD)<|Qv ((pf g (a+r))) (fun i c=>cK 1)<|Qv (aA ((gA b) (a+r))) (fun i c=>aP (C.cb c) (a+r))<|dR j<|dR k<|aZ (au (2*(r:Int)+2))<|Qv (au ((a:Int)+2*(r:Int)+2)) (fun i c=>gD)<|Qv ((pf g (a+2*r+2))) (fun i c=>cK 1)<|Qv (aA ((gA b) (a+2*r+2))) (fun i c=>aP (C.cb c) (a+2*r+2)) ?_
   by_cases m:(decide ((gA b) (a+r)<(gA b) (a+2*r+2)))=true
   ·refine lu (fun _ _=>bT ((gA b) (a+r)) ((gA b) (a+2*r+2)) _) aI (by rw[m])<|aZ aF<|Qn ?_
    intro Tw S
    have m3:=aQ S C
    have b3:=fM S L l
    refine sN<|aN<|Wk<|sN<|Ws ?_
    -- region 6 draws
    refine jy [0,1,2,3,4,5,6,7,8,9,10,11,12,14,15,16,17,18,13,19,20,21,22,23] [0,0,0,0,0,0,0,0,0,0,0,0,0,4,0,0,0,0,0,4,0,3,0,3] [(21,13,[13]),(23,13,[13]),(21,19,[19]),(23,19,[19]),(22,21,[21]),(23,21,[21])] fun rE aa ig => ?_
    have D:=aQ aa m3
    have M:=fM aa b3 l
    refine bE j<|bE k<|bE p<|Rp (au ((a:Int)+(r:Int))) (fun _=>gD)<|bE j<|bE k<|aY (au (2*(r:Int)+2))<|Rp (au ((a:Int)+2*(r:Int)+2)) (fun _=>gD)<|bE j<|bE k<|aY (au (2*(r:Int)+2))<|Rp (au ((a:Int)+2*(r:Int)+2)) (fun _=>gD)<|Rp ((pf g (a+2*r+2))) (fun _=>cK 1)<|bE j<|bE k<|bE p<|Rp (au ((a:Int)+(r:Int))) (fun _=>gD)<|Rp ((pf g (a+r))) (fun _=>cK 1)<|Rs (aA ((gA b) (a+2*r+2))) (aP D.aM (a+2*r+2)) ?_
    refine Rs (aA ((gA b) (a+r))) (aP D.aM (a+r)) ?_
    refine Rp ((pf g (a+r))) (fun _=>cK 1)<|fU<|ko D (a+r) (aA ((gA b) (a+2*r+2))) fun w2 m5 s4 z1 => ?_
    have N:=s4.below M (Nat.le_trans l M.size) D.blk.1
    refine Ln<|Rp ((pf g (a+2*r+2))) (fun _=>cK 1)<|fU<|ko m5 (a+2*r+2) (aA ((gA b) (a+r))) fun w3 m6 s5 z2 => ?_
    have b6:=s5.below N (Nat.le_trans l N.size) m5.blk.1
    have m7:Fx.Own w3 B 22 1 (bH g n cap) n (rv .u64 (gA (Sort.swp b (a+r) (a+2*r+2)))):=m6.congr (dZ t (by omega) (by omega))
    refine Ln<|bD<|Wl<|av (au (2*(r:Int)+2))<|av (au (2*(r:Int)+2))<|Ln<|dA<|iP ⟨2*r+2,Sort.swp b (a+r) (a+2*r+2),(dw t _ _),(by rw[Ja (x0:=a+r) (x1:=a+2*r+1) (x2:=a+2*r+2) (by omega) (by omega) rfl (by omega) (of_decide_eq_true s),if_pos (of_decide_eq_true m)]at o; exact o),(by omega),j,(F.trans Fx.ic),(v.trans Fx.ic),(k.trans Fx.ic),Fx.ic,m7,b6⟩ ?_
    show((hi:Int)+q-intOf ((au (2*(r:Int)+2)))).toNat<_
    simp only[p,intOf]; omega
   rw[Bool.not_eq_true]at m
   refine lu (fun _ _=>bT ((gA b) (a+r)) ((gA b) (a+2*r+2)) _) aF (by rw[m])<|aZ aI<|Qn ?_
   intro Tx T
   have m8:=aQ T C
   have b7:=fM T L l
   refine sN (aT (Wr (sR (bU (rA (bU (⟨.tuple #[],fG Tryd.results123,?_⟩)))))))
   rw[Ja (x0:=a+r) (x1:=a+2*r+1) (x2:=a+2*r+2) (by omega) (by omega) rfl (by omega) (of_decide_eq_true s),if_neg (of_decide_eq_false m)]at o; subst o; exact⟨rfl,m8,b7⟩
  rw[Bool.not_eq_true]at s
  refine lu (fun _ _=>bT ((gA b) (a+2*r+1)) ((gA b) (a+2*r+2)) _) aF (by rw[s])<|aZ aF<|Qn ?_
  intro V6 U
  have E:=aQ U u
  have O:=fM U x l
  refine sN<|aN<|Wk<|sN<|Ws<|Ws ?_
  -- region 5 draws
  refine jX<|dR j<|dR k<|dR p<|Qv (au ((a:Int)+(r:Int))) (fun i c=>gD)<|Qv ((pf g (a+r))) (fun i c=>cK 1)<|Qv (aA ((gA b) (a+r))) (fun i c=>aP (E.cb c) (a+r))<|dR j<|dR k<|aZ (au (2*(r:Int)+1))<|Qv (au ((a:Int)+2*(r:Int)+1)) (fun i c=>gD)<|Qv ((pf g (a+2*r+1))) (fun i c=>cK 1)<|Qv (aA ((gA b) (a+2*r+1))) (fun i c=>aP (E.cb c) (a+2*r+1)) ?_
  by_cases m:(decide ((gA b) (a+r)<(gA b) (a+2*r+1)))=true
  ·refine lu (fun _ _=>bT ((gA b) (a+r)) ((gA b) (a+2*r+1)) _) aI (by rw[m])<|aZ aF<|Qn ?_
   intro V7 V
   have m10:=aQ V E
   have b9:=fM V O l
   refine sN<|aN<|Wk<|sN<|Ws ?_
   -- region 6 draws
   refine jy [0,1,2,3,4,5,6,7,8,9,10,11,12,14,15,16,17,18,13,19,20,21,22,23] [0,0,0,0,0,0,0,0,0,0,0,0,0,4,0,0,0,0,0,4,0,3,0,3] [(21,13,[13]),(23,13,[13]),(21,19,[19]),(23,19,[19]),(22,21,[21]),(23,21,[21])] fun Dv ab oK => ?_
   have y:=aQ ab m10
   have G:=fM ab b9 l
   refine bE j<|bE k<|bE p<|Rp (au ((a:Int)+(r:Int))) (fun _=>gD)<|bE j<|bE k<|aY (au (2*(r:Int)+1))<|Rp (au ((a:Int)+2*(r:Int)+1)) (fun _=>gD)<|bE j<|bE k<|aY (au (2*(r:Int)+1))<|Rp (au ((a:Int)+2*(r:Int)+1)) (fun _=>gD)<|Rp ((pf g (a+2*r+1))) (fun _=>cK 1)<|bE j<|bE k<|bE p<|Rp (au ((a:Int)+(r:Int))) (fun _=>gD)<|Rp ((pf g (a+r))) (fun _=>cK 1)<|Rs (aA ((gA b) (a+2*r+1))) (aP y.aM (a+2*r+1)) ?_
   refine Rs (aA ((gA b) (a+r))) (aP y.aM (a+r)) ?_
   refine Rp ((pf g (a+r))) (fun _=>cK 1)<|fU<|ko y (a+r) (aA ((gA b) (a+2*r+1))) fun w4 m12 s10 z3 => ?_
   have H:=s10.below G (Nat.le_trans l G.size) y.blk.1
   refine Ln<|Rp ((pf g (a+2*r+1))) (fun _=>cK 1)<|fU<|ko m12 (a+2*r+1) (aA ((gA b) (a+r))) fun w5 m13 s11 z4 => ?_
   have b12:=s11.below H (Nat.le_trans l H.size) m12.blk.1
   have m14:Fx.Own w5 B 22 1 (bH g n cap) n (rv .u64 (gA (Sort.swp b (a+r) (a+2*r+1)))):=m13.congr (dZ t (by omega) (by omega))
   refine Ln<|bD<|Wl<|av (au (2*(r:Int)+1))<|av (au (2*(r:Int)+1))<|Ln<|dA<|iP ⟨2*r+1,Sort.swp b (a+r) (a+2*r+1),(dw t _ _),(by rw[Ca (x0:=a+r) (x1:=a+2*r+1) (x2:=a+2*r+2) (by omega) (by omega) rfl (by omega) (.inr (of_decide_eq_false s)),if_pos (of_decide_eq_true m)]at o; exact o),(by omega),j,(F.trans Fx.ic),(v.trans Fx.ic),(k.trans Fx.ic),Fx.ic,m14,b12⟩ ?_
   show((hi:Int)+q-intOf ((au (2*(r:Int)+1)))).toNat<_
   simp only[p,intOf]; omega
  rw[Bool.not_eq_true]at m
  refine lu (fun _ _=>bT ((gA b) (a+r)) ((gA b) (a+2*r+1)) _) aF (by rw[m])<|aZ aI<|Qn ?_
  intro Y9 W
  have m15:=aQ W E
  have b13:=fM W O l
  refine sN (aT (Wr (sR (bU (rA (bU (⟨.tuple #[],fG Tryd.results123,?_⟩)))))))
  rw[Ca (x0:=a+r) (x1:=a+2*r+1) (x2:=a+2*r+2) (by omega) (by omega) rfl (by omega) (.inr (of_decide_eq_false s)),if_neg (of_decide_eq_false m)]at o; subst o; exact⟨rfl,m15,b13⟩
 refine Qv aF (fun i c=>nW Q)<|aZ aF<|aU<|aU<|aU<|aU<|aU<|aU<|aU<|aU<|aU<|aU<|aU<|aU<|aU<|aU<|aZ aF<|Qn ?_
 intro Za X
 have z:=aQ X u
 have I:=fM X x l
 refine sN<|aN<|Wk<|sN<|Ws<|Ws ?_
 -- region 5 draws
 refine jX<|dR j<|dR k<|dR p<|Qv (au ((a:Int)+(r:Int))) (fun i c=>gD)<|Qv ((pf g (a+r))) (fun i c=>cK 1)<|Qv (aA ((gA b) (a+r))) (fun i c=>aP (z.cb c) (a+r))<|dR j<|dR k<|aZ (au (2*(r:Int)+1))<|Qv (au ((a:Int)+2*(r:Int)+1)) (fun i c=>gD)<|Qv ((pf g (a+2*r+1))) (fun i c=>cK 1)<|Qv (aA ((gA b) (a+2*r+1))) (fun i c=>aP (z.cb c) (a+2*r+1)) ?_
 by_cases m:(decide ((gA b) (a+r)<(gA b) (a+2*r+1)))=true
 ·refine lu (fun _ _=>bT ((gA b) (a+r)) ((gA b) (a+2*r+1)) _) aI (by rw[m])<|aZ aF<|Qn ?_
  intro Zb Y
  have m17:=aQ Y z
  have b15:=fM Y I l
  refine sN<|aN<|Wk<|sN<|Ws ?_
  -- region 6 draws
  refine jy [0,1,2,3,4,5,6,7,8,9,10,11,12,14,15,16,17,18,13,19,20,21,22,23] [0,0,0,0,0,0,0,0,0,0,0,0,0,4,0,0,0,0,0,4,0,3,0,3] [(21,13,[13]),(23,13,[13]),(21,19,[19]),(23,19,[19]),(22,21,[21]),(23,21,[21])] fun Tz ac Fw => ?_
  have A:=aQ ac m17
  have J:=fM ac b15 l
  refine bE j<|bE k<|bE p<|Rp (au ((a:Int)+(r:Int))) (fun _=>gD)<|bE j<|bE k<|aY (au (2*(r:Int)+1))<|Rp (au ((a:Int)+2*(r:Int)+1)) (fun _=>gD)<|bE j<|bE k<|aY (au (2*(r:Int)+1))<|Rp (au ((a:Int)+2*(r:Int)+1)) (fun _=>gD)<|Rp ((pf g (a+2*r+1))) (fun _=>cK 1)<|bE j<|bE k<|bE p<|Rp (au ((a:Int)+(r:Int))) (fun _=>gD)<|Rp ((pf g (a+r))) (fun _=>cK 1)<|Rs (aA ((gA b) (a+2*r+1))) (aP A.aM (a+2*r+1)) ?_
  refine Rs (aA ((gA b) (a+r))) (aP A.aM (a+r)) ?_
  refine Rp ((pf g (a+r))) (fun _=>cK 1)<|fU<|ko A (a+r) (aA ((gA b) (a+2*r+1))) fun w6 m19 s16 z5 => ?_
  have K:=s16.below J (Nat.le_trans l J.size) A.blk.1
  refine Ln<|Rp ((pf g (a+2*r+1))) (fun _=>cK 1)<|fU<|ko m19 (a+2*r+1) (aA ((gA b) (a+r))) fun w7 m20 V8 z6 => ?_
  have b18:=V8.below K (Nat.le_trans l K.size) m19.blk.1
  have m21:Fx.Own w7 B 22 1 (bH g n cap) n (rv .u64 (gA (Sort.swp b (a+r) (a+2*r+1)))):=m20.congr (dZ t (by omega) (by omega))
  refine Ln<|bD<|Wl<|av (au (2*(r:Int)+1))<|av (au (2*(r:Int)+1))<|Ln<|dA<|iP ⟨2*r+1,Sort.swp b (a+r) (a+2*r+1),(dw t _ _),(by rw[Ca (x0:=a+r) (x1:=a+2*r+1) (x2:=a+2*r+2) (by omega) (by omega) rfl (by omega) (.inl (by omega)),if_pos (of_decide_eq_true m)]at o; exact o),(by omega),j,(F.trans Fx.ic),(v.trans Fx.ic),(k.trans Fx.ic),Fx.ic,m21,b18⟩ ?_
  show((hi:Int)+q-intOf ((au (2*(r:Int)+1)))).toNat<_
  simp only[p,intOf]; omega
 rw[Bool.not_eq_true]at m
 refine lu (fun _ _=>bT ((gA b) (a+r)) ((gA b) (a+2*r+1)) _) aF (by rw[m])<|aZ aI<|Qn ?_
 intro Zc Z
 have m22:=aQ Z z
 have b19:=fM Z I l
 refine sN (aT (Wr (sR (bU (rA (bU (⟨.tuple #[],fG Tryd.results123,?_⟩)))))))
 rw[Ca (x0:=a+r) (x1:=a+2*r+1) (x2:=a+2*r+2) (by omega) (by omega) rfl (by omega) (.inl (by omega)),if_neg (of_decide_eq_false m)]at o; subst o; exact⟨rfl,m22,b19⟩
theorem Fy{i f c:Int}(b hi a:Nat)(l:i=(b:Int))(k:f=(hi:Int))(j:c=(a:Int))(B g n cap:Nat)(d:Array Int)(w:World)(h:Fx.Own w B 22 1 (bH g n cap) n (rv .u64 (gA d)))(m:B<=w.heap.size)(p:d.size=n)(q:n<=1000)(o:a+hi<=n/\b<=1000) :
 Calls Tryd.prog 123 #[bH g n cap,au i,au f,au c] w fun e w'=>e = .returned (.tuple #[])/\Fx.Own w' B 22 1 (bH g n cap) n (rv .u64 (gA (Sort.siftDown Sort.ltInt hi a b d)))/\Below B w w':=by
 subst l k j; exact Qa b hi a B g n cap d w h m p q o
theorem Qb(a b:Nat)(B g n cap:Nat)(d:Array Int)(w:World)(h:Fx.Own w B 22 1 (bH g n cap) n (rv .u64 (gA d)))(p:B<=w.heap.size)(hn:d.size=n)(Q:n<=1000)(ha:a<b)(hb:b<=n) :
 Calls Tryd.prog 111 #[bH g n cap,au ((a:Int)),au ((b:Int))] w fun e w'=>e = .returned (.tuple #[])/\Fx.Own w' B 22 1 (bH g n cap) n (rv .u64 (gA (Sort.heapSort Sort.ltInt d a b)))/\Below B w w':=by
 obtain⟨j,aa⟩ : ∃ j,j=(b-a-1) / 2:=⟨_,rfl⟩
 refine Kent Tryd.func111 56 ?_
 refine ay<|av (au a)<|av (au a)<|aD<|ay<|av (au 0)<|aD<|ay<|av (au b)<|av (au a)<|Lv (au ((b:Int)-(a:Int))) iC<|av (au ((b:Int)-(a:Int)))<|aD<|Ws<|ay<|av (au ((b:Int)-(a:Int)))<|Lv (au ((b:Int)-(a:Int)-1)) iC<|Lv (au j) (Fx.uD rfl rfl rfl (by omega) (jr (by omega) (by rw[Int.tdiv_eq_ediv_of_nonneg (by omega)]; omega)))<|av (au j)<|aD<|Wb<|Wo (fun f q => ∃ k:Nat,∃ c:Array Int,c.size=n/\Sort.heapBuild Sort.ltInt (b-a) a k c=Sort.heapBuild Sort.ltInt (b-a) a (j+1) d/\k<=j+1/\f 0=bH g n cap/\f 1=au ((a:Int))/\f 2=au ((b:Int))/\f 6=au ((a:Int))/\f 7=au 0/\f 8=au ((b:Int)-(a:Int))/\f 9=au ((k:Int)-1)/\Fx.Own q B 22 1 (bH g n cap) n (rv .u64 (gA c))/\Below B w q) (fun f _=>(intOf (f 9)+1).toNat) ⟨j+1,d,hn,rfl,(by omega),(by rfl),Fx.ic,Fx.ic,Fx.ic,Fx.ic,Fx.ic,Fx.ic,h,(Below.refl B w)⟩ ?_
 rintro f1 w1 ⟨k,c,z,N,hkm,u,K,L,v,M,y,r,R,t⟩
 refine Ws<|ay<|aX r ?_
 by_cases G:0<=((k:Int)-1)
 ·refine Lv aI (nY G)<|aD<|aT<|Wk<|sN<|Ws<|Wb<|Wl<|aX u<|aX r<|aX y<|aX v<|eG (Fy (k-1) (b-a) a (by omega) (by omega) (by omega) B g n cap c _ R (Nat.le_trans p t.size) z Q ⟨by omega,by omega⟩) (ax := #[bH g n cap,au ((k:Int)-1),au ((b:Int)-(a:Int)),au ((a:Int))]) _ rfl ?_
  rintro w2 ⟨m2,Y⟩
  have U:=t.trans Y
  refine Ln<|dA<|sN<|Wl<|aX r<|Lv (au ((k:Int)-2)) iC<|av (au ((k:Int)-2))<|Ln<|iP ⟨k-1,Sort.siftDown Sort.ltInt (b-a) a (k-1) c,(vM (by omega) _ _ _ (Nat.le_refl _) z),((Jb (by omega)).trans N),(by omega),u,(K.trans Fx.ic),(L.trans Fx.ic),(v.trans Fx.ic),(M.trans Fx.ic),(y.trans Fx.ic),Fx.ic,m2,U⟩ ?_
  show(intOf ((au ((k:Int)-2)))+1).toNat<_
  simp only[r,intOf]; omega
 refine Lv aF (nu G)<|aD<|aN<|Wx<|cZ<|gX<|dh<|sN<|ay<|aX y<|Lv (au ((b:Int)-(a:Int)-1)) iC<|av (au ((b:Int)-(a:Int)-1))<|aD<|Wb ?_
 obtain rfl:k=0:=by omega
 obtain⟨I,hd1⟩ : ∃ I,I=c:=⟨_,rfl⟩
 refine Wo (fun f q => ∃ k2:Nat,∃ i:Array Int,i.size=n/\Sort.heapPop Sort.ltInt a k2 i=Sort.heapPop Sort.ltInt a (b-a) c/\k2<=b-a/\f 0=bH g n cap/\f 1=au ((a:Int))/\f 2=au ((b:Int))/\f 6=au ((a:Int))/\f 7=au 0/\f 10=au ((k2:Int)-1)/\Fx.Own q B 22 1 (bH g n cap) n (rv .u64 (gA i))/\Below B w q) (fun f _=>(intOf (f 10)+1).toNat) ⟨b-a,c,z,rfl,(by omega),u,(K.trans Fx.ic),(L.trans Fx.ic),(v.trans Fx.ic),(M.trans Fx.ic),Fx.ic,R,t⟩ ?_
 rintro f2 w3 ⟨k2,i,A,O,hkp,o,X,W,l,J,m,S,C⟩
 refine Ws<|ay<|aX m ?_
 by_cases H:0<=((k2:Int)-1)
 ·refine Lv aI (nY H)<|aD<|aT<|Wk<|sN<|Ws<|Wb<|Ws ?_
  -- region 10 draws
  refine jy [0,1,2,3,4,5,6,7,8,9,10,12,13,14,11,15,16,17,18,19] [0,0,0,0,0,0,0,0,0,0,0,4,0,0,0,4,0,3,0,3] [(17,11,[11]),(19,11,[11]),(17,15,[15]),(19,15,[15]),(18,17,[17]),(19,17,[17])] fun rE P ig => ?_
  have s:=aQ P S
  have D:=fM P C p
  refine bE o<|bE l<|bE o<|bE l<|bE m<|Rp (au ((a:Int)+(k2:Int)-1)) (fun _=>gD)<|bE o<|bE l<|bE m<|Rp (au ((a:Int)+(k2:Int)-1)) (fun _=>gD)<|Rp ((pf g (a+k2-1))) (fun _=>cK 1)<|bE o<|bE l<|Rp ((pf g a)) (fun _=>cK 1)<|Rs (aA ((gA i) (a+k2-1))) (aP s.aM (a+k2-1)) ?_
  refine Rs (aA ((gA i) a)) (aP s.aM a) ?_
  refine Rp ((pf g a)) (fun _=>cK 1)<|fU<|ko s a (aA ((gA i) (a+k2-1))) fun w4 T s2 z1 => ?_
  have E:=s2.below D (Nat.le_trans p D.size) s.blk.1
  refine Ln<|Rp ((pf g (a+k2-1))) (fun _=>cK 1)<|fU<|ko T (a+k2-1) (aA ((gA i) a)) fun w5 m6 s3 z2 => ?_
  have F:=s3.below E (Nat.le_trans p E.size) T.blk.1
  have m7:Fx.Own w5 B 22 1 (bH g n cap) n (rv .u64 (gA (Sort.swp i a (a+k2-1)))):=m6.congr (dZ A (by omega) (by omega))
  refine Ln<|bD<|Wl<|aX o<|aX J<|aX m<|aX l<|eG (Fy 0 (k2-1) a (by omega) (by omega) (by omega) B g n cap (Sort.swp i a (a+k2-1)) _ m7 (Nat.le_trans p F.size) (dw A _ _) Q ⟨by omega,by omega⟩) (ax := #[bH g n cap,au 0,au ((k2:Int)-1),au ((a:Int))]) _ rfl ?_
  rintro w6 ⟨m8,Z⟩
  have V:=F.trans Z
  refine Ln<|dA<|sN<|Wl<|aX m<|Lv (au ((k2:Int)-2)) iC<|av (au ((k2:Int)-2))<|Ln<|iP ⟨k2-1,Sort.siftDown Sort.ltInt (k2-1) a 0 (Sort.swp i a (a+k2-1)),(vM (by omega) _ _ _ (Nat.le_refl _) (dw A _ _)),((P8 (x:=a+k2-1) (by omega) (by omega)).trans O),(by omega),o,(X.trans Fx.ic),(W.trans Fx.ic),(l.trans Fx.ic),(J.trans Fx.ic),Fx.ic,m8,V⟩ ?_
  show(intOf ((au ((k2:Int)-2)))+1).toNat<_
  simp only[m,intOf]; omega
 refine Lv aF (nu H) (aD (aN (Wx (cZ (gX (dh (⟨.tuple #[],fG Tryd.results111,?_⟩)))))))
 obtain rfl:k2=0:=by omega
 unfold Sort.heapSort; rw[<- aa,<- N,show Sort.heapBuild Sort.ltInt (b-a) a 0 c=c from rfl,<- O]; exact⟨rfl,S,C⟩
theorem TA(a b:Nat)(B g n cap:Nat)(d:Array Int)(w:World)(h:Fx.Own w B 22 1 (bH g n cap) n (rv .u64 (gA d)))(p:B<=w.heap.size)(F:d.size=n)(O:n<=1000)(ha:a<b)(M:b<=n) :
 Calls Tryd.prog 114 #[bH g n cap,au ((a:Int)),au ((b:Int))] w fun e w'=>e = .returned (.tuple #[])/\Fx.Own w' B 22 1 (bH g n cap) n (rv .u64 (gA (Sort.reverseRange d a b)))/\Below B w w':=by
 refine Kent Tryd.func114 32 ?_
 refine ay<|av (au a)<|av (au a)<|aD<|ay<|av (au b)<|Lv (au ((b:Int)-1)) iC<|av (au ((b:Int)-1))<|aD<|Wb<|Wo (fun f A => ∃ i:Nat,∃ j:Nat,∃ c:Array Int,c.size=n/\(a<=i/\j<b/\i<=b)/\Sort.reverseLoop i j c=Sort.reverseLoop a (b-1) d/\f 0=bH g n cap/\f 1=au ((a:Int))/\f 2=au ((b:Int))/\f 6=au ((i:Int))/\f 7=au ((j:Int))/\Fx.Own A B 22 1 (bH g n cap) n (rv .u64 (gA c))/\Below B w A) (fun f _=>((b:Int)-intOf (f 6)).toNat) ⟨a,b-1,d,F,(by omega),rfl,(by rfl),Fx.ic,Fx.ic,Fx.ic,Fx.ic,h,(Below.refl B w)⟩ ?_
 rintro L Q ⟨i,j,c,x,N,q,k,D,E,l,m,y,r⟩
 refine Ws<|ay<|aX l<|aX m ?_
 by_cases u:(i:Int)<(j:Int)
 ·refine Lv aI (nV u)<|aD<|aT<|Wk<|sN<|Wb<|Ws ?_
  -- region 3 draws
  refine jy [0,1,2,3,4,5,6,8,9,10,7,11,12,13,14,15] [0,0,0,0,0,0,0,4,0,0,0,4,0,3,0,3] [(13,7,[7]),(15,7,[7]),(13,11,[11]),(15,11,[11]),(14,13,[13]),(15,13,[13])] fun S v P => ?_
  have o:=aQ v y
  have s:=fM v r p
  refine bE k<|bE l<|bE k<|bE m<|bE k<|bE m<|Rp ((pf g j)) (fun _=>cK 1)<|bE k<|bE l<|Rp ((pf g i)) (fun _=>cK 1)<|Rs (aA ((gA c) j)) (aP o.aM j) ?_
  refine Rs (aA ((gA c) i)) (aP o.aM i) ?_
  refine Rp ((pf g i)) (fun _=>cK 1)<|fU<|ko o i (aA ((gA c) j)) fun R z I T => ?_
  have t:=I.below s (Nat.le_trans p s.size) o.blk.1
  refine Ln<|Rp ((pf g j)) (fun _=>cK 1)<|fU<|ko z j (aA ((gA c) i)) fun K G J U => ?_
  have C:=J.below t (Nat.le_trans p t.size) z.blk.1
  have H:Fx.Own K B 22 1 (bH g n cap) n (rv .u64 (gA (Sort.swp c i j))):=G.congr (dZ x (by omega) (by omega))
  refine Ln<|bD<|ay<|aX l<|Lv (au ((i:Int)+1)) gD<|av (au ((i:Int)+1))<|aD<|Wl<|aX m<|Lv (au ((j:Int)-1)) iC<|av (au ((j:Int)-1))<|Ln<|dA<|iP ⟨i+1,j-1,Sort.swp c i j,(dw x _ _),(by omega),((P9 (by omega)).trans q),k,(D.trans Fx.ic),(E.trans Fx.ic),Fx.ic,Fx.ic,H,C⟩ ?_
  show((b:Int)-intOf ((au ((i:Int)+1)))).toNat<_
  simp only[l,intOf]; omega
 refine Lv aF (nW u) (aD (aN (Wx (cZ (gX (dh (⟨.tuple #[],fG Tryd.results114,?_⟩)))))))
 rw[Jc (by omega)]at q; unfold Sort.reverseRange; rw[<- q]; exact⟨rfl,y,r⟩
end
end Go.Proofs.YtahbiajdgealnaaDoor
namespace Go.Proofs.YtahbiajdgealnaaDoor
open Go.RowKit Rt
set_option linter.unusedVariables false
namespace Fx
def bS(a b:Int):Int:=((BitVec.ofInt 64 a ^^^ BitVec.ofInt 64 b).toNat:Int)
def Cb(a b:Int):Int:=((BitVec.ofInt 64 a &&& BitVec.ofInt 64 b).toNat:Int)
def dH(a:Int)(b:Nat):Int:=IntKind.u64.wrap (a*2^b)
theorem Fz(a b:Int):0<=bS a b/\bS a b<=18446744073709551615:=by
 unfold bS; have:=(BitVec.ofInt 64 a ^^^ BitVec.ofInt 64 b).isLt; omega
theorem Ae(a:Int){b:Int}(h:0<=b)(c:b<=18446744073709551615):0<=Cb a b/\Cb a b<=b:=by
 unfold Cb
 rw[BitVec.toNat_and]
 have d:(BitVec.ofInt 64 b).toNat=b.toNat:=by rw[BitVec.toNat_ofInt]; omega
 have:=Nat.and_le_right (n:=(BitVec.ofInt 64 a).toNat) (m:=(BitVec.ofInt 64 b).toNat)
 omega
section
variable {P:Program} {f:Nat->Value} {w:World} {o:Oper}
theorem Jf{T c:TypeId}{x y:Operand}{a b:Int}(d:o.op = .binOp .xor T x y c)(hx:ev f x = .int .u64 a)(hy:ev f y = .int .u64 b):Runs P f o w (.int .u64 (bS a b)) :=
 mF d hx hy (by
  have h:=jv (Fz a b) rfl
  simp only[binOp,Op.intBits]
  show(pure (Value.int .u64 (IntKind.u64.wrap (bS a b))):Sem Value).run P w=_
  rw[h]; rfl)
theorem TD{T d:TypeId}{x y:Operand}{a b:Int}(i:o.op = .binOp .and T x y d)(hx:ev f x = .int .u64 a)(hy:ev f y = .int .u64 b)(e:0<=b)(h1:b<=18446744073709551615):Runs P f o w (.int .u64 (Cb a b)) :=
 mF i hx hy (by
  have g:=Ae a e h1
  have h:=jv (c:=Cb a b) ⟨g.1,by omega⟩ rfl
  simp only[binOp,Op.intBits]
  show(pure (Value.int .u64 (IntKind.u64.wrap (Cb a b))):Sem Value).run P w=_
  rw[h]; rfl)
theorem Qc{T:TypeId}{x i:Operand}{s:ByteArray}{j:Nat}(e:o.op = .index T x i)(hx:ev f x = .string s)(hi:ev f i = .int .u8 (j:Int))(h:P.underlying T=some .string)(d:j<64)
 (g : ∀ q,q<64->(s[q]?).map (·.toNat)=some (Sort.bitsLen q)):Runs P f o w (.int .u8 (Sort.bitsLen j:Int)):=by
 obtain⟨b,a,c⟩:=Option.map_eq_some_iff.1 (g j d)
 unfold Runs execOp
 simp only[e,hx,hi]
 simp[Instr.index,asIntOf,underlying,h,a,c]
end
end Fx
theorem Rt.FB{n:Nat}(h:n<64):Sort.bitsLen n<=6:=(Sort.bitsLen_le_iff _ _).2 (by omega)
end Go.Proofs.YtahbiajdgealnaaDoor
namespace Go.Proofs.YtahbiajdgealnaaDoor
open Go.RowKit Rt
open Fx (eY dN fJ bC fI fH eO dS fK iq dY iw fq gT iy Lv sN Ln Ws Qv Wl Rp Wc Qs Wr Sb Lk Wk rC rV sR Rs Rn Rd Rk Wb Wx Wo Ab Wt qM Qn Ba uY Bc BF yw Bb DL jw Dt jl qh rQ DX Bd Dr BU Bf rv aC aK dn aH ev bQ Stp bS aS flat gu Mp dH bB fC gF bO down fG iR jr kZ dG bY cells_one jm bP xV unseen jv jE cO bU dA cZ dh gX iP rA iD)
section
open Rt
set_option maxRecDepth 10000
theorem MB(n:Nat)(w:World)(a:n<64) :
 Calls Tryd.prog 83 #[aA ((n:Int))] w fun e w'=>e = .returned (au (Sort.bitsLen n:Int))/\w'=w:=by
 have b:=FB a
 refine Kent Tryd.func83 25 ?_
 refine ay<|av (au 0)<|aD<|Ws<|ay<|av (aA n)<|Lv aF yN<|aD<|aN<|Wk<|sN<|Ws<|ay<|av (aA n)<|Lv aF yN<|aD<|aN<|Wk<|sN<|Ws<|ay<|av (aA n)<|Lv aF yN<|aD<|aN<|Wk<|sN<|ay<|av (au 0)<|av (aA n)<|Lv (.int .u8 ((n:Int))) (eO rfl rfl (by kernel_rfl) Tryd.underlying5 (Fx.u8e (by omega) rfl))<|Lv (.int .u8 ((Sort.bitsLen n:Int))) (Fx.Qc rfl rfl rfl Tryd.underlying9 a (by decide +kernel))<|Lv (au (Sort.bitsLen n:Int)) (eO rfl rfl (by kernel_rfl) Tryd.underlying3 (jr (by omega) rfl))<|Lv (au (0+(Sort.bitsLen n:Int))) gD<|av (au (0+(Sort.bitsLen n:Int)))<|aD<|Wr<|aL (au (0+(Sort.bitsLen n:Int))) ?_
 exact⟨by rw[Int.zero_add],rfl⟩
theorem Jg(n:Nat)(w:World)(a:n<64) :
 Calls Tryd.prog 54 #[aA ((n:Int))] w fun e w'=>e = .returned (au (Sort.bitsLen n:Int))/\w'=w:=by
 have b:=FB a
 refine Kent Tryd.func54 8 ?_
 refine ay<|av (au 0)<|aD<|Ws<|aN<|Wk<|sN<|ay<|av (aA n)<|qj (MB n _ a) _ rfl<|av (au (Sort.bitsLen n:Int))<|aD<|Wr<|aL (au (Sort.bitsLen n:Int)) ?_
 exact⟨rfl,rfl⟩
theorem TF(n m:Nat)(w:World)(f:n<64)(c:0<n)(a:m=2^Sort.bitsLen n) :
 Calls Tryd.prog 101 #[au ((n:Int))] w fun e w'=>e = .returned (aA (m:Int))/\w'=w:=by
 have g:=FB f
 have d:=Sort.two_pow_bitsLen_le c
 rw[<- a]at d
 refine Kent Tryd.func101 7 ?_
 refine ay<|av (aA 0)<|aD<|ay<|av (au n)<|Lv (aA n) (eO rfl rfl (by kernel_rfl) Tryd.underlying130 (jv (by omega) rfl))<|qj (Jg n _ (by omega)) _ rfl<|Lv (aA m) (Fx.Fb (b:=Sort.bitsLen n) rfl rfl rfl (show _<=64 by omega) (jv (by omega) (by rw[a]; simp)))<|av (aA m)<|aD<|Wr<|aL (aA m) ?_
 exact⟨rfl,rfl⟩
theorem Qd(a:Nat)(r:Int)(w:World)(h:aK w a 1 (fun _=>aA r) 165) :
 Calls Tryd.prog 102 #[(pt a)] w fun e w' => ∃ d,e = .returned (aA d)/\(0<=d/\d<=18446744073709551615)/\Stp a w w'/\aK w' a 1 (fun _=>aA d) 165:=by
 refine Kent Tryd.func102 33 ?_
 refine ay<|av (aA 0)<|aD<|Ws ?_
 -- region 1 draws
 refine jy [0,1,3,4,2,5,6,7,8,9] [0,0,4,0,0,4,0,0,0,3] [(9,2,[2]),(9,5,[5])] fun K n N => ?_
 have D:Stp w.heap.size w K:=Sb n
 have f:=aQ n h
 have t:=(jl a w).then D (.inr (jl a w).size)
 refine aY ((pt a))<|aY ((pt a))<|aY ((pt a))<|aY ((pt a))<|Rs (aA r) (aP f.aM 0) ?_
 refine Rs (aA r) (aP f.aM 0) ?_
 refine Rp (aA (dH r 13)) (fun c=>Fx.Fb (b:=13) rfl rfl rfl (by decide) rfl)<|Rp (aA (bS r (dH r 13))) (fun c=>Fx.Jf rfl rfl rfl)<|aY ((pt a))<|fU<|mX f 0 (aA (bS r (dH r 13))) fun j y E Q => ?_
 have z:aK j a 1 (fun _=>aA (bS r (dH r 13))) 165:=cO y
 have l:=t.then E (by omega)
 refine Ln<|bD<|Ws ?_
 -- region 2 draws
 refine jy [0,1,3,4,2,5,6,7,8,9] [0,0,4,0,0,4,0,0,0,3] [(9,2,[2]),(9,5,[5])] fun L o O => ?_
 have F:Stp j.heap.size j L:=Sb o
 have g:=aQ o z
 have u:=l.then F (.inr l.size)
 refine aY ((pt a))<|aY ((pt a))<|aY ((pt a))<|aY ((pt a))<|Rs (aA (bS r (dH r 13))) (aP g.aM 0) ?_
 refine Rs (aA (bS r (dH r 13))) (aP g.aM 0) ?_
 refine Rp (aA ((bS r (dH r 13)) / 128)) (fun c=>Fx.SN (b:=7) (q:=128) rfl rfl rfl (by decide) (by decide))<|Rp (aA (bS (bS r (dH r 13)) ((bS r (dH r 13)) / 128))) (fun c=>Fx.Jf rfl rfl rfl)<|aY ((pt a))<|fU<|mX g 0 (aA (bS (bS r (dH r 13)) ((bS r (dH r 13)) / 128))) fun k A G R => ?_
 have B:aK k a 1 (fun _=>aA (bS (bS r (dH r 13)) ((bS r (dH r 13)) / 128))) 165:=cO A
 have m:=u.then G (by omega)
 refine Ln<|bD<|Ws ?_
 -- region 3 draws
 refine jy [0,1,3,4,2,5,6,7,8,9] [0,0,4,0,0,4,0,0,0,3] [(9,2,[2]),(9,5,[5])] fun M p P => ?_
 have H:Stp k.heap.size k M:=Sb p
 have i:=aQ p B
 have v:=m.then H (.inr m.size)
 refine aY ((pt a))<|aY ((pt a))<|aY ((pt a))<|aY ((pt a))<|Rs (aA (bS (bS r (dH r 13)) ((bS r (dH r 13)) / 128))) (aP i.aM 0) ?_
 refine Rs (aA (bS (bS r (dH r 13)) ((bS r (dH r 13)) / 128))) (aP i.aM 0) ?_
 refine Rp (aA (dH (bS (bS r (dH r 13)) ((bS r (dH r 13)) / 128)) 17)) (fun c=>Fx.Fb (b:=17) rfl rfl rfl (by decide) rfl)<|Rp (aA (bS (bS (bS r (dH r 13)) ((bS r (dH r 13)) / 128)) (dH (bS (bS r (dH r 13)) ((bS r (dH r 13)) / 128)) 17))) (fun c=>Fx.Jf rfl rfl rfl)<|aY ((pt a))<|fU<|mX i 0 (aA (bS (bS (bS r (dH r 13)) ((bS r (dH r 13)) / 128)) (dH (bS (bS r (dH r 13)) ((bS r (dH r 13)) / 128)) 17))) fun J C I S => ?_
 have s:aK J a 1 (fun _=>aA (bS (bS (bS r (dH r 13)) ((bS r (dH r 13)) / 128)) (dH (bS (bS r (dH r 13)) ((bS r (dH r 13)) / 128)) 17))) 165:=cO C
 have x:=v.then I (by omega)
 refine Ln<|bD<|ay<|av ((pt a))<|av ((pt a))<|Lv (aA (bS (bS (bS r (dH r 13)) ((bS r (dH r 13)) / 128)) (dH (bS (bS r (dH r 13)) ((bS r (dH r 13)) / 128)) 17))) (aP s.aM 0)<|av (aA (bS (bS (bS r (dH r 13)) ((bS r (dH r 13)) / 128)) (dH (bS (bS r (dH r 13)) ((bS r (dH r 13)) / 128)) 17)))<|aD<|Wr<|aL (aA (bS (bS (bS r (dH r 13)) ((bS r (dH r 13)) / 128)) (dH (bS (bS r (dH r 13)) ((bS r (dH r 13)) / 128)) 17))) ?_
 exact⟨_,rfl,Fx.Fz _ _,x,s⟩
end
section
open Rt
set_option maxRecDepth 10000
theorem Qe{a:Int}(n m:Nat)(w:World)(e:a=(n:Int))(d:n<64)(b:0<n)(c:m=2^Sort.bitsLen n):Calls Tryd.prog 101 #[au a] w fun e w'=>e = .returned (aA (m:Int))/\w'=w:=by
 subst e; exact TF n m w d b c
theorem TG(a b:Nat)(B g n cap:Nat)(d:Array Int)(w:World)(h:Fx.Own w B 22 1 (bH g n cap) n (rv .u64 (gA d)))(o:B<=w.heap.size)(X:d.size=n)(hs:n<=1000)(ha:a<b)(hb:b<=n)(h50:n<50) :
 Calls Tryd.prog 112 #[bH g n cap,au ((a:Int)),au ((b:Int))] w fun e w' => ∃ y:Array Int,e = .returned (.tuple #[])/\y.size=n/\Sort.PermIn a b d y/\Fx.Own w' B 22 1 (bH g n cap) n (rv .u64 (gA y))/\Below B w w':=by
 obtain⟨i,hq0⟩ : ∃ i,i=(b-a) / 4:=⟨_,rfl⟩
 refine Kent Tryd.func112 65 ?_
 refine ay<|av (au b)<|av (au a)<|Lv (au ((b:Int)-(a:Int))) iC<|av (au ((b:Int)-(a:Int)))<|aD<|ay<|av (au ((b:Int)-(a:Int))) ?_
 by_cases O:8<=((b:Int)-(a:Int))
 ·refine Lv aI (nY O)<|aD<|aT<|ay<|av (au ((b:Int)-(a:Int)))<|Lv (aA ((b:Int)-(a:Int))) (eO rfl rfl (by kernel_rfl) Tryd.underlying165 (jv (by omega) rfl))<|oo 1 (rv .u64 (fun _=>0)) fun v w1 R D s1 z1 => ?_
  have m2:=aQ s1.old h
  have I:=fM s1.old (Below.refl B w) o
  have xW:=iT R (Below.refl B w).size
  have mJ:=bR R h.lt
  have yC:=D.lt
  refine mX D 0 (aA ((b:Int)-(a:Int))) fun w2 m3 s2 z2 => ?_
  have m4:aK w2 v 1 (fun _=>aA ((b:Int)-(a:Int))) 165:=cO m3
  have iZ:=jw s2 D.ty
  have m5:=vg iZ m2
  have b2:=s2.below I (Nat.le_trans o I.size) (by omega)
  refine aD<|ay<|av (au ((b:Int)-(a:Int))) ?_
  obtain⟨m,W⟩ : ∃ m,m=2^Sort.bitsLen (b-a):=⟨_,rfl⟩
  have hm2:=Sort.two_pow_bitsLen_le (show 0<b-a by omega)
  have V9:=Sort.lt_two_pow_bitsLen (b-a)
  rw[<- W]at hm2 V9
  refine qj (Qe (b-a) m _ (by omega) (by omega) (by omega) W) (ax := #[au ((b:Int)-(a:Int))]) _ rfl<|av (aA m)<|aD<|ay<|av (au a)<|av (au ((b:Int)-(a:Int)))<|Lv (au i) (Fx.uD rfl rfl rfl (by omega) (jr (by omega) (by rw[Int.tdiv_eq_ediv_of_nonneg (by omega)]; omega)))<|Lv (au ((i:Int)*2)) (Fx.yJ rfl rfl rfl Fx.io)<|Lv (au ((a:Int)+2*(i:Int))) gD<|Lv (au ((a:Int)+2*(i:Int)-1)) iC<|av (au ((a:Int)+2*(i:Int)-1))<|aD<|Wb<|Wo (fun f H => ∃ ix:Nat,∃ G:Int,∃ j:Array Int,j.size=n/\Sort.PermIn a b d j/\(a+2*i<=ix+1/\ix<=a+2*i+2)/\f 0=bH g n cap/\f 1=au ((a:Int))/\f 2=au ((b:Int))/\f 6=au ((b:Int)-(a:Int))/\f 7=(pt v)/\f 8=aA ((m:Int))/\f 9=au ((ix:Int))/\Fx.Own H B 22 1 (bH g n cap) n (rv .u64 (gA j))/\aK H v 1 (fun _=>aA G) 165/\Below B w H) (fun f _=>((a:Int)+2*i+2-intOf (f 9)).toNat) ⟨a+2*i-1,((b:Int)-(a:Int)),d,X,(Sort.permIn_refl _ _ _),(by omega),(by rfl),Fx.ic,Fx.ic,Fx.ic,(by rfl),Fx.ic,Fx.ic,m5,m4,b2⟩ ?_
  rintro f1 w3 ⟨ix,G,j,s,C,hix,k,p,S,r,z,A,l,Y,Z,x⟩
  refine Ws<|ay<|aX l<|aX p<|aX r<|Lv (au i) (Fx.uD rfl rfl rfl (by omega) (jr (by omega) (by rw[Int.tdiv_eq_ediv_of_nonneg (by omega)]; omega)))<|Lv (au ((i:Int)*2)) (Fx.yJ rfl rfl rfl Fx.io)<|Lv (au ((a:Int)+2*(i:Int))) gD<|Lv (au ((a:Int)+2*(i:Int)+1)) gD ?_
  by_cases P:(ix:Int)<=((a:Int)+2*(i:Int)+1)
  ·refine Lv aI (nX P) (aD (aT (Wk (sN (Ws (Wb (ay (jT (Qd v G _ Z) ?_ (hr:=rC rfl (Fx.args1 z) Tryd.func102 rfl rfl)))))))))
   rintro e9 w4 ⟨q,V,hr1,s3,m8⟩
   refine⟨_,V,?_⟩
   clear V
   have oL:=jw s3 Z.ty
   have m9:=vg oL Y
   have J:=s3.below x (Nat.le_trans o x.size) (by omega)
   refine aX A<|Lv (aA ((m:Int)-1)) iC ?_
   obtain⟨c,ho1,ko1⟩ : ∃ c:Nat,(c:Int)=Fx.Cb q ((m:Int)-1)/\(c:Int)<=(m:Int)-1:=⟨(Fx.Cb q ((m:Int)-1)).toNat,by have:=Fx.Ae q (show 0<=(m:Int)-1 by omega) (by omega); omega,by have:=Fx.Ae q (show 0<=(m:Int)-1 by omega) (by omega); omega⟩
   refine Lv (aA c) ((by rw[ho1]; exact Fx.TD rfl rfl rfl (by omega) (by omega)))<|Lv (au c) (eO rfl rfl (by kernel_rfl) Tryd.underlying3 (jr (by omega) rfl))<|av (au c)<|aD<|Ws<|ay<|av (au c)<|aX r ?_
   by_cases Q:((b:Int)-(a:Int))<=(c:Int)
   ·refine Lv aI (nY Q)<|aD<|aT<|Wl<|av (au c)<|aX r<|Lv (au ((a:Int)+(c:Int)-(b:Int))) iC<|av (au ((a:Int)+(c:Int)-(b:Int)))<|aD ?_
    -- region 10 draws
    refine jy [0,1,2,3,4,5,6,7,8,9,10,12,13,14,11,15,16,17,18,19] [0,0,0,0,0,0,0,0,0,0,0,4,0,0,0,4,0,3,0,3] [(17,11,[11]),(19,11,[11]),(17,15,[15]),(19,15,[15]),(18,17,[17]),(19,17,[17])] fun rE T ig => ?_
    have⟨t,m11⟩:=fV T m9 m8
    have K:=fM T J o
    refine bE k<|bE l<|bE k<|bE p<|aY (au ((a:Int)+(c:Int)-(b:Int)))<|Rp (au (2*(a:Int)+(c:Int)-(b:Int))) (fun _=>gD)<|bE k<|bE p<|aY (au ((a:Int)+(c:Int)-(b:Int)))<|Rp (au (2*(a:Int)+(c:Int)-(b:Int))) (fun _=>gD)<|Rp ((pf g (2*a+c-b))) (fun _=>cK 1)<|bE k<|bE l<|Rp ((pf g ix)) (fun _=>cK 1)<|Rs (aA ((gA j) (2*a+c-b))) (aP t.aM (2*a+c-b)) ?_
    refine Rs (aA ((gA j) ix)) (aP t.aM ix) ?_
    refine Rp ((pf g ix)) (fun _=>cK 1)<|fU<|ko t ix (aA ((gA j) (2*a+c-b))) fun w5 E s5 z3 => ?_
    have Jh:=jw s5 t.Ve
    have m13:=vg Jh m11
    have L:=s5.below K (Nat.le_trans o K.size) t.blk.1
    refine Ln<|Rp ((pf g (2*a+c-b))) (fun _=>cK 1)<|fU<|ko E (2*a+c-b) (aA ((gA j) ix)) fun w6 m14 s6 z4 => ?_
    have Wd:=jw s6 E.Ve
    have m15:=vg Wd m13
    have b7:=s6.below L (Nat.le_trans o L.size) E.blk.1
    have m16:Fx.Own w6 B 22 1 (bH g n cap) n (rv .u64 (gA (Sort.swp j ix (2*a+c-b)))):=m14.congr (dZ s (by omega) (by omega))
    refine Ln<|Rn<|dA<|sN<|Wl<|aX l<|Lv (au ((ix:Int)+1)) gD<|av (au ((ix:Int)+1))<|Ln<|iP ⟨ix+1,q,Sort.swp j ix (2*a+c-b),(dw s _ _),(Sort.permIn_trans _ _ _ _ _ C (Sort.swp_permIn _ _ _ _ _ (by omega) (by omega) (by omega) (by omega) (by omega))),(by omega),k,(p.trans Fx.ic),(S.trans Fx.ic),(r.trans Fx.ic),z,(A.trans Fx.ic),Fx.ic,m16,m15,b7⟩ ?_
    show((a:Int)+2*i+2-intOf ((au ((ix:Int)+1)))).toNat<_
    simp only[l,intOf]; omega
   refine Lv aF (nu Q)<|aD<|aN<|Wk<|sN ?_
   -- region 10 draws
   refine jy [0,1,2,3,4,5,6,7,8,9,10,12,13,14,11,15,16,17,18,19] [0,0,0,0,0,0,0,0,0,0,0,4,0,0,0,4,0,3,0,3] [(17,11,[11]),(19,11,[11]),(17,15,[15]),(19,15,[15]),(18,17,[17]),(19,17,[17])] fun Dv U oK => ?_
   have⟨u,m18⟩:=fV U m9 m8
   have M:=fM U J o
   refine bE k<|bE l<|bE k<|bE p<|aY (au c)<|Rp (au ((a:Int)+(c:Int))) (fun _=>gD)<|bE k<|bE p<|aY (au c)<|Rp (au ((a:Int)+(c:Int))) (fun _=>gD)<|Rp ((pf g (a+c))) (fun _=>cK 1)<|bE k<|bE l<|Rp ((pf g ix)) (fun _=>cK 1)<|Rs (aA ((gA j) (a+c))) (aP u.aM (a+c)) ?_
   refine Rs (aA ((gA j) ix)) (aP u.aM ix) ?_
   refine Rp ((pf g ix)) (fun _=>cK 1)<|fU<|ko u ix (aA ((gA j) (a+c))) fun w7 F s8 z5 => ?_
   have Wh:=jw s8 u.Ve
   have m20:=vg Wh m18
   have N:=s8.below M (Nat.le_trans o M.size) u.blk.1
   refine Ln<|Rp ((pf g (a+c))) (fun _=>cK 1)<|fU<|ko F (a+c) (aA ((gA j) ix)) fun w8 m21 s9 z6 => ?_
   have Wi:=jw s9 F.Ve
   have m22:=vg Wi m20
   have b10:=s9.below N (Nat.le_trans o N.size) F.blk.1
   have m23:Fx.Own w8 B 22 1 (bH g n cap) n (rv .u64 (gA (Sort.swp j ix (a+c)))):=m21.congr (dZ s (by omega) (by omega))
   refine Ln<|Rn<|dA<|sN<|Wl<|aX l<|Lv (au ((ix:Int)+1)) gD<|av (au ((ix:Int)+1))<|Ln<|iP ⟨ix+1,q,Sort.swp j ix (a+c),(dw s _ _),(Sort.permIn_trans _ _ _ _ _ C (Sort.swp_permIn _ _ _ _ _ (by omega) (by omega) (by omega) (by omega) (by omega))),(by omega),k,(p.trans Fx.ic),(S.trans Fx.ic),(r.trans Fx.ic),z,(A.trans Fx.ic),Fx.ic,m23,m22,b10⟩ ?_
   show((a:Int)+2*i+2-intOf ((au ((ix:Int)+1)))).toNat<_
   simp only[l,intOf]; omega
  refine Lv aF (oF P) (aD (aN (Wx (cZ (gX (dh (⟨.tuple #[],fG Tryd.results112,?_⟩)))))))
  exact⟨j,rfl,s,C,Y,x⟩
 refine Lv aF (nu O) (aD (aN (Wk (⟨.tuple #[],fG Tryd.results112,?_⟩))))
 exact⟨d,rfl,X,Sort.permIn_refl _ _ _,h,(Below.refl B w)⟩
end
section
open Rt
set_option maxRecDepth 10000
theorem Qf(a b f:Nat)(c:Int)(B g n cap:Nat)(d:Array Int)(w:World)(h:Fx.Own w B 22 1 (bH g n cap) n (rv .u64 (gA d)))(l:B<=w.heap.size)(J:d.size=n)(K:n<=1000)(ha:a<n)(H:b<n)(I:B<=f)(q:aK w f 1 (fun _=>au c) 3)(L:0<=c/\c<=1000) :
 Calls Tryd.prog 126 #[bH g n cap,au ((a:Int)),au ((b:Int)),(pt f)] w fun e w' => ∃(x y:Nat) (i:Int),e = .returned (.tuple #[au (x:Int),au (y:Int)])/\((x=a/\y=b)\/(x=b/\y=a))/\(c<=i/\i<=c+1)/\aK w' f 1 (fun _=>au i) 3/\Fx.Own w' B 22 1 (bH g n cap) n (rv .u64 (gA d))/\Below B w w':=by
 refine Kent Tryd.func126 28 ?_
 refine ay<|av (au 0)<|av (au 0)<|aD<|Ws<|Ws ?_
 -- region 1 draws
 refine jX<|aZ (bH g n cap)<|aZ (au b)<|Qv ((pf g b)) (fun o j=>cK 1)<|Qv (aA ((gA d) b)) (fun o j=>aP (h.cb j) b)<|aZ (bH g n cap)<|aZ (au a)<|Qv ((pf g a)) (fun o j=>cK 1)<|Qv (aA ((gA d) a)) (fun o j=>aP (h.cb j) a) ?_
 by_cases k:(decide ((gA d) b<(gA d) a))=true
 ·refine lu (fun _ _=>bT ((gA d) b) ((gA d) a) _) aI (by rw[k])<|Qn ?_
  intro M r
  have⟨z,m⟩:=fV r h q
  have p:=fM r (Below.refl B w) l
  refine sN<|aT<|ay<|av ((pt f))<|av ((pt f))<|Lv (au c) (aP m.aM 0)<|Lv (au (c+1)) gD<|av ((pt f))<|mX m 0 (au (c+1)) fun G A i O => ?_
  have C:aK G f 1 (fun _=>au (c+1)) 3:=cO A
  have v:=jw i m.ty
  have D:=vg v z
  have t:=i.below p (Nat.le_trans l p.size) (by omega)
  refine aD<|ay<|av (au b)<|av (au a)<|av (au b)<|av (au a)<|aD<|Wr<|sR<|aL (.tuple #[au ((b:Int)),au ((a:Int))]) ?_
  exact⟨b,a,c+1,rfl,.inr ⟨rfl,rfl⟩,by omega,C,D,t⟩
 rw[Bool.not_eq_true]at k
 refine lu (fun _ _=>bT ((gA d) b) ((gA d) a) _) aF (by rw[k])<|Qn ?_
 intro N s
 have⟨E,F⟩:=fV s h q
 have u:=fM s (Below.refl B w) l
 refine sN<|aN<|Wk<|sN<|ay<|av (au a)<|av (au b)<|av (au a)<|av (au b)<|aD<|Wr<|aL (.tuple #[au ((a:Int)),au ((b:Int))]) ?_
 exact⟨a,b,c,rfl,.inl ⟨rfl,rfl⟩,by omega,F,E,u⟩
theorem Af{j k:Int}(a b:Nat)(l:j=(a:Int))(m:k=(b:Int))(f:Nat)(c:Int)(B g n cap:Nat)(d:Array Int)(w:World)(h:Fx.Own w B 22 1 (bH g n cap) n (rv .u64 (gA d)))(o:B<=w.heap.size)(s:d.size=n)(t:n<=1000)(ha:a<n)(p:b<n)(q:B<=f)(r:aK w f 1 (fun _=>au c) 3)(u:0<=c/\c<=1000) :
 Calls Tryd.prog 126 #[bH g n cap,au j,au k,(pt f)] w fun e w' => ∃(x y:Nat) (i:Int),e = .returned (.tuple #[au (x:Int),au (y:Int)])/\((x=a/\y=b)\/(x=b/\y=a))/\(c<=i/\i<=c+1)/\aK w' f 1 (fun _=>au i) 3/\Fx.Own w' B 22 1 (bH g n cap) n (rv .u64 (gA d))/\Below B w w':=by
 subst l m; exact Qf a b f c B g n cap d w h o s t ha p q r u
theorem TH(a b c f:Nat)(j:Int)(B g n cap:Nat)(d:Array Int)(w:World)(h:Fx.Own w B 22 1 (bH g n cap) n (rv .u64 (gA d)))(m:B<=w.heap.size)(p:d.size=n)(q:n<=1000)(ha:a<n)(L:b<n)(M:c<n)(z:B<=f)(o:aK w f 1 (fun _=>au j) 3)(Q:0<=j/\j<=100) :
 Calls Tryd.prog 125 #[bH g n cap,au ((a:Int)),au ((b:Int)),au ((c:Int)),(pt f)] w fun e w' => ∃(x:Nat) (r:Int),e = .returned (au (x:Int))/\(x=a\/x=b\/x=c)/\(j<=r/\r<=j+3)/\aK w' f 1 (fun _=>au r) 3/\Fx.Own w' B 22 1 (bH g n cap) n (rv .u64 (gA d))/\Below B w w':=by
 refine Kent Tryd.func125 36 ?_
 refine ay<|av (au 0)<|aD<|ay<|av (bH g n cap)<|av (au a)<|av (au b)<|av ((pt f))<|jT (Af a b (by omega) (by omega) f j B g n cap d _ h (Nat.le_trans m (Below.refl B w).size) p q (by omega) (by omega) (by omega) o (by omega)) (ax := #[bH g n cap,au ((a:Int)),au ((b:Int)),(pt f)]) ?_
 rintro y V ⟨x1,k,J,i,R,N,D,E,z⟩
 refine⟨_,i,?_⟩
 clear i
 have u:=(Below.refl B w).trans z
 refine av (.tuple #[au ((x1:Int)),au ((k:Int))])<|av (au x1)<|av (au k)<|av (au x1)<|av (au k)<|aD<|ay<|av (bH g n cap)<|av (au k)<|av (au c)<|av ((pt f))<|jT (Af k c (by omega) (by omega) f J B g n cap d _ E (Nat.le_trans m u.size) p q (by omega) (by omega) (by omega) D (by omega)) (ax := #[bH g n cap,au ((k:Int)),au ((c:Int)),(pt f)]) ?_
 rintro y W ⟨x2,t,K,i,S,O,F,G,o⟩
 refine⟨_,i,?_⟩
 clear i
 have v:=u.trans o
 refine av (.tuple #[au ((x2:Int)),au ((t:Int))])<|av (au x2)<|av (au t)<|av (au x2)<|av (au t)<|aD<|ay<|av (bH g n cap)<|av (au x1)<|av (au x2)<|av ((pt f))<|jT (Af x1 x2 (by omega) (by omega) f K B g n cap d _ G (Nat.le_trans m v.size) p q (by omega) (by omega) (by omega) F (by omega)) (ax := #[bH g n cap,au ((x1:Int)),au ((x2:Int)),(pt f)]) ?_
 rintro y X ⟨s,l,U,i,T,P,H,I,C⟩
 refine⟨_,i,?_⟩
 clear i
 have A:=v.trans C
 refine av (.tuple #[au ((s:Int)),au ((l:Int))])<|av (au s)<|av (au l)<|av (au s)<|av (au l)<|aD<|ay<|av (au l)<|av (au l)<|aD<|Wr<|aL (au l) ?_
 exact⟨_,_,rfl,by omega,by omega,H,I,A⟩
theorem Qg{k l m:Int}(a b c:Nat)(o:k=(a:Int))(p:l=(b:Int))(q:m=(c:Int))(i:Nat)(f:Int)(B g n cap:Nat)(d:Array Int)(w:World)(h:Fx.Own w B 22 1 (bH g n cap) n (rv .u64 (gA d)))(r:B<=w.heap.size)(y:d.size=n)(z:n<=1000)(ha:a<n)(s:b<n)(v:c<n)(t:B<=i)(u:aK w i 1 (fun _=>au f) 3)(A:0<=f/\f<=100) :
 Calls Tryd.prog 125 #[bH g n cap,au k,au l,au m,(pt i)] w fun e w' => ∃(x:Nat) (j:Int),e = .returned (au (x:Int))/\(x=a\/x=b\/x=c)/\(f<=j/\j<=f+3)/\aK w' i 1 (fun _=>au j) 3/\Fx.Own w' B 22 1 (bH g n cap) n (rv .u64 (gA d))/\Below B w w':=by
 subst o p q; exact TH a b c i f B g n cap d w h r y z ha s v t u A
theorem TI(a b:Nat)(B g n cap:Nat)(d:Array Int)(w:World)(h:Fx.Own w B 22 1 (bH g n cap) n (rv .u64 (gA d)))(x:B<=w.heap.size)(E:d.size=n)(F:n<=1000)(ha:a<b)(J:b<=n)(I:n<50) :
 Calls Tryd.prog 113 #[bH g n cap,au ((a:Int)),au ((b:Int))] w fun e w' => ∃(p:Nat) (D:Int),e = .returned (.tuple #[au (p:Int),au D])/\a<=p/\p<b/\Fx.Own w' B 22 1 (bH g n cap) n (rv .u64 (gA d))/\Below B w w':=by
 obtain⟨c,K⟩ : ∃ c,c=(b-a) / 4:=⟨_,rfl⟩
 refine Kent Tryd.func113 57 ?_
 refine ay<|av (au 0)<|av (au 0)<|aD<|ay<|av (au b)<|av (au a)<|Lv (au ((b:Int)-(a:Int))) iC<|av (au ((b:Int)-(a:Int)))<|aD<|ay<|yw (m:=1) (y:=rv .i64 (fun _=>0)) (by rfl) rfl (by kernel_rfl) rfl fun v Q u o A S => ?_
 have k:=aQ A.old h
 have f:=fM A.old (Below.refl B w) x
 have N:=iT u (Below.refl B w).size
 have O:=bR u h.lt
 have P:=o.lt
 refine aD<|ay<|av (au a)<|av (au ((b:Int)-(a:Int)))<|Lv (au c) (Fx.uD rfl rfl rfl (by omega) (jr (by omega) (by rw[Int.tdiv_eq_ediv_of_nonneg (by omega)]; omega)))<|Lv (au ((c:Int)*1)) (Fx.yJ rfl rfl rfl Fx.io)<|Lv (au ((a:Int)+(c:Int))) gD<|av (au ((a:Int)+(c:Int)))<|aD<|ay<|av (au a)<|av (au ((b:Int)-(a:Int)))<|Lv (au c) (Fx.uD rfl rfl rfl (by omega) (jr (by omega) (by rw[Int.tdiv_eq_ediv_of_nonneg (by omega)]; omega)))<|Lv (au ((c:Int)*2)) (Fx.yJ rfl rfl rfl Fx.io)<|Lv (au ((a:Int)+2*(c:Int))) gD<|av (au ((a:Int)+2*(c:Int)))<|aD<|ay<|av (au a)<|av (au ((b:Int)-(a:Int)))<|Lv (au c) (Fx.uD rfl rfl rfl (by omega) (jr (by omega) (by rw[Int.tdiv_eq_ediv_of_nonneg (by omega)]; omega)))<|Lv (au ((c:Int)*3)) (Fx.yJ rfl rfl rfl Fx.io)<|Lv (au ((a:Int)+3*(c:Int))) gD<|av (au ((a:Int)+3*(c:Int)))<|aD<|Ws<|ay<|av (au ((b:Int)-(a:Int))) ?_
 by_cases t:8<=((b:Int)-(a:Int))
 ·refine Lv aI (nY t)<|aD<|aT<|Ws<|ay<|av (au ((b:Int)-(a:Int)))<|Lv aF yN<|aD<|aN<|Wk<|sN<|Wl<|av (bH g n cap)<|av (au ((a:Int)+(c:Int)))<|av (au ((a:Int)+2*(c:Int)))<|av (au ((a:Int)+3*(c:Int)))<|jT (Qg (a+c) (a+2*c) (a+3*c) (by omega) (by omega) (by omega) v 0 B g n cap d _ k (Nat.le_trans x f.size) E F (by omega) (by omega) (by omega) (by omega) o (by omega)) (ax := #[bH g n cap,au ((a:Int)+(c:Int)),au ((a:Int)+2*(c:Int)),au ((a:Int)+3*(c:Int)),(pt v)]) ?_
  rintro H R ⟨x1,s,z,M,L,G,r,C⟩
  refine⟨_,z,?_⟩
  clear z
  have l:=f.trans C
  refine av (au x1)<|aD<|ay<|Lv (au s) (aP G.aM 0)<|aD<|Wb<|ay ?_
  by_cases i:s=0
  ·refine Lv aI (iV i)<|av aI<|aD<|aT<|ay<|av (au x1)<|av (au x1)<|av (au 1)<|aD<|Wr<|bU<|aL (.tuple #[au ((x1:Int)),au 1]) ?_
   exact⟨x1,1,congrArg (fun q=>Ending.returned (.tuple #[au q,au 1])) (by omega),by omega,by omega,r,l⟩
  refine Lv aF (mH i)<|av aF<|aD<|aN<|ay ?_
  by_cases j:s=12
  ·refine Lv aI (iV j)<|av aI<|aD<|aT<|ay<|av (au x1)<|av (au x1)<|av (au 2)<|aD<|Wr<|bU<|aL (.tuple #[au ((x1:Int)),au 2]) ?_
   exact⟨x1,2,congrArg (fun q=>Ending.returned (.tuple #[au q,au 2])) (by omega),by omega,by omega,r,l⟩
  refine Lv aF (mH j)<|av aF<|aD<|aN<|ay<|av (au x1)<|av (au x1)<|av (au 0)<|aD<|Wr<|bU<|aL (.tuple #[au ((x1:Int)),au 0]) ?_
  exact⟨x1,0,congrArg (fun q=>Ending.returned (.tuple #[au q,au 0])) (by omega),by omega,by omega,r,l⟩
 refine Lv aF (nu t)<|aD<|aN<|Wk<|sN<|ay<|Lv (au 0) (aP o.aM 0)<|aD<|Wb<|ay ?_
 by_cases i:(0:Int)=0
 ·refine Lv aI (iV i)<|av aI<|aD<|aT<|ay<|av (au ((a:Int)+2*(c:Int)))<|av (au ((a:Int)+2*(c:Int)))<|av (au 1)<|aD<|Wr<|bU<|aL (.tuple #[au ((a:Int)+2*(c:Int)),au 1]) ?_
  exact⟨a+2*c,1,congrArg (fun q=>Ending.returned (.tuple #[au q,au 1])) (by omega),by omega,by omega,k,f⟩
 refine Lv aF (mH i)<|av aF<|aD<|aN<|ay ?_
 by_cases j:(0:Int)=12
 ·refine Lv aI (iV j)<|av aI<|aD<|aT<|ay<|av (au ((a:Int)+2*(c:Int)))<|av (au ((a:Int)+2*(c:Int)))<|av (au 2)<|aD<|Wr<|bU<|aL (.tuple #[au ((a:Int)+2*(c:Int)),au 2]) ?_
  exact⟨a+2*c,2,congrArg (fun q=>Ending.returned (.tuple #[au q,au 2])) (by omega),by omega,by omega,k,f⟩
 refine Lv aF (mH j)<|av aF<|aD<|aN<|ay<|av (au ((a:Int)+2*(c:Int)))<|av (au ((a:Int)+2*(c:Int)))<|av (au 0)<|aD<|Wr<|bU<|aL (.tuple #[au ((a:Int)+2*(c:Int)),au 0]) ?_
 exact⟨a+2*c,0,congrArg (fun q=>Ending.returned (.tuple #[au q,au 0])) (by omega),by omega,by omega,k,f⟩
end
section
open Rt
set_option maxRecDepth 10000
theorem Qh(a b:Nat)(B g n cap:Nat)(d:Array Int)(w:World)(h:Fx.Own w B 22 1 (bH g n cap) n (rv .u64 (gA d)))(v:B<=w.heap.size)(V:d.size=n)(W:n<=1000)(ha:a<b)(U:b<=n)(T:n<50) :
 Calls Tryd.prog 115 #[bH g n cap,au ((a:Int)),au ((b:Int))] w fun e w' => ∃ r:Bool,e = .returned (.bool r)/\(r=true->Sort.SortedIn Sort.ltInt a b d)/\Fx.Own w' B 22 1 (bH g n cap) n (rv .u64 (gA d))/\Below B w w':=by
 refine Kent Tryd.func115 133 ?_
 refine ay<|av aF<|aD<|ay<|av (au a)<|Lv (au ((a:Int)+1)) gD<|av (au ((a:Int)+1))<|aD<|Ws<|ay<|av (au 0)<|aD<|Wb<|Wo (fun f p=>f 0=bH g n cap/\f 1=au ((a:Int))/\f 2=au ((b:Int))/\f 7=au ((a:Int)+1)/\f 8=au 0/\Fx.Own p B 22 1 (bH g n cap) n (rv .u64 (gA d))/\Below B w p) (fun f _=>(5-intOf (f 8)).toNat) ⟨(by rfl),Fx.ic,Fx.ic,Fx.ic,Fx.ic,h,(Below.refl B w)⟩ ?_
 rintro R X ⟨K,M,N,O,C,P,I⟩
 refine Ws<|ay<|aX C<|Lv aI IE<|aD<|aT<|Wk<|sN<|Ws<|Wb<|Ws<|Wb<|Wo (fun f p => ∃ i:Nat,Sort.SortedIn Sort.ltInt a i d/\(a<i/\i<=b)/\f 0=bH g n cap/\f 1=au ((a:Int))/\f 2=au ((b:Int))/\f 7=au ((i:Int))/\f 8=au 0/\Fx.Own p B 22 1 (bH g n cap) n (rv .u64 (gA d))/\Below B w p) (fun f _=>((b:Int)-intOf (f 7)).toNat) ⟨a+1,(Eb _ _),(by omega),K,(M.trans Fx.ic),(N.trans Fx.ic),(O.trans Fx.ic),(C.trans Fx.ic),P,I⟩ ?_
 rintro S Y ⟨i,x,hi,t,u,k,j,L,o,s⟩
 refine Ws<|Ws ?_
 -- region 5 draws
 refine jX<|dR j<|dR k ?_
 by_cases A:(i:Int)<(b:Int)
 ·refine Qv aI (fun l c=>nV A)<|aZ aI<|dR t<|dR j<|Qv ((pf g i)) (fun l c=>cK 1)<|Qv (aA ((gA d) i)) (fun l c=>aP (o.cb c) i)<|dR t<|dR j<|Qv (au ((i:Int)-1)) (fun l c=>iC)<|Qv ((pf g (i-1))) (fun l c=>cK 1)<|Qv (aA ((gA d) (i-1))) (fun l c=>aP (o.cb c) (i-1)) ?_
  by_cases q:(decide ((gA d) i<(gA d) (i-1)))=true
  ·refine lu (fun _ _=>bT ((gA d) i) ((gA d) (i-1)) _) aI (by rw[q])<|aZ aF<|aZ aF<|Qn ?_
   intro Z D
   have G:=aQ D o
   have y:=fM D s v
   refine sN<|aN<|Wx<|cZ<|gX<|dh<|sN<|Ws<|ay<|aX j<|aX k ?_
   by_cases m:(i:Int)=(b:Int)
   ·refine Lv aI (iV m)<|aD<|aT<|ay<|av aI<|aD<|Wr<|sR<|bU<|sR<|rA<|bU<|sR<|aL aI ?_
    exact⟨true,rfl,(fun _=>by rw[show b=i by omega]; exact x),G,y⟩
   refine Lv aF (mH m)<|aD<|aN<|Wk<|sN<|Ws<|ay<|aX k<|aX u<|Lv (au ((b:Int)-(a:Int))) iC<|Lv aI IE<|aD<|aT<|ay<|av aF<|aD<|Wr<|sR<|bU<|sR<|rA<|bU<|sR<|aL aF ?_
   exact⟨false,rfl,(fun h=>nomatch h),G,y⟩
  rw[Bool.not_eq_true]at q
  refine lu (fun _ _=>bT ((gA d) i) ((gA d) (i-1)) _) aF (by rw[q])<|aZ aI<|aZ aI<|Qn ?_
  intro aa E
  have Q:=aQ E o
  have J:=fM E s v
  refine sN<|aT<|Wk<|sN<|Wb<|Wl<|aX j<|Lv (au ((i:Int)+1)) gD<|av (au ((i:Int)+1))<|Ln<|dA<|iP ⟨i+1,(Sort.SortedIn.snoc Sort.swo_ltInt x (nQ (of_decide_eq_false q))),(by omega),t,(u.trans Fx.ic),(k.trans Fx.ic),Fx.ic,(L.trans Fx.ic),Q,J⟩ ?_
  show((b:Int)-intOf ((au ((i:Int)+1)))).toNat<_
  simp only[j,intOf]; omega
 refine Qv aF (fun l c=>nW A)<|aZ aF<|aU<|aU<|aU<|aU<|aU<|aU<|aU<|aU<|aU<|aU<|aU<|aZ aF<|Qn ?_
 intro ab F
 have H:=aQ F o
 have z:=fM F s v
 refine sN<|aN<|Wx<|cZ<|gX<|dh<|sN<|Ws<|ay<|aX j<|aX k ?_
 by_cases m:(i:Int)=(b:Int)
 ·refine Lv aI (iV m)<|aD<|aT<|ay<|av aI<|aD<|Wr<|sR<|bU<|sR<|rA<|bU<|sR<|aL aI ?_
  exact⟨true,rfl,(fun _=>by rw[show b=i by omega]; exact x),H,z⟩
 refine Lv aF (mH m)<|aD<|aN<|Wk<|sN<|Ws<|ay<|aX k<|aX u<|Lv (au ((b:Int)-(a:Int))) iC<|Lv aI IE<|aD<|aT<|ay<|av aF<|aD<|Wr<|sR<|bU<|sR<|rA<|bU<|sR<|aL aF ?_
 exact⟨false,rfl,(fun h=>nomatch h),H,z⟩
theorem Wj(a b p:Nat)(B g n cap:Nat)(d:Array Int)(w:World)(h:Fx.Own w B 22 1 (bH g n cap) n (rv .u64 (gA d)))(o:B<=w.heap.size)(hn:d.size=n)(hs:n<=1000)(ha:a<=p)(hp:p<b)(hb:b<=n) :
 Calls Tryd.prog 117 #[bH g n cap,au ((a:Int)),au ((b:Int)),au ((p:Int))] w fun e w' => ∃(mid:Nat) (V:Array Int),e = .returned (au (mid:Int))/\Sort.partitionEqual Sort.ltInt d a b p=(mid,V)/\V.size=n/\Fx.Own w' B 22 1 (bH g n cap) n (rv .u64 (gA V))/\Below B w w':=by
 refine Kent Tryd.func117 84 ?_
 refine ay<|av (au 0)<|aD<|Ws ?_
 -- region 1 draws
 refine jy [0,1,2,3,4,5,6,8,9,10,7,11,12,13,14,15] [0,0,0,0,0,0,0,4,0,0,0,4,0,3,0,3] [(13,7,[7]),(15,7,[7]),(13,11,[11]),(15,11,[11]),(14,13,[13]),(15,13,[13])] fun rE gL ig => ?_
 have P:=aQ gL h
 have b1:=fM gL (Below.refl B w) o
 refine aY (bH g n cap)<|aY (au a)<|aY (bH g n cap)<|aY (au p)<|aY (bH g n cap)<|aY (au p)<|Rp ((pf g p)) (fun _=>cK 1)<|aY (bH g n cap)<|aY (au a)<|Rp ((pf g a)) (fun _=>cK 1)<|Rs (aA ((gA d) p)) (aP P.aM p) ?_
 refine Rs (aA ((gA d) a)) (aP P.aM a) ?_
 refine Rp ((pf g a)) (fun _=>cK 1)<|fU<|ko P a (aA ((gA d) p)) fun w1 m2 s2 z1 => ?_
 have b2:=s2.below b1 (Nat.le_trans o b1.size) P.blk.1
 refine Ln<|Rp ((pf g p)) (fun _=>cK 1)<|fU<|ko m2 p (aA ((gA d) a)) fun w2 m3 s3 z2 => ?_
 have b3:=s3.below b2 (Nat.le_trans o b2.size) m2.blk.1
 have m4:Fx.Own w2 B 22 1 (bH g n cap) n (rv .u64 (gA (Sort.swp d a p))):=m3.congr (dZ hn (by omega) (by omega))
 refine Ln<|bD<|ay<|av (au a)<|Lv (au ((a:Int)+1)) gD<|av (au b)<|Lv (au ((b:Int)-1)) iC<|av (au ((a:Int)+1))<|av (au ((b:Int)-1))<|aD<|Ws<|Wb<|Wo (fun f s => ∃ i:Nat,∃ j:Nat,∃ k:Array Int,k.size=n/\Sort.partEqLoop Sort.ltInt a i j k=Sort.partEqLoop Sort.ltInt a (a+1) (b-1) (Sort.swp d a p)/\(a<i/\j<b/\i<=b)/\f 0=bH g n cap/\f 1=au ((a:Int))/\f 2=au ((b:Int))/\f 9=au ((i:Int))/\f 10=au ((j:Int))/\Fx.Own s B 22 1 (bH g n cap) n (rv .u64 (gA k))/\Below B w s) (fun f _=>((b:Int)-intOf (f 9)).toNat) ⟨a+1,b-1,Sort.swp d a p,(dw hn _ _),rfl,(by omega),(by rfl),Fx.ic,Fx.ic,Fx.ic,Fx.ic,m4,b3⟩ ?_
 rintro f1 w3 ⟨i,j,k,E,O,hij,h1,h2,h3,Y,h5,m5,b4⟩
 refine Wb<|Ws<|Wb<|Wo (fun f s => ∃ c:Nat,Sort.partEqLoop Sort.ltInt a c j k=Sort.partEqLoop Sort.ltInt a i j k/\(i<=c/\c<=b)/\f 0=bH g n cap/\f 1=au ((a:Int))/\f 2=au ((b:Int))/\f 9=au ((c:Int))/\f 10=au ((j:Int))/\Fx.Own s B 22 1 (bH g n cap) n (rv .u64 (gA k))/\Below B w s) (fun f _=>((j:Int)+1-intOf (f 9)).toNat) ⟨i,rfl,(by omega),h1,(h2.trans Fx.ic),(h3.trans Fx.ic),(Y.trans Fx.ic),(h5.trans Fx.ic),m5,b4⟩ ?_
 rintro f2 w4 ⟨c,I,hi2,H,N,Z,D,M,K,T⟩
 refine Ws<|Ws ?_
 -- region 3 draws
 refine jX<|dR D<|dR M ?_
 by_cases c31:(c:Int)<=(j:Int)
 ·refine Qv aI (fun q m=>nX c31)<|aZ aI<|dR H<|dR N<|Qv ((pf g a)) (fun q m=>cK 1)<|Qv (aA ((gA k) a)) (fun q m=>aP (K.cb m) a)<|dR H<|dR D<|Qv ((pf g c)) (fun q m=>cK 1)<|Qv (aA ((gA k) c)) (fun q m=>aP (K.cb m) c) ?_
  by_cases F:(decide ((gA k) a<(gA k) c))=true
  ·refine lu (fun _ _=>bT ((gA k) a) ((gA k) c) _) aI (by rw[F])<|aZ aF<|aZ aF<|Qn ?_
   intro Tv qB
   have m7:=aQ qB K
   have b6:=fM qB T o
   refine sN<|aN<|Wx<|cZ<|gX<|dh<|sN<|Ws<|Wb<|Wo (fun f s => ∃ l:Nat,Sort.partEqLoop Sort.ltInt a c l k=Sort.partEqLoop Sort.ltInt a c j k/\((l<c\/gA k a<gA k c))/\l<=j/\f 0=bH g n cap/\f 1=au ((a:Int))/\f 2=au ((b:Int))/\f 9=au ((c:Int))/\f 10=au ((l:Int))/\Fx.Own s B 22 1 (bH g n cap) n (rv .u64 (gA k))/\Below B w s) (fun f _=>(intOf (f 10)).toNat) ⟨j,rfl,(.inr (of_decide_eq_true F)),(by omega),H,(N.trans Fx.ic),(Z.trans Fx.ic),(D.trans Fx.ic),(M.trans Fx.ic),m7,b6⟩ ?_
   rintro f3 w5 ⟨l,A,C,hj2,v,W,Qi,x,t,L,U⟩
   refine Ws<|Ws ?_
   -- region 5 draws
   refine jX<|dR x<|dR t ?_
   by_cases G:(c:Int)<=(l:Int)
   ·refine Qv aI (fun q m=>nX G)<|aZ aI<|dR v<|dR W<|Qv ((pf g a)) (fun q m=>cK 1)<|Qv (aA ((gA k) a)) (fun q m=>aP (L.cb m) a)<|dR v<|dR t<|Qv ((pf g l)) (fun q m=>cK 1)<|Qv (aA ((gA k) l)) (fun q m=>aP (L.cb m) l) ?_
    by_cases r:(decide ((gA k) a<(gA k) l))=true
    ·refine lu (fun _ _=>bT ((gA k) a) ((gA k) l) _) aI (by rw[r])<|aZ aI<|Qn ?_
     intro Tw qC
     have m9:=aQ qC L
     have b8:=fM qC U o
     refine sN<|aT<|Wk<|sN<|Wb<|Wl<|aX t<|Lv (au ((l:Int)-1)) iC<|av (au ((l:Int)-1))<|Ln<|dA<|iP ⟨l-1,((Ol (by omega) (by omega) (C.resolve_left (by omega)) (of_decide_eq_true r)).trans A),(C.elim (fun h => .inl (by omega)) .inr),(by omega),v,(W.trans Fx.ic),(Qi.trans Fx.ic),(x.trans Fx.ic),Fx.ic,m9,b8⟩ ?_
     show(intOf ((au ((l:Int)-1)))).toNat<_
     simp only[t,intOf]; omega
    rw[Bool.not_eq_true]at r
    refine lu (fun _ _=>bT ((gA k) a) ((gA k) l) _) aF (by rw[r])<|aZ aF<|Qn ?_
    intro Tx qD
    have m10:=aQ qD L
    have b9:=fM qD U o
    refine sN<|aN<|Wx<|cZ<|gX<|dh<|sN<|Ws<|ay<|aX x<|aX t<|Lv aF qx<|aD<|aN<|Wk<|sN<|Ws ?_
    -- region 8 draws
    refine jy [0,1,2,3,4,5,6,8,9,10,7,11,12,13,14,15] [0,0,0,0,0,0,0,4,0,0,0,4,0,3,0,3] [(13,7,[7]),(15,7,[7]),(13,11,[11]),(15,11,[11]),(14,13,[13]),(15,13,[13])] fun Dv kM oK => ?_
    have Q:=aQ kM m10
    have b10:=fM kM b9 o
    refine bE v<|bE x<|bE v<|bE t<|bE v<|bE t<|Rp ((pf g l)) (fun _=>cK 1)<|bE v<|bE x<|Rp ((pf g c)) (fun _=>cK 1)<|Rs (aA ((gA k) l)) (aP Q.aM l) ?_
    refine Rs (aA ((gA k) c)) (aP Q.aM c) ?_
    refine Rp ((pf g c)) (fun _=>cK 1)<|fU<|ko Q c (aA ((gA k) l)) fun w6 m12 s8 z3 => ?_
    have b11:=s8.below b10 (Nat.le_trans o b10.size) Q.blk.1
    refine Ln<|Rp ((pf g l)) (fun _=>cK 1)<|fU<|ko m12 l (aA ((gA k) c)) fun w7 m13 s9 z4 => ?_
    have b12:=s9.below b11 (Nat.le_trans o b11.size) m12.blk.1
    have m14:Fx.Own w7 B 22 1 (bH g n cap) n (rv .u64 (gA (Sort.swp k c l))):=m13.congr (dZ E (by omega) (by omega))
    refine Ln<|bD<|ay<|aX x<|Lv (au ((c:Int)+1)) gD<|av (au ((c:Int)+1))<|aD<|Wl<|aX t<|Lv (au ((l:Int)-1)) iC<|av (au ((l:Int)-1))<|Ln<|dA<|iP ⟨c+1,l-1,Sort.swp k c l,(dw E _ _),((Om (by omega) (C.resolve_left (by omega)) (of_decide_eq_false r)).trans (A.trans (I.trans O))),(by omega),v,(W.trans Fx.ic),(Qi.trans Fx.ic),Fx.ic,Fx.ic,m14,b12⟩ ?_
    show((b:Int)-intOf ((au ((c:Int)+1)))).toNat<_
    simp only[Y,intOf]; omega
   refine Qv aF (fun q m=>oF G)<|aZ aF<|aU<|aU<|aU<|aU<|aU<|aU<|aU<|aU<|aU<|aZ aF<|Qn ?_
   intro V6 wO
   have m15:=aQ wO L
   have b13:=fM wO U o
   refine sN<|aN<|Wx<|cZ<|gX<|dh<|sN<|Ws<|ay<|aX x<|aX t<|Lv aI uF<|aD<|aT<|Wx<|cZ<|Fx.DN rfl<|gX<|dh<|sN<|ay<|aX x<|av (au c)<|aD<|Wr<|aL (au c) ?_
   exact⟨c,k,rfl,O.symm.trans (I.symm.trans (A.symm.trans (Je (by omega)))),E,m15,b13⟩
  rw[Bool.not_eq_true]at F
  refine lu (fun _ _=>bT ((gA k) a) ((gA k) c) _) aF (by rw[F])<|aZ aI<|aZ aI<|Qn ?_
  intro V7 wP
  have m16:=aQ wP K
  have b14:=fM wP T o
  refine sN<|aT<|Wk<|sN<|Wb<|Wl<|aX D<|Lv (au ((c:Int)+1)) gD<|av (au ((c:Int)+1))<|Ln<|dA<|iP ⟨c+1,((Tp (by omega) (of_decide_eq_false F)).trans I),(by omega),H,(N.trans Fx.ic),(Z.trans Fx.ic),Fx.ic,(M.trans Fx.ic),m16,b14⟩ ?_
  show((j:Int)+1-intOf ((au ((c:Int)+1)))).toNat<_
  simp only[D,intOf]; omega
 refine Qv aF (fun q m=>oF c31)<|aZ aF<|aU<|aU<|aU<|aU<|aU<|aU<|aU<|aU<|aU<|aU<|aZ aF<|Qn ?_
 intro Y9 Cc
 have m17:=aQ Cc K
 have b15:=fM Cc T o
 refine sN<|aN<|Wx<|cZ<|gX<|dh<|sN<|Ws<|Wb<|Wo (fun f s => ∃ l:Nat,Sort.partEqLoop Sort.ltInt a c l k=Sort.partEqLoop Sort.ltInt a c j k/\((l<c\/gA k a<gA k c))/\l<=j/\f 0=bH g n cap/\f 1=au ((a:Int))/\f 2=au ((b:Int))/\f 9=au ((c:Int))/\f 10=au ((l:Int))/\Fx.Own s B 22 1 (bH g n cap) n (rv .u64 (gA k))/\Below B w s) (fun f _=>(intOf (f 10)).toNat) ⟨j,rfl,(.inl (by omega)),(by omega),H,(N.trans Fx.ic),(Z.trans Fx.ic),(D.trans Fx.ic),(M.trans Fx.ic),m17,b15⟩ ?_
 rintro f4 w8 ⟨l,A,C,hj2,y,X,h18,z,u,J,S⟩
 refine Ws<|Ws ?_
 -- region 5 draws
 refine jX<|dR z<|dR u ?_
 by_cases G:(c:Int)<=(l:Int)
 ·refine Qv aI (fun q m=>nX G)<|aZ aI<|dR y<|dR X<|Qv ((pf g a)) (fun q m=>cK 1)<|Qv (aA ((gA k) a)) (fun q m=>aP (J.cb m) a)<|dR y<|dR u<|Qv ((pf g l)) (fun q m=>cK 1)<|Qv (aA ((gA k) l)) (fun q m=>aP (J.cb m) l) ?_
  by_cases r:(decide ((gA k) a<(gA k) l))=true
  ·refine lu (fun _ _=>bT ((gA k) a) ((gA k) l) _) aI (by rw[r])<|aZ aI<|Qn ?_
   intro Za Ce
   have m19:=aQ Ce J
   have b17:=fM Ce S o
   refine sN<|aT<|Wk<|sN<|Wb<|Wl<|aX u<|Lv (au ((l:Int)-1)) iC<|av (au ((l:Int)-1))<|Ln<|dA<|iP ⟨l-1,((Ol (by omega) (by omega) (C.resolve_left (by omega)) (of_decide_eq_true r)).trans A),(C.elim (fun h => .inl (by omega)) .inr),(by omega),y,(X.trans Fx.ic),(h18.trans Fx.ic),(z.trans Fx.ic),Fx.ic,m19,b17⟩ ?_
   show(intOf ((au ((l:Int)-1)))).toNat<_
   simp only[u,intOf]; omega
  rw[Bool.not_eq_true]at r
  refine lu (fun _ _=>bT ((gA k) a) ((gA k) l) _) aF (by rw[r])<|aZ aF<|Qn ?_
  intro Zb Cg
  have m20:=aQ Cg J
  have b18:=fM Cg S o
  refine sN<|aN<|Wx<|cZ<|gX<|dh<|sN<|Ws<|ay<|aX z<|aX u<|Lv aF qx<|aD<|aN<|Wk<|sN<|Ws ?_
  -- region 8 draws
  refine jy [0,1,2,3,4,5,6,8,9,10,7,11,12,13,14,15] [0,0,0,0,0,0,0,4,0,0,0,4,0,3,0,3] [(13,7,[7]),(15,7,[7]),(13,11,[11]),(15,11,[11]),(14,13,[13]),(15,13,[13])] fun Tz wQ Fw => ?_
  have R:=aQ wQ m20
  have b19:=fM wQ b18 o
  refine bE y<|bE z<|bE y<|bE u<|bE y<|bE u<|Rp ((pf g l)) (fun _=>cK 1)<|bE y<|bE z<|Rp ((pf g c)) (fun _=>cK 1)<|Rs (aA ((gA k) l)) (aP R.aM l) ?_
  refine Rs (aA ((gA k) c)) (aP R.aM c) ?_
  refine Rp ((pf g c)) (fun _=>cK 1)<|fU<|ko R c (aA ((gA k) l)) fun w9 m22 s16 z5 => ?_
  have b20:=s16.below b19 (Nat.le_trans o b19.size) R.blk.1
  refine Ln<|Rp ((pf g l)) (fun _=>cK 1)<|fU<|ko m22 l (aA ((gA k) c)) fun Bg m23 V8 z6 => ?_
  have Wm:=V8.below b20 (Nat.le_trans o b20.size) m22.blk.1
  have m24:Fx.Own Bg B 22 1 (bH g n cap) n (rv .u64 (gA (Sort.swp k c l))):=m23.congr (dZ E (by omega) (by omega))
  refine Ln<|bD<|ay<|aX z<|Lv (au ((c:Int)+1)) gD<|av (au ((c:Int)+1))<|aD<|Wl<|aX u<|Lv (au ((l:Int)-1)) iC<|av (au ((l:Int)-1))<|Ln<|dA<|iP ⟨c+1,l-1,Sort.swp k c l,(dw E _ _),((Om (by omega) (C.resolve_left (by omega)) (of_decide_eq_false r)).trans (A.trans (I.trans O))),(by omega),y,(X.trans Fx.ic),(h18.trans Fx.ic),Fx.ic,Fx.ic,m24,Wm⟩ ?_
  show((b:Int)-intOf ((au ((c:Int)+1)))).toNat<_
  simp only[Y,intOf]; omega
 refine Qv aF (fun q m=>oF G)<|aZ aF<|aU<|aU<|aU<|aU<|aU<|aU<|aU<|aU<|aU<|aZ aF<|Qn ?_
 intro Zc Ch
 have rG:=aQ Ch J
 have Wn:=fM Ch S o
 refine sN<|aN<|Wx<|cZ<|gX<|dh<|sN<|Ws<|ay<|aX z<|aX u<|Lv aI uF<|aD<|aT<|Wx<|cZ<|Fx.DN rfl<|gX<|dh<|sN<|ay<|aX z<|av (au c)<|aD<|Wr<|aL (au c) ?_
 exact⟨c,k,rfl,O.symm.trans (I.symm.trans (A.symm.trans (Je (by omega)))),E,rG,Wn⟩
theorem TJ(a b p:Nat)(B g n cap:Nat)(d:Array Int)(w:World)(h:Fx.Own w B 22 1 (bH g n cap) n (rv .u64 (gA d)))(q:B<=w.heap.size)(Q:d.size=n)(hs:n<=1000)(ha:a<=p)(hp:p<b)(hb:b<=n) :
 Calls Tryd.prog 118 #[bH g n cap,au ((a:Int)),au ((b:Int)),au ((p:Int))] w fun e w' => ∃(mid:Nat) (ap:Bool) (d4:Array Int),e = .returned (.tuple #[au (mid:Int),.bool ap])/\(Sort.partition Sort.ltInt d a b p).1=mid/\(Sort.partition Sort.ltInt d a b p).2.2=d4/\d4.size=n/\Fx.Own w' B 22 1 (bH g n cap) n (rv .u64 (gA d4))/\Below B w w':=by
 refine Kent Tryd.func118 168 ?_
 refine ay<|av (au 0)<|av aF<|aD<|Ws ?_
 -- region 1 draws
 refine jy [0,1,2,3,4,5,6,8,9,10,7,11,12,13,14,15] [0,0,0,0,0,0,0,4,0,0,0,4,0,3,0,3] [(13,7,[7]),(15,7,[7]),(13,11,[11]),(15,11,[11]),(14,13,[13]),(15,13,[13])] fun rE gL ig => ?_
 have m1:=aQ gL h
 have b1:=fM gL (Below.refl B w) q
 refine aY (bH g n cap)<|aY (au a)<|aY (bH g n cap)<|aY (au p)<|aY (bH g n cap)<|aY (au p)<|Rp ((pf g p)) (fun _=>cK 1)<|aY (bH g n cap)<|aY (au a)<|Rp ((pf g a)) (fun _=>cK 1)<|Rs (aA ((gA d) p)) (aP m1.aM p) ?_
 refine Rs (aA ((gA d) a)) (aP m1.aM a) ?_
 refine Rp ((pf g a)) (fun _=>cK 1)<|fU<|ko m1 a (aA ((gA d) p)) fun w1 m2 s2 z1 => ?_
 have b2:=s2.below b1 (Nat.le_trans q b1.size) m1.blk.1
 refine Ln<|Rp ((pf g p)) (fun _=>cK 1)<|fU<|ko m2 p (aA ((gA d) a)) fun w2 m3 s3 z2 => ?_
 have b3:=s3.below b2 (Nat.le_trans q b2.size) m2.blk.1
 have m4:Fx.Own w2 B 22 1 (bH g n cap) n (rv .u64 (gA (Sort.swp d a p))):=m3.congr (dZ Q (by omega) (by omega))
 refine Ln<|bD<|ay<|av (au a)<|Lv (au ((a:Int)+1)) gD<|av (au b)<|Lv (au ((b:Int)-1)) iC<|av (au ((a:Int)+1))<|av (au ((b:Int)-1))<|aD<|Ws<|Wb<|Wo (fun f t => ∃ s:Nat,Sort.partLoop Sort.ltInt a s (b-1) (Sort.swp d a p)=Sort.partLoop Sort.ltInt a (a+1) (b-1) (Sort.swp d a p)/\(a+1<=s/\s<=b)/\f 0=bH g n cap/\f 1=au ((a:Int))/\f 2=au ((b:Int))/\f 10=au ((s:Int))/\f 11=au ((b:Int)-1)/\Fx.Own t B 22 1 (bH g n cap) n (rv .u64 (gA (Sort.swp d a p)))/\Below B w t) (fun f _=>((b:Int)-intOf (f 10)).toNat) ⟨a+1,rfl,(by omega),(by rfl),Fx.ic,Fx.ic,Fx.ic,Fx.ic,m4,b3⟩ ?_
 rintro f1 w3 ⟨s,hY0,aaI,h1,h2,h3,h4,h5,m5,b4⟩
 refine Ws<|Ws ?_
 -- region 3 draws
 refine jX<|dR h4<|dR h5 ?_
 by_cases c32:(s:Int)<=((b:Int)-1)
 ·refine Qv aI (fun r o=>nX c32)<|aZ aI<|dR h1<|dR h4<|Qv ((pf g s)) (fun r o=>cK 1)<|Qv (aA ((gA (Sort.swp d a p)) s)) (fun r o=>aP (m5.cb o) s)<|dR h1<|dR h2<|Qv ((pf g a)) (fun r o=>cK 1)<|Qv (aA ((gA (Sort.swp d a p)) a)) (fun r o=>aP (m5.cb o) a) ?_
  by_cases Oo:(decide ((gA (Sort.swp d a p)) s<(gA (Sort.swp d a p)) a))=true
  ·refine lu (fun _ _=>bT ((gA (Sort.swp d a p)) s) ((gA (Sort.swp d a p)) a) _) aI (by rw[Oo])<|aZ aI<|Qn ?_
   intro Tv qB
   have m6:=aQ qB m5
   have b5:=fM qB b4 q
   refine sN<|aT<|Wk<|sN<|Wb<|Wl<|aX h4<|Lv (au ((s:Int)+1)) gD<|av (au ((s:Int)+1))<|Ln<|dA<|iP ⟨s+1,((Jd (by omega) (of_decide_eq_true Oo)).trans hY0),(by omega),h1,(h2.trans Fx.ic),(h3.trans Fx.ic),Fx.ic,(h5.trans Fx.ic),m6,b5⟩ ?_
   show((b:Int)-intOf ((au ((s:Int)+1)))).toNat<_
   simp only[h4,intOf]; omega
  rw[Bool.not_eq_true]at Oo
  refine lu (fun _ _=>bT ((gA (Sort.swp d a p)) s) ((gA (Sort.swp d a p)) a) _) aF (by rw[Oo])<|aZ aF<|Qn ?_
  intro Tw qC
  have m7:=aQ qC m5
  have b6:=fM qC b4 q
  refine sN<|aN<|Wx<|cZ<|gX<|dh<|sN<|Ws<|Wb<|Wo (fun f t => ∃ m:Nat,Sort.partLoop Sort.ltInt a s m (Sort.swp d a p)=Sort.partLoop Sort.ltInt a (a+1) (b-1) (Sort.swp d a p)/\((m<s \/ ¬ gA (Sort.swp d a p) s<gA (Sort.swp d a p) a))/\(m<b/\m<=b)/\f 0=bH g n cap/\f 1=au ((a:Int))/\f 2=au ((b:Int))/\f 10=au ((s:Int))/\f 11=au ((m:Int))/\Fx.Own t B 22 1 (bH g n cap) n (rv .u64 (gA (Sort.swp d a p)))/\Below B w t) (fun f _=>(intOf (f 11)).toNat) ⟨b-1,hY0,(.inr (of_decide_eq_false Oo)),(by omega),h1,(h2.trans Fx.ic),(h3.trans Fx.ic),(h4.trans Fx.ic),(h5.trans Fx.ic),m7,b6⟩ ?_
  rintro f2 w4 ⟨m,Y,Z,Wp,M,h7,h8,W,A,m8,b7⟩
  refine Ws<|Ws ?_
  -- region 5 draws
  refine jX<|dR W<|dR A ?_
  by_cases TK:(s:Int)<=(m:Int)
  ·refine Qv aI (fun r o=>nX TK)<|aZ aI<|dR M<|dR A<|Qv ((pf g m)) (fun r o=>cK 1)<|Qv (aA ((gA (Sort.swp d a p)) m)) (fun r o=>aP (m8.cb o) m)<|dR M<|dR h7<|Qv ((pf g a)) (fun r o=>cK 1)<|Qv (aA ((gA (Sort.swp d a p)) a)) (fun r o=>aP (m8.cb o) a) ?_
   by_cases P:(decide ((gA (Sort.swp d a p)) m<(gA (Sort.swp d a p)) a))=true
   ·refine lu (fun _ _=>bT ((gA (Sort.swp d a p)) m) ((gA (Sort.swp d a p)) a) _) aI (by rw[P])<|aZ aF<|aZ aF<|Qn ?_
    intro Tx qD
    have m9:=aQ qD m8
    have b8:=fM qD b7 q
    refine sN<|aN<|Wx<|cZ<|gX<|dh<|sN<|Ws<|ay<|aX W<|aX A<|Lv aF qx<|aD<|aN<|Wk<|sN<|Ws ?_
    -- region 10 draws
    refine jy [0,1,2,3,4,5,6,8,9,10,7,11,12,13,14,15] [0,0,0,0,0,0,0,4,0,0,0,4,0,3,0,3] [(13,7,[7]),(15,7,[7]),(13,11,[11]),(15,11,[11]),(14,13,[13]),(15,13,[13])] fun Dv kM oK => ?_
    have m10:=aQ kM m9
    have b9:=fM kM b8 q
    refine bE M<|bE W<|bE M<|bE A<|bE M<|bE A<|Rp ((pf g m)) (fun _=>cK 1)<|bE M<|bE W<|Rp ((pf g s)) (fun _=>cK 1)<|Rs (aA ((gA (Sort.swp d a p)) m)) (aP m10.aM m) ?_
    refine Rs (aA ((gA (Sort.swp d a p)) s)) (aP m10.aM s) ?_
    refine Rp ((pf g s)) (fun _=>cK 1)<|fU<|ko m10 s (aA ((gA (Sort.swp d a p)) m)) fun w5 m11 s8 z3 => ?_
    have b10:=s8.below b9 (Nat.le_trans q b9.size) m10.blk.1
    refine Ln<|Rp ((pf g m)) (fun _=>cK 1)<|fU<|ko m11 m (aA ((gA (Sort.swp d a p)) s)) fun w6 m12 s9 z4 => ?_
    have b11:=s9.below b10 (Nat.le_trans q b10.size) m11.blk.1
    have m13:Fx.Own w6 B 22 1 (bH g n cap) n (rv .u64 (gA (Sort.swp (Sort.swp d a p) s m))):=m12.congr (dZ (dw Q _ _) (by omega) (by omega))
    refine Ln<|bD<|ay<|aX W<|Lv (au ((s:Int)+1)) gD<|av (au ((s:Int)+1))<|aD<|ay<|aX A<|Lv (au ((m:Int)-1)) iC<|av (au ((m:Int)-1))<|aD<|Ws<|Wb<|Wo (fun f t => ∃ i:Nat,∃ j:Nat,∃ k:Array Int,k.size=n/\Sort.partLoop Sort.ltInt a i j k=Sort.partLoop Sort.ltInt a (a+1) (b-1) (Sort.swp d a p)/\(a<i/\j<b/\i<=b)/\f 0=bH g n cap/\f 1=au ((a:Int))/\f 2=au ((b:Int))/\f 10=au ((i:Int))/\f 11=au ((j:Int))/\Fx.Own t B 22 1 (bH g n cap) n (rv .u64 (gA k))/\Below B w t) (fun f _=>((b:Int)-intOf (f 10)).toNat) ⟨s+1,m-1,Sort.swp (Sort.swp d a p) s m,(dw (dw Q _ _) _ _),((yU (by omega) (Z.resolve_left (by omega)) (of_decide_eq_true P)).trans Y),(by omega),M,(h7.trans Fx.ic),(h8.trans Fx.ic),Fx.ic,Fx.ic,m13,b11⟩ ?_
    rintro f3 w7 ⟨i,j,k,x,hX,hij,h11,h12,Qi,MC,Qj,m14,b12⟩
    refine Wb<|Ws<|Wb<|Wo (fun f t => ∃ l:Nat,Sort.partLoop Sort.ltInt a l j k=Sort.partLoop Sort.ltInt a (a+1) (b-1) (Sort.swp d a p)/\(i<=l/\l<=b)/\f 0=bH g n cap/\f 1=au ((a:Int))/\f 2=au ((b:Int))/\f 10=au ((l:Int))/\f 11=au ((j:Int))/\Fx.Own t B 22 1 (bH g n cap) n (rv .u64 (gA k))/\Below B w t) (fun f _=>((b:Int)-intOf (f 10)).toNat) ⟨i,hX,(by omega),h11,(h12.trans Fx.ic),(Qi.trans Fx.ic),(MC.trans Fx.ic),(Qj.trans Fx.ic),m14,b12⟩ ?_
    rintro f4 w8 ⟨l,X,Wq,h16,ME,h18,aa,h20,m15,b13⟩
    refine Ws<|Ws ?_
    -- region 13 draws
    refine jX<|dR aa<|dR h20 ?_
    by_cases Ji:(l:Int)<=(j:Int)
    ·refine Qv aI (fun r o=>nX Ji)<|aZ aI<|dR h16<|dR aa<|Qv ((pf g l)) (fun r o=>cK 1)<|Qv (aA ((gA k) l)) (fun r o=>aP (m15.cb o) l)<|dR h16<|dR ME<|Qv ((pf g a)) (fun r o=>cK 1)<|Qv (aA ((gA k) a)) (fun r o=>aP (m15.cb o) a) ?_
     by_cases N:(decide ((gA k) l<(gA k) a))=true
     ·refine lu (fun _ _=>bT ((gA k) l) ((gA k) a) _) aI (by rw[N])<|aZ aI<|Qn ?_
      intro V6 wO
      have m16:=aQ wO m15
      have b14:=fM wO b13 q
      refine sN<|aT<|Wk<|sN<|Wb<|Wl<|aX aa<|Lv (au ((l:Int)+1)) gD<|av (au ((l:Int)+1))<|Ln<|dA<|iP ⟨l+1,((Jd (by omega) (of_decide_eq_true N)).trans X),(by omega),h16,(ME.trans Fx.ic),(h18.trans Fx.ic),Fx.ic,(h20.trans Fx.ic),m16,b14⟩ ?_
      show((b:Int)-intOf ((au ((l:Int)+1)))).toNat<_
      simp only[aa,intOf]; omega
     rw[Bool.not_eq_true]at N
     refine lu (fun _ _=>bT ((gA k) l) ((gA k) a) _) aF (by rw[N])<|aZ aF<|Qn ?_
     intro V7 wP
     have m17:=aQ wP m15
     have b15:=fM wP b13 q
     refine sN<|aN<|Wx<|cZ<|gX<|dh<|sN<|Ws<|Wb<|Wo (fun f t => ∃ c:Nat,Sort.partLoop Sort.ltInt a l c k=Sort.partLoop Sort.ltInt a (a+1) (b-1) (Sort.swp d a p)/\((c<l \/ ¬ gA k l<gA k a))/\(c<b/\c<=j)/\f 0=bH g n cap/\f 1=au ((a:Int))/\f 2=au ((b:Int))/\f 10=au ((l:Int))/\f 11=au ((c:Int))/\Fx.Own t B 22 1 (bH g n cap) n (rv .u64 (gA k))/\Below B w t) (fun f _=>(intOf (f 11)).toNat) ⟨j,X,(.inr (of_decide_eq_false N)),(by omega),h16,(ME.trans Fx.ic),(h18.trans Fx.ic),(aa.trans Fx.ic),(h20.trans Fx.ic),m17,b15⟩ ?_
     rintro f5 w9 ⟨c,y,z,Qk,C,h22,h23,R,D,m18,b16⟩
     refine Ws<|Ws ?_
     -- region 15 draws
     refine jX<|dR R<|dR D ?_
     by_cases O:(l:Int)<=(c:Int)
     ·refine Qv aI (fun r o=>nX O)<|aZ aI<|dR C<|dR D<|Qv ((pf g c)) (fun r o=>cK 1)<|Qv (aA ((gA k) c)) (fun r o=>aP (m18.cb o) c)<|dR C<|dR h22<|Qv ((pf g a)) (fun r o=>cK 1)<|Qv (aA ((gA k) a)) (fun r o=>aP (m18.cb o) a) ?_
      by_cases u:(decide ((gA k) c<(gA k) a))=true
      ·refine lu (fun _ _=>bT ((gA k) c) ((gA k) a) _) aI (by rw[u])<|aZ aF<|aZ aF<|Qn ?_
       intro Y9 Cc
       have m19:=aQ Cc m18
       have b17:=fM Cc b16 q
       refine sN<|aN<|Wx<|cZ<|gX<|dh<|sN<|Ws<|ay<|aX R<|aX D<|Lv aF qx<|aD<|aN<|Wk<|sN<|Ws ?_
       -- region 18 draws
       refine jy [0,1,2,3,4,5,6,8,9,10,7,11,12,13,14,15] [0,0,0,0,0,0,0,4,0,0,0,4,0,3,0,3] [(13,7,[7]),(15,7,[7]),(13,11,[11]),(15,11,[11]),(14,13,[13]),(15,13,[13])] fun Tz wQ Fw => ?_
       have m20:=aQ wQ m19
       have b18:=fM wQ b17 q
       refine bE C<|bE R<|bE C<|bE D<|bE C<|bE D<|Rp ((pf g c)) (fun _=>cK 1)<|bE C<|bE R<|Rp ((pf g l)) (fun _=>cK 1)<|Rs (aA ((gA k) c)) (aP m20.aM c) ?_
       refine Rs (aA ((gA k) l)) (aP m20.aM l) ?_
       refine Rp ((pf g l)) (fun _=>cK 1)<|fU<|ko m20 l (aA ((gA k) c)) fun Bg m21 Vg z5 => ?_
       have b19:=Vg.below b18 (Nat.le_trans q b18.size) m20.blk.1
       refine Ln<|Rp ((pf g c)) (fun _=>cK 1)<|fU<|ko m21 c (aA ((gA k) l)) fun Sr m22 s15 z6 => ?_
       have b20:=s15.below b19 (Nat.le_trans q b19.size) m21.blk.1
       have m23:Fx.Own Sr B 22 1 (bH g n cap) n (rv .u64 (gA (Sort.swp k l c))):=m22.congr (dZ x (by omega) (by omega))
       refine Ln<|bD<|ay<|aX R<|Lv (au ((l:Int)+1)) gD<|av (au ((l:Int)+1))<|aD<|Wl<|aX D<|Lv (au ((c:Int)-1)) iC<|av (au ((c:Int)-1))<|Ln<|dA<|iP ⟨l+1,c-1,Sort.swp k l c,(dw x _ _),((yU (by omega) (z.resolve_left (by omega)) (of_decide_eq_true u)).trans y),(by omega),C,(h22.trans Fx.ic),(h23.trans Fx.ic),Fx.ic,Fx.ic,m23,b20⟩ ?_
       show((b:Int)-intOf ((au ((l:Int)+1)))).toNat<_
       simp only[MC,intOf]; omega
      rw[Bool.not_eq_true]at u
      refine lu (fun _ _=>bT ((gA k) c) ((gA k) a) _) aF (by rw[u])<|aZ aI<|aZ aI<|Qn ?_
      intro Za Ce
      have m24:=aQ Ce m18
      have Wm:=fM Ce b16 q
      refine sN<|aT<|Wk<|sN<|Wb<|Wl<|aX D<|Lv (au ((c:Int)-1)) iC<|av (au ((c:Int)-1))<|Ln<|dA<|iP ⟨c-1,((yT (by omega) (by omega) (z.resolve_left (by omega)) (of_decide_eq_false u)).trans y),(z.elim (fun h => .inl (by omega)) .inr),(by omega),C,(h22.trans Fx.ic),(h23.trans Fx.ic),(R.trans Fx.ic),Fx.ic,m24,Wm⟩ ?_
      show(intOf ((au ((c:Int)-1)))).toNat<_
      simp only[D,intOf]; omega
     refine Qv aF (fun r o=>oF O)<|aZ aF<|aU<|aU<|aU<|aU<|aU<|aU<|aU<|aU<|aU<|aU<|aZ aF<|Qn ?_
     intro Zb Cg
     have rG:=aQ Cg m18
     have Wn:=fM Cg b16 q
     refine sN<|aN<|Wx<|cZ<|gX<|dh<|sN<|Ws<|ay<|aX R<|aX D<|Lv aI uF<|aD<|aT<|Wx<|cZ<|Fx.DN rfl<|gX<|dh<|sN<|Ws ?_
     -- region 21 draws
     refine jy [0,1,2,3,4,5,6,8,9,10,7,11,12,13,14,15] [0,0,0,0,0,0,0,4,0,0,0,4,0,3,0,3] [(13,7,[7]),(15,7,[7]),(13,11,[11]),(15,11,[11]),(14,13,[13]),(15,13,[13])] fun Wu FC Oq => ?_
     have rY:=aQ FC rG
     have Zd:=fM FC Wn q
     refine bE C<|bE D<|bE C<|bE h22<|bE C<|bE h22<|Rp ((pf g a)) (fun _=>cK 1)<|bE C<|bE D<|Rp ((pf g c)) (fun _=>cK 1)<|Rs (aA ((gA k) a)) (aP rY.aM a) ?_
     refine Rs (aA ((gA k) c)) (aP rY.aM c) ?_
     refine Rp ((pf g c)) (fun _=>cK 1)<|fU<|ko rY c (aA ((gA k) a)) fun Sv tL s19 z7 => ?_
     have Ze:=s19.below Zd (Nat.le_trans q Zd.size) rY.blk.1
     refine Ln<|Rp ((pf g a)) (fun _=>cK 1)<|fU<|ko tL a (aA ((gA k) c)) fun Vh vO s20 z8 => ?_
     have b25:=s20.below Ze (Nat.le_trans q Ze.size) tL.blk.1
     have wR:Fx.Own Vh B 22 1 (bH g n cap) n (rv .u64 (gA (Sort.swp k c a))):=vO.congr (dZ x (by omega) (by omega))
     refine Ln<|bD<|ay<|aX D<|av (au c)<|av aF<|aD<|Wr<|aL (.tuple #[au ((c:Int)),.bool false]) ?_
     have v:=y.symm.trans (tK (by omega))
     exact⟨c,false,_,rfl,by rw[Sort.partition_fst,v],by rw[Sort.partition_arr,v],(dw x _ _),wR,b25⟩
    refine Qv aF (fun r o=>oF Ji)<|aZ aF<|aU<|aU<|aU<|aU<|aU<|aU<|aU<|aU<|aU<|aZ aF<|Qn ?_
    intro Zc Ch
    have yD:=aQ Ch m15
    have b26:=fM Ch b13 q
    refine sN<|aN<|Wx<|cZ<|gX<|dh<|sN<|Ws<|Wb<|Wo (fun f t => ∃ c:Nat,Sort.partLoop Sort.ltInt a l c k=Sort.partLoop Sort.ltInt a (a+1) (b-1) (Sort.swp d a p)/\((c<l \/ ¬ gA k l<gA k a))/\(c<b/\c<=j)/\f 0=bH g n cap/\f 1=au ((a:Int))/\f 2=au ((b:Int))/\f 10=au ((l:Int))/\f 11=au ((c:Int))/\Fx.Own t B 22 1 (bH g n cap) n (rv .u64 (gA k))/\Below B w t) (fun f _=>(intOf (f 11)).toNat) ⟨j,X,(.inl (by omega)),(by omega),h16,(ME.trans Fx.ic),(h18.trans Fx.ic),(aa.trans Fx.ic),(h20.trans Fx.ic),yD,b26⟩ ?_
    rintro f6 Wv ⟨c,y,z,Qk,E,h27,Vi,S,F,oq,Ww⟩
    refine Ws<|Ws ?_
    -- region 15 draws
    refine jX<|dR S<|dR F ?_
    by_cases O:(l:Int)<=(c:Int)
    ·refine Qv aI (fun r o=>nX O)<|aZ aI<|dR E<|dR F<|Qv ((pf g c)) (fun r o=>cK 1)<|Qv (aA ((gA k) c)) (fun r o=>aP (oq.cb o) c)<|dR E<|dR h27<|Qv ((pf g a)) (fun r o=>cK 1)<|Qv (aA ((gA k) a)) (fun r o=>aP (oq.cb o) a) ?_
     by_cases u:(decide ((gA k) c<(gA k) a))=true
     ·refine lu (fun _ _=>bT ((gA k) c) ((gA k) a) _) aI (by rw[u])<|aZ aF<|aZ aF<|Qn ?_
      intro aaM Jj
      have m32:=aQ Jj oq
      have b28:=fM Jj Ww q
      refine sN<|aN<|Wx<|cZ<|gX<|dh<|sN<|Ws<|ay<|aX S<|aX F<|Lv aF qx<|aD<|aN<|Wk<|sN<|Ws ?_
      -- region 18 draws
      refine jy [0,1,2,3,4,5,6,8,9,10,7,11,12,13,14,15] [0,0,0,0,0,0,0,4,0,0,0,4,0,3,0,3] [(13,7,[7]),(15,7,[7]),(13,11,[11]),(15,11,[11]),(14,13,[13]),(15,13,[13])] fun wt5 FD TL => ?_
      have qE:=aQ FD m32
      have Zf:=fM FD b28 q
      refine bE E<|bE S<|bE E<|bE F<|bE E<|bE F<|Rp ((pf g c)) (fun _=>cK 1)<|bE E<|bE S<|Rp ((pf g l)) (fun _=>cK 1)<|Rs (aA ((gA k) c)) (aP qE.aM c) ?_
      refine Rs (aA ((gA k) l)) (aP qE.aM l) ?_
      refine Rp ((pf g l)) (fun _=>cK 1)<|fU<|ko qE l (aA ((gA k) c)) fun Wy ou s24 z9 => ?_
      have Zg:=s24.below Zf (Nat.le_trans q Zf.size) qE.blk.1
      refine Ln<|Rp ((pf g c)) (fun _=>cK 1)<|fU<|ko ou c (aA ((gA k) l)) fun w16 sU s25 z10 => ?_
      have b31:=s25.below Zg (Nat.le_trans q Zg.size) ou.blk.1
      have uH:Fx.Own w16 B 22 1 (bH g n cap) n (rv .u64 (gA (Sort.swp k l c))):=sU.congr (dZ x (by omega) (by omega))
      refine Ln<|bD<|ay<|aX S<|Lv (au ((l:Int)+1)) gD<|av (au ((l:Int)+1))<|aD<|Wl<|aX F<|Lv (au ((c:Int)-1)) iC<|av (au ((c:Int)-1))<|Ln<|dA<|iP ⟨l+1,c-1,Sort.swp k l c,(dw x _ _),((yU (by omega) (z.resolve_left (by omega)) (of_decide_eq_true u)).trans y),(by omega),E,(h27.trans Fx.ic),(Vi.trans Fx.ic),Fx.ic,Fx.ic,uH,b31⟩ ?_
      show((b:Int)-intOf ((au ((l:Int)+1)))).toNat<_
      simp only[MC,intOf]; omega
     rw[Bool.not_eq_true]at u
     refine lu (fun _ _=>bT ((gA k) c) ((gA k) a) _) aF (by rw[u])<|aZ aI<|aZ aI<|Qn ?_
     intro aaS Jk
     have Ag:=aQ Jk oq
     have b32:=fM Jk Ww q
     refine sN<|aT<|Wk<|sN<|Wb<|Wl<|aX F<|Lv (au ((c:Int)-1)) iC<|av (au ((c:Int)-1))<|Ln<|dA<|iP ⟨c-1,((yT (by omega) (by omega) (z.resolve_left (by omega)) (of_decide_eq_false u)).trans y),(z.elim (fun h => .inl (by omega)) .inr),(by omega),E,(h27.trans Fx.ic),(Vi.trans Fx.ic),(S.trans Fx.ic),Fx.ic,Ag,b32⟩ ?_
     show(intOf ((au ((c:Int)-1)))).toNat<_
     simp only[F,intOf]; omega
    refine Qv aF (fun r o=>oF O)<|aZ aF<|aU<|aU<|aU<|aU<|aU<|aU<|aU<|aU<|aU<|aU<|aZ aF<|Qn ?_
    intro aaT Jl
    have wS:=aQ Jl oq
    have b33:=fM Jl Ww q
    refine sN<|aN<|Wx<|cZ<|gX<|dh<|sN<|Ws<|ay<|aX S<|aX F<|Lv aI uF<|aD<|aT<|Wx<|cZ<|Fx.DN rfl<|gX<|dh<|sN<|Ws ?_
    -- region 21 draws
    refine jy [0,1,2,3,4,5,6,8,9,10,7,11,12,13,14,15] [0,0,0,0,0,0,0,4,0,0,0,4,0,3,0,3] [(13,7,[7]),(15,7,[7]),(13,11,[11]),(15,11,[11]),(14,13,[13]),(15,13,[13])] fun wt6 Ot Zh => ?_
    have tN:=aQ Ot wS
    have Zi:=fM Ot b33 q
    refine bE E<|bE F<|bE E<|bE h27<|bE E<|bE h27<|Rp ((pf g a)) (fun _=>cK 1)<|bE E<|bE F<|Rp ((pf g c)) (fun _=>cK 1)<|Rs (aA ((gA k) a)) (aP tN.aM a) ?_
    refine Rs (aA ((gA k) c)) (aP tN.aM c) ?_
    refine Rp ((pf g c)) (fun _=>cK 1)<|fU<|ko tN c (aA ((gA k) a)) fun w17 yV s29 z11 => ?_
    have Zj:=s29.below Zi (Nat.le_trans q Zi.size) tN.blk.1
    refine Ln<|Rp ((pf g a)) (fun _=>cK 1)<|fU<|ko yV a (aA ((gA k) c)) fun w18 tO s30 z12 => ?_
    have b36:=s30.below Zj (Nat.le_trans q Zj.size) yV.blk.1
    have xX:Fx.Own w18 B 22 1 (bH g n cap) n (rv .u64 (gA (Sort.swp k c a))):=tO.congr (dZ x (by omega) (by omega))
    refine Ln<|bD<|ay<|aX F<|av (au c)<|av aF<|aD<|Wr<|aL (.tuple #[au ((c:Int)),.bool false]) ?_
    have v:=y.symm.trans (tK (by omega))
    exact⟨c,false,_,rfl,by rw[Sort.partition_fst,v],by rw[Sort.partition_arr,v],(dw x _ _),xX,b36⟩
   rw[Bool.not_eq_true]at P
   refine lu (fun _ _=>bT ((gA (Sort.swp d a p)) m) ((gA (Sort.swp d a p)) a) _) aF (by rw[P])<|aZ aI<|aZ aI<|Qn ?_
   intro abd Jm
   have sV:=aQ Jm m8
   have b37:=fM Jm b7 q
   refine sN<|aT<|Wk<|sN<|Wb<|Wl<|aX A<|Lv (au ((m:Int)-1)) iC<|av (au ((m:Int)-1))<|Ln<|dA<|iP ⟨m-1,((yT (by omega) (by omega) (Z.resolve_left (by omega)) (of_decide_eq_false P)).trans Y),(Z.elim (fun h => .inl (by omega)) .inr),(by omega),M,(h7.trans Fx.ic),(h8.trans Fx.ic),(W.trans Fx.ic),Fx.ic,sV,b37⟩ ?_
   show(intOf ((au ((m:Int)-1)))).toNat<_
   simp only[A,intOf]; omega
  refine Qv aF (fun r o=>oF TK)<|aZ aF<|aU<|aU<|aU<|aU<|aU<|aU<|aU<|aU<|aU<|aU<|aZ aF<|Qn ?_
  intro abf Jo
  have uI:=aQ Jo m8
  have b38:=fM Jo b7 q
  refine sN<|aN<|Wx<|cZ<|gX<|dh<|sN<|Ws<|ay<|aX W<|aX A<|Lv aI uF<|aD<|aT<|Ws ?_
  -- region 8 draws
  refine jy [0,1,2,3,4,5,6,8,9,10,7,11,12,13,14,15] [0,0,0,0,0,0,0,4,0,0,0,4,0,3,0,3] [(13,7,[7]),(15,7,[7]),(13,11,[11]),(15,11,[11]),(14,13,[13]),(15,13,[13])] fun wt7 Ou Zk => ?_
  have wT:=aQ Ou uI
  have Zl:=fM Ou b38 q
  refine bE M<|bE A<|bE M<|bE h7<|bE M<|bE h7<|Rp ((pf g a)) (fun _=>cK 1)<|bE M<|bE A<|Rp ((pf g m)) (fun _=>cK 1)<|Rs (aA ((gA (Sort.swp d a p)) a)) (aP wT.aM a) ?_
  refine Rs (aA ((gA (Sort.swp d a p)) m)) (aP wT.aM m) ?_
  refine Rp ((pf g m)) (fun _=>cK 1)<|fU<|ko wT m (aA ((gA (Sort.swp d a p)) a)) fun w19 uJ s34 z13 => ?_
  have Zm:=s34.below Zl (Nat.le_trans q Zl.size) wT.blk.1
  refine Ln<|Rp ((pf g a)) (fun _=>cK 1)<|fU<|ko uJ a (aA ((gA (Sort.swp d a p)) m)) fun w20 wU s35 z14 => ?_
  have b41:=s35.below Zm (Nat.le_trans q Zm.size) uJ.blk.1
  have Ec:Fx.Own w20 B 22 1 (bH g n cap) n (rv .u64 (gA (Sort.swp (Sort.swp d a p) m a))):=wU.congr (dZ (dw Q _ _) (by omega) (by omega))
  refine Ln<|bD<|ay<|aX A<|av (au m)<|av aI<|aD<|Wr<|sR<|aL (.tuple #[au ((m:Int)),.bool true]) ?_
  have v:=Y.symm.trans (tK (by omega))
  exact⟨m,true,_,rfl,by rw[Sort.partition_fst,v],by rw[Sort.partition_arr,v],(dw (dw Q _ _) _ _),Ec,b41⟩
 refine Qv aF (fun r o=>oF c32)<|aZ aF<|aU<|aU<|aU<|aU<|aU<|aU<|aU<|aU<|aU<|aZ aF<|Qn ?_
 intro abm Jp
 have xY:=aQ Jp m5
 have b42:=fM Jp b4 q
 refine sN<|aN<|Wx<|cZ<|gX<|dh<|sN<|Ws<|Wb<|Wo (fun f t => ∃ m:Nat,Sort.partLoop Sort.ltInt a s m (Sort.swp d a p)=Sort.partLoop Sort.ltInt a (a+1) (b-1) (Sort.swp d a p)/\((m<s \/ ¬ gA (Sort.swp d a p) s<gA (Sort.swp d a p) a))/\(m<b/\m<=b)/\f 0=bH g n cap/\f 1=au ((a:Int))/\f 2=au ((b:Int))/\f 10=au ((s:Int))/\f 11=au ((m:Int))/\Fx.Own t B 22 1 (bH g n cap) n (rv .u64 (gA (Sort.swp d a p)))/\Below B w t) (fun f _=>(intOf (f 11)).toNat) ⟨b-1,hY0,(.inl (by omega)),(by omega),h1,(h2.trans Fx.ic),(h3.trans Fx.ic),(h4.trans Fx.ic),(h5.trans Fx.ic),xY,b42⟩ ?_
 rintro f7 w21 ⟨m,Y,Z,Wp,G,h32,Zn,T,H,xZ,Wz⟩
 refine Ws<|Ws ?_
 -- region 5 draws
 refine jX<|dR T<|dR H ?_
 by_cases TK:(s:Int)<=(m:Int)
 ·refine Qv aI (fun r o=>nX TK)<|aZ aI<|dR G<|dR H<|Qv ((pf g m)) (fun r o=>cK 1)<|Qv (aA ((gA (Sort.swp d a p)) m)) (fun r o=>aP (xZ.cb o) m)<|dR G<|dR h32<|Qv ((pf g a)) (fun r o=>cK 1)<|Qv (aA ((gA (Sort.swp d a p)) a)) (fun r o=>aP (xZ.cb o) a) ?_
  by_cases P:(decide ((gA (Sort.swp d a p)) m<(gA (Sort.swp d a p)) a))=true
  ·refine lu (fun _ _=>bT ((gA (Sort.swp d a p)) m) ((gA (Sort.swp d a p)) a) _) aI (by rw[P])<|aZ aF<|aZ aF<|Qn ?_
   intro abo Jq
   have Bh:=aQ Jq xZ
   have b44:=fM Jq Wz q
   refine sN<|aN<|Wx<|cZ<|gX<|dh<|sN<|Ws<|ay<|aX T<|aX H<|Lv aF qx<|aD<|aN<|Wk<|sN<|Ws ?_
   -- region 10 draws
   refine jy [0,1,2,3,4,5,6,8,9,10,7,11,12,13,14,15] [0,0,0,0,0,0,0,4,0,0,0,4,0,3,0,3] [(13,7,[7]),(15,7,[7]),(13,11,[11]),(15,11,[11]),(14,13,[13]),(15,13,[13])] fun wt8 Ov Zo => ?_
   have Ah:=aQ Ov Bh
   have Zp:=fM Ov b44 q
   refine bE G<|bE T<|bE G<|bE H<|bE G<|bE H<|Rp ((pf g m)) (fun _=>cK 1)<|bE G<|bE T<|Rp ((pf g s)) (fun _=>cK 1)<|Rs (aA ((gA (Sort.swp d a p)) m)) (aP Ah.aM m) ?_
   refine Rs (aA ((gA (Sort.swp d a p)) s)) (aP Ah.aM s) ?_
   refine Rp ((pf g s)) (fun _=>cK 1)<|fU<|ko Ah s (aA ((gA (Sort.swp d a p)) m)) fun w22 wV s39 z15 => ?_
   have Zq:=s39.below Zp (Nat.le_trans q Zp.size) Ah.blk.1
   refine Ln<|Rp ((pf g m)) (fun _=>cK 1)<|fU<|ko wV m (aA ((gA (Sort.swp d a p)) s)) fun w23 Ci s40 z16 => ?_
   have b47:=s40.below Zq (Nat.le_trans q Zq.size) wV.blk.1
   have yc:Fx.Own w23 B 22 1 (bH g n cap) n (rv .u64 (gA (Sort.swp (Sort.swp d a p) s m))):=Ci.congr (dZ (dw Q _ _) (by omega) (by omega))
   refine Ln<|bD<|ay<|aX T<|Lv (au ((s:Int)+1)) gD<|av (au ((s:Int)+1))<|aD<|ay<|aX H<|Lv (au ((m:Int)-1)) iC<|av (au ((m:Int)-1))<|aD<|Ws<|Wb<|Wo (fun f t => ∃ i:Nat,∃ j:Nat,∃ k:Array Int,k.size=n/\Sort.partLoop Sort.ltInt a i j k=Sort.partLoop Sort.ltInt a (a+1) (b-1) (Sort.swp d a p)/\(a<i/\j<b/\i<=b)/\f 0=bH g n cap/\f 1=au ((a:Int))/\f 2=au ((b:Int))/\f 10=au ((i:Int))/\f 11=au ((j:Int))/\Fx.Own t B 22 1 (bH g n cap) n (rv .u64 (gA k))/\Below B w t) (fun f _=>((b:Int)-intOf (f 10)).toNat) ⟨s+1,m-1,Sort.swp (Sort.swp d a p) s m,(dw (dw Q _ _) _ _),((yU (by omega) (Z.resolve_left (by omega)) (of_decide_eq_true P)).trans Y),(by omega),G,(h32.trans Fx.ic),(Zn.trans Fx.ic),Fx.ic,Fx.ic,yc,b47⟩ ?_
   rintro f8 w24 ⟨i,j,k,x,hX,hij,h36,h37,h38,WA,h40,vw,b48⟩
   refine Wb<|Ws<|Wb<|Wo (fun f t => ∃ l:Nat,Sort.partLoop Sort.ltInt a l j k=Sort.partLoop Sort.ltInt a (a+1) (b-1) (Sort.swp d a p)/\(i<=l/\l<=b)/\f 0=bH g n cap/\f 1=au ((a:Int))/\f 2=au ((b:Int))/\f 10=au ((l:Int))/\f 11=au ((j:Int))/\Fx.Own t B 22 1 (bH g n cap) n (rv .u64 (gA k))/\Below B w t) (fun f _=>((b:Int)-intOf (f 10)).toNat) ⟨i,hX,(by omega),h36,(h37.trans Fx.ic),(h38.trans Fx.ic),(WA.trans Fx.ic),(h40.trans Fx.ic),vw,b48⟩ ?_
   rintro f9 w25 ⟨l,X,Wq,TM,Vj,h43,Sw,h45,rZ,WB⟩
   refine Ws<|Ws ?_
   -- region 13 draws
   refine jX<|dR Sw<|dR h45 ?_
   by_cases Ji:(l:Int)<=(j:Int)
   ·refine Qv aI (fun r o=>nX Ji)<|aZ aI<|dR TM<|dR Sw<|Qv ((pf g l)) (fun r o=>cK 1)<|Qv (aA ((gA k) l)) (fun r o=>aP (rZ.cb o) l)<|dR TM<|dR Vj<|Qv ((pf g a)) (fun r o=>cK 1)<|Qv (aA ((gA k) a)) (fun r o=>aP (rZ.cb o) a) ?_
    by_cases N:(decide ((gA k) l<(gA k) a))=true
    ·refine lu (fun _ _=>bT ((gA k) l) ((gA k) a) _) aI (by rw[N])<|aZ aI<|Qn ?_
     intro abz Jr
     have vP:=aQ Jr rZ
     have b50:=fM Jr WB q
     refine sN<|aT<|Wk<|sN<|Wb<|Wl<|aX Sw<|Lv (au ((l:Int)+1)) gD<|av (au ((l:Int)+1))<|Ln<|dA<|iP ⟨l+1,((Jd (by omega) (of_decide_eq_true N)).trans X),(by omega),TM,(Vj.trans Fx.ic),(h43.trans Fx.ic),Fx.ic,(h45.trans Fx.ic),vP,b50⟩ ?_
     show((b:Int)-intOf ((au ((l:Int)+1)))).toNat<_
     simp only[Sw,intOf]; omega
    rw[Bool.not_eq_true]at N
    refine lu (fun _ _=>bT ((gA k) l) ((gA k) a) _) aF (by rw[N])<|aZ aF<|Qn ?_
    intro abB Js
    have Bj:=aQ Js rZ
    have b51:=fM Js WB q
    refine sN<|aN<|Wx<|cZ<|gX<|dh<|sN<|Ws<|Wb<|Wo (fun f t => ∃ c:Nat,Sort.partLoop Sort.ltInt a l c k=Sort.partLoop Sort.ltInt a (a+1) (b-1) (Sort.swp d a p)/\((c<l \/ ¬ gA k l<gA k a))/\(c<b/\c<=j)/\f 0=bH g n cap/\f 1=au ((a:Int))/\f 2=au ((b:Int))/\f 10=au ((l:Int))/\f 11=au ((c:Int))/\Fx.Own t B 22 1 (bH g n cap) n (rv .u64 (gA k))/\Below B w t) (fun f _=>(intOf (f 11)).toNat) ⟨j,X,(.inr (of_decide_eq_false N)),(by omega),TM,(Vj.trans Fx.ic),(h43.trans Fx.ic),(Sw.trans Fx.ic),(h45.trans Fx.ic),Bj,b51⟩ ?_
    rintro f10 w26 ⟨c,y,z,Qk,I,h47,h48,U,J,qF,WC⟩
    refine Ws<|Ws ?_
    -- region 15 draws
    refine jX<|dR U<|dR J ?_
    by_cases O:(l:Int)<=(c:Int)
    ·refine Qv aI (fun r o=>nX O)<|aZ aI<|dR I<|dR J<|Qv ((pf g c)) (fun r o=>cK 1)<|Qv (aA ((gA k) c)) (fun r o=>aP (qF.cb o) c)<|dR I<|dR h47<|Qv ((pf g a)) (fun r o=>cK 1)<|Qv (aA ((gA k) a)) (fun r o=>aP (qF.cb o) a) ?_
     by_cases u:(decide ((gA k) c<(gA k) a))=true
     ·refine lu (fun _ _=>bT ((gA k) c) ((gA k) a) _) aI (by rw[u])<|aZ aF<|aZ aF<|Qn ?_
      intro abD Jt
      have yE:=aQ Jt qF
      have b53:=fM Jt WC q
      refine sN<|aN<|Wx<|cZ<|gX<|dh<|sN<|Ws<|ay<|aX U<|aX J<|Lv aF qx<|aD<|aN<|Wk<|sN<|Ws ?_
      -- region 18 draws
      refine jy [0,1,2,3,4,5,6,8,9,10,7,11,12,13,14,15] [0,0,0,0,0,0,0,4,0,0,0,4,0,3,0,3] [(13,7,[7]),(15,7,[7]),(13,11,[11]),(15,11,[11]),(14,13,[13]),(15,13,[13])] fun wt9 Ow Zr => ?_
      have qG:=aQ Ow yE
      have Zt:=fM Ow b53 q
      refine bE I<|bE U<|bE I<|bE J<|bE I<|bE J<|Rp ((pf g c)) (fun _=>cK 1)<|bE I<|bE U<|Rp ((pf g l)) (fun _=>cK 1)<|Rs (aA ((gA k) c)) (aP qG.aM c) ?_
      refine Rs (aA ((gA k) l)) (aP qG.aM l) ?_
      refine Rp ((pf g l)) (fun _=>cK 1)<|fU<|ko qG l (aA ((gA k) c)) fun w27 yX s45 z17 => ?_
      have Zu:=s45.below Zt (Nat.le_trans q Zt.size) qG.blk.1
      refine Ln<|Rp ((pf g c)) (fun _=>cK 1)<|fU<|ko yX c (aA ((gA k) l)) fun w28 m64 s46 z18 => ?_
      have b56:=s46.below Zu (Nat.le_trans q Zu.size) yX.blk.1
      have Cj:Fx.Own w28 B 22 1 (bH g n cap) n (rv .u64 (gA (Sort.swp k l c))):=m64.congr (dZ x (by omega) (by omega))
      refine Ln<|bD<|ay<|aX U<|Lv (au ((l:Int)+1)) gD<|av (au ((l:Int)+1))<|aD<|Wl<|aX J<|Lv (au ((c:Int)-1)) iC<|av (au ((c:Int)-1))<|Ln<|dA<|iP ⟨l+1,c-1,Sort.swp k l c,(dw x _ _),((yU (by omega) (z.resolve_left (by omega)) (of_decide_eq_true u)).trans y),(by omega),I,(h47.trans Fx.ic),(h48.trans Fx.ic),Fx.ic,Fx.ic,Cj,b56⟩ ?_
      show((b:Int)-intOf ((au ((l:Int)+1)))).toNat<_
      simp only[WA,intOf]; omega
     rw[Bool.not_eq_true]at u
     refine lu (fun _ _=>bT ((gA k) c) ((gA k) a) _) aF (by rw[u])<|aZ aI<|aZ aI<|Qn ?_
     intro abJ Ju
     have Ck:=aQ Ju qF
     have b57:=fM Ju WC q
     refine sN<|aT<|Wk<|sN<|Wb<|Wl<|aX J<|Lv (au ((c:Int)-1)) iC<|av (au ((c:Int)-1))<|Ln<|dA<|iP ⟨c-1,((yT (by omega) (by omega) (z.resolve_left (by omega)) (of_decide_eq_false u)).trans y),(z.elim (fun h => .inl (by omega)) .inr),(by omega),I,(h47.trans Fx.ic),(h48.trans Fx.ic),(U.trans Fx.ic),Fx.ic,Ck,b57⟩ ?_
     show(intOf ((au ((c:Int)-1)))).toNat<_
     simp only[J,intOf]; omega
    refine Qv aF (fun r o=>oF O)<|aZ aF<|aU<|aU<|aU<|aU<|aU<|aU<|aU<|aU<|aU<|aU<|aZ aF<|Qn ?_
    intro abL Jv
    have yF:=aQ Jv qF
    have b58:=fM Jv WC q
    refine sN<|aN<|Wx<|cZ<|gX<|dh<|sN<|Ws<|ay<|aX U<|aX J<|Lv aI uF<|aD<|aT<|Wx<|cZ<|Fx.DN rfl<|gX<|dh<|sN<|Ws ?_
    -- region 21 draws
    refine jy [0,1,2,3,4,5,6,8,9,10,7,11,12,13,14,15] [0,0,0,0,0,0,0,4,0,0,0,4,0,3,0,3] [(13,7,[7]),(15,7,[7]),(13,11,[11]),(15,11,[11]),(14,13,[13]),(15,13,[13])] fun abN Jw WE => ?_
    have Bl:=aQ Jw yF
    have Zv:=fM Jw b58 q
    refine bE I<|bE J<|bE I<|bE h47<|bE I<|bE h47<|Rp ((pf g a)) (fun _=>cK 1)<|bE I<|bE J<|Rp ((pf g c)) (fun _=>cK 1)<|Rs (aA ((gA k) a)) (aP Bl.aM a) ?_
    refine Rs (aA ((gA k) c)) (aP Bl.aM c) ?_
    refine Rp ((pf g c)) (fun _=>cK 1)<|fU<|ko Bl c (aA ((gA k) a)) fun w29 yg s50 z19 => ?_
    have Zw:=s50.below Zv (Nat.le_trans q Zv.size) Bl.blk.1
    refine Ln<|Rp ((pf g a)) (fun _=>cK 1)<|fU<|ko yg a (aA ((gA k) c)) fun w30 Bn s51 z20 => ?_
    have b61:=s51.below Zw (Nat.le_trans q Zw.size) yg.blk.1
    have wW:Fx.Own w30 B 22 1 (bH g n cap) n (rv .u64 (gA (Sort.swp k c a))):=Bn.congr (dZ x (by omega) (by omega))
    refine Ln<|bD<|ay<|aX J<|av (au c)<|av aF<|aD<|Wr<|aL (.tuple #[au ((c:Int)),.bool false]) ?_
    have v:=y.symm.trans (tK (by omega))
    exact⟨c,false,_,rfl,by rw[Sort.partition_fst,v],by rw[Sort.partition_arr,v],(dw x _ _),wW,b61⟩
   refine Qv aF (fun r o=>oF Ji)<|aZ aF<|aU<|aU<|aU<|aU<|aU<|aU<|aU<|aU<|aU<|aZ aF<|Qn ?_
   intro abS Jy
   have Ai:=aQ Jy rZ
   have b62:=fM Jy WB q
   refine sN<|aN<|Wx<|cZ<|gX<|dh<|sN<|Ws<|Wb<|Wo (fun f t => ∃ c:Nat,Sort.partLoop Sort.ltInt a l c k=Sort.partLoop Sort.ltInt a (a+1) (b-1) (Sort.swp d a p)/\((c<l \/ ¬ gA k l<gA k a))/\(c<b/\c<=j)/\f 0=bH g n cap/\f 1=au ((a:Int))/\f 2=au ((b:Int))/\f 10=au ((l:Int))/\f 11=au ((c:Int))/\Fx.Own t B 22 1 (bH g n cap) n (rv .u64 (gA k))/\Below B w t) (fun f _=>(intOf (f 11)).toNat) ⟨j,X,(.inl (by omega)),(by omega),TM,(Vj.trans Fx.ic),(h43.trans Fx.ic),(Sw.trans Fx.ic),(h45.trans Fx.ic),Ai,b62⟩ ?_
   rintro f11 w31 ⟨c,y,z,Qk,K,TN,Zx,V,L,yG,WG⟩
   refine Ws<|Ws ?_
   -- region 15 draws
   refine jX<|dR V<|dR L ?_
   by_cases O:(l:Int)<=(c:Int)
   ·refine Qv aI (fun r o=>nX O)<|aZ aI<|dR K<|dR L<|Qv ((pf g c)) (fun r o=>cK 1)<|Qv (aA ((gA k) c)) (fun r o=>aP (yG.cb o) c)<|dR K<|dR TN<|Qv ((pf g a)) (fun r o=>cK 1)<|Qv (aA ((gA k) a)) (fun r o=>aP (yG.cb o) a) ?_
    by_cases u:(decide ((gA k) c<(gA k) a))=true
    ·refine lu (fun _ _=>bT ((gA k) c) ((gA k) a) _) aI (by rw[u])<|aZ aF<|aZ aF<|Qn ?_
     intro abU Jz
     have GL:=aQ Jz yG
     have b64:=fM Jz WG q
     refine sN<|aN<|Wx<|cZ<|gX<|dh<|sN<|Ws<|ay<|aX V<|aX L<|Lv aF qx<|aD<|aN<|Wk<|sN<|Ws ?_
     -- region 18 draws
     refine jy [0,1,2,3,4,5,6,8,9,10,7,11,12,13,14,15] [0,0,0,0,0,0,0,4,0,0,0,4,0,3,0,3] [(13,7,[7]),(15,7,[7]),(13,11,[11]),(15,11,[11]),(14,13,[13]),(15,13,[13])] fun abV JA WH => ?_
     have yY:=aQ JA GL
     have Zy:=fM JA b64 q
     refine bE K<|bE V<|bE K<|bE L<|bE K<|bE L<|Rp ((pf g c)) (fun _=>cK 1)<|bE K<|bE V<|Rp ((pf g l)) (fun _=>cK 1)<|Rs (aA ((gA k) c)) (aP yY.aM c) ?_
     refine Rs (aA ((gA k) l)) (aP yY.aM l) ?_
     refine Rp ((pf g l)) (fun _=>cK 1)<|fU<|ko yY l (aA ((gA k) c)) fun w32 Ed s55 z21 => ?_
     have Zz:=s55.below Zy (Nat.le_trans q Zy.size) yY.blk.1
     refine Ln<|Rp ((pf g c)) (fun _=>cK 1)<|fU<|ko Ed c (aA ((gA k) l)) fun w33 GN s56 z22 => ?_
     have b67:=s56.below Zz (Nat.le_trans q Zz.size) Ed.blk.1
     have FE:Fx.Own w33 B 22 1 (bH g n cap) n (rv .u64 (gA (Sort.swp k l c))):=GN.congr (dZ x (by omega) (by omega))
     refine Ln<|bD<|ay<|aX V<|Lv (au ((l:Int)+1)) gD<|av (au ((l:Int)+1))<|aD<|Wl<|aX L<|Lv (au ((c:Int)-1)) iC<|av (au ((c:Int)-1))<|Ln<|dA<|iP ⟨l+1,c-1,Sort.swp k l c,(dw x _ _),((yU (by omega) (z.resolve_left (by omega)) (of_decide_eq_true u)).trans y),(by omega),K,(TN.trans Fx.ic),(Zx.trans Fx.ic),Fx.ic,Fx.ic,FE,b67⟩ ?_
     show((b:Int)-intOf ((au ((l:Int)+1)))).toNat<_
     simp only[WA,intOf]; omega
    rw[Bool.not_eq_true]at u
    refine lu (fun _ _=>bT ((gA k) c) ((gA k) a) _) aF (by rw[u])<|aZ aI<|aZ aI<|Qn ?_
    intro acd JC
    have Dw:=aQ JC yG
    have b68:=fM JC WG q
    refine sN<|aT<|Wk<|sN<|Wb<|Wl<|aX L<|Lv (au ((c:Int)-1)) iC<|av (au ((c:Int)-1))<|Ln<|dA<|iP ⟨c-1,((yT (by omega) (by omega) (z.resolve_left (by omega)) (of_decide_eq_false u)).trans y),(z.elim (fun h => .inl (by omega)) .inr),(by omega),K,(TN.trans Fx.ic),(Zx.trans Fx.ic),(V.trans Fx.ic),Fx.ic,Dw,b68⟩ ?_
    show(intOf ((au ((c:Int)-1)))).toNat<_
    simp only[L,intOf]; omega
   refine Qv aF (fun r o=>oF O)<|aZ aF<|aU<|aU<|aU<|aU<|aU<|aU<|aU<|aU<|aU<|aU<|aZ aF<|Qn ?_
   intro acf JD
   have Aj:=aQ JD yG
   have b69:=fM JD WG q
   refine sN<|aN<|Wx<|cZ<|gX<|dh<|sN<|Ws<|ay<|aX V<|aX L<|Lv aI uF<|aD<|aT<|Wx<|cZ<|Fx.DN rfl<|gX<|dh<|sN<|Ws ?_
   -- region 21 draws
   refine jy [0,1,2,3,4,5,6,8,9,10,7,11,12,13,14,15] [0,0,0,0,0,0,0,4,0,0,0,4,0,3,0,3] [(13,7,[7]),(15,7,[7]),(13,11,[11]),(15,11,[11]),(14,13,[13]),(15,13,[13])] fun ach JE WI => ?_
   have yZ:=aQ JE Aj
   have ZA:=fM JE b69 q
   refine bE K<|bE L<|bE K<|bE TN<|bE K<|bE TN<|Rp ((pf g a)) (fun _=>cK 1)<|bE K<|bE L<|Rp ((pf g c)) (fun _=>cK 1)<|Rs (aA ((gA k) a)) (aP yZ.aM a) ?_
   refine Rs (aA ((gA k) c)) (aP yZ.aM c) ?_
   refine Rp ((pf g c)) (fun _=>cK 1)<|fU<|ko yZ c (aA ((gA k) a)) fun w34 Dx s60 z23 => ?_
   have ZB:=s60.below ZA (Nat.le_trans q ZA.size) yZ.blk.1
   refine Ln<|Rp ((pf g a)) (fun _=>cK 1)<|fU<|ko Dx a (aA ((gA k) c)) fun w35 Ee s61 z24 => ?_
   have b72:=s61.below ZB (Nat.le_trans q ZB.size) Dx.blk.1
   have FH:Fx.Own w35 B 22 1 (bH g n cap) n (rv .u64 (gA (Sort.swp k c a))):=Ee.congr (dZ x (by omega) (by omega))
   refine Ln<|bD<|ay<|aX L<|av (au c)<|av aF<|aD<|Wr<|aL (.tuple #[au ((c:Int)),.bool false]) ?_
   have v:=y.symm.trans (tK (by omega))
   exact⟨c,false,_,rfl,by rw[Sort.partition_fst,v],by rw[Sort.partition_arr,v],(dw x _ _),FH,b72⟩
  rw[Bool.not_eq_true]at P
  refine lu (fun _ _=>bT ((gA (Sort.swp d a p)) m) ((gA (Sort.swp d a p)) a) _) aF (by rw[P])<|aZ aI<|aZ aI<|Qn ?_
  intro acp JG
  have GQ:=aQ JG xZ
  have b73:=fM JG Wz q
  refine sN<|aT<|Wk<|sN<|Wb<|Wl<|aX H<|Lv (au ((m:Int)-1)) iC<|av (au ((m:Int)-1))<|Ln<|dA<|iP ⟨m-1,((yT (by omega) (by omega) (Z.resolve_left (by omega)) (of_decide_eq_false P)).trans Y),(Z.elim (fun h => .inl (by omega)) .inr),(by omega),G,(h32.trans Fx.ic),(Zn.trans Fx.ic),(T.trans Fx.ic),Fx.ic,GQ,b73⟩ ?_
  show(intOf ((au ((m:Int)-1)))).toNat<_
  simp only[H,intOf]; omega
 refine Qv aF (fun r o=>oF TK)<|aZ aF<|aU<|aU<|aU<|aU<|aU<|aU<|aU<|aU<|aU<|aU<|aZ aF<|Qn ?_
 intro acs JH
 have Ib:=aQ JH xZ
 have b74:=fM JH Wz q
 refine sN<|aN<|Wx<|cZ<|gX<|dh<|sN<|Ws<|ay<|aX T<|aX H<|Lv aI uF<|aD<|aT<|Ws ?_
 -- region 8 draws
 refine jy [0,1,2,3,4,5,6,8,9,10,7,11,12,13,14,15] [0,0,0,0,0,0,0,4,0,0,0,4,0,3,0,3] [(13,7,[7]),(15,7,[7]),(13,11,[11]),(15,11,[11]),(14,13,[13]),(15,13,[13])] fun acv JI WJ => ?_
 have FI:=aQ JI Ib
 have ZC:=fM JI b74 q
 refine bE G<|bE H<|bE G<|bE h32<|bE G<|bE h32<|Rp ((pf g a)) (fun _=>cK 1)<|bE G<|bE H<|Rp ((pf g m)) (fun _=>cK 1)<|Rs (aA ((gA (Sort.swp d a p)) a)) (aP FI.aM a) ?_
 refine Rs (aA ((gA (Sort.swp d a p)) m)) (aP FI.aM m) ?_
 refine Rp ((pf g m)) (fun _=>cK 1)<|fU<|ko FI m (aA ((gA (Sort.swp d a p)) a)) fun w36 FJ s65 z25 => ?_
 have ZE:=s65.below ZC (Nat.le_trans q ZC.size) FI.blk.1
 refine Ln<|Rp ((pf g a)) (fun _=>cK 1)<|fU<|ko FJ a (aA ((gA (Sort.swp d a p)) m)) fun w37 GR s66 z26 => ?_
 have b77:=s66.below ZE (Nat.le_trans q ZE.size) FJ.blk.1
 have Ic:Fx.Own w37 B 22 1 (bH g n cap) n (rv .u64 (gA (Sort.swp (Sort.swp d a p) m a))):=GR.congr (dZ (dw Q _ _) (by omega) (by omega))
 refine Ln<|bD<|ay<|aX H<|av (au m)<|av aI<|aD<|Wr<|sR<|aL (.tuple #[au ((m:Int)),.bool true]) ?_
 have v:=Y.symm.trans (tK (by omega))
 exact⟨m,true,_,rfl,by rw[Sort.partition_fst,v],by rw[Sort.partition_arr,v],(dw (dw Q _ _) _ _),Ic,b77⟩
end
section
open Rt
set_option maxRecDepth 10000
theorem Ql{c f:Int}(a b:Nat)(i:c=(a:Int))(j:f=(b:Int))(B g n cap:Nat)(d:Array Int)(w:World)(h:Fx.Own w B 22 1 (bH g n cap) n (rv .u64 (gA d)))(k:B<=w.heap.size)(m:d.size=n)(o:n<=1000)(ha:a<=b)(l:b<=n) :
 Calls Tryd.prog 110 #[bH g n cap,au c,au f] w fun e w'=>e = .returned (.tuple #[])/\Fx.Own w' B 22 1 (bH g n cap) n (rv .u64 (gA (Sort.insertionSort Sort.ltInt d a b)))/\Below B w w':=by
 subst i j; exact Tt a b B g n cap d w h k m o ha l
theorem MF{c f:Int}(a b:Nat)(i:c=(a:Int))(j:f=(b:Int))(B g n cap:Nat)(d:Array Int)(w:World)(h:Fx.Own w B 22 1 (bH g n cap) n (rv .u64 (gA d)))(k:B<=w.heap.size)(m:d.size=n)(o:n<=1000)(ha:a<b)(l:b<=n) :
 Calls Tryd.prog 111 #[bH g n cap,au c,au f] w fun e w'=>e = .returned (.tuple #[])/\Fx.Own w' B 22 1 (bH g n cap) n (rv .u64 (gA (Sort.heapSort Sort.ltInt d a b)))/\Below B w w':=by
 subst i j; exact Qb a b B g n cap d w h k m o ha l
theorem Qm{c f:Int}(a b:Nat)(i:c=(a:Int))(j:f=(b:Int))(B g n cap:Nat)(d:Array Int)(w:World)(h:Fx.Own w B 22 1 (bH g n cap) n (rv .u64 (gA d)))(k:B<=w.heap.size)(m:d.size=n)(o:n<=1000)(ha:a<b)(l:b<=n) :
 Calls Tryd.prog 114 #[bH g n cap,au c,au f] w fun e w'=>e = .returned (.tuple #[])/\Fx.Own w' B 22 1 (bH g n cap) n (rv .u64 (gA (Sort.reverseRange d a b)))/\Below B w w':=by
 subst i j; exact TA a b B g n cap d w h k m o ha l
def Ox(m:Nat):Prop := ∀(i j k:Int) (a b l:Nat) (B g n f:Nat) (d:Array Int) (w:World) (h:Fx.Own w B 22 1 (bH g n f) n (rv .u64 (gA d))) (hB:B<=w.heap.size) (hn:d.size=n) (hs:n<=1000) (h50:n<50) (hl:l<=1000) (hab:a<=b) (hb:b<=n) (hBel:Sort.Below Sort.ltInt a b d),i=(a:Int)->j=(b:Int)->k=(l:Int)->b-a<m ->
    Calls Tryd.prog 99 #[bH g n f,au i,au j,au k] w fun e w' => ∃ c:Array Int,e = .returned (.tuple #[])/\c.size=n/\Sort.PermIn a b d c/\Sort.SortedIn Sort.ltInt a b c/\Fx.Own w' B 22 1 (bH g n f) n (rv .u64 (gA c))/\Below B w w'
theorem Qo(m:Nat)(ih:Ox m)(a b lim:Nat)(B g n cap:Nat)(d:Array Int)(w:World)(h:Fx.Own w B 22 1 (bH g n cap) n (rv .u64 (gA d)))(r:B<=w.heap.size)(hn:d.size=n)(x:n<=1000)(V:n<50)(hl:lim<=1000)(hab:a<=b)(hb:b<=n)(hBel:Sort.Below Sort.ltInt a b d)(hm:b-a<m+1) :
 Calls Tryd.prog 99 #[bH g n cap,au ((a:Int)),au ((b:Int)),au ((lim:Int))] w fun e w' => ∃ d2:Array Int,e = .returned (.tuple #[])/\d2.size=n/\Sort.PermIn a b d d2/\Sort.SortedIn Sort.ltInt a b d2/\Fx.Own w' B 22 1 (bH g n cap) n (rv .u64 (gA d2))/\Below B w w':=by
 refine Kent Tryd.func99 134 ?_
 refine ay<|av aI<|aD<|ay<|av aI<|aD<|Wb<|Ab (fun kk f A => ∃ c:Nat,∃ i:Nat,∃ N:Nat,∃ v:Array Int,∃ O:Bool,∃ wp:Bool,v.size=n/\Sort.Below Sort.ltInt c i v/\(∀ R,Sort.PermIn c i v R->Sort.SortedIn Sort.ltInt c i R->Sort.PermIn a b d R/\Sort.SortedIn Sort.ltInt a b R)/\(c<=i/\i<=n/\N<=1000/\i-c<=b-a)/\kk=i-c/\f 0=bH g n cap/\f 1=au ((c:Int))/\f 2=au ((i:Int))/\f 3=au ((N:Int))/\f 8 = .bool O/\f 9 = .bool wp/\Fx.Own A B 22 1 (bH g n cap) n (rv .u64 (gA v))/\Below B w A) (b-a) ⟨a,b,lim,d,true,true,hn,hBel,(fun R U J=>⟨U,J⟩),(by omega),rfl,(by rfl),Fx.ic,Fx.ic,Fx.ic,(by rfl),(by rfl),h,(Below.refl B w)⟩ ?_
 rintro kk f1 w1 ⟨c,i,N,v,O,wp,hk,hBl,K,acB,hkk,U,J,h3,h4,h5,h6,m1,S⟩
 refine Wb<|ay<|aX h3<|aX J<|Lv (au ((i:Int)-(c:Int))) iC<|av (au ((i:Int)-(c:Int)))<|aD<|Ws<|ay<|av (au ((i:Int)-(c:Int))) ?_
 by_cases c23:((i:Int)-(c:Int))<=12
 ·refine Lv aI (nX c23)<|aD<|aT<|ay<|aX U<|aX J<|aX h3<|eG (Ql c i (by omega) (by omega) B g n cap v _ m1 (Nat.le_trans r S.size) hk x (by omega) (by omega)) (ax := #[bH g n cap,au ((c:Int)),au ((i:Int))]) _ rfl ?_
  rintro w2 ⟨m2,hb1⟩
  have b2:=S.trans hb1
  refine aD (Wr (sR (bU (rA (bU (⟨.tuple #[],fG Tryd.results99,?_⟩))))))
  have Y:=(Sort.insertionSort_holds Sort.swo_ltInt v c i (by omega) (by omega))
  have M:=K _ Y.1 Y.2
  exact⟨_,rfl,Y.1.1.trans hk,M.1,M.2,m2,b2⟩
 refine Lv aF (oF c23)<|aD<|aN<|Wk<|sN<|Ws<|ay<|aX h4 ?_
 by_cases ZF:(N:Int)=0
 ·refine Lv aI (iV ZF)<|aD<|aT<|ay<|aX U<|aX J<|aX h3<|eG (MF c i (by omega) (by omega) B g n cap v _ m1 (Nat.le_trans r S.size) hk x (by omega) (by omega)) (ax := #[bH g n cap,au ((c:Int)),au ((i:Int))]) _ rfl ?_
  rintro w3 ⟨m3,hb2⟩
  have b3:=S.trans hb2
  refine aD (Wr (sR (bU (rA (bU (⟨.tuple #[],fG Tryd.results99,?_⟩))))))
  have Y:=(Sort.heapSort_holds Sort.swo_ltInt v c i (by omega) (by omega))
  have M:=K _ Y.1 Y.2
  exact⟨_,rfl,Y.1.1.trans hk,M.1,M.2,m3,b3⟩
 refine Lv aF (mH ZF)<|aD<|aN<|Wk<|sN<|BU (fun f A => ∃ p:Nat,∃ I:Array Int,I.size=n/\Sort.PermIn c i v I/\p<=1000/\f 0=bH g n cap/\f 1=au ((c:Int))/\f 2=au ((i:Int))/\f 3=au ((p:Int))/\f 8 = .bool O/\f 9 = .bool wp/\f 10=au ((i:Int)-(c:Int))/\Fx.Own A B 22 1 (bH g n cap) n (rv .u64 (gA I))/\Below B w A) ?_ ?_
 ·refine ay ?_
  by_cases c34:O=true
  ·refine aX (h5.trans (congrArg Value.bool c34))<|av aF<|aD<|aN<|Wk ?_
   exact xV ⟨N,v,hk,(Sort.permIn_refl _ _ _),(by omega),U,(J.trans Fx.ic),(h3.trans Fx.ic),(h4.trans Fx.ic),h5,h6,Fx.ic,m1,S⟩
  rw[Bool.not_eq_true]at c34
  refine aX (h5.trans (congrArg Value.bool c34))<|av aI<|aD<|aT<|ay<|aX U<|aX J<|aX h3<|jT (TG c i B g n cap v _ m1 (Nat.le_trans r S.size) hk x (by omega) (by omega) V) ?_
  rintro D w4 ⟨dn1,l,hz1,hP1,m4,hb3⟩
  have b4:=S.trans hb3
  refine⟨_,l,?_⟩
  clear l
  refine aD<|Wl<|aX h4<|Lv (au ((N:Int)-1)) iC<|av (au ((N:Int)-1))<|Ln ?_
  exact xV ⟨N-1,dn1,hz1,hP1,(by omega),U,(J.trans Fx.ic),(h3.trans Fx.ic),Fx.ic,h5,h6,Fx.ic,m4,b4⟩
 rintro f2 w5 ⟨p,I,hk1,hP1,hl2,h7,h8,h9,h10,h11,h12,Qi,m5,b5⟩
 refine ay<|aX h7<|aX h8<|aX h9<|jT (TI c i B g n cap I _ m5 (Nat.le_trans r b5.size) hk1 x (by omega) (by omega) V) ?_
 rintro D w6 ⟨H,ht1,l,hu1,G,m6,hb4⟩
 have b6:=b5.trans hb4
 refine⟨_,l,?_⟩
 clear l
 refine av (.tuple #[au ((H:Int)),au ht1])<|av (au H)<|av (au ht1)<|av (au H)<|av (au ht1)<|aD<|BU (fun f A => ∃ q:Nat,∃ hint:Int,∃ o:Array Int,o.size=n/\Sort.PermIn c i v o/\(c<=q/\q<i)/\f 0=bH g n cap/\f 1=au ((c:Int))/\f 2=au ((i:Int))/\f 3=au ((p:Int))/\f 8 = .bool O/\f 9 = .bool wp/\f 10=au ((i:Int)-(c:Int))/\f 11=au ((q:Int))/\f 12=au hint/\Fx.Own A B 22 1 (bH g n cap) n (rv .u64 (gA o))/\Below B w A) ?_ ?_
 ·refine ay<|av (au ht1) ?_
  by_cases ZG:ht1=2
  ·refine Lv aI (iV ZG)<|aD<|aT<|ay<|aX h7<|aX h8<|aX h9<|eG (Qm c i (by omega) (by omega) B g n cap I _ m6 (Nat.le_trans r b6.size) hk1 x (by omega) (by omega)) (ax := #[bH g n cap,au ((c:Int)),au ((i:Int))]) _ rfl ?_
   rintro w7 ⟨m7,hb5⟩
   have b7:=b6.trans hb5
   refine aD<|ay<|aX h9<|Lv (au ((i:Int)-1)) iC<|av (au H)<|aX h8<|Lv (au ((H:Int)-(c:Int))) iC<|Lv (au ((c:Int)+(i:Int)-(H:Int)-1)) iC<|av (au ((c:Int)+(i:Int)-(H:Int)-1))<|aD<|Wl<|av (au 1)<|Ln ?_
   exact xV ⟨c+i-H-1,1,Sort.reverseRange I c i,((Sort.reverseRange_holds _ _ _ (by omega) (by omega)).1.trans hk1),(Sort.permIn_trans _ _ _ _ _ hP1 (Sort.reverseRange_holds _ _ _ (by omega) (by omega))),(by omega),h7,(h8.trans Fx.ic),(h9.trans Fx.ic),(h10.trans Fx.ic),h11,h12,(Qi.trans Fx.ic),Fx.ic,Fx.ic,m7,b7⟩
  refine Lv aF (mH ZG)<|aD<|aN<|Wk ?_
  exact xV ⟨H,ht1,I,hk1,hP1,(by omega),h7,(h8.trans Fx.ic),(h9.trans Fx.ic),(h10.trans Fx.ic),h11,h12,(Qi.trans Fx.ic),Fx.ic,Fx.ic,m6,b6⟩
 rintro f3 w8 ⟨q,hint,o,hk2,F,L,MC,Qj,h16,ME,h18,h19,h20,h21,h22,m8,b8⟩
 obtain⟨hpv1,hpv2⟩:=L
 have L:=And.intro hpv1 hpv2
 refine BU (fun f A=>f 0=bH g n cap/\f 1=au ((c:Int))/\f 2=au ((i:Int))/\f 3=au ((p:Int))/\f 8 = .bool O/\f 9 = .bool wp/\f 10=au ((i:Int)-(c:Int))/\f 11=au ((q:Int))/\Fx.Own A B 22 1 (bH g n cap) n (rv .u64 (gA o))/\Below B w A) ?_ ?_
 ·refine ay ?_
  by_cases WK:O=true
  ·refine aX (h18.trans (congrArg Value.bool WK))<|av aI ?_
   by_cases WL:wp=true
   ·refine aX (h19.trans (congrArg Value.bool WL))<|av aI<|av aI<|aX h22 ?_
    by_cases ZH:hint=1
    ·refine Lv aI (iV ZH)<|av aI<|aD<|aT<|ay<|aX MC<|aX Qj<|aX h16<|jT (Qh c i B g n cap o _ m8 (Nat.le_trans r b8.size) hk2 x (by omega) (by omega) V) ?_
     rintro D w9 ⟨r1,l,hS1,m9,hb6⟩
     have b9:=b8.trans hb6
     rcases r1 with _|_
     ·refine⟨_,l,?_⟩
      clear l
      refine aD<|aN<|Wk ?_
      exact xV ⟨MC,(Qj.trans Fx.ic),(h16.trans Fx.ic),(ME.trans Fx.ic),h18,h19,(h20.trans Fx.ic),(h21.trans Fx.ic),m9,b9⟩
     refine⟨_,l,?_⟩
     clear l
     refine aD (aT (Wr (Fx.jnR (bU (rA (bU (⟨.tuple #[],fG Tryd.results99,?_⟩)))))))
     have M:=K _ F (hS1 rfl)
     exact⟨_,rfl,hk2,M.1,M.2,m9,b9⟩
    refine Lv aF (mH ZH)<|av aF<|aD<|aN<|Wk ?_
    exact xV ⟨MC,(Qj.trans Fx.ic),(h16.trans Fx.ic),(ME.trans Fx.ic),h18,h19,(h20.trans Fx.ic),(h21.trans Fx.ic),m8,b8⟩
   rw[Bool.not_eq_true]at WL
   refine aX (h19.trans (congrArg Value.bool WL))<|av aF<|av aF<|jP<|jP<|av aF<|aD<|aN<|Wk ?_
   exact xV ⟨MC,(Qj.trans Fx.ic),(h16.trans Fx.ic),(ME.trans Fx.ic),h18,h19,(h20.trans Fx.ic),(h21.trans Fx.ic),m8,b8⟩
  rw[Bool.not_eq_true]at WK
  refine aX (h18.trans (congrArg Value.bool WK))<|av aF<|jP<|av aF<|av aF<|jP<|jP<|av aF<|aD<|aN<|Wk ?_
  exact xV ⟨MC,(Qj.trans Fx.ic),(h16.trans Fx.ic),(ME.trans Fx.ic),h18,h19,(h20.trans Fx.ic),(h21.trans Fx.ic),m8,b8⟩
 rintro f4 Bg ⟨s,y,C,E,h27,Vi,ZI,Vk,m10,b10⟩
 refine Ws<|Ws ?_
 -- region 17 draws
 refine jX<|dR y ?_
 by_cases ZJ:0<(c:Int)
 ·refine Qv aI (fun v1 G=>BH ZJ)<|aZ aI<|dR s<|dR y<|Qv (au ((c:Int)-1)) (fun v1 G=>iC)<|Qv ((pf g (c-1))) (fun v1 G=>cK 1)<|Qv (aA ((gA o) (c-1))) (fun v1 G=>aP (m10.cb G) (c-1))<|dR s<|dR Vk<|Qv ((pf g q)) (fun v1 G=>cK 1)<|Qv (aA ((gA o) q)) (fun v1 G=>aP (m10.cb G) q) ?_
  by_cases c85:(decide ((gA o) (c-1)<(gA o) q))=true
  ·refine lu (fun _ _=>bT ((gA o) (c-1)) ((gA o) q) _) aI (by rw[c85])<|aZ aF<|aZ aF<|Qn ?_
   intro Tv qB
   have m11:=aQ qB m10
   have b11:=fM qB b10 r
   refine sN<|aN<|Wk<|sN<|ay<|aX s<|aX y<|aX C<|aX Vk<|jT (TJ c i q B g n cap o _ m11 (Nat.le_trans r b11.size) hk2 x (by omega) (by omega) (by omega)) ?_
   rintro D Sr ⟨j,P,WO,l,hu2,hv2,hz2,m12,WQ⟩
   have b12:=b11.trans WQ
   have hx:Sort.partition Sort.ltInt o c i q=(j,(Sort.partition Sort.ltInt o c i q).2.1,WO):=Prod.ext hu2 (Prod.ext rfl hv2)
   obtain⟨r1,r2,r3,r4,r5,r6,r7⟩:=Sort.round_part Sort.swo_ltInt (Sort.partition_holds _) L.1 L.2 (by omega) (hBl.perm (by omega) F) hx
   clear hx
   refine⟨_,l,?_⟩
   clear l
   refine av (.tuple #[au ((j:Int)),.bool P])<|av (au j)<|av (.bool P)<|av (au j)<|av (.bool P)<|aD<|ay<|av (.bool P)<|av (.bool P)<|aD<|ay<|av (au j)<|aX y<|Lv (au ((j:Int)-(c:Int))) iC<|aX C<|av (au j)<|Lv (au ((i:Int)-(j:Int))) iC<|av (au ((j:Int)-(c:Int)))<|av (au ((i:Int)-(j:Int)))<|aD<|ay<|aX ZI<|Lv (au ((i-c) / 8:Nat)) (Fx.uD rfl rfl rfl (by omega) (jr (by omega) (by rw[Int.tdiv_eq_ediv_of_nonneg (by omega)]; omega)))<|av (au ((i-c) / 8:Nat))<|aD<|ay<|av (au ((j:Int)-(c:Int)))<|av (au ((i:Int)-(j:Int))) ?_
   by_cases JJ:((j:Int)-(c:Int))<((i:Int)-(j:Int))
   ·refine Lv aI (nV JJ)<|aD<|aT<|ay<|av (au ((j:Int)-(c:Int)))<|av (au ((i-c) / 8:Nat))<|Lv (.bool (decide (((i-c) / 8:Nat)<=((j:Int)-(c:Int))))) (Fx.wu rfl rfl rfl)<|av (.bool (decide (((i-c) / 8:Nat)<=((j:Int)-(c:Int)))))<|aD<|ay<|aX s<|aX y<|av (au j)<|aX E<|jT (ih _ _ _ c j p B g n cap WO _ m12 (Nat.le_trans r b12.size) hz2 x V (by omega) (by omega) (by omega) r4 (by omega) (by omega) (by omega) (by omega)) (ax := #[bH g n cap,au ((c:Int)),au ((j:Int)),au ((p:Int))]) ?_
    rintro D Sv ⟨T,l,Z,W,X,m13,hb8⟩
    refine⟨_,l,?_⟩
    clear l
    have b13:=b12.trans hb8
    obtain⟨q1,z⟩:=r6 _ W X
    refine aD (Wl (av (au j) (Lv (au ((j:Int)+1)) gD (av (au ((j:Int)+1)) (Ln (dA (iP ⟨i-(j+1),(by omega),j+1,i,p,T,(decide (((i-c) / 8:Nat)<=((j:Int)-(c:Int)))),(P),Z,q1,(fun R t u=>K R (Sort.permIn_trans _ _ _ _ _ F (z R t u).1) (z R t u).2),(by omega),rfl,s,Fx.ic,(C.trans Fx.ic),(E.trans Fx.ic),(by rfl),(by rfl),m13,b13⟩ (by decide))))))))
   refine Lv aF (nW JJ)<|aD<|aN<|ay<|av (au ((i:Int)-(j:Int)))<|av (au ((i-c) / 8:Nat))<|Lv (.bool (decide (((i-c) / 8:Nat)<=((i:Int)-(j:Int))))) (Fx.wu rfl rfl rfl)<|av (.bool (decide (((i-c) / 8:Nat)<=((i:Int)-(j:Int)))))<|aD<|ay<|aX s<|av (au j)<|Lv (au ((j:Int)+1)) gD<|aX C<|aX E<|jT (ih _ _ _ (j+1) i p B g n cap WO _ m12 (Nat.le_trans r b12.size) hz2 x V (by omega) (by omega) (by omega) r5 (by omega) (by omega) (by omega) (by omega)) (ax := #[bH g n cap,au ((j:Int)+1),au ((i:Int)),au ((p:Int))]) ?_
   rintro D Vh ⟨T,l,Z,W,X,m14,hb9⟩
   refine⟨_,l,?_⟩
   clear l
   have b14:=b12.trans hb9
   obtain⟨q1,z⟩:=r7 _ W X
   refine aD (Wl (av (au j) (av (au j) (Ln (dA (iP ⟨j-c,(by omega),c,j,p,T,(decide (((i-c) / 8:Nat)<=((i:Int)-(j:Int)))),(P),Z,q1,(fun R t u=>K R (Sort.permIn_trans _ _ _ _ _ F (z R t u).1) (z R t u).2),(by omega),rfl,s,(y.trans Fx.ic),Fx.ic,(E.trans Fx.ic),(by rfl),(by rfl),m14,b14⟩ (by decide)))))))
  rw[Bool.not_eq_true]at c85
  refine lu (fun _ _=>bT ((gA o) (c-1)) ((gA o) q) _) aF (by rw[c85])<|aZ aI<|aZ aI<|Qn ?_
  intro Tw qC
  have m15:=aQ qC m10
  have b15:=fM qC b10 r
  refine sN<|aT<|ay<|aX s<|aX y<|aX C<|aX Vk<|jT (Wj c i q B g n cap o _ m15 (Nat.le_trans r b15.size) hk2 x (by omega) (by omega) (by omega)) ?_
  rintro D Wv ⟨JK,dn3,l,hx1,hz3,m16,WR⟩
  have b16:=b15.trans WR
  obtain⟨r1,r2,r3,r4,r5⟩:=Sort.round_eq Sort.swo_ltInt (Sort.partitionEqual_holds _) (by omega) L.1 L.2 (by omega) (hBl.perm (by omega) F) (nQ (of_decide_eq_false c85)) hx1
  refine⟨_,l,?_⟩
  clear l
  refine av (au JK) (aD (ay (av (au JK) (av (au JK) (aD (Wx (cZ (dh (iP ⟨i-JK,(by omega),JK,i,p,dn3,(O),(wp),hz3,r4,(fun R t u=>K R (Sort.permIn_trans _ _ _ _ _ F (r5 R t u).1) (r5 R t u).2),(by omega),rfl,s,Fx.ic,(C.trans Fx.ic),(E.trans Fx.ic),h27,Vi,m16,b16⟩ (by decide))))))))))
 refine Qv aF (fun v1 G=>BI ZJ)<|aZ aF<|aU<|aU<|aU<|aU<|aU<|aU<|aU<|aU<|aU<|aU<|aU<|aZ aF<|Qn ?_
 intro Tx qD
 have m17:=aQ qD m10
 have b17:=fM qD b10 r
 refine sN<|aN<|Wk<|sN<|ay<|aX s<|aX y<|aX C<|aX Vk<|jT (TJ c i q B g n cap o _ m17 (Nat.le_trans r b17.size) hk2 x (by omega) (by omega) (by omega)) ?_
 rintro D Wy ⟨k,Q,WS,l,hu3,hv3,Oy,m18,WT⟩
 have b18:=b17.trans WT
 have hx:Sort.partition Sort.ltInt o c i q=(k,(Sort.partition Sort.ltInt o c i q).2.1,WS):=Prod.ext hu3 (Prod.ext rfl hv3)
 obtain⟨r1,r2,r3,r4,r5,r6,r7⟩:=Sort.round_part Sort.swo_ltInt (Sort.partition_holds _) L.1 L.2 (by omega) (hBl.perm (by omega) F) hx
 clear hx
 refine⟨_,l,?_⟩
 clear l
 refine av (.tuple #[au ((k:Int)),.bool Q])<|av (au k)<|av (.bool Q)<|av (au k)<|av (.bool Q)<|aD<|ay<|av (.bool Q)<|av (.bool Q)<|aD<|ay<|av (au k)<|aX y<|Lv (au ((k:Int)-(c:Int))) iC<|aX C<|av (au k)<|Lv (au ((i:Int)-(k:Int))) iC<|av (au ((k:Int)-(c:Int)))<|av (au ((i:Int)-(k:Int)))<|aD<|ay<|aX ZI<|Lv (au ((i-c) / 8:Nat)) (Fx.uD rfl rfl rfl (by omega) (jr (by omega) (by rw[Int.tdiv_eq_ediv_of_nonneg (by omega)]; omega)))<|av (au ((i-c) / 8:Nat))<|aD<|ay<|av (au ((k:Int)-(c:Int)))<|av (au ((i:Int)-(k:Int))) ?_
 by_cases JJ:((k:Int)-(c:Int))<((i:Int)-(k:Int))
 ·refine Lv aI (nV JJ)<|aD<|aT<|ay<|av (au ((k:Int)-(c:Int)))<|av (au ((i-c) / 8:Nat))<|Lv (.bool (decide (((i-c) / 8:Nat)<=((k:Int)-(c:Int))))) (Fx.wu rfl rfl rfl)<|av (.bool (decide (((i-c) / 8:Nat)<=((k:Int)-(c:Int)))))<|aD<|ay<|aX s<|aX y<|av (au k)<|aX E<|jT (ih _ _ _ c k p B g n cap WS _ m18 (Nat.le_trans r b18.size) Oy x V (by omega) (by omega) (by omega) r4 (by omega) (by omega) (by omega) (by omega)) (ax := #[bH g n cap,au ((c:Int)),au ((k:Int)),au ((p:Int))]) ?_
  rintro D w16 ⟨T,l,Z,W,X,m19,WU⟩
  refine⟨_,l,?_⟩
  clear l
  have b19:=b18.trans WU
  obtain⟨q1,z⟩:=r6 _ W X
  refine aD (Wl (av (au k) (Lv (au ((k:Int)+1)) gD (av (au ((k:Int)+1)) (Ln (dA (iP ⟨i-(k+1),(by omega),k+1,i,p,T,(decide (((i-c) / 8:Nat)<=((k:Int)-(c:Int)))),(Q),Z,q1,(fun R t u=>K R (Sort.permIn_trans _ _ _ _ _ F (z R t u).1) (z R t u).2),(by omega),rfl,s,Fx.ic,(C.trans Fx.ic),(E.trans Fx.ic),(by rfl),(by rfl),m19,b19⟩ (by decide))))))))
 refine Lv aF (nW JJ)<|aD<|aN<|ay<|av (au ((i:Int)-(k:Int)))<|av (au ((i-c) / 8:Nat))<|Lv (.bool (decide (((i-c) / 8:Nat)<=((i:Int)-(k:Int))))) (Fx.wu rfl rfl rfl)<|av (.bool (decide (((i-c) / 8:Nat)<=((i:Int)-(k:Int)))))<|aD<|ay<|aX s<|av (au k)<|Lv (au ((k:Int)+1)) gD<|aX C<|aX E<|jT (ih _ _ _ (k+1) i p B g n cap WS _ m18 (Nat.le_trans r b18.size) Oy x V (by omega) (by omega) (by omega) r5 (by omega) (by omega) (by omega) (by omega)) (ax := #[bH g n cap,au ((k:Int)+1),au ((i:Int)),au ((p:Int))]) ?_
 rintro D w17 ⟨T,l,Z,W,X,m20,WV⟩
 refine⟨_,l,?_⟩
 clear l
 have b20:=b18.trans WV
 obtain⟨q1,z⟩:=r7 _ W X
 refine aD (Wl (av (au k) (av (au k) (Ln (dA (iP ⟨k-c,(by omega),c,k,p,T,(decide (((i-c) / 8:Nat)<=((i:Int)-(k:Int)))),(Q),Z,q1,(fun R t u=>K R (Sort.permIn_trans _ _ _ _ _ F (z R t u).1) (z R t u).2),(by omega),rfl,s,(y.trans Fx.ic),Fx.ic,(E.trans Fx.ic),(by rfl),(by rfl),m20,b20⟩ (by decide)))))))
end
section
open Rt
set_option maxRecDepth 10000
theorem Oz : ∀ m,Ox m
 | 0=>by
   intro v x y a b u B g n c d w h k s t j q o p l e f i r
   omega
 | m+1=>by
   intro v x y a b u B g n c d w h k s t j q o p l e f i r
   subst e f i
   exact Qo m (Oz m) a b u B g n c d w h k s t j q o p l r
theorem MG(B g n cap:Nat)(d:Array Int)(w:World)(h:Fx.Own w B 22 1 (bH g n cap) n (rv .u64 (gA d)))(j:B<=w.heap.size)(o:d.size=n)(p:n<=1000)(i:n<50) :
 Calls Tryd.prog 73 #[bH g n cap] w fun e w' => ∃ a:Array Int,e = .returned (.tuple #[])/\a.size=n/\Sort.PermIn 0 n d a/\Sort.SortedIn Sort.ltInt 0 n a/\Fx.Own w' B 22 1 (bH g n cap) n (rv .u64 (gA a))/\Below B w w':=by
 have t:=FB (show n<64 by omega)
 refine Kent Tryd.func73 11 ?_
 refine ay<|av (bH g n cap)<|av (au n)<|av (au n)<|aD<|Wl<|av (bH g n cap)<|av (au n)<|av (au n)<|Lv (aA n) (eO rfl rfl (by kernel_rfl) Tryd.underlying130 (jv (by omega) rfl))<|qj (Jg n _ (by omega)) _ rfl<|jT (Oz (n+1) _ _ _ 0 n (Sort.bitsLen n) B g n cap d _ h (Nat.le_trans j (Below.refl B w).size) o p i (by omega) (by omega) (by omega) (.inl rfl) rfl rfl rfl (by omega)) (ax := #[bH g n cap,au 0,au ((n:Int)),au ((Sort.bitsLen n:Int))]) ?_
 rintro s u ⟨f,b,q,k,l,r,m⟩
 refine⟨_,b,?_⟩
 clear b
 have c:=(Below.refl B w).trans m
 refine Ln (⟨.tuple #[],fG Tryd.results73,?_⟩)
 exact⟨f,rfl,q,k,l,r,c⟩
theorem Qp(w:World) :
 Calls Tryd.prog 110 #[.slice none 0 0,au 0,au 0] w fun e w'=>e = .returned (.tuple #[])/\Below w.heap.size w w':=by
 refine Kent Tryd.func110 49 ?_
 refine ay<|av (au 0)<|Lv (au 1) gD<|av (au 1)<|aD<|Wb<|Wo (fun f d=>f 1=au 0/\f 2=au 0/\f 6=au 1/\Below w.heap.size w d) (fun f _=>0) ⟨Fx.ic,Fx.ic,Fx.ic,(Below.refl w.heap.size w)⟩ ?_
 rintro g i ⟨h,b,c,a⟩
 refine Ws (ay (aX c (aX b (Lv aF BJ (aD (aN (Wx (cZ (gX (dh (⟨.tuple #[],fG Tryd.results110,?_⟩)))))))))))
 exact⟨rfl,a⟩
theorem Qq(w:World) :
 Calls Tryd.prog 99 #[.slice none 0 0,au 0,au 0,au 0] w fun e w'=>e = .returned (.tuple #[])/\Below w.heap.size w w':=by
 refine Kent Tryd.func99 134 ?_
 refine ay<|av aI<|aD<|ay<|av aI<|aD<|Wb<|Wo (fun f i=>f 0 = .slice none 0 0/\f 1=au 0/\f 2=au 0/\Below w.heap.size w i) (fun f _=>0) ⟨(by rfl),Fx.ic,Fx.ic,(Below.refl w.heap.size w)⟩ ?_
 rintro j k ⟨g,a,b,c⟩
 refine Wb<|ay<|aX b<|aX a<|Lv (au 0) iC<|av (au 0)<|aD<|Ws<|ay<|av (au 0)<|Lv aI SQ<|aD<|aT<|ay<|aX g<|aX a<|aX b<|eG (Qp _) _ rfl ?_
 intro l h
 have d:=aQ h c
 refine aD (Wr (sR (bU (rA (bU (⟨.tuple #[],fG Tryd.results99,?_⟩))))))
 exact⟨rfl,d⟩
theorem Qr(w:World):Calls Tryd.prog 54 #[aA 0] w fun e w'=>e = .returned (au 0)/\w'=w:=Jg 0 w (by omega)
theorem MH(w:World) :
 Calls Tryd.prog 73 #[.slice none 0 0] w fun e w'=>e = .returned (.tuple #[])/\Below w.heap.size w w':=by
 refine Kent Tryd.func73 11 ?_
 refine ay<|av (.slice none 0 0)<|av (au 0)<|av (au 0)<|aD<|Wl<|av (.slice none 0 0)<|av (au 0)<|av (au 0)<|Lv (aA 0) (eO rfl rfl (by kernel_rfl) Tryd.underlying130 (jv (by omega) rfl))<|qj (Qr _) _ rfl<|eG (Qq _) _ rfl ?_
 intro c b
 have a:=aQ b (Below.refl w.heap.size w)
 refine Ln (⟨.tuple #[],fG Tryd.results73,?_⟩)
 exact⟨rfl,a⟩
theorem Qu{w:World}{B n cap:Nat}{a:Option Addr}{d:Array Int}(h:Fx.Own w B 22 1 (.slice a n cap) n (rv .u64 (gA d)))(f:B<=w.heap.size)(k:d.size=n)(p:n<50) :
 Calls Tryd.prog 73 #[.slice a n cap] w fun e w' => ∃ b:Array Int,e = .returned (.tuple #[])/\b.size=n/\Sort.PermIn 0 n d b/\Sort.SortedIn Sort.ltInt 0 n b/\Fx.Own w' B 22 1 (.slice a n cap) n (rv .u64 (gA b))/\Below B w w':=by
 rcases h.2 with ⟨c,l⟩|⟨g,c2,cur,c,_⟩
 ·subst l
  cases c
  exact(MH w).mono fun e w' ⟨m,o⟩=>⟨d,m,k,Sort.permIn_refl _ _ _,fun i j _ q r=>by omega,Bd _ _ _ _ _,o.mono f⟩
 simp only[Value.slice.injEq]at c
 obtain⟨rfl,_,rfl⟩:=c
 exact MG B g n cap d w h f k (by omega) p
end
end Go.Proofs.YtahbiajdgealnaaDoor
namespace Go.Proofs.YtahbiajdgealnaaDoor
open Go.RowKit Go
set_option linter.unusedVariables false
namespace Rt
def dT(x:Nat->Int)(τ:Nat->Nat)(m:Nat):Array Int:=((List.range m).map fun q=>x (τ q)).toArray
section
variable {n m kk:Nat} {x:Nat->Int} {Q:Int->Prop} {S:Nat->Bool} {τ:Nat->Nat}
theorem FK:(dT x τ m).size=m:=by unfold dT; simp
theorem Qw{q:Nat}(a:q<m):gA (dT x τ m) q=x (τ q):=by
 unfold gA dT
 rw[getElem!_pos _ q (by simpa using a)]; simp
theorem TP : ∀ j,j<m*1->Value.int .u64 (x (τ j))=Fx.rv .u64 (gA (dT x τ m)) j:=fun j a=>by
 show _=Value.int .u64 (gA (dT x τ m) j)
 rw[Qw (by omega)]
theorem Qx{d:Array Int} : ∀ j,j<d.size*1->Fx.rv .u64 (gA d) j=qm d.toList j:=fun j a=>by
 show Value.int .u64 d[j]! = Value.int .u64 (d.toList.getD j 0)
 rw[getElem!_pos d j (by omega),List.getD_eq_getElem?_getD,List.getElem?_eq_getElem (by simpa using (show j<d.size by omega))]
 simp
theorem GU{c:Array Int}(h:I7 n (fun i=>Q (x i)) S m τ kk)(w : ∀ i,i<n->S i=true)(z : ∀ a b,a<n->b<n->x a=x b->a=b)
 (A:Sort.PermIn 0 m (dT x τ m) c) (B:Sort.SortedIn Sort.ltInt 0 m c) (C:c.size=m):c.toList.Pairwise (· < ·) /\ ∀ k,k∈c.toList<->(bZ x n k=true/\Q k):=by
 have t:c.toList.Perm ((List.range m).map fun q=>x (τ q)):=by
  have r:=A.2.2
  have u:c.extract 0 m=c:=by rw[<- C]; simp
  have v : ∀ d:Array Int,d.size=m->d.extract 0 m=d:=fun d y=>by rw[<- y]; simp
  rw[u,v _ FK]at r
  exact r
 have s:c.toList.Nodup:=by
  refine(t.nodup_iff).2 ?_
  rw[List.Nodup,List.pairwise_iff_getElem]
  intro i j hi f p
  simp only[List.getElem_map,List.getElem_range]
  simp only[List.length_map,List.length_range]at hi f
  exact fun e=>absurd (h.inj i j hi f (z _ _ (h.lt i hi) (h.lt j f) e)) (by omega)
 refine⟨?_,fun k => ?_⟩
 ·rw[List.pairwise_iff_getElem]
  intro i j hi f p
  simp only[Array.length_toList]at hi f
  have l:=of_decide_eq_false (B i j (Nat.zero_le _) p (by omega))
  rw[getElem!_pos c i hi,getElem!_pos c j f]at l
  rw[List.Nodup,List.pairwise_iff_getElem]at s
  have o:=s i j (by simpa using hi) (by simpa using f) p
  simp only[Array.getElem_toList]at o ⊢
  omega
 rw[t.mem_iff]
 simp only[List.mem_map,List.mem_range]
 constructor
 ·rintro ⟨q,g,rfl⟩
  exact⟨fO (h.lt q g) rfl,h.yes q g⟩
 rintro ⟨l,o⟩
 obtain⟨i,hi,rfl⟩:=dV l
 obtain⟨q,g,rfl⟩:=h.mem i hi (w i hi) o
 exact⟨q,g,rfl⟩
theorem MI{z:Nat->Value}{i:Nat} : ∀ j,j<(m+1)*1->Fx.jE (fun q=>aA (x (τ q))) (m*1) (Fx.dn z (0*1) 1 (fun _=>aA (x i))) j=aA (x (Fx.aH τ m i j)):=fun j a=>by
 unfold Fx.jE Fx.dn Fx.aH
 by_cases e:j=m
 ·subst e; rw[if_neg (by omega),if_pos (by omega),if_pos rfl]
 ·rw[if_pos (by omega),if_neg e]
end
end Rt
open Rt
theorem Qy{w:World}{B m cap:Nat}{a:Option Addr}{x:Nat->Int}{τ:Nat->Nat}(h:Fx.Own w B 22 1 (.slice a m cap) m (fun q=>aA (x (τ q))))(n:B<=w.heap.size)(p:m<=32) :
 Calls Tryd.prog 73 #[.slice a m cap] w fun e w'=>e = .returned (.tuple #[]) /\ ∃ b:Array Int,b.size=m/\Sort.PermIn 0 m (dT x τ m) b/\Sort.SortedIn Sort.ltInt 0 m b/\Fx.Own w' B 22 1 (.slice a m cap) m (qm b.toList)/\Below B w w' :=
 (Qu (d:=dT x τ m) (h.congr TP) n FK (by omega)).mono fun e w' ⟨b,c,f,g,i,k,l⟩=>⟨c,b,f,g,i,k.congr fun j o=>Qx j (by omega),l⟩
end Go.Proofs.YtahbiajdgealnaaDoor
namespace Go.Proofs.YtahbiajdgealnaaDoor.Fx
open Go.RowKit
section
variable {P:Program} {n0:Nat} {Q:Post} {f:Nat->Value} {w:World} {ops:Array Oper} {rest:List Oper} {o:Oper}
theorem L.lo{T E:TypeId}{x lo:Operand}{a:Option Addr}{B n c s m:Nat}{k:IntKind}{j:Nat}{y:Nat->Value}(u:Region.wanted o (yf ops f)=true)(e:inn n0 o.dst=true)(q:o.op = .slice T x (some lo) none none)(hx:ev f x = .slice a n c)(l:ev f lo = .int k (j:Int))(t:P.underlying T=some (.slice E))(r:(P.info? E).map (·.size)=some s)(H:n=j+m)(C:Own w B E s (.slice a n c) n y)
 (d : ∀ v,kZ w v m s (fun p=>y (j*s+p))->L P n0 ops Q rest (put f o.dst (.slice v m (c-j))) w):L P n0 ops Q (o::rest) f w:=by
 by_cases D:n=0
 ·obtain rfl:j=0:=by omega
  obtain rfl:m=0:=by omega
  subst D
  rcases C.2 with ⟨b,_⟩|⟨g,cap,cur,b,_,_,hn,_⟩
  ·simp only[Value.slice.injEq]at b
   obtain⟨rfl,_,rfl⟩:=b
   obtain⟨i,G,_⟩:=Option.map_eq_some_iff.1 r
   refine Lv _ (?_:Runs P f o w (.slice none 0 0)) (d none fun h=>absurd h (Nat.lt_irrefl 0)) u e
   unfold Runs execOp
   simp only[q,hx,l,Option.map_some,Option.map_none]
   simp[Instr.sliceAt,Instr.slice,underlying,t,Instr.sliceBounds,Instr.sliceBound,asIntOf,sizeOf,typeInfo,G]
  simp only[Value.slice.injEq]at b
  obtain⟨rfl,_,rfl⟩:=b
  exact Lv _ (qN (A:=if c=0 then some ⟨g,0,none⟩else some ⟨g,0+0*s,none⟩) (n':=0) (c':=c-0) q hx l t r (Nat.le_refl _) rfl rfl rfl) (d _ fun h=>absurd h (Nat.lt_irrefl 0)) u e
 obtain⟨g,J,z,K,M,O,F⟩:=C.form (by omega)
 simp only[Value.slice.injEq]at z
 obtain⟨rfl,_,rfl⟩:=z
 refine Lv _ (qN (A:=if c=j then some ⟨g,0,none⟩else some ⟨g,0+j*s,none⟩) (n':=m) (c':=c-j) q hx l t r (by omega) rfl (by omega) rfl) (d _ fun N => ?_) u e
 rw[if_neg (by omega)]
 refine⟨g,_,rfl,fun p R => ?_⟩
 have I:j*s+p<n*s:=by
  have:n*s=j*s+m*s:=by rw[H,Nat.add_mul]
  omega
 have:=F (j*s+p) I
 rw[Nat.zero_add]at this
 rw[Nat.zero_add]; exact this
theorem Own.TQ{B n c s j:Nat}{E:TypeId}{a:Option Addr}{y:Nat->Value}(h:Own w B E s (.slice a n c) n y)(e:j<=n):kZ w a j s y:=fun k=>by
 obtain⟨g,i,b,l,m,o,d⟩:=h.form (by omega)
 simp only[Value.slice.injEq]at b
 refine⟨g,0,b.1,fun p f=>d p ?_⟩
 exact Nat.lt_of_lt_of_le f (Nat.mul_le_mul_right s e)
theorem Own.weak{B a n s:Nat}{E:TypeId}{v:Value}{y:Nat->Value}(h:Own w B E s v n y)(b:a<=B):Own w a E s v n y:=by
 refine⟨h.1,?_⟩
 rcases h.2 with hn|⟨g,cap,cur,hv,hb,rest⟩
 ·exact .inl hn
 exact .inr ⟨g,cap,cur,hv,Nat.le_trans b hb,rest⟩
end
end Go.Proofs.YtahbiajdgealnaaDoor.Fx
namespace Go.Proofs.YtahbiajdgealnaaDoor
open Go.RowKit Rt
open Fx (eY dN fJ bC fI fH eO dS fK iq dY iw fq gT iy Lv sN Ln Ws Qv Wl Rp Wc Qs Wr Sb Lk Wk rC rV sR Rs Rn Rd Rk Wb Wx Wo Ab Wt qM Qn Ba uY Bc BF yw Bb DL jw Dt jl qh rQ DX Bd Dr BU Bf rv aC aK dn aH ev bQ Stp bS aS flat gu Mp dH bB fC gF bO down fG iR jr kZ dG bY cells_one jm bP xV unseen jv jE cO bU dA cZ dh gX iP rA iD)
section
open Rt
set_option maxRecDepth 10000
theorem JL(x p:Nat->Int)(n tp mb:Nat)(w:World)(U:aK w tp 1 (fun _ => .map (some mb)) 116)(R:Mp w mb n x (fun j=>aA (p j)))(h:tJ n x p) :
 Calls Tryd.prog 51 #[(pt tp),.func (.func 52) #[] #[]] w fun e w' => ∃ a c l,e = .returned (.slice a (List.length l) c)/\Fx.Own w' w.heap.size 22 1 (.slice a l.length c) l.length (qm l)/\l.Pairwise (· < ·)/\(∀ k,k∈l<->(bZ x n k=true/\True))/\l.length<=32/\Below w.heap.size w w':=by
 have hsm:=h.small
 refine Kent Tryd.func51 27 ?_
 refine ay<|av (.slice none 0 0)<|aD<|Ws<|ay<|av ((pt tp))<|Lv aF (Fx.jI rfl rfl rfl (by kernel_rfl))<|aD<|aN<|Wk<|sN<|Ws<|ay<|av ((pt tp))<|av ((pt tp))<|av ((pt tp))<|Lv (.map (some mb)) (aP U.aM 0)<|Fx.L.range (by rfl) rfl rfl rfl R Tryd.underlying87 fun O w1 rF Z s1 z1 => ?_
 have⟨m2,m3,b1⟩:=kI s1.old U R (Below.refl w.heap.size w)
 have xW:=gP rF
 have yC:=Z.lt
 refine aD<|Wb ?_
 have m4:Fx.Own w1 w.heap.size 22 1 (.slice none 0 0) 0 (fun q=>aA (x ((fun _=>0:Nat->Nat) q))):=Bd _ _ _ _ _
 refine Ab (fun kk f g => ∃ m:Nat,∃ τ:Nat->Nat,∃ S:Nat->Bool,∃ a:Option Addr,∃ d:Nat,I7 n (fun i=>(fun k=>True) (x i)) S m τ kk/\f 0=(pt tp)/\f 1 = .func (.func 52) #[] #[]/\f 4 = .slice a (m) (d)/\f 12=(pt O)/\aK g tp 1 (fun _ => .map (some mb)) 116/\Mp g mb n x (fun j=>aA (p j))/\Fx.It g O mb n S/\Fx.Own g w.heap.size 22 1 (.slice a (m) (d)) m (fun q=>aA (x (τ q)))/\Below w.heap.size w g) (unseen (fun _=>false) n) ⟨0,(fun _=>0),(fun _=>false),none,0,(I7.start n _ _),(by rfl),(by rfl),(by rfl),(by rfl),m2,m3,Z,m4,b1⟩ ?_
 rintro kk N w2 ⟨m,τ,S,a,d,r,P,C,D,E,m5,m6,J,m8,o⟩
 have hml:=r.le
 refine ay<|Fx.L.next (by rfl) rfl rfl E m6 J (fun JM => ?_)<|fun b w3 G T m9 Vl s2 z2 => ?_
 ·skip
  refine av aF<|aD<|Ws<|aN<|Wx<|cZ<|gX<|dh<|sN<|ay<|aX D<|eG (Qy m8 o.size (by omega)) _ rfl ?_
  rintro w4 ⟨M,Y,hp2,hs2,aa,hb1⟩
  have b3:=o.trans hb1
  refine aD<|ay<|aX D<|av (.slice a (m) (d))<|aD<|Wr<|aL (.slice a (m) (d)) ?_
  obtain⟨N,f2⟩:=GU (Q:=fun k=>True) r JM h.inj hp2 hs2 Y
  have X:m<=32:=by omega
  rw[show m=M.toList.length by rw[Array.length_toList]; exact Y.symm]at aa X ⊢
  exact⟨a,d,M.toList,rfl,aa,N,f2,X,b3⟩
 skip
 have F:=J.uG s2
 have ab:=m5.bV F
 have H:=m6.bV F (J.rb.symm)
 have ac:=m8.bV F
 have K:=s2.below o o.size (by omega)
 refine av aI<|aD<|Ws<|aT<|Wk<|sN<|Wb<|ay<|Lv (.tuple #[aA (x b),aA (p b)]) (Fx.Fu (key:=x) (val:=fun j=>aA (p j)) (i:=b) rfl E H Vl G)<|av (aA (x b))<|av (aA (x b))<|aD<|ay<|aX C<|av (aA (x b))<|uY (by rfl) (Fx.wz (args := [aA (x b)]) rfl rfl rfl (all := #[aA (x b)]) rfl Tryd.func52 rfl rfl) rfl<|(Tn _ _).mono ?_
 rintro e v1 ⟨V,hv1⟩
 subst v1
 refine⟨.bool true,by rw[V],?_⟩
 clear V
 refine aD<|aT<|Wl<|aX D<|av (aA (x b))<|Bc (vs := [(0,aA (x b))]) (s:=1) (zc:=rv .u64 (fun _=>0)) (y:=dn (fun j=>(rv .u64 (fun _=>0)) (j % 1)) (0*1) 1 (fun _=>aA (x b))) (by rfl) rfl rfl Tryd.underlying53 (by kernel_rfl) (by rfl) (by rfl) (by kernel_rfl) (by rw[bO (off:=0*1) (s:=1) (y:=fun _=>aA (x b)) rfl (cells_one (by rfl)) (by rfl)]; rfl) rfl fun g2 w5 z ad s3 z3 => ?_
 have⟨m15,m16,I,m19,t⟩:=ql s3.old ab H ac m9 K
 have Bo:=iT z K.size
 have⟨tQ,JN⟩:=yx z ab.lt H.lt
 have JO:(.slice a (m) (d):Value).ownBlock≠some g2:=by rw[z]; exact ac.Py (Nat.le_refl _)
 have Dy:=ad.lt
 refine BF (B:=w.heap.size) (s:=1) (bytes:=8) (k:=m) (m:=1) (v := .slice a (m) (d)) (x:=fun q=>aA (x (τ q))) (by rfl) rfl rfl rfl Tryd.underlying53 (by kernel_rfl) (by kernel_rfl) rfl rfl I ad.aM (fun j hj=>by unfold dn; split <;> rfl) (by omega) (by omega) (by omega) t.size fun A u w6 ho1 W Ti hlt1 => ?_
 have iZ:=Dt W I
 have⟨m21,m22,m24⟩:=Gy iZ m15 m16 m19
 have m20:Fx.Own w6 w.heap.size 22 1 (bH A (m+1) u) (m+1) (fun q=>aA (x (aH τ m b q))):=(ho1.congr MI)
 have b6:Below w.heap.size w w6:=Dr t W t.size (fun q hq=>(I.ge hq).1)
 refine av (bH A (m+1) u)<|Ln<|dA ?_
 skip
 refine iP ⟨unseen (aH S b true) n,(by have P:=Fx.kK T n G; have C:=r.kk; omega),m+1,aH τ m b,aH S b true,(some ⟨A,0,none⟩),u,(r.take G T trivial),P,C,(by rfl),E,m21,m22,m24,m20,b6⟩ (by decide)
theorem Qz(x p:Nat->Int)(n tp mb:Nat)(w:World)(o:aK w tp 1 (fun _ => .map (some mb)) 116)(m:Mp w mb n x (fun j=>aA (p j)))(h:tJ n x p) :
 Calls Tryd.prog 32 #[(pt tp)] w fun e w' => ∃ a c l,e = .returned (.slice a (List.length l) c)/\Fx.Own w' w.heap.size 22 1 (.slice a l.length c) l.length (qm l)/\l.Pairwise (· < ·)/\(∀ k,k∈l<->(bZ x n k=true/\True))/\l.length<=32/\Below w.heap.size w w':=by
 refine Kent Tryd.func32 5 ?_
 refine ay<|av (.slice none 0 0)<|aD<|ay<|av ((pt tp))<|jT (JL x p n tp mb _ o m h) ?_
 rintro v y ⟨b,d,f,i,u,r,s,t,q⟩
 refine⟨_,i,?_⟩
 clear i
 have g:=aQ q (Below.refl w.heap.size w)
 refine av (.slice b (f.length) (d))<|aD<|Wr<|aL (.slice b (f.length) (d)) ?_
 exact⟨b,d,f,rfl,u.weak (by have:=g.size; first|exact Nat.le_refl _|exact(Below.refl w.heap.size w).size),r,s,t,g⟩
-- (*tree.Tree).Below is not in this seat
end
end Go.Proofs.YtahbiajdgealnaaDoor
namespace Go.Proofs.YtahbiajdgealnaaDoor
open Go.RowKit Go Rt
set_option linter.unusedVariables false
namespace Rt
structure bW where
 n:Nat
 x:Nat->Int
 p:Nat->Int
def bW.zero:bW:=⟨0,fun _=>0,fun _=>0⟩
def bW.has(T:bW)(k:Int):Bool:=bZ T.x T.n k
def bW.par(T:bW)(k:Int):Int:=eP T.x T.p T.n k
def bW.path(T:bW)(k:Int):List Int:=fP T.x T.p T.n 4 k
def bW.err(T:bW)(id pa:Int):Int:=kX T.x T.p T.n id pa
def bW.put(T:bW)(id pa:Int):bW:=⟨T.n+1,Fx.aH T.x T.n id,Fx.aH T.p T.n pa⟩
def bW.add(T:bW)(id pa:Int):bW:=if T.err id pa=0 then T.put id pa else T
abbrev bW.ok(T:bW):Prop:=tJ T.n T.x T.p
theorem bW.Ak{T:bW}(h:T.ok){id pa:Int}(a:0<=id/\id<=18446744073709551615):(T.add id pa).ok:=by
 unfold bW.add
 split
 ·rename_i hc; exact tJ.put h hc a
 exact h
structure kV(w:World)(B tp mb:Nat)(T:bW):Prop where
 blk:Fx.aK w tp 1 (fun _ => .map (some mb)) 116
 map:Fx.Mp w mb T.n T.x (fun j => .int .u64 (T.p j))
 inv:T.ok
 gt:B<=tp
 gm:B<=mb
section
variable {w w':World} {B tp mb r:Nat} {T:bW} {id pa k:Int}
theorem kV.up(h:kV w B tp mb T)(a:Below w.heap.size w w'):kV w' B tp mb T:=⟨h.blk.dX (Fx.Sb a) (Nat.ne_of_lt h.blk.lt),h.map.up a,h.inv,h.gt,h.gm⟩
instance:Rt.Tr w w' (kV w B tp mb T) (kV w' B tp mb T):=⟨fun b h=>h.up b⟩
theorem kV.jo{a:List TypeId}(h:kV w B tp mb T)(b:Fx.jm a w w')(h1:a.contains 116=false):kV w' B tp mb T:=⟨h.blk.jo b h1,h.map.jo b trivial,h.inv,h.gt,h.gm⟩
instance {a:List TypeId}:Rt.Tc a w w' (kV w B tp mb T) (kV w' B tp mb T) (!(a.contains 116)):=⟨fun b h e=>h.jo b (by simpa using e)⟩
theorem kV.uG(h:kV w B tp mb T)(a:Fx.Stp mb w w'):Fx.GA mb w w':=h.map.uG a
theorem kV.bV(h:kV w B tp mb T)(a:Fx.GA r w w')(b:mb≠r):kV w' B tp mb T:=⟨h.blk.bV a,h.map.bV a b,h.inv,h.gt,h.gm⟩
theorem kV.weak{a:Nat}(h:kV w B tp mb T)(b:a<=B):kV w a tp mb T:=⟨h.blk,h.map,h.inv,Nat.le_trans b h.gt,Nat.le_trans b h.gm⟩
theorem kV.lt(h:kV w B tp mb T):mb<w.heap.size:=h.map.lt
end
end Rt
theorem OA(w:World):Calls Tryd.prog 28 #[] w fun e w' => ∃ tp mb,e = .returned (.pointer (some ⟨tp,0,none⟩))/\w.heap.size<=mb/\kV w' w.heap.size tp mb bW.zero/\Below w.heap.size w w' :=
 (Tk (fun _=>0) (fun _=>0) w).mono fun e w' ⟨tp,mb,b,c,a,d,f,g⟩=>⟨tp,mb,b,a,⟨d,f,tJ.zero _ _,c,a⟩,g⟩
theorem Cm{w:World}{B tp mb:Nat}{T:bW}(id pa:Int)(h:kV w B tp mb T)(i:0<=id/\id<=18446744073709551615) :
 Calls Tryd.prog 155 #[.pointer (some ⟨tp,0,none⟩),.int .u64 id,.int .u64 pa] w fun e w'=>e = .returned (.int .i64 (T.err id pa))/\kV w' B tp mb (T.add id pa)/\Fx.Stp mb w w' :=
 (Tm T.x T.p T.n tp mb id pa w h.blk h.map h.inv).mono fun e w' ⟨c,k,x2,l,b,j,d,f,g⟩=>by
  cases j with
  | no a h0 =>
    have a:T.err id pa=c:=a
    subst a
    refine⟨b,⟨d,?_,bW.Ak h.inv i,h.gt,h.gm⟩,g⟩
    unfold bW.add
    rw[if_neg h0]; exact f
  | yes a =>
    have a:T.err id pa=0:=a
    refine⟨by rw[a]; exact b,⟨d,?_,bW.Ak h.inv i,h.gt,h.gm⟩,g⟩
    unfold bW.add
    rw[if_pos a]; exact f
theorem OB{w:World}{B tp mb:Nat}{T:bW}(k:Int)(h:kV w B tp mb T) :
 Calls Tryd.prog 72 #[.pointer (some ⟨tp,0,none⟩),.int .u64 k] w fun e w'=>e = .returned (.bool (T.has k))/\w'=w:=wK T.x T.p T.n tp mb k w h.blk h.map
def LY(w:World)(B:Nat)(a:Option Addr)(c:Nat)(l:List Int):Prop:=Fx.Own w B 22 1 (.slice a l.length c) l.length (qm l)
theorem LY.up{w w':World}{B c:Nat}{a:Option Addr}{l:List Int}(h:LY w B a c l)(b:Below w.heap.size w w'):LY w' B a c l:=Fx.Own.up h b
instance {w w':World} {B c:Nat} {a:Option Addr} {l:List Int}:Rt.Tr w w' (LY w B a c l) (LY w' B a c l):=⟨fun b h=>h.up b⟩
theorem Al{w:World}{B tp mb:Nat}{T:bW}(k:Int)(h:kV w B tp mb T) :
 Calls Tryd.prog 31 #[.pointer (some ⟨tp,0,none⟩),.int .u64 k] w fun e w' => ∃ a c,e = .returned (.slice a (T.path k).length c)/\LY w' w.heap.size a c (T.path k)/\Below w.heap.size w w' :=
 D8 T.x T.p T.n tp mb 4 k w h.blk h.map h.inv.inj (h.inv.stop k) (h.inv.len k)
theorem QA{w:World}{B tp mb:Nat}{T:bW}(h:kV w B tp mb T) :
 Calls Tryd.prog 32 #[.pointer (some ⟨tp,0,none⟩)] w fun e w' => ∃ a c l,e = .returned (.slice a (List.length l) c)/\LY w' w.heap.size a c l/\(l.Pairwise (· < ·) /\ ∀ k,k∈l<->T.has k=true)/\l.length<=32/\Below w.heap.size w w' :=
 (Qz T.x T.p T.n tp mb w h.blk h.map h.inv).mono fun e w' ⟨a,c,l,b,d,f,g,i⟩=>⟨a,c,l,b,d,⟨f,fun k=>by have:=g k; rw[and_true]at this; exact this⟩,i⟩
namespace Rt
section
variable {T U:bW} {id pa k:Int}
structure mK(U T:bW):Prop where
 has : ∀ k,U.has k=true->T.has k=true
 par : ∀ k,U.has k=true->U.par k=T.par k
theorem mK.same(h:mK U T)(hx : ∀ k,T.has k=true->U.has k=true) : ∀ k,U.path k=T.path k:=fun k=>by
 have e : ∀ k,U.has k=T.has k:=fun k=>by
  cases h1:U.has k with
  | true=>exact(h.has k h1).symm
  | false =>
    cases h2:T.has k with
    | false=>rfl
    | true=>rw[hx k h2]at h1; cases h1
 exact yR e (fun k a=>h.par k (hx k a)) 4 k
theorem bW.gM(T:bW)(id pa k:Int):(T.put id pa).has k=(T.has k || decide (id=k)):=Rt.gM id k
theorem bW.nD(T:bW)(id pa k:Int):(T.put id pa).par k=if id=k then pa else T.par k:=Rt.nD id pa k
end
end Rt
namespace Fx
theorem QC{P:Program}{f:Nat->Value}{w:World}{o:Oper}{T d:TypeId}{x y:Operand}{a b:Nat}(g:o.op = .binOp .or T x y d)(hx:ev f x = .int .u64 (1099511627776*(a:Int)))(hy:ev f y = .int .u64 (b:Int))(ha:a<=8388607)(j:b<1099511627776):Runs P f o w (.int .u64 (1099511627776*(a:Int)+b)) :=
 mF g hx hy (by
  have e:((BitVec.ofInt 64 (1099511627776*(a:Int)) ||| BitVec.ofInt 64 (b:Int)).toNat:Int)=1099511627776*(a:Int)+b:=by
   rw[BitVec.toNat_or,BitVec.toNat_ofInt,BitVec.toNat_ofInt]
   rw[show((1099511627776*(a:Int)) % ((2^64:Nat):Int)).toNat=1099511627776*a by omega,show((b:Int) % ((2^64:Nat):Int)).toNat=b by omega]
   have h:=Nat.shiftLeft_add_eq_or_of_lt (i:=40) (b:=b) (by omega) a
   rw[Nat.shiftLeft_eq]at h
   rw[show 1099511627776*a=a*2^40 by omega,<- h]
   omega
  have h:=jv (c:=1099511627776*(a:Int)+b) (by omega) rfl
  simp only[binOp,Op.intBits]
  show(pure (Value.int .u64 (IntKind.u64.wrap ((BitVec.ofInt 64 (1099511627776*(a:Int)) ||| BitVec.ofInt 64 (b:Int)).toNat:Int))):Sem Value).run P w=_
  rw[e,h]; rfl)
theorem QD{w:World}{B c:Nat}{a:Option Addr}{l:List Int}(h:LY w B a c l):Fx.kZ w a l.length 1 (qm l):=Own.TQ h (Nat.le_refl _)
end Fx
end Go.Proofs.YtahbiajdgealnaaDoor
