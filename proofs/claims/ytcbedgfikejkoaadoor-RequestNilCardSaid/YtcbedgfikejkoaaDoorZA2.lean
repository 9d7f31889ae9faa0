/-
  What the proof of the law rests on, part 2: walks of functions, and plain laws; each says its conditions itself.
-/
import Derived.WideKeyRuns
import Derived.DeepKeys3
import Derived.Test.YtcbedgfikejkoaaDoorRows
import Derived.RangeFuncNested
import Derived.RangeFuncBound
import Derived.RangeFuncCalls
import Derived.RangeFuncLeaves
import Derived.RangeFuncFrom
import Derived.Sort.LotA
import Derived.Sort.LotB
import Derived.Sort.LotC
import Derived.Sort.LotD3
import Derived.Sort.LotD1
import Derived.Test.YtcbedgfikejkoaaDoorZA1
set_option maxHeartbeats 1600000
set_option linter.unusedVariables false
set_option linter.unusedSimpArgs false
namespace Go.Proofs.YtcbedgfikejkoaaDoor.Fx
open Go.RowKit Go.MapKept
def kS(a b:Int):Value := .agg #[.int .i64 a,.int .u64 b]
structure wV(a b:Int):Prop where
 a : -9223372036854775808<=a/\a<=9223372036854775807
 b:0<=b/\b<=18446744073709551615
theorem Fv{a b c d:Int}(h:kS a b=kS c d):a=c/\b=d:=by
 unfold kS at h
 simp only[Value.agg.injEq]at h
 have h:=congrArg Array.toList h
 simp at h; exact h
theorem rY{y:Nat->Value}{a b:Int}(c:y 0 = .int .i64 a)(h1:y 1 = .int .u64 b):Value.agg (aA 2 y)=kS a b:=by
 unfold kS
 congr 1
 apply Array.ext'
 rw[Ao]
 show [y 0,y 1]=_
 rw[c,h1]
structure oG(P:Program)(K:TypeId):Prop where
 kt:P.keyTypeAt 12 K=true
 fl:flatK P 12 K=some [some .i64,some .u64]
 ag:zS P K=true
section
variable {P:Program} {K:TypeId} {a b c d:Int} {w:World}
theorem oG.wide(h:oG P K):(match P.underlying K with|some (.array _ _)|some (.struct _)=>true|_=>false)=true:=by
 have h:=h.ag
 unfold zS at h
 cases hu:P.underlying K with
 | none=>rw[hu]at h; cases h
 | some d=>rw[hu]at h; cases d <;> first|rfl|(cases h)
theorem wV.fit(h:wV a b):Fit [some .i64,some .u64] (#[Value.int .i64 a,.int .u64 b]:Array Value).toList [.int .i64 a,.int .u64 b]:=by
 refine⟨?_,?_,trivial⟩
 ·simp[mJ,Oe h.a]
 simp[mJ,nK h.b]
theorem oG.eq(e:oG P K)(h1:wV a b)(f:wV c d)(w:World) : ∃ r:Bool,(Op.equal K (kS a b) (kS c d)).run P w = .ok r w/\(r=true<->kS a b=kS c d):=by
 refine⟨decide (a=c/\b=d),?_,?_⟩
 ·have:=jT w 12 9988 K _ #[.int .i64 a,.int .u64 b] #[.int .i64 c,.int .u64 d] _ _ e.kt e.fl e.wide h1.fit f.fit (decide (a=c/\b=d)) (by simp)
  exact this
 rw[decide_eq_true_iff]
 constructor
 ·rintro ⟨rfl,rfl⟩; rfl
 exact Fv
theorem oG.formed(g:oG P K)(h1:wV a b):(kS a b).formed P K=true:=by
 have d:=g.wide
 have c:=g.fl
 unfold Value.formed kS
 cases hu:P.underlying K with
 | none=>rw[hu]at d; cases d
 | some td =>
   have h:P.cellsOf K=2:=by
    unfold flatK at c
    rw[hu]at c d
    cases td with
    | array n e =>
      simp only at c
      cases h2:flatK P 11 e with
      | none=>rw[h2]at c; cases c
      | some l =>
        rw[h2]at c
        simp only at c
        split at c
        ·rename_i h3
         simp only[Option.some.injEq]at c
         have f:=congrArg List.length c
         rw[lI]at f
         exact h3.2.symm.trans f
        ·cases c
    | struct fs =>
      simp only at c
      cases h2:oh P.cellsOf (flatK P 11) fs.toList 0 with
      | none=>rw[h2]at c; cases c
      | some l =>
        rw[h2]at c
        simp only at c
        split at c
        ·rename_i h3
         simp only[Option.some.injEq]at c
         rw[<- h3,c]; rfl
        ·cases c
    | _=>cases d
   rw[hu]at d
   cases td <;> first|(cases d; done)|simp[h]
theorem oG.check(c:oG P K)(h1:wV a b)(d:Bool)(w:World):(Instr.checkKey d 10000 K (kS a b)).run P w = .ok () w:=by
 have h:=run_checkKey_deep d 9988 12 K c.kt
 exact h w 12 (kS a b) _ (c.formed h1) (kH 12 K _ _ _ c.fl (by simpa [Value.cells,kS] using h1.fit))
theorem Du(a b:Int):Instr.sameBits 10000 (kS a b) (kS a b)=true:=by
 unfold kS
 show Instr.sameBits (9999+1) _ _=true
 simp[Instr.sameBits]
end
def fq(w:World)(b n:Nat)(k1 k2:Nat->Int)(val:Nat->Value):Prop :=
 ∃ a c,w.heap[b]? = some (.map a c)/\Stamped a c/\a.size=n /\ ∀ i,i<n -> ∃ e,a[i]? = some e/\e.key=kS (k1 i) (k2 i)/\e.val=val i/\wV (k1 i) (k2 i)
section
variable {w w':World} {b n:Nat} {k1 k2:Nat->Int} {val:Nat->Value}
theorem fq.lt(h:fq w b n k1 k2 val):b<w.heap.size:=by
 obtain⟨a,c,h,_⟩:=h
 exact(Array.getElem?_eq_some_iff.1 h).1
theorem fq.keep(h:fq w b n k1 k2 val)(e:w'.heap[b]? = w.heap[b]?):fq w' b n k1 k2 val:=by
 obtain⟨a,c,d,f⟩:=h
 exact⟨a,c,e.trans d,f⟩
theorem fq.eH{g:Nat}(h:fq w b n k1 k2 val)(a:Stp g w w')(c:b≠g):fq w' b n k1 k2 val:=h.keep (a.block b h.lt c)
theorem fq.up(h:fq w b n k1 k2 val)(a:Below w.heap.size w w'):fq w' b n k1 k2 val:=h.keep (a.block b h.lt)
instance:Rt.Tr w w' (fq w b n k1 k2 val) (fq w' b n k1 k2 val):=⟨fun b h=>h.up b⟩
theorem fq.lK{T:TypeId}(h:fq w b n k1 k2 val)(a:Ty w b T):False:=by
 obtain⟨e,c,h,_⟩:=h
 obtain⟨d,a⟩:=a
 rw[h]at a; cases a
theorem fq.nH{a:List TypeId}(h:fq w b n k1 k2 val)(c:jD a w w')(_:True):fq w' b n k1 k2 val:=h.keep (c.block b h.lt fun _ d=>(h.lK d).elim)
instance {a:List TypeId}:Rt.Tc a w w' (fq w b n k1 k2 val) (fq w' b n k1 k2 val) true:=⟨fun b h _=>h.nH b trivial⟩
theorem fq.wB(h:fq w b n k1 k2 val)(a:Stp b w w'):Ja b w w':=⟨a,fun _ c=>h.lK c⟩
theorem fq.cB{r:Nat}(h:fq w b n k1 k2 val)(a:Ja r w w')(c:b≠r):fq w' b n k1 k2 val:=h.eH a.s c
theorem fq.ok(h:fq w b n k1 k2 val){i:Nat}(hi:i<n):wV (k1 i) (k2 i):=by
 obtain⟨f,c,_,_,_,a⟩:=h
 obtain⟨e,_,_,_,d⟩:=a i hi; exact d
theorem fq.nM{l m:Nat->Int}{o:Nat->Value}(h:fq w b n k1 k2 val)(e : ∀ i,i<n->k1 i=l i/\k2 i=m i/\val i=o i):fq w b n l m o:=by
 obtain⟨q,c,r,s,t,u⟩:=h
 exact⟨q,c,r,s,t,fun i hi=>by
  obtain⟨x,a,d,f,g⟩:=u i hi
  obtain⟨j,k,p⟩:=e i hi
  exact⟨x,a,by rw[d,j,k],by rw[f,p],by rw[<- j,<- k]; exact g⟩⟩
theorem fq.inj(h:fq w b n k1 k2 val) : ∀ i j,i<n->j<n->k1 i=k1 j->k2 i=k2 j->i=j:=fun i j hi u g k=>by
 obtain⟨f,c,_,⟨_,_,v⟩,hn,hg⟩:=h
 obtain⟨x,d,r,_⟩:=hg i hi
 obtain⟨y,e,s,_⟩:=hg j u
 rw[Array.getElem?_eq_some_iff]at d e
 obtain⟨o,d⟩:=d
 obtain⟨p,e⟩:=e
 have z:=List.pairwise_iff_getElem.1 v
 have q : ∀ a c (l:a<f.size) (m:c<f.size),a<c->f[a].key≠f[c].key:=fun a c l m t=>by
  have:=z a c (by simpa using l) (by simpa using m) t
  simpa only[List.getElem_map,Array.getElem_toList] using this
 rcases Nat.lt_trichotomy i j with h1|h1|h1
 ·exact absurd (by rw[d,e,r,s,g,k]) (q i j o p h1)
 ·exact h1
 ·exact absurd (by rw[d,e,r,s,g,k]) (q j i p o h1)
end
theorem qh(k1 k2:Nat->Int)(n:Nat)(a b:Int):(∃ j,j<n/\k1 j=a/\k2 j=b) \/ ∀ i,i<n -> ¬ (k1 i=a/\k2 i=b):=by
 by_cases h : ∃ j,j<n/\k1 j=a/\k2 j=b
 ·exact .inl h
 exact .inr fun i hi e=>h ⟨i,hi,e⟩
section
variable {P:Program} {f:Nat->Value} {w:World} {o:Oper} {K:TypeId}
variable {b n:Nat} {k1 k2:Nat->Int} {val:Nat->Value}
theorem Dv(k:oG P K){x y:Int}(l:wV x y)(w:World) : ∀(a:List MapEntry) (i:Nat),(∀ e∈a,∃ u v,e.key=kS u v/\wV u v) ->
 ((Instr.findAsking K (kS x y) a i).run P w = .ok none w /\ ∀ e∈a,e.key≠kS x y) \/ ∃ j e,(Instr.findAsking K (kS x y) a i).run P w = .ok (some (i+j,e.val)) w/\a[j]? = some e/\e.key=kS x y
 | [],i,_ => .inl ⟨by simp[Instr.findAsking],by simp⟩
 | e::a,i,hall=>by
   obtain⟨u,v,m,o⟩:=hall e (by simp)
   obtain⟨r,c,g⟩:=k.eq l o w
   rw[<- m]at c g
   cases r
   ·have n:e.key≠kS x y:=fun h=>by have:=g.2 h.symm; cases this
    rcases Dv k l w a (i+1) (fun y b=>hall y (by simp[b]))with ⟨d,f⟩|⟨j,e',d,f,h3⟩
    ·left
     refine⟨by simp[Instr.findAsking,c,d],fun y b => ?_⟩
     rcases List.mem_cons.1 b with rfl|b
     ·exact n
     ·exact f y b
    ·right
     exact⟨j+1,e',by simp[Instr.findAsking,c,d,Nat.add_assoc,Nat.add_comm 1 j],by simpa using f,h3⟩
   ·right
    exact⟨0,e,by simp[Instr.findAsking,c],rfl,(g.1 rfl).symm⟩
theorem fq.find(h:fq w b n k1 k2 val)(p:oG P K){a:Array MapEntry}{c:Nat}(t:w.heap[b]? = some (.map a c)){x y:Int}(z:wV x y) :
 ((Instr.findKey K (kS x y) a.toList).run P w = .ok none w /\ ∀ i,i<n -> ¬ (k1 i=x/\k2 i=y)) \/ ∃ j,j<n/\k1 j=x/\k2 j=y/\(Instr.findKey K (kS x y) a.toList).run P w = .ok (some (j,val j)) w:=by
 obtain⟨F,E,l,G,o,m⟩:=h
 rw[t]at l
 simp only[Option.some.injEq,Obj.map.injEq]at l
 obtain⟨rfl,rfl⟩:=l
 have A : ∀ e∈a.toList,∃ u v,e.key=kS u v/\wV u v:=fun x B=>by
  obtain⟨i,hi,e⟩:=List.getElem_of_mem B
  obtain⟨y,g,k,_,C⟩:=m i (by simpa [<- o] using hi)
  have:y=x:=by
   have d:a.toList[i]? = some x:=by rw[List.getElem?_eq_getElem hi,e]
   rw[Array.getElem?_toList,g]at d
   exact Option.some.inj d
  subst this
  exact⟨_,_,k,C⟩
 rw[run_findKey_eq w p.wide]
 rcases Dv p z w a.toList 0 A with ⟨d,f⟩|⟨j,e,d,f,h7⟩
 ·left
  refine⟨d,fun i hi e => ?_⟩
  obtain⟨y,g,k,_⟩:=m i hi
  exact f y (Array.mem_toList_iff.2 (Array.mem_of_getElem? g)) (by rw[k,e.1,e.2])
 right
 have q:j<n:=by
  rw[Array.getElem?_toList]at f
  rw[<- o]; exact(Array.getElem?_eq_some_iff.1 f).1
 obtain⟨y,g,k,D,_⟩:=m j q
 rw[Array.getElem?_toList,g]at f
 obtain rfl:=Option.some.inj f
 rw[k]at h7
 obtain⟨r,s⟩:=Fv h7
 exact⟨j,q,r,s,by rw[d,Nat.zero_add,D]⟩
theorem jI{T E:TypeId}{x y:Int}{ok:Bool}{z:Value}(m:wV x y)(h:fq w b n k1 k2 val)(o:P.underlying T=some (.map K E))(k:oG P K)(v:(zeroValue E).run P w = .ok z w) :
 ((∀ i,i<n -> ¬ (k1 i=x/\k2 i=y))->(Instr.lookup T (.map (some b)) (kS x y) ok).run P w = .ok (if ok then .tuple #[z,.bool false]else z) w) /\
 ∀ j,j<n->k1 j=x->k2 j=y->(Instr.lookup T (.map (some b)) (kS x y) ok).run P w = .ok (if ok then .tuple #[val j,.bool true]else val j) w:=by
 have t:=h
 obtain⟨q,c,f,_⟩:=t
 have l:=k.check m q.isEmpty w
 rcases h.find k f m with ⟨g,r⟩|⟨j,a,hkj,KC,g⟩
 ·refine⟨fun _ => ?_,fun j a e d=>absurd ⟨e,d⟩ (r j a)⟩
  unfold Instr.lookup
  simp only[Sem.run_bind,run_underlying o,Result.andThen_ok,Go.MapKept.run_getObj_map f,Sem.run_pure,l,g,v]
 refine⟨fun u=>absurd ⟨hkj,KC⟩ (u j a),fun p s e d => ?_⟩
 obtain rfl:p=j:=h.inj p j s a (e.trans hkj.symm) (d.trans KC.symm)
 unfold Instr.lookup
 simp only[Sem.run_bind,run_underlying o,Result.andThen_ok,Go.MapKept.run_getObj_map f,Sem.run_pure,l,g]
variable {T E:TypeId} {x ix:Operand} {a r:Int} {z v:Value} {j:Nat}
theorem Dw(g:o.op = .lookup T x ix false)(hx:ev f x = .map (some b))(hi:ev f ix=kS a r)(d:wV a r)(h:fq w b n k1 k2 val)(j:P.underlying T=some (.map K E))(c:oG P K)(k:(zeroValue E).run P w = .ok z w)(e : ∀ i,i<n -> ¬ (k1 i=a/\k2 i=r)):Runs P f o w z:=by
 unfold Runs execOp
 simp only[g,hx,hi,Sem.run_bind,((jI (ok:=false) d h j c k).1 e),Result.andThen_ok,Sem.run_pure]; rfl
theorem Dx(k:o.op = .lookup T x ix false)(hx:ev f x = .map (some b))(hi:ev f ix=kS a r)(i:wV a r)(h:fq w b n k1 k2 val)(l:P.underlying T=some (.map K E))(e:oG P K)(p:(zeroValue E).run P w = .ok z w)(g:j<n)(c:k1 j=a)(d:k2 j=r)(m:val j=v):Runs P f o w v:=by
 subst m
 unfold Runs execOp
 simp only[k,hx,hi,Sem.run_bind,((jI (ok:=false) i h l e p).2 j g c d),Result.andThen_ok,Sem.run_pure]; rfl
theorem Jb(g:o.op = .lookup T x ix true)(hx:ev f x = .map (some b))(hi:ev f ix=kS a r)(d:wV a r)(h:fq w b n k1 k2 val)(j:P.underlying T=some (.map K E))(c:oG P K)(k:(zeroValue E).run P w = .ok z w)(e : ∀ i,i<n -> ¬ (k1 i=a/\k2 i=r)):Runs P f o w (.tuple #[z,.bool false]):=by
 unfold Runs execOp
 simp only[g,hx,hi,Sem.run_bind,((jI (ok:=true) d h j c k).1 e),Result.andThen_ok,Sem.run_pure]; rfl
theorem Jc(k:o.op = .lookup T x ix true)(hx:ev f x = .map (some b))(hi:ev f ix=kS a r)(i:wV a r)(h:fq w b n k1 k2 val)(l:P.underlying T=some (.map K E))(e:oG P K)(p:(zeroValue E).run P w = .ok z w)(g:j<n)(c:k1 j=a)(d:k2 j=r)(m:val j=v):Runs P f o w (.tuple #[v,.bool true]):=by
 subst m
 unfold Runs execOp
 simp only[k,hx,hi,Sem.run_bind,((jI (ok:=true) i h l e p).2 j g c d),Result.andThen_ok,Sem.run_pure]; rfl
end
section
variable {P:Program} {w:World} {b n:Nat} {k1 k2:Nat->Int} {val:Nat->Value} {K:TypeId}
theorem qj{T E:TypeId}{x y:Int}{v:Value}(u:wV x y)(h:fq w b n k1 k2 val)(L:P.underlying T=some (.map K E))(I:oG P K) :
 (∀ j,j<n->k1 j=x->k2 j=y -> ∃ w',(Instr.mapUpdate T (.map (some b)) (kS x y) v).run P w = .ok () w'/\fq w' b n k1 k2 (aI val j v)/\Stp b w w'/\w'.heap.size=w.heap.size) /\
 ((∀ i,i<n -> ¬ (k1 i=x/\k2 i=y)) -> ∃ w',(Instr.mapUpdate T (.map (some b)) (kS x y) v).run P w = .ok () w'/\fq w' b (n+1) (aI k1 n x) (aI k2 n y) (aI val n v)/\Stp b w w'/\w'.heap.size=w.heap.size):=by
 have V:=h
 obtain⟨g,c,d,G,m,p⟩:=V
 have J:=I.check u false w
 rcases h.find I d u with ⟨t,H⟩|⟨j,o,hkj,KC,t⟩
 ·refine⟨fun j o e f=>absurd ⟨e,f⟩ (H j o),fun _ => ?_⟩
  obtain⟨B,C,D⟩:=BS (o' := .map (g.push { key:=kS x y,val:=v,born:=c }) (c+1)) d
  have A:(Instr.mapUpdate T (.map (some b)) (kS x y) v).run P w = .ok () { w with heap:=w.heap.setIfInBounds b (.map (g.push { key:=kS x y,val:=v,born:=c }) (c+1)) }:=by
   unfold Instr.mapUpdate
   simp only[Sem.run_bind,run_underlying L,Result.andThen_ok,Go.MapKept.run_getObj_map d,J,t]
   exact run_setObj_map _ d
  refine⟨_,A,⟨_,_,B,stamped_push G fun q r e => ?_,by simp[m],fun i hi => ?_⟩,C,D⟩
  ·obtain⟨i,hi,S⟩:=List.getElem_of_mem r
   obtain⟨z,k,l,_⟩:=p i (by simpa [<- m] using hi)
   have F:g.toList[i]? = some q:=by rw[List.getElem?_eq_getElem hi,S]
   rw[Array.getElem?_toList,k]at F
   obtain rfl:=Option.some.inj F
   rw[l]at e
   exact H i (by simpa [<- m] using hi) (Fv e)
  by_cases e:i=n
  ·subst e
   refine⟨_,by rw[Array.getElem?_push,if_pos m.symm],?_,?_,?_⟩
   ·show kS x y=_; unfold aI; rw[if_pos rfl,if_pos rfl]
   ·show v=_; unfold aI; rw[if_pos rfl]
   unfold aI; rw[if_pos rfl,if_pos rfl]; exact u
  obtain⟨z,k,l,Q,O⟩:=p i (by omega)
  refine⟨z,by rw[Array.getElem?_push,if_neg (by omega)]; exact k,?_,?_,?_⟩
  ·unfold aI; rw[if_neg e,if_neg e]; exact l
  ·unfold aI; rw[if_neg e]; exact Q
  unfold aI; rw[if_neg e,if_neg e]; exact O
 refine⟨fun a U e f => ?_,fun W=>absurd ⟨hkj,KC⟩ (W j o)⟩
 obtain rfl:a=j:=h.inj a j U o (e.trans hkj.symm) (f.trans KC.symm)
 obtain⟨z,k,l,Q,O⟩:=p a o
 obtain⟨B,C,D⟩:=BS (o' := .map (g.modify a fun q => { q with key:=kS x y,val:=v }) c) d
 have X:(Instr.keyThatStays (((g[a]?).map (·.key)).getD (kS x y)) (kS x y)).run P w = .ok (kS x y) w:=by
  rw[k]
  show(Instr.keyThatStays z.key (kS x y)).run P w=_
  rw[l,e,f]
  unfold Instr.keyThatStays
  rw[if_pos (Du x y)]; rfl
 have A:(Instr.mapUpdate T (.map (some b)) (kS x y) v).run P w = .ok () { w with heap:=w.heap.setIfInBounds b (.map (g.modify a fun q => { q with key:=kS x y,val:=v }) c) }:=by
  unfold Instr.mapUpdate
  simp only[Sem.run_bind,run_underlying L,Result.andThen_ok,Go.MapKept.run_getObj_map d,J,t,X]
  exact run_setObj_map _ d
 refine⟨_,A,⟨_,_,B,stamped_modify G a _ (fun _ _=>rfl) (fun q _ r => ?_),by simp[m],fun i hi => ?_⟩,C,D⟩
 ·rw[k]at r
  obtain rfl:=Option.some.inj r
  show kS x y=z.key
  rw[l,e,f]
 obtain⟨R,M,Y,Z,N⟩:=p i hi
 by_cases s:a=i
 ·subst s
  refine⟨{ R with key:=kS x y,val:=v },by rw[Array.getElem?_modify,if_pos rfl,M]; rfl,?_,?_,N⟩
  ·show kS x y=_; rw[e,f]
  show v=_; unfold aI; rw[if_pos rfl]
 refine⟨R,by rw[Array.getElem?_modify,if_neg s]; exact M,Y,?_,N⟩
 unfold aI; rw[if_neg (fun h=>s h.symm)]; exact Z
end
section
variable {P:Program} {n0:Nat} {Q:Post} {f:Nat->Value} {w:World} {ops:Array Oper} {rest:List Oper} {o:Oper} {b n:Nat} {k1 k2:Nat->Int} {val:Nat->Value} {T K E:TypeId} {x ix v:Operand} {a r:Int} {u:Value} {j:Nat}
theorem L.Vt(B:Region.wanted o (yf ops f)=true)(c:o.dst=none)(s:o.op = .mapUpdate T x ix v)(hx:ev f x = .map (some b))(hi:ev f ix=kS a r)(q:wV a r)(A:ev f v=u)(h:fq w b n k1 k2 val)(z:P.underlying T=some (.map K E))(l:oG P K)(p:j<n)(d:k1 j=a)(e:k2 j=r)
 (m : ∀ w',fq w' b n k1 k2 (aI val j u)->Stp b w w'->w'.heap.size=w.heap.size->L P n0 ops Q rest f w'):L P n0 ops Q (o::rest) f w:=by
 obtain⟨w',t,g,i,k⟩:=(qj (v:=u) q h z l).1 j p d e
 have y:(execOp (ev f) o).run P w = .ok .skip w':=by
  unfold execOp
  simp only[s,hx,hi,A,Sem.run_bind,t,Result.andThen_ok,Sem.run_pure]
 refine L.unit B y (by rw[c]; rfl) ?_
 rw[c]; exact m w' g i k
theorem L.KD(z:Region.wanted o (yf ops f)=true)(c:o.dst=none)(p:o.op = .mapUpdate T x ix v)(hx:ev f x = .map (some b))(hi:ev f ix=kS a r)(l:wV a r)(y:ev f v=u)(h:fq w b n k1 k2 val)(t:P.underlying T=some (.map K E))(j:oG P K)(m : ∀ i,i<n -> ¬ (k1 i=a/\k2 i=r))
 (k : ∀ w',fq w' b (n+1) (aI k1 n a) (aI k2 n r) (aI val n u)->Stp b w w'->w'.heap.size=w.heap.size->L P n0 ops Q rest f w'):L P n0 ops Q (o::rest) f w:=by
 obtain⟨w',q,d,e,g⟩:=(qj (v:=u) l h t j).2 m
 have s:(execOp (ev f) o).run P w = .ok .skip w':=by
  unfold execOp
  simp only[p,hx,hi,y,Sem.run_bind,q,Result.andThen_ok,Sem.run_pure]
 refine L.unit z s (by rw[c]; rfl) ?_
 rw[c]; exact k w' d e g
theorem L.KE{T:TypeId}(e:Region.wanted o (yf ops f)=true)(b:inn n0 o.dst=true)(c:o.op = .makeMap T none)
 (a : ∀ g w',g=w.heap.size->fq w' g 0 (fun _=>0) (fun _=>0) (fun _ => .pointer none)->Stp w.heap.size w w'->w'.heap.size=w.heap.size+1->L P n0 ops Q rest (put f o.dst (.map (some g))) w'):L P n0 ops Q (o::rest) f w:=by
 have d:(execOp (ev f) o).run P w = .ok (.value (.map (some w.heap.size))) (w.alloc (.map #[] 0)):=by
  unfold execOp
  simp only[c,Option.map_none]
  simp[run_makeMap']
 refine L.val e d b (a _ _ rfl ?_ (Stp.alloc _ _) (by simp))
 exact⟨#[],0,by rw[alloc_at,if_pos rfl],stamped_empty 0,rfl,fun i hi=>absurd hi (Nat.not_lt_zero _)⟩
theorem L.Sm(J:Region.wanted o (yf ops f)=true)(A:inn n0 o.dst=true)(D:o.op = .range T x)(hx:ev f x = .map (some b))(h:fq w b n k1 k2 val)(I:P.underlying T=some (.map K E))
 (l : ∀ g w',g=w.heap.size->It w' g b n (fun _=>false)->Stp w.heap.size w w'->w'.heap.size=w.heap.size+1->L P n0 ops Q rest (put f o.dst (.pointer (some ⟨g,0,none⟩))) w'):L P n0 ops Q (o::rest) f w:=by
 have C:=h
 obtain⟨d,c,p,m,u,v⟩:=C
 have G:=run_range_map (P:=P) w T K E b d c I p
 have H:(execOp (ev f) o).run P w = .ok (.value (.pointer (some ⟨w.heap.size,0,none⟩))) (w.alloc (.mapIter (some b) c #[] c)):=by
  unfold execOp
  simp only[D,hx,Sem.run_bind,G,Result.andThen_ok,Sem.run_pure]
 refine L.val J H A (l _ _ rfl ?_ (Stp.alloc _ _) (by simp))
 refine⟨d,c,c,#[],c,?_,by rw[alloc_at,if_pos rfl],m.1,Nat.le_refl _,u,m.1,Nat.le_refl _,fun i j x y hx k e => ?_,fun i hi => ?_⟩
 ·rw[alloc_at,if_neg (Nat.ne_of_lt h.lt)]; exact p
 ·rw[Array.getElem?_eq_some_iff]at hx k
  obtain⟨r,hx⟩:=hx
  obtain⟨s,k⟩:=k
  have F:=List.pairwise_iff_getElem.1 m.2.1
  have t : ∀ a c (q:a<d.size) (l:c<d.size),a<c->d[a].born≠d[c].born:=fun a c q l z=>by
   have:=F a c (by simpa using q) (by simpa using l) z
   simpa only[List.getElem_map,Array.getElem_toList] using this
  rcases Nat.lt_trichotomy i j with h5|h5|h5
  ·exact absurd (by rw[hx,k,e]) (t i j r s h5)
  ·exact h5
  exact absurd (by rw[hx,k,e]) (t j i s r h5)
 obtain⟨e,B,_⟩:=v i hi
 exact⟨e,B,by simp⟩
theorem L.Vu{x:Operand}{r:Nat}{S:Nat->Bool}(R:Region.wanted o (yf ops f)=true)(K:inn n0 o.dst=true)(M:o.op = .next x false)(hx:ev f x = .pointer (some ⟨r,0,none⟩))(h:fq w b n k1 k2 val)(hi:It w r b n S)
 (hc0:(∀ i,i<n->S i=true)->L P n0 ops Q rest (put f o.dst (.tuple #[.bool false])) w)
 (hc1 : ∀ i w',i<n->S i=false->It w' r b n (aI S i true)->tN w' r b i->Stp r w w'->w'.heap.size=w.heap.size->L P n0 ops Q rest (put f o.dst (.tuple #[.bool true,kS (k1 i) (k2 i),val i])) w'):L P n0 ops Q (o::rest) f w:=by
 obtain⟨g,c,d,a,W,l,s,H,Z,h5,h6,I,J,C⟩:=hi
 obtain⟨es',c',G,Yz,_,k4⟩:=h
 rw[l]at G
 simp only[Option.some.injEq,Obj.map.injEq]at G
 obtain⟨rfl,rfl⟩:=G
 have hrb:r≠b:=fun e=>by rw[e,l]at s; cases s
 rcases run_next_at (P:=P) w o.type r b d W a g c s l H Z with ⟨z,E⟩|⟨e,he,w1,hw1,E⟩
 ·have t:(execOp (ev f) o).run P w = .ok (.value (.tuple #[.bool false])) w:=by
   unfold execOp
   simp only[M,hx,Sem.run_bind,E,Result.andThen_ok,Sem.run_pure]
  refine L.val R t K<|hc0 fun i hi => ?_
  obtain⟨y,u,F⟩:=C i hi
  rw[<- F]
  cases hq:a.contains y.born with
  | true=>rfl
  | false =>
    have q:y∈leftOf g a:=by
     unfold leftOf
     rw[Array.mem_filter]
     exact⟨Array.mem_of_getElem? u,by rw[hq]; rfl⟩
    have:=Array.size_pos_of_mem q
    omega
 have t:(execOp (ev f) o).run P w = .ok (.value (.tuple #[.bool true,e.key,e.val])) (Go.ChangeMaps.setBlock w1 r (.mapIter (some b) d (a.push e.born) c)):=by
  unfold execOp
  simp only[M,hx,Sem.run_bind,E,Result.andThen_ok,Sem.run_pure]
 have q:e∈leftOf g a:=Array.mem_toList_iff.1 he
 unfold leftOf at q
 rw[Array.mem_filter]at q
 obtain⟨hme,hns⟩:=q
 obtain⟨i,hi,Y⟩:=Array.getElem_of_mem hme
 have m:g[i]? = some e:=by rw[Array.getElem?_eq_getElem hi,Y]
 obtain⟨y,u,ky,vy,_⟩:=k4 i (by omega)
 rw[m]at u
 obtain rfl:=Option.some.inj u
 obtain⟨y2,T,F⟩:=C i (by omega)
 rw[m]at T
 obtain rfl:=Option.some.inj T
 have hsf:S i=false:=by rw[<- F]; simpa using hns
 have p:w1.os=w.os/\w1.tape=w.tape/\w1.output=w.output/\w1.heap=w.heap:=by rcases hw1 with rfl|rfl <;> exact⟨rfl,rfl,rfl,rfl⟩
 have O:(Go.ChangeMaps.setBlock w1 r (.mapIter (some b) d (a.push e.born) c)).heap.size=w.heap.size:=by
  show(w1.heap.setIfInBounds r _).size=_; rw[p.2.2.2]; simp
 have N:Stp r w (Go.ChangeMaps.setBlock w1 r (.mapIter (some b) d (a.push e.born) c)) :=
  ⟨p.1,p.2.1,p.2.2.1,by rw[O]; exact Nat.le_refl _,fun k _ D=>by show(w1.heap.setIfInBounds r _)[k]? = _; rw[p.2.2.2,Array.getElem?_setIfInBounds_ne (Ne.symm D)]⟩
 have Sl:r<w1.heap.size:=by
  rcases hw1 with rfl|rfl <;> exact(Array.getElem?_eq_some_iff.1 s).1
 rw[ky,vy]at t
 have U:(Go.ChangeMaps.setBlock w1 r (.mapIter (some b) d (a.push e.born) c)).heap[b]? = some (.map g c):=by rw[N.block b (Array.getElem?_eq_some_iff.1 l).1 (Ne.symm hrb)]; exact l
 have V:(Go.ChangeMaps.setBlock w1 r (.mapIter (some b) d (a.push e.born) c)).heap[r]? = some (.mapIter (some b) d (a.push e.born) c):=by simp[Go.ChangeMaps.setBlock,Sl]
 refine L.val R t K (hc1 i _ (by omega) hsf ⟨g,c,d,a.push e.born,c,U,V,H,I,h5,h6,I,J,fun j hj => ?_⟩ ⟨g,c,d,a,e,U,V,m,Yz.2.1⟩ N O)
 obtain⟨A,v,hs3⟩:=C j hj
 refine⟨A,v,?_⟩
 unfold aI
 by_cases B:j=i
 ·subst B
  rw[m]at v
  obtain rfl:=Option.some.inj v
  rw[if_pos rfl]; simp
 rw[if_neg B,<- hs3]
 have D:A.born≠e.born:=fun X=>B (J j i A e v m X)
 cases hq:a.contains A.born with
 | true=>simp at hq ⊢; exact .inl hq
 | false=>simp at hq ⊢; exact⟨hq,D⟩
theorem KF{x:Operand}{r i:Nat}(q:o.op = .entry x)(hx:ev f x = .pointer (some ⟨r,0,none⟩))(h:fq w b n k1 k2 val)(hi:tN w r b i)(p:i<n):Runs P f o w (.tuple #[kS (k1 i) (k2 i),val i]):=by
 obtain⟨k,c,s,z,e,d,l,g,m⟩:=hi
 obtain⟨C,B,a,_,_,u⟩:=h
 rw[d]at a
 simp only[Option.some.injEq,Obj.map.injEq]at a
 obtain⟨rfl,rfl⟩:=a
 obtain⟨y,j,v,A,_⟩:=u i p
 rw[g]at j
 obtain rfl:=Option.some.inj j
 have t:=run_entry_at (P:=P) w r b s z k c e l d (Array.mem_toList_iff.2 (Array.mem_of_getElem? g)) m
 unfold Runs execOp
 simp only[q,hx,Sem.run_bind,t,Result.andThen_ok,Sem.run_pure,v,A]
end
end Go.Proofs.YtcbedgfikejkoaaDoor.Fx
namespace Go.Proofs.YtcbedgfikejkoaaDoor
open Go.RowKit Go
set_option linter.unusedVariables false
namespace Vv
def G5{c:Type}(q:Nat)(J:c->World->Prop):Prop := ∀ s W a b,J s W->W.grownBy a b->(∀ r,b=some r->r=q)->J s a
def Vw{d:Type}(F:Fence)(n:Nat)(P:Program)(g:Nat)(lb:Array Value)(j:d->Array Value)(i:World->World->Prop)(S:List d->Prop)(N q:Nat)(h:World->Prop):Prop :=
 ∀(l:Nat) (J:List d->World->Prop) (W:World),h W->G5 q J ->
  (∀ c x b,J c b->c.length<N->YieldAt F (n-1) P l (j x) b fun e a=>e = .returned (.bool true)/\J (c ++ [x]) a/\i b a) ->
  J [] W ->
  CallsIn F n P g (#[.func (.yield l) #[] #[]]++lb) W fun e a=>(∃ v,e = .returned v) /\ ∃ f,S f/\J f a
def Jd{c:Type}(q B:Nat)(I:c->World->Prop):Prop :=
 ∀ s W a b,I s W->W.grownBy a b->(∀ r,b=some r->r=q\/(B<=r /\ ∃ o:Obj,W.heap[r]? = some o/\o.isCells=false))->I s a
variable {F:Fence} {n:Nat} {P:Program}
theorem Jd.putObj{a:Type}{q B:Nat}{I:a->World->Prop}(h:Jd q B I){s:a}{W:World}{l:Nat}{o:Obj}(o':Obj)(f:I s W)(b:B<=l)(c:W.heap[l]? = some o)(d:o.isCells=false):I s (W.putObj l o') :=
 h s W _ (some l) f (grownBy_putObj' W l o') (fun r e=>by cases e; exact .inr ⟨b,o,c,d⟩)
theorem Jd.alloc{a:Type}{q B:Nat}{I:a->World->Prop}(h:Jd q B I){s:a}{W:World}(o:Obj)(b:I s W):I s (W.alloc o) :=
 h s W _ none b (World.grownBy_alloc W o none) (fun r e=>by cases e)
def Vx{a:Type}(b:World->World->Prop)(I:List a->World->Prop)(c:List a)(W:World):Exit->Act->World->Prop
 | .normal,_,W'=>KeepsOthers W W'/\b W W'/\I c W'
 | _,_,_=>False
theorem Ar{W a:World}{q:Nat}{row:Option Nat}(b:W.grownBy a row)(f : ∀ r,row=some r->r=q){k:Nat}{o:Obj}(c:W.heap[k]? = some o)(d:k≠q):a.heap[k]? = W.heap[k]? :=
 b.block k (Array.getElem?_eq_some_iff.1 c).1 fun e=>d (f k e.symm)
theorem wW{α:Type}{g:Operand}{ps:Array Tmp}{assign body:Code}{Q:Exit->Act->World->Prop}{a:Act}{w:World}
 (hro:F.round=none) (h1:1<=n) {gf:Nat} {lb:Array Value} (hg:a.eval g = .func (.func gf) #[] lb) (hFg:F.fn gf) (eg : ∀ args w,(callFunc gf args).run P w = .ok (.enter gf args) w)
 {encs:α->Array Value} {Kp:World->World->Prop} {S:List α->Prop} {N q:Nat} {Ip:World->Prop} (hseq:Vw F (n-1) P gf lb encs Kp S N q Ip) (hq:q<w.heap.size)
 (YB:Ip w) (Fw : ∀ W o,w.heap.size<=W.heap.size->Ip W->Ip (W.alloc o))
 (hKt : ∀ {A B C:World},Kp A B->Kp B C->Kp A C) (hKb : ∀(W:World) (l:Nat) (o o':Obj),w.heap.size<=l->W.heap[l]? = some o->o.isCells=false->o.isWalk=false->Kp W (W.putObj l o')) (hps : ∀ x,(encs x).size=ps.size)
 (I:List α->World->Prop) (hI:Jd q w.heap.size I) (h0:I [] w) (A₁:α->Act->Prop)
 (hassign : ∀(l:Nat) (x:α) (W:World),assign.wpIn (F.inRound l) (n-1-1) P (Exit.then (fun a' W'=>A₁ x a'/\W'=W) (fun _ _ _=>False)) { tmps:=(ps.zip (encs x)).foldl (fun t (p,v)=>t.setIfInBounds p v) a.tmps,defers := [] } W)
 (hbody : ∀(l:Nat) (pre:List α) (x:α) (W:World) (a':Act),A₁ x a'->I pre W->pre.length<N->body.wpIn (F.inRound l) (n-1-1) P (Vx Kp I (pre ++ [x]) W) a' W)
 (hdone : ∀(D:Nat) (xs:List α) (W:World),w.heap.size<=D->S xs->I xs W->W.heap[D]? = some (.deferred (some []))->Q .normal { a with defers := { target := .collected D,args := #[] }::a.defers } W) :
 (Code.rangeFunc g ps assign body).wpIn F n P Q a w:=by
 refine wpIn_rangeFunc ?_
 intro fn hfn
 rw[hro]
 obtain⟨rec,hrec⟩ : ∃ rec:LoopState->Option Code->Loop,rec=fun st pe => { state:=st,pending:=pe,fn,tmps:=a.tmps,params:=ps,assign,body,defers:=w.heap.size }:=⟨_,rfl⟩
 obtain⟨W1,hW1⟩ : ∃ W1,(w.alloc (.deferred (some []))).alloc (.loop (rec .ready none))=W1:=⟨_,rfl⟩
 have hL1:W1.heap[w.heap.size+1]? = some (.loop (rec .ready none)):=by
  rw[<- hW1]; have:=World.alloc_heap_new (w.alloc (.deferred (some []))) (.loop (rec .ready none)); rwa [World.size_alloc]at this
 have hK1:W1.heap[w.heap.size]? = some (.deferred (some [])):=by
  rw[<- hW1]; exact(Below.heap_alloc _ _ _ (by simp)).trans (World.alloc_heap_new w _)
 have hI1:I [] W1:=by rw[<- hW1]; exact hI.alloc _ (hI.alloc _ h0)
 have hp1:Ip W1:=by rw[<- hW1]; exact Fw _ _ (by simp) (Fw _ _ (Nat.le_refl _) YB)
 refine⟨w.heap.size+1,[{ target := .collected w.heap.size,args := #[] }],W1,{ target := .fn (.func gf) lb,args := #[.func (.yield (w.heap.size+1)) #[] #[]] },W1,gf,
  #[.func (.yield (w.heap.size+1)) #[] #[]]++lb,W1,?_,?_,?_,?_,fun _=>h1,?_⟩
 ·rw[<- hW1,hrec]; exact run_enterLoop_outer _ _ _ _ _
 ·simp only[resolve,hg]
  simp[go_sem]
 ·intro f' hf'; simp[Target.leads]at hf'; subst hf'; exact hFg
 ·simp[invoke,go_sem,eg]
 refine(hseq (w.heap.size+1)
  (fun pre W=>I pre W/\W.heap[w.heap.size+1]? = some (.loop (rec .ready none))/\W.heap[w.heap.size]? = some (.deferred (some [])))
  W1 hp1
  (fun s A B row hs hg' hr=>⟨hI s A B row hs.1 hg' (fun r e => .inl (hr r e)),(Ar hg' hr hs.2.1 (by omega)).trans hs.2.1,(Ar hg' hr hs.2.2 (by omega)).trans hs.2.2⟩)
  ?_ ⟨hI1,hL1,hK1⟩).mono ?_
 ·-- one round
  rintro pre x W ⟨hi,hl,hk⟩ hlen
  have hlt:w.heap.size+1<W.heap.size:=(Array.getElem?_eq_some_iff.1 hl).1
  have hy:=run_yield (P:=P) (args:=encs x) hl (by rw[hrec]; exact hps x)
  rw[hrec]at hy
  refine⟨fn,_,assign,body,hy,roundIn_of_wpIn hfn (wpIn_mono (hassign _ x W) ?_)⟩
  rintro e1 a1 w1 hq1
  cases e1 with
  | exit id=>exact hq1.elim
  | goto t=>exact hq1.elim
  | ret=>exact hq1.elim
  | panic ch=>exact hq1.elim
  | outgrown=>exact hq1.elim
  | normal =>
  obtain⟨hA1,ew⟩:=hq1
  rw[ew]
  refine⟨_,run_beginRound hl (by rw[hrec]),?_⟩
  have hl2:(W.putObj (w.heap.size+1) (.loop { rec .ready none with state := .busy })).heap[w.heap.size+1]? = some (.loop { rec .ready none with state := .busy }):=World.putObj_heap_same hlt
  have hk2:(W.putObj (w.heap.size+1) (.loop { rec .ready none with state := .busy })).heap[w.heap.size]? = some (.deferred (some [])):=(World.putObj_heap_other (by omega)).trans hk
  have hw2:Kp W (W.putObj (w.heap.size+1) (.loop { rec .ready none with state := .busy })):=hKb _ _ _ _ (by omega) hl rfl rfl
  refine wpIn_mono (hbody _ pre x _ a1 hA1 (hI.putObj _ hi (by omega) hl rfl) hlen) ?_
  rintro e a3 W3 hp
  cases e with
  | normal =>
    obtain⟨hk3,hkp3,hi3⟩:=hp
    have hl3:=hk3.same _ _ hl2 rfl
    have hr:=run_endRound (P:=P) none hl3
    rw[hrec]at hr hl3
    refine⟨_,_,hr,rfl,⟨hI.putObj _ hi3 (by omega) hl3 rfl,?_,(World.putObj_heap_other (by omega)).trans (hk3.same _ _ hk2 rfl)⟩,hKt (hKt hw2 hkp3) (hKb _ _ _ _ (by omega) hl3 rfl rfl)⟩
    rw[hrec]; exact World.putObj_heap_same (Array.getElem?_eq_some_iff.1 hl3).1
  | ret=>exact hp.elim
  | exit id=>exact hp.elim
  | goto t=>exact hp.elim
  | panic ch=>exact hp.elim
  | outgrown=>exact hp.elim
 rintro e W2 ⟨⟨v,rfl⟩,xs,hS,hi,hl,hk⟩
 exact⟨none,_,by have:=run_endLoop (P:=P) hl (by rw[hrec]; simp); rw[hrec]at this; exact this,hdone _ xs _ (Nat.le_refl _) hS (hI.putObj _ hi (by omega) hl rfl) ((World.putObj_heap_other (by omega)).trans hk)⟩
end Vv
end Go.Proofs.YtcbedgfikejkoaaDoor
namespace Go.Proofs.YtcbedgfikejkoaaDoor
open Go.RowKit Go
set_option linter.unusedVariables false
namespace Fx
structure tO(a:Act)(n:Nat)(f:Nat->Value):Prop where
 size:a.tmps.size=n
 get : ∀ i,a.tmps.getD i undef=f i
theorem Fr.to0{a:Act}{n:Nat}{f:Nat->Value}(h:Fr a n f):tO a n f:=⟨h.size,h.get⟩
theorem tO.to{a:Act}{n:Nat}{f:Nat->Value}(h:tO a n f)(b:a.defers = []):Fr a n f:=⟨h.size,b,h.get⟩
theorem tO.ev{a:Act}{n:Nat}{f:Nat->Value}(h:tO a n f):a.eval=Fx.ev f:=by
 funext x
 cases x <;> simp only[Act.eval,Fx.ev]
 exact h.get _
theorem tO.put{a:Act}{n:Nat}{f:Nat->Value}(h:tO a n f){d:Option Nat}(e:inn n d=true)(v:Value):tO (a.put d v) n (Fx.put f d v):=by
 have c:Fr { a with defers := [] } n f:=⟨h.size,rfl,h.get⟩
 have b:=c.put e v
 cases d with
 | none=>exact⟨b.size,b.get⟩
 | some d=>exact⟨b.size,b.get⟩
theorem tO.yf{a:Act}{n:Nat}{f:Nat->Value}(h:tO a n f)(ops:Array Oper):yielded ops a.tmps=Fx.yf ops f:=by
 have b:Fr { a with defers := [] } n f:=⟨h.size,rfl,h.get⟩
 exact b.yf ops
theorem Dy{a:Act}{n p:Nat}{v:Value}{f:Nat->Value}(h:tO (a.put (some p) v) n f):tO { tmps:=(#[p].zip #[v]).foldl (fun t (p,v)=>t.setIfInBounds p v) a.tmps,defers := [] } n f:=by
 have e:(#[p].zip #[v]).foldl (fun t (p,v)=>t.setIfInBounds p v) a.tmps=(a.put (some p) v).tmps:=by simp[Array.zip,Act.put]
 rw[e]; exact⟨h.size,h.get⟩
theorem put_defers(a:Act)(d:Option Nat)(v:Value):(a.put d v).defers=a.defers:=by cases d <;> rfl
def FR(ro:Option Nat):Fence := { Fence.wide with round:=ro }
def iq(o:Oper):Bool:=match o.op with | .defer _=>false|_=>true
def KG(n:Nat)(ds:List Deferred)(Q:Post):Exit->Act->World->Prop:=fun e a w => ∃ f,tO a n f/\a.defers=ds/\Q e f w
section
variable {P:Program} {n m:Nat} {ro:Option Nat} {Q:Post} {f:Nat->Value} {w:World} {o:Oper} {ops:Array Oper} {rest:List Oper}
theorem Dz(ro:Option Nat)(ρ:Operand->Value)(h:iq o=true):o.semAt ro ρ=execOp ρ o :=
 Oper.semAt_eq ro ρ o fun c e=>by unfold iq at h; rw[e]at h; cases h
theorem Out.wpIn{a:Act}{K:Value->World->Prop}{d:Act->World->Prop}{j:Exit->Act->World->Prop}(ha:tO a n f)(k:iq o=true)(h:Out P f o w K)(c : ∀ v w',K v w'->d (a.put o.dst v) w'):o.wpIn (FR ro) m P a w d j:=by
 unfold Oper.wpIn
 refine⟨fun _ _=>trivial,?_⟩
 rw[Dz _ _ k,ha.ev]
 rcases h with ⟨v,w',b,h⟩|⟨w',b,h⟩|⟨g,args,b,h⟩
 ·rw[b]; exact c v w' h
 ·rw[b]; exact c undef w' h
 rw[b,Oper.uponIn_enter]
 refine⟨fun h=>(by cases h),?_⟩
 have r : ∀ R,Calls P g args w R->CallsIn (FR ro) (m-1) P g args w R:=fun R i=>by
  cases ro with
  | none=>exact callsIn_wide.2 i
  | some l=>exact CallsIn.inRound l (callsIn_wide.2 i)
 refine r _<|h.mono fun e w' ⟨v,p,q⟩ => ?_
 subst p; exact c v w' q
theorem L.toIn : ∀ {l:List Oper} {f:Nat->Value} {w:World},L P n ops Q l f w->l.all iq=true -> ∀ a,tO a n f->wpListIn (FR ro) m P ops (KG n a.defers Q) l a w
 | [],f,w,h,_,a,ha=>⟨f,ha,rfl,h⟩
 | o::rest,f,w,⟨hd,h⟩,hn,a,ha=>by
   rw[List.all_cons,Bool.and_eq_true]at hn
   unfold wpListIn
   rw[ha.yf]
   rcases h with ⟨b,h⟩|⟨b,h⟩
   ·rw[if_pos b]
    exact h.wpIn ha hn.1 fun v w' c=>by have:=L.toIn c hn.2 _ (ha.put hd v); rwa [put_defers]at this
   ·rw[if_neg (by rw[b]; decide)]
    exact⟨fun _ _=>trivial,by have:=L.toIn h hn.2 _ (ha.put hd undef); rwa [put_defers]at this⟩
theorem Au{id:Nat}{ops:List Oper}{a:Act}{b:Exit->Act->World->Prop}(ha:tO a n f)(h:L P n ops.toArray Q ops f w)(d:ops.all iq=true:=by rfl)(g : ∀ e c w',KG n a.defers Q e c w'->b e c w'):(Code.region id ops.toArray false).wpIn (FR ro) m P b a w :=
 wpIn_mono (wpIn_region_lit (L.toIn h d a ha)) g
def Sn(m:Nat)(P:Program)(f:Nat->Value)(o:Oper)(w:World)(K:Value->World->Prop):Prop :=
 Out P f o w K \/ ∃ l c d a b,(execOp (ev f) o).run P w = .ok (.round l c d a b) w/\RoundIn (FR none) (m-1) P l c d a b w fun e w' => ∃ v,e = .returned v/\K v w'
def Ly(m:Nat)(P:Program)(n:Nat)(ops:Array Oper)(Q:Post):List Oper->(Nat->Value)->World->Prop
 | [],f,w=>Q .normal f w
 | o::rest,f,w=>inn n o.dst=true/\((Region.wanted o (yf ops f)=true/\Sn m P f o w fun v w'=>Ly m P n ops Q rest (put f o.dst v) w')\/(Region.wanted o (yf ops f)=false/\Ly m P n ops Q rest (put f o.dst undef) w))
theorem Sn.wpIn{a:Act}{K:Value->World->Prop}{b:Act->World->Prop}{g:Exit->Act->World->Prop}(ha:tO a n f)(c:iq o=true)(h:Sn m P f o w K)(d : ∀ v w',K v w'->b (a.put o.dst v) w'):o.wpIn (FR none) m P a w b g:=by
 rcases h with h|⟨l,fn,tmps,assign,body,hr,h⟩
 ·exact h.wpIn ha c d
 unfold Oper.wpIn
 refine⟨fun _ _=>trivial,?_⟩
 rw[Dz _ _ c,ha.ev,hr,Oper.uponIn_round]
 exact⟨fun h=>(by cases h),h.mono fun e w' ⟨v,i,j⟩=>by subst i; exact d v w' j⟩
theorem Ly.to : ∀ {l:List Oper} {f:Nat->Value} {w:World},Ly m P n ops Q l f w->l.all iq=true -> ∀ a,tO a n f->wpListIn (FR none) m P ops (KG n a.defers Q) l a w
 | [],f,w,h,_,a,ha=>⟨f,ha,rfl,h⟩
 | o::rest,f,w,⟨hd,h⟩,hn,a,ha=>by
   rw[List.all_cons,Bool.and_eq_true]at hn
   unfold wpListIn
   rw[ha.yf]
   rcases h with ⟨b,h⟩|⟨b,h⟩
   ·rw[if_pos b]
    exact h.wpIn ha hn.1 fun v w' c=>by have:=Ly.to c hn.2 _ (ha.put hd v); rwa [put_defers]at this
   ·rw[if_neg (by rw[b]; decide)]
    exact⟨fun _ _=>trivial,by have:=Ly.to h hn.2 _ (ha.put hd undef); rwa [put_defers]at this⟩
theorem W.QJ(m:Nat){id:Nat}{ops:List Oper}(h:Ly m P n ops.toArray Q ops f w)(j:ops.all iq=true:=by rfl):W P n (.region id ops.toArray false) Q f w:=fun a b =>
 (wpIn_wide (n:=m)).1 (wpIn_mono (wpIn_region_lit (Ly.to h j a b.to0)) fun e k w' ⟨c,d,g,i⟩=>⟨c,d.to (g.trans b.defers),i⟩)
theorem Ly.nil(h:Q .normal f w):Ly m P n ops Q [] f w:=h
theorem Ly.v(v:Value)(hr:Runs P f o w v)(h:Ly m P n ops Q rest (put f o.dst v) w)(b:Region.wanted o (yf ops f)=true:=by rfl)(a:inn n o.dst=true:=by rfl):Ly m P n ops Q (o::rest) f w:=⟨a,.inl ⟨b,.inl (.inl ⟨v,w,hr,h⟩)⟩⟩
theorem Ly.skip(b:Region.wanted o (yf ops f)=false)(a:inn n o.dst=true)(h:Ly m P n ops Q rest (put f o.dst undef) w):Ly m P n ops Q (o::rest) f w:=⟨a,.inr ⟨b,h⟩⟩
theorem Ly.call{g:FuncId}{args:Array Value}(b:Region.wanted o (yf ops f)=true)(hr:(execOp (ev f) o).run P w = .ok (.enter g args) w)(a:inn n o.dst=true)
 (h:Calls P g args w fun e w' => ∃ v,e = .returned v/\Ly m P n ops Q rest (put f o.dst v) w'):Ly m P n ops Q (o::rest) f w:=⟨a,.inl ⟨b,.inl (.inr (.inr ⟨g,args,hr,h⟩))⟩⟩
theorem Ly.yield{l:Nat}{x:Operand}{a:List Operand}{args:List Value}{b:Array TypeId}{R:Ending->World->Prop}(q:Region.wanted o (yf ops f)=true)(k:o.op = .call { callee := .value x,args:=a.toArray,argTypes:=b })(hx:ev f x = .func (.yield l) #[] #[])(r:a.map (ev f)=args)(j:inn n o.dst=true)
 (hy:YieldAt (FR none) (m-1) P l args.toArray w R) (h : ∀ e w',R e w' -> ∃ v,e = .returned v/\Ly m P n ops Q rest (put f o.dst v) w'):Ly m P n ops Q (o::rest) f w:=by
 obtain⟨g,s,c,d,p,i⟩:=hy
 refine⟨j,.inl ⟨q,.inr ⟨l,g,s,c,d,?_,i.mono h⟩⟩⟩
 unfold execOp
 simp only[k]
 unfold resolve
 simp only[Sem.run_bind,List.map_toArray,r,hx,Deferred.ofValue,Sem.run_pure,Result.andThen_ok]
 unfold invoke
 have e:(#[]++args.toArray:Array Value)=args.toArray:=by simp
 show(Instr.yield l (#[]++args.toArray)).run P w=_
 rw[e]
 exact p
theorem KH{a:Act}(h:tO a n f)(b:Func):results b a.tmps=tX b f:=by
 have c:Fr { a with defers := [] } n f:=⟨h.size,rfl,h.get⟩
 exact GJ c b
theorem leave1{a:Act}{b:Func}{R:Ending->World->Prop}{D:Nat}{v:Value}(h:tO a n f)(e:a.defers = [{ target := .collected D,args := #[] }])(c:w.heap[D]? = some (.deferred (some [])))
 (g:(tX b f).run P (w.putObj D (.deferred none)) = .ok v (w.putObj D (.deferred none))) (d:R (.returned v) (w.putObj D (.deferred none))):bodyPostM (FR none) m P b R .ret a w:=by
 show LeavesInM (FR none) m P b a.tmps R a.defers .returning w
 rw[e]
 exact⟨by simp,.inl ⟨D,_,rfl,run_takeDeferred c,v,by rw[KH h]; exact g,d⟩⟩
end
end Fx
end Go.Proofs.YtcbedgfikejkoaaDoor
namespace Go.Proofs.YtcbedgfikejkoaaDoor
open Go.RowKit Rt
open Fx (eT dI eY bf eX eU eG dM eZ gW dO gX eP gH gY Lv sN Ln Ws Qv Wl Rp Wc Qs Wr Sb Lk Wk rC rV sR Rs Rn Rd Rk Wb Wx Wo yE Wt pJ Qn zQ tL yt zG wT zT zR iB zV jC nY rR zW yu zU yx rv aA aL bE aI ev bT Stp aO flat fH Mp aT fq gF bA down fM iW jk kU bQ bD cells_one jD aX unseen jl iQ cu bX dA cZ dh iE iT qL gI)
abbrev bJ(g n c:Nat):Value := .slice (some ⟨g,0,none⟩) n c
theorem KrI{k:IntKind}{a b:Int}(h:a=b):Ending.returned (.int k a) = .returned (.int k b):=by rw[h]
theorem lN{a b:Bool}(h:a=b):Ending.returned (.bool a) = .returned (.bool b):=by rw[h]
abbrev pt(g:Nat):Value := .pointer (some ⟨g,0,none⟩)
abbrev pf(g o:Nat):Value := .pointer (some ⟨g,o,none⟩)
theorem Fx.ic{k:IntKind}{a b:Int}(h:a=b:=by first|rfl|omega):Value.int k a = .int k b:=congrArg _ h
theorem Fx.io{a c:Int}(h : -9223372036854775808<=c/\c<=9223372036854775807:=by omega)(e:a=c:=by omega):IntKind.i64.wrap a=c:=Fx.jk h e
theorem Fx.aL.ne{w:World}{g n:Nat}{x:Nat->Value}{T:TypeId}(h:Fx.aL w g n x T):g≠w.heap.size:=Nat.ne_of_lt h.lt
namespace Rt
def mx:Int:=1125899906842624
def EU(n:Int):Bool:=decide (0<=n)&&decide (n<=1125899906842624)
def jd(l:List Int):Bool:=l.all EU
def jo(l:List Int):Int × Bool:=if jd l then(l.sum,true)else(0,false)
theorem wX(l:List Int)(k:Nat)(h:k<l.length):jd (l.take (k+1))=(jd (l.take k)&&EU l[k]):=by
 unfold jd; rw[List.take_succ_eq_append_getElem h,List.all_append]; simp
theorem Aa(l:List Int)(k:Nat)(h:k<l.length):(l.take (k+1)).sum=(l.take k).sum+l[k]:=by
 rw[List.take_succ_eq_append_getElem h,List.sum_append]; simp
theorem vw : ∀(l:List Int),jd l=true->0<=l.sum/\l.sum<=1125899906842624*(l.length:Int)
 | [],_=>by simp
 | x::l,h=>by
   unfold jd at h
   rw[List.all_cons,Bool.and_eq_true]at h
   have:=vw l h.2
   have a:=h.1
   unfold EU at a
   simp at a
   rw[List.sum_cons,List.length_cons]
   omega
theorem oH(l:List Int):0<=(jo l).1/\(jo l).1<=1125899906842624*(l.length:Int):=by
 unfold jo
 by_cases h:jd l=true
 ·rw[if_pos h]; exact vw l h
 rw[if_neg h]; simp; omega
theorem Ab{l:List Int}{k:Nat}(a:k<l.length)(h:EU l[k]=false):jd l=false:=by
 unfold jd
 rw[List.all_eq_false]
 exact⟨l[k],List.getElem_mem a,by simpa using h⟩
def G(x:Nat->Int)(i:Nat):Int:=x i
def C(x:Nat->Int)(i:Nat):Int:=x (6+i)
def F(x:Nat->Int)(i:Nat):Int:=x (12+i)
def R(x:Nat->Int)(i j:Nat):Int:=x (18+i*6+j)
def outs(x:Nat->Int)(k:Nat):Nat->List Int
 | 0 => [C x k]
 | j+1=>outs x k j ++ [R x k j]
def ins(x:Nat->Int)(k:Nat):Nat->List Int
 | 0 => [G x k,F x k]
 | j+1=>ins x k j ++ [R x j k]
def localM(x:Nat->Int)(k:Nat):Int × Bool:=((jo (ins x k 6)).1-(jo (outs x k 6)).1,(jo (outs x k 6)).2&&(jo (ins x k 6)).2)
theorem Je(x:Nat->Int)(k:Nat):(outs x k 6).length=7:=rfl
theorem KI(x:Nat->Int)(k:Nat):(ins x k 6).length=8:=rfl
end Rt
def XG(k:IntKind)(w:World)(a:Option Addr)(l:List Int):Prop :=
 ∀ i (h:i<l.length),∃ b c,a=some ⟨b,c,none⟩/\w.cell? ⟨b,c+i,none⟩=some (.int k l[i])
end Go.Proofs.YtcbedgfikejkoaaDoor
namespace Go.Proofs.YtcbedgfikejkoaaDoor.Fx
open Go.RowKit
def KJ(I:(Nat->Value)->World->Prop)(Q:Post):Post:=fun e f w=>match e with | .normal=>I f w|e=>Q e f w
section
variable {P:Program} {n:Nat} {Q:Post} {f:Nat->Value} {w:World} {I:(Nat->Value)->World->Prop}
theorem yF{x y:Code}(I:(Nat->Value)->World->Prop)(h1:W P n x (KJ I Q) f w)(b : ∀ f w,I f w->W P n y Q f w):W P n (.seq x y) Q f w :=
 Ws (W.mono h1 fun e f w a=>by
  cases e <;> first|exact b f w a|exact a)
theorem pV(h:I f w):KJ I Q .normal f w:=h
theorem YC(h:Q .ret f w):KJ I Q .ret f w:=h
end
end Go.Proofs.YtcbedgfikejkoaaDoor.Fx
namespace Go.Proofs.YtcbedgfikejkoaaDoor
open Go.RowKit Rt
open Fx (eT dI eY bf eX eU eG dM eZ gW dO gX eP gH gY Lv sN Ln Ws Qv Wl Rp Wc Qs Wr Sb Lk Wk rC rV sR Rs Rn Rd Rk Wb Wx Wo yE Wt pJ Qn zQ tL yt zG wT zT zR iB zV jC nY rR zW yu zU yF yx rv aA aL bE aI ev bT Stp aO flat fH Mp aT fq gF bA down fM iW jk kU bQ bD cells_one jD aX pV unseen jl iQ cu bX dA cZ dh iE iT qL gI)
section
set_option maxRecDepth 20000
namespace Rt
def dn(x:Nat->Int):Nat->Int->Bool
 | 0,_=>false
 | n+1,k=>dn x n k || decide (x n=k)
def fF(x p:Nat->Int):Nat->Int->Int
 | 0,_=>0
 | n+1,k=>if x n=k then p n else fF x p n k
section
variable {x p:Nat->Int} {n j:Nat} {k:Int}
theorem gL : ∀ {n:Nat},j<n->x j=k->dn x n k=true
 | n+1,h,e=>by
   unfold dn
   by_cases c:j=n
   ·subst c; rw[decide_eq_true e,Bool.or_true]
   ·rw[gL (show j<n by omega) e,Bool.true_or]
theorem qM : ∀ {n:Nat},(∀ i,i<n->x i≠k)->dn x n k=false
 | 0,_=>rfl
 | n+1,h=>by unfold dn; rw[qM fun i hi=>h i (by omega),decide_eq_false (h n (by omega))]; rfl
theorem eF : ∀ {n:Nat},dn x n k=true -> ∃ j,j<n/\x j=k
 | n+1,h=>by
   unfold dn at h
   rw[Bool.or_eq_true]at h
   rcases h with h|h
   ·obtain⟨j,a,e⟩:=eF h; exact⟨j,by omega,e⟩
   ·exact⟨n,by omega,of_decide_eq_true h⟩
theorem uh(hi : ∀ a b,a<n->b<n->x a=x b->a=b)(h:j<n)(e:x j=k):fF x p n k=p j:=by
 induction n with
 | zero=>omega
 | succ n ih =>
   unfold fF
   by_cases c:j=n
   ·subst c; rw[if_pos e]
   ·rw[if_neg fun d=>c (hi j n (by omega) (by omega) (e.trans d.symm))]
    exact ih (fun a b f g=>hi a b (by omega) (by omega)) (by omega)
def gM(x p:Nat->Int)(n:Nat):Nat->Int->List Int
 | 0,_ => []
 | d+1,k=>if dn x n k=true then k::gM x p n d (fF x p n k)else []
def fZ(x p:Nat->Int)(n:Nat):Nat->Int->Prop
 | 0,k=>dn x n k=false
 | d+1,k=>dn x n k=true->fZ x p n d (fF x p n k)
theorem iX{d:Nat}(h:dn x n k=false):gM x p n d k = []:=by cases d with
 | zero=>rfl
 | succ d=>unfold gM; rw[if_neg (by rw[h]; decide)]
theorem Av{d:Nat}(h:fZ x p n d k)(a:dn x n k=true) : ∃ e,d=e+1/\fZ x p n e (fF x p n k)/\gM x p n d k=k::gM x p n e (fF x p n k):=by
 cases d with
 | zero=>have h:dn x n k=false:=h; rw[a]at h; cases h
 | succ d=>exact⟨d,rfl,h a,by show(if _ then _ else _)=_; rw[if_pos a]⟩
end
structure JF(q:Nat)(J:List Int->World->Prop)(pre:List Int)(w:World):Prop where
 ab:Vv.G5 q J
 j:J pre w
theorem JF.eH{q:Nat}{J:List Int->World->Prop}{b:List Int}{w w':World}(h:JF q J b w)(a:Stp q w w'):JF q J b w' :=
 ⟨h.ab,h.ab _ w w' (some q) h.j ⟨a.os,a.tape,a.output,a.size,fun k c d=>a.block k c (fun e=>d (by rw[e]))⟩ (fun r e=>(Option.some.inj e).symm)⟩
theorem JF.up{q:Nat}{J:List Int->World->Prop}{b:List Int}{w w':World}(h:JF q J b w)(a:Below w.heap.size w w'):JF q J b w' :=
 ⟨h.ab,h.ab _ w w' none h.j ⟨a.os,a.tape,a.output,a.size,fun k c _=>a.block k c⟩ (fun r e=>by cases e)⟩
instance {q:Nat} {J:List Int->World->Prop} {a:List Int} {w w':World}:Rt.Tr w w' (JF q J a w) (JF q J a w'):=⟨fun b h=>h.up b⟩
structure KL(tp mb bt q:Nat)(w w':World):Prop where
 size:w.heap.size<=w'.heap.size
 t:w'.heap[tp]? = w.heap[tp]?
 m:w'.heap[mb]? = w.heap[mb]?
 b:w'.heap[bt]? = w.heap[bt]?
 q:w'.heap[q]? = w.heap[q]?
end Rt
theorem yG(x p:Nat->Int)(n a c:Nat)(k:Int)(w:World)(g:aL w a 1 (fun _ => .map (some c)) 82)(f:Mp w c n x (fun j=>aC (p j))) :
 Calls Tryd.prog 106 #[(pt a),aC k] w fun e w'=>e = .returned (.bool (dn x n k))/\w'=w:=by
 have i:=g.lt
 refine Kent Tryd.func106 19 ?_
 refine ay<|av aF<|aD<|Ws<|ay<|av ((pt a))<|Lv aF (Fx.jF rfl rfl rfl (by kernel_rfl))<|aD<|aN<|Wk<|sN<|ay<|av ((pt a))<|av ((pt a))<|av ((pt a))<|Lv (.map (some c)) (aP g.aK 0)<|av (aC k) ?_
 rcases Fx.lM x n k with ⟨b,h,d⟩|gu
 ·refine Lv (.tuple #[aC (p b),.bool true]) (Fx.yD (z:=aC 0) rfl rfl rfl f Tryd.underlying53 Tryd.underlying29 (by rfl) h d rfl)<|av (.tuple #[aC (p b),.bool true])<|av (aC (p b))<|av aG<|av (aC (p b))<|av aG<|aD<|ay<|av aG<|av aG<|aD<|Wr<|aM aG ?_
  exact⟨lN (Eq.symm (gL h d)),rfl⟩
 refine Lv (.tuple #[aC 0,.bool false]) (Fx.yC (z:=aC 0) rfl rfl rfl f Tryd.underlying53 Tryd.underlying29 (by rfl) gu)<|av (.tuple #[aC 0,.bool false])<|av (aC 0)<|av aF<|av (aC 0)<|av aF<|aD<|ay<|av aF<|av aF<|aD<|Wr<|aM aF ?_
 exact⟨lN (Eq.symm (qM gu)),rfl⟩
theorem YD(f:Nat)(k:Int)(w:World) :
 Calls Tryd.prog 143 #[(pt f),aC k] w fun e w' => ∃ c q,e = .returned (.func (.func 146) #[] #[(pt c),(pt q)])/\w.heap.size<=c/\w.heap.size<=q/\aL w' c 1 (fun _=>(pt f)) 51/\aL w' q 1 (fun _=>aC k) 29/\Below w.heap.size w w':=by
 refine Kent Tryd.func143 6 ?_
 refine ay<|pQ ((pt f)) fun a v l d p y => ?_
 have g:=aR p.old (Below.refl w.heap.size w)
 have m:=gK l
 have t:=d.lt
 refine pQ (aC k) fun b x h i r z => ?_
 have⟨o,j⟩:=gU r.old d g
 have n:=iC h g.size
 have s:=bS h d.lt
 have u:=i.lt
 refine av (.nilFunc)<|aD<|ay<|Lv (.func (.func 146) #[] #[(pt a),(pt b)]) (Fx.iV (us := []) (vs := [(pt a),(pt b)]) rfl rfl rfl)<|av (.func (.func 146) #[] #[(pt a),(pt b)])<|aD<|Wr<|aM (.func (.func 146) #[] #[(pt a),(pt b)]) ?_
 exact⟨a,b,rfl,m,n,o,i,j⟩
theorem Vy(J:List Int->World->Prop)(l g o r q n u:Nat)(x p:Nat->Int)(k:Int)(w:World)(hT:aL w g 1 (fun _ => .map (some o)) 82)(hM:Mp w o n x (fun j=>aC (p j)))(hB:aL w r 1 (fun _=>(pt g)) 51)(S:aL w q 1 (fun _=>aC k) 29)(hinj : ∀ a b,a<n->b<n->x a=x b->a=b)(Sq:fZ x p n u k)(hJ:JF q J [] w)(hd:r≠q/\g≠q)
 (hY : ∀ h v F,J h F->h.length<(gM x p n u k).length->Go.YieldAt (Fx.FR none) 1 Tryd.prog l #[aC v] F fun e P=>e = .returned (.bool true)/\J (h ++ [v]) P/\KL g o r q F P) :
  Calls Tryd.prog 146 #[.func (.yield l) #[] #[],(pt r),(pt q)] w fun e w'=>(∃ v,e = .returned v) /\ ∃ xs,xs=gM x p n u k/\J xs w':=by
 obtain⟨hd1,hd2⟩:=hd
 have lq:=S.lt
 refine Kent Tryd.func146 18 ?_
 refine Wb<|yE (fun d f D => ∃ h:List Int,∃ c:Int,fZ x p n d c/\h++gM x p n d c=gM x p n u k/\f 0 = .func (.yield l) #[] #[]/\f 1=(pt r)/\f 2=(pt q)/\aL D g 1 (fun _ => .map (some o)) 82/\Mp D o n x (fun j=>aC (p j))/\aL D r 1 (fun _=>(pt g)) 51/\aL D q 1 (fun _=>aC c) 29/\JF q J h D) (u) ⟨[],k,Sq,(List.nil_append _),(by rfl),(by rfl),(by rfl),hT,hM,hB,S,hJ⟩ ?_
 rintro d f1 w1 ⟨h,c,hst,B,R,G,y,I,L,Z,M,N⟩
 refine Ws<|Ws<|Fx.W.QJ 2<|Fx.Ly.v ((pt g)) (bf (x:=fun _=>(pt g)) rfl G (by kernel_rfl) Z.aK (i:=0) (by omega) (by omega) rfl) ?_
 refine Fx.Ly.v (aC c) (bf (x:=fun _=>aC c) rfl y (by kernel_rfl) M.aK (i:=0) (by omega) (by omega) rfl) ?_
 by_cases s:(dn x n c)=true
 ·refine Fx.Ly.call (by rfl) (rC (args := [(pt g),aC c]) rfl rfl Tryd.func106 rfl rfl) rfl<|(yG x p n g o c _ I L).mono ?_
  rintro e O ⟨A,hv1⟩
  subst O
  refine⟨.bool true,by rw[A,s],?_⟩
  clear A
  refine Fx.Ly.v (.bool true) (eT rfl rfl) ?_
  refine Fx.Ly.v (.func (.yield l) #[] #[]) (eT rfl R) ?_
  refine Fx.Ly.v (aC c) (bf (x:=fun _=>aC c) rfl y (by kernel_rfl) M.aK (i:=0) (by omega) (by omega) rfl) ?_
  obtain⟨d1,ed1,YE,U⟩:=Av hst s
  refine Fx.Ly.yield (l:=l) (args := [aC c]) rfl rfl rfl (Fx.args1 rfl) rfl (hY h c _ N.j (by have:=congrArg List.length B; rw[U,List.length_append,List.length_cons]at this; omega)) ?_
  rintro e9 C ⟨rfl,hJ1,E⟩
  refine⟨.bool true,rfl,?_⟩
  have m6:aL C g 1 (fun _ => .map (some o)) 82:=(E.t).trans I
  have m7:Mp C o n x (fun j=>aC (p j)):=L.keep E.m
  have m8:aL C r 1 (fun _=>(pt g)) 51:=(E.b).trans Z
  have m9:aL C q 1 (fun _=>aC c) 29:=(E.q).trans M
  have m10:JF q J (h ++ [c]) C:=⟨N.ab,hJ1⟩
  refine Fx.Ly.v (.bool true) (eU rfl rfl rfl) ?_
  refine Fx.Ly.nil ?_
  refine sN<|aQ<|Wk<|sN<|Wb ?_
  obtain⟨H,T,Q⟩:=eF s
  -- region 1 draws
  refine jP [0,1,2,3,4,5,6] [4,0,0,4,4,3,3] [(5,0,[3,2,1,0]),(6,0,[0]),(5,3,[3]),(6,3,[3]),(5,4,[4]),(6,4,[4]),(6,5,[5])] fun rZ gy iF => ?_
  have⟨V,X,Y,K,m15⟩:=mF gy m6 m7 m8 m9 m10
  refine Rs ((pt g)) (aP Y.aK 0 (ha:=G)) ?_
  refine aW ((pt g))<|aW ((pt g))<|Rs (.map (some o)) (aP V.aK 0) ?_
  refine Rs (aC c) (aP K.aK 0 (ha:=y)) ?_
  refine gG<|Lv (aC (p H)) (Fx.oD (z:=aC 0) rfl rfl rfl X Tryd.underlying53 Tryd.underlying29 (by rfl) T Q rfl)<|Ln<|gG<|nk K 0 (aC (p H)) (ha:=y) fun w3 m16 s2 z1 => ?_
  have m17:aL w3 q 1 (fun _=>aC (p H)) 29:=cu m16
  have iD:=iB s2 K.ty
  have⟨m18,m19,m20⟩:=Dr iD V X Y
  have m21:=m15.eH s2
  refine Ln<|Rn<|dA ?_
  have m22:aL w3 q 1 (fun _=>aC (fF x p n c)) 29:=by rw[uh hinj T Q]; exact m17
  skip
  refine iT ⟨d1,(by omega),(h ++ [c]),(fF x p n c),YE,(by rw[List.append_assoc]; rw[U]at B; exact B),R,G,y,m18,m19,m20,m22,m21⟩ (by decide)
 rw[Bool.not_eq_true]at s
 refine Fx.Ly.call (by rfl) (rC (args := [(pt g),aC c]) rfl rfl Tryd.func106 rfl rfl) rfl<|(yG x p n g o c _ I L).mono ?_
 rintro e O ⟨A,hv1⟩
 subst O
 refine⟨.bool false,by rw[A,s],?_⟩
 clear A
 refine Fx.Ly.v (.bool false) (eT rfl rfl) ?_
 refine Fx.Ly.skip (by rfl) rfl ?_
 refine Fx.Ly.skip (by rfl) rfl ?_
 refine Fx.Ly.skip (by rfl) rfl ?_
 refine Fx.Ly.v (.bool false) (eX rfl rfl rfl) ?_
 refine Fx.Ly.nil ?_
 refine sN (aN (Wx (cZ (iE (dh (⟨.tuple #[],fM Tryd.results146,?_⟩))))))
 exact⟨⟨_,rfl⟩,h,(by rw[iX s,List.append_nil]at B; exact B),N.j⟩
end
end Go.Proofs.YtcbedgfikejkoaaDoor
namespace Go.Proofs.YtcbedgfikejkoaaDoor
open Go.RowKit Go Rt
set_option linter.unusedVariables false
namespace Rt
def pW(l:List Int):Nat->Value:=fun i=>aC (l.getD i 0)
theorem Ow{l:List Int}{v:Int}{z:Nat->Value} : ∀ j,j<(l.length+1)*1->Fx.iQ (pW l) (l.length*1) (Fx.bE z (0*1) 1 (fun _=>aC v)) j=pW (l ++ [v]) j:=fun j a=>by
 unfold Fx.iQ pW
 by_cases h:j<l.length*1
 ·rw[if_pos h,List.getD_eq_getElem?_getD,List.getD_eq_getElem?_getD,List.getElem?_append_left (by omega)]
 ·rw[if_neg h]
  obtain rfl:j=l.length:=by omega
  unfold Fx.bE
  rw[if_pos (by omega)]; simp
structure PI(gl bt q B:Nat)(w0:World)(pre:List Int)(w:World):Prop where
 ex : ∃ a c,Fx.aL w gl 1 (fun _ => .slice a pre.length c) 61/\Fx.Own w B 29 1 (.slice a pre.length c) pre.length (pW pre)/\(∀ r,(Value.slice a pre.length c).ownBlock=some r->r≠bt/\r≠q/\r≠gl)
 be:Below B w0 w
 lb:bt<w.heap.size
 lq:q<w.heap.size
theorem KeepsOthers.vB{g:Nat}{w w':World}(h:Fx.Stp g w w')(c : ∀ o,w.heap[g]? = some o->o.isCells=true):KeepsOthers w w' :=
 ⟨h.size,fun k o a b=>by
  by_cases e:k=g
  ·subst e; rw[c o a]at b; cases b
  ·exact(h.block k (Array.getElem?_eq_some_iff.1 a).1 e).trans a⟩
theorem KeepsOthers.KM{w w':World}{v:Value}(h:w.grownBy w' v.ownBlock)(c : ∀ r o,v.ownBlock=some r->w.heap[r]? = some o->o.isCells=true):KeepsOthers w w' :=
 ⟨h.size,fun k o a b=>by
  refine(h.block k (Array.getElem?_eq_some_iff.1 a).1 fun e => ?_).trans a
  rw[c k o e.symm a]at b; cases b⟩
theorem uj{w:World}{g:Nat}{T:TypeId}(h:Fx.Ty w g T) : ∀ o,w.heap[g]? = some o->o.isCells=true:=fun o a=>by
 obtain⟨b,h⟩:=h
 rw[h]at a; cases a; rfl
theorem KL.trans{d c a q:Nat}{A B C:World}(h:KL d c a q A B)(k:KL d c a q B C):KL d c a q A C:=⟨Nat.le_trans h.size k.size,k.t.trans h.t,k.m.trans h.m,k.b.trans h.b,k.q.trans h.q⟩
theorem KL.of{c b a q:Nat}{A B:World}(d:A.heap.size<=B.heap.size)(h : ∀ k,k=c\/k=b\/k=a\/k=q->B.heap[k]? = A.heap[k]?):KL c b a q A B:=⟨d,h _ (.inl rfl),h _ (.inr (.inl rfl)),h _ (.inr (.inr (.inl rfl))),h _ (.inr (.inr (.inr rfl)))⟩
theorem PI.own{b k q B c:Nat}{j:World}(l:B<=j.heap.size)(n:b≠q)(p:B<=q)(y:B<=c):Vv.Jd q c (PI b k q B j):=fun s W x w u a i=>by
 obtain⟨⟨d,f,m,o,h⟩,hbe,hlb,hlq⟩:=u
 have g : ∀ r T,Fx.Ty W r T->r≠q->w≠some r:=fun r T v t e=>by
  rcases i r e with h1|⟨_,ob,h1,h2⟩
  ·exact t h1
  ·rw[uj v ob h1]at h2; cases h2
 refine⟨⟨d,f,?_,?_,h⟩,hbe.grown a (Nat.le_trans l hbe.size) fun r e => ?_,Nat.lt_of_lt_of_le hlb a.size,Nat.lt_of_lt_of_le hlq a.size⟩
 ·exact(a.block b m.lt fun e=>g b _ m.ty n e.symm).trans m
 ·refine World.ownsRow.kept o a ?_
  cases hb:(Value.slice d s.length f).ownBlock with
  | none=>exact .inl rfl
  | some r=>exact .inr fun e=>g r _ (o.ty hb) (h r hb).2.1 e.symm
 ·rcases i r e with rfl|⟨h1,_⟩
  ·exact p
  ·omega
end Rt
open Rt
theorem Ox(d f c q n e:Nat)(x p:Nat->Int)(k:Int)(u : ∀ a b,a<n->b<n->x a=x b->a=b)(y:fZ x p n e k)(t:c≠q/\d≠q) :
 Vv.Vw (Fx.FR none) 2 Tryd.prog 146 #[(pt c),(pt q)] (fun v:Int => #[aC v]) (KL d f c q) (fun z=>z=gM x p n e k) (gM x p n e k).length q
  (fun w=>Fx.aL w d 1 (fun _ => .map (some f)) 82/\Fx.Mp w f n x (fun j=>aC (p j))/\Fx.aL w c 1 (fun _=>(pt d)) 51/\Fx.aL w q 1 (fun _=>aC k) 29) :=
 fun l J W ⟨o,i,h,m⟩ s r g=>callsIn_wide.2 (Vy J l d f c q n e x p k W o i h m u y ⟨s,g⟩ t r)
set_option maxRecDepth 10000 in
theorem Fy(x p:Nat->Int)(n A L C:Nat)(k:Int)(w:World)(hT:Fx.aL w A 1 (fun _ => .map (some L)) 82)(hM:Fx.Mp w L n x (fun j=>aC (p j)))(hinj : ∀ a b,a<n->b<n->x a=x b->a=b)(Sq:fZ x p n C k)(hlen:(gM x p n C k).length<=1000000) :
 Calls Tryd.prog 131 #[(pt A),aC k] w fun e w' => ∃ a c,e = .returned (.slice a (gM x p n C k).length c)/\Fx.Own w' w.heap.size 29 1 (.slice a (gM x p n C k).length c) (gM x p n C k).length (pW (gM x p n C k))/\Below w.heap.size w w':=by
 have ltp:=hT.lt
 have lmb:=hM.lt
 refine(callsIn_wide (n:=3)).1 (callsIn_of_wp_marks (F:=Fx.FR none) Tryd.func131 rfl trivial ?_ rfl)
 have ha:Fx.tO { tmps := #[(pt A),aC k]++Array.replicate (Tryd.f131.ntmps-2) undef,defers := [] } 15 (Fx.start #[(pt A),aC k]):=by
  refine⟨by rfl,fun i => ?_⟩
  simp only[Fx.start,Array.getD_eq_getD_getElem?,Array.getElem?_append,Array.getElem?_replicate]
  by_cases hi:i<2
  ·simp[hi]
  ·have S : ¬ i<(#[(pt A),aC k]:Array Value).size:=by simpa using hi
   rw[if_neg S]
   split
   ·rw[Array.getElem?_eq_none (by simpa using hi)]; rfl
   ·rw[Array.getElem?_eq_none (by simpa using hi)]
 refine wpIn_seq<|Fx.Au (Q:=fun e f1 N=>e = .normal/\f1 0=(pt A)/\f1 1=aC k/\f1 4=(pt w.heap.size)/\Fx.aL N w.heap.size 1 (fun _ => .slice none 0 0) 61/\Below w.heap.size w N) ha ?_ (by rfl) ?_
 ·refine Fx.wT (m:=1) (y:=fun _ => .slice none 0 0) (by rfl) rfl (by kernel_rfl) rfl fun g1 N oI Z s1 z1 => ?_
  subst oI
  exact Fx.Ln ⟨rfl,rfl,rfl,rfl,Z,s1.old⟩
 rintro e a1 N ⟨f1,ha1,hd1,rfl,h0,P,U,Z,b1⟩
 have QK:=Z.lt
 refine wpIn_seq<|wpIn_seq<|Fx.Au (Q:=fun e X J=>e = .normal/\X 4=(pt w.heap.size)/\Below N.heap.size N J /\ ∃ t q,X 8 = .func (.func 146) #[] #[(pt t),(pt q)]/\N.heap.size<=t/\N.heap.size<=q/\Fx.aL J t 1 (fun _=>(pt A)) 51/\Fx.aL J q 1 (fun _=>aC k) 29) ha1 ?_ (by rfl) ?_
 ·refine aZ h0<|aZ P<|ko (YD A k _) ?_
  rintro e J ⟨t,q,he,lb,lq,mb',mq',hb⟩
  exact⟨_,he,Fx.Ln ⟨rfl,U,hb,t,q,rfl,lb,lq,mb',mq'⟩⟩
 rintro e a2 J ⟨X,ha2,hd2,rfl,U,b2,t,q,h8,lbt,lq,YF,mq⟩
 have hds:a2.defers = []:=hd2.trans hd1
 have tbt:=YF.lt
 have tq:=mq.lt
 have bq:t≠q:=fun e=>by
  subst e
  have:=YF.symm.trans mq
  simp only[Option.some.injEq,Obj.cells.injEq]at this
  exact absurd this.2.1 (by decide)
 have m2:=Z.eH (Fx.Sb b2) (Nat.ne_of_lt Z.lt)
 have s1:=b1.size
 have s2:=b2.size
 have b12:Below w.heap.size w J:=b1.trans (b2.mono s1)
 have Vz:Fx.aL J A 1 (fun _ => .map (some L)) 82:=(b12.block A ltp).trans hT
 have hM2:Fx.Mp J L n x (fun j=>aC (p j)):=hM.keep (b12.block L lmb)
 have hgq:w.heap.size≠q:=by omega
 refine wpIn_block (Vv.wW (F:=Fx.FR none) rfl (by decide) (gf:=146) (lb := #[(pt t),(pt q)]) ?hg trivial (fun args w=>iy Tryd.func146 (by kernel_rfl) rfl args w)
  (Ox A L t q n C x p k hinj Sq ⟨bq,by omega⟩) tq ⟨Vz,hM2,YF,mq⟩ ?Fw (fun h k=>h.trans k) ?hKb (fun _=>rfl) (PI w.heap.size t q w.heap.size w) (PI.own (Nat.le_refl _) hgq (by omega) (by omega))
  ⟨⟨none,0,m2,Fx.yu _ _ _ _ _,fun r e=>by cases e⟩,b12,tbt,tq⟩ (fun v a => ∃ f,Fx.tO a 15 f/\f 4=(pt w.heap.size)/\f 5=aC v) ?assign ?body ?done)
 case hg=>rw[ha2.ev]; exact h8
 case Fw =>
  rintro W o hw ⟨i1,i2,i3,i4⟩
  exact⟨(Below.heap_alloc W o A i1.lt).trans i1,i2.keep (Below.heap_alloc W o L i2.lt),(Below.heap_alloc W o t i3.lt).trans i3,(Below.heap_alloc W o q i4.lt).trans i4⟩
 case hKb =>
  intro W l o o' hl _ _ _
  exact KL.of (by simp) fun r hr=>World.putObj_heap_other (by omega)
 case assign =>
  intro l v W
  have hp:=ha2.put (d:=some 9) rfl (aC v)
  refine Fx.Au (ro:=some l) (n:=15) (f:=Fx.put X (some 9) (aC v)) (Q:=fun e f w'=>e = .normal/\f 4=(pt w.heap.size)/\f 5=aC v/\w'=W) (Fx.Dy hp) ?_ (by rfl) ?_
  ·exact Fx.Lv (aC v) (Fx.dI rfl rfl) (Fx.Ln ⟨rfl,U,rfl,rfl⟩)
  ·rintro e a' w' ⟨f',hf',_,rfl,g4,g5,rfl⟩
   exact⟨⟨f',hf',g4,g5⟩,rfl⟩
 case body =>
  rintro l M v W a' ⟨f',hf',g4,g5⟩ ⟨⟨G,H,V,o3,Y⟩,R,hpb,hpq⟩ hpl
  have hbs:=R.size
  have G6:=V.lt
  refine wpIn_block<|Fx.Au (ro:=some l) (Q:=fun e f w'=>e = .normal/\KeepsOthers W w'/\KL A L t q W w'/\PI w.heap.size t q w.heap.size w (M ++ [v]) w') hf' ?_ (by rfl) ?_
  ·refine Fx.Lv (.slice G M.length H) (aP V.aK 0 (ha:=g4))<|aZ g5<|Fx.yt (vs := [(0,aC v)]) (s:=1) (zc:=fun _=>aC 0) (y:=Fx.bE (fun j=>aC 0) (0*1) 1 (fun _=>aC v)) (by rfl) rfl rfl Tryd.underlying61 (by kernel_rfl) (by rfl) (by rfl) (by kernel_rfl) (by rw[Fx.bA (off:=0*1) (s:=1) (y:=fun _=>aC v) rfl (Fx.cells_one (by rfl)) (by rfl)]; rfl) rfl fun g4' w4 DC m4 E z4 => ?_
   have⟨m5,o5⟩:=gU E.old V o3
   have hB4:w.heap.size<=w4.heap.size:=Nat.le_trans hbs E.size
   refine Fx.zG (B:=w.heap.size) (s:=1) (bytes:=8) (k:=M.length) (m:=1) (v := .slice G M.length H) (x:=pW M) (by rfl) rfl rfl rfl Tryd.underlying61 (by kernel_rfl) (by kernel_rfl) rfl rfl o5 m4.aK (fun j hj=>by unfold Fx.bE; split <;> rfl) (by omega) (by omega) (by omega) hB4 fun K Jf w6 ho1 I Sr hlt1 => ?_
   have m6:=m5.grown I (fun e=>(Y _ e).2.2 rfl)
   refine nk m6 0 (bJ K (M.length+1) Jf) (ha:=g4) fun O m7 u z7 => ?_
   have e4 : ∀ r,r<W.heap.size->r≠w.heap.size->(∀ z,(Value.slice G M.length H).ownBlock=some z->z≠r)->O.heap[r]? = W.heap[r]? := fun r P S h3 =>
    (u.block r (Nat.lt_of_lt_of_le (Nat.lt_of_lt_of_le P E.size) I.size) S).trans ((I.block r (Nat.lt_of_lt_of_le P E.size) fun e=>h3 r e.symm rfl).trans (E.block r P (Nat.ne_of_lt P)))
   have hg6:K≠t/\K≠q/\K≠w.heap.size:=by
    rcases Sr with h|h
    ·exact Y K h
    ·have:=E.size; have:=R.block
     refine⟨?_,?_,?_⟩
     ·omega
     ·omega
     ·omega
   have mC:Fx.aL O w.heap.size 1 (fun _=>bJ K (M.length+1) Jf) 61:=Fx.aL.congr m7 (by
    intro j hj
    obtain rfl:j=0:=by omega
    rfl)
   refine Fx.Ln ⟨rfl,?_,?_,⟨?_,?_,?_,?_⟩⟩
   ·refine(KeepsOthers.vB E fun o ho => ?_).trans ((KeepsOthers.KM I fun r o e ho=>uj (o5.ty e) o ho).trans (KeepsOthers.vB u (uj m6.ty)))
    have:=(Array.getElem?_eq_some_iff.1 ho).1; omega
   ·refine KL.of (Nat.le_trans E.size (Nat.le_trans I.size u.size)) fun r hr=>e4 r ?_ ?_ fun z hz => ?_
    ·rcases hr with rfl|rfl|rfl|rfl <;> omega
    ·rcases hr with rfl|rfl|rfl|rfl <;> omega
    ·have P:=(o3.ge hz).1; have S:=Y z hz
     rcases hr with rfl|rfl|rfl|rfl
     ·omega
     ·omega
     ·exact S.1
     ·exact S.2.1
   ·refine⟨some ⟨K,0,none⟩,Jf,?_,?_,fun r e => ?_⟩
    ·rw[List.length_append]; exact mC
    ·rw[List.length_append]; exact(ho1.congr Ow).eH u (fun e=>hg6.2.2 (Option.some.inj e))
    ·obtain rfl:K=r:=Option.some.inj e
     exact hg6
   ·refine u.below ((E.below R hbs hbs).grown I hB4 fun r e=>(o5.ge e).1) (Nat.le_trans hB4 I.size) (Nat.le_refl _)
   ·exact Nat.lt_of_lt_of_le hpb (Nat.le_trans E.size (Nat.le_trans I.size u.size))
   ·exact Nat.lt_of_lt_of_le hpq (Nat.le_trans E.size (Nat.le_trans I.size u.size))
  ·rintro e a5 w5 ⟨f5,_,_,rfl,q1,q2,q3⟩
   exact⟨q1,q2,q3⟩
 case done =>
  rintro D xs W hD rfl ⟨⟨G,H,V,o3,Y⟩,R,hpb,hpq⟩ hK
  have hcD : ∀ g,g<J.heap.size->g≠D:=fun g h e=>by omega
  have hkc : ∀ {g T},Fx.Ty W g T->g≠D:=fun ht e=>by
   have:=uj ht _ (e ▸ hK); cases this
  have hDn:(w.heap.size:Nat)≠D:=by omega
  show Code.wpIn _ _ _ _ _ _ _
  refine wpIn_seq<|Fx.Au (Q:=fun e f w'=>e = .normal/\f 4=(pt w.heap.size)/\Fx.Stp w.heap.size W w'/\Fx.aL w' w.heap.size 1 (fun _ => .slice G (gM x p n C k).length H) 61) (f:=X) ⟨ha2.size,ha2.get⟩ ?_ (by rfl) ?_
  ·refine Fx.Lv (.slice G (gM x p n C k).length H) (aP V.aK 0 (ha:=U))<|nk V 0 (.slice G (gM x p n C k).length H) (ha:=U) fun O m7 u z7 => ?_
   exact Fx.Ln ⟨rfl,U,u,Fx.aL.congr m7 fun j hj=>by
    obtain rfl:j=0:=by omega
    rfl⟩
  rintro e a7 O ⟨f7,ha7,hd7,rfl,q4,u,m7⟩
  have hK7:O.heap[D]? = some (.deferred (some [])):=(u.block D (Array.getElem?_eq_some_iff.1 hK).1 (Ne.symm hDn)).trans hK
  have m8:Fx.aL (O.putObj D (.deferred none)) w.heap.size 1 (fun _ => .slice G (gM x p n C k).length H) 61:=(World.putObj_heap_other hDn).trans m7
  refine wpIn_ret (Fx.leave1 ha7 (hd7.trans (by rw[hds])) hK7 (Fx.rV Tryd.results131 ⟨_,q4,Fx.IZ m8.aK (by kernel_rfl) (i:=0) (by omega) (by omega) rfl⟩) ⟨G,H,rfl,?_,?_⟩)
  ·have o7:=o3.eH u (fun e=>(Y _ e).2.2 rfl)
   exact World.ownsRow.kept o7 (grownBy_putObj' O D _) (.inr fun e=>by
    exact hkc (o3.ty e) rfl)
  ·exact(u.below R R.size (Nat.le_refl _)).grown (grownBy_putObj' O D _) (Nat.le_trans R.size u.size) fun r e=>by cases e; omega
end Go.Proofs.YtcbedgfikejkoaaDoor
namespace Go.Proofs.YtcbedgfikejkoaaDoor
open Go.RowKit Go
set_option linter.unusedVariables false
namespace Rt
section
variable {x p x' p':Nat->Int} {n n' j d e:Nat} {k id pa:Int}
theorem qN : ∀ {d:Nat} {k:Int},(gM x p n d k).length<=d
 | 0,k=>Nat.le_refl _
 | d+1,k=>by
   unfold gM
   split
   ·rw[List.length_cons]; exact Nat.succ_le_succ qN
   ·exact Nat.zero_le _
theorem um : ∀ {d e:Nat} {k:Int},fZ x p n d k->(gM x p n d k).length<=e->fZ x p n e k
 | 0,0,k,h,_=>h
 | 0,e+1,k,h,_=>fun b=>by
   have h:dn x n k=false:=h
   rw[h]at b; cases b
 | d+1,0,k,h,hl=>by
   show dn x n k=false
   cases a:dn x n k with
   | false=>rfl
   | true =>
     unfold gM at hl
     rw[if_pos a,List.length_cons]at hl
     omega
 | d+1,e+1,k,h,hl=>fun a=>by
   unfold gM at hl
   rw[if_pos a,List.length_cons]at hl
   exact um (h a) (by omega)
theorem DF : ∀ {d:Nat} {k:Int},fZ x p n d k->gM x p n (d+1) k=gM x p n d k
 | 0,k,h=>by
   have h:dn x n k=false:=h
   rw[iX h,iX h]
 | d+1,k,h=>by
   cases hk:dn x n k with
   | false=>rw[iX hk,iX hk]
   | true =>
     show(if dn x n k=true then k::gM x p n (d+1) (fF x p n k)else [])=(if dn x n k=true then k::gM x p n d (fF x p n k)else [])
     rw[if_pos hk,if_pos hk,DF (h hk)]
theorem Fz{d:Nat}{k:Int}(h:fZ x p n d k):fZ x p n (d+1) k:=um h (Nat.le_succ_of_le qN)
theorem BX{d e:Nat}{k:Int}(h:fZ x p n d k)(a:d<=e):gM x p n e k=gM x p n d k/\fZ x p n e k:=by
 induction a with
 | refl=>exact⟨rfl,h⟩
 | step _ ih=>exact⟨(DF ih.2).trans ih.1,Fz ih.2⟩
theorem Aw(a : ∀ k,dn x' n' k=dn x n k)(b : ∀ k,dn x n k=true->fF x' p' n' k=fF x p n k) : ∀(d:Nat) (k:Int),gM x' p' n' d k=gM x p n d k
 | 0,_=>rfl
 | d+1,k=>by
   unfold gM
   rw[a]
   cases hk:dn x n k with
   | false=>rfl
   | true=>rw[if_pos rfl,if_pos rfl,b k hk,Aw a b d]
structure vE(n:Nat)(x p:Nat->Int):Prop where
 inj : ∀ a b,a<n->b<n->x a=x b->a=b
 pos : ∀ j,j<n->0<x j/\x j<=18446744073709551615
 stop : ∀ k,fZ x p n 4 k
 small:n<=32
 par : ∀ j,j<n->p j=0 \/ ∃ i,i<j/\x i=p j
theorem vE.zero(x p:Nat->Int):vE 0 x p:=⟨fun a b h=>by omega,fun j h=>by omega,fun k h=>(nomatch h),by omega,fun j h=>by omega⟩
theorem vE.Sv(h:vE n x p):dn x n 0=false:=qM fun i hi e=>by have:=h.pos i hi; omega
theorem vE.VA(h:vE n x p)(d:Nat):gM x p n d 0 = []:=iX h.Sv
theorem vE.len(h:vE n x p)(k:Int):(gM x p n 4 k).length<=1000000:=Nat.le_trans qN (by omega)
def mG(x p:Nat->Int)(n:Nat)(id pa:Int):Int :=
 if id=0 then 1 else if dn x n id=true then 14 else if ¬ pa=0/\dn x n pa=false then 9 else if 32<=n\/4<=(gM x p n 4 pa).length then 6 else 0
inductive Sw (n:Nat) (x p:Nat->Int) (id pa:Int):Int->Nat->(Nat->Int)->(Nat->Int)->Prop
 | no {c:Int} (hc:mG x p n id pa=c) (h0:c≠0):Sw n x p id pa c n x p
 | yes (hc:mG x p n id pa=0):Sw n x p id pa 0 (n+1) (Fx.aI x n id) (Fx.aI p n pa)
theorem FB(a:mG x p n id pa=0):id≠0/\dn x n id=false/\(pa=0\/dn x n pa=true)/\n<32/\(gM x p n 4 pa).length<4:=by
 unfold mG at a
 split at a
 ·cases a
 split at a
 ·cases a
 split at a
 ·cases a
 split at a
 ·cases a
 rename_i h1 h2 h3 h4
 refine⟨h1,by simpa using h2,?_,by omega,by omega⟩
 by_cases b:pa=0
 ·exact .inl b
 right
 cases hk:dn x n pa with
 | true=>rfl
 | false=>exact absurd ⟨b,hk⟩ h3
theorem iG(id k:Int):dn (Fx.aI x n id) (n+1) k=(dn x n k || decide (id=k)):=by
 have e : ∀ m,m<=n->dn (Fx.aI x n id) m k=dn x m k:=fun m=>by
  induction m with
  | zero=>exact fun _=>rfl
  | succ m ih =>
    intro a
    show(dn (Fx.aI x n id) m k || decide (Fx.aI x n id m=k))=(dn x m k || decide (x m=k))
    rw[ih (by omega)]
    unfold Fx.aI
    rw[if_neg (by omega)]
 show(dn (Fx.aI x n id) n k || decide (Fx.aI x n id n=k))=_
 rw[e n (Nat.le_refl _)]
 unfold Fx.aI
 rw[if_pos rfl]
theorem oJ(id pa k:Int):fF (Fx.aI x n id) (Fx.aI p n pa) (n+1) k=if id=k then pa else fF x p n k:=by
 have e : ∀ m,m<=n->fF (Fx.aI x n id) (Fx.aI p n pa) m k=fF x p m k:=fun m=>by
  induction m with
  | zero=>exact fun _=>rfl
  | succ m ih =>
    intro a
    show(if Fx.aI x n id m=k then Fx.aI p n pa m else fF (Fx.aI x n id) (Fx.aI p n pa) m k)=(if x m=k then p m else fF x p m k)
    rw[ih (by omega),show Fx.aI x n id m=x m by unfold Fx.aI; rw[if_neg (by omega)],show Fx.aI p n pa m=p m by unfold Fx.aI; rw[if_neg (by omega)]]
 show(if Fx.aI x n id n=k then Fx.aI p n pa n else fF (Fx.aI x n id) (Fx.aI p n pa) n k)=_
 rw[e n (Nat.le_refl _),show Fx.aI x n id n=id by unfold Fx.aI; rw[if_pos rfl],show Fx.aI p n pa n=pa by unfold Fx.aI; rw[if_pos rfl]]
theorem vE.up(h:vE n x p)(b:dn x n k=true):fF x p n k=0\/dn x n (fF x p n k)=true:=by
 obtain⟨j,a,e⟩:=eF b
 rw[uh h.inj a e]
 rcases h.par j a with h1|⟨i,hi,h1⟩
 ·exact .inl h1
 exact .inr (gL (by omega) h1)
theorem yH(h:vE n x p)(c:dn x n id=false)(b:id≠0) : ∀(d:Nat) (k:Int),k≠id->fZ x p n d k->fZ (Fx.aI x n id) (Fx.aI p n pa) (n+1) d k
 | 0,k,hk,hs=>by
   show dn _ _ _=false
   rw[iG,decide_eq_false (fun e=>hk e.symm),Bool.or_false]; exact hs
 | d+1,k,hk,hs=>fun a=>by
   rw[iG,decide_eq_false (fun e=>hk e.symm),Bool.or_false]at a
   rw[oJ,if_neg (fun e=>hk e.symm)]
   refine yH h c b d _ ?_ (hs a)
   intro e
   rcases h.up a with h1|h1
   ·exact b (e.symm.trans h1)
   ·rw[e,c]at h1; cases h1
theorem vE.put(h:vE n x p)(y:mG x p n id pa=0)(o:0<=id/\id<=18446744073709551615):vE (n+1) (Fx.aI x n id) (Fx.aI p n pa):=by
 obtain⟨m,f,s,B,A⟩:=FB y
 have l:Fx.aI x n id n=id:=by unfold Fx.aI; rw[if_pos rfl]
 have d : ∀ j,j<n->Fx.aI x n id j=x j:=fun j c=>by unfold Fx.aI; rw[if_neg (by omega)]
 have t:Fx.aI p n pa n=pa:=by unfold Fx.aI; rw[if_pos rfl]
 have u : ∀ j,j<n->Fx.aI p n pa j=p j:=fun j c=>by unfold Fx.aI; rw[if_neg (by omega)]
 have r : ∀ j,j<n->x j≠id:=fun j c e=>by rw[gL c e]at f; cases f
 have z:pa≠id:=fun e=>by
  subst e
  rcases s with h1|h1
  ·exact m h1
  ·rw[f]at h1; cases h1
 have g : ∀ j,j<n+1->j<n\/j=n:=fun j c=>by omega
 refine⟨fun a b w o e => ?_,fun j c => ?_,fun k => ?_,by omega,fun j c => ?_⟩
 ·rcases g a w with h1|rfl <;> rcases g b o with h2|rfl
  ·rw[d a h1,d b h2]at e; exact h.inj a b h1 h2 e
  ·rw[d a h1,l]at e; exact absurd e (r a h1)
  ·rw[l,d b h2]at e; exact absurd e.symm (r b h2)
  rfl
 ·rcases g j c with h1|rfl
  ·rw[d j h1]; exact h.pos j h1
  rw[l]; omega
 ·by_cases q:k=id
  ·subst q
   intro _
   rw[oJ,if_pos rfl]
   exact yH h f m 3 pa z (um (h.stop pa) (by omega))
  exact yH h f m 4 k q (h.stop k)
 rcases g j c with h1|rfl
 ·rw[u j h1]
  rcases h.par j h1 with h2|⟨i,hi,h2⟩
  ·exact .inl h2
  exact .inr ⟨i,hi,by rw[d i (by omega)]; exact h2⟩
 rw[t]
 rcases s with h2|h2
 ·exact .inl h2
 obtain⟨i,hi,v⟩:=eF h2
 exact .inr ⟨i,hi,by rw[d i hi]; exact v⟩
theorem qO : ∀ {l m:List Int},l.Pairwise (· < ·)->m.Pairwise (· < ·)->(∀ k,k∈l<->k∈m)->l=m
 | [],[],_,_,_=>rfl
 | [],b::m,_,_,h=>by have:=(h b).2 (by simp); simp at this
 | a::l,[],_,_,h=>by have:=(h a).1 (by simp); simp at this
 | a::l,b::m,hl,hm,h=>by
   rw[List.pairwise_cons]at hl hm
   have e:a=b:=by
    have c:=(h a).1 (by simp)
    have d:=(h b).2 (by simp)
    rw[List.mem_cons]at c d
    rcases c with c|c
    ·exact c
    rcases d with d|d
    ·exact d.symm
    have:=hm.1 _ c; have:=hl.1 _ d; omega
   subst e
   rw[qO hl.2 hm.2 fun k => ?_]
   have f:=h k
   rw[List.mem_cons,List.mem_cons]at f
   constructor
   ·intro q
    rcases f.1 (.inr q)with rfl|c
    ·have:=hl.1 _ q; omega
    ·exact c
   ·intro q
    rcases f.2 (.inr q)with rfl|c
    ·have:=hm.1 _ q; omega
    ·exact c
end
theorem Ay(S:Nat->Bool) : ∀ n,Fx.unseen S n<=n
 | 0=>Nat.le_refl _
 | n+1=>by
   unfold Fx.unseen
   have:=Ay S n
   split <;> omega
structure KN(n:Nat)(P:Nat->Prop)(S:Nat->Bool)(m:Nat)(τ:Nat->Nat)(kk:Nat):Prop where
 lt : ∀ q,q<m->τ q<n
 inj : ∀ q r,q<m->r<m->τ q=τ r->q=r
 mem : ∀ i,i<n->S i=true->P i -> ∃ q,q<m/\τ q=i
 yes : ∀ q,q<m->P (τ q)
 seen : ∀ q,q<m->S (τ q)=true
 le:m+kk<=n
 kk:kk=Fx.unseen S n
section
variable {n m kk:Nat} {P:Nat->Prop} {S:Nat->Bool} {τ:Nat->Nat}
theorem KN.start(n:Nat)(P:Nat->Prop)(τ:Nat->Nat):KN n P (fun _=>false) 0 τ (Fx.unseen (fun _=>false) n) :=
 ⟨fun _ h=>absurd h (Nat.not_lt_zero _),fun _ _ h=>absurd h (Nat.not_lt_zero _),fun _ _ h=>(nomatch h),fun _ h=>absurd h (Nat.not_lt_zero _),fun _ h=>absurd h (Nat.not_lt_zero _),by have:=Ay (fun _=>false) n; omega,rfl⟩
theorem KN.skip(h:KN n P S m τ kk){i:Nat}(hi:i<n)(g:S i=false)(d : ¬ P i):KN n P (Fx.aI S i true) m τ (Fx.unseen (Fx.aI S i true) n):=by
 have o:=Fx.jV g n hi
 have k:=h.kk
 have l:=h.le
 refine⟨h.lt,h.inj,fun j c a b => ?_,h.yes,fun q f => ?_,by omega,rfl⟩
 ·unfold Fx.aI at a
  split at a
  ·rename_i e; subst e; exact absurd b d
  exact h.mem j c a b
 unfold Fx.aI; split
 ·rfl
 exact h.seen q f
theorem KN.take(h:KN n P S m τ kk){i:Nat}(hi:i<n)(g:S i=false)(p:P i):KN n P (Fx.aI S i true) (m+1) (Fx.aI τ m i) (Fx.unseen (Fx.aI S i true) n):=by
 have w:=Fx.jV g n hi
 have u:=h.kk
 have v:=h.le
 have c:Fx.aI τ m i m=i:=by unfold Fx.aI; rw[if_pos rfl]
 have b : ∀ q,q<m->Fx.aI τ m i q=τ q:=fun q a=>by unfold Fx.aI; rw[if_neg (by omega)]
 have k : ∀ q,q<m->τ q≠i:=fun q a e=>by have:=h.seen q a; rw[e,g]at this; cases this
 have d : ∀ q,q<m+1->q<m\/q=m:=fun q a=>by omega
 refine⟨fun q a => ?_,fun q r a t e => ?_,fun j o f l => ?_,fun q a => ?_,fun q a => ?_,by omega,rfl⟩
 ·rcases d q a with h1|rfl
  ·rw[b q h1]; exact h.lt q h1
  rw[c]; exact hi
 ·rcases d q a with h1|h1 <;> rcases d r t with h2|h2
  ·rw[b q h1,b r h2]at e; exact h.inj q r h1 h2 e
  ·subst h2; rw[b q h1,c]at e; exact absurd e (k q h1)
  ·subst h1; rw[b r h2,c]at e; exact absurd e.symm (k r h2)
  omega
 ·by_cases e:j=i
  ·exact⟨m,by omega,by rw[c,e]⟩
  unfold Fx.aI at f
  rw[if_neg e]at f
  obtain⟨q,a,s⟩:=h.mem j o f l
  exact⟨q,by omega,by rw[b q a,s]⟩
 ·rcases d q a with h1|rfl
  ·rw[b q h1]; exact h.yes q h1
  rw[c]; exact p
 rcases d q a with h1|rfl
 ·rw[b q h1]; unfold Fx.aI; split
  ·rfl
  exact h.seen q h1
 rw[c]; unfold Fx.aI; rw[if_pos rfl]
end
end Rt
end Go.Proofs.YtcbedgfikejkoaaDoor
namespace Go.Proofs.YtcbedgfikejkoaaDoor
open Go.RowKit Rt
open Fx (eT dI eY bf eX eU eG dM eZ gW dO gX eP gH gY Lv sN Ln Ws Qv Wl Rp Wc Qs Wr Sb Lk Wk rC rV sR Rs Rn Rd Rk Wb Wx Wo yE Wt pJ Qn zQ tL yt zG wT zT zR iB zV jC nY rR zW yu zU yF yx rv aA aL bE aI ev bT Stp aO flat fH Mp aT fq gF bA down fM iW jk kU bQ bD cells_one jD aX pV unseen jl iQ cu bX dA cZ dh iE iT qL gI)
section
open Rt
set_option maxRecDepth 10000
theorem VB(x p:Nat->Int)(w:World) :
 Calls Tryd.prog 13 #[] w fun e w' => ∃ c b,e = .returned ((pt c))/\w.heap.size<=c/\w.heap.size<=b/\aL w' c 1 (fun _ => .map (some b)) 82/\Mp w' b 0 x (fun j=>aC (p j))/\Below w.heap.size w w':=by
 refine Kent Tryd.func13 4 ?_
 refine ay<|av (.pointer none)<|aD<|ay<|Fx.L.Dt (by rfl) rfl rfl fun m y l a r A => ?_
 have d:=aR r.old (Below.refl w.heap.size w)
 have n:=gK l
 have u:=a.lt
 refine av (.agg (aA 1 (bE (fun _ => .map none) 0 1 (fun _ => .map (some m)))))<|rG fun g z f h s B => ?_
 have⟨q,k⟩:=gU s.old a d
 have o:=iC f d.size
 have t:=bS f a.lt
 have v:=h.lt
 refine av ((pt g))<|aD<|Wr<|aM ((pt g)) ?_
 exact⟨_,_,rfl,o,n,h,q.nM (fun i hi=>absurd hi (Nat.not_lt_zero _)),k⟩
theorem Rt.nN{l:List Int}{i:Nat}{v:Int}(hi:i<l.length)(e:l.getD i 0=v):v∈l:=by
 rw[List.getD_eq_getElem?_getD,List.getElem?_eq_getElem hi]at e
 rw[<- e]; exact List.getElem_mem hi
theorem Rt.Oy{l:List Int}{v:Int}(h : ∀ j,j<l.length->l.getD j 0≠v) : ¬ v∈l:=fun a=>by
 obtain⟨i,hi,e⟩:=List.getElem_of_mem a
 refine h i hi ?_
 rw[List.getD_eq_getElem?_getD,List.getElem?_eq_getElem hi]; exact e
theorem YG(l:List Int)(v:Int)(B c:Nat)(a:Option Addr)(w:World)(C:Fx.Own w B 29 1 (.slice a l.length c) l.length (pW l))(F:l.length<=1000) :
 Calls Tryd.prog 145 #[.slice a (l.length) (c),aC v] w fun e w' => ∃ r:Int,e = .returned (au r)/\(0<=r<->v∈l)/\Below w.heap.size w w':=by
 refine Kent Tryd.func145 19 ?_
 refine ay<|av (au 0)<|aD<|Ws<|ay<|av (.slice a (l.length) (c))<|av (au l.length)<|av (au 0)<|aD<|Wb<|Wo (fun f A => ∃ i:Nat,(∀ j,j<i->l.getD j 0≠v)/\f 0 = .slice a (l.length) (c)/\f 1=aC v/\f 7=au ((l.length:Int))/\f 8=au ((i:Int))/\Fx.Own A B 29 1 (.slice a (l.length) (c)) l.length (pW l)/\Below w.heap.size w A) (fun f _=>((l.length:Int)-intOf (f 8)).toNat) ⟨0,(fun j n=>absurd n (Nat.not_lt_zero _)),(by rfl),Fx.ic,Fx.ic,Fx.ic,C,(Below.refl w.heap.size w)⟩ ?_
 rintro E z ⟨i,u,s,t,m,b,x,g⟩
 refine ay ?_
 by_cases o:(i:Int)<(l.length:Int)
 ·refine Lv aG (mD o (hx:=b) (hy:=m))<|aD<|Ws<|aQ<|Wk<|sN<|Ws<|Wb<|ay<|aZ b<|av (au i)<|aD<|ay<|aZ t<|aZ s<|av (au i) ?_
  obtain⟨p,k⟩:=x.addr (by omega)
  have y:Fx.Own z B 29 1 (bJ p l.length c) l.length (pW l):=x.qc (congrArg (fun q=>Value.slice q l.length c) k)
  refine Lv ((pf p i)) (dz 1 (hx:=(rfl.trans (congrArg (fun q=>Value.slice q (l.length) (c)) k))))<|Lv (aC (l.getD i 0)) (aP y.aK i) ?_
  by_cases d:v=(l.getD i 0)
  ·refine Lv aG (gT d)<|aD<|aQ<|ay<|av (au i)<|av (au i)<|aD<|Wr<|bX<|sR<|qL<|bX<|sR<|aM (au i) ?_
   exact⟨_,rfl,⟨fun _=>nN (by omega) d.symm,fun _=>by omega⟩,g⟩
  refine Lv aF (jm d)<|aD<|aN<|Wk<|dA<|sN<|Wl<|Lv (au ((i:Int)+1)) (gV (hx:=b))<|av (au ((i:Int)+1))<|Ln ?_
  have D:Fx.Own z B 29 1 (.slice a (l.length) (c)) l.length (pW l):=y.qc (congrArg (fun q=>Value.slice q l.length c) k.symm)
  refine iT ⟨i+1,(fun j n=>by by_cases e:j=i; subst e; exact fun e=>d e.symm; exact u j (by omega)),s,(t.trans Fx.ic),(m.trans Fx.ic),Fx.ic,D,g⟩ ?_
  show((l.length:Int)-intOf ((au ((i:Int)+1)))).toNat<_
  simp only[b,intOf]; omega
 refine Lv aF (mE o (hx:=b) (hy:=m))<|aD<|Ws<|aN<|Wx<|cZ<|iE<|dh<|sN<|ay<|av (au (-1))<|aD<|Wr<|aM (au (-1)) ?_
 exact⟨_,rfl,⟨fun h=>by omega,fun h=>absurd h (Oy (fun j n=>u j (by omega)))⟩,g⟩
theorem YH(l:List Int)(v:Int)(B c:Nat)(a:Option Addr)(w:World)(g:Fx.Own w B 29 1 (.slice a l.length c) l.length (pW l))(i:l.length<=1000) :
 Calls Tryd.prog 133 #[.slice a (l.length) (c),aC v] w fun e w'=>e = .returned (.bool (decide (v∈l)))/\Below w.heap.size w w':=by
 refine Kent Tryd.func133 9 ?_
 refine ay<|av aF<|aD<|ay<|av (.slice a (l.length) (c))<|av (aC v)<|ko (YG l v B c a _ g i) ?_
 rintro j k ⟨r,b,h,f⟩
 refine⟨_,b,?_⟩
 clear b
 have d:=aR f (Below.refl w.heap.size w)
 refine Lv (.bool (decide (0<=r))) (Fx.yh rfl rfl rfl)<|av (.bool (decide (0<=r)))<|aD<|Wr<|aM (.bool (decide (0<=r))) ?_
 exact⟨by rw[decide_eq_decide.2 h],d⟩
theorem VD(x p:Nat->Int)(n b a:Nat)(id pa:Int)(w:World)(f:aL w b 1 (fun _ => .map (some a)) 82)(d:Mp w a n x (fun j=>aC (p j)))(h:vE n x p) :
 Calls Tryd.prog 118 #[(pt b),aC id,aC pa] w fun e w' => ∃ c F x2 G,e = .returned (au c)/\Sw n x p id pa c F x2 G/\aL w' b 1 (fun _ => .map (some a)) 82/\Mp w' a F x2 (fun j=>aC (G j))/\Stp a w w':=by
 have ac:=f.lt
 have ab:=d.lt
 have aa:=h.small
 have Z:(gM x p n 4 pa).length<=4:=qN
 refine Kent Tryd.func118 44 ?_
 refine ay<|av (au 0)<|aD<|Ws<|Wb<|ay<|av ((pt b))<|Lv aF (Fx.jF rfl rfl rfl (by kernel_rfl))<|av aF<|aD<|aN<|ay<|av (aC id) ?_
 by_cases k:id=0
 ·refine Lv aG (gT k)<|av aG<|aD<|aQ<|ay<|av (au 1)<|aD<|Wr<|bX<|sR<|aM (au 1) ?_
  exact⟨_,_,_,_,rfl,.no (by unfold mG; rw[if_pos k]) (by decide),f,d,(jC a w)⟩
 refine Lv aF (jm k)<|av aF<|aD<|aN<|ay<|av ((pt b))<|av (aC id) ?_
 by_cases g:(dn x n id)=true
 ·refine lJ (yG x p n b a id _ f d) aG (by rw[g])<|av aG<|aD<|aQ<|ay<|av (au 14)<|aD<|Wr<|bX<|sR<|aM (au 14) ?_
  exact⟨_,_,_,_,rfl,.no (by unfold mG; rw[if_neg k,g,if_pos rfl]) (by decide),f,d,(jC a w)⟩
 rw[Bool.not_eq_true]at g
 refine lJ (yG x p n b a id _ f d) aF (by rw[g])<|av aF<|aD<|aN<|ay<|av (aC pa) ?_
 by_cases m:pa=0
 ·refine Lv aF (ng m)<|av aF<|dL<|dL<|dL<|dL<|av aF<|av aF<|aD<|aN<|Ws<|ay<|av ((pt b))<|av ((pt b))<|av ((pt b))<|Lv (.map (some a)) (aP f.aK 0)<|Lv (au n) (Fx.KA rfl rfl rfl d Tryd.underlying53) ?_
  by_cases o:32<=(n:Int)
  ·refine Lv aG (pO o)<|av aG<|aD<|aQ<|Wk<|sN<|aQ<|ay<|av (au 6)<|aD<|Wr<|bX<|sR<|aM (au 6) ?_
   exact⟨_,_,_,_,rfl,.no (by unfold mG; rw[if_neg k,g,if_neg (by decide),if_neg (fun h=>h.1 m),if_pos (by omega)]) (by decide),f,d,(jC a w)⟩
  refine Lv aF (oz o)<|av aF<|aD<|aN<|Wl<|av ((pt b))<|av (aC pa)<|ko (Fy x p n b a 4 pa _ f d h.inj (h.stop _) (h.len _)) ?_
  rintro M w1 ⟨QL,pc1,r,N,B⟩
  refine⟨_,r,?_⟩
  clear r
  have V:=Sb B
  have⟨u,v⟩:=gU B f d
  have z:=(jC a w).then V (.inr (jC a w).size)
  refine av (au (((gM x p n 4 pa).length:Nat):Int)) ?_
  by_cases q:4<=(((gM x p n 4 pa).length:Nat):Int)
  ·refine Lv aG (pO q)<|av aG<|aD<|aQ<|ay<|av (au 6)<|aD<|Wr<|bX<|sR<|aM (au 6) ?_
   exact⟨_,_,_,_,rfl,.no (by unfold mG; rw[if_neg k,g,if_neg (by decide),if_neg (fun h=>h.1 m),if_pos (by omega)]) (by decide),u,v,z⟩
  refine Lv aF (oz q)<|av aF<|aD<|aN<|Wk<|dA<|sN<|Ws ?_
  have s : ∀ i,i<n->x i≠id:=fun i hi e=>by rw[gL hi e]at g; cases g
  refine Wl<|av ((pt b))<|av ((pt b))<|av ((pt b))<|Lv (.map (some a)) (aP u.aK 0)<|av (aC id)<|av (aC pa)<|Fx.L.I9 (by rfl) rfl rfl rfl rfl rfl v Tryd.underlying53 Tryd.underlying29 s fun X R H z1 => ?_
  have D:=v.wB H
  have S:=u.cB D
  have m6:=N.cB D
  have J:=z.then H (.inl rfl)
  have T:Mp X a (n+1) (aI x n id) (fun j=>aC (aI p n pa j)):=R.nM (fun i _=>⟨rfl,by unfold aI; split <;> rfl⟩)
  refine aD<|ay<|av (au 0)<|aD<|Wr<|aM (au 0) ?_
  exact⟨_,_,_,_,rfl,.yes (by unfold mG; rw[if_neg k,g,if_neg (by decide),if_neg (fun h=>h.1 m),if_neg (by omega)]),S,T,J⟩
 refine Lv aG (qg m)<|av aG<|av ((pt b))<|av (aC pa) ?_
 by_cases l:(dn x n pa)=true
 ·refine lJ (yG x p n b a pa _ f d) aG (by rw[l])<|av aF<|av aF<|av aF<|aD<|aN<|Ws<|ay<|av ((pt b))<|av ((pt b))<|av ((pt b))<|Lv (.map (some a)) (aP f.aK 0)<|Lv (au n) (Fx.KA rfl rfl rfl d Tryd.underlying53) ?_
  by_cases o:32<=(n:Int)
  ·refine Lv aG (pO o)<|av aG<|aD<|aQ<|Wk<|sN<|aQ<|ay<|av (au 6)<|aD<|Wr<|bX<|sR<|aM (au 6) ?_
   exact⟨_,_,_,_,rfl,.no (by unfold mG; rw[if_neg k,g,if_neg (by decide),if_neg (fun h=>by rw[l]at h; cases h.2),if_pos (by omega)]) (by decide),f,d,(jC a w)⟩
  refine Lv aF (oz o)<|av aF<|aD<|aN<|Wl<|av ((pt b))<|av (aC pa)<|ko (Fy x p n b a 4 pa _ f d h.inj (h.stop _) (h.len _)) ?_
  rintro M w3 ⟨pa2,pc2,r,U,C⟩
  refine⟨_,r,?_⟩
  clear r
  have W:=Sb C
  have⟨y,t⟩:=gU C f d
  have A:=(jC a w).then W (.inr (jC a w).size)
  refine av (au (((gM x p n 4 pa).length:Nat):Int)) ?_
  by_cases q:4<=(((gM x p n 4 pa).length:Nat):Int)
  ·refine Lv aG (pO q)<|av aG<|aD<|aQ<|ay<|av (au 6)<|aD<|Wr<|bX<|sR<|aM (au 6) ?_
   exact⟨_,_,_,_,rfl,.no (by unfold mG; rw[if_neg k,g,if_neg (by decide),if_neg (fun h=>by rw[l]at h; cases h.2),if_pos (by omega)]) (by decide),y,t,A⟩
  refine Lv aF (oz q)<|av aF<|aD<|aN<|Wk<|dA<|sN<|Ws ?_
  have s : ∀ i,i<n->x i≠id:=fun i hi e=>by rw[gL hi e]at g; cases g
  refine Wl<|av ((pt b))<|av ((pt b))<|av ((pt b))<|Lv (.map (some a)) (aP y.aK 0)<|av (aC id)<|av (aC pa)<|Fx.L.I9 (by rfl) rfl rfl rfl rfl rfl t Tryd.underlying53 Tryd.underlying29 s fun Y O I z2 => ?_
  have E:=t.wB I
  have P:=y.cB E
  have ad:=U.cB E
  have K:=A.then I (.inl rfl)
  have Q:Mp Y a (n+1) (aI x n id) (fun j=>aC (aI p n pa j)):=O.nM (fun i _=>⟨rfl,by unfold aI; split <;> rfl⟩)
  refine aD<|ay<|av (au 0)<|aD<|Wr<|aM (au 0) ?_
  exact⟨_,_,_,_,rfl,.yes (by unfold mG; rw[if_neg k,g,if_neg (by decide),if_neg (fun h=>by rw[l]at h; cases h.2),if_neg (by omega)]),P,Q,K⟩
 rw[Bool.not_eq_true]at l
 refine lJ (yG x p n b a pa _ f d) aF (by rw[l])<|av aG<|av aG<|av aG<|aD<|aQ<|ay<|av (au 9)<|aD<|Wr<|bX<|sR<|aM (au 9) ?_
 exact⟨_,_,_,_,rfl,.no (by unfold mG; rw[if_neg k,g,if_neg (by decide),if_pos ⟨m,l⟩]) (by decide),f,d,(jC a w)⟩
theorem VE(k:Int)(w:World) :
 Calls Tryd.prog 32 #[aC k] w fun e w'=>e = .returned (.bool true)/\w'=w:=by
 refine Kent Tryd.func32 3 ?_
 refine ay<|av aF<|aD<|ay<|av aG<|aD<|Wr<|aM aG ?_
 exact⟨rfl,rfl⟩
-- (*tree.Tree).Below$1 is not in this seat
end
section
set_option linter.unusedVariables false
namespace Rt
open Go.Sort (ltInt swp)
def gA(d:Array Int):Nat->Int:=fun i=>d[i]!
section
variable {d d':Array Int} {n a b i j k p:Nat}
theorem Sy(e:d.size=n)(hi:i<n)(c:j<n)(k:Nat):gA (swp d i j) k=if k=i then gA d j else if k=j then gA d i else gA d k:=by
 unfold gA
 by_cases b:k=i
 ·subst b
  rw[if_pos rfl]
  by_cases a:k=j
  ·subst a; exact Sort.swp_right d k k (by omega)
  exact Sort.swp_left d k j (by omega) a
 rw[if_neg b]
 by_cases a:k=j
 ·subst a; rw[if_pos rfl]; exact Sort.swp_right d i k (by omega)
 rw[if_neg a]; exact Sort.swp_other d i j k b a
theorem dG(a:d.size=n)(i j:Nat):(swp d i j).size=n:=by rw[Sort.size_swp]; exact a
theorem fu(e:d.size=n)(hi:i<n)(c:j<n) : ∀ p,p<n*1->fH (fH (rv .u64 (gA d)) i (aC (gA d j))) j (aC (gA d i)) p=rv .u64 (gA (swp d i j)) p:=fun p f=>by
 show _=Value.int .u64 (gA (swp d i j) p)
 rw[Sy e hi c]
 unfold fH
 by_cases b:p=j
 ·subst b
  rw[if_pos rfl]
  by_cases a:p=i
  ·subst a; rw[if_pos rfl]
  ·rw[if_neg a,if_pos rfl]
 ·rw[if_neg b]
  by_cases a:p=i
  ·rw[if_pos a,if_pos a]
  ·rw[if_neg a,if_neg a,if_neg b]; rfl
theorem nu(h:gA d i<gA d j):ltInt d[i]! d[j]! = true:=decide_eq_true h
theorem pE(h : ¬ gA d i<gA d j):ltInt d[i]! d[j]! = false:=decide_eq_false h
theorem Sz(c:a<j)(b:gA d j<gA d (j-1)):Sort.insInner ltInt a (j-1) (swp d j (j-1))=Sort.insInner ltInt a j d:=by
 obtain⟨k,rfl⟩ : ∃ k,j=k+1:=⟨j-1,by omega⟩
 have b:=nu b
 rw[Nat.add_sub_cancel]at b ⊢
 conv=>rhs; rw[Sort.insInner]
 rw[b,decide_eq_true (show k+1>a by omega)]; rfl
theorem DI(h:j<=a \/ ¬ gA d j<gA d (j-1)):Sort.insInner ltInt a j d=d:=by
 cases j with
 | zero=>rw[Sort.insInner]
 | succ k =>
   rw[Sort.insInner]
   rcases h with h|h
   ·rw[decide_eq_false (show ¬ k+1>a by omega)]; rfl
   ·have h:=pE h
    rw[Nat.add_sub_cancel]at h
    rw[h,Bool.and_false]; rfl
theorem KO(h:i<b)(hi:Sort.insInner ltInt a i d=d'):Sort.insOuter ltInt a b (i+1) d'=Sort.insOuter ltInt a b i d:=by
 conv=>rhs; rw[Sort.insOuter,if_pos h]
 rw[hi]
theorem KP(h : ¬ i<b):Sort.insOuter ltInt a b i d=d:=by rw[Sort.insOuter,if_neg h]
variable {f r hi x0 x1 x2:Nat}
theorem yI(h:hi<=2*r+1):Sort.siftDown ltInt hi f r d=d:=by rw[Sort.siftDown,dif_pos (by omega)]
theorem DJ(c:x1=f+(2*r+1))(g:x2=f+(2*r+2))(e0:x0=f+r)(h:2*r+1<hi)(b:hi<=2*r+2 \/ ¬ gA d x1<gA d x2) :
 Sort.siftDown ltInt hi f r d=if gA d x0<gA d x1 then Sort.siftDown ltInt hi f (2*r+1) (swp d x0 x1)else d:=by
 rw[Sort.siftDown,dif_neg (by omega)]
 have e:(decide (2*r+1+1<hi)&&ltInt d[f+(2*r+1)]! d[f+(2*r+1)+1]!)=false:=by
  rcases b with b|b
  ·rw[decide_eq_false (by omega),Bool.false_and]
  ·rw[<- c,show x1+1=x2 by omega,pE b,Bool.and_false]
 rw[e,<- c,<- e0]
 by_cases a:gA d x0<gA d x1
 ·rw[nu a,if_pos a]; rfl
 rw[pE a,if_neg a]; rfl
theorem KQ(b:x1=f+(2*r+1))(c:x2=f+(2*r+2))(e0:x0=f+r)(h:2*r+2<hi)(e:gA d x1<gA d x2) :
 Sort.siftDown ltInt hi f r d=if gA d x0<gA d x2 then Sort.siftDown ltInt hi f (2*r+2) (swp d x0 x2)else d:=by
 rw[Sort.siftDown,dif_neg (by omega)]
 have g:(decide (2*r+1+1<hi)&&ltInt d[f+(2*r+1)]! d[f+(2*r+1)+1]!)=true:=by
  rw[decide_eq_true (by omega),<- b,show x1+1=x2 by omega,nu e]; rfl
 rw[g,<- c,<- e0]
 by_cases a:gA d x0<gA d x2
 ·rw[nu a,if_pos a]; simp only[if_true,Bool.not_true,dif_pos h]; rfl
 rw[pE a,if_neg a]; rfl
theorem KR(a:0<k):Sort.heapBuild ltInt hi f (k-1) (Sort.siftDown ltInt hi f (k-1) d)=Sort.heapBuild ltInt hi f k d:=by
 obtain⟨j,rfl⟩ : ∃ j,k=j+1:=⟨k-1,by omega⟩
 rfl
theorem SA{x:Nat}(a:0<k)(e:x=f+(k-1)):Sort.heapPop ltInt f (k-1) (Sort.siftDown ltInt (k-1) f 0 (swp d f x))=Sort.heapPop ltInt f k d:=by
 subst e
 obtain⟨j,rfl⟩ : ∃ j,k=j+1:=⟨k-1,by omega⟩
 rfl
theorem xI(h:f+hi<=n) : ∀(m r:Nat) (d:Array Int),hi-r<=m->d.size=n->(Sort.siftDown ltInt hi f r d).size=n
 | 0,r,d,hm,hd=>by rw[yI (by omega)]; exact hd
 | m+1,r,d,hm,hd=>by
   by_cases b:2*r+1<hi
   ·by_cases a:2*r+2<hi/\gA d (f+(2*r+1))<gA d (f+(2*r+2))
    ·rw[KQ rfl rfl rfl a.1 a.2]
     split
     ·exact xI h m _ _ (by omega) (dG hd _ _)
     ·exact hd
    ·rw[DJ rfl rfl rfl b (by by_cases c:2*r+2<hi; exact .inr fun e=>a ⟨c,e⟩; exact .inl (by omega))]
     split
     ·exact xI h m _ _ (by omega) (dG hd _ _)
     ·exact hd
   ·rw[yI (by omega)]; exact hd
theorem SB(h:i<j):Sort.reverseLoop (i+1) (j-1) (swp d i j)=Sort.reverseLoop i j d:=by conv=>rhs; rw[Sort.reverseLoop,if_pos h]
theorem KS(h : ¬ i<j):Sort.reverseLoop i j d=d:=by rw[Sort.reverseLoop,if_neg h]
theorem QM{p:Int->Bool}(h:i<=j)(a:p d[i]! = true):Sort.scanUp p d j (i+1)=Sort.scanUp p d j i:=by
 conv=>rhs; rw[Sort.scanUp,a,decide_eq_true h]
 rfl
theorem mM{p:Int->Bool}(h:j<i\/p d[i]! = false):Sort.scanUp p d j i=i:=by
 rw[Sort.scanUp]
 rcases h with h|h
 ·rw[decide_eq_false (by omega)]; rfl
 rw[h,Bool.and_false]; rfl
theorem QN{p:Int->Bool}(h:i<=j)(b:0<j)(a:p d[j]! = true):Sort.scanDown p d i (j-1)=Sort.scanDown p d i j:=by
 obtain⟨k,rfl⟩ : ∃ k,j=k+1:=⟨j-1,by omega⟩
 conv=>rhs; rw[Sort.scanDown,a,decide_eq_true h]
 rfl
theorem xJ{p:Int->Bool}(h:j<i\/p d[j]! = false):Sort.scanDown p d i j=j:=by
 cases j with
 | zero=>rfl
 | succ k =>
   rw[Sort.scanDown]
   rcases h with h|h
   ·rw[decide_eq_false (by omega)]; rfl
   ·rw[h,Bool.and_false]; rfl
theorem KT(h:i<=j)(b:gA d i<gA d a):Sort.partLoop ltInt a (i+1) j d=Sort.partLoop ltInt a i j d:=by
 rw[Sort.partLoop_eq,Sort.partLoop_eq (i:=i),QM (p:=fun x=>ltInt x d[a]!) h (nu b)]
theorem Az(h:i<=j)(c:0<j)(b : ¬ gA d i<gA d a)(e : ¬ gA d j<gA d a):Sort.partLoop ltInt a i (j-1) d=Sort.partLoop ltInt a i j d:=by
 rw[Sort.partLoop_eq,Sort.partLoop_eq (j:=j),mM (p:=fun x=>ltInt x d[a]!) (.inr (pE b)),mM (p:=fun x=>ltInt x d[a]!) (.inr (pE b)),QN (p:=fun x => !ltInt x d[a]!) h c (by rw[pE e]; rfl)]
theorem AA(h:i<=j)(c : ¬ gA d i<gA d a)(b:gA d j<gA d a):Sort.partLoop ltInt a (i+1) (j-1) (swp d i j)=Sort.partLoop ltInt a i j d:=by
 rw[Sort.partLoop_eq (i:=i),mM (p:=fun x=>ltInt x d[a]!) (.inr (pE c)),xJ (p:=fun x => !ltInt x d[a]!) (.inr (by rw[nu b]; rfl)),if_neg (by omega)]
theorem vF(h:j<i):Sort.partLoop ltInt a i j d=(j,d):=by
 rw[Sort.partLoop_eq,mM (p:=fun x=>ltInt x d[a]!) (.inl h),xJ (p:=fun x => !ltInt x d[a]!) (.inl h),if_pos h]
theorem VF(h:i<=j)(b : ¬ gA d a<gA d i):Sort.partEqLoop ltInt a (i+1) j d=Sort.partEqLoop ltInt a i j d:=by
 rw[Sort.partEqLoop_eq,Sort.partEqLoop_eq (i:=i),QM (p:=fun x => !ltInt d[a]! x) h (by rw[pE b]; rfl)]
theorem QO(h:i<=j)(c:0<j)(b:gA d a<gA d i)(e:gA d a<gA d j):Sort.partEqLoop ltInt a i (j-1) d=Sort.partEqLoop ltInt a i j d:=by
 rw[Sort.partEqLoop_eq,Sort.partEqLoop_eq (j:=j),mM (p:=fun x => !ltInt d[a]! x) (.inr (by rw[nu b]; rfl)),mM (p:=fun x => !ltInt d[a]! x) (.inr (by rw[nu b]; rfl)),QN (p:=fun x=>ltInt d[a]! x) h c (nu e)]
theorem QS(h:i<=j)(c:gA d a<gA d i)(b : ¬ gA d a<gA d j):Sort.partEqLoop ltInt a (i+1) (j-1) (swp d i j)=Sort.partEqLoop ltInt a i j d:=by
 rw[Sort.partEqLoop_eq (i:=i),mM (p:=fun x => !ltInt d[a]! x) (.inr (by rw[nu c]; rfl)),xJ (p:=fun x=>ltInt d[a]! x) (.inr (pE b)),if_neg (by omega)]
theorem KU(h:j<i):Sort.partEqLoop ltInt a i j d=(i,d):=by
 rw[Sort.partEqLoop_eq,mM (p:=fun x => !ltInt d[a]! x) (.inl h),xJ (p:=fun x=>ltInt d[a]! x) (.inl h),if_pos h]
theorem FC(a:Nat)(d:Array Int):Sort.SortedIn ltInt a (a+1) d:=fun i j b c e=>by omega
end
end Rt
end
section
open Rt
set_option maxRecDepth 10000
theorem VG(n:Int)(w:World) :
 Calls Tryd.prog 36 #[aC n] w fun e w'=>e = .returned (.bool false)/\w'=w:=by
 refine Kent Tryd.func36 6 ?_
 refine ay<|av aF<|aD<|ay<|av (aC n)<|av (aC n)<|Lv aF (ng rfl)<|av aF<|aD<|Wr<|aM aF ?_
 exact⟨rfl,rfl⟩
theorem bY(a b:Int)(w:World) :
 Calls Tryd.prog 78 #[aC a,aC b] w fun e w'=>e = .returned (.bool (decide (a<b)))/\w'=w:=by
 refine Kent Tryd.func78 17 ?_
 refine ay<|av aF<|aD<|ay<|av (aC a)<|lJ (VG a _) _ rfl<|av aF<|dL<|dL<|dL<|av aF<|av aF<|av (aC a)<|av (aC b)<|Lv (.bool (decide (a<b))) (Fx.Ke rfl rfl rfl)<|av (.bool (decide (a<b)))<|av (.bool (decide (a<b)))<|aD<|Wr<|aM (.bool (decide (a<b))) ?_
 exact⟨rfl,rfl⟩
theorem VH(a b:Nat)(B g n cap:Nat)(d:Array Int)(w:World)(h:Fx.Own w B 29 1 (bJ g n cap) n (rv .u64 (gA d)))(p:B<=w.heap.size)(Y:d.size=n)(hs:n<=1000)(ha:a<=b)(hb:b<=n) :
 Calls Tryd.prog 72 #[bJ g n cap,au ((a:Int)),au ((b:Int))] w fun e w'=>e = .returned (.tuple #[])/\Fx.Own w' B 29 1 (bJ g n cap) n (rv .u64 (gA (Sort.insertionSort Sort.ltInt d a b)))/\Below B w w':=by
 refine Kent Tryd.func72 49 ?_
 refine ay<|av (au a)<|Lv (au ((a:Int)+1)) gV<|av (au ((a:Int)+1))<|aD<|Wb<|Wo (fun f u => ∃ i:Nat,∃ o:Array Int,(a<i/\i<=b+1)/\o.size=n/\Sort.insOuter Sort.ltInt a b i o=Sort.insOuter Sort.ltInt a b (a+1) d/\f 0=bJ g n cap/\f 1=au ((a:Int))/\f 2=au ((b:Int))/\f 6=au ((i:Int))/\Fx.Own u B 29 1 (bJ g n cap) n (rv .u64 (gA o))/\Below B w u) (fun f _=>((b:Int)+1-intOf (f 6)).toNat) ⟨a+1,d,(by omega),Y,rfl,(by rfl),Fx.ic,Fx.ic,Fx.ic,h,(Below.refl B w)⟩ ?_
 rintro f1 w1 ⟨i,o,hi,X,x,V,W,K,s,P,F⟩
 refine Ws<|ay<|aZ s<|aZ K ?_
 by_cases I:(i:Int)<(b:Int)
 ·refine Lv aG (mD I)<|aD<|aQ<|Wk<|sN<|Ws<|Wb<|ay<|aZ s<|av (au i)<|aD<|Wb<|Wo (fun f u => ∃ j:Nat,∃ c:Array Int,(a<=j/\j<=i)/\c.size=n/\Sort.insInner Sort.ltInt a j c=Sort.insInner Sort.ltInt a i o/\f 0=bJ g n cap/\f 1=au ((a:Int))/\f 2=au ((b:Int))/\f 6=au ((i:Int))/\f 7=au ((j:Int))/\Fx.Own u B 29 1 (bJ g n cap) n (rv .u64 (gA c))/\Below B w u) (fun f _=>(intOf (f 7)).toNat) ⟨i,o,(by omega),X,rfl,V,(W.trans Fx.ic),(K.trans Fx.ic),(s.trans Fx.ic),Fx.ic,P,F⟩ ?_
  rintro f2 w2 ⟨j,c,hji,y,E,k,v,C,D,l,t,A⟩
  refine Ws<|Ws ?_
  -- region 4 draws
  refine kV<|eB l<|eB v ?_
  by_cases J:(a:Int)<(j:Int)
  ·refine Qv aG (fun q m=>zX J)<|bC aG<|eB k<|eB l<|Qv ((pf g j)) (fun q m=>dz 1)<|Qv (aC ((gA c) j)) (fun q m=>aP (t.cb m) j)<|eB k<|eB l<|Qv (au ((j:Int)-1)) (fun q m=>jc)<|Qv ((pf g (j-1))) (fun q m=>dz 1)<|Qv (aC ((gA c) (j-1))) (fun q m=>aP (t.cb m) (j-1)) ?_
   by_cases r:(decide ((gA c) j<(gA c) (j-1)))=true
   ·refine mK (fun _ _=>bY ((gA c) j) ((gA c) (j-1)) _) aG (by rw[r])<|bC aG<|Qn ?_
    intro VI L
    have Z:=aR L t
    have R:=gJ L A p
    refine sN<|aQ<|Wk<|sN<|Ws<|Wb ?_
    -- region 6 draws
    refine jP [0,1,2,3,4,5,6,7,8,10,11,12,9,13,14,15,16,17] [0,0,0,0,0,0,0,0,0,4,0,0,0,4,0,3,0,3] [(15,9,[9]),(17,9,[9]),(15,13,[13]),(17,13,[13]),(16,15,[15]),(17,15,[15])] fun rZ O iF => ?_
    have z:=aR O Z
    have G:=gJ O R p
    refine bK k<|bK l<|bK k<|bK l<|Rp (au ((j:Int)-1)) (fun _=>jc)<|bK k<|bK l<|Rp (au ((j:Int)-1)) (fun _=>jc)<|Rp ((pf g (j-1))) (fun _=>dz 1)<|bK k<|bK l<|Rp ((pf g j)) (fun _=>dz 1)<|Rs (aC ((gA c) (j-1))) (aP z.aK (j-1)) ?_
    refine Rs (aC ((gA c) j)) (aP z.aK j) ?_
    refine Rp ((pf g j)) (fun _=>dz 1)<|gG<|kY z j (aC ((gA c) (j-1))) fun w3 Q s3 z1 => ?_
    have H:=s3.below G (Nat.le_trans p G.size) z.blk.1
    refine Ln<|Rp ((pf g (j-1))) (fun _=>dz 1)<|gG<|kY Q (j-1) (aC ((gA c) j)) fun w4 m6 s4 z2 => ?_
    have S:=s4.below H (Nat.le_trans p H.size) Q.blk.1
    have m7:Fx.Own w4 B 29 1 (bJ g n cap) n (rv .u64 (gA (Sort.swp c j (j-1)))):=m6.congr (fu y (by omega) (by omega))
    refine Ln<|Rn<|dA<|sN<|Wl<|aZ l<|Lv (au ((j:Int)-1)) jc<|av (au ((j:Int)-1))<|Ln<|iT ⟨j-1,Sort.swp c j (j-1),(by omega),(dG y _ _),((Sz (by omega) (of_decide_eq_true r)).trans E),k,(v.trans Fx.ic),(C.trans Fx.ic),(D.trans Fx.ic),Fx.ic,m7,S⟩ ?_
    show(intOf ((au ((j:Int)-1)))).toNat<_
    simp only[l,intOf]; omega
   rw[Bool.not_eq_true]at r
   refine mK (fun _ _=>bY ((gA c) j) ((gA c) (j-1)) _) aF (by rw[r])<|bC aF<|Qn ?_
   intro VJ M
   have m8:=aR M t
   have T:=gJ M A p
   refine sN<|aN<|Wx<|cZ<|iE<|dh<|dA<|sN<|Wl<|aZ D<|Lv (au ((i:Int)+1)) gV<|av (au ((i:Int)+1))<|Ln<|iT ⟨i+1,c,(by omega),y,((KO (by omega) (E.symm.trans (DI (.inr (of_decide_eq_false r))))).trans x),k,(v.trans Fx.ic),(C.trans Fx.ic),Fx.ic,m8,T⟩ ?_
   show((b:Int)+1-intOf ((au ((i:Int)+1)))).toNat<_
   simp only[s,intOf]; omega
  refine Qv aF (fun q m=>zY J)<|bC aF<|aU<|aU<|aU<|aU<|aU<|aU<|aU<|aU<|aU<|aU<|bC aF<|Qn ?_
  intro VK N
  have m9:=aR N t
  have U:=gJ N A p
  refine sN<|aN<|Wx<|cZ<|iE<|dh<|dA<|sN<|Wl<|aZ D<|Lv (au ((i:Int)+1)) gV<|av (au ((i:Int)+1))<|Ln<|iT ⟨i+1,c,(by omega),y,((KO (by omega) (E.symm.trans (DI (.inl (by omega))))).trans x),k,(v.trans Fx.ic),(C.trans Fx.ic),Fx.ic,m9,U⟩ ?_
  show((b:Int)+1-intOf ((au ((i:Int)+1)))).toNat<_
  simp only[s,intOf]; omega
 refine Lv aF (mE I) (aD (aN (Wx (cZ (iE (dh (⟨.tuple #[],fM Tryd.results72,?_⟩)))))))
 rw[KP (by omega)]at x; subst x; exact⟨rfl,P,F⟩
end
section
open Rt
set_option maxRecDepth 10000
theorem SC(q hi a:Nat)(B g n cap:Nat)(d:Array Int)(w:World)(h:Fx.Own w B 29 1 (bJ g n cap) n (rv .u64 (gA d)))(l:B<=w.heap.size)(hn:d.size=n)(hs:n<=1000)(hf:a+hi<=n/\q<=1000) :
 Calls Tryd.prog 84 #[bJ g n cap,au ((q:Int)),au ((hi:Int)),au ((a:Int))] w fun e w'=>e = .returned (.tuple #[])/\Fx.Own w' B 29 1 (bJ g n cap) n (rv .u64 (gA (Sort.siftDown Sort.ltInt hi a q d)))/\Below B w w':=by
 obtain⟨hf,hlo⟩:=hf
 refine Kent Tryd.func84 76 ?_
 refine ay<|av (au q)<|av (au q)<|aD<|Wb<|Wo (fun f w_ => ∃ r:Nat,∃ b:Array Int,b.size=n/\Sort.siftDown Sort.ltInt hi a r b=Sort.siftDown Sort.ltInt hi a q d/\r<=hi+q/\f 0=bJ g n cap/\f 1=au ((q:Int))/\f 2=au ((hi:Int))/\f 3=au ((a:Int))/\f 8=au ((r:Int))/\Fx.Own w_ B 29 1 (bJ g n cap) n (rv .u64 (gA b))/\Below B w w_) (fun f _=>((hi:Int)+q-intOf (f 8)).toNat) ⟨q,d,hn,rfl,(by omega),(by rfl),Fx.ic,Fx.ic,Fx.ic,Fx.ic,h,(Below.refl B w)⟩ ?_
 rintro f1 w1 ⟨r,b,t,o,hr,j,F,v,k,p,u,x⟩
 refine Wb<|ay<|aZ p<|Lv (au (2*(r:Int))) (Fx.Al rfl rfl rfl Fx.io)<|Lv (au (2*(r:Int)+1)) gV<|av (au (2*(r:Int)+1))<|aD<|Ws<|ay<|av (au (2*(r:Int)+1))<|aZ v ?_
 by_cases P:(hi:Int)<=(2*(r:Int)+1)
 ·refine Lv aG (pO P) (aD (aQ (Wx (cZ (Fx.Fe rfl (iE (dh (⟨.tuple #[],fM Tryd.results84,?_⟩))))))))
  rw[yI (by omega)]at o; subst o; exact⟨rfl,u,x⟩
 refine Lv aF (oz P)<|aD<|aN<|Wk<|sN<|Ws<|Ws ?_
 -- region 3 draws
 refine kV<|bC (au (2*(r:Int)+1))<|Qv (au (2*(r:Int)+2)) (fun i c=>gV)<|eB v ?_
 by_cases Q:(2*(r:Int)+2)<(hi:Int)
 ·refine Qv aG (fun i c=>mD Q)<|bC aG<|eB j<|eB k<|bC (au (2*(r:Int)+1))<|Qv (au ((a:Int)+2*(r:Int)+1)) (fun i c=>gV)<|Qv ((pf g (a+2*r+1))) (fun i c=>dz 1)<|Qv (aC ((gA b) (a+2*r+1))) (fun i c=>aP (u.cb c) (a+2*r+1))<|eB j<|eB k<|bC (au (2*(r:Int)+1))<|Qv (au ((a:Int)+2*(r:Int)+1)) (fun i c=>gV)<|Qv (au ((a:Int)+2*(r:Int)+2)) (fun i c=>gV)<|Qv ((pf g (a+2*r+2))) (fun i c=>dz 1)<|Qv (aC ((gA b) (a+2*r+2))) (fun i c=>aP (u.cb c) (a+2*r+2)) ?_
  by_cases s:(decide ((gA b) (a+2*r+1)<(gA b) (a+2*r+2)))=true
  ·refine mK (fun _ _=>bY ((gA b) (a+2*r+1)) ((gA b) (a+2*r+2)) _) aG (by rw[s])<|bC aG<|Qn ?_
   intro VI R
   have C:=aR R u
   have L:=gJ R x l
   refine sN<|aQ<|Wl<|av (au (2*(r:Int)+1))<|Lv (au (2*(r:Int)+2)) gV<|av (au (2*(r:Int)+2))<|aD<|Ws<|Ws ?_
   -- region 5 draws
   refine kV<|eB j<|eB k<|eB p<|Qv (au ((a:Int)+(r:Int))) (fun i c=>gV)<|Qv ((pf g (a+r))) (fun i c=>dz 1)<|Qv (aC ((gA b) (a+r))) (fun i c=>aP (C.cb c) (a+r))<|eB j<|eB k<|bC (au (2*(r:Int)+2))<|Qv (au ((a:Int)+2*(r:Int)+2)) (fun i c=>gV)<|Qv ((pf g (a+2*r+2))) (fun i c=>dz 1)<|Qv (aC ((gA b) (a+2*r+2))) (fun i c=>aP (C.cb c) (a+2*r+2)) ?_
   by_cases m:(decide ((gA b) (a+r)<(gA b) (a+2*r+2)))=true
   ·refine mK (fun _ _=>bY ((gA b) (a+r)) ((gA b) (a+2*r+2)) _) aG (by rw[m])<|bC aF<|Qn ?_
    intro VJ S
    have m3:=aR S C
    have b3:=gJ S L l
    refine sN<|aN<|Wk<|sN<|Ws ?_
    -- region 6 draws
    refine jP [0,1,2,3,4,5,6,7,8,9,10,11,12,14,15,16,17,18,13,19,20,21,22,23] [0,0,0,0,0,0,0,0,0,0,0,0,0,4,0,0,0,0,0,4,0,3,0,3] [(21,13,[13]),(23,13,[13]),(21,19,[19]),(23,19,[19]),(22,21,[21]),(23,21,[21])] fun rZ aa iF => ?_
    have D:=aR aa m3
    have M:=gJ aa b3 l
    refine bK j<|bK k<|bK p<|Rp (au ((a:Int)+(r:Int))) (fun _=>gV)<|bK j<|bK k<|aW (au (2*(r:Int)+2))<|Rp (au ((a:Int)+2*(r:Int)+2)) (fun _=>gV)<|bK j<|bK k<|aW (au (2*(r:Int)+2))<|Rp (au ((a:Int)+2*(r:Int)+2)) (fun _=>gV)<|Rp ((pf g (a+2*r+2))) (fun _=>dz 1)<|bK j<|bK k<|bK p<|Rp (au ((a:Int)+(r:Int))) (fun _=>gV)<|Rp ((pf g (a+r))) (fun _=>dz 1)<|Rs (aC ((gA b) (a+2*r+2))) (aP D.aK (a+2*r+2)) ?_
    refine Rs (aC ((gA b) (a+r))) (aP D.aK (a+r)) ?_
    refine Rp ((pf g (a+r))) (fun _=>dz 1)<|gG<|kY D (a+r) (aC ((gA b) (a+2*r+2))) fun w2 m5 s4 z1 => ?_
    have N:=s4.below M (Nat.le_trans l M.size) D.blk.1
    refine Ln<|Rp ((pf g (a+2*r+2))) (fun _=>dz 1)<|gG<|kY m5 (a+2*r+2) (aC ((gA b) (a+r))) fun w3 m6 s5 z2 => ?_
    have b6:=s5.below N (Nat.le_trans l N.size) m5.blk.1
    have m7:Fx.Own w3 B 29 1 (bJ g n cap) n (rv .u64 (gA (Sort.swp b (a+r) (a+2*r+2)))):=m6.congr (fu t (by omega) (by omega))
    refine Ln<|bG<|Wl<|av (au (2*(r:Int)+2))<|av (au (2*(r:Int)+2))<|Ln<|dA<|iT ⟨2*r+2,Sort.swp b (a+r) (a+2*r+2),(dG t _ _),(by rw[KQ (x0:=a+r) (x1:=a+2*r+1) (x2:=a+2*r+2) (by omega) (by omega) rfl (by omega) (of_decide_eq_true s),if_pos (of_decide_eq_true m)]at o; exact o),(by omega),j,(F.trans Fx.ic),(v.trans Fx.ic),(k.trans Fx.ic),Fx.ic,m7,b6⟩ ?_
    show((hi:Int)+q-intOf ((au (2*(r:Int)+2)))).toNat<_
    simp only[p,intOf]; omega
   rw[Bool.not_eq_true]at m
   refine mK (fun _ _=>bY ((gA b) (a+r)) ((gA b) (a+2*r+2)) _) aF (by rw[m])<|bC aG<|Qn ?_
   intro VK T
   have m8:=aR T C
   have b7:=gJ T L l
   refine sN (aQ (Wr (sR (bX (qL (bX (⟨.tuple #[],fM Tryd.results84,?_⟩)))))))
   rw[KQ (x0:=a+r) (x1:=a+2*r+1) (x2:=a+2*r+2) (by omega) (by omega) rfl (by omega) (of_decide_eq_true s),if_neg (of_decide_eq_false m)]at o; subst o; exact⟨rfl,m8,b7⟩
  rw[Bool.not_eq_true]at s
  refine mK (fun _ _=>bY ((gA b) (a+2*r+1)) ((gA b) (a+2*r+2)) _) aF (by rw[s])<|bC aF<|Qn ?_
  intro YI U
  have E:=aR U u
  have O:=gJ U x l
  refine sN<|aN<|Wk<|sN<|Ws<|Ws ?_
  -- region 5 draws
  refine kV<|eB j<|eB k<|eB p<|Qv (au ((a:Int)+(r:Int))) (fun i c=>gV)<|Qv ((pf g (a+r))) (fun i c=>dz 1)<|Qv (aC ((gA b) (a+r))) (fun i c=>aP (E.cb c) (a+r))<|eB j<|eB k<|bC (au (2*(r:Int)+1))<|Qv (au ((a:Int)+2*(r:Int)+1)) (fun i c=>gV)<|Qv ((pf g (a+2*r+1))) (fun i c=>dz 1)<|Qv (aC ((gA b) (a+2*r+1))) (fun i c=>aP (E.cb c) (a+2*r+1)) ?_
  by_cases m:(decide ((gA b) (a+r)<(gA b) (a+2*r+1)))=true
  ·refine mK (fun _ _=>bY ((gA b) (a+r)) ((gA b) (a+2*r+1)) _) aG (by rw[m])<|bC aF<|Qn ?_
   intro YJ V
   have m10:=aR V E
   have b9:=gJ V O l
   refine sN<|aN<|Wk<|sN<|Ws ?_
   -- region 6 draws
   refine jP [0,1,2,3,4,5,6,7,8,9,10,11,12,14,15,16,17,18,13,19,20,21,22,23] [0,0,0,0,0,0,0,0,0,0,0,0,0,4,0,0,0,0,0,4,0,3,0,3] [(21,13,[13]),(23,13,[13]),(21,19,[19]),(23,19,[19]),(22,21,[21]),(23,21,[21])] fun C9 ab nO => ?_
   have y:=aR ab m10
   have G:=gJ ab b9 l
   refine bK j<|bK k<|bK p<|Rp (au ((a:Int)+(r:Int))) (fun _=>gV)<|bK j<|bK k<|aW (au (2*(r:Int)+1))<|Rp (au ((a:Int)+2*(r:Int)+1)) (fun _=>gV)<|bK j<|bK k<|aW (au (2*(r:Int)+1))<|Rp (au ((a:Int)+2*(r:Int)+1)) (fun _=>gV)<|Rp ((pf g (a+2*r+1))) (fun _=>dz 1)<|bK j<|bK k<|bK p<|Rp (au ((a:Int)+(r:Int))) (fun _=>gV)<|Rp ((pf g (a+r))) (fun _=>dz 1)<|Rs (aC ((gA b) (a+2*r+1))) (aP y.aK (a+2*r+1)) ?_
   refine Rs (aC ((gA b) (a+r))) (aP y.aK (a+r)) ?_
   refine Rp ((pf g (a+r))) (fun _=>dz 1)<|gG<|kY y (a+r) (aC ((gA b) (a+2*r+1))) fun w4 m12 s10 z3 => ?_
   have H:=s10.below G (Nat.le_trans l G.size) y.blk.1
   refine Ln<|Rp ((pf g (a+2*r+1))) (fun _=>dz 1)<|gG<|kY m12 (a+2*r+1) (aC ((gA b) (a+r))) fun w5 m13 s11 z4 => ?_
   have b12:=s11.below H (Nat.le_trans l H.size) m12.blk.1
   have m14:Fx.Own w5 B 29 1 (bJ g n cap) n (rv .u64 (gA (Sort.swp b (a+r) (a+2*r+1)))):=m13.congr (fu t (by omega) (by omega))
   refine Ln<|bG<|Wl<|av (au (2*(r:Int)+1))<|av (au (2*(r:Int)+1))<|Ln<|dA<|iT ⟨2*r+1,Sort.swp b (a+r) (a+2*r+1),(dG t _ _),(by rw[DJ (x0:=a+r) (x1:=a+2*r+1) (x2:=a+2*r+2) (by omega) (by omega) rfl (by omega) (.inr (of_decide_eq_false s)),if_pos (of_decide_eq_true m)]at o; exact o),(by omega),j,(F.trans Fx.ic),(v.trans Fx.ic),(k.trans Fx.ic),Fx.ic,m14,b12⟩ ?_
   show((hi:Int)+q-intOf ((au (2*(r:Int)+1)))).toNat<_
   simp only[p,intOf]; omega
  rw[Bool.not_eq_true]at m
  refine mK (fun _ _=>bY ((gA b) (a+r)) ((gA b) (a+2*r+1)) _) aF (by rw[m])<|bC aG<|Qn ?_
  intro wb6 W
  have m15:=aR W E
  have b13:=gJ W O l
  refine sN (aQ (Wr (sR (bX (qL (bX (⟨.tuple #[],fM Tryd.results84,?_⟩)))))))
  rw[DJ (x0:=a+r) (x1:=a+2*r+1) (x2:=a+2*r+2) (by omega) (by omega) rfl (by omega) (.inr (of_decide_eq_false s)),if_neg (of_decide_eq_false m)]at o; subst o; exact⟨rfl,m15,b13⟩
 refine Qv aF (fun i c=>mE Q)<|bC aF<|aU<|aU<|aU<|aU<|aU<|aU<|aU<|aU<|aU<|aU<|aU<|aU<|aU<|aU<|bC aF<|Qn ?_
 intro wb7 X
 have z:=aR X u
 have I:=gJ X x l
 refine sN<|aN<|Wk<|sN<|Ws<|Ws ?_
 -- region 5 draws
 refine kV<|eB j<|eB k<|eB p<|Qv (au ((a:Int)+(r:Int))) (fun i c=>gV)<|Qv ((pf g (a+r))) (fun i c=>dz 1)<|Qv (aC ((gA b) (a+r))) (fun i c=>aP (z.cb c) (a+r))<|eB j<|eB k<|bC (au (2*(r:Int)+1))<|Qv (au ((a:Int)+2*(r:Int)+1)) (fun i c=>gV)<|Qv ((pf g (a+2*r+1))) (fun i c=>dz 1)<|Qv (aC ((gA b) (a+2*r+1))) (fun i c=>aP (z.cb c) (a+2*r+1)) ?_
 by_cases m:(decide ((gA b) (a+r)<(gA b) (a+2*r+1)))=true
 ·refine mK (fun _ _=>bY ((gA b) (a+r)) ((gA b) (a+2*r+1)) _) aG (by rw[m])<|bC aF<|Qn ?_
  intro wb8 Y
  have m17:=aR Y z
  have b15:=gJ Y I l
  refine sN<|aN<|Wk<|sN<|Ws ?_
  -- region 6 draws
  refine jP [0,1,2,3,4,5,6,7,8,9,10,11,12,14,15,16,17,18,13,19,20,21,22,23] [0,0,0,0,0,0,0,0,0,0,0,0,0,4,0,0,0,0,0,4,0,3,0,3] [(21,13,[13]),(23,13,[13]),(21,19,[19]),(23,19,[19]),(22,21,[21]),(23,21,[21])] fun VL ac G7 => ?_
  have A:=aR ac m17
  have J:=gJ ac b15 l
  refine bK j<|bK k<|bK p<|Rp (au ((a:Int)+(r:Int))) (fun _=>gV)<|bK j<|bK k<|aW (au (2*(r:Int)+1))<|Rp (au ((a:Int)+2*(r:Int)+1)) (fun _=>gV)<|bK j<|bK k<|aW (au (2*(r:Int)+1))<|Rp (au ((a:Int)+2*(r:Int)+1)) (fun _=>gV)<|Rp ((pf g (a+2*r+1))) (fun _=>dz 1)<|bK j<|bK k<|bK p<|Rp (au ((a:Int)+(r:Int))) (fun _=>gV)<|Rp ((pf g (a+r))) (fun _=>dz 1)<|Rs (aC ((gA b) (a+2*r+1))) (aP A.aK (a+2*r+1)) ?_
  refine Rs (aC ((gA b) (a+r))) (aP A.aK (a+r)) ?_
  refine Rp ((pf g (a+r))) (fun _=>dz 1)<|gG<|kY A (a+r) (aC ((gA b) (a+2*r+1))) fun w6 m19 s16 z5 => ?_
  have K:=s16.below J (Nat.le_trans l J.size) A.blk.1
  refine Ln<|Rp ((pf g (a+2*r+1))) (fun _=>dz 1)<|gG<|kY m19 (a+2*r+1) (aC ((gA b) (a+r))) fun w7 m20 YK z6 => ?_
  have b18:=YK.below K (Nat.le_trans l K.size) m19.blk.1
  have m21:Fx.Own w7 B 29 1 (bJ g n cap) n (rv .u64 (gA (Sort.swp b (a+r) (a+2*r+1)))):=m20.congr (fu t (by omega) (by omega))
  refine Ln<|bG<|Wl<|av (au (2*(r:Int)+1))<|av (au (2*(r:Int)+1))<|Ln<|dA<|iT ⟨2*r+1,Sort.swp b (a+r) (a+2*r+1),(dG t _ _),(by rw[DJ (x0:=a+r) (x1:=a+2*r+1) (x2:=a+2*r+2) (by omega) (by omega) rfl (by omega) (.inl (by omega)),if_pos (of_decide_eq_true m)]at o; exact o),(by omega),j,(F.trans Fx.ic),(v.trans Fx.ic),(k.trans Fx.ic),Fx.ic,m21,b18⟩ ?_
  show((hi:Int)+q-intOf ((au (2*(r:Int)+1)))).toNat<_
  simp only[p,intOf]; omega
 rw[Bool.not_eq_true]at m
 refine mK (fun _ _=>bY ((gA b) (a+r)) ((gA b) (a+2*r+1)) _) aF (by rw[m])<|bC aG<|Qn ?_
 intro wb9 Z
 have m22:=aR Z z
 have b19:=gJ Z I l
 refine sN (aQ (Wr (sR (bX (qL (bX (⟨.tuple #[],fM Tryd.results84,?_⟩)))))))
 rw[DJ (x0:=a+r) (x1:=a+2*r+1) (x2:=a+2*r+2) (by omega) (by omega) rfl (by omega) (.inl (by omega)),if_neg (of_decide_eq_false m)]at o; subst o; exact⟨rfl,m22,b19⟩
theorem G8{i f c:Int}(b hi a:Nat)(l:i=(b:Int))(k:f=(hi:Int))(j:c=(a:Int))(B g n cap:Nat)(d:Array Int)(w:World)(h:Fx.Own w B 29 1 (bJ g n cap) n (rv .u64 (gA d)))(m:B<=w.heap.size)(p:d.size=n)(q:n<=1000)(o:a+hi<=n/\b<=1000) :
 Calls Tryd.prog 84 #[bJ g n cap,au i,au f,au c] w fun e w'=>e = .returned (.tuple #[])/\Fx.Own w' B 29 1 (bJ g n cap) n (rv .u64 (gA (Sort.siftDown Sort.ltInt hi a b d)))/\Below B w w':=by
 subst l k j; exact SC b hi a B g n cap d w h m p q o
theorem SE(a b:Nat)(B g n cap:Nat)(d:Array Int)(w:World)(h:Fx.Own w B 29 1 (bJ g n cap) n (rv .u64 (gA d)))(p:B<=w.heap.size)(hn:d.size=n)(Q:n<=1000)(ha:a<b)(hb:b<=n) :
 Calls Tryd.prog 73 #[bJ g n cap,au ((a:Int)),au ((b:Int))] w fun e w'=>e = .returned (.tuple #[])/\Fx.Own w' B 29 1 (bJ g n cap) n (rv .u64 (gA (Sort.heapSort Sort.ltInt d a b)))/\Below B w w':=by
 obtain⟨j,aa⟩ : ∃ j,j=(b-a-1) / 2:=⟨_,rfl⟩
 refine Kent Tryd.func73 56 ?_
 refine ay<|av (au a)<|av (au a)<|aD<|ay<|av (au 0)<|aD<|ay<|av (au b)<|av (au a)<|Lv (au ((b:Int)-(a:Int))) jc<|av (au ((b:Int)-(a:Int)))<|aD<|Ws<|ay<|av (au ((b:Int)-(a:Int)))<|Lv (au ((b:Int)-(a:Int)-1)) jc<|Lv (au j) (Fx.wo rfl rfl rfl (by omega) (jk (by omega) (by rw[Int.tdiv_eq_ediv_of_nonneg (by omega)]; omega)))<|av (au j)<|aD<|Wb<|Wo (fun f q => ∃ k:Nat,∃ c:Array Int,c.size=n/\Sort.heapBuild Sort.ltInt (b-a) a k c=Sort.heapBuild Sort.ltInt (b-a) a (j+1) d/\k<=j+1/\f 0=bJ g n cap/\f 1=au ((a:Int))/\f 2=au ((b:Int))/\f 6=au ((a:Int))/\f 7=au 0/\f 8=au ((b:Int)-(a:Int))/\f 9=au ((k:Int)-1)/\Fx.Own q B 29 1 (bJ g n cap) n (rv .u64 (gA c))/\Below B w q) (fun f _=>(intOf (f 9)+1).toNat) ⟨j+1,d,hn,rfl,(by omega),(by rfl),Fx.ic,Fx.ic,Fx.ic,Fx.ic,Fx.ic,Fx.ic,h,(Below.refl B w)⟩ ?_
 rintro f1 w1 ⟨k,c,z,N,hkm,u,K,L,v,M,y,r,R,t⟩
 refine Ws<|ay<|aZ r ?_
 by_cases G:0<=((k:Int)-1)
 ·refine Lv aG (pO G)<|aD<|aQ<|Wk<|sN<|Ws<|Wb<|Wl<|aZ u<|aZ r<|aZ y<|aZ v<|fC (G8 (k-1) (b-a) a (by omega) (by omega) (by omega) B g n cap c _ R (Nat.le_trans p t.size) z Q ⟨by omega,by omega⟩) (ax := #[bJ g n cap,au ((k:Int)-1),au ((b:Int)-(a:Int)),au ((a:Int))]) _ rfl ?_
  rintro w2 ⟨m2,Y⟩
  have U:=t.trans Y
  refine Ln<|dA<|sN<|Wl<|aZ r<|Lv (au ((k:Int)-2)) jc<|av (au ((k:Int)-2))<|Ln<|iT ⟨k-1,Sort.siftDown Sort.ltInt (b-a) a (k-1) c,(xI (by omega) _ _ _ (Nat.le_refl _) z),((KR (by omega)).trans N),(by omega),u,(K.trans Fx.ic),(L.trans Fx.ic),(v.trans Fx.ic),(M.trans Fx.ic),(y.trans Fx.ic),Fx.ic,m2,U⟩ ?_
  show(intOf ((au ((k:Int)-2)))+1).toNat<_
  simp only[r,intOf]; omega
 refine Lv aF (oz G)<|aD<|aN<|Wx<|cZ<|iE<|dh<|sN<|ay<|aZ y<|Lv (au ((b:Int)-(a:Int)-1)) jc<|av (au ((b:Int)-(a:Int)-1))<|aD<|Wb ?_
 obtain rfl:k=0:=by omega
 obtain⟨I,hd1⟩ : ∃ I,I=c:=⟨_,rfl⟩
 refine Wo (fun f q => ∃ k2:Nat,∃ i:Array Int,i.size=n/\Sort.heapPop Sort.ltInt a k2 i=Sort.heapPop Sort.ltInt a (b-a) c/\k2<=b-a/\f 0=bJ g n cap/\f 1=au ((a:Int))/\f 2=au ((b:Int))/\f 6=au ((a:Int))/\f 7=au 0/\f 10=au ((k2:Int)-1)/\Fx.Own q B 29 1 (bJ g n cap) n (rv .u64 (gA i))/\Below B w q) (fun f _=>(intOf (f 10)+1).toNat) ⟨b-a,c,z,rfl,(by omega),u,(K.trans Fx.ic),(L.trans Fx.ic),(v.trans Fx.ic),(M.trans Fx.ic),Fx.ic,R,t⟩ ?_
 rintro f2 w3 ⟨k2,i,A,O,hkp,o,X,W,l,J,m,S,C⟩
 refine Ws<|ay<|aZ m ?_
 by_cases H:0<=((k2:Int)-1)
 ·refine Lv aG (pO H)<|aD<|aQ<|Wk<|sN<|Ws<|Wb<|Ws ?_
  -- region 10 draws
  refine jP [0,1,2,3,4,5,6,7,8,9,10,12,13,14,11,15,16,17,18,19] [0,0,0,0,0,0,0,0,0,0,0,4,0,0,0,4,0,3,0,3] [(17,11,[11]),(19,11,[11]),(17,15,[15]),(19,15,[15]),(18,17,[17]),(19,17,[17])] fun rZ P iF => ?_
  have s:=aR P S
  have D:=gJ P C p
  refine bK o<|bK l<|bK o<|bK l<|bK m<|Rp (au ((a:Int)+(k2:Int)-1)) (fun _=>gV)<|bK o<|bK l<|bK m<|Rp (au ((a:Int)+(k2:Int)-1)) (fun _=>gV)<|Rp ((pf g (a+k2-1))) (fun _=>dz 1)<|bK o<|bK l<|Rp ((pf g a)) (fun _=>dz 1)<|Rs (aC ((gA i) (a+k2-1))) (aP s.aK (a+k2-1)) ?_
  refine Rs (aC ((gA i) a)) (aP s.aK a) ?_
  refine Rp ((pf g a)) (fun _=>dz 1)<|gG<|kY s a (aC ((gA i) (a+k2-1))) fun w4 T s2 z1 => ?_
  have E:=s2.below D (Nat.le_trans p D.size) s.blk.1
  refine Ln<|Rp ((pf g (a+k2-1))) (fun _=>dz 1)<|gG<|kY T (a+k2-1) (aC ((gA i) a)) fun w5 m6 s3 z2 => ?_
  have F:=s3.below E (Nat.le_trans p E.size) T.blk.1
  have m7:Fx.Own w5 B 29 1 (bJ g n cap) n (rv .u64 (gA (Sort.swp i a (a+k2-1)))):=m6.congr (fu A (by omega) (by omega))
  refine Ln<|bG<|Wl<|aZ o<|aZ J<|aZ m<|aZ l<|fC (G8 0 (k2-1) a (by omega) (by omega) (by omega) B g n cap (Sort.swp i a (a+k2-1)) _ m7 (Nat.le_trans p F.size) (dG A _ _) Q ⟨by omega,by omega⟩) (ax := #[bJ g n cap,au 0,au ((k2:Int)-1),au ((a:Int))]) _ rfl ?_
  rintro w6 ⟨m8,Z⟩
  have V:=F.trans Z
  refine Ln<|dA<|sN<|Wl<|aZ m<|Lv (au ((k2:Int)-2)) jc<|av (au ((k2:Int)-2))<|Ln<|iT ⟨k2-1,Sort.siftDown Sort.ltInt (k2-1) a 0 (Sort.swp i a (a+k2-1)),(xI (by omega) _ _ _ (Nat.le_refl _) (dG A _ _)),((SA (x:=a+k2-1) (by omega) (by omega)).trans O),(by omega),o,(X.trans Fx.ic),(W.trans Fx.ic),(l.trans Fx.ic),(J.trans Fx.ic),Fx.ic,m8,V⟩ ?_
  show(intOf ((au ((k2:Int)-2)))+1).toNat<_
  simp only[m,intOf]; omega
 refine Lv aF (oz H) (aD (aN (Wx (cZ (iE (dh (⟨.tuple #[],fM Tryd.results73,?_⟩)))))))
 obtain rfl:k2=0:=by omega
 unfold Sort.heapSort; rw[<- aa,<- N,show Sort.heapBuild Sort.ltInt (b-a) a 0 c=c from rfl,<- O]; exact⟨rfl,S,C⟩
theorem VN(a b:Nat)(B g n cap:Nat)(d:Array Int)(w:World)(h:Fx.Own w B 29 1 (bJ g n cap) n (rv .u64 (gA d)))(p:B<=w.heap.size)(F:d.size=n)(O:n<=1000)(ha:a<b)(M:b<=n) :
 Calls Tryd.prog 76 #[bJ g n cap,au ((a:Int)),au ((b:Int))] w fun e w'=>e = .returned (.tuple #[])/\Fx.Own w' B 29 1 (bJ g n cap) n (rv .u64 (gA (Sort.reverseRange d a b)))/\Below B w w':=by
 refine Kent Tryd.func76 32 ?_
 refine ay<|av (au a)<|av (au a)<|aD<|ay<|av (au b)<|Lv (au ((b:Int)-1)) jc<|av (au ((b:Int)-1))<|aD<|Wb<|Wo (fun f A => ∃ i:Nat,∃ j:Nat,∃ c:Array Int,c.size=n/\(a<=i/\j<b/\i<=b)/\Sort.reverseLoop i j c=Sort.reverseLoop a (b-1) d/\f 0=bJ g n cap/\f 1=au ((a:Int))/\f 2=au ((b:Int))/\f 6=au ((i:Int))/\f 7=au ((j:Int))/\Fx.Own A B 29 1 (bJ g n cap) n (rv .u64 (gA c))/\Below B w A) (fun f _=>((b:Int)-intOf (f 6)).toNat) ⟨a,b-1,d,F,(by omega),rfl,(by rfl),Fx.ic,Fx.ic,Fx.ic,Fx.ic,h,(Below.refl B w)⟩ ?_
 rintro L Q ⟨i,j,c,x,N,q,k,D,E,l,m,y,r⟩
 refine Ws<|ay<|aZ l<|aZ m ?_
 by_cases u:(i:Int)<(j:Int)
 ·refine Lv aG (mD u)<|aD<|aQ<|Wk<|sN<|Wb<|Ws ?_
  -- region 3 draws
  refine jP [0,1,2,3,4,5,6,8,9,10,7,11,12,13,14,15] [0,0,0,0,0,0,0,4,0,0,0,4,0,3,0,3] [(13,7,[7]),(15,7,[7]),(13,11,[11]),(15,11,[11]),(14,13,[13]),(15,13,[13])] fun S v P => ?_
  have o:=aR v y
  have s:=gJ v r p
  refine bK k<|bK l<|bK k<|bK m<|bK k<|bK m<|Rp ((pf g j)) (fun _=>dz 1)<|bK k<|bK l<|Rp ((pf g i)) (fun _=>dz 1)<|Rs (aC ((gA c) j)) (aP o.aK j) ?_
  refine Rs (aC ((gA c) i)) (aP o.aK i) ?_
  refine Rp ((pf g i)) (fun _=>dz 1)<|gG<|kY o i (aC ((gA c) j)) fun R z I T => ?_
  have t:=I.below s (Nat.le_trans p s.size) o.blk.1
  refine Ln<|Rp ((pf g j)) (fun _=>dz 1)<|gG<|kY z j (aC ((gA c) i)) fun K G J U => ?_
  have C:=J.below t (Nat.le_trans p t.size) z.blk.1
  have H:Fx.Own K B 29 1 (bJ g n cap) n (rv .u64 (gA (Sort.swp c i j))):=G.congr (fu x (by omega) (by omega))
  refine Ln<|bG<|ay<|aZ l<|Lv (au ((i:Int)+1)) gV<|av (au ((i:Int)+1))<|aD<|Wl<|aZ m<|Lv (au ((j:Int)-1)) jc<|av (au ((j:Int)-1))<|Ln<|dA<|iT ⟨i+1,j-1,Sort.swp c i j,(dG x _ _),(by omega),((SB (by omega)).trans q),k,(D.trans Fx.ic),(E.trans Fx.ic),Fx.ic,Fx.ic,H,C⟩ ?_
  show((b:Int)-intOf ((au ((i:Int)+1)))).toNat<_
  simp only[l,intOf]; omega
 refine Lv aF (mE u) (aD (aN (Wx (cZ (iE (dh (⟨.tuple #[],fM Tryd.results76,?_⟩)))))))
 rw[KS (by omega)]at q; unfold Sort.reverseRange; rw[<- q]; exact⟨rfl,y,r⟩
end
end Go.Proofs.YtcbedgfikejkoaaDoor
namespace Go.Proofs.YtcbedgfikejkoaaDoor
open Go.RowKit Rt
set_option linter.unusedVariables false
namespace Fx
def bV(a b:Int):Int:=((BitVec.ofInt 64 a ^^^ BitVec.ofInt 64 b).toNat:Int)
def DK(a b:Int):Int:=((BitVec.ofInt 64 a &&& BitVec.ofInt 64 b).toNat:Int)
def dK(a:Int)(b:Nat):Int:=IntKind.u64.wrap (a*2^b)
theorem G9(a b:Int):0<=bV a b/\bV a b<=18446744073709551615:=by
 unfold bV; have:=(BitVec.ofInt 64 a ^^^ BitVec.ofInt 64 b).isLt; omega
theorem BZ(a:Int){b:Int}(h:0<=b)(c:b<=18446744073709551615):0<=DK a b/\DK a b<=b:=by
 unfold DK
 rw[BitVec.toNat_and]
 have d:(BitVec.ofInt 64 b).toNat=b.toNat:=by rw[BitVec.toNat_ofInt]; omega
 have:=Nat.and_le_right (n:=(BitVec.ofInt 64 a).toNat) (m:=(BitVec.ofInt 64 b).toNat)
 omega
section
variable {P:Program} {f:Nat->Value} {w:World} {o:Oper}
theorem KV{T c:TypeId}{x y:Operand}{a b:Int}(d:o.op = .binOp .xor T x y c)(hx:ev f x = .int .u64 a)(hy:ev f y = .int .u64 b):Runs P f o w (.int .u64 (bV a b)) :=
 nI d hx hy (by
  have h:=jl (G9 a b) rfl
  simp only[binOp,Op.intBits]
  show(pure (Value.int .u64 (IntKind.u64.wrap (bV a b))):Sem Value).run P w=_
  rw[h]; rfl)
theorem VO{T d:TypeId}{x y:Operand}{a b:Int}(i:o.op = .binOp .and T x y d)(hx:ev f x = .int .u64 a)(hy:ev f y = .int .u64 b)(e:0<=b)(h1:b<=18446744073709551615):Runs P f o w (.int .u64 (DK a b)) :=
 nI i hx hy (by
  have g:=BZ a e h1
  have h:=jl (c:=DK a b) ⟨g.1,by omega⟩ rfl
  simp only[binOp,Op.intBits]
  show(pure (Value.int .u64 (IntKind.u64.wrap (DK a b))):Sem Value).run P w=_
  rw[h]; rfl)
theorem SF{T:TypeId}{x i:Operand}{s:ByteArray}{j:Nat}(e:o.op = .index T x i)(hx:ev f x = .string s)(hi:ev f i = .int .u8 (j:Int))(h:P.underlying T=some .string)(d:j<64)
 (g : ∀ q,q<64->(s[q]?).map (·.toNat)=some (Sort.bitsLen q)):Runs P f o w (.int .u8 (Sort.bitsLen j:Int)):=by
 obtain⟨b,a,c⟩:=Option.map_eq_some_iff.1 (g j d)
 unfold Runs execOp
 simp only[e,hx,hi]
 simp[Instr.index,asIntOf,underlying,h,a,c]
end
end Fx
theorem Rt.He{n:Nat}(h:n<64):Sort.bitsLen n<=6:=(Sort.bitsLen_le_iff _ _).2 (by omega)
end Go.Proofs.YtcbedgfikejkoaaDoor
namespace Go.Proofs.YtcbedgfikejkoaaDoor
open Go.RowKit Rt
open Fx (eT dI eY bf eX eU eG dM eZ gW dO gX eP gH gY Lv sN Ln Ws Qv Wl Rp Wc Qs Wr Sb Lk Wk rC rV sR Rs Rn Rd Rk Wb Wx Wo yE Wt pJ Qn zQ tL yt zG wT zT zR iB zV jC nY rR zW yu zU yF yx rv aA aL bE aI ev bT Stp bV aO flat fH Mp dK aT fq gF bA down fM iW jk kU bQ bD cells_one jD aX pV unseen jl iQ cu bX dA cZ dh iE iT qL gI)
section
open Rt
set_option maxRecDepth 10000
theorem Oz(n:Nat)(w:World)(a:n<64) :
 Calls Tryd.prog 54 #[aC ((n:Int))] w fun e w'=>e = .returned (au (Sort.bitsLen n:Int))/\w'=w:=by
 have b:=He a
 refine Kent Tryd.func54 25 ?_
 refine ay<|av (au 0)<|aD<|Ws<|ay<|av (aC n)<|Lv aF Aq<|aD<|aN<|Wk<|sN<|Ws<|ay<|av (aC n)<|Lv aF Aq<|aD<|aN<|Wk<|sN<|Ws<|ay<|av (aC n)<|Lv aF Aq<|aD<|aN<|Wk<|sN<|ay<|av (au 0)<|av (aC n)<|Lv (.int .u8 ((n:Int))) (eG rfl rfl (by kernel_rfl) Tryd.underlying5 (Fx.u8e (by omega) rfl))<|Lv (.int .u8 ((Sort.bitsLen n:Int))) (Fx.SF rfl rfl rfl Tryd.underlying9 a (by decide +kernel))<|Lv (au (Sort.bitsLen n:Int)) (eG rfl rfl (by kernel_rfl) Tryd.underlying3 (jk (by omega) rfl))<|Lv (au (0+(Sort.bitsLen n:Int))) gV<|av (au (0+(Sort.bitsLen n:Int)))<|aD<|Wr<|aM (au (0+(Sort.bitsLen n:Int))) ?_
 exact⟨by rw[Int.zero_add],rfl⟩
theorem KW(n:Nat)(w:World)(a:n<64) :
 Calls Tryd.prog 34 #[aC ((n:Int))] w fun e w'=>e = .returned (au (Sort.bitsLen n:Int))/\w'=w:=by
 have b:=He a
 refine Kent Tryd.func34 8 ?_
 refine ay<|av (au 0)<|aD<|Ws<|aN<|Wk<|sN<|ay<|av (aC n)<|lJ (Oz n _ a) _ rfl<|av (au (Sort.bitsLen n:Int))<|aD<|Wr<|aM (au (Sort.bitsLen n:Int)) ?_
 exact⟨rfl,rfl⟩
theorem VP(n m:Nat)(w:World)(f:n<64)(c:0<n)(a:m=2^Sort.bitsLen n) :
 Calls Tryd.prog 63 #[au ((n:Int))] w fun e w'=>e = .returned (aC (m:Int))/\w'=w:=by
 have g:=He f
 have d:=Sort.two_pow_bitsLen_le c
 rw[<- a]at d
 refine Kent Tryd.func63 7 ?_
 refine ay<|av (aC 0)<|aD<|ay<|av (au n)<|Lv (aC n) (eG rfl rfl (by kernel_rfl) Tryd.underlying96 (jl (by omega) rfl))<|lJ (KW n _ (by omega)) _ rfl<|Lv (aC m) (Fx.GN (b:=Sort.bitsLen n) rfl rfl rfl (show _<=64 by omega) (jl (by omega) (by rw[a]; simp)))<|av (aC m)<|aD<|Wr<|aM (aC m) ?_
 exact⟨rfl,rfl⟩
theorem SG(a:Nat)(r:Int)(w:World)(h:aL w a 1 (fun _=>aC r) 128) :
 Calls Tryd.prog 64 #[(pt a)] w fun e w' => ∃ d,e = .returned (aC d)/\(0<=d/\d<=18446744073709551615)/\Stp a w w'/\aL w' a 1 (fun _=>aC d) 128:=by
 refine Kent Tryd.func64 33 ?_
 refine ay<|av (aC 0)<|aD<|Ws ?_
 -- region 1 draws
 refine jP [0,1,3,4,2,5,6,7,8,9] [0,0,4,0,0,4,0,0,0,3] [(9,2,[2]),(9,5,[5])] fun K n N => ?_
 have D:Stp w.heap.size w K:=Sb n
 have f:=aR n h
 have t:=(jC a w).then D (.inr (jC a w).size)
 refine aW ((pt a))<|aW ((pt a))<|aW ((pt a))<|aW ((pt a))<|Rs (aC r) (aP f.aK 0) ?_
 refine Rs (aC r) (aP f.aK 0) ?_
 refine Rp (aC (dK r 13)) (fun c=>Fx.GN (b:=13) rfl rfl rfl (by decide) rfl)<|Rp (aC (bV r (dK r 13))) (fun c=>Fx.KV rfl rfl rfl)<|aW ((pt a))<|gG<|nk f 0 (aC (bV r (dK r 13))) fun j y E Q => ?_
 have z:aL j a 1 (fun _=>aC (bV r (dK r 13))) 128:=cu y
 have l:=t.then E (by omega)
 refine Ln<|bG<|Ws ?_
 -- region 2 draws
 refine jP [0,1,3,4,2,5,6,7,8,9] [0,0,4,0,0,4,0,0,0,3] [(9,2,[2]),(9,5,[5])] fun L o O => ?_
 have F:Stp j.heap.size j L:=Sb o
 have g:=aR o z
 have u:=l.then F (.inr l.size)
 refine aW ((pt a))<|aW ((pt a))<|aW ((pt a))<|aW ((pt a))<|Rs (aC (bV r (dK r 13))) (aP g.aK 0) ?_
 refine Rs (aC (bV r (dK r 13))) (aP g.aK 0) ?_
 refine Rp (aC ((bV r (dK r 13)) / 128)) (fun c=>Fx.Vo (b:=7) (q:=128) rfl rfl rfl (by decide) (by decide))<|Rp (aC (bV (bV r (dK r 13)) ((bV r (dK r 13)) / 128))) (fun c=>Fx.KV rfl rfl rfl)<|aW ((pt a))<|gG<|nk g 0 (aC (bV (bV r (dK r 13)) ((bV r (dK r 13)) / 128))) fun k A G R => ?_
 have B:aL k a 1 (fun _=>aC (bV (bV r (dK r 13)) ((bV r (dK r 13)) / 128))) 128:=cu A
 have m:=u.then G (by omega)
 refine Ln<|bG<|Ws ?_
 -- region 3 draws
 refine jP [0,1,3,4,2,5,6,7,8,9] [0,0,4,0,0,4,0,0,0,3] [(9,2,[2]),(9,5,[5])] fun M p P => ?_
 have H:Stp k.heap.size k M:=Sb p
 have i:=aR p B
 have v:=m.then H (.inr m.size)
 refine aW ((pt a))<|aW ((pt a))<|aW ((pt a))<|aW ((pt a))<|Rs (aC (bV (bV r (dK r 13)) ((bV r (dK r 13)) / 128))) (aP i.aK 0) ?_
 refine Rs (aC (bV (bV r (dK r 13)) ((bV r (dK r 13)) / 128))) (aP i.aK 0) ?_
 refine Rp (aC (dK (bV (bV r (dK r 13)) ((bV r (dK r 13)) / 128)) 17)) (fun c=>Fx.GN (b:=17) rfl rfl rfl (by decide) rfl)<|Rp (aC (bV (bV (bV r (dK r 13)) ((bV r (dK r 13)) / 128)) (dK (bV (bV r (dK r 13)) ((bV r (dK r 13)) / 128)) 17))) (fun c=>Fx.KV rfl rfl rfl)<|aW ((pt a))<|gG<|nk i 0 (aC (bV (bV (bV r (dK r 13)) ((bV r (dK r 13)) / 128)) (dK (bV (bV r (dK r 13)) ((bV r (dK r 13)) / 128)) 17))) fun J C I S => ?_
 have s:aL J a 1 (fun _=>aC (bV (bV (bV r (dK r 13)) ((bV r (dK r 13)) / 128)) (dK (bV (bV r (dK r 13)) ((bV r (dK r 13)) / 128)) 17))) 128:=cu C
 have x:=v.then I (by omega)
 refine Ln<|bG<|ay<|av ((pt a))<|av ((pt a))<|Lv (aC (bV (bV (bV r (dK r 13)) ((bV r (dK r 13)) / 128)) (dK (bV (bV r (dK r 13)) ((bV r (dK r 13)) / 128)) 17))) (aP s.aK 0)<|av (aC (bV (bV (bV r (dK r 13)) ((bV r (dK r 13)) / 128)) (dK (bV (bV r (dK r 13)) ((bV r (dK r 13)) / 128)) 17)))<|aD<|Wr<|aM (aC (bV (bV (bV r (dK r 13)) ((bV r (dK r 13)) / 128)) (dK (bV (bV r (dK r 13)) ((bV r (dK r 13)) / 128)) 17))) ?_
 exact⟨_,rfl,Fx.G9 _ _,x,s⟩
end
section
open Rt
set_option maxRecDepth 10000
theorem SH{a:Int}(n m:Nat)(w:World)(e:a=(n:Int))(d:n<64)(b:0<n)(c:m=2^Sort.bitsLen n):Calls Tryd.prog 63 #[au a] w fun e w'=>e = .returned (aC (m:Int))/\w'=w:=by
 subst e; exact VP n m w d b c
theorem VQ(a b:Nat)(B g n cap:Nat)(d:Array Int)(w:World)(h:Fx.Own w B 29 1 (bJ g n cap) n (rv .u64 (gA d)))(o:B<=w.heap.size)(X:d.size=n)(hs:n<=1000)(ha:a<b)(hb:b<=n)(h50:n<50) :
 Calls Tryd.prog 74 #[bJ g n cap,au ((a:Int)),au ((b:Int))] w fun e w' => ∃ y:Array Int,e = .returned (.tuple #[])/\y.size=n/\Sort.PermIn a b d y/\Fx.Own w' B 29 1 (bJ g n cap) n (rv .u64 (gA y))/\Below B w w':=by
 obtain⟨i,hq0⟩ : ∃ i,i=(b-a) / 4:=⟨_,rfl⟩
 refine Kent Tryd.func74 65 ?_
 refine ay<|av (au b)<|av (au a)<|Lv (au ((b:Int)-(a:Int))) jc<|av (au ((b:Int)-(a:Int)))<|aD<|ay<|av (au ((b:Int)-(a:Int))) ?_
 by_cases O:8<=((b:Int)-(a:Int))
 ·refine Lv aG (pO O)<|aD<|aQ<|ay<|av (au ((b:Int)-(a:Int)))<|Lv (aC ((b:Int)-(a:Int))) (eG rfl rfl (by kernel_rfl) Tryd.underlying128 (jl (by omega) rfl))<|ni 1 (rv .u64 (fun _=>0)) fun v w1 R D s1 z1 => ?_
  have m2:=aR s1.old h
  have I:=gJ s1.old (Below.refl B w) o
  have wY:=iC R (Below.refl B w).size
  have mO:=bS R h.lt
  have xK:=D.lt
  refine nk D 0 (aC ((b:Int)-(a:Int))) fun w2 m3 s2 z2 => ?_
  have m4:aL w2 v 1 (fun _=>aC ((b:Int)-(a:Int))) 128:=cu m3
  have iD:=iB s2 D.ty
  have m5:=oC iD m2
  have b2:=s2.below I (Nat.le_trans o I.size) (by omega)
  refine aD<|ay<|av (au ((b:Int)-(a:Int))) ?_
  obtain⟨m,W⟩ : ∃ m,m=2^Sort.bitsLen (b-a):=⟨_,rfl⟩
  have hm2:=Sort.two_pow_bitsLen_le (show 0<b-a by omega)
  have YL:=Sort.lt_two_pow_bitsLen (b-a)
  rw[<- W]at hm2 YL
  refine lJ (SH (b-a) m _ (by omega) (by omega) (by omega) W) (ax := #[au ((b:Int)-(a:Int))]) _ rfl<|av (aC m)<|aD<|ay<|av (au a)<|av (au ((b:Int)-(a:Int)))<|Lv (au i) (Fx.wo rfl rfl rfl (by omega) (jk (by omega) (by rw[Int.tdiv_eq_ediv_of_nonneg (by omega)]; omega)))<|Lv (au ((i:Int)*2)) (Fx.Al rfl rfl rfl Fx.io)<|Lv (au ((a:Int)+2*(i:Int))) gV<|Lv (au ((a:Int)+2*(i:Int)-1)) jc<|av (au ((a:Int)+2*(i:Int)-1))<|aD<|Wb<|Wo (fun f H => ∃ ix:Nat,∃ G:Int,∃ j:Array Int,j.size=n/\Sort.PermIn a b d j/\(a+2*i<=ix+1/\ix<=a+2*i+2)/\f 0=bJ g n cap/\f 1=au ((a:Int))/\f 2=au ((b:Int))/\f 6=au ((b:Int)-(a:Int))/\f 7=(pt v)/\f 8=aC ((m:Int))/\f 9=au ((ix:Int))/\Fx.Own H B 29 1 (bJ g n cap) n (rv .u64 (gA j))/\aL H v 1 (fun _=>aC G) 128/\Below B w H) (fun f _=>((a:Int)+2*i+2-intOf (f 9)).toNat) ⟨a+2*i-1,((b:Int)-(a:Int)),d,X,(Sort.permIn_refl _ _ _),(by omega),(by rfl),Fx.ic,Fx.ic,Fx.ic,(by rfl),Fx.ic,Fx.ic,m5,m4,b2⟩ ?_
  rintro f1 w3 ⟨ix,G,j,s,C,hix,k,p,S,r,z,A,l,Y,Z,x⟩
  refine Ws<|ay<|aZ l<|aZ p<|aZ r<|Lv (au i) (Fx.wo rfl rfl rfl (by omega) (jk (by omega) (by rw[Int.tdiv_eq_ediv_of_nonneg (by omega)]; omega)))<|Lv (au ((i:Int)*2)) (Fx.Al rfl rfl rfl Fx.io)<|Lv (au ((a:Int)+2*(i:Int))) gV<|Lv (au ((a:Int)+2*(i:Int)+1)) gV ?_
  by_cases P:(ix:Int)<=((a:Int)+2*(i:Int)+1)
  ·refine Lv aG (pK P) (aD (aQ (Wk (sN (Ws (Wb (ay (ko (SG v G _ Z) ?_ (hr:=rC rfl (Fx.args1 z) Tryd.func64 rfl rfl)))))))))
   rintro e9 w4 ⟨q,V,hr1,s3,m8⟩
   refine⟨_,V,?_⟩
   clear V
   have mH:=iB s3 Z.ty
   have m9:=oC mH Y
   have J:=s3.below x (Nat.le_trans o x.size) (by omega)
   refine aZ A<|Lv (aC ((m:Int)-1)) jc ?_
   obtain⟨c,ho1,ko1⟩ : ∃ c:Nat,(c:Int)=Fx.DK q ((m:Int)-1)/\(c:Int)<=(m:Int)-1:=⟨(Fx.DK q ((m:Int)-1)).toNat,by have:=Fx.BZ q (show 0<=(m:Int)-1 by omega) (by omega); omega,by have:=Fx.BZ q (show 0<=(m:Int)-1 by omega) (by omega); omega⟩
   refine Lv (aC c) ((by rw[ho1]; exact Fx.VO rfl rfl rfl (by omega) (by omega)))<|Lv (au c) (eG rfl rfl (by kernel_rfl) Tryd.underlying3 (jk (by omega) rfl))<|av (au c)<|aD<|Ws<|ay<|av (au c)<|aZ r ?_
   by_cases Q:((b:Int)-(a:Int))<=(c:Int)
   ·refine Lv aG (pO Q)<|aD<|aQ<|Wl<|av (au c)<|aZ r<|Lv (au ((a:Int)+(c:Int)-(b:Int))) jc<|av (au ((a:Int)+(c:Int)-(b:Int)))<|aD ?_
    -- region 10 draws
    refine jP [0,1,2,3,4,5,6,7,8,9,10,12,13,14,11,15,16,17,18,19] [0,0,0,0,0,0,0,0,0,0,0,4,0,0,0,4,0,3,0,3] [(17,11,[11]),(19,11,[11]),(17,15,[15]),(19,15,[15]),(18,17,[17]),(19,17,[17])] fun rZ T iF => ?_
    have⟨t,m11⟩:=gU T m9 m8
    have K:=gJ T J o
    refine bK k<|bK l<|bK k<|bK p<|aW (au ((a:Int)+(c:Int)-(b:Int)))<|Rp (au (2*(a:Int)+(c:Int)-(b:Int))) (fun _=>gV)<|bK k<|bK p<|aW (au ((a:Int)+(c:Int)-(b:Int)))<|Rp (au (2*(a:Int)+(c:Int)-(b:Int))) (fun _=>gV)<|Rp ((pf g (2*a+c-b))) (fun _=>dz 1)<|bK k<|bK l<|Rp ((pf g ix)) (fun _=>dz 1)<|Rs (aC ((gA j) (2*a+c-b))) (aP t.aK (2*a+c-b)) ?_
    refine Rs (aC ((gA j) ix)) (aP t.aK ix) ?_
    refine Rp ((pf g ix)) (fun _=>dz 1)<|gG<|kY t ix (aC ((gA j) (2*a+c-b))) fun w5 E s5 z3 => ?_
    have yJ:=iB s5 t.XF
    have m13:=oC yJ m11
    have L:=s5.below K (Nat.le_trans o K.size) t.blk.1
    refine Ln<|Rp ((pf g (2*a+c-b))) (fun _=>dz 1)<|gG<|kY E (2*a+c-b) (aC ((gA j) ix)) fun w6 m14 s6 z4 => ?_
    have DL:=iB s6 E.XF
    have m15:=oC DL m13
    have b7:=s6.below L (Nat.le_trans o L.size) E.blk.1
    have m16:Fx.Own w6 B 29 1 (bJ g n cap) n (rv .u64 (gA (Sort.swp j ix (2*a+c-b)))):=m14.congr (fu s (by omega) (by omega))
    refine Ln<|Rn<|dA<|sN<|Wl<|aZ l<|Lv (au ((ix:Int)+1)) gV<|av (au ((ix:Int)+1))<|Ln<|iT ⟨ix+1,q,Sort.swp j ix (2*a+c-b),(dG s _ _),(Sort.permIn_trans _ _ _ _ _ C (Sort.swp_permIn _ _ _ _ _ (by omega) (by omega) (by omega) (by omega) (by omega))),(by omega),k,(p.trans Fx.ic),(S.trans Fx.ic),(r.trans Fx.ic),z,(A.trans Fx.ic),Fx.ic,m16,m15,b7⟩ ?_
    show((a:Int)+2*i+2-intOf ((au ((ix:Int)+1)))).toNat<_
    simp only[l,intOf]; omega
   refine Lv aF (oz Q)<|aD<|aN<|Wk<|sN ?_
   -- region 10 draws
   refine jP [0,1,2,3,4,5,6,7,8,9,10,12,13,14,11,15,16,17,18,19] [0,0,0,0,0,0,0,0,0,0,0,4,0,0,0,4,0,3,0,3] [(17,11,[11]),(19,11,[11]),(17,15,[15]),(19,15,[15]),(18,17,[17]),(19,17,[17])] fun C9 U nO => ?_
   have⟨u,m18⟩:=gU U m9 m8
   have M:=gJ U J o
   refine bK k<|bK l<|bK k<|bK p<|aW (au c)<|Rp (au ((a:Int)+(c:Int))) (fun _=>gV)<|bK k<|bK p<|aW (au c)<|Rp (au ((a:Int)+(c:Int))) (fun _=>gV)<|Rp ((pf g (a+c))) (fun _=>dz 1)<|bK k<|bK l<|Rp ((pf g ix)) (fun _=>dz 1)<|Rs (aC ((gA j) (a+c))) (aP u.aK (a+c)) ?_
   refine Rs (aC ((gA j) ix)) (aP u.aK ix) ?_
   refine Rp ((pf g ix)) (fun _=>dz 1)<|gG<|kY u ix (aC ((gA j) (a+c))) fun w7 F s8 z5 => ?_
   have KX:=iB s8 u.XF
   have m20:=oC KX m18
   have N:=s8.below M (Nat.le_trans o M.size) u.blk.1
   refine Ln<|Rp ((pf g (a+c))) (fun _=>dz 1)<|gG<|kY F (a+c) (aC ((gA j) ix)) fun w8 m21 s9 z6 => ?_
   have Jg:=iB s9 F.XF
   have m22:=oC Jg m20
   have b10:=s9.below N (Nat.le_trans o N.size) F.blk.1
   have m23:Fx.Own w8 B 29 1 (bJ g n cap) n (rv .u64 (gA (Sort.swp j ix (a+c)))):=m21.congr (fu s (by omega) (by omega))
   refine Ln<|Rn<|dA<|sN<|Wl<|aZ l<|Lv (au ((ix:Int)+1)) gV<|av (au ((ix:Int)+1))<|Ln<|iT ⟨ix+1,q,Sort.swp j ix (a+c),(dG s _ _),(Sort.permIn_trans _ _ _ _ _ C (Sort.swp_permIn _ _ _ _ _ (by omega) (by omega) (by omega) (by omega) (by omega))),(by omega),k,(p.trans Fx.ic),(S.trans Fx.ic),(r.trans Fx.ic),z,(A.trans Fx.ic),Fx.ic,m23,m22,b10⟩ ?_
   show((a:Int)+2*i+2-intOf ((au ((ix:Int)+1)))).toNat<_
   simp only[l,intOf]; omega
  refine Lv aF (qd P) (aD (aN (Wx (cZ (iE (dh (⟨.tuple #[],fM Tryd.results74,?_⟩)))))))
  exact⟨j,rfl,s,C,Y,x⟩
 refine Lv aF (oz O) (aD (aN (Wk (⟨.tuple #[],fM Tryd.results74,?_⟩))))
 exact⟨d,rfl,X,Sort.permIn_refl _ _ _,h,(Below.refl B w)⟩
end
section
open Rt
set_option maxRecDepth 10000
theorem SI(a b f:Nat)(c:Int)(B g n cap:Nat)(d:Array Int)(w:World)(h:Fx.Own w B 29 1 (bJ g n cap) n (rv .u64 (gA d)))(l:B<=w.heap.size)(J:d.size=n)(K:n<=1000)(ha:a<n)(H:b<n)(I:B<=f)(q:aL w f 1 (fun _=>au c) 3)(L:0<=c/\c<=1000) :
 Calls Tryd.prog 89 #[bJ g n cap,au ((a:Int)),au ((b:Int)),(pt f)] w fun e w' => ∃(x y:Nat) (i:Int),e = .returned (.tuple #[au (x:Int),au (y:Int)])/\((x=a/\y=b)\/(x=b/\y=a))/\(c<=i/\i<=c+1)/\aL w' f 1 (fun _=>au i) 3/\Fx.Own w' B 29 1 (bJ g n cap) n (rv .u64 (gA d))/\Below B w w':=by
 refine Kent Tryd.func89 28 ?_
 refine ay<|av (au 0)<|av (au 0)<|aD<|Ws<|Ws ?_
 -- region 1 draws
 refine kV<|bC (bJ g n cap)<|bC (au b)<|Qv ((pf g b)) (fun o j=>dz 1)<|Qv (aC ((gA d) b)) (fun o j=>aP (h.cb j) b)<|bC (bJ g n cap)<|bC (au a)<|Qv ((pf g a)) (fun o j=>dz 1)<|Qv (aC ((gA d) a)) (fun o j=>aP (h.cb j) a) ?_
 by_cases k:(decide ((gA d) b<(gA d) a))=true
 ·refine mK (fun _ _=>bY ((gA d) b) ((gA d) a) _) aG (by rw[k])<|Qn ?_
  intro M r
  have⟨z,m⟩:=gU r h q
  have p:=gJ r (Below.refl B w) l
  refine sN<|aQ<|ay<|av ((pt f))<|av ((pt f))<|Lv (au c) (aP m.aK 0)<|Lv (au (c+1)) gV<|av ((pt f))<|nk m 0 (au (c+1)) fun G A i O => ?_
  have C:aL G f 1 (fun _=>au (c+1)) 3:=cu A
  have v:=iB i m.ty
  have D:=oC v z
  have t:=i.below p (Nat.le_trans l p.size) (by omega)
  refine aD<|ay<|av (au b)<|av (au a)<|av (au b)<|av (au a)<|aD<|Wr<|sR<|aM (.tuple #[au ((b:Int)),au ((a:Int))]) ?_
  exact⟨b,a,c+1,rfl,.inr ⟨rfl,rfl⟩,by omega,C,D,t⟩
 rw[Bool.not_eq_true]at k
 refine mK (fun _ _=>bY ((gA d) b) ((gA d) a) _) aF (by rw[k])<|Qn ?_
 intro N s
 have⟨E,F⟩:=gU s h q
 have u:=gJ s (Below.refl B w) l
 refine sN<|aN<|Wk<|sN<|ay<|av (au a)<|av (au b)<|av (au a)<|av (au b)<|aD<|Wr<|aM (.tuple #[au ((a:Int)),au ((b:Int))]) ?_
 exact⟨a,b,c,rfl,.inl ⟨rfl,rfl⟩,by omega,F,E,u⟩
theorem Ca{j k:Int}(a b:Nat)(l:j=(a:Int))(m:k=(b:Int))(f:Nat)(c:Int)(B g n cap:Nat)(d:Array Int)(w:World)(h:Fx.Own w B 29 1 (bJ g n cap) n (rv .u64 (gA d)))(o:B<=w.heap.size)(s:d.size=n)(t:n<=1000)(ha:a<n)(p:b<n)(q:B<=f)(r:aL w f 1 (fun _=>au c) 3)(u:0<=c/\c<=1000) :
 Calls Tryd.prog 89 #[bJ g n cap,au j,au k,(pt f)] w fun e w' => ∃(x y:Nat) (i:Int),e = .returned (.tuple #[au (x:Int),au (y:Int)])/\((x=a/\y=b)\/(x=b/\y=a))/\(c<=i/\i<=c+1)/\aL w' f 1 (fun _=>au i) 3/\Fx.Own w' B 29 1 (bJ g n cap) n (rv .u64 (gA d))/\Below B w w':=by
 subst l m; exact SI a b f c B g n cap d w h o s t ha p q r u
theorem VR(a b c f:Nat)(j:Int)(B g n cap:Nat)(d:Array Int)(w:World)(h:Fx.Own w B 29 1 (bJ g n cap) n (rv .u64 (gA d)))(m:B<=w.heap.size)(p:d.size=n)(q:n<=1000)(ha:a<n)(L:b<n)(M:c<n)(z:B<=f)(o:aL w f 1 (fun _=>au j) 3)(Q:0<=j/\j<=100) :
 Calls Tryd.prog 86 #[bJ g n cap,au ((a:Int)),au ((b:Int)),au ((c:Int)),(pt f)] w fun e w' => ∃(x:Nat) (r:Int),e = .returned (au (x:Int))/\(x=a\/x=b\/x=c)/\(j<=r/\r<=j+3)/\aL w' f 1 (fun _=>au r) 3/\Fx.Own w' B 29 1 (bJ g n cap) n (rv .u64 (gA d))/\Below B w w':=by
 refine Kent Tryd.func86 36 ?_
 refine ay<|av (au 0)<|aD<|ay<|av (bJ g n cap)<|av (au a)<|av (au b)<|av ((pt f))<|ko (Ca a b (by omega) (by omega) f j B g n cap d _ h (Nat.le_trans m (Below.refl B w).size) p q (by omega) (by omega) (by omega) o (by omega)) (ax := #[bJ g n cap,au ((a:Int)),au ((b:Int)),(pt f)]) ?_
 rintro y V ⟨x1,k,J,i,R,N,D,E,z⟩
 refine⟨_,i,?_⟩
 clear i
 have u:=(Below.refl B w).trans z
 refine av (.tuple #[au ((x1:Int)),au ((k:Int))])<|av (au x1)<|av (au k)<|av (au x1)<|av (au k)<|aD<|ay<|av (bJ g n cap)<|av (au k)<|av (au c)<|av ((pt f))<|ko (Ca k c (by omega) (by omega) f J B g n cap d _ E (Nat.le_trans m u.size) p q (by omega) (by omega) (by omega) D (by omega)) (ax := #[bJ g n cap,au ((k:Int)),au ((c:Int)),(pt f)]) ?_
 rintro y W ⟨x2,t,K,i,S,O,F,G,o⟩
 refine⟨_,i,?_⟩
 clear i
 have v:=u.trans o
 refine av (.tuple #[au ((x2:Int)),au ((t:Int))])<|av (au x2)<|av (au t)<|av (au x2)<|av (au t)<|aD<|ay<|av (bJ g n cap)<|av (au x1)<|av (au x2)<|av ((pt f))<|ko (Ca x1 x2 (by omega) (by omega) f K B g n cap d _ G (Nat.le_trans m v.size) p q (by omega) (by omega) (by omega) F (by omega)) (ax := #[bJ g n cap,au ((x1:Int)),au ((x2:Int)),(pt f)]) ?_
 rintro y X ⟨s,l,U,i,T,P,H,I,C⟩
 refine⟨_,i,?_⟩
 clear i
 have A:=v.trans C
 refine av (.tuple #[au ((s:Int)),au ((l:Int))])<|av (au s)<|av (au l)<|av (au s)<|av (au l)<|aD<|ay<|av (au l)<|av (au l)<|aD<|Wr<|aM (au l) ?_
 exact⟨_,_,rfl,by omega,by omega,H,I,A⟩
theorem SK{k l m:Int}(a b c:Nat)(o:k=(a:Int))(p:l=(b:Int))(q:m=(c:Int))(i:Nat)(f:Int)(B g n cap:Nat)(d:Array Int)(w:World)(h:Fx.Own w B 29 1 (bJ g n cap) n (rv .u64 (gA d)))(r:B<=w.heap.size)(y:d.size=n)(z:n<=1000)(ha:a<n)(s:b<n)(v:c<n)(t:B<=i)(u:aL w i 1 (fun _=>au f) 3)(A:0<=f/\f<=100) :
 Calls Tryd.prog 86 #[bJ g n cap,au k,au l,au m,(pt i)] w fun e w' => ∃(x:Nat) (j:Int),e = .returned (au (x:Int))/\(x=a\/x=b\/x=c)/\(f<=j/\j<=f+3)/\aL w' i 1 (fun _=>au j) 3/\Fx.Own w' B 29 1 (bJ g n cap) n (rv .u64 (gA d))/\Below B w w':=by
 subst o p q; exact VR a b c i f B g n cap d w h r y z ha s v t u A
theorem VT(a b:Nat)(B g n cap:Nat)(d:Array Int)(w:World)(h:Fx.Own w B 29 1 (bJ g n cap) n (rv .u64 (gA d)))(x:B<=w.heap.size)(E:d.size=n)(F:n<=1000)(ha:a<b)(J:b<=n)(I:n<50) :
 Calls Tryd.prog 75 #[bJ g n cap,au ((a:Int)),au ((b:Int))] w fun e w' => ∃(p:Nat) (D:Int),e = .returned (.tuple #[au (p:Int),au D])/\a<=p/\p<b/\Fx.Own w' B 29 1 (bJ g n cap) n (rv .u64 (gA d))/\Below B w w':=by
 obtain⟨c,K⟩ : ∃ c,c=(b-a) / 4:=⟨_,rfl⟩
 refine Kent Tryd.func75 57 ?_
 refine ay<|av (au 0)<|av (au 0)<|aD<|ay<|av (au b)<|av (au a)<|Lv (au ((b:Int)-(a:Int))) jc<|av (au ((b:Int)-(a:Int)))<|aD<|ay<|wT (m:=1) (y:=rv .i64 (fun _=>0)) (by rfl) rfl (by kernel_rfl) rfl fun v Q u o A S => ?_
 have k:=aR A.old h
 have f:=gJ A.old (Below.refl B w) x
 have N:=iC u (Below.refl B w).size
 have O:=bS u h.lt
 have P:=o.lt
 refine aD<|ay<|av (au a)<|av (au ((b:Int)-(a:Int)))<|Lv (au c) (Fx.wo rfl rfl rfl (by omega) (jk (by omega) (by rw[Int.tdiv_eq_ediv_of_nonneg (by omega)]; omega)))<|Lv (au ((c:Int)*1)) (Fx.Al rfl rfl rfl Fx.io)<|Lv (au ((a:Int)+(c:Int))) gV<|av (au ((a:Int)+(c:Int)))<|aD<|ay<|av (au a)<|av (au ((b:Int)-(a:Int)))<|Lv (au c) (Fx.wo rfl rfl rfl (by omega) (jk (by omega) (by rw[Int.tdiv_eq_ediv_of_nonneg (by omega)]; omega)))<|Lv (au ((c:Int)*2)) (Fx.Al rfl rfl rfl Fx.io)<|Lv (au ((a:Int)+2*(c:Int))) gV<|av (au ((a:Int)+2*(c:Int)))<|aD<|ay<|av (au a)<|av (au ((b:Int)-(a:Int)))<|Lv (au c) (Fx.wo rfl rfl rfl (by omega) (jk (by omega) (by rw[Int.tdiv_eq_ediv_of_nonneg (by omega)]; omega)))<|Lv (au ((c:Int)*3)) (Fx.Al rfl rfl rfl Fx.io)<|Lv (au ((a:Int)+3*(c:Int))) gV<|av (au ((a:Int)+3*(c:Int)))<|aD<|Ws<|ay<|av (au ((b:Int)-(a:Int))) ?_
 by_cases t:8<=((b:Int)-(a:Int))
 ·refine Lv aG (pO t)<|aD<|aQ<|Ws<|ay<|av (au ((b:Int)-(a:Int)))<|Lv aF Aq<|aD<|aN<|Wk<|sN<|Wl<|av (bJ g n cap)<|av (au ((a:Int)+(c:Int)))<|av (au ((a:Int)+2*(c:Int)))<|av (au ((a:Int)+3*(c:Int)))<|ko (SK (a+c) (a+2*c) (a+3*c) (by omega) (by omega) (by omega) v 0 B g n cap d _ k (Nat.le_trans x f.size) E F (by omega) (by omega) (by omega) (by omega) o (by omega)) (ax := #[bJ g n cap,au ((a:Int)+(c:Int)),au ((a:Int)+2*(c:Int)),au ((a:Int)+3*(c:Int)),(pt v)]) ?_
  rintro H R ⟨x1,s,z,M,L,G,r,C⟩
  refine⟨_,z,?_⟩
  clear z
  have l:=f.trans C
  refine av (au x1)<|aD<|ay<|Lv (au s) (aP G.aK 0)<|aD<|Wb<|ay ?_
  by_cases i:s=0
  ·refine Lv aG (gT i)<|av aG<|aD<|aQ<|ay<|av (au x1)<|av (au x1)<|av (au 1)<|aD<|Wr<|bX<|aM (.tuple #[au ((x1:Int)),au 1]) ?_
   exact⟨x1,1,congrArg (fun q=>Ending.returned (.tuple #[au q,au 1])) (by omega),by omega,by omega,r,l⟩
  refine Lv aF (jm i)<|av aF<|aD<|aN<|ay ?_
  by_cases j:s=12
  ·refine Lv aG (gT j)<|av aG<|aD<|aQ<|ay<|av (au x1)<|av (au x1)<|av (au 2)<|aD<|Wr<|bX<|aM (.tuple #[au ((x1:Int)),au 2]) ?_
   exact⟨x1,2,congrArg (fun q=>Ending.returned (.tuple #[au q,au 2])) (by omega),by omega,by omega,r,l⟩
  refine Lv aF (jm j)<|av aF<|aD<|aN<|ay<|av (au x1)<|av (au x1)<|av (au 0)<|aD<|Wr<|bX<|aM (.tuple #[au ((x1:Int)),au 0]) ?_
  exact⟨x1,0,congrArg (fun q=>Ending.returned (.tuple #[au q,au 0])) (by omega),by omega,by omega,r,l⟩
 refine Lv aF (oz t)<|aD<|aN<|Wk<|sN<|ay<|Lv (au 0) (aP o.aK 0)<|aD<|Wb<|ay ?_
 by_cases i:(0:Int)=0
 ·refine Lv aG (gT i)<|av aG<|aD<|aQ<|ay<|av (au ((a:Int)+2*(c:Int)))<|av (au ((a:Int)+2*(c:Int)))<|av (au 1)<|aD<|Wr<|bX<|aM (.tuple #[au ((a:Int)+2*(c:Int)),au 1]) ?_
  exact⟨a+2*c,1,congrArg (fun q=>Ending.returned (.tuple #[au q,au 1])) (by omega),by omega,by omega,k,f⟩
 refine Lv aF (jm i)<|av aF<|aD<|aN<|ay ?_
 by_cases j:(0:Int)=12
 ·refine Lv aG (gT j)<|av aG<|aD<|aQ<|ay<|av (au ((a:Int)+2*(c:Int)))<|av (au ((a:Int)+2*(c:Int)))<|av (au 2)<|aD<|Wr<|bX<|aM (.tuple #[au ((a:Int)+2*(c:Int)),au 2]) ?_
  exact⟨a+2*c,2,congrArg (fun q=>Ending.returned (.tuple #[au q,au 2])) (by omega),by omega,by omega,k,f⟩
 refine Lv aF (jm j)<|av aF<|aD<|aN<|ay<|av (au ((a:Int)+2*(c:Int)))<|av (au ((a:Int)+2*(c:Int)))<|av (au 0)<|aD<|Wr<|bX<|aM (.tuple #[au ((a:Int)+2*(c:Int)),au 0]) ?_
 exact⟨a+2*c,0,congrArg (fun q=>Ending.returned (.tuple #[au q,au 0])) (by omega),by omega,by omega,k,f⟩
end
section
open Rt
set_option maxRecDepth 10000
theorem SL(a b:Nat)(B g n cap:Nat)(d:Array Int)(w:World)(h:Fx.Own w B 29 1 (bJ g n cap) n (rv .u64 (gA d)))(v:B<=w.heap.size)(V:d.size=n)(W:n<=1000)(ha:a<b)(U:b<=n)(T:n<50) :
 Calls Tryd.prog 77 #[bJ g n cap,au ((a:Int)),au ((b:Int))] w fun e w' => ∃ r:Bool,e = .returned (.bool r)/\(r=true->Sort.SortedIn Sort.ltInt a b d)/\Fx.Own w' B 29 1 (bJ g n cap) n (rv .u64 (gA d))/\Below B w w':=by
 refine Kent Tryd.func77 133 ?_
 refine ay<|av aF<|aD<|ay<|av (au a)<|Lv (au ((a:Int)+1)) gV<|av (au ((a:Int)+1))<|aD<|Ws<|ay<|av (au 0)<|aD<|Wb<|Wo (fun f p=>f 0=bJ g n cap/\f 1=au ((a:Int))/\f 2=au ((b:Int))/\f 7=au ((a:Int)+1)/\f 8=au 0/\Fx.Own p B 29 1 (bJ g n cap) n (rv .u64 (gA d))/\Below B w p) (fun f _=>(5-intOf (f 8)).toNat) ⟨(by rfl),Fx.ic,Fx.ic,Fx.ic,Fx.ic,h,(Below.refl B w)⟩ ?_
 rintro R X ⟨K,M,N,O,C,P,I⟩
 refine Ws<|ay<|aZ C<|Lv aG Kv<|aD<|aQ<|Wk<|sN<|Ws<|Wb<|Ws<|Wb<|Wo (fun f p => ∃ i:Nat,Sort.SortedIn Sort.ltInt a i d/\(a<i/\i<=b)/\f 0=bJ g n cap/\f 1=au ((a:Int))/\f 2=au ((b:Int))/\f 7=au ((i:Int))/\f 8=au 0/\Fx.Own p B 29 1 (bJ g n cap) n (rv .u64 (gA d))/\Below B w p) (fun f _=>((b:Int)-intOf (f 7)).toNat) ⟨a+1,(FC _ _),(by omega),K,(M.trans Fx.ic),(N.trans Fx.ic),(O.trans Fx.ic),(C.trans Fx.ic),P,I⟩ ?_
 rintro S Y ⟨i,x,hi,t,u,k,j,L,o,s⟩
 refine Ws<|Ws ?_
 -- region 5 draws
 refine kV<|eB j<|eB k ?_
 by_cases A:(i:Int)<(b:Int)
 ·refine Qv aG (fun l c=>mD A)<|bC aG<|eB t<|eB j<|Qv ((pf g i)) (fun l c=>dz 1)<|Qv (aC ((gA d) i)) (fun l c=>aP (o.cb c) i)<|eB t<|eB j<|Qv (au ((i:Int)-1)) (fun l c=>jc)<|Qv ((pf g (i-1))) (fun l c=>dz 1)<|Qv (aC ((gA d) (i-1))) (fun l c=>aP (o.cb c) (i-1)) ?_
  by_cases q:(decide ((gA d) i<(gA d) (i-1)))=true
  ·refine mK (fun _ _=>bY ((gA d) i) ((gA d) (i-1)) _) aG (by rw[q])<|bC aF<|bC aF<|Qn ?_
   intro Z D
   have G:=aR D o
   have y:=gJ D s v
   refine sN<|aN<|Wx<|cZ<|iE<|dh<|sN<|Ws<|ay<|aZ j<|aZ k ?_
   by_cases m:(i:Int)=(b:Int)
   ·refine Lv aG (gT m)<|aD<|aQ<|ay<|av aG<|aD<|Wr<|sR<|bX<|sR<|qL<|bX<|sR<|aM aG ?_
    exact⟨true,rfl,(fun _=>by rw[show b=i by omega]; exact x),G,y⟩
   refine Lv aF (jm m)<|aD<|aN<|Wk<|sN<|Ws<|ay<|aZ k<|aZ u<|Lv (au ((b:Int)-(a:Int))) jc<|Lv aG Kv<|aD<|aQ<|ay<|av aF<|aD<|Wr<|sR<|bX<|sR<|qL<|bX<|sR<|aM aF ?_
   exact⟨false,rfl,(fun h=>nomatch h),G,y⟩
  rw[Bool.not_eq_true]at q
  refine mK (fun _ _=>bY ((gA d) i) ((gA d) (i-1)) _) aF (by rw[q])<|bC aG<|bC aG<|Qn ?_
  intro aa E
  have Q:=aR E o
  have J:=gJ E s v
  refine sN<|aQ<|Wk<|sN<|Wb<|Wl<|aZ j<|Lv (au ((i:Int)+1)) gV<|av (au ((i:Int)+1))<|Ln<|dA<|iT ⟨i+1,(Sort.SortedIn.snoc Sort.swo_ltInt x (pE (of_decide_eq_false q))),(by omega),t,(u.trans Fx.ic),(k.trans Fx.ic),Fx.ic,(L.trans Fx.ic),Q,J⟩ ?_
  show((b:Int)-intOf ((au ((i:Int)+1)))).toNat<_
  simp only[j,intOf]; omega
 refine Qv aF (fun l c=>mE A)<|bC aF<|aU<|aU<|aU<|aU<|aU<|aU<|aU<|aU<|aU<|aU<|aU<|bC aF<|Qn ?_
 intro ab F
 have H:=aR F o
 have z:=gJ F s v
 refine sN<|aN<|Wx<|cZ<|iE<|dh<|sN<|Ws<|ay<|aZ j<|aZ k ?_
 by_cases m:(i:Int)=(b:Int)
 ·refine Lv aG (gT m)<|aD<|aQ<|ay<|av aG<|aD<|Wr<|sR<|bX<|sR<|qL<|bX<|sR<|aM aG ?_
  exact⟨true,rfl,(fun _=>by rw[show b=i by omega]; exact x),H,z⟩
 refine Lv aF (jm m)<|aD<|aN<|Wk<|sN<|Ws<|ay<|aZ k<|aZ u<|Lv (au ((b:Int)-(a:Int))) jc<|Lv aG Kv<|aD<|aQ<|ay<|av aF<|aD<|Wr<|sR<|bX<|sR<|qL<|bX<|sR<|aM aF ?_
 exact⟨false,rfl,(fun h=>nomatch h),H,z⟩
theorem YM(a b p:Nat)(B g n cap:Nat)(d:Array Int)(w:World)(h:Fx.Own w B 29 1 (bJ g n cap) n (rv .u64 (gA d)))(o:B<=w.heap.size)(hn:d.size=n)(hs:n<=1000)(ha:a<=p)(hp:p<b)(hb:b<=n) :
 Calls Tryd.prog 79 #[bJ g n cap,au ((a:Int)),au ((b:Int)),au ((p:Int))] w fun e w' => ∃(mid:Nat) (V:Array Int),e = .returned (au (mid:Int))/\Sort.partitionEqual Sort.ltInt d a b p=(mid,V)/\V.size=n/\Fx.Own w' B 29 1 (bJ g n cap) n (rv .u64 (gA V))/\Below B w w':=by
 refine Kent Tryd.func79 84 ?_
 refine ay<|av (au 0)<|aD<|Ws ?_
 -- region 1 draws
 refine jP [0,1,2,3,4,5,6,8,9,10,7,11,12,13,14,15] [0,0,0,0,0,0,0,4,0,0,0,4,0,3,0,3] [(13,7,[7]),(15,7,[7]),(13,11,[11]),(15,11,[11]),(14,13,[13]),(15,13,[13])] fun rZ gy iF => ?_
 have P:=aR gy h
 have b1:=gJ gy (Below.refl B w) o
 refine aW (bJ g n cap)<|aW (au a)<|aW (bJ g n cap)<|aW (au p)<|aW (bJ g n cap)<|aW (au p)<|Rp ((pf g p)) (fun _=>dz 1)<|aW (bJ g n cap)<|aW (au a)<|Rp ((pf g a)) (fun _=>dz 1)<|Rs (aC ((gA d) p)) (aP P.aK p) ?_
 refine Rs (aC ((gA d) a)) (aP P.aK a) ?_
 refine Rp ((pf g a)) (fun _=>dz 1)<|gG<|kY P a (aC ((gA d) p)) fun w1 m2 s2 z1 => ?_
 have b2:=s2.below b1 (Nat.le_trans o b1.size) P.blk.1
 refine Ln<|Rp ((pf g p)) (fun _=>dz 1)<|gG<|kY m2 p (aC ((gA d) a)) fun w2 m3 s3 z2 => ?_
 have b3:=s3.below b2 (Nat.le_trans o b2.size) m2.blk.1
 have m4:Fx.Own w2 B 29 1 (bJ g n cap) n (rv .u64 (gA (Sort.swp d a p))):=m3.congr (fu hn (by omega) (by omega))
 refine Ln<|bG<|ay<|av (au a)<|Lv (au ((a:Int)+1)) gV<|av (au b)<|Lv (au ((b:Int)-1)) jc<|av (au ((a:Int)+1))<|av (au ((b:Int)-1))<|aD<|Ws<|Wb<|Wo (fun f s => ∃ i:Nat,∃ j:Nat,∃ k:Array Int,k.size=n/\Sort.partEqLoop Sort.ltInt a i j k=Sort.partEqLoop Sort.ltInt a (a+1) (b-1) (Sort.swp d a p)/\(a<i/\j<b/\i<=b)/\f 0=bJ g n cap/\f 1=au ((a:Int))/\f 2=au ((b:Int))/\f 9=au ((i:Int))/\f 10=au ((j:Int))/\Fx.Own s B 29 1 (bJ g n cap) n (rv .u64 (gA k))/\Below B w s) (fun f _=>((b:Int)-intOf (f 9)).toNat) ⟨a+1,b-1,Sort.swp d a p,(dG hn _ _),rfl,(by omega),(by rfl),Fx.ic,Fx.ic,Fx.ic,Fx.ic,m4,b3⟩ ?_
 rintro f1 w3 ⟨i,j,k,E,O,hij,h1,h2,h3,Y,h5,m5,b4⟩
 refine Wb<|Ws<|Wb<|Wo (fun f s => ∃ c:Nat,Sort.partEqLoop Sort.ltInt a c j k=Sort.partEqLoop Sort.ltInt a i j k/\(i<=c/\c<=b)/\f 0=bJ g n cap/\f 1=au ((a:Int))/\f 2=au ((b:Int))/\f 9=au ((c:Int))/\f 10=au ((j:Int))/\Fx.Own s B 29 1 (bJ g n cap) n (rv .u64 (gA k))/\Below B w s) (fun f _=>((j:Int)+1-intOf (f 9)).toNat) ⟨i,rfl,(by omega),h1,(h2.trans Fx.ic),(h3.trans Fx.ic),(Y.trans Fx.ic),(h5.trans Fx.ic),m5,b4⟩ ?_
 rintro f2 w4 ⟨c,I,hi2,H,N,Z,D,M,K,T⟩
 refine Ws<|Ws ?_
 -- region 3 draws
 refine kV<|eB D<|eB M ?_
 by_cases c31:(c:Int)<=(j:Int)
 ·refine Qv aG (fun q m=>pK c31)<|bC aG<|eB H<|eB N<|Qv ((pf g a)) (fun q m=>dz 1)<|Qv (aC ((gA k) a)) (fun q m=>aP (K.cb m) a)<|eB H<|eB D<|Qv ((pf g c)) (fun q m=>dz 1)<|Qv (aC ((gA k) c)) (fun q m=>aP (K.cb m) c) ?_
  by_cases F:(decide ((gA k) a<(gA k) c))=true
  ·refine mK (fun _ _=>bY ((gA k) a) ((gA k) c) _) aG (by rw[F])<|bC aF<|bC aF<|Qn ?_
   intro VI sj
   have m7:=aR sj K
   have b6:=gJ sj T o
   refine sN<|aN<|Wx<|cZ<|iE<|dh<|sN<|Ws<|Wb<|Wo (fun f s => ∃ l:Nat,Sort.partEqLoop Sort.ltInt a c l k=Sort.partEqLoop Sort.ltInt a c j k/\((l<c\/gA k a<gA k c))/\l<=j/\f 0=bJ g n cap/\f 1=au ((a:Int))/\f 2=au ((b:Int))/\f 9=au ((c:Int))/\f 10=au ((l:Int))/\Fx.Own s B 29 1 (bJ g n cap) n (rv .u64 (gA k))/\Below B w s) (fun f _=>(intOf (f 10)).toNat) ⟨j,rfl,(.inr (of_decide_eq_true F)),(by omega),H,(N.trans Fx.ic),(Z.trans Fx.ic),(D.trans Fx.ic),(M.trans Fx.ic),m7,b6⟩ ?_
   rintro f3 w5 ⟨l,A,C,hj2,v,W,SN,x,t,L,U⟩
   refine Ws<|Ws ?_
   -- region 5 draws
   refine kV<|eB x<|eB t ?_
   by_cases G:(c:Int)<=(l:Int)
   ·refine Qv aG (fun q m=>pK G)<|bC aG<|eB v<|eB W<|Qv ((pf g a)) (fun q m=>dz 1)<|Qv (aC ((gA k) a)) (fun q m=>aP (L.cb m) a)<|eB v<|eB t<|Qv ((pf g l)) (fun q m=>dz 1)<|Qv (aC ((gA k) l)) (fun q m=>aP (L.cb m) l) ?_
    by_cases r:(decide ((gA k) a<(gA k) l))=true
    ·refine mK (fun _ _=>bY ((gA k) a) ((gA k) l) _) aG (by rw[r])<|bC aG<|Qn ?_
     intro VJ su
     have m9:=aR su L
     have b8:=gJ su U o
     refine sN<|aQ<|Wk<|sN<|Wb<|Wl<|aZ t<|Lv (au ((l:Int)-1)) jc<|av (au ((l:Int)-1))<|Ln<|dA<|iT ⟨l-1,((QO (by omega) (by omega) (C.resolve_left (by omega)) (of_decide_eq_true r)).trans A),(C.elim (fun h => .inl (by omega)) .inr),(by omega),v,(W.trans Fx.ic),(SN.trans Fx.ic),(x.trans Fx.ic),Fx.ic,m9,b8⟩ ?_
     show(intOf ((au ((l:Int)-1)))).toNat<_
     simp only[t,intOf]; omega
    rw[Bool.not_eq_true]at r
    refine mK (fun _ _=>bY ((gA k) a) ((gA k) l) _) aF (by rw[r])<|bC aF<|Qn ?_
    intro VK sw
    have m10:=aR sw L
    have b9:=gJ sw U o
    refine sN<|aN<|Wx<|cZ<|iE<|dh<|sN<|Ws<|ay<|aZ x<|aZ t<|Lv aF rU<|aD<|aN<|Wk<|sN<|Ws ?_
    -- region 8 draws
    refine jP [0,1,2,3,4,5,6,8,9,10,7,11,12,13,14,15] [0,0,0,0,0,0,0,4,0,0,0,4,0,3,0,3] [(13,7,[7]),(15,7,[7]),(13,11,[11]),(15,11,[11]),(14,13,[13]),(15,13,[13])] fun C9 jJ nO => ?_
    have Q:=aR jJ m10
    have b10:=gJ jJ b9 o
    refine bK v<|bK x<|bK v<|bK t<|bK v<|bK t<|Rp ((pf g l)) (fun _=>dz 1)<|bK v<|bK x<|Rp ((pf g c)) (fun _=>dz 1)<|Rs (aC ((gA k) l)) (aP Q.aK l) ?_
    refine Rs (aC ((gA k) c)) (aP Q.aK c) ?_
    refine Rp ((pf g c)) (fun _=>dz 1)<|gG<|kY Q c (aC ((gA k) l)) fun w6 m12 s8 z3 => ?_
    have b11:=s8.below b10 (Nat.le_trans o b10.size) Q.blk.1
    refine Ln<|Rp ((pf g l)) (fun _=>dz 1)<|gG<|kY m12 l (aC ((gA k) c)) fun w7 m13 s9 z4 => ?_
    have b12:=s9.below b11 (Nat.le_trans o b11.size) m12.blk.1
    have m14:Fx.Own w7 B 29 1 (bJ g n cap) n (rv .u64 (gA (Sort.swp k c l))):=m13.congr (fu E (by omega) (by omega))
    refine Ln<|bG<|ay<|aZ x<|Lv (au ((c:Int)+1)) gV<|av (au ((c:Int)+1))<|aD<|Wl<|aZ t<|Lv (au ((l:Int)-1)) jc<|av (au ((l:Int)-1))<|Ln<|dA<|iT ⟨c+1,l-1,Sort.swp k c l,(dG E _ _),((QS (by omega) (C.resolve_left (by omega)) (of_decide_eq_false r)).trans (A.trans (I.trans O))),(by omega),v,(W.trans Fx.ic),(SN.trans Fx.ic),Fx.ic,Fx.ic,m14,b12⟩ ?_
    show((b:Int)-intOf ((au ((c:Int)+1)))).toNat<_
    simp only[Y,intOf]; omega
   refine Qv aF (fun q m=>qd G)<|bC aF<|aU<|aU<|aU<|aU<|aU<|aU<|aU<|aU<|aU<|bC aF<|Qn ?_
   intro YI yK
   have m15:=aR yK L
   have b13:=gJ yK U o
   refine sN<|aN<|Wx<|cZ<|iE<|dh<|sN<|Ws<|ay<|aZ x<|aZ t<|Lv aG wz<|aD<|aQ<|Wx<|cZ<|Fx.Fe rfl<|iE<|dh<|sN<|ay<|aZ x<|av (au c)<|aD<|Wr<|aM (au c) ?_
   exact⟨c,k,rfl,O.symm.trans (I.symm.trans (A.symm.trans (KU (by omega)))),E,m15,b13⟩
  rw[Bool.not_eq_true]at F
  refine mK (fun _ _=>bY ((gA k) a) ((gA k) c) _) aF (by rw[F])<|bC aG<|bC aG<|Qn ?_
  intro YJ yL
  have m16:=aR yL K
  have b14:=gJ yL T o
  refine sN<|aQ<|Wk<|sN<|Wb<|Wl<|aZ D<|Lv (au ((c:Int)+1)) gV<|av (au ((c:Int)+1))<|Ln<|dA<|iT ⟨c+1,((VF (by omega) (of_decide_eq_false F)).trans I),(by omega),H,(N.trans Fx.ic),(Z.trans Fx.ic),Fx.ic,(M.trans Fx.ic),m16,b14⟩ ?_
  show((j:Int)+1-intOf ((au ((c:Int)+1)))).toNat<_
  simp only[D,intOf]; omega
 refine Qv aF (fun q m=>qd c31)<|bC aF<|aU<|aU<|aU<|aU<|aU<|aU<|aU<|aU<|aU<|aU<|bC aF<|Qn ?_
 intro wb6 DN
 have m17:=aR DN K
 have b15:=gJ DN T o
 refine sN<|aN<|Wx<|cZ<|iE<|dh<|sN<|Ws<|Wb<|Wo (fun f s => ∃ l:Nat,Sort.partEqLoop Sort.ltInt a c l k=Sort.partEqLoop Sort.ltInt a c j k/\((l<c\/gA k a<gA k c))/\l<=j/\f 0=bJ g n cap/\f 1=au ((a:Int))/\f 2=au ((b:Int))/\f 9=au ((c:Int))/\f 10=au ((l:Int))/\Fx.Own s B 29 1 (bJ g n cap) n (rv .u64 (gA k))/\Below B w s) (fun f _=>(intOf (f 10)).toNat) ⟨j,rfl,(.inl (by omega)),(by omega),H,(N.trans Fx.ic),(Z.trans Fx.ic),(D.trans Fx.ic),(M.trans Fx.ic),m17,b15⟩ ?_
 rintro f4 w8 ⟨l,A,C,hj2,y,X,h18,z,u,J,S⟩
 refine Ws<|Ws ?_
 -- region 5 draws
 refine kV<|eB z<|eB u ?_
 by_cases G:(c:Int)<=(l:Int)
 ·refine Qv aG (fun q m=>pK G)<|bC aG<|eB y<|eB X<|Qv ((pf g a)) (fun q m=>dz 1)<|Qv (aC ((gA k) a)) (fun q m=>aP (J.cb m) a)<|eB y<|eB u<|Qv ((pf g l)) (fun q m=>dz 1)<|Qv (aC ((gA k) l)) (fun q m=>aP (J.cb m) l) ?_
  by_cases r:(decide ((gA k) a<(gA k) l))=true
  ·refine mK (fun _ _=>bY ((gA k) a) ((gA k) l) _) aG (by rw[r])<|bC aG<|Qn ?_
   intro wb7 DR
   have m19:=aR DR J
   have b17:=gJ DR S o
   refine sN<|aQ<|Wk<|sN<|Wb<|Wl<|aZ u<|Lv (au ((l:Int)-1)) jc<|av (au ((l:Int)-1))<|Ln<|dA<|iT ⟨l-1,((QO (by omega) (by omega) (C.resolve_left (by omega)) (of_decide_eq_true r)).trans A),(C.elim (fun h => .inl (by omega)) .inr),(by omega),y,(X.trans Fx.ic),(h18.trans Fx.ic),(z.trans Fx.ic),Fx.ic,m19,b17⟩ ?_
   show(intOf ((au ((l:Int)-1)))).toNat<_
   simp only[u,intOf]; omega
  rw[Bool.not_eq_true]at r
  refine mK (fun _ _=>bY ((gA k) a) ((gA k) l) _) aF (by rw[r])<|bC aF<|Qn ?_
  intro wb8 DT
  have m20:=aR DT J
  have b18:=gJ DT S o
  refine sN<|aN<|Wx<|cZ<|iE<|dh<|sN<|Ws<|ay<|aZ z<|aZ u<|Lv aF rU<|aD<|aN<|Wk<|sN<|Ws ?_
  -- region 8 draws
  refine jP [0,1,2,3,4,5,6,8,9,10,7,11,12,13,14,15] [0,0,0,0,0,0,0,4,0,0,0,4,0,3,0,3] [(13,7,[7]),(15,7,[7]),(13,11,[11]),(15,11,[11]),(14,13,[13]),(15,13,[13])] fun VL yM G7 => ?_
  have R:=aR yM m20
  have b19:=gJ yM b18 o
  refine bK y<|bK z<|bK y<|bK u<|bK y<|bK u<|Rp ((pf g l)) (fun _=>dz 1)<|bK y<|bK z<|Rp ((pf g c)) (fun _=>dz 1)<|Rs (aC ((gA k) l)) (aP R.aK l) ?_
  refine Rs (aC ((gA k) c)) (aP R.aK c) ?_
  refine Rp ((pf g c)) (fun _=>dz 1)<|gG<|kY R c (aC ((gA k) l)) fun w9 m22 s16 z5 => ?_
  have b20:=s16.below b19 (Nat.le_trans o b19.size) R.blk.1
  refine Ln<|Rp ((pf g l)) (fun _=>dz 1)<|gG<|kY m22 l (aC ((gA k) c)) fun zI m23 YK z6 => ?_
  have YN:=YK.below b20 (Nat.le_trans o b20.size) m22.blk.1
  have m24:Fx.Own zI B 29 1 (bJ g n cap) n (rv .u64 (gA (Sort.swp k c l))):=m23.congr (fu E (by omega) (by omega))
  refine Ln<|bG<|ay<|aZ z<|Lv (au ((c:Int)+1)) gV<|av (au ((c:Int)+1))<|aD<|Wl<|aZ u<|Lv (au ((l:Int)-1)) jc<|av (au ((l:Int)-1))<|Ln<|dA<|iT ⟨c+1,l-1,Sort.swp k c l,(dG E _ _),((QS (by omega) (C.resolve_left (by omega)) (of_decide_eq_false r)).trans (A.trans (I.trans O))),(by omega),y,(X.trans Fx.ic),(h18.trans Fx.ic),Fx.ic,Fx.ic,m24,YN⟩ ?_
  show((b:Int)-intOf ((au ((c:Int)+1)))).toNat<_
  simp only[Y,intOf]; omega
 refine Qv aF (fun q m=>qd G)<|bC aF<|aU<|aU<|aU<|aU<|aU<|aU<|aU<|aU<|aU<|bC aF<|Qn ?_
 intro wb9 DU
 have sD:=aR DU J
 have YO:=gJ DU S o
 refine sN<|aN<|Wx<|cZ<|iE<|dh<|sN<|Ws<|ay<|aZ z<|aZ u<|Lv aG wz<|aD<|aQ<|Wx<|cZ<|Fx.Fe rfl<|iE<|dh<|sN<|ay<|aZ z<|av (au c)<|aD<|Wr<|aM (au c) ?_
 exact⟨c,k,rfl,O.symm.trans (I.symm.trans (A.symm.trans (KU (by omega)))),E,sD,YO⟩
theorem VU(a b p:Nat)(B g n cap:Nat)(d:Array Int)(w:World)(h:Fx.Own w B 29 1 (bJ g n cap) n (rv .u64 (gA d)))(q:B<=w.heap.size)(Q:d.size=n)(hs:n<=1000)(ha:a<=p)(hp:p<b)(hb:b<=n) :
 Calls Tryd.prog 80 #[bJ g n cap,au ((a:Int)),au ((b:Int)),au ((p:Int))] w fun e w' => ∃(mid:Nat) (ap:Bool) (d4:Array Int),e = .returned (.tuple #[au (mid:Int),.bool ap])/\(Sort.partition Sort.ltInt d a b p).1=mid/\(Sort.partition Sort.ltInt d a b p).2.2=d4/\d4.size=n/\Fx.Own w' B 29 1 (bJ g n cap) n (rv .u64 (gA d4))/\Below B w w':=by
 refine Kent Tryd.func80 168 ?_
 refine ay<|av (au 0)<|av aF<|aD<|Ws ?_
 -- region 1 draws
 refine jP [0,1,2,3,4,5,6,8,9,10,7,11,12,13,14,15] [0,0,0,0,0,0,0,4,0,0,0,4,0,3,0,3] [(13,7,[7]),(15,7,[7]),(13,11,[11]),(15,11,[11]),(14,13,[13]),(15,13,[13])] fun rZ gy iF => ?_
 have m1:=aR gy h
 have b1:=gJ gy (Below.refl B w) q
 refine aW (bJ g n cap)<|aW (au a)<|aW (bJ g n cap)<|aW (au p)<|aW (bJ g n cap)<|aW (au p)<|Rp ((pf g p)) (fun _=>dz 1)<|aW (bJ g n cap)<|aW (au a)<|Rp ((pf g a)) (fun _=>dz 1)<|Rs (aC ((gA d) p)) (aP m1.aK p) ?_
 refine Rs (aC ((gA d) a)) (aP m1.aK a) ?_
 refine Rp ((pf g a)) (fun _=>dz 1)<|gG<|kY m1 a (aC ((gA d) p)) fun w1 m2 s2 z1 => ?_
 have b2:=s2.below b1 (Nat.le_trans q b1.size) m1.blk.1
 refine Ln<|Rp ((pf g p)) (fun _=>dz 1)<|gG<|kY m2 p (aC ((gA d) a)) fun w2 m3 s3 z2 => ?_
 have b3:=s3.below b2 (Nat.le_trans q b2.size) m2.blk.1
 have m4:Fx.Own w2 B 29 1 (bJ g n cap) n (rv .u64 (gA (Sort.swp d a p))):=m3.congr (fu Q (by omega) (by omega))
 refine Ln<|bG<|ay<|av (au a)<|Lv (au ((a:Int)+1)) gV<|av (au b)<|Lv (au ((b:Int)-1)) jc<|av (au ((a:Int)+1))<|av (au ((b:Int)-1))<|aD<|Ws<|Wb<|Wo (fun f t => ∃ s:Nat,Sort.partLoop Sort.ltInt a s (b-1) (Sort.swp d a p)=Sort.partLoop Sort.ltInt a (a+1) (b-1) (Sort.swp d a p)/\(a+1<=s/\s<=b)/\f 0=bJ g n cap/\f 1=au ((a:Int))/\f 2=au ((b:Int))/\f 10=au ((s:Int))/\f 11=au ((b:Int)-1)/\Fx.Own t B 29 1 (bJ g n cap) n (rv .u64 (gA (Sort.swp d a p)))/\Below B w t) (fun f _=>((b:Int)-intOf (f 10)).toNat) ⟨a+1,rfl,(by omega),(by rfl),Fx.ic,Fx.ic,Fx.ic,Fx.ic,m4,b3⟩ ?_
 rintro f1 w3 ⟨s,hY0,adZ,h1,h2,h3,h4,h5,m5,b4⟩
 refine Ws<|Ws ?_
 -- region 3 draws
 refine kV<|eB h4<|eB h5 ?_
 by_cases c32:(s:Int)<=((b:Int)-1)
 ·refine Qv aG (fun r o=>pK c32)<|bC aG<|eB h1<|eB h4<|Qv ((pf g s)) (fun r o=>dz 1)<|Qv (aC ((gA (Sort.swp d a p)) s)) (fun r o=>aP (m5.cb o) s)<|eB h1<|eB h2<|Qv ((pf g a)) (fun r o=>dz 1)<|Qv (aC ((gA (Sort.swp d a p)) a)) (fun r o=>aP (m5.cb o) a) ?_
  by_cases QT:(decide ((gA (Sort.swp d a p)) s<(gA (Sort.swp d a p)) a))=true
  ·refine mK (fun _ _=>bY ((gA (Sort.swp d a p)) s) ((gA (Sort.swp d a p)) a) _) aG (by rw[QT])<|bC aG<|Qn ?_
   intro VI sj
   have m6:=aR sj m5
   have b5:=gJ sj b4 q
   refine sN<|aQ<|Wk<|sN<|Wb<|Wl<|aZ h4<|Lv (au ((s:Int)+1)) gV<|av (au ((s:Int)+1))<|Ln<|dA<|iT ⟨s+1,((KT (by omega) (of_decide_eq_true QT)).trans hY0),(by omega),h1,(h2.trans Fx.ic),(h3.trans Fx.ic),Fx.ic,(h5.trans Fx.ic),m6,b5⟩ ?_
   show((b:Int)-intOf ((au ((s:Int)+1)))).toNat<_
   simp only[h4,intOf]; omega
  rw[Bool.not_eq_true]at QT
  refine mK (fun _ _=>bY ((gA (Sort.swp d a p)) s) ((gA (Sort.swp d a p)) a) _) aF (by rw[QT])<|bC aF<|Qn ?_
  intro VJ su
  have m7:=aR su m5
  have b6:=gJ su b4 q
  refine sN<|aN<|Wx<|cZ<|iE<|dh<|sN<|Ws<|Wb<|Wo (fun f t => ∃ m:Nat,Sort.partLoop Sort.ltInt a s m (Sort.swp d a p)=Sort.partLoop Sort.ltInt a (a+1) (b-1) (Sort.swp d a p)/\((m<s \/ ¬ gA (Sort.swp d a p) s<gA (Sort.swp d a p) a))/\(m<b/\m<=b)/\f 0=bJ g n cap/\f 1=au ((a:Int))/\f 2=au ((b:Int))/\f 10=au ((s:Int))/\f 11=au ((m:Int))/\Fx.Own t B 29 1 (bJ g n cap) n (rv .u64 (gA (Sort.swp d a p)))/\Below B w t) (fun f _=>(intOf (f 11)).toNat) ⟨b-1,hY0,(.inr (of_decide_eq_false QT)),(by omega),h1,(h2.trans Fx.ic),(h3.trans Fx.ic),(h4.trans Fx.ic),(h5.trans Fx.ic),m7,b6⟩ ?_
  rintro f2 w4 ⟨m,Y,Z,YP,M,h7,h8,W,A,m8,b7⟩
  refine Ws<|Ws ?_
  -- region 5 draws
  refine kV<|eB W<|eB A ?_
  by_cases VW:(s:Int)<=(m:Int)
  ·refine Qv aG (fun r o=>pK VW)<|bC aG<|eB M<|eB A<|Qv ((pf g m)) (fun r o=>dz 1)<|Qv (aC ((gA (Sort.swp d a p)) m)) (fun r o=>aP (m8.cb o) m)<|eB M<|eB h7<|Qv ((pf g a)) (fun r o=>dz 1)<|Qv (aC ((gA (Sort.swp d a p)) a)) (fun r o=>aP (m8.cb o) a) ?_
   by_cases P:(decide ((gA (Sort.swp d a p)) m<(gA (Sort.swp d a p)) a))=true
   ·refine mK (fun _ _=>bY ((gA (Sort.swp d a p)) m) ((gA (Sort.swp d a p)) a) _) aG (by rw[P])<|bC aF<|bC aF<|Qn ?_
    intro VK sw
    have m9:=aR sw m8
    have b8:=gJ sw b7 q
    refine sN<|aN<|Wx<|cZ<|iE<|dh<|sN<|Ws<|ay<|aZ W<|aZ A<|Lv aF rU<|aD<|aN<|Wk<|sN<|Ws ?_
    -- region 10 draws
    refine jP [0,1,2,3,4,5,6,8,9,10,7,11,12,13,14,15] [0,0,0,0,0,0,0,4,0,0,0,4,0,3,0,3] [(13,7,[7]),(15,7,[7]),(13,11,[11]),(15,11,[11]),(14,13,[13]),(15,13,[13])] fun C9 jJ nO => ?_
    have m10:=aR jJ m9
    have b9:=gJ jJ b8 q
    refine bK M<|bK W<|bK M<|bK A<|bK M<|bK A<|Rp ((pf g m)) (fun _=>dz 1)<|bK M<|bK W<|Rp ((pf g s)) (fun _=>dz 1)<|Rs (aC ((gA (Sort.swp d a p)) m)) (aP m10.aK m) ?_
    refine Rs (aC ((gA (Sort.swp d a p)) s)) (aP m10.aK s) ?_
    refine Rp ((pf g s)) (fun _=>dz 1)<|gG<|kY m10 s (aC ((gA (Sort.swp d a p)) m)) fun w5 m11 s8 z3 => ?_
    have b10:=s8.below b9 (Nat.le_trans q b9.size) m10.blk.1
    refine Ln<|Rp ((pf g m)) (fun _=>dz 1)<|gG<|kY m11 m (aC ((gA (Sort.swp d a p)) s)) fun w6 m12 s9 z4 => ?_
    have b11:=s9.below b10 (Nat.le_trans q b10.size) m11.blk.1
    have m13:Fx.Own w6 B 29 1 (bJ g n cap) n (rv .u64 (gA (Sort.swp (Sort.swp d a p) s m))):=m12.congr (fu (dG Q _ _) (by omega) (by omega))
    refine Ln<|bG<|ay<|aZ W<|Lv (au ((s:Int)+1)) gV<|av (au ((s:Int)+1))<|aD<|ay<|aZ A<|Lv (au ((m:Int)-1)) jc<|av (au ((m:Int)-1))<|aD<|Ws<|Wb<|Wo (fun f t => ∃ i:Nat,∃ j:Nat,∃ k:Array Int,k.size=n/\Sort.partLoop Sort.ltInt a i j k=Sort.partLoop Sort.ltInt a (a+1) (b-1) (Sort.swp d a p)/\(a<i/\j<b/\i<=b)/\f 0=bJ g n cap/\f 1=au ((a:Int))/\f 2=au ((b:Int))/\f 10=au ((i:Int))/\f 11=au ((j:Int))/\Fx.Own t B 29 1 (bJ g n cap) n (rv .u64 (gA k))/\Below B w t) (fun f _=>((b:Int)-intOf (f 10)).toNat) ⟨s+1,m-1,Sort.swp (Sort.swp d a p) s m,(dG (dG Q _ _) _ _),((AA (by omega) (Z.resolve_left (by omega)) (of_decide_eq_true P)).trans Y),(by omega),M,(h7.trans Fx.ic),(h8.trans Fx.ic),Fx.ic,Fx.ic,m13,b11⟩ ?_
    rintro f3 w7 ⟨i,j,k,x,hX,hij,h11,h12,SN,OA,SQ,m14,b12⟩
    refine Wb<|Ws<|Wb<|Wo (fun f t => ∃ l:Nat,Sort.partLoop Sort.ltInt a l j k=Sort.partLoop Sort.ltInt a (a+1) (b-1) (Sort.swp d a p)/\(i<=l/\l<=b)/\f 0=bJ g n cap/\f 1=au ((a:Int))/\f 2=au ((b:Int))/\f 10=au ((l:Int))/\f 11=au ((j:Int))/\Fx.Own t B 29 1 (bJ g n cap) n (rv .u64 (gA k))/\Below B w t) (fun f _=>((b:Int)-intOf (f 10)).toNat) ⟨i,hX,(by omega),h11,(h12.trans Fx.ic),(SN.trans Fx.ic),(OA.trans Fx.ic),(SQ.trans Fx.ic),m14,b12⟩ ?_
    rintro f4 w8 ⟨l,X,YQ,h16,OB,h18,aa,h20,m15,b13⟩
    refine Ws<|Ws ?_
    -- region 13 draws
    refine kV<|eB aa<|eB h20 ?_
    by_cases KY:(l:Int)<=(j:Int)
    ·refine Qv aG (fun r o=>pK KY)<|bC aG<|eB h16<|eB aa<|Qv ((pf g l)) (fun r o=>dz 1)<|Qv (aC ((gA k) l)) (fun r o=>aP (m15.cb o) l)<|eB h16<|eB OB<|Qv ((pf g a)) (fun r o=>dz 1)<|Qv (aC ((gA k) a)) (fun r o=>aP (m15.cb o) a) ?_
     by_cases N:(decide ((gA k) l<(gA k) a))=true
     ·refine mK (fun _ _=>bY ((gA k) l) ((gA k) a) _) aG (by rw[N])<|bC aG<|Qn ?_
      intro YI yK
      have m16:=aR yK m15
      have b14:=gJ yK b13 q
      refine sN<|aQ<|Wk<|sN<|Wb<|Wl<|aZ aa<|Lv (au ((l:Int)+1)) gV<|av (au ((l:Int)+1))<|Ln<|dA<|iT ⟨l+1,((KT (by omega) (of_decide_eq_true N)).trans X),(by omega),h16,(OB.trans Fx.ic),(h18.trans Fx.ic),Fx.ic,(h20.trans Fx.ic),m16,b14⟩ ?_
      show((b:Int)-intOf ((au ((l:Int)+1)))).toNat<_
      simp only[aa,intOf]; omega
     rw[Bool.not_eq_true]at N
     refine mK (fun _ _=>bY ((gA k) l) ((gA k) a) _) aF (by rw[N])<|bC aF<|Qn ?_
     intro YJ yL
     have m17:=aR yL m15
     have b15:=gJ yL b13 q
     refine sN<|aN<|Wx<|cZ<|iE<|dh<|sN<|Ws<|Wb<|Wo (fun f t => ∃ c:Nat,Sort.partLoop Sort.ltInt a l c k=Sort.partLoop Sort.ltInt a (a+1) (b-1) (Sort.swp d a p)/\((c<l \/ ¬ gA k l<gA k a))/\(c<b/\c<=j)/\f 0=bJ g n cap/\f 1=au ((a:Int))/\f 2=au ((b:Int))/\f 10=au ((l:Int))/\f 11=au ((c:Int))/\Fx.Own t B 29 1 (bJ g n cap) n (rv .u64 (gA k))/\Below B w t) (fun f _=>(intOf (f 11)).toNat) ⟨j,X,(.inr (of_decide_eq_false N)),(by omega),h16,(OB.trans Fx.ic),(h18.trans Fx.ic),(aa.trans Fx.ic),(h20.trans Fx.ic),m17,b15⟩ ?_
     rintro f5 w9 ⟨c,y,z,SS,C,h22,h23,R,D,m18,b16⟩
     refine Ws<|Ws ?_
     -- region 15 draws
     refine kV<|eB R<|eB D ?_
     by_cases O:(l:Int)<=(c:Int)
     ·refine Qv aG (fun r o=>pK O)<|bC aG<|eB C<|eB D<|Qv ((pf g c)) (fun r o=>dz 1)<|Qv (aC ((gA k) c)) (fun r o=>aP (m18.cb o) c)<|eB C<|eB h22<|Qv ((pf g a)) (fun r o=>dz 1)<|Qv (aC ((gA k) a)) (fun r o=>aP (m18.cb o) a) ?_
      by_cases u:(decide ((gA k) c<(gA k) a))=true
      ·refine mK (fun _ _=>bY ((gA k) c) ((gA k) a) _) aG (by rw[u])<|bC aF<|bC aF<|Qn ?_
       intro wb6 DN
       have m19:=aR DN m18
       have b17:=gJ DN b16 q
       refine sN<|aN<|Wx<|cZ<|iE<|dh<|sN<|Ws<|ay<|aZ R<|aZ D<|Lv aF rU<|aD<|aN<|Wk<|sN<|Ws ?_
       -- region 18 draws
       refine jP [0,1,2,3,4,5,6,8,9,10,7,11,12,13,14,15] [0,0,0,0,0,0,0,4,0,0,0,4,0,3,0,3] [(13,7,[7]),(15,7,[7]),(13,11,[11]),(15,11,[11]),(14,13,[13]),(15,13,[13])] fun VL yM G7 => ?_
       have m20:=aR yM m19
       have b18:=gJ yM b17 q
       refine bK C<|bK R<|bK C<|bK D<|bK C<|bK D<|Rp ((pf g c)) (fun _=>dz 1)<|bK C<|bK R<|Rp ((pf g l)) (fun _=>dz 1)<|Rs (aC ((gA k) c)) (aP m20.aK c) ?_
       refine Rs (aC ((gA k) l)) (aP m20.aK l) ?_
       refine Rp ((pf g l)) (fun _=>dz 1)<|gG<|kY m20 l (aC ((gA k) c)) fun zI m21 SV z5 => ?_
       have b19:=SV.below b18 (Nat.le_trans q b18.size) m20.blk.1
       refine Ln<|Rp ((pf g c)) (fun _=>dz 1)<|gG<|kY m21 c (aC ((gA k) l)) fun N7 m22 s15 z6 => ?_
       have b20:=s15.below b19 (Nat.le_trans q b19.size) m21.blk.1
       have m23:Fx.Own N7 B 29 1 (bJ g n cap) n (rv .u64 (gA (Sort.swp k l c))):=m22.congr (fu x (by omega) (by omega))
       refine Ln<|bG<|ay<|aZ R<|Lv (au ((l:Int)+1)) gV<|av (au ((l:Int)+1))<|aD<|Wl<|aZ D<|Lv (au ((c:Int)-1)) jc<|av (au ((c:Int)-1))<|Ln<|dA<|iT ⟨l+1,c-1,Sort.swp k l c,(dG x _ _),((AA (by omega) (z.resolve_left (by omega)) (of_decide_eq_true u)).trans y),(by omega),C,(h22.trans Fx.ic),(h23.trans Fx.ic),Fx.ic,Fx.ic,m23,b20⟩ ?_
       show((b:Int)-intOf ((au ((l:Int)+1)))).toNat<_
       simp only[OA,intOf]; omega
      rw[Bool.not_eq_true]at u
      refine mK (fun _ _=>bY ((gA k) c) ((gA k) a) _) aF (by rw[u])<|bC aG<|bC aG<|Qn ?_
      intro wb7 DR
      have m24:=aR DR m18
      have YN:=gJ DR b16 q
      refine sN<|aQ<|Wk<|sN<|Wb<|Wl<|aZ D<|Lv (au ((c:Int)-1)) jc<|av (au ((c:Int)-1))<|Ln<|dA<|iT ⟨c-1,((Az (by omega) (by omega) (z.resolve_left (by omega)) (of_decide_eq_false u)).trans y),(z.elim (fun h => .inl (by omega)) .inr),(by omega),C,(h22.trans Fx.ic),(h23.trans Fx.ic),(R.trans Fx.ic),Fx.ic,m24,YN⟩ ?_
      show(intOf ((au ((c:Int)-1)))).toNat<_
      simp only[D,intOf]; omega
     refine Qv aF (fun r o=>qd O)<|bC aF<|aU<|aU<|aU<|aU<|aU<|aU<|aU<|aU<|aU<|aU<|bC aF<|Qn ?_
     intro wb8 DT
     have sD:=aR DT m18
     have YO:=gJ DT b16 q
     refine sN<|aN<|Wx<|cZ<|iE<|dh<|sN<|Ws<|ay<|aZ R<|aZ D<|Lv aG wz<|aD<|aQ<|Wx<|cZ<|Fx.Fe rfl<|iE<|dh<|sN<|Ws ?_
     -- region 21 draws
     refine jP [0,1,2,3,4,5,6,8,9,10,7,11,12,13,14,15] [0,0,0,0,0,0,0,4,0,0,0,4,0,3,0,3] [(13,7,[7]),(15,7,[7]),(13,11,[11]),(15,11,[11]),(14,13,[13]),(15,13,[13])] fun YR Hf QU => ?_
     have rM:=aR Hf sD
     have b23:=gJ Hf YO q
     refine bK C<|bK D<|bK C<|bK h22<|bK C<|bK h22<|Rp ((pf g a)) (fun _=>dz 1)<|bK C<|bK D<|Rp ((pf g c)) (fun _=>dz 1)<|Rs (aC ((gA k) a)) (aP rM.aK a) ?_
     refine Rs (aC ((gA k) c)) (aP rM.aK c) ?_
     refine Rp ((pf g c)) (fun _=>dz 1)<|gG<|kY rM c (aC ((gA k) a)) fun N8 sQ s19 z7 => ?_
     have b24:=s19.below b23 (Nat.le_trans q b23.size) rM.blk.1
     refine Ln<|Rp ((pf g a)) (fun _=>dz 1)<|gG<|kY sQ a (aC ((gA k) c)) fun SX uX s20 z8 => ?_
     have b25:=s20.below b24 (Nat.le_trans q b24.size) sQ.blk.1
     have tQ:Fx.Own SX B 29 1 (bJ g n cap) n (rv .u64 (gA (Sort.swp k c a))):=uX.congr (fu x (by omega) (by omega))
     refine Ln<|bG<|ay<|aZ D<|av (au c)<|av aF<|aD<|Wr<|aM (.tuple #[au ((c:Int)),.bool false]) ?_
     have v:=y.symm.trans (vF (by omega))
     exact⟨c,false,_,rfl,by rw[Sort.partition_fst,v],by rw[Sort.partition_arr,v],(dG x _ _),tQ,b25⟩
    refine Qv aF (fun r o=>qd KY)<|bC aF<|aU<|aU<|aU<|aU<|aU<|aU<|aU<|aU<|aU<|bC aF<|Qn ?_
    intro wb9 DU
    have uY:=aR DU m15
    have b26:=gJ DU b13 q
    refine sN<|aN<|Wx<|cZ<|iE<|dh<|sN<|Ws<|Wb<|Wo (fun f t => ∃ c:Nat,Sort.partLoop Sort.ltInt a l c k=Sort.partLoop Sort.ltInt a (a+1) (b-1) (Sort.swp d a p)/\((c<l \/ ¬ gA k l<gA k a))/\(c<b/\c<=j)/\f 0=bJ g n cap/\f 1=au ((a:Int))/\f 2=au ((b:Int))/\f 10=au ((l:Int))/\f 11=au ((c:Int))/\Fx.Own t B 29 1 (bJ g n cap) n (rv .u64 (gA k))/\Below B w t) (fun f _=>(intOf (f 11)).toNat) ⟨j,X,(.inl (by omega)),(by omega),h16,(OB.trans Fx.ic),(h18.trans Fx.ic),(aa.trans Fx.ic),(h20.trans Fx.ic),uY,b26⟩ ?_
    rintro f6 Vd ⟨c,y,z,SS,E,h27,XH,S,F,mP,YS⟩
    refine Ws<|Ws ?_
    -- region 15 draws
    refine kV<|eB S<|eB F ?_
    by_cases O:(l:Int)<=(c:Int)
    ·refine Qv aG (fun r o=>pK O)<|bC aG<|eB E<|eB F<|Qv ((pf g c)) (fun r o=>dz 1)<|Qv (aC ((gA k) c)) (fun r o=>aP (mP.cb o) c)<|eB E<|eB h27<|Qv ((pf g a)) (fun r o=>dz 1)<|Qv (aC ((gA k) a)) (fun r o=>aP (mP.cb o) a) ?_
     by_cases u:(decide ((gA k) c<(gA k) a))=true
     ·refine mK (fun _ _=>bY ((gA k) c) ((gA k) a) _) aG (by rw[u])<|bC aF<|bC aF<|Qn ?_
      intro aed KZ
      have m32:=aR KZ mP
      have b28:=gJ KZ YS q
      refine sN<|aN<|Wx<|cZ<|iE<|dh<|sN<|Ws<|ay<|aZ S<|aZ F<|Lv aF rU<|aD<|aN<|Wk<|sN<|Ws ?_
      -- region 18 draws
      refine jP [0,1,2,3,4,5,6,8,9,10,7,11,12,13,14,15] [0,0,0,0,0,0,0,4,0,0,0,4,0,3,0,3] [(13,7,[7]),(15,7,[7]),(13,11,[11]),(15,11,[11]),(14,13,[13]),(15,13,[13])] fun wt5 Hg VX => ?_
      have oK:=aR Hg m32
      have b29:=gJ Hg b28 q
      refine bK E<|bK S<|bK E<|bK F<|bK E<|bK F<|Rp ((pf g c)) (fun _=>dz 1)<|bK E<|bK S<|Rp ((pf g l)) (fun _=>dz 1)<|Rs (aC ((gA k) c)) (aP oK.aK c) ?_
      refine Rs (aC ((gA k) l)) (aP oK.aK l) ?_
      refine Rp ((pf g l)) (fun _=>dz 1)<|gG<|kY oK l (aC ((gA k) c)) fun VY nZ s24 z9 => ?_
      have b30:=s24.below b29 (Nat.le_trans q b29.size) oK.blk.1
      refine Ln<|Rp ((pf g c)) (fun _=>dz 1)<|gG<|kY nZ c (aC ((gA k) l)) fun w16 qP s25 YT => ?_
      have b31:=s25.below b30 (Nat.le_trans q b30.size) nZ.blk.1
      have qQ:Fx.Own w16 B 29 1 (bJ g n cap) n (rv .u64 (gA (Sort.swp k l c))):=qP.congr (fu x (by omega) (by omega))
      refine Ln<|bG<|ay<|aZ S<|Lv (au ((l:Int)+1)) gV<|av (au ((l:Int)+1))<|aD<|Wl<|aZ F<|Lv (au ((c:Int)-1)) jc<|av (au ((c:Int)-1))<|Ln<|dA<|iT ⟨l+1,c-1,Sort.swp k l c,(dG x _ _),((AA (by omega) (z.resolve_left (by omega)) (of_decide_eq_true u)).trans y),(by omega),E,(h27.trans Fx.ic),(XH.trans Fx.ic),Fx.ic,Fx.ic,qQ,b31⟩ ?_
      show((b:Int)-intOf ((au ((l:Int)+1)))).toNat<_
      simp only[OA,intOf]; omega
     rw[Bool.not_eq_true]at u
     refine mK (fun _ _=>bY ((gA k) c) ((gA k) a) _) aF (by rw[u])<|bC aG<|bC aG<|Qn ?_
     intro aei K3
     have vG:=aR K3 mP
     have b32:=gJ K3 YS q
     refine sN<|aQ<|Wk<|sN<|Wb<|Wl<|aZ F<|Lv (au ((c:Int)-1)) jc<|av (au ((c:Int)-1))<|Ln<|dA<|iT ⟨c-1,((Az (by omega) (by omega) (z.resolve_left (by omega)) (of_decide_eq_false u)).trans y),(z.elim (fun h => .inl (by omega)) .inr),(by omega),E,(h27.trans Fx.ic),(XH.trans Fx.ic),(S.trans Fx.ic),Fx.ic,vG,b32⟩ ?_
     show(intOf ((au ((c:Int)-1)))).toNat<_
     simp only[F,intOf]; omega
    refine Qv aF (fun r o=>qd O)<|bC aF<|aU<|aU<|aU<|aU<|aU<|aU<|aU<|aU<|aU<|aU<|bC aF<|Qn ?_
    intro aej K4
    have uo:=aR K4 mP
    have b33:=gJ K4 YS q
    refine sN<|aN<|Wx<|cZ<|iE<|dh<|sN<|Ws<|ay<|aZ S<|aZ F<|Lv aG wz<|aD<|aQ<|Wx<|cZ<|Fx.Fe rfl<|iE<|dh<|sN<|Ws ?_
    -- region 21 draws
    refine jP [0,1,2,3,4,5,6,8,9,10,7,11,12,13,14,15] [0,0,0,0,0,0,0,4,0,0,0,4,0,3,0,3] [(13,7,[7]),(15,7,[7]),(13,11,[11]),(15,11,[11]),(14,13,[13]),(15,13,[13])] fun wt6 QV acn => ?_
    have qR:=aR QV uo
    have b34:=gJ QV b33 q
    refine bK E<|bK F<|bK E<|bK h27<|bK E<|bK h27<|Rp ((pf g a)) (fun _=>dz 1)<|bK E<|bK F<|Rp ((pf g c)) (fun _=>dz 1)<|Rs (aC ((gA k) a)) (aP qR.aK a) ?_
    refine Rs (aC ((gA k) c)) (aP qR.aK c) ?_
    refine Rp ((pf g c)) (fun _=>dz 1)<|gG<|kY qR c (aC ((gA k) a)) fun XI wC s29 YU => ?_
    have b35:=s29.below b34 (Nat.le_trans q b34.size) qR.blk.1
    refine Ln<|Rp ((pf g a)) (fun _=>dz 1)<|gG<|kY wC a (aC ((gA k) c)) fun w18 qU s30 z12 => ?_
    have b36:=s30.below b35 (Nat.le_trans q b35.size) wC.blk.1
    have vH:Fx.Own w18 B 29 1 (bJ g n cap) n (rv .u64 (gA (Sort.swp k c a))):=qU.congr (fu x (by omega) (by omega))
    refine Ln<|bG<|ay<|aZ F<|av (au c)<|av aF<|aD<|Wr<|aM (.tuple #[au ((c:Int)),.bool false]) ?_
    have v:=y.symm.trans (vF (by omega))
    exact⟨c,false,_,rfl,by rw[Sort.partition_fst,v],by rw[Sort.partition_arr,v],(dG x _ _),vH,b36⟩
   rw[Bool.not_eq_true]at P
   refine mK (fun _ _=>bY ((gA (Sort.swp d a p)) m) ((gA (Sort.swp d a p)) a) _) aF (by rw[P])<|bC aG<|bC aG<|Qn ?_
   intro aep K5
   have qV:=aR K5 m8
   have b37:=gJ K5 b7 q
   refine sN<|aQ<|Wk<|sN<|Wb<|Wl<|aZ A<|Lv (au ((m:Int)-1)) jc<|av (au ((m:Int)-1))<|Ln<|dA<|iT ⟨m-1,((Az (by omega) (by omega) (Z.resolve_left (by omega)) (of_decide_eq_false P)).trans Y),(Z.elim (fun h => .inl (by omega)) .inr),(by omega),M,(h7.trans Fx.ic),(h8.trans Fx.ic),(W.trans Fx.ic),Fx.ic,qV,b37⟩ ?_
   show(intOf ((au ((m:Int)-1)))).toNat<_
   simp only[A,intOf]; omega
  refine Qv aF (fun r o=>qd VW)<|bC aF<|aU<|aU<|aU<|aU<|aU<|aU<|aU<|aU<|aU<|aU<|bC aF<|Qn ?_
  intro aes K6
  have rO:=aR K6 m8
  have b38:=gJ K6 b7 q
  refine sN<|aN<|Wx<|cZ<|iE<|dh<|sN<|Ws<|ay<|aZ W<|aZ A<|Lv aG wz<|aD<|aQ<|Ws ?_
  -- region 8 draws
  refine jP [0,1,2,3,4,5,6,8,9,10,7,11,12,13,14,15] [0,0,0,0,0,0,0,4,0,0,0,4,0,3,0,3] [(13,7,[7]),(15,7,[7]),(13,11,[11]),(15,11,[11]),(14,13,[13]),(15,13,[13])] fun wt7 QW acr => ?_
  have uq:=aR QW rO
  have b39:=gJ QW b38 q
  refine bK M<|bK A<|bK M<|bK h7<|bK M<|bK h7<|Rp ((pf g a)) (fun _=>dz 1)<|bK M<|bK A<|Rp ((pf g m)) (fun _=>dz 1)<|Rs (aC ((gA (Sort.swp d a p)) a)) (aP uq.aK a) ?_
  refine Rs (aC ((gA (Sort.swp d a p)) m)) (aP uq.aK m) ?_
  refine Rp ((pf g m)) (fun _=>dz 1)<|gG<|kY uq m (aC ((gA (Sort.swp d a p)) a)) fun w19 sF s34 z13 => ?_
  have b40:=s34.below b39 (Nat.le_trans q b39.size) uq.blk.1
  refine Ln<|Rp ((pf g a)) (fun _=>dz 1)<|gG<|kY sF a (aC ((gA (Sort.swp d a p)) m)) fun w20 wD s35 z14 => ?_
  have b41:=s35.below b40 (Nat.le_trans q b40.size) sF.blk.1
  have Ac:Fx.Own w20 B 29 1 (bJ g n cap) n (rv .u64 (gA (Sort.swp (Sort.swp d a p) m a))):=wD.congr (fu (dG Q _ _) (by omega) (by omega))
  refine Ln<|bG<|ay<|aZ A<|av (au m)<|av aG<|aD<|Wr<|sR<|aM (.tuple #[au ((m:Int)),.bool true]) ?_
  have v:=Y.symm.trans (vF (by omega))
  exact⟨m,true,_,rfl,by rw[Sort.partition_fst,v],by rw[Sort.partition_arr,v],(dG (dG Q _ _) _ _),Ac,b41⟩
 refine Qv aF (fun r o=>qd c32)<|bC aF<|aU<|aU<|aU<|aU<|aU<|aU<|aU<|aU<|aU<|bC aF<|Qn ?_
 intro aez K7
 have vI:=aR K7 m5
 have b42:=gJ K7 b4 q
 refine sN<|aN<|Wx<|cZ<|iE<|dh<|sN<|Ws<|Wb<|Wo (fun f t => ∃ m:Nat,Sort.partLoop Sort.ltInt a s m (Sort.swp d a p)=Sort.partLoop Sort.ltInt a (a+1) (b-1) (Sort.swp d a p)/\((m<s \/ ¬ gA (Sort.swp d a p) s<gA (Sort.swp d a p) a))/\(m<b/\m<=b)/\f 0=bJ g n cap/\f 1=au ((a:Int))/\f 2=au ((b:Int))/\f 10=au ((s:Int))/\f 11=au ((m:Int))/\Fx.Own t B 29 1 (bJ g n cap) n (rv .u64 (gA (Sort.swp d a p)))/\Below B w t) (fun f _=>(intOf (f 11)).toNat) ⟨b-1,hY0,(.inl (by omega)),(by omega),h1,(h2.trans Fx.ic),(h3.trans Fx.ic),(h4.trans Fx.ic),(h5.trans Fx.ic),vI,b42⟩ ?_
 rintro f7 w21 ⟨m,Y,Z,YP,G,h32,h33,T,H,uw,YV⟩
 refine Ws<|Ws ?_
 -- region 5 draws
 refine kV<|eB T<|eB H ?_
 by_cases VW:(s:Int)<=(m:Int)
 ·refine Qv aG (fun r o=>pK VW)<|bC aG<|eB G<|eB H<|Qv ((pf g m)) (fun r o=>dz 1)<|Qv (aC ((gA (Sort.swp d a p)) m)) (fun r o=>aP (uw.cb o) m)<|eB G<|eB h32<|Qv ((pf g a)) (fun r o=>dz 1)<|Qv (aC ((gA (Sort.swp d a p)) a)) (fun r o=>aP (uw.cb o) a) ?_
  by_cases P:(decide ((gA (Sort.swp d a p)) m<(gA (Sort.swp d a p)) a))=true
  ·refine mK (fun _ _=>bY ((gA (Sort.swp d a p)) m) ((gA (Sort.swp d a p)) a) _) aG (by rw[P])<|bC aF<|bC aF<|Qn ?_
   intro aeB K8
   have wZ:=aR K8 uw
   have b44:=gJ K8 YV q
   refine sN<|aN<|Wx<|cZ<|iE<|dh<|sN<|Ws<|ay<|aZ T<|aZ H<|Lv aF rU<|aD<|aN<|Wk<|sN<|Ws ?_
   -- region 10 draws
   refine jP [0,1,2,3,4,5,6,8,9,10,7,11,12,13,14,15] [0,0,0,0,0,0,0,4,0,0,0,4,0,3,0,3] [(13,7,[7]),(15,7,[7]),(13,11,[11]),(15,11,[11]),(14,13,[13]),(15,13,[13])] fun wt8 QX acw => ?_
   have wE:=aR QX wZ
   have b45:=gJ QX b44 q
   refine bK G<|bK T<|bK G<|bK H<|bK G<|bK H<|Rp ((pf g m)) (fun _=>dz 1)<|bK G<|bK T<|Rp ((pf g s)) (fun _=>dz 1)<|Rs (aC ((gA (Sort.swp d a p)) m)) (aP wE.aK m) ?_
   refine Rs (aC ((gA (Sort.swp d a p)) s)) (aP wE.aK s) ?_
   refine Rp ((pf g s)) (fun _=>dz 1)<|gG<|kY wE s (aC ((gA (Sort.swp d a p)) m)) fun w22 vJ s39 z15 => ?_
   have b46:=s39.below b45 (Nat.le_trans q b45.size) wE.blk.1
   refine Ln<|Rp ((pf g m)) (fun _=>dz 1)<|gG<|kY vJ m (aC ((gA (Sort.swp d a p)) s)) fun w23 Ad s40 z16 => ?_
   have b47:=s40.below b46 (Nat.le_trans q b46.size) vJ.blk.1
   have wF:Fx.Own w23 B 29 1 (bJ g n cap) n (rv .u64 (gA (Sort.swp (Sort.swp d a p) s m))):=Ad.congr (fu (dG Q _ _) (by omega) (by omega))
   refine Ln<|bG<|ay<|aZ T<|Lv (au ((s:Int)+1)) gV<|av (au ((s:Int)+1))<|aD<|ay<|aZ H<|Lv (au ((m:Int)-1)) jc<|av (au ((m:Int)-1))<|aD<|Ws<|Wb<|Wo (fun f t => ∃ i:Nat,∃ j:Nat,∃ k:Array Int,k.size=n/\Sort.partLoop Sort.ltInt a i j k=Sort.partLoop Sort.ltInt a (a+1) (b-1) (Sort.swp d a p)/\(a<i/\j<b/\i<=b)/\f 0=bJ g n cap/\f 1=au ((a:Int))/\f 2=au ((b:Int))/\f 10=au ((i:Int))/\f 11=au ((j:Int))/\Fx.Own t B 29 1 (bJ g n cap) n (rv .u64 (gA k))/\Below B w t) (fun f _=>((b:Int)-intOf (f 10)).toNat) ⟨s+1,m-1,Sort.swp (Sort.swp d a p) s m,(dG (dG Q _ _) _ _),((AA (by omega) (Z.resolve_left (by omega)) (of_decide_eq_true P)).trans Y),(by omega),G,(h32.trans Fx.ic),(h33.trans Fx.ic),Fx.ic,Fx.ic,wF,b47⟩ ?_
   rintro f8 w24 ⟨i,j,k,x,hX,hij,h36,h37,h38,YW,h40,uy,b48⟩
   refine Wb<|Ws<|Wb<|Wo (fun f t => ∃ l:Nat,Sort.partLoop Sort.ltInt a l j k=Sort.partLoop Sort.ltInt a (a+1) (b-1) (Sort.swp d a p)/\(i<=l/\l<=b)/\f 0=bJ g n cap/\f 1=au ((a:Int))/\f 2=au ((b:Int))/\f 10=au ((l:Int))/\f 11=au ((j:Int))/\Fx.Own t B 29 1 (bJ g n cap) n (rv .u64 (gA k))/\Below B w t) (fun f _=>((b:Int)-intOf (f 10)).toNat) ⟨i,hX,(by omega),h36,(h37.trans Fx.ic),(h38.trans Fx.ic),(YW.trans Fx.ic),(h40.trans Fx.ic),uy,b48⟩ ?_
   rintro f9 w25 ⟨l,X,YQ,VZ,XJ,h43,Ve,h45,sG,YX⟩
   refine Ws<|Ws ?_
   -- region 13 draws
   refine kV<|eB Ve<|eB h45 ?_
   by_cases KY:(l:Int)<=(j:Int)
   ·refine Qv aG (fun r o=>pK KY)<|bC aG<|eB VZ<|eB Ve<|Qv ((pf g l)) (fun r o=>dz 1)<|Qv (aC ((gA k) l)) (fun r o=>aP (sG.cb o) l)<|eB VZ<|eB XJ<|Qv ((pf g a)) (fun r o=>dz 1)<|Qv (aC ((gA k) a)) (fun r o=>aP (sG.cb o) a) ?_
    by_cases N:(decide ((gA k) l<(gA k) a))=true
    ·refine mK (fun _ _=>bY ((gA k) l) ((gA k) a) _) aG (by rw[N])<|bC aG<|Qn ?_
     intro aeL K9
     have uZ:=aR K9 sG
     have b50:=gJ K9 YX q
     refine sN<|aQ<|Wk<|sN<|Wb<|Wl<|aZ Ve<|Lv (au ((l:Int)+1)) gV<|av (au ((l:Int)+1))<|Ln<|dA<|iT ⟨l+1,((KT (by omega) (of_decide_eq_true N)).trans X),(by omega),VZ,(XJ.trans Fx.ic),(h43.trans Fx.ic),Fx.ic,(h45.trans Fx.ic),uZ,b50⟩ ?_
     show((b:Int)-intOf ((au ((l:Int)+1)))).toNat<_
     simp only[Ve,intOf]; omega
    rw[Bool.not_eq_true]at N
    refine mK (fun _ _=>bY ((gA k) l) ((gA k) a) _) aF (by rw[N])<|bC aF<|Qn ?_
    intro aeN La
    have zJ:=aR La sG
    have b51:=gJ La YX q
    refine sN<|aN<|Wx<|cZ<|iE<|dh<|sN<|Ws<|Wb<|Wo (fun f t => ∃ c:Nat,Sort.partLoop Sort.ltInt a l c k=Sort.partLoop Sort.ltInt a (a+1) (b-1) (Sort.swp d a p)/\((c<l \/ ¬ gA k l<gA k a))/\(c<b/\c<=j)/\f 0=bJ g n cap/\f 1=au ((a:Int))/\f 2=au ((b:Int))/\f 10=au ((l:Int))/\f 11=au ((c:Int))/\Fx.Own t B 29 1 (bJ g n cap) n (rv .u64 (gA k))/\Below B w t) (fun f _=>(intOf (f 11)).toNat) ⟨j,X,(.inr (of_decide_eq_false N)),(by omega),VZ,(XJ.trans Fx.ic),(h43.trans Fx.ic),(Ve.trans Fx.ic),(h45.trans Fx.ic),zJ,b51⟩ ?_
    rintro f10 w26 ⟨c,y,z,SS,I,h47,h48,U,J,pX,YZ⟩
    refine Ws<|Ws ?_
    -- region 15 draws
    refine kV<|eB U<|eB J ?_
    by_cases O:(l:Int)<=(c:Int)
    ·refine Qv aG (fun r o=>pK O)<|bC aG<|eB I<|eB J<|Qv ((pf g c)) (fun r o=>dz 1)<|Qv (aC ((gA k) c)) (fun r o=>aP (pX.cb o) c)<|eB I<|eB h47<|Qv ((pf g a)) (fun r o=>dz 1)<|Qv (aC ((gA k) a)) (fun r o=>aP (pX.cb o) a) ?_
     by_cases u:(decide ((gA k) c<(gA k) a))=true
     ·refine mK (fun _ _=>bY ((gA k) c) ((gA k) a) _) aG (by rw[u])<|bC aF<|bC aF<|Qn ?_
      intro aeP Lb
      have xg:=aR Lb pX
      have b53:=gJ Lb YZ q
      refine sN<|aN<|Wx<|cZ<|iE<|dh<|sN<|Ws<|ay<|aZ U<|aZ J<|Lv aF rU<|aD<|aN<|Wk<|sN<|Ws ?_
      -- region 18 draws
      refine jP [0,1,2,3,4,5,6,8,9,10,7,11,12,13,14,15] [0,0,0,0,0,0,0,4,0,0,0,4,0,3,0,3] [(13,7,[7]),(15,7,[7]),(13,11,[11]),(15,11,[11]),(14,13,[13]),(15,13,[13])] fun wt9 QY acA => ?_
      have qW:=aR QY xg
      have b54:=gJ QY b53 q
      refine bK I<|bK U<|bK I<|bK J<|bK I<|bK J<|Rp ((pf g c)) (fun _=>dz 1)<|bK I<|bK U<|Rp ((pf g l)) (fun _=>dz 1)<|Rs (aC ((gA k) c)) (aP qW.aK c) ?_
      refine Rs (aC ((gA k) l)) (aP qW.aK l) ?_
      refine Rp ((pf g l)) (fun _=>dz 1)<|gG<|kY qW l (aC ((gA k) c)) fun w27 zK s45 z17 => ?_
      have b55:=s45.below b54 (Nat.le_trans q b54.size) qW.blk.1
      refine Ln<|Rp ((pf g c)) (fun _=>dz 1)<|gG<|kY zK c (aC ((gA k) l)) fun w28 m64 s46 z18 => ?_
      have b56:=s46.below b55 (Nat.le_trans q b55.size) zK.blk.1
      have Cb:Fx.Own w28 B 29 1 (bJ g n cap) n (rv .u64 (gA (Sort.swp k l c))):=m64.congr (fu x (by omega) (by omega))
      refine Ln<|bG<|ay<|aZ U<|Lv (au ((l:Int)+1)) gV<|av (au ((l:Int)+1))<|aD<|Wl<|aZ J<|Lv (au ((c:Int)-1)) jc<|av (au ((c:Int)-1))<|Ln<|dA<|iT ⟨l+1,c-1,Sort.swp k l c,(dG x _ _),((AA (by omega) (z.resolve_left (by omega)) (of_decide_eq_true u)).trans y),(by omega),I,(h47.trans Fx.ic),(h48.trans Fx.ic),Fx.ic,Fx.ic,Cb,b56⟩ ?_
      show((b:Int)-intOf ((au ((l:Int)+1)))).toNat<_
      simp only[YW,intOf]; omega
     rw[Bool.not_eq_true]at u
     refine mK (fun _ _=>bY ((gA k) c) ((gA k) a) _) aF (by rw[u])<|bC aG<|bC aG<|Qn ?_
     intro aeV Lc
     have Cc:=aR Lc pX
     have b57:=gJ Lc YZ q
     refine sN<|aQ<|Wk<|sN<|Wb<|Wl<|aZ J<|Lv (au ((c:Int)-1)) jc<|av (au ((c:Int)-1))<|Ln<|dA<|iT ⟨c-1,((Az (by omega) (by omega) (z.resolve_left (by omega)) (of_decide_eq_false u)).trans y),(z.elim (fun h => .inl (by omega)) .inr),(by omega),I,(h47.trans Fx.ic),(h48.trans Fx.ic),(U.trans Fx.ic),Fx.ic,Cc,b57⟩ ?_
     show(intOf ((au ((c:Int)-1)))).toNat<_
     simp only[J,intOf]; omega
    refine Qv aF (fun r o=>qd O)<|bC aF<|aU<|aU<|aU<|aU<|aU<|aU<|aU<|aU<|aU<|aU<|bC aF<|Qn ?_
    intro aeX Ld
    have yN:=aR Ld pX
    have b58:=gJ Ld YZ q
    refine sN<|aN<|Wx<|cZ<|iE<|dh<|sN<|Ws<|ay<|aZ U<|aZ J<|Lv aG wz<|aD<|aQ<|Wx<|cZ<|Fx.Fe rfl<|iE<|dh<|sN<|Ws ?_
    -- region 21 draws
    refine jP [0,1,2,3,4,5,6,8,9,10,7,11,12,13,14,15] [0,0,0,0,0,0,0,4,0,0,0,4,0,3,0,3] [(13,7,[7]),(15,7,[7]),(13,11,[11]),(15,11,[11]),(14,13,[13]),(15,13,[13])] fun aeZ Le Y0 => ?_
    have AB:=aR Le yN
    have b59:=gJ Le b58 q
    refine bK I<|bK J<|bK I<|bK h47<|bK I<|bK h47<|Rp ((pf g a)) (fun _=>dz 1)<|bK I<|bK J<|Rp ((pf g c)) (fun _=>dz 1)<|Rs (aC ((gA k) a)) (aP AB.aK a) ?_
    refine Rs (aC ((gA k) c)) (aP AB.aK c) ?_
    refine Rp ((pf g c)) (fun _=>dz 1)<|gG<|kY AB c (aC ((gA k) a)) fun w29 xk s50 z19 => ?_
    have b60:=s50.below b59 (Nat.le_trans q b59.size) AB.blk.1
    refine Ln<|Rp ((pf g a)) (fun _=>dz 1)<|gG<|kY xk a (aC ((gA k) c)) fun w30 AJ s51 z20 => ?_
    have b61:=s51.below b60 (Nat.le_trans q b60.size) xk.blk.1
    have xq:Fx.Own w30 B 29 1 (bJ g n cap) n (rv .u64 (gA (Sort.swp k c a))):=AJ.congr (fu x (by omega) (by omega))
    refine Ln<|bG<|ay<|aZ J<|av (au c)<|av aF<|aD<|Wr<|aM (.tuple #[au ((c:Int)),.bool false]) ?_
    have v:=y.symm.trans (vF (by omega))
    exact⟨c,false,_,rfl,by rw[Sort.partition_fst,v],by rw[Sort.partition_arr,v],(dG x _ _),xq,b61⟩
   refine Qv aF (fun r o=>qd KY)<|bC aF<|aU<|aU<|aU<|aU<|aU<|aU<|aU<|aU<|aU<|bC aF<|Qn ?_
   intro afe Lf
   have Ae:=aR Lf sG
   have b62:=gJ Lf YX q
   refine sN<|aN<|Wx<|cZ<|iE<|dh<|sN<|Ws<|Wb<|Wo (fun f t => ∃ c:Nat,Sort.partLoop Sort.ltInt a l c k=Sort.partLoop Sort.ltInt a (a+1) (b-1) (Sort.swp d a p)/\((c<l \/ ¬ gA k l<gA k a))/\(c<b/\c<=j)/\f 0=bJ g n cap/\f 1=au ((a:Int))/\f 2=au ((b:Int))/\f 10=au ((l:Int))/\f 11=au ((c:Int))/\Fx.Own t B 29 1 (bJ g n cap) n (rv .u64 (gA k))/\Below B w t) (fun f _=>(intOf (f 11)).toNat) ⟨j,X,(.inl (by omega)),(by omega),VZ,(XJ.trans Fx.ic),(h43.trans Fx.ic),(Ve.trans Fx.ic),(h45.trans Fx.ic),Ae,b62⟩ ?_
   rintro f11 w31 ⟨c,y,z,SS,K,V3,h53,V,L,yO,Y1⟩
   refine Ws<|Ws ?_
   -- region 15 draws
   refine kV<|eB V<|eB L ?_
   by_cases O:(l:Int)<=(c:Int)
   ·refine Qv aG (fun r o=>pK O)<|bC aG<|eB K<|eB L<|Qv ((pf g c)) (fun r o=>dz 1)<|Qv (aC ((gA k) c)) (fun r o=>aP (yO.cb o) c)<|eB K<|eB V3<|Qv ((pf g a)) (fun r o=>dz 1)<|Qv (aC ((gA k) a)) (fun r o=>aP (yO.cb o) a) ?_
    by_cases u:(decide ((gA k) c<(gA k) a))=true
    ·refine mK (fun _ _=>bY ((gA k) c) ((gA k) a) _) aG (by rw[u])<|bC aF<|bC aF<|Qn ?_
     intro afg Lg
     have FD:=aR Lg yO
     have b64:=gJ Lg Y1 q
     refine sN<|aN<|Wx<|cZ<|iE<|dh<|sN<|Ws<|ay<|aZ V<|aZ L<|Lv aF rU<|aD<|aN<|Wk<|sN<|Ws ?_
     -- region 18 draws
     refine jP [0,1,2,3,4,5,6,8,9,10,7,11,12,13,14,15] [0,0,0,0,0,0,0,4,0,0,0,4,0,3,0,3] [(13,7,[7]),(15,7,[7]),(13,11,[11]),(15,11,[11]),(14,13,[13]),(15,13,[13])] fun afh Lh Y2 => ?_
     have zL:=aR Lh FD
     have b65:=gJ Lh b64 q
     refine bK K<|bK V<|bK K<|bK L<|bK K<|bK L<|Rp ((pf g c)) (fun _=>dz 1)<|bK K<|bK V<|Rp ((pf g l)) (fun _=>dz 1)<|Rs (aC ((gA k) c)) (aP zL.aK c) ?_
     refine Rs (aC ((gA k) l)) (aP zL.aK l) ?_
     refine Rp ((pf g l)) (fun _=>dz 1)<|gG<|kY zL l (aC ((gA k) c)) fun w32 DV s55 z21 => ?_
     have b66:=s55.below b65 (Nat.le_trans q b65.size) zL.blk.1
     refine Ln<|Rp ((pf g c)) (fun _=>dz 1)<|gG<|kY DV c (aC ((gA k) l)) fun w33 FE s56 z22 => ?_
     have b67:=s56.below b66 (Nat.le_trans q b66.size) DV.blk.1
     have EW:Fx.Own w33 B 29 1 (bJ g n cap) n (rv .u64 (gA (Sort.swp k l c))):=FE.congr (fu x (by omega) (by omega))
     refine Ln<|bG<|ay<|aZ V<|Lv (au ((l:Int)+1)) gV<|av (au ((l:Int)+1))<|aD<|Wl<|aZ L<|Lv (au ((c:Int)-1)) jc<|av (au ((c:Int)-1))<|Ln<|dA<|iT ⟨l+1,c-1,Sort.swp k l c,(dG x _ _),((AA (by omega) (z.resolve_left (by omega)) (of_decide_eq_true u)).trans y),(by omega),K,(V3.trans Fx.ic),(h53.trans Fx.ic),Fx.ic,Fx.ic,EW,b67⟩ ?_
     show((b:Int)-intOf ((au ((l:Int)+1)))).toNat<_
     simp only[YW,intOf]; omega
    rw[Bool.not_eq_true]at u
    refine mK (fun _ _=>bY ((gA k) c) ((gA k) a) _) aF (by rw[u])<|bC aG<|bC aG<|Qn ?_
    intro afm Li
    have Da:=aR Li yO
    have b68:=gJ Li Y1 q
    refine sN<|aQ<|Wk<|sN<|Wb<|Wl<|aZ L<|Lv (au ((c:Int)-1)) jc<|av (au ((c:Int)-1))<|Ln<|dA<|iT ⟨c-1,((Az (by omega) (by omega) (z.resolve_left (by omega)) (of_decide_eq_false u)).trans y),(z.elim (fun h => .inl (by omega)) .inr),(by omega),K,(V3.trans Fx.ic),(h53.trans Fx.ic),(V.trans Fx.ic),Fx.ic,Da,b68⟩ ?_
    show(intOf ((au ((c:Int)-1)))).toNat<_
    simp only[L,intOf]; omega
   refine Qv aF (fun r o=>qd O)<|bC aF<|aU<|aU<|aU<|aU<|aU<|aU<|aU<|aU<|aU<|aU<|bC aF<|Qn ?_
   intro afo Lj
   have Af:=aR Lj yO
   have b69:=gJ Lj Y1 q
   refine sN<|aN<|Wx<|cZ<|iE<|dh<|sN<|Ws<|ay<|aZ V<|aZ L<|Lv aG wz<|aD<|aQ<|Wx<|cZ<|Fx.Fe rfl<|iE<|dh<|sN<|Ws ?_
   -- region 21 draws
   refine jP [0,1,2,3,4,5,6,8,9,10,7,11,12,13,14,15] [0,0,0,0,0,0,0,4,0,0,0,4,0,3,0,3] [(13,7,[7]),(15,7,[7]),(13,11,[11]),(15,11,[11]),(14,13,[13]),(15,13,[13])] fun afq Ll Y3 => ?_
   have zM:=aR Ll Af
   have b70:=gJ Ll b69 q
   refine bK K<|bK L<|bK K<|bK V3<|bK K<|bK V3<|Rp ((pf g a)) (fun _=>dz 1)<|bK K<|bK L<|Rp ((pf g c)) (fun _=>dz 1)<|Rs (aC ((gA k) a)) (aP zM.aK a) ?_
   refine Rs (aC ((gA k) c)) (aP zM.aK c) ?_
   refine Rp ((pf g c)) (fun _=>dz 1)<|gG<|kY zM c (aC ((gA k) a)) fun w34 Ce s60 z23 => ?_
   have b71:=s60.below b70 (Nat.le_trans q b70.size) zM.blk.1
   refine Ln<|Rp ((pf g a)) (fun _=>dz 1)<|gG<|kY Ce a (aC ((gA k) c)) fun w35 FH s61 z24 => ?_
   have b72:=s61.below b71 (Nat.le_trans q b71.size) Ce.blk.1
   have Hl:Fx.Own w35 B 29 1 (bJ g n cap) n (rv .u64 (gA (Sort.swp k c a))):=FH.congr (fu x (by omega) (by omega))
   refine Ln<|bG<|ay<|aZ L<|av (au c)<|av aF<|aD<|Wr<|aM (.tuple #[au ((c:Int)),.bool false]) ?_
   have v:=y.symm.trans (vF (by omega))
   exact⟨c,false,_,rfl,by rw[Sort.partition_fst,v],by rw[Sort.partition_arr,v],(dG x _ _),Hl,b72⟩
  rw[Bool.not_eq_true]at P
  refine mK (fun _ _=>bY ((gA (Sort.swp d a p)) m) ((gA (Sort.swp d a p)) a) _) aF (by rw[P])<|bC aG<|bC aG<|Qn ?_
  intro afv Lm
  have Jh:=aR Lm uw
  have b73:=gJ Lm YV q
  refine sN<|aQ<|Wk<|sN<|Wb<|Wl<|aZ H<|Lv (au ((m:Int)-1)) jc<|av (au ((m:Int)-1))<|Ln<|dA<|iT ⟨m-1,((Az (by omega) (by omega) (Z.resolve_left (by omega)) (of_decide_eq_false P)).trans Y),(Z.elim (fun h => .inl (by omega)) .inr),(by omega),G,(h32.trans Fx.ic),(h33.trans Fx.ic),(T.trans Fx.ic),Fx.ic,Jh,b73⟩ ?_
  show(intOf ((au ((m:Int)-1)))).toNat<_
  simp only[H,intOf]; omega
 refine Qv aF (fun r o=>qd VW)<|bC aF<|aU<|aU<|aU<|aU<|aU<|aU<|aU<|aU<|aU<|aU<|bC aF<|Qn ?_
 intro afx Lp
 have JY:=aR Lp uw
 have b74:=gJ Lp YV q
 refine sN<|aN<|Wx<|cZ<|iE<|dh<|sN<|Ws<|ay<|aZ T<|aZ H<|Lv aG wz<|aD<|aQ<|Ws ?_
 -- region 8 draws
 refine jP [0,1,2,3,4,5,6,8,9,10,7,11,12,13,14,15] [0,0,0,0,0,0,0,4,0,0,0,4,0,3,0,3] [(13,7,[7]),(15,7,[7]),(13,11,[11]),(15,11,[11]),(14,13,[13]),(15,13,[13])] fun afz Lr Y4 => ?_
 have EX:=aR Lr JY
 have b75:=gJ Lr b74 q
 refine bK G<|bK H<|bK G<|bK h32<|bK G<|bK h32<|Rp ((pf g a)) (fun _=>dz 1)<|bK G<|bK H<|Rp ((pf g m)) (fun _=>dz 1)<|Rs (aC ((gA (Sort.swp d a p)) a)) (aP EX.aK a) ?_
 refine Rs (aC ((gA (Sort.swp d a p)) m)) (aP EX.aK m) ?_
 refine Rp ((pf g m)) (fun _=>dz 1)<|gG<|kY EX m (aC ((gA (Sort.swp d a p)) a)) fun w36 Ho s65 z25 => ?_
 have b76:=s65.below b75 (Nat.le_trans q b75.size) EX.blk.1
 refine Ln<|Rp ((pf g a)) (fun _=>dz 1)<|gG<|kY Ho a (aC ((gA (Sort.swp d a p)) m)) fun w37 Ji s66 z26 => ?_
 have b77:=s66.below b76 (Nat.le_trans q b76.size) Ho.blk.1
 have Hq:Fx.Own w37 B 29 1 (bJ g n cap) n (rv .u64 (gA (Sort.swp (Sort.swp d a p) m a))):=Ji.congr (fu (dG Q _ _) (by omega) (by omega))
 refine Ln<|bG<|ay<|aZ H<|av (au m)<|av aG<|aD<|Wr<|sR<|aM (.tuple #[au ((m:Int)),.bool true]) ?_
 have v:=Y.symm.trans (vF (by omega))
 exact⟨m,true,_,rfl,by rw[Sort.partition_fst,v],by rw[Sort.partition_arr,v],(dG (dG Q _ _) _ _),Hq,b77⟩
end
section
open Rt
set_option maxRecDepth 10000
theorem SY{c f:Int}(a b:Nat)(i:c=(a:Int))(j:f=(b:Int))(B g n cap:Nat)(d:Array Int)(w:World)(h:Fx.Own w B 29 1 (bJ g n cap) n (rv .u64 (gA d)))(k:B<=w.heap.size)(m:d.size=n)(o:n<=1000)(ha:a<=b)(l:b<=n) :
 Calls Tryd.prog 72 #[bJ g n cap,au c,au f] w fun e w'=>e = .returned (.tuple #[])/\Fx.Own w' B 29 1 (bJ g n cap) n (rv .u64 (gA (Sort.insertionSort Sort.ltInt d a b)))/\Below B w w':=by
 subst i j; exact VH a b B g n cap d w h k m o ha l
theorem OC{c f:Int}(a b:Nat)(i:c=(a:Int))(j:f=(b:Int))(B g n cap:Nat)(d:Array Int)(w:World)(h:Fx.Own w B 29 1 (bJ g n cap) n (rv .u64 (gA d)))(k:B<=w.heap.size)(m:d.size=n)(o:n<=1000)(ha:a<b)(l:b<=n) :
 Calls Tryd.prog 73 #[bJ g n cap,au c,au f] w fun e w'=>e = .returned (.tuple #[])/\Fx.Own w' B 29 1 (bJ g n cap) n (rv .u64 (gA (Sort.heapSort Sort.ltInt d a b)))/\Below B w w':=by
 subst i j; exact SE a b B g n cap d w h k m o ha l
theorem S9{c f:Int}(a b:Nat)(i:c=(a:Int))(j:f=(b:Int))(B g n cap:Nat)(d:Array Int)(w:World)(h:Fx.Own w B 29 1 (bJ g n cap) n (rv .u64 (gA d)))(k:B<=w.heap.size)(m:d.size=n)(o:n<=1000)(ha:a<b)(l:b<=n) :
 Calls Tryd.prog 76 #[bJ g n cap,au c,au f] w fun e w'=>e = .returned (.tuple #[])/\Fx.Own w' B 29 1 (bJ g n cap) n (rv .u64 (gA (Sort.reverseRange d a b)))/\Below B w w':=by
 subst i j; exact VN a b B g n cap d w h k m o ha l
def QZ(m:Nat):Prop := ∀(i j k:Int) (a b l:Nat) (B g n f:Nat) (d:Array Int) (w:World) (h:Fx.Own w B 29 1 (bJ g n f) n (rv .u64 (gA d))) (hB:B<=w.heap.size) (hn:d.size=n) (hs:n<=1000) (h50:n<50) (hl:l<=1000) (hab:a<=b) (hb:b<=n) (hBel:Sort.Below Sort.ltInt a b d),i=(a:Int)->j=(b:Int)->k=(l:Int)->b-a<m ->
    Calls Tryd.prog 61 #[bJ g n f,au i,au j,au k] w fun e w' => ∃ c:Array Int,e = .returned (.tuple #[])/\c.size=n/\Sort.PermIn a b d c/\Sort.SortedIn Sort.ltInt a b c/\Fx.Own w' B 29 1 (bJ g n f) n (rv .u64 (gA c))/\Below B w w'
theorem Ta(m:Nat)(ih:QZ m)(a b lim:Nat)(B g n cap:Nat)(d:Array Int)(w:World)(h:Fx.Own w B 29 1 (bJ g n cap) n (rv .u64 (gA d)))(r:B<=w.heap.size)(hn:d.size=n)(x:n<=1000)(V:n<50)(hl:lim<=1000)(hab:a<=b)(hb:b<=n)(hBel:Sort.Below Sort.ltInt a b d)(hm:b-a<m+1) :
 Calls Tryd.prog 61 #[bJ g n cap,au ((a:Int)),au ((b:Int)),au ((lim:Int))] w fun e w' => ∃ d2:Array Int,e = .returned (.tuple #[])/\d2.size=n/\Sort.PermIn a b d d2/\Sort.SortedIn Sort.ltInt a b d2/\Fx.Own w' B 29 1 (bJ g n cap) n (rv .u64 (gA d2))/\Below B w w':=by
 refine Kent Tryd.func61 134 ?_
 refine ay<|av aG<|aD<|ay<|av aG<|aD<|Wb<|yE (fun kk f A => ∃ c:Nat,∃ i:Nat,∃ N:Nat,∃ v:Array Int,∃ O:Bool,∃ wp:Bool,v.size=n/\Sort.Below Sort.ltInt c i v/\(∀ R,Sort.PermIn c i v R->Sort.SortedIn Sort.ltInt c i R->Sort.PermIn a b d R/\Sort.SortedIn Sort.ltInt a b R)/\(c<=i/\i<=n/\N<=1000/\i-c<=b-a)/\kk=i-c/\f 0=bJ g n cap/\f 1=au ((c:Int))/\f 2=au ((i:Int))/\f 3=au ((N:Int))/\f 8 = .bool O/\f 9 = .bool wp/\Fx.Own A B 29 1 (bJ g n cap) n (rv .u64 (gA v))/\Below B w A) (b-a) ⟨a,b,lim,d,true,true,hn,hBel,(fun R U J=>⟨U,J⟩),(by omega),rfl,(by rfl),Fx.ic,Fx.ic,Fx.ic,(by rfl),(by rfl),h,(Below.refl B w)⟩ ?_
 rintro kk f1 w1 ⟨c,i,N,v,O,wp,hk,hBl,K,afE,hkk,U,J,h3,h4,h5,h6,m1,S⟩
 refine Wb<|ay<|aZ h3<|aZ J<|Lv (au ((i:Int)-(c:Int))) jc<|av (au ((i:Int)-(c:Int)))<|aD<|Ws<|ay<|av (au ((i:Int)-(c:Int))) ?_
 by_cases c23:((i:Int)-(c:Int))<=12
 ·refine Lv aG (pK c23)<|aD<|aQ<|ay<|aZ U<|aZ J<|aZ h3<|fC (SY c i (by omega) (by omega) B g n cap v _ m1 (Nat.le_trans r S.size) hk x (by omega) (by omega)) (ax := #[bJ g n cap,au ((c:Int)),au ((i:Int))]) _ rfl ?_
  rintro w2 ⟨m2,hb1⟩
  have b2:=S.trans hb1
  refine aD (Wr (sR (bX (qL (bX (⟨.tuple #[],fM Tryd.results61,?_⟩))))))
  have Y:=(Sort.insertionSort_holds Sort.swo_ltInt v c i (by omega) (by omega))
  have M:=K _ Y.1 Y.2
  exact⟨_,rfl,Y.1.1.trans hk,M.1,M.2,m2,b2⟩
 refine Lv aF (qd c23)<|aD<|aN<|Wk<|sN<|Ws<|ay<|aZ h4 ?_
 by_cases c29:(N:Int)=0
 ·refine Lv aG (gT c29)<|aD<|aQ<|ay<|aZ U<|aZ J<|aZ h3<|fC (OC c i (by omega) (by omega) B g n cap v _ m1 (Nat.le_trans r S.size) hk x (by omega) (by omega)) (ax := #[bJ g n cap,au ((c:Int)),au ((i:Int))]) _ rfl ?_
  rintro w3 ⟨m3,hb2⟩
  have b3:=S.trans hb2
  refine aD (Wr (sR (bX (qL (bX (⟨.tuple #[],fM Tryd.results61,?_⟩))))))
  have Y:=(Sort.heapSort_holds Sort.swo_ltInt v c i (by omega) (by omega))
  have M:=K _ Y.1 Y.2
  exact⟨_,rfl,Y.1.1.trans hk,M.1,M.2,m3,b3⟩
 refine Lv aF (jm c29)<|aD<|aN<|Wk<|sN<|yF (fun f A => ∃ p:Nat,∃ I:Array Int,I.size=n/\Sort.PermIn c i v I/\p<=1000/\f 0=bJ g n cap/\f 1=au ((c:Int))/\f 2=au ((i:Int))/\f 3=au ((p:Int))/\f 8 = .bool O/\f 9 = .bool wp/\f 10=au ((i:Int)-(c:Int))/\Fx.Own A B 29 1 (bJ g n cap) n (rv .u64 (gA I))/\Below B w A) ?_ ?_
 ·refine ay ?_
  by_cases c34:O=true
  ·refine aZ (h5.trans (congrArg Value.bool c34))<|av aF<|aD<|aN<|Wk ?_
   exact pV ⟨N,v,hk,(Sort.permIn_refl _ _ _),(by omega),U,(J.trans Fx.ic),(h3.trans Fx.ic),(h4.trans Fx.ic),h5,h6,Fx.ic,m1,S⟩
  rw[Bool.not_eq_true]at c34
  refine aZ (h5.trans (congrArg Value.bool c34))<|av aG<|aD<|aQ<|ay<|aZ U<|aZ J<|aZ h3<|ko (VQ c i B g n cap v _ m1 (Nat.le_trans r S.size) hk x (by omega) (by omega) V) ?_
  rintro D w4 ⟨dn1,l,hz1,hP1,m4,hb3⟩
  have b4:=S.trans hb3
  refine⟨_,l,?_⟩
  clear l
  refine aD<|Wl<|aZ h4<|Lv (au ((N:Int)-1)) jc<|av (au ((N:Int)-1))<|Ln ?_
  exact pV ⟨N-1,dn1,hz1,hP1,(by omega),U,(J.trans Fx.ic),(h3.trans Fx.ic),Fx.ic,h5,h6,Fx.ic,m4,b4⟩
 rintro f2 w5 ⟨p,I,hk1,hP1,hl2,h7,h8,h9,h10,h11,h12,SN,m5,b5⟩
 refine ay<|aZ h7<|aZ h8<|aZ h9<|ko (VT c i B g n cap I _ m5 (Nat.le_trans r b5.size) hk1 x (by omega) (by omega) V) ?_
 rintro D w6 ⟨H,ht1,l,hu1,G,m6,hb4⟩
 have b6:=b5.trans hb4
 refine⟨_,l,?_⟩
 clear l
 refine av (.tuple #[au ((H:Int)),au ht1])<|av (au H)<|av (au ht1)<|av (au H)<|av (au ht1)<|aD<|yF (fun f A => ∃ q:Nat,∃ hint:Int,∃ o:Array Int,o.size=n/\Sort.PermIn c i v o/\(c<=q/\q<i)/\f 0=bJ g n cap/\f 1=au ((c:Int))/\f 2=au ((i:Int))/\f 3=au ((p:Int))/\f 8 = .bool O/\f 9 = .bool wp/\f 10=au ((i:Int)-(c:Int))/\f 11=au ((q:Int))/\f 12=au hint/\Fx.Own A B 29 1 (bJ g n cap) n (rv .u64 (gA o))/\Below B w A) ?_ ?_
 ·refine ay<|av (au ht1) ?_
  by_cases c50:ht1=2
  ·refine Lv aG (gT c50)<|aD<|aQ<|ay<|aZ h7<|aZ h8<|aZ h9<|fC (S9 c i (by omega) (by omega) B g n cap I _ m6 (Nat.le_trans r b6.size) hk1 x (by omega) (by omega)) (ax := #[bJ g n cap,au ((c:Int)),au ((i:Int))]) _ rfl ?_
   rintro w7 ⟨m7,hb5⟩
   have b7:=b6.trans hb5
   refine aD<|ay<|aZ h9<|Lv (au ((i:Int)-1)) jc<|av (au H)<|aZ h8<|Lv (au ((H:Int)-(c:Int))) jc<|Lv (au ((c:Int)+(i:Int)-(H:Int)-1)) jc<|av (au ((c:Int)+(i:Int)-(H:Int)-1))<|aD<|Wl<|av (au 1)<|Ln ?_
   exact pV ⟨c+i-H-1,1,Sort.reverseRange I c i,((Sort.reverseRange_holds _ _ _ (by omega) (by omega)).1.trans hk1),(Sort.permIn_trans _ _ _ _ _ hP1 (Sort.reverseRange_holds _ _ _ (by omega) (by omega))),(by omega),h7,(h8.trans Fx.ic),(h9.trans Fx.ic),(h10.trans Fx.ic),h11,h12,(SN.trans Fx.ic),Fx.ic,Fx.ic,m7,b7⟩
  refine Lv aF (jm c50)<|aD<|aN<|Wk ?_
  exact pV ⟨H,ht1,I,hk1,hP1,(by omega),h7,(h8.trans Fx.ic),(h9.trans Fx.ic),(h10.trans Fx.ic),h11,h12,(SN.trans Fx.ic),Fx.ic,Fx.ic,m6,b6⟩
 rintro f3 w8 ⟨q,hint,o,hk2,F,L,OA,SQ,h16,OB,h18,h19,h20,h21,h22,m8,b8⟩
 obtain⟨hpv1,hpv2⟩:=L
 have L:=And.intro hpv1 hpv2
 refine yF (fun f A=>f 0=bJ g n cap/\f 1=au ((c:Int))/\f 2=au ((i:Int))/\f 3=au ((p:Int))/\f 8 = .bool O/\f 9 = .bool wp/\f 10=au ((i:Int)-(c:Int))/\f 11=au ((q:Int))/\Fx.Own A B 29 1 (bJ g n cap) n (rv .u64 (gA o))/\Below B w A) ?_ ?_
 ·refine ay ?_
  by_cases Y5:O=true
  ·refine aZ (h18.trans (congrArg Value.bool Y5))<|av aG ?_
   by_cases Y6:wp=true
   ·refine aZ (h19.trans (congrArg Value.bool Y6))<|av aG<|av aG<|aZ h22 ?_
    by_cases c67:hint=1
    ·refine Lv aG (gT c67)<|av aG<|aD<|aQ<|ay<|aZ OA<|aZ SQ<|aZ h16<|ko (SL c i B g n cap o _ m8 (Nat.le_trans r b8.size) hk2 x (by omega) (by omega) V) ?_
     rintro D w9 ⟨r1,l,hS1,m9,hb6⟩
     have b9:=b8.trans hb6
     rcases r1 with _|_
     ·refine⟨_,l,?_⟩
      clear l
      refine aD<|aN<|Wk ?_
      exact pV ⟨OA,(SQ.trans Fx.ic),(h16.trans Fx.ic),(OB.trans Fx.ic),h18,h19,(h20.trans Fx.ic),(h21.trans Fx.ic),m9,b9⟩
     refine⟨_,l,?_⟩
     clear l
     refine aD (aQ (Wr (Fx.YC (bX (qL (bX (⟨.tuple #[],fM Tryd.results61,?_⟩)))))))
     have M:=K _ F (hS1 rfl)
     exact⟨_,rfl,hk2,M.1,M.2,m9,b9⟩
    refine Lv aF (jm c67)<|av aF<|aD<|aN<|Wk ?_
    exact pV ⟨OA,(SQ.trans Fx.ic),(h16.trans Fx.ic),(OB.trans Fx.ic),h18,h19,(h20.trans Fx.ic),(h21.trans Fx.ic),m8,b8⟩
   rw[Bool.not_eq_true]at Y6
   refine aZ (h19.trans (congrArg Value.bool Y6))<|av aF<|av aF<|dL<|dL<|av aF<|aD<|aN<|Wk ?_
   exact pV ⟨OA,(SQ.trans Fx.ic),(h16.trans Fx.ic),(OB.trans Fx.ic),h18,h19,(h20.trans Fx.ic),(h21.trans Fx.ic),m8,b8⟩
  rw[Bool.not_eq_true]at Y5
  refine aZ (h18.trans (congrArg Value.bool Y5))<|av aF<|dL<|av aF<|av aF<|dL<|dL<|av aF<|aD<|aN<|Wk ?_
  exact pV ⟨OA,(SQ.trans Fx.ic),(h16.trans Fx.ic),(OB.trans Fx.ic),h18,h19,(h20.trans Fx.ic),(h21.trans Fx.ic),m8,b8⟩
 rintro f4 zI ⟨s,y,C,E,h27,XH,h29,XK,m10,b10⟩
 refine Ws<|Ws ?_
 -- region 17 draws
 refine kV<|eB y ?_
 by_cases c74:0<(c:Int)
 ·refine Qv aG (fun v1 G=>zX c74)<|bC aG<|eB s<|eB y<|Qv (au ((c:Int)-1)) (fun v1 G=>jc)<|Qv ((pf g (c-1))) (fun v1 G=>dz 1)<|Qv (aC ((gA o) (c-1))) (fun v1 G=>aP (m10.cb G) (c-1))<|eB s<|eB XK<|Qv ((pf g q)) (fun v1 G=>dz 1)<|Qv (aC ((gA o) q)) (fun v1 G=>aP (m10.cb G) q) ?_
  by_cases c85:(decide ((gA o) (c-1)<(gA o) q))=true
  ·refine mK (fun _ _=>bY ((gA o) (c-1)) ((gA o) q) _) aG (by rw[c85])<|bC aF<|bC aF<|Qn ?_
   intro VI sj
   have m11:=aR sj m10
   have b11:=gJ sj b10 r
   refine sN<|aN<|Wk<|sN<|ay<|aZ s<|aZ y<|aZ C<|aZ XK<|ko (VU c i q B g n cap o _ m11 (Nat.le_trans r b11.size) hk2 x (by omega) (by omega) (by omega)) ?_
   rintro D N7 ⟨j,P,Y7,l,hu2,hv2,hz2,m12,Y8⟩
   have b12:=b11.trans Y8
   have hx:Sort.partition Sort.ltInt o c i q=(j,(Sort.partition Sort.ltInt o c i q).2.1,Y7):=Prod.ext hu2 (Prod.ext rfl hv2)
   obtain⟨r1,r2,r3,r4,r5,r6,r7⟩:=Sort.round_part Sort.swo_ltInt (Sort.partition_holds _) L.1 L.2 (by omega) (hBl.perm (by omega) F) hx
   clear hx
   refine⟨_,l,?_⟩
   clear l
   refine av (.tuple #[au ((j:Int)),.bool P])<|av (au j)<|av (.bool P)<|av (au j)<|av (.bool P)<|aD<|ay<|av (.bool P)<|av (.bool P)<|aD<|ay<|av (au j)<|aZ y<|Lv (au ((j:Int)-(c:Int))) jc<|aZ C<|av (au j)<|Lv (au ((i:Int)-(j:Int))) jc<|av (au ((j:Int)-(c:Int)))<|av (au ((i:Int)-(j:Int)))<|aD<|ay<|aZ h29<|Lv (au ((i-c) / 8:Nat)) (Fx.wo rfl rfl rfl (by omega) (jk (by omega) (by rw[Int.tdiv_eq_ediv_of_nonneg (by omega)]; omega)))<|av (au ((i-c) / 8:Nat))<|aD<|ay<|av (au ((j:Int)-(c:Int)))<|av (au ((i:Int)-(j:Int))) ?_
   by_cases Ls:((j:Int)-(c:Int))<((i:Int)-(j:Int))
   ·refine Lv aG (mD Ls)<|aD<|aQ<|ay<|av (au ((j:Int)-(c:Int)))<|av (au ((i-c) / 8:Nat))<|Lv (.bool (decide (((i-c) / 8:Nat)<=((j:Int)-(c:Int))))) (Fx.yh rfl rfl rfl)<|av (.bool (decide (((i-c) / 8:Nat)<=((j:Int)-(c:Int)))))<|aD<|ay<|aZ s<|aZ y<|av (au j)<|aZ E<|ko (ih _ _ _ c j p B g n cap Y7 _ m12 (Nat.le_trans r b12.size) hz2 x V (by omega) (by omega) (by omega) r4 (by omega) (by omega) (by omega) (by omega)) (ax := #[bJ g n cap,au ((c:Int)),au ((j:Int)),au ((p:Int))]) ?_
    rintro D N8 ⟨T,l,Z,W,X,m13,hb8⟩
    refine⟨_,l,?_⟩
    clear l
    have b13:=b12.trans hb8
    obtain⟨q1,z⟩:=r6 _ W X
    refine aD (Wl (av (au j) (Lv (au ((j:Int)+1)) gV (av (au ((j:Int)+1)) (Ln (dA (iT ⟨i-(j+1),(by omega),j+1,i,p,T,(decide (((i-c) / 8:Nat)<=((j:Int)-(c:Int)))),(P),Z,q1,(fun R t u=>K R (Sort.permIn_trans _ _ _ _ _ F (z R t u).1) (z R t u).2),(by omega),rfl,s,Fx.ic,(C.trans Fx.ic),(E.trans Fx.ic),(by rfl),(by rfl),m13,b13⟩ (by decide))))))))
   refine Lv aF (mE Ls)<|aD<|aN<|ay<|av (au ((i:Int)-(j:Int)))<|av (au ((i-c) / 8:Nat))<|Lv (.bool (decide (((i-c) / 8:Nat)<=((i:Int)-(j:Int))))) (Fx.yh rfl rfl rfl)<|av (.bool (decide (((i-c) / 8:Nat)<=((i:Int)-(j:Int)))))<|aD<|ay<|aZ s<|av (au j)<|Lv (au ((j:Int)+1)) gV<|aZ C<|aZ E<|ko (ih _ _ _ (j+1) i p B g n cap Y7 _ m12 (Nat.le_trans r b12.size) hz2 x V (by omega) (by omega) (by omega) r5 (by omega) (by omega) (by omega) (by omega)) (ax := #[bJ g n cap,au ((j:Int)+1),au ((i:Int)),au ((p:Int))]) ?_
   rintro D SX ⟨T,l,Z,W,X,m14,hb9⟩
   refine⟨_,l,?_⟩
   clear l
   have b14:=b12.trans hb9
   obtain⟨q1,z⟩:=r7 _ W X
   refine aD (Wl (av (au j) (av (au j) (Ln (dA (iT ⟨j-c,(by omega),c,j,p,T,(decide (((i-c) / 8:Nat)<=((i:Int)-(j:Int)))),(P),Z,q1,(fun R t u=>K R (Sort.permIn_trans _ _ _ _ _ F (z R t u).1) (z R t u).2),(by omega),rfl,s,(y.trans Fx.ic),Fx.ic,(E.trans Fx.ic),(by rfl),(by rfl),m14,b14⟩ (by decide)))))))
  rw[Bool.not_eq_true]at c85
  refine mK (fun _ _=>bY ((gA o) (c-1)) ((gA o) q) _) aF (by rw[c85])<|bC aG<|bC aG<|Qn ?_
  intro VJ su
  have m15:=aR su m10
  have b15:=gJ su b10 r
  refine sN<|aQ<|ay<|aZ s<|aZ y<|aZ C<|aZ XK<|ko (YM c i q B g n cap o _ m15 (Nat.le_trans r b15.size) hk2 x (by omega) (by omega) (by omega)) ?_
  rintro D Vd ⟨Lu,dn3,l,hx1,hz3,m16,Y9⟩
  have b16:=b15.trans Y9
  obtain⟨r1,r2,r3,r4,r5⟩:=Sort.round_eq Sort.swo_ltInt (Sort.partitionEqual_holds _) (by omega) L.1 L.2 (by omega) (hBl.perm (by omega) F) (pE (of_decide_eq_false c85)) hx1
  refine⟨_,l,?_⟩
  clear l
  refine av (au Lu) (aD (ay (av (au Lu) (av (au Lu) (aD (Wx (cZ (dh (iT ⟨i-Lu,(by omega),Lu,i,p,dn3,(O),(wp),hz3,r4,(fun R t u=>K R (Sort.permIn_trans _ _ _ _ _ F (r5 R t u).1) (r5 R t u).2),(by omega),rfl,s,Fx.ic,(C.trans Fx.ic),(E.trans Fx.ic),h27,XH,m16,b16⟩ (by decide))))))))))
 refine Qv aF (fun v1 G=>zY c74)<|bC aF<|aU<|aU<|aU<|aU<|aU<|aU<|aU<|aU<|aU<|aU<|aU<|bC aF<|Qn ?_
 intro VK sw
 have m17:=aR sw m10
 have b17:=gJ sw b10 r
 refine sN<|aN<|Wk<|sN<|ay<|aZ s<|aZ y<|aZ C<|aZ XK<|ko (VU c i q B g n cap o _ m17 (Nat.le_trans r b17.size) hk2 x (by omega) (by omega) (by omega)) ?_
 rintro D VY ⟨k,Q,Za,l,hu3,hv3,Q0,m18,Zb⟩
 have b18:=b17.trans Zb
 have hx:Sort.partition Sort.ltInt o c i q=(k,(Sort.partition Sort.ltInt o c i q).2.1,Za):=Prod.ext hu3 (Prod.ext rfl hv3)
 obtain⟨r1,r2,r3,r4,r5,r6,r7⟩:=Sort.round_part Sort.swo_ltInt (Sort.partition_holds _) L.1 L.2 (by omega) (hBl.perm (by omega) F) hx
 clear hx
 refine⟨_,l,?_⟩
 clear l
 refine av (.tuple #[au ((k:Int)),.bool Q])<|av (au k)<|av (.bool Q)<|av (au k)<|av (.bool Q)<|aD<|ay<|av (.bool Q)<|av (.bool Q)<|aD<|ay<|av (au k)<|aZ y<|Lv (au ((k:Int)-(c:Int))) jc<|aZ C<|av (au k)<|Lv (au ((i:Int)-(k:Int))) jc<|av (au ((k:Int)-(c:Int)))<|av (au ((i:Int)-(k:Int)))<|aD<|ay<|aZ h29<|Lv (au ((i-c) / 8:Nat)) (Fx.wo rfl rfl rfl (by omega) (jk (by omega) (by rw[Int.tdiv_eq_ediv_of_nonneg (by omega)]; omega)))<|av (au ((i-c) / 8:Nat))<|aD<|ay<|av (au ((k:Int)-(c:Int)))<|av (au ((i:Int)-(k:Int))) ?_
 by_cases Ls:((k:Int)-(c:Int))<((i:Int)-(k:Int))
 ·refine Lv aG (mD Ls)<|aD<|aQ<|ay<|av (au ((k:Int)-(c:Int)))<|av (au ((i-c) / 8:Nat))<|Lv (.bool (decide (((i-c) / 8:Nat)<=((k:Int)-(c:Int))))) (Fx.yh rfl rfl rfl)<|av (.bool (decide (((i-c) / 8:Nat)<=((k:Int)-(c:Int)))))<|aD<|ay<|aZ s<|aZ y<|av (au k)<|aZ E<|ko (ih _ _ _ c k p B g n cap Za _ m18 (Nat.le_trans r b18.size) Q0 x V (by omega) (by omega) (by omega) r4 (by omega) (by omega) (by omega) (by omega)) (ax := #[bJ g n cap,au ((c:Int)),au ((k:Int)),au ((p:Int))]) ?_
  rintro D w16 ⟨T,l,Z,W,X,m19,Zc⟩
  refine⟨_,l,?_⟩
  clear l
  have b19:=b18.trans Zc
  obtain⟨q1,z⟩:=r6 _ W X
  refine aD (Wl (av (au k) (Lv (au ((k:Int)+1)) gV (av (au ((k:Int)+1)) (Ln (dA (iT ⟨i-(k+1),(by omega),k+1,i,p,T,(decide (((i-c) / 8:Nat)<=((k:Int)-(c:Int)))),(Q),Z,q1,(fun R t u=>K R (Sort.permIn_trans _ _ _ _ _ F (z R t u).1) (z R t u).2),(by omega),rfl,s,Fx.ic,(C.trans Fx.ic),(E.trans Fx.ic),(by rfl),(by rfl),m19,b19⟩ (by decide))))))))
 refine Lv aF (mE Ls)<|aD<|aN<|ay<|av (au ((i:Int)-(k:Int)))<|av (au ((i-c) / 8:Nat))<|Lv (.bool (decide (((i-c) / 8:Nat)<=((i:Int)-(k:Int))))) (Fx.yh rfl rfl rfl)<|av (.bool (decide (((i-c) / 8:Nat)<=((i:Int)-(k:Int)))))<|aD<|ay<|aZ s<|av (au k)<|Lv (au ((k:Int)+1)) gV<|aZ C<|aZ E<|ko (ih _ _ _ (k+1) i p B g n cap Za _ m18 (Nat.le_trans r b18.size) Q0 x V (by omega) (by omega) (by omega) r5 (by omega) (by omega) (by omega) (by omega)) (ax := #[bJ g n cap,au ((k:Int)+1),au ((i:Int)),au ((p:Int))]) ?_
 rintro D XI ⟨T,l,Z,W,X,m20,Zd⟩
 refine⟨_,l,?_⟩
 clear l
 have b20:=b18.trans Zd
 obtain⟨q1,z⟩:=r7 _ W X
 refine aD (Wl (av (au k) (av (au k) (Ln (dA (iT ⟨k-c,(by omega),c,k,p,T,(decide (((i-c) / 8:Nat)<=((i:Int)-(k:Int)))),(Q),Z,q1,(fun R t u=>K R (Sort.permIn_trans _ _ _ _ _ F (z R t u).1) (z R t u).2),(by omega),rfl,s,(y.trans Fx.ic),Fx.ic,(E.trans Fx.ic),(by rfl),(by rfl),m20,b20⟩ (by decide)))))))
end
section
open Rt
set_option maxRecDepth 10000
theorem Q5 : ∀ m,QZ m
 | 0=>by
   intro v x y a b u B g n c d w h k s t j q o p l e f i r
   omega
 | m+1=>by
   intro v x y a b u B g n c d w h k s t j q o p l e f i r
   subst e f i
   exact Ta m (Q5 m) a b u B g n c d w h k s t j q o p l r
theorem OD(B g n cap:Nat)(d:Array Int)(w:World)(h:Fx.Own w B 29 1 (bJ g n cap) n (rv .u64 (gA d)))(j:B<=w.heap.size)(o:d.size=n)(p:n<=1000)(i:n<50) :
 Calls Tryd.prog 44 #[bJ g n cap] w fun e w' => ∃ a:Array Int,e = .returned (.tuple #[])/\a.size=n/\Sort.PermIn 0 n d a/\Sort.SortedIn Sort.ltInt 0 n a/\Fx.Own w' B 29 1 (bJ g n cap) n (rv .u64 (gA a))/\Below B w w':=by
 have t:=He (show n<64 by omega)
 refine Kent Tryd.func44 11 ?_
 refine ay<|av (bJ g n cap)<|av (au n)<|av (au n)<|aD<|Wl<|av (bJ g n cap)<|av (au n)<|av (au n)<|Lv (aC n) (eG rfl rfl (by kernel_rfl) Tryd.underlying96 (jl (by omega) rfl))<|lJ (KW n _ (by omega)) _ rfl<|ko (Q5 (n+1) _ _ _ 0 n (Sort.bitsLen n) B g n cap d _ h (Nat.le_trans j (Below.refl B w).size) o p i (by omega) (by omega) (by omega) (.inl rfl) rfl rfl rfl (by omega)) (ax := #[bJ g n cap,au 0,au ((n:Int)),au ((Sort.bitsLen n:Int))]) ?_
 rintro s u ⟨f,b,q,k,l,r,m⟩
 refine⟨_,b,?_⟩
 clear b
 have c:=(Below.refl B w).trans m
 refine Ln (⟨.tuple #[],fM Tryd.results44,?_⟩)
 exact⟨f,rfl,q,k,l,r,c⟩
theorem Td(w:World) :
 Calls Tryd.prog 72 #[.slice none 0 0,au 0,au 0] w fun e w'=>e = .returned (.tuple #[])/\Below w.heap.size w w':=by
 refine Kent Tryd.func72 49 ?_
 refine ay<|av (au 0)<|Lv (au 1) gV<|av (au 1)<|aD<|Wb<|Wo (fun f d=>f 1=au 0/\f 2=au 0/\f 6=au 1/\Below w.heap.size w d) (fun f _=>0) ⟨Fx.ic,Fx.ic,Fx.ic,(Below.refl w.heap.size w)⟩ ?_
 rintro g i ⟨h,b,c,a⟩
 refine Ws (ay (aZ c (aZ b (Lv aF Dp (aD (aN (Wx (cZ (iE (dh (⟨.tuple #[],fM Tryd.results72,?_⟩)))))))))))
 exact⟨rfl,a⟩
theorem Te(w:World) :
 Calls Tryd.prog 61 #[.slice none 0 0,au 0,au 0,au 0] w fun e w'=>e = .returned (.tuple #[])/\Below w.heap.size w w':=by
 refine Kent Tryd.func61 134 ?_
 refine ay<|av aG<|aD<|ay<|av aG<|aD<|Wb<|Wo (fun f i=>f 0 = .slice none 0 0/\f 1=au 0/\f 2=au 0/\Below w.heap.size w i) (fun f _=>0) ⟨(by rfl),Fx.ic,Fx.ic,(Below.refl w.heap.size w)⟩ ?_
 rintro j k ⟨g,a,b,c⟩
 refine Wb<|ay<|aZ b<|aZ a<|Lv (au 0) jc<|av (au 0)<|aD<|Ws<|ay<|av (au 0)<|Lv aG Vp<|aD<|aQ<|ay<|aZ g<|aZ a<|aZ b<|fC (Td _) _ rfl ?_
 intro l h
 have d:=aR h c
 refine aD (Wr (sR (bX (qL (bX (⟨.tuple #[],fM Tryd.results61,?_⟩))))))
 exact⟨rfl,d⟩
theorem Tf(w:World):Calls Tryd.prog 34 #[aC 0] w fun e w'=>e = .returned (au 0)/\w'=w:=KW 0 w (by omega)
theorem OE(w:World) :
 Calls Tryd.prog 44 #[.slice none 0 0] w fun e w'=>e = .returned (.tuple #[])/\Below w.heap.size w w':=by
 refine Kent Tryd.func44 11 ?_
 refine ay<|av (.slice none 0 0)<|av (au 0)<|av (au 0)<|aD<|Wl<|av (.slice none 0 0)<|av (au 0)<|av (au 0)<|Lv (aC 0) (eG rfl rfl (by kernel_rfl) Tryd.underlying96 (jl (by omega) rfl))<|lJ (Tf _) _ rfl<|fC (Te _) _ rfl ?_
 intro c b
 have a:=aR b (Below.refl w.heap.size w)
 refine Ln (⟨.tuple #[],fM Tryd.results44,?_⟩)
 exact⟨rfl,a⟩
theorem Tg{w:World}{B n cap:Nat}{a:Option Addr}{d:Array Int}(h:Fx.Own w B 29 1 (.slice a n cap) n (rv .u64 (gA d)))(f:B<=w.heap.size)(k:d.size=n)(p:n<50) :
 Calls Tryd.prog 44 #[.slice a n cap] w fun e w' => ∃ b:Array Int,e = .returned (.tuple #[])/\b.size=n/\Sort.PermIn 0 n d b/\Sort.SortedIn Sort.ltInt 0 n b/\Fx.Own w' B 29 1 (.slice a n cap) n (rv .u64 (gA b))/\Below B w w':=by
 rcases h.2 with ⟨c,l⟩|⟨g,c2,cur,c,_⟩
 ·subst l
  cases c
  exact(OE w).mono fun e w' ⟨m,o⟩=>⟨d,m,k,Sort.permIn_refl _ _ _,fun i j _ q r=>by omega,yu _ _ _ _ _,o.mono f⟩
 simp only[Value.slice.injEq]at c
 obtain⟨rfl,_,rfl⟩:=c
 exact OD B g n cap d w h f k (by omega) p
end
end Go.Proofs.YtcbedgfikejkoaaDoor
namespace Go.Proofs.YtcbedgfikejkoaaDoor
open Go.RowKit Go
set_option linter.unusedVariables false
namespace Rt
def dT(x:Nat->Int)(τ:Nat->Nat)(m:Nat):Array Int:=((List.range m).map fun q=>x (τ q)).toArray
section
variable {n m kk:Nat} {x:Nat->Int} {Q:Int->Prop} {S:Nat->Bool} {τ:Nat->Nat}
theorem Hr:(dT x τ m).size=m:=by unfold dT; simp
theorem Ti{q:Nat}(a:q<m):gA (dT x τ m) q=x (τ q):=by
 unfold gA dT
 rw[getElem!_pos _ q (by simpa using a)]; simp
theorem V4 : ∀ j,j<m*1->Value.int .u64 (x (τ j))=Fx.rv .u64 (gA (dT x τ m)) j:=fun j a=>by
 show _=Value.int .u64 (gA (dT x τ m) j)
 rw[Ti (by omega)]
theorem Tj{d:Array Int} : ∀ j,j<d.size*1->Fx.rv .u64 (gA d) j=pW d.toList j:=fun j a=>by
 show Value.int .u64 d[j]! = Value.int .u64 (d.toList.getD j 0)
 rw[getElem!_pos d j (by omega),List.getD_eq_getElem?_getD,List.getElem?_eq_getElem (by simpa using (show j<d.size by omega))]
 simp
theorem Jj{c:Array Int}(h:KN n (fun i=>Q (x i)) S m τ kk)(w : ∀ i,i<n->S i=true)(z : ∀ a b,a<n->b<n->x a=x b->a=b)
 (A:Sort.PermIn 0 m (dT x τ m) c) (B:Sort.SortedIn Sort.ltInt 0 m c) (C:c.size=m):c.toList.Pairwise (· < ·) /\ ∀ k,k∈c.toList<->(dn x n k=true/\Q k):=by
 have t:c.toList.Perm ((List.range m).map fun q=>x (τ q)):=by
  have r:=A.2.2
  have u:c.extract 0 m=c:=by rw[<- C]; simp
  have v : ∀ d:Array Int,d.size=m->d.extract 0 m=d:=fun d y=>by rw[<- y]; simp
  rw[u,v _ Hr]at r
  exact r
 have s:c.toList.Nodup:=by
  refine(t.nodup_iff).2 ?_
  rw[List.Nodup,List.pairwise_iff_getElem]
  intro i j hi f p
  simp only[List.getElem_map,List.getElem_range]
  simp only[List.length_map,List.length_range]at hi f
  exact fun e=>absurd (h.inj i j hi f (z _ _ (h.lt i hi) (h.lt j f) e)) (by omega)
 refine⟨?_,fun k => ?_⟩
 ·rw[List.pairwise_iff_getElem]
  intro i j hi f p
  simp only[Array.length_toList]at hi f
  have l:=of_decide_eq_false (B i j (Nat.zero_le _) p (by omega))
  rw[getElem!_pos c i hi,getElem!_pos c j f]at l
  rw[List.Nodup,List.pairwise_iff_getElem]at s
  have o:=s i j (by simpa using hi) (by simpa using f) p
  simp only[Array.getElem_toList]at o ⊢
  omega
 rw[t.mem_iff]
 simp only[List.mem_map,List.mem_range]
 constructor
 ·rintro ⟨q,g,rfl⟩
  exact⟨gL (h.lt q g) rfl,h.yes q g⟩
 rintro ⟨l,o⟩
 obtain⟨i,hi,rfl⟩:=eF l
 obtain⟨q,g,rfl⟩:=h.mem i hi (w i hi) o
 exact⟨q,g,rfl⟩
theorem OG{z:Nat->Value}{i:Nat} : ∀ j,j<(m+1)*1->Fx.iQ (fun q=>aC (x (τ q))) (m*1) (Fx.bE z (0*1) 1 (fun _=>aC (x i))) j=aC (x (Fx.aI τ m i j)):=fun j a=>by
 unfold Fx.iQ Fx.bE Fx.aI
 by_cases e:j=m
 ·subst e; rw[if_neg (by omega),if_pos (by omega),if_pos rfl]
 ·rw[if_pos (by omega),if_neg e]
end
end Rt
open Rt
theorem Tk{w:World}{B m cap:Nat}{a:Option Addr}{x:Nat->Int}{τ:Nat->Nat}(h:Fx.Own w B 29 1 (.slice a m cap) m (fun q=>aC (x (τ q))))(n:B<=w.heap.size)(p:m<=32) :
 Calls Tryd.prog 44 #[.slice a m cap] w fun e w'=>e = .returned (.tuple #[]) /\ ∃ b:Array Int,b.size=m/\Sort.PermIn 0 m (dT x τ m) b/\Sort.SortedIn Sort.ltInt 0 m b/\Fx.Own w' B 29 1 (.slice a m cap) m (pW b.toList)/\Below B w w' :=
 (Tg (d:=dT x τ m) (h.congr V4) n Hr (by omega)).mono fun e w' ⟨b,c,f,g,i,k,l⟩=>⟨c,b,f,g,i,k.congr fun j o=>Tj j (by omega),l⟩
end Go.Proofs.YtcbedgfikejkoaaDoor
namespace Go.Proofs.YtcbedgfikejkoaaDoor.Fx
open Go.RowKit
section
variable {P:Program} {n0:Nat} {Q:Post} {f:Nat->Value} {w:World} {ops:Array Oper} {rest:List Oper} {o:Oper}
theorem L.lo{T E:TypeId}{x lo:Operand}{a:Option Addr}{B n c s m:Nat}{k:IntKind}{j:Nat}{y:Nat->Value}(u:Region.wanted o (yf ops f)=true)(e:inn n0 o.dst=true)(q:o.op = .slice T x (some lo) none none)(hx:ev f x = .slice a n c)(l:ev f lo = .int k (j:Int))(t:P.underlying T=some (.slice E))(r:(P.info? E).map (·.size)=some s)(H:n=j+m)(C:Own w B E s (.slice a n c) n y)
 (d : ∀ v,kU w v m s (fun p=>y (j*s+p))->L P n0 ops Q rest (put f o.dst (.slice v m (c-j))) w):L P n0 ops Q (o::rest) f w:=by
 by_cases D:n=0
 ·obtain rfl:j=0:=by omega
  obtain rfl:m=0:=by omega
  subst D
  rcases C.2 with ⟨b,_⟩|⟨g,cap,cur,b,_,_,hn,_⟩
  ·simp only[Value.slice.injEq]at b
   obtain⟨rfl,_,rfl⟩:=b
   obtain⟨i,G,_⟩:=Option.map_eq_some_iff.1 r
   refine Lv _ (?_:Runs P f o w (.slice none 0 0)) (d none fun h=>absurd h (Nat.lt_irrefl 0)) u e
   unfold Runs execOp
   simp only[q,hx,l,Option.map_some,Option.map_none]
   simp[Instr.sliceAt,Instr.slice,underlying,t,Instr.sliceBounds,Instr.sliceBound,asIntOf,sizeOf,typeInfo,G]
  simp only[Value.slice.injEq]at b
  obtain⟨rfl,_,rfl⟩:=b
  exact Lv _ (sO (A:=if c=0 then some ⟨g,0,none⟩else some ⟨g,0+0*s,none⟩) (n':=0) (c':=c-0) q hx l t r (Nat.le_refl _) rfl rfl rfl) (d _ fun h=>absurd h (Nat.lt_irrefl 0)) u e
 obtain⟨g,J,z,K,M,O,F⟩:=C.form (by omega)
 simp only[Value.slice.injEq]at z
 obtain⟨rfl,_,rfl⟩:=z
 refine Lv _ (sO (A:=if c=j then some ⟨g,0,none⟩else some ⟨g,0+j*s,none⟩) (n':=m) (c':=c-j) q hx l t r (by omega) rfl (by omega) rfl) (d _ fun N => ?_) u e
 rw[if_neg (by omega)]
 refine⟨g,_,rfl,fun p R => ?_⟩
 have I:j*s+p<n*s:=by
  have:n*s=j*s+m*s:=by rw[H,Nat.add_mul]
  omega
 have:=F (j*s+p) I
 rw[Nat.zero_add]at this
 rw[Nat.zero_add]; exact this
theorem Own.V5{B n c s j:Nat}{E:TypeId}{a:Option Addr}{y:Nat->Value}(h:Own w B E s (.slice a n c) n y)(e:j<=n):kU w a j s y:=fun k=>by
 obtain⟨g,i,b,l,m,o,d⟩:=h.form (by omega)
 simp only[Value.slice.injEq]at b
 refine⟨g,0,b.1,fun p f=>d p ?_⟩
 exact Nat.lt_of_lt_of_le f (Nat.mul_le_mul_right s e)
theorem Own.weak{B a n s:Nat}{E:TypeId}{v:Value}{y:Nat->Value}(h:Own w B E s v n y)(b:a<=B):Own w a E s v n y:=by
 refine⟨h.1,?_⟩
 rcases h.2 with hn|⟨g,cap,cur,hv,hb,rest⟩
 ·exact .inl hn
 exact .inr ⟨g,cap,cur,hv,Nat.le_trans b hb,rest⟩
end
end Go.Proofs.YtcbedgfikejkoaaDoor.Fx
namespace Go.Proofs.YtcbedgfikejkoaaDoor
open Go.RowKit Rt
open Fx (eT dI eY bf eX eU eG dM eZ gW dO gX eP gH gY Lv sN Ln Ws Qv Wl Rp Wc Qs Wr Sb Lk Wk rC rV sR Rs Rn Rd Rk Wb Wx Wo yE Wt pJ Qn zQ tL yt zG wT zT zR iB zV jC nY rR zW yu zU yF yx rv aA aL bE aI ev bT Stp bV aO flat fH Mp dK aT fq gF bA down fM iW jk kU bQ bD cells_one jD aX pV unseen jl iQ cu bX dA cZ dh iE iT qL gI)
section
open Rt
set_option maxRecDepth 10000
theorem Lx(x p:Nat->Int)(n g o:Nat)(w:World)(W:aL w g 1 (fun _ => .map (some o)) 82)(U:Mp w o n x (fun j=>aC (p j)))(h:vE n x p) :
 Calls Tryd.prog 31 #[(pt g),.func (.func 32) #[] #[]] w fun e w' => ∃ a c l,e = .returned (.slice a (List.length l) c)/\Fx.Own w' w.heap.size 29 1 (.slice a l.length c) l.length (pW l)/\l.Pairwise (· < ·)/\(∀ k,k∈l<->(dn x n k=true/\True))/\l.length<=32/\Below w.heap.size w w':=by
 have hsm:=h.small
 refine Kent Tryd.func31 27 ?_
 refine ay<|av (.slice none 0 0)<|aD<|Ws<|ay<|av ((pt g))<|Lv aF (Fx.jF rfl rfl rfl (by kernel_rfl))<|aD<|aN<|Wk<|sN<|Ws<|ay<|av ((pt g))<|av ((pt g))<|av ((pt g))<|Lv (.map (some o)) (aP W.aK 0)<|Fx.L.range (by rfl) rfl rfl rfl U Tryd.underlying53 fun R w1 oI m1 s1 z1 => ?_
 have⟨m2,m3,b1⟩:=kM s1.old W U (Below.refl w.heap.size w)
 have wY:=gK oI
 have xK:=m1.lt
 refine aD<|Wb ?_
 have m4:Fx.Own w1 w.heap.size 29 1 (.slice none 0 0) 0 (fun q=>aC (x ((fun _=>0:Nat->Nat) q))):=yu _ _ _ _ _
 refine yE (fun kk f r => ∃ m:Nat,∃ τ:Nat->Nat,∃ S:Nat->Bool,∃ a:Option Addr,∃ d:Nat,KN n (fun i=>(fun k=>True) (x i)) S m τ kk/\f 0=(pt g)/\f 1 = .func (.func 32) #[] #[]/\f 4 = .slice a (m) (d)/\f 12=(pt R)/\aL r g 1 (fun _ => .map (some o)) 82/\Mp r o n x (fun j=>aC (p j))/\Fx.It r R o n S/\Fx.Own r w.heap.size 29 1 (.slice a (m) (d)) m (fun q=>aC (x (τ q)))/\Below w.heap.size w r) (unseen (fun _=>false) n) ⟨0,(fun _=>0),(fun _=>false),none,0,(KN.start n _ _),(by rfl),(by rfl),(by rfl),(by rfl),m2,m3,m1,m4,b1⟩ ?_
 rintro kk P w2 ⟨m,τ,S,a,d,u,T,E,F,G,m5,m6,M,m8,t⟩
 have hml:=u.le
 refine ay<|Fx.L.next (by rfl) rfl rfl G m6 M (fun DW => ?_)<|fun b w3 I V m9 Vf s2 z2 => ?_
 ·skip
  refine av aF<|aD<|Ws<|aN<|Wx<|cZ<|iE<|dh<|sN<|ay<|aZ F<|fC (Tk m8 t.size (by omega)) _ rfl ?_
  rintro w4 ⟨O,aa,hp2,hs2,m10,hb1⟩
  have b3:=t.trans hb1
  refine aD<|ay<|aZ F<|av (.slice a (m) (d))<|aD<|Wr<|aM (.slice a (m) (d)) ?_
  obtain⟨P,f2⟩:=Jj (Q:=fun k=>True) u DW h.inj hp2 hs2 aa
  have Z:m<=32:=by omega
  rw[show m=O.toList.length by rw[Array.length_toList]; exact aa.symm]at m10 Z ⊢
  exact⟨a,d,O.toList,rfl,m10,P,f2,Z,b3⟩
 skip
 have H:=M.wB s2
 have m11:=m5.cB H
 have J:=m6.cB H (M.rb.symm)
 have m13:=m8.cB H
 have N:=s2.below t t.size (by omega)
 refine av aG<|aD<|Ws<|aQ<|Wk<|sN<|Wb<|ay<|Lv (.tuple #[aC (x b),aC (p b)]) (Fx.GZ (key:=x) (val:=fun j=>aC (p j)) (i:=b) rfl G J Vf I)<|av (aC (x b))<|av (aC (x b))<|aD<|ay<|aZ E<|av (aC (x b))<|tL (by rfl) (Fx.tZ (args := [aC (x b)]) rfl rfl rfl (all := #[aC (x b)]) rfl Tryd.func32 rfl rfl) rfl<|(VE _ _).mono ?_
 rintro e v1 ⟨X,hv1⟩
 subst v1
 refine⟨.bool true,by rw[X],?_⟩
 clear X
 refine aD<|aQ<|Wl<|aZ F<|av (aC (x b))<|yt (vs := [(0,aC (x b))]) (s:=1) (zc:=rv .u64 (fun _=>0)) (y:=bE (fun j=>(rv .u64 (fun _=>0)) (j % 1)) (0*1) 1 (fun _=>aC (x b))) (by rfl) rfl rfl Tryd.underlying61 (by kernel_rfl) (by rfl) (by rfl) (by kernel_rfl) (by rw[bA (off:=0*1) (s:=1) (y:=fun _=>aC (x b)) rfl (cells_one (by rfl)) (by rfl)]; rfl) rfl fun g2 w5 C m14 s3 z3 => ?_
 have⟨m15,m16,K,m19,z⟩:=mF s3.old m11 J m13 m9 N
 have zN:=iC C N.size
 have⟨vK,LA⟩:=rH C m11.lt J.lt
 have LB:(.slice a (m) (d):Value).ownBlock≠some g2:=by rw[C]; exact m13.BH (Nat.le_refl _)
 have Cg:=m14.lt
 refine zG (B:=w.heap.size) (s:=1) (bytes:=8) (k:=m) (m:=1) (v := .slice a (m) (d)) (x:=fun q=>aC (x (τ q))) (by rfl) rfl rfl rfl Tryd.underlying61 (by kernel_rfl) (by kernel_rfl) rfl rfl K m14.aK (fun j hj=>by unfold bE; split <;> rfl) (by omega) (by omega) (by omega) z.size fun D A w6 ho1 Y Sr hlt1 => ?_
 have iD:=zV Y K
 have⟨m21,m22,m24⟩:=Dr iD m15 m16 m19
 have m20:Fx.Own w6 w.heap.size 29 1 (bJ D (m+1) A) (m+1) (fun q=>aC (x (aI τ m b q))):=(ho1.congr OG)
 have b6:Below w.heap.size w w6:=zU z Y z.size (fun q hq=>(K.ge hq).1)
 refine av (bJ D (m+1) A)<|Ln<|dA ?_
 skip
 refine iT ⟨unseen (aI S b true) n,(by have T:=Fx.jV V n I; have E:=u.kk; omega),m+1,aI τ m b,aI S b true,(some ⟨D,0,none⟩),A,(u.take I V trivial),T,E,(by rfl),G,m21,m22,m24,m20,b6⟩ (by decide)
theorem Tm(x p:Nat->Int)(n b i:Nat)(w:World)(r:aL w b 1 (fun _ => .map (some i)) 82)(q:Mp w i n x (fun j=>aC (p j)))(h:vE n x p) :
 Calls Tryd.prog 16 #[(pt b)] w fun e w' => ∃ a c l,e = .returned (.slice a (List.length l) c)/\Fx.Own w' w.heap.size 29 1 (.slice a l.length c) l.length (pW l)/\l.Pairwise (· < ·)/\(∀ k,k∈l<->(dn x n k=true/\True))/\l.length<=32/\Below w.heap.size w w':=by
 refine Kent Tryd.func16 5 ?_
 refine ay<|av (.slice none 0 0)<|aD<|ay<|av ((pt b))<|ko (Lx x p n b i _ r q h) ?_
 rintro z A ⟨d,f,g,o,y,t,u,v,s⟩
 refine⟨_,o,?_⟩
 clear o
 have m:=aR s (Below.refl w.heap.size w)
 refine av (.slice d (g.length) (f))<|aD<|Wr<|aM (.slice d (g.length) (f)) ?_
 exact⟨d,f,g,rfl,y.weak (by have:=m.size; first|exact Nat.le_refl _|exact(Below.refl w.heap.size w).size),t,u,v,m⟩
-- (*tree.Tree).Below is not in this seat
end
end Go.Proofs.YtcbedgfikejkoaaDoor
