/-
  What the proof of the law rests on, part 2: walks of functions, and plain laws; each says its conditions itself.
-/
import Derived.WideKeyRuns
import Derived.DeepKeys3
import Derived.Test.YtcbedgfikejkoaaGreatDoorRows
import Derived.RangeFuncNested
import Derived.RangeFuncBound
import Derived.RangeFuncCalls
import Derived.RangeFuncLeaves
import Derived.RangeFuncFrom
import Derived.Sort.LotA
import Derived.Sort.LotB
import Derived.Sort.LotC
import Derived.Sort.LotD3
import Derived.Sort.LotD1
import Derived.Test.YtcbedgfikejkoaaGreatDoorZE1
set_option maxRecDepth 20000
set_option linter.unusedVariables false
set_option maxHeartbeats 1600000
set_option linter.unusedSimpArgs false
namespace Go.Proofs.YtcbedgfikejkoaaGreatDoor.Fx
open Go.RowKit Go.MapKept
def kS(a b:Int):Value := .agg #[.int .i64 a,.int .u64 b]
structure En(a b:Int):Prop where
 a : -9223372036854775808<=a/\a<=9223372036854775807
 b:0<=b/\b<=18446744073709551615
theorem Nw{a b c d:Int}(h:kS a b=kS c d):a=c/\b=d:=by
 unfold kS at h;simp only[Value.agg.injEq]at h;have h:=M_ Array.toList h;simp at h; exact h
theorem Az{y:Nat->Value}{a b:Int}(c:y 0 = .int .i64 a)(h1:y 1 = .int .u64 b):Value.agg (aA 2 y)=kS a b:=by
 unfold kS
 congr 1
 apply Array.ext';rw[Hy];show [y 0,y 1]=_;rw[c,h1]
structure wY(P:Program)(K:TypeId):Prop where
 kt:P.keyTypeAt 12 K=true
 fl:flatK P 12 K=some [some .i64,some .u64]
 ag:G8 P K=true
section
variable {P:Program} {K:TypeId} {a b c d:Int} {w:World}
theorem wY.wide(h:wY P K):(match P.underlying K with|some (.array _ _)|some (.struct _)=>true|_=>false)=true:=by
 have h:=h.ag;unfold G8 at h
 cases hu:P.underlying K with
 | none=>rw[hu]at h; cases h
 | some d=>rw[hu]at h; cases d <;> first|rfl|(cases h)
theorem En.fit(h:En a b):Fit [some .i64,some .u64] (#[Value.int .i64 a,.int .u64 b]:Array Value).toList [.int .i64 a,.int .u64 b]:=by
 refine⟨?_,?_,trivial⟩
 ·simp[uG,Yx h.a]
 simp[uG,vL h.b]
theorem wY.eq(e:wY P K)(h1:En a b)(f:En c d)(w:World) : ∃ r:Bool,(Op.equal K (kS a b) (kS c d)).run P w = .ok r w/\(r=true<->kS a b=kS c d):=by
 refine⟨decide (a=c/\b=d),?_,?_⟩
 ·have:=pJ w 12 9988 K _ #[.int .i64 a,.int .u64 b] #[.int .i64 c,.int .u64 d] _ _ e.kt e.fl e.wide h1.fit f.fit (decide (a=c/\b=d)) (by simp);exact this
 rw[Q_];constructor
 ·rintro ⟨rfl,rfl⟩; rfl
 exact Nw
theorem wY.formed(g:wY P K)(h1:En a b):(kS a b).formed P K=true:=by
 have d:=g.wide;have c:=g.fl;unfold Value.formed kS
 cases hu:P.underlying K with
 | none=>rw[hu]at d; cases d
 | some td =>
   have h:P.cellsOf K=2:=by
    unfold flatK at c;rw[hu]at c d
    cases td with
    | array n e =>
      simp only at c
      cases h2:flatK P 11 e with
      | none=>rw[h2]at c; cases c
      | some l =>
        rw[h2]at c;simp only at c;split at c
        ·rename_i h3;simp only[Option.some.injEq]at c;have f:=M_ List.length c;rw[sV]at f;exact h3.2.symm.trans f
        ·cases c
    | struct fs =>
      simp only at c
      cases h2:wP P.cellsOf (flatK P 11) fs.toList 0 with
      | none=>rw[h2]at c; cases c
      | some l =>
        rw[h2]at c;simp only at c;split at c
        ·rename_i h3;simp only[Option.some.injEq]at c;rw[<- h3,c]; rfl
        ·cases c
    | _=>cases d
   rw[hu]at d
   cases td <;> first|(cases d; done)|simp[h]
theorem wY.check(c:wY P K)(h1:En a b)(d:Bool)(w:World):(Instr.checkKey d 10000 K (kS a b)).run P w = .ok () w:=by
 have h:=run_checkKey_deep d 9988 12 K c.kt;exact h w 12 (kS a b) _ (c.formed h1) (qz 12 K _ _ _ c.fl (by simpa [Value.cells,kS] using h1.fit))
theorem KP(a b:Int):Instr.sameBits 10000 (kS a b) (kS a b)=true:=by
 unfold kS;show Instr.sameBits (9999+1) _ _=true;simp[Instr.sameBits]
end
def iI(w:World)(b n:Nat)(k1 k2:Nat->Int)(val:Nat->Value):Prop :=
 ∃ a c,w.heap[b]? = some (.map a c)/\Stamped a c/\a.size=n /\ ∀ i,i<n -> ∃ e,a[i]? = some e/\e.key=kS (k1 i) (k2 i)/\e.val=val i/\En (k1 i) (k2 i)
section
variable {w w':World} {b n:Nat} {k1 k2:Nat->Int} {val:Nat->Value}
theorem iI.lt(h:iI w b n k1 k2 val):b<w.heap.size:=by
 obtain⟨a,c,h,_⟩:=h;exact(t_.1 h).1
theorem iI.keep(h:iI w b n k1 k2 val)(e:w'.heap[b]? = w.heap[b]?):iI w' b n k1 k2 val:=by
 obtain⟨a,c,d,f⟩:=h;exact⟨a,c,e.trans d,f⟩
theorem iI.cu{g:Nat}(h:iI w b n k1 k2 val)(a:Stp g w w')(c:b≠g):iI w' b n k1 k2 val:=h.keep (a.block b h.lt c)
theorem iI.up(h:iI w b n k1 k2 val)(a:Below w.heap.size w w'):iI w' b n k1 k2 val:=h.keep (a.block b h.lt)
instance:Rt.Tr w w' (iI w b n k1 k2 val) (iI w' b n k1 k2 val):=⟨fun b h=>h.up b⟩
theorem iI.sZ{T:TypeId}(h:iI w b n k1 k2 val)(a:Ty w b T):False:=by
 obtain⟨e,c,h,_⟩:=h;obtain⟨d,a⟩:=a;rw[h]at a; cases a
theorem iI.kV{a:List TypeId}(h:iI w b n k1 k2 val)(c:jg a w w')(_:True):iI w' b n k1 k2 val:=h.keep (c.block b h.lt fun _ d=>(h.sZ d).elim)
instance {a:List TypeId}:Rt.Tc a w w' (iI w b n k1 k2 val) (iI w' b n k1 k2 val) true:=⟨fun b h _=>h.kV b trivial⟩
theorem iI.CP(h:iI w b n k1 k2 val)(a:Stp b w w'):QV b w w':=⟨a,fun _ c=>h.sZ c⟩
theorem iI.eH{r:Nat}(h:iI w b n k1 k2 val)(a:QV r w w')(c:b≠r):iI w' b n k1 k2 val:=h.cu a.s c
theorem iI.ok(h:iI w b n k1 k2 val){i:Nat}(hi:i<n):En (k1 i) (k2 i):=by
 obtain⟨f,c,_,_,_,a⟩:=h;obtain⟨e,_,_,_,d⟩:=a i hi; exact d
theorem iI.vQ{l m:Nat->Int}{o:Nat->Value}(h:iI w b n k1 k2 val)(e : ∀ i,i<n->k1 i=l i/\k2 i=m i/\val i=o i):iI w b n l m o:=by
 obtain⟨q,c,r,s,t,u⟩:=h;exact⟨q,c,r,s,t,fun i hi=>by
  obtain⟨x,a,d,f,g⟩:=u i hi;obtain⟨j,k,p⟩:=e i hi;exact⟨x,a,by rw[d,j,k],by rw[f,p],by rw[<- j,<- k]; exact g⟩⟩
theorem iI.inj(h:iI w b n k1 k2 val) : ∀ i j,i<n->j<n->k1 i=k1 j->k2 i=k2 j->i=j:=fun i j hi u g k=>by
 obtain⟨f,c,_,⟨_,_,v⟩,hn,hg⟩:=h;obtain⟨x,d,r,_⟩:=hg i hi;obtain⟨y,e,s,_⟩:=hg j u;rw[t_]at d e;obtain⟨o,d⟩:=d;obtain⟨p,e⟩:=e;have z:=List.pairwise_iff_getElem.1 v;have q : ∀ a c (l:a<f.size) (m:c<f.size),a<c->f[a].key≠f[c].key:=fun a c l m t=>by
  have:=z a c (by simpa using l) (by simpa using m) t
  simpa only[List.getElem_map,Array.getElem_toList] using this
 rcases Nat.lt_trichotomy i j with h1|h1|h1
 ·exact N_ (by rw[d,e,r,s,g,k]) (q i j o p h1)
 ·exact h1
 ·exact N_ (by rw[d,e,r,s,g,k]) (q j i p o h1)
end
theorem yT(k1 k2:Nat->Int)(n:Nat)(a b:Int):(∃ j,j<n/\k1 j=a/\k2 j=b) \/ ∀ i,i<n -> ¬ (k1 i=a/\k2 i=b):=by
 by_cases h : ∃ j,j<n/\k1 j=a/\k2 j=b
 ·exact .inl h
 exact .inr fun i hi e=>h ⟨i,hi,e⟩
section
variable {P:Program} {f:Nat->Value} {w:World} {o:Oper} {K:TypeId}
variable {b n:Nat} {k1 k2:Nat->Int} {val:Nat->Value}
theorem KQ(k:wY P K){x y:Int}(l:En x y)(w:World) : ∀(a:List MapEntry) (i:Nat),(∀ e∈a,∃ u v,e.key=kS u v/\En u v) ->
 ((Instr.findAsking K (kS x y) a i).run P w = .ok none w /\ ∀ e∈a,e.key≠kS x y) \/ ∃ j e,(Instr.findAsking K (kS x y) a i).run P w = .ok (some (i+j,e.val)) w/\a[j]? = some e/\e.key=kS x y
 | [],i,_ => .inl ⟨by simp[Instr.findAsking],by simp⟩
 | e::a,i,hall=>by
   obtain⟨u,v,m,o⟩:=hall e (by simp);obtain⟨r,c,g⟩:=k.eq l o w;rw[<- m]at c g
   cases r
   ·have n:e.key≠kS x y:=fun h=>by have:=g.2 h.symm; cases this
    rcases KQ k l w a (i+1) (fun y b=>hall y (by simp[b]))with ⟨d,f⟩|⟨j,e',d,f,h3⟩
    ·left;refine⟨by simp[Instr.findAsking,c,d],fun y b => ?_⟩
     rcases List.mem_cons.1 b with rfl|b
     ·exact n
     ·exact f y b
    ·right;exact⟨j+1,e',by simp[Instr.findAsking,c,d,Nat.add_assoc,Nat.add_comm 1 j],by simpa using f,h3⟩
   ·right;exact⟨0,e,by simp[Instr.findAsking,c],rfl,(g.1 rfl).symm⟩
theorem iI.find(h:iI w b n k1 k2 val)(p:wY P K){a:Array MapEntry}{c:Nat}(t:w.heap[b]? = some (.map a c)){x y:Int}(z:En x y) :
 ((Instr.findKey K (kS x y) a.toList).run P w = .ok none w /\ ∀ i,i<n -> ¬ (k1 i=x/\k2 i=y)) \/ ∃ j,j<n/\k1 j=x/\k2 j=y/\(Instr.findKey K (kS x y) a.toList).run P w = .ok (some (j,val j)) w:=by
 obtain⟨F,E,l,G,o,m⟩:=h;rw[t]at l;simp only[Option.some.injEq,Obj.map.injEq]at l;obtain⟨rfl,rfl⟩:=l;have A : ∀ e∈a.toList,∃ u v,e.key=kS u v/\En u v:=fun x B=>by
  obtain⟨i,hi,e⟩:=List.getElem_of_mem B;obtain⟨y,g,k,_,C⟩:=m i (by simpa [<- o] using hi);have:y=x:=by
   have d:a.toList[i]? = some x:=(by rw[o_ hi,e]);rw[Array.getElem?_toList,g]at d;exact C_ d
  subst this;exact⟨_,_,k,C⟩
 rw[run_findKey_eq w p.wide]
 rcases KQ p z w a.toList 0 A with ⟨d,f⟩|⟨j,e,d,f,h7⟩
 ·left;refine⟨d,fun i hi e => ?_⟩;obtain⟨y,g,k,_⟩:=m i hi;exact f y (Array.mem_toList_iff.2 (Array.mem_of_getElem? g)) (by rw[k,e.1,e.2])
 right;have q:j<n:=by
  rw[Array.getElem?_toList]at f;rw[<- o]; exact(t_.1 f).1
 obtain⟨y,g,k,D,_⟩:=m j q;rw[Array.getElem?_toList,g]at f;obtain rfl:=C_ f;rw[k]at h7;obtain⟨r,s⟩:=Nw h7;exact⟨j,q,r,s,by rw[d,H_,D]⟩
theorem oo{T E:TypeId}{x y:Int}{ok:Bool}{z:Value}(m:En x y)(h:iI w b n k1 k2 val)(o:P.underlying T=some (.map K E))(k:wY P K)(v:(zeroValue E).run P w = .ok z w) :
 ((∀ i,i<n -> ¬ (k1 i=x/\k2 i=y))->(Instr.lookup T (.map (some b)) (kS x y) ok).run P w = .ok (if ok then .tuple #[z,.bool false]else z) w) /\
 ∀ j,j<n->k1 j=x->k2 j=y->(Instr.lookup T (.map (some b)) (kS x y) ok).run P w = .ok (if ok then .tuple #[val j,.bool true]else val j) w:=by
 have t:=h;obtain⟨q,c,f,_⟩:=t;have l:=k.check m q.isEmpty w
 rcases h.find k f m with ⟨g,r⟩|⟨j,a,hkj,TJ,g⟩
 ·refine⟨fun _ => ?_,fun j a e d=>N_ ⟨e,d⟩ (r j a)⟩;unfold Instr.lookup;simp only[Sem.run_bind,run_underlying o,Result.andThen_ok,Go.MapKept.run_getObj_map f,Sem.run_pure,l,g,v]
 refine⟨fun u=>N_ ⟨hkj,TJ⟩ (u j a),fun p s e d => ?_⟩;obtain rfl:p=j:=h.inj p j s a (e.trans hkj.symm) (d.trans TJ.symm);unfold Instr.lookup;simp only[Sem.run_bind,run_underlying o,Result.andThen_ok,Go.MapKept.run_getObj_map f,Sem.run_pure,l,g]
variable {T E:TypeId} {x ix:Operand} {a r:Int} {z v:Value} {j:Nat}
theorem KR(g:o.op = .lookup T x ix false)(hx:ev f x = .map (some b))(hi:ev f ix=kS a r)(d:En a r)(h:iI w b n k1 k2 val)(j:P.underlying T=some (.map K E))(c:wY P K)(k:(zeroValue E).run P w = .ok z w)(e : ∀ i,i<n -> ¬ (k1 i=a/\k2 i=r)):Runs P f o w z:=by
 unfold Runs execOp;simp only[g,hx,hi,Sem.run_bind,((oo (ok:=false) d h j c k).1 e),Result.andThen_ok,Sem.run_pure]; rfl
theorem KS(k:o.op = .lookup T x ix false)(hx:ev f x = .map (some b))(hi:ev f ix=kS a r)(i:En a r)(h:iI w b n k1 k2 val)(l:P.underlying T=some (.map K E))(e:wY P K)(p:(zeroValue E).run P w = .ok z w)(g:j<n)(c:k1 j=a)(d:k2 j=r)(m:val j=v):Runs P f o w v:=by
 subst m;unfold Runs execOp;simp only[k,hx,hi,Sem.run_bind,((oo (ok:=false) i h l e p).2 j g c d),Result.andThen_ok,Sem.run_pure]; rfl
theorem QW(g:o.op = .lookup T x ix true)(hx:ev f x = .map (some b))(hi:ev f ix=kS a r)(d:En a r)(h:iI w b n k1 k2 val)(j:P.underlying T=some (.map K E))(c:wY P K)(k:(zeroValue E).run P w = .ok z w)(e : ∀ i,i<n -> ¬ (k1 i=a/\k2 i=r)):Runs P f o w (.tuple #[z,.bool false]):=by
 unfold Runs execOp;simp only[g,hx,hi,Sem.run_bind,((oo (ok:=true) d h j c k).1 e),Result.andThen_ok,Sem.run_pure]; rfl
theorem QX(k:o.op = .lookup T x ix true)(hx:ev f x = .map (some b))(hi:ev f ix=kS a r)(i:En a r)(h:iI w b n k1 k2 val)(l:P.underlying T=some (.map K E))(e:wY P K)(p:(zeroValue E).run P w = .ok z w)(g:j<n)(c:k1 j=a)(d:k2 j=r)(m:val j=v):Runs P f o w (.tuple #[v,.bool true]):=by
 subst m;unfold Runs execOp;simp only[k,hx,hi,Sem.run_bind,((oo (ok:=true) i h l e p).2 j g c d),Result.andThen_ok,Sem.run_pure]; rfl
end
section
variable {P:Program} {w:World} {b n:Nat} {k1 k2:Nat->Int} {val:Nat->Value} {K:TypeId}
theorem yU{T E:TypeId}{x y:Int}{v:Value}(u:En x y)(h:iI w b n k1 k2 val)(L:P.underlying T=some (.map K E))(I:wY P K) :
 (∀ j,j<n->k1 j=x->k2 j=y -> ∃ w',(Instr.mapUpdate T (.map (some b)) (kS x y) v).run P w = .ok () w'/\iI w' b n k1 k2 (aO val j v)/\Stp b w w'/\w'.heap.size=w.heap.size) /\
 ((∀ i,i<n -> ¬ (k1 i=x/\k2 i=y)) -> ∃ w',(Instr.mapUpdate T (.map (some b)) (kS x y) v).run P w = .ok () w'/\iI w' b (n+1) (aO k1 n x) (aO k2 n y) (aO val n v)/\Stp b w w'/\w'.heap.size=w.heap.size):=by
 have V:=h;obtain⟨g,c,d,G,m,p⟩:=V;have J:=I.check u false w
 rcases h.find I d u with ⟨t,H⟩|⟨j,o,hkj,TJ,t⟩
 ·refine⟨fun j o e f=>N_ ⟨e,f⟩ (H j o),fun _ => ?_⟩;obtain⟨B,C,D⟩:=Jw (o' := .map (g.push { key:=kS x y,val:=v,born:=c }) (c+1)) d;have A:(Instr.mapUpdate T (.map (some b)) (kS x y) v).run P w = .ok () { w with heap:=w.heap.setIfInBounds b (.map (g.push { key:=kS x y,val:=v,born:=c }) (c+1)) }:=by
   unfold Instr.mapUpdate;simp only[Sem.run_bind,run_underlying L,Result.andThen_ok,Go.MapKept.run_getObj_map d,J,t];exact run_setObj_map _ d
  refine⟨_,A,⟨_,_,B,stamped_push G fun q r e => ?_,by simp[m],fun i hi => ?_⟩,C,D⟩
  ·obtain⟨i,hi,S⟩:=List.getElem_of_mem r;obtain⟨z,k,l,_⟩:=p i (by simpa [<- m] using hi);have F:g.toList[i]? = some q:=(by rw[o_ hi,S]);rw[Array.getElem?_toList,k]at F;obtain rfl:=C_ F;rw[l]at e;exact H i (by simpa [<- m] using hi) (Nw e)
  by_cases e:i=n
  ·subst e;refine⟨_,by rw[Array.getElem?_push,d_ m.symm],?_,?_,?_⟩
   ·show kS x y=_; unfold aO; rw[d_ rfl,d_ rfl]
   ·show v=_; unfold aO; rw[d_ rfl]
   unfold aO; rw[d_ rfl,d_ rfl]; exact u
  obtain⟨z,k,l,Q,O⟩:=p i (by omega);refine⟨z,by rw[Array.getElem?_push,b_ (by omega)]; exact k,?_,?_,?_⟩
  ·unfold aO; rw[b_ e,b_ e]; exact l
  ·unfold aO; rw[b_ e]; exact Q
  unfold aO; rw[b_ e,b_ e]; exact O
 refine⟨fun a U e f => ?_,fun W=>N_ ⟨hkj,TJ⟩ (W j o)⟩;obtain rfl:a=j:=h.inj a j U o (e.trans hkj.symm) (f.trans TJ.symm);obtain⟨z,k,l,Q,O⟩:=p a o;obtain⟨B,C,D⟩:=Jw (o' := .map (g.modify a fun q => { q with key:=kS x y,val:=v }) c) d;have X:(Instr.keyThatStays (((g[a]?).map (·.key)).getD (kS x y)) (kS x y)).run P w = .ok (kS x y) w:=by
  rw[k];show(Instr.keyThatStays z.key (kS x y)).run P w=_;rw[l,e,f];unfold Instr.keyThatStays;rw[d_ (KP x y)]; rfl
 have A:(Instr.mapUpdate T (.map (some b)) (kS x y) v).run P w = .ok () { w with heap:=w.heap.setIfInBounds b (.map (g.modify a fun q => { q with key:=kS x y,val:=v }) c) }:=by
  unfold Instr.mapUpdate;simp only[Sem.run_bind,run_underlying L,Result.andThen_ok,Go.MapKept.run_getObj_map d,J,t,X];exact run_setObj_map _ d
 refine⟨_,A,⟨_,_,B,stamped_modify G a _ (fun _ _=>rfl) (fun q _ r => ?_),by simp[m],fun i hi => ?_⟩,C,D⟩
 ·rw[k]at r;obtain rfl:=C_ r;show kS x y=z.key;rw[l,e,f]
 obtain⟨R,M,Y,Z,N⟩:=p i hi;by_cases s:a=i
 ·subst s;refine⟨{ R with key:=kS x y,val:=v },by rw[Array.getElem?_modify,d_ rfl,M]; rfl,?_,?_,N⟩
  ·show kS x y=_; rw[e,f]
  show v=_; unfold aO; rw[d_ rfl]
 refine⟨R,by rw[Array.getElem?_modify,b_ s]; exact M,Y,?_,N⟩;unfold aO; rw[b_ (fun h=>s h.symm)]; exact Z
end
section
variable {P:Program} {n0:Nat} {Q:Post} {f:Nat->Value} {w:World} {ops:Array Oper} {rest:List Oper} {o:Oper} {b n:Nat} {k1 k2:Nat->Int} {val:Nat->Value} {T K E:TypeId} {x ix v:Operand} {a r:Int} {u:Value} {j:Nat}
theorem L.ahD(B:Region.wanted o (yf ops f)=true)(c:o.dst=none)(s:o.op = .mapUpdate T x ix v)(hx:ev f x = .map (some b))(hi:ev f ix=kS a r)(q:En a r)(A:ev f v=u)(h:iI w b n k1 k2 val)(z:P.underlying T=some (.map K E))(l:wY P K)(p:j<n)(d:k1 j=a)(e:k2 j=r)
 (m : ∀ w',iI w' b n k1 k2 (aO val j u)->Stp b w w'->w'.heap.size=w.heap.size->L P n0 ops Q rest f w'):L P n0 ops Q (o::rest) f w:=by
 obtain⟨w',t,g,i,k⟩:=(yU (v:=u) q h z l).1 j p d e;have y:(execOp (ev f) o).run P w = .ok .skip w':=by
  unfold execOp;simp only[s,hx,hi,A,Sem.run_bind,t,Result.andThen_ok,Sem.run_pure]
 refine L.unit B y (by rw[c]; rfl) ?_;rw[c]; exact m w' g i k
theorem L.TK(z:Region.wanted o (yf ops f)=true)(c:o.dst=none)(p:o.op = .mapUpdate T x ix v)(hx:ev f x = .map (some b))(hi:ev f ix=kS a r)(l:En a r)(y:ev f v=u)(h:iI w b n k1 k2 val)(t:P.underlying T=some (.map K E))(j:wY P K)(m : ∀ i,i<n -> ¬ (k1 i=a/\k2 i=r))
 (k : ∀ w',iI w' b (n+1) (aO k1 n a) (aO k2 n r) (aO val n u)->Stp b w w'->w'.heap.size=w.heap.size->L P n0 ops Q rest f w'):L P n0 ops Q (o::rest) f w:=by
 obtain⟨w',q,d,e,g⟩:=(yU (v:=u) l h t j).2 m;have s:(execOp (ev f) o).run P w = .ok .skip w':=by
  unfold execOp;simp only[p,hx,hi,y,Sem.run_bind,q,Result.andThen_ok,Sem.run_pure]
 refine L.unit z s (by rw[c]; rfl) ?_;rw[c]; exact k w' d e g
theorem L.TL{T:TypeId}(e:Region.wanted o (yf ops f)=true)(b:inn n0 o.dst=true)(c:o.op = .makeMap T none)
 (a : ∀ g w',g=w.heap.size->iI w' g 0 (fun _=>0) (fun _=>0) (fun _ => .pointer none)->Stp w.heap.size w w'->w'.heap.size=w.heap.size+1->L P n0 ops Q rest (put f o.dst (.map (some g))) w'):L P n0 ops Q (o::rest) f w:=by
 have d:(execOp (ev f) o).run P w = .ok (.value (.map (some w.heap.size))) (w.alloc (.map #[] 0)):=by
  unfold execOp;simp only[c,Option.map_none];simp[run_makeMap']
 refine L.val e d b (a _ _ rfl ?_ (Stp.alloc _ _) (by simp));exact⟨#[],0,by rw[alloc_at,d_ rfl],stamped_empty 0,rfl,fun i hi=>N_ hi (z_ _)⟩
theorem L.adj(J:Region.wanted o (yf ops f)=true)(A:inn n0 o.dst=true)(D:o.op = .range T x)(hx:ev f x = .map (some b))(h:iI w b n k1 k2 val)(I:P.underlying T=some (.map K E))
 (l : ∀ g w',g=w.heap.size->It w' g b n (fun _=>false)->Stp w.heap.size w w'->w'.heap.size=w.heap.size+1->L P n0 ops Q rest (put f o.dst (.pointer (some ⟨g,0,none⟩))) w'):L P n0 ops Q (o::rest) f w:=by
 have C:=h;obtain⟨d,c,p,m,u,v⟩:=C;have G:=run_range_map (P:=P) w T K E b d c I p;have H:(execOp (ev f) o).run P w = .ok (.value (.pointer (some ⟨w.heap.size,0,none⟩))) (w.alloc (.mapIter (some b) c #[] c)):=by
  unfold execOp;simp only[D,hx,Sem.run_bind,G,Result.andThen_ok,Sem.run_pure]
 refine L.val J H A (l _ _ rfl ?_ (Stp.alloc _ _) (by simp));refine⟨d,c,c,#[],c,?_,by rw[alloc_at,d_ rfl],m.1,A_ _,u,m.1,A_ _,fun i j x y hx k e => ?_,fun i hi => ?_⟩
 ·rw[alloc_at,b_ (u_ h.lt)]; exact p
 ·rw[t_]at hx k;obtain⟨r,hx⟩:=hx;obtain⟨s,k⟩:=k;have F:=List.pairwise_iff_getElem.1 m.2.1;have t : ∀ a c (q:a<d.size) (l:c<d.size),a<c->d[a].born≠d[c].born:=fun a c q l z=>by
   have:=F a c (by simpa using q) (by simpa using l) z
   simpa only[List.getElem_map,Array.getElem_toList] using this
  rcases Nat.lt_trichotomy i j with h5|h5|h5
  ·exact N_ (by rw[hx,k,e]) (t i j r s h5)
  ·exact h5
  exact N_ (by rw[hx,k,e]) (t j i s r h5)
 obtain⟨e,B,_⟩:=v i hi;exact⟨e,B,by simp⟩
theorem L.ahE{x:Operand}{r:Nat}{S:Nat->Bool}(R:Region.wanted o (yf ops f)=true)(K:inn n0 o.dst=true)(M:o.op = .next x false)(hx:ev f x = .pointer (some ⟨r,0,none⟩))(h:iI w b n k1 k2 val)(hi:It w r b n S)
 (hc0:(∀ i,i<n->S i=true)->L P n0 ops Q rest (put f o.dst (.tuple #[.bool false])) w)
 (hc1 : ∀ i w',i<n->S i=false->It w' r b n (aO S i true)->BA w' r b i->Stp r w w'->w'.heap.size=w.heap.size->L P n0 ops Q rest (put f o.dst (.tuple #[.bool true,kS (k1 i) (k2 i),val i])) w'):L P n0 ops Q (o::rest) f w:=by
 obtain⟨g,c,d,a,W,l,s,H,Z,h5,h6,I,J,C⟩:=hi;obtain⟨es',c',G,kst,_,k4⟩:=h;rw[l]at G;simp only[Option.some.injEq,Obj.map.injEq]at G;obtain⟨rfl,rfl⟩:=G;have hrb:r≠b:=fun e=>by rw[e,l]at s; cases s
 rcases run_next_at (P:=P) w o.type r b d W a g c s l H Z with ⟨z,E⟩|⟨e,he,w1,hw1,E⟩
 ·have t:(execOp (ev f) o).run P w = .ok (.value (.tuple #[.bool false])) w:=by
   unfold execOp;simp only[M,hx,Sem.run_bind,E,Result.andThen_ok,Sem.run_pure]
  refine L.val R t K<|hc0 fun i hi => ?_;obtain⟨y,u,F⟩:=C i hi;rw[<- F]
  cases hq:a.contains y.born with
  | true=>rfl
  | false =>
    have q:y∈leftOf g a:=by
     unfold leftOf;rw[Array.mem_filter];exact⟨Array.mem_of_getElem? u,by rw[hq]; rfl⟩
    have:=Array.size_pos_of_mem q;omega
 have t:(execOp (ev f) o).run P w = .ok (.value (.tuple #[.bool true,e.key,e.val])) (Go.ChangeMaps.setBlock w1 r (.mapIter (some b) d (a.push e.born) c)):=by
  unfold execOp;simp only[M,hx,Sem.run_bind,E,Result.andThen_ok,Sem.run_pure]
 have q:e∈leftOf g a:=Array.mem_toList_iff.1 he;unfold leftOf at q;rw[Array.mem_filter]at q;obtain⟨hme,hns⟩:=q;obtain⟨i,hi,Y⟩:=Array.getElem_of_mem hme;have m:g[i]? = some e:=by rw[Array.getElem?_eq_getElem hi,Y]
 obtain⟨y,u,ky,vy,_⟩:=k4 i (by omega);rw[m]at u;obtain rfl:=C_ u;obtain⟨y2,T,F⟩:=C i (by omega);rw[m]at T;obtain rfl:=C_ T;have hsf:S i=false:=by rw[<- F]; simpa using hns
 have p:w1.os=w.os/\w1.tape=w.tape/\w1.output=w.output/\w1.heap=w.heap:=by rcases hw1 with rfl|rfl <;> exact⟨rfl,rfl,rfl,rfl⟩
 have O:(Go.ChangeMaps.setBlock w1 r (.mapIter (some b) d (a.push e.born) c)).heap.size=w.heap.size:=by
  show(w1.heap.setIfInBounds r _).size=_; rw[p.2.2.2]; simp
 have N:Stp r w (Go.ChangeMaps.setBlock w1 r (.mapIter (some b) d (a.push e.born) c)) :=
  ⟨p.1,p.2.1,p.2.2.1,by rw[O]; exact A_ _,fun k _ D=>by show(w1.heap.setIfInBounds r _)[k]? = _; rw[p.2.2.2,Array.getElem?_setIfInBounds_ne (Ne.symm D)]⟩
 have adi:r<w1.heap.size:=by
  rcases hw1 with rfl|rfl <;> exact(t_.1 s).1
 rw[ky,vy]at t;have U:(Go.ChangeMaps.setBlock w1 r (.mapIter (some b) d (a.push e.born) c)).heap[b]? = some (.map g c):=by rw[N.block b (t_.1 l).1 (Ne.symm hrb)]; exact l
 have V:(Go.ChangeMaps.setBlock w1 r (.mapIter (some b) d (a.push e.born) c)).heap[r]? = some (.mapIter (some b) d (a.push e.born) c):=by simp[Go.ChangeMaps.setBlock,adi]
 refine L.val R t K (hc1 i _ (by omega) hsf ⟨g,c,d,a.push e.born,c,U,V,H,I,h5,h6,I,J,fun j hj => ?_⟩ ⟨g,c,d,a,e,U,V,m,kst.2.1⟩ N O);obtain⟨A,v,hs3⟩:=C j hj;refine⟨A,v,?_⟩;unfold aO;by_cases B:j=i
 ·subst B;rw[m]at v;obtain rfl:=C_ v;rw[d_ rfl]; simp
 rw[b_ B,<- hs3];have D:A.born≠e.born:=fun X=>B (J j i A e v m X)
 cases hq:a.contains A.born with
 | true=>simp at hq ⊢; exact .inl hq
 | false=>simp at hq ⊢; exact⟨hq,D⟩
theorem TM{x:Operand}{r i:Nat}(q:o.op = .entry x)(hx:ev f x = .pointer (some ⟨r,0,none⟩))(h:iI w b n k1 k2 val)(hi:BA w r b i)(p:i<n):Runs P f o w (.tuple #[kS (k1 i) (k2 i),val i]):=by
 obtain⟨k,c,s,z,e,d,l,g,m⟩:=hi;obtain⟨C,B,a,_,_,u⟩:=h;rw[d]at a;simp only[Option.some.injEq,Obj.map.injEq]at a;obtain⟨rfl,rfl⟩:=a;obtain⟨y,j,v,A,_⟩:=u i p;rw[g]at j;obtain rfl:=C_ j;have t:=run_entry_at (P:=P) w r b s z k c e l d (Array.mem_toList_iff.2 (Array.mem_of_getElem? g)) m;unfold Runs execOp;simp only[q,hx,Sem.run_bind,t,Result.andThen_ok,Sem.run_pure,v,A]
end
end Go.Proofs.YtcbedgfikejkoaaGreatDoor.Fx
namespace Go.Proofs.YtcbedgfikejkoaaGreatDoor
open Go.RowKit Go
namespace Rgq
def O8{c:Type}(q:Nat)(J:c->World->Prop):Prop := ∀ s W a b,J s W->W.grownBy a b->(∀ r,b=some r->r=q)->J s a
def ahG{d:Type}(F:Fence)(n:Nat)(P:Program)(g:Nat)(lb:Array Value)(j:d->Array Value)(i:World->World->Prop)(S:List d->Prop)(N q:Nat)(h:World->Prop):Prop :=
 ∀(l:Nat) (J:List d->World->Prop) (W:World),h W->O8 q J ->
  (∀ c x b,J c b->c.length<N->YieldAt F (n-1) P l (j x) b fun e a=>e = .returned (.bool true)/\J (c ++ [x]) a/\i b a) ->
  J [] W ->
  CallsIn F n P g (#[.func (.yield l) #[] #[]]++lb) W fun e a=>(∃ v,e = .returned v) /\ ∃ f,S f/\J f a
def QY{c:Type}(q B:Nat)(I:c->World->Prop):Prop :=
 ∀ s W a b,I s W->W.grownBy a b->(∀ r,b=some r->r=q\/(B<=r /\ ∃ o:Obj,W.heap[r]? = some o/\o.isCells=false))->I s a
variable {F:Fence} {n:Nat} {P:Program}
theorem QY.putObj{a:Type}{q B:Nat}{I:a->World->Prop}(h:QY q B I){s:a}{W:World}{l:Nat}{o:Obj}(o':Obj)(f:I s W)(b:B<=l)(c:W.heap[l]? = some o)(d:o.isCells=false):I s (W.putObj l o') :=
 h s W _ (some l) f (grownBy_putObj' W l o') (fun r e=>by cases e; exact .inr ⟨b,o,c,d⟩)
theorem QY.alloc{a:Type}{q B:Nat}{I:a->World->Prop}(h:QY q B I){s:a}{W:World}(o:Obj)(b:I s W):I s (W.alloc o) :=
 h s W _ none b (World.grownBy_alloc W o none) (fun r e=>by cases e)
def ahH{a:Type}(b:World->World->Prop)(I:List a->World->Prop)(c:List a)(W:World):Exit->Act->World->Prop
 | .normal,_,W'=>KeepsOthers W W'/\b W W'/\I c W'
 | _,_,_=>False
theorem H8{W a:World}{q:Nat}{row:Option Nat}(b:W.grownBy a row)(f : ∀ r,row=some r->r=q){k:Nat}{o:Obj}(c:W.heap[k]? = some o)(d:k≠q):a.heap[k]? = W.heap[k]? :=
 b.block k (t_.1 c).1 fun e=>d (f k e.symm)
theorem Eo{α:Type}{g:Operand}{ps:Array Tmp}{assign body:Code}{Q:Exit->Act->World->Prop}{a:Act}{w:World}
 (hro:F.round=none) (h1:1<=n) {gf:Nat} {lb:Array Value} (hg:a.eval g = .func (.func gf) #[] lb) (hFg:F.fn gf) (eg : ∀ args w,(callFunc gf args).run P w = .ok (.enter gf args) w)
 {encs:α->Array Value} {Kp:World->World->Prop} {S:List α->Prop} {N q:Nat} {Ip:World->Prop} (hseq:ahG F (n-1) P gf lb encs Kp S N q Ip) (hq:q<w.heap.size)
 (hIp:Ip w) (Ny : ∀ W o,w.heap.size<=W.heap.size->Ip W->Ip (W.alloc o))
 (hKt : ∀ {A B C:World},Kp A B->Kp B C->Kp A C) (hKb : ∀(W:World) (l:Nat) (o o':Obj),w.heap.size<=l->W.heap[l]? = some o->o.isCells=false->o.isWalk=false->Kp W (W.putObj l o')) (hps : ∀ x,(encs x).size=ps.size)
 (I:List α->World->Prop) (hI:QY q w.heap.size I) (h0:I [] w) (A₁:α->Act->Prop)
 (hassign : ∀(l:Nat) (x:α) (W:World),assign.wpIn (F.inRound l) (n-1-1) P (Exit.then (fun a' W'=>A₁ x a'/\W'=W) (fun _ _ _=>False)) { tmps:=(ps.zip (encs x)).foldl (fun t (p,v)=>t.setIfInBounds p v) a.tmps,defers := [] } W)
 (hbody : ∀(l:Nat) (pre:List α) (x:α) (W:World) (a':Act),A₁ x a'->I pre W->pre.length<N->body.wpIn (F.inRound l) (n-1-1) P (ahH Kp I (pre ++ [x]) W) a' W)
 (hdone : ∀(D:Nat) (xs:List α) (W:World),w.heap.size<=D->S xs->I xs W->W.heap[D]? = some (.deferred (some []))->Q .normal { a with defers := { target := .collected D,args := #[] }::a.defers } W) :
 (Code.rangeFunc g ps assign body).wpIn F n P Q a w:=by
 refine wpIn_rangeFunc ?_;intro fn hfn;rw[hro];obtain⟨rec,hrec⟩ : ∃ rec:LoopState->Option Code->Loop,rec=fun st pe => { state:=st,pending:=pe,fn,tmps:=a.tmps,params:=ps,assign,body,defers:=w.heap.size }:=⟨_,rfl⟩;obtain⟨W1,hW1⟩ : ∃ W1,(w.alloc (.deferred (some []))).alloc (.loop (rec .ready none))=W1:=⟨_,rfl⟩;have hL1:W1.heap[w.heap.size+1]? = some (.loop (rec .ready none)):=by
  rw[<- hW1]; have:=World.alloc_heap_new (w.alloc (.deferred (some []))) (.loop (rec .ready none)); rwa [World.size_alloc]at this
 have hK1:W1.heap[w.heap.size]? = some (.deferred (some [])):=by
  rw[<- hW1]; exact(Below.heap_alloc _ _ _ (by simp)).trans (World.alloc_heap_new w _)
 have hI1:I [] W1:=by rw[<- hW1]; exact hI.alloc _ (hI.alloc _ h0)
 have hp1:Ip W1:=by rw[<- hW1]; exact Ny _ _ (by simp) (Ny _ _ (A_ _) hIp)
 refine⟨w.heap.size+1,[{ target := .collected w.heap.size,args := #[] }],W1,{ target := .fn (.func gf) lb,args := #[.func (.yield (w.heap.size+1)) #[] #[]] },W1,gf,
  #[.func (.yield (w.heap.size+1)) #[] #[]]++lb,W1,?_,?_,?_,?_,fun _=>h1,?_⟩
 ·rw[<- hW1,hrec]; exact run_enterLoop_outer _ _ _ _ _
 ·simp only[resolve,hg];simp[go_sem]
 ·intro f' hf'; simp[Target.leads]at hf'; subst hf'; exact hFg
 ·simp[invoke,go_sem,eg]
 refine(hseq (w.heap.size+1)
  (fun pre W=>I pre W/\W.heap[w.heap.size+1]? = some (.loop (rec .ready none))/\W.heap[w.heap.size]? = some (.deferred (some [])))
  W1 hp1
  (fun s A B row hs hg' hr=>⟨hI s A B row hs.1 hg' (fun r e => .inl (hr r e)),(H8 hg' hr hs.2.1 (by omega)).trans hs.2.1,(H8 hg' hr hs.2.2 (by omega)).trans hs.2.2⟩)
  ?_ ⟨hI1,hL1,hK1⟩).mono ?_
 ·-- one round
  rintro pre x W ⟨hi,hl,hk⟩ hlen;have hlt:w.heap.size+1<W.heap.size:=(t_.1 hl).1;have hy:=run_yield (P:=P) (args:=encs x) hl (by rw[hrec]; exact hps x);rw[hrec]at hy;refine⟨fn,_,assign,body,hy,roundIn_of_wpIn hfn (wpIn_mono (hassign _ x W) ?_)⟩;rintro e1 a1 w1 hq1
  cases e1 with
  | exit id=>exact hq1.elim
  | goto t=>exact hq1.elim
  | ret=>exact hq1.elim
  | panic ch=>exact hq1.elim
  | outgrown=>exact hq1.elim
  | normal =>
  obtain⟨hA1,ew⟩:=hq1;rw[ew];refine⟨_,run_beginRound hl (by rw[hrec]),?_⟩;have hl2:(W.putObj (w.heap.size+1) (.loop { rec .ready none with state := .busy })).heap[w.heap.size+1]? = some (.loop { rec .ready none with state := .busy }):=World.putObj_heap_same hlt;have hk2:(W.putObj (w.heap.size+1) (.loop { rec .ready none with state := .busy })).heap[w.heap.size]? = some (.deferred (some [])):=(World.putObj_heap_other (by omega)).trans hk;have hw2:Kp W (W.putObj (w.heap.size+1) (.loop { rec .ready none with state := .busy })):=hKb _ _ _ _ (by omega) hl rfl rfl;refine wpIn_mono (hbody _ pre x _ a1 hA1 (hI.putObj _ hi (by omega) hl rfl) hlen) ?_;rintro e a3 W3 hp
  cases e with
  | normal =>
    obtain⟨hk3,hkp3,hi3⟩:=hp;have hl3:=hk3.same _ _ hl2 rfl;have hr:=run_endRound (P:=P) none hl3;rw[hrec]at hr hl3;refine⟨_,_,hr,rfl,⟨hI.putObj _ hi3 (by omega) hl3 rfl,?_,(World.putObj_heap_other (by omega)).trans (hk3.same _ _ hk2 rfl)⟩,hKt (hKt hw2 hkp3) (hKb _ _ _ _ (by omega) hl3 rfl rfl)⟩;rw[hrec]; exact World.putObj_heap_same (t_.1 hl3).1
  | ret=>exact hp.elim
  | exit id=>exact hp.elim
  | goto t=>exact hp.elim
  | panic ch=>exact hp.elim
  | outgrown=>exact hp.elim
 rintro e W2 ⟨⟨v,rfl⟩,xs,hS,hi,hl,hk⟩;exact⟨none,_,by have:=run_endLoop (P:=P) hl (by rw[hrec]; simp); rw[hrec]at this; exact this,hdone _ xs _ (A_ _) hS (hI.putObj _ hi (by omega) hl rfl) ((World.putObj_heap_other (by omega)).trans hk)⟩
end Rgq
namespace Fx
structure BD(a:Act)(n:Nat)(f:Nat->Value):Prop where
 size:a.tmps.size=n
 get : ∀ i,a.tmps.getD i undef=f i
theorem Fr.to0{a:Act}{n:Nat}{f:Nat->Value}(h:Fr a n f):BD a n f:=⟨h.size,h.get⟩
theorem BD.to{a:Act}{n:Nat}{f:Nat->Value}(h:BD a n f)(b:a.defers = []):Fr a n f:=⟨h.size,b,h.get⟩
theorem BD.ev{a:Act}{n:Nat}{f:Nat->Value}(h:BD a n f):a.eval=Fx.ev f:=by
 funext x
 cases x <;> simp only[Act.eval,Fx.ev]
 exact h.get _
theorem BD.put{a:Act}{n:Nat}{f:Nat->Value}(h:BD a n f){d:Option Nat}(e:inn n d=true)(v:Value):BD (a.put d v) n (Fx.put f d v):=by
 have c:Fr { a with defers := [] } n f:=⟨h.size,rfl,h.get⟩;have b:=c.put e v
 cases d with
 | none=>exact⟨b.size,b.get⟩
 | some d=>exact⟨b.size,b.get⟩
theorem BD.yf{a:Act}{n:Nat}{f:Nat->Value}(h:BD a n f)(ops:Array Oper):yielded ops a.tmps=Fx.yf ops f:=by
 have b:Fr { a with defers := [] } n f:=⟨h.size,rfl,h.get⟩;exact b.yf ops
theorem KT{a:Act}{n p:Nat}{v:Value}{f:Nat->Value}(h:BD (a.put (some p) v) n f):BD { tmps:=(#[p].zip #[v]).foldl (fun t (p,v)=>t.setIfInBounds p v) a.tmps,defers := [] } n f:=by
 have e:(#[p].zip #[v]).foldl (fun t (p,v)=>t.setIfInBounds p v) a.tmps=(a.put (some p) v).tmps:=by simp[Array.zip,Act.put]
 rw[e]; exact⟨h.size,h.get⟩
theorem put_defers(a:Act)(d:Option Nat)(v:Value):(a.put d v).defers=a.defers:=by cases d <;> rfl
def FR(ro:Option Nat):Fence := { Fence.wide with round:=ro }
def kH(o:Oper):Bool:=match o.op with | .defer _=>false|_=>true
def TN(n:Nat)(ds:List Deferred)(Q:Post):Exit->Act->World->Prop:=fun e a w => ∃ f,BD a n f/\a.defers=ds/\Q e f w
section
variable {P:Program} {n m:Nat} {ro:Option Nat} {Q:Post} {f:Nat->Value} {w:World} {o:Oper} {ops:Array Oper} {rest:List Oper}
theorem KU(ro:Option Nat)(ρ:Operand->Value)(h:kH o=true):o.semAt ro ρ=execOp ρ o :=
 Oper.semAt_eq ro ρ o fun c e=>by unfold kH at h; rw[e]at h; cases h
theorem Out.wpIn{a:Act}{K:Value->World->Prop}{d:Act->World->Prop}{j:Exit->Act->World->Prop}(ha:BD a n f)(k:kH o=true)(h:Out P f o w K)(c : ∀ v w',K v w'->d (a.put o.dst v) w'):o.wpIn (FR ro) m P a w d j:=by
 unfold Oper.wpIn;refine⟨fun _ _=>trivial,?_⟩;rw[KU _ _ k,ha.ev]
 rcases h with ⟨v,w',b,h⟩|⟨w',b,h⟩|⟨g,args,b,h⟩
 ·rw[b]; exact c v w' h
 ·rw[b]; exact c undef w' h
 rw[b,Oper.uponIn_enter];refine⟨fun h=>(by cases h),?_⟩
 have r : ∀ R,Calls P g args w R->CallsIn (FR ro) (m-1) P g args w R:=fun R i=>by
  cases ro with
  | none=>exact callsIn_wide.2 i
  | some l=>exact CallsIn.inRound l (callsIn_wide.2 i)
 refine r _<|h.mono fun e w' ⟨v,p,q⟩ => ?_;subst p; exact c v w' q
theorem L.toIn : ∀ {l:List Oper} {f:Nat->Value} {w:World},L P n ops Q l f w->l.all kH=true -> ∀ a,BD a n f->wpListIn (FR ro) m P ops (TN n a.defers Q) l a w
 | [],f,w,h,_,a,ha=>⟨f,ha,rfl,h⟩
 | o::rest,f,w,⟨hd,h⟩,hn,a,ha=>by
   rw[List.all_cons,T_]at hn;unfold wpListIn;rw[ha.yf]
   rcases h with ⟨b,h⟩|⟨b,h⟩
   ·rw[d_ b];exact h.wpIn ha hn.1 fun v w' c=>by have:=L.toIn c hn.2 _ (ha.put hd v); rwa [put_defers]at this
   ·rw[b_ (by rw[b]; decide)];exact⟨fun _ _=>trivial,by have:=L.toIn h hn.2 _ (ha.put hd undef); rwa [put_defers]at this⟩
theorem H9{id:Nat}{ops:List Oper}{a:Act}{b:Exit->Act->World->Prop}(ha:BD a n f)(h:L P n ops.toArray Q ops f w)(d:ops.all kH=true:=by rfl)(g : ∀ e c w',TN n a.defers Q e c w'->b e c w'):(Code.region id ops.toArray false).wpIn (FR ro) m P b a w :=
 wpIn_mono (wpIn_region_lit (L.toIn h d a ha)) g
def adk(m:Nat)(P:Program)(f:Nat->Value)(o:Oper)(w:World)(K:Value->World->Prop):Prop :=
 Out P f o w K \/ ∃ l c d a b,(execOp (ev f) o).run P w = .ok (.round l c d a b) w/\RoundIn (FR none) (m-1) P l c d a b w fun e w' => ∃ v,e = .returned v/\K v w'
def Ly(m:Nat)(P:Program)(n:Nat)(ops:Array Oper)(Q:Post):List Oper->(Nat->Value)->World->Prop
 | [],f,w=>Q .normal f w
 | o::rest,f,w=>inn n o.dst=true/\((Region.wanted o (yf ops f)=true/\adk m P f o w fun v w'=>Ly m P n ops Q rest (put f o.dst v) w')\/(Region.wanted o (yf ops f)=false/\Ly m P n ops Q rest (put f o.dst undef) w))
theorem adk.wpIn{a:Act}{K:Value->World->Prop}{b:Act->World->Prop}{g:Exit->Act->World->Prop}(ha:BD a n f)(c:kH o=true)(h:adk m P f o w K)(d : ∀ v w',K v w'->b (a.put o.dst v) w'):o.wpIn (FR none) m P a w b g:=by
 rcases h with h|⟨l,fn,tmps,assign,body,hr,h⟩
 ·exact h.wpIn ha c d
 unfold Oper.wpIn;refine⟨fun _ _=>trivial,?_⟩;rw[KU _ _ c,ha.ev,hr,Oper.uponIn_round];exact⟨fun h=>(by cases h),h.mono fun e w' ⟨v,i,j⟩=>by subst i; exact d v w' j⟩
theorem Ly.to : ∀ {l:List Oper} {f:Nat->Value} {w:World},Ly m P n ops Q l f w->l.all kH=true -> ∀ a,BD a n f->wpListIn (FR none) m P ops (TN n a.defers Q) l a w
 | [],f,w,h,_,a,ha=>⟨f,ha,rfl,h⟩
 | o::rest,f,w,⟨hd,h⟩,hn,a,ha=>by
   rw[List.all_cons,T_]at hn;unfold wpListIn;rw[ha.yf]
   rcases h with ⟨b,h⟩|⟨b,h⟩
   ·rw[d_ b];exact h.wpIn ha hn.1 fun v w' c=>by have:=Ly.to c hn.2 _ (ha.put hd v); rwa [put_defers]at this
   ·rw[b_ (by rw[b]; decide)];exact⟨fun _ _=>trivial,by have:=Ly.to h hn.2 _ (ha.put hd undef); rwa [put_defers]at this⟩
theorem W.abv(m:Nat){id:Nat}{ops:List Oper}(h:Ly m P n ops.toArray Q ops f w)(j:ops.all kH=true:=by rfl):W P n (.region id ops.toArray false) Q f w:=fun a b =>
 (wpIn_wide (n:=m)).1 (wpIn_mono (wpIn_region_lit (Ly.to h j a b.to0)) fun e k w' ⟨c,d,g,i⟩=>⟨c,d.to (g.trans b.defers),i⟩)
theorem Ly.nil(h:Q .normal f w):Ly m P n ops Q [] f w:=h
theorem Ly.v(v:Value)(hr:Runs P f o w v)(h:Ly m P n ops Q rest (put f o.dst v) w)(b:Region.wanted o (yf ops f)=true:=by rfl)(a:inn n o.dst=true:=by rfl):Ly m P n ops Q (o::rest) f w:=⟨a,.inl ⟨b,.inl (.inl ⟨v,w,hr,h⟩)⟩⟩
theorem Ly.skip(b:Region.wanted o (yf ops f)=false)(a:inn n o.dst=true)(h:Ly m P n ops Q rest (put f o.dst undef) w):Ly m P n ops Q (o::rest) f w:=⟨a,.inr ⟨b,h⟩⟩
theorem Ly.call{g:FuncId}{args:Array Value}(b:Region.wanted o (yf ops f)=true)(hr:(execOp (ev f) o).run P w = .ok (.enter g args) w)(a:inn n o.dst=true)
 (h:Calls P g args w fun e w' => ∃ v,e = .returned v/\Ly m P n ops Q rest (put f o.dst v) w'):Ly m P n ops Q (o::rest) f w:=⟨a,.inl ⟨b,.inl (.inr (.inr ⟨g,args,hr,h⟩))⟩⟩
theorem Ly.yield{l:Nat}{x:Operand}{a:List Operand}{args:List Value}{b:Array TypeId}{R:Ending->World->Prop}(q:Region.wanted o (yf ops f)=true)(k:o.op = .call { callee := .value x,args:=a.toArray,argTypes:=b })(hx:ev f x = .func (.yield l) #[] #[])(r:a.map (ev f)=args)(j:inn n o.dst=true)
 (hy:YieldAt (FR none) (m-1) P l args.toArray w R) (h : ∀ e w',R e w' -> ∃ v,e = .returned v/\Ly m P n ops Q rest (put f o.dst v) w'):Ly m P n ops Q (o::rest) f w:=by
 obtain⟨g,s,c,d,p,i⟩:=hy;refine⟨j,.inl ⟨q,.inr ⟨l,g,s,c,d,?_,i.mono h⟩⟩⟩;unfold execOp;simp only[k];unfold resolve;simp only[Sem.run_bind,List.map_toArray,r,hx,Deferred.ofValue,Sem.run_pure,Result.andThen_ok];unfold invoke;have e:(#[]++args.toArray:Array Value)=args.toArray:=by simp
 show(Instr.yield l (#[]++args.toArray)).run P w=_;rw[e];exact p
theorem TP{a:Act}(h:BD a n f)(b:Func):results b a.tmps=BI b f:=by
 have c:Fr { a with defers := [] } n f:=⟨h.size,rfl,h.get⟩;exact OU c b
theorem leave1{a:Act}{b:Func}{R:Ending->World->Prop}{D:Nat}{v:Value}(h:BD a n f)(e:a.defers = [{ target := .collected D,args := #[] }])(c:w.heap[D]? = some (.deferred (some [])))
 (g:(BI b f).run P (w.putObj D (.deferred none)) = .ok v (w.putObj D (.deferred none))) (d:R (.returned v) (w.putObj D (.deferred none))):bodyPostM (FR none) m P b R .ret a w:=by
 show LeavesInM (FR none) m P b a.tmps R a.defers .returning w;rw[e];exact⟨by simp,.inl ⟨D,_,rfl,run_takeDeferred c,v,by rw[TP h]; exact g,d⟩⟩
end
end Fx
end Go.Proofs.YtcbedgfikejkoaaGreatDoor
namespace Go.Proofs.YtcbedgfikejkoaaGreatDoor
open Go.RowKit Rt
abbrev bM(g n c:Nat):Value := .slice (some ⟨g,0,none⟩) n c
theorem pR{k:IntKind}{a b:Int}(h:a=b):Ending.returned (.int k a) = .returned (.int k b):=by rw[h]
theorem iF{a b:Bool}(h:a=b):Ending.returned (.bool a) = .returned (.bool b):=by rw[h]
abbrev pt(g:Nat):Value := .pointer (some ⟨g,0,none⟩)
abbrev pf(g o:Nat):Value := .pointer (some ⟨g,o,none⟩)
theorem Fx.ic{k:IntKind}{a b:Int}(h:a=b:=by first|rfl|omega):Value.int k a = .int k b:=M_ _ h
theorem Fx.io{a c:Int}(h : -9223372036854775808<=c/\c<=9223372036854775807:=by omega)(e:a=c:=by omega):IntKind.i64.wrap a=c:=Fx.iM h e
theorem Fx.aQ.ne{w:World}{g n:Nat}{x:Nat->Value}{T:TypeId}(h:Fx.aQ w g n x T):g≠w.heap.size:=u_ h.lt
namespace Rt
def mx:Int:=1125899906842624
def A8(n:Int):Bool:=decide (0<=n)&&decide (n<=1125899906842624)
def mP(l:List Int):Bool:=l.all A8
def nG(l:List Int):Int × Bool:=if mP l then(l.sum,true)else(0,false)
theorem Ep(l:List Int)(k:Nat)(h:k<l.length):mP (l.take (k+1))=(mP (l.take k)&&A8 l[k]):=by
 unfold mP; rw[List.take_succ_eq_append_getElem h,List.all_append]; simp
theorem He(l:List Int)(k:Nat)(h:k<l.length):(l.take (k+1)).sum=(l.take k).sum+l[k]:=by
 rw[List.take_succ_eq_append_getElem h,List.sum_append]; simp
theorem CQ : ∀(l:List Int),mP l=true->0<=l.sum/\l.sum<=1125899906842624*(l.length:Int)
 | [],_=>by simp
 | x::l,h=>by
   unfold mP at h;rw[List.all_cons,T_]at h;have:=CQ l h.2;have a:=h.1;unfold A8 at a;simp at a;rw[List.sum_cons,List.length_cons];omega
theorem wZ(l:List Int):0<=(nG l).1/\(nG l).1<=1125899906842624*(l.length:Int):=by
 unfold nG;by_cases h:mP l=true
 ·rw[d_ h]; exact CQ l h
 rw[b_ h]; simp; omega
theorem Hf{l:List Int}{k:Nat}(a:k<l.length)(h:A8 l[k]=false):mP l=false:=by
 unfold mP;rw[List.all_eq_false];exact⟨l[k],R_ a,by simpa using h⟩
def G(x:Nat->Int)(i:Nat):Int:=x i
def C(x:Nat->Int)(i:Nat):Int:=x (6+i)
def F(x:Nat->Int)(i:Nat):Int:=x (12+i)
def R(x:Nat->Int)(i j:Nat):Int:=x (18+i*6+j)
def outs(x:Nat->Int)(k:Nat):Nat->List Int
 | 0 => [C x k]
 | j+1=>outs x k j ++ [R x k j]
def ins(x:Nat->Int)(k:Nat):Nat->List Int
 | 0 => [G x k,F x k]
 | j+1=>ins x k j ++ [R x j k]
def localM(x:Nat->Int)(k:Nat):Int × Bool:=((nG (ins x k 6)).1-(nG (outs x k 6)).1,(nG (outs x k 6)).2&&(nG (ins x k 6)).2)
theorem QZ(x:Nat->Int)(k:Nat):(outs x k 6).length=7:=rfl
theorem TQ(x:Nat->Int)(k:Nat):(ins x k 6).length=8:=rfl
end Rt
def RdI(k:IntKind)(w:World)(a:Option Addr)(l:List Int):Prop :=
 ∀ i (h:i<l.length),∃ b c,a=some ⟨b,c,none⟩/\w.cell? ⟨b,c+i,none⟩=some (.int k l[i])
end Go.Proofs.YtcbedgfikejkoaaGreatDoor
namespace Go.Proofs.YtcbedgfikejkoaaGreatDoor.Fx
open Go.RowKit
def TR(I:(Nat->Value)->World->Prop)(Q:Post):Post:=fun e f w=>match e with | .normal=>I f w|e=>Q e f w
section
variable {P:Program} {n:Nat} {Q:Post} {f:Nat->Value} {w:World} {I:(Nat->Value)->World->Prop}
theorem A9{x y:Code}(I:(Nat->Value)->World->Prop)(h1:W P n x (TR I Q) f w)(b : ∀ f w,I f w->W P n y Q f w):W P n (.seq x y) Q f w :=
 Ws (W.mono h1 fun e f w a=>by
  cases e <;> first|exact b f w a|exact a)
theorem qR(h:I f w):TR I Q .normal f w:=h
theorem jnR(h:Q .ret f w):TR I Q .ret f w:=h
end
end Go.Proofs.YtcbedgfikejkoaaGreatDoor.Fx
namespace Go.Proofs.YtcbedgfikejkoaaGreatDoor
open Go.RowKit Rt
open Fx (fF bf gL gK Lv sN Ln Ws Wr Wk rC Rs Rn Wb Wx DW fP aQ Stp Mp iT dK bU cZ dh gZ iH)
section
namespace Rt
def eB(x:Nat->Int):Nat->Int->Bool
 | 0,_=>false
 | n+1,k=>eB x n k || decide (x n=k)
def iN(x p:Nat->Int):Nat->Int->Int
 | 0,_=>0
 | n+1,k=>if x n=k then p n else iN x p n k
section
variable {x p:Nat->Int} {n j:Nat} {k:Int}
theorem jS : ∀ {n:Nat},j<n->x j=k->eB x n k=true
 | n+1,h,e=>by
   unfold eB;by_cases c:j=n
   ·subst c; rw[f_ e,Bool.or_true]
   ·rw[jS (show j<n by omega) e,Bool.true_or]
theorem zI : ∀ {n:Nat},(∀ i,i<n->x i≠k)->eB x n k=false
 | 0,_=>rfl
 | n+1,h=>by unfold eB; rw[zI fun i hi=>h i (by omega),g_ (h n (by omega))]; rfl
theorem ig : ∀ {n:Nat},eB x n k=true -> ∃ j,j<n/\x j=k
 | n+1,h=>by
   unfold eB at h;rw[Bool.or_eq_true]at h
   rcases h with h|h
   ·obtain⟨j,a,e⟩:=ig h; exact⟨j,by omega,e⟩
   ·exact⟨n,by omega,h_ h⟩
theorem BP(hi : ∀ a b,a<n->b<n->x a=x b->a=b)(h:j<n)(e:x j=k):iN x p n k=p j:=by
 induction n with
 | zero=>omega
 | succ n ih =>
   unfold iN;by_cases c:j=n
   ·subst c; rw[d_ e]
   ·rw[b_ fun d=>c (hi j n (by omega) (by omega) (e.trans d.symm))];exact ih (fun a b f g=>hi a b (by omega) (by omega)) (by omega)
def jK(x p:Nat->Int)(n:Nat):Nat->Int->List Int
 | 0,_ => []
 | d+1,k=>if eB x n k=true then k::jK x p n d (iN x p n k)else []
def jG(x p:Nat->Int)(n:Nat):Nat->Int->Prop
 | 0,k=>eB x n k=false
 | d+1,k=>eB x n k=true->jG x p n d (iN x p n k)
theorem kZ{d:Nat}(h:eB x n k=false):jK x p n d k = []:=by cases d with
 | zero=>rfl
 | succ d=>unfold jK; rw[b_ (by rw[h]; decide)]
theorem Ia{d:Nat}(h:jG x p n d k)(a:eB x n k=true) : ∃ e,d=e+1/\jG x p n e (iN x p n k)/\jK x p n d k=k::jK x p n e (iN x p n k):=by
 cases d with
 | zero=>have h:eB x n k=false:=h; rw[a]at h; cases h
 | succ d=>exact⟨d,rfl,h a,by show(if _ then _ else _)=_; rw[d_ a]⟩
end
structure JF(q:Nat)(J:List Int->World->Prop)(pre:List Int)(w:World):Prop where
 ab:Rgq.O8 q J
 j:J pre w
theorem JF.cu{q:Nat}{J:List Int->World->Prop}{b:List Int}{w w':World}(h:JF q J b w)(a:Stp q w w'):JF q J b w' :=
 ⟨h.ab,h.ab _ w w' (some q) h.j ⟨a.os,a.tape,a.output,a.size,fun k c d=>a.block k c (fun e=>d (by rw[e]))⟩ (fun r e=>(C_ e).symm)⟩
theorem JF.up{q:Nat}{J:List Int->World->Prop}{b:List Int}{w w':World}(h:JF q J b w)(a:Below w.heap.size w w'):JF q J b w' :=
 ⟨h.ab,h.ab _ w w' none h.j ⟨a.os,a.tape,a.output,a.size,fun k c _=>a.block k c⟩ (fun r e=>by cases e)⟩
instance {q:Nat} {J:List Int->World->Prop} {a:List Int} {w w':World}:Rt.Tr w w' (JF q J a w) (JF q J a w'):=⟨fun b h=>h.up b⟩
structure TS(tp mb bt q:Nat)(w w':World):Prop where
 size:w.heap.size<=w'.heap.size
 t:w'.heap[tp]? = w.heap[tp]?
 m:w'.heap[mb]? = w.heap[mb]?
 b:w'.heap[bt]? = w.heap[bt]?
 q:w'.heap[q]? = w.heap[q]?
end Rt
theorem FD(x p:Nat->Int)(n a c:Nat)(k:Int)(w:World)(g:aQ w a 1 (fun _ => .map (some c)) 165)(f:Mp w c n x (fun j=>aC (p j))) :
 Calls Tryz.prog 145 #[(pt a),aC k] w fun e w'=>e = .returned (.bool (eB x n k))/\w'=w:=by
 have i:=g.lt;refine Kent Tryz.func145 19 ?_;refine ay<|av aF<|aD<|Ws<|ay<|av (pt a)<|Lv aF (Fx.lW rfl rfl rfl (by kernel_rfl))<|aD<|aK<|Wk<|sN<|ay<|av (pt a)<|av (pt a)<|av (pt a)<|Lv (.map (some c)) (aM g.aH 0)<|av (aC k) ?_
 rcases Fx.tu x n k with ⟨b,h,d⟩|jH
 ·refine Lv (.tuple #[aC (p b),.bool true]) (Fx.FC (z:=aC 0) rfl rfl rfl f Tryz.underlying108 Tryz.underlying23 (by rfl) h d rfl)<|av (.tuple #[aC (p b),.bool true])<|av (aC (p b))<|av aG<|av (aC (p b))<|av aG<|aD<|ay<|av aG<|av aG<|aD<|Wr<|aJ aG ?_;exact⟨iF (Eq.symm (jS h d)),rfl⟩
 refine Lv (.tuple #[aC 0,.bool false]) (Fx.FB (z:=aC 0) rfl rfl rfl f Tryz.underlying108 Tryz.underlying23 (by rfl) jH)<|av (.tuple #[aC 0,.bool false])<|av (aC 0)<|av aF<|av (aC 0)<|av aF<|aD<|ay<|av aF<|av aF<|aD<|Wr<|aJ aF ?_;exact⟨iF (Eq.symm (zI jH)),rfl⟩
theorem ani(f:Nat)(k:Int)(w:World) :
 Calls Tryz.prog 93 #[(pt f),aC k] w fun e w' => ∃ c q,e = .returned (.func (.func 144) #[] #[(pt c),(pt q)])/\w.heap.size<=c/\w.heap.size<=q/\aQ w' c 1 (fun _=>(pt f)) 107/\aQ w' q 1 (fun _=>aC k) 23/\Below w.heap.size w w':=by
 refine Kent Tryz.func93 6 ?_;refine ay<|yD (pt f) fun a v l d p y => ?_;have g:=bB p.old (Below.refl w.heap.size w);have m:=gN l;have t:=d.lt;refine yD (aC k) fun b x h i r z => ?_;have⟨o,j⟩:=fC r.old d g;have n:=iK h g.size;have s:=cO h d.lt;have u:=i.lt;refine av (.nilFunc)<|aD<|ay<|Lv (.func (.func 144) #[] #[(pt a),(pt b)]) (Fx.mG (us := []) (vs := [(pt a),(pt b)]) rfl rfl rfl)<|av (.func (.func 144) #[] #[(pt a),(pt b)])<|aD<|Wr<|aJ (.func (.func 144) #[] #[(pt a),(pt b)]) ?_;exact⟨a,b,rfl,m,n,o,i,j⟩
theorem ahI(J:List Int->World->Prop)(l g o r q n u:Nat)(x p:Nat->Int)(k:Int)(w:World)(hT:aQ w g 1 (fun _ => .map (some o)) 165)(hM:Mp w o n x (fun j=>aC (p j)))(hB:aQ w r 1 (fun _=>(pt g)) 107)(S:aQ w q 1 (fun _=>aC k) 23)(hinj : ∀ a b,a<n->b<n->x a=x b->a=b)(adl:jG x p n u k)(hJ:JF q J [] w)(hd:r≠q/\g≠q)
 (hY : ∀ h v F,J h F->h.length<(jK x p n u k).length->Go.YieldAt (Fx.FR none) 1 Tryz.prog l #[aC v] F fun e P=>e = .returned (.bool true)/\J (h ++ [v]) P/\TS g o r q F P) :
  Calls Tryz.prog 144 #[.func (.yield l) #[] #[],(pt r),(pt q)] w fun e w'=>(∃ v,e = .returned v) /\ ∃ xs,xs=jK x p n u k/\J xs w':=by
 obtain⟨hd1,hd2⟩:=hd;have lq:=S.lt;refine Kent Tryz.func144 18 ?_;refine Wb<|DW (fun d f D => ∃ h:List Int,∃ c:Int,jG x p n d c/\h++jK x p n d c=jK x p n u k/\f 0 = .func (.yield l) #[] #[]/\f 1=(pt r)/\f 2=(pt q)/\aQ D g 1 (fun _ => .map (some o)) 165/\Mp D o n x (fun j=>aC (p j))/\aQ D r 1 (fun _=>(pt g)) 107/\aQ D q 1 (fun _=>aC c) 23/\JF q J h D) (u) ⟨[],k,adl,(List.nil_append _),(by rfl),(by rfl),(by rfl),hT,hM,hB,S,hJ⟩ ?_;rintro d f1 w1 ⟨h,c,hst,B,R,G,y,I,L,Z,M,N⟩;refine Ws<|Ws<|Fx.W.abv 2<|Fx.Ly.v (pt g) (bf (x:=fun _=>(pt g)) rfl G (by kernel_rfl) Z.aH (i:=0) (by omega) (by omega) rfl) ?_;refine Fx.Ly.v (aC c) (bf (x:=fun _=>aC c) rfl y (by kernel_rfl) M.aH (i:=0) (by omega) (by omega) rfl) ?_;by_cases s:(eB x n c)=true
 ·refine Fx.Ly.call (by rfl) (rC (args := [(pt g),aC c]) rfl rfl Tryz.func145 rfl rfl) rfl<|(FD x p n g o c _ I L).mono ?_;rintro e O ⟨A,hv1⟩;subst O;refine⟨.bool true,by rw[A,s],?_⟩;clear A;refine Fx.Ly.v (.bool true) (fF rfl rfl) ?_;refine Fx.Ly.v (.func (.yield l) #[] #[]) (fF rfl R) ?_;refine Fx.Ly.v (aC c) (bf (x:=fun _=>aC c) rfl y (by kernel_rfl) M.aH (i:=0) (by omega) (by omega) rfl) ?_;obtain⟨d1,ed1,anj,U⟩:=Ia hst s;refine Fx.Ly.yield (l:=l) (args := [aC c]) rfl rfl rfl (Fx.args1 rfl) rfl (hY h c _ N.j (by have:=M_ List.length B; rw[U,G_,List.length_cons]at this; omega)) ?_;rintro e9 C ⟨rfl,hJ1,E⟩;refine⟨.bool true,rfl,?_⟩;have m6:aQ C g 1 (fun _ => .map (some o)) 165:=(E.t).trans I;have m7:Mp C o n x (fun j=>aC (p j)):=L.keep E.m;have m8:aQ C r 1 (fun _=>(pt g)) 107:=(E.b).trans Z;have m9:aQ C q 1 (fun _=>aC c) 23:=(E.q).trans M;have m10:JF q J (h ++ [c]) C:=⟨N.ab,hJ1⟩;refine Fx.Ly.v (.bool true) (gK rfl rfl rfl) ?_;refine Fx.Ly.nil ?_;refine sN<|aN<|Wk<|sN<|Wb ?_;obtain⟨H,T,Q⟩:=ig s;refine jY [0,1,2,3,4,5,6] [4,0,0,4,4,3,3] [(5,0,[3,2,1,0]),(6,0,[0]),(5,3,[3]),(6,3,[3]),(5,4,[4]),(6,4,[4]),(6,5,[5])] fun qU dU iC => ?_;have⟨V,X,Y,K,m15⟩:=nE dU m6 m7 m8 m9 m10;refine Rs (pt g) (aM Y.aH 0 (ha:=G)) ?_;refine aY (pt g)<|aY (pt g)<|Rs (.map (some o)) (aM V.aH 0) ?_;refine Rs (aC c) (aM K.aH 0 (ha:=y)) ?_;refine gQ<|Lv (aC (p H)) (Fx.wW (z:=aC 0) rfl rfl rfl X Tryz.underlying108 Tryz.underlying23 (by rfl) T Q rfl)<|Ln<|gQ<|ji K 0 (aC (p H)) (ha:=y) fun w3 m16 s2 z1 => ?_;have m17:aQ w3 q 1 (fun _=>aC (p H)) 23:=dK m16;have gF:=fP s2 K.ty;have⟨m18,m19,m20⟩:=BO gF V X Y;have m21:=m15.cu s2;refine Ln<|Rn<|bU ?_;have m22:aQ w3 q 1 (fun _=>aC (iN x p n c)) 23:=by rw[BP hinj T Q]; exact m17
  skip
  refine iH ⟨d1,(by omega),(h ++ [c]),(iN x p n c),anj,(by rw[List.append_assoc]; rw[U]at B; exact B),R,G,y,m18,m19,m20,m22,m21⟩ (by decide)
 rw[U_]at s;refine Fx.Ly.call (by rfl) (rC (args := [(pt g),aC c]) rfl rfl Tryz.func145 rfl rfl) rfl<|(FD x p n g o c _ I L).mono ?_;rintro e O ⟨A,hv1⟩;subst O;refine⟨.bool false,by rw[A,s],?_⟩;clear A;refine Fx.Ly.v (.bool false) (fF rfl rfl) ?_;refine Fx.Ly.skip (by rfl) rfl ?_;refine Fx.Ly.skip (by rfl) rfl ?_;refine Fx.Ly.skip (by rfl) rfl ?_;refine Fx.Ly.v (.bool false) (gL rfl rfl rfl) ?_;refine Fx.Ly.nil ?_;refine sN (aK (Wx (cZ (gZ (dh (⟨.tuple #[],iT Tryz.results144,?_⟩))))));exact⟨⟨_,rfl⟩,h,(by rw[kZ s,List.append_nil]at B; exact B),N.j⟩
end
end Go.Proofs.YtcbedgfikejkoaaGreatDoor
namespace Go.Proofs.YtcbedgfikejkoaaGreatDoor
open Go.RowKit Go Rt
namespace Rt
def yK(l:List Int):Nat->Value:=fun i=>aC (l.getD i 0)
theorem YH{l:List Int}{v:Int}{z:Nat->Value} : ∀ j,j<(l.length+1)*1->Fx.iJ (yK l) (l.length*1) (Fx.bG z (0*1) 1 (fun _=>aC v)) j=yK (l ++ [v]) j:=fun j a=>by
 unfold Fx.iJ yK;by_cases h:j<l.length*1
 ·rw[d_ h,r_,r_,List.getElem?_append_left (by omega)]
 ·rw[b_ h];obtain rfl:j=l.length:=by omega
  unfold Fx.bG;rw[d_ (by omega)]; simp
structure PI(gl bt q B:Nat)(w0:World)(pre:List Int)(w:World):Prop where
 ex : ∃ a c,Fx.aQ w gl 1 (fun _ => .slice a pre.length c) 53/\Fx.Own w B 23 1 (.slice a pre.length c) pre.length (yK pre)/\(∀ r,(Value.slice a pre.length c).ownBlock=some r->r≠bt/\r≠q/\r≠gl)
 be:Below B w0 w
 lb:bt<w.heap.size
 lq:q<w.heap.size
theorem KeepsOthers.CS{g:Nat}{w w':World}(h:Fx.Stp g w w')(c : ∀ o,w.heap[g]? = some o->o.isCells=true):KeepsOthers w w' :=
 ⟨h.size,fun k o a b=>by
  by_cases e:k=g
  ·subst e; rw[c o a]at b; cases b
  ·exact(h.block k (t_.1 a).1 e).trans a⟩
theorem KeepsOthers.TT{w w':World}{v:Value}(h:w.grownBy w' v.ownBlock)(c : ∀ r o,v.ownBlock=some r->w.heap[r]? = some o->o.isCells=true):KeepsOthers w w' :=
 ⟨h.size,fun k o a b=>by
  refine(h.block k (t_.1 a).1 fun e => ?_).trans a;rw[c k o e.symm a]at b; cases b⟩
theorem BQ{w:World}{g:Nat}{T:TypeId}(h:Fx.Ty w g T) : ∀ o,w.heap[g]? = some o->o.isCells=true:=fun o a=>by
 obtain⟨b,h⟩:=h;rw[h]at a; cases a; rfl
theorem TS.trans{d c a q:Nat}{A B C:World}(h:TS d c a q A B)(k:TS d c a q B C):TS d c a q A C:=⟨m_ h.size k.size,k.t.trans h.t,k.m.trans h.m,k.b.trans h.b,k.q.trans h.q⟩
theorem TS.of{c b a q:Nat}{A B:World}(d:A.heap.size<=B.heap.size)(h : ∀ k,k=c\/k=b\/k=a\/k=q->B.heap[k]? = A.heap[k]?):TS c b a q A B:=⟨d,h _ (.inl rfl),h _ (.inr (.inl rfl)),h _ (.inr (.inr (.inl rfl))),h _ (.inr (.inr (.inr rfl)))⟩
theorem PI.own{b k q B c:Nat}{j:World}(l:B<=j.heap.size)(n:b≠q)(p:B<=q)(y:B<=c):Rgq.QY q c (PI b k q B j):=fun s W x w u a i=>by
 obtain⟨⟨d,f,m,o,h⟩,hbe,hlb,hlq⟩:=u;have g : ∀ r T,Fx.Ty W r T->r≠q->w≠some r:=fun r T v t e=>by
  rcases i r e with h1|⟨_,ob,h1,h2⟩
  ·exact t h1
  ·rw[BQ v ob h1]at h2; cases h2
 refine⟨⟨d,f,?_,?_,h⟩,hbe.grown a (m_ l hbe.size) fun r e => ?_,n_ hlb a.size,n_ hlq a.size⟩
 ·exact(a.block b m.lt fun e=>g b _ m.ty n e.symm).trans m
 ·refine World.ownsRow.kept o a ?_
  cases hb:(Value.slice d s.length f).ownBlock with
  | none=>exact .inl rfl
  | some r=>exact .inr fun e=>g r _ (o.ty hb) (h r hb).2.1 e.symm
 ·rcases i r e with rfl|⟨h1,_⟩
  ·exact p
  ·omega
end Rt
open Rt
theorem YI(d f c q n e:Nat)(x p:Nat->Int)(k:Int)(u : ∀ a b,a<n->b<n->x a=x b->a=b)(y:jG x p n e k)(t:c≠q/\d≠q) :
 Rgq.ahG (Fx.FR none) 2 Tryz.prog 144 #[(pt c),(pt q)] (fun v:Int => #[aC v]) (TS d f c q) (fun z=>z=jK x p n e k) (jK x p n e k).length q
  (fun w=>Fx.aQ w d 1 (fun _ => .map (some f)) 165/\Fx.Mp w f n x (fun j=>aC (p j))/\Fx.aQ w c 1 (fun _=>(pt d)) 107/\Fx.aQ w q 1 (fun _=>aC k) 23) :=
 fun l J W ⟨o,i,h,m⟩ s r g=>callsIn_wide.2 (ahI J l d f c q n e x p k W o i h m u y ⟨s,g⟩ t r)
set_option maxRecDepth 10000 in
theorem Nz(x p:Nat->Int)(n A L C:Nat)(k:Int)(w:World)(hT:Fx.aQ w A 1 (fun _ => .map (some L)) 165)(hM:Fx.Mp w L n x (fun j=>aC (p j)))(hinj : ∀ a b,a<n->b<n->x a=x b->a=b)(adl:jG x p n C k)(hlen:(jK x p n C k).length<=1000000) :
 Calls Tryz.prog 59 #[(pt A),aC k] w fun e w' => ∃ a c,e = .returned (.slice a (jK x p n C k).length c)/\Fx.Own w' w.heap.size 23 1 (.slice a (jK x p n C k).length c) (jK x p n C k).length (yK (jK x p n C k))/\Below w.heap.size w w':=by
 have ltp:=hT.lt;have lmb:=hM.lt;refine(callsIn_wide (n:=3)).1 (callsIn_of_wp_marks (F:=Fx.FR none) Tryz.func59 rfl trivial ?_ rfl);have ha:Fx.BD { tmps := #[(pt A),aC k]++Array.replicate (Tryz.f59.ntmps-2) undef,defers := [] } 15 (Fx.start #[(pt A),aC k]):=by
  refine⟨by rfl,fun i => ?_⟩;simp only[Fx.start,Array.getD_eq_getD_getElem?,Array.getElem?_append,Array.getElem?_replicate];by_cases hi:i<2
  ·simp[hi]
  ·have S : ¬ i<(#[(pt A),aC k]:Array Value).size:=(by simpa using hi);rw[b_ S];split
   ·rw[Array.getElem?_eq_none (by simpa using hi)]; rfl
   ·rw[Array.getElem?_eq_none (by simpa using hi)]
 refine wpIn_seq<|Fx.H9 (Q:=fun e f1 N=>e = .normal/\f1 0=(pt A)/\f1 1=aC k/\f1 4=(pt w.heap.size)/\Fx.aQ N w.heap.size 1 (fun _ => .slice none 0 0) 53/\Below w.heap.size w N) ha ?_ (by rfl) ?_
 ·refine Fx.BL (m:=1) (y:=fun _ => .slice none 0 0) (by rfl) rfl (by kernel_rfl) rfl fun g1 N ku Z s1 z1 => ?_;subst ku;exact Fx.Ln ⟨rfl,rfl,rfl,rfl,Z,s1.old⟩
 rintro e a1 N ⟨f1,ha1,hd1,rfl,h0,P,U,Z,b1⟩;have lgl:=Z.lt;refine wpIn_seq<|wpIn_seq<|Fx.H9 (Q:=fun e X J=>e = .normal/\X 4=(pt w.heap.size)/\Below N.heap.size N J /\ ∃ t q,X 8 = .func (.func 144) #[] #[(pt t),(pt q)]/\N.heap.size<=t/\N.heap.size<=q/\Fx.aQ J t 1 (fun _=>(pt A)) 107/\Fx.aQ J q 1 (fun _=>aC k) 23) ha1 ?_ (by rfl) ?_
 ·refine aU h0<|aU P<|kF (ani A k _) ?_;rintro e J ⟨t,q,he,lb,lq,mb',mq',hb⟩;exact⟨_,he,Fx.Ln ⟨rfl,U,hb,t,q,rfl,lb,lq,mb',mq'⟩⟩
 rintro e a2 J ⟨X,ha2,hd2,rfl,U,b2,t,q,h8,lbt,lq,mbt,mq⟩;have hds:a2.defers = []:=hd2.trans hd1;have tbt:=mbt.lt;have tq:=mq.lt;have bq:t≠q:=fun e=>by
  subst e;have:=mbt.symm.trans mq;simp only[Option.some.injEq,Obj.cells.injEq]at this;exact N_ this.2.1 (by decide)
 have m2:=Z.cu (Fx.Sb b2) (u_ Z.lt);have s1:=b1.size;have s2:=b2.size;have b12:Below w.heap.size w J:=b1.trans (b2.mono s1);have hT2:Fx.aQ J A 1 (fun _ => .map (some L)) 165:=(b12.block A ltp).trans hT;have hM2:Fx.Mp J L n x (fun j=>aC (p j)):=hM.keep (b12.block L lmb);have hgq:w.heap.size≠q:=by omega
 refine wpIn_block (Rgq.Eo (F:=Fx.FR none) rfl (by decide) (gf:=144) (lb := #[(pt t),(pt q)]) ?hg trivial (fun args w=>kK Tryz.func144 (by kernel_rfl) rfl args w)
  (YI A L t q n C x p k hinj adl ⟨bq,by omega⟩) tq ⟨hT2,hM2,mbt,mq⟩ ?Ny (fun h k=>h.trans k) ?hKb (fun _=>rfl) (PI w.heap.size t q w.heap.size w) (PI.own (A_ _) hgq (by omega) (by omega))
  ⟨⟨none,0,m2,Fx.wT _ _ _ _ _,fun r e=>by cases e⟩,b12,tbt,tq⟩ (fun v a => ∃ f,Fx.BD a 15 f/\f 4=(pt w.heap.size)/\f 5=aC v) ?assign ?body ?done)
 case hg=>rw[ha2.ev]; exact h8
 case Ny =>
  rintro W o hw ⟨i1,i2,i3,i4⟩;exact⟨(Below.heap_alloc W o A i1.lt).trans i1,i2.keep (Below.heap_alloc W o L i2.lt),(Below.heap_alloc W o t i3.lt).trans i3,(Below.heap_alloc W o q i4.lt).trans i4⟩
 case hKb =>
  intro W l o o' hl _ _ _;exact TS.of (by simp) fun r hr=>World.putObj_heap_other (by omega)
 case assign =>
  intro l v W;have hp:=ha2.put (d:=some 9) rfl (aC v);refine Fx.H9 (ro:=some l) (n:=15) (f:=Fx.put X (some 9) (aC v)) (Q:=fun e f w'=>e = .normal/\f 4=(pt w.heap.size)/\f 5=aC v/\w'=W) (Fx.KT hp) ?_ (by rfl) ?_
  ·exact Fx.Lv (aC v) (Fx.eP rfl rfl) (Fx.Ln ⟨rfl,U,rfl,rfl⟩)
  ·rintro e a' w' ⟨f',hf',_,rfl,g4,g5,rfl⟩;exact⟨⟨f',hf',g4,g5⟩,rfl⟩
 case body =>
  rintro l M v W a' ⟨f',hf',g4,g5⟩ ⟨⟨G,H,V,o3,Y⟩,R,hpb,hpq⟩ hpl;have hbs:=R.size;have BF:=V.lt;refine wpIn_block<|Fx.H9 (ro:=some l) (Q:=fun e f w'=>e = .normal/\KeepsOthers W w'/\TS A L t q W w'/\PI w.heap.size t q w.heap.size w (M ++ [v]) w') hf' ?_ (by rfl) ?_
  ·refine Fx.Lv (.slice G M.length H) (aM V.aH 0 (ha:=g4))<|aU g5<|Fx.yP (vs := [(0,aC v)]) (s:=1) (zc:=fun _=>aC 0) (y:=Fx.bG (fun j=>aC 0) (0*1) 1 (fun _=>aC v)) (by rfl) rfl rfl Tryz.underlying53 (by kernel_rfl) (by rfl) (by rfl) (by kernel_rfl) (by rw[Fx.bE (off:=0*1) (s:=1) (y:=fun _=>aC v) rfl (Fx.cells_one (by rfl)) (by rfl)]; rfl) rfl fun g4' w4 CU m4 E z4 => ?_;have⟨m5,o5⟩:=fC E.old V o3;have hB4:w.heap.size<=w4.heap.size:=m_ hbs E.size;refine Fx.zB (B:=w.heap.size) (s:=1) (bytes:=8) (k:=M.length) (m:=1) (v := .slice G M.length H) (x:=yK M) (by rfl) rfl rfl rfl Tryz.underlying53 (by kernel_rfl) (by kernel_rfl) rfl rfl o5 m4.aH (fun j hj=>by unfold Fx.bG; split <;> rfl) (by omega) (by omega) (by omega) hB4 fun K Q0 w6 ho1 I xg hlt1 => ?_
   have m6:=m5.grown I (fun e=>(Y _ e).2.2 rfl);refine ji m6 0 (bM K (M.length+1) Q0) (ha:=g4) fun O m7 u z7 => ?_;have e4 : ∀ r,r<W.heap.size->r≠w.heap.size->(∀ z,(Value.slice G M.length H).ownBlock=some z->z≠r)->O.heap[r]? = W.heap[r]? := fun r P S h3 =>
    (u.block r (n_ (n_ P E.size) I.size) S).trans ((I.block r (n_ P E.size) fun e=>h3 r e.symm rfl).trans (E.block r P (u_ P)))
   have hg6:K≠t/\K≠q/\K≠w.heap.size:=by
    rcases xg with h|h
    ·exact Y K h
    ·have:=E.size; have:=R.block;refine⟨?_,?_,?_⟩
     ·omega
     ·omega
     ·omega
   have mC:Fx.aQ O w.heap.size 1 (fun _=>bM K (M.length+1) Q0) 53:=Fx.aQ.congr m7 (by
    intro j hj;obtain rfl:j=0:=(by omega);rfl)
   refine Fx.Ln ⟨rfl,?_,?_,⟨?_,?_,?_,?_⟩⟩
   ·refine(KeepsOthers.CS E fun o ho => ?_).trans ((KeepsOthers.TT I fun r o e ho=>BQ (o5.ty e) o ho).trans (KeepsOthers.CS u (BQ m6.ty)));have:=(t_.1 ho).1; omega
   ·refine TS.of (m_ E.size (m_ I.size u.size)) fun r hr=>e4 r ?_ ?_ fun z hz => ?_
    ·rcases hr with rfl|rfl|rfl|rfl <;> omega
    ·rcases hr with rfl|rfl|rfl|rfl <;> omega
    ·have P:=(o3.ge hz).1; have S:=Y z hz
     rcases hr with rfl|rfl|rfl|rfl
     ·omega
     ·omega
     ·exact S.1
     ·exact S.2.1
   ·refine⟨some ⟨K,0,none⟩,Q0,?_,?_,fun r e => ?_⟩
    ·rw[G_]; exact mC
    ·rw[G_]; exact(ho1.congr YH).cu u (fun e=>hg6.2.2 (C_ e))
    ·obtain rfl:K=r:=C_ e;exact hg6
   ·refine u.below ((E.below R hbs hbs).grown I hB4 fun r e=>(o5.ge e).1) (m_ hB4 I.size) (A_ _)
   ·exact n_ hpb (m_ E.size (m_ I.size u.size))
   ·exact n_ hpq (m_ E.size (m_ I.size u.size))
  ·rintro e a5 w5 ⟨f5,_,_,rfl,q1,q2,q3⟩;exact⟨q1,q2,q3⟩
 case done =>
  rintro D xs W hD rfl ⟨⟨G,H,V,o3,Y⟩,R,hpb,hpq⟩ hK;have hcD : ∀ g,g<J.heap.size->g≠D:=fun g h e=>by omega
  have hkc : ∀ {g T},Fx.Ty W g T->g≠D:=fun ht e=>by
   have:=BQ ht _ (e ▸ hK); cases this
  have hDn:(w.heap.size:Nat)≠D:=by omega
  show Code.wpIn _ _ _ _ _ _ _;refine wpIn_seq<|Fx.H9 (Q:=fun e f w'=>e = .normal/\f 4=(pt w.heap.size)/\Fx.Stp w.heap.size W w'/\Fx.aQ w' w.heap.size 1 (fun _ => .slice G (jK x p n C k).length H) 53) (f:=X) ⟨ha2.size,ha2.get⟩ ?_ (by rfl) ?_
  ·refine Fx.Lv (.slice G (jK x p n C k).length H) (aM V.aH 0 (ha:=U))<|ji V 0 (.slice G (jK x p n C k).length H) (ha:=U) fun O m7 u z7 => ?_;exact Fx.Ln ⟨rfl,U,u,Fx.aQ.congr m7 fun j hj=>by
    obtain rfl:j=0:=(by omega);rfl⟩
  rintro e a7 O ⟨f7,ha7,hd7,rfl,q4,u,m7⟩;have hK7:O.heap[D]? = some (.deferred (some [])):=(u.block D (t_.1 hK).1 (Ne.symm hDn)).trans hK;have m8:Fx.aQ (O.putObj D (.deferred none)) w.heap.size 1 (fun _ => .slice G (jK x p n C k).length H) 53:=(World.putObj_heap_other hDn).trans m7;refine wpIn_ret (Fx.leave1 ha7 (hd7.trans (by rw[hds])) hK7 (Fx.rV Tryz.results59 ⟨_,q4,Fx.QM m8.aH (by kernel_rfl) (i:=0) (by omega) (by omega) rfl⟩) ⟨G,H,rfl,?_,?_⟩)
  ·have o7:=o3.cu u (fun e=>(Y _ e).2.2 rfl);exact World.ownsRow.kept o7 (grownBy_putObj' O D _) (.inr fun e=>by
    exact hkc (o3.ty e) rfl)
  ·exact(u.below R R.size (A_ _)).grown (grownBy_putObj' O D _) (m_ R.size u.size) fun r e=>by cases e; omega
end Go.Proofs.YtcbedgfikejkoaaGreatDoor
namespace Go.Proofs.YtcbedgfikejkoaaGreatDoor
open Go.RowKit Go
namespace Rt
section
variable {x p x' p':Nat->Int} {n n' j d e:Nat} {k id pa:Int}
theorem zJ : ∀ {d:Nat} {k:Int},(jK x p n d k).length<=d
 | 0,k=>A_ _
 | d+1,k=>by
   unfold jK;split
   ·rw[List.length_cons]; exact Nat.succ_le_succ zJ
   ·exact L_ _
theorem BR : ∀ {d e:Nat} {k:Int},jG x p n d k->(jK x p n d k).length<=e->jG x p n e k
 | 0,0,k,h,_=>h
 | 0,e+1,k,h,_=>fun b=>by
   have h:eB x n k=false:=h;rw[h]at b; cases b
 | d+1,0,k,h,hl=>by
   show eB x n k=false
   cases a:eB x n k with
   | false=>rfl
   | true =>
     unfold jK at hl;rw[d_ a,List.length_cons]at hl;omega
 | d+1,e+1,k,h,hl=>fun a=>by
   unfold jK at hl;rw[d_ a,List.length_cons]at hl;exact BR (h a) (by omega)
theorem KV : ∀ {d:Nat} {k:Int},jG x p n d k->jK x p n (d+1) k=jK x p n d k
 | 0,k,h=>by
   have h:eB x n k=false:=h;rw[kZ h,kZ h]
 | d+1,k,h=>by
   cases hk:eB x n k with
   | false=>rw[kZ hk,kZ hk]
   | true =>
     show(if eB x n k=true then k::jK x p n (d+1) (iN x p n k)else [])=(if eB x n k=true then k::jK x p n d (iN x p n k)else []);rw[d_ hk,d_ hk,KV (h hk)]
theorem NA{d:Nat}{k:Int}(h:jG x p n d k):jG x p n (d+1) k:=BR h (Nat.le_succ_of_le zJ)
theorem Jz{d e:Nat}{k:Int}(h:jG x p n d k)(a:d<=e):jK x p n e k=jK x p n d k/\jG x p n e k:=by
 induction a with
 | refl=>exact⟨rfl,h⟩
 | step _ ih=>exact⟨(KV ih.2).trans ih.1,NA ih.2⟩
theorem Ib(a : ∀ k,eB x' n' k=eB x n k)(b : ∀ k,eB x n k=true->iN x' p' n' k=iN x p n k) : ∀(d:Nat) (k:Int),jK x' p' n' d k=jK x p n d k
 | 0,_=>rfl
 | d+1,k=>by
   unfold jK;rw[a]
   cases hk:eB x n k with
   | false=>rfl
   | true=>rw[d_ rfl,d_ rfl,b k hk,Ib a b d]
structure CB(n:Nat)(x p:Nat->Int):Prop where
 inj : ∀ a b,a<n->b<n->x a=x b->a=b
 pos : ∀ j,j<n->0<x j/\x j<=18446744073709551615
 stop : ∀ k,jG x p n 4 k
 small:n<=32
 par : ∀ j,j<n->p j=0 \/ ∃ i,i<j/\x i=p j
theorem CB.zero(x p:Nat->Int):CB 0 x p:=⟨fun a b h=>by omega,fun j h=>by omega,fun k h=>(nomatch h),by omega,fun j h=>by omega⟩
theorem CB.YJ(h:CB n x p):eB x n 0=false:=zI fun i hi e=>by have:=h.pos i hi; omega
theorem CB.ahJ(h:CB n x p)(d:Nat):jK x p n d 0 = []:=kZ h.YJ
theorem CB.len(h:CB n x p)(k:Int):(jK x p n 4 k).length<=1000000:=m_ zJ (by omega)
def sj(x p:Nat->Int)(n:Nat)(id pa:Int):Int :=
 if id=0 then 1 else if eB x n id=true then 14 else if ¬ pa=0/\eB x n pa=false then 9 else if 32<=n\/4<=(jK x p n 4 pa).length then 6 else 0
inductive adn (n:Nat) (x p:Nat->Int) (id pa:Int):Int->Nat->(Nat->Int)->(Nat->Int)->Prop
 | no {c:Int} (hc:sj x p n id pa=c) (h0:c≠0):adn n x p id pa c n x p
 | yes (hc:sj x p n id pa=0):adn n x p id pa 0 (n+1) (Fx.aO x n id) (Fx.aO p n pa)
theorem FE(a:sj x p n id pa=0):id≠0/\eB x n id=false/\(pa=0\/eB x n pa=true)/\n<32/\(jK x p n 4 pa).length<4:=by
 unfold sj at a;split at a
 ·cases a
 split at a
 ·cases a
 split at a
 ·cases a
 split at a
 ·cases a
 rename_i h1 h2 h3 h4;refine⟨h1,by simpa using h2,?_,by omega,by omega⟩;by_cases b:pa=0
 ·exact .inl b
 right
 cases hk:eB x n pa with
 | true=>rfl
 | false=>exact N_ ⟨b,hk⟩ h3
theorem jN(id k:Int):eB (Fx.aO x n id) (n+1) k=(eB x n k || decide (id=k)):=by
 have e : ∀ m,m<=n->eB (Fx.aO x n id) m k=eB x m k:=fun m=>by
  induction m with
  | zero=>exact fun _=>rfl
  | succ m ih =>
    intro a;show(eB (Fx.aO x n id) m k || decide (Fx.aO x n id m=k))=(eB x m k || decide (x m=k));rw[ih (by omega)];unfold Fx.aO;rw[b_ (by omega)]
 show(eB (Fx.aO x n id) n k || decide (Fx.aO x n id n=k))=_;rw[e n (A_ _)];unfold Fx.aO;rw[d_ rfl]
theorem uI(id pa k:Int):iN (Fx.aO x n id) (Fx.aO p n pa) (n+1) k=if id=k then pa else iN x p n k:=by
 have e : ∀ m,m<=n->iN (Fx.aO x n id) (Fx.aO p n pa) m k=iN x p m k:=fun m=>by
  induction m with
  | zero=>exact fun _=>rfl
  | succ m ih =>
    intro a;show(if Fx.aO x n id m=k then Fx.aO p n pa m else iN (Fx.aO x n id) (Fx.aO p n pa) m k)=(if x m=k then p m else iN x p m k);rw[ih (by omega),show Fx.aO x n id m=x m by unfold Fx.aO; rw[b_ (by omega)],show Fx.aO p n pa m=p m by unfold Fx.aO; rw[b_ (by omega)]]
 show(if Fx.aO x n id n=k then Fx.aO p n pa n else iN (Fx.aO x n id) (Fx.aO p n pa) n k)=_;rw[e n (A_ _),show Fx.aO x n id n=id by unfold Fx.aO; rw[d_ rfl],show Fx.aO p n pa n=pa by unfold Fx.aO; rw[d_ rfl]]
theorem CB.up(h:CB n x p)(b:eB x n k=true):iN x p n k=0\/eB x n (iN x p n k)=true:=by
 obtain⟨j,a,e⟩:=ig b;rw[BP h.inj a e]
 rcases h.par j a with h1|⟨i,hi,h1⟩
 ·exact .inl h1
 exact .inr (jS (by omega) h1)
theorem FH(h:CB n x p)(c:eB x n id=false)(b:id≠0) : ∀(d:Nat) (k:Int),k≠id->jG x p n d k->jG (Fx.aO x n id) (Fx.aO p n pa) (n+1) d k
 | 0,k,hk,hs=>by
   show eB _ _ _=false;rw[jN,g_ (fun e=>hk e.symm),I_]; exact hs
 | d+1,k,hk,hs=>fun a=>by
   rw[jN,g_ (fun e=>hk e.symm),I_]at a;rw[uI,b_ (fun e=>hk e.symm)];refine FH h c b d _ ?_ (hs a);intro e
   rcases h.up a with h1|h1
   ·exact b (e.symm.trans h1)
   ·rw[e,c]at h1; cases h1
theorem CB.put(h:CB n x p)(y:sj x p n id pa=0)(o:0<=id/\id<=18446744073709551615):CB (n+1) (Fx.aO x n id) (Fx.aO p n pa):=by
 obtain⟨m,f,s,B,A⟩:=FE y;have l:Fx.aO x n id n=id:=by unfold Fx.aO; rw[d_ rfl]
 have d : ∀ j,j<n->Fx.aO x n id j=x j:=fun j c=>by unfold Fx.aO; rw[b_ (by omega)]
 have t:Fx.aO p n pa n=pa:=by unfold Fx.aO; rw[d_ rfl]
 have u : ∀ j,j<n->Fx.aO p n pa j=p j:=fun j c=>by unfold Fx.aO; rw[b_ (by omega)]
 have r : ∀ j,j<n->x j≠id:=fun j c e=>by rw[jS c e]at f; cases f
 have z:pa≠id:=fun e=>by
  subst e
  rcases s with h1|h1
  ·exact m h1
  ·rw[f]at h1; cases h1
 have g : ∀ j,j<n+1->j<n\/j=n:=fun j c=>by omega
 refine⟨fun a b w o e => ?_,fun j c => ?_,fun k => ?_,by omega,fun j c => ?_⟩
 ·rcases g a w with h1|rfl <;> rcases g b o with h2|rfl
  ·rw[d a h1,d b h2]at e; exact h.inj a b h1 h2 e
  ·rw[d a h1,l]at e; exact N_ e (r a h1)
  ·rw[l,d b h2]at e; exact N_ e.symm (r b h2)
  rfl
 ·rcases g j c with h1|rfl
  ·rw[d j h1]; exact h.pos j h1
  rw[l]; omega
 ·by_cases q:k=id
  ·subst q;intro _;rw[uI,d_ rfl];exact FH h f m 3 pa z (BR (h.stop pa) (by omega))
  exact FH h f m 4 k q (h.stop k)
 rcases g j c with h1|rfl
 ·rw[u j h1]
  rcases h.par j h1 with h2|⟨i,hi,h2⟩
  ·exact .inl h2
  exact .inr ⟨i,hi,by rw[d i (by omega)]; exact h2⟩
 rw[t]
 rcases s with h2|h2
 ·exact .inl h2
 obtain⟨i,hi,v⟩:=ig h2;exact .inr ⟨i,hi,by rw[d i hi]; exact v⟩
theorem vR : ∀ {l m:List Int},l.Pairwise (· < ·)->m.Pairwise (· < ·)->(∀ k,k∈l<->k∈m)->l=m
 | [],[],_,_,_=>rfl
 | [],b::m,_,_,h=>by have:=(h b).2 (by simp); simp at this
 | a::l,[],_,_,h=>by have:=(h a).1 (by simp); simp at this
 | a::l,b::m,hl,hm,h=>by
   rw[List.pairwise_cons]at hl hm;have e:a=b:=by
    have c:=(h a).1 (by simp);have d:=(h b).2 (by simp);rw[List.mem_cons]at c d
    rcases c with c|c
    ·exact c
    rcases d with d|d
    ·exact d.symm
    have:=hm.1 _ c; have:=hl.1 _ d; omega
   subst e;rw[vR hl.2 hm.2 fun k => ?_];have f:=h k;rw[List.mem_cons,List.mem_cons]at f;constructor
   ·intro q
    rcases f.1 (.inr q)with rfl|c
    ·have:=hl.1 _ q; omega
    ·exact c
   ·intro q
    rcases f.2 (.inr q)with rfl|c
    ·have:=hm.1 _ q; omega
    ·exact c
end
theorem Ic(S:Nat->Bool) : ∀ n,Fx.unseen S n<=n
 | 0=>A_ _
 | n+1=>by
   unfold Fx.unseen;have:=Ic S n;split <;> omega
structure TU(n:Nat)(P:Nat->Prop)(S:Nat->Bool)(m:Nat)(τ:Nat->Nat)(kk:Nat):Prop where
 lt : ∀ q,q<m->τ q<n
 inj : ∀ q r,q<m->r<m->τ q=τ r->q=r
 mem : ∀ i,i<n->S i=true->P i -> ∃ q,q<m/\τ q=i
 yes : ∀ q,q<m->P (τ q)
 seen : ∀ q,q<m->S (τ q)=true
 le:m+kk<=n
 kk:kk=Fx.unseen S n
section
variable {n m kk:Nat} {P:Nat->Prop} {S:Nat->Bool} {τ:Nat->Nat}
theorem TU.start(n:Nat)(P:Nat->Prop)(τ:Nat->Nat):TU n P (fun _=>false) 0 τ (Fx.unseen (fun _=>false) n) :=
 ⟨fun _ h=>N_ h (z_ _),fun _ _ h=>N_ h (z_ _),fun _ _ h=>(nomatch h),fun _ h=>N_ h (z_ _),fun _ h=>N_ h (z_ _),by have:=Ic (fun _=>false) n; omega,rfl⟩
theorem TU.skip(h:TU n P S m τ kk){i:Nat}(hi:i<n)(g:S i=false)(d : ¬ P i):TU n P (Fx.aO S i true) m τ (Fx.unseen (Fx.aO S i true) n):=by
 have o:=Fx.pQ g n hi;have k:=h.kk;have l:=h.le;refine⟨h.lt,h.inj,fun j c a b => ?_,h.yes,fun q f => ?_,by omega,rfl⟩
 ·unfold Fx.aO at a;split at a
  ·rename_i e; subst e; exact N_ b d
  exact h.mem j c a b
 unfold Fx.aO; split
 ·rfl
 exact h.seen q f
theorem TU.take(h:TU n P S m τ kk){i:Nat}(hi:i<n)(g:S i=false)(p:P i):TU n P (Fx.aO S i true) (m+1) (Fx.aO τ m i) (Fx.unseen (Fx.aO S i true) n):=by
 have w:=Fx.pQ g n hi;have u:=h.kk;have v:=h.le;have c:Fx.aO τ m i m=i:=by unfold Fx.aO; rw[d_ rfl]
 have b : ∀ q,q<m->Fx.aO τ m i q=τ q:=fun q a=>by unfold Fx.aO; rw[b_ (by omega)]
 have k : ∀ q,q<m->τ q≠i:=fun q a e=>by have:=h.seen q a; rw[e,g]at this; cases this
 have d : ∀ q,q<m+1->q<m\/q=m:=fun q a=>by omega
 refine⟨fun q a => ?_,fun q r a t e => ?_,fun j o f l => ?_,fun q a => ?_,fun q a => ?_,by omega,rfl⟩
 ·rcases d q a with h1|rfl
  ·rw[b q h1]; exact h.lt q h1
  rw[c]; exact hi
 ·rcases d q a with h1|h1 <;> rcases d r t with h2|h2
  ·rw[b q h1,b r h2]at e; exact h.inj q r h1 h2 e
  ·subst h2; rw[b q h1,c]at e; exact N_ e (k q h1)
  ·subst h1; rw[b r h2,c]at e; exact N_ e.symm (k r h2)
  omega
 ·by_cases e:j=i
  ·exact⟨m,by omega,by rw[c,e]⟩
  unfold Fx.aO at f;rw[b_ e]at f;obtain⟨q,a,s⟩:=h.mem j o f l;exact⟨q,by omega,by rw[b q a,s]⟩
 ·rcases d q a with h1|rfl
  ·rw[b q h1]; exact h.yes q h1
  rw[c]; exact p
 rcases d q a with h1|rfl
 ·rw[b q h1]; unfold Fx.aO; split
  ·rfl
  exact h.seen q h1
 rw[c]; unfold Fx.aO; rw[d_ rfl]
end
end Rt
end Go.Proofs.YtcbedgfikejkoaaGreatDoor
namespace Go.Proofs.YtcbedgfikejkoaaGreatDoor
open Go.RowKit Rt
open Fx (Lv sN Ln Ws Qv Wl Rp Wr Sb Wk sR Rs Rn Wb Wx Wo Qn ng rv aA aQ bG aO Stp dJ Mp iT iM bL bU cZ dh gZ iH qm)
section
open Rt
theorem ahK(x p:Nat->Int)(w:World) :
 Calls Tryz.prog 58 #[] w fun e w' => ∃ c b,e = .returned (pt c)/\w.heap.size<=c/\w.heap.size<=b/\aQ w' c 1 (fun _ => .map (some b)) 165/\Mp w' b 0 x (fun j=>aC (p j))/\Below w.heap.size w w':=by
 refine Kent Tryz.func58 4 ?_;refine ay<|av (.pointer none)<|aD<|ay<|Fx.L.KN (by rfl) rfl rfl fun m y l a r A => ?_;have d:=bB r.old (Below.refl w.heap.size w);have n:=gN l;have u:=a.lt;refine av (.agg (aA 1 (bG (fun _ => .map none) 0 1 (fun _ => .map (some m)))))<|pO fun g z f h s B => ?_;have⟨q,k⟩:=fC s.old a d;have o:=iK f d.size;have t:=cO f a.lt;have v:=h.lt;refine av (pt g)<|aD<|Wr<|aJ (pt g) ?_;exact⟨_,_,rfl,o,n,h,q.vQ (fun i hi=>N_ hi (z_ _)),k⟩
theorem Rt.vS{l:List Int}{i:Nat}{v:Int}(hi:i<l.length)(e:l.getD i 0=v):v∈l:=by
 rw[r_,o_ hi]at e;rw[<- e]; exact R_ hi
theorem Rt.YK{l:List Int}{v:Int}(h : ∀ j,j<l.length->l.getD j 0≠v) : ¬ v∈l:=fun a=>by
 obtain⟨i,hi,e⟩:=List.getElem_of_mem a;refine h i hi ?_;rw[r_,o_ hi]; exact e
theorem anl(l:List Int)(v:Int)(B c:Nat)(a:Option Addr)(w:World)(C:Fx.Own w B 23 1 (.slice a l.length c) l.length (yK l))(F:l.length<=1000) :
 Calls Tryz.prog 242 #[.slice a (l.length) (c),aC v] w fun e w' => ∃ r:Int,e = .returned (au r)/\(0<=r<->v∈l)/\Below w.heap.size w w':=by
 refine Kent Tryz.func242 19 ?_;refine ay<|av (au 0)<|aD<|Ws<|ay<|av (.slice a (l.length) (c))<|av (au l.length)<|av (au 0)<|aD<|Wb<|Wo (fun f A => ∃ i:Nat,(∀ j,j<i->l.getD j 0≠v)/\f 0 = .slice a (l.length) (c)/\f 1=aC v/\f 7=au (l.length:Int)/\f 8=au (i:Int)/\Fx.Own A B 23 1 (.slice a (l.length) (c)) l.length (yK l)/\Below w.heap.size w A) (fun f _=>((l.length:Int)-intOf (f 8)).toNat) ⟨0,(fun j n=>N_ n (z_ _)),(by rfl),Fx.ic,Fx.ic,Fx.ic,C,(Below.refl w.heap.size w)⟩ ?_;rintro E z ⟨i,u,s,t,m,b,x,g⟩;refine ay ?_;by_cases o:(i:Int)<(l.length:Int)
 ·refine Lv aG (iD o (hx:=b) (hy:=m))<|aD<|Ws<|aN<|Wk<|sN<|Ws<|Wb<|ay<|aU b<|av (au i)<|aD<|ay<|aU t<|aU s<|av (au i) ?_;obtain⟨p,k⟩:=x.addr (by omega);have y:Fx.Own z B 23 1 (bM p l.length c) l.length (yK l):=x.fu (M_ (fun q=>Value.slice q l.length c) k);refine Lv (pf p i) (dB 1 (hx:=(rfl.trans (M_ (fun q=>Value.slice q (l.length) (c)) k))))<|Lv (aC (l.getD i 0)) (aM y.aH i) ?_;by_cases d:v=(l.getD i 0)
  ·refine Lv aG (dZ d)<|aD<|aN<|ay<|av (au i)<|av (au i)<|aD<|Wr<|bL<|sR<|qm<|bL<|sR<|aJ (au i) ?_;exact⟨_,rfl,⟨fun _=>vS (by omega) d.symm,fun _=>by omega⟩,g⟩
  refine Lv aF (fB d)<|aD<|aK<|Wk<|bU<|sN<|Wl<|Lv (au ((i:Int)+1)) (fH (hx:=b))<|av (au ((i:Int)+1))<|Ln ?_;have D:Fx.Own z B 23 1 (.slice a (l.length) (c)) l.length (yK l):=y.fu (M_ (fun q=>Value.slice q l.length c) k.symm);refine iH ⟨i+1,(fun j n=>by by_cases e:j=i; subst e; exact fun e=>d e.symm; exact u j (by omega)),s,(t.trans Fx.ic),(m.trans Fx.ic),Fx.ic,D,g⟩ ?_;show((l.length:Int)-intOf (au ((i:Int)+1))).toNat<_;simp only[b,intOf]; omega
 refine Lv aF (iE o (hx:=b) (hy:=m))<|aD<|Ws<|aK<|Wx<|cZ<|gZ<|dh<|sN<|ay<|av (au (-1))<|aD<|Wr<|aJ (au (-1)) ?_;exact⟨_,rfl,⟨fun h=>by omega,fun h=>N_ h (YK (fun j n=>u j (by omega)))⟩,g⟩
theorem anm(l:List Int)(v:Int)(B c:Nat)(a:Option Addr)(w:World)(g:Fx.Own w B 23 1 (.slice a l.length c) l.length (yK l))(i:l.length<=1000) :
 Calls Tryz.prog 231 #[.slice a (l.length) (c),aC v] w fun e w'=>e = .returned (.bool (decide (v∈l)))/\Below w.heap.size w w':=by
 refine Kent Tryz.func231 9 ?_;refine ay<|av aF<|aD<|ay<|av (.slice a (l.length) (c))<|av (aC v)<|kF (anl l v B c a _ g i) ?_;rintro j k ⟨r,b,h,f⟩;refine⟨_,b,?_⟩;clear b;have d:=bB f (Below.refl w.heap.size w);refine Lv (.bool (decide (0<=r))) (Fx.Fu rfl rfl rfl)<|av (.bool (decide (0<=r)))<|aD<|Wr<|aJ (.bool (decide (0<=r))) ?_;exact⟨by rw[decide_eq_decide.2 h],d⟩
theorem ahL(x p:Nat->Int)(n b a:Nat)(id pa:Int)(w:World)(f:aQ w b 1 (fun _ => .map (some a)) 165)(d:Mp w a n x (fun j=>aC (p j)))(h:CB n x p) :
 Calls Tryz.prog 217 #[(pt b),aC id,aC pa] w fun e w' => ∃ c F x2 G,e = .returned (au c)/\adn n x p id pa c F x2 G/\aQ w' b 1 (fun _ => .map (some a)) 165/\Mp w' a F x2 (fun j=>aC (G j))/\Stp a w w':=by
 have ac:=f.lt;have ab:=d.lt;have aa:=h.small;have Z:(jK x p n 4 pa).length<=4:=zJ;refine Kent Tryz.func217 44 ?_;refine ay<|av (au 0)<|aD<|Ws<|Wb<|ay<|av (pt b)<|Lv aF (Fx.lW rfl rfl rfl (by kernel_rfl))<|av aF<|aD<|aK<|ay<|av (aC id) ?_;by_cases k:id=0
 ·refine Lv aG (dZ k)<|av aG<|aD<|aN<|ay<|av (au 1)<|aD<|Wr<|bL<|sR<|aJ (au 1) ?_;exact⟨_,_,_,_,rfl,.no (by unfold sj; rw[d_ k]) (by decide),f,d,(ng a w)⟩
 refine Lv aF (fB k)<|av aF<|aD<|aK<|ay<|av (pt b)<|av (aC id) ?_;by_cases g:(eB x n id)=true
 ·refine lX (FD x p n b a id _ f d) aG (by rw[g])<|av aG<|aD<|aN<|ay<|av (au 14)<|aD<|Wr<|bL<|sR<|aJ (au 14) ?_;exact⟨_,_,_,_,rfl,.no (by unfold sj; rw[b_ k,g,d_ rfl]) (by decide),f,d,(ng a w)⟩
 rw[U_]at g;refine lX (FD x p n b a id _ f d) aF (by rw[g])<|av aF<|aD<|aK<|ay<|av (aC pa) ?_;by_cases m:pa=0
 ·refine Lv aF (jR m)<|av aF<|bS<|bS<|bS<|bS<|av aF<|av aF<|aD<|aK<|Ws<|ay<|av (pt b)<|av (pt b)<|av (pt b)<|Lv (.map (some a)) (aM f.aH 0)<|Lv (au n) (Fx.TI rfl rfl rfl d Tryz.underlying108) ?_;by_cases o:32<=(n:Int)
  ·refine Lv aG (kW o)<|av aG<|aD<|aN<|Wk<|sN<|aN<|ay<|av (au 6)<|aD<|Wr<|bL<|sR<|aJ (au 6) ?_;exact⟨_,_,_,_,rfl,.no (by unfold sj; rw[b_ k,g,b_ (by decide),b_ (fun h=>h.1 m),d_ (by omega)]) (by decide),f,d,(ng a w)⟩
  refine Lv aF (kN o)<|av aF<|aD<|aK<|Wl<|av (pt b)<|av (aC pa)<|kF (Nz x p n b a 4 pa _ f d h.inj (h.stop _) (h.len _)) ?_;rintro M w1 ⟨pa1,pc1,r,N,B⟩;refine⟨_,r,?_⟩;clear r;have V:=Sb B;have⟨u,v⟩:=fC B f d;have z:=(ng a w).then V (.inr (ng a w).size);refine av (au (((jK x p n 4 pa).length:Nat):Int)) ?_;by_cases q:4<=(((jK x p n 4 pa).length:Nat):Int)
  ·refine Lv aG (kW q)<|av aG<|aD<|aN<|ay<|av (au 6)<|aD<|Wr<|bL<|sR<|aJ (au 6) ?_;exact⟨_,_,_,_,rfl,.no (by unfold sj; rw[b_ k,g,b_ (by decide),b_ (fun h=>h.1 m),d_ (by omega)]) (by decide),u,v,z⟩
  refine Lv aF (kN q)<|av aF<|aD<|aK<|Wk<|bU<|sN<|Ws ?_;have s : ∀ i,i<n->x i≠id:=fun i hi e=>by rw[jS hi e]at g; cases g
  refine Wl<|av (pt b)<|av (pt b)<|av (pt b)<|Lv (.map (some a)) (aM u.aH 0)<|av (aC id)<|av (aC pa)<|Fx.L.QU (by rfl) rfl rfl rfl rfl rfl v Tryz.underlying108 Tryz.underlying23 s fun X R H z1 => ?_;have D:=v.CP H;have S:=u.eH D;have m6:=N.eH D;have J:=z.then H (.inl rfl);have T:Mp X a (n+1) (aO x n id) (fun j=>aC (aO p n pa j)):=R.vQ (fun i _=>⟨rfl,by unfold aO; split <;> rfl⟩)
  refine aD<|ay<|av (au 0)<|aD<|Wr<|aJ (au 0) ?_;exact⟨_,_,_,_,rfl,.yes (by unfold sj; rw[b_ k,g,b_ (by decide),b_ (fun h=>h.1 m),b_ (by omega)]),S,T,J⟩
 refine Lv aG (kY m)<|av aG<|av (pt b)<|av (aC pa) ?_;by_cases l:(eB x n pa)=true
 ·refine lX (FD x p n b a pa _ f d) aG (by rw[l])<|av aF<|av aF<|av aF<|aD<|aK<|Ws<|ay<|av (pt b)<|av (pt b)<|av (pt b)<|Lv (.map (some a)) (aM f.aH 0)<|Lv (au n) (Fx.TI rfl rfl rfl d Tryz.underlying108) ?_;by_cases o:32<=(n:Int)
  ·refine Lv aG (kW o)<|av aG<|aD<|aN<|Wk<|sN<|aN<|ay<|av (au 6)<|aD<|Wr<|bL<|sR<|aJ (au 6) ?_;exact⟨_,_,_,_,rfl,.no (by unfold sj; rw[b_ k,g,b_ (by decide),b_ (fun h=>by rw[l]at h; cases h.2),d_ (by omega)]) (by decide),f,d,(ng a w)⟩
  refine Lv aF (kN o)<|av aF<|aD<|aK<|Wl<|av (pt b)<|av (aC pa)<|kF (Nz x p n b a 4 pa _ f d h.inj (h.stop _) (h.len _)) ?_;rintro M w3 ⟨pa2,pc2,r,U,C⟩;refine⟨_,r,?_⟩;clear r;have W:=Sb C;have⟨y,t⟩:=fC C f d;have A:=(ng a w).then W (.inr (ng a w).size);refine av (au (((jK x p n 4 pa).length:Nat):Int)) ?_;by_cases q:4<=(((jK x p n 4 pa).length:Nat):Int)
  ·refine Lv aG (kW q)<|av aG<|aD<|aN<|ay<|av (au 6)<|aD<|Wr<|bL<|sR<|aJ (au 6) ?_;exact⟨_,_,_,_,rfl,.no (by unfold sj; rw[b_ k,g,b_ (by decide),b_ (fun h=>by rw[l]at h; cases h.2),d_ (by omega)]) (by decide),y,t,A⟩
  refine Lv aF (kN q)<|av aF<|aD<|aK<|Wk<|bU<|sN<|Ws ?_;have s : ∀ i,i<n->x i≠id:=fun i hi e=>by rw[jS hi e]at g; cases g
  refine Wl<|av (pt b)<|av (pt b)<|av (pt b)<|Lv (.map (some a)) (aM y.aH 0)<|av (aC id)<|av (aC pa)<|Fx.L.QU (by rfl) rfl rfl rfl rfl rfl t Tryz.underlying108 Tryz.underlying23 s fun Y O I z2 => ?_;have E:=t.CP I;have P:=y.eH E;have ad:=U.eH E;have K:=A.then I (.inl rfl);have Q:Mp Y a (n+1) (aO x n id) (fun j=>aC (aO p n pa j)):=O.vQ (fun i _=>⟨rfl,by unfold aO; split <;> rfl⟩)
  refine aD<|ay<|av (au 0)<|aD<|Wr<|aJ (au 0) ?_;exact⟨_,_,_,_,rfl,.yes (by unfold sj; rw[b_ k,g,b_ (by decide),b_ (fun h=>by rw[l]at h; cases h.2),b_ (by omega)]),P,Q,K⟩
 rw[U_]at l;refine lX (FD x p n b a pa _ f d) aF (by rw[l])<|av aG<|av aG<|av aG<|aD<|aN<|ay<|av (au 9)<|aD<|Wr<|bL<|sR<|aJ (au 9) ?_;exact⟨_,_,_,_,rfl,.no (by unfold sj; rw[b_ k,g,b_ (by decide),d_ ⟨m,l⟩]) (by decide),f,d,(ng a w)⟩
theorem ahM(k:Int)(w:World) :
 Calls Tryz.prog 85 #[aC k] w fun e w'=>e = .returned (.bool true)/\w'=w:=by
 refine Kent Tryz.func85 3 ?_;refine ay<|av aF<|aD<|ay<|av aG<|aD<|Wr<|aJ aG ?_;exact⟨rfl,rfl⟩
end
section
namespace Rt
open Go.Sort (ltInt swp)
def gA(d:Array Int):Nat->Int:=fun i=>d[i]!
section
variable {d d':Array Int} {n a b i j k p:Nat}
theorem ado(e:d.size=n)(hi:i<n)(c:j<n)(k:Nat):gA (swp d i j) k=if k=i then gA d j else if k=j then gA d i else gA d k:=by
 unfold gA;by_cases b:k=i
 ·subst b;rw[d_ rfl];by_cases a:k=j
  ·subst a; exact Sort.swp_right d k k (by omega)
  exact Sort.swp_left d k j (by omega) a
 rw[b_ b];by_cases a:k=j
 ·subst a; rw[d_ rfl]; exact Sort.swp_right d i k (by omega)
 rw[b_ a]; exact Sort.swp_other d i j k b a
theorem fD(a:d.size=n)(i j:Nat):(swp d i j).size=n:=by rw[Sort.size_swp]; exact a
theorem iO(e:d.size=n)(hi:i<n)(c:j<n) : ∀ p,p<n*1->dJ (dJ (rv .u64 (gA d)) i (aC (gA d j))) j (aC (gA d i)) p=rv .u64 (gA (swp d i j)) p:=fun p f=>by
 show _=Value.int .u64 (gA (swp d i j) p);rw[ado e hi c];unfold dJ;by_cases b:p=j
 ·subst b;rw[d_ rfl];by_cases a:p=i
  ·subst a; rw[d_ rfl]
  ·rw[b_ a,d_ rfl]
 ·rw[b_ b];by_cases a:p=i
  ·rw[d_ a,d_ a]
  ·rw[b_ a,b_ a,b_ b]; rfl
theorem uU(h:gA d i<gA d j):ltInt d[i]! d[j]! = true:=f_ h
theorem yg(h : ¬ gA d i<gA d j):ltInt d[i]! d[j]! = false:=g_ h
theorem adp(c:a<j)(b:gA d j<gA d (j-1)):Sort.insInner ltInt a (j-1) (swp d j (j-1))=Sort.insInner ltInt a j d:=by
 obtain⟨k,rfl⟩ : ∃ k,j=k+1:=⟨j-1,by omega⟩;have b:=uU b;rw[Nat.add_sub_cancel]at b ⊢
 conv=>rhs; rw[Sort.insInner]
 rw[b,f_ (show k+1>a by omega)]; rfl
theorem KW(h:j<=a \/ ¬ gA d j<gA d (j-1)):Sort.insInner ltInt a j d=d:=by
 cases j with
 | zero=>rw[Sort.insInner]
 | succ k =>
   rw[Sort.insInner]
   rcases h with h|h
   ·rw[g_ (show ¬ k+1>a by omega)]; rfl
   ·have h:=yg h;rw[Nat.add_sub_cancel]at h;rw[h,J_]; rfl
theorem TV(h:i<b)(hi:Sort.insInner ltInt a i d=d'):Sort.insOuter ltInt a b (i+1) d'=Sort.insOuter ltInt a b i d:=by
 conv=>rhs; rw[Sort.insOuter,d_ h]
 rw[hi]
theorem TW(h : ¬ i<b):Sort.insOuter ltInt a b i d=d:=by rw[Sort.insOuter,b_ h]
variable {f r hi x0 x1 x2:Nat}
theorem FI(h:hi<=2*r+1):Sort.siftDown ltInt hi f r d=d:=by rw[Sort.siftDown,dif_pos (by omega)]
theorem KX(c:x1=f+(2*r+1))(g:x2=f+(2*r+2))(e0:x0=f+r)(h:2*r+1<hi)(b:hi<=2*r+2 \/ ¬ gA d x1<gA d x2) :
 Sort.siftDown ltInt hi f r d=if gA d x0<gA d x1 then Sort.siftDown ltInt hi f (2*r+1) (swp d x0 x1)else d:=by
 rw[Sort.siftDown,dif_neg (by omega)];have e:(decide (2*r+1+1<hi)&&ltInt d[f+(2*r+1)]! d[f+(2*r+1)+1]!)=false:=by
  rcases b with b|b
  ·rw[g_ (by omega),Bool.false_and]
  ·rw[<- c,show x1+1=x2 by omega,yg b,J_]
 rw[e,<- c,<- e0];by_cases a:gA d x0<gA d x1
 ·rw[uU a,d_ a]; rfl
 rw[yg a,b_ a]; rfl
theorem TY(b:x1=f+(2*r+1))(c:x2=f+(2*r+2))(e0:x0=f+r)(h:2*r+2<hi)(e:gA d x1<gA d x2) :
 Sort.siftDown ltInt hi f r d=if gA d x0<gA d x2 then Sort.siftDown ltInt hi f (2*r+2) (swp d x0 x2)else d:=by
 rw[Sort.siftDown,dif_neg (by omega)];have g:(decide (2*r+1+1<hi)&&ltInt d[f+(2*r+1)]! d[f+(2*r+1)+1]!)=true:=by
  rw[f_ (by omega),<- b,show x1+1=x2 by omega,uU e]; rfl
 rw[g,<- c,<- e0];by_cases a:gA d x0<gA d x2
 ·rw[uU a,d_ a]; simp only[if_true,Bool.not_true,dif_pos h]; rfl
 rw[yg a,b_ a]; rfl
theorem Ua(a:0<k):Sort.heapBuild ltInt hi f (k-1) (Sort.siftDown ltInt hi f (k-1) d)=Sort.heapBuild ltInt hi f k d:=by
 obtain⟨j,rfl⟩ : ∃ j,k=j+1:=⟨k-1,by omega⟩;rfl
theorem adq{x:Nat}(a:0<k)(e:x=f+(k-1)):Sort.heapPop ltInt f (k-1) (Sort.siftDown ltInt (k-1) f 0 (swp d f x))=Sort.heapPop ltInt f k d:=by
 subst e;obtain⟨j,rfl⟩ : ∃ j,k=j+1:=⟨k-1,by omega⟩;rfl
theorem EK(h:f+hi<=n) : ∀(m r:Nat) (d:Array Int),hi-r<=m->d.size=n->(Sort.siftDown ltInt hi f r d).size=n
 | 0,r,d,hm,hd=>by rw[FI (by omega)]; exact hd
 | m+1,r,d,hm,hd=>by
   by_cases b:2*r+1<hi
   ·by_cases a:2*r+2<hi/\gA d (f+(2*r+1))<gA d (f+(2*r+2))
    ·rw[TY rfl rfl rfl a.1 a.2];split
     ·exact EK h m _ _ (by omega) (fD hd _ _)
     ·exact hd
    ·rw[KX rfl rfl rfl b (by by_cases c:2*r+2<hi; exact .inr fun e=>a ⟨c,e⟩; exact .inl (by omega))];split
     ·exact EK h m _ _ (by omega) (fD hd _ _)
     ·exact hd
   ·rw[FI (by omega)]; exact hd
theorem adr(h:i<j):Sort.reverseLoop (i+1) (j-1) (swp d i j)=Sort.reverseLoop i j d:=by conv=>rhs; rw[Sort.reverseLoop,d_ h]
theorem Ub(h : ¬ i<j):Sort.reverseLoop i j d=d:=by rw[Sort.reverseLoop,b_ h]
theorem aby{p:Int->Bool}(h:i<=j)(a:p d[i]! = true):Sort.scanUp p d j (i+1)=Sort.scanUp p d j i:=by
 conv=>rhs; rw[Sort.scanUp,a,f_ h]
 rfl
theorem uJ{p:Int->Bool}(h:j<i\/p d[i]! = false):Sort.scanUp p d j i=i:=by
 rw[Sort.scanUp]
 rcases h with h|h
 ·rw[g_ (by omega)]; rfl
 rw[h,J_]; rfl
theorem abz{p:Int->Bool}(h:i<=j)(b:0<j)(a:p d[j]! = true):Sort.scanDown p d i (j-1)=Sort.scanDown p d i j:=by
 obtain⟨k,rfl⟩ : ∃ k,j=k+1:=⟨j-1,by omega⟩
 conv=>rhs; rw[Sort.scanDown,a,f_ h]
 rfl
theorem EL{p:Int->Bool}(h:j<i\/p d[j]! = false):Sort.scanDown p d i j=j:=by
 cases j with
 | zero=>rfl
 | succ k =>
   rw[Sort.scanDown]
   rcases h with h|h
   ·rw[g_ (by omega)]; rfl
   ·rw[h,J_]; rfl
theorem Uc(h:i<=j)(b:gA d i<gA d a):Sort.partLoop ltInt a (i+1) j d=Sort.partLoop ltInt a i j d:=by
 rw[Sort.partLoop_eq,Sort.partLoop_eq (i:=i),aby (p:=fun x=>ltInt x d[a]!) h (uU b)]
theorem Ie(h:i<=j)(c:0<j)(b : ¬ gA d i<gA d a)(e : ¬ gA d j<gA d a):Sort.partLoop ltInt a i (j-1) d=Sort.partLoop ltInt a i j d:=by
 rw[Sort.partLoop_eq,Sort.partLoop_eq (j:=j),uJ (p:=fun x=>ltInt x d[a]!) (.inr (yg b)),uJ (p:=fun x=>ltInt x d[a]!) (.inr (yg b)),abz (p:=fun x => !ltInt x d[a]!) h c (by rw[yg e]; rfl)]
theorem Ig(h:i<=j)(c : ¬ gA d i<gA d a)(b:gA d j<gA d a):Sort.partLoop ltInt a (i+1) (j-1) (swp d i j)=Sort.partLoop ltInt a i j d:=by
 rw[Sort.partLoop_eq (i:=i),uJ (p:=fun x=>ltInt x d[a]!) (.inr (yg c)),EL (p:=fun x => !ltInt x d[a]!) (.inr (by rw[uU b]; rfl)),b_ (by omega)]
theorem CV(h:j<i):Sort.partLoop ltInt a i j d=(j,d):=by
 rw[Sort.partLoop_eq,uJ (p:=fun x=>ltInt x d[a]!) (.inl h),EL (p:=fun x => !ltInt x d[a]!) (.inl h),d_ h]
theorem ahN(h:i<=j)(b : ¬ gA d a<gA d i):Sort.partEqLoop ltInt a (i+1) j d=Sort.partEqLoop ltInt a i j d:=by
 rw[Sort.partEqLoop_eq,Sort.partEqLoop_eq (i:=i),aby (p:=fun x => !ltInt d[a]! x) h (by rw[yg b]; rfl)]
theorem abA(h:i<=j)(c:0<j)(b:gA d a<gA d i)(e:gA d a<gA d j):Sort.partEqLoop ltInt a i (j-1) d=Sort.partEqLoop ltInt a i j d:=by
 rw[Sort.partEqLoop_eq,Sort.partEqLoop_eq (j:=j),uJ (p:=fun x => !ltInt d[a]! x) (.inr (by rw[uU b]; rfl)),uJ (p:=fun x => !ltInt d[a]! x) (.inr (by rw[uU b]; rfl)),abz (p:=fun x=>ltInt d[a]! x) h c (uU e)]
theorem abB(h:i<=j)(c:gA d a<gA d i)(b : ¬ gA d a<gA d j):Sort.partEqLoop ltInt a (i+1) (j-1) (swp d i j)=Sort.partEqLoop ltInt a i j d:=by
 rw[Sort.partEqLoop_eq (i:=i),uJ (p:=fun x => !ltInt d[a]! x) (.inr (by rw[uU c]; rfl)),EL (p:=fun x=>ltInt d[a]! x) (.inr (yg b)),b_ (by omega)]
theorem Ud(h:j<i):Sort.partEqLoop ltInt a i j d=(i,d):=by
 rw[Sort.partEqLoop_eq,uJ (p:=fun x => !ltInt d[a]! x) (.inl h),EL (p:=fun x=>ltInt d[a]! x) (.inl h),d_ h]
theorem NC(a:Nat)(d:Array Int):Sort.SortedIn ltInt a (a+1) d:=fun i j b c e=>by omega
end
end Rt
end
section
open Rt
theorem ahO(n:Int)(w:World) :
 Calls Tryz.prog 89 #[aC n] w fun e w'=>e = .returned (.bool false)/\w'=w:=by
 refine Kent Tryz.func89 6 ?_;refine ay<|av aF<|aD<|ay<|av (aC n)<|av (aC n)<|Lv aF (jR rfl)<|av aF<|aD<|Wr<|aJ aF ?_;exact⟨rfl,rfl⟩
theorem dY(a b:Int)(w:World) :
 Calls Tryz.prog 182 #[aC a,aC b] w fun e w'=>e = .returned (.bool (decide (a<b)))/\w'=w:=by
 refine Kent Tryz.func182 17 ?_;refine ay<|av aF<|aD<|ay<|av (aC a)<|lX (ahO a _) _ rfl<|av aF<|bS<|bS<|bS<|av aF<|av aF<|av (aC a)<|av (aC b)<|Lv (.bool (decide (a<b))) (Fx.Td rfl rfl rfl)<|av (.bool (decide (a<b)))<|av (.bool (decide (a<b)))<|aD<|Wr<|aJ (.bool (decide (a<b))) ?_;exact⟨rfl,rfl⟩
theorem ahP(a b:Nat)(B g n cap:Nat)(d:Array Int)(w:World)(h:Fx.Own w B 23 1 (bM g n cap) n (rv .u64 (gA d)))(p:B<=w.heap.size)(Y:d.size=n)(hs:n<=1000)(ha:a<=b)(hb:b<=n) :
 Calls Tryz.prog 176 #[bM g n cap,au (a:Int),au (b:Int)] w fun e w'=>e = .returned (.tuple #[])/\Fx.Own w' B 23 1 (bM g n cap) n (rv .u64 (gA (Sort.insertionSort Sort.ltInt d a b)))/\Below B w w':=by
 refine Kent Tryz.func176 49 ?_;refine ay<|av (au a)<|Lv (au ((a:Int)+1)) fH<|av (au ((a:Int)+1))<|aD<|Wb<|Wo (fun f u => ∃ i:Nat,∃ o:Array Int,(a<i/\i<=b+1)/\o.size=n/\Sort.insOuter Sort.ltInt a b i o=Sort.insOuter Sort.ltInt a b (a+1) d/\f 0=bM g n cap/\f 1=au (a:Int)/\f 2=au (b:Int)/\f 6=au (i:Int)/\Fx.Own u B 23 1 (bM g n cap) n (rv .u64 (gA o))/\Below B w u) (fun f _=>((b:Int)+1-intOf (f 6)).toNat) ⟨a+1,d,(by omega),Y,rfl,(by rfl),Fx.ic,Fx.ic,Fx.ic,h,(Below.refl B w)⟩ ?_;rintro f1 w1 ⟨i,o,hi,X,x,V,W,K,s,P,F⟩;refine Ws<|ay<|aU s<|aU K ?_;by_cases I:(i:Int)<(b:Int)
 ·refine Lv aG (iD I)<|aD<|aN<|Wk<|sN<|Ws<|Wb<|ay<|aU s<|av (au i)<|aD<|Wb<|Wo (fun f u => ∃ j:Nat,∃ c:Array Int,(a<=j/\j<=i)/\c.size=n/\Sort.insInner Sort.ltInt a j c=Sort.insInner Sort.ltInt a i o/\f 0=bM g n cap/\f 1=au (a:Int)/\f 2=au (b:Int)/\f 6=au (i:Int)/\f 7=au (j:Int)/\Fx.Own u B 23 1 (bM g n cap) n (rv .u64 (gA c))/\Below B w u) (fun f _=>(intOf (f 7)).toNat) ⟨i,o,(by omega),X,rfl,V,(W.trans Fx.ic),(K.trans Fx.ic),(s.trans Fx.ic),Fx.ic,P,F⟩ ?_;rintro f2 w2 ⟨j,c,hji,y,E,k,v,C,D,l,t,A⟩;refine Ws<|Ws ?_;refine nD<|eT l<|eT v ?_;by_cases J:(a:Int)<(j:Int)
  ·refine Qv aG (fun q m=>nA J)<|aX aG<|eT k<|eT l<|Qv (pf g j) (fun q m=>dB 1)<|Qv (aC ((gA c) j)) (fun q m=>aM (t.cb m) j)<|eT k<|eT l<|Qv (au ((j:Int)-1)) (fun q m=>gP)<|Qv (pf g (j-1)) (fun q m=>dB 1)<|Qv (aC ((gA c) (j-1))) (fun q m=>aM (t.cb m) (j-1)) ?_;by_cases r:(decide ((gA c) j<(gA c) (j-1)))=true
   ·refine qO (fun _ _=>dY ((gA c) j) ((gA c) (j-1)) _) aG (by rw[r])<|aX aG<|Qn ?_;intro YL L;have Z:=bB L t;have R:=fA L A p;refine sN<|aN<|Wk<|sN<|Ws<|Wb ?_;refine jY [0,1,2,3,4,5,6,7,8,10,11,12,9,13,14,15,16,17] [0,0,0,0,0,0,0,0,0,4,0,0,0,4,0,3,0,3] [(15,9,[9]),(17,9,[9]),(15,13,[13]),(17,13,[13]),(16,15,[15]),(17,15,[15])] fun qU O iC => ?_;have z:=bB O Z;have G:=fA O R p;refine bX k<|bX l<|bX k<|bX l<|Rp (au ((j:Int)-1)) (fun _=>gP)<|bX k<|bX l<|Rp (au ((j:Int)-1)) (fun _=>gP)<|Rp (pf g (j-1)) (fun _=>dB 1)<|bX k<|bX l<|Rp (pf g j) (fun _=>dB 1)<|Rs (aC ((gA c) (j-1))) (aM z.aH (j-1)) ?_;refine Rs (aC ((gA c) j)) (aM z.aH j) ?_;refine Rp (pf g j) (fun _=>dB 1)<|gQ<|qP z j (aC ((gA c) (j-1))) fun w3 Q s3 z1 => ?_;have H:=s3.below G (m_ p G.size) z.blk.1;refine Ln<|Rp (pf g (j-1)) (fun _=>dB 1)<|gQ<|qP Q (j-1) (aC ((gA c) j)) fun w4 m6 s4 z2 => ?_;have S:=s4.below H (m_ p H.size) Q.blk.1;have m7:Fx.Own w4 B 23 1 (bM g n cap) n (rv .u64 (gA (Sort.swp c j (j-1)))):=m6.congr (iO y (by omega) (by omega));refine Ln<|Rn<|bU<|sN<|Wl<|aU l<|Lv (au ((j:Int)-1)) gP<|av (au ((j:Int)-1))<|Ln<|iH ⟨j-1,Sort.swp c j (j-1),(by omega),(fD y _ _),((adp (by omega) (h_ r)).trans E),k,(v.trans Fx.ic),(C.trans Fx.ic),(D.trans Fx.ic),Fx.ic,m7,S⟩ ?_;show(intOf (au ((j:Int)-1))).toNat<_;simp only[l,intOf]; omega
   rw[U_]at r;refine qO (fun _ _=>dY ((gA c) j) ((gA c) (j-1)) _) aF (by rw[r])<|aX aF<|Qn ?_;intro wb2 M;have m8:=bB M t;have T:=fA M A p;refine sN<|aK<|Wx<|cZ<|gZ<|dh<|bU<|sN<|Wl<|aU D<|Lv (au ((i:Int)+1)) fH<|av (au ((i:Int)+1))<|Ln<|iH ⟨i+1,c,(by omega),y,((TV (by omega) (E.symm.trans (KW (.inr (j_ r))))).trans x),k,(v.trans Fx.ic),(C.trans Fx.ic),Fx.ic,m8,T⟩ ?_;show((b:Int)+1-intOf (au ((i:Int)+1))).toNat<_;simp only[s,intOf]; omega
  refine Qv aF (fun q m=>nC J)<|aX aF<|aR<|aR<|aR<|aR<|aR<|aR<|aR<|aR<|aR<|aR<|aX aF<|Qn ?_;intro wb3 N;have m9:=bB N t;have U:=fA N A p;refine sN<|aK<|Wx<|cZ<|gZ<|dh<|bU<|sN<|Wl<|aU D<|Lv (au ((i:Int)+1)) fH<|av (au ((i:Int)+1))<|Ln<|iH ⟨i+1,c,(by omega),y,((TV (by omega) (E.symm.trans (KW (.inl (by omega))))).trans x),k,(v.trans Fx.ic),(C.trans Fx.ic),Fx.ic,m9,U⟩ ?_;show((b:Int)+1-intOf (au ((i:Int)+1))).toNat<_;simp only[s,intOf]; omega
 refine Lv aF (iE I) (aD (aK (Wx (cZ (gZ (dh (⟨.tuple #[],iT Tryz.results176,?_⟩)))))));rw[TW (by omega)]at x; subst x; exact⟨rfl,P,F⟩
end
section
open Rt
theorem adt(q hi a:Nat)(B g n cap:Nat)(d:Array Int)(w:World)(h:Fx.Own w B 23 1 (bM g n cap) n (rv .u64 (gA d)))(l:B<=w.heap.size)(hn:d.size=n)(hs:n<=1000)(hf:a+hi<=n/\q<=1000) :
 Calls Tryz.prog 186 #[bM g n cap,au (q:Int),au (hi:Int),au (a:Int)] w fun e w'=>e = .returned (.tuple #[])/\Fx.Own w' B 23 1 (bM g n cap) n (rv .u64 (gA (Sort.siftDown Sort.ltInt hi a q d)))/\Below B w w':=by
 obtain⟨hf,hlo⟩:=hf;refine Kent Tryz.func186 76 ?_;refine ay<|av (au q)<|av (au q)<|aD<|Wb<|Wo (fun f w_ => ∃ r:Nat,∃ b:Array Int,b.size=n/\Sort.siftDown Sort.ltInt hi a r b=Sort.siftDown Sort.ltInt hi a q d/\r<=hi+q/\f 0=bM g n cap/\f 1=au (q:Int)/\f 2=au (hi:Int)/\f 3=au (a:Int)/\f 8=au (r:Int)/\Fx.Own w_ B 23 1 (bM g n cap) n (rv .u64 (gA b))/\Below B w w_) (fun f _=>((hi:Int)+q-intOf (f 8)).toNat) ⟨q,d,hn,rfl,(by omega),(by rfl),Fx.ic,Fx.ic,Fx.ic,Fx.ic,h,(Below.refl B w)⟩ ?_;rintro f1 w1 ⟨r,b,t,o,hr,j,F,v,k,p,u,x⟩;refine Wb<|ay<|aU p<|Lv (au (2*(r:Int))) (Fx.Hu rfl rfl rfl Fx.io)<|Lv (au (2*(r:Int)+1)) fH<|av (au (2*(r:Int)+1))<|aD<|Ws<|ay<|av (au (2*(r:Int)+1))<|aU v ?_;by_cases P:(hi:Int)<=(2*(r:Int)+1)
 ·refine Lv aG (kW P) (aD (aN (Wx (cZ (Fx.Ni rfl (gZ (dh (⟨.tuple #[],iT Tryz.results186,?_⟩))))))));rw[FI (by omega)]at o; subst o; exact⟨rfl,u,x⟩
 refine Lv aF (kN P)<|aD<|aK<|Wk<|sN<|Ws<|Ws ?_;refine nD<|aX (au (2*(r:Int)+1))<|Qv (au (2*(r:Int)+2)) (fun i c=>fH)<|eT v ?_;by_cases Q:(2*(r:Int)+2)<(hi:Int)
 ·refine Qv aG (fun i c=>iD Q)<|aX aG<|eT j<|eT k<|aX (au (2*(r:Int)+1))<|Qv (au ((a:Int)+2*(r:Int)+1)) (fun i c=>fH)<|Qv (pf g (a+2*r+1)) (fun i c=>dB 1)<|Qv (aC ((gA b) (a+2*r+1))) (fun i c=>aM (u.cb c) (a+2*r+1))<|eT j<|eT k<|aX (au (2*(r:Int)+1))<|Qv (au ((a:Int)+2*(r:Int)+1)) (fun i c=>fH)<|Qv (au ((a:Int)+2*(r:Int)+2)) (fun i c=>fH)<|Qv (pf g (a+2*r+2)) (fun i c=>dB 1)<|Qv (aC ((gA b) (a+2*r+2))) (fun i c=>aM (u.cb c) (a+2*r+2)) ?_;by_cases s:(decide ((gA b) (a+2*r+1)<(gA b) (a+2*r+2)))=true
  ·refine qO (fun _ _=>dY ((gA b) (a+2*r+1)) ((gA b) (a+2*r+2)) _) aG (by rw[s])<|aX aG<|Qn ?_;intro YL R;have C:=bB R u;have L:=fA R x l;refine sN<|aN<|Wl<|av (au (2*(r:Int)+1))<|Lv (au (2*(r:Int)+2)) fH<|av (au (2*(r:Int)+2))<|aD<|Ws<|Ws ?_;refine nD<|eT j<|eT k<|eT p<|Qv (au ((a:Int)+(r:Int))) (fun i c=>fH)<|Qv (pf g (a+r)) (fun i c=>dB 1)<|Qv (aC ((gA b) (a+r))) (fun i c=>aM (C.cb c) (a+r))<|eT j<|eT k<|aX (au (2*(r:Int)+2))<|Qv (au ((a:Int)+2*(r:Int)+2)) (fun i c=>fH)<|Qv (pf g (a+2*r+2)) (fun i c=>dB 1)<|Qv (aC ((gA b) (a+2*r+2))) (fun i c=>aM (C.cb c) (a+2*r+2)) ?_;by_cases m:(decide ((gA b) (a+r)<(gA b) (a+2*r+2)))=true
   ·refine qO (fun _ _=>dY ((gA b) (a+r)) ((gA b) (a+2*r+2)) _) aG (by rw[m])<|aX aF<|Qn ?_;intro wb2 S;have m3:=bB S C;have b3:=fA S L l;refine sN<|aK<|Wk<|sN<|Ws ?_;refine jY [0,1,2,3,4,5,6,7,8,9,10,11,12,14,15,16,17,18,13,19,20,21,22,23] [0,0,0,0,0,0,0,0,0,0,0,0,0,4,0,0,0,0,0,4,0,3,0,3] [(21,13,[13]),(23,13,[13]),(21,19,[19]),(23,19,[19]),(22,21,[21]),(23,21,[21])] fun qU aa iC => ?_;have D:=bB aa m3;have M:=fA aa b3 l;refine bX j<|bX k<|bX p<|Rp (au ((a:Int)+(r:Int))) (fun _=>fH)<|bX j<|bX k<|aY (au (2*(r:Int)+2))<|Rp (au ((a:Int)+2*(r:Int)+2)) (fun _=>fH)<|bX j<|bX k<|aY (au (2*(r:Int)+2))<|Rp (au ((a:Int)+2*(r:Int)+2)) (fun _=>fH)<|Rp (pf g (a+2*r+2)) (fun _=>dB 1)<|bX j<|bX k<|bX p<|Rp (au ((a:Int)+(r:Int))) (fun _=>fH)<|Rp (pf g (a+r)) (fun _=>dB 1)<|Rs (aC ((gA b) (a+2*r+2))) (aM D.aH (a+2*r+2)) ?_;refine Rs (aC ((gA b) (a+r))) (aM D.aH (a+r)) ?_;refine Rp (pf g (a+r)) (fun _=>dB 1)<|gQ<|qP D (a+r) (aC ((gA b) (a+2*r+2))) fun w2 m5 s4 z1 => ?_;have N:=s4.below M (m_ l M.size) D.blk.1;refine Ln<|Rp (pf g (a+2*r+2)) (fun _=>dB 1)<|gQ<|qP m5 (a+2*r+2) (aC ((gA b) (a+r))) fun w3 m6 s5 z2 => ?_;have b6:=s5.below N (m_ l N.size) m5.blk.1;have m7:Fx.Own w3 B 23 1 (bM g n cap) n (rv .u64 (gA (Sort.swp b (a+r) (a+2*r+2)))):=m6.congr (iO t (by omega) (by omega));refine Ln<|bT<|Wl<|av (au (2*(r:Int)+2))<|av (au (2*(r:Int)+2))<|Ln<|bU<|iH ⟨2*r+2,Sort.swp b (a+r) (a+2*r+2),(fD t _ _),(by rw[TY (x0:=a+r) (x1:=a+2*r+1) (x2:=a+2*r+2) (by omega) (by omega) rfl (by omega) (h_ s),d_ (h_ m)]at o; exact o),(by omega),j,(F.trans Fx.ic),(v.trans Fx.ic),(k.trans Fx.ic),Fx.ic,m7,b6⟩ ?_;show((hi:Int)+q-intOf (au (2*(r:Int)+2))).toNat<_;simp only[p,intOf]; omega
   rw[U_]at m;refine qO (fun _ _=>dY ((gA b) (a+r)) ((gA b) (a+2*r+2)) _) aF (by rw[m])<|aX aG<|Qn ?_;intro wb3 T;have m8:=bB T C;have b7:=fA T L l;refine sN (aN (Wr (sR (bL (qm (bL (⟨.tuple #[],iT Tryz.results186,?_⟩)))))));rw[TY (x0:=a+r) (x1:=a+2*r+1) (x2:=a+2*r+2) (by omega) (by omega) rfl (by omega) (h_ s),b_ (j_ m)]at o; subst o; exact⟨rfl,m8,b7⟩
  rw[U_]at s;refine qO (fun _ _=>dY ((gA b) (a+2*r+1)) ((gA b) (a+2*r+2)) _) aF (by rw[s])<|aX aF<|Qn ?_;intro wb4 U;have E:=bB U u;have O:=fA U x l;refine sN<|aK<|Wk<|sN<|Ws<|Ws ?_;refine nD<|eT j<|eT k<|eT p<|Qv (au ((a:Int)+(r:Int))) (fun i c=>fH)<|Qv (pf g (a+r)) (fun i c=>dB 1)<|Qv (aC ((gA b) (a+r))) (fun i c=>aM (E.cb c) (a+r))<|eT j<|eT k<|aX (au (2*(r:Int)+1))<|Qv (au ((a:Int)+2*(r:Int)+1)) (fun i c=>fH)<|Qv (pf g (a+2*r+1)) (fun i c=>dB 1)<|Qv (aC ((gA b) (a+2*r+1))) (fun i c=>aM (E.cb c) (a+2*r+1)) ?_;by_cases m:(decide ((gA b) (a+r)<(gA b) (a+2*r+1)))=true
  ·refine qO (fun _ _=>dY ((gA b) (a+r)) ((gA b) (a+2*r+1)) _) aG (by rw[m])<|aX aF<|Qn ?_;intro wb5 V;have m10:=bB V E;have b9:=fA V O l;refine sN<|aK<|Wk<|sN<|Ws ?_;refine jY [0,1,2,3,4,5,6,7,8,9,10,11,12,14,15,16,17,18,13,19,20,21,22,23] [0,0,0,0,0,0,0,0,0,0,0,0,0,4,0,0,0,0,0,4,0,3,0,3] [(21,13,[13]),(23,13,[13]),(21,19,[19]),(23,19,[19]),(22,21,[21]),(23,21,[21])] fun BS ab mQ => ?_;have y:=bB ab m10;have G:=fA ab b9 l;refine bX j<|bX k<|bX p<|Rp (au ((a:Int)+(r:Int))) (fun _=>fH)<|bX j<|bX k<|aY (au (2*(r:Int)+1))<|Rp (au ((a:Int)+2*(r:Int)+1)) (fun _=>fH)<|bX j<|bX k<|aY (au (2*(r:Int)+1))<|Rp (au ((a:Int)+2*(r:Int)+1)) (fun _=>fH)<|Rp (pf g (a+2*r+1)) (fun _=>dB 1)<|bX j<|bX k<|bX p<|Rp (au ((a:Int)+(r:Int))) (fun _=>fH)<|Rp (pf g (a+r)) (fun _=>dB 1)<|Rs (aC ((gA b) (a+2*r+1))) (aM y.aH (a+2*r+1)) ?_;refine Rs (aC ((gA b) (a+r))) (aM y.aH (a+r)) ?_;refine Rp (pf g (a+r)) (fun _=>dB 1)<|gQ<|qP y (a+r) (aC ((gA b) (a+2*r+1))) fun w4 m12 s10 z3 => ?_;have H:=s10.below G (m_ l G.size) y.blk.1;refine Ln<|Rp (pf g (a+2*r+1)) (fun _=>dB 1)<|gQ<|qP m12 (a+2*r+1) (aC ((gA b) (a+r))) fun w5 m13 s11 z4 => ?_;have b12:=s11.below H (m_ l H.size) m12.blk.1;have m14:Fx.Own w5 B 23 1 (bM g n cap) n (rv .u64 (gA (Sort.swp b (a+r) (a+2*r+1)))):=m13.congr (iO t (by omega) (by omega));refine Ln<|bT<|Wl<|av (au (2*(r:Int)+1))<|av (au (2*(r:Int)+1))<|Ln<|bU<|iH ⟨2*r+1,Sort.swp b (a+r) (a+2*r+1),(fD t _ _),(by rw[KX (x0:=a+r) (x1:=a+2*r+1) (x2:=a+2*r+2) (by omega) (by omega) rfl (by omega) (.inr (j_ s)),d_ (h_ m)]at o; exact o),(by omega),j,(F.trans Fx.ic),(v.trans Fx.ic),(k.trans Fx.ic),Fx.ic,m14,b12⟩ ?_;show((hi:Int)+q-intOf (au (2*(r:Int)+1))).toNat<_;simp only[p,intOf]; omega
  rw[U_]at m;refine qO (fun _ _=>dY ((gA b) (a+r)) ((gA b) (a+2*r+1)) _) aF (by rw[m])<|aX aG<|Qn ?_;intro wb6 W;have m15:=bB W E;have b13:=fA W O l;refine sN (aN (Wr (sR (bL (qm (bL (⟨.tuple #[],iT Tryz.results186,?_⟩)))))));rw[KX (x0:=a+r) (x1:=a+2*r+1) (x2:=a+2*r+2) (by omega) (by omega) rfl (by omega) (.inr (j_ s)),b_ (j_ m)]at o; subst o; exact⟨rfl,m15,b13⟩
 refine Qv aF (fun i c=>iE Q)<|aX aF<|aR<|aR<|aR<|aR<|aR<|aR<|aR<|aR<|aR<|aR<|aR<|aR<|aR<|aR<|aX aF<|Qn ?_;intro wb7 X;have z:=bB X u;have I:=fA X x l;refine sN<|aK<|Wk<|sN<|Ws<|Ws ?_;refine nD<|eT j<|eT k<|eT p<|Qv (au ((a:Int)+(r:Int))) (fun i c=>fH)<|Qv (pf g (a+r)) (fun i c=>dB 1)<|Qv (aC ((gA b) (a+r))) (fun i c=>aM (z.cb c) (a+r))<|eT j<|eT k<|aX (au (2*(r:Int)+1))<|Qv (au ((a:Int)+2*(r:Int)+1)) (fun i c=>fH)<|Qv (pf g (a+2*r+1)) (fun i c=>dB 1)<|Qv (aC ((gA b) (a+2*r+1))) (fun i c=>aM (z.cb c) (a+2*r+1)) ?_;by_cases m:(decide ((gA b) (a+r)<(gA b) (a+2*r+1)))=true
 ·refine qO (fun _ _=>dY ((gA b) (a+r)) ((gA b) (a+2*r+1)) _) aG (by rw[m])<|aX aF<|Qn ?_;intro wb8 Y;have m17:=bB Y z;have b15:=fA Y I l;refine sN<|aK<|Wk<|sN<|Ws ?_;refine jY [0,1,2,3,4,5,6,7,8,9,10,11,12,14,15,16,17,18,13,19,20,21,22,23] [0,0,0,0,0,0,0,0,0,0,0,0,0,4,0,0,0,0,0,4,0,3,0,3] [(21,13,[13]),(23,13,[13]),(21,19,[19]),(23,19,[19]),(22,21,[21]),(23,21,[21])] fun SF ac BU => ?_;have A:=bB ac m17;have J:=fA ac b15 l;refine bX j<|bX k<|bX p<|Rp (au ((a:Int)+(r:Int))) (fun _=>fH)<|bX j<|bX k<|aY (au (2*(r:Int)+1))<|Rp (au ((a:Int)+2*(r:Int)+1)) (fun _=>fH)<|bX j<|bX k<|aY (au (2*(r:Int)+1))<|Rp (au ((a:Int)+2*(r:Int)+1)) (fun _=>fH)<|Rp (pf g (a+2*r+1)) (fun _=>dB 1)<|bX j<|bX k<|bX p<|Rp (au ((a:Int)+(r:Int))) (fun _=>fH)<|Rp (pf g (a+r)) (fun _=>dB 1)<|Rs (aC ((gA b) (a+2*r+1))) (aM A.aH (a+2*r+1)) ?_;refine Rs (aC ((gA b) (a+r))) (aM A.aH (a+r)) ?_;refine Rp (pf g (a+r)) (fun _=>dB 1)<|gQ<|qP A (a+r) (aC ((gA b) (a+2*r+1))) fun w6 m19 s16 z5 => ?_;have K:=s16.below J (m_ l J.size) A.blk.1;refine Ln<|Rp (pf g (a+2*r+1)) (fun _=>dB 1)<|gQ<|qP m19 (a+2*r+1) (aC ((gA b) (a+r))) fun w7 m20 Ih z6 => ?_;have b18:=Ih.below K (m_ l K.size) m19.blk.1;have m21:Fx.Own w7 B 23 1 (bM g n cap) n (rv .u64 (gA (Sort.swp b (a+r) (a+2*r+1)))):=m20.congr (iO t (by omega) (by omega));refine Ln<|bT<|Wl<|av (au (2*(r:Int)+1))<|av (au (2*(r:Int)+1))<|Ln<|bU<|iH ⟨2*r+1,Sort.swp b (a+r) (a+2*r+1),(fD t _ _),(by rw[KX (x0:=a+r) (x1:=a+2*r+1) (x2:=a+2*r+2) (by omega) (by omega) rfl (by omega) (.inl (by omega)),d_ (h_ m)]at o; exact o),(by omega),j,(F.trans Fx.ic),(v.trans Fx.ic),(k.trans Fx.ic),Fx.ic,m21,b18⟩ ?_;show((hi:Int)+q-intOf (au (2*(r:Int)+1))).toNat<_;simp only[p,intOf]; omega
 rw[U_]at m;refine qO (fun _ _=>dY ((gA b) (a+r)) ((gA b) (a+2*r+1)) _) aF (by rw[m])<|aX aG<|Qn ?_;intro wb9 Z;have m22:=bB Z z;have b19:=fA Z I l;refine sN (aN (Wr (sR (bL (qm (bL (⟨.tuple #[],iT Tryz.results186,?_⟩)))))));rw[KX (x0:=a+r) (x1:=a+2*r+1) (x2:=a+2*r+2) (by omega) (by omega) rfl (by omega) (.inl (by omega)),b_ (j_ m)]at o; subst o; exact⟨rfl,m22,b19⟩
theorem O9{i f c:Int}(b hi a:Nat)(l:i=(b:Int))(k:f=(hi:Int))(j:c=(a:Int))(B g n cap:Nat)(d:Array Int)(w:World)(h:Fx.Own w B 23 1 (bM g n cap) n (rv .u64 (gA d)))(m:B<=w.heap.size)(p:d.size=n)(q:n<=1000)(o:a+hi<=n/\b<=1000) :
 Calls Tryz.prog 186 #[bM g n cap,au i,au f,au c] w fun e w'=>e = .returned (.tuple #[])/\Fx.Own w' B 23 1 (bM g n cap) n (rv .u64 (gA (Sort.siftDown Sort.ltInt hi a b d)))/\Below B w w':=by
 subst l k j; exact adt b hi a B g n cap d w h m p q o
theorem adu(a b:Nat)(B g n cap:Nat)(d:Array Int)(w:World)(h:Fx.Own w B 23 1 (bM g n cap) n (rv .u64 (gA d)))(p:B<=w.heap.size)(hn:d.size=n)(Q:n<=1000)(ha:a<b)(hb:b<=n) :
 Calls Tryz.prog 177 #[bM g n cap,au (a:Int),au (b:Int)] w fun e w'=>e = .returned (.tuple #[])/\Fx.Own w' B 23 1 (bM g n cap) n (rv .u64 (gA (Sort.heapSort Sort.ltInt d a b)))/\Below B w w':=by
 obtain⟨j,aa⟩ : ∃ j,j=(b-a-1) / 2:=⟨_,rfl⟩;refine Kent Tryz.func177 56 ?_;refine ay<|av (au a)<|av (au a)<|aD<|ay<|av (au 0)<|aD<|ay<|av (au b)<|av (au a)<|Lv (au ((b:Int)-(a:Int))) gP<|av (au ((b:Int)-(a:Int)))<|aD<|Ws<|ay<|av (au ((b:Int)-(a:Int)))<|Lv (au ((b:Int)-(a:Int)-1)) gP<|Lv (au j) (Fx.DR rfl rfl rfl (by omega) (iM (by omega) (by rw[Int.tdiv_eq_ediv_of_nonneg (by omega)]; omega)))<|av (au j)<|aD<|Wb<|Wo (fun f q => ∃ k:Nat,∃ c:Array Int,c.size=n/\Sort.heapBuild Sort.ltInt (b-a) a k c=Sort.heapBuild Sort.ltInt (b-a) a (j+1) d/\k<=j+1/\f 0=bM g n cap/\f 1=au (a:Int)/\f 2=au (b:Int)/\f 6=au (a:Int)/\f 7=au 0/\f 8=au ((b:Int)-(a:Int))/\f 9=au ((k:Int)-1)/\Fx.Own q B 23 1 (bM g n cap) n (rv .u64 (gA c))/\Below B w q) (fun f _=>(intOf (f 9)+1).toNat) ⟨j+1,d,hn,rfl,(by omega),(by rfl),Fx.ic,Fx.ic,Fx.ic,Fx.ic,Fx.ic,Fx.ic,h,(Below.refl B w)⟩ ?_;rintro f1 w1 ⟨k,c,z,N,hkm,u,K,L,v,M,y,r,R,t⟩;refine Ws<|ay<|aU r ?_;by_cases G:0<=((k:Int)-1)
 ·refine Lv aG (kW G)<|aD<|aN<|Wk<|sN<|Ws<|Wb<|Wl<|aU u<|aU r<|aU y<|aU v<|dX (O9 (k-1) (b-a) a (by omega) (by omega) (by omega) B g n cap c _ R (m_ p t.size) z Q ⟨by omega,by omega⟩) (ax := #[bM g n cap,au ((k:Int)-1),au ((b:Int)-(a:Int)),au (a:Int)]) _ rfl ?_;rintro w2 ⟨m2,Y⟩;have U:=t.trans Y;refine Ln<|bU<|sN<|Wl<|aU r<|Lv (au ((k:Int)-2)) gP<|av (au ((k:Int)-2))<|Ln<|iH ⟨k-1,Sort.siftDown Sort.ltInt (b-a) a (k-1) c,(EK (by omega) _ _ _ (A_ _) z),((Ua (by omega)).trans N),(by omega),u,(K.trans Fx.ic),(L.trans Fx.ic),(v.trans Fx.ic),(M.trans Fx.ic),(y.trans Fx.ic),Fx.ic,m2,U⟩ ?_;show(intOf (au ((k:Int)-2))+1).toNat<_;simp only[r,intOf]; omega
 refine Lv aF (kN G)<|aD<|aK<|Wx<|cZ<|gZ<|dh<|sN<|ay<|aU y<|Lv (au ((b:Int)-(a:Int)-1)) gP<|av (au ((b:Int)-(a:Int)-1))<|aD<|Wb ?_;obtain rfl:k=0:=by omega
 obtain⟨I,hd1⟩ : ∃ I,I=c:=⟨_,rfl⟩;refine Wo (fun f q => ∃ k2:Nat,∃ i:Array Int,i.size=n/\Sort.heapPop Sort.ltInt a k2 i=Sort.heapPop Sort.ltInt a (b-a) c/\k2<=b-a/\f 0=bM g n cap/\f 1=au (a:Int)/\f 2=au (b:Int)/\f 6=au (a:Int)/\f 7=au 0/\f 10=au ((k2:Int)-1)/\Fx.Own q B 23 1 (bM g n cap) n (rv .u64 (gA i))/\Below B w q) (fun f _=>(intOf (f 10)+1).toNat) ⟨b-a,c,z,rfl,(by omega),u,(K.trans Fx.ic),(L.trans Fx.ic),(v.trans Fx.ic),(M.trans Fx.ic),Fx.ic,R,t⟩ ?_;rintro f2 w3 ⟨k2,i,A,O,hkp,o,X,W,l,J,m,S,C⟩;refine Ws<|ay<|aU m ?_;by_cases H:0<=((k2:Int)-1)
 ·refine Lv aG (kW H)<|aD<|aN<|Wk<|sN<|Ws<|Wb<|Ws ?_;refine jY [0,1,2,3,4,5,6,7,8,9,10,12,13,14,11,15,16,17,18,19] [0,0,0,0,0,0,0,0,0,0,0,4,0,0,0,4,0,3,0,3] [(17,11,[11]),(19,11,[11]),(17,15,[15]),(19,15,[15]),(18,17,[17]),(19,17,[17])] fun qU P iC => ?_;have s:=bB P S;have D:=fA P C p;refine bX o<|bX l<|bX o<|bX l<|bX m<|Rp (au ((a:Int)+(k2:Int)-1)) (fun _=>fH)<|bX o<|bX l<|bX m<|Rp (au ((a:Int)+(k2:Int)-1)) (fun _=>fH)<|Rp (pf g (a+k2-1)) (fun _=>dB 1)<|bX o<|bX l<|Rp (pf g a) (fun _=>dB 1)<|Rs (aC ((gA i) (a+k2-1))) (aM s.aH (a+k2-1)) ?_;refine Rs (aC ((gA i) a)) (aM s.aH a) ?_;refine Rp (pf g a) (fun _=>dB 1)<|gQ<|qP s a (aC ((gA i) (a+k2-1))) fun w4 T s2 z1 => ?_;have E:=s2.below D (m_ p D.size) s.blk.1;refine Ln<|Rp (pf g (a+k2-1)) (fun _=>dB 1)<|gQ<|qP T (a+k2-1) (aC ((gA i) a)) fun w5 m6 s3 z2 => ?_;have F:=s3.below E (m_ p E.size) T.blk.1;have m7:Fx.Own w5 B 23 1 (bM g n cap) n (rv .u64 (gA (Sort.swp i a (a+k2-1)))):=m6.congr (iO A (by omega) (by omega));refine Ln<|bT<|Wl<|aU o<|aU J<|aU m<|aU l<|dX (O9 0 (k2-1) a (by omega) (by omega) (by omega) B g n cap (Sort.swp i a (a+k2-1)) _ m7 (m_ p F.size) (fD A _ _) Q ⟨by omega,by omega⟩) (ax := #[bM g n cap,au 0,au ((k2:Int)-1),au (a:Int)]) _ rfl ?_;rintro w6 ⟨m8,Z⟩;have V:=F.trans Z;refine Ln<|bU<|sN<|Wl<|aU m<|Lv (au ((k2:Int)-2)) gP<|av (au ((k2:Int)-2))<|Ln<|iH ⟨k2-1,Sort.siftDown Sort.ltInt (k2-1) a 0 (Sort.swp i a (a+k2-1)),(EK (by omega) _ _ _ (A_ _) (fD A _ _)),((adq (x:=a+k2-1) (by omega) (by omega)).trans O),(by omega),o,(X.trans Fx.ic),(W.trans Fx.ic),(l.trans Fx.ic),(J.trans Fx.ic),Fx.ic,m8,V⟩ ?_;show(intOf (au ((k2:Int)-2))+1).toNat<_;simp only[m,intOf]; omega
 refine Lv aF (kN H) (aD (aK (Wx (cZ (gZ (dh (⟨.tuple #[],iT Tryz.results177,?_⟩)))))));obtain rfl:k2=0:=by omega
 unfold Sort.heapSort; rw[<- aa,<- N,show Sort.heapBuild Sort.ltInt (b-a) a 0 c=c from rfl,<- O]; exact⟨rfl,S,C⟩
theorem ahR(a b:Nat)(B g n cap:Nat)(d:Array Int)(w:World)(h:Fx.Own w B 23 1 (bM g n cap) n (rv .u64 (gA d)))(p:B<=w.heap.size)(F:d.size=n)(O:n<=1000)(ha:a<b)(M:b<=n) :
 Calls Tryz.prog 180 #[bM g n cap,au (a:Int),au (b:Int)] w fun e w'=>e = .returned (.tuple #[])/\Fx.Own w' B 23 1 (bM g n cap) n (rv .u64 (gA (Sort.reverseRange d a b)))/\Below B w w':=by
 refine Kent Tryz.func180 32 ?_;refine ay<|av (au a)<|av (au a)<|aD<|ay<|av (au b)<|Lv (au ((b:Int)-1)) gP<|av (au ((b:Int)-1))<|aD<|Wb<|Wo (fun f A => ∃ i:Nat,∃ j:Nat,∃ c:Array Int,c.size=n/\(a<=i/\j<b/\i<=b)/\Sort.reverseLoop i j c=Sort.reverseLoop a (b-1) d/\f 0=bM g n cap/\f 1=au (a:Int)/\f 2=au (b:Int)/\f 6=au (i:Int)/\f 7=au (j:Int)/\Fx.Own A B 23 1 (bM g n cap) n (rv .u64 (gA c))/\Below B w A) (fun f _=>((b:Int)-intOf (f 6)).toNat) ⟨a,b-1,d,F,(by omega),rfl,(by rfl),Fx.ic,Fx.ic,Fx.ic,Fx.ic,h,(Below.refl B w)⟩ ?_;rintro L Q ⟨i,j,c,x,N,q,k,D,E,l,m,y,r⟩;refine Ws<|ay<|aU l<|aU m ?_;by_cases u:(i:Int)<(j:Int)
 ·refine Lv aG (iD u)<|aD<|aN<|Wk<|sN<|Wb<|Ws ?_;refine jY [0,1,2,3,4,5,6,8,9,10,7,11,12,13,14,15] [0,0,0,0,0,0,0,4,0,0,0,4,0,3,0,3] [(13,7,[7]),(15,7,[7]),(13,11,[11]),(15,11,[11]),(14,13,[13]),(15,13,[13])] fun S v P => ?_;have o:=bB v y;have s:=fA v r p;refine bX k<|bX l<|bX k<|bX m<|bX k<|bX m<|Rp (pf g j) (fun _=>dB 1)<|bX k<|bX l<|Rp (pf g i) (fun _=>dB 1)<|Rs (aC ((gA c) j)) (aM o.aH j) ?_;refine Rs (aC ((gA c) i)) (aM o.aH i) ?_;refine Rp (pf g i) (fun _=>dB 1)<|gQ<|qP o i (aC ((gA c) j)) fun R z I T => ?_;have t:=I.below s (m_ p s.size) o.blk.1;refine Ln<|Rp (pf g j) (fun _=>dB 1)<|gQ<|qP z j (aC ((gA c) i)) fun K G J U => ?_;have C:=J.below t (m_ p t.size) z.blk.1;have H:Fx.Own K B 23 1 (bM g n cap) n (rv .u64 (gA (Sort.swp c i j))):=G.congr (iO x (by omega) (by omega));refine Ln<|bT<|ay<|aU l<|Lv (au ((i:Int)+1)) fH<|av (au ((i:Int)+1))<|aD<|Wl<|aU m<|Lv (au ((j:Int)-1)) gP<|av (au ((j:Int)-1))<|Ln<|bU<|iH ⟨i+1,j-1,Sort.swp c i j,(fD x _ _),(by omega),((adr (by omega)).trans q),k,(D.trans Fx.ic),(E.trans Fx.ic),Fx.ic,Fx.ic,H,C⟩ ?_;show((b:Int)-intOf (au ((i:Int)+1))).toNat<_;simp only[l,intOf]; omega
 refine Lv aF (iE u) (aD (aK (Wx (cZ (gZ (dh (⟨.tuple #[],iT Tryz.results180,?_⟩)))))));rw[Ub (by omega)]at q; unfold Sort.reverseRange; rw[<- q]; exact⟨rfl,y,r⟩
end
end Go.Proofs.YtcbedgfikejkoaaGreatDoor
namespace Go.Proofs.YtcbedgfikejkoaaGreatDoor
open Go.RowKit Rt
namespace Fx
def dN(a b:Int):Int:=((BitVec.ofInt 64 a ^^^ BitVec.ofInt 64 b).toNat:Int)
def KY(a b:Int):Int:=((BitVec.ofInt 64 a &&& BitVec.ofInt 64 b).toNat:Int)
def fE(a:Int)(b:Nat):Int:=IntKind.u64.wrap (a*2^b)
theorem Pb(a b:Int):0<=dN a b/\dN a b<=18446744073709551615:=by
 unfold dN; have:=(BitVec.ofInt 64 a ^^^ BitVec.ofInt 64 b).isLt; omega
theorem JA(a:Int){b:Int}(h:0<=b)(c:b<=18446744073709551615):0<=KY a b/\KY a b<=b:=by
 unfold KY;rw[BitVec.toNat_and];have d:(BitVec.ofInt 64 b).toNat=b.toNat:=by rw[BitVec.toNat_ofInt]; omega
 have:=Nat.and_le_right (n:=(BitVec.ofInt 64 a).toNat) (m:=(BitVec.ofInt 64 b).toNat);omega
section
variable {P:Program} {f:Nat->Value} {w:World} {o:Oper}
theorem Ue{T T':TypeId}{x y:Operand}{a b:Int}(c:o.op = .binOp .xor T x y T')(hx:ev f x = .int .u64 a)(hy:ev f y = .int .u64 b):Runs P f o w (.int .u64 (dN a b)) :=
 uF c hx hy (by
  have h:=jQ (Pb a b) rfl;simp only[binOp,Op.intBits];show(pure (Value.int .u64 (IntKind.u64.wrap (dN a b))):Sem Value).run P w=_;rw[h]; rfl)
theorem ahS{T T':TypeId}{x y:Operand}{a b:Int}(g:o.op = .binOp .and T x y T')(hx:ev f x = .int .u64 a)(hy:ev f y = .int .u64 b)(d:0<=b)(h1:b<=18446744073709551615):Runs P f o w (.int .u64 (KY a b)) :=
 uF g hx hy (by
  have e:=JA a d h1;have h:=jQ (c:=KY a b) ⟨e.1,by omega⟩ rfl;simp only[binOp,Op.intBits];show(pure (Value.int .u64 (IntKind.u64.wrap (KY a b))):Sem Value).run P w=_;rw[h]; rfl)
theorem adv{T:TypeId}{x i:Operand}{s:ByteArray}{j:Nat}(e:o.op = .index T x i)(hx:ev f x = .string s)(hi:ev f i = .int .u8 (j:Int))(h:P.underlying T=some .string)(d:j<64)
 (g : ∀ q,q<64->(s[q]?).map (·.toNat)=some (Sort.bitsLen q)):Runs P f o w (.int .u8 (Sort.bitsLen j:Int)):=by
 obtain⟨b,a,c⟩:=Option.map_eq_some_iff.1 (g j d);unfold Runs execOp;simp only[e,hx,hi];simp[Instr.index,asIntOf,underlying,h,a,c]
end
end Fx
theorem Rt.Pf{n:Nat}(h:n<64):Sort.bitsLen n<=6:=(Sort.bitsLen_le_iff _ _).2 (by omega)
end Go.Proofs.YtcbedgfikejkoaaGreatDoor
namespace Go.Proofs.YtcbedgfikejkoaaGreatDoor
open Go.RowKit Rt
open Fx (dF Lv sN Ln Ws Qv Wl Rp Wr Sb Wk rC sR Rs Rn Wb Wx Wo DW Qn BL fP ng wT A9 rv aQ Stp dN fE iT iM qR jQ dK bL bU cZ dh gZ iH qm)
section
open Rt
theorem YM(n:Nat)(w:World)(a:n<64) :
 Calls Tryz.prog 138 #[aC (n:Int)] w fun e w'=>e = .returned (au (Sort.bitsLen n:Int))/\w'=w:=by
 have b:=Pf a;refine Kent Tryz.func138 25 ?_;refine ay<|av (au 0)<|aD<|Ws<|ay<|av (aC n)<|Lv aF H7<|aD<|aK<|Wk<|sN<|Ws<|ay<|av (aC n)<|Lv aF H7<|aD<|aK<|Wk<|sN<|Ws<|ay<|av (aC n)<|Lv aF H7<|aD<|aK<|Wk<|sN<|ay<|av (au 0)<|av (aC n)<|Lv (.int .u8 (n:Int)) (dF rfl rfl (by kernel_rfl) Tryz.underlying5 (Fx.u8e (by omega) rfl))<|Lv (.int .u8 (Sort.bitsLen n:Int)) (Fx.adv rfl rfl rfl Tryz.underlying9 a (by decide +kernel))<|Lv (au (Sort.bitsLen n:Int)) (dF rfl rfl (by kernel_rfl) Tryz.underlying3 (iM (by omega) rfl))<|Lv (au (0+(Sort.bitsLen n:Int))) fH<|av (au (0+(Sort.bitsLen n:Int)))<|aD<|Wr<|aJ (au (0+(Sort.bitsLen n:Int))) ?_;exact⟨by rw[Int.zero_add],rfl⟩
theorem Uf(n:Nat)(w:World)(a:n<64) :
 Calls Tryz.prog 87 #[aC (n:Int)] w fun e w'=>e = .returned (au (Sort.bitsLen n:Int))/\w'=w:=by
 have b:=Pf a;refine Kent Tryz.func87 8 ?_;refine ay<|av (au 0)<|aD<|Ws<|aK<|Wk<|sN<|ay<|av (aC n)<|lX (YM n _ a) _ rfl<|av (au (Sort.bitsLen n:Int))<|aD<|Wr<|aJ (au (Sort.bitsLen n:Int)) ?_;exact⟨rfl,rfl⟩
theorem ahT(n m:Nat)(w:World)(f:n<64)(c:0<n)(a:m=2^Sort.bitsLen n) :
 Calls Tryz.prog 165 #[au (n:Int)] w fun e w'=>e = .returned (aC (m:Int))/\w'=w:=by
 have g:=Pf f;have d:=Sort.two_pow_bitsLen_le c;rw[<- a]at d;refine Kent Tryz.func165 7 ?_;refine ay<|av (aC 0)<|aD<|ay<|av (au n)<|Lv (aC n) (dF rfl rfl (by kernel_rfl) Tryz.underlying161 (jQ (by omega) rfl))<|lX (Uf n _ (by omega)) _ rfl<|Lv (aC m) (Fx.KI (b:=Sort.bitsLen n) rfl rfl rfl (show _<=64 by omega) (jQ (by omega) (by rw[a]; simp)))<|av (aC m)<|aD<|Wr<|aJ (aC m) ?_;exact⟨rfl,rfl⟩
theorem adw(a:Nat)(r:Int)(w:World)(h:aQ w a 1 (fun _=>aC r) 237) :
 Calls Tryz.prog 166 #[(pt a)] w fun e w' => ∃ d,e = .returned (aC d)/\(0<=d/\d<=18446744073709551615)/\Stp a w w'/\aQ w' a 1 (fun _=>aC d) 237:=by
 refine Kent Tryz.func166 33 ?_;refine ay<|av (aC 0)<|aD<|Ws ?_;refine jY [0,1,3,4,2,5,6,7,8,9] [0,0,4,0,0,4,0,0,0,3] [(9,2,[2]),(9,5,[5])] fun K n N => ?_;have D:Stp w.heap.size w K:=Sb n;have f:=bB n h;have t:=(ng a w).then D (.inr (ng a w).size);refine aY (pt a)<|aY (pt a)<|aY (pt a)<|aY (pt a)<|Rs (aC r) (aM f.aH 0) ?_;refine Rs (aC r) (aM f.aH 0) ?_;refine Rp (aC (fE r 13)) (fun c=>Fx.KI (b:=13) rfl rfl rfl (by decide) rfl)<|Rp (aC (dN r (fE r 13))) (fun c=>Fx.Ue rfl rfl rfl)<|aY (pt a)<|gQ<|ji f 0 (aC (dN r (fE r 13))) fun j y E Q => ?_;have z:aQ j a 1 (fun _=>aC (dN r (fE r 13))) 237:=dK y;have l:=t.then E (by omega);refine Ln<|bT<|Ws ?_;refine jY [0,1,3,4,2,5,6,7,8,9] [0,0,4,0,0,4,0,0,0,3] [(9,2,[2]),(9,5,[5])] fun L o O => ?_;have F:Stp j.heap.size j L:=Sb o;have g:=bB o z;have u:=l.then F (.inr l.size);refine aY (pt a)<|aY (pt a)<|aY (pt a)<|aY (pt a)<|Rs (aC (dN r (fE r 13))) (aM g.aH 0) ?_;refine Rs (aC (dN r (fE r 13))) (aM g.aH 0) ?_;refine Rp (aC ((dN r (fE r 13)) / 128)) (fun c=>Fx.abq (b:=7) (q:=128) rfl rfl rfl (by decide) (by decide))<|Rp (aC (dN (dN r (fE r 13)) ((dN r (fE r 13)) / 128))) (fun c=>Fx.Ue rfl rfl rfl)<|aY (pt a)<|gQ<|ji g 0 (aC (dN (dN r (fE r 13)) ((dN r (fE r 13)) / 128))) fun k A G R => ?_;have B:aQ k a 1 (fun _=>aC (dN (dN r (fE r 13)) ((dN r (fE r 13)) / 128))) 237:=dK A;have m:=u.then G (by omega);refine Ln<|bT<|Ws ?_;refine jY [0,1,3,4,2,5,6,7,8,9] [0,0,4,0,0,4,0,0,0,3] [(9,2,[2]),(9,5,[5])] fun M p P => ?_;have H:Stp k.heap.size k M:=Sb p;have i:=bB p B;have v:=m.then H (.inr m.size);refine aY (pt a)<|aY (pt a)<|aY (pt a)<|aY (pt a)<|Rs (aC (dN (dN r (fE r 13)) ((dN r (fE r 13)) / 128))) (aM i.aH 0) ?_;refine Rs (aC (dN (dN r (fE r 13)) ((dN r (fE r 13)) / 128))) (aM i.aH 0) ?_;refine Rp (aC (fE (dN (dN r (fE r 13)) ((dN r (fE r 13)) / 128)) 17)) (fun c=>Fx.KI (b:=17) rfl rfl rfl (by decide) rfl)<|Rp (aC (dN (dN (dN r (fE r 13)) ((dN r (fE r 13)) / 128)) (fE (dN (dN r (fE r 13)) ((dN r (fE r 13)) / 128)) 17))) (fun c=>Fx.Ue rfl rfl rfl)<|aY (pt a)<|gQ<|ji i 0 (aC (dN (dN (dN r (fE r 13)) ((dN r (fE r 13)) / 128)) (fE (dN (dN r (fE r 13)) ((dN r (fE r 13)) / 128)) 17))) fun J C I S => ?_;have s:aQ J a 1 (fun _=>aC (dN (dN (dN r (fE r 13)) ((dN r (fE r 13)) / 128)) (fE (dN (dN r (fE r 13)) ((dN r (fE r 13)) / 128)) 17))) 237:=dK C;have x:=v.then I (by omega);refine Ln<|bT<|ay<|av (pt a)<|av (pt a)<|Lv (aC (dN (dN (dN r (fE r 13)) ((dN r (fE r 13)) / 128)) (fE (dN (dN r (fE r 13)) ((dN r (fE r 13)) / 128)) 17))) (aM s.aH 0)<|av (aC (dN (dN (dN r (fE r 13)) ((dN r (fE r 13)) / 128)) (fE (dN (dN r (fE r 13)) ((dN r (fE r 13)) / 128)) 17)))<|aD<|Wr<|aJ (aC (dN (dN (dN r (fE r 13)) ((dN r (fE r 13)) / 128)) (fE (dN (dN r (fE r 13)) ((dN r (fE r 13)) / 128)) 17))) ?_;exact⟨_,rfl,Fx.Pb _ _,x,s⟩
end
section
open Rt
theorem adx{a:Int}(n m:Nat)(w:World)(e:a=(n:Int))(d:n<64)(b:0<n)(c:m=2^Sort.bitsLen n):Calls Tryz.prog 165 #[au a] w fun e w'=>e = .returned (aC (m:Int))/\w'=w:=by
 subst e; exact ahT n m w d b c
theorem ahU(a b:Nat)(B g n cap:Nat)(d:Array Int)(w:World)(h:Fx.Own w B 23 1 (bM g n cap) n (rv .u64 (gA d)))(o:B<=w.heap.size)(X:d.size=n)(hs:n<=1000)(ha:a<b)(hb:b<=n)(h50:n<50) :
 Calls Tryz.prog 178 #[bM g n cap,au (a:Int),au (b:Int)] w fun e w' => ∃ y:Array Int,e = .returned (.tuple #[])/\y.size=n/\Sort.PermIn a b d y/\Fx.Own w' B 23 1 (bM g n cap) n (rv .u64 (gA y))/\Below B w w':=by
 obtain⟨i,hq0⟩ : ∃ i,i=(b-a) / 4:=⟨_,rfl⟩;refine Kent Tryz.func178 65 ?_;refine ay<|av (au b)<|av (au a)<|Lv (au ((b:Int)-(a:Int))) gP<|av (au ((b:Int)-(a:Int)))<|aD<|ay<|av (au ((b:Int)-(a:Int))) ?_;by_cases O:8<=((b:Int)-(a:Int))
 ·refine Lv aG (kW O)<|aD<|aN<|ay<|av (au ((b:Int)-(a:Int)))<|Lv (aC ((b:Int)-(a:Int))) (dF rfl rfl (by kernel_rfl) Tryz.underlying237 (jQ (by omega) rfl))<|nS 1 (rv .u64 (fun _=>0)) fun v w1 R D s1 z1 => ?_;have m2:=bB s1.old h;have I:=fA s1.old (Below.refl B w) o;have tC:=iK R (Below.refl B w).size;have nK:=cO R h.lt;have uK:=D.lt;refine ji D 0 (aC ((b:Int)-(a:Int))) fun w2 m3 s2 z2 => ?_;have m4:aQ w2 v 1 (fun _=>aC ((b:Int)-(a:Int))) 237:=dK m3;have gF:=fP s2 D.ty;have m5:=jh gF m2;have b2:=s2.below I (m_ o I.size) (by omega);refine aD<|ay<|av (au ((b:Int)-(a:Int))) ?_;obtain⟨m,W⟩ : ∃ m,m=2^Sort.bitsLen (b-a):=⟨_,rfl⟩;have hm2:=Sort.two_pow_bitsLen_le (show 0<b-a by omega);have hm3:=Sort.lt_two_pow_bitsLen (b-a);rw[<- W]at hm2 hm3;refine lX (adx (b-a) m _ (by omega) (by omega) (by omega) W) (ax := #[au ((b:Int)-(a:Int))]) _ rfl<|av (aC m)<|aD<|ay<|av (au a)<|av (au ((b:Int)-(a:Int)))<|Lv (au i) (Fx.DR rfl rfl rfl (by omega) (iM (by omega) (by rw[Int.tdiv_eq_ediv_of_nonneg (by omega)]; omega)))<|Lv (au ((i:Int)*2)) (Fx.Hu rfl rfl rfl Fx.io)<|Lv (au ((a:Int)+2*(i:Int))) fH<|Lv (au ((a:Int)+2*(i:Int)-1)) gP<|av (au ((a:Int)+2*(i:Int)-1))<|aD<|Wb<|Wo (fun f H => ∃ ix:Nat,∃ G:Int,∃ j:Array Int,j.size=n/\Sort.PermIn a b d j/\(a+2*i<=ix+1/\ix<=a+2*i+2)/\f 0=bM g n cap/\f 1=au (a:Int)/\f 2=au (b:Int)/\f 6=au ((b:Int)-(a:Int))/\f 7=(pt v)/\f 8=aC (m:Int)/\f 9=au (ix:Int)/\Fx.Own H B 23 1 (bM g n cap) n (rv .u64 (gA j))/\aQ H v 1 (fun _=>aC G) 237/\Below B w H) (fun f _=>((a:Int)+2*i+2-intOf (f 9)).toNat) ⟨a+2*i-1,((b:Int)-(a:Int)),d,X,(Sort.permIn_refl _ _ _),(by omega),(by rfl),Fx.ic,Fx.ic,Fx.ic,(by rfl),Fx.ic,Fx.ic,m5,m4,b2⟩ ?_;rintro f1 w3 ⟨ix,G,j,s,C,hix,k,p,S,r,z,A,l,Y,Z,x⟩;refine Ws<|ay<|aU l<|aU p<|aU r<|Lv (au i) (Fx.DR rfl rfl rfl (by omega) (iM (by omega) (by rw[Int.tdiv_eq_ediv_of_nonneg (by omega)]; omega)))<|Lv (au ((i:Int)*2)) (Fx.Hu rfl rfl rfl Fx.io)<|Lv (au ((a:Int)+2*(i:Int))) fH<|Lv (au ((a:Int)+2*(i:Int)+1)) fH ?_;by_cases P:(ix:Int)<=((a:Int)+2*(i:Int)+1)
  ·refine Lv aG (oh P) (aD (aN (Wk (sN (Ws (Wb (ay (kF (adw v G _ Z) ?_ (hr:=rC rfl (Fx.args1 z) Tryz.func166 rfl rfl)))))))));rintro e9 w4 ⟨q,V,hr1,s3,m8⟩;refine⟨_,V,?_⟩;clear V;have jT:=fP s3 Z.ty;have m9:=jh jT Y;have J:=s3.below x (m_ o x.size) (by omega);refine aU A<|Lv (aC ((m:Int)-1)) gP ?_;obtain⟨c,ho1,ko1⟩ : ∃ c:Nat,(c:Int)=Fx.KY q ((m:Int)-1)/\(c:Int)<=(m:Int)-1:=⟨(Fx.KY q ((m:Int)-1)).toNat,by have:=Fx.JA q (show 0<=(m:Int)-1 by omega) (by omega); omega,by have:=Fx.JA q (show 0<=(m:Int)-1 by omega) (by omega); omega⟩;refine Lv (aC c) (by rw[ho1]; exact Fx.ahS rfl rfl rfl (by omega) (by omega))<|Lv (au c) (dF rfl rfl (by kernel_rfl) Tryz.underlying3 (iM (by omega) rfl))<|av (au c)<|aD<|Ws<|ay<|av (au c)<|aU r ?_;by_cases Q:((b:Int)-(a:Int))<=(c:Int)
   ·refine Lv aG (kW Q)<|aD<|aN<|Wl<|av (au c)<|aU r<|Lv (au ((a:Int)+(c:Int)-(b:Int))) gP<|av (au ((a:Int)+(c:Int)-(b:Int)))<|aD ?_;refine jY [0,1,2,3,4,5,6,7,8,9,10,12,13,14,11,15,16,17,18,19] [0,0,0,0,0,0,0,0,0,0,0,4,0,0,0,4,0,3,0,3] [(17,11,[11]),(19,11,[11]),(17,15,[15]),(19,15,[15]),(18,17,[17]),(19,17,[17])] fun qU T iC => ?_;have⟨t,m11⟩:=fC T m9 m8;have K:=fA T J o;refine bX k<|bX l<|bX k<|bX p<|aY (au ((a:Int)+(c:Int)-(b:Int)))<|Rp (au (2*(a:Int)+(c:Int)-(b:Int))) (fun _=>fH)<|bX k<|bX p<|aY (au ((a:Int)+(c:Int)-(b:Int)))<|Rp (au (2*(a:Int)+(c:Int)-(b:Int))) (fun _=>fH)<|Rp (pf g (2*a+c-b)) (fun _=>dB 1)<|bX k<|bX l<|Rp (pf g ix) (fun _=>dB 1)<|Rs (aC ((gA j) (2*a+c-b))) (aM t.aH (2*a+c-b)) ?_;refine Rs (aC ((gA j) ix)) (aM t.aH ix) ?_;refine Rp (pf g ix) (fun _=>dB 1)<|gQ<|qP t ix (aC ((gA j) (2*a+c-b))) fun w5 E s5 z3 => ?_;have oq:=fP s5 t.KJ;have m13:=jh oq m11;have L:=s5.below K (m_ o K.size) t.blk.1;refine Ln<|Rp (pf g (2*a+c-b)) (fun _=>dB 1)<|gQ<|qP E (2*a+c-b) (aC ((gA j) ix)) fun w6 m14 s6 z4 => ?_;have uq:=fP s6 E.KJ;have m15:=jh uq m13;have b7:=s6.below L (m_ o L.size) E.blk.1;have m16:Fx.Own w6 B 23 1 (bM g n cap) n (rv .u64 (gA (Sort.swp j ix (2*a+c-b)))):=m14.congr (iO s (by omega) (by omega));refine Ln<|Rn<|bU<|sN<|Wl<|aU l<|Lv (au ((ix:Int)+1)) fH<|av (au ((ix:Int)+1))<|Ln<|iH ⟨ix+1,q,Sort.swp j ix (2*a+c-b),(fD s _ _),(Sort.permIn_trans _ _ _ _ _ C (Sort.swp_permIn _ _ _ _ _ (by omega) (by omega) (by omega) (by omega) (by omega))),(by omega),k,(p.trans Fx.ic),(S.trans Fx.ic),(r.trans Fx.ic),z,(A.trans Fx.ic),Fx.ic,m16,m15,b7⟩ ?_;show((a:Int)+2*i+2-intOf (au ((ix:Int)+1))).toNat<_;simp only[l,intOf]; omega
   refine Lv aF (kN Q)<|aD<|aK<|Wk<|sN ?_;refine jY [0,1,2,3,4,5,6,7,8,9,10,12,13,14,11,15,16,17,18,19] [0,0,0,0,0,0,0,0,0,0,0,4,0,0,0,4,0,3,0,3] [(17,11,[11]),(19,11,[11]),(17,15,[15]),(19,15,[15]),(18,17,[17]),(19,17,[17])] fun BS U mQ => ?_;have⟨u,m18⟩:=fC U m9 m8;have M:=fA U J o;refine bX k<|bX l<|bX k<|bX p<|aY (au c)<|Rp (au ((a:Int)+(c:Int))) (fun _=>fH)<|bX k<|bX p<|aY (au c)<|Rp (au ((a:Int)+(c:Int))) (fun _=>fH)<|Rp (pf g (a+c)) (fun _=>dB 1)<|bX k<|bX l<|Rp (pf g ix) (fun _=>dB 1)<|Rs (aC ((gA j) (a+c))) (aM u.aH (a+c)) ?_;refine Rs (aC ((gA j) ix)) (aM u.aH ix) ?_;refine Rp (pf g ix) (fun _=>dB 1)<|gQ<|qP u ix (aC ((gA j) (a+c))) fun w7 F s8 z5 => ?_;have uV:=fP s8 u.KJ;have m20:=jh uV m18;have N:=s8.below M (m_ o M.size) u.blk.1;refine Ln<|Rp (pf g (a+c)) (fun _=>dB 1)<|gQ<|qP F (a+c) (aC ((gA j) ix)) fun w8 m21 s9 z6 => ?_;have vT:=fP s9 F.KJ;have m22:=jh vT m20;have b10:=s9.below N (m_ o N.size) F.blk.1;have m23:Fx.Own w8 B 23 1 (bM g n cap) n (rv .u64 (gA (Sort.swp j ix (a+c)))):=m21.congr (iO s (by omega) (by omega));refine Ln<|Rn<|bU<|sN<|Wl<|aU l<|Lv (au ((ix:Int)+1)) fH<|av (au ((ix:Int)+1))<|Ln<|iH ⟨ix+1,q,Sort.swp j ix (a+c),(fD s _ _),(Sort.permIn_trans _ _ _ _ _ C (Sort.swp_permIn _ _ _ _ _ (by omega) (by omega) (by omega) (by omega) (by omega))),(by omega),k,(p.trans Fx.ic),(S.trans Fx.ic),(r.trans Fx.ic),z,(A.trans Fx.ic),Fx.ic,m23,m22,b10⟩ ?_;show((a:Int)+2*i+2-intOf (au ((ix:Int)+1))).toNat<_;simp only[l,intOf]; omega
  refine Lv aF (oP P) (aD (aK (Wx (cZ (gZ (dh (⟨.tuple #[],iT Tryz.results178,?_⟩)))))));exact⟨j,rfl,s,C,Y,x⟩
 refine Lv aF (kN O) (aD (aK (Wk (⟨.tuple #[],iT Tryz.results178,?_⟩))));exact⟨d,rfl,X,Sort.permIn_refl _ _ _,h,(Below.refl B w)⟩
end
section
open Rt
theorem ady(a b f:Nat)(c:Int)(B g n cap:Nat)(d:Array Int)(w:World)(h:Fx.Own w B 23 1 (bM g n cap) n (rv .u64 (gA d)))(l:B<=w.heap.size)(J:d.size=n)(K:n<=1000)(ha:a<n)(H:b<n)(I:B<=f)(q:aQ w f 1 (fun _=>au c) 3)(L:0<=c/\c<=1000) :
 Calls Tryz.prog 189 #[bM g n cap,au (a:Int),au (b:Int),(pt f)] w fun e w' => ∃(x y:Nat) (i:Int),e = .returned (.tuple #[au (x:Int),au (y:Int)])/\((x=a/\y=b)\/(x=b/\y=a))/\(c<=i/\i<=c+1)/\aQ w' f 1 (fun _=>au i) 3/\Fx.Own w' B 23 1 (bM g n cap) n (rv .u64 (gA d))/\Below B w w':=by
 refine Kent Tryz.func189 28 ?_;refine ay<|av (au 0)<|av (au 0)<|aD<|Ws<|Ws ?_;refine nD<|aX (bM g n cap)<|aX (au b)<|Qv (pf g b) (fun o j=>dB 1)<|Qv (aC ((gA d) b)) (fun o j=>aM (h.cb j) b)<|aX (bM g n cap)<|aX (au a)<|Qv (pf g a) (fun o j=>dB 1)<|Qv (aC ((gA d) a)) (fun o j=>aM (h.cb j) a) ?_;by_cases k:(decide ((gA d) b<(gA d) a))=true
 ·refine qO (fun _ _=>dY ((gA d) b) ((gA d) a) _) aG (by rw[k])<|Qn ?_;intro M r;have⟨z,m⟩:=fC r h q;have p:=fA r (Below.refl B w) l;refine sN<|aN<|ay<|av (pt f)<|av (pt f)<|Lv (au c) (aM m.aH 0)<|Lv (au (c+1)) fH<|av (pt f)<|ji m 0 (au (c+1)) fun G A i O => ?_;have C:aQ G f 1 (fun _=>au (c+1)) 3:=dK A;have v:=fP i m.ty;have D:=jh v z;have t:=i.below p (m_ l p.size) (by omega);refine aD<|ay<|av (au b)<|av (au a)<|av (au b)<|av (au a)<|aD<|Wr<|sR<|aJ (.tuple #[au (b:Int),au (a:Int)]) ?_;exact⟨b,a,c+1,rfl,.inr ⟨rfl,rfl⟩,by omega,C,D,t⟩
 rw[U_]at k;refine qO (fun _ _=>dY ((gA d) b) ((gA d) a) _) aF (by rw[k])<|Qn ?_;intro N s;have⟨E,F⟩:=fC s h q;have u:=fA s (Below.refl B w) l;refine sN<|aK<|Wk<|sN<|ay<|av (au a)<|av (au b)<|av (au a)<|av (au b)<|aD<|Wr<|aJ (.tuple #[au (a:Int),au (b:Int)]) ?_;exact⟨a,b,c,rfl,.inl ⟨rfl,rfl⟩,by omega,F,E,u⟩
theorem JC{j k:Int}(a b:Nat)(l:j=(a:Int))(m:k=(b:Int))(f:Nat)(c:Int)(B g n cap:Nat)(d:Array Int)(w:World)(h:Fx.Own w B 23 1 (bM g n cap) n (rv .u64 (gA d)))(o:B<=w.heap.size)(s:d.size=n)(t:n<=1000)(ha:a<n)(p:b<n)(q:B<=f)(r:aQ w f 1 (fun _=>au c) 3)(u:0<=c/\c<=1000) :
 Calls Tryz.prog 189 #[bM g n cap,au j,au k,(pt f)] w fun e w' => ∃(x y:Nat) (i:Int),e = .returned (.tuple #[au (x:Int),au (y:Int)])/\((x=a/\y=b)\/(x=b/\y=a))/\(c<=i/\i<=c+1)/\aQ w' f 1 (fun _=>au i) 3/\Fx.Own w' B 23 1 (bM g n cap) n (rv .u64 (gA d))/\Below B w w':=by
 subst l m; exact ady a b f c B g n cap d w h o s t ha p q r u
theorem ahV(a b c f:Nat)(j:Int)(B g n cap:Nat)(d:Array Int)(w:World)(h:Fx.Own w B 23 1 (bM g n cap) n (rv .u64 (gA d)))(m:B<=w.heap.size)(p:d.size=n)(q:n<=1000)(ha:a<n)(L:b<n)(M:c<n)(z:B<=f)(o:aQ w f 1 (fun _=>au j) 3)(Q:0<=j/\j<=100) :
 Calls Tryz.prog 188 #[bM g n cap,au (a:Int),au (b:Int),au (c:Int),(pt f)] w fun e w' => ∃(x:Nat) (r:Int),e = .returned (au (x:Int))/\(x=a\/x=b\/x=c)/\(j<=r/\r<=j+3)/\aQ w' f 1 (fun _=>au r) 3/\Fx.Own w' B 23 1 (bM g n cap) n (rv .u64 (gA d))/\Below B w w':=by
 refine Kent Tryz.func188 36 ?_;refine ay<|av (au 0)<|aD<|ay<|av (bM g n cap)<|av (au a)<|av (au b)<|av (pt f)<|kF (JC a b (by omega) (by omega) f j B g n cap d _ h (m_ m (Below.refl B w).size) p q (by omega) (by omega) (by omega) o (by omega)) (ax := #[bM g n cap,au (a:Int),au (b:Int),(pt f)]) ?_;rintro y V ⟨x1,k,J,i,R,N,D,E,z⟩;refine⟨_,i,?_⟩;clear i;have u:=(Below.refl B w).trans z;refine av (.tuple #[au (x1:Int),au (k:Int)])<|av (au x1)<|av (au k)<|av (au x1)<|av (au k)<|aD<|ay<|av (bM g n cap)<|av (au k)<|av (au c)<|av (pt f)<|kF (JC k c (by omega) (by omega) f J B g n cap d _ E (m_ m u.size) p q (by omega) (by omega) (by omega) D (by omega)) (ax := #[bM g n cap,au (k:Int),au (c:Int),(pt f)]) ?_;rintro y W ⟨x2,t,K,i,S,O,F,G,o⟩;refine⟨_,i,?_⟩;clear i;have v:=u.trans o;refine av (.tuple #[au (x2:Int),au (t:Int)])<|av (au x2)<|av (au t)<|av (au x2)<|av (au t)<|aD<|ay<|av (bM g n cap)<|av (au x1)<|av (au x2)<|av (pt f)<|kF (JC x1 x2 (by omega) (by omega) f K B g n cap d _ G (m_ m v.size) p q (by omega) (by omega) (by omega) F (by omega)) (ax := #[bM g n cap,au (x1:Int),au (x2:Int),(pt f)]) ?_;rintro y X ⟨s,l,U,i,T,P,H,I,C⟩;refine⟨_,i,?_⟩;clear i;have A:=v.trans C;refine av (.tuple #[au (s:Int),au (l:Int)])<|av (au s)<|av (au l)<|av (au s)<|av (au l)<|aD<|ay<|av (au l)<|av (au l)<|aD<|Wr<|aJ (au l) ?_;exact⟨_,_,rfl,by omega,by omega,H,I,A⟩
theorem adz{k l m:Int}(a b c:Nat)(o:k=(a:Int))(p:l=(b:Int))(q:m=(c:Int))(i:Nat)(f:Int)(B g n cap:Nat)(d:Array Int)(w:World)(h:Fx.Own w B 23 1 (bM g n cap) n (rv .u64 (gA d)))(r:B<=w.heap.size)(y:d.size=n)(z:n<=1000)(ha:a<n)(s:b<n)(v:c<n)(t:B<=i)(u:aQ w i 1 (fun _=>au f) 3)(A:0<=f/\f<=100) :
 Calls Tryz.prog 188 #[bM g n cap,au k,au l,au m,(pt i)] w fun e w' => ∃(x:Nat) (j:Int),e = .returned (au (x:Int))/\(x=a\/x=b\/x=c)/\(f<=j/\j<=f+3)/\aQ w' i 1 (fun _=>au j) 3/\Fx.Own w' B 23 1 (bM g n cap) n (rv .u64 (gA d))/\Below B w w':=by
 subst o p q; exact ahV a b c i f B g n cap d w h r y z ha s v t u A
theorem ahW(a b:Nat)(B g n cap:Nat)(d:Array Int)(w:World)(h:Fx.Own w B 23 1 (bM g n cap) n (rv .u64 (gA d)))(x:B<=w.heap.size)(E:d.size=n)(F:n<=1000)(ha:a<b)(J:b<=n)(I:n<50) :
 Calls Tryz.prog 179 #[bM g n cap,au (a:Int),au (b:Int)] w fun e w' => ∃(p:Nat) (D:Int),e = .returned (.tuple #[au (p:Int),au D])/\a<=p/\p<b/\Fx.Own w' B 23 1 (bM g n cap) n (rv .u64 (gA d))/\Below B w w':=by
 obtain⟨c,K⟩ : ∃ c,c=(b-a) / 4:=⟨_,rfl⟩;refine Kent Tryz.func179 57 ?_;refine ay<|av (au 0)<|av (au 0)<|aD<|ay<|av (au b)<|av (au a)<|Lv (au ((b:Int)-(a:Int))) gP<|av (au ((b:Int)-(a:Int)))<|aD<|ay<|BL (m:=1) (y:=rv .i64 (fun _=>0)) (by rfl) rfl (by kernel_rfl) rfl fun v Q u o A S => ?_;have k:=bB A.old h;have f:=fA A.old (Below.refl B w) x;have N:=iK u (Below.refl B w).size;have O:=cO u h.lt;have P:=o.lt;refine aD<|ay<|av (au a)<|av (au ((b:Int)-(a:Int)))<|Lv (au c) (Fx.DR rfl rfl rfl (by omega) (iM (by omega) (by rw[Int.tdiv_eq_ediv_of_nonneg (by omega)]; omega)))<|Lv (au ((c:Int)*1)) (Fx.Hu rfl rfl rfl Fx.io)<|Lv (au ((a:Int)+(c:Int))) fH<|av (au ((a:Int)+(c:Int)))<|aD<|ay<|av (au a)<|av (au ((b:Int)-(a:Int)))<|Lv (au c) (Fx.DR rfl rfl rfl (by omega) (iM (by omega) (by rw[Int.tdiv_eq_ediv_of_nonneg (by omega)]; omega)))<|Lv (au ((c:Int)*2)) (Fx.Hu rfl rfl rfl Fx.io)<|Lv (au ((a:Int)+2*(c:Int))) fH<|av (au ((a:Int)+2*(c:Int)))<|aD<|ay<|av (au a)<|av (au ((b:Int)-(a:Int)))<|Lv (au c) (Fx.DR rfl rfl rfl (by omega) (iM (by omega) (by rw[Int.tdiv_eq_ediv_of_nonneg (by omega)]; omega)))<|Lv (au ((c:Int)*3)) (Fx.Hu rfl rfl rfl Fx.io)<|Lv (au ((a:Int)+3*(c:Int))) fH<|av (au ((a:Int)+3*(c:Int)))<|aD<|Ws<|ay<|av (au ((b:Int)-(a:Int))) ?_;by_cases t:8<=((b:Int)-(a:Int))
 ·refine Lv aG (kW t)<|aD<|aN<|Ws<|ay<|av (au ((b:Int)-(a:Int)))<|Lv aF H7<|aD<|aK<|Wk<|sN<|Wl<|av (bM g n cap)<|av (au ((a:Int)+(c:Int)))<|av (au ((a:Int)+2*(c:Int)))<|av (au ((a:Int)+3*(c:Int)))<|kF (adz (a+c) (a+2*c) (a+3*c) (by omega) (by omega) (by omega) v 0 B g n cap d _ k (m_ x f.size) E F (by omega) (by omega) (by omega) (by omega) o (by omega)) (ax := #[bM g n cap,au ((a:Int)+(c:Int)),au ((a:Int)+2*(c:Int)),au ((a:Int)+3*(c:Int)),(pt v)]) ?_;rintro H R ⟨x1,s,z,M,L,G,r,C⟩;refine⟨_,z,?_⟩;clear z;have l:=f.trans C;refine av (au x1)<|aD<|ay<|Lv (au s) (aM G.aH 0)<|aD<|Wb<|ay ?_;by_cases i:s=0
  ·refine Lv aG (dZ i)<|av aG<|aD<|aN<|ay<|av (au x1)<|av (au x1)<|av (au 1)<|aD<|Wr<|bL<|aJ (.tuple #[au (x1:Int),au 1]) ?_;exact⟨x1,1,M_ (fun q=>Ending.returned (.tuple #[au q,au 1])) (by omega),by omega,by omega,r,l⟩
  refine Lv aF (fB i)<|av aF<|aD<|aK<|ay ?_;by_cases j:s=12
  ·refine Lv aG (dZ j)<|av aG<|aD<|aN<|ay<|av (au x1)<|av (au x1)<|av (au 2)<|aD<|Wr<|bL<|aJ (.tuple #[au (x1:Int),au 2]) ?_;exact⟨x1,2,M_ (fun q=>Ending.returned (.tuple #[au q,au 2])) (by omega),by omega,by omega,r,l⟩
  refine Lv aF (fB j)<|av aF<|aD<|aK<|ay<|av (au x1)<|av (au x1)<|av (au 0)<|aD<|Wr<|bL<|aJ (.tuple #[au (x1:Int),au 0]) ?_;exact⟨x1,0,M_ (fun q=>Ending.returned (.tuple #[au q,au 0])) (by omega),by omega,by omega,r,l⟩
 refine Lv aF (kN t)<|aD<|aK<|Wk<|sN<|ay<|Lv (au 0) (aM o.aH 0)<|aD<|Wb<|ay ?_;by_cases i:(0:Int)=0
 ·refine Lv aG (dZ i)<|av aG<|aD<|aN<|ay<|av (au ((a:Int)+2*(c:Int)))<|av (au ((a:Int)+2*(c:Int)))<|av (au 1)<|aD<|Wr<|bL<|aJ (.tuple #[au ((a:Int)+2*(c:Int)),au 1]) ?_;exact⟨a+2*c,1,M_ (fun q=>Ending.returned (.tuple #[au q,au 1])) (by omega),by omega,by omega,k,f⟩
 refine Lv aF (fB i)<|av aF<|aD<|aK<|ay ?_;by_cases j:(0:Int)=12
 ·refine Lv aG (dZ j)<|av aG<|aD<|aN<|ay<|av (au ((a:Int)+2*(c:Int)))<|av (au ((a:Int)+2*(c:Int)))<|av (au 2)<|aD<|Wr<|bL<|aJ (.tuple #[au ((a:Int)+2*(c:Int)),au 2]) ?_;exact⟨a+2*c,2,M_ (fun q=>Ending.returned (.tuple #[au q,au 2])) (by omega),by omega,by omega,k,f⟩
 refine Lv aF (fB j)<|av aF<|aD<|aK<|ay<|av (au ((a:Int)+2*(c:Int)))<|av (au ((a:Int)+2*(c:Int)))<|av (au 0)<|aD<|Wr<|bL<|aJ (.tuple #[au ((a:Int)+2*(c:Int)),au 0]) ?_;exact⟨a+2*c,0,M_ (fun q=>Ending.returned (.tuple #[au q,au 0])) (by omega),by omega,by omega,k,f⟩
end
section
open Rt
theorem adA(a b:Nat)(B g n cap:Nat)(d:Array Int)(w:World)(h:Fx.Own w B 23 1 (bM g n cap) n (rv .u64 (gA d)))(v:B<=w.heap.size)(V:d.size=n)(W:n<=1000)(ha:a<b)(U:b<=n)(T:n<50) :
 Calls Tryz.prog 181 #[bM g n cap,au (a:Int),au (b:Int)] w fun e w' => ∃ r:Bool,e = .returned (.bool r)/\(r=true->Sort.SortedIn Sort.ltInt a b d)/\Fx.Own w' B 23 1 (bM g n cap) n (rv .u64 (gA d))/\Below B w w':=by
 refine Kent Tryz.func181 133 ?_;refine ay<|av aF<|aD<|ay<|av (au a)<|Lv (au ((a:Int)+1)) fH<|av (au ((a:Int)+1))<|aD<|Ws<|ay<|av (au 0)<|aD<|Wb<|Wo (fun f p=>f 0=bM g n cap/\f 1=au (a:Int)/\f 2=au (b:Int)/\f 7=au ((a:Int)+1)/\f 8=au 0/\Fx.Own p B 23 1 (bM g n cap) n (rv .u64 (gA d))/\Below B w p) (fun f _=>(5-intOf (f 8)).toNat) ⟨(by rfl),Fx.ic,Fx.ic,Fx.ic,Fx.ic,h,(Below.refl B w)⟩ ?_;rintro R X ⟨K,M,N,O,C,P,I⟩;refine Ws<|ay<|aU C<|Lv aG TD<|aD<|aN<|Wk<|sN<|Ws<|Wb<|Ws<|Wb<|Wo (fun f p => ∃ i:Nat,Sort.SortedIn Sort.ltInt a i d/\(a<i/\i<=b)/\f 0=bM g n cap/\f 1=au (a:Int)/\f 2=au (b:Int)/\f 7=au (i:Int)/\f 8=au 0/\Fx.Own p B 23 1 (bM g n cap) n (rv .u64 (gA d))/\Below B w p) (fun f _=>((b:Int)-intOf (f 7)).toNat) ⟨a+1,(NC _ _),(by omega),K,(M.trans Fx.ic),(N.trans Fx.ic),(O.trans Fx.ic),(C.trans Fx.ic),P,I⟩ ?_;rintro S Y ⟨i,x,hi,t,u,k,j,L,o,s⟩;refine Ws<|Ws ?_;refine nD<|eT j<|eT k ?_;by_cases A:(i:Int)<(b:Int)
 ·refine Qv aG (fun l c=>iD A)<|aX aG<|eT t<|eT j<|Qv (pf g i) (fun l c=>dB 1)<|Qv (aC ((gA d) i)) (fun l c=>aM (o.cb c) i)<|eT t<|eT j<|Qv (au ((i:Int)-1)) (fun l c=>gP)<|Qv (pf g (i-1)) (fun l c=>dB 1)<|Qv (aC ((gA d) (i-1))) (fun l c=>aM (o.cb c) (i-1)) ?_;by_cases q:(decide ((gA d) i<(gA d) (i-1)))=true
  ·refine qO (fun _ _=>dY ((gA d) i) ((gA d) (i-1)) _) aG (by rw[q])<|aX aF<|aX aF<|Qn ?_;intro Z D;have G:=bB D o;have y:=fA D s v;refine sN<|aK<|Wx<|cZ<|gZ<|dh<|sN<|Ws<|ay<|aU j<|aU k ?_;by_cases m:(i:Int)=(b:Int)
   ·refine Lv aG (dZ m)<|aD<|aN<|ay<|av aG<|aD<|Wr<|sR<|bL<|sR<|qm<|bL<|sR<|aJ aG ?_;exact⟨true,rfl,(fun _=>by rw[show b=i by omega]; exact x),G,y⟩
   refine Lv aF (fB m)<|aD<|aK<|Wk<|sN<|Ws<|ay<|aU k<|aU u<|Lv (au ((b:Int)-(a:Int))) gP<|Lv aG TD<|aD<|aN<|ay<|av aF<|aD<|Wr<|sR<|bL<|sR<|qm<|bL<|sR<|aJ aF ?_;exact⟨false,rfl,(fun h=>nomatch h),G,y⟩
  rw[U_]at q;refine qO (fun _ _=>dY ((gA d) i) ((gA d) (i-1)) _) aF (by rw[q])<|aX aG<|aX aG<|Qn ?_;intro aa E;have Q:=bB E o;have J:=fA E s v;refine sN<|aN<|Wk<|sN<|Wb<|Wl<|aU j<|Lv (au ((i:Int)+1)) fH<|av (au ((i:Int)+1))<|Ln<|bU<|iH ⟨i+1,(Sort.SortedIn.snoc Sort.swo_ltInt x (yg (j_ q))),(by omega),t,(u.trans Fx.ic),(k.trans Fx.ic),Fx.ic,(L.trans Fx.ic),Q,J⟩ ?_;show((b:Int)-intOf (au ((i:Int)+1))).toNat<_;simp only[j,intOf]; omega
 refine Qv aF (fun l c=>iE A)<|aX aF<|aR<|aR<|aR<|aR<|aR<|aR<|aR<|aR<|aR<|aR<|aR<|aX aF<|Qn ?_;intro ab F;have H:=bB F o;have z:=fA F s v;refine sN<|aK<|Wx<|cZ<|gZ<|dh<|sN<|Ws<|ay<|aU j<|aU k ?_;by_cases m:(i:Int)=(b:Int)
 ·refine Lv aG (dZ m)<|aD<|aN<|ay<|av aG<|aD<|Wr<|sR<|bL<|sR<|qm<|bL<|sR<|aJ aG ?_;exact⟨true,rfl,(fun _=>by rw[show b=i by omega]; exact x),H,z⟩
 refine Lv aF (fB m)<|aD<|aK<|Wk<|sN<|Ws<|ay<|aU k<|aU u<|Lv (au ((b:Int)-(a:Int))) gP<|Lv aG TD<|aD<|aN<|ay<|av aF<|aD<|Wr<|sR<|bL<|sR<|qm<|bL<|sR<|aJ aF ?_;exact⟨false,rfl,(fun h=>nomatch h),H,z⟩
theorem ant(a b p:Nat)(B g n cap:Nat)(d:Array Int)(w:World)(h:Fx.Own w B 23 1 (bM g n cap) n (rv .u64 (gA d)))(o:B<=w.heap.size)(hn:d.size=n)(hs:n<=1000)(ha:a<=p)(hp:p<b)(hb:b<=n) :
 Calls Tryz.prog 183 #[bM g n cap,au (a:Int),au (b:Int),au (p:Int)] w fun e w' => ∃(mid:Nat) (V:Array Int),e = .returned (au (mid:Int))/\Sort.partitionEqual Sort.ltInt d a b p=(mid,V)/\V.size=n/\Fx.Own w' B 23 1 (bM g n cap) n (rv .u64 (gA V))/\Below B w w':=by
 refine Kent Tryz.func183 84 ?_;refine ay<|av (au 0)<|aD<|Ws ?_;refine jY [0,1,2,3,4,5,6,8,9,10,7,11,12,13,14,15] [0,0,0,0,0,0,0,4,0,0,0,4,0,3,0,3] [(13,7,[7]),(15,7,[7]),(13,11,[11]),(15,11,[11]),(14,13,[13]),(15,13,[13])] fun qU dU iC => ?_;have P:=bB dU h;have b1:=fA dU (Below.refl B w) o;refine aY (bM g n cap)<|aY (au a)<|aY (bM g n cap)<|aY (au p)<|aY (bM g n cap)<|aY (au p)<|Rp (pf g p) (fun _=>dB 1)<|aY (bM g n cap)<|aY (au a)<|Rp (pf g a) (fun _=>dB 1)<|Rs (aC ((gA d) p)) (aM P.aH p) ?_;refine Rs (aC ((gA d) a)) (aM P.aH a) ?_;refine Rp (pf g a) (fun _=>dB 1)<|gQ<|qP P a (aC ((gA d) p)) fun w1 m2 s2 z1 => ?_;have b2:=s2.below b1 (m_ o b1.size) P.blk.1;refine Ln<|Rp (pf g p) (fun _=>dB 1)<|gQ<|qP m2 p (aC ((gA d) a)) fun w2 m3 s3 z2 => ?_;have b3:=s3.below b2 (m_ o b2.size) m2.blk.1;have m4:Fx.Own w2 B 23 1 (bM g n cap) n (rv .u64 (gA (Sort.swp d a p))):=m3.congr (iO hn (by omega) (by omega));refine Ln<|bT<|ay<|av (au a)<|Lv (au ((a:Int)+1)) fH<|av (au b)<|Lv (au ((b:Int)-1)) gP<|av (au ((a:Int)+1))<|av (au ((b:Int)-1))<|aD<|Ws<|Wb<|Wo (fun f s => ∃ i:Nat,∃ j:Nat,∃ k:Array Int,k.size=n/\Sort.partEqLoop Sort.ltInt a i j k=Sort.partEqLoop Sort.ltInt a (a+1) (b-1) (Sort.swp d a p)/\(a<i/\j<b/\i<=b)/\f 0=bM g n cap/\f 1=au (a:Int)/\f 2=au (b:Int)/\f 9=au (i:Int)/\f 10=au (j:Int)/\Fx.Own s B 23 1 (bM g n cap) n (rv .u64 (gA k))/\Below B w s) (fun f _=>((b:Int)-intOf (f 9)).toNat) ⟨a+1,b-1,Sort.swp d a p,(fD hn _ _),rfl,(by omega),(by rfl),Fx.ic,Fx.ic,Fx.ic,Fx.ic,m4,b3⟩ ?_;rintro f1 w3 ⟨i,j,k,E,O,hij,h1,h2,h3,Y,h5,m5,b4⟩;refine Wb<|Ws<|Wb<|Wo (fun f s => ∃ c:Nat,Sort.partEqLoop Sort.ltInt a c j k=Sort.partEqLoop Sort.ltInt a i j k/\(i<=c/\c<=b)/\f 0=bM g n cap/\f 1=au (a:Int)/\f 2=au (b:Int)/\f 9=au (c:Int)/\f 10=au (j:Int)/\Fx.Own s B 23 1 (bM g n cap) n (rv .u64 (gA k))/\Below B w s) (fun f _=>((j:Int)+1-intOf (f 9)).toNat) ⟨i,rfl,(by omega),h1,(h2.trans Fx.ic),(h3.trans Fx.ic),(Y.trans Fx.ic),(h5.trans Fx.ic),m5,b4⟩ ?_;rintro f2 w4 ⟨c,I,hi2,H,N,Z,D,M,K,T⟩;refine Ws<|Ws ?_;refine nD<|eT D<|eT M ?_;by_cases c31:(c:Int)<=(j:Int)
 ·refine Qv aG (fun q m=>oh c31)<|aX aG<|eT H<|eT N<|Qv (pf g a) (fun q m=>dB 1)<|Qv (aC ((gA k) a)) (fun q m=>aM (K.cb m) a)<|eT H<|eT D<|Qv (pf g c) (fun q m=>dB 1)<|Qv (aC ((gA k) c)) (fun q m=>aM (K.cb m) c) ?_;by_cases F:(decide ((gA k) a<(gA k) c))=true
  ·refine qO (fun _ _=>dY ((gA k) a) ((gA k) c) _) aG (by rw[F])<|aX aF<|aX aF<|Qn ?_;intro YL uL;have m7:=bB uL K;have b6:=fA uL T o;refine sN<|aK<|Wx<|cZ<|gZ<|dh<|sN<|Ws<|Wb<|Wo (fun f s => ∃ l:Nat,Sort.partEqLoop Sort.ltInt a c l k=Sort.partEqLoop Sort.ltInt a c j k/\(l<c\/gA k a<gA k c)/\l<=j/\f 0=bM g n cap/\f 1=au (a:Int)/\f 2=au (b:Int)/\f 9=au (c:Int)/\f 10=au (l:Int)/\Fx.Own s B 23 1 (bM g n cap) n (rv .u64 (gA k))/\Below B w s) (fun f _=>(intOf (f 10)).toNat) ⟨j,rfl,(.inr (h_ F)),(by omega),H,(N.trans Fx.ic),(Z.trans Fx.ic),(D.trans Fx.ic),(M.trans Fx.ic),m7,b6⟩ ?_;rintro f3 w5 ⟨l,A,C,hj2,v,W,Ug,x,t,L,U⟩;refine Ws<|Ws ?_;refine nD<|eT x<|eT t ?_;by_cases G:(c:Int)<=(l:Int)
   ·refine Qv aG (fun q m=>oh G)<|aX aG<|eT v<|eT W<|Qv (pf g a) (fun q m=>dB 1)<|Qv (aC ((gA k) a)) (fun q m=>aM (L.cb m) a)<|eT v<|eT t<|Qv (pf g l) (fun q m=>dB 1)<|Qv (aC ((gA k) l)) (fun q m=>aM (L.cb m) l) ?_;by_cases r:(decide ((gA k) a<(gA k) l))=true
    ·refine qO (fun _ _=>dY ((gA k) a) ((gA k) l) _) aG (by rw[r])<|aX aG<|Qn ?_;intro wb2 yh;have m9:=bB yh L;have b8:=fA yh U o;refine sN<|aN<|Wk<|sN<|Wb<|Wl<|aU t<|Lv (au ((l:Int)-1)) gP<|av (au ((l:Int)-1))<|Ln<|bU<|iH ⟨l-1,((abA (by omega) (by omega) (C.resolve_left (by omega)) (h_ r)).trans A),(C.elim (fun h => .inl (by omega)) .inr),(by omega),v,(W.trans Fx.ic),(Ug.trans Fx.ic),(x.trans Fx.ic),Fx.ic,m9,b8⟩ ?_;show(intOf (au ((l:Int)-1))).toNat<_;simp only[t,intOf]; omega
    rw[U_]at r;refine qO (fun _ _=>dY ((gA k) a) ((gA k) l) _) aF (by rw[r])<|aX aF<|Qn ?_;intro wb3 yj;have m10:=bB yj L;have b9:=fA yj U o;refine sN<|aK<|Wx<|cZ<|gZ<|dh<|sN<|Ws<|ay<|aU x<|aU t<|Lv aF yS<|aD<|aK<|Wk<|sN<|Ws ?_;refine jY [0,1,2,3,4,5,6,8,9,10,7,11,12,13,14,15] [0,0,0,0,0,0,0,4,0,0,0,4,0,3,0,3] [(13,7,[7]),(15,7,[7]),(13,11,[11]),(15,11,[11]),(14,13,[13]),(15,13,[13])] fun BS fZ mQ => ?_;have Q:=bB fZ m10;have b10:=fA fZ b9 o;refine bX v<|bX x<|bX v<|bX t<|bX v<|bX t<|Rp (pf g l) (fun _=>dB 1)<|bX v<|bX x<|Rp (pf g c) (fun _=>dB 1)<|Rs (aC ((gA k) l)) (aM Q.aH l) ?_;refine Rs (aC ((gA k) c)) (aM Q.aH c) ?_;refine Rp (pf g c) (fun _=>dB 1)<|gQ<|qP Q c (aC ((gA k) l)) fun w6 m12 s8 z3 => ?_;have b11:=s8.below b10 (m_ o b10.size) Q.blk.1;refine Ln<|Rp (pf g l) (fun _=>dB 1)<|gQ<|qP m12 l (aC ((gA k) c)) fun w7 m13 s9 z4 => ?_;have b12:=s9.below b11 (m_ o b11.size) m12.blk.1;have m14:Fx.Own w7 B 23 1 (bM g n cap) n (rv .u64 (gA (Sort.swp k c l))):=m13.congr (iO E (by omega) (by omega));refine Ln<|bT<|ay<|aU x<|Lv (au ((c:Int)+1)) fH<|av (au ((c:Int)+1))<|aD<|Wl<|aU t<|Lv (au ((l:Int)-1)) gP<|av (au ((l:Int)-1))<|Ln<|bU<|iH ⟨c+1,l-1,Sort.swp k c l,(fD E _ _),((abB (by omega) (C.resolve_left (by omega)) (j_ r)).trans (A.trans (I.trans O))),(by omega),v,(W.trans Fx.ic),(Ug.trans Fx.ic),Fx.ic,Fx.ic,m14,b12⟩ ?_;show((b:Int)-intOf (au ((c:Int)+1))).toNat<_;simp only[Y,intOf]; omega
   refine Qv aF (fun q m=>oP G)<|aX aF<|aR<|aR<|aR<|aR<|aR<|aR<|aR<|aR<|aR<|aX aF<|Qn ?_;intro wb4 BX;have m15:=bB BX L;have b13:=fA BX U o;refine sN<|aK<|Wx<|cZ<|gZ<|dh<|sN<|Ws<|ay<|aU x<|aU t<|Lv aG DV<|aD<|aN<|Wx<|cZ<|Fx.Ni rfl<|gZ<|dh<|sN<|ay<|aU x<|av (au c)<|aD<|Wr<|aJ (au c) ?_;exact⟨c,k,rfl,O.symm.trans (I.symm.trans (A.symm.trans (Ud (by omega)))),E,m15,b13⟩
  rw[U_]at F;refine qO (fun _ _=>dY ((gA k) a) ((gA k) c) _) aF (by rw[F])<|aX aG<|aX aG<|Qn ?_;intro wb5 FJ;have m16:=bB FJ K;have b14:=fA FJ T o;refine sN<|aN<|Wk<|sN<|Wb<|Wl<|aU D<|Lv (au ((c:Int)+1)) fH<|av (au ((c:Int)+1))<|Ln<|bU<|iH ⟨c+1,((ahN (by omega) (j_ F)).trans I),(by omega),H,(N.trans Fx.ic),(Z.trans Fx.ic),Fx.ic,(M.trans Fx.ic),m16,b14⟩ ?_;show((j:Int)+1-intOf (au ((c:Int)+1))).toNat<_;simp only[D,intOf]; omega
 refine Qv aF (fun q m=>oP c31)<|aX aF<|aR<|aR<|aR<|aR<|aR<|aR<|aR<|aR<|aR<|aR<|aX aF<|Qn ?_;intro wb6 KZ;have m17:=bB KZ K;have b15:=fA KZ T o;refine sN<|aK<|Wx<|cZ<|gZ<|dh<|sN<|Ws<|Wb<|Wo (fun f s => ∃ l:Nat,Sort.partEqLoop Sort.ltInt a c l k=Sort.partEqLoop Sort.ltInt a c j k/\(l<c\/gA k a<gA k c)/\l<=j/\f 0=bM g n cap/\f 1=au (a:Int)/\f 2=au (b:Int)/\f 9=au (c:Int)/\f 10=au (l:Int)/\Fx.Own s B 23 1 (bM g n cap) n (rv .u64 (gA k))/\Below B w s) (fun f _=>(intOf (f 10)).toNat) ⟨j,rfl,(.inl (by omega)),(by omega),H,(N.trans Fx.ic),(Z.trans Fx.ic),(D.trans Fx.ic),(M.trans Fx.ic),m17,b15⟩ ?_;rintro f4 w8 ⟨l,A,C,hj2,y,X,h18,z,u,J,S⟩;refine Ws<|Ws ?_;refine nD<|eT z<|eT u ?_;by_cases G:(c:Int)<=(l:Int)
 ·refine Qv aG (fun q m=>oh G)<|aX aG<|eT y<|eT X<|Qv (pf g a) (fun q m=>dB 1)<|Qv (aC ((gA k) a)) (fun q m=>aM (J.cb m) a)<|eT y<|eT u<|Qv (pf g l) (fun q m=>dB 1)<|Qv (aC ((gA k) l)) (fun q m=>aM (J.cb m) l) ?_;by_cases r:(decide ((gA k) a<(gA k) l))=true
  ·refine qO (fun _ _=>dY ((gA k) a) ((gA k) l) _) aG (by rw[r])<|aX aG<|Qn ?_;intro wb7 K3;have m19:=bB K3 J;have b17:=fA K3 S o;refine sN<|aN<|Wk<|sN<|Wb<|Wl<|aU u<|Lv (au ((l:Int)-1)) gP<|av (au ((l:Int)-1))<|Ln<|bU<|iH ⟨l-1,((abA (by omega) (by omega) (C.resolve_left (by omega)) (h_ r)).trans A),(C.elim (fun h => .inl (by omega)) .inr),(by omega),y,(X.trans Fx.ic),(h18.trans Fx.ic),(z.trans Fx.ic),Fx.ic,m19,b17⟩ ?_;show(intOf (au ((l:Int)-1))).toNat<_;simp only[u,intOf]; omega
  rw[U_]at r;refine qO (fun _ _=>dY ((gA k) a) ((gA k) l) _) aF (by rw[r])<|aX aF<|Qn ?_;intro wb8 K4;have m20:=bB K4 J;have b18:=fA K4 S o;refine sN<|aK<|Wx<|cZ<|gZ<|dh<|sN<|Ws<|ay<|aU z<|aU u<|Lv aF yS<|aD<|aK<|Wk<|sN<|Ws ?_;refine jY [0,1,2,3,4,5,6,8,9,10,7,11,12,13,14,15] [0,0,0,0,0,0,0,4,0,0,0,4,0,3,0,3] [(13,7,[7]),(15,7,[7]),(13,11,[11]),(15,11,[11]),(14,13,[13]),(15,13,[13])] fun SF mF BU => ?_;have R:=bB mF m20;have b19:=fA mF b18 o;refine bX y<|bX z<|bX y<|bX u<|bX y<|bX u<|Rp (pf g l) (fun _=>dB 1)<|bX y<|bX z<|Rp (pf g c) (fun _=>dB 1)<|Rs (aC ((gA k) l)) (aM R.aH l) ?_;refine Rs (aC ((gA k) c)) (aM R.aH c) ?_;refine Rp (pf g c) (fun _=>dB 1)<|gQ<|qP R c (aC ((gA k) l)) fun w9 m22 s16 z5 => ?_;have b20:=s16.below b19 (m_ o b19.size) R.blk.1;refine Ln<|Rp (pf g l) (fun _=>dB 1)<|gQ<|qP m22 l (aC ((gA k) c)) fun su m23 Ih z6 => ?_;have M7:=Ih.below b20 (m_ o b20.size) m22.blk.1;have m24:Fx.Own su B 23 1 (bM g n cap) n (rv .u64 (gA (Sort.swp k c l))):=m23.congr (iO E (by omega) (by omega));refine Ln<|bT<|ay<|aU z<|Lv (au ((c:Int)+1)) fH<|av (au ((c:Int)+1))<|aD<|Wl<|aU u<|Lv (au ((l:Int)-1)) gP<|av (au ((l:Int)-1))<|Ln<|bU<|iH ⟨c+1,l-1,Sort.swp k c l,(fD E _ _),((abB (by omega) (C.resolve_left (by omega)) (j_ r)).trans (A.trans (I.trans O))),(by omega),y,(X.trans Fx.ic),(h18.trans Fx.ic),Fx.ic,Fx.ic,m24,M7⟩ ?_;show((b:Int)-intOf (au ((c:Int)+1))).toNat<_;simp only[Y,intOf]; omega
 refine Qv aF (fun q m=>oP G)<|aX aF<|aR<|aR<|aR<|aR<|aR<|aR<|aR<|aR<|aR<|aX aF<|Qn ?_;intro wb9 K5;have nW:=bB K5 J;have JD:=fA K5 S o;refine sN<|aK<|Wx<|cZ<|gZ<|dh<|sN<|Ws<|ay<|aU z<|aU u<|Lv aG DV<|aD<|aN<|Wx<|cZ<|Fx.Ni rfl<|gZ<|dh<|sN<|ay<|aU z<|av (au c)<|aD<|Wr<|aJ (au c) ?_;exact⟨c,k,rfl,O.symm.trans (I.symm.trans (A.symm.trans (Ud (by omega)))),E,nW,JD⟩
theorem ahX(a b p:Nat)(B g n cap:Nat)(d:Array Int)(w:World)(h:Fx.Own w B 23 1 (bM g n cap) n (rv .u64 (gA d)))(q:B<=w.heap.size)(Q:d.size=n)(hs:n<=1000)(ha:a<=p)(hp:p<b)(hb:b<=n) :
 Calls Tryz.prog 184 #[bM g n cap,au (a:Int),au (b:Int),au (p:Int)] w fun e w' => ∃(mid:Nat) (ap:Bool) (d4:Array Int),e = .returned (.tuple #[au (mid:Int),.bool ap])/\(Sort.partition Sort.ltInt d a b p).1=mid/\(Sort.partition Sort.ltInt d a b p).2.2=d4/\d4.size=n/\Fx.Own w' B 23 1 (bM g n cap) n (rv .u64 (gA d4))/\Below B w w':=by
 refine Kent Tryz.func184 168 ?_;refine ay<|av (au 0)<|av aF<|aD<|Ws ?_;refine jY [0,1,2,3,4,5,6,8,9,10,7,11,12,13,14,15] [0,0,0,0,0,0,0,4,0,0,0,4,0,3,0,3] [(13,7,[7]),(15,7,[7]),(13,11,[11]),(15,11,[11]),(14,13,[13]),(15,13,[13])] fun qU dU iC => ?_;have m1:=bB dU h;have b1:=fA dU (Below.refl B w) q;refine aY (bM g n cap)<|aY (au a)<|aY (bM g n cap)<|aY (au p)<|aY (bM g n cap)<|aY (au p)<|Rp (pf g p) (fun _=>dB 1)<|aY (bM g n cap)<|aY (au a)<|Rp (pf g a) (fun _=>dB 1)<|Rs (aC ((gA d) p)) (aM m1.aH p) ?_;refine Rs (aC ((gA d) a)) (aM m1.aH a) ?_;refine Rp (pf g a) (fun _=>dB 1)<|gQ<|qP m1 a (aC ((gA d) p)) fun w1 m2 s2 z1 => ?_;have b2:=s2.below b1 (m_ q b1.size) m1.blk.1;refine Ln<|Rp (pf g p) (fun _=>dB 1)<|gQ<|qP m2 p (aC ((gA d) a)) fun w2 m3 s3 z2 => ?_;have b3:=s3.below b2 (m_ q b2.size) m2.blk.1;have m4:Fx.Own w2 B 23 1 (bM g n cap) n (rv .u64 (gA (Sort.swp d a p))):=m3.congr (iO Q (by omega) (by omega));refine Ln<|bT<|ay<|av (au a)<|Lv (au ((a:Int)+1)) fH<|av (au b)<|Lv (au ((b:Int)-1)) gP<|av (au ((a:Int)+1))<|av (au ((b:Int)-1))<|aD<|Ws<|Wb<|Wo (fun f t => ∃ s:Nat,Sort.partLoop Sort.ltInt a s (b-1) (Sort.swp d a p)=Sort.partLoop Sort.ltInt a (a+1) (b-1) (Sort.swp d a p)/\(a+1<=s/\s<=b)/\f 0=bM g n cap/\f 1=au (a:Int)/\f 2=au (b:Int)/\f 10=au (s:Int)/\f 11=au ((b:Int)-1)/\Fx.Own t B 23 1 (bM g n cap) n (rv .u64 (gA (Sort.swp d a p)))/\Below B w t) (fun f _=>((b:Int)-intOf (f 10)).toNat) ⟨a+1,rfl,(by omega),(by rfl),Fx.ic,Fx.ic,Fx.ic,Fx.ic,m4,b3⟩ ?_;rintro f1 w3 ⟨s,hY0,awh,h1,h2,h3,h4,h5,m5,b4⟩;refine Ws<|Ws ?_;refine nD<|eT h4<|eT h5 ?_;by_cases c32:(s:Int)<=((b:Int)-1)
 ·refine Qv aG (fun r o=>oh c32)<|aX aG<|eT h1<|eT h4<|Qv (pf g s) (fun r o=>dB 1)<|Qv (aC ((gA (Sort.swp d a p)) s)) (fun r o=>aM (m5.cb o) s)<|eT h1<|eT h2<|Qv (pf g a) (fun r o=>dB 1)<|Qv (aC ((gA (Sort.swp d a p)) a)) (fun r o=>aM (m5.cb o) a) ?_;by_cases Uh:(decide ((gA (Sort.swp d a p)) s<(gA (Sort.swp d a p)) a))=true
  ·refine qO (fun _ _=>dY ((gA (Sort.swp d a p)) s) ((gA (Sort.swp d a p)) a) _) aG (by rw[Uh])<|aX aG<|Qn ?_;intro YL uL;have m6:=bB uL m5;have b5:=fA uL b4 q;refine sN<|aN<|Wk<|sN<|Wb<|Wl<|aU h4<|Lv (au ((s:Int)+1)) fH<|av (au ((s:Int)+1))<|Ln<|bU<|iH ⟨s+1,((Uc (by omega) (h_ Uh)).trans hY0),(by omega),h1,(h2.trans Fx.ic),(h3.trans Fx.ic),Fx.ic,(h5.trans Fx.ic),m6,b5⟩ ?_;show((b:Int)-intOf (au ((s:Int)+1))).toNat<_;simp only[h4,intOf]; omega
  rw[U_]at Uh;refine qO (fun _ _=>dY ((gA (Sort.swp d a p)) s) ((gA (Sort.swp d a p)) a) _) aF (by rw[Uh])<|aX aF<|Qn ?_;intro wb2 yh;have m7:=bB yh m5;have b6:=fA yh b4 q;refine sN<|aK<|Wx<|cZ<|gZ<|dh<|sN<|Ws<|Wb<|Wo (fun f t => ∃ m:Nat,Sort.partLoop Sort.ltInt a s m (Sort.swp d a p)=Sort.partLoop Sort.ltInt a (a+1) (b-1) (Sort.swp d a p)/\(m<s \/ ¬ gA (Sort.swp d a p) s<gA (Sort.swp d a p) a)/\(m<b/\m<=b)/\f 0=bM g n cap/\f 1=au (a:Int)/\f 2=au (b:Int)/\f 10=au (s:Int)/\f 11=au (m:Int)/\Fx.Own t B 23 1 (bM g n cap) n (rv .u64 (gA (Sort.swp d a p)))/\Below B w t) (fun f _=>(intOf (f 11)).toNat) ⟨b-1,hY0,(.inr (j_ Uh)),(by omega),h1,(h2.trans Fx.ic),(h3.trans Fx.ic),(h4.trans Fx.ic),(h5.trans Fx.ic),m7,b6⟩ ?_;rintro f2 w4 ⟨m,Y,Z,anu,M,h7,h8,W,A,m8,b7⟩;refine Ws<|Ws ?_;refine nD<|eT W<|eT A ?_;by_cases c48:(s:Int)<=(m:Int)
  ·refine Qv aG (fun r o=>oh c48)<|aX aG<|eT M<|eT A<|Qv (pf g m) (fun r o=>dB 1)<|Qv (aC ((gA (Sort.swp d a p)) m)) (fun r o=>aM (m8.cb o) m)<|eT M<|eT h7<|Qv (pf g a) (fun r o=>dB 1)<|Qv (aC ((gA (Sort.swp d a p)) a)) (fun r o=>aM (m8.cb o) a) ?_;by_cases P:(decide ((gA (Sort.swp d a p)) m<(gA (Sort.swp d a p)) a))=true
   ·refine qO (fun _ _=>dY ((gA (Sort.swp d a p)) m) ((gA (Sort.swp d a p)) a) _) aG (by rw[P])<|aX aF<|aX aF<|Qn ?_;intro wb3 yj;have m9:=bB yj m8;have b8:=fA yj b7 q;refine sN<|aK<|Wx<|cZ<|gZ<|dh<|sN<|Ws<|ay<|aU W<|aU A<|Lv aF yS<|aD<|aK<|Wk<|sN<|Ws ?_;refine jY [0,1,2,3,4,5,6,8,9,10,7,11,12,13,14,15] [0,0,0,0,0,0,0,4,0,0,0,4,0,3,0,3] [(13,7,[7]),(15,7,[7]),(13,11,[11]),(15,11,[11]),(14,13,[13]),(15,13,[13])] fun BS fZ mQ => ?_;have m10:=bB fZ m9;have b9:=fA fZ b8 q;refine bX M<|bX W<|bX M<|bX A<|bX M<|bX A<|Rp (pf g m) (fun _=>dB 1)<|bX M<|bX W<|Rp (pf g s) (fun _=>dB 1)<|Rs (aC ((gA (Sort.swp d a p)) m)) (aM m10.aH m) ?_;refine Rs (aC ((gA (Sort.swp d a p)) s)) (aM m10.aH s) ?_;refine Rp (pf g s) (fun _=>dB 1)<|gQ<|qP m10 s (aC ((gA (Sort.swp d a p)) m)) fun w5 m11 s8 z3 => ?_;have b10:=s8.below b9 (m_ q b9.size) m10.blk.1;refine Ln<|Rp (pf g m) (fun _=>dB 1)<|gQ<|qP m11 m (aC ((gA (Sort.swp d a p)) s)) fun w6 m12 s9 z4 => ?_;have b11:=s9.below b10 (m_ q b10.size) m11.blk.1;have m13:Fx.Own w6 B 23 1 (bM g n cap) n (rv .u64 (gA (Sort.swp (Sort.swp d a p) s m))):=m12.congr (iO (fD Q _ _) (by omega) (by omega));refine Ln<|bT<|ay<|aU W<|Lv (au ((s:Int)+1)) fH<|av (au ((s:Int)+1))<|aD<|ay<|aU A<|Lv (au ((m:Int)-1)) gP<|av (au ((m:Int)-1))<|aD<|Ws<|Wb<|Wo (fun f t => ∃ i:Nat,∃ j:Nat,∃ k:Array Int,k.size=n/\Sort.partLoop Sort.ltInt a i j k=Sort.partLoop Sort.ltInt a (a+1) (b-1) (Sort.swp d a p)/\(a<i/\j<b/\i<=b)/\f 0=bM g n cap/\f 1=au (a:Int)/\f 2=au (b:Int)/\f 10=au (i:Int)/\f 11=au (j:Int)/\Fx.Own t B 23 1 (bM g n cap) n (rv .u64 (gA k))/\Below B w t) (fun f _=>((b:Int)-intOf (f 10)).toNat) ⟨s+1,m-1,Sort.swp (Sort.swp d a p) s m,(fD (fD Q _ _) _ _),((Ig (by omega) (Z.resolve_left (by omega)) (h_ P)).trans Y),(by omega),M,(h7.trans Fx.ic),(h8.trans Fx.ic),Fx.ic,Fx.ic,m13,b11⟩ ?_;rintro f3 w7 ⟨i,j,k,x,hX,hij,h11,h12,Ug,Q5,Q6,m14,b12⟩;refine Wb<|Ws<|Wb<|Wo (fun f t => ∃ l:Nat,Sort.partLoop Sort.ltInt a l j k=Sort.partLoop Sort.ltInt a (a+1) (b-1) (Sort.swp d a p)/\(i<=l/\l<=b)/\f 0=bM g n cap/\f 1=au (a:Int)/\f 2=au (b:Int)/\f 10=au (l:Int)/\f 11=au (j:Int)/\Fx.Own t B 23 1 (bM g n cap) n (rv .u64 (gA k))/\Below B w t) (fun f _=>((b:Int)-intOf (f 10)).toNat) ⟨i,hX,(by omega),h11,(h12.trans Fx.ic),(Ug.trans Fx.ic),(Q5.trans Fx.ic),(Q6.trans Fx.ic),m14,b12⟩ ?_;rintro f4 w8 ⟨l,X,anv,h16,SG,h18,aa,h20,m15,b13⟩;refine Ws<|Ws ?_;refine nD<|eT aa<|eT h20 ?_;by_cases Ui:(l:Int)<=(j:Int)
    ·refine Qv aG (fun r o=>oh Ui)<|aX aG<|eT h16<|eT aa<|Qv (pf g l) (fun r o=>dB 1)<|Qv (aC ((gA k) l)) (fun r o=>aM (m15.cb o) l)<|eT h16<|eT SG<|Qv (pf g a) (fun r o=>dB 1)<|Qv (aC ((gA k) a)) (fun r o=>aM (m15.cb o) a) ?_;by_cases N:(decide ((gA k) l<(gA k) a))=true
     ·refine qO (fun _ _=>dY ((gA k) l) ((gA k) a) _) aG (by rw[N])<|aX aG<|Qn ?_;intro wb4 BX;have m16:=bB BX m15;have b14:=fA BX b13 q;refine sN<|aN<|Wk<|sN<|Wb<|Wl<|aU aa<|Lv (au ((l:Int)+1)) fH<|av (au ((l:Int)+1))<|Ln<|bU<|iH ⟨l+1,((Uc (by omega) (h_ N)).trans X),(by omega),h16,(SG.trans Fx.ic),(h18.trans Fx.ic),Fx.ic,(h20.trans Fx.ic),m16,b14⟩ ?_;show((b:Int)-intOf (au ((l:Int)+1))).toNat<_;simp only[aa,intOf]; omega
     rw[U_]at N;refine qO (fun _ _=>dY ((gA k) l) ((gA k) a) _) aF (by rw[N])<|aX aF<|Qn ?_;intro wb5 FJ;have m17:=bB FJ m15;have b15:=fA FJ b13 q;refine sN<|aK<|Wx<|cZ<|gZ<|dh<|sN<|Ws<|Wb<|Wo (fun f t => ∃ c:Nat,Sort.partLoop Sort.ltInt a l c k=Sort.partLoop Sort.ltInt a (a+1) (b-1) (Sort.swp d a p)/\(c<l \/ ¬ gA k l<gA k a)/\(c<b/\c<=j)/\f 0=bM g n cap/\f 1=au (a:Int)/\f 2=au (b:Int)/\f 10=au (l:Int)/\f 11=au (c:Int)/\Fx.Own t B 23 1 (bM g n cap) n (rv .u64 (gA k))/\Below B w t) (fun f _=>(intOf (f 11)).toNat) ⟨j,X,(.inr (j_ N)),(by omega),h16,(SG.trans Fx.ic),(h18.trans Fx.ic),(aa.trans Fx.ic),(h20.trans Fx.ic),m17,b15⟩ ?_;rintro f5 w9 ⟨c,y,z,adB,C,h22,h23,R,D,m18,b16⟩;refine Ws<|Ws ?_;refine nD<|eT R<|eT D ?_;by_cases O:(l:Int)<=(c:Int)
     ·refine Qv aG (fun r o=>oh O)<|aX aG<|eT C<|eT D<|Qv (pf g c) (fun r o=>dB 1)<|Qv (aC ((gA k) c)) (fun r o=>aM (m18.cb o) c)<|eT C<|eT h22<|Qv (pf g a) (fun r o=>dB 1)<|Qv (aC ((gA k) a)) (fun r o=>aM (m18.cb o) a) ?_;by_cases u:(decide ((gA k) c<(gA k) a))=true
      ·refine qO (fun _ _=>dY ((gA k) c) ((gA k) a) _) aG (by rw[u])<|aX aF<|aX aF<|Qn ?_;intro wb6 KZ;have m19:=bB KZ m18;have b17:=fA KZ b16 q;refine sN<|aK<|Wx<|cZ<|gZ<|dh<|sN<|Ws<|ay<|aU R<|aU D<|Lv aF yS<|aD<|aK<|Wk<|sN<|Ws ?_;refine jY [0,1,2,3,4,5,6,8,9,10,7,11,12,13,14,15] [0,0,0,0,0,0,0,4,0,0,0,4,0,3,0,3] [(13,7,[7]),(15,7,[7]),(13,11,[11]),(15,11,[11]),(14,13,[13]),(15,13,[13])] fun SF mF BU => ?_;have m20:=bB mF m19;have b18:=fA mF b17 q;refine bX C<|bX R<|bX C<|bX D<|bX C<|bX D<|Rp (pf g c) (fun _=>dB 1)<|bX C<|bX R<|Rp (pf g l) (fun _=>dB 1)<|Rs (aC ((gA k) c)) (aM m20.aH c) ?_;refine Rs (aC ((gA k) l)) (aM m20.aH l) ?_;refine Rp (pf g l) (fun _=>dB 1)<|gQ<|qP m20 l (aC ((gA k) c)) fun su m21 Ba z5 => ?_;have b19:=Ba.below b18 (m_ q b18.size) m20.blk.1;refine Ln<|Rp (pf g c) (fun _=>dB 1)<|gQ<|qP m21 c (aC ((gA k) l)) fun Ah m22 s15 z6 => ?_;have b20:=s15.below b19 (m_ q b19.size) m21.blk.1;have m23:Fx.Own Ah B 23 1 (bM g n cap) n (rv .u64 (gA (Sort.swp k l c))):=m22.congr (iO x (by omega) (by omega));refine Ln<|bT<|ay<|aU R<|Lv (au ((l:Int)+1)) fH<|av (au ((l:Int)+1))<|aD<|Wl<|aU D<|Lv (au ((c:Int)-1)) gP<|av (au ((c:Int)-1))<|Ln<|bU<|iH ⟨l+1,c-1,Sort.swp k l c,(fD x _ _),((Ig (by omega) (z.resolve_left (by omega)) (h_ u)).trans y),(by omega),C,(h22.trans Fx.ic),(h23.trans Fx.ic),Fx.ic,Fx.ic,m23,b20⟩ ?_;show((b:Int)-intOf (au ((l:Int)+1))).toNat<_;simp only[Q5,intOf]; omega
      rw[U_]at u;refine qO (fun _ _=>dY ((gA k) c) ((gA k) a) _) aF (by rw[u])<|aX aG<|aX aG<|Qn ?_;intro wb7 K3;have m24:=bB K3 m18;have M7:=fA K3 b16 q;refine sN<|aN<|Wk<|sN<|Wb<|Wl<|aU D<|Lv (au ((c:Int)-1)) gP<|av (au ((c:Int)-1))<|Ln<|bU<|iH ⟨c-1,((Ie (by omega) (by omega) (z.resolve_left (by omega)) (j_ u)).trans y),(z.elim (fun h => .inl (by omega)) .inr),(by omega),C,(h22.trans Fx.ic),(h23.trans Fx.ic),(R.trans Fx.ic),Fx.ic,m24,M7⟩ ?_;show(intOf (au ((c:Int)-1))).toNat<_;simp only[D,intOf]; omega
     refine Qv aF (fun r o=>oP O)<|aX aF<|aR<|aR<|aR<|aR<|aR<|aR<|aR<|aR<|aR<|aR<|aX aF<|Qn ?_;intro wb8 K4;have nW:=bB K4 m18;have JD:=fA K4 b16 q;refine sN<|aK<|Wx<|cZ<|gZ<|dh<|sN<|Ws<|ay<|aU R<|aU D<|Lv aG DV<|aD<|aN<|Wx<|cZ<|Fx.Ni rfl<|gZ<|dh<|sN<|Ws ?_;refine jY [0,1,2,3,4,5,6,8,9,10,7,11,12,13,14,15] [0,0,0,0,0,0,0,4,0,0,0,4,0,3,0,3] [(13,7,[7]),(15,7,[7]),(13,11,[11]),(15,11,[11]),(14,13,[13]),(15,13,[13])] fun wt4 rP Ii => ?_;have oN:=bB rP nW;have SH:=fA rP JD q;refine bX C<|bX D<|bX C<|bX h22<|bX C<|bX h22<|Rp (pf g a) (fun _=>dB 1)<|bX C<|bX D<|Rp (pf g c) (fun _=>dB 1)<|Rs (aC ((gA k) a)) (aM oN.aH a) ?_;refine Rs (aC ((gA k) c)) (aM oN.aH c) ?_;refine Rp (pf g c) (fun _=>dB 1)<|gQ<|qP oN c (aC ((gA k) a)) fun BZ pU s19 z7 => ?_;have Pg:=s19.below SH (m_ q SH.size) oN.blk.1;refine Ln<|Rp (pf g a) (fun _=>dB 1)<|gQ<|qP pU a (aC ((gA k) c)) fun FK pV s20 z8 => ?_;have b25:=s20.below Pg (m_ q Pg.size) pU.blk.1;have nX:Fx.Own FK B 23 1 (bM g n cap) n (rv .u64 (gA (Sort.swp k c a))):=pV.congr (iO x (by omega) (by omega));refine Ln<|bT<|ay<|aU D<|av (au c)<|av aF<|aD<|Wr<|aJ (.tuple #[au (c:Int),.bool false]) ?_;have v:=y.symm.trans (CV (by omega));exact⟨c,false,_,rfl,by rw[Sort.partition_fst,v],by rw[Sort.partition_arr,v],(fD x _ _),nX,b25⟩
    refine Qv aF (fun r o=>oP Ui)<|aX aF<|aR<|aR<|aR<|aR<|aR<|aR<|aR<|aR<|aR<|aX aF<|Qn ?_;intro wb9 K5;have ou:=bB K5 m15;have YN:=fA K5 b13 q;refine sN<|aK<|Wx<|cZ<|gZ<|dh<|sN<|Ws<|Wb<|Wo (fun f t => ∃ c:Nat,Sort.partLoop Sort.ltInt a l c k=Sort.partLoop Sort.ltInt a (a+1) (b-1) (Sort.swp d a p)/\(c<l \/ ¬ gA k l<gA k a)/\(c<b/\c<=j)/\f 0=bM g n cap/\f 1=au (a:Int)/\f 2=au (b:Int)/\f 10=au (l:Int)/\f 11=au (c:Int)/\Fx.Own t B 23 1 (bM g n cap) n (rv .u64 (gA k))/\Below B w t) (fun f _=>(intOf (f 11)).toNat) ⟨j,X,(.inl (by omega)),(by omega),h16,(SG.trans Fx.ic),(h18.trans Fx.ic),(aa.trans Fx.ic),(h20.trans Fx.ic),ou,YN⟩ ?_;rintro f6 K6 ⟨c,y,z,adB,E,h27,h28,S,F,lu,YO⟩;refine Ws<|Ws ?_;refine nD<|eT S<|eT F ?_;by_cases O:(l:Int)<=(c:Int)
    ·refine Qv aG (fun r o=>oh O)<|aX aG<|eT E<|eT F<|Qv (pf g c) (fun r o=>dB 1)<|Qv (aC ((gA k) c)) (fun r o=>aM (lu.cb o) c)<|eT E<|eT h27<|Qv (pf g a) (fun r o=>dB 1)<|Qv (aC ((gA k) a)) (fun r o=>aM (lu.cb o) a) ?_;by_cases u:(decide ((gA k) c<(gA k) a))=true
     ·refine qO (fun _ _=>dY ((gA k) c) ((gA k) a) _) aG (by rw[u])<|aX aF<|aX aF<|Qn ?_;intro awi Uj;have m32:=bB Uj lu;have Yj:=fA Uj YO q;refine sN<|aK<|Wx<|cZ<|gZ<|dh<|sN<|Ws<|ay<|aU S<|aU F<|Lv aF yS<|aD<|aK<|Wk<|sN<|Ws ?_;refine jY [0,1,2,3,4,5,6,8,9,10,7,11,12,13,14,15] [0,0,0,0,0,0,0,4,0,0,0,4,0,3,0,3] [(13,7,[7]),(15,7,[7]),(13,11,[11]),(15,11,[11]),(14,13,[13]),(15,13,[13])] fun wt5 AA Uk => ?_;have oQ:=bB AA m32;have b29:=fA AA Yj q;refine bX E<|bX S<|bX E<|bX F<|bX E<|bX F<|Rp (pf g c) (fun _=>dB 1)<|bX E<|bX S<|Rp (pf g l) (fun _=>dB 1)<|Rs (aC ((gA k) c)) (aM oQ.aH c) ?_;refine Rs (aC ((gA k) l)) (aM oQ.aH l) ?_;refine Rp (pf g l) (fun _=>dB 1)<|gQ<|qP oQ l (aC ((gA k) c)) fun JE nL s24 z9 => ?_;have b30:=s24.below b29 (m_ q b29.size) oQ.blk.1;refine Ln<|Rp (pf g c) (fun _=>dB 1)<|gQ<|qP nL c (aC ((gA k) l)) fun w16 oO Yk YP => ?_;have YQ:=Yk.below b30 (m_ q b30.size) nL.blk.1;have nT:Fx.Own w16 B 23 1 (bM g n cap) n (rv .u64 (gA (Sort.swp k l c))):=oO.congr (iO x (by omega) (by omega));refine Ln<|bT<|ay<|aU S<|Lv (au ((l:Int)+1)) fH<|av (au ((l:Int)+1))<|aD<|Wl<|aU F<|Lv (au ((c:Int)-1)) gP<|av (au ((c:Int)-1))<|Ln<|bU<|iH ⟨l+1,c-1,Sort.swp k l c,(fD x _ _),((Ig (by omega) (z.resolve_left (by omega)) (h_ u)).trans y),(by omega),E,(h27.trans Fx.ic),(h28.trans Fx.ic),Fx.ic,Fx.ic,nT,YQ⟩ ?_;show((b:Int)-intOf (au ((l:Int)+1))).toNat<_;simp only[Q5,intOf]; omega
     rw[U_]at u;refine qO (fun _ _=>dY ((gA k) c) ((gA k) a) _) aF (by rw[u])<|aX aG<|aX aG<|Qn ?_;intro awj Ul;have qV:=bB Ul lu;have b32:=fA Ul YO q;refine sN<|aN<|Wk<|sN<|Wb<|Wl<|aU F<|Lv (au ((c:Int)-1)) gP<|av (au ((c:Int)-1))<|Ln<|bU<|iH ⟨c-1,((Ie (by omega) (by omega) (z.resolve_left (by omega)) (j_ u)).trans y),(z.elim (fun h => .inl (by omega)) .inr),(by omega),E,(h27.trans Fx.ic),(h28.trans Fx.ic),(S.trans Fx.ic),Fx.ic,qV,b32⟩ ?_;show(intOf (au ((c:Int)-1))).toNat<_;simp only[F,intOf]; omega
    refine Qv aF (fun r o=>oP O)<|aX aF<|aR<|aR<|aR<|aR<|aR<|aR<|aR<|aR<|aR<|aR<|aX aF<|Qn ?_;intro awk Um;have qB:=bB Um lu;have b33:=fA Um YO q;refine sN<|aK<|Wx<|cZ<|gZ<|dh<|sN<|Ws<|ay<|aU S<|aU F<|Lv aG DV<|aD<|aN<|Wx<|cZ<|Fx.Ni rfl<|gZ<|dh<|sN<|Ws ?_;refine jY [0,1,2,3,4,5,6,8,9,10,7,11,12,13,14,15] [0,0,0,0,0,0,0,4,0,0,0,4,0,3,0,3] [(13,7,[7]),(15,7,[7]),(13,11,[11]),(15,11,[11]),(14,13,[13]),(15,13,[13])] fun wt6 K7 ahZ => ?_;have pE:=bB K7 qB;have b34:=fA K7 b33 q;refine bX E<|bX F<|bX E<|bX h27<|bX E<|bX h27<|Rp (pf g a) (fun _=>dB 1)<|bX E<|bX F<|Rp (pf g c) (fun _=>dB 1)<|Rs (aC ((gA k) a)) (aM pE.aH a) ?_;refine Rs (aC ((gA k) c)) (aM pE.aH c) ?_;refine Rp (pf g c) (fun _=>dB 1)<|gQ<|qP pE c (aC ((gA k) a)) fun Ph sJ s29 z11 => ?_;have b35:=s29.below b34 (m_ q b34.size) pE.blk.1;refine Ln<|Rp (pf g a) (fun _=>dB 1)<|gQ<|qP sJ a (aC ((gA k) c)) fun Un mK s30 z12 => ?_;have b36:=s30.below b35 (m_ q b35.size) sJ.blk.1;have ni:Fx.Own Un B 23 1 (bM g n cap) n (rv .u64 (gA (Sort.swp k c a))):=mK.congr (iO x (by omega) (by omega));refine Ln<|bT<|ay<|aU F<|av (au c)<|av aF<|aD<|Wr<|aJ (.tuple #[au (c:Int),.bool false]) ?_;have v:=y.symm.trans (CV (by omega));exact⟨c,false,_,rfl,by rw[Sort.partition_fst,v],by rw[Sort.partition_arr,v],(fD x _ _),ni,b36⟩
   rw[U_]at P;refine qO (fun _ _=>dY ((gA (Sort.swp d a p)) m) ((gA (Sort.swp d a p)) a) _) aF (by rw[P])<|aX aG<|aX aG<|Qn ?_;intro awn Uo;have mR:=bB Uo m8;have b37:=fA Uo b7 q;refine sN<|aN<|Wk<|sN<|Wb<|Wl<|aU A<|Lv (au ((m:Int)-1)) gP<|av (au ((m:Int)-1))<|Ln<|bU<|iH ⟨m-1,((Ie (by omega) (by omega) (Z.resolve_left (by omega)) (j_ P)).trans Y),(Z.elim (fun h => .inl (by omega)) .inr),(by omega),M,(h7.trans Fx.ic),(h8.trans Fx.ic),(W.trans Fx.ic),Fx.ic,mR,b37⟩ ?_;show(intOf (au ((m:Int)-1))).toNat<_;simp only[A,intOf]; omega
  refine Qv aF (fun r o=>oP c48)<|aX aF<|aR<|aR<|aR<|aR<|aR<|aR<|aR<|aR<|aR<|aR<|aX aF<|Qn ?_;intro awo Uq;have qw:=bB Uq m8;have b38:=fA Uq b7 q;refine sN<|aK<|Wx<|cZ<|gZ<|dh<|sN<|Ws<|ay<|aU W<|aU A<|Lv aG DV<|aD<|aN<|Ws ?_;refine jY [0,1,2,3,4,5,6,8,9,10,7,11,12,13,14,15] [0,0,0,0,0,0,0,4,0,0,0,4,0,3,0,3] [(13,7,[7]),(15,7,[7]),(13,11,[11]),(15,11,[11]),(14,13,[13]),(15,13,[13])] fun wt7 K8 aic => ?_;have qW:=bB K8 qw;have b39:=fA K8 b38 q;refine bX M<|bX A<|bX M<|bX h7<|bX M<|bX h7<|Rp (pf g a) (fun _=>dB 1)<|bX M<|bX A<|Rp (pf g m) (fun _=>dB 1)<|Rs (aC ((gA (Sort.swp d a p)) a)) (aM qW.aH a) ?_;refine Rs (aC ((gA (Sort.swp d a p)) m)) (aM qW.aH m) ?_;refine Rp (pf g m) (fun _=>dB 1)<|gQ<|qP qW m (aC ((gA (Sort.swp d a p)) a)) fun w19 ow s34 z13 => ?_;have b40:=s34.below b39 (m_ q b39.size) qW.blk.1;refine Ln<|Rp (pf g a) (fun _=>dB 1)<|gQ<|qP ow a (aC ((gA (Sort.swp d a p)) m)) fun Q7 sK s35 z14 => ?_;have b41:=s35.below b40 (m_ q b40.size) ow.blk.1;have vE:Fx.Own Q7 B 23 1 (bM g n cap) n (rv .u64 (gA (Sort.swp (Sort.swp d a p) m a))):=sK.congr (iO (fD Q _ _) (by omega) (by omega));refine Ln<|bT<|ay<|aU A<|av (au m)<|av aG<|aD<|Wr<|sR<|aJ (.tuple #[au (m:Int),.bool true]) ?_;have v:=Y.symm.trans (CV (by omega));exact⟨m,true,_,rfl,by rw[Sort.partition_fst,v],by rw[Sort.partition_arr,v],(fD (fD Q _ _) _ _),vE,b41⟩
 refine Qv aF (fun r o=>oP c32)<|aX aF<|aR<|aR<|aR<|aR<|aR<|aR<|aR<|aR<|aR<|aX aF<|Qn ?_;intro awt Ur;have sM:=bB Ur m5;have b42:=fA Ur b4 q;refine sN<|aK<|Wx<|cZ<|gZ<|dh<|sN<|Ws<|Wb<|Wo (fun f t => ∃ m:Nat,Sort.partLoop Sort.ltInt a s m (Sort.swp d a p)=Sort.partLoop Sort.ltInt a (a+1) (b-1) (Sort.swp d a p)/\(m<s \/ ¬ gA (Sort.swp d a p) s<gA (Sort.swp d a p) a)/\(m<b/\m<=b)/\f 0=bM g n cap/\f 1=au (a:Int)/\f 2=au (b:Int)/\f 10=au (s:Int)/\f 11=au (m:Int)/\Fx.Own t B 23 1 (bM g n cap) n (rv .u64 (gA (Sort.swp d a p)))/\Below B w t) (fun f _=>(intOf (f 11)).toNat) ⟨b-1,hY0,(.inl (by omega)),(by omega),h1,(h2.trans Fx.ic),(h3.trans Fx.ic),(h4.trans Fx.ic),(h5.trans Fx.ic),sM,b42⟩ ?_;rintro f7 w21 ⟨m,Y,Z,anu,G,h32,h33,T,H,rQ,b43⟩;refine Ws<|Ws ?_;refine nD<|eT T<|eT H ?_;by_cases c48:(s:Int)<=(m:Int)
 ·refine Qv aG (fun r o=>oh c48)<|aX aG<|eT G<|eT H<|Qv (pf g m) (fun r o=>dB 1)<|Qv (aC ((gA (Sort.swp d a p)) m)) (fun r o=>aM (rQ.cb o) m)<|eT G<|eT h32<|Qv (pf g a) (fun r o=>dB 1)<|Qv (aC ((gA (Sort.swp d a p)) a)) (fun r o=>aM (rQ.cb o) a) ?_;by_cases P:(decide ((gA (Sort.swp d a p)) m<(gA (Sort.swp d a p)) a))=true
  ·refine qO (fun _ _=>dY ((gA (Sort.swp d a p)) m) ((gA (Sort.swp d a p)) a) _) aG (by rw[P])<|aX aF<|aX aF<|Qn ?_;intro awu Ut;have uM:=bB Ut rQ;have b44:=fA Ut b43 q;refine sN<|aK<|Wx<|cZ<|gZ<|dh<|sN<|Ws<|ay<|aU T<|aU H<|Lv aF yS<|aD<|aK<|Wk<|sN<|Ws ?_;refine jY [0,1,2,3,4,5,6,8,9,10,7,11,12,13,14,15] [0,0,0,0,0,0,0,4,0,0,0,4,0,3,0,3] [(13,7,[7]),(15,7,[7]),(13,11,[11]),(15,11,[11]),(14,13,[13]),(15,13,[13])] fun wt8 abI atF => ?_;have uw:=bB abI uM;have b45:=fA abI b44 q;refine bX G<|bX T<|bX G<|bX H<|bX G<|bX H<|Rp (pf g m) (fun _=>dB 1)<|bX G<|bX T<|Rp (pf g s) (fun _=>dB 1)<|Rs (aC ((gA (Sort.swp d a p)) m)) (aM uw.aH m) ?_;refine Rs (aC ((gA (Sort.swp d a p)) s)) (aM uw.aH s) ?_;refine Rp (pf g s) (fun _=>dB 1)<|gQ<|qP uw s (aC ((gA (Sort.swp d a p)) m)) fun w22 ug s39 z15 => ?_;have b46:=s39.below b45 (m_ q b45.size) uw.blk.1;refine Ln<|Rp (pf g m) (fun _=>dB 1)<|gQ<|qP ug m (aC ((gA (Sort.swp d a p)) s)) fun w23 uW s40 z16 => ?_;have b47:=s40.below b46 (m_ q b46.size) ug.blk.1;have xk:Fx.Own w23 B 23 1 (bM g n cap) n (rv .u64 (gA (Sort.swp (Sort.swp d a p) s m))):=uW.congr (iO (fD Q _ _) (by omega) (by omega));refine Ln<|bT<|ay<|aU T<|Lv (au ((s:Int)+1)) fH<|av (au ((s:Int)+1))<|aD<|ay<|aU H<|Lv (au ((m:Int)-1)) gP<|av (au ((m:Int)-1))<|aD<|Ws<|Wb<|Wo (fun f t => ∃ i:Nat,∃ j:Nat,∃ k:Array Int,k.size=n/\Sort.partLoop Sort.ltInt a i j k=Sort.partLoop Sort.ltInt a (a+1) (b-1) (Sort.swp d a p)/\(a<i/\j<b/\i<=b)/\f 0=bM g n cap/\f 1=au (a:Int)/\f 2=au (b:Int)/\f 10=au (i:Int)/\f 11=au (j:Int)/\Fx.Own t B 23 1 (bM g n cap) n (rv .u64 (gA k))/\Below B w t) (fun f _=>((b:Int)-intOf (f 10)).toNat) ⟨s+1,m-1,Sort.swp (Sort.swp d a p) s m,(fD (fD Q _ _) _ _),((Ig (by omega) (Z.resolve_left (by omega)) (h_ P)).trans Y),(by omega),G,(h32.trans Fx.ic),(h33.trans Fx.ic),Fx.ic,Fx.ic,xk,b47⟩ ?_;rintro f8 w24 ⟨i,j,k,x,hX,hij,h36,h37,h38,h39,h40,uh,b48⟩;refine Wb<|Ws<|Wb<|Wo (fun f t => ∃ l:Nat,Sort.partLoop Sort.ltInt a l j k=Sort.partLoop Sort.ltInt a (a+1) (b-1) (Sort.swp d a p)/\(i<=l/\l<=b)/\f 0=bM g n cap/\f 1=au (a:Int)/\f 2=au (b:Int)/\f 10=au (l:Int)/\f 11=au (j:Int)/\Fx.Own t B 23 1 (bM g n cap) n (rv .u64 (gA k))/\Below B w t) (fun f _=>((b:Int)-intOf (f 10)).toNat) ⟨i,hX,(by omega),h36,(h37.trans Fx.ic),(h38.trans Fx.ic),(h39.trans Fx.ic),(h40.trans Fx.ic),uh,b48⟩ ?_;rintro f9 w25 ⟨l,X,anv,h41,h42,h43,h44,h45,rR,b49⟩;refine Ws<|Ws ?_;refine nD<|eT h44<|eT h45 ?_;by_cases Ui:(l:Int)<=(j:Int)
   ·refine Qv aG (fun r o=>oh Ui)<|aX aG<|eT h41<|eT h44<|Qv (pf g l) (fun r o=>dB 1)<|Qv (aC ((gA k) l)) (fun r o=>aM (rR.cb o) l)<|eT h41<|eT h42<|Qv (pf g a) (fun r o=>dB 1)<|Qv (aC ((gA k) a)) (fun r o=>aM (rR.cb o) a) ?_;by_cases N:(decide ((gA k) l<(gA k) a))=true
    ·refine qO (fun _ _=>dY ((gA k) l) ((gA k) a) _) aG (by rw[N])<|aX aG<|Qn ?_;intro awz Uu;have sw:=bB Uu rR;have b50:=fA Uu b49 q;refine sN<|aN<|Wk<|sN<|Wb<|Wl<|aU h44<|Lv (au ((l:Int)+1)) fH<|av (au ((l:Int)+1))<|Ln<|bU<|iH ⟨l+1,((Uc (by omega) (h_ N)).trans X),(by omega),h41,(h42.trans Fx.ic),(h43.trans Fx.ic),Fx.ic,(h45.trans Fx.ic),sw,b50⟩ ?_;show((b:Int)-intOf (au ((l:Int)+1))).toNat<_;simp only[h44,intOf]; omega
    rw[U_]at N;refine qO (fun _ _=>dY ((gA k) l) ((gA k) a) _) aF (by rw[N])<|aX aF<|Qn ?_;intro awD Uv;have vU:=bB Uv rR;have b51:=fA Uv b49 q;refine sN<|aK<|Wx<|cZ<|gZ<|dh<|sN<|Ws<|Wb<|Wo (fun f t => ∃ c:Nat,Sort.partLoop Sort.ltInt a l c k=Sort.partLoop Sort.ltInt a (a+1) (b-1) (Sort.swp d a p)/\(c<l \/ ¬ gA k l<gA k a)/\(c<b/\c<=j)/\f 0=bM g n cap/\f 1=au (a:Int)/\f 2=au (b:Int)/\f 10=au (l:Int)/\f 11=au (c:Int)/\Fx.Own t B 23 1 (bM g n cap) n (rv .u64 (gA k))/\Below B w t) (fun f _=>(intOf (f 11)).toNat) ⟨j,X,(.inr (j_ N)),(by omega),h41,(h42.trans Fx.ic),(h43.trans Fx.ic),(h44.trans Fx.ic),(h45.trans Fx.ic),vU,b51⟩ ?_;rintro f10 w26 ⟨c,y,z,adB,I,h47,h48,U,J,rE,b52⟩;refine Ws<|Ws ?_;refine nD<|eT U<|eT J ?_;by_cases O:(l:Int)<=(c:Int)
    ·refine Qv aG (fun r o=>oh O)<|aX aG<|eT I<|eT J<|Qv (pf g c) (fun r o=>dB 1)<|Qv (aC ((gA k) c)) (fun r o=>aM (rE.cb o) c)<|eT I<|eT h47<|Qv (pf g a) (fun r o=>dB 1)<|Qv (aC ((gA k) a)) (fun r o=>aM (rE.cb o) a) ?_;by_cases u:(decide ((gA k) c<(gA k) a))=true
     ·refine qO (fun _ _=>dY ((gA k) c) ((gA k) a) _) aG (by rw[u])<|aX aF<|aX aF<|Qn ?_;intro awF Uw;have uj:=bB Uw rE;have b53:=fA Uw b52 q;refine sN<|aK<|Wx<|cZ<|gZ<|dh<|sN<|Ws<|ay<|aU U<|aU J<|Lv aF yS<|aD<|aK<|Wk<|sN<|Ws ?_;refine jY [0,1,2,3,4,5,6,8,9,10,7,11,12,13,14,15] [0,0,0,0,0,0,0,4,0,0,0,4,0,3,0,3] [(13,7,[7]),(15,7,[7]),(13,11,[11]),(15,11,[11]),(14,13,[13]),(15,13,[13])] fun wt9 abK atG => ?_;have nY:=bB abK uj;have b54:=fA abK b53 q;refine bX I<|bX U<|bX I<|bX J<|bX I<|bX J<|Rp (pf g c) (fun _=>dB 1)<|bX I<|bX U<|Rp (pf g l) (fun _=>dB 1)<|Rs (aC ((gA k) c)) (aM nY.aH c) ?_;refine Rs (aC ((gA k) l)) (aM nY.aH l) ?_;refine Rp (pf g l) (fun _=>dB 1)<|gQ<|qP nY l (aC ((gA k) c)) fun w27 uy s45 z17 => ?_;have b55:=s45.below b54 (m_ q b54.size) nY.blk.1;refine Ln<|Rp (pf g c) (fun _=>dB 1)<|gQ<|qP uy c (aC ((gA k) l)) fun w28 m64 s46 z18 => ?_;have b56:=s46.below b55 (m_ q b55.size) uy.blk.1;have xq:Fx.Own w28 B 23 1 (bM g n cap) n (rv .u64 (gA (Sort.swp k l c))):=m64.congr (iO x (by omega) (by omega));refine Ln<|bT<|ay<|aU U<|Lv (au ((l:Int)+1)) fH<|av (au ((l:Int)+1))<|aD<|Wl<|aU J<|Lv (au ((c:Int)-1)) gP<|av (au ((c:Int)-1))<|Ln<|bU<|iH ⟨l+1,c-1,Sort.swp k l c,(fD x _ _),((Ig (by omega) (z.resolve_left (by omega)) (h_ u)).trans y),(by omega),I,(h47.trans Fx.ic),(h48.trans Fx.ic),Fx.ic,Fx.ic,xq,b56⟩ ?_;show((b:Int)-intOf (au ((l:Int)+1))).toNat<_;simp only[h39,intOf]; omega
     rw[U_]at u;refine qO (fun _ _=>dY ((gA k) c) ((gA k) a) _) aF (by rw[u])<|aX aG<|aX aG<|Qn ?_;intro awL Ux;have wI:=bB Ux rE;have b57:=fA Ux b52 q;refine sN<|aN<|Wk<|sN<|Wb<|Wl<|aU J<|Lv (au ((c:Int)-1)) gP<|av (au ((c:Int)-1))<|Ln<|bU<|iH ⟨c-1,((Ie (by omega) (by omega) (z.resolve_left (by omega)) (j_ u)).trans y),(z.elim (fun h => .inl (by omega)) .inr),(by omega),I,(h47.trans Fx.ic),(h48.trans Fx.ic),(U.trans Fx.ic),Fx.ic,wI,b57⟩ ?_;show(intOf (au ((c:Int)-1))).toNat<_;simp only[J,intOf]; omega
    refine Qv aF (fun r o=>oP O)<|aX aF<|aR<|aR<|aR<|aR<|aR<|aR<|aR<|aR<|aR<|aR<|aX aF<|Qn ?_;intro awN Uy;have vF:=bB Uy rE;have b58:=fA Uy b52 q;refine sN<|aK<|Wx<|cZ<|gZ<|dh<|sN<|Ws<|ay<|aU U<|aU J<|Lv aG DV<|aD<|aN<|Wx<|cZ<|Fx.Ni rfl<|gZ<|dh<|sN<|Ws ?_;refine jY [0,1,2,3,4,5,6,8,9,10,7,11,12,13,14,15] [0,0,0,0,0,0,0,4,0,0,0,4,0,3,0,3] [(13,7,[7]),(15,7,[7]),(13,11,[11]),(15,11,[11]),(14,13,[13]),(15,13,[13])] fun awP Uz anK => ?_;have yt:=bB Uz vF;have b59:=fA Uz b58 q;refine bX I<|bX J<|bX I<|bX h47<|bX I<|bX h47<|Rp (pf g a) (fun _=>dB 1)<|bX I<|bX J<|Rp (pf g c) (fun _=>dB 1)<|Rs (aC ((gA k) a)) (aM yt.aH a) ?_;refine Rs (aC ((gA k) c)) (aM yt.aH c) ?_;refine Rp (pf g c) (fun _=>dB 1)<|gQ<|qP yt c (aC ((gA k) a)) fun w29 sO s50 z19 => ?_;have b60:=s50.below b59 (m_ q b59.size) yt.blk.1;refine Ln<|Rp (pf g a) (fun _=>dB 1)<|gQ<|qP sO a (aC ((gA k) c)) fun w30 vG s51 z20 => ?_;have b61:=s51.below b60 (m_ q b60.size) sO.blk.1;have uN:Fx.Own w30 B 23 1 (bM g n cap) n (rv .u64 (gA (Sort.swp k c a))):=vG.congr (iO x (by omega) (by omega));refine Ln<|bT<|ay<|aU J<|av (au c)<|av aF<|aD<|Wr<|aJ (.tuple #[au (c:Int),.bool false]) ?_;have v:=y.symm.trans (CV (by omega));exact⟨c,false,_,rfl,by rw[Sort.partition_fst,v],by rw[Sort.partition_arr,v],(fD x _ _),uN,b61⟩
   refine Qv aF (fun r o=>oP Ui)<|aX aF<|aR<|aR<|aR<|aR<|aR<|aR<|aR<|aR<|aR<|aX aF<|Qn ?_;intro awT UA;have vH:=bB UA rR;have b62:=fA UA b49 q;refine sN<|aK<|Wx<|cZ<|gZ<|dh<|sN<|Ws<|Wb<|Wo (fun f t => ∃ c:Nat,Sort.partLoop Sort.ltInt a l c k=Sort.partLoop Sort.ltInt a (a+1) (b-1) (Sort.swp d a p)/\(c<l \/ ¬ gA k l<gA k a)/\(c<b/\c<=j)/\f 0=bM g n cap/\f 1=au (a:Int)/\f 2=au (b:Int)/\f 10=au (l:Int)/\f 11=au (c:Int)/\Fx.Own t B 23 1 (bM g n cap) n (rv .u64 (gA k))/\Below B w t) (fun f _=>(intOf (f 11)).toNat) ⟨j,X,(.inl (by omega)),(by omega),h41,(h42.trans Fx.ic),(h43.trans Fx.ic),(h44.trans Fx.ic),(h45.trans Fx.ic),vH,b62⟩ ?_;rintro f11 w31 ⟨c,y,z,adB,K,h52,h53,V,L,vI,b63⟩;refine Ws<|Ws ?_;refine nD<|eT V<|eT L ?_;by_cases O:(l:Int)<=(c:Int)
   ·refine Qv aG (fun r o=>oh O)<|aX aG<|eT K<|eT L<|Qv (pf g c) (fun r o=>dB 1)<|Qv (aC ((gA k) c)) (fun r o=>aM (vI.cb o) c)<|eT K<|eT h52<|Qv (pf g a) (fun r o=>dB 1)<|Qv (aC ((gA k) a)) (fun r o=>aM (vI.cb o) a) ?_;by_cases u:(decide ((gA k) c<(gA k) a))=true
    ·refine qO (fun _ _=>dY ((gA k) c) ((gA k) a) _) aG (by rw[u])<|aX aF<|aX aF<|Qn ?_;intro awW UC;have yL:=bB UC vI;have b64:=fA UC b63 q;refine sN<|aK<|Wx<|cZ<|gZ<|dh<|sN<|Ws<|ay<|aU V<|aU L<|Lv aF yS<|aD<|aK<|Wk<|sN<|Ws ?_;refine jY [0,1,2,3,4,5,6,8,9,10,7,11,12,13,14,15] [0,0,0,0,0,0,0,4,0,0,0,4,0,3,0,3] [(13,7,[7]),(15,7,[7]),(13,11,[11]),(15,11,[11]),(14,13,[13]),(15,13,[13])] fun awX UD anN => ?_;have wJ:=bB UD yL;have b65:=fA UD b64 q;refine bX K<|bX V<|bX K<|bX L<|bX K<|bX L<|Rp (pf g c) (fun _=>dB 1)<|bX K<|bX V<|Rp (pf g l) (fun _=>dB 1)<|Rs (aC ((gA k) c)) (aM wJ.aH c) ?_;refine Rs (aC ((gA k) l)) (aM wJ.aH l) ?_;refine Rp (pf g l) (fun _=>dB 1)<|gQ<|qP wJ l (aC ((gA k) c)) fun w32 yV s55 z21 => ?_;have b66:=s55.below b65 (m_ q b65.size) wJ.blk.1;refine Ln<|Rp (pf g c) (fun _=>dB 1)<|gQ<|qP yV c (aC ((gA k) l)) fun w33 yX s56 z22 => ?_;have b67:=s56.below b66 (m_ q b66.size) yV.blk.1;have yM:Fx.Own w33 B 23 1 (bM g n cap) n (rv .u64 (gA (Sort.swp k l c))):=yX.congr (iO x (by omega) (by omega));refine Ln<|bT<|ay<|aU V<|Lv (au ((l:Int)+1)) fH<|av (au ((l:Int)+1))<|aD<|Wl<|aU L<|Lv (au ((c:Int)-1)) gP<|av (au ((c:Int)-1))<|Ln<|bU<|iH ⟨l+1,c-1,Sort.swp k l c,(fD x _ _),((Ig (by omega) (z.resolve_left (by omega)) (h_ u)).trans y),(by omega),K,(h52.trans Fx.ic),(h53.trans Fx.ic),Fx.ic,Fx.ic,yM,b67⟩ ?_;show((b:Int)-intOf (au ((l:Int)+1))).toNat<_;simp only[h39,intOf]; omega
    rw[U_]at u;refine qO (fun _ _=>dY ((gA k) c) ((gA k) a) _) aF (by rw[u])<|aX aG<|aX aG<|Qn ?_;intro axb UE;have wK:=bB UE vI;have b68:=fA UE b63 q;refine sN<|aN<|Wk<|sN<|Wb<|Wl<|aU L<|Lv (au ((c:Int)-1)) gP<|av (au ((c:Int)-1))<|Ln<|bU<|iH ⟨c-1,((Ie (by omega) (by omega) (z.resolve_left (by omega)) (j_ u)).trans y),(z.elim (fun h => .inl (by omega)) .inr),(by omega),K,(h52.trans Fx.ic),(h53.trans Fx.ic),(V.trans Fx.ic),Fx.ic,wK,b68⟩ ?_;show(intOf (au ((c:Int)-1))).toNat<_;simp only[L,intOf]; omega
   refine Qv aF (fun r o=>oP O)<|aX aF<|aR<|aR<|aR<|aR<|aR<|aR<|aR<|aR<|aR<|aR<|aX aF<|Qn ?_;intro axd UF;have vV:=bB UF vI;have b69:=fA UF b63 q;refine sN<|aK<|Wx<|cZ<|gZ<|dh<|sN<|Ws<|ay<|aU V<|aU L<|Lv aG DV<|aD<|aN<|Wx<|cZ<|Fx.Ni rfl<|gZ<|dh<|sN<|Ws ?_;refine jY [0,1,2,3,4,5,6,8,9,10,7,11,12,13,14,15] [0,0,0,0,0,0,0,4,0,0,0,4,0,3,0,3] [(13,7,[7]),(15,7,[7]),(13,11,[11]),(15,11,[11]),(14,13,[13]),(15,13,[13])] fun axf UG anO => ?_;have vJ:=bB UG vV;have b70:=fA UG b69 q;refine bX K<|bX L<|bX K<|bX h52<|bX K<|bX h52<|Rp (pf g a) (fun _=>dB 1)<|bX K<|bX L<|Rp (pf g c) (fun _=>dB 1)<|Rs (aC ((gA k) a)) (aM vJ.aH a) ?_;refine Rs (aC ((gA k) c)) (aM vJ.aH c) ?_;refine Rp (pf g c) (fun _=>dB 1)<|gQ<|qP vJ c (aC ((gA k) a)) fun w34 yu s60 z23 => ?_;have b71:=s60.below b70 (m_ q b70.size) vJ.blk.1;refine Ln<|Rp (pf g a) (fun _=>dB 1)<|gQ<|qP yu a (aC ((gA k) c)) fun w35 zK s61 z24 => ?_;have b72:=s61.below b71 (m_ q b71.size) yu.blk.1;have wL:Fx.Own w35 B 23 1 (bM g n cap) n (rv .u64 (gA (Sort.swp k c a))):=zK.congr (iO x (by omega) (by omega));refine Ln<|bT<|ay<|aU L<|av (au c)<|av aF<|aD<|Wr<|aJ (.tuple #[au (c:Int),.bool false]) ?_;have v:=y.symm.trans (CV (by omega));exact⟨c,false,_,rfl,by rw[Sort.partition_fst,v],by rw[Sort.partition_arr,v],(fD x _ _),wL,b72⟩
  rw[U_]at P;refine qO (fun _ _=>dY ((gA (Sort.swp d a p)) m) ((gA (Sort.swp d a p)) a) _) aF (by rw[P])<|aX aG<|aX aG<|Qn ?_;intro axk UH;have Ai:=bB UH rQ;have b73:=fA UH b43 q;refine sN<|aN<|Wk<|sN<|Wb<|Wl<|aU H<|Lv (au ((m:Int)-1)) gP<|av (au ((m:Int)-1))<|Ln<|bU<|iH ⟨m-1,((Ie (by omega) (by omega) (Z.resolve_left (by omega)) (j_ P)).trans Y),(Z.elim (fun h => .inl (by omega)) .inr),(by omega),G,(h32.trans Fx.ic),(h33.trans Fx.ic),(T.trans Fx.ic),Fx.ic,Ai,b73⟩ ?_;show(intOf (au ((m:Int)-1))).toNat<_;simp only[H,intOf]; omega
 refine Qv aF (fun r o=>oP c48)<|aX aF<|aR<|aR<|aR<|aR<|aR<|aR<|aR<|aR<|aR<|aR<|aX aF<|Qn ?_;intro axn UJ;have zL:=bB UJ rQ;have b74:=fA UJ b43 q;refine sN<|aK<|Wx<|cZ<|gZ<|dh<|sN<|Ws<|ay<|aU T<|aU H<|Lv aG DV<|aD<|aN<|Ws ?_;refine jY [0,1,2,3,4,5,6,8,9,10,7,11,12,13,14,15] [0,0,0,0,0,0,0,4,0,0,0,4,0,3,0,3] [(13,7,[7]),(15,7,[7]),(13,11,[11]),(15,11,[11]),(14,13,[13]),(15,13,[13])] fun axp UK anQ => ?_;have AB:=bB UK zL;have b75:=fA UK b74 q;refine bX G<|bX H<|bX G<|bX h32<|bX G<|bX h32<|Rp (pf g a) (fun _=>dB 1)<|bX G<|bX H<|Rp (pf g m) (fun _=>dB 1)<|Rs (aC ((gA (Sort.swp d a p)) a)) (aM AB.aH a) ?_;refine Rs (aC ((gA (Sort.swp d a p)) m)) (aM AB.aH m) ?_;refine Rp (pf g m) (fun _=>dB 1)<|gQ<|qP AB m (aC ((gA (Sort.swp d a p)) a)) fun w36 yY s65 z25 => ?_;have b76:=s65.below b75 (m_ q b75.size) AB.blk.1;refine Ln<|Rp (pf g a) (fun _=>dB 1)<|gQ<|qP yY a (aC ((gA (Sort.swp d a p)) m)) fun w37 yZ s66 z26 => ?_;have b77:=s66.below b76 (m_ q b76.size) yY.blk.1;have Aj:Fx.Own w37 B 23 1 (bM g n cap) n (rv .u64 (gA (Sort.swp (Sort.swp d a p) m a))):=yZ.congr (iO (fD Q _ _) (by omega) (by omega));refine Ln<|bT<|ay<|aU H<|av (au m)<|av aG<|aD<|Wr<|sR<|aJ (.tuple #[au (m:Int),.bool true]) ?_;have v:=Y.symm.trans (CV (by omega));exact⟨m,true,_,rfl,by rw[Sort.partition_fst,v],by rw[Sort.partition_arr,v],(fD (fD Q _ _) _ _),Aj,b77⟩
end
section
open Rt
theorem adG{c f:Int}(a b:Nat)(i:c=(a:Int))(j:f=(b:Int))(B g n cap:Nat)(d:Array Int)(w:World)(h:Fx.Own w B 23 1 (bM g n cap) n (rv .u64 (gA d)))(k:B<=w.heap.size)(m:d.size=n)(o:n<=1000)(ha:a<=b)(l:b<=n) :
 Calls Tryz.prog 176 #[bM g n cap,au c,au f] w fun e w'=>e = .returned (.tuple #[])/\Fx.Own w' B 23 1 (bM g n cap) n (rv .u64 (gA (Sort.insertionSort Sort.ltInt d a b)))/\Below B w w':=by
 subst i j; exact ahP a b B g n cap d w h k m o ha l
theorem YR{c f:Int}(a b:Nat)(i:c=(a:Int))(j:f=(b:Int))(B g n cap:Nat)(d:Array Int)(w:World)(h:Fx.Own w B 23 1 (bM g n cap) n (rv .u64 (gA d)))(k:B<=w.heap.size)(m:d.size=n)(o:n<=1000)(ha:a<b)(l:b<=n) :
 Calls Tryz.prog 177 #[bM g n cap,au c,au f] w fun e w'=>e = .returned (.tuple #[])/\Fx.Own w' B 23 1 (bM g n cap) n (rv .u64 (gA (Sort.heapSort Sort.ltInt d a b)))/\Below B w w':=by
 subst i j; exact adu a b B g n cap d w h k m o ha l
theorem adH{c f:Int}(a b:Nat)(i:c=(a:Int))(j:f=(b:Int))(B g n cap:Nat)(d:Array Int)(w:World)(h:Fx.Own w B 23 1 (bM g n cap) n (rv .u64 (gA d)))(k:B<=w.heap.size)(m:d.size=n)(o:n<=1000)(ha:a<b)(l:b<=n) :
 Calls Tryz.prog 180 #[bM g n cap,au c,au f] w fun e w'=>e = .returned (.tuple #[])/\Fx.Own w' B 23 1 (bM g n cap) n (rv .u64 (gA (Sort.reverseRange d a b)))/\Below B w w':=by
 subst i j; exact ahR a b B g n cap d w h k m o ha l
def abL(m:Nat):Prop := ∀(i j k:Int) (a b l:Nat) (B g n f:Nat) (d:Array Int) (w:World) (h:Fx.Own w B 23 1 (bM g n f) n (rv .u64 (gA d))) (hB:B<=w.heap.size) (hn:d.size=n) (hs:n<=1000) (h50:n<50) (hl:l<=1000) (hab:a<=b) (hb:b<=n) (hBel:Sort.Below Sort.ltInt a b d),i=(a:Int)->j=(b:Int)->k=(l:Int)->b-a<m ->
    Calls Tryz.prog 163 #[bM g n f,au i,au j,au k] w fun e w' => ∃ c:Array Int,e = .returned (.tuple #[])/\c.size=n/\Sort.PermIn a b d c/\Sort.SortedIn Sort.ltInt a b c/\Fx.Own w' B 23 1 (bM g n f) n (rv .u64 (gA c))/\Below B w w'
theorem adI(m:Nat)(ih:abL m)(a b lim:Nat)(B g n cap:Nat)(d:Array Int)(w:World)(h:Fx.Own w B 23 1 (bM g n cap) n (rv .u64 (gA d)))(r:B<=w.heap.size)(hn:d.size=n)(x:n<=1000)(V:n<50)(hl:lim<=1000)(hab:a<=b)(hb:b<=n)(hBel:Sort.Below Sort.ltInt a b d)(hm:b-a<m+1) :
 Calls Tryz.prog 163 #[bM g n cap,au (a:Int),au (b:Int),au (lim:Int)] w fun e w' => ∃ d2:Array Int,e = .returned (.tuple #[])/\d2.size=n/\Sort.PermIn a b d d2/\Sort.SortedIn Sort.ltInt a b d2/\Fx.Own w' B 23 1 (bM g n cap) n (rv .u64 (gA d2))/\Below B w w':=by
 refine Kent Tryz.func163 134 ?_;refine ay<|av aG<|aD<|ay<|av aG<|aD<|Wb<|DW (fun kk f A => ∃ c:Nat,∃ i:Nat,∃ N:Nat,∃ v:Array Int,∃ O:Bool,∃ wp:Bool,v.size=n/\Sort.Below Sort.ltInt c i v/\(∀ R,Sort.PermIn c i v R->Sort.SortedIn Sort.ltInt c i R->Sort.PermIn a b d R/\Sort.SortedIn Sort.ltInt a b R)/\(c<=i/\i<=n/\N<=1000/\i-c<=b-a)/\kk=i-c/\f 0=bM g n cap/\f 1=au (c:Int)/\f 2=au (i:Int)/\f 3=au (N:Int)/\f 8 = .bool O/\f 9 = .bool wp/\Fx.Own A B 23 1 (bM g n cap) n (rv .u64 (gA v))/\Below B w A) (b-a) ⟨a,b,lim,d,true,true,hn,hBel,(fun R U J=>⟨U,J⟩),(by omega),rfl,(by rfl),Fx.ic,Fx.ic,Fx.ic,(by rfl),(by rfl),h,(Below.refl B w)⟩ ?_;rintro kk f1 w1 ⟨c,i,N,v,O,wp,hk,hBl,K,axv,hkk,U,J,h3,h4,h5,h6,m1,S⟩;refine Wb<|ay<|aU h3<|aU J<|Lv (au ((i:Int)-(c:Int))) gP<|av (au ((i:Int)-(c:Int)))<|aD<|Ws<|ay<|av (au ((i:Int)-(c:Int))) ?_;by_cases c23:((i:Int)-(c:Int))<=12
 ·refine Lv aG (oh c23)<|aD<|aN<|ay<|aU U<|aU J<|aU h3<|dX (adG c i (by omega) (by omega) B g n cap v _ m1 (m_ r S.size) hk x (by omega) (by omega)) (ax := #[bM g n cap,au (c:Int),au (i:Int)]) _ rfl ?_;rintro w2 ⟨m2,hb1⟩;have b2:=S.trans hb1;refine aD (Wr (sR (bL (qm (bL (⟨.tuple #[],iT Tryz.results163,?_⟩))))));have Y:=(Sort.insertionSort_holds Sort.swo_ltInt v c i (by omega) (by omega));have M:=K _ Y.1 Y.2;exact⟨_,rfl,Y.1.1.trans hk,M.1,M.2,m2,b2⟩
 refine Lv aF (oP c23)<|aD<|aK<|Wk<|sN<|Ws<|ay<|aU h4 ?_;by_cases c29:(N:Int)=0
 ·refine Lv aG (dZ c29)<|aD<|aN<|ay<|aU U<|aU J<|aU h3<|dX (YR c i (by omega) (by omega) B g n cap v _ m1 (m_ r S.size) hk x (by omega) (by omega)) (ax := #[bM g n cap,au (c:Int),au (i:Int)]) _ rfl ?_;rintro w3 ⟨m3,hb2⟩;have b3:=S.trans hb2;refine aD (Wr (sR (bL (qm (bL (⟨.tuple #[],iT Tryz.results163,?_⟩))))));have Y:=(Sort.heapSort_holds Sort.swo_ltInt v c i (by omega) (by omega));have M:=K _ Y.1 Y.2;exact⟨_,rfl,Y.1.1.trans hk,M.1,M.2,m3,b3⟩
 refine Lv aF (fB c29)<|aD<|aK<|Wk<|sN<|A9 (fun f A => ∃ p:Nat,∃ I:Array Int,I.size=n/\Sort.PermIn c i v I/\p<=1000/\f 0=bM g n cap/\f 1=au (c:Int)/\f 2=au (i:Int)/\f 3=au (p:Int)/\f 8 = .bool O/\f 9 = .bool wp/\f 10=au ((i:Int)-(c:Int))/\Fx.Own A B 23 1 (bM g n cap) n (rv .u64 (gA I))/\Below B w A) ?_ ?_
 ·refine ay ?_;by_cases c34:O=true
  ·refine aU (h5.trans (M_ Value.bool c34))<|av aF<|aD<|aK<|Wk ?_;exact qR ⟨N,v,hk,(Sort.permIn_refl _ _ _),(by omega),U,(J.trans Fx.ic),(h3.trans Fx.ic),(h4.trans Fx.ic),h5,h6,Fx.ic,m1,S⟩
  rw[U_]at c34;refine aU (h5.trans (M_ Value.bool c34))<|av aG<|aD<|aN<|ay<|aU U<|aU J<|aU h3<|kF (ahU c i B g n cap v _ m1 (m_ r S.size) hk x (by omega) (by omega) V) ?_;rintro D w4 ⟨dn1,l,hz1,hP1,m4,hb3⟩;have b4:=S.trans hb3;refine⟨_,l,?_⟩;clear l;refine aD<|Wl<|aU h4<|Lv (au ((N:Int)-1)) gP<|av (au ((N:Int)-1))<|Ln ?_;exact qR ⟨N-1,dn1,hz1,hP1,(by omega),U,(J.trans Fx.ic),(h3.trans Fx.ic),Fx.ic,h5,h6,Fx.ic,m4,b4⟩
 rintro f2 w5 ⟨p,I,hk1,hP1,hl2,h7,h8,h9,h10,h11,h12,Ug,m5,b5⟩;refine ay<|aU h7<|aU h8<|aU h9<|kF (ahW c i B g n cap I _ m5 (m_ r b5.size) hk1 x (by omega) (by omega) V) ?_;rintro D w6 ⟨H,ht1,l,hu1,G,m6,hb4⟩;have b6:=b5.trans hb4;refine⟨_,l,?_⟩;clear l;refine av (.tuple #[au (H:Int),au ht1])<|av (au H)<|av (au ht1)<|av (au H)<|av (au ht1)<|aD<|A9 (fun f A => ∃ q:Nat,∃ hint:Int,∃ o:Array Int,o.size=n/\Sort.PermIn c i v o/\(c<=q/\q<i)/\f 0=bM g n cap/\f 1=au (c:Int)/\f 2=au (i:Int)/\f 3=au (p:Int)/\f 8 = .bool O/\f 9 = .bool wp/\f 10=au ((i:Int)-(c:Int))/\f 11=au (q:Int)/\f 12=au hint/\Fx.Own A B 23 1 (bM g n cap) n (rv .u64 (gA o))/\Below B w A) ?_ ?_
 ·refine ay<|av (au ht1) ?_;by_cases c50:ht1=2
  ·refine Lv aG (dZ c50)<|aD<|aN<|ay<|aU h7<|aU h8<|aU h9<|dX (adH c i (by omega) (by omega) B g n cap I _ m6 (m_ r b6.size) hk1 x (by omega) (by omega)) (ax := #[bM g n cap,au (c:Int),au (i:Int)]) _ rfl ?_;rintro w7 ⟨m7,hb5⟩;have b7:=b6.trans hb5;refine aD<|ay<|aU h9<|Lv (au ((i:Int)-1)) gP<|av (au H)<|aU h8<|Lv (au ((H:Int)-(c:Int))) gP<|Lv (au ((c:Int)+(i:Int)-(H:Int)-1)) gP<|av (au ((c:Int)+(i:Int)-(H:Int)-1))<|aD<|Wl<|av (au 1)<|Ln ?_;exact qR ⟨c+i-H-1,1,Sort.reverseRange I c i,((Sort.reverseRange_holds _ _ _ (by omega) (by omega)).1.trans hk1),(Sort.permIn_trans _ _ _ _ _ hP1 (Sort.reverseRange_holds _ _ _ (by omega) (by omega))),(by omega),h7,(h8.trans Fx.ic),(h9.trans Fx.ic),(h10.trans Fx.ic),h11,h12,(Ug.trans Fx.ic),Fx.ic,Fx.ic,m7,b7⟩
  refine Lv aF (fB c50)<|aD<|aK<|Wk ?_;exact qR ⟨H,ht1,I,hk1,hP1,(by omega),h7,(h8.trans Fx.ic),(h9.trans Fx.ic),(h10.trans Fx.ic),h11,h12,(Ug.trans Fx.ic),Fx.ic,Fx.ic,m6,b6⟩
 rintro f3 w8 ⟨q,hint,o,hk2,F,L,Q5,Q6,h16,SG,h18,h19,h20,h21,h22,m8,b8⟩;obtain⟨hpv1,hpv2⟩:=L;have L:=And.intro hpv1 hpv2;refine A9 (fun f A=>f 0=bM g n cap/\f 1=au (c:Int)/\f 2=au (i:Int)/\f 3=au (p:Int)/\f 8 = .bool O/\f 9 = .bool wp/\f 10=au ((i:Int)-(c:Int))/\f 11=au (q:Int)/\Fx.Own A B 23 1 (bM g n cap) n (rv .u64 (gA o))/\Below B w A) ?_ ?_
 ·refine ay ?_;by_cases c61:O=true
  ·refine aU (h18.trans (M_ Value.bool c61))<|av aG ?_;by_cases c63:wp=true
   ·refine aU (h19.trans (M_ Value.bool c63))<|av aG<|av aG<|aU h22 ?_;by_cases c67:hint=1
    ·refine Lv aG (dZ c67)<|av aG<|aD<|aN<|ay<|aU Q5<|aU Q6<|aU h16<|kF (adA c i B g n cap o _ m8 (m_ r b8.size) hk2 x (by omega) (by omega) V) ?_;rintro D w9 ⟨r1,l,hS1,m9,hb6⟩;have b9:=b8.trans hb6
     rcases r1 with _|_
     ·refine⟨_,l,?_⟩;clear l;refine aD<|aK<|Wk ?_;exact qR ⟨Q5,(Q6.trans Fx.ic),(h16.trans Fx.ic),(SG.trans Fx.ic),h18,h19,(h20.trans Fx.ic),(h21.trans Fx.ic),m9,b9⟩
     refine⟨_,l,?_⟩;clear l;refine aD (aN (Wr (Fx.jnR (bL (qm (bL (⟨.tuple #[],iT Tryz.results163,?_⟩)))))));have M:=K _ F (hS1 rfl);exact⟨_,rfl,hk2,M.1,M.2,m9,b9⟩
    refine Lv aF (fB c67)<|av aF<|aD<|aK<|Wk ?_;exact qR ⟨Q5,(Q6.trans Fx.ic),(h16.trans Fx.ic),(SG.trans Fx.ic),h18,h19,(h20.trans Fx.ic),(h21.trans Fx.ic),m8,b8⟩
   rw[U_]at c63;refine aU (h19.trans (M_ Value.bool c63))<|av aF<|av aF<|bS<|bS<|av aF<|aD<|aK<|Wk ?_;exact qR ⟨Q5,(Q6.trans Fx.ic),(h16.trans Fx.ic),(SG.trans Fx.ic),h18,h19,(h20.trans Fx.ic),(h21.trans Fx.ic),m8,b8⟩
  rw[U_]at c61;refine aU (h18.trans (M_ Value.bool c61))<|av aF<|bS<|av aF<|av aF<|bS<|bS<|av aF<|aD<|aK<|Wk ?_;exact qR ⟨Q5,(Q6.trans Fx.ic),(h16.trans Fx.ic),(SG.trans Fx.ic),h18,h19,(h20.trans Fx.ic),(h21.trans Fx.ic),m8,b8⟩
 rintro f4 su ⟨s,y,C,E,h27,h28,h29,h30,m10,b10⟩;refine Ws<|Ws ?_;refine nD<|eT y ?_;by_cases c74:0<(c:Int)
 ·refine Qv aG (fun v1 G=>nA c74)<|aX aG<|eT s<|eT y<|Qv (au ((c:Int)-1)) (fun v1 G=>gP)<|Qv (pf g (c-1)) (fun v1 G=>dB 1)<|Qv (aC ((gA o) (c-1))) (fun v1 G=>aM (m10.cb G) (c-1))<|eT s<|eT h30<|Qv (pf g q) (fun v1 G=>dB 1)<|Qv (aC ((gA o) q)) (fun v1 G=>aM (m10.cb G) q) ?_;by_cases c85:(decide ((gA o) (c-1)<(gA o) q))=true
  ·refine qO (fun _ _=>dY ((gA o) (c-1)) ((gA o) q) _) aG (by rw[c85])<|aX aF<|aX aF<|Qn ?_;intro YL uL;have m11:=bB uL m10;have b11:=fA uL b10 r;refine sN<|aK<|Wk<|sN<|ay<|aU s<|aU y<|aU C<|aU h30<|kF (ahX c i q B g n cap o _ m11 (m_ r b11.size) hk2 x (by omega) (by omega) (by omega)) ?_;rintro D Ah ⟨j,P,dn2,l,hu2,hv2,hz2,m12,hb7⟩;have b12:=b11.trans hb7;have hx:Sort.partition Sort.ltInt o c i q=(j,(Sort.partition Sort.ltInt o c i q).2.1,dn2):=Prod.ext hu2 (Prod.ext rfl hv2);obtain⟨r1,r2,r3,r4,r5,r6,r7⟩:=Sort.round_part Sort.swo_ltInt (Sort.partition_holds _) L.1 L.2 (by omega) (hBl.perm (by omega) F) hx;clear hx;refine⟨_,l,?_⟩;clear l;refine av (.tuple #[au (j:Int),.bool P])<|av (au j)<|av (.bool P)<|av (au j)<|av (.bool P)<|aD<|ay<|av (.bool P)<|av (.bool P)<|aD<|ay<|av (au j)<|aU y<|Lv (au ((j:Int)-(c:Int))) gP<|aU C<|av (au j)<|Lv (au ((i:Int)-(j:Int))) gP<|av (au ((j:Int)-(c:Int)))<|av (au ((i:Int)-(j:Int)))<|aD<|ay<|aU h29<|Lv (au ((i-c) / 8:Nat)) (Fx.DR rfl rfl rfl (by omega) (iM (by omega) (by rw[Int.tdiv_eq_ediv_of_nonneg (by omega)]; omega)))<|av (au ((i-c) / 8:Nat))<|aD<|ay<|av (au ((j:Int)-(c:Int)))<|av (au ((i:Int)-(j:Int))) ?_;by_cases UL:((j:Int)-(c:Int))<((i:Int)-(j:Int))
   ·refine Lv aG (iD UL)<|aD<|aN<|ay<|av (au ((j:Int)-(c:Int)))<|av (au ((i-c) / 8:Nat))<|Lv (.bool (decide (((i-c) / 8:Nat)<=((j:Int)-(c:Int))))) (Fx.Fu rfl rfl rfl)<|av (.bool (decide (((i-c) / 8:Nat)<=((j:Int)-(c:Int)))))<|aD<|ay<|aU s<|aU y<|av (au j)<|aU E<|kF (ih _ _ _ c j p B g n cap dn2 _ m12 (m_ r b12.size) hz2 x V (by omega) (by omega) (by omega) r4 (by omega) (by omega) (by omega) (by omega)) (ax := #[bM g n cap,au (c:Int),au (j:Int),au (p:Int)]) ?_;rintro D BZ ⟨T,l,Z,W,X,m13,hb8⟩;refine⟨_,l,?_⟩;clear l;have b13:=b12.trans hb8;obtain⟨q1,z⟩:=r6 _ W X;refine aD (Wl (av (au j) (Lv (au ((j:Int)+1)) fH (av (au ((j:Int)+1)) (Ln (bU (iH ⟨i-(j+1),(by omega),j+1,i,p,T,(decide (((i-c) / 8:Nat)<=((j:Int)-(c:Int)))),(P),Z,q1,(fun R t u=>K R (Sort.permIn_trans _ _ _ _ _ F (z R t u).1) (z R t u).2),(by omega),rfl,s,Fx.ic,(C.trans Fx.ic),(E.trans Fx.ic),(by rfl),(by rfl),m13,b13⟩ (by decide))))))))
   refine Lv aF (iE UL)<|aD<|aK<|ay<|av (au ((i:Int)-(j:Int)))<|av (au ((i-c) / 8:Nat))<|Lv (.bool (decide (((i-c) / 8:Nat)<=((i:Int)-(j:Int))))) (Fx.Fu rfl rfl rfl)<|av (.bool (decide (((i-c) / 8:Nat)<=((i:Int)-(j:Int)))))<|aD<|ay<|aU s<|av (au j)<|Lv (au ((j:Int)+1)) fH<|aU C<|aU E<|kF (ih _ _ _ (j+1) i p B g n cap dn2 _ m12 (m_ r b12.size) hz2 x V (by omega) (by omega) (by omega) r5 (by omega) (by omega) (by omega) (by omega)) (ax := #[bM g n cap,au ((j:Int)+1),au (i:Int),au (p:Int)]) ?_;rintro D FK ⟨T,l,Z,W,X,m14,hb9⟩;refine⟨_,l,?_⟩;clear l;have b14:=b12.trans hb9;obtain⟨q1,z⟩:=r7 _ W X;refine aD (Wl (av (au j) (av (au j) (Ln (bU (iH ⟨j-c,(by omega),c,j,p,T,(decide (((i-c) / 8:Nat)<=((i:Int)-(j:Int)))),(P),Z,q1,(fun R t u=>K R (Sort.permIn_trans _ _ _ _ _ F (z R t u).1) (z R t u).2),(by omega),rfl,s,(y.trans Fx.ic),Fx.ic,(E.trans Fx.ic),(by rfl),(by rfl),m14,b14⟩ (by decide)))))))
  rw[U_]at c85;refine qO (fun _ _=>dY ((gA o) (c-1)) ((gA o) q) _) aF (by rw[c85])<|aX aG<|aX aG<|Qn ?_;intro wb2 yh;have m15:=bB yh m10;have b15:=fA yh b10 r;refine sN<|aN<|ay<|aU s<|aU y<|aU C<|aU h30<|kF (ant c i q B g n cap o _ m15 (m_ r b15.size) hk2 x (by omega) (by omega) (by omega)) ?_;rintro D K6 ⟨UM,dn3,l,hx1,hz3,m16,adK⟩;have b16:=b15.trans adK;obtain⟨r1,r2,r3,r4,r5⟩:=Sort.round_eq Sort.swo_ltInt (Sort.partitionEqual_holds _) (by omega) L.1 L.2 (by omega) (hBl.perm (by omega) F) (yg (j_ c85)) hx1;refine⟨_,l,?_⟩;clear l;refine av (au UM) (aD (ay (av (au UM) (av (au UM) (aD (Wx (cZ (dh (iH ⟨i-UM,(by omega),UM,i,p,dn3,(O),(wp),hz3,r4,(fun R t u=>K R (Sort.permIn_trans _ _ _ _ _ F (r5 R t u).1) (r5 R t u).2),(by omega),rfl,s,Fx.ic,(C.trans Fx.ic),(E.trans Fx.ic),h27,h28,m16,b16⟩ (by decide))))))))))
 refine Qv aF (fun v1 G=>nC c74)<|aX aF<|aR<|aR<|aR<|aR<|aR<|aR<|aR<|aR<|aR<|aR<|aR<|aX aF<|Qn ?_;intro wb3 yj;have m17:=bB yj m10;have b17:=fA yj b10 r;refine sN<|aK<|Wk<|sN<|ay<|aU s<|aU y<|aU C<|aU h30<|kF (ahX c i q B g n cap o _ m17 (m_ r b17.size) hk2 x (by omega) (by omega) (by omega)) ?_;rintro D JE ⟨k,Q,dn4,l,hu3,hv3,hz4,m18,anW⟩;have b18:=b17.trans anW;have hx:Sort.partition Sort.ltInt o c i q=(k,(Sort.partition Sort.ltInt o c i q).2.1,dn4):=Prod.ext hu3 (Prod.ext rfl hv3);obtain⟨r1,r2,r3,r4,r5,r6,r7⟩:=Sort.round_part Sort.swo_ltInt (Sort.partition_holds _) L.1 L.2 (by omega) (hBl.perm (by omega) F) hx;clear hx;refine⟨_,l,?_⟩;clear l;refine av (.tuple #[au (k:Int),.bool Q])<|av (au k)<|av (.bool Q)<|av (au k)<|av (.bool Q)<|aD<|ay<|av (.bool Q)<|av (.bool Q)<|aD<|ay<|av (au k)<|aU y<|Lv (au ((k:Int)-(c:Int))) gP<|aU C<|av (au k)<|Lv (au ((i:Int)-(k:Int))) gP<|av (au ((k:Int)-(c:Int)))<|av (au ((i:Int)-(k:Int)))<|aD<|ay<|aU h29<|Lv (au ((i-c) / 8:Nat)) (Fx.DR rfl rfl rfl (by omega) (iM (by omega) (by rw[Int.tdiv_eq_ediv_of_nonneg (by omega)]; omega)))<|av (au ((i-c) / 8:Nat))<|aD<|ay<|av (au ((k:Int)-(c:Int)))<|av (au ((i:Int)-(k:Int))) ?_;by_cases UL:((k:Int)-(c:Int))<((i:Int)-(k:Int))
 ·refine Lv aG (iD UL)<|aD<|aN<|ay<|av (au ((k:Int)-(c:Int)))<|av (au ((i-c) / 8:Nat))<|Lv (.bool (decide (((i-c) / 8:Nat)<=((k:Int)-(c:Int))))) (Fx.Fu rfl rfl rfl)<|av (.bool (decide (((i-c) / 8:Nat)<=((k:Int)-(c:Int)))))<|aD<|ay<|aU s<|aU y<|av (au k)<|aU E<|kF (ih _ _ _ c k p B g n cap dn4 _ m18 (m_ r b18.size) hz4 x V (by omega) (by omega) (by omega) r4 (by omega) (by omega) (by omega) (by omega)) (ax := #[bM g n cap,au (c:Int),au (k:Int),au (p:Int)]) ?_;rintro D w16 ⟨T,l,Z,W,X,m19,anX⟩;refine⟨_,l,?_⟩;clear l;have b19:=b18.trans anX;obtain⟨q1,z⟩:=r6 _ W X;refine aD (Wl (av (au k) (Lv (au ((k:Int)+1)) fH (av (au ((k:Int)+1)) (Ln (bU (iH ⟨i-(k+1),(by omega),k+1,i,p,T,(decide (((i-c) / 8:Nat)<=((k:Int)-(c:Int)))),(Q),Z,q1,(fun R t u=>K R (Sort.permIn_trans _ _ _ _ _ F (z R t u).1) (z R t u).2),(by omega),rfl,s,Fx.ic,(C.trans Fx.ic),(E.trans Fx.ic),(by rfl),(by rfl),m19,b19⟩ (by decide))))))))
 refine Lv aF (iE UL)<|aD<|aK<|ay<|av (au ((i:Int)-(k:Int)))<|av (au ((i-c) / 8:Nat))<|Lv (.bool (decide (((i-c) / 8:Nat)<=((i:Int)-(k:Int))))) (Fx.Fu rfl rfl rfl)<|av (.bool (decide (((i-c) / 8:Nat)<=((i:Int)-(k:Int)))))<|aD<|ay<|aU s<|av (au k)<|Lv (au ((k:Int)+1)) fH<|aU C<|aU E<|kF (ih _ _ _ (k+1) i p B g n cap dn4 _ m18 (m_ r b18.size) hz4 x V (by omega) (by omega) (by omega) r5 (by omega) (by omega) (by omega) (by omega)) (ax := #[bM g n cap,au ((k:Int)+1),au (i:Int),au (p:Int)]) ?_;rintro D Ph ⟨T,l,Z,W,X,m20,anY⟩;refine⟨_,l,?_⟩;clear l;have b20:=b18.trans anY;obtain⟨q1,z⟩:=r7 _ W X;refine aD (Wl (av (au k) (av (au k) (Ln (bU (iH ⟨k-c,(by omega),c,k,p,T,(decide (((i-c) / 8:Nat)<=((i:Int)-(k:Int)))),(Q),Z,q1,(fun R t u=>K R (Sort.permIn_trans _ _ _ _ _ F (z R t u).1) (z R t u).2),(by omega),rfl,s,(y.trans Fx.ic),Fx.ic,(E.trans Fx.ic),(by rfl),(by rfl),m20,b20⟩ (by decide)))))))
end
section
open Rt
theorem abM : ∀ m,abL m
 | 0=>by
   intro v x y a b u B g n c d w h k s t j q o p l e f i r;omega
 | m+1=>by
   intro v x y a b u B g n c d w h k s t j q o p l e f i r;subst e f i;exact adI m (abM m) a b u B g n c d w h k s t j q o p l r
theorem YS(B g n cap:Nat)(d:Array Int)(w:World)(h:Fx.Own w B 23 1 (bM g n cap) n (rv .u64 (gA d)))(j:B<=w.heap.size)(o:d.size=n)(p:n<=1000)(i:n<50) :
 Calls Tryz.prog 128 #[bM g n cap] w fun e w' => ∃ a:Array Int,e = .returned (.tuple #[])/\a.size=n/\Sort.PermIn 0 n d a/\Sort.SortedIn Sort.ltInt 0 n a/\Fx.Own w' B 23 1 (bM g n cap) n (rv .u64 (gA a))/\Below B w w':=by
 have t:=Pf (show n<64 by omega);refine Kent Tryz.func128 11 ?_;refine ay<|av (bM g n cap)<|av (au n)<|av (au n)<|aD<|Wl<|av (bM g n cap)<|av (au n)<|av (au n)<|Lv (aC n) (dF rfl rfl (by kernel_rfl) Tryz.underlying161 (jQ (by omega) rfl))<|lX (Uf n _ (by omega)) _ rfl<|kF (abM (n+1) _ _ _ 0 n (Sort.bitsLen n) B g n cap d _ h (m_ j (Below.refl B w).size) o p i (by omega) (by omega) (by omega) (.inl rfl) rfl rfl rfl (by omega)) (ax := #[bM g n cap,au 0,au (n:Int),au (Sort.bitsLen n:Int)]) ?_;rintro s u ⟨f,b,q,k,l,r,m⟩;refine⟨_,b,?_⟩;clear b;have c:=(Below.refl B w).trans m;refine Ln (⟨.tuple #[],iT Tryz.results128,?_⟩);exact⟨f,rfl,q,k,l,r,c⟩
theorem adM(w:World) :
 Calls Tryz.prog 176 #[.slice none 0 0,au 0,au 0] w fun e w'=>e = .returned (.tuple #[])/\Below w.heap.size w w':=by
 refine Kent Tryz.func176 49 ?_;refine ay<|av (au 0)<|Lv (au 1) fH<|av (au 1)<|aD<|Wb<|Wo (fun f d=>f 1=au 0/\f 2=au 0/\f 6=au 1/\Below w.heap.size w d) (fun f _=>0) ⟨Fx.ic,Fx.ic,Fx.ic,(Below.refl w.heap.size w)⟩ ?_;rintro g i ⟨h,b,c,a⟩;refine Ws (ay (aU c (aU b (Lv aF H6 (aD (aK (Wx (cZ (gZ (dh (⟨.tuple #[],iT Tryz.results176,?_⟩)))))))))));exact⟨rfl,a⟩
theorem adN(w:World) :
 Calls Tryz.prog 163 #[.slice none 0 0,au 0,au 0,au 0] w fun e w'=>e = .returned (.tuple #[])/\Below w.heap.size w w':=by
 refine Kent Tryz.func163 134 ?_;refine ay<|av aG<|aD<|ay<|av aG<|aD<|Wb<|Wo (fun f i=>f 0 = .slice none 0 0/\f 1=au 0/\f 2=au 0/\Below w.heap.size w i) (fun f _=>0) ⟨(by rfl),Fx.ic,Fx.ic,(Below.refl w.heap.size w)⟩ ?_;rintro j k ⟨g,a,b,c⟩;refine Wb<|ay<|aU b<|aU a<|Lv (au 0) gP<|av (au 0)<|aD<|Ws<|ay<|av (au 0)<|Lv aG ahy<|aD<|aN<|ay<|aU g<|aU a<|aU b<|dX (adM _) _ rfl ?_;intro l h;have d:=bB h c;refine aD (Wr (sR (bL (qm (bL (⟨.tuple #[],iT Tryz.results163,?_⟩))))));exact⟨rfl,d⟩
theorem adO(w:World):Calls Tryz.prog 87 #[aC 0] w fun e w'=>e = .returned (au 0)/\w'=w:=Uf 0 w (by omega)
theorem YT(w:World) :
 Calls Tryz.prog 128 #[.slice none 0 0] w fun e w'=>e = .returned (.tuple #[])/\Below w.heap.size w w':=by
 refine Kent Tryz.func128 11 ?_;refine ay<|av (.slice none 0 0)<|av (au 0)<|av (au 0)<|aD<|Wl<|av (.slice none 0 0)<|av (au 0)<|av (au 0)<|Lv (aC 0) (dF rfl rfl (by kernel_rfl) Tryz.underlying161 (jQ (by omega) rfl))<|lX (adO _) _ rfl<|dX (adN _) _ rfl ?_;intro c b;have a:=bB b (Below.refl w.heap.size w);refine Ln (⟨.tuple #[],iT Tryz.results128,?_⟩);exact⟨rfl,a⟩
theorem adP{w:World}{B n cap:Nat}{a:Option Addr}{d:Array Int}(h:Fx.Own w B 23 1 (.slice a n cap) n (rv .u64 (gA d)))(f:B<=w.heap.size)(k:d.size=n)(p:n<50) :
 Calls Tryz.prog 128 #[.slice a n cap] w fun e w' => ∃ b:Array Int,e = .returned (.tuple #[])/\b.size=n/\Sort.PermIn 0 n d b/\Sort.SortedIn Sort.ltInt 0 n b/\Fx.Own w' B 23 1 (.slice a n cap) n (rv .u64 (gA b))/\Below B w w':=by
 rcases h.2 with ⟨c,l⟩|⟨g,c2,cur,c,_⟩
 ·subst l
  cases c
  exact(YT w).mono fun e w' ⟨m,o⟩=>⟨d,m,k,Sort.permIn_refl _ _ _,fun i j _ q r=>by omega,wT _ _ _ _ _,o.mono f⟩
 simp only[Value.slice.injEq]at c;obtain⟨rfl,_,rfl⟩:=c;exact YS B g n cap d w h f k (by omega) p
end
end Go.Proofs.YtcbedgfikejkoaaGreatDoor
namespace Go.Proofs.YtcbedgfikejkoaaGreatDoor
open Go.RowKit Go
namespace Rt
def dT(x:Nat->Int)(τ:Nat->Nat)(m:Nat):Array Int:=((List.range m).map fun q=>x (τ q)).toArray
section
variable {n m kk:Nat} {x:Nat->Int} {Q:Int->Prop} {S:Nat->Bool} {τ:Nat->Nat}
theorem Pj:(dT x τ m).size=m:=by unfold dT; simp
theorem adQ{q:Nat}(a:q<m):gA (dT x τ m) q=x (τ q):=by
 unfold gA dT;rw[getElem!_pos _ q (by simpa using a)]; simp
theorem ail : ∀ j,j<m*1->Value.int .u64 (x (τ j))=Fx.rv .u64 (gA (dT x τ m)) j:=fun j a=>by
 show _=Value.int .u64 (gA (dT x τ m) j);rw[adQ (by omega)]
theorem adR{d:Array Int} : ∀ j,j<d.size*1->Fx.rv .u64 (gA d) j=yK d.toList j:=fun j a=>by
 show Value.int .u64 d[j]! = Value.int .u64 (d.toList.getD j 0);rw[getElem!_pos d j (by omega),r_,o_ (by simpa using (show j<d.size by omega))];simp
theorem Q8{c:Array Int}(h:TU n (fun i=>Q (x i)) S m τ kk)(w : ∀ i,i<n->S i=true)(z : ∀ a b,a<n->b<n->x a=x b->a=b)
 (A:Sort.PermIn 0 m (dT x τ m) c) (B:Sort.SortedIn Sort.ltInt 0 m c) (C:c.size=m):c.toList.Pairwise (· < ·) /\ ∀ k,k∈c.toList<->(eB x n k=true/\Q k):=by
 have t:c.toList.Perm ((List.range m).map fun q=>x (τ q)):=by
  have r:=A.2.2;have u:c.extract 0 m=c:=by rw[<- C]; simp
  have v : ∀ d:Array Int,d.size=m->d.extract 0 m=d:=fun d y=>by rw[<- y]; simp
  rw[u,v _ Pj]at r;exact r
 have s:c.toList.Nodup:=by
  refine(t.nodup_iff).2 ?_;rw[List.Nodup,List.pairwise_iff_getElem];intro i j hi f p;simp only[List.getElem_map,List.getElem_range];simp only[List.length_map,List.length_range]at hi f;exact fun e=>N_ (h.inj i j hi f (z _ _ (h.lt i hi) (h.lt j f) e)) (by omega)
 refine⟨?_,fun k => ?_⟩
 ·rw[List.pairwise_iff_getElem];intro i j hi f p;simp only[Array.length_toList]at hi f;have l:=j_ (B i j (L_ _) p (by omega));rw[getElem!_pos c i hi,getElem!_pos c j f]at l;rw[List.Nodup,List.pairwise_iff_getElem]at s;have o:=s i j (by simpa using hi) (by simpa using f) p;simp only[Array.getElem_toList]at o ⊢;omega
 rw[t.mem_iff];simp only[List.mem_map,P_];constructor
 ·rintro ⟨q,g,rfl⟩;exact⟨jS (h.lt q g) rfl,h.yes q g⟩
 rintro ⟨l,o⟩;obtain⟨i,hi,rfl⟩:=ig l;obtain⟨q,g,rfl⟩:=h.mem i hi (w i hi) o;exact⟨q,g,rfl⟩
theorem YU{z:Nat->Value}{i:Nat} : ∀ j,j<(m+1)*1->Fx.iJ (fun q=>aC (x (τ q))) (m*1) (Fx.bG z (0*1) 1 (fun _=>aC (x i))) j=aC (x (Fx.aO τ m i j)):=fun j a=>by
 unfold Fx.iJ Fx.bG Fx.aO;by_cases e:j=m
 ·subst e; rw[b_ (by omega),d_ (by omega),d_ rfl]
 ·rw[d_ (by omega),b_ e]
end
end Rt
open Rt
theorem adS{w:World}{B m cap:Nat}{a:Option Addr}{x:Nat->Int}{τ:Nat->Nat}(h:Fx.Own w B 23 1 (.slice a m cap) m (fun q=>aC (x (τ q))))(n:B<=w.heap.size)(p:m<=32) :
 Calls Tryz.prog 128 #[.slice a m cap] w fun e w'=>e = .returned (.tuple #[]) /\ ∃ b:Array Int,b.size=m/\Sort.PermIn 0 m (dT x τ m) b/\Sort.SortedIn Sort.ltInt 0 m b/\Fx.Own w' B 23 1 (.slice a m cap) m (yK b.toList)/\Below B w w' :=
 (adP (d:=dT x τ m) (h.congr ail) n Pj (by omega)).mono fun e w' ⟨b,c,f,g,i,k,l⟩=>⟨c,b,f,g,i,k.congr fun j o=>adR j (by omega),l⟩
end Go.Proofs.YtcbedgfikejkoaaGreatDoor
namespace Go.Proofs.YtcbedgfikejkoaaGreatDoor.Fx
open Go.RowKit
section
variable {P:Program} {n0:Nat} {Q:Post} {f:Nat->Value} {w:World} {ops:Array Oper} {rest:List Oper} {o:Oper}
theorem L.lo{T E:TypeId}{x lo:Operand}{a:Option Addr}{B n c s m:Nat}{k:IntKind}{j:Nat}{y:Nat->Value}(u:Region.wanted o (yf ops f)=true)(e:inn n0 o.dst=true)(q:o.op = .slice T x (some lo) none none)(hx:ev f x = .slice a n c)(l:ev f lo = .int k (j:Int))(t:P.underlying T=some (.slice E))(r:(P.info? E).map (·.size)=some s)(H:n=j+m)(C:Own w B E s (.slice a n c) n y)
 (d : ∀ v,nV w v m s (fun p=>y (j*s+p))->L P n0 ops Q rest (put f o.dst (.slice v m (c-j))) w):L P n0 ops Q (o::rest) f w:=by
 by_cases D:n=0
 ·obtain rfl:j=0:=by omega
  obtain rfl:m=0:=by omega
  subst D
  rcases C.2 with ⟨b,_⟩|⟨g,cap,cur,b,_,_,hn,_⟩
  ·simp only[Value.slice.injEq]at b;obtain⟨rfl,_,rfl⟩:=b;obtain⟨i,G,_⟩:=Option.map_eq_some_iff.1 r;refine Lv _ (?_:Runs P f o w (.slice none 0 0)) (d none fun h=>N_ h (Nat.lt_irrefl 0)) u e;unfold Runs execOp;simp only[q,hx,l,Option.map_some,Option.map_none];simp[Instr.sliceAt,Instr.slice,underlying,t,Instr.sliceBounds,Instr.sliceBound,asIntOf,sizeOf,typeInfo,G]
  simp only[Value.slice.injEq]at b;obtain⟨rfl,_,rfl⟩:=b;exact Lv _ (AV (A:=if c=0 then some ⟨g,0,none⟩else some ⟨g,0+0*s,none⟩) (n':=0) (c':=c-0) q hx l t r (A_ _) rfl rfl rfl) (d _ fun h=>N_ h (Nat.lt_irrefl 0)) u e
 obtain⟨g,J,z,K,M,O,F⟩:=C.form (by omega);simp only[Value.slice.injEq]at z;obtain⟨rfl,_,rfl⟩:=z;refine Lv _ (AV (A:=if c=j then some ⟨g,0,none⟩else some ⟨g,0+j*s,none⟩) (n':=m) (c':=c-j) q hx l t r (by omega) rfl (by omega) rfl) (d _ fun N => ?_) u e;rw[b_ (by omega)];refine⟨g,_,rfl,fun p R => ?_⟩;have I:j*s+p<n*s:=by
  have:n*s=j*s+m*s:=by rw[H,Nat.add_mul]
  omega
 have:=F (j*s+p) I;rw[H_]at this;rw[H_]; exact this
theorem Own.ain{B n c s j:Nat}{E:TypeId}{a:Option Addr}{y:Nat->Value}(h:Own w B E s (.slice a n c) n y)(e:j<=n):nV w a j s y:=fun k=>by
 obtain⟨g,i,b,l,m,o,d⟩:=h.form (by omega);simp only[Value.slice.injEq]at b;refine⟨g,0,b.1,fun p f=>d p ?_⟩;exact n_ f (Nat.mul_le_mul_right s e)
theorem Own.weak{B a n s:Nat}{E:TypeId}{v:Value}{y:Nat->Value}(h:Own w B E s v n y)(b:a<=B):Own w a E s v n y:=by
 refine⟨h.1,?_⟩
 rcases h.2 with hn|⟨g,cap,cur,hv,hb,rest⟩
 ·exact .inl hn
 exact .inr ⟨g,cap,cur,hv,m_ b hb,rest⟩
end
end Go.Proofs.YtcbedgfikejkoaaGreatDoor.Fx
namespace Go.Proofs.YtcbedgfikejkoaaGreatDoor
open Go.RowKit Rt
open Fx (Lv sN Ln Ws Wl Wr Wk Wb Wx DW Ac yP zB zC wT zA rv aQ bG aO Mp bE cells_one unseen bU cZ dh gZ iH)
section
open Rt
theorem UN(x p:Nat->Int)(n g o:Nat)(w:World)(W:aQ w g 1 (fun _ => .map (some o)) 165)(U:Mp w o n x (fun j=>aC (p j)))(h:CB n x p) :
 Calls Tryz.prog 84 #[(pt g),.func (.func 85) #[] #[]] w fun e w' => ∃ a c l,e = .returned (.slice a (List.length l) c)/\Fx.Own w' w.heap.size 23 1 (.slice a l.length c) l.length (yK l)/\l.Pairwise (· < ·)/\(∀ k,k∈l<->(eB x n k=true/\True))/\l.length<=32/\Below w.heap.size w w':=by
 have hsm:=h.small;refine Kent Tryz.func84 27 ?_;refine ay<|av (.slice none 0 0)<|aD<|Ws<|ay<|av (pt g)<|Lv aF (Fx.lW rfl rfl rfl (by kernel_rfl))<|aD<|aK<|Wk<|sN<|Ws<|ay<|av (pt g)<|av (pt g)<|av (pt g)<|Lv (.map (some o)) (aM W.aH 0)<|Fx.L.range (by rfl) rfl rfl rfl U Tryz.underlying108 fun R w1 ku m1 s1 z1 => ?_;have⟨m2,m3,b1⟩:=iY s1.old W U (Below.refl w.heap.size w);have tC:=gN ku;have uK:=m1.lt;refine aD<|Wb ?_;have m4:Fx.Own w1 w.heap.size 23 1 (.slice none 0 0) 0 (fun q=>aC (x ((fun _=>0:Nat->Nat) q))):=wT _ _ _ _ _;refine DW (fun kk f r => ∃ m:Nat,∃ τ:Nat->Nat,∃ S:Nat->Bool,∃ a:Option Addr,∃ d:Nat,TU n (fun i=>(fun k=>True) (x i)) S m τ kk/\f 0=(pt g)/\f 1 = .func (.func 85) #[] #[]/\f 4 = .slice a (m) (d)/\f 12=(pt R)/\aQ r g 1 (fun _ => .map (some o)) 165/\Mp r o n x (fun j=>aC (p j))/\Fx.It r R o n S/\Fx.Own r w.heap.size 23 1 (.slice a (m) (d)) m (fun q=>aC (x (τ q)))/\Below w.heap.size w r) (unseen (fun _=>false) n) ⟨0,(fun _=>0),(fun _=>false),none,0,(TU.start n _ _),(by rfl),(by rfl),(by rfl),(by rfl),m2,m3,m1,m4,b1⟩ ?_;rintro kk P w2 ⟨m,τ,S,a,d,u,T,E,F,G,m5,m6,M,m8,t⟩;have hml:=u.le;refine ay<|Fx.L.next (by rfl) rfl rfl G m6 M (fun tF => ?_)<|fun b w3 I V m9 mc1 s2 z2 => ?_
 ·skip
  refine av aF<|aD<|Ws<|aK<|Wx<|cZ<|gZ<|dh<|sN<|ay<|aU F<|dX (adS m8 t.size (by omega)) _ rfl ?_;rintro w4 ⟨O,aa,hp2,hs2,m10,hb1⟩;have b3:=t.trans hb1;refine aD<|ay<|aU F<|av (.slice a (m) (d))<|aD<|Wr<|aJ (.slice a (m) (d)) ?_;obtain⟨P,f2⟩:=Q8 (Q:=fun k=>True) u tF h.inj hp2 hs2 aa;have Z:m<=32:=by omega
  rw[show m=O.toList.length by rw[Array.length_toList]; exact aa.symm]at m10 Z ⊢;exact⟨a,d,O.toList,rfl,m10,P,f2,Z,b3⟩
 skip
 have H:=M.CP s2;have m11:=m5.eH H;have J:=m6.eH H (M.rb.symm);have m13:=m8.eH H;have N:=s2.below t t.size (by omega);refine av aG<|aD<|Ws<|aN<|Wk<|sN<|Wb<|ay<|Lv (.tuple #[aC (x b),aC (p b)]) (Fx.O7 (key:=x) (val:=fun j=>aC (p j)) (i:=b) rfl G J mc1 I)<|av (aC (x b))<|av (aC (x b))<|aD<|ay<|aU E<|av (aC (x b))<|Ac (by rfl) (Fx.BM (args := [aC (x b)]) rfl rfl rfl (all := #[aC (x b)]) rfl Tryz.func85 rfl rfl) rfl<|(ahM _ _).mono ?_;rintro e v1 ⟨X,hv1⟩;subst v1;refine⟨.bool true,by rw[X],?_⟩;clear X;refine aD<|aN<|Wl<|aU F<|av (aC (x b))<|yP (vs := [(0,aC (x b))]) (s:=1) (zc:=rv .u64 (fun _=>0)) (y:=bG (fun j=>(rv .u64 (fun _=>0)) (j % 1)) (0*1) 1 (fun _=>aC (x b))) (by rfl) rfl rfl Tryz.underlying53 (by kernel_rfl) (by rfl) (by rfl) (by kernel_rfl) (by rw[bE (off:=0*1) (s:=1) (y:=fun _=>aC (x b)) rfl (cells_one (by rfl)) (by rfl)]; rfl) rfl fun g2 w5 C m14 s3 z3 => ?_;have⟨m15,m16,K,m19,z⟩:=nE s3.old m11 J m13 m9 N;have qX:=iK C N.size;have⟨CW,UO⟩:=rD C m11.lt J.lt;have UQ:(.slice a (m) (d):Value).ownBlock≠some g2:=by rw[C]; exact m13.kM (A_ _)
 have zM:=m14.lt;refine zB (B:=w.heap.size) (s:=1) (bytes:=8) (k:=m) (m:=1) (v := .slice a (m) (d)) (x:=fun q=>aC (x (τ q))) (by rfl) rfl rfl rfl Tryz.underlying53 (by kernel_rfl) (by kernel_rfl) rfl rfl K m14.aH (fun j hj=>by unfold bG; split <;> rfl) (by omega) (by omega) (by omega) z.size fun D A w6 ho1 Y xg hlt1 => ?_
 have gF:=zC Y K;have⟨m21,m22,m24⟩:=BO gF m15 m16 m19;have m20:Fx.Own w6 w.heap.size 23 1 (bM D (m+1) A) (m+1) (fun q=>aC (x (aO τ m b q))):=(ho1.congr YU);have b6:Below w.heap.size w w6:=zA z Y z.size (fun q hq=>(K.ge hq).1);refine av (bM D (m+1) A)<|Ln<|bU ?_
 skip
 refine iH ⟨unseen (aO S b true) n,(by have T:=Fx.pQ V n I; have E:=u.kk; omega),m+1,aO τ m b,aO S b true,(some ⟨D,0,none⟩),A,(u.take I V trivial),T,E,(by rfl),G,m21,m22,m24,m20,b6⟩ (by decide)
theorem adT(x p:Nat->Int)(n b i:Nat)(w:World)(r:aQ w b 1 (fun _ => .map (some i)) 165)(q:Mp w i n x (fun j=>aC (p j)))(h:CB n x p) :
 Calls Tryz.prog 46 #[(pt b)] w fun e w' => ∃ a c l,e = .returned (.slice a (List.length l) c)/\Fx.Own w' w.heap.size 23 1 (.slice a l.length c) l.length (yK l)/\l.Pairwise (· < ·)/\(∀ k,k∈l<->(eB x n k=true/\True))/\l.length<=32/\Below w.heap.size w w':=by
 refine Kent Tryz.func46 5 ?_;refine ay<|av (.slice none 0 0)<|aD<|ay<|av (pt b)<|kF (UN x p n b i _ r q h) ?_;rintro z A ⟨d,f,g,o,y,t,u,v,s⟩;refine⟨_,o,?_⟩;clear o;have m:=bB s (Below.refl w.heap.size w);refine av (.slice d (g.length) (f))<|aD<|Wr<|aJ (.slice d (g.length) (f)) ?_;exact⟨d,f,g,rfl,y.weak (by have:=m.size; first|exact A_ _|exact(Below.refl w.heap.size w).size),t,u,v,m⟩
end
end Go.Proofs.YtcbedgfikejkoaaGreatDoor
