/-
  What the proof of the law rests on, part 1: walks of functions, and plain laws; each says its conditions itself.
-/
import Derived.WalkKit
import Derived.WalkSpells
import Derived.Laws.AppendOwnNone
import Derived.Deep.QuietTactic
import Derived.BigQuiet
import Derived.RegionTactic
import Derived.Deep.RegionWith
import Derived.Deep.RegionLaw
import Derived.Deep.AppendLies
import Derived.Deep.Cut
import Derived.Deep.OwnRows
import Derived.StillTailTactics
import Derived.Deep.RegionHeld3
import Derived.Deep.MidRow
import Derived.StillTail
import Derived.DeepKeys
import Derived.MapKept
import Derived.Maps.RangeRun
import Derived.WideKeyRuns
import Derived.DeepKeys3
import Derived.Test.YtahbiajdgealnaaDoorRows
import Derived.RangeFuncNested
import Derived.RangeFuncBound
import Derived.RangeFuncCalls
import Derived.RangeFuncLeaves
import Derived.RangeFuncFrom
namespace Go.Proofs.YtahbiajdgealnaaDoor
open Go.RowKit
def aF(k:IntKind)(n:Nat)(x:Nat->Int):Array Value:=Array.ofFn (fun i:Fin n => .int k (x i))
theorem aM(k:IntKind)(n:Nat)(x:Nat->Int):(aF k n x).size=n:=by unfold aF; simp
theorem rW(k:IntKind)(n:Nat)(x:Nat->Int)(i:Nat)(h:i<n):(aF k n x)[i]? = some (.int k (x i)):=by unfold aF; simp[h]
theorem dP{k:IntKind}{n:Nat}{x:Nat->Int}{w:World}{b:Nat}{t:TypeId}{fz:Nat × Nat}(h:w.heap[b]? = some (.cells (aF k n x) t fz))(i:Nat)(hi:i<n) :
 w.cell? ⟨b,i,none⟩=some (.int k (x i)):=by
 rw[cell_of_row w b i _ _ _ h]; exact rW k n x i hi
def upd(x:Nat->Int)(i:Nat)(v:Int):Nat->Int:=fun j=>if j=i then v else x j
theorem dU(x:Nat->Int)(i j:Nat)(v:Int)(h:j≠i):upd x i v j=x j:=by unfold upd; rw[if_neg h]
theorem wN(k:IntKind)(n:Nat)(x:Nat->Int)(i:Nat)(v:Int):(aF k n x).setIfInBounds i (.int k v)=aF k n (upd x i v):=by
 apply Array.ext_getElem?
 intro j
 by_cases hj:j<n
 ·rw[rW _ _ _ j hj,Array.getElem?_setIfInBounds,aM]
  unfold upd
  by_cases h:i=j
  ·subst h; simp[hj]
  have h' : ¬ j=i:=fun e=>h e.symm
  simp[h,h',rW k n x j hj]
 rw[Array.getElem?_eq_none (by rw[Array.size_setIfInBounds,aM]; omega),Array.getElem?_eq_none (by rw[aM]; omega)]
theorem DN{k:IntKind}{n:Nat}{x y:Nat->Int}(h : ∀ i,i<n->x i=y i):aF k n x=aF k n y:=by
 unfold aF; congr 1; funext i; rw[h i.1 i.2]
theorem iw(k:IntKind)(n:Nat)(x:Nat->Int):(aF k n x).all (·.oneCell')=true:=by
 rw[Array.all_eq_true]; intro i hi
 have h:i<n:=by rw[aM]at hi; exact hi
 have:=rW k n x i h
 rw[Array.getElem?_eq_getElem hi]at this
 rw[Option.some.inj this]; rfl
theorem addr_add(b off j:Nat):(⟨b,off,none⟩:Addr).add j=⟨b,off+j,none⟩:=by unfold Addr.add; split <;> simp_all
theorem qI{P:Program}{w:World}{ops:Array Oper}{rest:List Oper}{o:Oper}{a:Act}{Q:Exit->Act->World->Prop}(hw:Region.wanted o (yielded ops a.tmps)=true)
 (h:o.wp P a w (wpList P ops Q rest) Q):wpList P ops Q (o::rest) a w:=by
 unfold wpList; rw[if_pos hw]; exact .inl h
theorem bal{w w':World}{o:Obj}(h:Below (w.alloc o).heap.size (w.alloc o) w'):Below w.heap.size w w' :=
 ((Below.refl _ _).alloc (Nat.le_refl _) _).trans (h.mono (by simp))
theorem VX{w w':World}(h:Below w.drew.heap.size w.drew w'):Below w.heap.size w w':=⟨h.os,h.tape,h.output,h.size,h.block⟩
theorem yS{w w1 w2:World}(h:Below w.heap.size w w1)(h2:Below w1.heap.size w1 w2):Below w.heap.size w w2:=h.trans (h2.mono h.size)
theorem Bn(w:World)(n:Nat):Below w.heap.size w (w.drewN n):=⟨rfl,rfl,rfl,Nat.le_refl _,fun _ _=>rfl⟩
theorem bN{B:Nat}{w w':World}(h:Below B w w')(n:Nat):Below B w (w'.drewN n):=⟨h.os,h.tape,h.output,h.size,h.block⟩
theorem gP {P : Program} {f : FuncId} {fn : Func} {c : Code} (hf : P.funcs[f]? = some fn) (hname : (fn.name == "runtime.NumGoroutine") = false) (hb : fn.body = some c) (args : Array Value) (w : World) :
 (callFunc f args).run P w = .ok (.enter f args) w:=by
 have hn : ¬ fn.name = "runtime.NumGoroutine" := by simpa using hname
 unfold callFunc
 simp[Sem.run_bind,hf,hn,hb]
theorem alloc_at(w:World)(o:Obj)(k:Nat):(w.alloc o).heap[k]? = if k=w.heap.size then some o else w.heap[k]? := by
 show(w.heap.push o)[k]? = _
 rw[Array.getElem?_push]
theorem wO(w:World)(o:Obj):(w.alloc o).heap.size=w.heap.size+1:=by simp
theorem IJ(w:World)(A B C D:Obj):((((w.alloc A).alloc B).alloc C).alloc D).heap[w.heap.size]? = some A/\((((w.alloc A).alloc B).alloc C).alloc D).heap[w.heap.size+1]? = some B/\((((w.alloc A).alloc B).alloc C).alloc D).heap[w.heap.size+1+1]? = some C
 /\ ((((w.alloc A).alloc B).alloc C).alloc D).heap[w.heap.size+1+1+1]? = some D/\((((w.alloc A).alloc B).alloc C).alloc D).heap.size=w.heap.size+4/\Below w.heap.size w ((((w.alloc A).alloc B).alloc C).alloc D):=by
 refine⟨?_,?_,?_,?_,by simp,((((Below.refl _ _).alloc (Nat.le_refl _) _).alloc (by simp) _).alloc (by simp; omega) _).alloc (by simp; omega) _⟩
 all_goals (simp only[alloc_at,wO]; (repeat rw[if_neg (by omega)]); simp only[if_true])
theorem Pt(w:World)(A B C D E:Obj):(((((w.alloc A).alloc B).alloc C).alloc D).alloc E).heap[w.heap.size]? = some A/\(((((w.alloc A).alloc B).alloc C).alloc D).alloc E).heap[w.heap.size+1]? = some B/\(((((w.alloc A).alloc B).alloc C).alloc D).alloc E).heap[w.heap.size+1+1]? = some C
 /\ (((((w.alloc A).alloc B).alloc C).alloc D).alloc E).heap[w.heap.size+1+1+1]? = some D/\(((((w.alloc A).alloc B).alloc C).alloc D).alloc E).heap[w.heap.size+1+1+1+1]? = some E
 /\ (((((w.alloc A).alloc B).alloc C).alloc D).alloc E).heap.size=w.heap.size+5/\Below w.heap.size w (((((w.alloc A).alloc B).alloc C).alloc D).alloc E):=by
 refine⟨?_,?_,?_,?_,?_,by simp,(((((Below.refl _ _).alloc (Nat.le_refl _) _).alloc (by simp) _).alloc (by simp; omega) _).alloc (by simp; omega) _).alloc (by simp; omega) _⟩
 all_goals (simp only[alloc_at,wO]; (repeat rw[if_neg (by omega)]); simp only[if_true])
theorem kQ{w:World}{g:Nat}{v:Value}{t:TypeId}{fz:Nat × Nat}(h:w.heap[g]? = some (.cells #[v] t fz)):w.cell? ⟨g,0,none⟩=some v:=by rw[cell_of_row _ _ _ _ _ _ h]; rfl
theorem fH{P:Program}{ev:Operand->Value}{o:Oper}{w:World}(ty:TypeId)(x:Operand)(ho:o.op = .load ty x)
 (g:Nat) (hx:ev x = .pointer (some ⟨g,0,none⟩)) (t:TypeId) (cs:Array Value) (fr:Nat × Nat) (d:TypeDesc) (hg:w.heap[g]? = some (.cells cs t fr))
 (hu:P.underlying ty=some d) (hd:(match d with | .struct _ | .array _ _=>true|_=>false)=true) (hi:(P.info? ty).map (·.size)=some cs.size) :
 (execOp ev o).run P w = .ok (.value (.agg cs)) w:=by
 unfold execOp
 simp only[ho,hx,Instr.loadAt,Instr.sureAddr,Sem.run_bind,Sem.run_pure,Result.andThen_ok,run_loadVar_row w g t ty cs fr d hg hu hd hi]
theorem nA{P:Program}{ops:Array Oper}{Q:Exit->Act->World->Prop}{i:Nat}{o:Oper}{K:Act->World->Prop}{a:Act}{w:World}(ho:ops[i]? = some o)(hg:o.guard=none)
 (h : ∀ K':Act->World->Prop,(∀ a w,K a w->K' a w)->o.wp P a w K' Q):wpOp P ops Q i K a w :=
 wpOp_step ho fun K' hK=>by rw[if_pos (by simp[Region.wanted,hg])]; exact h K' hK
theorem WL{w w':World}{B g:Nat}{cs:Array Value}(h:Below B w w')(hg:B<=g):Below B w (w'.setRow g cs) :=
 h.trans ⟨rfl,rfl,rfl,by simp,fun k hk=>setRow_other _ _ _ _ (by omega)⟩
theorem run_storeVar_one{P:Program}(w:World)(g o:Nat)(ty:TypeId)(v old:Value)(hi:(P.info? ty).map (·.size)=some 1)(h1:v.oneCell'=true)(hc:w.cell? ⟨g,o,none⟩=some old)(hf:w.frozen? ⟨g,o,none⟩=false) :
 (storeVar ty ⟨g,o,none⟩ v).run P w = .ok () (w.setCell ⟨g,o,none⟩ v):=by
 have hv:v.cells = #[v]:=by cases v <;> first|rfl|(simp[Value.oneCell']at h1)
 have:=run_storeCells_cells (P:=P) g o [v] 0 w (fun j hj=>by simp at hj; subst hj; simp[hc]) (fun j hj=>by simp at hj; subst hj; simpa using hf) (fun u hu=>by simp at hu; subst hu; exact h1)
 cases hq:P.info? ty with
 | none=>simp[hq]at hi
 | some i =>
   have hs:i.size=1:=by simp[hq]at hi; omega
   simp only[Nat.add_zero]at this
   simp[storeVar,sizeOf,typeInfo,hq,hv,hs,this,World.setCells]
end Go.Proofs.YtahbiajdgealnaaDoor
namespace Go.Proofs.YtahbiajdgealnaaDoor
open Go.RowKit
namespace Fx
def put(f:Nat->Value)(d:Option Nat)(v:Value):Nat->Value :=
 match d with
 | none=>f
 | some d=>fun i=>bif Nat.beq i d then v else f i
def ev(f:Nat->Value):Operand->Value
 | .tmp t=>f t
 | .const v=>v
 | .global g => .pointer (some ⟨g,0,none⟩)
 | .func g => .func (.func g) #[] #[]
structure Fr(a:Act)(n:Nat)(f:Nat->Value):Prop where
 size:a.tmps.size=n
 defers:a.defers = []
 get : ∀ i,a.tmps.getD i undef=f i
def inn(n:Nat)(d:Option Nat):Bool:=match d with|none=>true|some d=>Nat.blt d n
theorem Fr.ev{a:Act}{n:Nat}{f:Nat->Value}(h:Fr a n f):a.eval=Fx.ev f:=by
 funext x
 cases x <;> simp only[Act.eval,Fx.ev]
 exact h.get _
theorem Fr.put{a:Act}{n:Nat}{f:Nat->Value}(h:Fr a n f){d:Option Nat}(hd:inn n d=true)(v:Value):Fr (a.put d v) n (Fx.put f d v):=by
 cases d with
 | none=>exact h
 | some d =>
   have hd':d<n:=by simpa [inn,Nat.blt_eq] using hd
   refine⟨by simp[Act.put,h.size],h.defers,fun i => ?_⟩
   have hi:=h.get i
   simp only[Act.put,Fx.put,Array.getD_eq_getD_getElem?,Array.getElem?_setIfInBounds]at hi ⊢
   by_cases e:d=i
   ·subst e; simp[h.size,hd']
   ·have e':Nat.beq i d=false:=by
     cases hq:Nat.beq i d
     ·rfl
     ·exact absurd (Nat.eq_of_beq_eq_true hq).symm e
    simp[e,e',hi]
def yf(ops:Array Oper)(f:Nat->Value)(j:Nat):Option Bool :=
 match (ops[j]?).bind (·.dst)with
 | some d=>(match f d with | .bool b=>some b|_=>none)
 | none=>none
theorem Fr.yf{a:Act}{n:Nat}{f:Nat->Value}(h:Fr a n f)(ops:Array Oper):yielded ops a.tmps=Fx.yf ops f:=by
 funext j
 unfold yielded Fx.yf
 cases hd:(ops[j]?).bind (·.dst)with
 | none=>rfl
 | some d =>
   simp only[Option.bind_some]
   have hi:=h.get d
   rw[Array.getD_eq_getD_getElem?]at hi
   cases hq:a.tmps[d]? with
   | none =>
     rw[hq]at hi
     rw[<- hi]
     rfl
   | some v=>rw[hq]at hi; rw[<- hi]; cases v <;> rfl
abbrev Post:=Exit->(Nat->Value)->World->Prop
def lift(n:Nat)(Q:Post):Exit->Act->World->Prop:=fun e a w => ∃ f,Fr a n f/\Q e f w
def W(P:Program)(n:Nat)(c:Code)(Q:Post)(f:Nat->Value)(w:World):Prop := ∀ a,Fr a n f->Code.wp P c (lift n Q) a w
def Ma(P:Program)(n:Nat)(y:Code)(Q:Post):Post:=fun e f w=>match e with | .normal=>W P n y Q f w|e=>Q e f w
def oL(id:Nat)(Q:Post):Post:=fun e f w=>match e with | .exit id'=>if id'=id then Q .normal f w else Q (.exit id') f w|e=>Q e f w
def Bo(I:(Nat->Value)->World->Prop)(m:(Nat->Value)->World->Nat)(k:Nat)(Q:Post):Post:=fun e f w=>match e with | .normal=>I f w/\m f w<k|e=>Q e f w
section
variable {P:Program} {n:Nat} {Q:Post} {f:Nat->Value} {w:World}
theorem Ws{x y:Code}(h:W P n x (Ma P n y Q) f w):W P n (.seq x y) Q f w:=fun a ha =>
 wp_seq (Code.wp_mono (fun e a' w' hq=>by
  obtain⟨f',hf',hq⟩:=hq
  cases e <;> first|exact hq a' hf'|exact⟨f',hf',hq⟩) (h a ha))
theorem Wk(h:Q .normal f w):W P n .skip Q f w:=fun _ ha=>wp_skip ⟨f,ha,h⟩
theorem Wr(h:Q .ret f w):W P n .ret Q f w:=fun _ ha=>wp_ret ⟨f,ha,h⟩
theorem W.exit{id:Nat}(h:Q (.exit id) f w):W P n (.exit id) Q f w:=fun _ ha=>wp_exit ⟨f,ha,h⟩
theorem W.block{id:Nat}{c:Code}(h:W P n c (oL id Q) f w):W P n (.block id c) Q f w:=fun a ha =>
 wp_block (Code.wp_mono (fun e a' w' hq=>by
  obtain⟨f',hf',hq⟩:=hq
  cases e <;> first
   | exact⟨f',hf',hq⟩
   | (simp only[oL]at hq; simp only[Exit.inBlock]; split at hq <;> rename_i hid <;> simp only[hid,if_true,if_false] <;> exact⟨f',hf',hq⟩)) (h a ha))
theorem Wc{c:Operand}{x y:Code}{b:Bool}(hc:ev f c = .bool b)(ht:b=true->W P n x Q f w)(hf:b=false->W P n y Q f w):W P n (.cond c x y) Q f w:=fun a ha =>
 wp_cond_split (t:=b) (by rw[ha.ev]; exact hc) (fun e=>ht e a ha) (fun e=>hf e a ha)
theorem W.loop{c:Code}(I:(Nat->Value)->World->Prop)(m:(Nat->Value)->World->Nat)(h0:I f w)(hr : ∀ f w,I f w->W P n c (Bo I m (m f w) Q) f w):W P n (.loop c) Q f w:=fun a ha =>
 wp_loop (fun a w => ∃ f,Fr a n f/\I f w) (fun a w=>m (fun i=>a.tmps.getD i undef) w) ⟨f,ha,h0⟩ (fun a w hI=>by
  obtain⟨f,hf,hI⟩:=hI
  have e:(fun i=>a.tmps.getD i undef)=f:=funext hf.get
  refine Code.wp_mono (fun e' a' w' hq => ?_) (hr f w hI a hf)
  obtain⟨f',hf',hq⟩:=hq
  cases e' <;> first
   | exact⟨f',hf',hq⟩
   | (have e'':(fun i=>a'.tmps.getD i undef)=f':=funext hf'.get
      exact⟨⟨f',hf',hq.1⟩,by rw[e,e'']; exact hq.2⟩))
theorem W.mono{c:Code}{Q':Post}(h:W P n c Q f w)(hq : ∀ e f w,Q e f w->Q' e f w):W P n c Q' f w:=fun a ha =>
 Code.wp_mono (fun _ _ _ ⟨f',hf',q⟩=>⟨f',hf',hq _ _ _ q⟩) (h a ha)
def Out(P:Program)(f:Nat->Value)(o:Oper)(w:World)(K:Value->World->Prop):Prop :=
 (∃ v w',(execOp (ev f) o).run P w = .ok (.value v) w'/\K v w')\/(∃ w',(execOp (ev f) o).run P w = .ok .skip w'/\K undef w') \/
 ∃ g args,(execOp (ev f) o).run P w = .ok (.enter g args) w/\Calls P g args w fun e w' => ∃ v,e = .returned v/\K v w'
def L(P:Program)(n:Nat)(ops:Array Oper)(Q:Post):List Oper->(Nat->Value)->World->Prop
 | [],f,w=>Q .normal f w
 | o::rest,f,w=>inn n o.dst=true/\((Region.wanted o (yf ops f)=true/\Out P f o w fun v w'=>L P n ops Q rest (put f o.dst v) w')\/(Region.wanted o (yf ops f)=false/\L P n ops Q rest (put f o.dst undef) w))
variable {ops:Array Oper} {rest:List Oper} {o:Oper}
theorem Out.wp{a:Act}{K:Value->World->Prop}{K':Act->World->Prop}{Q':Exit->Act->World->Prop}(ha:Fr a n f)(h:Out P f o w K)(hk : ∀ v w',K v w'->K' (a.put o.dst v) w'):o.wp P a w K' Q':=by
 unfold Oper.wp
 rw[ha.ev]
 rcases h with ⟨v,w',hr,h⟩|⟨w',hr,h⟩|⟨g,args,hr,h⟩
 ·rw[hr]; exact hk v w' h
 ·rw[hr]; exact hk undef w' h
 rw[hr]; exact h.mono fun e w' ⟨v,he,hl⟩=>by subst he; exact hk v w' hl
theorem L.to : ∀ {l:List Oper} {f:Nat->Value} {w:World},L P n ops Q l f w -> ∀ a,Fr a n f->wpList P ops (lift n Q) l a w
 | [],f,w,h,a,ha=>⟨f,ha,h⟩
 | o::rest,f,w,⟨hd,h⟩,a,ha=>by
   unfold wpList
   rw[ha.yf]
   rcases h with ⟨hw,h⟩|⟨hw,h⟩
   ·rw[if_pos hw]
    exact .inl (h.wp ha fun v w' hl=>L.to hl _ (ha.put hd v))
   ·rw[if_neg (by rw[hw]; decide)]
    exact L.to h _ (ha.put hd undef)
theorem Wl{id:Nat}{ops:List Oper}(h:L P n ops.toArray Q ops f w):W P n (.region id ops.toArray false) Q f w:=fun a ha=>wp_region_lit (h.to a ha)
theorem Ln(h:Q .normal f w):L P n ops Q [] f w:=h
abbrev Runs(P:Program)(f:Nat->Value)(o:Oper)(w:World)(v:Value):Prop:=(execOp (ev f) o).run P w = .ok (.value v) w
theorem L.val{v:Value}{w':World}(hw:Region.wanted o (yf ops f)=true)(hr:(execOp (ev f) o).run P w = .ok (.value v) w')(hd:inn n o.dst=true)(h:L P n ops Q rest (put f o.dst v) w'):L P n ops Q (o::rest) f w :=
 ⟨hd,.inl ⟨hw,.inl ⟨v,w',hr,h⟩⟩⟩
theorem Lv(v:Value)(hr:Runs P f o w v)(h:L P n ops Q rest (put f o.dst v) w)(hw:Region.wanted o (yf ops f)=true:=by rfl)(hd:inn n o.dst=true:=by rfl):L P n ops Q (o::rest) f w:=L.val hw hr hd h
theorem L.unit{w':World}(hw:Region.wanted o (yf ops f)=true)(hr:(execOp (ev f) o).run P w = .ok .skip w')(hd:inn n o.dst=true)(h:L P n ops Q rest (put f o.dst undef) w'):L P n ops Q (o::rest) f w :=
 ⟨hd,.inl ⟨hw,.inr (.inl ⟨w',hr,h⟩)⟩⟩
theorem Lk(hw:Region.wanted o (yf ops f)=false)(hd:inn n o.dst=true)(h:L P n ops Q rest (put f o.dst undef) w):L P n ops Q (o::rest) f w :=
 ⟨hd,.inr ⟨hw,h⟩⟩
theorem L.call{g:FuncId}{args:Array Value}(hw:Region.wanted o (yf ops f)=true)(hr:(execOp (ev f) o).run P w = .ok (.enter g args) w)(hd:inn n o.dst=true)
 (h:Calls P g args w fun e w' => ∃ v,e = .returned v/\L P n ops Q rest (put f o.dst v) w'):L P n ops Q (o::rest) f w :=
 ⟨hd,.inl ⟨hw,.inr (.inr ⟨g,args,hr,h⟩)⟩⟩
def Qt(P:Program)(n:Nat)(ops:Array Oper)(C:World->Prop)(Q:(Nat->Value)->Prop)(rest:List Oper)(f:Nat->Value):Prop := ∀ a,Fr a n f->wpQuiet P ops C (fun a' => ∃ f',Fr a' n f'/\Q f') rest a
variable {C:World->Prop} {R:(Nat->Value)->Prop}
theorem W.quiet{id:Nat}{ops:List Oper}(C:World->Prop)(hm:P.follows .mixedOrders=true)(hB:Region.lexB .any ops.toArray=true)(hC:C w.drew)
 (h:Qt P n ops.toArray C (fun f' => ∀ w',C w'->Q .normal f' w') ops f):W P n (.region id ops.toArray true) Q f w:=fun a ha=>by
 refine wp_region_quiet (C:=C) hm hB hC ?_
 have:=h a ha
 have key : ∀(l:List Oper) (a:Act),wpQuiet P ops.toArray C (fun a' => ∃ f',Fr a' n f' /\ ∀ w',C w'->Q .normal f' w') l a->wpQuiet P ops.toArray C (fun a' => ∀ w',C w'->lift n Q .normal a' w') l a:=by
  intro l
  induction l with
  | nil=>intro a h; obtain⟨f',hf',hq⟩:=h; exact fun w' hw'=>⟨f',hf',hq w' hw'⟩
  | cons o l ih =>
    intro a h
    unfold wpQuiet at h ⊢
    split
    ·rename_i hw; rw[if_pos hw]at h; obtain⟨v,h1,h2⟩:=h; exact⟨v,h1,ih _ h2⟩
    ·rename_i hw; rw[if_neg hw]at h; exact ih _ h
 exact key _ _ this
theorem Qt.nil(h:R f):Qt P n ops C R [] f:=fun _ ha=>⟨f,ha,h⟩
theorem Qt.val{v:Value}(hw:Region.wanted o (yf ops f)=true)(hr : ∀ w,C w->(execOp (ev f) o).run P w = .ok (.value v) w)(hd:inn n o.dst=true)(h:Qt P n ops C R rest (put f o.dst v)):Qt P n ops C R (o::rest) f:=fun a ha=>by
 unfold wpQuiet
 rw[ha.yf,if_pos hw]
 refine⟨v,fun w hc => ?_,h _ (ha.put hd v)⟩
 unfold Oper.quietAt
 rw[ha.ev,hr w hc]
 exact⟨rfl,rfl⟩
theorem Qv(v:Value)(hr : ∀ w,C w->Runs P f o w v)(h:Qt P n ops C R rest (put f o.dst v))(hw:Region.wanted o (yf ops f)=true:=by rfl)(hd:inn n o.dst=true:=by rfl):Qt P n ops C R (o::rest) f:=Qt.val hw hr hd h
theorem Qs(hw:Region.wanted o (yf ops f)=false)(hd:inn n o.dst=true)(h:Qt P n ops C R rest (put f o.dst undef)):Qt P n ops C R (o::rest) f:=fun a ha=>by
 unfold wpQuiet
 rw[ha.yf,if_neg (by rw[hw]; decide)]
 exact h _ (ha.put hd undef)
theorem Qt.call{v:Value}{g:FuncId}{args:Array Value}(hw:Region.wanted o (yf ops f)=true)(hr : ∀ w,C w->(execOp (ev f) o).run P w = .ok (.enter g args) w)(hd:inn n o.dst=true)
 (hc : ∀ w,C w->Calls P g args w fun e w'=>e = .returned v/\C w') (h:Qt P n ops C R rest (put f o.dst v)):Qt P n ops C R (o::rest) f:=fun a ha=>by
 unfold wpQuiet
 rw[ha.yf,if_pos hw]
 refine⟨v,fun w hcw => ?_,h _ (ha.put hd v)⟩
 unfold Oper.quietAt
 rw[ha.ev,hr w hcw]
 exact⟨rfl,hc w hcw⟩
def St(P:Program)(n:Nat)(ops:Array Oper)(w:World)(Q:(Nat->Value)->Prop)(rest:List Oper)(f:Nat->Value):Prop := ∀ a,Fr a n f->wpStill P ops w (fun a' => ∃ f',Fr a' n f'/\Q f') rest a
theorem St.nil(h:R f):St P n ops w R [] f:=fun _ ha=>⟨f,ha,h⟩
theorem St.val{v:Value}(hw:Region.wanted o (yf ops f)=true)(hr:(execOp (ev f) o).run P w = .ok (.value v) w)(hd:inn n o.dst=true)(h:St P n ops w R rest (put f o.dst v)):St P n ops w R (o::rest) f:=fun a ha=>by
 unfold wpStill
 rw[ha.yf,if_pos hw]
 unfold Oper.still
 rw[ha.ev,hr]
 exact⟨rfl,h _ (ha.put hd v)⟩
theorem St.v(v:Value)(hr:Runs P f o w v)(h:St P n ops w R rest (put f o.dst v))(hw:Region.wanted o (yf ops f)=true:=by rfl)(hd:inn n o.dst=true:=by rfl):St P n ops w R (o::rest) f:=St.val hw hr hd h
theorem St.skip(hw:Region.wanted o (yf ops f)=false)(hd:inn n o.dst=true)(h:St P n ops w R rest (put f o.dst undef)):St P n ops w R (o::rest) f:=fun a ha=>by
 unfold wpStill
 rw[ha.yf,if_neg (by rw[hw]; decide)]
 exact h _ (ha.put hd undef)
theorem St.call{v:Value}{g:FuncId}{args:Array Value}(hw:Region.wanted o (yf ops f)=true)(hr:(execOp (ev f) o).run P w = .ok (.enter g args) w)(hd:inn n o.dst=true)
 (hc:Calls P g args w fun e w'=>e = .returned v/\w'=w) (h:St P n ops w R rest (put f o.dst v)):St P n ops w R (o::rest) f:=fun a ha=>by
 unfold wpStill
 rw[ha.yf,if_pos hw]
 unfold Oper.still
 rw[ha.ev,hr]
 exact⟨rfl,v,hc,h _ (ha.put hd v)⟩
theorem W.tail{id:Nat}{ops:List Oper}(k:Nat)(hm:P.follows .mixedOrders=true)(hB:Region.lexTailB .any ops.toArray k=true)
 (h : ∀ w1,Below w.heap.size w w1->w1.heap.size=w.heap.size->St P n ops.toArray w1 (fun f'=>L P n ops.toArray Q (ops.drop k) f' w1) (ops.take k) f):W P n (.region id ops.toArray true) Q f w:=fun a ha=>by
 refine wp_region_still_tail k hm hB ?_
 have:=h { w with drawn:=w.drawn+1 } (Below.refl _ _).drew rfl a ha
 have key : ∀(l:List Oper) (a:Act),wpStill P ops.toArray { w with drawn:=w.drawn+1 } (fun a' => ∃ f',Fr a' n f'/\L P n ops.toArray Q (ops.drop k) f' { w with drawn:=w.drawn+1 }) l a ->
  wpStill P ops.toArray { w with drawn:=w.drawn+1 } (fun a'=>wpList P ops.toArray (lift n Q) (ops.drop k) a' { w with drawn:=w.drawn+1 }) l a:=by
  intro l
  induction l with
  | nil=>intro a h; obtain⟨f',hf',hq⟩:=h; exact hq.to a hf'
  | cons o l ih =>
    intro a h
    unfold wpStill at h ⊢
    split
    ·rename_i hw
     rw[if_pos hw]at h
     unfold Oper.still Oper.stillUpon at h ⊢
     split <;> rename_i hr <;> simp only[hr]at h
     ·exact⟨h.1,ih _ h.2⟩
     ·exact⟨h.1,ih _ h.2⟩
     ·obtain⟨h1,v,h2,h3⟩:=h; exact⟨h1,v,h2,ih _ h3⟩
    ·rename_i hw; rw[if_neg hw]at h; exact ih _ h
 exact key _ _ this
def TJ(f:Nat->Value):ResultVar->Sem Value
 | .tmp t=>pure (f t)
 | .cell a t=>do loadVar t (<- asAddr (f a))
def uf(fn:Func)(f:Nat->Value):Sem Value:=do
 let vs <- fn.results.mapM (TJ f)
 pure (if h:vs.size=1 then vs[0]else .tuple vs)
def WO(P:Program)(fn:Func)(R:Ending->World->Prop):Post:=fun e f w=>match e with
 | .normal => ∃ v,(uf fn f).run P w = .ok v w/\R (.returned v) w
 | .ret => ∃ v,(uf fn f).run P w = .ok v w/\R (.returned v) w
 | .outgrown=>R .outgrown w
 | _=>False
theorem E8{a:Act}{n:Nat}{f:Nat->Value}(h:Fr a n f)(fn:Func):results fn a.tmps=uf fn f:=by
 unfold results uf
 congr 1
 congr 1
 funext x
 cases x <;> simp only[h.get,TJ]
def start(args:Array Value):Nat->Value:=fun i=>args.getD i undef
theorem enter{g:FuncId}{fn:Func}{c:Code}{args:Array Value}{R:Ending->World->Prop}(hf:P.funcs[g]? = some fn)(hb:fn.body=some c)(hn:fn.ntmps=n)(ha:Nat.ble args.size n=true)
 (h:W P n c (WO P fn R) (start args) w):Calls P g args w R:=by
 have ha':args.size<=n:=Nat.le_of_ble_eq_true ha
 refine calls_of_wp hf hb ?_
 refine Code.wp_mono (fun e a w' hq => ?_) (h _ ⟨?_,rfl,?_⟩)
 ·obtain⟨f',hf',hq⟩:=hq
  cases e <;> first
   | exact hq.elim
   | (obtain⟨v,h1,h2⟩:=hq; exact⟨hf'.defers,v,by rw[E8 hf']; exact h1,h2⟩)
   | exact hq
 ·simp[hn]; omega
 intro i
 simp only[start,Array.getD_eq_getD_getElem?,Array.getElem?_append,Array.getElem?_replicate]
 by_cases hi:i<args.size
 ·simp[hi]
 simp[hi]
 by_cases h2:i-args.size<fn.ntmps-args.size
 ·simp[h2]
 simp[h2]
theorem jS{fn:Func}(hr:fn.results = #[]):(uf fn f).run P w = .ok (.tuple #[]) w:=by
 unfold uf; simp[hr]
theorem sN{y:Code}(h:W P n y Q f w):Ma P n y Q .normal f w:=h
theorem dQ{y:Code}{id:Nat}(h:Q (.exit id) f w):Ma P n y Q (.exit id) f w:=h
theorem sR{y:Code}(h:Q .ret f w):Ma P n y Q .ret f w:=h
theorem dV{id:Nat}(h:Q .normal f w):oL id Q .normal f w:=h
theorem dH{id:Nat}(h:Q .ret f w):oL id Q .ret f w:=h
theorem dR{id:Nat}(h:Q .normal f w):oL id Q (.exit id) f w:=by simp only[oL,if_true]; exact h
theorem DR{id id':Nat}(hne:Nat.beq id' id=false)(h:Q (.exit id') f w):oL id Q (.exit id') f w:=by
 have:id'≠id:=fun e=>by subst e; rw[Nat.beq_refl]at hne; cases hne
 simp only[oL,this,if_false]; exact h
theorem jC{I:(Nat->Value)->World->Prop}{m:(Nat->Value)->World->Nat}{k id:Nat}(h:Q (.exit id) f w):Bo I m k Q (.exit id) f w:=h
theorem DT{I:(Nat->Value)->World->Prop}{m:(Nat->Value)->World->Nat}{k:Nat}(h:Q .ret f w):Bo I m k Q .ret f w:=h
theorem kg{I:(Nat->Value)->World->Prop}{m:(Nat->Value)->World->Nat}{k:Nat}(h:I f w)(hm:m f w<k):Bo I m k Q .normal f w:=⟨h,hm⟩
theorem args1{x1:Operand}{v1:Value}(h1:ev f x1=v1) : [x1].map (ev f) = [v1]:=by rw[List.map_cons,h1]; rfl
theorem args2{x1 x2:Operand}{v1 v2:Value}(h1:ev f x1=v1)(h2:ev f x2=v2) : [x1,x2].map (ev f) = [v1,v2]:=by rw[List.map_cons,h1,args1 h2]
theorem Oq{x1 x2 x3:Operand}{v1 v2 v3:Value}(h1:ev f x1=v1)(h2:ev f x2=v2)(h3:ev f x3=v3) : [x1,x2,x3].map (ev f) = [v1,v2,v3]:=by rw[List.map_cons,h1,args2 h2 h3]
theorem Ot{x1 x2 x3 x4:Operand}{v1 v2 v3 v4:Value}(h1:ev f x1=v1)(h2:ev f x2=v2)(h3:ev f x3=v3)(h4:ev f x4=v4) : [x1,x2,x3,x4].map (ev f) = [v1,v2,v3,v4]:=by rw[List.map_cons,h1,Oq h2 h3 h4]
theorem TK{x1 x2 x3 x4 x5:Operand}{v1 v2 v3 v4 v5:Value}(h1:ev f x1=v1)(h2:ev f x2=v2)(h3:ev f x3=v3)(h4:ev f x4=v4)(h5:ev f x5=v5) : [x1,x2,x3,x4,x5].map (ev f) = [v1,v2,v3,v4,v5]:=by rw[List.map_cons,h1,Ot h2 h3 h4 h5]
end
end Fx
end Go.Proofs.YtahbiajdgealnaaDoor
namespace Go.Proofs.YtahbiajdgealnaaDoor
open Go.RowKit
namespace Fx
section
variable {P:Program} {f:Nat->Value} {w:World} {o:Oper}
theorem ah{x:Operand}{v:Value}(ho:o.op = .move x)(hx:ev f x=v):Runs P f o w v:=by
 unfold Runs execOp; simp[ho,hx]
theorem aj{x:Operand}{v:Value}(ho:o.op = .assign x)(hx:ev f x=v):Runs P f o w v:=by
 unfold Runs execOp; simp[ho,hx]
theorem IK{c x y:Operand}{b:Bool}{u v:Value}(ho:o.op = .pick c x y)(hc:ev f c = .bool b)(hx:ev f x=u)(hy:ev f y=v):Runs P f o w (if b then u else v):=by
 unfold Runs execOp; simp[ho,hc,hx,hy,asBool]
theorem aA{c x y:Operand}{u:Value}(ho:o.op = .pick c x y)(hc:ev f c = .bool true)(hx:ev f x=u):Runs P f o w u:=IK ho hc hx rfl
theorem aJ{c x y:Operand}{v:Value}(ho:o.op = .pick c x y)(hc:ev f c = .bool false)(hy:ev f y=v):Runs P f o w v:=IK ho hc rfl hy
theorem jG{P:Program}{w:World}(op:BinOp)(t:TypeId)(x y:Operand)(k k':IntKind)(a b:Int):(eqGuard op t x y (.int k a) (.int k' b)).run P w = .ok () w:=by
 unfold eqGuard; cases op <;> rfl
theorem mJ{op:BinOp}{T T':TypeId}{x y:Operand}{k:IntKind}{a b:Int}{v:Value}(ho:o.op = .binOp op T x y T')(hx:ev f x = .int k a)(hy:ev f y = .int k b)(h:(binOp op T (.int k a) (.int k b)).run P w = .ok v w):Runs P f o w v:=by
 unfold Runs execOp
 simp only[ho,hx,hy]
 simp only[Sem.run_bind,jG,Result.andThen_ok,h,Sem.run_pure]
theorem aS{T T':TypeId}{x y:Operand}{k:IntKind}{a b c:Int}(ho:o.op = .binOp .add T x y T')(hx:ev f x = .int k a)(hy:ev f y = .int k b)(hc:k.wrap (a+b)=c):Runs P f o w (.int k c) :=
 mJ ho hx hy (by simp[binOp,Op.intArith,hc])
theorem bD{T T':TypeId}{x y:Operand}{k:IntKind}{a b c:Int}(ho:o.op = .binOp .sub T x y T')(hx:ev f x = .int k a)(hy:ev f y = .int k b)(hc:k.wrap (a-b)=c):Runs P f o w (.int k c) :=
 mJ ho hx hy (by simp[binOp,Op.intArith,hc])
theorem yT{T T':TypeId}{x y:Operand}{k:IntKind}{a b c:Int}(ho:o.op = .binOp .mul T x y T')(hx:ev f x = .int k a)(hy:ev f y = .int k b)(hc:k.wrap (a*b)=c):Runs P f o w (.int k c) :=
 mJ ho hx hy (by simp[binOp,Op.intArith,hc])
theorem uU{T T':TypeId}{x y:Operand}{k:IntKind}{a b c:Int}(ho:o.op = .binOp .quo T x y T')(hx:ev f x = .int k a)(hy:ev f y = .int k b)(h0:b≠0)(hc:k.wrap (a.tdiv b)=c):Runs P f o w (.int k c) :=
 mJ ho hx hy (by simp[binOp,Op.intDiv,hc,h0])
theorem IL{T T':TypeId}{x y:Operand}{k:IntKind}{a b:Int}(ho:o.op = .binOp .lss T x y T')(hx:ev f x = .int k a)(hy:ev f y = .int k b):Runs P f o w (.bool (decide (a<b))) :=
 mJ ho hx hy (by simp[binOp,Op.intCmp])
theorem Ou{T T':TypeId}{x y:Operand}{k:IntKind}{a b:Int}(ho:o.op = .binOp .leq T x y T')(hx:ev f x = .int k a)(hy:ev f y = .int k b):Runs P f o w (.bool (decide (a<=b))) :=
 mJ ho hx hy (by simp[binOp,Op.intCmp])
theorem Ov{T T':TypeId}{x y:Operand}{k:IntKind}{a b:Int}(ho:o.op = .binOp .gtr T x y T')(hx:ev f x = .int k a)(hy:ev f y = .int k b):Runs P f o w (.bool (decide (b<a))) :=
 mJ ho hx hy (by simp[binOp,Op.intCmp])
theorem wP{T T':TypeId}{x y:Operand}{k:IntKind}{a b:Int}(ho:o.op = .binOp .geq T x y T')(hx:ev f x = .int k a)(hy:ev f y = .int k b):Runs P f o w (.bool (decide (b<=a))) :=
 mJ ho hx hy (by simp[binOp,Op.intCmp])
theorem Ow{T T':TypeId}{x y:Operand}{k:IntKind}{a b:Int}(ho:o.op = .binOp .eql T x y T')(hx:ev f x = .int k a)(hy:ev f y = .int k b):Runs P f o w (.bool (decide (a=b))) :=
 mJ ho hx hy (by simp[binOp,Op.intCmp]; rfl)
theorem Ox{T T':TypeId}{x y:Operand}{k:IntKind}{a b:Int}(ho:o.op = .binOp .neq T x y T')(hx:ev f x = .int k a)(hy:ev f y = .int k b):Runs P f o w (.bool (!decide (a=b))) :=
 mJ ho hx hy (by simp[binOp,Op.intCmp]; rfl)
theorem Oy{T:TypeId}{x:Operand}{b:Bool}(ho:o.op = .unOp .not T x)(hx:ev f x = .bool b):Runs P f o w (.bool (!b)):=by
 unfold Runs execOp; simp[ho,hx,Op.unary]
theorem eG{T T':TypeId}{x y:Operand}{k:IntKind}{a b:Int}(ho:o.op = .binOp .lss T x y T')(hx:ev f x = .int k a)(hy:ev f y = .int k b)(h:a<b):Runs P f o w (.bool true):=by
 have:=IL (P:=P) (w:=w) ho hx hy; rwa [decide_eq_true h]at this
theorem dX{T T':TypeId}{x y:Operand}{k:IntKind}{a b:Int}(ho:o.op = .binOp .lss T x y T')(hx:ev f x = .int k a)(hy:ev f y = .int k b)(h : ¬ (a<b)):Runs P f o w (.bool false):=by
 have:=IL (P:=P) (w:=w) ho hx hy; rwa [decide_eq_false h]at this
theorem gU{T T':TypeId}{x y:Operand}{k:IntKind}{a b:Int}(ho:o.op = .binOp .leq T x y T')(hx:ev f x = .int k a)(hy:ev f y = .int k b)(h:a<=b):Runs P f o w (.bool true):=by
 have:=Ou (P:=P) (w:=w) ho hx hy; rwa [decide_eq_true h]at this
theorem dI{T T':TypeId}{x y:Operand}{k:IntKind}{a b:Int}(ho:o.op = .binOp .leq T x y T')(hx:ev f x = .int k a)(hy:ev f y = .int k b)(h : ¬ (a<=b)):Runs P f o w (.bool false):=by
 have:=Ou (P:=P) (w:=w) ho hx hy; rwa [decide_eq_false h]at this
theorem iy{T T':TypeId}{x y:Operand}{k:IntKind}{a b:Int}(ho:o.op = .binOp .gtr T x y T')(hx:ev f x = .int k a)(hy:ev f y = .int k b)(h:b<a):Runs P f o w (.bool true):=by
 have:=Ov (P:=P) (w:=w) ho hx hy; rwa [decide_eq_true h]at this
theorem dw{T T':TypeId}{x y:Operand}{k:IntKind}{a b:Int}(ho:o.op = .binOp .gtr T x y T')(hx:ev f x = .int k a)(hy:ev f y = .int k b)(h : ¬ (b<a)):Runs P f o w (.bool false):=by
 have:=Ov (P:=P) (w:=w) ho hx hy; rwa [decide_eq_false h]at this
theorem gV{T T':TypeId}{x y:Operand}{k:IntKind}{a b:Int}(ho:o.op = .binOp .geq T x y T')(hx:ev f x = .int k a)(hy:ev f y = .int k b)(h:b<=a):Runs P f o w (.bool true):=by
 have:=wP (P:=P) (w:=w) ho hx hy; rwa [decide_eq_true h]at this
theorem eY{T T':TypeId}{x y:Operand}{k:IntKind}{a b:Int}(ho:o.op = .binOp .geq T x y T')(hx:ev f x = .int k a)(hy:ev f y = .int k b)(h : ¬ (b<=a)):Runs P f o w (.bool false):=by
 have:=wP (P:=P) (w:=w) ho hx hy; rwa [decide_eq_false h]at this
theorem bG{T T':TypeId}{x y:Operand}{k:IntKind}{a b:Int}(ho:o.op = .binOp .eql T x y T')(hx:ev f x = .int k a)(hy:ev f y = .int k b)(h:a=b):Runs P f o w (.bool true):=by
 have:=Ow (P:=P) (w:=w) ho hx hy; rwa [decide_eq_true h]at this
theorem dn{T T':TypeId}{x y:Operand}{k:IntKind}{a b:Int}(ho:o.op = .binOp .eql T x y T')(hx:ev f x = .int k a)(hy:ev f y = .int k b)(h : ¬ (a=b)):Runs P f o w (.bool false):=by
 have:=Ow (P:=P) (w:=w) ho hx hy; rwa [decide_eq_false h]at this
theorem jd{T T':TypeId}{x y:Operand}{k:IntKind}{a b:Int}(ho:o.op = .binOp .neq T x y T')(hx:ev f x = .int k a)(hy:ev f y = .int k b)(h : ¬ (a=b)):Runs P f o w (.bool true):=by
 have:=Ox (P:=P) (w:=w) ho hx hy; rwa [decide_eq_false h]at this
theorem gu{T T':TypeId}{x y:Operand}{k:IntKind}{a b:Int}(ho:o.op = .binOp .neq T x y T')(hx:ev f x = .int k a)(hy:ev f y = .int k b)(h:a=b):Runs P f o w (.bool false):=by
 have:=Ox (P:=P) (w:=w) ho hx hy; rwa [decide_eq_true h]at this
theorem eH{T:TypeId}{x:Operand}(ho:o.op = .unOp .not T x)(hx:ev f x = .bool false):Runs P f o w (.bool true):=Oy ho hx
theorem dZ{T:TypeId}{x:Operand}(ho:o.op = .unOp .not T x)(hx:ev f x = .bool true):Runs P f o w (.bool false):=Oy ho hx
theorem wQ{a c:Int}(h : -9223372036854775808<=c/\c<=9223372036854775807)(e:a=c):IntKind.i64.wrap a=c:=by subst e; exact IntWalk.i64_in _ h
theorem rX{a c:Int}(h:0<=c/\c<=18446744073709551615)(e:a=c):IntKind.u64.wrap a=c:=by subst e; exact IntWalk.u64_in _ h
theorem aO{x:Operand}{a:Addr}(ho:o.op = .nilCheck x)(hx:ev f x = .pointer (some a)):Runs P f o w (.pointer (some a)):=by
 unfold Runs execOp; simp[ho,hx]
theorem eZ{S T:TypeId}{x:Operand}{k k':IntKind}{a c:Int}(ho:o.op = .convert S T x)(hx:ev f x = .int k' a)(hs:(P.underlying S).isSome=true)(hd:P.underlying T=some (.int k))(hc:k.wrap a=c):Runs P f o w (.int k c):=by
 unfold Runs execOp
 simp only[ho,hx]
 have hk:P.intKind T=k:=by unfold Program.intKind; rw[hd]
 have:=run_convert_int w S T k' a hs (hk.symm ▸ hd)
 rw[hk,hc]at this
 simp only[Sem.run_bind,this,Result.andThen_ok,Sem.run_pure]
theorem aD{x:Operand}{vs:Array Value}{i:Nat}{v:Value}(ho:o.op = .extract x i)(hx:ev f x = .tuple vs)(hv:vs[i]? = some v):Runs P f o w v:=by
 unfold Runs execOp; simp[ho,hx,Instr.extract,hv]
theorem x_len{T:TypeId}{x:Operand}{b:Option Addr}{n c:Nat}{Ts:Array TypeId}(ho:o.op = .call { callee := .builtin .len,args := #[x],argTypes:=Ts })(hT:Ts = #[T])(hx:ev f x = .slice b n c)(hu:P.underlying T=some (.slice (P.elem T))):Runs P f o w (.int .i64 n):=by
 unfold Runs execOp
 simp only[ho]
 unfold resolve invoke
 simp only[hT,List.map_toArray,List.map_cons,List.map_nil,hx]
 unfold builtin
 simp only[Sem.run_bind,Sem.run_pure,Result.andThen_ok,run_len_slice w T o.type b n c hu,goInt]
theorem Oz{x y:Operand}{Ts:Array TypeId}{k k':IntKind}{a b:Int}(ho:o.op = .call { callee := .builtin .max,args := #[x,y],argTypes:=Ts })(hx:ev f x = .int k a)(hy:ev f y = .int k' b):Runs P f o w (.int k (if b>a then b else a)):=by
 unfold Runs execOp
 simp only[ho]
 unfold resolve invoke
 simp only[List.map_toArray,List.map_cons,List.map_nil,hx,hy]
 unfold builtin
 simp only[Sem.run_bind,Sem.run_pure,Result.andThen_ok,run_max_int2]
theorem au{S:TypeId}{x:Operand}{i:Nat}{b off off':Nat}{fs:Array Field}{fd:Field}{s:Nat}(ho:o.op = .fieldAddr S x i)(hx:ev f x = .pointer (some ⟨b,off,none⟩))(hs:P.underlying S=some (.struct fs))
 (hf:fs[i]? = some fd) (hz:(P.info? fd.type).map (·.size)=some s) (h0:Nat.beq s 0=false) (he:off+fd.offset=off'):Runs P f o w (.pointer (some ⟨b,off',none⟩)):=by
 have h0':s≠0:=fun e=>by rw[e]at h0; exact absurd h0 (by decide)
 obtain⟨z,hz1,hz2⟩:=Option.map_eq_some_iff.1 hz
 rw[<- hz2]at h0'
 unfold Runs execOp
 simp only[ho,hx]
 simp[Instr.fieldAt,underlying,hs,hf,Instr.sureAddr,fieldPlace,sizeOf,typeInfo,hz1,h0',addr_add,he]
theorem bF{T:TypeId}{x i:Operand}{b off off':Nat}{k:IntKind}{j:Int}{m s:Nat}{E:TypeId}(ho:o.op = .indexAddr T x i)(hx:ev f x = .pointer (some ⟨b,off,none⟩))(hi:ev f i = .int k j)
 (hu:P.underlying T=some (.array m E)) (hz:(P.info? E).map (·.size)=some s) (h0:0<=j) (h1:j<(m:Int)) (he:off+j.toNat*s=off'):Runs P f o w (.pointer (some ⟨b,off',none⟩)):=by
 obtain⟨z,hz1,hz2⟩:=Option.map_eq_some_iff.1 hz
 unfold Runs execOp
 simp only[ho,hx,hi]
 simp[Instr.indexAt,asIntOf,underlying,hu,Instr.sureAddr,h0,h1,sizeOf,typeInfo,hz1,hz2,addr_add,he]
theorem av{T:TypeId}{x i:Operand}{b off off' len cap:Nat}{k:IntKind}{j:Int}{s:Nat}{E:TypeId}(ho:o.op = .indexAddr T x i)(hx:ev f x = .slice (some ⟨b,off,none⟩) len cap)(hi:ev f i = .int k j)
 (hu:P.underlying T=some (.slice E)) (hz:(P.info? E).map (·.size)=some s) (h0:0<=j) (h1:j<(len:Int)) (he:off+j.toNat*s=off'):Runs P f o w (.pointer (some ⟨b,off',none⟩)):=by
 obtain⟨z,hz1,hz2⟩:=Option.map_eq_some_iff.1 hz
 unfold Runs execOp
 simp only[ho,hx,hi]
 simp[Instr.indexAt,asIntOf,underlying,hu,h0,h1,sizeOf,typeInfo,hz1,hz2,addr_add,he]
end
end Fx
end Go.Proofs.YtahbiajdgealnaaDoor
namespace Go.Proofs.YtahbiajdgealnaaDoor
open Go.RowKit
namespace Fx
def ay(n:Nat)(x:Nat->Value):Array Value:=Array.ofFn (fun i:Fin n=>x i)
theorem aV(n:Nat)(x:Nat->Value):(ay n x).size=n:=by unfold ay; simp
theorem dN{n:Nat}(x:Nat->Value){i:Nat}(h:i<n):(ay n x)[i]? = some (x i):=by unfold ay; simp[h]
theorem yU{n:Nat}(x:Nat->Value){i:Nat}(h:n<=i):(ay n x)[i]? = none:=by unfold ay; simp[h]
theorem mK{n:Nat}{x:Nat->Value}{a:Array Value}(hs:a.size=n)(h : ∀ i,i<n->a[i]? = some (x i)):a=ay n x:=by
 apply Array.ext_getElem?
 intro i
 by_cases hi:i<n
 ·rw[h i hi,dN x hi]
 rw[yU x (by omega),Array.getElem?_eq_none (by omega)]
theorem gy{n:Nat}{x y:Nat->Value}(h : ∀ i,i<n->x i=y i):ay n x=ay n y:=by
 unfold ay; congr 1; funext i; exact h i.1 i.2
def eB(x:Nat->Value)(i:Nat)(v:Value):Nat->Value:=fun j=>if j=i then v else x j
def aX(x:Nat->Value)(o m:Nat)(y:Nat->Value):Nat->Value:=fun j=>if o<=j/\j<o+m then y (j-o)else x j
theorem lY{x y:Nat->Value}{o m q j:Nat}{u:Value}(h:q=o+j)(hj:j<m)(e:y j=u):aX x o m y q=u:=by unfold aX; rw[if_pos ⟨by omega,by omega⟩,h,Nat.add_sub_cancel_left]; exact e
theorem rY{x y:Nat->Value}{o m q:Nat}{u:Value}(h:q<o\/o+m<=q)(e:x q=u):aX x o m y q=u:=by unfold aX; rw[if_neg (by omega)]; exact e
def rv(k:IntKind)(x:Nat->Int):Nat->Value:=fun i => .int k (x i)
theorem zY(k:IntKind)(x:Nat->Int)(i:Nat)(v:Int):eB (rv k x) i (.int k v)=rv k (upd x i v):=by
 funext j; unfold eB rv upd; split <;> rfl
def jT(w:World)(b off n:Nat)(x:Nat->Value):Prop := ∀ i,i<n->w.cell? ⟨b,off+i,none⟩=some (x i)
def aP(w:World)(g n:Nat)(x:Nat->Value)(T:TypeId):Prop:=w.heap[g]? = some (.cells (ay n x) T (0,0))
structure Stp(g:Nat)(w w':World):Prop where
 os:w'.os=w.os
 tape:w'.tape=w.tape
 output:w'.output=w.output
 size:w.heap.size<=w'.heap.size
 block : ∀ k,k<w.heap.size->k≠g->w'.heap[k]? = w.heap[k]?
theorem Stp.below{g B:Nat}{w0 w w':World}(s:Stp g w w')(h:Below B w0 w)(hB:B<=w.heap.size)(hg:B<=g):Below B w0 w' :=
 h.trans ⟨s.os,s.tape,s.output,s.size,fun k hk=>s.block k (by omega) (by omega)⟩
theorem Sb{w w':World}(h:Below w.heap.size w w'):Stp w.heap.size w w':=⟨h.os,h.tape,h.output,h.size,fun k hk _=>h.block k hk⟩
theorem Stp.old{w w':World}(s:Stp w.heap.size w w'):Below w.heap.size w w':=⟨s.os,s.tape,s.output,s.size,fun k hk=>s.block k hk (by omega)⟩
theorem Stp.drew{g:Nat}{w w':World}(s:Stp g w w'):Stp g w w'.drew:=⟨s.os,s.tape,s.output,s.size,s.block⟩
theorem Stp.refl(g:Nat)(w:World):Stp g w w:=⟨rfl,rfl,rfl,Nat.le_refl _,fun _ _ _=>rfl⟩
theorem Stp.alloc(w:World)(o:Obj):Stp w.heap.size w (w.alloc o):=Sb ((Below.refl _ _).alloc (Nat.le_refl _) o)
theorem aP.lt{w:World}{g n:Nat}{x:Nat->Value}{T:TypeId}(h:aP w g n x T):g<w.heap.size:=(Array.getElem?_eq_some_iff.1 h).1
theorem aP.aC{w w':World}{g b n:Nat}{x:Nat->Value}{T:TypeId}(h:aP w b n x T)(s:Stp g w w')(ne:b≠g):aP w' b n x T:=(s.block b h.lt ne).trans h
theorem aP.aL{w:World}{g n:Nat}{x:Nat->Value}{T:TypeId}(h:aP w g n x T):jT w g 0 n x:=fun i hi=>by
 rw[Nat.zero_add,cell_of_row w g i _ _ _ h]; exact dN x hi
theorem jT.lt{w:World}{b off n:Nat}{x:Nat->Value}(h:jT w b off n x)(hn:0<n):b<w.heap.size:=block_lt_of_cell (h 0 hn)
theorem jT.aC{w w':World}{g b off n:Nat}{x:Nat->Value}(h:jT w b off n x)(s:Stp g w w')(ne:b≠g):jT w' b off n x:=fun i hi=>by
 have hc:=h i hi
 have hlt:b<w.heap.size:=block_lt_of_cell hc
 rw[<- hc]
 exact World.cell?_of_block (w:=w) (s.block b hlt ne)
theorem jT.below{w w':World}{b off n B:Nat}{x:Nat->Value}(h:jT w b off n x)(s:Below B w w')(hb:b<B):jT w' b off n x:=fun i hi=>by
 rw[<- h i hi]; exact s.cell (p:=⟨b,off+i,none⟩) hb
theorem jT.sub{w:World}{b off n:Nat}{x:Nat->Value}(h:jT w b off n x)(o m:Nat)(hm:o+m<=n):jT w b (off+o) m (fun i=>x (o+i)):=fun i hi=>by
 have:=h (o+i) (by omega); rwa [<- Nat.add_assoc]at this
def yE(P:Program)(T:TypeId):Bool:=match P.underlying T with|some (.struct _)=>true|some (.array _ _)=>true|_=>false
def Gx(P:Program)(T:TypeId):Bool:=match P.underlying T with|some (.struct _)=>false|some (.array _ _)=>false|some _=>true|none=>false
theorem aP.to{w:World}{g n:Nat}{x y:Nat->Value}{T:TypeId}(h:aP w g n x T)(e:x=y):aP w g n y T:=e ▸ h
theorem je{w:World}{g:Nat}{x:Nat->Value}{v:Value}{T:TypeId}(h:aP w g 1 (eB x 0 v) T):aP w g 1 (fun _=>v) T:=by
 unfold aP at *
 rw[h,gy (y:=fun _=>v) fun i hi=>by simp[eB]; omega]
theorem dF{w:World}{g n:Nat}{x y:Nat->Value}{T:TypeId}(h:aP w g n (aX x 0 n y) T):aP w g n y T:=by
 unfold aP at *
 rw[h,gy (y:=y) fun i hi=>by simp[aX,hi]]
section
variable {P:Program} {n:Nat} {Q:Post} {f:Nat->Value} {w:World} {ops:Array Oper} {rest:List Oper} {o:Oper}
theorem ak{T:TypeId}{a:Operand}{b off m i p:Nat}{x:Nat->Value}{v:Value}(ho:o.op = .load T a)(ha:ev f a = .pointer (some ⟨b,p,none⟩))(hT:Gx P T=true)(hc:jT w b off m x)(hi:i<m)(he:p=off+i)(hv:x i=v):Runs P f o w v:=by
 subst he
 subst hv
 have h1:=hc i hi
 unfold Runs execOp
 simp only[ho,ha]
 unfold Gx at hT
 cases hu:P.underlying T with
 | none=>rw[hu]at hT; cases hT
 | some d =>
   rw[hu]at hT
   cases d <;> first
    | (cases hT; done)
    | simp[Instr.loadAt,Instr.sureAddr,loadVar,isAgg,underlying,hu,h1]
theorem aK{T:TypeId}{a:Operand}{b off m i p s:Nat}{x y:Nat->Value}(ho:o.op = .load T a)(ha:ev f a = .pointer (some ⟨b,p,none⟩))(hT:yE P T=true)(hz:(P.info? T).map (·.size)=some s)(hc:jT w b off m x)(hi:i+s<=m)(he:p=off+i)(hy : ∀ j,j<s->x (i+j)=y j) :
 Runs P f o w (.agg (ay s y)):=by
 subst he
 rw[<- gy hy]
 have hl:(ay s (fun j=>x (i+j))).toList.length=s:=by simp[aV]
 have hr:w.rangeAt b (off+i) (ay s (fun j=>x (i+j))).toList:=fun j v hv=>by
  have hj:j<s:=by have:=(List.getElem?_eq_some_iff.1 hv).1; simpa [aV] using this
  rw[Array.getElem?_toList,dN _ hj]at hv
  rw[<- Option.some.inj hv,Nat.add_assoc]
  exact hc (i+j) (by omega)
 unfold yE at hT
 cases hu:P.underlying T with
 | none=>rw[hu]at hT; cases hT
 | some d =>
   rw[hu]at hT
   have hd:d.isRow=true:=by cases d <;> first|(cases hT; done)|rfl
   have:=run_loadAt_mid (P:=P) w b (off+i) T (ay s (fun j=>x (i+j))).toList d hr hu hd (by rw[hl]; exact hz)
   unfold Runs execOp
   simp only[ho,ha,Sem.run_bind,this,Result.andThen_ok,Sem.run_pure,Array.toArray_toList]
theorem qQ{g:Nat}{old cs:Array Value}{T:TypeId}(hg:w.heap[g]? = some (.cells old T (0,0))):Stp g w (w.setRow g cs)/\(w.setRow g cs).heap[g]? = some (.cells cs T (0,0))/\(w.setRow g cs).heap.size=w.heap.size:=by
 refine⟨⟨rfl,rfl,rfl,by simp,fun k _ hne=>setRow_other _ _ _ _ (by omega)⟩,?_,by simp⟩
 rw[setRow_heap w g old cs T (0,0) hg]
theorem L.bV{T TB:TypeId}{a v:Operand}{g m i:Nat}{x:Nat->Value}{u:Value}(hw:Region.wanted o (yf ops f)=true)(hd:o.dst=none)(ho:o.op = .store T a v)(ha:ev f a = .pointer (some ⟨g,i,none⟩))(hv:ev f v=u)(h1:u.oneCell'=true)(hT:(P.info? T).map (·.size)=some 1)
 (hb:aP w g m x TB) (hi:i<m) (h : ∀ w',aP w' g m (eB x i u) TB->Stp g w w'->w'.heap.size=w.heap.size->L P n ops Q rest f w'):L P n ops Q (o::rest) f w:=by
 have hcell:w.cell? ⟨g,i,none⟩=some (x i):=by have:=hb.aL i hi; rwa [Nat.zero_add]at this
 have hfz:w.frozen? ⟨g,i,none⟩=false:=by
  unfold World.frozen?
  simp only[show w.heap[g]? = _ from hb]
  simp
 have hr:=run_storeVar_one (P:=P) w g i T u (x i) hT h1 hcell hfz
 have hrun:(execOp (ev f) o).run P w = .ok .skip (w.setCell ⟨g,i,none⟩ u):=by
  unfold execOp
  simp only[ho,ha,hv,Instr.storeAt,Instr.sureAddr,Sem.run_bind,Sem.run_pure,Result.andThen_ok,hr]
 refine L.unit hw hrun (by rw[hd]; rfl) ?_
 rw[hd]
 refine h _ ?_ ⟨rfl,rfl,rfl,by simp[World.setCell],fun k _ hne=>Below.heap_setCell _ _ _ _ (by simpa using hne)⟩ (by simp[World.setCell])
 show(w.setCell ⟨g,i,none⟩ u).heap[g]? = _
 have hg:w.heap[g]? = some (.cells (ay m x) TB (0,0)):=hb
 simp only[World.setCell,Array.getElem?_modify,if_true,hg,Option.map_some,Option.isSome_none]
 congr 2
 refine mK (by simp[aV]) fun j hj => ?_
 simp only[Bool.false_eq_true,if_false,Array.getElem?_setIfInBounds,eB]
 by_cases e:i=j
 ·subst e; simp[aV,hj]
 rw[if_neg e,dN x hj,if_neg (fun h=>e h.symm)]
theorem L.dY{T TB:TypeId}{a v:Operand}{g m i s:Nat}{x y:Nat->Value}(hw:Region.wanted o (yf ops f)=true)(hd:o.dst=none)(ho:o.op = .store T a v)(ha:ev f a = .pointer (some ⟨g,i,none⟩))(hv:ev f v = .agg (ay s y))(h1 : ∀ j,j<s->(y j).oneCell'=true)(hT:(P.info? T).map (·.size)=some s)
 (hb:aP w g m x TB) (hi:i+s<=m) (h : ∀ w',aP w' g m (aX x i s y) TB->Stp g w w'->w'.heap.size=w.heap.size->L P n ops Q rest f w'):L P n ops Q (o::rest) f w:=by
 have hg:w.heap[g]? = some (.cells (ay m x) TB (0,0)):=hb
 have hall : ∀ u∈(ay s y).toList,u.oneCell'=true:=fun u hu=>by
  obtain⟨j,hj,he⟩:=List.getElem_of_mem hu
  have hj':j<s:=by simpa [aV] using hj
  have:=dN y hj'
  rw[<- Array.getElem?_toList,List.getElem?_eq_getElem hj,he]at this
  rw[Option.some.inj this]; exact h1 j hj'
 have hr:=run_storeCells_at (P:=P) g i TB (ay s y).toList 0 (ay m x) w hg (by simp[aV]; omega) hall
 have hrun:(execOp (ev f) o).run P w = .ok .skip (w.setRow g ((ay m x).toList.take (i+0)++(ay s y).toList++(ay m x).toList.drop (i+0+(ay s y).toList.length)).toArray):=by
  unfold execOp
  cases hq:P.info? T with
  | none=>simp[hq]at hT
  | some z =>
    have hz:z.size=s:=by simp[hq]at hT; omega
    have hsz:(Value.agg (ay s y)).cells=ay s y:=rfl
    simp only[ho,ha,hv,Instr.storeAt,Instr.sureAddr,Sem.run_bind,Sem.run_pure,Result.andThen_ok,storeVar,sizeOf,typeInfo,run_program,hq,hsz,aV,hz,ne_eq,not_true_eq_false,if_false,hr]
 refine L.unit hw hrun (by rw[hd]; rfl) ?_
 rw[hd]
 obtain⟨s1,s2,s3⟩:=qQ (w:=w) (cs:=((ay m x).toList.take (i+0)++(ay s y).toList++(ay m x).toList.drop (i+0+(ay s y).toList.length)).toArray) hg
 refine h _ ?_ s1 s3
 show _=_
 rw[s2]
 congr 2
 refine mK (by simp[aV]; omega) fun j hj => ?_
 rw[List.getElem?_toArray,List.append_assoc]
 simp only[Nat.add_zero,aX]
 by_cases c1:j<i
 ·rw[List.getElem?_append_left (by simp[aV]; omega),if_neg (by omega),List.getElem?_take,if_pos c1,Array.getElem?_toList,dN x hj]
 rw[List.getElem?_append_right (by simp[aV]; omega)]
 have hl:(List.take i (ay m x).toList).length=i:=by simp[aV]; omega
 rw[hl]
 by_cases c2:j<i+s
 ·rw[List.getElem?_append_left (by simp[aV]; omega),if_pos ⟨by omega,c2⟩,Array.getElem?_toList,dN y (by omega)]
 rw[List.getElem?_append_right (by simp[aV]; omega),if_neg (by omega),List.getElem?_drop,Array.getElem?_toList]
 simp only[Array.length_toList,aV]
 rw[show i+s+(j-i-s)=j by omega,dN x hj]
theorem L.box{T:TypeId}{x:Operand}{v:Value}{m:Nat}{y:Nat->Value}(hw:Region.wanted o (yf ops f)=true)(ho:o.op = .box T x)(hx:ev f x=v)(hc:v.cells=ay m y)(hd:inn n o.dst=true)
 (h : ∀ g w',g=w.heap.size->aP w' g m y T->Stp w.heap.size w w'->w'.heap.size=w.heap.size+1->L P n ops Q rest (put f o.dst (.pointer (some ⟨g,0,none⟩))) w'):L P n ops Q (o::rest) f w:=by
 have hrun:(execOp (ev f) o).run P w = .ok (.value (.pointer (some ⟨w.heap.size,0,none⟩))) (w.alloc (.cells v.cells T)):=by
  unfold execOp
  simp[ho,hx,Instr.box,newVar,newRow]
 refine L.val hw hrun hd (h _ _ rfl ?_ (Stp.alloc _ _) (by simp))
 show(w.alloc _).heap[w.heap.size]? = _
 rw[alloc_at,if_pos rfl,hc]
theorem aN(m:Nat)(y:Nat->Value):(Value.agg (ay m y)).cells=ay m y:=rfl
theorem cells_one{v:Value}(h:v.oneCell'=true):v.cells=ay 1 (fun _=>v):=by
 cases v <;> first|rfl|(simp[Value.oneCell']at h)
theorem L.new{T:TypeId}{m:Nat}{y:Nat->Value}(hw:Region.wanted o (yf ops f)=true)(ho:o.op = .alloc T)(hz:((P.info? T).bind (·.zero)).map (·.cells)=some (ay m y))(hd:inn n o.dst=true)
 (h : ∀ g w',g=w.heap.size->aP w' g m y T->Stp w.heap.size w w'->w'.heap.size=w.heap.size+1->L P n ops Q rest (put f o.dst (.pointer (some ⟨g,0,none⟩))) w'):L P n ops Q (o::rest) f w:=by
 obtain⟨z,hz1,hz2⟩:=Option.map_eq_some_iff.1 hz
 obtain⟨i,hi,hz⟩:=Option.bind_eq_some_iff.1 hz1
 have hrun:(execOp (ev f) o).run P w = .ok (.value (.pointer (some ⟨w.heap.size,0,none⟩))) (w.alloc (.cells z.cells T)):=by
  unfold execOp
  simp[ho,Instr.alloc,zeroValue,typeInfo,hi,hz,newVar,newRow]
 refine L.val hw hrun hd (h _ _ rfl ?_ (Stp.alloc _ _) (by simp))
 show(w.alloc _).heap[w.heap.size]? = _
 rw[alloc_at,if_pos rfl,hz2]
theorem aG{place:Nat->Option (Nat × Nat)}{m i off s:Nat}{v:Value}{x y:Nat->Value}{rest:List (Nat × Value)}(hp:place i=some (off,s))(hv:v.cells=ay s y)(hle:Nat.ble (off+s) m=true) :
 Instr.fill place (ay m x) ((i,v)::rest)=Instr.fill place (ay m (aX x off s y)) rest:=by
 have hle':off+s<=m:=Nat.le_of_ble_eq_true hle
 have key : ∀(l:List Value) (k:Nat) (a:Array Value),(l.zipIdx k).foldl (fun cs (c,j)=>cs.setIfInBounds (off+j) c) a=Array.ofFn (fun q:Fin a.size=>if off+k<=q.1/\q.1<off+k+l.length then l.getD (q.1-off-k) undef else a[q.1]):=by
  intro l
  induction l with
  | nil=>intro k a; apply Array.ext <;> simp; intro i h1 h2; omega
  | cons c l ih =>
    intro k a
    rw[List.zipIdx_cons,List.foldl_cons,ih]
    apply Array.ext
    ·simp
    ·intro q h1 h2
     simp only[Array.size_ofFn,Array.size_setIfInBounds]at h1 h2
     simp only[Array.getElem_ofFn,List.length_cons]
     by_cases c1:off+(k+1)<=q/\q<off+(k+1)+l.length
     ·rw[if_pos c1,if_pos (by omega),show q-off-k=(q-off-(k+1))+1 by omega,List.getD_cons_succ]
     ·rw[if_neg c1,Array.getElem_setIfInBounds]
      by_cases c2:off+k=q
      ·rw[if_pos c2,if_pos (by omega),show q-off-k=0 by omega]; rfl
      ·rw[if_neg c2,if_neg (by omega)]
 conv=>lhs; unfold Instr.fill
 simp only[hp,hv,aV]
 rw[if_neg (by rw[show decide (s≠s)=false from decide_eq_false (fun h=>h rfl),Bool.false_or]; simpa using hle')]
 congr 1
 rw[<- Array.foldl_toList,Array.toList_zipIdx,key]
 refine mK (by simp[aV]) fun j hj => ?_
 have hj2:j<(ay m x).size:=by rw[aV]; exact hj
 rw[Array.getElem?_ofFn,dif_pos hj2]
 simp only[Array.length_toList,aV,aX,Nat.add_zero,Nat.sub_zero]
 by_cases c:off<=j/\j<off+s
 ·rw[if_pos c,if_pos c,List.getD_eq_getElem?_getD,Array.getElem?_toList,dN y (by omega)]; rfl
 rw[if_neg c,if_neg c]
 have:=dN x hj
 rw[Array.getElem?_eq_getElem hj2]at this
 exact this
theorem bX{T:TypeId}{parts:List (Nat × Operand)}{vs:List (Nat × Value)}{fs:Array Field}{places:Array (Nat × Nat)}{m:Nat}{x y:Nat->Value}(ho:o.op = .build T parts.toArray)(hp:parts.map (fun p=>(p.1,ev f p.2))=vs)(hs:P.underlying T=some (.struct fs))
 (hpl:fs.mapM (fun fd=>(P.info? fd.type).map fun i=>(fd.offset,i.size))=some places) (hz:((P.info? T).bind (·.zero)).map (·.cells)=some (ay m x)) (hf:Instr.fill (places[·]?) (ay m x) vs=some (ay m y)):Runs P f o w (.agg (ay m y)):=by
 obtain⟨z,hz1,hz2⟩:=Option.map_eq_some_iff.1 hz
 obtain⟨i,hi,hz⟩:=Option.bind_eq_some_iff.1 hz1
 have key : ∀(g:Field->Sem (Nat × Nat)) (hg : ∀ d x,(P.info? d.type).map (fun i=>(d.offset,i.size))=some x->(g d).run P w = .ok x w) (l:List Field) (r:List (Nat × Nat)),l.mapM (fun fd=>(P.info? fd.type).map fun i=>(fd.offset,i.size))=some r->(l.mapM g).run P w = .ok r w:=by
  intro g hg l
  induction l with
  | nil=>intro r h; simp at h; subst h; simp
  | cons d l ih =>
    intro r h
    rw[List.mapM_cons]at h
    cases h1:(P.info? d.type).map (fun i=>(d.offset,i.size))with
    | none=>rw[h1]at h; cases h
    | some i1 =>
      cases h2:l.mapM (fun fd=>(P.info? fd.type).map fun i=>(fd.offset,i.size))with
      | none=>rw[h1,h2]at h; cases h
      | some r2 =>
        rw[h1,h2]at h
        have h3:i1::r2=r:=by simpa using h
        subst h3
        rw[List.mapM_cons]
        simp only[Sem.run_bind,hg d i1 h1,Result.andThen_ok,ih r2 h2,Sem.run_pure]
 have hl:fs.toList.mapM (fun fd=>(P.info? fd.type).map fun i=>(fd.offset,i.size))=some places.toList:=by
  rw[Array.mapM_eq_mapM_toList]at hpl
  cases hq:fs.toList.mapM (fun fd=>(P.info? fd.type).map fun i=>(fd.offset,i.size))with
  | none=>rw[hq]at hpl; simp at hpl
  | some r=>rw[hq]at hpl; simp at hpl; rw[<- hpl]
 have hm : ∀(g:Field->Sem (Nat × Nat)),(∀ d x,(P.info? d.type).map (fun i=>(d.offset,i.size))=some x->(g d).run P w = .ok x w)->(fs.mapM g).run P w = .ok places w:=fun g hg=>by
  rw[Array.mapM_eq_mapM_toList]
  simp[key g hg _ _ hl]
 have hg : ∀(d:Field) (x:Nat × Nat),(P.info? d.type).map (fun i=>(d.offset,i.size))=some x->(do pure (d.offset,<- sizeOf d.type):Sem (Nat × Nat)).run P w = .ok x w:=fun d x h=>by
  cases h1:P.info? d.type with
  | none=>rw[h1]at h; cases h
  | some i1=>rw[h1]at h; simp at h; subst h; simp[sizeOf,typeInfo,h1]
 unfold Runs execOp
 simp only[ho,List.map_toArray,hp]
 unfold Instr.build
 simp only[zeroValue,typeInfo,underlying,Sem.run_bind,run_program,Result.andThen_ok,hi,hz,hs,Sem.run_pure,hm _ hg,hz2,hf]
theorem rC{g:FuncId}{fn:Func}{c:Code}{xs:List Operand}{args:List Value}{Ts:Array TypeId}(ho:o.op = .call { callee := .value (.func g),args:=xs.toArray,argTypes:=Ts })(hx:xs.map (ev f)=args)(hf:P.funcs[g]? = some fn)
 (hn : (fn.name == "runtime.NumGoroutine") = false) (hb : fn.body = some c) : (execOp (ev f) o).run P w = .ok (.enter g args.toArray) w := by
 unfold execOp
 simp only[ho]
 unfold resolve
 simp only[Sem.run_bind,List.map_toArray,hx,ev,Deferred.ofValue,Sem.run_pure,Result.andThen_ok]
 unfold invoke
 have e:(#[]++args.toArray ++ #[]:Array Value)=args.toArray:=by simp
 show(callFunc g (#[]++args.toArray ++ #[])).run P w=_
 rw[e]
 exact gP hf hn hb args.toArray w
theorem yV{g:FuncId}{fn:Func}{c:Code}{t:Operand}{xs:List Operand}{args:List Value}{Ts:Array TypeId}{first cap:Array Value}{all:Array Value}(ho:o.op = .call { callee := .value t,args:=xs.toArray,argTypes:=Ts })(ht:ev f t = .func (.func g) first cap)(hx:xs.map (ev f)=args)(hall:first++args.toArray++cap=all)
 (hf : P.funcs[g]? = some fn) (hn : (fn.name == "runtime.NumGoroutine") = false) (hb : fn.body = some c) : (execOp (ev f) o).run P w = .ok (.enter g all) w := by
 unfold execOp
 simp only[ho]
 unfold resolve
 simp only[Sem.run_bind,List.map_toArray,hx,ht,Deferred.ofValue,Sem.run_pure,Result.andThen_ok]
 unfold invoke
 simp only[hall]
 exact gP hf hn hb all w
theorem jf{fn:Fn}{xs ys:List Operand}{us vs:List Value}(ho:o.op = .makeFunc fn xs.toArray ys.toArray)(hx:xs.map (ev f)=us)(hy:ys.map (ev f)=vs):Runs P f o w (.func fn us.toArray vs.toArray):=by
 unfold Runs execOp
 simp[ho,Instr.makeFunc,hx,hy]
theorem Gy{T:TypeId}{x:Operand}{i m:Nat}{y:Nat->Value}{fs:Array Field}{fd:Field}(ho:o.op = .field T x i)(hx:ev f x = .agg (ay m y))(hs:P.underlying T=some (.struct fs))(hf:fs[i]? = some fd)(hT:Gx P fd.type=true)(hi:Nat.blt fd.offset m=true){v:Value}(hv:y fd.offset=v):Runs P f o w v:=by
 subst hv
 have hi':fd.offset<m:=by simpa [Nat.blt_eq] using hi
 unfold Runs execOp
 simp only[ho,hx]
 unfold Gx at hT
 cases hu:P.underlying fd.type with
 | none=>rw[hu]at hT; cases hT
 | some d =>
   rw[hu]at hT
   cases d <;> first
    | (cases hT; done)
    | simp[Instr.field,underlying,hs,hf,asAgg,part,isAgg,hu,dN y hi']
end
end Fx
end Go.Proofs.YtahbiajdgealnaaDoor
namespace Go.Proofs.YtahbiajdgealnaaDoor
open Go.RowKit
def jD:Option IntKind->Value->Option Lit
 | none,.bool b=>some (.bool b)
 | some q,.int q' n=>if q'=q/\(Lit.int q n).wf=true then some (.int q n)else none
 | _,_=>none
def Fit:List (Option IntKind)->List Value->List Lit->Prop
 | [],[],[]=>True
 | k::ks,c::cs,l::ls=>jD k c=some l/\Fit ks cs ls
 | _,_,_=>False
theorem Fit.lengths : ∀ {ks:List (Option IntKind)} {cs:List Value} {ls:List Lit},Fit ks cs ls->cs.length=ks.length/\ls.length=ks.length
 | [],[],[],_=>⟨rfl,rfl⟩
 | _::_,_::_,_::_,h=>by have:=Fit.lengths h.2; simp[this.1,this.2]
 | [],_::_,_,h=>h.elim
 | [],[],_::_,h=>h.elim
 | _::_,[],_,h=>h.elim
 | _::_,_::_,[],h=>h.elim
theorem Fit.split : ∀ {a b:List (Option IntKind)} {cs:List Value} {ls:List Lit},Fit (a++b) cs ls->Fit a (cs.take a.length) (ls.take a.length)/\Fit b (cs.drop a.length) (ls.drop a.length)
 | [],b,cs,ls,h=>by simpa using ⟨trivial,h⟩
 | k::a,b,c::cs,l::ls,h=>by
   have:=Fit.split (a:=a) h.2
   exact⟨⟨h.1,by simpa using this.1⟩,by simpa using this.2⟩
 | _::_,_,[],_,h=>h.elim
 | _::_,_,_::_,[],h=>h.elim
theorem Fit.one{k:Option IntKind}{cs:List Value}{ls:List Lit}(h:Fit [k] cs ls) : ∃ c l,cs = [c]/\ls = [l]/\jD k c=some l:=by
 have hl:=h.lengths
 match cs,ls,hl,h with
 | [c],[l],_,h=>exact⟨c,l,rfl,rfl,h.1⟩
def nC(cellsOf:TypeId->Nat)(rec:TypeId->Option (List (Option IntKind))):List Field->Nat->Option (List (Option IntKind))
 | [],_=>some []
 | f :: fs, o => if f.offset = o ∧ (f.name != "_") = true then
     match rec f.type with
     | some l=>if l.length=cellsOf f.type then(nC cellsOf rec fs (o+l.length)).map (l ++ ·)else none
     | none=>none
   else none
def flatK(P:Program):Nat->TypeId->Option (List (Option IntKind))
 | 0,_=>none
 | d+1,t =>
   match P.underlying t with
   | some .bool=>some [none]
   | some (.int q)=>some [some q]
   | some (.array n e)=>match flatK P d e with
     | some l=>if l.length=P.cellsOf e/\n*l.length=P.cellsOf t then some (List.replicate n l).flatten else none
     | none=>none
   | some (.struct fs)=>match nC P.cellsOf (flatK P d) fs.toList 0 with
     | some l=>if l.length=P.cellsOf t then some l else none
     | none=>none
   | _=>none
theorem DU{α:Type}(n:Nat)(f:Nat->Option α)(g:Nat->α)(h : ∀ i,i<n->f i=some (g i)):(List.range n).mapM f=some ((List.range n).map g):=by
 induction n with
 | zero=>rfl
 | succ n ih =>
   rw[List.range_succ,List.mapM_append,ih (fun i hi=>h i (by omega)),List.map_append]
   simp[h n (by omega)]
theorem chunks{α:Type}(c:Nat) : ∀(n:Nat) (ls:List α),ls.length=n*c->((List.range n).map fun i=>(ls.drop (i*c)).take c).flatten=ls
 | 0,ls,h=>by simp at h; subst h; rfl
 | n+1,ls,h=>by
   rw[List.range_succ_eq_map,List.map_cons,List.flatten_cons,List.map_map]
   have h2:(ls.drop c).length=n*c:=by rw[List.length_drop,h,Nat.add_mul]; omega
   have ih:=chunks c n (ls.drop c) h2
   have e:((fun i=>(ls.drop (i*c)).take c) ∘ Nat.succ)=fun i=>((ls.drop c).drop (i*c)).take c:=by
    funext i
    simp only[Function.comp,List.drop_drop]
    congr 2
    rw[Nat.succ_mul]; omega
   rw[e,ih]
   simp
theorem Fit.block{l:List (Option IntKind)} : ∀ {n:Nat} {cs:List Value} {ls:List Lit},Fit (List.replicate n l).flatten cs ls -> ∀ i,i<n->Fit l ((cs.drop (i*l.length)).take l.length) ((ls.drop (i*l.length)).take l.length)
 | 0,_,_,_,i,hi=>absurd hi (by omega)
 | n+1,cs,ls,h,i,hi=>by
   rw[List.replicate_succ,List.flatten_cons]at h
   have hs:=Fit.split h
   cases i with
   | zero=>simpa using hs.1
   | succ i =>
     have:=Fit.block hs.2 i (by omega)
     rw[List.drop_drop,List.drop_drop]at this
     rw[Nat.succ_mul,Nat.add_comm]
     exact this
theorem kR{α:Type}(n:Nat)(l:List α):(List.replicate n l).flatten.length=n*l.length:=by
 induction n with
 | zero=>simp
 | succ n ih=>rw[List.replicate_succ,List.flatten_cons,List.length_append,ih,Nat.succ_mul]; omega
theorem IQ{P:Program}{d:Nat}(IH : ∀ t ks cs ls,flatK P d t=some ks->Fit ks cs ls->P.keyLits d t cs=some ls)(cs:List Value)(ls:List Lit) :
 ∀(fs:List Field) (o:Nat) (ks:List (Option IntKind)),nC P.cellsOf (flatK P d) fs o=some ks->Fit ks (cs.drop o) (ls.drop o) ->
  (∀ f ∈ fs, (f.name != "_") = true) ∧ ∃ L : List (List Lit), fs.mapM (fun f => P.keyLits d f.type ((cs.drop f.offset).take (P.cellsOf f.type))) = some L ∧ L.flatten = ls.drop o
 | [],o,ks,h,hf=>by
   simp[nC]at h
   subst h
   have:=hf.lengths
   refine⟨by simp,[],rfl,?_⟩
   have h2:(ls.drop o).length=0:=this.2
   rw[List.length_eq_zero_iff.1 h2]; rfl
 | f::fs,o,ks,h,hf=>by
   unfold nC at h
   by_cases h1 : f.offset = o ∧ (f.name != "_") = true
   ·rw[if_pos h1]at h
    cases h2:flatK P d f.type with
    | none=>rw[h2]at h; cases h
    | some l =>
      rw[h2]at h
      simp only at h
      by_cases h3:l.length=P.cellsOf f.type
      ·rw[if_pos h3]at h
       cases h4:nC P.cellsOf (flatK P d) fs (o+l.length)with
       | none=>rw[h4]at h; cases h
       | some r =>
         rw[h4]at h
         simp only[Option.map_some,Option.some.injEq]at h
         subst h
         have hs:=Fit.split hf
         rw[List.drop_drop,List.drop_drop]at hs
         obtain⟨hn,L,hL,hfl⟩:=IQ IH cs ls fs (o+l.length) r h4 hs.2
         have hk:=IH f.type l _ _ h2 hs.1
         refine⟨?_,(ls.drop o).take l.length::L,?_,?_⟩
         ·intro g hg
          rcases List.mem_cons.1 hg with rfl|hg
          ·exact h1.2
          ·exact hn g hg
         ·rw[List.mapM_cons,h1.1,<- h3,hk,hL]; rfl
         ·rw[List.flatten_cons,hfl]
          conv=>rhs; rw[<- List.take_append_drop l.length (ls.drop o)]
          rw[List.drop_drop]
      ·rw[if_neg h3]at h; cases h
   ·rw[if_neg h1]at h; cases h
theorem jU{P:Program} : ∀(d:Nat) (t:TypeId) (ks:List (Option IntKind)) (cs:List Value) (ls:List Lit),flatK P d t=some ks->Fit ks cs ls->P.keyLits d t cs=some ls
 | 0,_,_,_,_,h,_=>by cases h
 | d+1,t,ks,cs,ls,h,hf=>by
   unfold flatK at h
   unfold Program.keyLits
   cases hu:P.underlying t with
   | none=>rw[hu]at h; cases h
   | some td =>
     rw[hu]at h
     cases td with
     | bool =>
       simp only[Option.some.injEq]at h
       subst h
       obtain⟨c,l,rfl,rfl,this⟩:=hf.one
       cases c <;> simp[jD]at this
       subst this
       rfl
     | int q =>
       simp only[Option.some.injEq]at h
       subst h
       obtain⟨c,l,rfl,rfl,this⟩:=hf.one
       cases c <;> simp[jD]at this
       rename_i q' n
       obtain⟨⟨rfl,hw⟩,rfl⟩:=this
       simp[hw]
     | array n e =>
       simp only at h
       cases h2:flatK P d e with
       | none=>rw[h2]at h; cases h
       | some l =>
         rw[h2]at h
         simp only at h
         by_cases h3:l.length=P.cellsOf e/\n*l.length=P.cellsOf t
         ·rw[if_pos h3]at h
          simp only[Option.some.injEq]at h
          subst h
          have hl:=hf.lengths
          rw[kR]at hl
          simp only
          rw[if_pos (by rw[hl.1,h3.2]),<- h3.1,DU n _ (fun i=>(ls.drop (i*l.length)).take l.length) (fun i hi=>jU d e l _ _ h2 (hf.block i hi))]
          rw[Option.map_some,chunks l.length n ls hl.2]
         ·rw[if_neg h3]at h; cases h
     | struct fs =>
       simp only at h
       cases h2:nC P.cellsOf (flatK P d) fs.toList 0 with
       | none=>rw[h2]at h; cases h
       | some l =>
         rw[h2]at h
         simp only at h
         by_cases h3:l.length=P.cellsOf t
         ·rw[if_pos h3]at h
          simp only[Option.some.injEq]at h
          subst h
          obtain⟨hn,L,hL,hfl⟩:=IQ (fun t ks cs ls h hf=>jU d t ks cs ls h hf) cs ls fs.toList 0 l h2 (by simpa using hf)
          have hl:=hf.lengths
          simp only
          have hall : (fs.all fun f => f.name != "_") = true := by
           rw[Array.all_eq_true_iff_forall_mem]
           intro f hf'
           exact hn f (by simpa using hf')
          rw[if_pos ⟨by rw[hl.1,h3],hall⟩,hL,Option.map_some,hfl]
          rfl
         ·rw[if_neg h3]at h; cases h
     | _=>cases h
theorem jH{P:Program}(w:World)(m d:Nat)(t:TypeId)(ks:List (Option IntKind))(xs ys:Array Value)(la lb:List Lit)(hkt:P.keyTypeAt m t=true)(hk:flatK P m t=some ks)
 (hwide:(match P.underlying t with|some (.array _ _)|some (.struct _)=>true|_=>false)=true) (ha:Fit ks xs.toList la) (hb:Fit ks ys.toList lb) (r:Bool) (hr:r=true<->la=lb) :
 (Op.equalIn (d+m) t (.agg xs) (.agg ys)).run P w = .ok r w:=by
 have hlen:ks.length=P.cellsOf t:=by
  cases m with
  | zero=>cases hk
  | succ m =>
    unfold flatK at hk
    cases hu:P.underlying t with
    | none=>rw[hu]at hk; cases hk
    | some td =>
      rw[hu]at hk hwide
      cases td with
      | array n e =>
        simp only at hk
        cases h2:flatK P m e with
        | none=>rw[h2]at hk; cases hk
        | some l =>
          rw[h2]at hk
          simp only at hk
          split at hk
          ·rename_i h3
           simp only[Option.some.injEq]at hk
           rw[<- hk,kR,h3.2]
          ·cases hk
      | struct fs =>
        simp only at hk
        cases h2:nC P.cellsOf (flatK P m) fs.toList 0 with
        | none=>rw[h2]at hk; cases hk
        | some l =>
          rw[h2]at hk
          simp only at hk
          split at hk
          ·rename_i h3
           simp only[Option.some.injEq]at hk
           rw[<- hk,h3]
          ·cases hk
      | _=>cases hwide
 have hf : ∀(zs:Array Value) (l:List Lit),Fit ks zs.toList l->Value.formed P t (.agg zs)=true:=by
  intro zs l h
  have hs:zs.size=P.cellsOf t:=by have:=h.lengths.1; rw[Array.length_toList]at this; omega
  unfold Value.formed
  cases hu:P.underlying t with
  | none=>rw[hu]at hwide; cases hwide
  | some td=>rw[hu]at hwide; cases td <;> first|(cases hwide; done)|simp[hs]
 obtain⟨q,hq,hiff⟩:=run_equalIn_deep d m t hkt w m m (.agg xs) (.agg ys) la lb (hf xs la ha) (hf ys lb hb) (jU m t ks _ _ hk (by simpa [Value.cells] using ha)) (jU m t ks _ _ hk (by simpa [Value.cells] using hb))
 rw[hq]
 congr 1
 rw[Bool.eq_iff_iff,hiff,hr]
theorem zZ{P:Program}(w:World)(m:Nat)(hm:m<=10000)(t:TypeId)(ks:List (Option IntKind))(xs ys:Array Value)(la lb:List Lit)(hkt:P.keyTypeAt m t=true)(hk:flatK P m t=some ks)
 (hwide:(match P.underlying t with|some (.array _ _)|some (.struct _)=>true|_=>false)=true) (ha:Fit ks xs.toList la) (hb:Fit ks ys.toList lb) (r:Bool) (hr:r=true<->la=lb) :
 (binOp .eql t (.agg xs) (.agg ys)).run P w = .ok (.bool r) w:=by
 rw[run_eql_struct,show 10000=(10000-m)+m by omega,jH w m (10000-m) t ks xs ys la lb hkt hk hwide ha hb r hr]; rfl
theorem Aa{P:Program}(w:World)(m:Nat)(hm:m<=10000)(t:TypeId)(ks:List (Option IntKind))(xs ys:Array Value)(la lb:List Lit)(hkt:P.keyTypeAt m t=true)(hk:flatK P m t=some ks)
 (hwide:(match P.underlying t with|some (.array _ _)|some (.struct _)=>true|_=>false)=true) (ha:Fit ks xs.toList la) (hb:Fit ks ys.toList lb) (r:Bool) (hr:r=true<->la=lb) :
 (binOp .neq t (.agg xs) (.agg ys)).run P w = .ok (.bool (!r)) w:=by
 rw[run_neq_struct,show 10000=(10000-m)+m by omega,jH w m (10000-m) t ks xs ys la lb hkt hk hwide ha hb r hr]; rfl
end Go.Proofs.YtahbiajdgealnaaDoor
namespace Go.Proofs.YtahbiajdgealnaaDoor
open Go.RowKit
namespace Fx
def Kd(ks:List (Option IntKind))(x:Nat->Value):Prop := ∀ i,(h:i<ks.length) -> ∃ l,jD ks[i] (x i)=some l
theorem wR{k:IntKind}{n:Nat}{x:Nat->Int}(h : ∀ i,i<n->(Lit.int k (x i)).wf=true):Kd (List.replicate n (some k)) (rv k x):=fun i hi=>by
 have hi':i<n:=by simpa using hi
 refine⟨.int k (x i),?_⟩
 rw[List.getElem_replicate]
 simp[jD,rv,h i hi']
theorem IU{a:Int}(h : -9223372036854775808<=a/\a<=9223372036854775807):(Lit.int .i64 a).wf=true:=by simp[Lit.wf,IntKind.min,IntKind.max,IntKind.bits,IntKind.signed]; omega
theorem kD{a:Int}(h:0<=a/\a<=18446744073709551615):(Lit.int .u64 a).wf=true:=by simp[Lit.wf,IntKind.min,IntKind.max,IntKind.bits,IntKind.signed]; omega
theorem WQ{a:Int}(h:0<=a/\a<=255):(Lit.int .u8 a).wf=true:=by simp[Lit.wf,IntKind.min,IntKind.max,IntKind.bits,IntKind.signed]; omega
theorem Gz{k:Option IntKind}{u v:Value}{l:Lit}(h:jD k u=some l)(h':jD k v=some l):u=v:=by
 cases k with
 | none =>
   cases u <;> cases v <;> simp_all [jD]
   rw[<- h]at h'; injection h' with h'; exact h'.symm
 | some q =>
   cases u <;> cases v <;> simp_all [jD]
   have e:=h.2.trans h'.2.symm; injection e
theorem Kd.fit{x:Nat->Value} : ∀(ks:List (Option IntKind)) (o:Nat),(∀ i,(h:i<ks.length) -> ∃ l,jD ks[i] (x (o+i))=some l) -> ∃ ls,Fit ks ((List.range ks.length).map fun i=>x (o+i)) ls
 | [],_,_=>⟨[],trivial⟩
 | k::ks,o,h=>by
   obtain⟨l,hl⟩:=h 0 (by simp)
   obtain⟨ls,hls⟩:=Kd.fit ks (o+1) (fun i hi=>by
    have:=h (i+1) (by simpa using hi)
    simpa [Nat.add_assoc,Nat.add_comm 1 i] using this)
   refine⟨l::ls,?_⟩
   rw[List.length_cons,List.range_succ_eq_map,List.map_cons,List.map_map]
   refine⟨by simpa using hl,?_⟩
   have e:(fun i=>x (o+i)) ∘ Nat.succ=fun i=>x (o+1+i):=by funext i; simp[Nat.add_assoc,Nat.add_comm 1 i]
   rw[e]
   exact hls
theorem yX(n:Nat)(x:Nat->Value):(ay n x).toList=(List.range n).map x:=by
 apply List.ext_getElem?
 intro i
 by_cases hi:i<n
 ·rw[Array.getElem?_toList,dN x hi]; simp[hi]
 rw[Array.getElem?_toList,yU x (by omega)]; simp[hi]
theorem Fit.inj : ∀ {ks:List (Option IntKind)} {a b:List Value} {l:List Lit},Fit ks a l->Fit ks b l->a=b
 | [],[],[],[],_,_=>rfl
 | _::_,_::_,_::_,_::_,h,h'=>by rw[Gz h.1 h'.1,Fit.inj h.2 h'.2]
 | [],[],_::_,_,_,h'=>h'.elim
 | [],_::_,_,_,h,_=>h.elim
 | _::_,[],_,_,h,_=>h.elim
 | _::_,_::_,[],_,_,h'=>h'.elim
 | _::_,_::_,_::_,[],h,_=>h.elim
 | [],[],[],_::_,h,_=>h.elim
theorem Fit.same : ∀ {ks:List (Option IntKind)} {a:List Value} {l l':List Lit},Fit ks a l->Fit ks a l'->l=l'
 | [],[],[],[],_,_=>rfl
 | _::_,_::_,_::_,_::_,h,h'=>by
   have:=h.1.symm.trans h'.1
   rw[Option.some.inj this,Fit.same h.2 h'.2]
 | [],[],[],_::_,_,h'=>h'.elim
 | [],[],_::_,_,h,_=>h.elim
 | [],_::_,_,_,h,_=>h.elim
 | _::_,[],_,_,h,_=>h.elim
 | _::_,_::_,_::_,[],_,h'=>h'.elim
 | _::_,_::_,[],_,h,_=>h.elim
section
variable {P:Program} {n:Nat} {Q:Post} {f:Nat->Value} {w:World} {o:Oper}
theorem E9(w:World)(m:Nat)(hm:m<=10000){T:TypeId}{ks:List (Option IntKind)}{x y:Nat->Value}(hkt:P.keyTypeAt m T=true)(hk:flatK P m T=some ks)(hn:ks.length=n)(hwide:yE P T=true)(kx:Kd ks x)(ky:Kd ks y)(b:Bool)(hb:b=true <-> ∀ i,i<n->x i=y i) :
 (binOp .eql T (.agg (ay n x)) (.agg (ay n y))).run P w = .ok (.bool b) w/\(binOp .neq T (.agg (ay n x)) (.agg (ay n y))).run P w = .ok (.bool (!b)) w:=by
 obtain⟨la,ha⟩:=Kd.fit (x:=x) ks 0 (fun i h=>by rw[Nat.zero_add]; exact kx i h)
 obtain⟨lb,hb'⟩:=Kd.fit (x:=y) ks 0 (fun i h=>by rw[Nat.zero_add]; exact ky i h)
 simp only[Nat.zero_add,hn]at ha hb'
 have hw':(match P.underlying T with|some (.array _ _)|some (.struct _)=>true|_=>false)=true:=by
  unfold yE at hwide
  cases hu:P.underlying T with
  | none=>rw[hu]at hwide; cases hwide
  | some d=>rw[hu]at hwide; cases d <;> first|rfl|(cases hwide)
 have hr:b=true<->la=lb:=by
  rw[hb]
  constructor
  ·intro h
   have e:(List.range n).map x=(List.range n).map y:=List.map_congr_left fun i hi=>h i (by simpa using hi)
   have ha2:=ha
   rw[show(fun i=>x i)=x from rfl,e]at ha2
   exact Fit.same ha2 hb'
  ·intro h
   subst h
   have e:=Fit.inj ha hb'
   intro i hi
   have h1:=congrArg (fun l=>l[i]?) e
   simpa [hi] using h1
 rw[<- yX]at ha hb'
 exact⟨zZ w m hm T ks _ _ la lb hkt hk hw' ha hb' b hr,Aa w m hm T ks _ _ la lb hkt hk hw' ha hb' b hr⟩
theorem IV{op:BinOp}{T T':TypeId}{x y:Operand}{u v r:Value}{a b:Array Value}(ho:o.op = .binOp op T x y T')(hx:ev f x=u)(hy:ev f y=v)(hu:u = .agg a)(hv:v = .agg b)(hg:P.eqGuardType P.depth T=false)(h:(binOp op T u v).run P w = .ok r w):Runs P f o w r:=by
 subst hu hv
 unfold Runs execOp
 simp only[ho,hx,hy]
 simp only[Sem.run_bind,run_eqGuard_agg w op T x y a b hg,Result.andThen_ok,h,Sem.run_pure]
theorem wS{T T':TypeId}{x y:Operand}{ks:List (Option IntKind)}{X Y:Nat->Value}(m:Nat)(b:Bool)(ho:o.op = .binOp .eql T x y T')(hx:ev f x = .agg (ay n X))(hy:ev f y = .agg (ay n Y))(hb:b=true <-> ∀ i,i<n->X i=Y i)(kx:Kd ks X)(ky:Kd ks Y)
 (hm:Nat.ble m 10000=true) (hkt:P.keyTypeAt m T=true) (hk:flatK P m T=some ks) (hn:ks.length=n) (hwide:yE P T=true) (hg:P.eqGuardType P.depth T=false):Runs P f o w (.bool b) :=
 IV ho hx hy rfl rfl hg (E9 w m (Nat.le_of_ble_eq_true hm) hkt hk hn hwide kx ky b hb).1
theorem wT{T T':TypeId}{x y:Operand}{ks:List (Option IntKind)}{X Y:Nat->Value}(m:Nat)(b:Bool)(ho:o.op = .binOp .neq T x y T')(hx:ev f x = .agg (ay n X))(hy:ev f y = .agg (ay n Y))(hb:b=true <-> ∀ i,i<n->X i=Y i)(kx:Kd ks X)(ky:Kd ks Y)
 (hm:Nat.ble m 10000=true) (hkt:P.keyTypeAt m T=true) (hk:flatK P m T=some ks) (hn:ks.length=n) (hwide:yE P T=true) (hg:P.eqGuardType P.depth T=false):Runs P f o w (.bool (!b)) :=
 IV ho hx hy rfl rfl hg (E9 w m (Nat.le_of_ble_eq_true hm) hkt hk hn hwide kx ky b hb).2
theorem Bp{p:Prop}(h:p):true=true<->p:=Iff.intro (fun _=>h) (fun _=>rfl)
theorem nob{p:Prop}(h : ¬ p):false=true<->p:=Iff.intro (fun e=>absurd e (by decide)) (fun q=>absurd q h)
theorem iE{T:TypeId}{g off:Nat}{x:Nat->Value}(hc:jT w g off n x)(hT:yE P T=true)(hz:(P.info? T).map (·.size)=some n):(loadVar T ⟨g,off,none⟩).run P w = .ok (.agg (ay n x)) w:=by
 have hl:(ay n x).toList.length=n:=by simp[aV]
 have hr:w.rangeAt g off (ay n x).toList:=fun j v hv=>by
  have hj:j<n:=by have:=(List.getElem?_eq_some_iff.1 hv).1; simpa [aV] using this
  rw[Array.getElem?_toList,dN _ hj]at hv
  rw[<- Option.some.inj hv]
  exact hc j hj
 unfold yE at hT
 cases hu:P.underlying T with
 | none=>rw[hu]at hT; cases hT
 | some d =>
   rw[hu]at hT
   have hd:d.isRow=true:=by cases d <;> first|(cases hT; done)|rfl
   have:=run_loadVar_mid (P:=P) w g off T (ay n x).toList d hr hu hd (by rw[hl]; exact hz)
   rw[this,Array.toArray_toList]
theorem GA{T:TypeId}{g off i p m:Nat}{x:Nat->Value}{v:Value}(hc:jT w g off m x)(hT:Gx P T=true)(hi:i<m)(he:p=off+i)(hv:x i=v):(loadVar T ⟨g,p,none⟩).run P w = .ok v w:=by
 subst he hv
 have h1:=hc i hi
 unfold Gx at hT
 cases hu:P.underlying T with
 | none=>rw[hu]at hT; cases hT
 | some d =>
   rw[hu]at hT
   cases d <;> first
    | (cases hT; done)
    | simp[loadVar,isAgg,underlying,hu,h1]
def DV(P:Program)(f:Nat->Value)(w:World)(r:ResultVar)(v:Value):Prop:=match r with
 | .tmp t=>f t=v
 | .cell a T => ∃ ad,f a = .pointer (some ad)/\(loadVar T ad).run P w = .ok v w
theorem DV.run{r:ResultVar}{v:Value}(h:DV P f w r v):(TJ f r).run P w = .ok v w:=by
 cases r with
 | tmp t=>simp only[DV]at h; simp[TJ,h]
 | cell a T=>obtain⟨ad,h1,h2⟩:=h; simp[TJ,h1,asAddr,h2]
theorem rV{fn:Func}{r:ResultVar}{v:Value}(hr:fn.results = #[r])(h:DV P f w r v):(uf fn f).run P w = .ok v w:=by
 have:=h.run
 unfold uf
 rw[hr]
 simp only[List.mapM_toArray,List.mapM_cons,List.mapM_nil]
 simp[this]
theorem cB{fn:Func}{r s:ResultVar}{u v:Value}(hr:fn.results = #[r,s])(h:DV P f w r u)(h':DV P f w s v):(uf fn f).run P w = .ok (.tuple #[u,v]) w:=by
 have:=h.run
 have:=h'.run
 unfold uf
 rw[hr]
 simp only[List.mapM_toArray,List.mapM_cons,List.mapM_nil]
 simp[*]
end
end Fx
end Go.Proofs.YtahbiajdgealnaaDoor
namespace Go.Proofs.YtahbiajdgealnaaDoor
open Go.RowKit
def Bf(ops:Array Oper)(md:Region.Mode)(l:Array Bool):Prop := ∀ j o,ops[j]? = some o->l.getD j false=true -> ∀ e∈o.after,Region.binds md e=true->l.getD e.on false=true
def reach(ops:Array Oper)(md:Region.Mode):Nat->Nat->Nat->Bool
 | 0,t,i=>t==i
 | n+1,t,i=>t==i || (match ops[t]? with|some o=>o.after.any (fun e=>Region.binds md e&&reach ops md n e.on i)|none=>false)
theorem iF(l:Array Bool)(i j:Nat):(l.setIfInBounds i true).getD j false=(if i=j/\j<l.size then true else l.getD j false):=by
 simp only[Array.getD_eq_getD_getElem?,Array.getElem?_setIfInBounds]
 by_cases h:i=j
 ·subst h
  by_cases h2:i<l.size
  ·simp[h2]
  simp[h2,Array.getElem?_eq_none (Nat.le_of_not_lt h2)]
 simp[h]
theorem Bf.set{ops:Array Oper}{md:Region.Mode}{l:Array Bool}(h:Bf ops md l){i:Nat}(hi:i∈Region.ready md ops l):Bf ops md (l.setIfInBounds i true):=by
 obtain⟨_,o',ho',hall⟩:=mem_ready.1 hi
 intro j o ho hj e he hb
 rw[iF]
 split
 ·rfl
 rw[iF]at hj
 split at hj
 ·rename_i hij
  obtain⟨rfl,_⟩:=hij
  rw[ho']at ho
  obtain rfl:=Option.some.inj ho
  exact hall e he hb
 exact h j o ho hj e he hb
theorem Bf.start(ops:Array Oper)(md:Region.Mode)(n:Nat):Bf ops md (Array.replicate n false):=by
 intro j o _ hj
 rw[Array.getD_eq_getD_getElem?]at hj
 by_cases h:j<n
 ·simp[h]at hj
 simp[h]at hj
theorem Bf.reach{ops:Array Oper}{md:Region.Mode}{l:Array Bool}{i:Nat}(h:Bf ops md l) : ∀ n t,reach ops md n t i=true->l.getD t false=true->l.getD i false=true
 | 0,t,hr,ht=>by
   have e:t=i:=by unfold YtahbiajdgealnaaDoor.reach at hr; simpa using hr
   rw[<- e]; exact ht
 | n+1,t,hr,ht=>by
   unfold YtahbiajdgealnaaDoor.reach at hr
   rw[Bool.or_eq_true]at hr
   rcases hr with hr|hr
   ·have e:t=i:=by simpa using hr
    rw[<- e]; exact ht
   ·cases ho:ops[t]? with
    | none=>simp[ho]at hr
    | some o =>
      simp only[ho]at hr
      rw[Array.any_eq_true']at hr
      obtain⟨e,he,h2⟩:=hr
      rw[Bool.and_eq_true]at h2
      exact Bf.reach h n e.on h2.2 (h t o ho ht e he h2.1)
theorem IW{w w':World}{g:Nat}{c:Obj}(h:w.heap[g]? = some c)(hb:Below w.heap.size w w'):w'.heap[g]? = some c :=
 (hb.block g (Array.getElem?_eq_some_iff.1 h).1).trans h
end Go.Proofs.YtahbiajdgealnaaDoor
namespace Go.Proofs.YtahbiajdgealnaaDoor
open Go.RowKit
namespace Fx
abbrev Gh:=Nat->Nat × Nat
def kJ(r:Gh)(k:Nat)(p:Nat × Nat):Gh:=fun j=>bif Nat.beq j k then p else r j
theorem jI(r:Gh)(k:Nat)(p:Nat × Nat):kJ r k p k=p:=by unfold kJ; rw[Nat.beq_refl]; rfl
theorem Ab{r:Gh}{k j:Nat}{p:Nat × Nat}(h:j<k):kJ r k p j=r j:=by
 unfold kJ
 have:Nat.beq j k=false:=by
  cases hq:Nat.beq j k
  ·rfl
  ·exact absurd (Nat.eq_of_beq_eq_true hq) (by omega)
 rw[this]; rfl
def opAt(ops:List Oper)(i:Nat):Oper:=ops.getD i default
def OA(s:Nat):Option Nat->Bool|none=>false|some d=>Nat.beq d s
def nD(s:Nat):List Oper->Nat->Option Nat
 | [],_=>none
 | o::l,i=>bif OA s o.dst then some i else nD s l (i+1)
def writer(ops:List Oper)(s:Nat):Option Nat:=nD s ops 0
def over(ops:List Oper)(f:Nat->Value)(v:Nat->Value)(listed:Array Bool):Nat->Value:=fun s=>match writer ops s with|some i=>(if listed.getD i false then v i else f s)|none=>f s
def full(ops:List Oper)(f:Nat->Value)(v:Nat->Value):Nat->Value:=fun s=>match writer ops s with|some i=>v i|none=>f s
def bM(o:Oper)(j:Nat):Bool:=o.after.any fun e=>Region.binds .any e&&Nat.beq e.on j
def iL(n:Nat)(ops:List Oper):Bool :=
 (List.range ops.length).all fun i =>
  let o:=opAt ops i
  (match o.dst with|none=>true|some d=>(match writer ops d with|some j=>Nat.beq j i|none=>false)&&Nat.blt d n) &&
  (o.op.operands.all fun x=>match x with | .tmp t=>(match writer ops t with|some j=>bM o j|none=>true)|_=>true) &&
  (match o.guard with|none=>true|some (j,_)=>bM o j)&&(o.after.all fun e => !Region.binds .any e || Nat.blt e.on i)
theorem oh{s:Nat} : ∀ {l:List Oper} {k i:Nat},nD s l k=some i->k<=i/\(opAt l (i-k)).dst=some s/\i-k<l.length
 | [],_,_,h=>by cases h
 | o::l,k,i,h=>by
   unfold nD at h
   cases hd:OA s o.dst
   ·rw[hd]at h
    have:=oh (l:=l) (k:=k+1) (i:=i) h
    refine⟨by omega,?_,by simp; omega⟩
    have e:i-k=(i-(k+1))+1:=by omega
    rw[e]
    exact this.2.1
   ·rw[hd]at h
    have:k=i:=by simpa using h
    subst this
    refine⟨Nat.le_refl _,?_,by simp⟩
    simp only[Nat.sub_self,opAt,List.getD_cons_zero]
    cases hq:o.dst with
    | none=>rw[hq]at hd; cases hd
    | some d=>rw[hq]at hd; rw[Nat.eq_of_beq_eq_true hd]
theorem iY{ops:List Oper}{s i:Nat}(h:writer ops s=some i):(opAt ops i).dst=some s/\i<ops.length:=by
 have:=oh h; simpa using this.2
section
variable {ops:List Oper} {f:Nat->Value} {n:Nat}
theorem dJ(h:iL n ops=true){i:Nat}(hi:i<ops.length) :
 (∀ d,(opAt ops i).dst=some d->writer ops d=some i/\d<n)/\(∀ t j,.tmp t∈(opAt ops i).op.operands->writer ops t=some j->bM (opAt ops i) j=true)/\(∀ j b,(opAt ops i).guard=some (j,b)->bM (opAt ops i) j=true)/\(∀ j,bM (opAt ops i) j=true->j<i):=by
 unfold iL at h
 rw[List.all_eq_true]at h
 have:=h i (by simpa using hi)
 simp only[Bool.and_eq_true]at this
 obtain⟨⟨⟨h1,h2⟩,h3⟩,h4⟩:=this
 refine⟨fun d hd => ?_,fun t j ht hj => ?_,fun j b hg => ?_,fun j hj => ?_⟩
 ·rw[hd]at h1
  simp only[Bool.and_eq_true]at h1
  cases hw:writer ops d with
  | none=>rw[hw]at h1; simp at h1
  | some j=>rw[hw]at h1; simp only at h1; rw[Nat.eq_of_beq_eq_true h1.1]; exact⟨rfl,by simpa [Nat.blt_eq] using h1.2⟩
 ·rw[Array.all_eq_true']at h2
  have:=h2 _ ht
  simp only[hj]at this
  exact this
 ·rw[hg]at h3; exact h3
 unfold bM at hj
 rw[Array.any_eq_true']at hj
 obtain⟨e,he,h5⟩:=hj
 rw[Bool.and_eq_true]at h5
 rw[Array.all_eq_true']at h4
 have:=h4 e he
 rw[h5.1]at this
 rw[<- Nat.eq_of_beq_eq_true h5.2]
 simpa [Nat.blt_eq] using this
theorem set_self{listed:Array Bool}{i:Nat}(h:i<listed.size):(listed.setIfInBounds i true).getD i false=true:=by rw[iF,if_pos ⟨rfl,h⟩]
theorem gQ{listed:Array Bool}{i j:Nat}(h:i≠j):(listed.setIfInBounds i true).getD j false=listed.getD j false:=by rw[iF,if_neg (fun q=>h q.1)]
theorem rZ(h:iL n ops=true){v:Nat->Value}{listed:Array Bool}(hs:listed.size=ops.length){i:Nat}(hi:i<ops.length):put (over ops f v listed) (opAt ops i).dst (v i)=over ops f v (listed.setIfInBounds i true):=by
 have hsp:=(dJ h hi).1
 funext s
 unfold over
 cases hd:(opAt ops i).dst with
 | none =>
   simp only[put]
   cases hw:writer ops s with
   | none=>rfl
   | some j =>
     simp only
     by_cases e:i=j
     ·subst e; rw[(iY hw).1]at hd; cases hd
     ·rw[gQ e]
 | some d =>
   simp only[put]
   by_cases e:s=d
   ·subst e
    rw[Nat.beq_refl,(hsp s hd).1]
    simp only[cond_true]
    rw[set_self (by omega),if_pos rfl]
   ·have hb:Nat.beq s d=false:=by
     cases hq:Nat.beq s d
     ·rfl
     ·exact absurd (Nat.eq_of_beq_eq_true hq) e
    rw[hb]
    simp only[cond_false]
    cases hw:writer ops s with
    | none=>rfl
    | some j =>
      simp only
      by_cases e2:i=j
      ·subst e2; rw[(iY hw).1]at hd; exact absurd (Option.some.inj hd) e
      ·rw[gQ e2]
theorem dO{i:Nat}{listed:Array Bool}(hr:i∈Region.ready .any ops.toArray listed):listed.getD i false=false/\i<ops.length/\ops.toArray[i]? = some (opAt ops i) /\ ∀ j,bM (opAt ops i) j=true->listed.getD j false=true:=by
 obtain⟨h1,o,ho,hall⟩:=mem_ready.1 hr
 have hi:i<ops.length:=by
  have:=(Array.getElem?_eq_some_iff.1 ho).1; simpa using this
 have he:opAt ops i=o:=by
  unfold opAt
  rw[List.getElem?_toArray]at ho
  rw[List.getD_eq_getElem?_getD,ho]; rfl
 refine⟨getD_both h1,hi,by rw[he]; exact ho,fun j hj => ?_⟩
 rw[he]at hj
 unfold bM at hj
 rw[Array.any_eq_true']at hj
 obtain⟨e,hem,h2⟩:=hj
 rw[Bool.and_eq_true]at h2
 rw[<- Nat.eq_of_beq_eq_true h2.2]
 exact hall e hem h2.1
theorem Fa(h:iL n ops=true){v:Nat->Value}{listed:Array Bool}{i:Nat}(hr:i∈Region.ready .any ops.toArray listed) : ∀ x∈(opAt ops i).op.operands,ev (over ops f v listed) x=ev (full ops f v) x:=by
 obtain⟨_,hi,_,hall⟩:=dO hr
 intro x hx
 cases x with
 | tmp t =>
   show over ops f v listed t=full ops f v t
   unfold over full
   cases hw:writer ops t with
   | none=>rfl
   | some j=>simp only; rw[if_pos (hall j ((dJ h hi).2.1 t j hx hw))]
 | _=>rfl
theorem uV(h:iL n ops=true){v:Nat->Value}{listed:Array Bool}{i:Nat}(hr:i∈Region.ready .any ops.toArray listed):Region.wanted (opAt ops i) (yf ops.toArray (over ops f v listed))=Region.wanted (opAt ops i) (yf ops.toArray (full ops f v)):=by
 obtain⟨_,hi,_,hall⟩:=dO hr
 unfold Region.wanted
 cases hg:(opAt ops i).guard with
 | none=>rfl
 | some jb =>
   obtain⟨j,b⟩:=jb
   simp only
   have hl:=hall j ((dJ h hi).2.2.1 j b hg)
   congr 1
   unfold yf
   cases hd:(ops.toArray[j]?).bind (·.dst)with
   | none=>rfl
   | some d =>
     simp only
     have hj:j<ops.length:=by
      cases hq:ops.toArray[j]? with
      | none=>rw[hq]at hd; cases hd
      | some o=>have:=(Array.getElem?_eq_some_iff.1 hq).1; simpa using this
     have hdd:(opAt ops j).dst=some d:=by
      unfold opAt
      rw[List.getElem?_toArray]at hd
      rw[List.getD_eq_getElem?_getD]
      cases hq:ops[j]? with
      | none=>rw[hq]at hd; cases hd
      | some o=>rw[hq]at hd; exact hd
     have hw:=((dJ h hj).1 d hdd).1
     have e:over ops f v listed d=full ops f v d:=by unfold over full; rw[hw]; simp only; rw[if_pos hl]
     rw[e]
end
def oM(ops:List Oper):Nat->List Nat->Nat->Bool
 | t,[],i=>Nat.beq t i
 | t,j::l,i=>bM (opAt ops t) j&&oM ops j l i
theorem fD{ops:List Oper} : ∀ {p:List Nat} {t i:Nat},oM ops t p i=true -> ∃ m,reach ops.toArray .any m t i=true
 | [],t,i,h=>⟨0,by unfold reach; rw[Nat.eq_of_beq_eq_true h]; simp⟩
 | j::l,t,i,h=>by
   unfold oM at h
   rw[Bool.and_eq_true]at h
   obtain⟨m,hm⟩:=fD h.2
   refine⟨m+1,?_⟩
   unfold reach
   rw[Bool.or_eq_true]
   right
   have h1:=h.1
   unfold bM at h1
   rw[Array.any_eq_true']at h1
   obtain⟨e,he,h2⟩:=h1
   rw[Bool.and_eq_true]at h2
   have ho:ops.toArray[t]? = some (opAt ops t):=by
    unfold opAt at he ⊢
    rw[List.getElem?_toArray,List.getD_eq_getElem?_getD]
    cases hq:ops[t]? with
    | none =>
      rw[List.getD_eq_getElem?_getD,hq]at he
      exact absurd he (by simp[show(default:Oper).after = #[]from rfl])
    | some o=>rfl
   rw[ho]
   simp only
   rw[Array.any_eq_true']
   exact⟨e,he,by rw[h2.1,Nat.eq_of_beq_eq_true h2.2,hm]; rfl⟩
abbrev Span:=Nat × Nat × List Nat × List Nat
def fC:Span:=(0,0,[],[])
def Mc(ops:List Oper)(es:List Nat)(i lo:Nat)(p:List Nat):Bool:=match lo with|0=>true|k+1=>(match es[k]? with|some e=>oM ops i p e|none=>false)
def Pv(ops:List Oper)(es:List Nat)(i hi:Nat)(p:List Nat):Bool:=match es[hi]? with|some e=>oM ops e p i|none=>true
def nE(ops:List Oper):List Nat->Bool
 | []=>true
 | [_]=>true
 | a::b::l=>reach ops.toArray .any 5 b a && !Nat.beq b a&&nE ops (b::l)
def wU(ops:List Oper)(es:List Nat)(sp:List Span):Bool:=Nat.beq sp.length ops.length&&(List.range ops.length).all fun i=>es.contains i || (Mc ops es i (sp.getD i fC).1 (sp.getD i fC).2.2.1&&Pv ops es i (sp.getD i fC).2.1 (sp.getD i fC).2.2.2)
section
variable {P:Program} {n:Nat} {Q:Post} {f:Nat->Value} {w:World} {ops:List Oper}
def VY(P:Program)(ops:List Oper)(f:Nat->Value)(vals:Gh->Nat->Value)(S:Nat->Gh->World->Prop)(i lo hi:Nat):Prop :=
 ∀ r k w,lo<=k->k<=hi->S k r w->if Region.wanted (opAt ops i) (yf ops.toArray (full ops f (vals r)))then Oper.quietUpon P (S k r) w (vals r i) ((execOp (ev (full ops f (vals r))) (opAt ops i)).run P w)else vals r i=undef
def WR(P:Program)(ops:List Oper)(f:Nat->Value)(vals:Gh->Nat->Value)(S:Nat->Gh->World->Prop)(Q':Exit->Act->World->Prop)(i k:Nat):Prop :=
 ∀ r w (a:Act) (K:Act->World->Prop),S k r w->(∀ x∈(opAt ops i).op.operands,a.eval x=ev (full ops f (vals r)) x)->(∀ p w',S (k+1) (kJ r k p) w'->K (a.put (opAt ops i).dst (vals (kJ r k p) i)) w')->(opAt ops i).wp P a w K Q'
def Pw(vals:Gh->Nat->Value)(i d:Nat):Prop := ∀ k r p,d<=k->vals (kJ r k p) i=vals r i
theorem W.drawn{id:Nat}(es:List Nat)(sp:List Span)(vals:Gh->Nat->Value)(S:Nat->Gh->World->Prop)(hm:P.follows .mixedOrders=true)(hok:iL n ops=true)(hsel:Region.noSelect ops.toArray=true)(hch:nE ops es=true)(hsp:wU ops es sp=true)
 (hes:es.all (fun e=>Nat.blt e ops.length&&(match (opAt ops e).guard with|none=>true|_=>false))=true) (hnd:es.Nodup)
 (h0 : ∀ w1,Below w.heap.size w w1->w1.heap.size=w.heap.size -> ∃ r,S 0 r w1)
 (hq : ∀ i,i<ops.length->es.contains i=false->VY P ops f vals S i (sp.getD i fC).1 (sp.getD i fC).2.1)
 (he : ∀ k i,es[k]? = some i->WR P ops f vals S (lift n Q) i k)
 (hdq : ∀ i,i<ops.length->es.contains i=false->Pw vals i (sp.getD i fC).1)
 (hde : ∀ k i,es[k]? = some i->Pw vals i (k+1))
 (h : ∀ r w',S es.length r w'->Q .normal (full ops f (vals r)) w'):W P n (.region id ops.toArray true) Q f w:=fun a ha=>by
 refine wp_region_any hm ?_
 have OB : ∀ i,i<ops.length->es.contains i=false->Mc ops es i (sp.getD i fC).1 (sp.getD i fC).2.2.1=true/\Pv ops es i (sp.getD i fC).2.1 (sp.getD i fC).2.2.2=true:=fun i hi hne=>by
  unfold wU at hsp
  rw[Bool.and_eq_true,List.all_eq_true]at hsp
  have:=hsp.2 i (by simpa using hi)
  rw[hne,Bool.false_or,Bool.and_eq_true]at this
  exact this
 have IX : ∀ k i,es[k]? = some i->i<ops.length/\(opAt ops i).guard=none:=fun k i hk=>by
  rw[List.all_eq_true]at hes
  have:=hes i (List.mem_of_getElem? hk)
  rw[Bool.and_eq_true]at this
  refine⟨by simpa [Nat.blt_eq] using this.1,?_⟩
  cases hg:(opAt ops i).guard with
  | none=>rfl
  | some _=>rw[hg]at this; exact absurd this.2 (by simp)
 -- the invariant
 have key : ∀(fuel:Nat) (listed:Array Bool) (a:Act) (w1:World) (r:Gh) (k:Nat),listed.size=ops.length->Bf ops.toArray .any listed->(∀ j e,es[j]? = some e->listed.getD e false=decide (j<k))->k<=es.length->Fr a n (over ops f (vals r) listed)->S k r w1 ->
  (∀ fl:List Nat,fl=(List.range ops.length).filter (fun i => !listed.getD i false)->fl.length=fuel)->wpAny P .any ops.toArray (lift n Q) fuel listed a w1:=by
  intro fuel
  induction fuel with
  | zero =>
    intro listed a w1 r k hsz lH hpre hk ha hS hfl
    have hall : ∀ i,i<ops.length->listed.getD i false=true:=fun i hi=>by
     have h1:=List.eq_nil_of_length_eq_zero (hfl _ rfl)
     cases hq:listed.getD i false
     ·have:i∈(List.range ops.length).filter (fun i => !listed.getD i false):=by simp only[List.mem_filter,List.mem_range]; exact⟨hi,by rw[hq]; rfl⟩
      rw[h1]at this; cases this
     ·rfl
    have hkk:k=es.length:=by
     by_cases hlt:k<es.length
     ·have:=hpre k es[k] (List.getElem?_eq_getElem hlt)
      rw[hall _ (IX k _ (List.getElem?_eq_getElem hlt)).1]at this
      simp at this
     ·omega
    have hnone:Region.ready .any ops.toArray listed = []:=by
     cases hq:Region.ready .any ops.toArray listed with
     | nil=>rfl
     | cons i l =>
       have hr:i∈Region.ready .any ops.toArray listed:=by rw[hq]; exact List.mem_cons_self
       obtain⟨h1,h2,_,_⟩:=dO hr
       rw[hall i h2]at h1; cases h1
    refine⟨hnone,full ops f (vals r),?_,h r w1 (hkk ▸ hS)⟩
    have:over ops f (vals r) listed=full ops f (vals r):=by
     funext s
     unfold over full
     cases hw:writer ops s with
     | none=>rfl
     | some i=>simp only; rw[if_pos (hall i (iY hw).2)]
    exact this ▸ ha
  | succ fuel ih =>
    intro listed a w1 r k hsz lH hpre hk ha hS hfl
    have hcount : ∀ i,i∈Region.ready .any ops.toArray listed -> ∀ fl:List Nat,fl=(List.range ops.length).filter (fun j => !(listed.setIfInBounds i true).getD j false)->fl.length=fuel:=by
     intro i hr fl Px
     obtain⟨h1,h2,_,_⟩:=dO hr
     subst Px
     have e:(List.range ops.length).filter (fun j => !(listed.setIfInBounds i true).getD j false)=((List.range ops.length).filter (fun i => !listed.getD i false)).erase i:=by
      rw[List.Nodup.erase_eq_filter (List.Nodup.sublist List.filter_sublist List.nodup_range),List.filter_filter]
      apply List.filter_congr
      intro j hj
      by_cases e:i=j
      ·subst e; rw[set_self (by rw[hsz]; exact h2)]; simp
      ·rw[gQ e]
       have:(j != i)=true:=by simp; exact fun q=>e q.symm
       rw[this,Bool.true_and]
     rw[e,List.length_erase_of_mem (by simp only[List.mem_filter,List.mem_range]; exact⟨h2,by rw[h1]; rfl⟩),hfl _ rfl]
     rfl
    refine⟨fun hnone => ?_,fun i hr => ?_⟩
    ·-- something must be ready: the first that is not listed
     exfalso
     have hlen:=hfl _ rfl
     -- least Bq index by position waits only for smaller aay  not known: use that every Bq op waits for an Bq one is impossible when the region can be Py
     exact(by
      have : ∃ i,i∈Region.ready .any ops.toArray listed:=by
       obtain⟨q,hq⟩ : ∃ q,q∈(List.range ops.length).filter (fun i => !listed.getD i false):=by
        cases hfe:(List.range ops.length).filter (fun i => !listed.getD i false)with
        | nil=>rw[hfe]at hlen; cases hlen
        | cons q l=>exact⟨q,List.mem_cons_self⟩
       have DW : ∀ m q,q<=m->q<ops.length->listed.getD q false=false -> ∃ i,i<ops.length/\listed.getD i false=false /\ ∀ j,j<i->listed.getD j false=true:=by
        intro m
        induction m with
        | zero=>intro q hm hq1 hq2; exact⟨q,hq1,hq2,fun j hj=>by omega⟩
        | succ m WS =>
          intro q hm hq1 hq2
          by_cases hall : ∀ j,j<q->listed.getD j false=true
          ·exact⟨q,hq1,hq2,hall⟩
          ·obtain⟨j,hj⟩:=Classical.not_forall.1 hall
           obtain⟨hj1,hj2⟩:=Classical.not_imp.1 hj
           exact WS j (by omega) (by omega) (by simpa using hj2)
       simp only[List.mem_filter,List.mem_range]at hq
       obtain⟨i,hi,hi1,hi2⟩:=DW q q (Nat.le_refl _) hq.1 (by simpa using hq.2)
       refine⟨i,mem_ready.2 ⟨getD_in (by rw[hsz]; exact hi) hi1,opAt ops i,?_,fun e he hb=>hi2 e.on ((dJ hok hi).2.2.2 e.on ?_)⟩⟩
       ·unfold opAt; rw[List.getElem?_toArray,List.getD_eq_getElem?_getD,List.getElem?_eq_getElem hi]; rfl
       ·unfold bM; rw[Array.any_eq_true']; exact⟨e,he,by rw[hb,Nat.beq_refl]; rfl⟩
      obtain⟨i,hi⟩:=this
      rw[hnone]at hi; cases hi)
    ·obtain⟨h1,hi,hop,hall⟩:=dO hr
     have hsz':(listed.setIfInBounds i true).size=ops.length:=by simpa using hsz
     have Br:=lH.set hr
     have hev:=Fa (f:=f) hok (v:=vals r) hr
     have hae : ∀ x∈(opAt ops i).op.operands,a.eval x=ev (full ops f (vals r)) x:=fun x hx=>by rw[ha.ev]; exact hev x hx
     have hex:execOp a.eval (opAt ops i)=execOp (ev (full ops f (vals r))) (opAt ops i):=execOp_congr _ (Region.noSelect_spec hsel i _ · · hop) hae
     have hwant:Region.wanted (opAt ops i) (yielded ops.toArray a.tmps)=Region.wanted (opAt ops i) (yf ops.toArray (full ops f (vals r))):=by rw[ha.yf]; exact uV hok hr
     unfold wpOp
     simp only[hop]
     rw[hwant]
     by_cases hne:es.contains i=true
     ·-- an effect
      have hmem:i∈es:=by simpa using hne
      obtain⟨j,hj⟩:=List.getElem?_of_mem hmem
      have hg:=(IX j i hj).2
      have hjk:j=k:=by
       have h3:=hpre j i hj
       rw[h1]at h3
       have h4 : ¬ j<k:=by simpa using h3.symm
       by_cases hlt:k<j
       ·-- the one ahead of it is listed
        exfalso
        obtain⟨j',rfl⟩ : ∃ j',j=j'+1:=⟨j-1,by omega⟩
        have hj':j'<es.length:=by have:=(List.getElem?_eq_some_iff.1 hj).1; omega
        have Pz : ∀ {l:List Nat},nE ops l=true -> ∀ k e e',l[k]? = some e'->l[k+1]? = some e->reach ops.toArray .any 5 e e'=true/\e≠e':=by
         intro l
         induction l with
         | nil=>intro _ k e e' h _; simp at h
         | cons a l ih2 =>
           intro hk k e e' h1 h2
           cases l with
           | nil=>cases k <;> simp at h2
           | cons b l =>
             unfold nE at hk
             simp only[Bool.and_eq_true]at hk
             cases k with
             | zero =>
               simp at h1 h2; subst h1 h2
               refine⟨hk.1.1,fun e => ?_⟩
               rw[e,Nat.beq_refl]at hk; exact absurd hk.1.2 (by simp)
             | succ k=>exact ih2 hk.2 k e e' (by simpa using h1) (by simpa using h2)
        obtain⟨hr1,hne1⟩:=Pz hch j' i es[j'] (List.getElem?_eq_getElem hj') hj
        have hl:listed.getD es[j'] false=true:=by
         unfold reach at hr1
         rw[Bool.or_eq_true]at hr1
         rcases hr1 with hr1|hr1
         ·exact absurd (by simpa using hr1) hne1
         ·rw[hop]at hr1
          simp only at hr1
          rw[Array.any_eq_true']at hr1
          obtain⟨e,he1,he2⟩:=hr1
          rw[Bool.and_eq_true]at he2
          refine lH.reach _ _ he2.2 (hall e.on ?_)
          unfold bM
          rw[Array.any_eq_true']
          exact⟨e,he1,by rw[he2.1,Nat.beq_refl]; rfl⟩
        have h5:=hpre j' es[j'] (List.getElem?_eq_getElem hj')
        rw[hl]at h5
        have:j'<k:=by simpa using h5.symm
        omega
       ·omega
      subst hjk
      have hjl:j<es.length:=(List.getElem?_eq_some_iff.1 hj).1
      rw[if_pos (by unfold Region.wanted; rw[hg])]
      refine .inl (he j i hj r w1 a _ hS hae fun p w' hS' => ?_)
      -- the values that are listed stay
      have hsame:over ops f (vals r) listed=over ops f (vals (kJ r j p)) listed:=by
       funext s
       unfold over
       cases hw:writer ops s with
       | none=>rfl
       | some q =>
         simp only
         cases hlq:listed.getD q false
         ·rfl
         ·simp only[if_true]
          by_cases hqe:es.contains q=true
          ·obtain⟨jq,hjq⟩:=List.getElem?_of_mem (show q∈es by simpa using hqe)
           have h6:=hpre jq q hjq
           rw[hlq]at h6
           have h7:jq<j:=by simpa using h6.symm
           exact(hde jq q hjq j r p (by omega)).symm
          ·have TL:es.contains q=false:=by simpa using hqe
           have hqi:=(iY hw).2
           refine(hdq q hqi TL j r p ?_).symm
           have hlo:=(OB q hqi TL).1
           unfold Mc at hlo
           split at hlo
           ·rename_i hz; rw[hz]; exact Nat.zero_le _
           ·rename_i k' hz
            rw[hz]
            cases hek:es[k']? with
            | none=>rw[hek]at hlo; cases hlo
            | some e =>
              rw[hek]at hlo
              obtain⟨mm,hlo⟩:=fD hlo
              have h8:=lH.reach _ _ hlo hlq
              rw[hpre k' e hek]at h8
              have:k'<j:=by simpa using h8
              omega
      refine ih _ _ _ (kJ r j p) (j+1) hsz' Br ?_ hjl ?_ hS' (hcount i hr)
      ·intro q e hqe
       by_cases eq:i=e
       ·subst eq
        have:q=j:=by
         have h9:=(List.getElem?_eq_some_iff.1 hqe)
         have h10:=(List.getElem?_eq_some_iff.1 hj)
         exact(List.getElem_inj hnd).1 (h9.2.trans h10.2.symm)
        rw[set_self (by rw[hsz]; exact hi),this]
        simp
       ·rw[gQ eq,hpre q e hqe]
        have:q≠j:=fun z=>by subst z; rw[hj]at hqe; exact eq (Option.some.inj hqe)
        by_cases c:q<j
        ·rw[decide_eq_true c,decide_eq_true (by omega)]
        ·rw[decide_eq_false c,decide_eq_false (by omega)]
      ·have:=(hsame ▸ ha).put (d:=(opAt ops i).dst) (by
        cases hd:(opAt ops i).dst with
        | none=>rfl
        | some d=>simp[inn,Nat.blt_eq,((dJ hok hi).1 d hd).2]) (vals (kJ r j p) i)
       rwa [rZ hok hsz hi]at this
     ·have hne':es.contains i=false:=by simpa using hne
      obtain⟨hlo,hhi⟩:=OB i hi hne'
      have hl1:(sp.getD i fC).1<=k:=by
       unfold Mc at hlo
       split at hlo
       ·rename_i hz; rw[hz]; exact Nat.zero_le _
       ·rename_i k' hz
        rw[hz]
        cases hek:es[k']? with
        | none=>rw[hek]at hlo; cases hlo
        | some e =>
          rw[hek]at hlo
          have hne2:i≠e:=fun q=>by subst q; exact absurd (show es.contains i=true by simpa using List.mem_of_getElem? hek) hne
          have hl:listed.getD e false=true:=by
           obtain⟨mm,hlo⟩:=fD hlo
           cases mm with
           | zero=>unfold reach at hlo; exact absurd (by simpa using hlo) hne2
           | succ mm =>
           unfold reach at hlo
           rw[Bool.or_eq_true]at hlo
           rcases hlo with hr1|hr1
           ·exact absurd (by simpa using hr1) hne2
           ·rw[hop]at hr1
            simp only at hr1
            rw[Array.any_eq_true']at hr1
            obtain⟨e2,he1,he2⟩:=hr1
            rw[Bool.and_eq_true]at he2
            refine lH.reach _ _ he2.2 (hall e2.on ?_)
            unfold bM
            rw[Array.any_eq_true']
            exact⟨e2,he1,by rw[he2.1,Nat.beq_refl]; rfl⟩
          rw[hpre k' e hek]at hl
          have:k'<k:=by simpa using hl
          omega
      have hl2:k<=(sp.getD i fC).2.1\/es.length<=(sp.getD i fC).2.1:=by
       unfold Pv at hhi
       cases hek:es[(sp.getD i fC).2.1]? with
       | none=>right; exact List.getElem?_eq_none_iff.1 hek
       | some e =>
         left
         rw[hek]at hhi
         have h3:=hpre _ e hek
         cases hle:listed.getD e false
         ·rw[hle]at h3
          have : ¬ (sp.getD i fC).2.1<k:=by simpa using h3.symm
          omega
         ·obtain⟨mm,hhi⟩:=fD hhi
          have:=lH.reach _ _ hhi hle
          rw[h1]at this; cases this
      have hq1:=hq i hi hne' r k w1 hl1 (by rcases hl2 with q|q <;> omega) hS
      have hfin : ∀ w',S k r w'->wpAny P .any ops.toArray (lift n Q) fuel (listed.setIfInBounds i true) (a.put (opAt ops i).dst (vals r i)) w':=fun w' hS'=>by
       refine ih _ _ _ r k hsz' Br ?_ hk ?_ hS' (hcount i hr)
       ·intro q e hqe
        have:i≠e:=fun z=>by subst z; exact absurd (show es.contains i=true by simpa using List.mem_of_getElem? hqe) hne
        rw[gQ this]
        exact hpre q e hqe
       ·have:=ha.put (d:=(opAt ops i).dst) (by
         cases hd:(opAt ops i).dst with
         | none=>rfl
         | some d=>simp[inn,Nat.blt_eq,((dJ hok hi).1 d hd).2]) (vals r i)
        rwa [rZ hok hsz hi]at this
      by_cases hwt:Region.wanted (opAt ops i) (yf ops.toArray (full ops f (vals r)))=true
      ·rw[if_pos hwt]at hq1 ⊢
       refine .inl ?_
       unfold Oper.wp
       rw[hex]
       generalize (execOp (ev (full ops f (vals r))) (opAt ops i)).run P w1=res at hq1
       cases res with
       | ok nx w' =>
         cases nx <;> simp only[Oper.quietUpon]at hq1 <;> simp only[Oper.upon]
         case value u=>obtain⟨e1,e2⟩:=hq1; subst e1 e2; exact hfin _ hS
         case skip=>obtain⟨e1,e2⟩:=hq1; subst e1; rw[<- e2]; exact hfin _ hS
         case enter g args =>
          obtain⟨e1,hc⟩:=hq1
          subst e1
          exact hc.mono fun e w'' ⟨he',hw''⟩=>by subst he'; exact hfin _ hw''
       | halt x w'=>simp only[Oper.quietUpon]at hq1
      ·rw[if_neg hwt]at hq1 ⊢
       rw[<- hq1]
       exact hfin _ hS
 obtain⟨r,hr⟩:=h0 { w with drawn:=w.drawn+1 } (Below.refl _ _).drew rfl
 have hstart:over ops f (vals r) (Array.replicate ops.toArray.size false)=f:=by
  funext s
  unfold over
  cases writer ops s with
  | none=>rfl
  | some i =>
    simp only
    rw[show(Array.replicate ops.toArray.size false).getD i false=false from by
     rw[Array.getD_eq_getD_getElem?]
     by_cases hi:i<ops.length
     ·simp[hi]
     ·simp[hi]]
    simp
 have hrep : ∀ i,(Array.replicate ops.toArray.size false).getD i false=false:=fun i=>by
  rw[Array.getD_eq_getD_getElem?]
  by_cases hi:i<ops.length
  ·simp[hi]
  ·simp[hi]
 have:=key ops.toArray.size (Array.replicate ops.toArray.size false) a { w with drawn:=w.drawn+1 } r 0 (by simp) (Bf.start _ _ _) (fun j e _=>by rw[hrep]; simp) (Nat.zero_le _) (by rw[hstart]; exact ha) hr (fun fl hfl=>by
  subst hfl
  have:(List.range ops.length).filter (fun i => !(Array.replicate ops.toArray.size false).getD i false)=List.range ops.length:=List.filter_eq_self.2 fun i _=>by rw[hrep]; rfl
  rw[this]; simp)
 exact this
end
end Fx
end Go.Proofs.YtahbiajdgealnaaDoor
namespace Go.Proofs.YtahbiajdgealnaaDoor
open Go.RowKit
namespace Fx
section
variable {P:Program} {n:Nat} {Q:Post} {f:Nat->Value} {w:World} {ops:List Oper}
def Ac(ia:Nat)(vs:Array Value):Gh->Nat->Value:=fun r i=>bif Nat.beq i ia then .pointer (some ⟨(r 0).1,0,none⟩)else vs.getD i undef
def Md(w:World)(m:Nat)(z y:Nat->Value)(T:TypeId):Nat->Gh->World->Prop:=fun k r w1=>Below w.heap.size w w1/\(match k with|0=>True|1=>w.heap.size<=(r 0).1/\aP w1 (r 0).1 m z T|_=>w.heap.size<=(r 0).1/\aP w1 (r 0).1 m y T)
theorem Md.up{m:Nat}{z y:Nat->Value}{T:TypeId}{k:Nat}{r:Gh}{w1 w2:World}(h:Md w m z y T k r w1)(hb:Below w1.heap.size w1 w2):Md w m z y T k r w2:=by
 refine⟨yS h.1 hb,?_⟩
 have h2:=h.2
 cases k with
 | zero=>trivial
 | succ k=>cases k with
   | zero=>exact⟨h2.1,h2.2.aC (Sb hb) (Nat.ne_of_lt h2.2.lt)⟩
   | succ k=>exact⟨h2.1,h2.2.aC (Sb hb) (Nat.ne_of_lt h2.2.lt)⟩
def QB(P:Program)(ρ:Operand->Value)(o:Oper)(w:World)(v:Value):Prop := ∀ w1,Below w.heap.size w w1->(execOp ρ o).run P w1 = .ok (.value v) w1 \/ ∃ g args,(execOp ρ o).run P w1 = .ok (.enter g args) w1/\Calls P g args w1 fun e w2=>e = .returned v/\Below w1.heap.size w1 w2
def IY(P:Program)(f':Nat->Value)(ops:Array Oper)(w:World)(ia st:Nat)(vs:Array Value):List Oper->Nat->Prop
 | [],_=>True
 | o::l,i=>(Nat.beq i ia=true\/Nat.beq i st=true\/(if Region.wanted o (yf ops f')then QB P (ev f') o w (vs.getD i undef)else vs.getD i undef=undef))/\IY P f' ops w ia st vs l (i+1)
theorem Bt{f':Nat->Value}{IZ:Array Oper}{ia st:Nat}{vs:Array Value} : ∀ {l:List Oper} {k:Nat},IY P f' IZ w ia st vs l k -> ∀ i,i<l.length->(k+i=ia\/k+i=st\/(if Region.wanted (opAt l i) (yf IZ f')then QB P (ev f') (opAt l i) w (vs.getD (k+i) undef)else vs.getD (k+i) undef=undef))
 | [],_,_,i,hi=>absurd hi (by simp)
 | o::l,k,h,0,_=>by
   rcases h.1 with h1|h1|h1
   ·exact .inl (Nat.eq_of_beq_eq_true h1)
   ·exact .inr (.inl (Nat.eq_of_beq_eq_true h1))
   ·exact .inr (.inr h1)
 | o::l,k,h,i+1,hi=>by
   have:=Bt h.2 i (by simpa using hi)
   rwa [show k+1+i=k+(i+1) by omega]at this
def GD(ops:List Oper)(f:Nat->Value)(ia:Nat)(vs:Array Value)(g:Nat):Nat->Value:=full ops f (fun i=>bif Nat.beq i ia then .pointer (some ⟨g,0,none⟩)else vs.getD i undef)
theorem W.one{id:Nat}{T T':TypeId}{a v:Operand}{m:Nat}{z y:Nat->Value}{u:Value}(ia st:Nat)(sp:List Span)(vs:Array Value)(hm:P.follows .mixedOrders=true)(hok:iL n ops=true)(hsel:Region.noSelect ops.toArray=true)(hch:nE ops [ia,st]=true)(hsp:wU ops [ia,st] sp=true)
 (hes : [ia,st].all (fun e=>Nat.blt e ops.length&&(match (opAt ops e).guard with|none=>true|_=>false))=true)
 (hia:(opAt ops ia).op = .alloc T) (hz:((P.info? T).bind (·.zero)).map (·.cells)=some (ay m z))
 (hst:(opAt ops st).op = .store T' a v) (hsd:(opAt ops st).dst=none) (hsz:(P.info? T').map (·.size)=some m) (ha : ∀ g,ev (GD ops f ia vs g) a = .pointer (some ⟨g,0,none⟩)) (hv : ∀ g,ev (GD ops f ia vs g) v=u) (hu:u.cells=ay m y) (h1 : ∀ j,j<m->(y j).oneCell'=true) (hvs:vs.getD st undef=undef)
 (hq : ∀ g,IY P (GD ops f ia vs g) ops.toArray w ia st vs ops 0)
 (h : ∀ g w' f',f'=GD ops f ia vs g->w.heap.size<=g->aP w' g m y T->Below w.heap.size w w'->Q .normal f' w'):W P n (.region id ops.toArray true) Q f w:=by
 have hne:ia≠st:=by
  unfold nE at hch
  simp only[Bool.and_eq_true]at hch
  intro e; subst e; rw[Nat.beq_refl]at hch; exact absurd hch.1.2 (by simp)
 have hval : ∀ r i,Ac ia vs r i=(fun i=>bif Nat.beq i ia then Value.pointer (some ⟨(r 0).1,0,none⟩)else vs.getD i undef) i:=fun _ _=>rfl
 have TM:Nat.beq ia ia=true:=Nat.beq_refl _
 have WT:Nat.beq st ia=false:=by
  cases hq:Nat.beq st ia
  ·rfl
  ·exact absurd (Nat.eq_of_beq_eq_true hq).symm hne
 refine W.drawn [ia,st] sp (Ac ia vs) (Md w m z y T) hm hok hsel hch hsp hes (by simp[hne]) (fun w1 hb _=>⟨fun _=>(0,0),hb,trivial⟩) ?_ ?_ ?_ ?_ ?_
 ·intro i hi hni r k w1 _ _ hS
  have hni':i≠ia/\i≠st:=by simpa using hni
  have hb:Nat.beq i ia=false:=by
   cases hq:Nat.beq i ia
   ·rfl
   ·exact absurd (Nat.eq_of_beq_eq_true hq) hni'.1
  have hv':Ac ia vs r i=vs.getD i undef:=by unfold Ac; rw[hb]; rfl
  rcases Bt (hq (r 0).1) i hi with h2|h2|h2
  ·exact absurd h2 (by omega)
  ·exact absurd h2 (by omega)
  rw[Nat.zero_add]at h2
  have hff:full ops f (Ac ia vs r)=GD ops f ia vs (r 0).1:=rfl
  rw[hff,hv']
  by_cases hw:Region.wanted (opAt ops i) (yf ops.toArray (GD ops f ia vs (r 0).1))=true
  ·rw[if_pos hw]at h2 ⊢
   rcases h2 w1 hS.1 with h3|⟨g,args,h3,h4⟩
   ·rw[h3]; exact⟨rfl,rfl⟩
   rw[h3]; exact⟨rfl,h4.mono fun e w2 ⟨he,hb2⟩=>⟨he,hS.up hb2⟩⟩
  rw[if_neg hw]at h2 ⊢; exact h2
 ·intro k i hk
  cases k with
  | zero =>
    simp at hk; subst hk
    intro r w1 b K hS hb hK
    obtain⟨zz,hz1,hz2⟩:=Option.map_eq_some_iff.1 hz
    obtain⟨ti,hi1,hz3⟩:=Option.bind_eq_some_iff.1 hz1
    have hrun:(execOp b.eval (opAt ops ia)).run P w1 = .ok (.value (.pointer (some ⟨w1.heap.size,0,none⟩))) (w1.alloc (.cells zz.cells T)):=by
     unfold execOp
     simp[hia,Instr.alloc,zeroValue,typeInfo,hi1,hz3,newVar,newRow]
    unfold Oper.wp
    rw[hrun]
    have:=hK (w1.heap.size,0) (w1.alloc (.cells zz.cells T)) ⟨yS hS.1 (Stp.alloc _ _).old,hS.1.size,by
     show(w1.alloc _).heap[w1.heap.size]? = _
     rw[alloc_at,if_pos rfl,hz2]⟩
    unfold Ac at this
    rw[TM,jI]at this
    exact this
  | succ k =>
    cases k with
    | zero =>
      simp at hk; subst hk
      intro r w1 b K hS hb hK
      obtain⟨hS1,hS2,PD⟩:=hS
      have ea:b.eval a = .pointer (some ⟨(r 0).1,0,none⟩):=(hb a (by rw[hst]; simp[Op.operands])).trans (ha (r 0).1)
      have ev':b.eval v=u:=(hb v (by rw[hst]; simp[Op.operands])).trans (hv (r 0).1)
      have hg:w1.heap[(r 0).1]? = some (.cells (ay m z) T (0,0)):=PD
      have hall:(ay m y).all (·.oneCell')=true:=by
       rw[Array.all_eq_true_iff_forall_mem]
       intro q hqm
       obtain⟨j,hj,he⟩:=Array.getElem_of_mem hqm
       have hj':j<m:=by simpa [aV] using hj
       have h5:=dN y hj'
       rw[Array.getElem?_eq_getElem hj,he]at h5
       rw[Option.some.inj h5]; exact h1 j hj'
      have PE:(storeVar T' ⟨(r 0).1,0,none⟩ u).run P w1 = .ok () (w1.setRow (r 0).1 (ay m y)):=by
       have h6:=run_storeCells_at (P:=P) (r 0).1 0 T (ay m y).toList 0 (ay m z) w1 hg (by simp[aV]) (fun q hq=>(Array.all_eq_true_iff_forall_mem.1 hall) q (by simpa using hq))
       have h7:((ay m z).toList.take (0+0)++(ay m y).toList++(ay m z).toList.drop (0+0+(ay m y).toList.length)).toArray=ay m y:=by
        rw[List.drop_eq_nil_of_le (by simp[aV])]; simp
       rw[h7]at h6
       cases hq:P.info? T' with
       | none=>simp[hq]at hsz
       | some ti =>
         have hz':ti.size=m:=by simp[hq]at hsz; omega
         simp only[storeVar,sizeOf,typeInfo,Sem.run_bind,run_program,hq,hu,aV,hz',ne_eq,not_true_eq_false,if_false,Result.andThen_ok,Sem.run_pure,h6]
      have hrun:(execOp b.eval (opAt ops st)).run P w1 = .ok .skip (w1.setRow (r 0).1 (ay m y)):=by
       unfold execOp
       simp only[hst,ea,ev',Instr.storeAt,Instr.sureAddr,Sem.run_bind,Sem.run_pure,Result.andThen_ok,PE]
      obtain⟨s1,s2,s3⟩:=qQ (w:=w1) (cs:=ay m y) hg
      unfold Oper.wp
      rw[hrun]
      show K (b.put (opAt ops st).dst undef) _
      rw[hsd]
      have:=hK (0,0) (w1.setRow (r 0).1 (ay m y)) ⟨s1.below hS1 hS1.size hS2,by rw[Ab (by omega)]; exact hS2,by rw[Ab (by omega)]; exact s2⟩
      rw[hsd]at this
      exact this
    | succ k=>simp at hk
 ·intro i hi hni k r p _
  have hni':i≠ia/\i≠st:=by simpa using hni
  have hb:Nat.beq i ia=false:=by
   cases hq:Nat.beq i ia
   ·rfl
   ·exact absurd (Nat.eq_of_beq_eq_true hq) hni'.1
  unfold Ac; rw[hb]; rfl
 ·intro k i hk q r p hq
  cases k with
  | zero=>simp at hk; subst hk; unfold Ac; rw[TM,Ab (by omega)]
  | succ k =>
    cases k with
    | zero=>simp at hk; subst hk; unfold Ac; rw[WT]; rfl
    | succ k=>simp at hk
 intro r w' hS
 exact h (r 0).1 w' _ rfl hS.2.1 hS.2.2 hS.1
theorem Bu{ρ:Operand->Value}{o:Oper}{v:Value}(h : ∀ w1,Below w.heap.size w w1->(execOp ρ o).run P w1 = .ok (.value v) w1):QB P ρ o w v:=fun w1 hb => .inl (h w1 hb)
theorem qbC{ρ:Operand->Value}{o:Oper}{v:Value}{g:FuncId}{args:Array Value}(h : ∀ w1,Below w.heap.size w w1->(execOp ρ o).run P w1 = .ok (.enter g args) w1)(hc : ∀ w1,Below w.heap.size w w1->Calls P g args w1 fun e w2=>e = .returned v/\Below w1.heap.size w1 w2):QB P ρ o w v:=fun w1 hb => .inr ⟨g,args,h w1 hb,hc w1 hb⟩
theorem gW{o:Oper}{ops:Array Oper}{f':Nat->Value}{v v':Value}{p:Prop}(hw:Region.wanted o (yf ops f')=true)(e:v'=v)(h:QB P (ev f') o w v):(if Region.wanted o (yf ops f')then QB P (ev f') o w v' else p):=by rw[if_pos hw,e]; exact h
end
end Fx
end Go.Proofs.YtahbiajdgealnaaDoor
namespace Go.Proofs.YtahbiajdgealnaaDoor
open Go.RowKit
namespace Fx
section
variable {P:Program} {n:Nat} {Q:Post} {f:Nat->Value} {w:World} {ops:Array Oper} {rest:List Oper} {o:Oper}
theorem L.wV{T E:TypeId}{len s:Nat}{parts:List (Nat × Operand)}{vs:List (Nat × Value)}{zc y:Nat->Value}(hw:Region.wanted o (yf ops f)=true)(ho:o.op = .buildSlice T len parts.toArray)(hp:parts.map (fun p=>(p.1,ev f p.2))=vs)(hu:P.underlying T=some (.slice E))(hs:(P.info? E).map (·.size)=some s)
 (hbig:Nat.ble (len*s) 16777216=true) (hpos:Nat.beq (len*s) 0=false) (hz:((P.info? E).bind (·.zero)).map (·.cells)=some (ay s zc)) (hf:Instr.fill (fun i=>some (i*s,s)) (ay (len*s) (fun j=>zc (j % s))) vs=some (ay (len*s) y)) (hd:inn n o.dst=true)
 (h : ∀ g w',g=w.heap.size->aP w' g (len*s) y E->Stp w.heap.size w w'->w'.heap.size=w.heap.size+1->L P n ops Q rest (put f o.dst (.slice (some ⟨g,0,none⟩) len len)) w'):L P n ops Q (o::rest) f w:=by
 obtain⟨z,hz1,hz2⟩:=Option.map_eq_some_iff.1 hz
 obtain⟨i,hi,hz3⟩:=Option.bind_eq_some_iff.1 hz1
 have hsz:i.size=s:=by rw[hi]at hs; simpa using hs
 have hb : ¬ len*s>2^24:=by have:=Nat.le_of_ble_eq_true hbig; omega
 have h0:len*s≠0:=fun e=>by rw[e]at hpos; exact absurd hpos (by decide)
 have hs0:0<s:=Nat.pos_of_ne_zero fun e=>h0 (by rw[e,Nat.mul_zero])
 have hcells:(Array.range (len*s)).map (fun j=>z.cells[j % z.cells.size]!)=ay (len*s) (fun j=>zc (j % s)):=by
  refine mK (by simp) fun j hj => ?_
  have hjs:j % s<s:=Nat.mod_lt _ hs0
  have hg:=dN zc hjs
  rw[hz2]
  simp[hj,aV]
  rw[getElem!_def,hg]
 have hrun:(execOp (ev f) o).run P w = .ok (.value (.slice (some ⟨w.heap.size,0,none⟩) len len)) (w.alloc (.cells (ay (len*s) y) E)):=by
  unfold execOp
  simp only[ho,List.map_toArray,hp]
  unfold Instr.buildSlice
  have hb' : ¬ 16777216<len*s:=by omega
  simp[underlying,sizeOf,typeInfo,zeroValue,hu,hi,hsz,hz3,hb']
  simp[h0,hcells,hf,newRow]
 refine L.val hw hrun hd (h _ _ rfl ?_ (Stp.alloc _ _) (by simp))
 show(w.alloc _).heap[w.heap.size]? = _
 rw[alloc_at,if_pos rfl]
theorem PG{x1:Nat × Operand}{v1:Value}(h1:ev f x1.2=v1) : [x1].map (fun p=>(p.1,ev f p.2)) = [(x1.1,v1)]:=by rw[List.map_cons,h1]; rfl
theorem I4{x1 x2:Nat × Operand}{v1 v2:Value}(h1:ev f x1.2=v1)(h2:ev f x2.2=v2) : [x1,x2].map (fun p=>(p.1,ev f p.2)) = [(x1.1,v1),(x2.1,v2)]:=by rw[List.map_cons,h1,PG h2]
end
end Fx
end Go.Proofs.YtahbiajdgealnaaDoor
namespace Go.Proofs.YtahbiajdgealnaaDoor
open Go.RowKit
namespace Fx
def Own(w:World)(B:Nat)(E:TypeId)(s:Nat)(v:Value)(n:Nat)(x:Nat->Value):Prop:=w.ownsRow B E s v n ((List.range (n*s)).map x)
theorem Own.nil(w:World)(B:Nat)(E:TypeId)(s:Nat)(x:Nat->Value):Own w B E s (.slice none 0 0) 0 x:=⟨by simp,.inl ⟨rfl,rfl⟩⟩
theorem Stp.grown{g:Nat}{w w':World}(h:Stp g w w'):w.grownBy w' (some g):=⟨h.os,h.tape,h.output,h.size,fun k hk hne=>h.block k hk (fun e=>hne (by rw[e]))⟩
theorem Own.aC{w w':World}{B:Nat}{E:TypeId}{s:Nat}{v:Value}{n:Nat}{x:Nat->Value}{g:Nat}(h:Own w B E s v n x)(hs:Stp g w w')(hne:v.ownBlock≠some g):Own w' B E s v n x:=World.ownsRow.kept h hs.grown (.inr hne)
theorem Own.up{w w':World}{B:Nat}{E:TypeId}{s:Nat}{v:Value}{n:Nat}{x:Nat->Value}(h:Own w B E s v n x)(hb:Below w.heap.size w w'):Own w' B E s v n x:=by
 refine World.ownsRow.kept h (row:=none) ⟨hb.os,hb.tape,hb.output,hb.size,fun k hk _=>hb.block k hk⟩ ?_
 cases v.ownBlock <;> simp
theorem Own.ge{w:World}{B:Nat}{E:TypeId}{s:Nat}{v:Value}{n:Nat}{x:Nat->Value}(h:Own w B E s v n x){g:Nat}(hg:v.ownBlock=some g):B<=g/\g<w.heap.size:=by
 rcases h.2 with ⟨rfl,_⟩|⟨g',cap,cur,rfl,hb,hgg,_⟩
 ·cases hg
 simp only[Value.ownBlock,Option.some.injEq]at hg; subst hg
 exact⟨hb,(Array.getElem?_eq_some_iff.1 hgg).1⟩
theorem Own.not{w:World}{B:Nat}{E:TypeId}{s:Nat}{v:Value}{n:Nat}{x:Nat->Value}(h:Own w B E s v n x){b:Nat}(hb:b<B):v.ownBlock≠some b:=fun e=>by have:=(h.ge e).1; omega
theorem Own.iG{w:World}{B:Nat}{E:TypeId}{s:Nat}{v:Value}{n:Nat}{x:Nat->Value}(h:Own w B E s v n x){b:Nat}(hb:w.heap.size<=b):v.ownBlock≠some b:=fun e=>by have:=(h.ge e).2; omega
theorem Own.form{w:World}{B:Nat}{E:TypeId}{s:Nat}{v:Value}{n:Nat}{x:Nat->Value}(h:Own w B E s v n x)(hn:0<n) : ∃ g cap,v = .slice (some ⟨g,0,none⟩) n cap/\B<=g/\g<w.heap.size/\n<=cap/\jT w g 0 (n*s) x:=by
 have h0:=h
 rcases h.2 with ⟨_,hz⟩|⟨g,cap,cur,rfl,hb,hgg,hnc,_⟩
 ·omega
 refine⟨g,cap,rfl,hb,(Array.getElem?_eq_some_iff.1 hgg).1,hnc,fun i hi => ?_⟩
 rw[Nat.zero_add,World.ownsRow.cellAt h0 i hi]
 simp[hi]
theorem Own.val{w:World}{B:Nat}{E:TypeId}{s:Nat}{v:Value}{n:Nat}{x:Nat->Value}(h:Own w B E s v n x) : ∃ a cap,v = .slice a n cap:=by
 rcases h.2 with ⟨rfl,rfl⟩|⟨g,cap,cur,rfl,_⟩
 ·exact⟨_,_,rfl⟩
 exact⟨_,_,rfl⟩
def qA(x:Nat->Value)(k:Nat)(y:Nat->Value):Nat->Value:=fun p=>if p<k then x p else y (p-k)
theorem GH(x y:Nat->Value)(k m:Nat):(List.range k).map x++(List.range m).map y=(List.range (k+m)).map (qA x k y):=by
 apply List.ext_getElem?
 intro i
 by_cases h:i<k
 ·rw[List.getElem?_append_left (by simpa using h)]
  simp[h,qA,show i<k+m by omega]
 rw[List.getElem?_append_right (by simp; omega)]
 by_cases h2:i<k+m
 ·simp[h2,qA,h,show i-k<m by omega]
 simp[h2,show ¬ i-k<m by omega]
section
variable {P:Program} {n:Nat} {Q:Post} {f:Nat->Value} {w:World} {o:Oper}
theorem Me{B:Nat}{E T ty:TypeId}{s bytes k m c:Nat}{v:Value}{x y:Nat->Value}{b off:Nat}(hu:P.underlying T=some (.slice E))(hi:(P.info? E).map (fun i=>(i.size,i.bytes))=some (s,bytes))(hz:((P.info? E).bind (·.zero)).map (·.cells.size)=some s)(hs:Nat.blt 0 s=true)
 (hown:Own w B E s v k x) (hc:jT w b off (m*s) y) (h1 : ∀ j,j<m*s->(y j).oneCell'=true) (hm:0<m) (hbytes:(k+m)*bytes<=140737488355328) (h63:k+m<=140737488355328) (hB:B<=w.heap.size) :
 ∃ g cap w',(Builtin.append_ #[T,T] ty #[v,.slice (some ⟨b,off,none⟩) m c]).run P w = .ok (.slice (some ⟨g,0,none⟩) (k+m) cap) w'/\Own w' B E s (.slice (some ⟨g,0,none⟩) (k+m) cap) (k+m) (qA x (k*s) y)/\w.grownBy w' v.ownBlock/\(v.ownBlock=some g\/g=w.heap.size)/\g<w'.heap.size:=by
 obtain⟨i,hi1,hi2⟩:=Option.map_eq_some_iff.1 hi
 obtain⟨z,hz1,hz2⟩:=Option.map_eq_some_iff.1 hz
 rw[hi1]at hz1
 simp only[Prod.mk.injEq]at hi2
 have hz3:i.zero=some z:=hz1
 have hs':0<s:=by simpa [Nat.blt_eq] using hs
 obtain⟨g,cap,w',hr,ho,hg,hg2,hlt⟩:=run_append_lies (P:=P) w T ty B E i z s bytes hu hi1 hz3 hi2.1 hi2.2 hz2 hs' v k _ hown ⟨b,off,none⟩ m c ((List.range (m*s)).map y) (by simp)
  (fun j u hj=>by
   have hjl:j<m*s:=by have:=(List.getElem?_eq_some_iff.1 hj).1; simpa using this
   simp[hjl]at hj
   rw[addr_add,<- hj]; exact hc j hjl)
  (fun u hu=>by
   obtain⟨j,hj,rfl⟩:=List.mem_map.1 hu
   exact h1 j (by simpa using hj)) hm (by unfold maxLen; omega) hbytes hB w.heap.size rfl
 refine⟨g,cap,w',hr,?_,hg,hg2,hlt⟩
 unfold Own
 rw[Nat.add_mul,<- GH]
 exact ho
theorem TN{B:Nat}{E T:TypeId}{s bytes k m c:Nat}{v:Value}{x y:Nat->Value}{b off:Nat}{sx xx:Operand}{ρ:Operand->Value}(ho:o.op = .call { callee := .builtin .append,args := #[sx,xx],argTypes := #[T,T] })(hsx:ρ sx=v)(WU:ρ xx = .slice (some ⟨b,off,none⟩) m c)
 (hu:P.underlying T=some (.slice E)) (hi:(P.info? E).map (fun i=>(i.size,i.bytes))=some (s,bytes)) (hz:((P.info? E).bind (·.zero)).map (·.cells.size)=some s) (hs:Nat.blt 0 s=true)
 (hown:Own w B E s v k x) (hc:jT w b off (m*s) y) (h1 : ∀ j,j<m*s->(y j).oneCell'=true) (hm:0<m) (hbytes:(k+m)*bytes<=140737488355328) (h63:k+m<=140737488355328) (hB:B<=w.heap.size) :
 ∃ g cap w',(execOp ρ o).run P w = .ok (.value (.slice (some ⟨g,0,none⟩) (k+m) cap)) w'/\Own w' B E s (.slice (some ⟨g,0,none⟩) (k+m) cap) (k+m) (qA x (k*s) y)/\w.grownBy w' v.ownBlock/\(v.ownBlock=some g\/g=w.heap.size)/\g<w'.heap.size:=by
 obtain⟨g,cap,w',hr,h⟩:=Me (ty:=o.type) (c:=c) hu hi hz hs hown hc h1 hm hbytes h63 hB
 refine⟨g,cap,w',?_,h⟩
 unfold execOp
 simp only[ho]
 unfold resolve invoke
 simp only[List.map_toArray,List.map_cons,List.map_nil,hsx,WU]
 unfold builtin
 simp only[Sem.run_bind,Sem.run_pure,Result.andThen_ok,hr]
theorem yY{w w':World}{v:Value}(hg:w.grownBy w' v.ownBlock){b:Nat}(hb:b<w.heap.size)(hne:v.ownBlock≠some b):w'.heap[b]? = w.heap[b]? := hg.block b hb (fun e=>hne e.symm)
theorem aP.grown{w w':World}{v:Value}{b m:Nat}{x:Nat->Value}{T:TypeId}(h:aP w b m x T)(hg:w.grownBy w' v.ownBlock)(hne:v.ownBlock≠some b):aP w' b m x T:=(yY hg h.lt hne).trans h
theorem jT.grown{w w':World}{v:Value}{b off m:Nat}{x:Nat->Value}(h:jT w b off m x)(hg:w.grownBy w' v.ownBlock)(hne:v.ownBlock≠some b):jT w' b off m x:=fun i hi=>by
 have hc:=h i hi
 rw[<- hc]
 exact World.cell?_of_block (w:=w) (yY hg (block_lt_of_cell hc) hne)
theorem Below.grow{w0 w w':World}{v:Value}{B:Nat}(h:Below B w0 w)(hg:w.grownBy w' v.ownBlock)(hB:B<=w.heap.size)(hv : ∀ g,v.ownBlock=some g->B<=g):Below B w0 w':=h.grown hg hB hv
theorem L.app{ops:Array Oper}{rest:List Oper}{B:Nat}{E T:TypeId}{s bytes k m c:Nat}{v:Value}{x y:Nat->Value}{b off:Nat}{sx xx:Operand}(hw:Region.wanted o (yf ops f)=true)(ho:o.op = .call { callee := .builtin .append,args := #[sx,xx],argTypes := #[T,T] })(hsx:ev f sx=v)(WU:ev f xx = .slice (some ⟨b,off,none⟩) m c)
 (hu:P.underlying T=some (.slice E)) (hi:(P.info? E).map (fun i=>(i.size,i.bytes))=some (s,bytes)) (hz:((P.info? E).bind (·.zero)).map (·.cells.size)=some s) (hs:Nat.blt 0 s=true) (hd:inn n o.dst=true)
 (hown:Own w B E s v k x) (hc:jT w b off (m*s) y) (h1 : ∀ j,j<m*s->(y j).oneCell'=true) (hm:0<m) (hbytes:(k+m)*bytes<=140737488355328) (h63:k+m<=140737488355328) (hB:B<=w.heap.size)
 (h : ∀ g cap w',Own w' B E s (.slice (some ⟨g,0,none⟩) (k+m) cap) (k+m) (qA x (k*s) y)->w.grownBy w' v.ownBlock->(v.ownBlock=some g\/g=w.heap.size)->g<w'.heap.size->L P n ops Q rest (put f o.dst (.slice (some ⟨g,0,none⟩) (k+m) cap)) w'):L P n ops Q (o::rest) f w:=by
 obtain⟨g,cap,w',hr,h2,h3,h4,h5⟩:=TN (ρ:=ev f) (c:=c) ho hsx WU hu hi hz hs hown hc h1 hm hbytes h63 hB
 exact L.val hw hr hd (h g cap w' h2 h3 h4 h5)
theorem GI{T E:TypeId}{x lo:Operand}{b off len cap s:Nat}{k:IntKind}{j:Nat}(ho:o.op = .slice T x (some lo) none none)(hx:ev f x = .slice (some ⟨b,off,none⟩) len cap)(hl:ev f lo = .int k j)(hu:P.underlying T=some (.slice E))(hs:(P.info? E).map (·.size)=some s)(hj:j<=len) :
 Runs P f o w (.slice (if cap=j then some ⟨b,off,none⟩else some ⟨b,off+j*s,none⟩) (len-j) (cap-j)):=by
 obtain⟨i,hi,hi2⟩:=Option.map_eq_some_iff.1 hs
 unfold Runs execOp
 simp only[ho,hx,hl,Option.map_some,Option.map_none]
 have hj':(j:Int)<=(len:Int):=by omega
 simp[Instr.sliceAt,Instr.slice,underlying,hu,Instr.sliceBounds,Instr.sliceBound,asIntOf,hj',sizeOf,typeInfo,hi,hi2,addr_add]
 intro h; omega
theorem nG{T:TypeId}{x y:Operand}{T':TypeId}{a:Addr}(ho:o.op = .binOp .eql T x y T')(hx:ev f x = .pointer (some a))(hy:ev f y = .pointer none)(hu:P.underlying T=some (.pointer (P.pointee T))):Runs P f o w (.bool false):=by
 unfold Runs execOp
 simp only[ho,hx,hy]
 have hg:(eqGuard .eql T x y (.pointer (some a)) (.pointer none)).run P w = .ok () w:=by unfold eqGuard; rfl
 simp only[Sem.run_bind,hg,Result.andThen_ok,run_eql_pointer_nil w T (some a) hu,Sem.run_pure]
 rfl
theorem oN{T:TypeId}{x y:Operand}{T':TypeId}(ho:o.op = .binOp .eql T x y T')(hx:ev f x = .pointer none)(hy:ev f y = .pointer none)(hu:P.underlying T=some (.pointer (P.pointee T))):Runs P f o w (.bool true):=by
 unfold Runs execOp
 simp only[ho,hx,hy]
 have hg:(eqGuard .eql T x y (.pointer none) (.pointer none)).run P w = .ok () w:=by unfold eqGuard; rfl
 simp only[Sem.run_bind,hg,Result.andThen_ok,run_eql_pointer_nil w T none hu,Sem.run_pure]
 rfl
variable {ops:List Oper} {vals:Gh->Nat->Value} {S:Nat->Gh->World->Prop}
def PK(P:Program)(ops:List Oper)(f:Nat->Value)(vals:Gh->Nat->Value)(S:Nat->Gh->World->Prop)(es:List Nat):List Span->Nat->Prop
 | [],_=>True
 | s::l,i=>(es.contains i=true\/(VY P ops f vals S i s.1 s.2.1/\Pw vals i s.1))/\PK P ops f vals S es l (i+1)
theorem Fb{es:List Nat} : ∀ {l:List Span} {k:Nat},PK P ops f vals S es l k -> ∀ i,i<l.length->(es.contains (k+i)=true\/(VY P ops f vals S (k+i) (l.getD i fC).1 (l.getD i fC).2.1/\Pw vals (k+i) (l.getD i fC).1))
 | [],_,_,i,hi=>absurd hi (by simp)
 | s::l,k,h,0,_=>h.1
 | s::l,k,h,i+1,hi=>by
   have:=Fb h.2 i (by simpa using hi)
   rw[show k+1+i=k+(i+1) by omega]at this
   exact this
def PL(P:Program)(ops:List Oper)(f:Nat->Value)(vals:Gh->Nat->Value)(S:Nat->Gh->World->Prop)(Q':Exit->Act->World->Prop):List Nat->Nat->Prop
 | [],_=>True
 | i::l,k=>(WR P ops f vals S Q' i k/\Pw vals i (k+1))/\PL P ops f vals S Q' l (k+1)
theorem Ad{Q':Exit->Act->World->Prop} : ∀ {l:List Nat} {k:Nat},PL P ops f vals S Q' l k -> ∀ j i,l[j]? = some i->WR P ops f vals S Q' i (k+j)/\Pw vals i (k+j+1)
 | [],_,_,j,i,h=>by simp at h
 | e::l,k,h,0,i,hj=>by simp at hj; subst hj; exact h.1
 | e::l,k,h,j+1,i,hj=>by
   have:=Ad h.2 j i (by simpa using hj)
   rw[show k+1+j=k+(j+1) by omega]at this
   exact this
theorem W.draws{id:Nat}(es:List Nat)(sp:List Span)(vals:Gh->Nat->Value)(S:Nat->Gh->World->Prop)(hm:P.follows .mixedOrders=true)(hok:iL n ops=true)(hsel:Region.noSelect ops.toArray=true)(hch:nE ops es=true)(hsp:wU ops es sp=true)
 (hes:es.all (fun e=>Nat.blt e ops.length&&(match (opAt ops e).guard with|none=>true|_=>false))=true) (hnd:decide es.Nodup=true)
 (h0 : ∀ w1,Below w.heap.size w w1->w1.heap.size=w.heap.size->S 0 (fun _=>(0,0)) w1) (hq:PK P ops f vals S es sp 0) (he:PL P ops f vals S (lift n Q) es 0)
 (h : ∀ r w' f',f'=full ops f (vals r)->S es.length r w'->Q .normal f' w'):W P n (.region id ops.toArray true) Q f w:=by
 have hlen:sp.length=ops.length:=by
  unfold wU at hsp; rw[Bool.and_eq_true]at hsp; exact Nat.eq_of_beq_eq_true hsp.1
 have hat : ∀ i,i<ops.length->es.contains i=false->VY P ops f vals S i (sp.getD i fC).1 (sp.getD i fC).2.1/\Pw vals i (sp.getD i fC).1:=fun i hi hne=>by
  have:=Fb hq i (by omega)
  rw[Nat.zero_add]at this
  rcases this with h1|h1
  ·rw[hne]at h1; cases h1
  ·exact h1
 refine W.drawn es sp vals S hm hok hsel hch hsp hes (of_decide_eq_true hnd) (fun w1 h1 h2=>⟨_,h0 w1 h1 h2⟩) (fun i hi hne=>(hat i hi hne).1) (fun k i hk => ?_) (fun i hi hne=>(hat i hi hne).2) (fun k i hk => ?_) (fun r w' hS=>h r w' _ rfl hS)
 ·have:=(Ad he k i hk).1; rwa [Nat.zero_add]at this
 have:=(Ad he k i hk).2; rwa [Nat.zero_add]at this
theorem Stp.then{g g':Nat}{w0 w1 w2:World}(h:Stp g w0 w1)(hb:Stp g' w1 w2)(hg:g'=g\/w0.heap.size<=g'):Stp g w0 w2:=⟨hb.os.trans h.os,hb.tape.trans h.tape,hb.output.trans h.output,Nat.le_trans h.size hb.size,fun k hk hne=>(hb.block k (Nat.lt_of_lt_of_le hk h.size) (by omega)).trans (h.block k hk hne)⟩
end
end Fx
end Go.Proofs.YtahbiajdgealnaaDoor
namespace Go.Proofs.YtahbiajdgealnaaDoor.Fx
open Go.RowKit
theorem Own.congr{w:World}{B:Nat}{E:TypeId}{s:Nat}{v:Value}{n:Nat}{x y:Nat->Value}(h:Own w B E s v n x)(e : ∀ j,j<n*s->x j=y j):Own w B E s v n y:=by
 have:(List.range (n*s)).map x=(List.range (n*s)).map y:=List.map_congr_left fun j hj=>e j (List.mem_range.1 hj)
 unfold Own at h ⊢
 rw[<- this]; exact h
theorem aP.congr{w:World}{g n:Nat}{x y:Nat->Value}{T:TypeId}(h:aP w g n x T)(e : ∀ j,j<n->x j=y j):aP w g n y T:=by
 unfold aP at h ⊢; rw[h,gy e]
section
variable {P:Program} {f:Nat->Value} {w:World} {o:Oper}
theorem jJ{T E:TypeId}{parts:List (Nat × Operand)}{vs:List (Nat × Value)}{len s m:Nat}{x y:Nat->Value}(ho:o.op = .build T parts.toArray)(hp:parts.map (fun p=>(p.1,ev f p.2))=vs)(hs:P.underlying T=some (.array len E))
 (hz0:(P.info? E).map (·.size)=some s) (hz:((P.info? T).bind (·.zero)).map (·.cells)=some (ay m x)) (hf:Instr.fill (fun i=>some (i*s,s)) (ay m x) vs=some (ay m y)):Runs P f o w (.agg (ay m y)):=by
 obtain⟨z,hz1,hz2⟩:=Option.map_eq_some_iff.1 hz
 obtain⟨i,hi,hz⟩:=Option.bind_eq_some_iff.1 hz1
 obtain⟨i2,hi2,hz3⟩:=Option.map_eq_some_iff.1 hz0
 unfold Runs execOp
 simp only[ho,List.map_toArray,hp]
 unfold Instr.build
 simp only[zeroValue,typeInfo,underlying,sizeOf,Sem.run_bind,run_program,Result.andThen_ok,hi,hi2,hz,hs,Sem.run_pure,hz2,hz3,hf]
theorem qR{T E:TypeId}{x lo:Operand}{b off len cap s:Nat}{k:IntKind}{j n' c':Nat}{A:Option Addr}(ho:o.op = .slice T x (some lo) none none)(hx:ev f x = .slice (some ⟨b,off,none⟩) len cap)(hl:ev f lo = .int k j)(hu:P.underlying T=some (.slice E))(hs:(P.info? E).map (·.size)=some s)(hj:j<=len)
 (hA:(if cap=j then some ⟨b,off,none⟩else some ⟨b,off+j*s,none⟩:Option Addr)=A) (hn:len-j=n') (hc:cap-j=c'):Runs P f o w (.slice A n' c'):=by
 subst hA hn hc
 exact GI ho hx hl hu hs hj
end
end Go.Proofs.YtahbiajdgealnaaDoor.Fx
namespace Go.Proofs.YtahbiajdgealnaaDoor.Fx
open Go.RowKit
section
variable {w w':World} {B:Nat} {E:TypeId} {s g n cap:Nat} {x:Nat->Value}
theorem Own.blk(h:Own w B E s (.slice (some ⟨g,0,none⟩) n cap) n x):B<=g/\n<=cap/\cap<=maxLen /\ ∃ x',aP w g (cap*s) x' E /\ ∀ p,p<n*s->x' p=x p:=by
 rcases h.2 with ⟨e,_⟩|⟨g',cap',cur,e,hb,hgg,hnc,hmax,hsz,ht⟩
 ·cases e
 simp only[Value.slice.injEq,Option.some.injEq,Addr.mk.injEq,and_true,true_and]at e
 obtain⟨rfl,rfl⟩:=e
 refine⟨hb,hnc,hmax,fun p=>cur.getD p undef,?_,fun p hp => ?_⟩
 ·unfold aP
  rw[hgg]
  congr 2
  refine(mK hsz fun j hj => ?_)
  simp[Array.getD,hsz,hj]
 have hle:n*s<=cap*s:=Nat.mul_le_mul_right s hnc
 have:=congrArg (fun l:List Value=>l[p]?) ht
 simp only[List.getElem?_take_of_lt hp,Array.getElem?_toList,List.getElem?_map,List.getElem?_range hp,Option.map_some]at this
 simp only[Array.getD_eq_getD_getElem?,this,Option.getD_some]
theorem aP.own{x':Nat->Value}(h:aP w g (cap*s) x' E)(hB:B<=g)(hn:n<=cap)(hm:cap<=maxLen)(e : ∀ p,p<n*s->x' p=x p):Own w B E s (.slice (some ⟨g,0,none⟩) n cap) n x:=by
 refine⟨by simp,.inr ⟨g,cap,ay (cap*s) x',rfl,hB,h,hn,hm,aV _ _,?_⟩⟩
 have hle:n*s<=cap*s:=Nat.mul_le_mul_right s hn
 apply List.ext_getElem?
 intro p
 by_cases hp:p<n*s
 ·rw[List.getElem?_take_of_lt hp,Array.getElem?_toList,dN x' (by omega),List.getElem?_map,List.getElem?_range hp,Option.map_some,e p hp]
 rw[List.getElem?_eq_none (by simp; omega),List.getElem?_eq_none (by simp; omega)]
theorem Own.lt(h:Own w B E s (.slice (some ⟨g,0,none⟩) n cap) n x):g<w.heap.size:=(h.ge rfl).2
theorem Own.aL(h:Own w B E s (.slice (some ⟨g,0,none⟩) n cap) n x):jT w g 0 (n*s) x:=fun i hi=>by
 rcases Nat.eq_zero_or_pos n with e|e
 ·subst e; omega
 ·obtain⟨g',cap',e2,_,_,_,hc⟩:=h.form e
  simp only[Value.slice.injEq,Option.some.injEq,Addr.mk.injEq,and_true,true_and]at e2
  obtain⟨rfl,rfl⟩:=e2
  exact hc i hi
theorem Own.bO{g':Nat}(h:Own w B E s (.slice (some ⟨g,0,none⟩) n cap) n x)(hs:Stp g' w w')(ne:g≠g'):Own w' B E s (.slice (some ⟨g,0,none⟩) n cap) n x:=h.aC hs fun e=>ne (Option.some.inj e)
end
section
variable {P:Program} {n:Nat} {Q:Post} {ops:Array Oper} {rest:List Oper} {f:Nat->Value} {w:World} {o:Oper}
theorem L.eU{T E:TypeId}{a v:Operand}{B s g k cap i:Nat}{x:Nat->Value}{u:Value}(hw:Region.wanted o (yf ops f)=true)(hd:o.dst=none)(ho:o.op = .store T a v)(ha:ev f a = .pointer (some ⟨g,i,none⟩))(hv:ev f v=u)(h1:u.oneCell'=true)(hT:(P.info? T).map (·.size)=some 1)
 (hb:Own w B E s (.slice (some ⟨g,0,none⟩) k cap) k x) (hi:i<k*s) (h : ∀ w',Own w' B E s (.slice (some ⟨g,0,none⟩) k cap) k (eB x i u)->Stp g w w'->w'.heap.size=w.heap.size->L P n ops Q rest f w'):L P n ops Q (o::rest) f w:=by
 obtain⟨h0,hk,hm,x',hx,he⟩:=hb.blk
 have hle:k*s<=cap*s:=Nat.mul_le_mul_right s hk
 refine L.bV (x:=x') hw hd ho ha hv h1 hT hx (by omega) fun w' hw' hs hz=>h w' (hw'.own h0 hk hm fun p hp => ?_) hs hz
 unfold eB; rw[he p hp]
end
end Go.Proofs.YtahbiajdgealnaaDoor.Fx
namespace Go.Proofs.YtahbiajdgealnaaDoor.Fx
open Go.RowKit
section
variable {P:Program} {n:Nat} {Q:Post} {f:Nat->Value} {w:World} {o:Oper}
theorem Own.zero{B:Nat}{E:TypeId}{s k:Nat}{v:Value}{x y:Nat->Value}(h:Own w B E s v k x):Own w B E s v (k+0) (qA x (k*s) y) :=
 Own.congr h fun j hj=>by unfold qA; rw[if_pos (show j<k*s from hj)]
end
end Go.Proofs.YtahbiajdgealnaaDoor.Fx
namespace Go.Proofs.YtahbiajdgealnaaDoor.Fx
open Go.RowKit
structure jB(S:Nat->Prop)(w w':World):Prop where
 os:w'.os=w.os
 tape:w'.tape=w.tape
 output:w'.output=w.output
 size:w.heap.size<=w'.heap.size
 block : ∀ k,k<w.heap.size -> ¬ S k->w'.heap[k]? = w.heap[k]?
section
variable {S S':Nat->Prop} {w0 w1 w2:World}
theorem jB.refl(S:Nat->Prop)(w:World):jB S w w:=⟨rfl,rfl,rfl,Nat.le_refl _,fun _ _ _=>rfl⟩
theorem jB.then{g:Nat}(h:jB S w0 w1)(hs:Stp g w1 w2)(hg:S g\/w0.heap.size<=g):jB S w0 w2 :=
 ⟨hs.os.trans h.os,hs.tape.trans h.tape,hs.output.trans h.output,Nat.le_trans h.size hs.size,fun k hk hne=>(hs.block k (Nat.lt_of_lt_of_le hk h.size) (fun e=>hg.elim (fun a=>hne (by rw[e]; exact a)) (fun a=>by omega))).trans (h.block k hk hne)⟩
theorem jB.grow{v:Value}(h:jB S w0 w1)(hs:w1.grownBy w2 v.ownBlock)(hg : ∀ k,v.ownBlock=some k->S k\/w0.heap.size<=k):jB S w0 w2 :=
 ⟨hs.os.trans h.os,hs.tape.trans h.tape,hs.output.trans h.output,Nat.le_trans h.size hs.size,fun k hk hne=>(hs.block k (Nat.lt_of_lt_of_le hk h.size) (fun e=>(hg k e.symm).elim hne (fun a=>by omega))).trans (h.block k hk hne)⟩
theorem jB.of_below(h:Below w0.heap.size w0 w1):jB S w0 w1:=⟨h.os,h.tape,h.output,h.size,fun k hk _=>h.block k hk⟩
theorem jB.below{B:Nat}{w:World}(hb:Below B w w0)(h:jB S w0 w1)(hS : ∀ k,S k->B<=k)(hB:B<=w0.heap.size):Below B w w1 where
 os:=h.os.trans hb.os
 tape:=h.tape.trans hb.tape
 output:=h.output.trans hb.output
 size:=Nat.le_trans hb.size h.size
 block:=fun k hk=>(h.block k (by omega) (fun e=>by have:=hS k e; omega)).trans (hb.block k hk)
theorem aP.VZ{b m:Nat}{x:Nat->Value}{T:TypeId}(h:aP w0 b m x T)(hs:jB S w0 w1)(ne : ¬ S b):aP w1 b m x T:=(hs.block b h.lt ne).trans h
theorem jT.VZ{b off m:Nat}{x:Nat->Value}(h:jT w0 b off m x)(hs:jB S w0 w1)(ne : ¬ S b):jT w1 b off m x:=fun i hi=>by
 have hc:=h i hi
 have hlt:=block_lt_of_cell hc
 unfold World.cell? at hc ⊢
 rw[hs.block b hlt ne]; exact hc
theorem Own.VZ{B:Nat}{E:TypeId}{s:Nat}{v:Value}{n:Nat}{x:Nat->Value}(h:Own w0 B E s v n x)(hs:jB S w0 w1)(ne : ∀ g,v.ownBlock=some g -> ¬ S g):Own w1 B E s v n x:=by
 refine⟨h.1,?_⟩
 rcases h.2 with a|⟨g,cap,cur,rfl,hb,hg,rest⟩
 ·exact .inl a
 exact .inr ⟨g,cap,cur,rfl,hb,(hs.block g (Array.getElem?_eq_some_iff.1 hg).1 (ne g rfl)).trans hg,rest⟩
end
section
variable {P:Program} {f:Nat->Value} {w:World} {o:Oper}
theorem Fe{T T':TypeId}{x y:Operand}{k yk:IntKind}{a c:Int}{b:Nat}(ho:o.op = .binOp .shl T x y T')(hx:ev f x = .int k a)(hy:ev f y = .int yk b)(hb:b<=k.bits)(hc:k.wrap (a*2^b)=c):Runs P f o w (.int k c):=by
 unfold Runs execOp
 simp only[ho,hx,hy]
 have hr:(binOp .shl T (.int k a) (.int yk (b:Int))).run P w = .ok (.int k c) w:=by
  simp only[binOp,Op.shift]
  rw[if_neg (by omega),show min (Int.toNat (b:Int)) k.bits=b by simp; omega,hc]
  simp
 simp only[Sem.run_bind,jG,Result.andThen_ok,hr,Sem.run_pure]
end
end Go.Proofs.YtahbiajdgealnaaDoor.Fx
namespace Go.Proofs.YtahbiajdgealnaaDoor.Fx
open Go.RowKit
theorem Out.mono{P:Program}{f:Nat->Value}{o:Oper}{w:World}{K K':Value->World->Prop}(h:Out P f o w K)(hk : ∀ v w',K v w'->K' v w'):Out P f o w K':=by
 rcases h with ⟨v,w',hr,h⟩|⟨w',hr,h⟩|⟨g,args,hr,h⟩
 ·exact .inl ⟨v,w',hr,hk v w' h⟩
 ·exact .inr (.inl ⟨w',hr,hk _ w' h⟩)
 exact .inr (.inr ⟨g,args,hr,h.mono fun e w' ⟨v,he,hv⟩=>⟨v,he,hk v w' hv⟩⟩)
def lZ(c:Nat):Bool:=Nat.ble c 1 || Nat.beq c 4
def PN(S:World->World->Prop)(c:Nat)(w w2:World):Prop:=c=0\/(c=1/\S w w2)\/w2=w
def R(P:Program)(n:Nat)(ops:List Oper)(cs:List Nat)(S:World->World->Prop)(Q:Post):List Nat->(Nat->Value)->World->Prop
 | [],f,w=>Q .normal f w
 | i::l,f,w=>(Region.wanted (opAt ops i) (yf ops.toArray f)=false/\R P n ops cs S Q l (put f (opAt ops i).dst undef) w) \/
   (Region.wanted (opAt ops i) (yf ops.toArray f)=true /\
    ((lZ (cs.getD i 3)=true /\ ∃ v,(∀ w2,PN S (cs.getD i 3) w w2->(execOp (ev f) (opAt ops i)).run P w2 = .ok (.value v) w2)/\R P n ops cs S Q l (put f (opAt ops i).dst v) w) \/
     (lZ (cs.getD i 3)=false/\Out P f (opAt ops i) w fun v w'=>(cs.getD i 3=2->S w w')/\R P n ops cs S Q l (put f (opAt ops i).dst v) w')))
section
variable {P:Program} {n:Nat} {ops:List Oper} {cs:List Nat} {S:World->World->Prop} {Q:Post}
theorem R.tail{i:Nat}{X Y:List Nat}(WV : ∀ f w,R P n ops cs S Q X f w->R P n ops cs S Q Y f w){f:Nat->Value}{w:World}(h:R P n ops cs S Q (i::X) f w):R P n ops cs S Q (i::Y) f w:=by
 unfold R at h ⊢
 rcases h with ⟨h1,h2⟩|⟨h1,⟨h2,v,h3,h4⟩|⟨h2,h3⟩⟩
 ·exact .inl ⟨h1,WV _ _ h2⟩
 ·exact .inr ⟨h1,.inl ⟨h2,v,h3,WV _ _ h4⟩⟩
 exact .inr ⟨h1,.inr ⟨h2,h3.mono fun v w' hv=>⟨hv.1,WV _ _ hv.2⟩⟩⟩
def V3(P:Program)(ops:List Oper)(cs:List Nat)(S:World->World->Prop)(i:Nat)(f:Nat->Value)(w:World)(v:Value):Prop :=
 (Region.wanted (opAt ops i) (yf ops.toArray f)=false/\v=undef)\/(Region.wanted (opAt ops i) (yf ops.toArray f)=true/\lZ (cs.getD i 3)=true /\ ∀ w2,PN S (cs.getD i 3) w w2->(execOp (ev f) (opAt ops i)).run P w2 = .ok (.value v) w2)
theorem R.DX{i:Nat}{l:List Nat}{f:Nat->Value}{w:World}{v:Value}(hs:V3 P ops cs S i f w v)(h:R P n ops cs S Q l (put f (opAt ops i).dst v) w):R P n ops cs S Q (i::l) f w:=by
 unfold R
 rcases hs with ⟨h1,rfl⟩|⟨h1,h2,h3⟩
 ·exact .inl ⟨h1,h⟩
 exact .inr ⟨h1,.inl ⟨h2,v,h3,h⟩⟩
theorem R.stl{i:Nat}{l:List Nat}{f:Nat->Value}{w:World}(hi:lZ (cs.getD i 3)=true)(h:R P n ops cs S Q (i::l) f w) : ∃ v,V3 P ops cs S i f w v/\R P n ops cs S Q l (put f (opAt ops i).dst v) w:=by
 unfold R at h
 rcases h with ⟨h1,h2⟩|⟨h1,⟨h2,v,h3,h4⟩|⟨h2,h3⟩⟩
 ·exact⟨undef,.inl ⟨h1,rfl⟩,h2⟩
 ·exact⟨v,.inr ⟨h1,h2,h3⟩,h4⟩
 rw[hi]at h2; cases h2
theorem ug{ops:List Oper}(hok:iL n ops=true){i j:Nat}(hi:i<ops.length)(hj:j<ops.length)(hne:i≠j)(f:Nat->Value)(u v:Value) :
 put (put f (opAt ops i).dst u) (opAt ops j).dst v=put (put f (opAt ops j).dst v) (opAt ops i).dst u:=by
 cases hdi:(opAt ops i).dst with
 | none=>rfl
 | some di =>
   cases hdj:(opAt ops j).dst with
   | none=>rfl
   | some dj =>
     have hd:di≠dj:=fun e=>by
      subst e
      have h1:=((dJ hok hi).1 di hdi).1
      have h2:=((dJ hok hj).1 di hdj).1
      rw[h1]at h2; exact hne (Option.some.inj h2)
     funext s
     simp only[put]
     cases h1:Nat.beq s di <;> cases h2:Nat.beq s dj <;> simp
     exact(hd ((Nat.eq_of_beq_eq_true h1).symm.trans (Nat.eq_of_beq_eq_true h2))).elim
theorem PO{ops:List Oper}(hok:iL n ops=true){i j:Nat}(hi:i<ops.length)(hj:j<ops.length)(ha:bM (opAt ops j) i=false)(f:Nat->Value)(u:Value) : ∀ x∈(opAt ops j).op.operands,ev (put f (opAt ops i).dst u) x=ev f x:=by
 intro x hx
 cases x with
 | tmp t =>
   show put f (opAt ops i).dst u t=f t
   cases hdi:(opAt ops i).dst with
   | none=>rfl
   | some d =>
     simp only[put]
     cases hb:Nat.beq t d with
     | false=>rfl
     | true =>
       have e:=Nat.eq_of_beq_eq_true hb
       subst e
       have h1:=((dJ hok hi).1 t hdi).1
       have h2:=(dJ hok hj).2.1 t i hx h1
       rw[ha]at h2; cases h2
 | _=>rfl
theorem wW{ops:List Oper}(hok:iL n ops=true){i j:Nat}(hi:i<ops.length)(hj:j<ops.length)(ha:bM (opAt ops j) i=false)(f:Nat->Value)(u:Value) :
 Region.wanted (opAt ops j) (yf ops.toArray (put f (opAt ops i).dst u))=Region.wanted (opAt ops j) (yf ops.toArray f):=by
 unfold Region.wanted
 cases hg:(opAt ops j).guard with
 | none=>rfl
 | some gb =>
   obtain⟨g,b⟩:=gb
   simp only
   have h2:=(dJ hok hj).2.2.1 g b hg
   have hgi:g≠i:=fun e=>by subst e; rw[ha]at h2; cases h2
   congr 1
   unfold yf
   cases hd:(ops.toArray[g]?).bind (·.dst)with
   | none=>rfl
   | some d =>
     simp only
     have hgl:g<ops.length:=by
      cases hq:ops.toArray[g]? with
      | none=>rw[hq]at hd; cases hd
      | some o=>have:=(Array.getElem?_eq_some_iff.1 hq).1; simpa using this
     have hdd:(opAt ops g).dst=some d:=by
      unfold opAt
      rw[List.getElem?_toArray]at hd
      rw[List.getD_eq_getElem?_getD]
      cases hq:ops[g]? with
      | none=>rw[hq]at hd; cases hd
      | some o=>rw[hq]at hd; exact hd
     have e:put f (opAt ops i).dst u d=f d:=by
      cases hdi:(opAt ops i).dst with
      | none=>rfl
      | some di =>
        simp only[put]
        cases hb:Nat.beq d di with
        | false=>rfl
        | true =>
          have e:=Nat.eq_of_beq_eq_true hb
          subst e
          have h3:=((dJ hok hi).1 d hdi).1
          have h4:=((dJ hok hgl).1 d hdd).1
          rw[h3]at h4; exact absurd (Option.some.inj h4).symm hgi
     rw[e]
theorem Ae{ops:List Oper}(hok:iL n ops=true)(hsel:Region.noSelect ops.toArray=true){i j:Nat}(hi:i<ops.length)(hj:j<ops.length)(ha:bM (opAt ops j) i=false)(f:Nat->Value)(u:Value) :
 execOp (ev (put f (opAt ops i).dst u)) (opAt ops j)=execOp (ev f) (opAt ops j) :=
 execOp_congr _ (fun c b=>Region.noSelect_spec hsel j (opAt ops j) c b (by
  unfold opAt; rw[List.getElem?_toArray,List.getD_eq_getElem?_getD,List.getElem?_eq_getElem hj]; rfl)) (PO hok hi hj ha f u)
def kr(ops:List Oper)(cs:List Nat)(aQ:List (Nat × Nat × List Nat))(i j:Nat):Bool :=
 !bM (opAt ops i) j&&((lZ (cs.getD i 3)&&(Nat.beq (cs.getD i 3) 0 || lZ (cs.getD j 3) || (Nat.beq (cs.getD i 3) 1&&Nat.beq (cs.getD j 3) 2))) || aQ.any fun c=>Nat.beq c.1 j&&Nat.beq c.2.1 i&&oM ops j c.2.2 i)
def qb(ops:List Oper)(cs:List Nat)(aQ:List (Nat × Nat × List Nat)):List Nat->Bool
 | []=>true
 | i::l=>l.all (kr ops cs aQ i)&&qb ops cs aQ l
def uh(ops:List Oper)(l:List Nat):Bool:=Nat.beq l.length ops.length&&l.all (fun i=>Nat.blt i ops.length)&&decide l.Nodup&&(List.range ops.length).all (fun i=>l.any (Nat.beq i))
theorem swap(hok:iL n ops=true)(hsel:Region.noSelect ops.toArray=true){i j:Nat}(hi:i<ops.length)(hj:j<ops.length)(hne:i≠j)(hij:bM (opAt ops j) i=false)(hji:bM (opAt ops i) j=false)(hS : ∀ w,S w w)(hT : ∀ a b c,S a b->S b c->S a c)(hc:lZ (cs.getD i 3)=true)(hc2:cs.getD i 3=0\/lZ (cs.getD j 3)=true\/(cs.getD i 3=1/\cs.getD j 3=2))
 {l:List Nat} {f:Nat->Value} {w:World} (h:R P n ops cs S Q (i::j::l) f w):R P n ops cs S Q (j::i::l) f w:=by
 obtain⟨vi,hs,h⟩:=h.stl hc
 have up : ∀(u:Value) (w':World),PN S (cs.getD i 3) w w'->V3 P ops cs S i (put f (opAt ops j).dst u) w' vi:=fun u w' hb=>by
  unfold V3
  rw[wW hok hj hi hji,Ae hok hsel hj hi hji]
  rcases hs with hs|⟨h1,h2,h3⟩
  ·exact .inl hs
  ·refine .inr ⟨h1,h2,fun w2 h4=>h3 w2 ?_⟩
   rcases hb with hb|⟨hb,hb2⟩|hb
   ·exact .inl hb
   ·rcases h4 with h4|⟨_,h4⟩|h4
    ·exact .inl h4
    ·exact .inr (.inl ⟨hb,hT _ _ _ hb2 h4⟩)
    ·subst h4; exact .inr (.inl ⟨hb,hb2⟩)
   ·subst hb; exact h4
 unfold R at h
 rw[wW hok hi hj hij,Ae hok hsel hi hj hij]at h
 rw[R]
 rcases h with ⟨h1,h2⟩|⟨h1,⟨h2,v,h3,h4⟩|⟨h2,h3⟩⟩
 ·refine .inl ⟨h1,R.DX (up undef w (.inr (.inr rfl))) ?_⟩
  rw[ug hok hi hj hne]at h2; exact h2
 ·refine .inr ⟨h1,.inl ⟨h2,v,h3,R.DX (up v w (.inr (.inr rfl))) ?_⟩⟩
  rw[ug hok hi hj hne]at h4; exact h4
 refine .inr ⟨h1,.inr ⟨h2,?_⟩⟩
 unfold Out at h3
 rw[Ae hok hsel hi hj hij]at h3
 refine Out.mono (K:=fun v w'=>(cs.getD j 3=2->S w w')/\R P n ops cs S Q l (put (put f (opAt ops i).dst vi) (opAt ops j).dst v) w') h3 fun v w' hk=>⟨hk.1,R.DX (up v w' ?_) ?_⟩
 ·rcases hc2 with e|e|⟨e,e2⟩
  ·exact .inl e
  ·rw[h2]at e; cases e
  exact .inr (.inl ⟨e,hk.1 e2⟩)
 have:=hk.2; rw[ug hok hi hj hne]at this; exact this
theorem bubble(hok:iL n ops=true)(hsel:Region.noSelect ops.toArray=true)(hS : ∀ w,S w w)(hT : ∀ a b c,S a b->S b c->S a c){j:Nat}(hj:j<ops.length){l:List Nat} :
 ∀(pre:List Nat),(∀ i∈pre,i<ops.length/\i≠j/\bM (opAt ops j) i=false/\bM (opAt ops i) j=false/\lZ (cs.getD i 3)=true/\(cs.getD i 3=0\/lZ (cs.getD j 3)=true\/(cs.getD i 3=1/\cs.getD j 3=2))) -> ∀ f w,R P n ops cs S Q (pre++j::l) f w->R P n ops cs S Q (j::(pre++l)) f w
 | [],_,f,w,h=>h
 | i::pre,hp,f,w,h=>by
   obtain⟨h1,h2,h3,h4,h5,h6⟩:=hp i (List.mem_cons_self ..)
   exact swap hok hsel h1 hj h2 h3 h4 hS hT h5 h6 (R.tail (fun f w=>bubble hok hsel hS hT hj pre (fun k hk=>hp k (List.mem_cons_of_mem _ hk)) f w) h)
theorem nH{aQ:List (Nat × Nat × List Nat)} : ∀ {l:List Nat},qb ops cs aQ l=true->l.Pairwise fun i j=>kr ops cs aQ i j=true
 | [],_=>List.Pairwise.nil
 | i::l,h=>by
   unfold qb at h
   rw[Bool.and_eq_true,List.all_eq_true]at h
   exact List.Pairwise.cons h.1 (nH h.2)
theorem R.any(hok:iL n ops=true)(hsel:Region.noSelect ops.toArray=true)(hS : ∀ w,S w w)(hT : ∀ a b c,S a b->S b c->S a c){aQ:List (Nat × Nat × List Nat)} : ∀(k:Nat) (rem:List Nat) (listed:Array Bool) (a:Act) (f:Nat->Value) (w:World),rem.length=k->listed.size=ops.length->Bf ops.toArray .any listed ->
 (∀ i,i∈rem<->i<ops.length/\listed.getD i false=false)->rem.Nodup->(rem.Pairwise fun i j=>kr ops cs aQ i j=true)->Fr a n f->R P n ops cs S Q rem f w->wpAny P .any ops.toArray (lift n Q) k listed a w:=by
 intro k
 induction k with
 | zero =>
   intro rem listed a f w hl hsz lH hmem hnd hpw ha h
   have:rem = []:=List.eq_nil_of_length_eq_zero hl
   subst this
   refine⟨?_,f,ha,h⟩
   rw[List.eq_nil_iff_forall_not_mem]
   intro j hj
   obtain⟨h1,h2,_,_⟩:=dO hj
   exact absurd ((hmem j).2 ⟨h2,h1⟩) (by simp)
 | succ k ih =>
   intro rem listed a f w hl hsz lH hmem hnd hpw ha h
   refine⟨fun hr => ?_,fun j hj => ?_⟩
   ·cases rem with
    | nil=>simp at hl
    | cons r WW =>
      exfalso
      obtain⟨h1,h2⟩:=(hmem r).1 (List.mem_cons_self ..)
      have:r∈Region.ready .any ops.toArray listed:=by
       refine mem_ready.2 ⟨getD_in (by omega) h2,opAt ops r,by unfold opAt; rw[List.getElem?_toArray,List.getD_eq_getElem?_getD,List.getElem?_eq_getElem h1]; rfl,fun e he hb => ?_⟩
       have Mf:bM (opAt ops r) e.on=true:=by
        unfold bM; rw[Array.any_eq_true']; exact⟨e,he,by rw[hb,Nat.beq_refl]; rfl⟩
       have hlt:=(dJ hok h1).2.2.2 e.on Mf
       cases hle:listed.getD e.on false with
       | true=>rfl
       | false =>
         have hm:=(hmem e.on).2 ⟨by omega,hle⟩
         rcases List.mem_cons.1 hm with e1|e1
         ·omega
         ·have hp:=(List.pairwise_cons.1 hpw).1 _ e1
          unfold kr at hp
          rw[Mf]at hp; simp at hp
      rw[hr]at this; simp at this
   ·obtain⟨h1,h2,h3,h4⟩:=dO hj
    have hjm:=(hmem j).2 ⟨h2,h1⟩
    obtain⟨pre,post,rfl⟩:=List.append_of_mem hjm
    have hb:=bubble (P:=P) (cs:=cs) (S:=S) (Q:=Q) hok hsel hS hT h2 (l:=post) pre (fun i hi=>by
     obtain⟨h5,h6⟩:=(hmem i).1 (List.mem_append_left _ hi)
     have hne:i≠j:=fun e=>by
      subst e
      exact(List.nodup_append.1 hnd).2.2 i hi i (List.mem_cons_self ..) rfl
     have hp:kr ops cs aQ i j=true:=(List.pairwise_append.1 hpw).2.2 i hi j (List.mem_cons_self ..)
     unfold kr at hp
     rw[Bool.and_eq_true,Bool.or_eq_true]at hp
     have PS:bM (opAt ops j) i=false:=by
      cases hq:bM (opAt ops j) i with
      | false=>rfl
      | true=>have:=h4 i hq; rw[h6]at this; cases this
     refine⟨h5,hne,PS,by simpa using hp.1,?_⟩
     rcases hp.2 with hp|hp
     ·rw[Bool.and_eq_true,Bool.or_eq_true]at hp
      refine⟨hp.1,?_⟩
      rcases hp.2 with q|q
      ·rw[Bool.or_eq_true]at q
       exact q.elim (fun q => .inl (Nat.eq_of_beq_eq_true q)) (fun q => .inr (.inl q))
      ·rw[Bool.and_eq_true]at q
       exact .inr (.inr ⟨Nat.eq_of_beq_eq_true q.1,Nat.eq_of_beq_eq_true q.2⟩)
     ·exfalso
      rw[List.any_eq_true]at hp
      obtain⟨c,_,hc⟩:=hp
      rw[Bool.and_eq_true,Bool.and_eq_true]at hc
      obtain⟨m,hm⟩:=fD hc.2
      cases m with
      | zero=>unfold reach at hm; simp at hm; exact hne hm.symm
      | succ m =>
        unfold reach at hm
        rw[Bool.or_eq_true]at hm
        rcases hm with hm|hm
        ·simp at hm; exact hne hm.symm
        ·rw[h3]at hm
         simp only at hm
         rw[Array.any_eq_true']at hm
         obtain⟨e,he,hm⟩:=hm
         rw[Bool.and_eq_true]at hm
         have Mf:bM (opAt ops j) e.on=true:=by
          unfold bM; rw[Array.any_eq_true']; exact⟨e,he,by rw[hm.1,Nat.beq_refl]; rfl⟩
         have:=lH.reach _ _ hm.2 (h4 e.on Mf)
         rw[h6]at this; cases this) f w h
    have hperm:(pre++post).length=k:=by simp at hl ⊢; omega
    have hnd':(pre++post).Nodup:=by
     refine hnd.sublist ?_
     exact List.Sublist.append_left (List.sublist_cons_self ..) pre
    have PU:(pre++post).Pairwise fun i j=>kr ops cs aQ i j=true:=hpw.sublist (List.Sublist.append_left (List.sublist_cons_self ..) pre)
    have hmem' : ∀ i,i∈pre++post<->i<ops.length/\(listed.setIfInBounds j true).getD i false=false:=fun i=>by
     by_cases e:j=i
     ·subst e
      rw[set_self (by omega)]
      constructor
      ·intro hm
       exfalso
       have hd:=List.nodup_append.1 hnd
       rcases List.mem_append.1 hm with q|q
       ·exact hd.2.2 j q j (List.mem_cons_self ..) rfl
       ·exact(List.nodup_cons.1 hd.2.1).1 q
      ·intro q; cases q.2
     ·rw[gQ e,<- hmem i]
      simp only[List.mem_append,List.mem_cons]
      constructor
      ·rintro (q|q)
       ·exact .inl q
       ·exact .inr (.inr q)
      ·rintro (q|q|q)
       ·exact .inl q
       ·exact absurd q.symm e
       ·exact .inr q
    have next : ∀(v:Value) (w':World),R P n ops cs S Q (pre++post) (put f (opAt ops j).dst v) w'->wpAny P .any ops.toArray (lift n Q) k (listed.setIfInBounds j true) (a.put (opAt ops j).dst v) w':=fun v w' hR =>
     ih (pre++post) _ _ _ w' hperm (by simp[hsz]) (lH.set hj) hmem' hnd' PU (ha.put (by
      cases hd:(opAt ops j).dst with
      | none=>rfl
      | some d=>have:=((dJ hok h2).1 d hd).2; simpa [inn,Nat.blt_eq] using this) v) hR
    unfold wpOp
    rw[h3]
    simp only
    rw[ha.yf]
    unfold R at hb
    rcases hb with ⟨q1,q2⟩|⟨q1,⟨q2,v,q3,q4⟩|⟨q2,q3⟩⟩
    ·rw[if_neg (by rw[q1]; decide)]; exact next _ _ q2
    ·rw[if_pos q1]
     refine .inl (Out.wp (K:=fun v' w'=>v'=v/\w'=w) ha (.inl ⟨v,w,q3 w (.inr (.inr rfl)),rfl,rfl⟩) ?_)
     rintro v' w' ⟨rfl,rfl⟩
     exact next _ _ q4
    ·rw[if_pos q1]
     exact .inl (Out.wp ha q3 fun v w' hk=>next v w' hk.2)
theorem W.bH{f:Nat->Value}{w:World}{id:Nat}(l:List Nat)(cs:List Nat)(S:World->World->Prop)(hS : ∀ w,S w w)(hT : ∀ a b c,S a b->S b c->S a c)(aQ:List (Nat × Nat × List Nat))(hm:P.follows .mixedOrders=true)(hok:iL n ops=true)(hsel:Region.noSelect ops.toArray=true)(hp:uh ops l=true)(hpp:qb ops cs aQ l=true)
 (h : ∀ w1,Below w.heap.size w w1->w1.heap.size=w.heap.size->R P n ops cs S Q l f w1):W P n (.region id ops.toArray true) Q f w:=fun a ha=>by
 refine wp_region_any hm ?_
 unfold uh at hp
 rw[Bool.and_eq_true,Bool.and_eq_true,Bool.and_eq_true,List.all_eq_true,List.all_eq_true]at hp
 obtain⟨⟨⟨p1,p2⟩,p3⟩,p4⟩:=hp
 have hlen:=Nat.eq_of_beq_eq_true p1
 have TP:l.Nodup:=of_decide_eq_true p3
 have:=R.any (P:=P) (Q:=Q) (aQ:=aQ) hok hsel hS hT ops.length l (Array.replicate ops.length false) a f { w with drawn:=w.drawn+1 } hlen (by simp) (Bf.start _ _ _) (fun i=>by
  have hg : ∀ i,(Array.replicate ops.length false).getD i false=false:=fun i=>getD_replicate_false _ _
  constructor
  ·intro hi; exact⟨by simpa [Nat.blt_eq] using p2 i hi,hg i⟩
  ·intro hi
   obtain⟨k,hk,hk2⟩:=List.any_eq_true.1 (p4 i (by simpa using hi.1))
   rw[Nat.eq_of_beq_eq_true hk2]; exact hk) TP (nH hpp) ha (h { w with drawn:=w.drawn+1 } (Below.refl _ _).drew rfl)
 simpa using this
end
section
variable {P:Program} {n:Nat} {ops:List Oper} {cs:List Nat} {S:World->World->Prop} {Q:Post} {f:Nat->Value} {w:World} {i:Nat} {l:List Nat}
theorem R.nil(h:Q .normal f w):R P n ops cs S Q [] f w:=h
theorem R.skip(hw:Region.wanted (opAt ops i) (yf ops.toArray f)=false)(h:R P n ops cs S Q l (put f (opAt ops i).dst undef) w):R P n ops cs S Q (i::l) f w := .inl ⟨hw,h⟩
theorem R.pure{v:Value}(hw:Region.wanted (opAt ops i) (yf ops.toArray f)=true)(hc:Nat.beq (cs.getD i 3) 0=true)(hr : ∀ w2,(execOp (ev f) (opAt ops i)).run P w2 = .ok (.value v) w2)(h:R P n ops cs S Q l (put f (opAt ops i).dst v) w):R P n ops cs S Q (i::l) f w :=
 .inr ⟨hw,.inl ⟨by rw[Nat.eq_of_beq_eq_true hc]; rfl,v,fun w2 _=>hr w2,h⟩⟩
theorem R.read{v:Value}(hw:Region.wanted (opAt ops i) (yf ops.toArray f)=true)(hc:Nat.beq (cs.getD i 3) 1=true)(hS:S w w)(hr : ∀ w2,S w w2->(execOp (ev f) (opAt ops i)).run P w2 = .ok (.value v) w2)(h:R P n ops cs S Q l (put f (opAt ops i).dst v) w):R P n ops cs S Q (i::l) f w :=
 .inr ⟨hw,.inl ⟨by rw[Nat.eq_of_beq_eq_true hc]; rfl,v,fun w2 hb=>hr w2 (by
  rcases hb with e|⟨_,e⟩|e
  ·rw[Nat.eq_of_beq_eq_true hc]at e; cases e
  ·exact e
  ·subst e; exact hS),h⟩⟩
theorem R.still{v:Value}(hw:Region.wanted (opAt ops i) (yf ops.toArray f)=true)(hc:Nat.beq (cs.getD i 3) 4=true)(hr:(execOp (ev f) (opAt ops i)).run P w = .ok (.value v) w)(h:R P n ops cs S Q l (put f (opAt ops i).dst v) w):R P n ops cs S Q (i::l) f w :=
 .inr ⟨hw,.inl ⟨by rw[Nat.eq_of_beq_eq_true hc]; rfl,v,fun w2 hb=>by
  rcases hb with e|⟨e,_⟩|e
  ·rw[Nat.eq_of_beq_eq_true hc]at e; cases e
  ·rw[Nat.eq_of_beq_eq_true hc]at e; cases e
  ·subst e; exact hr,h⟩⟩
theorem Rp(v:Value)(hr : ∀ w2,Runs P f (opAt ops i) w2 v)(h:R P n ops cs S Q l (put f (opAt ops i).dst v) w)(hw:Region.wanted (opAt ops i) (yf ops.toArray f)=true:=by rfl)(hc:Nat.beq (cs.getD i 3) 0=true:=by rfl):R P n ops cs S Q (i::l) f w:=R.pure hw hc hr h
theorem R.s(v:Value)(hr:Runs P f (opAt ops i) w v)(h:R P n ops cs S Q l (put f (opAt ops i).dst v) w)(hw:Region.wanted (opAt ops i) (yf ops.toArray f)=true:=by rfl)(hc:Nat.beq (cs.getD i 3) 4=true:=by rfl):R P n ops cs S Q (i::l) f w:=R.still hw hc hr h
theorem R.fP(hc:Nat.beq (cs.getD i 3) 3=true)(h:L P n ops.toArray (fun _ f' w'=>R P n ops cs S Q l f' w') [opAt ops i] f w):R P n ops cs S Q (i::l) f w:=by
 have hc':=Nat.eq_of_beq_eq_true hc
 obtain⟨_,⟨h1,h2⟩|⟨h1,h2⟩⟩:=h
 ·refine .inr ⟨h1,.inr ⟨by rw[hc']; rfl,Out.mono (K:=fun v w'=>R P n ops cs S Q l (put f (opAt ops i).dst v) w') h2 fun v w' hk=>⟨fun e=>by omega,hk⟩⟩⟩
 exact .inl ⟨h1,h2⟩
theorem R.make(hc:Nat.beq (cs.getD i 3) 2=true)(h:L P n ops.toArray (fun _ f' w'=>S w w'/\R P n ops cs S Q l f' w') [opAt ops i] f w):R P n ops cs S Q (i::l) f w:=by
 have hc':=Nat.eq_of_beq_eq_true hc
 obtain⟨_,⟨h1,h2⟩|⟨h1,h2⟩⟩:=h
 ·exact .inr ⟨h1,.inr ⟨by rw[hc']; rfl,Out.mono (K:=fun v w'=>S w w'/\R P n ops cs S Q l (put f (opAt ops i).dst v) w') h2 fun v w' hk=>⟨fun _=>hk.1,hk.2⟩⟩⟩
 exact .inl ⟨h1,h2.2⟩
def Mk(w w':World):Prop:=Below w.heap.size w w'
theorem Mk.refl(w:World):Mk w w:=Below.refl _ _
theorem Mk.trans(a b c:World)(h:Mk a b)(k:Mk b c):Mk a c:=yS h k
end
end Go.Proofs.YtahbiajdgealnaaDoor.Fx
namespace Go.Proofs.YtahbiajdgealnaaDoor.Fx
open Go.RowKit
theorem u8e{a c:Int}(h:0<=c/\c<=255)(e:a=c):IntKind.u8.wrap a=c:=by subst e; exact IntWalk.u8_in _ h
def flat(s:Nat)(F:Nat->Nat->Value):Nat->Value:=fun p=>F (p / s) (p % s)
theorem qc{s k j p:Nat}{F:Nat->Nat->Value}(hp:p=s*k+j)(hj:j<s):flat s F p=F k j:=by
 subst hp
 have hs:0<s:=by omega
 unfold flat
 rw[Nat.add_comm,Nat.add_mul_div_left _ _ hs,Nat.div_eq_of_lt hj,Nat.zero_add,Nat.add_mul_mod_self_left,Nat.mod_eq_of_lt hj]
theorem jK{s n:Nat}{F G:Nat->Nat->Value}(h : ∀ k,k<n -> ∀ j,j<s->F k j=G k j) : ∀ p,p<n*s->flat s F p=flat s G p:=fun p hp=>by
 have hs:0<s:=Nat.pos_of_ne_zero fun e=>by subst e; simp at hp
 unfold flat
 exact h _ (Nat.div_lt_of_lt_mul (by rw[Nat.mul_comm]; exact hp)) _ (Nat.mod_lt _ hs)
def I5(F:Nat->Nat->Value)(k:Nat)(y:Nat->Value):Nat->Nat->Value:=fun i=>if i=k then y else F i
theorem Bv{s n:Nat}{F:Nat->Nat->Value}{y z:Nat->Value} : ∀ p,p<(n+1)*s->qA (flat s F) (n*s) (aX z (0*s) s y) p=flat s (I5 F n y) p:=fun p hp=>by
 have hs:0<s:=Nat.pos_of_ne_zero fun e=>by subst e; simp at hp
 unfold qA
 by_cases h:p<n*s
 ·rw[if_pos h]
  have h1:p / s<n:=Nat.div_lt_of_lt_mul (by rw[Nat.mul_comm]; exact h)
  unfold flat I5
  rw[if_neg (by omega)]
 ·rw[if_neg h]
  have e:p=s*n+(p-n*s):=by rw[Nat.mul_comm s n]; omega
  have hj:p-n*s<s:=by rw[Nat.add_mul]at hp; omega
  rw[qc e hj]
  unfold aX I5
  rw[if_pos (by omega),if_pos rfl]
  congr 1; omega
def qB(w:World)(a:Option Addr)(n s:Nat)(x:Nat->Value):Prop:=0<n -> ∃ b off,a=some ⟨b,off,none⟩/\jT w b off (n*s) x
section
variable {w w':World} {a:Option Addr} {n s:Nat} {x:Nat->Value}
theorem qB.below{B:Nat}(h:qB w a n s x)(hb:Below B w w')(hB : ∀ b off,a=some ⟨b,off,none⟩->b<B):qB w' a n s x:=fun h0=>by
 obtain⟨b,off,e,hc⟩:=h h0
 exact⟨b,off,e,hc.below hb (hB b off e)⟩
theorem qB.up(h:qB w a n s x)(hb:Below w.heap.size w w')(hs:Nat.blt 0 s=true):qB w' a n s x:=fun h0=>by
 obtain⟨b,off,e,hc⟩:=h h0
 have hs':0<s:=by simpa [Nat.blt_eq] using hs
 exact⟨b,off,e,hc.below hb (hc.lt (Nat.mul_pos h0 hs'))⟩
theorem qB.at{F:Nat->Nat->Value}(h:qB w a n s (flat s F)){k:Nat}(hk:k<n) : ∃ b off,a=some ⟨b,off,none⟩/\jT w b (off+s*k) s (F k):=by
 obtain⟨b,off,e,hc⟩:=h (by omega)
 refine⟨b,off,e,fun i hi => ?_⟩
 have hlt:s*k+i<n*s:=by
  have h1:(k+1)*s<=n*s:=Nat.mul_le_mul_right s hk
  rw[Nat.add_mul,Nat.one_mul,Nat.mul_comm k s]at h1
  omega
 have:=hc (s*k+i) hlt
 rw[qc rfl hi,<- Nat.add_assoc]at this
 exact this
theorem Own.arr{B:Nat}{E:TypeId}{c:Nat}(h:Own w B E s (.slice a n c) n x):qB w a n s x:=fun h0=>by
 obtain⟨g,cap,e,_,_,_,hc⟩:=h.form h0
 simp only[Value.slice.injEq,true_and]at e
 exact⟨g,0,e.1,hc⟩
theorem Own.addr{B:Nat}{E:TypeId}{c:Nat}(h:Own w B E s (.slice a n c) n x)(h0:0<n) : ∃ g,a=some ⟨g,0,none⟩:=by
 obtain⟨g,cap,e,_⟩:=h.form h0
 simp only[Value.slice.injEq,true_and]at e
 exact⟨g,e.1⟩
end
def Ty(w:World)(g:Nat)(T:TypeId):Prop := ∃ c,w.heap[g]? = some (.cells c T (0,0))
theorem Ty.ne{w:World}{g g':Nat}{T T':TypeId}(h:Ty w g T)(h':Ty w g' T')(ne:T≠T'):g≠g':=fun e=>by
 subst e
 obtain⟨c,h⟩:=h
 obtain⟨c',h'⟩:=h'
 rw[h]at h'
 simp only[Option.some.injEq,Obj.cells.injEq]at h'
 exact ne h'.2.1
theorem aP.ty{w:World}{g n:Nat}{x:Nat->Value}{T:TypeId}(h:aP w g n x T):Ty w g T:=⟨_,h⟩
theorem Own.ty{w:World}{B:Nat}{E:TypeId}{s:Nat}{v:Value}{n:Nat}{x:Nat->Value}(h:Own w B E s v n x){g:Nat}(hg:v.ownBlock=some g):Ty w g E:=by
 rcases h.2 with ⟨rfl,_⟩|⟨g',cap,cur,rfl,hb,hgg,_⟩
 ·cases hg
 simp only[Value.ownBlock,Option.some.injEq]at hg; subst hg
 exact⟨_,hgg⟩
theorem Own.V4{w:World}{B:Nat}{E:TypeId}{s g cap:Nat}{n:Nat}{x:Nat->Value}(h:Own w B E s (.slice (some ⟨g,0,none⟩) n cap) n x):Ty w g E:=h.ty rfl
structure gD(Ts:List TypeId)(w w':World):Prop where
 os:w'.os=w.os
 tape:w'.tape=w.tape
 output:w'.output=w.output
 size:w.heap.size<=w'.heap.size
 block : ∀ k,k<w.heap.size->(∀ T,Ty w k T->Ts.contains T=false)->w'.heap[k]? = w.heap[k]?
theorem Ty.only{w:World}{k:Nat}{T T':TypeId}(h:Ty w k T)(h':Ty w k T'):T'=T:=Classical.byContradiction fun ne=>Ty.ne h' h ne rfl
section
variable {w w':World} {T:TypeId} {Ts:List TypeId}
theorem gD.bP{g:Nat}(hs:Stp g w w')(ht:Ty w g T):gD [T] w w':=⟨hs.os,hs.tape,hs.output,hs.size,fun k hk hn=>hs.block k hk fun e=>by
 have:=hn T (by rw[e]; exact ht)
 simp at this⟩
theorem gD.oO{B:Nat}{s:Nat}{v:Value}{n:Nat}{x:Nat->Value}(hg:w.grownBy w' v.ownBlock)(h:Own w B T s v n x):gD [T] w w':=⟨hg.os,hg.tape,hg.output,hg.size,fun k hk hn=>hg.block k hk fun e=>by
 have:=hn T (h.ty e.symm)
 simp at this⟩
theorem gD.of_below(h:Below w.heap.size w w'):gD Ts w w':=⟨h.os,h.tape,h.output,h.size,fun k hk _=>h.block k hk⟩
theorem gD.refl(w:World):gD Ts w w:=⟨rfl,rfl,rfl,Nat.le_refl _,fun _ _ _=>rfl⟩
theorem gD.trans(a b c:World)(h:gD Ts a b)(k:gD Ts b c):gD Ts a c:=⟨k.os.trans h.os,k.tape.trans h.tape,k.output.trans h.output,Nat.le_trans h.size k.size,fun i hi hn =>
 have e:=h.block i hi hn
 (k.block i (Nat.lt_of_lt_of_le hi h.size) fun T ⟨cc,ht⟩=>hn T ⟨cc,by rw[<- e]; exact ht⟩).trans e⟩
theorem gD.wide{Us:List TypeId}(h:gD Ts w w')(hs:Ts.all Us.contains=true):gD Us w w':=⟨h.os,h.tape,h.output,h.size,fun k hk hn=>h.block k hk fun T ht=>by
 cases hq:Ts.contains T with
 | false=>rfl
 | true =>
   have h1:=hn T ht
   rw[List.all_eq_true.1 hs T (List.contains_iff_mem.1 hq)]at h1; cases h1⟩
theorem aP.aU{b n:Nat}{x:Nat->Value}{T0:TypeId}(h:aP w b n x T0)(hs:gD Ts w w')(ne:Ts.contains T0=false):aP w' b n x T0:=(hs.block b h.lt fun _ ht=>by rw[Ty.only h.ty ht]; exact ne).trans h
theorem Own.aU{B:Nat}{E:TypeId}{s:Nat}{v:Value}{n:Nat}{x:Nat->Value}(h:Own w B E s v n x)(hs:gD Ts w w')(ne:Ts.contains E=false):Own w' B E s v n x:=by
 refine⟨h.1,?_⟩
 rcases h.2 with a|⟨g,cap,cur,rfl,hb,hg,rest⟩
 ·exact .inl a
 exact .inr ⟨g,cap,cur,rfl,hb,(hs.block g (Array.getElem?_eq_some_iff.1 hg).1 fun _ ht=>by rw[Ty.only ⟨_,hg⟩ ht]; exact ne).trans hg,rest⟩
theorem Own.mono{B B':Nat}{E:TypeId}{s:Nat}{v:Value}{n:Nat}{x:Nat->Value}(h:Own w B E s v n x)(hB:B'<=B):Own w B' E s v n x:=by
 refine⟨h.1,?_⟩
 rcases h.2 with a|⟨g,cap,cur,rfl,hb,rest⟩
 ·exact .inl a
 exact .inr ⟨g,cap,cur,rfl,Nat.le_trans hB hb,rest⟩
theorem Own.oP{B:Nat}{E:TypeId}{s:Nat}{v v':Value}{n:Nat}{x:Nat->Value}(h:Own w B E s v n x)(e:v=v'):Own w B E s v' n x:=e ▸ h
end
section
variable {P:Program} {f:Nat->Value} {w:World} {o:Oper}
theorem TQ{T T':TypeId}{x y:Operand}{k yk:IntKind}{a q:Int}{b:Nat}(ho:o.op = .binOp .shr T x y T')(hx:ev f x = .int k a)(hy:ev f y = .int yk b)(hb:b<=k.bits)(hq:(2:Int)^b=q):Runs P f o w (.int k (a / q)):=by
 unfold Runs execOp
 simp only[ho,hx,hy]
 have hr:(binOp .shr T (.int k a) (.int yk (b:Int))).run P w = .ok (.int k (a / q)) w:=by
  simp only[binOp]
  rw[shift_shr _ _ _ _ (by omega) (by omega),show((b:Int)).toNat=b by omega,hq]
  simp
 simp only[Sem.run_bind,jG,Result.andThen_ok,hr,Sem.run_pure]
end
theorem jg{n o m:Nat}{x y:Nat->Value}(hx : ∀ j,j<n->(x j).oneCell'=true)(hy : ∀ j,j<m->(y j).oneCell'=true) : ∀ j,j<n->(aX x o m y j).oneCell'=true:=fun j hj=>by
 unfold aX; split
 ·rename_i h; exact hy _ (by omega)
 ·exact hx j hj
def dB{α:Type}(f:Nat->α)(k:Nat)(v:α):Nat->α:=fun i=>if i<k then f i else if i=k then v else f (i-1)
def down(P:Nat->Bool):Nat->Nat
 | 0=>0
 | n+1=>if P n then down P n else n+1
theorem qg(P:Nat->Bool) : ∀ n,down P n<=n
 | 0=>Nat.le_refl _
 | n+1=>by
   unfold down; split
   ·have:=qg P n; omega
   ·exact Nat.le_refl _
theorem Af{P:Nat->Bool} : ∀ {n i:Nat},down P n<=i->i<n->P i=true
 | 0,_,_,h=>absurd h (Nat.not_lt_zero _)
 | n+1,i,h1,h2=>by
   unfold down at h1
   split at h1
   ·rename_i hp
    by_cases e:i=n
    ·subst e; exact hp
    ·exact Af h1 (by omega)
   ·omega
theorem Ag{P:Nat->Bool} : ∀ {n j:Nat},down P n=j+1->P j=false
 | 0,_,h=>by unfold down at h; omega
 | n+1,j,h=>by
   unfold down at h
   split at h
   ·exact Ag h
   ·rename_i hp
    have:j=n:=by omega
    subst this
    exact Bool.eq_false_iff.2 hp
end Go.Proofs.YtahbiajdgealnaaDoor.Fx
namespace Go.Proofs.YtahbiajdgealnaaDoor.Fx
open Go.RowKit Go.MapKept
def Mp(w:World)(b n:Nat)(key:Nat->Int)(val:Nat->Value):Prop :=
 ∃ es clock,w.heap[b]? = some (.map es clock)/\Stamped es clock/\es.size=n /\ ∀ i,i<n -> ∃ e,es[i]? = some e/\e.key = .int .u64 (key i)/\e.val=val i
def aH{α:Type}(f:Nat->α)(j:Nat)(v:α):Nat->α:=fun i=>if i=j then v else f i
section
variable {w w':World} {b n:Nat} {key:Nat->Int} {val:Nat->Value}
theorem Mp.lt(h:Mp w b n key val):b<w.heap.size:=by
 obtain⟨es,c,h,_⟩:=h
 exact(Array.getElem?_eq_some_iff.1 h).1
theorem Mp.keep(h:Mp w b n key val)(e:w'.heap[b]? = w.heap[b]?):Mp w' b n key val:=by
 obtain⟨es,c,h1,h2⟩:=h
 exact⟨es,c,e.trans h1,h2⟩
theorem Mp.aC{g:Nat}(h:Mp w b n key val)(hs:Stp g w w')(ne:b≠g):Mp w' b n key val:=h.keep (hs.block b h.lt ne)
theorem Mp.up(h:Mp w b n key val)(hb:Below w.heap.size w w'):Mp w' b n key val:=h.keep (hb.block b h.lt)
theorem Mp.kU{T:TypeId}(h:Mp w b n key val)(ht:Ty w b T):False:=by
 obtain⟨es,c,h,_⟩:=h
 obtain⟨cs,ht⟩:=ht
 rw[h]at ht; cases ht
theorem Mp.aU{Ts:List TypeId}(h:Mp w b n key val)(hs:gD Ts w w')(_:True):Mp w' b n key val:=h.keep (hs.block b h.lt fun _ ht=>(h.kU ht).elim)
theorem Mp.ne{g:Nat}{T:TypeId}(h:Mp w b n key val)(ht:Ty w g T):g≠b:=fun e=>h.kU (e ▸ ht)
theorem Mp.mM{key':Nat->Int}{val':Nat->Value}(h:Mp w b n key val)(e : ∀ i,i<n->key i=key' i/\val i=val' i):Mp w b n key' val':=by
 obtain⟨es,c,h1,h2,h3,h4⟩:=h
 exact⟨es,c,h1,h2,h3,fun i hi=>by
  obtain⟨x,a,d,f⟩:=h4 i hi
  exact⟨x,a,by rw[d,(e i hi).1],by rw[f,(e i hi).2]⟩⟩
theorem Mp.inj(h:Mp w b n key val) : ∀ i j,i<n->j<n->key i=key j->i=j:=fun i j hi hj e=>by
 obtain⟨es,c,_,⟨_,_,hk⟩,hn,hg⟩:=h
 obtain⟨x,hx,kx,_⟩:=hg i hi
 obtain⟨y,hy,ky,_⟩:=hg j hj
 rw[Array.getElem?_eq_some_iff]at hx hy
 obtain⟨hi',hx⟩:=hx
 obtain⟨hj',hy⟩:=hy
 have hp:=List.pairwise_iff_getElem.1 hk
 have key2 : ∀ a c (ha:a<es.size) (hc:c<es.size),a<c->es[a].key≠es[c].key:=fun a c ha hc hac=>by
  have:=hp a c (by simpa using ha) (by simpa using hc) hac
  simpa only[List.getElem_map,Array.getElem_toList] using this
 rcases Nat.lt_trichotomy i j with h1|h1|h1
 ·exact absurd (by rw[hx,hy,kx,ky,e]) (key2 i j hi' hj' h1)
 ·exact h1
 ·exact absurd (by rw[hx,hy,kx,ky,e]) (key2 j i hj' hi' h1)
end
section
variable {P:Program} {f:Nat->Value} {w:World} {o:Oper}
variable {b n:Nat} {key:Nat->Int} {val:Nat->Value}
theorem Mp.find(h:Mp w b n key val){es:Array MapEntry}{c:Nat}(he:w.heap[b]? = some (.map es c))(k:Int) :
 (Instr.findNow (.int .u64) (.int .u64 k) es.toList 0=some none /\ ∀ i,i<n->key i≠k) \/ ∃ j,j<n/\key j=k/\Instr.findNow (.int .u64) (.int .u64 k) es.toList 0=some (some (j,val j)):=by
 obtain⟨es',c',h1,h2,h3,h4⟩:=h
 rw[he]at h1
 simp only[Option.some.injEq,Obj.map.injEq]at h1
 obtain⟨rfl,rfl⟩:=h1
 have hkeys : ∀ x∈es.toList,IsKey (.int .u64) x.key:=fun x hx=>by
  obtain⟨i,hi,e⟩:=List.getElem_of_mem hx
  obtain⟨y,hy,ky,_⟩:=h4 i (by simpa [<- h3] using hi)
  have:y=x:=by
   have h5:es.toList[i]? = some x:=by rw[List.getElem?_eq_getElem hi,e]
   rw[Array.getElem?_toList,hy]at h5
   exact Option.some.inj h5
  rw[<- this,ky]; exact rfl
 rcases findNow_spec (d := .int .u64) (k := .int .u64 k) rfl es.toList 0 hkeys with ⟨h5,h6⟩|⟨j,e,h5,h6,h7⟩
 ·left
  refine⟨h5,fun i hi e => ?_⟩
  obtain⟨y,hy,ky,_⟩:=h4 i hi
  exact h6 y (Array.mem_toList_iff.2 (Array.mem_of_getElem? hy)) (by rw[ky,e])
 right
 have hj:j<n:=by
  rw[Array.getElem?_toList]at h6
  rw[<- h3]; exact(Array.getElem?_eq_some_iff.1 h6).1
 obtain⟨y,hy,ky,vy⟩:=h4 j hj
 rw[Array.getElem?_toList,hy]at h6
 obtain rfl:=Option.some.inj h6
 rw[ky]at h7
 simp only[Value.int.injEq,true_and]at h7
 exact⟨j,hj,h7,by rw[h5,Nat.zero_add,vy]⟩
theorem jP{T K E:TypeId}{k:Int}{ok:Bool}{z:Value}(h:Mp w b n key val)(hu:P.underlying T=some (.map K E))(hk:P.underlying K=some (.int .u64))(hz:(zeroValue E).run P w = .ok z w) :
 ((∀ i,i<n->key i≠k)->(Instr.lookup T (.map (some b)) (.int .u64 k) ok).run P w = .ok (if ok then .tuple #[z,.bool false]else z) w) /\
 ∀ j,j<n->key j=k->(Instr.lookup T (.map (some b)) (.int .u64 k) ok).run P w = .ok (if ok then .tuple #[val j,.bool true]else val j) w:=by
 have hm:=h
 obtain⟨es,c,h1,_⟩:=hm
 have hck:(Instr.checkKey es.isEmpty 10000 K (.int .u64 k)).run P w = .ok () w:=run_checkKey hk (show IsKey (.int .u64) (.int .u64 k)from rfl) _ 9999
 rcases h.find h1 k with ⟨h5,h6⟩|⟨j,hj,hkj,h5⟩
 ·refine⟨fun _ => ?_,fun j hj e=>absurd e (h6 j hj)⟩
  have hf:=run_findKey (w:=w) hk h5
  unfold Instr.lookup
  simp only[Sem.run_bind,run_underlying hu,Result.andThen_ok,Go.MapKept.run_getObj_map h1,Sem.run_pure,hck,hf,hz]
 refine⟨fun hno=>absurd hkj (hno j hj),fun j2 hj2 e => ?_⟩
 obtain rfl:j2=j:=h.inj j2 j hj2 hj (e.trans hkj.symm)
 have hf:=run_findKey (w:=w) hk h5
 unfold Instr.lookup
 simp only[Sem.run_bind,run_underlying hu,Result.andThen_ok,Go.MapKept.run_getObj_map h1,Sem.run_pure,hck,hf]
theorem Fg{T K E:TypeId}{x ix:Operand}{k:Int}{z:Value}(ho:o.op = .lookup T x ix false)(hx:ev f x = .map (some b))(hi:ev f ix = .int .u64 k)(h:Mp w b n key val)(hu:P.underlying T=some (.map K E))(hk:P.underlying K=some (.int .u64))(hz:(zeroValue E).run P w = .ok z w)(hn : ∀ i,i<n->key i≠k):Runs P f o w z:=by
 unfold Runs execOp
 simp only[ho,hx,hi,Sem.run_bind,((jP (ok:=false) h hu hk hz).1 hn),Result.andThen_ok,Sem.run_pure]; rfl
theorem nJ{T K E:TypeId}{x ix:Operand}{k:Int}{z v:Value}{j:Nat}(ho:o.op = .lookup T x ix false)(hx:ev f x = .map (some b))(hi:ev f ix = .int .u64 k)(h:Mp w b n key val)(hu:P.underlying T=some (.map K E))(hk:P.underlying K=some (.int .u64))(hz:(zeroValue E).run P w = .ok z w)(hj:j<n)(he:key j=k)(hv:val j=v):Runs P f o w v:=by
 subst hv
 unfold Runs execOp
 simp only[ho,hx,hi,Sem.run_bind,((jP (ok:=false) h hu hk hz).2 j hj he),Result.andThen_ok,Sem.run_pure]; rfl
theorem wX{T K E:TypeId}{x ix:Operand}{k:Int}{z:Value}(ho:o.op = .lookup T x ix true)(hx:ev f x = .map (some b))(hi:ev f ix = .int .u64 k)(h:Mp w b n key val)(hu:P.underlying T=some (.map K E))(hk:P.underlying K=some (.int .u64))(hz:(zeroValue E).run P w = .ok z w)(hn : ∀ i,i<n->key i≠k):Runs P f o w (.tuple #[z,.bool false]):=by
 unfold Runs execOp
 simp only[ho,hx,hi,Sem.run_bind,((jP (ok:=true) h hu hk hz).1 hn),Result.andThen_ok,Sem.run_pure]; rfl
theorem wY{T K E:TypeId}{x ix:Operand}{k:Int}{z v:Value}{j:Nat}(ho:o.op = .lookup T x ix true)(hx:ev f x = .map (some b))(hi:ev f ix = .int .u64 k)(h:Mp w b n key val)(hu:P.underlying T=some (.map K E))(hk:P.underlying K=some (.int .u64))(hz:(zeroValue E).run P w = .ok z w)(hj:j<n)(he:key j=k)(hv:val j=v):Runs P f o w (.tuple #[v,.bool true]):=by
 subst hv
 unfold Runs execOp
 simp only[ho,hx,hi,Sem.run_bind,((jP (ok:=true) h hu hk hz).2 j hj he),Result.andThen_ok,Sem.run_pure]; rfl
end
section
variable {P:Program} {w:World} {b n:Nat} {key:Nat->Int} {val:Nat->Value}
theorem Ah{w:World}{b:Nat}{o o':Obj}(hb:w.heap[b]? = some o):({ w with heap:=w.heap.setIfInBounds b o' }:World).heap[b]? = some o'/\Stp b w { w with heap:=w.heap.setIfInBounds b o' }/\({ w with heap:=w.heap.setIfInBounds b o' }:World).heap.size=w.heap.size:=by
 obtain⟨h1,h2⟩:=heap_set (o':=o') hb
 exact⟨h1,⟨rfl,rfl,rfl,by simp,fun k _ hne=>h2 k hne⟩,by simp⟩
theorem qJ{T K E:TypeId}{k:Int}{v:Value}(h:Mp w b n key val)(hu:P.underlying T=some (.map K E))(hk:P.underlying K=some (.int .u64)) :
 (∀ j,j<n->key j=k -> ∃ w',(Instr.mapUpdate T (.map (some b)) (.int .u64 k) v).run P w = .ok () w'/\Mp w' b n key (aH val j v)/\Stp b w w'/\w'.heap.size=w.heap.size) /\
 ((∀ i,i<n->key i≠k) -> ∃ w',(Instr.mapUpdate T (.map (some b)) (.int .u64 k) v).run P w = .ok () w'/\Mp w' b (n+1) (aH key n k) (aH val n v)/\Stp b w w'/\w'.heap.size=w.heap.size):=by
 have hm:=h
 obtain⟨es,c,h1,h2,h3,h4⟩:=hm
 have hck:(Instr.checkKey false 10000 K (.int .u64 k)).run P w = .ok () w:=run_checkKey hk (show IsKey (.int .u64) (.int .u64 k)from rfl) _ 9999
 rcases h.find h1 k with ⟨h5,h6⟩|⟨j,hj,hkj,h5⟩
 ·refine⟨fun j hj e=>absurd e (h6 j hj),fun _ => ?_⟩
  have hf:=run_findKey (w:=w) hk h5
  obtain⟨s1,s2,s3⟩:=Ah (o' := .map (es.push { key := .int .u64 k,val:=v,born:=c }) (c+1)) h1
  have hr:(Instr.mapUpdate T (.map (some b)) (.int .u64 k) v).run P w = .ok () { w with heap:=w.heap.setIfInBounds b (.map (es.push { key := .int .u64 k,val:=v,born:=c }) (c+1)) }:=by
   unfold Instr.mapUpdate
   simp only[Sem.run_bind,run_underlying hu,Result.andThen_ok,Go.MapKept.run_getObj_map h1,hck,hf]
   exact run_setObj_map _ h1
  refine⟨_,hr,⟨_,_,s1,stamped_push h2 fun x hx e => ?_,by simp[h3],fun i hi => ?_⟩,s2,s3⟩
  ·obtain⟨i,hi,ei⟩:=List.getElem_of_mem hx
   obtain⟨y,hy,ky,_⟩:=h4 i (by simpa [<- h3] using hi)
   have e5:es.toList[i]? = some x:=by rw[List.getElem?_eq_getElem hi,ei]
   rw[Array.getElem?_toList,hy]at e5
   obtain rfl:=Option.some.inj e5
   rw[ky]at e
   simp only[Value.int.injEq,true_and]at e
   exact h6 i (by simpa [<- h3] using hi) e
  by_cases e:i=n
  ·subst e
   refine⟨_,by rw[Array.getElem?_push,if_pos h3.symm],?_,?_⟩
   ·show Value.int .u64 k=_; unfold aH; rw[if_pos rfl]
   show v=_; unfold aH; rw[if_pos rfl]
  obtain⟨y,hy,ky,vy⟩:=h4 i (by omega)
  refine⟨y,by rw[Array.getElem?_push,if_neg (by omega)]; exact hy,?_,?_⟩
  ·unfold aH; rw[if_neg e]; exact ky
  unfold aH; rw[if_neg e]; exact vy
 refine⟨fun j2 hj2 e => ?_,fun hno=>absurd hkj (hno j hj)⟩
 obtain rfl:j2=j:=h.inj j2 j hj2 hj (e.trans hkj.symm)
 have hf:=run_findKey (w:=w) hk h5
 obtain⟨y,hy,ky,vy⟩:=h4 j2 hj
 obtain⟨s1,s2,s3⟩:=Ah (o' := .map (es.modify j2 fun e => { e with key := .int .u64 k,val:=v }) c) h1
 have I6:(Instr.keyThatStays (((es[j2]?).map (·.key)).getD (.int .u64 k)) (.int .u64 k)).run P w = .ok (.int .u64 k) w:=by
  rw[hy]
  show(Instr.keyThatStays y.key (.int .u64 k)).run P w=_
  rw[ky,e]
  unfold Instr.keyThatStays
  rw[if_pos (by simp[Instr.sameBits])]; rfl
 have hr:(Instr.mapUpdate T (.map (some b)) (.int .u64 k) v).run P w = .ok () { w with heap:=w.heap.setIfInBounds b (.map (es.modify j2 fun e => { e with key := .int .u64 k,val:=v }) c) }:=by
  unfold Instr.mapUpdate
  simp only[Sem.run_bind,run_underlying hu,Result.andThen_ok,Go.MapKept.run_getObj_map h1,hck,hf,I6]
  exact run_setObj_map _ h1
 refine⟨_,hr,⟨_,_,s1,stamped_modify h2 j2 _ (fun _ _=>rfl) (fun x _ hx => ?_),by simp[h3],fun i hi => ?_⟩,s2,s3⟩
 ·rw[hy]at hx
  obtain rfl:=Option.some.inj hx
  show Value.int .u64 k=y.key
  rw[ky,e]
 obtain⟨z,hz,kz,vz⟩:=h4 i hi
 by_cases e2:j2=i
 ·subst e2
  refine⟨{ z with key := .int .u64 k,val:=v },by rw[Array.getElem?_modify,if_pos rfl,hz]; rfl,?_,?_⟩
  ·show Value.int .u64 k=_; rw[e]
  show v=_; unfold aH; rw[if_pos rfl]
 refine⟨z,by rw[Array.getElem?_modify,if_neg e2]; exact hz,kz,?_⟩
 unfold aH; rw[if_neg (fun h=>e2 h.symm)]; exact vz
end
def It(w:World)(r b n:Nat)(S:Nat->Bool):Prop :=
 ∃ es clock since seen c0,w.heap[b]? = some (.map es clock)/\w.heap[r]? = some (.mapIter (some b) since seen c0)/\(∀ x∈es.toList,x.born<since)/\since<=c0/\es.size=n/\(∀ x∈es.toList,x.born<clock)/\since<=clock/\(∀(i j:Nat) (x y:MapEntry),es[i]? = some x->es[j]? = some y->x.born=y.born->i=j) /\ ∀ i,i<n -> ∃ e,es[i]? = some e/\seen.contains e.born=S i
section
variable {w w':World} {r b n:Nat} {S:Nat->Bool}
theorem It.lt(h:It w r b n S):r<w.heap.size:=by
 obtain⟨es,c,s,se,c0,_,h,_⟩:=h
 exact(Array.getElem?_eq_some_iff.1 h).1
theorem It.PV(h:It w r b n S):b<w.heap.size:=by
 obtain⟨es,c,s,se,c0,h,_⟩:=h
 exact(Array.getElem?_eq_some_iff.1 h).1
theorem It.keep(h:It w r b n S)(e:w'.heap[b]? = w.heap[b]?)(e2:w'.heap[r]? = w.heap[r]?):It w' r b n S:=by
 obtain⟨es,c,s,se,c0,h1,h2,h3⟩:=h
 exact⟨es,c,s,se,c0,e.trans h1,e2.trans h2,h3⟩
theorem It.up(h:It w r b n S)(hb:Below w.heap.size w w'):It w' r b n S:=h.keep (hb.block b h.PV) (hb.block r h.lt)
theorem It.kU{T:TypeId}(h:It w r b n S)(ht:Ty w r T):False:=by
 obtain⟨es,c,s,se,c0,_,h,_⟩:=h
 obtain⟨cs,ht⟩:=ht
 rw[h]at ht; cases ht
theorem It.I7{T:TypeId}(h:It w r b n S)(ht:Ty w b T):False:=by
 obtain⟨es,c,s,se,c0,h,_⟩:=h
 obtain⟨cs,ht⟩:=ht
 rw[h]at ht; cases ht
theorem It.aU{Ts:List TypeId}(h:It w r b n S)(hs:gD Ts w w')(_:True):It w' r b n S:=h.keep (hs.block b h.PV fun _ ht=>(h.I7 ht).elim) (hs.block r h.lt fun _ ht=>(h.kU ht).elim)
theorem It.rb(h:It w r b n S):r≠b:=fun e=>by
 obtain⟨es,c,s,se,c0,h1,h2,_⟩:=h
 rw[e,h1]at h2; cases h2
end
def uW(w:World)(r b i:Nat):Prop :=
 ∃ es clock since seen e,w.heap[b]? = some (.map es clock)/\w.heap[r]? = some (.mapIter (some b) since (Array.push seen e.born) clock)/\es[i]? = some e/\(es.toList.map (·.born)).Nodup
section
variable {w w':World} {r b i:Nat}
theorem uW.lt(h:uW w r b i):r<w.heap.size:=by
 obtain⟨es,c,s,se,e,_,h,_⟩:=h
 exact(Array.getElem?_eq_some_iff.1 h).1
theorem uW.PV(h:uW w r b i):b<w.heap.size:=by
 obtain⟨es,c,s,se,e,h,_⟩:=h
 exact(Array.getElem?_eq_some_iff.1 h).1
theorem uW.keep(h:uW w r b i)(e:w'.heap[b]? = w.heap[b]?)(e2:w'.heap[r]? = w.heap[r]?):uW w' r b i:=by
 obtain⟨es,c,s,se,x,h1,h2,h3⟩:=h
 exact⟨es,c,s,se,x,e.trans h1,e2.trans h2,h3⟩
theorem uW.up(h:uW w r b i)(hb:Below w.heap.size w w'):uW w' r b i:=h.keep (hb.block b h.PV) (hb.block r h.lt)
theorem uW.kU{T:TypeId}(h:uW w r b i)(ht:Ty w r T):False:=by
 obtain⟨es,c,s,se,e,_,h,_⟩:=h
 obtain⟨cs,ht⟩:=ht
 rw[h]at ht; cases ht
theorem uW.I7{T:TypeId}(h:uW w r b i)(ht:Ty w b T):False:=by
 obtain⟨es,c,s,se,e,h,_⟩:=h
 obtain⟨cs,ht⟩:=ht
 rw[h]at ht; cases ht
theorem uW.aU{Ts:List TypeId}(h:uW w r b i)(hs:gD Ts w w')(_:True):uW w' r b i:=h.keep (hs.block b h.PV fun _ ht=>(h.I7 ht).elim) (hs.block r h.lt fun _ ht=>(h.kU ht).elim)
end
def Fam(w:World)(n:Nat)(pb:Nat->Nat)(s:Nat)(x:Nat->Nat->Value)(T:TypeId):Prop := ∀ i,i<n->aP w (pb i) s (x i) T
section
variable {w w':World} {n s:Nat} {pb:Nat->Nat} {x:Nat->Nat->Value} {T:TypeId}
theorem Fam.up(h:Fam w n pb s x T)(hb:Below w.heap.size w w'):Fam w' n pb s x T:=fun i hi=>(h i hi).aC (Sb hb) (Nat.ne_of_lt (h i hi).lt)
theorem Fam.aU{Ts:List TypeId}(h:Fam w n pb s x T)(hs:gD Ts w w')(ne:Ts.contains T=false):Fam w' n pb s x T:=fun i hi=>(h i hi).aU hs ne
theorem Fam.aC{g:Nat}(h:Fam w n pb s x T)(hs:Stp g w w')(ne : ∀ i,i<n->pb i≠g):Fam w' n pb s x T:=fun i hi=>(h i hi).aC hs (ne i hi)
theorem Fam.put{j:Nat}{y:Nat->Value}(h:Fam w n pb s x T)(hs:Stp (pb j) w w')(hb:aP w' (pb j) s y T)(hi : ∀ i k,i<n->k<n->pb i=pb k->i=k)(hj:j<n):Fam w' n pb s (aH x j y) T:=fun i hin=>by
 unfold aH
 by_cases e:i=j
 ·subst e; rw[if_pos rfl]; exact hb
 ·rw[if_neg e]; exact(h i hin).aC hs fun e2=>e (hi i j hin hj e2)
theorem Fam.to{x':Nat->Nat->Value}(h:Fam w n pb s x T)(e : ∀ i,i<n->x i=x' i):Fam w n pb s x' T:=fun i hi=>e i hi ▸ h i hi
theorem Fam.push{g:Nat}{y:Nat->Value}(h:Fam w n pb s x T)(hb:aP w g s y T):Fam w (n+1) (aH pb n g) s (aH x n y) T:=fun i hi=>by
 unfold aH
 by_cases e:i=n
 ·rw[if_pos e,if_pos e]; exact hb
 ·rw[if_neg e,if_neg e]; exact h i (by omega)
end
def unseen(S:Nat->Bool):Nat->Nat
 | 0=>0
 | n+1=>unseen S n+if S n then 0 else 1
theorem qK(S:Nat->Bool)(i:Nat) : ∀ n,n<=i->unseen (aH S i true) n=unseen S n
 | 0,_=>rfl
 | n+1,h=>by
   unfold unseen
   rw[qK S i n (by omega)]
   have:aH S i true n=S n:=by unfold aH; rw[if_neg (by omega)]
   rw[this]
theorem jL{S:Nat->Bool}{i:Nat}(hs:S i=false) : ∀ n,i<n->unseen (aH S i true) n+1=unseen S n
 | 0,h=>absurd h (Nat.not_lt_zero _)
 | n+1,h=>by
   unfold unseen
   by_cases e:i=n
   ·subst e
    rw[qK S i i (Nat.le_refl _),hs]
    have:aH S i true i=true:=by unfold aH; rw[if_pos rfl]
    rw[this]; simp
   ·have:aH S i true n=S n:=by unfold aH; rw[if_neg (by omega)]
    rw[this,<- jL hs n (by omega)]
    omega
theorem run_makeMap'{P:Program}(t:TypeId)(w:World):(Instr.makeMap t none).run P w = .ok (.map (some w.heap.size)) (w.alloc (.map #[] 0)):=rfl
section
variable {P:Program} {n0:Nat} {Q:Post} {f:Nat->Value} {w:World} {ops:Array Oper} {rest:List Oper} {o:Oper} {b n:Nat} {key:Nat->Int} {val:Nat->Value}
theorem L.PW{T K E:TypeId}{x ix v:Operand}{k:Int}{u:Value}{j:Nat}(hw:Region.wanted o (yf ops f)=true)(hd:o.dst=none)(ho:o.op = .mapUpdate T x ix v)(hx:ev f x = .map (some b))(hi:ev f ix = .int .u64 k)(hv:ev f v=u)(h:Mp w b n key val)(hu:P.underlying T=some (.map K E))(hk:P.underlying K=some (.int .u64))(hj:j<n)(he:key j=k)
 (hc : ∀ w',Mp w' b n key (aH val j u)->Stp b w w'->w'.heap.size=w.heap.size->L P n0 ops Q rest f w'):L P n0 ops Q (o::rest) f w:=by
 obtain⟨w',hr,h1,h2,h3⟩:=(qJ (v:=u) h hu hk).1 j hj he
 have hrun:(execOp (ev f) o).run P w = .ok .skip w':=by
  unfold execOp
  simp only[ho,hx,hi,hv,Sem.run_bind,hr,Result.andThen_ok,Sem.run_pure]
 refine L.unit hw hrun (by rw[hd]; rfl) ?_
 rw[hd]; exact hc w' h1 h2 h3
theorem L.GJ{T K E:TypeId}{x ix v:Operand}{k:Int}{u:Value}(hw:Region.wanted o (yf ops f)=true)(hd:o.dst=none)(ho:o.op = .mapUpdate T x ix v)(hx:ev f x = .map (some b))(hi:ev f ix = .int .u64 k)(hv:ev f v=u)(h:Mp w b n key val)(hu:P.underlying T=some (.map K E))(hk:P.underlying K=some (.int .u64))(hn : ∀ i,i<n->key i≠k)
 (hc : ∀ w',Mp w' b (n+1) (aH key n k) (aH val n u)->Stp b w w'->w'.heap.size=w.heap.size->L P n0 ops Q rest f w'):L P n0 ops Q (o::rest) f w:=by
 obtain⟨w',hr,h1,h2,h3⟩:=(qJ (v:=u) h hu hk).2 hn
 have hrun:(execOp (ev f) o).run P w = .ok .skip w':=by
  unfold execOp
  simp only[ho,hx,hi,hv,Sem.run_bind,hr,Result.andThen_ok,Sem.run_pure]
 refine L.unit hw hrun (by rw[hd]; rfl) ?_
 rw[hd]; exact hc w' h1 h2 h3
theorem L.Bz{T:TypeId}(hw:Region.wanted o (yf ops f)=true)(hd:inn n0 o.dst=true)(ho:o.op = .makeMap T none)
 (hc : ∀ g w',g=w.heap.size->Mp w' g 0 (fun _=>0) (fun _ => .pointer none)->Stp w.heap.size w w'->w'.heap.size=w.heap.size+1->L P n0 ops Q rest (put f o.dst (.map (some g))) w'):L P n0 ops Q (o::rest) f w:=by
 have hrun:(execOp (ev f) o).run P w = .ok (.value (.map (some w.heap.size))) (w.alloc (.map #[] 0)):=by
  unfold execOp
  simp only[ho,Option.map_none]
  simp[run_makeMap']
 refine L.val hw hrun hd (hc _ _ rfl ?_ (Stp.alloc _ _) (by simp))
 exact⟨#[],0,by rw[alloc_at,if_pos rfl],stamped_empty 0,rfl,fun i hi=>absurd hi (Nat.not_lt_zero _)⟩
theorem I8{T K E:TypeId}{x:Operand}{Ts:Array TypeId}(ho:o.op = .call { callee := .builtin .len,args := #[x],argTypes:=Ts })(hT:Ts = #[T])(hx:ev f x = .map (some b))(h:Mp w b n key val)(hu:P.underlying T=some (.map K E)):Runs P f o w (.int .i64 n):=by
 obtain⟨es,c,h1,_,h3,_⟩:=h
 unfold Runs execOp
 simp only[ho]
 unfold resolve invoke
 simp only[hT,List.map_toArray,List.map_cons,List.map_nil,hx]
 unfold builtin
 have hr:(Builtin.len_ #[T] o.type #[.map (some b)]).run P w = .ok (.int .i64 n) w:=by
  unfold Builtin.len_
  simp[run_underlying hu,Go.MapKept.run_getObj_map h1,goInt,h3]
 simp only[Sem.run_bind,Sem.run_pure,Result.andThen_ok,hr]
theorem L.range{T K E:TypeId}{x:Operand}(hw:Region.wanted o (yf ops f)=true)(hd:inn n0 o.dst=true)(ho:o.op = .range T x)(hx:ev f x = .map (some b))(h:Mp w b n key val)(hu:P.underlying T=some (.map K E))
 (hc : ∀ g w',g=w.heap.size->It w' g b n (fun _=>false)->Stp w.heap.size w w'->w'.heap.size=w.heap.size+1->L P n0 ops Q rest (put f o.dst (.pointer (some ⟨g,0,none⟩))) w'):L P n0 ops Q (o::rest) f w:=by
 have hm:=h
 obtain⟨es,c,h1,h2,h3,h4⟩:=hm
 have hr:=run_range_map (P:=P) w T K E b es c hu h1
 have hrun:(execOp (ev f) o).run P w = .ok (.value (.pointer (some ⟨w.heap.size,0,none⟩))) (w.alloc (.mapIter (some b) c #[] c)):=by
  unfold execOp
  simp only[ho,hx,Sem.run_bind,hr,Result.andThen_ok,Sem.run_pure]
 refine L.val hw hrun hd (hc _ _ rfl ?_ (Stp.alloc _ _) (by simp))
 refine⟨es,c,c,#[],c,?_,by rw[alloc_at,if_pos rfl],h2.1,Nat.le_refl _,h3,h2.1,Nat.le_refl _,fun i j x y hx hy e => ?_,fun i hi => ?_⟩
 ·rw[alloc_at,if_neg (Nat.ne_of_lt h.lt)]; exact h1
 ·rw[Array.getElem?_eq_some_iff]at hx hy
  obtain⟨hi',hx⟩:=hx
  obtain⟨hj',hy⟩:=hy
  have hp:=List.pairwise_iff_getElem.1 h2.2.1
  have key2 : ∀ a c (ha:a<es.size) (hc:c<es.size),a<c->es[a].born≠es[c].born:=fun a c ha hc hac=>by
   have:=hp a c (by simpa using ha) (by simpa using hc) hac
   simpa only[List.getElem_map,Array.getElem_toList] using this
  rcases Nat.lt_trichotomy i j with h5|h5|h5
  ·exact absurd (by rw[hx,hy,e]) (key2 i j hi' hj' h5)
  ·exact h5
  exact absurd (by rw[hx,hy,e]) (key2 j i hj' hi' h5)
 obtain⟨e,he,_⟩:=h4 i hi
 exact⟨e,he,by simp⟩
theorem L.next{x:Operand}{r:Nat}{S:Nat->Bool}(hw:Region.wanted o (yf ops f)=true)(hd:inn n0 o.dst=true)(ho:o.op = .next x false)(hx:ev f x = .pointer (some ⟨r,0,none⟩))(h:Mp w b n key val)(hi:It w r b n S)
 (hc0:(∀ i,i<n->S i=true)->L P n0 ops Q rest (put f o.dst (.tuple #[.bool false])) w)
 (hc1 : ∀ i w',i<n->S i=false->It w' r b n (aH S i true)->uW w' r b i->Stp r w w'->w'.heap.size=w.heap.size->L P n0 ops Q rest (put f o.dst (.tuple #[.bool true,.int .u64 (key i),val i])) w'):L P n0 ops Q (o::rest) f w:=by
 obtain⟨es,c,since,seen,c0,h1,h2,h3,h4,h5,h6,h7,h8,h9⟩:=hi
 obtain⟨es',c',k1,WX,_,k4⟩:=h
 rw[h1]at k1
 simp only[Option.some.injEq,Obj.map.injEq]at k1
 obtain⟨rfl,rfl⟩:=k1
 have hrb:r≠b:=fun e=>by rw[e,h1]at h2; cases h2
 rcases run_next_at (P:=P) w o.type r b since c0 seen es c h2 h1 h3 h4 with ⟨z,hr⟩|⟨e,he,w1,hw1,hr⟩
 ·have hrun:(execOp (ev f) o).run P w = .ok (.value (.tuple #[.bool false])) w:=by
   unfold execOp
   simp only[ho,hx,Sem.run_bind,hr,Result.andThen_ok,Sem.run_pure]
  refine L.val hw hrun hd (hc0 fun i hi => ?_)
  obtain⟨y,hy,hs⟩:=h9 i hi
  rw[<- hs]
  cases hq:seen.contains y.born with
  | true=>rfl
  | false =>
    have hmem:y∈leftOf es seen:=by
     unfold leftOf
     rw[Array.mem_filter]
     exact⟨Array.mem_of_getElem? hy,by rw[hq]; rfl⟩
    have:=Array.size_pos_of_mem hmem
    omega
 have hrun:(execOp (ev f) o).run P w = .ok (.value (.tuple #[.bool true,e.key,e.val])) (Go.ChangeMaps.setBlock w1 r (.mapIter (some b) since (seen.push e.born) c)):=by
  unfold execOp
  simp only[ho,hx,Sem.run_bind,hr,Result.andThen_ok,Sem.run_pure]
 have hmem:e∈leftOf es seen:=Array.mem_toList_iff.1 he
 unfold leftOf at hmem
 rw[Array.mem_filter]at hmem
 obtain⟨hme,hns⟩:=hmem
 obtain⟨i,hi,ei⟩:=Array.getElem_of_mem hme
 have hes:es[i]? = some e:=by rw[Array.getElem?_eq_getElem hi,ei]
 obtain⟨y,hy,ky,vy⟩:=k4 i (by omega)
 rw[hes]at hy
 obtain rfl:=Option.some.inj hy
 obtain⟨y2,hy2,hs⟩:=h9 i (by omega)
 rw[hes]at hy2
 obtain rfl:=Option.some.inj hy2
 have hsf:S i=false:=by rw[<- hs]; simpa using hns
 have hh:w1.os=w.os/\w1.tape=w.tape/\w1.output=w.output/\w1.heap=w.heap:=by rcases hw1 with rfl|rfl <;> exact⟨rfl,rfl,rfl,rfl⟩
 have hsz:(Go.ChangeMaps.setBlock w1 r (.mapIter (some b) since (seen.push e.born) c)).heap.size=w.heap.size:=by
  show(w1.heap.setIfInBounds r _).size=_; rw[hh.2.2.2]; simp
 have hst:Stp r w (Go.ChangeMaps.setBlock w1 r (.mapIter (some b) since (seen.push e.born) c)) :=
  ⟨hh.1,hh.2.1,hh.2.2.1,by rw[hsz]; exact Nat.le_refl _,fun k _ hne=>by show(w1.heap.setIfInBounds r _)[k]? = _; rw[hh.2.2.2,Array.getElem?_setIfInBounds_ne (Ne.symm hne)]⟩
 have PX:r<w1.heap.size:=by
  rcases hw1 with rfl|rfl <;> exact(Array.getElem?_eq_some_iff.1 h2).1
 rw[ky,vy]at hrun
 have q1:(Go.ChangeMaps.setBlock w1 r (.mapIter (some b) since (seen.push e.born) c)).heap[b]? = some (.map es c):=by rw[hst.block b (Array.getElem?_eq_some_iff.1 h1).1 (Ne.symm hrb)]; exact h1
 have q2:(Go.ChangeMaps.setBlock w1 r (.mapIter (some b) since (seen.push e.born) c)).heap[r]? = some (.mapIter (some b) since (seen.push e.born) c):=by simp[Go.ChangeMaps.setBlock,PX]
 refine L.val hw hrun hd (hc1 i _ (by omega) hsf ⟨es,c,since,seen.push e.born,c,q1,q2,h3,h7,h5,h6,h7,h8,fun j hj => ?_⟩ ⟨es,c,since,seen,e,q1,q2,hes,WX.2.1⟩ hst hsz)
 obtain⟨y3,hy3,hs3⟩:=h9 j hj
 refine⟨y3,hy3,?_⟩
 unfold aH
 by_cases e5:j=i
 ·subst e5
  rw[hes]at hy3
  obtain rfl:=Option.some.inj hy3
  rw[if_pos rfl]; simp
 rw[if_neg e5,<- hs3]
 have hne:y3.born≠e.born:=fun e6=>e5 (h8 j i y3 e hy3 hes e6)
 cases hq:seen.contains y3.born with
 | true=>simp at hq ⊢; exact .inl hq
 | false=>simp at hq ⊢; exact⟨hq,hne⟩
theorem Fh{x:Operand}{r i:Nat}(ho:o.op = .entry x)(hx:ev f x = .pointer (some ⟨r,0,none⟩))(h:Mp w b n key val)(hi:uW w r b i)(hin:i<n):Runs P f o w (.tuple #[.int .u64 (key i),val i]):=by
 obtain⟨es,c,s,se,e,h1,h2,h3,h4⟩:=hi
 obtain⟨es',c',k1,_,_,k4⟩:=h
 rw[h1]at k1
 simp only[Option.some.injEq,Obj.map.injEq]at k1
 obtain⟨rfl,rfl⟩:=k1
 obtain⟨y,hy,ky,vy⟩:=k4 i hin
 rw[h3]at hy
 obtain rfl:=Option.some.inj hy
 have hr:=run_entry_at (P:=P) w r b s se es c e h2 h1 (Array.mem_toList_iff.2 (Array.mem_of_getElem? h3)) h4
 unfold Runs execOp
 simp only[ho,hx,Sem.run_bind,hr,Result.andThen_ok,Sem.run_pure,ky,vy]
end
structure GK(r:Nat)(w w':World):Prop where
 s:Stp r w w'
 no : ∀ T,¬ Ty w r T
section
variable {w w':World} {r b n:Nat}
theorem Mp.uX{m:Nat}{key:Nat->Int}{val:Nat->Value}(h:Mp w r m key val)(hs:Stp r w w'):GK r w w':=⟨hs,fun _ ht=>h.kU ht⟩
theorem It.uX{m q:Nat}{S:Nat->Bool}(h:It w r q m S)(hs:Stp r w w'):GK r w w':=⟨hs,fun _ ht=>h.kU ht⟩
theorem uW.uX{q i:Nat}(h:uW w r q i)(hs:Stp r w w'):GK r w w':=⟨hs,fun _ ht=>h.kU ht⟩
theorem Fam.bY{m s:Nat}{pb:Nat->Nat}{x:Nat->Nat->Value}{T:TypeId}(h:Fam w m pb s x T)(hc:GK r w w'):Fam w' m pb s x T:=fun i hi=>(h i hi).aC hc.s fun e=>hc.no T (e ▸ (h i hi).ty)
theorem aP.bY{x:Nat->Value}{T:TypeId}(h:aP w b n x T)(hc:GK r w w'):aP w' b n x T:=h.aC hc.s fun e=>hc.no T (e ▸ h.ty)
theorem Own.bY{B s:Nat}{E:TypeId}{v:Value}{x:Nat->Value}(h:Own w B E s v n x)(hc:GK r w w'):Own w' B E s v n x:=h.aC hc.s fun e=>hc.no E (h.ty e)
theorem Mp.bY{key:Nat->Int}{val:Nat->Value}(h:Mp w b n key val)(hc:GK r w w')(ne:b≠r):Mp w' b n key val:=h.aC hc.s ne
end
theorem kV(key:Nat->Int)(n:Nat)(k:Int):(∃ j,j<n/\key j=k) \/ ∀ i,i<n->key i≠k:=by
 by_cases h : ∃ j,j<n/\key j=k
 ·exact .inl h
 exact .inr fun i hi e=>h ⟨i,hi,e⟩
theorem nK{p:Nat->Prop}(h : ∃ k,p k) : ∃ k,p k /\ ∀ j,p j->k<=j:=by
 obtain⟨k,hk⟩:=h
 induction k using Nat.strongRecOn with
 | _ k ih =>
   by_cases h2 : ∃ j,j<k/\p j
   ·obtain⟨j,hj,hp⟩:=h2; exact ih j hj hp
   ·exact⟨k,hk,fun j hj=>Nat.not_lt.1 fun hl=>h2 ⟨j,hl,hj⟩⟩
open Classical in
theorem W.BA{P:Program}{n:Nat}{c:Code}{Q:Post}{f:Nat->Value}{w:World}(I:Nat->(Nat->Value)->World->Prop)(k0:Nat)(h0:I k0 f w)
 (hr : ∀ k f w,I k f w->W P n c (Bo (fun f w => ∃ k',k'<k/\I k' f w) (fun _ _=>0) 1 Q) f w):W P n (.loop c) Q f w:=by
 refine W.loop (fun f w => ∃ k,I k f w) (fun f w=>if h : ∃ k,I k f w then(nK h).choose else 0) ⟨k0,h0⟩ fun f w h => ?_
 refine(hr _ f w (nK h).choose_spec.1).mono fun e f' w' hq => ?_
 rw[dif_pos h]
 cases e with
 | normal =>
   obtain⟨⟨k',hk,hI⟩,_⟩:=hq
   refine⟨⟨k',hI⟩,?_⟩
   have h' : ∃ k,I k f' w':=⟨k',hI⟩
   show(if h : ∃ k,I k f' w' then(nK h).choose else 0)<_
   rw[dif_pos h']
   exact Nat.lt_of_le_of_lt ((nK h').choose_spec.2 k' hI) hk
 | _=>exact hq
structure BD(Ts:List TypeId)(w w':World):Prop where
 os:w'.os=w.os
 tape:w'.tape=w.tape
 output:w'.output=w.output
 size:w.heap.size<=w'.heap.size
 block : ∀ k T,Ty w k T->Ts.contains T=false->w'.heap[k]? = w.heap[k]?
section
variable {w w' w2:World} {Ts Us:List TypeId}
theorem BD.refl(w:World):BD Ts w w:=⟨rfl,rfl,rfl,Nat.le_refl _,fun _ _ _ _=>rfl⟩
theorem Ty.WY{k:Nat}{T:TypeId}(h:Ty w k T):k<w.heap.size:=by
 obtain⟨c,h⟩:=h
 exact(Array.getElem?_eq_some_iff.1 h).1
theorem BD.trans(w w' w2:World)(h:BD Ts w w')(k:BD Ts w' w2):BD Ts w w2:=⟨k.os.trans h.os,k.tape.trans h.tape,k.output.trans h.output,Nat.le_trans h.size k.size,fun i T ht hT=>by
 have e:=h.block i T ht hT
 obtain⟨c,hc⟩:=ht
 exact(k.block i T ⟨c,e.trans hc⟩ hT).trans e⟩
theorem BD.PY(h:gD Ts w w'):BD Ts w w':=⟨h.os,h.tape,h.output,h.size,fun k T ht hT=>h.block k ht.WY fun T' ht'=>by rw[Ty.only ht ht']; exact hT⟩
theorem BD.of_below(h:Below w.heap.size w w'):BD Ts w w' := .PY (.of_below h)
theorem BD.wide(h:BD Ts w w')(hs:Ts.all Us.contains=true):BD Us w w':=⟨h.os,h.tape,h.output,h.size,fun k T ht hT=>h.block k T ht (by
 cases e:Ts.contains T with
 | false=>rfl
 | true =>
   have h1:T∈Ts:=by simpa using e
   have h2:=(List.all_eq_true.1 hs) T h1
   rw[hT]at h2; cases h2)⟩
end
end Go.Proofs.YtahbiajdgealnaaDoor.Fx
namespace Go.Proofs.YtahbiajdgealnaaDoor.Fx
open Go.RowKit Go.MapKept
def kS(a b:Int):Value := .agg #[.int .i64 a,.int .u64 b]
structure vH(a b:Int):Prop where
 a : -9223372036854775808<=a/\a<=9223372036854775807
 b:0<=b/\b<=18446744073709551615
theorem DY{a b c d:Int}(h:kS a b=kS c d):a=c/\b=d:=by
 unfold kS at h
 simp only[Value.agg.injEq]at h
 have h:=congrArg Array.toList h
 simp at h; exact h
theorem qL{y:Nat->Value}{a b:Int}(h0:y 0 = .int .i64 a)(h1:y 1 = .int .u64 b):Value.agg (ay 2 y)=kS a b:=by
 unfold kS
 congr 1
 apply Array.ext'
 rw[yX]
 show [y 0,y 1]=_
 rw[h0,h1]
structure nL(P:Program)(K:TypeId):Prop where
 kt:P.keyTypeAt 12 K=true
 fl:flatK P 12 K=some [some .i64,some .u64]
 ag:yE P K=true
section
variable {P:Program} {K:TypeId} {a b c d:Int} {w:World}
theorem nL.wide(h:nL P K):(match P.underlying K with|some (.array _ _)|some (.struct _)=>true|_=>false)=true:=by
 have h:=h.ag
 unfold yE at h
 cases hu:P.underlying K with
 | none=>rw[hu]at h; cases h
 | some d=>rw[hu]at h; cases d <;> first|rfl|(cases h)
theorem vH.fit(h:vH a b):Fit [some .i64,some .u64] (#[Value.int .i64 a,.int .u64 b]:Array Value).toList [.int .i64 a,.int .u64 b]:=by
 refine⟨?_,?_,trivial⟩
 ·simp[jD,IU h.a]
 simp[jD,kD h.b]
theorem nL.eq(hK:nL P K)(h1:vH a b)(h2:vH c d)(w:World) : ∃ r:Bool,(Op.equal K (kS a b) (kS c d)).run P w = .ok r w/\(r=true<->kS a b=kS c d):=by
 refine⟨decide (a=c/\b=d),?_,?_⟩
 ·have:=jH w 12 9988 K _ #[.int .i64 a,.int .u64 b] #[.int .i64 c,.int .u64 d] _ _ hK.kt hK.fl hK.wide h1.fit h2.fit (decide (a=c/\b=d)) (by simp)
  exact this
 rw[decide_eq_true_iff]
 constructor
 ·rintro ⟨rfl,rfl⟩; rfl
 exact DY
theorem nL.formed(hK:nL P K)(h1:vH a b):(kS a b).formed P K=true:=by
 have hw:=hK.wide
 have hf:=hK.fl
 unfold Value.formed kS
 cases hu:P.underlying K with
 | none=>rw[hu]at hw; cases hw
 | some td =>
   have hlen:P.cellsOf K=2:=by
    unfold flatK at hf
    rw[hu]at hf hw
    cases td with
    | array n e =>
      simp only at hf
      cases h2:flatK P 11 e with
      | none=>rw[h2]at hf; cases hf
      | some l =>
        rw[h2]at hf
        simp only at hf
        split at hf
        ·rename_i h3
         simp only[Option.some.injEq]at hf
         have h4:=congrArg List.length hf
         rw[kR]at h4
         exact h3.2.symm.trans h4
        ·cases hf
    | struct fs =>
      simp only at hf
      cases h2:nC P.cellsOf (flatK P 11) fs.toList 0 with
      | none=>rw[h2]at hf; cases hf
      | some l =>
        rw[h2]at hf
        simp only at hf
        split at hf
        ·rename_i h3
         simp only[Option.some.injEq]at hf
         rw[<- h3,hf]; rfl
        ·cases hf
    | _=>cases hw
   rw[hu]at hw
   cases td <;> first|(cases hw; done)|simp[hlen]
theorem nL.check(hK:nL P K)(h1:vH a b)(em:Bool)(w:World):(Instr.checkKey em 10000 K (kS a b)).run P w = .ok () w:=by
 have h:=run_checkKey_deep em 9988 12 K hK.kt
 exact h w 12 (kS a b) _ (hK.formed h1) (jU 12 K _ _ _ hK.fl (by simpa [Value.cells,kS] using h1.fit))
theorem BF(a b:Int):Instr.sameBits 10000 (kS a b) (kS a b)=true:=by
 unfold kS
 show Instr.sameBits (9999+1) _ _=true
 simp[Instr.sameBits]
end
def gH(w:World)(b n:Nat)(k1 k2:Nat->Int)(val:Nat->Value):Prop :=
 ∃ es clock,w.heap[b]? = some (.map es clock)/\Stamped es clock/\es.size=n /\ ∀ i,i<n -> ∃ e,es[i]? = some e/\e.key=kS (k1 i) (k2 i)/\e.val=val i/\vH (k1 i) (k2 i)
section
variable {w w':World} {b n:Nat} {k1 k2:Nat->Int} {val:Nat->Value}
theorem gH.lt(h:gH w b n k1 k2 val):b<w.heap.size:=by
 obtain⟨es,c,h,_⟩:=h
 exact(Array.getElem?_eq_some_iff.1 h).1
theorem gH.keep(h:gH w b n k1 k2 val)(e:w'.heap[b]? = w.heap[b]?):gH w' b n k1 k2 val:=by
 obtain⟨es,c,h1,h2⟩:=h
 exact⟨es,c,e.trans h1,h2⟩
theorem gH.aC{g:Nat}(h:gH w b n k1 k2 val)(hs:Stp g w w')(ne:b≠g):gH w' b n k1 k2 val:=h.keep (hs.block b h.lt ne)
theorem gH.up(h:gH w b n k1 k2 val)(hb:Below w.heap.size w w'):gH w' b n k1 k2 val:=h.keep (hb.block b h.lt)
theorem gH.kU{T:TypeId}(h:gH w b n k1 k2 val)(ht:Ty w b T):False:=by
 obtain⟨es,c,h,_⟩:=h
 obtain⟨cs,ht⟩:=ht
 rw[h]at ht; cases ht
theorem gH.aU{Ts:List TypeId}(h:gH w b n k1 k2 val)(hs:gD Ts w w')(_:True):gH w' b n k1 k2 val:=h.keep (hs.block b h.lt fun _ ht=>(h.kU ht).elim)
theorem gH.uX(h:gH w b n k1 k2 val)(hs:Stp b w w'):GK b w w':=⟨hs,fun _ ht=>h.kU ht⟩
theorem gH.bY{r:Nat}(h:gH w b n k1 k2 val)(hc:GK r w w')(ne:b≠r):gH w' b n k1 k2 val:=h.aC hc.s ne
theorem gH.ok(h:gH w b n k1 k2 val){i:Nat}(hi:i<n):vH (k1 i) (k2 i):=by
 obtain⟨es,c,_,_,_,h4⟩:=h
 obtain⟨e,_,_,_,h5⟩:=h4 i hi; exact h5
theorem gH.mM{k1' k2':Nat->Int}{val':Nat->Value}(h:gH w b n k1 k2 val)(e : ∀ i,i<n->k1 i=k1' i/\k2 i=k2' i/\val i=val' i):gH w b n k1' k2' val':=by
 obtain⟨es,c,h1,h2,h3,h4⟩:=h
 exact⟨es,c,h1,h2,h3,fun i hi=>by
  obtain⟨x,a,d,f,g⟩:=h4 i hi
  obtain⟨e1,e2,e3⟩:=e i hi
  exact⟨x,a,by rw[d,e1,e2],by rw[f,e3],by rw[<- e1,<- e2]; exact g⟩⟩
theorem gH.inj(h:gH w b n k1 k2 val) : ∀ i j,i<n->j<n->k1 i=k1 j->k2 i=k2 j->i=j:=fun i j hi hj e1 e2=>by
 obtain⟨es,c,_,⟨_,_,hk⟩,hn,hg⟩:=h
 obtain⟨x,hx,kx,_⟩:=hg i hi
 obtain⟨y,hy,ky,_⟩:=hg j hj
 rw[Array.getElem?_eq_some_iff]at hx hy
 obtain⟨hi',hx⟩:=hx
 obtain⟨hj',hy⟩:=hy
 have hp:=List.pairwise_iff_getElem.1 hk
 have key2 : ∀ a c (ha:a<es.size) (hc:c<es.size),a<c->es[a].key≠es[c].key:=fun a c ha hc hac=>by
  have:=hp a c (by simpa using ha) (by simpa using hc) hac
  simpa only[List.getElem_map,Array.getElem_toList] using this
 rcases Nat.lt_trichotomy i j with h1|h1|h1
 ·exact absurd (by rw[hx,hy,kx,ky,e1,e2]) (key2 i j hi' hj' h1)
 ·exact h1
 ·exact absurd (by rw[hx,hy,kx,ky,e1,e2]) (key2 j i hj' hi' h1)
end
theorem oQ(k1 k2:Nat->Int)(n:Nat)(a b:Int):(∃ j,j<n/\k1 j=a/\k2 j=b) \/ ∀ i,i<n -> ¬ (k1 i=a/\k2 i=b):=by
 by_cases h : ∃ j,j<n/\k1 j=a/\k2 j=b
 ·exact .inl h
 exact .inr fun i hi e=>h ⟨i,hi,e⟩
section
variable {P:Program} {f:Nat->Value} {w:World} {o:Oper} {K:TypeId}
variable {b n:Nat} {k1 k2:Nat->Int} {val:Nat->Value}
theorem BG(hK:nL P K){x y:Int}(hk:vH x y)(w:World) : ∀(es:List MapEntry) (i:Nat),(∀ e∈es,∃ u v,e.key=kS u v/\vH u v) ->
 ((Instr.findAsking K (kS x y) es i).run P w = .ok none w /\ ∀ e∈es,e.key≠kS x y) \/ ∃ j e,(Instr.findAsking K (kS x y) es i).run P w = .ok (some (i+j,e.val)) w/\es[j]? = some e/\e.key=kS x y
 | [],i,_ => .inl ⟨by simp[Instr.findAsking],by simp⟩
 | e::es,i,hall=>by
   obtain⟨u,v,he,hv⟩:=hall e (by simp)
   obtain⟨r,hr,hiff⟩:=hK.eq hk hv w
   rw[<- he]at hr hiff
   cases r
   ·have hne:e.key≠kS x y:=fun h=>by have:=hiff.2 h.symm; cases this
    rcases BG hK hk w es (i+1) (fun y hy=>hall y (by simp[hy]))with ⟨h1,h2⟩|⟨j,e',h1,h2,h3⟩
    ·left
     refine⟨by simp[Instr.findAsking,hr,h1],fun y hy => ?_⟩
     rcases List.mem_cons.1 hy with rfl|hy
     ·exact hne
     ·exact h2 y hy
    ·right
     exact⟨j+1,e',by simp[Instr.findAsking,hr,h1,Nat.add_assoc,Nat.add_comm 1 j],by simpa using h2,h3⟩
   ·right
    exact⟨0,e,by simp[Instr.findAsking,hr],rfl,(hiff.1 rfl).symm⟩
theorem gH.find(h:gH w b n k1 k2 val)(hK:nL P K){es:Array MapEntry}{c:Nat}(he:w.heap[b]? = some (.map es c)){x y:Int}(hk:vH x y) :
 ((Instr.findKey K (kS x y) es.toList).run P w = .ok none w /\ ∀ i,i<n -> ¬ (k1 i=x/\k2 i=y)) \/ ∃ j,j<n/\k1 j=x/\k2 j=y/\(Instr.findKey K (kS x y) es.toList).run P w = .ok (some (j,val j)) w:=by
 obtain⟨es',c',h1,h2,h3,h4⟩:=h
 rw[he]at h1
 simp only[Option.some.injEq,Obj.map.injEq]at h1
 obtain⟨rfl,rfl⟩:=h1
 have hkeys : ∀ e∈es.toList,∃ u v,e.key=kS u v/\vH u v:=fun x hx=>by
  obtain⟨i,hi,e⟩:=List.getElem_of_mem hx
  obtain⟨y,hy,ky,_,ko⟩:=h4 i (by simpa [<- h3] using hi)
  have:y=x:=by
   have h5:es.toList[i]? = some x:=by rw[List.getElem?_eq_getElem hi,e]
   rw[Array.getElem?_toList,hy]at h5
   exact Option.some.inj h5
  subst this
  exact⟨_,_,ky,ko⟩
 rw[run_findKey_eq w hK.wide]
 rcases BG hK hk w es.toList 0 hkeys with ⟨h5,h6⟩|⟨j,e,h5,h6,h7⟩
 ·left
  refine⟨h5,fun i hi e => ?_⟩
  obtain⟨y,hy,ky,_⟩:=h4 i hi
  exact h6 y (Array.mem_toList_iff.2 (Array.mem_of_getElem? hy)) (by rw[ky,e.1,e.2])
 right
 have hj:j<n:=by
  rw[Array.getElem?_toList]at h6
  rw[<- h3]; exact(Array.getElem?_eq_some_iff.1 h6).1
 obtain⟨y,hy,ky,vy,_⟩:=h4 j hj
 rw[Array.getElem?_toList,hy]at h6
 obtain rfl:=Option.some.inj h6
 rw[ky]at h7
 obtain⟨e1,e2⟩:=DY h7
 exact⟨j,hj,e1,e2,by rw[h5,Nat.zero_add,vy]⟩
theorem jh{T E:TypeId}{x y:Int}{ok:Bool}{z:Value}(hk:vH x y)(h:gH w b n k1 k2 val)(hu:P.underlying T=some (.map K E))(hK:nL P K)(hz:(zeroValue E).run P w = .ok z w) :
 ((∀ i,i<n -> ¬ (k1 i=x/\k2 i=y))->(Instr.lookup T (.map (some b)) (kS x y) ok).run P w = .ok (if ok then .tuple #[z,.bool false]else z) w) /\
 ∀ j,j<n->k1 j=x->k2 j=y->(Instr.lookup T (.map (some b)) (kS x y) ok).run P w = .ok (if ok then .tuple #[val j,.bool true]else val j) w:=by
 have hm:=h
 obtain⟨es,c,h1,_⟩:=hm
 have hck:=hK.check hk es.isEmpty w
 rcases h.find hK h1 hk with ⟨h5,h6⟩|⟨j,hj,hkj,I9,h5⟩
 ·refine⟨fun _ => ?_,fun j hj e e2=>absurd ⟨e,e2⟩ (h6 j hj)⟩
  unfold Instr.lookup
  simp only[Sem.run_bind,run_underlying hu,Result.andThen_ok,Go.MapKept.run_getObj_map h1,Sem.run_pure,hck,h5,hz]
 refine⟨fun hno=>absurd ⟨hkj,I9⟩ (hno j hj),fun j2 hj2 e e2 => ?_⟩
 obtain rfl:j2=j:=h.inj j2 j hj2 hj (e.trans hkj.symm) (e2.trans I9.symm)
 unfold Instr.lookup
 simp only[Sem.run_bind,run_underlying hu,Result.andThen_ok,Go.MapKept.run_getObj_map h1,Sem.run_pure,hck,h5]
variable {T E:TypeId} {x ix:Operand} {a r:Int} {z v:Value} {j:Nat}
theorem BH(ho:o.op = .lookup T x ix false)(hx:ev f x = .map (some b))(hi:ev f ix=kS a r)(hk:vH a r)(h:gH w b n k1 k2 val)(hu:P.underlying T=some (.map K E))(hK:nL P K)(hz:(zeroValue E).run P w = .ok z w)(hn : ∀ i,i<n -> ¬ (k1 i=a/\k2 i=r)):Runs P f o w z:=by
 unfold Runs execOp
 simp only[ho,hx,hi,Sem.run_bind,((jh (ok:=false) hk h hu hK hz).1 hn),Result.andThen_ok,Sem.run_pure]; rfl
theorem BI(ho:o.op = .lookup T x ix false)(hx:ev f x = .map (some b))(hi:ev f ix=kS a r)(hk:vH a r)(h:gH w b n k1 k2 val)(hu:P.underlying T=some (.map K E))(hK:nL P K)(hz:(zeroValue E).run P w = .ok z w)(hj:j<n)(e1:k1 j=a)(e2:k2 j=r)(hv:val j=v):Runs P f o w v:=by
 subst hv
 unfold Runs execOp
 simp only[ho,hx,hi,Sem.run_bind,((jh (ok:=false) hk h hu hK hz).2 j hj e1 e2),Result.andThen_ok,Sem.run_pure]; rfl
theorem GL(ho:o.op = .lookup T x ix true)(hx:ev f x = .map (some b))(hi:ev f ix=kS a r)(hk:vH a r)(h:gH w b n k1 k2 val)(hu:P.underlying T=some (.map K E))(hK:nL P K)(hz:(zeroValue E).run P w = .ok z w)(hn : ∀ i,i<n -> ¬ (k1 i=a/\k2 i=r)):Runs P f o w (.tuple #[z,.bool false]):=by
 unfold Runs execOp
 simp only[ho,hx,hi,Sem.run_bind,((jh (ok:=true) hk h hu hK hz).1 hn),Result.andThen_ok,Sem.run_pure]; rfl
theorem GN(ho:o.op = .lookup T x ix true)(hx:ev f x = .map (some b))(hi:ev f ix=kS a r)(hk:vH a r)(h:gH w b n k1 k2 val)(hu:P.underlying T=some (.map K E))(hK:nL P K)(hz:(zeroValue E).run P w = .ok z w)(hj:j<n)(e1:k1 j=a)(e2:k2 j=r)(hv:val j=v):Runs P f o w (.tuple #[v,.bool true]):=by
 subst hv
 unfold Runs execOp
 simp only[ho,hx,hi,Sem.run_bind,((jh (ok:=true) hk h hu hK hz).2 j hj e1 e2),Result.andThen_ok,Sem.run_pure]; rfl
end
section
variable {P:Program} {w:World} {b n:Nat} {k1 k2:Nat->Int} {val:Nat->Value} {K:TypeId}
theorem oU{T E:TypeId}{x y:Int}{v:Value}(hk:vH x y)(h:gH w b n k1 k2 val)(hu:P.underlying T=some (.map K E))(hK:nL P K) :
 (∀ j,j<n->k1 j=x->k2 j=y -> ∃ w',(Instr.mapUpdate T (.map (some b)) (kS x y) v).run P w = .ok () w'/\gH w' b n k1 k2 (aH val j v)/\Stp b w w'/\w'.heap.size=w.heap.size) /\
 ((∀ i,i<n -> ¬ (k1 i=x/\k2 i=y)) -> ∃ w',(Instr.mapUpdate T (.map (some b)) (kS x y) v).run P w = .ok () w'/\gH w' b (n+1) (aH k1 n x) (aH k2 n y) (aH val n v)/\Stp b w w'/\w'.heap.size=w.heap.size):=by
 have hm:=h
 obtain⟨es,c,h1,h2,h3,h4⟩:=hm
 have hck:=hK.check hk false w
 rcases h.find hK h1 hk with ⟨hf,h6⟩|⟨j,hj,hkj,I9,hf⟩
 ·refine⟨fun j hj e e2=>absurd ⟨e,e2⟩ (h6 j hj),fun _ => ?_⟩
  obtain⟨s1,s2,s3⟩:=Ah (o' := .map (es.push { key:=kS x y,val:=v,born:=c }) (c+1)) h1
  have hr:(Instr.mapUpdate T (.map (some b)) (kS x y) v).run P w = .ok () { w with heap:=w.heap.setIfInBounds b (.map (es.push { key:=kS x y,val:=v,born:=c }) (c+1)) }:=by
   unfold Instr.mapUpdate
   simp only[Sem.run_bind,run_underlying hu,Result.andThen_ok,Go.MapKept.run_getObj_map h1,hck,hf]
   exact run_setObj_map _ h1
  refine⟨_,hr,⟨_,_,s1,stamped_push h2 fun q hq e => ?_,by simp[h3],fun i hi => ?_⟩,s2,s3⟩
  ·obtain⟨i,hi,ei⟩:=List.getElem_of_mem hq
   obtain⟨z,hz,kz,_⟩:=h4 i (by simpa [<- h3] using hi)
   have e5:es.toList[i]? = some q:=by rw[List.getElem?_eq_getElem hi,ei]
   rw[Array.getElem?_toList,hz]at e5
   obtain rfl:=Option.some.inj e5
   rw[kz]at e
   exact h6 i (by simpa [<- h3] using hi) (DY e)
  by_cases e:i=n
  ·subst e
   refine⟨_,by rw[Array.getElem?_push,if_pos h3.symm],?_,?_,?_⟩
   ·show kS x y=_; unfold aH; rw[if_pos rfl,if_pos rfl]
   ·show v=_; unfold aH; rw[if_pos rfl]
   unfold aH; rw[if_pos rfl,if_pos rfl]; exact hk
  obtain⟨z,hz,kz,vz,oz⟩:=h4 i (by omega)
  refine⟨z,by rw[Array.getElem?_push,if_neg (by omega)]; exact hz,?_,?_,?_⟩
  ·unfold aH; rw[if_neg e,if_neg e]; exact kz
  ·unfold aH; rw[if_neg e]; exact vz
  unfold aH; rw[if_neg e,if_neg e]; exact oz
 refine⟨fun j2 hj2 e e2 => ?_,fun hno=>absurd ⟨hkj,I9⟩ (hno j hj)⟩
 obtain rfl:j2=j:=h.inj j2 j hj2 hj (e.trans hkj.symm) (e2.trans I9.symm)
 obtain⟨z,hz,kz,vz,oz⟩:=h4 j2 hj
 obtain⟨s1,s2,s3⟩:=Ah (o' := .map (es.modify j2 fun q => { q with key:=kS x y,val:=v }) c) h1
 have I6:(Instr.keyThatStays (((es[j2]?).map (·.key)).getD (kS x y)) (kS x y)).run P w = .ok (kS x y) w:=by
  rw[hz]
  show(Instr.keyThatStays z.key (kS x y)).run P w=_
  rw[kz,e,e2]
  unfold Instr.keyThatStays
  rw[if_pos (BF x y)]; rfl
 have hr:(Instr.mapUpdate T (.map (some b)) (kS x y) v).run P w = .ok () { w with heap:=w.heap.setIfInBounds b (.map (es.modify j2 fun q => { q with key:=kS x y,val:=v }) c) }:=by
  unfold Instr.mapUpdate
  simp only[Sem.run_bind,run_underlying hu,Result.andThen_ok,Go.MapKept.run_getObj_map h1,hck,hf,I6]
  exact run_setObj_map _ h1
 refine⟨_,hr,⟨_,_,s1,stamped_modify h2 j2 _ (fun _ _=>rfl) (fun q _ hq => ?_),by simp[h3],fun i hi => ?_⟩,s2,s3⟩
 ·rw[hz]at hq
  obtain rfl:=Option.some.inj hq
  show kS x y=z.key
  rw[kz,e,e2]
 obtain⟨y2,hy2,ky2,vy2,oy2⟩:=h4 i hi
 by_cases e3:j2=i
 ·subst e3
  refine⟨{ y2 with key:=kS x y,val:=v },by rw[Array.getElem?_modify,if_pos rfl,hy2]; rfl,?_,?_,oy2⟩
  ·show kS x y=_; rw[e,e2]
  show v=_; unfold aH; rw[if_pos rfl]
 refine⟨y2,by rw[Array.getElem?_modify,if_neg e3]; exact hy2,ky2,?_,oy2⟩
 unfold aH; rw[if_neg (fun h=>e3 h.symm)]; exact vy2
end
section
variable {P:Program} {n0:Nat} {Q:Post} {f:Nat->Value} {w:World} {ops:Array Oper} {rest:List Oper} {o:Oper} {b n:Nat} {k1 k2:Nat->Int} {val:Nat->Value} {T K E:TypeId} {x ix v:Operand} {a r:Int} {u:Value} {j:Nat}
theorem L.TR(hw:Region.wanted o (yf ops f)=true)(hd:o.dst=none)(ho:o.op = .mapUpdate T x ix v)(hx:ev f x = .map (some b))(hi:ev f ix=kS a r)(hk:vH a r)(hv:ev f v=u)(h:gH w b n k1 k2 val)(hu:P.underlying T=some (.map K E))(hK:nL P K)(hj:j<n)(e1:k1 j=a)(e2:k2 j=r)
 (hc : ∀ w',gH w' b n k1 k2 (aH val j u)->Stp b w w'->w'.heap.size=w.heap.size->L P n0 ops Q rest f w'):L P n0 ops Q (o::rest) f w:=by
 obtain⟨w',hr,h1,h2,h3⟩:=(oU (v:=u) hk h hu hK).1 j hj e1 e2
 have hrun:(execOp (ev f) o).run P w = .ok .skip w':=by
  unfold execOp
  simp only[ho,hx,hi,hv,Sem.run_bind,hr,Result.andThen_ok,Sem.run_pure]
 refine L.unit hw hrun (by rw[hd]; rfl) ?_
 rw[hd]; exact hc w' h1 h2 h3
theorem L.Ja(hw:Region.wanted o (yf ops f)=true)(hd:o.dst=none)(ho:o.op = .mapUpdate T x ix v)(hx:ev f x = .map (some b))(hi:ev f ix=kS a r)(hk:vH a r)(hv:ev f v=u)(h:gH w b n k1 k2 val)(hu:P.underlying T=some (.map K E))(hK:nL P K)(hn : ∀ i,i<n -> ¬ (k1 i=a/\k2 i=r))
 (hc : ∀ w',gH w' b (n+1) (aH k1 n a) (aH k2 n r) (aH val n u)->Stp b w w'->w'.heap.size=w.heap.size->L P n0 ops Q rest f w'):L P n0 ops Q (o::rest) f w:=by
 obtain⟨w',hr,h1,h2,h3⟩:=(oU (v:=u) hk h hu hK).2 hn
 have hrun:(execOp (ev f) o).run P w = .ok .skip w':=by
  unfold execOp
  simp only[ho,hx,hi,hv,Sem.run_bind,hr,Result.andThen_ok,Sem.run_pure]
 refine L.unit hw hrun (by rw[hd]; rfl) ?_
 rw[hd]; exact hc w' h1 h2 h3
theorem L.Jb{T:TypeId}(hw:Region.wanted o (yf ops f)=true)(hd:inn n0 o.dst=true)(ho:o.op = .makeMap T none)
 (hc : ∀ g w',g=w.heap.size->gH w' g 0 (fun _=>0) (fun _=>0) (fun _ => .pointer none)->Stp w.heap.size w w'->w'.heap.size=w.heap.size+1->L P n0 ops Q rest (put f o.dst (.map (some g))) w'):L P n0 ops Q (o::rest) f w:=by
 have hrun:(execOp (ev f) o).run P w = .ok (.value (.map (some w.heap.size))) (w.alloc (.map #[] 0)):=by
  unfold execOp
  simp only[ho,Option.map_none]
  simp[run_makeMap']
 refine L.val hw hrun hd (hc _ _ rfl ?_ (Stp.alloc _ _) (by simp))
 exact⟨#[],0,by rw[alloc_at,if_pos rfl],stamped_empty 0,rfl,fun i hi=>absurd hi (Nat.not_lt_zero _)⟩
theorem L.PZ(hw:Region.wanted o (yf ops f)=true)(hd:inn n0 o.dst=true)(ho:o.op = .range T x)(hx:ev f x = .map (some b))(h:gH w b n k1 k2 val)(hu:P.underlying T=some (.map K E))
 (hc : ∀ g w',g=w.heap.size->It w' g b n (fun _=>false)->Stp w.heap.size w w'->w'.heap.size=w.heap.size+1->L P n0 ops Q rest (put f o.dst (.pointer (some ⟨g,0,none⟩))) w'):L P n0 ops Q (o::rest) f w:=by
 have hm:=h
 obtain⟨es,c,h1,h2,h3,h4⟩:=hm
 have hr:=run_range_map (P:=P) w T K E b es c hu h1
 have hrun:(execOp (ev f) o).run P w = .ok (.value (.pointer (some ⟨w.heap.size,0,none⟩))) (w.alloc (.mapIter (some b) c #[] c)):=by
  unfold execOp
  simp only[ho,hx,Sem.run_bind,hr,Result.andThen_ok,Sem.run_pure]
 refine L.val hw hrun hd (hc _ _ rfl ?_ (Stp.alloc _ _) (by simp))
 refine⟨es,c,c,#[],c,?_,by rw[alloc_at,if_pos rfl],h2.1,Nat.le_refl _,h3,h2.1,Nat.le_refl _,fun i j x y hx hy e => ?_,fun i hi => ?_⟩
 ·rw[alloc_at,if_neg (Nat.ne_of_lt h.lt)]; exact h1
 ·rw[Array.getElem?_eq_some_iff]at hx hy
  obtain⟨hi',hx⟩:=hx
  obtain⟨hj',hy⟩:=hy
  have hp:=List.pairwise_iff_getElem.1 h2.2.1
  have key2 : ∀ a c (ha:a<es.size) (hc:c<es.size),a<c->es[a].born≠es[c].born:=fun a c ha hc hac=>by
   have:=hp a c (by simpa using ha) (by simpa using hc) hac
   simpa only[List.getElem_map,Array.getElem_toList] using this
  rcases Nat.lt_trichotomy i j with h5|h5|h5
  ·exact absurd (by rw[hx,hy,e]) (key2 i j hi' hj' h5)
  ·exact h5
  exact absurd (by rw[hx,hy,e]) (key2 j i hj' hi' h5)
 obtain⟨e,he,_⟩:=h4 i hi
 exact⟨e,he,by simp⟩
theorem L.TS{x:Operand}{r:Nat}{S:Nat->Bool}(hw:Region.wanted o (yf ops f)=true)(hd:inn n0 o.dst=true)(ho:o.op = .next x false)(hx:ev f x = .pointer (some ⟨r,0,none⟩))(h:gH w b n k1 k2 val)(hi:It w r b n S)
 (hc0:(∀ i,i<n->S i=true)->L P n0 ops Q rest (put f o.dst (.tuple #[.bool false])) w)
 (hc1 : ∀ i w',i<n->S i=false->It w' r b n (aH S i true)->uW w' r b i->Stp r w w'->w'.heap.size=w.heap.size->L P n0 ops Q rest (put f o.dst (.tuple #[.bool true,kS (k1 i) (k2 i),val i])) w'):L P n0 ops Q (o::rest) f w:=by
 obtain⟨es,c,since,seen,c0,h1,h2,h3,h4,h5,h6,h7,h8,h9⟩:=hi
 obtain⟨es',c',k1',WX,_,k4⟩:=h
 rw[h1]at k1'
 simp only[Option.some.injEq,Obj.map.injEq]at k1'
 obtain⟨rfl,rfl⟩:=k1'
 have hrb:r≠b:=fun e=>by rw[e,h1]at h2; cases h2
 rcases run_next_at (P:=P) w o.type r b since c0 seen es c h2 h1 h3 h4 with ⟨z,hr⟩|⟨e,he,w1,hw1,hr⟩
 ·have hrun:(execOp (ev f) o).run P w = .ok (.value (.tuple #[.bool false])) w:=by
   unfold execOp
   simp only[ho,hx,Sem.run_bind,hr,Result.andThen_ok,Sem.run_pure]
  refine L.val hw hrun hd (hc0 fun i hi => ?_)
  obtain⟨y,hy,hs⟩:=h9 i hi
  rw[<- hs]
  cases hq:seen.contains y.born with
  | true=>rfl
  | false =>
    have hmem:y∈leftOf es seen:=by
     unfold leftOf
     rw[Array.mem_filter]
     exact⟨Array.mem_of_getElem? hy,by rw[hq]; rfl⟩
    have:=Array.size_pos_of_mem hmem
    omega
 have hrun:(execOp (ev f) o).run P w = .ok (.value (.tuple #[.bool true,e.key,e.val])) (Go.ChangeMaps.setBlock w1 r (.mapIter (some b) since (seen.push e.born) c)):=by
  unfold execOp
  simp only[ho,hx,Sem.run_bind,hr,Result.andThen_ok,Sem.run_pure]
 have hmem:e∈leftOf es seen:=Array.mem_toList_iff.1 he
 unfold leftOf at hmem
 rw[Array.mem_filter]at hmem
 obtain⟨hme,hns⟩:=hmem
 obtain⟨i,hi,ei⟩:=Array.getElem_of_mem hme
 have hes:es[i]? = some e:=by rw[Array.getElem?_eq_getElem hi,ei]
 obtain⟨y,hy,ky,vy,_⟩:=k4 i (by omega)
 rw[hes]at hy
 obtain rfl:=Option.some.inj hy
 obtain⟨y2,hy2,hs⟩:=h9 i (by omega)
 rw[hes]at hy2
 obtain rfl:=Option.some.inj hy2
 have hsf:S i=false:=by rw[<- hs]; simpa using hns
 have hh:w1.os=w.os/\w1.tape=w.tape/\w1.output=w.output/\w1.heap=w.heap:=by rcases hw1 with rfl|rfl <;> exact⟨rfl,rfl,rfl,rfl⟩
 have hsz:(Go.ChangeMaps.setBlock w1 r (.mapIter (some b) since (seen.push e.born) c)).heap.size=w.heap.size:=by
  show(w1.heap.setIfInBounds r _).size=_; rw[hh.2.2.2]; simp
 have hst:Stp r w (Go.ChangeMaps.setBlock w1 r (.mapIter (some b) since (seen.push e.born) c)) :=
  ⟨hh.1,hh.2.1,hh.2.2.1,by rw[hsz]; exact Nat.le_refl _,fun k _ hne=>by show(w1.heap.setIfInBounds r _)[k]? = _; rw[hh.2.2.2,Array.getElem?_setIfInBounds_ne (Ne.symm hne)]⟩
 have PX:r<w1.heap.size:=by
  rcases hw1 with rfl|rfl <;> exact(Array.getElem?_eq_some_iff.1 h2).1
 rw[ky,vy]at hrun
 have q1:(Go.ChangeMaps.setBlock w1 r (.mapIter (some b) since (seen.push e.born) c)).heap[b]? = some (.map es c):=by rw[hst.block b (Array.getElem?_eq_some_iff.1 h1).1 (Ne.symm hrb)]; exact h1
 have q2:(Go.ChangeMaps.setBlock w1 r (.mapIter (some b) since (seen.push e.born) c)).heap[r]? = some (.mapIter (some b) since (seen.push e.born) c):=by simp[Go.ChangeMaps.setBlock,PX]
 refine L.val hw hrun hd (hc1 i _ (by omega) hsf ⟨es,c,since,seen.push e.born,c,q1,q2,h3,h7,h5,h6,h7,h8,fun j hj => ?_⟩ ⟨es,c,since,seen,e,q1,q2,hes,WX.2.1⟩ hst hsz)
 obtain⟨y3,hy3,hs3⟩:=h9 j hj
 refine⟨y3,hy3,?_⟩
 unfold aH
 by_cases e5:j=i
 ·subst e5
  rw[hes]at hy3
  obtain rfl:=Option.some.inj hy3
  rw[if_pos rfl]; simp
 rw[if_neg e5,<- hs3]
 have hne:y3.born≠e.born:=fun e6=>e5 (h8 j i y3 e hy3 hes e6)
 cases hq:seen.contains y3.born with
 | true=>simp at hq ⊢; exact .inl hq
 | false=>simp at hq ⊢; exact⟨hq,hne⟩
theorem Jc{x:Operand}{r i:Nat}(ho:o.op = .entry x)(hx:ev f x = .pointer (some ⟨r,0,none⟩))(h:gH w b n k1 k2 val)(hi:uW w r b i)(hin:i<n):Runs P f o w (.tuple #[kS (k1 i) (k2 i),val i]):=by
 obtain⟨es,c,s,se,e,h1,h2,h3,h4⟩:=hi
 obtain⟨es',c',q1,_,_,k4⟩:=h
 rw[h1]at q1
 simp only[Option.some.injEq,Obj.map.injEq]at q1
 obtain⟨rfl,rfl⟩:=q1
 obtain⟨y,hy,ky,vy,_⟩:=k4 i hin
 rw[h3]at hy
 obtain rfl:=Option.some.inj hy
 have hr:=run_entry_at (P:=P) w r b s se es c e h2 h1 (Array.mem_toList_iff.2 (Array.mem_of_getElem? h3)) h4
 unfold Runs execOp
 simp only[ho,hx,Sem.run_bind,hr,Result.andThen_ok,Sem.run_pure,ky,vy]
end
end Go.Proofs.YtahbiajdgealnaaDoor.Fx
namespace Go.Proofs.YtahbiajdgealnaaDoor
open Go.RowKit Go
set_option linter.unusedVariables false
namespace TT
def Fj{β:Type}(q:Nat)(J:β->World->Prop):Prop := ∀ s W W' row,J s W->W.grownBy W' row->(∀ r,row=some r->r=q)->J s W'
def TU{α:Type}(F:Fence)(n:Nat)(P:Program)(g:Nat)(lb:Array Value)(encs:α->Array Value)(Kp:World->World->Prop)(S:List α->Prop)(N q:Nat)(Ip:World->Prop):Prop :=
 ∀(l:Nat) (J:List α->World->Prop) (W:World),Ip W->Fj q J ->
  (∀ pre x W1,J pre W1->pre.length<N->YieldAt F (n-1) P l (encs x) W1 fun e W'=>e = .returned (.bool true)/\J (pre ++ [x]) W'/\Kp W1 W') ->
  J [] W ->
  CallsIn F n P g (#[.func (.yield l) #[] #[]]++lb) W fun e W'=>(∃ v,e = .returned v) /\ ∃ xs,S xs/\J xs W'
def GQ{β:Type}(q B:Nat)(I:β->World->Prop):Prop :=
 ∀ s W W' row,I s W->W.grownBy W' row->(∀ r,row=some r->r=q\/(B<=r /\ ∃ o:Obj,W.heap[r]? = some o/\o.isCells=false))->I s W'
variable {F:Fence} {n:Nat} {P:Program}
theorem GQ.putObj{β:Type}{q B:Nat}{I:β->World->Prop}(h:GQ q B I){s:β}{W:World}{l:Nat}{o:Obj}(o':Obj)(hs:I s W)(hB:B<=l)(hl:W.heap[l]? = some o)(ho:o.isCells=false):I s (W.putObj l o') :=
 h s W _ (some l) hs (grownBy_putObj' W l o') (fun r e=>by cases e; exact .inr ⟨hB,o,hl,ho⟩)
theorem GQ.alloc{β:Type}{q B:Nat}{I:β->World->Prop}(h:GQ q B I){s:β}{W:World}(o:Obj)(hs:I s W):I s (W.alloc o) :=
 h s W _ none hs (World.grownBy_alloc W o none) (fun r e=>by cases e)
def TV{α:Type}(Kp:World->World->Prop)(I:List α->World->Prop)(xs:List α)(W:World):Exit->Act->World->Prop
 | .normal,_,W'=>KeepsOthers W W'/\Kp W W'/\I xs W'
 | _,_,_=>False
theorem yZ{W W':World}{q:Nat}{row:Option Nat}(hg:W.grownBy W' row)(hrow : ∀ r,row=some r->r=q){k:Nat}{o:Obj}(hk:W.heap[k]? = some o)(hq:k≠q):W'.heap[k]? = W.heap[k]? :=
 hg.block k (Array.getElem?_eq_some_iff.1 hk).1 fun e=>hq (hrow k e.symm)
theorem vI{α:Type}{g:Operand}{ps:Array Tmp}{assign body:Code}{Q:Exit->Act->World->Prop}{a:Act}{w:World}
 (hro:F.round=none) (h1:1<=n) {gf:Nat} {lb:Array Value} (hg:a.eval g = .func (.func gf) #[] lb) (hFg:F.fn gf) (eg : ∀ args w,(callFunc gf args).run P w = .ok (.enter gf args) w)
 {encs:α->Array Value} {Kp:World->World->Prop} {S:List α->Prop} {N q:Nat} {Ip:World->Prop} (hseq:TU F (n-1) P gf lb encs Kp S N q Ip) (hq:q<w.heap.size)
 (TW:Ip w) (Ai : ∀ W o,w.heap.size<=W.heap.size->Ip W->Ip (W.alloc o))
 (hKt : ∀ {A B C:World},Kp A B->Kp B C->Kp A C) (hKb : ∀(W:World) (l:Nat) (o o':Obj),w.heap.size<=l->W.heap[l]? = some o->o.isCells=false->o.isWalk=false->Kp W (W.putObj l o')) (hps : ∀ x,(encs x).size=ps.size)
 (I:List α->World->Prop) (hI:GQ q w.heap.size I) (h0:I [] w) (A₁:α->Act->Prop)
 (hassign : ∀(l:Nat) (x:α) (W:World),assign.wpIn (F.inRound l) (n-1-1) P (Exit.then (fun a' W'=>A₁ x a'/\W'=W) (fun _ _ _=>False)) { tmps:=(ps.zip (encs x)).foldl (fun t (p,v)=>t.setIfInBounds p v) a.tmps,defers := [] } W)
 (hbody : ∀(l:Nat) (pre:List α) (x:α) (W:World) (a':Act),A₁ x a'->I pre W->pre.length<N->body.wpIn (F.inRound l) (n-1-1) P (TV Kp I (pre ++ [x]) W) a' W)
 (hdone : ∀(D:Nat) (xs:List α) (W:World),w.heap.size<=D->S xs->I xs W->W.heap[D]? = some (.deferred (some []))->Q .normal { a with defers := { target := .collected D,args := #[] }::a.defers } W) :
 (Code.rangeFunc g ps assign body).wpIn F n P Q a w:=by
 refine wpIn_rangeFunc ?_
 intro fn hfn
 rw[hro]
 obtain⟨rec,hrec⟩ : ∃ rec:LoopState->Option Code->Loop,rec=fun st pe => { state:=st,pending:=pe,fn,tmps:=a.tmps,params:=ps,assign,body,defers:=w.heap.size }:=⟨_,rfl⟩
 obtain⟨W1,hW1⟩ : ∃ W1,(w.alloc (.deferred (some []))).alloc (.loop (rec .ready none))=W1:=⟨_,rfl⟩
 have hL1:W1.heap[w.heap.size+1]? = some (.loop (rec .ready none)):=by
  rw[<- hW1]; have:=World.alloc_heap_new (w.alloc (.deferred (some []))) (.loop (rec .ready none)); rwa [World.size_alloc]at this
 have hK1:W1.heap[w.heap.size]? = some (.deferred (some [])):=by
  rw[<- hW1]; exact(Below.heap_alloc _ _ _ (by simp)).trans (World.alloc_heap_new w _)
 have hI1:I [] W1:=by rw[<- hW1]; exact hI.alloc _ (hI.alloc _ h0)
 have hp1:Ip W1:=by rw[<- hW1]; exact Ai _ _ (by simp) (Ai _ _ (Nat.le_refl _) TW)
 refine⟨w.heap.size+1,[{ target := .collected w.heap.size,args := #[] }],W1,{ target := .fn (.func gf) lb,args := #[.func (.yield (w.heap.size+1)) #[] #[]] },W1,gf,
  #[.func (.yield (w.heap.size+1)) #[] #[]]++lb,W1,?_,?_,?_,?_,fun _=>h1,?_⟩
 ·rw[<- hW1,hrec]; exact run_enterLoop_outer _ _ _ _ _
 ·simp only[resolve,hg]
  simp[go_sem]
 ·intro f' hf'; simp[Target.leads]at hf'; subst hf'; exact hFg
 ·simp[invoke,go_sem,eg]
 refine(hseq (w.heap.size+1)
  (fun pre W=>I pre W/\W.heap[w.heap.size+1]? = some (.loop (rec .ready none))/\W.heap[w.heap.size]? = some (.deferred (some [])))
  W1 hp1
  (fun s A B row hs hg' hr=>⟨hI s A B row hs.1 hg' (fun r e => .inl (hr r e)),(yZ hg' hr hs.2.1 (by omega)).trans hs.2.1,(yZ hg' hr hs.2.2 (by omega)).trans hs.2.2⟩)
  ?_ ⟨hI1,hL1,hK1⟩).mono ?_
 ·-- one round
  rintro pre x W ⟨hi,hl,hk⟩ hlen
  have hlt:w.heap.size+1<W.heap.size:=(Array.getElem?_eq_some_iff.1 hl).1
  have hy:=run_yield (P:=P) (args:=encs x) hl (by rw[hrec]; exact hps x)
  rw[hrec]at hy
  refine⟨fn,_,assign,body,hy,roundIn_of_wpIn hfn (wpIn_mono (hassign _ x W) ?_)⟩
  rintro e1 a1 w1 hq1
  cases e1 with
  | exit id=>exact hq1.elim
  | goto t=>exact hq1.elim
  | ret=>exact hq1.elim
  | panic ch=>exact hq1.elim
  | outgrown=>exact hq1.elim
  | normal =>
  obtain⟨hA1,ew⟩:=hq1
  rw[ew]
  refine⟨_,run_beginRound hl (by rw[hrec]),?_⟩
  have hl2:(W.putObj (w.heap.size+1) (.loop { rec .ready none with state := .busy })).heap[w.heap.size+1]? = some (.loop { rec .ready none with state := .busy }):=World.putObj_heap_same hlt
  have hk2:(W.putObj (w.heap.size+1) (.loop { rec .ready none with state := .busy })).heap[w.heap.size]? = some (.deferred (some [])):=(World.putObj_heap_other (by omega)).trans hk
  have hw2:Kp W (W.putObj (w.heap.size+1) (.loop { rec .ready none with state := .busy })):=hKb _ _ _ _ (by omega) hl rfl rfl
  refine wpIn_mono (hbody _ pre x _ a1 hA1 (hI.putObj _ hi (by omega) hl rfl) hlen) ?_
  rintro e a3 W3 hp
  cases e with
  | normal =>
    obtain⟨hk3,hkp3,hi3⟩:=hp
    have hl3:=hk3.same _ _ hl2 rfl
    have hr:=run_endRound (P:=P) none hl3
    rw[hrec]at hr hl3
    refine⟨_,_,hr,rfl,⟨hI.putObj _ hi3 (by omega) hl3 rfl,?_,(World.putObj_heap_other (by omega)).trans (hk3.same _ _ hk2 rfl)⟩,hKt (hKt hw2 hkp3) (hKb _ _ _ _ (by omega) hl3 rfl rfl)⟩
    rw[hrec]; exact World.putObj_heap_same (Array.getElem?_eq_some_iff.1 hl3).1
  | ret=>exact hp.elim
  | exit id=>exact hp.elim
  | goto t=>exact hp.elim
  | panic ch=>exact hp.elim
  | outgrown=>exact hp.elim
 rintro e W2 ⟨⟨v,rfl⟩,xs,hS,hi,hl,hk⟩
 exact⟨none,_,by have:=run_endLoop (P:=P) hl (by rw[hrec]; simp); rw[hrec]at this; exact this,hdone _ xs _ (Nat.le_refl _) hS (hI.putObj _ hi (by omega) hl rfl) ((World.putObj_heap_other (by omega)).trans hk)⟩
end TT
end Go.Proofs.YtahbiajdgealnaaDoor
namespace Go.Proofs.YtahbiajdgealnaaDoor
open Go.RowKit Go
set_option linter.unusedVariables false
namespace Fx
structure rR(a:Act)(n:Nat)(f:Nat->Value):Prop where
 size:a.tmps.size=n
 get : ∀ i,a.tmps.getD i undef=f i
theorem Fr.to0{a:Act}{n:Nat}{f:Nat->Value}(h:Fr a n f):rR a n f:=⟨h.size,h.get⟩
theorem rR.to{a:Act}{n:Nat}{f:Nat->Value}(h:rR a n f)(hd:a.defers = []):Fr a n f:=⟨h.size,hd,h.get⟩
theorem rR.ev{a:Act}{n:Nat}{f:Nat->Value}(h:rR a n f):a.eval=Fx.ev f:=by
 funext x
 cases x <;> simp only[Act.eval,Fx.ev]
 exact h.get _
theorem rR.put{a:Act}{n:Nat}{f:Nat->Value}(h:rR a n f){d:Option Nat}(hd:inn n d=true)(v:Value):rR (a.put d v) n (Fx.put f d v):=by
 have h1:Fr { a with defers := [] } n f:=⟨h.size,rfl,h.get⟩
 have h2:=h1.put hd v
 cases d with
 | none=>exact⟨h2.size,h2.get⟩
 | some d=>exact⟨h2.size,h2.get⟩
theorem rR.yf{a:Act}{n:Nat}{f:Nat->Value}(h:rR a n f)(ops:Array Oper):yielded ops a.tmps=Fx.yf ops f:=by
 have h1:Fr { a with defers := [] } n f:=⟨h.size,rfl,h.get⟩
 exact h1.yf ops
theorem BJ{a:Act}{n p:Nat}{v:Value}{f:Nat->Value}(h:rR (a.put (some p) v) n f):rR { tmps:=(#[p].zip #[v]).foldl (fun t (p,v)=>t.setIfInBounds p v) a.tmps,defers := [] } n f:=by
 have e:(#[p].zip #[v]).foldl (fun t (p,v)=>t.setIfInBounds p v) a.tmps=(a.put (some p) v).tmps:=by simp[Array.zip,Act.put]
 rw[e]; exact⟨h.size,h.get⟩
theorem put_defers(a:Act)(d:Option Nat)(v:Value):(a.put d v).defers=a.defers:=by cases d <;> rfl
def FR(ro:Option Nat):Fence := { Fence.wide with round:=ro }
def gI(o:Oper):Bool:=match o.op with | .defer _=>false|_=>true
def Jd(n:Nat)(ds:List Deferred)(Q:Post):Exit->Act->World->Prop:=fun e a w => ∃ f,rR a n f/\a.defers=ds/\Q e f w
section
variable {P:Program} {n m:Nat} {ro:Option Nat} {Q:Post} {f:Nat->Value} {w:World} {o:Oper} {ops:Array Oper} {rest:List Oper}
theorem BK(ro:Option Nat)(ρ:Operand->Value)(h:gI o=true):o.semAt ro ρ=execOp ρ o :=
 Oper.semAt_eq ro ρ o fun c e=>by unfold gI at h; rw[e]at h; cases h
theorem Out.wpIn{a:Act}{K:Value->World->Prop}{K':Act->World->Prop}{Q':Exit->Act->World->Prop}(ha:rR a n f)(hd:gI o=true)(h:Out P f o w K)(hk : ∀ v w',K v w'->K' (a.put o.dst v) w'):o.wpIn (FR ro) m P a w K' Q':=by
 unfold Oper.wpIn
 refine⟨fun _ _=>trivial,?_⟩
 rw[BK _ _ hd,ha.ev]
 rcases h with ⟨v,w',hr,h⟩|⟨w',hr,h⟩|⟨g,args,hr,h⟩
 ·rw[hr]; exact hk v w' h
 ·rw[hr]; exact hk undef w' h
 rw[hr,Oper.uponIn_enter]
 refine⟨fun h=>(by cases h),?_⟩
 have key : ∀ R,Calls P g args w R->CallsIn (FR ro) (m-1) P g args w R:=fun R hR=>by
  cases ro with
  | none=>exact callsIn_wide.2 hR
  | some l=>exact CallsIn.inRound l (callsIn_wide.2 hR)
 refine key _ (h.mono fun e w' ⟨v,he,hl⟩ => ?_)
 subst he; exact hk v w' hl
theorem L.toIn : ∀ {l:List Oper} {f:Nat->Value} {w:World},L P n ops Q l f w->l.all gI=true -> ∀ a,rR a n f->wpListIn (FR ro) m P ops (Jd n a.defers Q) l a w
 | [],f,w,h,_,a,ha=>⟨f,ha,rfl,h⟩
 | o::rest,f,w,⟨hd,h⟩,hn,a,ha=>by
   rw[List.all_cons,Bool.and_eq_true]at hn
   unfold wpListIn
   rw[ha.yf]
   rcases h with ⟨hw,h⟩|⟨hw,h⟩
   ·rw[if_pos hw]
    exact h.wpIn ha hn.1 fun v w' hl=>by have:=L.toIn hl hn.2 _ (ha.put hd v); rwa [put_defers]at this
   ·rw[if_neg (by rw[hw]; decide)]
    exact⟨fun _ _=>trivial,by have:=L.toIn h hn.2 _ (ha.put hd undef); rwa [put_defers]at this⟩
theorem za{id:Nat}{ops:List Oper}{a:Act}{Q':Exit->Act->World->Prop}(ha:rR a n f)(h:L P n ops.toArray Q ops f w)(hn:ops.all gI=true:=by rfl)(hq : ∀ e a' w',Jd n a.defers Q e a' w'->Q' e a' w'):(Code.region id ops.toArray false).wpIn (FR ro) m P Q' a w :=
 wpIn_mono (wpIn_region_lit (L.toIn h hn a ha)) hq
def P5(m:Nat)(P:Program)(f:Nat->Value)(o:Oper)(w:World)(K:Value->World->Prop):Prop :=
 Out P f o w K \/ ∃ l fn tmps assign body,(execOp (ev f) o).run P w = .ok (.round l fn tmps assign body) w/\RoundIn (FR none) (m-1) P l fn tmps assign body w fun e w' => ∃ v,e = .returned v/\K v w'
def Ly(m:Nat)(P:Program)(n:Nat)(ops:Array Oper)(Q:Post):List Oper->(Nat->Value)->World->Prop
 | [],f,w=>Q .normal f w
 | o::rest,f,w=>inn n o.dst=true/\((Region.wanted o (yf ops f)=true/\P5 m P f o w fun v w'=>Ly m P n ops Q rest (put f o.dst v) w')\/(Region.wanted o (yf ops f)=false/\Ly m P n ops Q rest (put f o.dst undef) w))
theorem P5.wpIn{a:Act}{K:Value->World->Prop}{K':Act->World->Prop}{Q':Exit->Act->World->Prop}(ha:rR a n f)(hd:gI o=true)(h:P5 m P f o w K)(hk : ∀ v w',K v w'->K' (a.put o.dst v) w'):o.wpIn (FR none) m P a w K' Q':=by
 rcases h with h|⟨l,fn,tmps,assign,body,hr,h⟩
 ·exact h.wpIn ha hd hk
 unfold Oper.wpIn
 refine⟨fun _ _=>trivial,?_⟩
 rw[BK _ _ hd,ha.ev,hr,Oper.uponIn_round]
 exact⟨fun h=>(by cases h),h.mono fun e w' ⟨v,he,hl⟩=>by subst he; exact hk v w' hl⟩
theorem Ly.to : ∀ {l:List Oper} {f:Nat->Value} {w:World},Ly m P n ops Q l f w->l.all gI=true -> ∀ a,rR a n f->wpListIn (FR none) m P ops (Jd n a.defers Q) l a w
 | [],f,w,h,_,a,ha=>⟨f,ha,rfl,h⟩
 | o::rest,f,w,⟨hd,h⟩,hn,a,ha=>by
   rw[List.all_cons,Bool.and_eq_true]at hn
   unfold wpListIn
   rw[ha.yf]
   rcases h with ⟨hw,h⟩|⟨hw,h⟩
   ·rw[if_pos hw]
    exact h.wpIn ha hn.1 fun v w' hl=>by have:=Ly.to hl hn.2 _ (ha.put hd v); rwa [put_defers]at this
   ·rw[if_neg (by rw[hw]; decide)]
    exact⟨fun _ _=>trivial,by have:=Ly.to h hn.2 _ (ha.put hd undef); rwa [put_defers]at this⟩
theorem W.OC(m:Nat){id:Nat}{ops:List Oper}(h:Ly m P n ops.toArray Q ops f w)(hn:ops.all gI=true:=by rfl):W P n (.region id ops.toArray false) Q f w:=fun a ha =>
 (wpIn_wide (n:=m)).1 (wpIn_mono (wpIn_region_lit (Ly.to h hn a ha.to0)) fun e a' w' ⟨f',h1,h2,h3⟩=>⟨f',h1.to (h2.trans ha.defers),h3⟩)
theorem Ly.nil(h:Q .normal f w):Ly m P n ops Q [] f w:=h
theorem Ly.v(v:Value)(hr:Runs P f o w v)(h:Ly m P n ops Q rest (put f o.dst v) w)(hw:Region.wanted o (yf ops f)=true:=by rfl)(hd:inn n o.dst=true:=by rfl):Ly m P n ops Q (o::rest) f w:=⟨hd,.inl ⟨hw,.inl (.inl ⟨v,w,hr,h⟩)⟩⟩
theorem Ly.skip(hw:Region.wanted o (yf ops f)=false)(hd:inn n o.dst=true)(h:Ly m P n ops Q rest (put f o.dst undef) w):Ly m P n ops Q (o::rest) f w:=⟨hd,.inr ⟨hw,h⟩⟩
theorem Ly.call{g:FuncId}{args:Array Value}(hw:Region.wanted o (yf ops f)=true)(hr:(execOp (ev f) o).run P w = .ok (.enter g args) w)(hd:inn n o.dst=true)
 (h:Calls P g args w fun e w' => ∃ v,e = .returned v/\Ly m P n ops Q rest (put f o.dst v) w'):Ly m P n ops Q (o::rest) f w:=⟨hd,.inl ⟨hw,.inl (.inr (.inr ⟨g,args,hr,h⟩))⟩⟩
theorem Ly.yield{l:Nat}{x:Operand}{xs:List Operand}{args:List Value}{Ts:Array TypeId}{R:Ending->World->Prop}(hw:Region.wanted o (yf ops f)=true)(ho:o.op = .call { callee := .value x,args:=xs.toArray,argTypes:=Ts })(hx:ev f x = .func (.yield l) #[] #[])(hxs:xs.map (ev f)=args)(hd:inn n o.dst=true)
 (hy:YieldAt (FR none) (m-1) P l args.toArray w R) (h : ∀ e w',R e w' -> ∃ v,e = .returned v/\Ly m P n ops Q rest (put f o.dst v) w'):Ly m P n ops Q (o::rest) f w:=by
 obtain⟨fn,tmps,assign,body,hr,hR⟩:=hy
 refine⟨hd,.inl ⟨hw,.inr ⟨l,fn,tmps,assign,body,?_,hR.mono h⟩⟩⟩
 unfold execOp
 simp only[ho]
 unfold resolve
 simp only[Sem.run_bind,List.map_toArray,hxs,hx,Deferred.ofValue,Sem.run_pure,Result.andThen_ok]
 unfold invoke
 have e:(#[]++args.toArray:Array Value)=args.toArray:=by simp
 show(Instr.yield l (#[]++args.toArray)).run P w=_
 rw[e]
 exact hr
theorem Je{a:Act}(h:rR a n f)(fn:Func):results fn a.tmps=uf fn f:=by
 have h1:Fr { a with defers := [] } n f:=⟨h.size,rfl,h.get⟩
 exact E8 h1 fn
theorem leave1{a:Act}{fn:Func}{R:Ending->World->Prop}{D:Nat}{v:Value}(h:rR a n f)(hd:a.defers = [{ target := .collected D,args := #[] }])(hK:w.heap[D]? = some (.deferred (some [])))
 (hv:(uf fn f).run P (w.putObj D (.deferred none)) = .ok v (w.putObj D (.deferred none))) (hR:R (.returned v) (w.putObj D (.deferred none))):bodyPostM (FR none) m P fn R .ret a w:=by
 show LeavesInM (FR none) m P fn a.tmps R a.defers .returning w
 rw[hd]
 exact⟨by simp,.inl ⟨D,_,rfl,run_takeDeferred hK,v,by rw[Je h]; exact hv,hR⟩⟩
end
end Fx
end Go.Proofs.YtahbiajdgealnaaDoor
namespace Go.Proofs.YtahbiajdgealnaaDoor
open Go.RowKit
namespace Rt
def mx:Int:=1125899906842624
def DC(n:Int):Bool:=decide (0<=n)&&decide (n<=1125899906842624)
def iM(l:List Int):Bool:=l.all DC
def iV(l:List Int):Int × Bool:=if iM l then(l.sum,true)else(0,false)
theorem vJ(l:List Int)(k:Nat)(h:k<l.length):iM (l.take (k+1))=(iM (l.take k)&&DC l[k]):=by
 unfold iM; rw[List.take_succ_eq_append_getElem h,List.all_append]; simp
theorem yF(l:List Int)(k:Nat)(h:k<l.length):(l.take (k+1)).sum=(l.take k).sum+l[k]:=by
 rw[List.take_succ_eq_append_getElem h,List.sum_append]; simp
theorem uj : ∀(l:List Int),iM l=true->0<=l.sum/\l.sum<=1125899906842624*(l.length:Int)
 | [],_=>by simp
 | x::l,h=>by
   unfold iM at h
   rw[List.all_cons,Bool.and_eq_true]at h
   have:=uj l h.2
   have hx:=h.1
   unfold DC at hx
   simp at hx
   rw[List.sum_cons,List.length_cons]
   omega
theorem nM(l:List Int):0<=(iV l).1/\(iV l).1<=1125899906842624*(l.length:Int):=by
 unfold iV
 by_cases h:iM l=true
 ·rw[if_pos h]; exact uj l h
 rw[if_neg h]; simp; omega
theorem yG{l:List Int}{k:Nat}(hk:k<l.length)(h:DC l[k]=false):iM l=false:=by
 unfold iM
 rw[List.all_eq_false]
 exact⟨l[k],List.getElem_mem hk,by simpa using h⟩
def G(x:Nat->Int)(i:Nat):Int:=x i
def C(x:Nat->Int)(i:Nat):Int:=x (6+i)
def F(x:Nat->Int)(i:Nat):Int:=x (12+i)
def R(x:Nat->Int)(i j:Nat):Int:=x (18+i*6+j)
def outs(x:Nat->Int)(k:Nat):Nat->List Int
 | 0 => [C x k]
 | j+1=>outs x k j ++ [R x k j]
def ins(x:Nat->Int)(k:Nat):Nat->List Int
 | 0 => [G x k,F x k]
 | j+1=>ins x k j ++ [R x j k]
def localM(x:Nat->Int)(k:Nat):Int × Bool:=((iV (ins x k 6)).1-(iV (outs x k 6)).1,(iV (outs x k 6)).2&&(iV (ins x k 6)).2)
theorem GR(x:Nat->Int)(k:Nat):(outs x k 6).length=7:=rfl
theorem Jf(x:Nat->Int)(k:Nat):(ins x k 6).length=8:=rfl
end Rt
def V5(k:IntKind)(w:World)(a:Option Addr)(l:List Int):Prop :=
 ∀ i (h:i<l.length),∃ b off,a=some ⟨b,off,none⟩/\w.cell? ⟨b,off+i,none⟩=some (.int k l[i])
end Go.Proofs.YtahbiajdgealnaaDoor
namespace Go.Proofs.YtahbiajdgealnaaDoor.Fx
open Go.RowKit
def Jg(I:(Nat->Value)->World->Prop)(Q:Post):Post:=fun e f w=>match e with | .normal=>I f w|e=>Q e f w
section
variable {P:Program} {n:Nat} {Q:Post} {f:Nat->Value} {w:World} {I:(Nat->Value)->World->Prop}
theorem W.P6{x y:Code}(I:(Nat->Value)->World->Prop)(h1:W P n x (Jg I Q) f w)(h2 : ∀ f w,I f w->W P n y Q f w):W P n (.seq x y) Q f w :=
 Ws (W.mono h1 fun e f w hq=>by
  cases e <;> first|exact h2 f w hq|exact hq)
theorem OD(h:I f w):Jg I Q .normal f w:=h
theorem jnR(h:Q .ret f w):Jg I Q .ret f w:=h
end
end Go.Proofs.YtahbiajdgealnaaDoor.Fx
