/-
  What the proof of the law rests on, part 1: walks of functions, and plain laws; each says its conditions itself.
-/
import Derived.WalkKit
import Derived.WalkSpells
import Derived.Laws.AppendOwnNone
import Derived.Deep.QuietTactic
import Derived.BigQuiet
import Derived.RegionTactic
import Derived.Deep.RegionWith
import Derived.Deep.RegionLaw
import Derived.Deep.AppendLies
import Derived.Deep.Cut
import Derived.Deep.OwnRows
import Derived.StillTailTactics
import Derived.Deep.RegionHeld3
import Derived.Deep.MidRow
import Derived.StillTail
import Derived.DeepKeys
import Derived.MapKept
import Derived.Maps.RangeRun
namespace Go.Proofs.YtcbedgfikejkoaaGreatDoor
theorem b_.{u}{c:Prop}{h:Decidable c}(n:¬c){α:Sort u}{t e:α}:(if c then t else e)=e:=if_neg n
theorem d_.{u}{c:Prop}{h:Decidable c}(n:c){α:Sort u}{t e:α}:(if c then t else e)=t:=if_pos n
theorem f_{p:Prop}[i:Decidable p](h:p):decide p=true:=decide_eq_true h
theorem g_{p:Prop}[i:Decidable p](h:¬p):decide p=false:=decide_eq_false h
theorem h_{p:Prop}[i:Decidable p](h:decide p=true):p:=of_decide_eq_true h
theorem j_{p:Prop}[i:Decidable p](h:decide p=false):¬p:=of_decide_eq_false h
theorem m_{n m k:Nat}(h:n<=m)(g:m<=k):n<=k:=Nat.le_trans h g
theorem n_{n m k:Nat}(h:n<m)(g:m<=k):n<k:=Nat.lt_of_lt_of_le h g
theorem o_.{u}{α:Type u}{l:List α}{i:Nat}(h:i<l.length):l[i]? = some l[i]:=List.getElem?_eq_getElem h
theorem r_.{u}{α:Type u}{l:List α}{i:Nat}{a:α}:l.getD i a = l[i]?.getD a:=List.getD_eq_getElem?_getD
theorem t_.{u}{α:Type u}{i:Nat}{b:α}{xs:Array α}:xs[i]? = some b<->∃ h:i<xs.size,xs[i]=b:=Array.getElem?_eq_some_iff
theorem u_{a b:Nat}(h:a<b):a ≠ b:=Nat.ne_of_lt h
theorem z_(n:Nat):¬n<0:=Nat.not_lt_zero n
theorem A_(n:Nat):n<=n:=Nat.le_refl n
theorem B_{n m:Nat}(h:n.beq m=true):n=m:=Nat.eq_of_beq_eq_true h
theorem C_.{u}{α:Type u}{v w:α}(h:some v=some w):v=w:=Option.some.inj h
theorem D_{x y:Bool}:(x||y)=true<->x=true\/y=true:=Bool.or_eq_true_iff
theorem E_(a:Int):a+0=a:=Int.add_zero a
theorem G_.{u}{α:Type u}{a b:List α}:(a++b).length=a.length+b.length:=List.length_append
theorem H_(n:Nat):0+n=n:=Nat.zero_add n
theorem I_(b:Bool):(b||false)=b:=Bool.or_false b
theorem J_(b:Bool):(b&&false)=false:=Bool.and_false b
theorem K_(x:Nat){y:Nat}(h:0<y):x%y<y:=Nat.mod_lt x h
theorem L_(n:Nat):0<=n:=Nat.zero_le n
theorem M_.{u,v}{α:Sort u}{β:Sort v}{a b:α}(f:α->β)(h:a=b):f a=f b:=congrArg f h
abbrev N_.{u}{a:Prop}{b:Sort u}(h:a)(n:¬a):b:=absurd h n
theorem O_(a:Int):a<=a:=Int.le_refl a
theorem P_{m n:Nat}:m ∈ List.range n<->m<n:=List.mem_range
theorem Q_{p:Prop}[i:Decidable p]:decide p=true<->p:=decide_eq_true_iff
theorem R_.{u}{α:Type u}{l:List α}{n:Nat}(h:n<l.length):l[n] ∈ l:=List.getElem_mem h
theorem S_{a b c:Int}(h:a<=b)(g:b<=c):a<=c:=Int.le_trans h g
theorem T_(a b:Bool):((a&&b)=true)=(a=true/\b=true):=Bool.and_eq_true a b
theorem U_(b:Bool):(¬b=true)=(b=false):=Bool.not_eq_true b
end Go.Proofs.YtcbedgfikejkoaaGreatDoor
set_option maxHeartbeats 1600000
set_option linter.unusedVariables false
set_option linter.unusedSimpArgs false
namespace Go.Proofs.YtcbedgfikejkoaaGreatDoor
open Go.RowKit
def bV(k:IntKind)(n:Nat)(x:Nat->Int):Array Value:=Array.ofFn (fun i:Fin n => .int k (x i))
theorem bQ(k:IntKind)(n:Nat)(x:Nat->Int):(bV k n x).size=n:=by unfold bV; simp
theorem BH(k:IntKind)(n:Nat)(x:Nat->Int)(i:Nat)(h:i<n):(bV k n x)[i]? = some (.int k (x i)):=by unfold bV; simp[h]
theorem gT{k:IntKind}{n:Nat}{x:Nat->Int}{w:World}{b:Nat}{t:TypeId}{a:Nat × Nat}(h:w.heap[b]? = some (.cells (bV k n x) t a))(i:Nat)(hi:i<n) :
 w.cell? ⟨b,i,none⟩=some (.int k (x i)):=by
 rw[cell_of_row w b i _ _ _ h]; exact BH k n x i hi
def upd(x:Nat->Int)(i:Nat)(v:Int):Nat->Int:=fun j=>if j=i then v else x j
theorem gU(x:Nat->Int)(i j:Nat)(v:Int)(h:j≠i):upd x i v j=x j:=by unfold upd; rw[b_ h]
theorem KC(k:IntKind)(n:Nat)(x:Nat->Int)(i:Nat)(v:Int):(bV k n x).setIfInBounds i (.int k v)=bV k n (upd x i v):=by
 apply Array.ext_getElem?;intro j;by_cases a:j<n
 ·rw[BH _ _ _ j a,Array.getElem?_setIfInBounds,bQ];unfold upd;by_cases h:i=j
  ·subst h; simp[a]
  have b : ¬ j=i:=fun e=>h e.symm;simp[h,b,BH k n x j a]
 rw[Array.getElem?_eq_none (by rw[Array.size_setIfInBounds,bQ]; omega),Array.getElem?_eq_none (by rw[bQ]; omega)]
theorem Ng{k:IntKind}{n:Nat}{x y:Nat->Int}(h : ∀ i,i<n->x i=y i):bV k n x=bV k n y:=by
 unfold bV; congr 1; funext i; rw[h i.1 i.2]
theorem nZ(k:IntKind)(n:Nat)(x:Nat->Int):(bV k n x).all (·.oneCell')=true:=by
 rw[Array.all_eq_true]; intro i a;have h:i<n:=by rw[bQ]at a; exact a
 have:=BH k n x i h;rw[Array.getElem?_eq_getElem a]at this;rw[C_ this]; rfl
theorem addr_add(b off j:Nat):(⟨b,off,none⟩:Addr).add j=⟨b,off+j,none⟩:=by unfold Addr.add; split <;> simp_all
theorem Au{P:Program}{w:World}{ops:Array Oper}{rest:List Oper}{o:Oper}{a:Act}{Q:Exit->Act->World->Prop}(b:Region.wanted o (yielded ops a.tmps)=true)
 (h:o.wp P a w (wpList P ops Q rest) Q):wpList P ops Q (o::rest) a w:=by
 unfold wpList; rw[d_ b]; exact .inl h
theorem bal{w w':World}{o:Obj}(h:Below (w.alloc o).heap.size (w.alloc o) w'):Below w.heap.size w w' :=
 ((Below.refl _ _).alloc (A_ _) _).trans (h.mono (by simp))
theorem bdr{w w':World}(h:Below w.drew.heap.size w.drew w'):Below w.heap.size w w':=⟨h.os,h.tape,h.output,h.size,h.block⟩
theorem M6{w w1 w2:World}(h:Below w.heap.size w w1)(a:Below w1.heap.size w1 w2):Below w.heap.size w w2:=h.trans (a.mono h.size)
theorem jX(w:World)(n:Nat):Below w.heap.size w (w.drewN n):=⟨rfl,rfl,rfl,A_ _,fun _ _=>rfl⟩
theorem bN{B:Nat}{w w':World}(h:Below B w w')(n:Nat):Below B w (w'.drewN n):=⟨h.os,h.tape,h.output,h.size,h.block⟩
theorem kK {P : Program} {f : FuncId} {a : Func} {c : Code} (d : P.funcs[f]? = some a) (g : (a.name == "runtime.NumGoroutine") = false) (b : a.body = some c) (args : Array Value) (w : World) :
 (callFunc f args).run P w = .ok (.enter f args) w:=by
 have e : ¬ a.name = "runtime.NumGoroutine" := by simpa using g
 unfold callFunc;simp[Sem.run_bind,d,e,b]
theorem alloc_at(w:World)(o:Obj)(k:Nat):(w.alloc o).heap[k]? = if k=w.heap.size then some o else w.heap[k]? := by
 show(w.heap.push o)[k]? = _;rw[Array.getElem?_push]
theorem Fq(w:World)(o:Obj):(w.alloc o).heap.size=w.heap.size+1:=by simp
theorem SY(w:World)(A B C D:Obj):((((w.alloc A).alloc B).alloc C).alloc D).heap[w.heap.size]? = some A/\((((w.alloc A).alloc B).alloc C).alloc D).heap[w.heap.size+1]? = some B/\((((w.alloc A).alloc B).alloc C).alloc D).heap[w.heap.size+1+1]? = some C
 /\ ((((w.alloc A).alloc B).alloc C).alloc D).heap[w.heap.size+1+1+1]? = some D/\((((w.alloc A).alloc B).alloc C).alloc D).heap.size=w.heap.size+4/\Below w.heap.size w ((((w.alloc A).alloc B).alloc C).alloc D):=by
 refine⟨?_,?_,?_,?_,by simp,((((Below.refl _ _).alloc (A_ _) _).alloc (by simp) _).alloc (by simp; omega) _).alloc (by simp; omega) _⟩
 all_goals (simp only[alloc_at,Fq]; (repeat rw[b_ (by omega)]); simp only[if_true])
theorem acB(w:World)(A B C D E:Obj):(((((w.alloc A).alloc B).alloc C).alloc D).alloc E).heap[w.heap.size]? = some A/\(((((w.alloc A).alloc B).alloc C).alloc D).alloc E).heap[w.heap.size+1]? = some B/\(((((w.alloc A).alloc B).alloc C).alloc D).alloc E).heap[w.heap.size+1+1]? = some C
 /\ (((((w.alloc A).alloc B).alloc C).alloc D).alloc E).heap[w.heap.size+1+1+1]? = some D/\(((((w.alloc A).alloc B).alloc C).alloc D).alloc E).heap[w.heap.size+1+1+1+1]? = some E
 /\ (((((w.alloc A).alloc B).alloc C).alloc D).alloc E).heap.size=w.heap.size+5/\Below w.heap.size w (((((w.alloc A).alloc B).alloc C).alloc D).alloc E):=by
 refine⟨?_,?_,?_,?_,?_,by simp,(((((Below.refl _ _).alloc (A_ _) _).alloc (by simp) _).alloc (by simp; omega) _).alloc (by simp; omega) _).alloc (by simp; omega) _⟩
 all_goals (simp only[alloc_at,Fq]; (repeat rw[b_ (by omega)]); simp only[if_true])
theorem sU{w:World}{g:Nat}{v:Value}{t:TypeId}{a:Nat × Nat}(h:w.heap[g]? = some (.cells #[v] t a)):w.cell? ⟨g,0,none⟩=some v:=by rw[cell_of_row _ _ _ _ _ _ h]; rfl
theorem mM{P:Program}{ev:Operand->Value}{o:Oper}{w:World}(ty:TypeId)(x:Operand)(e:o.op = .load ty x)
 (g:Nat) (hx:ev x = .pointer (some ⟨g,0,none⟩)) (t:TypeId) (cs:Array Value) (a:Nat × Nat) (d:TypeDesc) (c:w.heap[g]? = some (.cells cs t a))
 (f:P.underlying ty=some d) (b:(match d with | .struct _ | .array _ _=>true|_=>false)=true) (hi:(P.info? ty).map (·.size)=some cs.size) :
 (execOp ev o).run P w = .ok (.value (.agg cs)) w:=by
 unfold execOp;simp only[e,hx,Instr.loadAt,Instr.sureAddr,Sem.run_bind,Sem.run_pure,Result.andThen_ok,run_loadVar_row w g t ty cs a d c f b hi]
theorem wO{P:Program}{ops:Array Oper}{Q:Exit->Act->World->Prop}{i:Nat}{o:Oper}{K:Act->World->Prop}{a:Act}{w:World}(e:ops[i]? = some o)(d:o.guard=none)
 (h : ∀ b:Act->World->Prop,(∀ a w,K a w->b a w)->o.wp P a w b Q):wpOp P ops Q i K a w :=
 wpOp_step e fun b c=>by rw[d_ (by simp[Region.wanted,d])]; exact h b c
theorem amU{w w':World}{B g:Nat}{cs:Array Value}(h:Below B w w')(a:B<=g):Below B w (w'.setRow g cs) :=
 h.trans ⟨rfl,rfl,rfl,by simp,fun k b=>setRow_other _ _ _ _ (by omega)⟩
theorem run_storeVar_one{P:Program}(w:World)(g o:Nat)(ty:TypeId)(v h:Value)(hi:(P.info? ty).map (·.size)=some 1)(h1:v.oneCell'=true)(c:w.cell? ⟨g,o,none⟩=some h)(d:w.frozen? ⟨g,o,none⟩=false) :
 (storeVar ty ⟨g,o,none⟩ v).run P w = .ok () (w.setCell ⟨g,o,none⟩ v):=by
 have f:v.cells = #[v]:=by cases v <;> first|rfl|(simp[Value.oneCell']at h1)
 have:=run_storeCells_cells (P:=P) g o [v] 0 w (fun j a=>by simp at a; subst a; simp[c]) (fun j a=>by simp at a; subst a; simpa using d) (fun u b=>by simp at b; subst b; exact h1)
 cases hq:P.info? ty with
 | none=>simp[hq]at hi
 | some i =>
   have e:i.size=1:=(by simp[hq]at hi; omega);simp only[Nat.add_zero]at this;simp[storeVar,sizeOf,typeInfo,hq,f,e,this,World.setCells]
namespace Fx
def put(f:Nat->Value)(d:Option Nat)(v:Value):Nat->Value :=
 match d with
 | none=>f
 | some d=>fun i=>bif Nat.beq i d then v else f i
def ev(f:Nat->Value):Operand->Value
 | .tmp t=>f t
 | .const v=>v
 | .global g => .pointer (some ⟨g,0,none⟩)
 | .func g => .func (.func g) #[] #[]
structure Fr(a:Act)(n:Nat)(f:Nat->Value):Prop where
 size:a.tmps.size=n
 defers:a.defers = []
 get : ∀ i,a.tmps.getD i undef=f i
def inn(n:Nat)(d:Option Nat):Bool:=match d with|none=>true|some d=>Nat.blt d n
theorem Fr.ev{a:Act}{n:Nat}{f:Nat->Value}(h:Fr a n f):a.eval=Fx.ev f:=by
 funext x
 cases x <;> simp only[Act.eval,Fx.ev]
 exact h.get _
theorem Fr.put{a:Act}{n:Nat}{f:Nat->Value}(h:Fr a n f){d:Option Nat}(g:inn n d=true)(v:Value):Fr (a.put d v) n (Fx.put f d v):=by
 cases d with
 | none=>exact h
 | some d =>
   have j:d<n:=(by simpa [inn,Nat.blt_eq] using g);refine⟨by simp[Act.put,h.size],h.defers,fun i => ?_⟩;have b:=h.get i;simp only[Act.put,Fx.put,Array.getD_eq_getD_getElem?,Array.getElem?_setIfInBounds]at b ⊢;by_cases e:d=i
   ·subst e; simp[h.size,j]
   ·have c:Nat.beq i d=false:=by
     cases hq:Nat.beq i d
     ·rfl
     ·exact N_ (B_ hq).symm e
    simp[e,c,b]
def yf(ops:Array Oper)(f:Nat->Value)(j:Nat):Option Bool :=
 match (ops[j]?).bind (·.dst)with
 | some d=>(match f d with | .bool b=>some b|_=>none)
 | none=>none
theorem Fr.yf{a:Act}{n:Nat}{f:Nat->Value}(h:Fr a n f)(ops:Array Oper):yielded ops a.tmps=Fx.yf ops f:=by
 funext j
 unfold yielded Fx.yf
 cases hd:(ops[j]?).bind (·.dst)with
 | none=>rfl
 | some d =>
   simp only[Option.bind_some];have b:=h.get d;rw[Array.getD_eq_getD_getElem?]at b
   cases hq:a.tmps[d]? with
   | none =>
     rw[hq]at b;rw[<- b];rfl
   | some v=>rw[hq]at b; rw[<- b]; cases v <;> rfl
abbrev Post:=Exit->(Nat->Value)->World->Prop
def lift(n:Nat)(Q:Post):Exit->Act->World->Prop:=fun e a w => ∃ f,Fr a n f/\Q e f w
def W(P:Program)(n:Nat)(c:Code)(Q:Post)(f:Nat->Value)(w:World):Prop := ∀ a,Fr a n f->Code.wp P c (lift n Q) a w
def Nh(P:Program)(n:Nat)(y:Code)(Q:Post):Post:=fun e f w=>match e with | .normal=>W P n y Q f w|e=>Q e f w
def yN(id:Nat)(Q:Post):Post:=fun e f w=>match e with | .exit id'=>if id'=id then Q .normal f w else Q (.exit id') f w|e=>Q e f w
def KD(I:(Nat->Value)->World->Prop)(m:(Nat->Value)->World->Nat)(k:Nat)(Q:Post):Post:=fun e f w=>match e with | .normal=>I f w/\m f w<k|e=>Q e f w
section
variable {P:Program} {n:Nat} {Q:Post} {f:Nat->Value} {w:World}
theorem Ws{x y:Code}(h:W P n x (Nh P n y Q) f w):W P n (.seq x y) Q f w:=fun a i =>
 wp_seq (Code.wp_mono (fun e d w' b=>by
  obtain⟨g,c,b⟩:=b
  cases e <;> first|exact b d c|exact⟨g,c,b⟩) (h a i))
theorem Wk(h:Q .normal f w):W P n .skip Q f w:=fun _ a=>wp_skip ⟨f,a,h⟩
theorem Wr(h:Q .ret f w):W P n .ret Q f w:=fun _ a=>wp_ret ⟨f,a,h⟩
theorem Wx{id:Nat}(h:Q (.exit id) f w):W P n (.exit id) Q f w:=fun _ a=>wp_exit ⟨f,a,h⟩
theorem Wb{id:Nat}{c:Code}(h:W P n c (yN id Q) f w):W P n (.block id c) Q f w:=fun a i =>
 wp_block (Code.wp_mono (fun e j w' b=>by
  obtain⟨d,g,b⟩:=b
  cases e <;> first
   | exact⟨d,g,b⟩
   | (simp only[yN]at b; simp only[Exit.inBlock]; split at b <;> rename_i hid <;> simp only[hid,if_true,if_false] <;> exact⟨d,g,b⟩)) (h a i))
theorem Wc{c:Operand}{x y:Code}{b:Bool}(g:ev f c = .bool b)(i:b=true->W P n x Q f w)(h:b=false->W P n y Q f w):W P n (.cond c x y) Q f w:=fun a d =>
 wp_cond_split (t:=b) (by rw[d.ev]; exact g) (fun e=>i e a d) (fun e=>h e a d)
theorem Wo{c:Code}(I:(Nat->Value)->World->Prop)(m:(Nat->Value)->World->Nat)(p:I f w)(hr : ∀ f w,I f w->W P n c (KD I m (m f w) Q) f w):W P n (.loop c) Q f w:=fun a q =>
 wp_loop (fun a w => ∃ f,Fr a n f/\I f w) (fun a w=>m (fun i=>a.tmps.getD i undef) w) ⟨f,q,p⟩ (fun a w g=>by
  obtain⟨f,j,g⟩:=g;have e:(fun i=>a.tmps.getD i undef)=f:=funext j.get;refine Code.wp_mono (fun l k w' b => ?_) (hr f w g a j);obtain⟨d,h,b⟩:=b
  cases l <;> first
   | exact⟨d,h,b⟩
   | (have o:(fun i=>k.tmps.getD i undef)=d:=funext h.get
      exact⟨⟨d,h,b.1⟩,by rw[e,o]; exact b.2⟩))
theorem W.mono{c:Code}{b:Post}(h:W P n c Q f w)(j : ∀ e f w,Q e f w->b e f w):W P n c b f w:=fun a g =>
 Code.wp_mono (fun _ _ _ ⟨d,i,q⟩=>⟨d,i,j _ _ _ q⟩) (h a g)
def Out(P:Program)(f:Nat->Value)(o:Oper)(w:World)(K:Value->World->Prop):Prop :=
 (∃ v w',(execOp (ev f) o).run P w = .ok (.value v) w'/\K v w')\/(∃ w',(execOp (ev f) o).run P w = .ok .skip w'/\K undef w') \/
 ∃ g a,(execOp (ev f) o).run P w = .ok (.enter g a) w/\Calls P g a w fun e w' => ∃ v,e = .returned v/\K v w'
def L(P:Program)(n:Nat)(ops:Array Oper)(Q:Post):List Oper->(Nat->Value)->World->Prop
 | [],f,w=>Q .normal f w
 | o::rest,f,w=>inn n o.dst=true/\((Region.wanted o (yf ops f)=true/\Out P f o w fun v w'=>L P n ops Q rest (put f o.dst v) w')\/(Region.wanted o (yf ops f)=false/\L P n ops Q rest (put f o.dst undef) w))
variable {ops:Array Oper} {rest:List Oper} {o:Oper}
theorem Out.wp{a:Act}{K:Value->World->Prop}{d:Act->World->Prop}{i:Exit->Act->World->Prop}(ha:Fr a n f)(h:Out P f o w K)(c : ∀ v w',K v w'->d (a.put o.dst v) w'):o.wp P a w d i:=by
 unfold Oper.wp;rw[ha.ev]
 rcases h with ⟨v,w',b,h⟩|⟨w',b,h⟩|⟨g,args,b,h⟩
 ·rw[b]; exact c v w' h
 ·rw[b]; exact c undef w' h
 rw[b]; exact h.mono fun e w' ⟨v,j,k⟩=>by subst j; exact c v w' k
theorem L.to : ∀ {l:List Oper} {f:Nat->Value} {w:World},L P n ops Q l f w -> ∀ a,Fr a n f->wpList P ops (lift n Q) l a w
 | [],f,w,h,a,ha=>⟨f,ha,h⟩
 | o::rest,f,w,⟨hd,h⟩,a,ha=>by
   unfold wpList;rw[ha.yf]
   rcases h with ⟨b,h⟩|⟨b,h⟩
   ·rw[d_ b];exact .inl (h.wp ha fun v w' c=>L.to c _ (ha.put hd v))
   ·rw[b_ (by rw[b]; decide)];exact L.to h _ (ha.put hd undef)
theorem Wl{id:Nat}{ops:List Oper}(h:L P n ops.toArray Q ops f w):W P n (.region id ops.toArray false) Q f w:=fun a b=>wp_region_lit (h.to a b)
theorem Ln(h:Q .normal f w):L P n ops Q [] f w:=h
abbrev Runs(P:Program)(f:Nat->Value)(o:Oper)(w:World)(v:Value):Prop:=(execOp (ev f) o).run P w = .ok (.value v) w
theorem L.val{v:Value}{w':World}(b:Region.wanted o (yf ops f)=true)(hr:(execOp (ev f) o).run P w = .ok (.value v) w')(a:inn n o.dst=true)(h:L P n ops Q rest (put f o.dst v) w'):L P n ops Q (o::rest) f w :=
 ⟨a,.inl ⟨b,.inl ⟨v,w',hr,h⟩⟩⟩
theorem Lv(v:Value)(hr:Runs P f o w v)(h:L P n ops Q rest (put f o.dst v) w)(b:Region.wanted o (yf ops f)=true:=by rfl)(a:inn n o.dst=true:=by rfl):L P n ops Q (o::rest) f w:=L.val b hr a h
theorem L.unit{w':World}(b:Region.wanted o (yf ops f)=true)(hr:(execOp (ev f) o).run P w = .ok .skip w')(a:inn n o.dst=true)(h:L P n ops Q rest (put f o.dst undef) w'):L P n ops Q (o::rest) f w :=
 ⟨a,.inl ⟨b,.inr (.inl ⟨w',hr,h⟩)⟩⟩
theorem Lk(b:Region.wanted o (yf ops f)=false)(a:inn n o.dst=true)(h:L P n ops Q rest (put f o.dst undef) w):L P n ops Q (o::rest) f w :=
 ⟨a,.inr ⟨b,h⟩⟩
theorem Ac{g:FuncId}{args:Array Value}(b:Region.wanted o (yf ops f)=true)(hr:(execOp (ev f) o).run P w = .ok (.enter g args) w)(a:inn n o.dst=true)
 (h:Calls P g args w fun e w' => ∃ v,e = .returned v/\L P n ops Q rest (put f o.dst v) w'):L P n ops Q (o::rest) f w :=
 ⟨a,.inl ⟨b,.inr (.inr ⟨g,args,hr,h⟩)⟩⟩
def Qt(P:Program)(n:Nat)(ops:Array Oper)(C:World->Prop)(Q:(Nat->Value)->Prop)(rest:List Oper)(f:Nat->Value):Prop := ∀ a,Fr a n f->wpQuiet P ops C (fun c => ∃ b,Fr c n b/\Q b) rest a
variable {C:World->Prop} {R:(Nat->Value)->Prop}
theorem W.quiet{id:Nat}{ops:List Oper}(C:World->Prop)(m:P.follows .mixedOrders=true)(g:Region.lexB .any ops.toArray=true)(i:C w.drew)
 (h:Qt P n ops.toArray C (fun b => ∀ w',C w'->Q .normal b w') ops f):W P n (.region id ops.toArray true) Q f w:=fun a j=>by
 refine wp_region_quiet (C:=C) m g i ?_;have:=h a j;have key : ∀(l:List Oper) (a:Act),wpQuiet P ops.toArray C (fun c => ∃ b,Fr c n b /\ ∀ w',C w'->Q .normal b w') l a->wpQuiet P ops.toArray C (fun c => ∀ w',C w'->lift n Q .normal c w') l a:=by
  intro l
  induction l with
  | nil=>intro a h; obtain⟨b,k,p⟩:=h; exact fun w' q=>⟨b,k,p w' q⟩
  | cons o l ih =>
    intro a h;unfold wpQuiet at h ⊢;split
    ·rename_i hw; rw[d_ hw]at h; obtain⟨v,d,e⟩:=h; exact⟨v,d,ih _ e⟩
    ·rename_i hw; rw[b_ hw]at h; exact ih _ h
 exact key _ _ this
theorem Qn(h:R f):Qt P n ops C R [] f:=fun _ a=>⟨f,a,h⟩
theorem Qt.val{v:Value}(e:Region.wanted o (yf ops f)=true)(hr : ∀ w,C w->(execOp (ev f) o).run P w = .ok (.value v) w)(d:inn n o.dst=true)(h:Qt P n ops C R rest (put f o.dst v)):Qt P n ops C R (o::rest) f:=fun a b=>by
 unfold wpQuiet;rw[b.yf,d_ e];refine⟨v,fun w c => ?_,h _ (b.put d v)⟩;unfold Oper.quietAt;rw[b.ev,hr w c];exact⟨rfl,rfl⟩
theorem Qv(v:Value)(hr : ∀ w,C w->Runs P f o w v)(h:Qt P n ops C R rest (put f o.dst v))(b:Region.wanted o (yf ops f)=true:=by rfl)(a:inn n o.dst=true:=by rfl):Qt P n ops C R (o::rest) f:=Qt.val b hr a h
theorem Qs(d:Region.wanted o (yf ops f)=false)(c:inn n o.dst=true)(h:Qt P n ops C R rest (put f o.dst undef)):Qt P n ops C R (o::rest) f:=fun a b=>by
 unfold wpQuiet;rw[b.yf,b_ (by rw[d]; decide)];exact h _ (b.put c undef)
theorem EH{v:Value}{g:FuncId}{args:Array Value}(j:Region.wanted o (yf ops f)=true)(hr : ∀ w,C w->(execOp (ev f) o).run P w = .ok (.enter g args) w)(i:inn n o.dst=true)
 (d : ∀ w,C w->Calls P g args w fun e w'=>e = .returned v/\C w') (h:Qt P n ops C R rest (put f o.dst v)):Qt P n ops C R (o::rest) f:=fun a b=>by
 unfold wpQuiet;rw[b.yf,d_ j];refine⟨v,fun w c => ?_,h _ (b.put i v)⟩;unfold Oper.quietAt;rw[b.ev,hr w c];exact⟨rfl,d w c⟩
def St(P:Program)(n:Nat)(ops:Array Oper)(w:World)(Q:(Nat->Value)->Prop)(rest:List Oper)(f:Nat->Value):Prop := ∀ a,Fr a n f->wpStill P ops w (fun c => ∃ b,Fr c n b/\Q b) rest a
theorem St.nil(h:R f):St P n ops w R [] f:=fun _ a=>⟨f,a,h⟩
theorem St.val{v:Value}(d:Region.wanted o (yf ops f)=true)(hr:(execOp (ev f) o).run P w = .ok (.value v) w)(c:inn n o.dst=true)(h:St P n ops w R rest (put f o.dst v)):St P n ops w R (o::rest) f:=fun a b=>by
 unfold wpStill;rw[b.yf,d_ d];unfold Oper.still;rw[b.ev,hr];exact⟨rfl,h _ (b.put c v)⟩
theorem qL(v:Value)(hr:Runs P f o w v)(h:St P n ops w R rest (put f o.dst v))(b:Region.wanted o (yf ops f)=true:=by rfl)(a:inn n o.dst=true:=by rfl):St P n ops w R (o::rest) f:=St.val b hr a h
theorem St.skip(d:Region.wanted o (yf ops f)=false)(c:inn n o.dst=true)(h:St P n ops w R rest (put f o.dst undef)):St P n ops w R (o::rest) f:=fun a b=>by
 unfold wpStill;rw[b.yf,b_ (by rw[d]; decide)];exact h _ (b.put c undef)
theorem St.call{v:Value}{g:FuncId}{args:Array Value}(i:Region.wanted o (yf ops f)=true)(hr:(execOp (ev f) o).run P w = .ok (.enter g args) w)(d:inn n o.dst=true)
 (c:Calls P g args w fun e w'=>e = .returned v/\w'=w) (h:St P n ops w R rest (put f o.dst v)):St P n ops w R (o::rest) f:=fun a b=>by
 unfold wpStill;rw[b.yf,d_ i];unfold Oper.still;rw[b.ev,hr];exact⟨rfl,v,c,h _ (b.put d v)⟩
theorem Wt{id:Nat}{ops:List Oper}(k:Nat)(p:P.follows .mixedOrders=true)(i:Region.lexTailB .any ops.toArray k=true)
 (h : ∀ w1,Below w.heap.size w w1->w1.heap.size=w.heap.size->St P n ops.toArray w1 (fun b=>L P n ops.toArray Q (ops.drop k) b w1) (ops.take k) f):W P n (.region id ops.toArray true) Q f w:=fun a j=>by
 refine wp_region_still_tail k p i ?_;have:=h { w with drawn:=w.drawn+1 } (Below.refl _ _).drew rfl a j
 have key : ∀(l:List Oper) (a:Act),wpStill P ops.toArray { w with drawn:=w.drawn+1 } (fun c => ∃ b,Fr c n b/\L P n ops.toArray Q (ops.drop k) b { w with drawn:=w.drawn+1 }) l a ->
  wpStill P ops.toArray { w with drawn:=w.drawn+1 } (fun c=>wpList P ops.toArray (lift n Q) (ops.drop k) c { w with drawn:=w.drawn+1 }) l a:=by
  intro l
  induction l with
  | nil=>intro a h; obtain⟨b,m,q⟩:=h; exact q.to a m
  | cons o l ih =>
    intro a h;unfold wpStill at h ⊢;split
    ·rename_i hw;rw[d_ hw]at h;unfold Oper.still Oper.stillUpon at h ⊢;split <;> rename_i hr <;> simp only[hr]at h
     ·exact⟨h.1,ih _ h.2⟩
     ·exact⟨h.1,ih _ h.2⟩
     ·obtain⟨d,v,e,g⟩:=h; exact⟨d,v,e,ih _ g⟩
    ·rename_i hw; rw[b_ hw]at h; exact ih _ h
 exact key _ _ this
def rdF(f:Nat->Value):ResultVar->Sem Value
 | .tmp t=>pure (f t)
 | .cell a t=>do loadVar t (<- asAddr (f a))
def BI(a:Func)(f:Nat->Value):Sem Value:=do
 let vs <- a.results.mapM (rdF f)
 pure (if h:vs.size=1 then vs[0]else .tuple vs)
def acC(P:Program)(a:Func)(R:Ending->World->Prop):Post:=fun e f w=>match e with
 | .normal => ∃ v,(BI a f).run P w = .ok v w/\R (.returned v) w
 | .ret => ∃ v,(BI a f).run P w = .ok v w/\R (.returned v) w
 | .outgrown=>R .outgrown w
 | _=>False
theorem OU{a:Act}{n:Nat}{f:Nat->Value}(h:Fr a n f)(b:Func):results b a.tmps=BI b f:=by
 unfold results BI
 congr 1
 congr 1
 funext x
 cases x <;> simp only[h.get,rdF]
def start(args:Array Value):Nat->Value:=fun i=>args.getD i undef
theorem enter{g:FuncId}{b:Func}{c:Code}{args:Array Value}{R:Ending->World->Prop}(o:P.funcs[g]? = some b)(m:b.body=some c)(p:b.ntmps=n)(ha:Nat.ble args.size n=true)
 (h:W P n c (acC P b R) (start args) w):Calls P g args w R:=by
 have r:args.size<=n:=Nat.le_of_ble_eq_true ha;refine calls_of_wp o m ?_;refine Code.wp_mono (fun e a w' d => ?_) (h _ ⟨?_,rfl,?_⟩)
 ·obtain⟨q,j,d⟩:=d
  cases e <;> first
   | exact d.elim
   | (obtain⟨v,l,f⟩:=d; exact⟨j.defers,v,by rw[OU j]; exact l,f⟩)
   | exact d
 ·simp[p]; omega
 intro i;simp only[start,Array.getD_eq_getD_getElem?,Array.getElem?_append,Array.getElem?_replicate];by_cases k:i<args.size
 ·simp[k]
 simp[k];by_cases f:i-args.size<b.ntmps-args.size
 ·simp[f]
 simp[f]
theorem iT{a:Func}(hr:a.results = #[]):(BI a f).run P w = .ok (.tuple #[]) w:=by
 unfold BI; simp[hr]
theorem sN{y:Code}(h:W P n y Q f w):Nh P n y Q .normal f w:=h
theorem cZ{y:Code}{id:Nat}(h:Q (.exit id) f w):Nh P n y Q (.exit id) f w:=h
theorem sR{y:Code}(h:Q .ret f w):Nh P n y Q .ret f w:=h
theorem bU{id:Nat}(h:Q .normal f w):yN id Q .normal f w:=h
theorem bL{id:Nat}(h:Q .ret f w):yN id Q .ret f w:=h
theorem dh{id:Nat}(h:Q .normal f w):yN id Q (.exit id) f w:=by simp only[yN,if_true]; exact h
theorem Ni{id a:Nat}(b:Nat.beq a id=false)(h:Q (.exit a) f w):yN id Q (.exit a) f w:=by
 have:a≠id:=fun e=>by subst e; rw[Nat.beq_refl]at b; cases b
 simp only[yN,this,if_false]; exact h
theorem gZ{I:(Nat->Value)->World->Prop}{m:(Nat->Value)->World->Nat}{k id:Nat}(h:Q (.exit id) f w):KD I m k Q (.exit id) f w:=h
theorem qm{I:(Nat->Value)->World->Prop}{m:(Nat->Value)->World->Nat}{k:Nat}(h:Q .ret f w):KD I m k Q .ret f w:=h
theorem iH{I:(Nat->Value)->World->Prop}{m:(Nat->Value)->World->Nat}{k:Nat}(h:I f w)(a:m f w<k):KD I m k Q .normal f w:=⟨h,a⟩
theorem args1{x1:Operand}{v1:Value}(h1:ev f x1=v1) : [x1].map (ev f) = [v1]:=by rw[List.map_cons,h1]; rfl
theorem args2{x1 x2:Operand}{v1 v2:Value}(h1:ev f x1=v1)(a:ev f x2=v2) : [x1,x2].map (ev f) = [v1,v2]:=by rw[List.map_cons,h1,args1 a]
theorem OV{x1 x2 b:Operand}{v1 v2 a:Value}(h1:ev f x1=v1)(c:ev f x2=v2)(d:ev f b=a) : [x1,x2,b].map (ev f) = [v1,v2,a]:=by rw[List.map_cons,h1,args2 c d]
theorem S9{x1 x2 c d:Operand}{v1 v2 a b:Value}(h1:ev f x1=v1)(e:ev f x2=v2)(g:ev f c=a)(h:ev f d=b) : [x1,x2,c,d].map (ev f) = [v1,v2,a,b]:=by rw[List.map_cons,h1,OV e g h]
theorem ahw{x1 x2 d e g:Operand}{v1 v2 a b c:Value}(h1:ev f x1=v1)(h:ev f x2=v2)(i:ev f d=a)(j:ev f e=b)(k:ev f g=c) : [x1,x2,d,e,g].map (ev f) = [v1,v2,a,b,c]:=by rw[List.map_cons,h1,S9 h i j k]
end
end Fx
namespace Fx
section
variable {P:Program} {f:Nat->Value} {w:World} {o:Oper}
theorem fF{x:Operand}{v:Value}(a:o.op = .move x)(hx:ev f x=v):Runs P f o w v:=by
 unfold Runs execOp; simp[a,hx]
theorem eP{x:Operand}{v:Value}(a:o.op = .assign x)(hx:ev f x=v):Runs P f o w v:=by
 unfold Runs execOp; simp[a,hx]
theorem Ta{c x y:Operand}{b:Bool}{u v:Value}(d:o.op = .pick c x y)(a:ev f c = .bool b)(hx:ev f x=u)(hy:ev f y=v):Runs P f o w (if b then u else v):=by
 unfold Runs execOp; simp[d,a,hx,hy,asBool]
theorem gK{c x y:Operand}{u:Value}(b:o.op = .pick c x y)(a:ev f c = .bool true)(hx:ev f x=u):Runs P f o w u:=Ta b a hx rfl
theorem gL{c x y:Operand}{v:Value}(b:o.op = .pick c x y)(a:ev f c = .bool false)(hy:ev f y=v):Runs P f o w v:=Ta b a rfl hy
theorem pI{P:Program}{w:World}(c:BinOp)(t:TypeId)(x y:Operand)(k d:IntKind)(a b:Int):(eqGuard c t x y (.int k a) (.int d b)).run P w = .ok () w:=by
 unfold eqGuard; cases c <;> rfl
theorem uF{c:BinOp}{T T':TypeId}{x y:Operand}{k:IntKind}{a b:Int}{v:Value}(d:o.op = .binOp c T x y T')(hx:ev f x = .int k a)(hy:ev f y = .int k b)(h:(binOp c T (.int k a) (.int k b)).run P w = .ok v w):Runs P f o w v:=by
 unfold Runs execOp;simp only[d,hx,hy];simp only[Sem.run_bind,pI,Result.andThen_ok,h,Sem.run_pure]
theorem KE{T T':TypeId}{x y:Operand}{k:IntKind}{a b c:Int}(e:o.op = .binOp .add T x y T')(hx:ev f x = .int k a)(hy:ev f y = .int k b)(d:k.wrap (a+b)=c):Runs P f o w (.int k c) :=
 uF e hx hy (by simp[binOp,Op.intArith,d])
theorem abg{T T':TypeId}{x y:Operand}{k:IntKind}{a b c:Int}(e:o.op = .binOp .sub T x y T')(hx:ev f x = .int k a)(hy:ev f y = .int k b)(d:k.wrap (a-b)=c):Runs P f o w (.int k c) :=
 uF e hx hy (by simp[binOp,Op.intArith,d])
theorem Hu{T T':TypeId}{x y:Operand}{k:IntKind}{a b c:Int}(e:o.op = .binOp .mul T x y T')(hx:ev f x = .int k a)(hy:ev f y = .int k b)(d:k.wrap (a*b)=c):Runs P f o w (.int k c) :=
 uF e hx hy (by simp[binOp,Op.intArith,d])
theorem DR{T T':TypeId}{x y:Operand}{k:IntKind}{a b c:Int}(g:o.op = .binOp .quo T x y T')(hx:ev f x = .int k a)(hy:ev f y = .int k b)(d:b≠0)(e:k.wrap (a.tdiv b)=c):Runs P f o w (.int k c) :=
 uF g hx hy (by simp[binOp,Op.intDiv,e,d])
theorem xZ{T T':TypeId}{x y:Operand}{k:IntKind}{a b c:Int}(g:o.op = .binOp .rem T x y T')(hx:ev f x = .int k a)(hy:ev f y = .int k b)(d:b≠0)(e:a.tmod b=c):Runs P f o w (.int k c) :=
 uF g hx hy (by simp[binOp,Op.intDiv,e,d])
theorem Td{T T':TypeId}{x y:Operand}{k:IntKind}{a b:Int}(c:o.op = .binOp .lss T x y T')(hx:ev f x = .int k a)(hy:ev f y = .int k b):Runs P f o w (.bool (decide (a<b))) :=
 uF c hx hy (by simp[binOp,Op.intCmp])
theorem abh{T T':TypeId}{x y:Operand}{k:IntKind}{a b:Int}(c:o.op = .binOp .leq T x y T')(hx:ev f x = .int k a)(hy:ev f y = .int k b):Runs P f o w (.bool (decide (a<=b))) :=
 uF c hx hy (by simp[binOp,Op.intCmp])
theorem Te{T T':TypeId}{x y:Operand}{k:IntKind}{a b:Int}(c:o.op = .binOp .gtr T x y T')(hx:ev f x = .int k a)(hy:ev f y = .int k b):Runs P f o w (.bool (decide (b<a))) :=
 uF c hx hy (by simp[binOp,Op.intCmp])
theorem Fu{T T':TypeId}{x y:Operand}{k:IntKind}{a b:Int}(c:o.op = .binOp .geq T x y T')(hx:ev f x = .int k a)(hy:ev f y = .int k b):Runs P f o w (.bool (decide (b<=a))) :=
 uF c hx hy (by simp[binOp,Op.intCmp])
theorem abj{T T':TypeId}{x y:Operand}{k:IntKind}{a b:Int}(c:o.op = .binOp .eql T x y T')(hx:ev f x = .int k a)(hy:ev f y = .int k b):Runs P f o w (.bool (decide (a=b))) :=
 uF c hx hy (by simp[binOp,Op.intCmp]; rfl)
theorem abk{T T':TypeId}{x y:Operand}{k:IntKind}{a b:Int}(c:o.op = .binOp .neq T x y T')(hx:ev f x = .int k a)(hy:ev f y = .int k b):Runs P f o w (.bool (!decide (a=b))) :=
 uF c hx hy (by simp[binOp,Op.intCmp]; rfl)
theorem abl{T:TypeId}{x:Operand}{b:Bool}(a:o.op = .unOp .not T x)(hx:ev f x = .bool b):Runs P f o w (.bool (!b)):=by
 unfold Runs execOp; simp[a,hx,Op.unary]
theorem acD{T T':TypeId}{x y:Operand}{k:IntKind}{a b:Int}(c:o.op = .binOp .lss T x y T')(hx:ev f x = .int k a)(hy:ev f y = .int k b)(h:a<b):Runs P f o w (.bool true):=by
 have:=Td (P:=P) (w:=w) c hx hy; rwa [f_ h]at this
theorem acE{T T':TypeId}{x y:Operand}{k:IntKind}{a b:Int}(c:o.op = .binOp .lss T x y T')(hx:ev f x = .int k a)(hy:ev f y = .int k b)(h : ¬ (a<b)):Runs P f o w (.bool false):=by
 have:=Td (P:=P) (w:=w) c hx hy; rwa [g_ h]at this
theorem acF{T T':TypeId}{x y:Operand}{k:IntKind}{a b:Int}(c:o.op = .binOp .leq T x y T')(hx:ev f x = .int k a)(hy:ev f y = .int k b)(h:a<=b):Runs P f o w (.bool true):=by
 have:=abh (P:=P) (w:=w) c hx hy; rwa [f_ h]at this
theorem jk{T T':TypeId}{x y:Operand}{k:IntKind}{a b:Int}(c:o.op = .binOp .leq T x y T')(hx:ev f x = .int k a)(hy:ev f y = .int k b)(h : ¬ (a<=b)):Runs P f o w (.bool false):=by
 have:=abh (P:=P) (w:=w) c hx hy; rwa [g_ h]at this
theorem acG{T T':TypeId}{x y:Operand}{k:IntKind}{a b:Int}(c:o.op = .binOp .gtr T x y T')(hx:ev f x = .int k a)(hy:ev f y = .int k b)(h:b<a):Runs P f o w (.bool true):=by
 have:=Te (P:=P) (w:=w) c hx hy; rwa [f_ h]at this
theorem jl{T T':TypeId}{x y:Operand}{k:IntKind}{a b:Int}(c:o.op = .binOp .gtr T x y T')(hx:ev f x = .int k a)(hy:ev f y = .int k b)(h : ¬ (b<a)):Runs P f o w (.bool false):=by
 have:=Te (P:=P) (w:=w) c hx hy; rwa [g_ h]at this
theorem acH{T T':TypeId}{x y:Operand}{k:IntKind}{a b:Int}(c:o.op = .binOp .geq T x y T')(hx:ev f x = .int k a)(hy:ev f y = .int k b)(h:b<=a):Runs P f o w (.bool true):=by
 have:=Fu (P:=P) (w:=w) c hx hy; rwa [f_ h]at this
theorem acI{T T':TypeId}{x y:Operand}{k:IntKind}{a b:Int}(c:o.op = .binOp .geq T x y T')(hx:ev f x = .int k a)(hy:ev f y = .int k b)(h : ¬ (b<=a)):Runs P f o w (.bool false):=by
 have:=Fu (P:=P) (w:=w) c hx hy; rwa [g_ h]at this
theorem iW{T T':TypeId}{x y:Operand}{k:IntKind}{a b:Int}(c:o.op = .binOp .eql T x y T')(hx:ev f x = .int k a)(hy:ev f y = .int k b)(h:a=b):Runs P f o w (.bool true):=by
 have:=abj (P:=P) (w:=w) c hx hy; rwa [f_ h]at this
theorem iX{T T':TypeId}{x y:Operand}{k:IntKind}{a b:Int}(c:o.op = .binOp .eql T x y T')(hx:ev f x = .int k a)(hy:ev f y = .int k b)(h : ¬ (a=b)):Runs P f o w (.bool false):=by
 have:=abj (P:=P) (w:=w) c hx hy; rwa [g_ h]at this
theorem acJ{T T':TypeId}{x y:Operand}{k:IntKind}{a b:Int}(c:o.op = .binOp .neq T x y T')(hx:ev f x = .int k a)(hy:ev f y = .int k b)(h : ¬ (a=b)):Runs P f o w (.bool true):=by
 have:=abk (P:=P) (w:=w) c hx hy; rwa [g_ h]at this
theorem acK{T T':TypeId}{x y:Operand}{k:IntKind}{a b:Int}(c:o.op = .binOp .neq T x y T')(hx:ev f x = .int k a)(hy:ev f y = .int k b)(h:a=b):Runs P f o w (.bool false):=by
 have:=abk (P:=P) (w:=w) c hx hy; rwa [f_ h]at this
theorem acL{T:TypeId}{x:Operand}(a:o.op = .unOp .not T x)(hx:ev f x = .bool false):Runs P f o w (.bool true):=abl a hx
theorem Tf{T:TypeId}{x:Operand}(a:o.op = .unOp .not T x)(hx:ev f x = .bool true):Runs P f o w (.bool false):=abl a hx
theorem iM{a c:Int}(h : -9223372036854775808<=c/\c<=9223372036854775807)(e:a=c):IntKind.i64.wrap a=c:=by subst e; exact IntWalk.i64_in _ h
theorem jQ{a c:Int}(h:0<=c/\c<=18446744073709551615)(e:a=c):IntKind.u64.wrap a=c:=by subst e; exact IntWalk.u64_in _ h
theorem dF{S T:TypeId}{x:Operand}{k e:IntKind}{a c:Int}(h:o.op = .convert S T x)(hx:ev f x = .int e a)(i:(P.underlying S).isSome=true)(b:P.underlying T=some (.int k))(g:k.wrap a=c):Runs P f o w (.int k c):=by
 unfold Runs execOp;simp only[h,hx];have d:P.intKind T=k:=by unfold Program.intKind; rw[b]
 have:=run_convert_int w S T e a i (d.symm ▸ b);rw[d,g]at this;simp only[Sem.run_bind,this,Result.andThen_ok,Sem.run_pure]
theorem abm{x y:Operand}{Ts:Array TypeId}{k d:IntKind}{a b:Int}(c:o.op = .call { callee := .builtin .max,args := #[x,y],argTypes:=Ts })(hx:ev f x = .int k a)(hy:ev f y = .int d b):Runs P f o w (.int k (if b>a then b else a)):=by
 unfold Runs execOp;simp only[c];unfold resolve invoke;simp only[List.map_toArray,List.map_cons,List.map_nil,hx,hy];unfold builtin;simp only[Sem.run_bind,Sem.run_pure,Result.andThen_ok,run_max_int2]
theorem fO{S:TypeId}{x:Operand}{i:Nat}{b off h:Nat}{c:Array Field}{a:Field}{s:Nat}(l:o.op = .fieldAddr S x i)(hx:ev f x = .pointer (some ⟨b,off,none⟩))(m:P.underlying S=some (.struct c))
 (k:c[i]? = some a) (n:(P.info? a.type).map (·.size)=some s) (d:Nat.beq s 0=false) (j:off+a.offset=h):Runs P f o w (.pointer (some ⟨b,h,none⟩)):=by
 have g:s≠0:=fun e=>by rw[e]at d; exact N_ d (by decide)
 obtain⟨z,p,q⟩:=Option.map_eq_some_iff.1 n;rw[<- q]at g;unfold Runs execOp;simp only[l,hx];simp[Instr.fieldAt,underlying,m,k,Instr.sureAddr,fieldPlace,sizeOf,typeInfo,p,g,addr_add,j]
theorem gH{T:TypeId}{x i:Operand}{b off a:Nat}{k:IntKind}{j:Int}{m s:Nat}{E:TypeId}(e:o.op = .indexAddr T x i)(hx:ev f x = .pointer (some ⟨b,off,none⟩))(hi:ev f i = .int k j)
 (g:P.underlying T=some (.array m E)) (h:(P.info? E).map (·.size)=some s) (c:0<=j) (h1:j<(m:Int)) (d:off+j.toNat*s=a):Runs P f o w (.pointer (some ⟨b,a,none⟩)):=by
 obtain⟨z,l,n⟩:=Option.map_eq_some_iff.1 h;unfold Runs execOp;simp only[e,hx,hi];simp[Instr.indexAt,asIntOf,underlying,g,Instr.sureAddr,c,h1,sizeOf,typeInfo,l,n,addr_add,d]
theorem dR{T:TypeId}{x i:Operand}{b off a len cap:Nat}{k:IntKind}{j:Int}{s:Nat}{E:TypeId}(e:o.op = .indexAddr T x i)(hx:ev f x = .slice (some ⟨b,off,none⟩) len cap)(hi:ev f i = .int k j)
 (g:P.underlying T=some (.slice E)) (h:(P.info? E).map (·.size)=some s) (c:0<=j) (h1:j<(len:Int)) (d:off+j.toNat*s=a):Runs P f o w (.pointer (some ⟨b,a,none⟩)):=by
 obtain⟨z,l,m⟩:=Option.map_eq_some_iff.1 h;unfold Runs execOp;simp only[e,hx,hi];simp[Instr.indexAt,asIntOf,underlying,g,c,h1,sizeOf,typeInfo,l,m,addr_add,d]
end
end Fx
namespace Fx
def aA(n:Nat)(x:Nat->Value):Array Value:=Array.ofFn (fun i:Fin n=>x i)
theorem cB(n:Nat)(x:Nat->Value):(aA n x).size=n:=by unfold aA; simp
theorem gM{n:Nat}(x:Nat->Value){i:Nat}(h:i<n):(aA n x)[i]? = some (x i):=by unfold aA; simp[h]
theorem Hw{n:Nat}(x:Nat->Value){i:Nat}(h:n<=i):(aA n x)[i]? = none:=by unfold aA; simp[h]
theorem vK{n:Nat}{x:Nat->Value}{a:Array Value}(c:a.size=n)(h : ∀ i,i<n->a[i]? = some (x i)):a=aA n x:=by
 apply Array.ext_getElem?;intro i;by_cases b:i<n
 ·rw[h i b,gM x b]
 rw[Hw x (by omega),Array.getElem?_eq_none (by omega)]
theorem dS{n:Nat}{x y:Nat->Value}(h : ∀ i,i<n->x i=y i):aA n x=aA n y:=by
 unfold aA; congr 1; funext i; exact h i.1 i.2
def dJ(x:Nat->Value)(i:Nat)(v:Value):Nat->Value:=fun j=>if j=i then v else x j
def bG(x:Nat->Value)(o m:Nat)(y:Nat->Value):Nat->Value:=fun j=>if o<=j/\j<o+m then y (j-o)else x j
theorem lU{x:Nat->Value}{i j:Nat}{v:Value}(h:j=i):dJ x i v j=v:=by unfold dJ; rw[d_ h]
theorem BJ{x:Nat->Value}{i j:Nat}{u v:Value}(h:j≠i)(e:x j=u):dJ x i v j=u:=by unfold dJ; rw[b_ h]; exact e
theorem qY{x y:Nat->Value}{o m q j:Nat}{u:Value}(h:q=o+j)(a:j<m)(e:y j=u):bG x o m y q=u:=by unfold bG; rw[d_ ⟨by omega,by omega⟩,h,Nat.add_sub_cancel_left]; exact e
theorem BK{x y:Nat->Value}{o m q:Nat}{u:Value}(h:q<o\/o+m<=q)(e:x q=u):bG x o m y q=u:=by unfold bG; rw[b_ (by omega)]; exact e
def rv(k:IntKind)(x:Nat->Int):Nat->Value:=fun i => .int k (x i)
theorem zy(k:IntKind)(x:Nat->Int)(i:Nat)(v:Int):dJ (rv k x) i (.int k v)=rv k (upd x i v):=by
 funext j; unfold dJ rv upd; split <;> rfl
def iU(w:World)(b off n:Nat)(x:Nat->Value):Prop := ∀ i,i<n->w.cell? ⟨b,off+i,none⟩=some (x i)
def aQ(w:World)(g n:Nat)(x:Nat->Value)(T:TypeId):Prop:=w.heap[g]? = some (.cells (aA n x) T (0,0))
structure Stp(g:Nat)(w w':World):Prop where
 os:w'.os=w.os
 tape:w'.tape=w.tape
 output:w'.output=w.output
 size:w.heap.size<=w'.heap.size
 block : ∀ k,k<w.heap.size->k≠g->w'.heap[k]? = w.heap[k]?
theorem Stp.below{g B:Nat}{w0 w w':World}(s:Stp g w w')(h:Below B w0 w)(a:B<=w.heap.size)(b:B<=g):Below B w0 w' :=
 h.trans ⟨s.os,s.tape,s.output,s.size,fun k c=>s.block k (by omega) (by omega)⟩
theorem Sb{w w':World}(h:Below w.heap.size w w'):Stp w.heap.size w w':=⟨h.os,h.tape,h.output,h.size,fun k a _=>h.block k a⟩
theorem Stp.old{w w':World}(s:Stp w.heap.size w w'):Below w.heap.size w w':=⟨s.os,s.tape,s.output,s.size,fun k a=>s.block k a (by omega)⟩
theorem Stp.drew{g:Nat}{w w':World}(s:Stp g w w'):Stp g w w'.drew:=⟨s.os,s.tape,s.output,s.size,s.block⟩
theorem ng(g:Nat)(w:World):Stp g w w:=⟨rfl,rfl,rfl,A_ _,fun _ _ _=>rfl⟩
theorem Stp.alloc(w:World)(o:Obj):Stp w.heap.size w (w.alloc o):=Sb ((Below.refl _ _).alloc (A_ _) o)
theorem aQ.lt{w:World}{g n:Nat}{x:Nat->Value}{T:TypeId}(h:aQ w g n x T):g<w.heap.size:=(t_.1 h).1
theorem aQ.cu{w w':World}{g b n:Nat}{x:Nat->Value}{T:TypeId}(h:aQ w b n x T)(s:Stp g w w')(a:b≠g):aQ w' b n x T:=(s.block b h.lt a).trans h
theorem aQ.aH{w:World}{g n:Nat}{x:Nat->Value}{T:TypeId}(h:aQ w g n x T):iU w g 0 n x:=fun i a=>by
 rw[H_,cell_of_row w g i _ _ _ h]; exact gM x a
theorem iU.lt{w:World}{b off n:Nat}{x:Nat->Value}(h:iU w b off n x)(a:0<n):b<w.heap.size:=block_lt_of_cell (h 0 a)
theorem iU.cu{w w':World}{g b off n:Nat}{x:Nat->Value}(h:iU w b off n x)(s:Stp g w w')(e:b≠g):iU w' b off n x:=fun i c=>by
 have a:=h i c;have d:b<w.heap.size:=block_lt_of_cell a;rw[<- a];exact World.cell?_of_block (w:=w) (s.block b d e)
theorem iU.below{w w':World}{b off n B:Nat}{x:Nat->Value}(h:iU w b off n x)(s:Below B w w')(a:b<B):iU w' b off n x:=fun i c=>by
 rw[<- h i c]; exact s.cell (p:=⟨b,off+i,none⟩) a
theorem iU.sub{w:World}{b off n:Nat}{x:Nat->Value}(h:iU w b off n x)(o m:Nat)(c:o+m<=n):iU w b (off+o) m (fun i=>x (o+i)):=fun i a=>by
 have:=h (o+i) (by omega); rwa [<- Nat.add_assoc]at this
def G8(P:Program)(T:TypeId):Bool:=match P.underlying T with|some (.struct _)=>true|some (.array _ _)=>true|_=>false
def Tg(P:Program)(T:TypeId):Bool:=match P.underlying T with|some (.struct _)=>false|some (.array _ _)=>false|some _=>true|none=>false
theorem aQ.to{w:World}{g n:Nat}{x y:Nat->Value}{T:TypeId}(h:aQ w g n x T)(e:x=y):aQ w g n y T:=e ▸ h
theorem dK{w:World}{g:Nat}{x:Nat->Value}{v:Value}{T:TypeId}(h:aQ w g 1 (dJ x 0 v) T):aQ w g 1 (fun _=>v) T:=by
 unfold aQ at *;rw[h,dS (y:=fun _=>v) fun i a=>by simp[dJ]; omega]
theorem aL{w:World}{g n:Nat}{x y:Nat->Value}{T:TypeId}(h:aQ w g n (bG x 0 n y) T):aQ w g n y T:=by
 unfold aQ at *;rw[h,dS (y:=y) fun i a=>by simp[bG,a]]
section
variable {P:Program} {n:Nat} {Q:Post} {f:Nat->Value} {w:World} {ops:Array Oper} {rest:List Oper} {o:Oper}
theorem bf{T:TypeId}{a:Operand}{b off m i p:Nat}{x:Nat->Value}{v:Value}(j:o.op = .load T a)(ha:ev f a = .pointer (some ⟨b,p,none⟩))(c:Tg P T=true)(g:iU w b off m x)(hi:i<m)(h:p=off+i)(k:x i=v):Runs P f o w v:=by
 subst h;subst k;have e:=g i hi;unfold Runs execOp;simp only[j,ha];unfold Tg at c
 cases hu:P.underlying T with
 | none=>rw[hu]at c; cases c
 | some d =>
   rw[hu]at c
   cases d <;> first
    | (cases c; done)
    | simp[Instr.loadAt,Instr.sureAddr,loadVar,isAgg,underlying,hu,e]
theorem eG{T:TypeId}{a:Operand}{b off m i p s:Nat}{x y:Nat->Value}(q:o.op = .load T a)(ha:ev f a = .pointer (some ⟨b,p,none⟩))(c:G8 P T=true)(t:(P.info? T).map (·.size)=some s)(g:iU w b off m x)(hi:i+s<=m)(k:p=off+i)(hy : ∀ j,j<s->x (i+j)=y j) :
 Runs P f o w (.agg (aA s y)):=by
 subst k;rw[<- dS hy];have n:(aA s (fun j=>x (i+j))).toList.length=s:=by simp[cB]
 have r:w.rangeAt b (off+i) (aA s (fun j=>x (i+j))).toList:=fun j v e=>by
  have l:j<s:=by have:=(List.getElem?_eq_some_iff.1 e).1; simpa [cB] using this
  rw[Array.getElem?_toList,gM _ l]at e;rw[<- C_ e,Nat.add_assoc];exact g (i+j) (by omega)
 unfold G8 at c
 cases hu:P.underlying T with
 | none=>rw[hu]at c; cases c
 | some d =>
   rw[hu]at c;have h:d.isRow=true:=by cases d <;> first|(cases c; done)|rfl
   have:=run_loadAt_mid (P:=P) w b (off+i) T (aA s (fun j=>x (i+j))).toList d r hu h (by rw[n]; exact t);unfold Runs execOp;simp only[q,ha,Sem.run_bind,this,Result.andThen_ok,Sem.run_pure,Array.toArray_toList]
theorem AU{g:Nat}{a cs:Array Value}{T:TypeId}(b:w.heap[g]? = some (.cells a T (0,0))):Stp g w (w.setRow g cs)/\(w.setRow g cs).heap[g]? = some (.cells cs T (0,0))/\(w.setRow g cs).heap.size=w.heap.size:=by
 refine⟨⟨rfl,rfl,rfl,by simp,fun k _ c=>setRow_other _ _ _ _ (by omega)⟩,?_,by simp⟩;rw[setRow_heap w g a cs T (0,0) b]
theorem L.Ti{T TB:TypeId}{a v:Operand}{g m i:Nat}{x:Nat->Value}{u:Value}(B:Region.wanted o (yf ops f)=true)(c:o.dst=none)(t:o.op = .store T a v)(ha:ev f a = .pointer (some ⟨g,i,none⟩))(A:ev f v=u)(h1:u.oneCell'=true)(l:(P.info? T).map (·.size)=some 1)
 (b:aQ w g m x TB) (hi:i<m) (h : ∀ w',aQ w' g m (dJ x i u) TB->Stp g w w'->w'.heap.size=w.heap.size->L P n ops Q rest f w'):L P n ops Q (o::rest) f w:=by
 have p:w.cell? ⟨g,i,none⟩=some (x i):=by have:=b.aH i hi; rwa [H_]at this
 have q:w.frozen? ⟨g,i,none⟩=false:=by
  unfold World.frozen?;simp only[show w.heap[g]? = _ from b];simp
 have y:=run_storeVar_one (P:=P) w g i T u (x i) l h1 p q;have z:(execOp (ev f) o).run P w = .ok .skip (w.setCell ⟨g,i,none⟩ u):=by
  unfold execOp;simp only[t,ha,A,Instr.storeAt,Instr.sureAddr,Sem.run_bind,Sem.run_pure,Result.andThen_ok,y]
 refine L.unit B z (by rw[c]; rfl) ?_;rw[c];refine h _ ?_ ⟨rfl,rfl,rfl,by simp[World.setCell],fun k _ s=>Below.heap_setCell _ _ _ _ (by simpa using s)⟩ (by simp[World.setCell]);show(w.setCell ⟨g,i,none⟩ u).heap[g]? = _;have r:w.heap[g]? = some (.cells (aA m x) TB (0,0)):=b;simp only[World.setCell,Array.getElem?_modify,if_true,r,Option.map_some,Option.isSome_none]
 congr 2
 refine vK (by simp[cB]) fun j d => ?_;simp only[Bool.false_eq_true,if_false,Array.getElem?_setIfInBounds,dJ];by_cases e:i=j
 ·subst e; simp[cB,d]
 rw[b_ e,gM x d,b_ (fun h=>e h.symm)]
theorem L.Tj{T TB:TypeId}{a v:Operand}{g m i s:Nat}{x y:Nat->Value}(H:Region.wanted o (yf ops f)=true)(d:o.dst=none)(B:o.op = .store T a v)(ha:ev f a = .pointer (some ⟨g,i,none⟩))(G:ev f v = .agg (aA s y))(h1 : ∀ j,j<s->(y j).oneCell'=true)(c:(P.info? T).map (·.size)=some s)
 (r:aQ w g m x TB) (hi:i+s<=m) (h : ∀ w',aQ w' g m (bG x i s y) TB->Stp g w w'->w'.heap.size=w.heap.size->L P n ops Q rest f w'):L P n ops Q (o::rest) f w:=by
 have e:w.heap[g]? = some (.cells (aA m x) TB (0,0)):=r;have q : ∀ u∈(aA s y).toList,u.oneCell'=true:=fun u F=>by
  obtain⟨j,b,t⟩:=List.getElem_of_mem F;have k:j<s:=by simpa [cB] using b
  have:=gM y k;rw[<- Array.getElem?_toList,o_ b,t]at this;rw[C_ this]; exact h1 j k
 have C:=run_storeCells_at (P:=P) g i TB (aA s y).toList 0 (aA m x) w e (by simp[cB]; omega) q;have D:(execOp (ev f) o).run P w = .ok .skip (w.setRow g ((aA m x).toList.take (i+0)++(aA s y).toList++(aA m x).toList.drop (i+0+(aA s y).toList.length)).toArray):=by
  unfold execOp
  cases hq:P.info? T with
  | none=>simp[hq]at c
  | some z =>
    have I:z.size=s:=(by simp[hq]at c; omega);have E:(Value.agg (aA s y)).cells=aA s y:=rfl;simp only[B,ha,G,Instr.storeAt,Instr.sureAddr,Sem.run_bind,Sem.run_pure,Result.andThen_ok,storeVar,sizeOf,typeInfo,run_program,hq,E,cB,I,ne_eq,not_true_eq_false,if_false,C]
 refine L.unit H D (by rw[d]; rfl) ?_;rw[d];obtain⟨J,K,M⟩:=AU (w:=w) (cs:=((aA m x).toList.take (i+0)++(aA s y).toList++(aA m x).toList.drop (i+0+(aA s y).toList.length)).toArray) e;refine h _ ?_ J M;show _=_;rw[K]
 congr 2
 refine vK (by simp[cB]; omega) fun j b => ?_;rw[List.getElem?_toArray,List.append_assoc];simp only[Nat.add_zero,bG];by_cases l:j<i
 ·rw[List.getElem?_append_left (by simp[cB]; omega),b_ (by omega),List.getElem?_take,d_ l,Array.getElem?_toList,gM x b]
 rw[List.getElem?_append_right (by simp[cB]; omega)];have A:(List.take i (aA m x).toList).length=i:=by simp[cB]; omega
 rw[A];by_cases p:j<i+s
 ·rw[List.getElem?_append_left (by simp[cB]; omega),d_ ⟨by omega,p⟩,Array.getElem?_toList,gM y (by omega)]
 rw[List.getElem?_append_right (by simp[cB]; omega),b_ (by omega),List.getElem?_drop,Array.getElem?_toList];simp only[Array.length_toList,cB];rw[show i+s+(j-i-s)=j by omega,gM x b]
theorem DT{T:TypeId}{x:Operand}{v:Value}{m:Nat}{y:Nat->Value}(e:Region.wanted o (yf ops f)=true)(c:o.op = .box T x)(hx:ev f x=v)(a:v.cells=aA m y)(b:inn n o.dst=true)
 (h : ∀ g w',g=w.heap.size->aQ w' g m y T->Stp w.heap.size w w'->w'.heap.size=w.heap.size+1->L P n ops Q rest (put f o.dst (.pointer (some ⟨g,0,none⟩))) w'):L P n ops Q (o::rest) f w:=by
 have d:(execOp (ev f) o).run P w = .ok (.value (.pointer (some ⟨w.heap.size,0,none⟩))) (w.alloc (.cells v.cells T)):=by
  unfold execOp;simp[c,hx,Instr.box,newVar,newRow]
 refine L.val e d b (h _ _ rfl ?_ (Stp.alloc _ _) (by simp));show(w.alloc _).heap[w.heap.size]? = _;rw[alloc_at,d_ rfl,a]
theorem bJ(m:Nat)(y:Nat->Value):(Value.agg (aA m y)).cells=aA m y:=rfl
theorem cells_one{v:Value}(h:v.oneCell'=true):v.cells=aA 1 (fun _=>v):=by
 cases v <;> first|rfl|(simp[Value.oneCell']at h)
theorem BL{T:TypeId}{m:Nat}{y:Nat->Value}(j:Region.wanted o (yf ops f)=true)(d:o.op = .alloc T)(a:((P.info? T).bind (·.zero)).map (·.cells)=some (aA m y))(b:inn n o.dst=true)
 (h : ∀ g w',g=w.heap.size->aQ w' g m y T->Stp w.heap.size w w'->w'.heap.size=w.heap.size+1->L P n ops Q rest (put f o.dst (.pointer (some ⟨g,0,none⟩))) w'):L P n ops Q (o::rest) f w:=by
 obtain⟨z,k,l⟩:=Option.map_eq_some_iff.1 a;obtain⟨i,c,a⟩:=Option.bind_eq_some_iff.1 k;have e:(execOp (ev f) o).run P w = .ok (.value (.pointer (some ⟨w.heap.size,0,none⟩))) (w.alloc (.cells z.cells T)):=by
  unfold execOp;simp[d,Instr.alloc,zeroValue,typeInfo,c,a,newVar,newRow]
 refine L.val j e b (h _ _ rfl ?_ (Stp.alloc _ _) (by simp));show(w.alloc _).heap[w.heap.size]? = _;rw[alloc_at,d_ rfl,l]
theorem bE{b:Nat->Option (Nat × Nat)}{m i off s:Nat}{v:Value}{x y:Nat->Value}{rest:List (Nat × Value)}(t:b i=some (off,s))(u:v.cells=aA s y)(p:Nat.ble (off+s) m=true) :
 Instr.fill b (aA m x) ((i,v)::rest)=Instr.fill b (aA m (bG x off s y)) rest:=by
 have r:off+s<=m:=Nat.le_of_ble_eq_true p;have key : ∀(l:List Value) (k:Nat) (a:Array Value),(l.zipIdx k).foldl (fun cs (c,j)=>cs.setIfInBounds (off+j) c) a=Array.ofFn (fun q:Fin a.size=>if off+k<=q.1/\q.1<off+k+l.length then l.getD (q.1-off-k) undef else a[q.1]):=by
  intro l
  induction l with
  | nil=>intro k a; apply Array.ext <;> simp; intro i f g; omega
  | cons c l ih =>
    intro k a;rw[List.zipIdx_cons,List.foldl_cons,ih];apply Array.ext
    ·simp
    ·intro q f g;simp only[Array.size_ofFn,Array.size_setIfInBounds]at f g;simp only[Array.getElem_ofFn,List.length_cons];by_cases d:off+(k+1)<=q/\q<off+(k+1)+l.length
     ·rw[d_ d,d_ (by omega),show q-off-k=(q-off-(k+1))+1 by omega,List.getD_cons_succ]
     ·rw[b_ d,Array.getElem_setIfInBounds];by_cases e:off+k=q
      ·rw[d_ e,d_ (by omega),show q-off-k=0 by omega]; rfl
      ·rw[b_ e,b_ (by omega)]
 conv=>lhs; unfold Instr.fill
 simp only[t,u,cB];rw[b_ (by rw[show decide (s≠s)=false from g_ (fun h=>h rfl),Bool.false_or]; simpa using r)]
 congr 1
 rw[<- Array.foldl_toList,Array.toList_zipIdx,key];refine vK (by simp[cB]) fun j n => ?_;have o:j<(aA m x).size:=by rw[cB]; exact n
 rw[Array.getElem?_ofFn,dif_pos o];simp only[Array.length_toList,cB,bG,Nat.add_zero,Nat.sub_zero];by_cases c:off<=j/\j<off+s
 ·rw[d_ c,d_ c,r_,Array.getElem?_toList,gM y (by omega)]; rfl
 rw[b_ c,b_ c];have:=gM x n;rw[Array.getElem?_eq_getElem o]at this;exact this
theorem gD{T:TypeId}{k:List (Nat × Operand)}{vs:List (Nat × Value)}{e:Array Field}{places:Array (Nat × Nat)}{m:Nat}{x y:Nat->Value}(v:o.op = .build T k.toArray)(A:k.map (fun p=>(p.1,ev f p.2))=vs)(B:P.underlying T=some (.struct e))
 (c:e.mapM (fun a=>(P.info? a.type).map fun i=>(a.offset,i.size))=some places) (j:((P.info? T).bind (·.zero)).map (·.cells)=some (aA m x)) (q:Instr.fill (places[·]?) (aA m x) vs=some (aA m y)):Runs P f o w (.agg (aA m y)):=by
 obtain⟨z,C,D⟩:=Option.map_eq_some_iff.1 j;obtain⟨i,s,j⟩:=Option.bind_eq_some_iff.1 C;have key : ∀(g:Field->Sem (Nat × Nat)) (b : ∀ d x,(P.info? d.type).map (fun i=>(d.offset,i.size))=some x->(g d).run P w = .ok x w) (l:List Field) (r:List (Nat × Nat)),l.mapM (fun a=>(P.info? a.type).map fun i=>(a.offset,i.size))=some r->(l.mapM g).run P w = .ok r w:=by
  intro g b l
  induction l with
  | nil=>intro r h; simp at h; subst h; simp
  | cons d l ih =>
    intro r h;rw[List.mapM_cons]at h
    cases h1:(P.info? d.type).map (fun i=>(d.offset,i.size))with
    | none=>rw[h1]at h; cases h
    | some i1 =>
      cases h2:l.mapM (fun a=>(P.info? a.type).map fun i=>(a.offset,i.size))with
      | none=>rw[h1,h2]at h; cases h
      | some r2 =>
        rw[h1,h2]at h;have n:i1::r2=r:=(by simpa using h);subst n;rw[List.mapM_cons];simp only[Sem.run_bind,b d i1 h1,Result.andThen_ok,ih r2 h2,Sem.run_pure]
 have t:e.toList.mapM (fun a=>(P.info? a.type).map fun i=>(a.offset,i.size))=some places.toList:=by
  rw[Array.mapM_eq_mapM_toList]at c
  cases hq:e.toList.mapM (fun a=>(P.info? a.type).map fun i=>(a.offset,i.size))with
  | none=>rw[hq]at c; simp at c
  | some r=>rw[hq]at c; simp at c; rw[<- c]
 have u : ∀(g:Field->Sem (Nat × Nat)),(∀ d x,(P.info? d.type).map (fun i=>(d.offset,i.size))=some x->(g d).run P w = .ok x w)->(e.mapM g).run P w = .ok places w:=fun g b=>by
  rw[Array.mapM_eq_mapM_toList];simp[key g b _ _ t]
 have b : ∀(d:Field) (x:Nat × Nat),(P.info? d.type).map (fun i=>(d.offset,i.size))=some x->(do pure (d.offset,<- sizeOf d.type):Sem (Nat × Nat)).run P w = .ok x w:=fun d x h=>by
  cases h1:P.info? d.type with
  | none=>rw[h1]at h; cases h
  | some i1=>rw[h1]at h; simp at h; subst h; simp[sizeOf,typeInfo,h1]
 unfold Runs execOp;simp only[v,List.map_toArray,A];unfold Instr.build;simp only[zeroValue,typeInfo,underlying,Sem.run_bind,run_program,Result.andThen_ok,s,j,B,Sem.run_pure,u _ b,D,q]
theorem rC{g:FuncId}{a:Func}{c:Code}{b:List Operand}{args:List Value}{Ts:Array TypeId}(j:o.op = .call { callee := .value (.func g),args:=b.toArray,argTypes:=Ts })(hx:b.map (ev f)=args)(h:P.funcs[g]? = some a)
 (i : (a.name == "runtime.NumGoroutine") = false) (d : a.body = some c) : (execOp (ev f) o).run P w = .ok (.enter g args.toArray) w := by
 unfold execOp;simp only[j];unfold resolve;simp only[Sem.run_bind,List.map_toArray,hx,ev,Deferred.ofValue,Sem.run_pure,Result.andThen_ok];unfold invoke;have e:(#[]++args.toArray ++ #[]:Array Value)=args.toArray:=by simp
 show(callFunc g (#[]++args.toArray ++ #[])).run P w=_;rw[e];exact kK h i d args.toArray w
theorem BM{g:FuncId}{a:Func}{c:Code}{t:Operand}{d:List Operand}{args:List Value}{Ts:Array TypeId}{b cap:Array Value}{all:Array Value}(k:o.op = .call { callee := .value t,args:=d.toArray,argTypes:=Ts })(l:ev f t = .func (.func g) b cap)(hx:d.map (ev f)=args)(e:b++args.toArray++cap=all)
 (i : P.funcs[g]? = some a) (j : (a.name == "runtime.NumGoroutine") = false) (h : a.body = some c) : (execOp (ev f) o).run P w = .ok (.enter g all) w := by
 unfold execOp;simp only[k];unfold resolve;simp only[Sem.run_bind,List.map_toArray,hx,l,Deferred.ofValue,Sem.run_pure,Result.andThen_ok];unfold invoke;simp only[e];exact kK i j h all w
theorem mG{a:Fn}{b c:List Operand}{us vs:List Value}(d:o.op = .makeFunc a b.toArray c.toArray)(hx:b.map (ev f)=us)(hy:c.map (ev f)=vs):Runs P f o w (.func a us.toArray vs.toArray):=by
 unfold Runs execOp;simp[d,Instr.makeFunc,hx,hy]
end
end Fx
def uG:Option IntKind->Value->Option Lit
 | none,.bool b=>some (.bool b)
 | some q,.int q' n=>if q'=q/\(Lit.int q n).wf=true then some (.int q n)else none
 | _,_=>none
def Fit:List (Option IntKind)->List Value->List Lit->Prop
 | [],[],[]=>True
 | k::ks,c::cs,l::ls=>uG k c=some l/\Fit ks cs ls
 | _,_,_=>False
theorem Fit.lengths : ∀ {ks:List (Option IntKind)} {cs:List Value} {ls:List Lit},Fit ks cs ls->cs.length=ks.length/\ls.length=ks.length
 | [],[],[],_=>⟨rfl,rfl⟩
 | _::_,_::_,_::_,h=>by have:=Fit.lengths h.2; simp[this.1,this.2]
 | [],_::_,_,h=>h.elim
 | [],[],_::_,h=>h.elim
 | _::_,[],_,h=>h.elim
 | _::_,_::_,[],h=>h.elim
theorem Fit.split : ∀ {a b:List (Option IntKind)} {cs:List Value} {ls:List Lit},Fit (a++b) cs ls->Fit a (cs.take a.length) (ls.take a.length)/\Fit b (cs.drop a.length) (ls.drop a.length)
 | [],b,cs,ls,h=>by simpa using ⟨trivial,h⟩
 | k::a,b,c::cs,l::ls,h=>by
   have:=Fit.split (a:=a) h.2;exact⟨⟨h.1,by simpa using this.1⟩,by simpa using this.2⟩
 | _::_,_,[],_,h=>h.elim
 | _::_,_,_::_,[],h=>h.elim
theorem Fit.one{k:Option IntKind}{cs:List Value}{a:List Lit}(h:Fit [k] cs a) : ∃ c l,cs = [c]/\a = [l]/\uG k c=some l:=by
 have b:=h.lengths
 match cs,a,b,h with
 | [c],[l],_,h=>exact⟨c,l,rfl,rfl,h.1⟩
def wP(a:TypeId->Nat)(b:TypeId->Option (List (Option IntKind))):List Field->Nat->Option (List (Option IntKind))
 | [],_=>some []
 | f :: fs, o => if f.offset = o ∧ (f.name != "_") = true then
     match b f.type with
     | some l=>if l.length=a f.type then(wP a b fs (o+l.length)).map (l ++ ·)else none
     | none=>none
   else none
def flatK(P:Program):Nat->TypeId->Option (List (Option IntKind))
 | 0,_=>none
 | d+1,t =>
   match P.underlying t with
   | some .bool=>some [none]
   | some (.int q)=>some [some q]
   | some (.array n e)=>match flatK P d e with
     | some l=>if l.length=P.cellsOf e/\n*l.length=P.cellsOf t then some (List.replicate n l).flatten else none
     | none=>none
   | some (.struct fs)=>match wP P.cellsOf (flatK P d) fs.toList 0 with
     | some l=>if l.length=P.cellsOf t then some l else none
     | none=>none
   | _=>none
theorem Nj{a:Type}(n:Nat)(f:Nat->Option a)(g:Nat->a)(h : ∀ i,i<n->f i=some (g i)):(List.range n).mapM f=some ((List.range n).map g):=by
 induction n with
 | zero=>rfl
 | succ n ih =>
   rw[List.range_succ,List.mapM_append,ih (fun i b=>h i (by omega)),List.map_append];simp[h n (by omega)]
theorem chunks{f:Type}(c:Nat) : ∀(n:Nat) (a:List f),a.length=n*c->((List.range n).map fun i=>(a.drop (i*c)).take c).flatten=a
 | 0,a,h=>by simp at h; subst h; rfl
 | n+1,a,h=>by
   rw[List.range_succ_eq_map,List.map_cons,List.flatten_cons,List.map_map];have b:(a.drop c).length=n*c:=(by rw[List.length_drop,h,Nat.add_mul]; omega);have d:=chunks c n (a.drop c) b;have e:((fun i=>(a.drop (i*c)).take c) ∘ Nat.succ)=fun i=>((a.drop c).drop (i*c)).take c:=by
    funext i
    simp only[Function.comp,List.drop_drop]
    congr 2
    rw[Nat.succ_mul]; omega
   rw[e,d];simp
theorem Fit.block{l:List (Option IntKind)} : ∀ {n:Nat} {cs:List Value} {ls:List Lit},Fit (List.replicate n l).flatten cs ls -> ∀ i,i<n->Fit l ((cs.drop (i*l.length)).take l.length) ((ls.drop (i*l.length)).take l.length)
 | 0,_,_,_,i,hi=>N_ hi (by omega)
 | n+1,cs,ls,h,i,hi=>by
   rw[List.replicate_succ,List.flatten_cons]at h;have a:=Fit.split h
   cases i with
   | zero=>simpa using a.1
   | succ i =>
     have:=Fit.block a.2 i (by omega);rw[List.drop_drop,List.drop_drop]at this;rw[Nat.succ_mul,Nat.add_comm];exact this
theorem sV{a:Type}(n:Nat)(l:List a):(List.replicate n l).flatten.length=n*l.length:=by
 induction n with
 | zero=>simp
 | succ n ih=>rw[List.replicate_succ,List.flatten_cons,G_,ih,Nat.succ_mul]; omega
theorem Tk{P:Program}{d:Nat}(n : ∀ t b cs a,flatK P d t=some b->Fit b cs a->P.keyLits d t cs=some a)(cs:List Value)(a:List Lit) :
 ∀(c:List Field) (o:Nat) (b:List (Option IntKind)),wP P.cellsOf (flatK P d) c o=some b->Fit b (cs.drop o) (a.drop o) ->
  (∀ f ∈ c, (f.name != "_") = true) ∧ ∃ L : List (List Lit), c.mapM (fun f => P.keyLits d f.type ((cs.drop f.offset).take (P.cellsOf f.type))) = some L ∧ L.flatten = a.drop o
 | [],o,b,h,hf=>by
   simp[wP]at h;subst h;have:=hf.lengths;refine⟨by simp,[],rfl,?_⟩;have e:(a.drop o).length=0:=this.2;rw[List.length_eq_zero_iff.1 e]; rfl
 | f::c,o,b,h,hf=>by
   unfold wP at h;by_cases i : f.offset = o ∧ (f.name != "_") = true
   ·rw[d_ i]at h
    cases e:flatK P d f.type with
    | none=>rw[e]at h; cases h
    | some l =>
      rw[e]at h;simp only at h;by_cases j:l.length=P.cellsOf f.type
      ·rw[d_ j]at h
       cases h4:wP P.cellsOf (flatK P d) c (o+l.length)with
       | none=>rw[h4]at h; cases h
       | some r =>
         rw[h4]at h;simp only[Option.map_some,Option.some.injEq]at h;subst h;have m:=Fit.split hf;rw[List.drop_drop,List.drop_drop]at m;obtain⟨u,L,p,q⟩:=Tk n cs a c (o+l.length) r h4 m.2;have s:=n f.type l _ _ e m.1;refine⟨?_,(a.drop o).take l.length::L,?_,?_⟩
         ·intro g k
          rcases List.mem_cons.1 k with rfl|k
          ·exact i.2
          ·exact u g k
         ·rw[List.mapM_cons,i.1,<- j,s,p]; rfl
         ·rw[List.flatten_cons,q]
          conv=>rhs; rw[<- List.take_append_drop l.length (a.drop o)]
          rw[List.drop_drop]
      ·rw[b_ j]at h; cases h
   ·rw[b_ i]at h; cases h
theorem qz{P:Program} : ∀(d:Nat) (t:TypeId) (k:List (Option IntKind)) (cs:List Value) (g:List Lit),flatK P d t=some k->Fit k cs g->P.keyLits d t cs=some g
 | 0,_,_,_,_,h,_=>by cases h
 | d+1,t,k,cs,g,h,b=>by
   unfold flatK at h;unfold Program.keyLits
   cases hu:P.underlying t with
   | none=>rw[hu]at h; cases h
   | some td =>
     rw[hu]at h
     cases td with
     | bool =>
       simp only[Option.some.injEq]at h;subst h;obtain⟨c,l,rfl,rfl,this⟩:=b.one
       cases c <;> simp[uG]at this
       subst this;rfl
     | int q =>
       simp only[Option.some.injEq]at h;subst h;obtain⟨c,l,rfl,rfl,this⟩:=b.one
       cases c <;> simp[uG]at this
       rename_i q' n;obtain⟨⟨rfl,v⟩,rfl⟩:=this;simp[v]
     | array n e =>
       simp only at h
       cases h2:flatK P d e with
       | none=>rw[h2]at h; cases h
       | some l =>
         rw[h2]at h;simp only at h;by_cases a:l.length=P.cellsOf e/\n*l.length=P.cellsOf t
         ·rw[d_ a]at h;simp only[Option.some.injEq]at h;subst h;have j:=b.lengths;rw[sV]at j;simp only;rw[d_ (by rw[j.1,a.2]),<- a.1,Nj n _ (fun i=>(g.drop (i*l.length)).take l.length) (fun i s=>qz d e l _ _ h2 (b.block i s))];rw[Option.map_some,chunks l.length n g j.2]
         ·rw[b_ a]at h; cases h
     | struct fs =>
       simp only at h
       cases h2:wP P.cellsOf (flatK P d) fs.toList 0 with
       | none=>rw[h2]at h; cases h
       | some l =>
         rw[h2]at h;simp only at h;by_cases a:l.length=P.cellsOf t
         ·rw[d_ a]at h;simp only[Option.some.injEq]at h;subst h;obtain⟨u,L,m,r⟩:=Tk (fun t k cs g h b=>qz d t k cs g h b) cs g fs.toList 0 l h2 (by simpa using b);have j:=b.lengths;simp only;have o : (fs.all fun f => f.name != "_") = true := by
           rw[Array.all_eq_true_iff_forall_mem];intro f p;exact u f (by simpa using p)
          rw[d_ ⟨by rw[j.1,a],o⟩,m,Option.map_some,r];rfl
         ·rw[b_ a]at h; cases h
     | _=>cases h
theorem pJ{P:Program}(w:World)(m d:Nat)(t:TypeId)(ks:List (Option IntKind))(f g:Array Value)(c lb:List Lit)(p:P.keyTypeAt m t=true)(a:flatK P m t=some ks)
 (b:(match P.underlying t with|some (.array _ _)|some (.struct _)=>true|_=>false)=true) (ha:Fit ks f.toList c) (j:Fit ks g.toList lb) (r:Bool) (hr:r=true<->c=lb) :
 (Op.equalIn (d+m) t (.agg f) (.agg g)).run P w = .ok r w:=by
 have v:ks.length=P.cellsOf t:=by
  cases m with
  | zero=>cases a
  | succ m =>
    unfold flatK at a
    cases hu:P.underlying t with
    | none=>rw[hu]at a; cases a
    | some td =>
      rw[hu]at a b
      cases td with
      | array n e =>
        simp only at a
        cases h2:flatK P m e with
        | none=>rw[h2]at a; cases a
        | some l =>
          rw[h2]at a;simp only at a;split at a
          ·rename_i h3;simp only[Option.some.injEq]at a;rw[<- a,sV,h3.2]
          ·cases a
      | struct fs =>
        simp only at a
        cases h2:wP P.cellsOf (flatK P m) fs.toList 0 with
        | none=>rw[h2]at a; cases a
        | some l =>
          rw[h2]at a;simp only at a;split at a
          ·rename_i h3;simp only[Option.some.injEq]at a;rw[<- a,h3]
          ·cases a
      | _=>cases b
 have k : ∀(i:Array Value) (l:List Lit),Fit ks i.toList l->Value.formed P t (.agg i)=true:=by
  intro i l h;have u:i.size=P.cellsOf t:=by have:=h.lengths.1; rw[Array.length_toList]at this; omega
  unfold Value.formed
  cases hu:P.underlying t with
  | none=>rw[hu]at b; cases b
  | some td=>rw[hu]at b; cases td <;> first|(cases b; done)|simp[u]
 obtain⟨q,s,o⟩:=run_equalIn_deep d m t p w m m (.agg f) (.agg g) c lb (k f c ha) (k g lb j) (qz m t ks _ _ a (by simpa [Value.cells] using ha)) (qz m t ks _ _ a (by simpa [Value.cells] using j));rw[s]
 congr 1
 rw[Bool.eq_iff_iff,o,hr]
theorem Jk{P:Program}(w:World)(m:Nat)(h:m<=10000)(t:TypeId)(ks:List (Option IntKind))(b c:Array Value)(a lb:List Lit)(f:P.keyTypeAt m t=true)(e:flatK P m t=some ks)
 (g:(match P.underlying t with|some (.array _ _)|some (.struct _)=>true|_=>false)=true) (ha:Fit ks b.toList a) (d:Fit ks c.toList lb) (r:Bool) (hr:r=true<->a=lb) :
 (binOp .eql t (.agg b) (.agg c)).run P w = .ok (.bool r) w:=by
 rw[run_eql_struct,show 10000=(10000-m)+m by omega,pJ w m (10000-m) t ks b c a lb f e g ha d r hr]; rfl
theorem Jl{P:Program}(w:World)(m:Nat)(h:m<=10000)(t:TypeId)(ks:List (Option IntKind))(b c:Array Value)(a lb:List Lit)(f:P.keyTypeAt m t=true)(e:flatK P m t=some ks)
 (g:(match P.underlying t with|some (.array _ _)|some (.struct _)=>true|_=>false)=true) (ha:Fit ks b.toList a) (d:Fit ks c.toList lb) (r:Bool) (hr:r=true<->a=lb) :
 (binOp .neq t (.agg b) (.agg c)).run P w = .ok (.bool (!r)) w:=by
 rw[run_neq_struct,show 10000=(10000-m)+m by omega,pJ w m (10000-m) t ks b c a lb f e g ha d r hr]; rfl
namespace Fx
def Kd(ks:List (Option IntKind))(x:Nat->Value):Prop := ∀ i,(h:i<ks.length) -> ∃ l,uG ks[i] (x i)=some l
theorem Tm{k:IntKind}{n:Nat}{x:Nat->Int}(h : ∀ i,i<n->(Lit.int k (x i)).wf=true):Kd (List.replicate n (some k)) (rv k x):=fun i a=>by
 have b:i<n:=by simpa using a
 refine⟨.int k (x i),?_⟩;rw[List.getElem_replicate];simp[uG,rv,h i b]
theorem Yx{a:Int}(h : -9223372036854775808<=a/\a<=9223372036854775807):(Lit.int .i64 a).wf=true:=by simp[Lit.wf,IntKind.min,IntKind.max,IntKind.bits,IntKind.signed]; omega
theorem vL{a:Int}(h:0<=a/\a<=18446744073709551615):(Lit.int .u64 a).wf=true:=by simp[Lit.wf,IntKind.min,IntKind.max,IntKind.bits,IntKind.signed]; omega
theorem amV{a:Int}(h:0<=a/\a<=255):(Lit.int .u8 a).wf=true:=by simp[Lit.wf,IntKind.min,IntKind.max,IntKind.bits,IntKind.signed]; omega
theorem QL{k:Option IntKind}{u v:Value}{l:Lit}(h:uG k u=some l)(a:uG k v=some l):u=v:=by
 cases k with
 | none =>
   cases u <;> cases v <;> simp_all [uG]
   rw[<- h]at a; injection a with a; exact a.symm
 | some q =>
   cases u <;> cases v <;> simp_all [uG]
   have e:=h.2.trans a.2.symm; injection e
theorem Kd.fit{x:Nat->Value} : ∀(a:List (Option IntKind)) (o:Nat),(∀ i,(h:i<a.length) -> ∃ l,uG a[i] (x (o+i))=some l) -> ∃ b,Fit a ((List.range a.length).map fun i=>x (o+i)) b
 | [],_,_=>⟨[],trivial⟩
 | k::a,o,h=>by
   obtain⟨l,d⟩:=h 0 (by simp);obtain⟨b,f⟩:=Kd.fit a (o+1) (fun i c=>by
    have:=h (i+1) (by simpa using c)
    simpa [Nat.add_assoc,Nat.add_comm 1 i] using this)
   refine⟨l::b,?_⟩;rw[List.length_cons,List.range_succ_eq_map,List.map_cons,List.map_map];refine⟨by simpa using d,?_⟩;have e:(fun i=>x (o+i)) ∘ Nat.succ=fun i=>x (o+1+i):=(by funext i; simp[Nat.add_assoc,Nat.add_comm 1 i]);rw[e];exact f
theorem Hy(n:Nat)(x:Nat->Value):(aA n x).toList=(List.range n).map x:=by
 apply List.ext_getElem?;intro i;by_cases a:i<n
 ·rw[Array.getElem?_toList,gM x a]; simp[a]
 rw[Array.getElem?_toList,Hw x (by omega)]; simp[a]
theorem Fit.inj : ∀ {ks:List (Option IntKind)} {a b:List Value} {l:List Lit},Fit ks a l->Fit ks b l->a=b
 | [],[],[],[],_,_=>rfl
 | _::_,_::_,_::_,_::_,h,h'=>by rw[QL h.1 h'.1,Fit.inj h.2 h'.2]
 | [],[],_::_,_,_,h'=>h'.elim
 | [],_::_,_,_,h,_=>h.elim
 | _::_,[],_,_,h,_=>h.elim
 | _::_,_::_,[],_,_,h'=>h'.elim
 | _::_,_::_,_::_,[],h,_=>h.elim
 | [],[],[],_::_,h,_=>h.elim
theorem Fit.same : ∀ {ks:List (Option IntKind)} {a:List Value} {l l':List Lit},Fit ks a l->Fit ks a l'->l=l'
 | [],[],[],[],_,_=>rfl
 | _::_,_::_,_::_,_::_,h,h'=>by
   have:=h.1.symm.trans h'.1;rw[C_ this,Fit.same h.2 h'.2]
 | [],[],[],_::_,_,h'=>h'.elim
 | [],[],_::_,_,h,_=>h.elim
 | [],_::_,_,_,h,_=>h.elim
 | _::_,[],_,_,h,_=>h.elim
 | _::_,_::_,_::_,[],_,h'=>h'.elim
 | _::_,_::_,[],_,h,_=>h.elim
section
variable {P:Program} {n:Nat} {Q:Post} {f:Nat->Value} {w:World} {o:Oper}
theorem Yy(w:World)(m:Nat)(r:m<=10000){T:TypeId}{ks:List (Option IntKind)}{x y:Nat->Value}(q:P.keyTypeAt m T=true)(p:flatK P m T=some ks)(z:ks.length=n)(f:G8 P T=true)(A:Kd ks x)(ky:Kd ks y)(b:Bool)(v:b=true <-> ∀ i,i<n->x i=y i) :
 (binOp .eql T (.agg (aA n x)) (.agg (aA n y))).run P w = .ok (.bool b) w/\(binOp .neq T (.agg (aA n x)) (.agg (aA n y))).run P w = .ok (.bool (!b)) w:=by
 obtain⟨j,a⟩:=Kd.fit (x:=x) ks 0 (fun i h=>by rw[H_]; exact A i h);obtain⟨k,c⟩:=Kd.fit (x:=y) ks 0 (fun i h=>by rw[H_]; exact ky i h);simp only[H_,z]at a c;have t:(match P.underlying T with|some (.array _ _)|some (.struct _)=>true|_=>false)=true:=by
  unfold G8 at f
  cases hu:P.underlying T with
  | none=>rw[hu]at f; cases f
  | some d=>rw[hu]at f; cases d <;> first|rfl|(cases f)
 have s:b=true<->j=k:=by
  rw[v];constructor
  ·intro h;have e:(List.range n).map x=(List.range n).map y:=List.map_congr_left fun i g=>h i (by simpa using g);have o:=a;rw[show(fun i=>x i)=x from rfl,e]at o;exact Fit.same o c
  ·intro h;subst h;have e:=Fit.inj a c;intro i g;have u:=M_ (fun l=>l[i]?) e
   simpa [g] using u
 rw[<- Hy]at a c;exact⟨Jk w m r T ks _ _ j k q p t a c b s,Jl w m r T ks _ _ j k q p t a c b s⟩
theorem acM{c:BinOp}{T T':TypeId}{x y:Operand}{u v r:Value}{a b:Array Value}(e:o.op = .binOp c T x y T')(hx:ev f x=u)(hy:ev f y=v)(g:u = .agg a)(i:v = .agg b)(d:P.eqGuardType P.depth T=false)(h:(binOp c T u v).run P w = .ok r w):Runs P f o w r:=by
 subst g i;unfold Runs execOp;simp only[e,hx,hy];simp only[Sem.run_bind,run_eqGuard_agg w c T x y a b d,Result.andThen_ok,h,Sem.run_pure]
theorem wQ{T T':TypeId}{x y:Operand}{ks:List (Option IntKind)}{X Y:Nat->Value}(m:Nat)(b:Bool)(j:o.op = .binOp .eql T x y T')(hx:ev f x = .agg (aA n X))(hy:ev f y = .agg (aA n Y))(a:b=true <-> ∀ i,i<n->X i=Y i)(l:Kd ks X)(ky:Kd ks Y)
 (g:Nat.ble m 10000=true) (e:P.keyTypeAt m T=true) (d:flatK P m T=some ks) (h:ks.length=n) (k:G8 P T=true) (c:P.eqGuardType P.depth T=false):Runs P f o w (.bool b) :=
 acM j hx hy rfl rfl c (Yy w m (Nat.le_of_ble_eq_true g) e d h k l ky b a).1
theorem Tn{p:Prop}(h:p):true=true<->p:=Iff.intro (fun _=>h) (fun _=>rfl)
theorem nob{p:Prop}(h : ¬ p):false=true<->p:=Iff.intro (fun e=>N_ e (by decide)) (fun q=>N_ q h)
theorem aS{T:TypeId}{g off:Nat}{x:Nat->Value}(e:iU w g off n x)(a:G8 P T=true)(k:(P.info? T).map (·.size)=some n):(loadVar T ⟨g,off,none⟩).run P w = .ok (.agg (aA n x)) w:=by
 have h:(aA n x).toList.length=n:=by simp[cB]
 have i:w.rangeAt g off (aA n x).toList:=fun j v b=>by
  have c:j<n:=by have:=(List.getElem?_eq_some_iff.1 b).1; simpa [cB] using this
  rw[Array.getElem?_toList,gM _ c]at b;rw[<- C_ b];exact e j c
 unfold G8 at a
 cases hu:P.underlying T with
 | none=>rw[hu]at a; cases a
 | some d =>
   rw[hu]at a;have f:d.isRow=true:=by cases d <;> first|(cases a; done)|rfl
   have:=run_loadVar_mid (P:=P) w g off T (aA n x).toList d i hu f (by rw[h]; exact k);rw[this,Array.toArray_toList]
theorem QM{T:TypeId}{g off i p m:Nat}{x:Nat->Value}{v:Value}(c:iU w g off m x)(a:Tg P T=true)(hi:i<m)(e:p=off+i)(f:x i=v):(loadVar T ⟨g,p,none⟩).run P w = .ok v w:=by
 subst e f;have b:=c i hi;unfold Tg at a
 cases hu:P.underlying T with
 | none=>rw[hu]at a; cases a
 | some d =>
   rw[hu]at a
   cases d <;> first
    | (cases a; done)
    | simp[loadVar,isAgg,underlying,hu,b]
def Nl(P:Program)(f:Nat->Value)(w:World)(r:ResultVar)(v:Value):Prop:=match r with
 | .tmp t=>f t=v
 | .cell a T => ∃ b,f a = .pointer (some b)/\(loadVar T b).run P w = .ok v w
theorem Nl.run{r:ResultVar}{v:Value}(h:Nl P f w r v):(rdF f r).run P w = .ok v w:=by
 cases r with
 | tmp t=>simp only[Nl]at h; simp[rdF,h]
 | cell a T=>obtain⟨d,b,c⟩:=h; simp[rdF,b,asAddr,c]
theorem rV{a:Func}{r:ResultVar}{v:Value}(hr:a.results = #[r])(h:Nl P f w r v):(BI a f).run P w = .ok v w:=by
 have:=h.run;unfold BI;rw[hr];simp only[List.mapM_toArray,List.mapM_cons,List.mapM_nil];simp[this]
theorem fQ{a:Func}{r s:ResultVar}{u v:Value}(hr:a.results = #[r,s])(h:Nl P f w r u)(b:Nl P f w s v):(BI a f).run P w = .ok (.tuple #[u,v]) w:=by
 have:=h.run;have:=b.run;unfold BI;rw[hr];simp only[List.mapM_toArray,List.mapM_cons,List.mapM_nil];simp[*]
end
end Fx
def Kv(ops:Array Oper)(a:Region.Mode)(l:Array Bool):Prop := ∀ j o,ops[j]? = some o->l.getD j false=true -> ∀ e∈o.after,Region.binds a e=true->l.getD e.on false=true
def reach(ops:Array Oper)(a:Region.Mode):Nat->Nat->Nat->Bool
 | 0,t,i=>t==i
 | n+1,t,i=>t==i || (match ops[t]? with|some o=>o.after.any (fun e=>Region.binds a e&&reach ops a n e.on i)|none=>false)
theorem lV(l:Array Bool)(i j:Nat):(l.setIfInBounds i true).getD j false=(if i=j/\j<l.size then true else l.getD j false):=by
 simp only[Array.getD_eq_getD_getElem?,Array.getElem?_setIfInBounds];by_cases h:i=j
 ·subst h;by_cases a:i<l.size
  ·simp[a]
  simp[a,Array.getElem?_eq_none (Nat.le_of_not_lt a)]
 simp[h]
theorem Kv.set{ops:Array Oper}{c:Region.Mode}{l:Array Bool}(h:Kv ops c l){i:Nat}(hi:i∈Region.ready c ops l):Kv ops c (l.setIfInBounds i true):=by
 obtain⟨_,m,k,g⟩:=mem_ready.1 hi;intro j o b a e f d;rw[lV];split
 ·rfl
 rw[lV]at a;split at a
 ·rename_i hij;obtain⟨rfl,_⟩:=hij;rw[k]at b;obtain rfl:=C_ b;exact g e f d
 exact h j o b a e f d
theorem Kv.start(ops:Array Oper)(b:Region.Mode)(n:Nat):Kv ops b (Array.replicate n false):=by
 intro j o _ a;rw[Array.getD_eq_getD_getElem?]at a;by_cases h:j<n
 ·simp[h]at a
 simp[h]at a
theorem Kv.reach{ops:Array Oper}{b:Region.Mode}{l:Array Bool}{i:Nat}(h:Kv ops b l) : ∀ n t,reach ops b n t i=true->l.getD t false=true->l.getD i false=true
 | 0,t,hr,ht=>by
   have e:t=i:=(by unfold YtcbedgfikejkoaaGreatDoor.reach at hr; simpa using hr);rw[<- e]; exact ht
 | n+1,t,hr,ht=>by
   unfold YtcbedgfikejkoaaGreatDoor.reach at hr;rw[Bool.or_eq_true]at hr
   rcases hr with hr|hr
   ·have e:t=i:=(by simpa using hr);rw[<- e]; exact ht
   ·cases ho:ops[t]? with
    | none=>simp[ho]at hr
    | some o =>
      simp only[ho]at hr;rw[Array.any_eq_true']at hr;obtain⟨e,c,a⟩:=hr;rw[T_]at a;exact Kv.reach h n e.on a.2 (h t o ho ht e c a.1)
theorem Tp{w w':World}{g:Nat}{c:Obj}(h:w.heap[g]? = some c)(a:Below w.heap.size w w'):w'.heap[g]? = some c :=
 (a.block g (t_.1 h).1).trans h
namespace Fx
abbrev Gh:=Nat->Nat × Nat
def rX(r:Gh)(k:Nat)(p:Nat × Nat):Gh:=fun j=>bif Nat.beq j k then p else r j
theorem pK(r:Gh)(k:Nat)(p:Nat × Nat):rX r k p k=p:=by unfold rX; rw[Nat.beq_refl]; rfl
theorem Jm{r:Gh}{k j:Nat}{p:Nat × Nat}(h:j<k):rX r k p j=r j:=by
 unfold rX;have:Nat.beq j k=false:=by
  cases hq:Nat.beq j k
  ·rfl
  ·exact N_ (B_ hq) (by omega)
 rw[this]; rfl
def opAt(ops:List Oper)(i:Nat):Oper:=ops.getD i default
def abn(s:Nat):Option Nat->Bool|none=>false|some d=>Nat.beq d s
def wR(s:Nat):List Oper->Nat->Option Nat
 | [],_=>none
 | o::l,i=>bif abn s o.dst then some i else wR s l (i+1)
def writer(ops:List Oper)(s:Nat):Option Nat:=wR s ops 0
def over(ops:List Oper)(f:Nat->Value)(v:Nat->Value)(a:Array Bool):Nat->Value:=fun s=>match writer ops s with|some i=>(if a.getD i false then v i else f s)|none=>f s
def full(ops:List Oper)(f:Nat->Value)(v:Nat->Value):Nat->Value:=fun s=>match writer ops s with|some i=>v i|none=>f s
def dL(o:Oper)(j:Nat):Bool:=o.after.any fun e=>Region.binds .any e&&Nat.beq e.on j
def mE(n:Nat)(ops:List Oper):Bool :=
 (List.range ops.length).all fun i =>
  let o:=opAt ops i
  (match o.dst with|none=>true|some d=>(match writer ops d with|some j=>Nat.beq j i|none=>false)&&Nat.blt d n) &&
  (o.op.operands.all fun x=>match x with | .tmp t=>(match writer ops t with|some j=>dL o j|none=>true)|_=>true) &&
  (match o.guard with|none=>true|some (j,_)=>dL o j)&&(o.after.all fun e => !Region.binds .any e || Nat.blt e.on i)
theorem yc{s:Nat} : ∀ {l:List Oper} {k i:Nat},wR s l k=some i->k<=i/\(opAt l (i-k)).dst=some s/\i-k<l.length
 | [],_,_,h=>by cases h
 | o::l,k,i,h=>by
   unfold wR at h
   cases hd:abn s o.dst
   ·rw[hd]at h;have:=yc (l:=l) (k:=k+1) (i:=i) h;refine⟨by omega,?_,by simp; omega⟩;have e:i-k=(i-(k+1))+1:=(by omega);rw[e];exact this.2.1
   ·rw[hd]at h;have:k=i:=(by simpa using h);subst this;refine⟨A_ _,?_,by simp⟩;simp only[Nat.sub_self,opAt,List.getD_cons_zero]
    cases hq:o.dst with
    | none=>rw[hq]at hd; cases hd
    | some d=>rw[hq]at hd; rw[B_ hd]
theorem nJ{ops:List Oper}{s i:Nat}(h:writer ops s=some i):(opAt ops i).dst=some s/\i<ops.length:=by
 have:=yc h; simpa using this.2
section
variable {ops:List Oper} {f:Nat->Value} {n:Nat}
theorem fI(h:mE n ops=true){i:Nat}(hi:i<ops.length) :
 (∀ d,(opAt ops i).dst=some d->writer ops d=some i/\d<n)/\(∀ t j,.tmp t∈(opAt ops i).op.operands->writer ops t=some j->dL (opAt ops i) j=true)/\(∀ j b,(opAt ops i).guard=some (j,b)->dL (opAt ops i) j=true)/\(∀ j,dL (opAt ops i) j=true->j<i):=by
 unfold mE at h;rw[List.all_eq_true]at h;have:=h i (by simpa using hi);simp only[T_]at this;obtain⟨⟨⟨a,g⟩,h3⟩,h4⟩:=this;refine⟨fun d k => ?_,fun t j o c => ?_,fun j b m => ?_,fun j c => ?_⟩
 ·rw[k]at a;simp only[T_]at a
  cases hw:writer ops d with
  | none=>rw[hw]at a; simp at a
  | some j=>rw[hw]at a; simp only at a; rw[B_ a.1]; exact⟨rfl,by simpa [Nat.blt_eq] using a.2⟩
 ·rw[Array.all_eq_true']at g;have:=g _ o;simp only[c]at this;exact this
 ·rw[m]at h3; exact h3
 unfold dL at c;rw[Array.any_eq_true']at c;obtain⟨e,l,f⟩:=c;rw[T_]at f;rw[Array.all_eq_true']at h4;have:=h4 e l;rw[f.1]at this;rw[<- B_ f.2]
 simpa [Nat.blt_eq] using this
theorem set_self{a:Array Bool}{i:Nat}(h:i<a.size):(a.setIfInBounds i true).getD i false=true:=by rw[lV,d_ ⟨rfl,h⟩]
theorem kL{a:Array Bool}{i j:Nat}(h:i≠j):(a.setIfInBounds i true).getD j false=a.getD j false:=by rw[lV,b_ (fun q=>h q.1)]
theorem BN(h:mE n ops=true){v:Nat->Value}{a:Array Bool}(k:a.size=ops.length){i:Nat}(hi:i<ops.length):put (over ops f v a) (opAt ops i).dst (v i)=over ops f v (a.setIfInBounds i true):=by
 have g:=(fI h hi).1
 funext s
 unfold over
 cases hd:(opAt ops i).dst with
 | none =>
   simp only[put]
   cases hw:writer ops s with
   | none=>rfl
   | some j =>
     simp only;by_cases e:i=j
     ·subst e; rw[(nJ hw).1]at hd; cases hd
     ·rw[kL e]
 | some d =>
   simp only[put];by_cases e:s=d
   ·subst e;rw[Nat.beq_refl,(g s hd).1];simp only[cond_true];rw[set_self (by omega),d_ rfl]
   ·have c:Nat.beq s d=false:=by
     cases hq:Nat.beq s d
     ·rfl
     ·exact N_ (B_ hq) e
    rw[c];simp only[cond_false]
    cases hw:writer ops s with
    | none=>rfl
    | some j =>
      simp only;by_cases b:i=j
      ·subst b; rw[(nJ hw).1]at hd; exact N_ (C_ hd) e
      ·rw[kL b]
theorem fV{i:Nat}{d:Array Bool}(hr:i∈Region.ready .any ops.toArray d):d.getD i false=false/\i<ops.length/\ops.toArray[i]? = some (opAt ops i) /\ ∀ j,dL (opAt ops i) j=true->d.getD j false=true:=by
 obtain⟨g,o,b,h⟩:=mem_ready.1 hr;have l:i<ops.length:=by
  have:=(t_.1 b).1; simpa using this
 have f:opAt ops i=o:=by
  unfold opAt;rw[List.getElem?_toArray]at b;rw[r_,b]; rfl
 refine⟨getD_both g,l,by rw[f]; exact b,fun j a => ?_⟩;rw[f]at a;unfold dL at a;rw[Array.any_eq_true']at a;obtain⟨e,k,c⟩:=a;rw[T_]at c;rw[<- B_ c.2];exact h e k c.1
theorem OW(h:mE n ops=true){v:Nat->Value}{a:Array Bool}{i:Nat}(hr:i∈Region.ready .any ops.toArray a) : ∀ x∈(opAt ops i).op.operands,ev (over ops f v a) x=ev (full ops f v) x:=by
 obtain⟨_,c,_,b⟩:=fV hr;intro x d
 cases x with
 | tmp t =>
   show over ops f v a t=full ops f v t;unfold over full
   cases hw:writer ops t with
   | none=>rfl
   | some j=>simp only; rw[d_ (b j ((fI h c).2.1 t j d hw))]
 | _=>rfl
theorem DU(h:mE n ops=true){v:Nat->Value}{a:Array Bool}{i:Nat}(hr:i∈Region.ready .any ops.toArray a):Region.wanted (opAt ops i) (yf ops.toArray (over ops f v a))=Region.wanted (opAt ops i) (yf ops.toArray (full ops f v)):=by
 obtain⟨_,k,_,c⟩:=fV hr;unfold Region.wanted
 cases hg:(opAt ops i).guard with
 | none=>rfl
 | some jb =>
   obtain⟨j,b⟩:=jb;simp only;have m:=c j ((fI h k).2.2.1 j b hg)
   congr 1
   unfold yf
   cases hd:(ops.toArray[j]?).bind (·.dst)with
   | none=>rfl
   | some d =>
     simp only;have l:j<ops.length:=by
      cases hq:ops.toArray[j]? with
      | none=>rw[hq]at hd; cases hd
      | some o=>have:=(t_.1 hq).1; simpa using this
     have g:(opAt ops j).dst=some d:=by
      unfold opAt;rw[List.getElem?_toArray]at hd;rw[r_]
      cases hq:ops[j]? with
      | none=>rw[hq]at hd; cases hd
      | some o=>rw[hq]at hd; exact hd
     have p:=((fI h l).1 d g).1;have e:over ops f v a d=full ops f v d:=(by unfold over full; rw[p]; simp only; rw[d_ m]);rw[e]
end
def yO(ops:List Oper):Nat->List Nat->Nat->Bool
 | t,[],i=>Nat.beq t i
 | t,j::l,i=>dL (opAt ops t) j&&yO ops j l i
theorem jw{ops:List Oper} : ∀ {p:List Nat} {t i:Nat},yO ops t p i=true -> ∃ m,reach ops.toArray .any m t i=true
 | [],t,i,h=>⟨0,by unfold reach; rw[B_ h]; simp⟩
 | j::l,t,i,h=>by
   unfold yO at h;rw[T_]at h;obtain⟨m,d⟩:=jw h.2;refine⟨m+1,?_⟩;unfold reach;rw[Bool.or_eq_true];right;have b:=h.1;unfold dL at b;rw[Array.any_eq_true']at b;obtain⟨e,a,c⟩:=b;rw[T_]at c;have f:ops.toArray[t]? = some (opAt ops t):=by
    unfold opAt at a ⊢;rw[List.getElem?_toArray,r_]
    cases hq:ops[t]? with
    | none =>
      rw[r_,hq]at a;exact N_ a (by simp[show(default:Oper).after = #[]from rfl])
    | some o=>rfl
   rw[f];simp only;rw[Array.any_eq_true'];exact⟨e,a,by rw[c.1,B_ c.2,d]; rfl⟩
abbrev Span:=Nat × Nat × List Nat × List Nat
def jm:Span:=(0,0,[],[])
def Yz(ops:List Oper)(a:List Nat)(i b:Nat)(p:List Nat):Bool:=match b with|0=>true|k+1=>(match a[k]? with|some e=>yO ops i p e|none=>false)
def acN(ops:List Oper)(a:List Nat)(i hi:Nat)(p:List Nat):Bool:=match a[hi]? with|some e=>yO ops e p i|none=>true
def wS(ops:List Oper):List Nat->Bool
 | []=>true
 | [_]=>true
 | a::b::l=>reach ops.toArray .any 5 b a && !Nat.beq b a&&wS ops (b::l)
def Fv(ops:List Oper)(b:List Nat)(a:List Span):Bool:=Nat.beq a.length ops.length&&(List.range ops.length).all fun i=>b.contains i || (Yz ops b i (a.getD i jm).1 (a.getD i jm).2.2.1&&acN ops b i (a.getD i jm).2.1 (a.getD i jm).2.2.2)
section
variable {P:Program} {n:Nat} {Q:Post} {f:Nat->Value} {w:World} {ops:List Oper}
def QOk(P:Program)(ops:List Oper)(f:Nat->Value)(vals:Gh->Nat->Value)(S:Nat->Gh->World->Prop)(i a hi:Nat):Prop :=
 ∀ r k w,a<=k->k<=hi->S k r w->if Region.wanted (opAt ops i) (yf ops.toArray (full ops f (vals r)))then Oper.quietUpon P (S k r) w (vals r i) ((execOp (ev (full ops f (vals r))) (opAt ops i)).run P w)else vals r i=undef
def EOk(P:Program)(ops:List Oper)(f:Nat->Value)(vals:Gh->Nat->Value)(S:Nat->Gh->World->Prop)(b:Exit->Act->World->Prop)(i k:Nat):Prop :=
 ∀ r w (a:Act) (K:Act->World->Prop),S k r w->(∀ x∈(opAt ops i).op.operands,a.eval x=ev (full ops f (vals r)) x)->(∀ p w',S (k+1) (rX r k p) w'->K (a.put (opAt ops i).dst (vals (rX r k p) i)) w')->(opAt ops i).wp P a w K b
def DOk(vals:Gh->Nat->Value)(i d:Nat):Prop := ∀ k r p,d<=k->vals (rX r k p) i=vals r i
theorem W.drawn{id:Nat}(t:List Nat)(E:List Span)(vals:Gh->Nat->Value)(S:Nat->Gh->World->Prop)(hm:P.follows .mixedOrders=true)(X:mE n ops=true)(hsel:Region.noSelect ops.toArray=true)(hch:wS ops t=true)(hsp:Fv ops t E=true)
 (hes:t.all (fun e=>Nat.blt e ops.length&&(match (opAt ops e).guard with|none=>true|_=>false))=true) (hnd:t.Nodup)
 (h0 : ∀ w1,Below w.heap.size w w1->w1.heap.size=w.heap.size -> ∃ r,S 0 r w1)
 (M : ∀ i,i<ops.length->t.contains i=false->QOk P ops f vals S i (E.getD i jm).1 (E.getD i jm).2.1)
 (he : ∀ k i,t[k]? = some i->EOk P ops f vals S (lift n Q) i k)
 (hdq : ∀ i,i<ops.length->t.contains i=false->DOk vals i (E.getD i jm).1)
 (hde : ∀ k i,t[k]? = some i->DOk vals i (k+1))
 (h : ∀ r w',S t.length r w'->Q .normal (full ops f (vals r)) w'):W P n (.region id ops.toArray true) Q f w:=fun a O=>by
 refine wp_region_any hm ?_;have abo : ∀ i,i<ops.length->t.contains i=false->Yz ops t i (E.getD i jm).1 (E.getD i jm).2.2.1=true/\acN ops t i (E.getD i jm).2.1 (E.getD i jm).2.2.2=true:=fun i y hne=>by
  unfold Fv at hsp;rw[T_,List.all_eq_true]at hsp;have:=hsp.2 i (by simpa using y);rw[hne,Bool.false_or,T_]at this;exact this
 have Tq : ∀ k i,t[k]? = some i->i<ops.length/\(opAt ops i).guard=none:=fun k i H=>by
  rw[List.all_eq_true]at hes;have:=hes i (List.mem_of_getElem? H);rw[T_]at this;refine⟨by simpa [Nat.blt_eq] using this.1,?_⟩
  cases hg:(opAt ops i).guard with
  | none=>rfl
  | some _=>rw[hg]at this; exact N_ this.2 (by simp)
 have key : ∀(T:Nat) (o:Array Bool) (a:Act) (w1:World) (r:Gh) (k:Nat),o.size=ops.length->Kv ops.toArray .any o->(∀ j e,t[j]? = some e->o.getD e false=decide (j<k))->k<=t.length->Fr a n (over ops f (vals r) o)->S k r w1 ->
  (∀ R:List Nat,R=(List.range ops.length).filter (fun i => !o.getD i false)->R.length=T)->wpAny P .any ops.toArray (lift n Q) T o a w1:=by
  intro T
  induction T with
  | zero =>
    intro o a w1 r k Y El I H O U hfl;have L : ∀ i,i<ops.length->o.getD i false=true:=fun i y=>by
     have C:=List.eq_nil_of_length_eq_zero (hfl _ rfl)
     cases M:o.getD i false
     ·have:i∈(List.range ops.length).filter (fun i => !o.getD i false):=(by simp only[List.mem_filter,P_]; exact⟨y,by rw[M]; rfl⟩);rw[C]at this; cases this
     ·rfl
    have hkk:k=t.length:=by
     by_cases hlt:k<t.length
     ·have:=I k t[k] (o_ hlt);rw[L _ (Tq k _ (o_ hlt)).1]at this;simp at this
     ·omega
    have hnone:Region.ready .any ops.toArray o = []:=by
     cases M:Region.ready .any ops.toArray o with
     | nil=>rfl
     | cons i l =>
       have G:i∈Region.ready .any ops.toArray o:=(by rw[M]; exact List.mem_cons_self);obtain⟨C,K,_,_⟩:=fV G;rw[L i K]at C; cases C
    refine⟨hnone,full ops f (vals r),?_,h r w1 (hkk ▸ U)⟩;have:over ops f (vals r) o=full ops f (vals r):=by
     funext s
     unfold over full
     cases hw:writer ops s with
     | none=>rfl
     | some i=>simp only; rw[d_ (L i (nJ hw).2)]
    exact this ▸ O
  | succ T ih =>
    intro o a w1 r k Y El I H O U hfl;have hcount : ∀ i,i∈Region.ready .any ops.toArray o -> ∀ R:List Nat,R=(List.range ops.length).filter (fun j => !(o.setIfInBounds i true).getD j false)->R.length=T:=by
     intro i G R acP;obtain⟨C,K,_,_⟩:=fV G;subst acP;have e:(List.range ops.length).filter (fun j => !(o.setIfInBounds i true).getD j false)=((List.range ops.length).filter (fun i => !o.getD i false)).erase i:=by
      rw[List.Nodup.erase_eq_filter (List.Nodup.sublist List.filter_sublist List.nodup_range),List.filter_filter];apply List.filter_congr;intro j F;by_cases e:i=j
      ·subst e; rw[set_self (by rw[Y]; exact K)]; simp
      ·rw[kL e];have:(j != i)=true:=(by simp; exact fun q=>e q.symm);rw[this,Bool.true_and]
     rw[e,List.length_erase_of_mem (by simp only[List.mem_filter,P_]; exact⟨K,by rw[C]; rfl⟩),hfl _ rfl];rfl
    refine⟨fun hnone => ?_,fun i G => ?_⟩
    ·-- something must be ready: the first that is not o
     exfalso;have hlen:=hfl _ rfl;exact(by
      have : ∃ i,i∈Region.ready .any ops.toArray o:=by
       obtain⟨q,M⟩ : ∃ q,q∈(List.range ops.length).filter (fun i => !o.getD i false):=by
        cases hfe:(List.range ops.length).filter (fun i => !o.getD i false)with
        | nil=>rw[hfe]at hlen; cases hlen
        | cons q l=>exact⟨q,List.mem_cons_self⟩
       have Nn : ∀ m q,q<=m->q<ops.length->o.getD q false=false -> ∃ i,i<ops.length/\o.getD i false=false /\ ∀ j,j<i->o.getD j false=true:=by
        intro m
        induction m with
        | zero=>intro q hm D hq2; exact⟨q,D,hq2,fun j F=>by omega⟩
        | succ m ihm =>
          intro q hm D hq2;by_cases L : ∀ j,j<q->o.getD j false=true
          ·exact⟨q,D,hq2,L⟩
          ·obtain⟨j,F⟩:=Classical.not_forall.1 L;obtain⟨hj1,hj2⟩:=Classical.not_imp.1 F;exact ihm j (by omega) (by omega) (by simpa using hj2)
       simp only[List.mem_filter,P_]at M;obtain⟨i,y,hi1,hi2⟩:=Nn q q (A_ _) M.1 (by simpa using M.2);refine⟨i,mem_ready.2 ⟨getD_in (by rw[Y]; exact y) hi1,opAt ops i,?_,fun e he hb=>hi2 e.on ((fI X y).2.2.2 e.on ?_)⟩⟩
       ·unfold opAt; rw[List.getElem?_toArray,r_,o_ y]; rfl
       ·unfold dL; rw[Array.any_eq_true']; exact⟨e,he,by rw[hb,Nat.beq_refl]; rfl⟩
      obtain⟨i,y⟩:=this;rw[hnone]at y; cases y)
    ·obtain⟨C,y,hop,L⟩:=fV G;have hsz':(o.setIfInBounds i true).size=ops.length:=(by simpa using Y);have KG:=El.set G;have hev:=OW (f:=f) X (v:=vals r) G;have hae : ∀ x∈(opAt ops i).op.operands,a.eval x=ev (full ops f (vals r)) x:=fun x hx=>by rw[O.ev]; exact hev x hx
     have hex:execOp a.eval (opAt ops i)=execOp (ev (full ops f (vals r))) (opAt ops i):=execOp_congr _ (Region.noSelect_spec hsel i _ · · hop) hae;have hwant:Region.wanted (opAt ops i) (yielded ops.toArray a.tmps)=Region.wanted (opAt ops i) (yf ops.toArray (full ops f (vals r))):=(by rw[O.yf]; exact DU X G);unfold wpOp;simp only[hop];rw[hwant];by_cases hne:t.contains i=true
     ·-- an effect
      have hmem:i∈t:=(by simpa using hne);obtain⟨j,F⟩:=List.getElem?_of_mem hmem;have hg:=(Tq j i F).2;have hjk:j=k:=by
       have h3:=I j i F;rw[C]at h3;have h4 : ¬ j<k:=(by simpa using h3.symm);by_cases hlt:k<j
       ·-- the one ahead of it is o
        exfalso;obtain⟨N,rfl⟩ : ∃ N,j=N+1:=⟨j-1,by omega⟩;have hj':N<t.length:=(by have:=(List.getElem?_eq_some_iff.1 F).1; omega);have acR : ∀ {l:List Nat},wS ops l=true -> ∀ k e Z,l[k]? = some Z->l[k+1]? = some e->reach ops.toArray .any 5 e Z=true/\e≠Z:=by
         intro l
         induction l with
         | nil=>intro _ k e Z h _; simp at h
         | cons a l ih2 =>
           intro H k e Z C K
           cases l with
           | nil=>cases k <;> simp at K
           | cons b l =>
             unfold wS at H;simp only[T_]at H
             cases k with
             | zero =>
               simp at C K; subst C K;refine⟨H.1.1,fun e => ?_⟩;rw[e,Nat.beq_refl]at H; exact N_ H.1.2 (by simp)
             | succ k=>exact ih2 H.2 k e Z (by simpa using C) (by simpa using K)
        obtain⟨B,hne1⟩:=acR hch N i t[N] (o_ hj') F;have hl:o.getD t[N] false=true:=by
         unfold reach at B;rw[Bool.or_eq_true]at B
         rcases B with B|B
         ·exact N_ (by simpa using B) hne1
         ·rw[hop]at B;simp only at B;rw[Array.any_eq_true']at B;obtain⟨e,he1,V⟩:=B;rw[T_]at V;refine El.reach _ _ V.2<|L e.on ?_;unfold dL;rw[Array.any_eq_true'];exact⟨e,he1,by rw[V.1,Nat.beq_refl]; rfl⟩
        have h5:=I N t[N] (o_ hj');rw[hl]at h5;have:N<k:=(by simpa using h5.symm);omega
       ·omega
      subst hjk;have hjl:j<t.length:=(List.getElem?_eq_some_iff.1 F).1;rw[d_ (by unfold Region.wanted; rw[hg])];refine .inl<|he j i F r w1 a _ U hae fun p w' hS' => ?_;have hsame:over ops f (vals r) o=over ops f (vals (rX r j p)) o:=by
       funext s
       unfold over
       cases hw:writer ops s with
       | none=>rfl
       | some q =>
         simp only
         cases hlq:o.getD q false
         ·rfl
         ·simp only[if_true];by_cases J:t.contains q=true
          ·obtain⟨jq,hjq⟩:=List.getElem?_of_mem (show q∈t by simpa using J);have h6:=I jq q hjq;rw[hlq]at h6;have h7:jq<j:=(by simpa using h6.symm);exact(hde jq q hjq j r p (by omega)).symm
          ·have ahx:t.contains q=false:=(by simpa using J);have hqi:=(nJ hw).2;refine(hdq q hqi ahx j r p ?_).symm;have A:=(abo q hqi ahx).1;unfold Yz at A;split at A
           ·rename_i hz; rw[hz]; exact L_ _
           ·rename_i k' hz;rw[hz]
            cases hek:t[k']? with
            | none=>rw[hek]at A; cases A
            | some e =>
              rw[hek]at A;obtain⟨mm,A⟩:=jw A;have h8:=El.reach _ _ A hlq;rw[I k' e hek]at h8;have:k'<j:=(by simpa using h8);omega
      refine ih _ _ _ (rX r j p) (j+1) hsz' KG ?_ hjl ?_ hS' (hcount i G)
      ·intro q e J;by_cases eq:i=e
       ·subst eq;have:q=j:=by
         have h9:=(List.getElem?_eq_some_iff.1 J);have h10:=(List.getElem?_eq_some_iff.1 F);exact(List.getElem_inj hnd).1 (h9.2.trans h10.2.symm)
        rw[set_self (by rw[Y]; exact y),this];simp
       ·rw[kL eq,I q e J];have:q≠j:=fun z=>by subst z; rw[F]at J; exact eq (C_ J)
        by_cases c:q<j
        ·rw[f_ c,f_ (by omega)]
        ·rw[g_ c,g_ (by omega)]
      ·have:=(hsame ▸ O).put (d:=(opAt ops i).dst) (by
        cases hd:(opAt ops i).dst with
        | none=>rfl
        | some d=>simp[inn,Nat.blt_eq,((fI X y).1 d hd).2]) (vals (rX r j p) i)
       rwa [BN X Y y]at this
     ·have hne':t.contains i=false:=(by simpa using hne);obtain⟨A,hhi⟩:=abo i y hne';have hl1:(E.getD i jm).1<=k:=by
       unfold Yz at A;split at A
       ·rename_i hz; rw[hz]; exact L_ _
       ·rename_i k' hz;rw[hz]
        cases hek:t[k']? with
        | none=>rw[hek]at A; cases A
        | some e =>
          rw[hek]at A;have hne2:i≠e:=fun q=>by subst q; exact N_ (show t.contains i=true by simpa using List.mem_of_getElem? hek) hne
          have hl:o.getD e false=true:=by
           obtain⟨mm,A⟩:=jw A
           cases mm with
           | zero=>unfold reach at A; exact N_ (by simpa using A) hne2
           | succ mm =>
           unfold reach at A;rw[Bool.or_eq_true]at A
           rcases A with B|B
           ·exact N_ (by simpa using B) hne2
           ·rw[hop]at B;simp only at B;rw[Array.any_eq_true']at B;obtain⟨e2,he1,V⟩:=B;rw[T_]at V;refine El.reach _ _ V.2<|L e2.on ?_;unfold dL;rw[Array.any_eq_true'];exact⟨e2,he1,by rw[V.1,Nat.beq_refl]; rfl⟩
          rw[I k' e hek]at hl;have:k'<k:=(by simpa using hl);omega
      have hl2:k<=(E.getD i jm).2.1\/t.length<=(E.getD i jm).2.1:=by
       unfold acN at hhi
       cases hek:t[(E.getD i jm).2.1]? with
       | none=>right; exact List.getElem?_eq_none_iff.1 hek
       | some e =>
         left;rw[hek]at hhi;have h3:=I _ e hek
         cases hle:o.getD e false
         ·rw[hle]at h3;have : ¬ (E.getD i jm).2.1<k:=(by simpa using h3.symm);omega
         ·obtain⟨mm,hhi⟩:=jw hhi;have:=El.reach _ _ hhi hle;rw[C]at this; cases this
      have D:=M i y hne' r k w1 hl1 (by rcases hl2 with q|q <;> omega) U
      have hfin : ∀ w',S k r w'->wpAny P .any ops.toArray (lift n Q) T (o.setIfInBounds i true) (a.put (opAt ops i).dst (vals r i)) w':=fun w' hS'=>by
       refine ih _ _ _ r k hsz' KG ?_ H ?_ hS' (hcount i G)
       ·intro q e J;have:i≠e:=fun z=>by subst z; exact N_ (show t.contains i=true by simpa using List.mem_of_getElem? J) hne
        rw[kL this];exact I q e J
       ·have:=O.put (d:=(opAt ops i).dst) (by
         cases hd:(opAt ops i).dst with
         | none=>rfl
         | some d=>simp[inn,Nat.blt_eq,((fI X y).1 d hd).2]) (vals r i)
        rwa [BN X Y y]at this
      by_cases hwt:Region.wanted (opAt ops i) (yf ops.toArray (full ops f (vals r)))=true
      ·rw[d_ hwt]at D ⊢;refine .inl ?_;unfold Oper.wp;rw[hex];generalize (execOp (ev (full ops f (vals r))) (opAt ops i)).run P w1=res at D
       cases res with
       | ok nx w' =>
         cases nx <;> simp only[Oper.quietUpon]at D <;> simp only[Oper.upon]
         case value u=>obtain⟨e1,e2⟩:=D; subst e1 e2; exact hfin _ U
         case skip=>obtain⟨e1,e2⟩:=D; subst e1; rw[<- e2]; exact hfin _ U
         case enter g args =>
          obtain⟨e1,hc⟩:=D;subst e1;exact hc.mono fun e w'' ⟨he',hw''⟩=>by subst he'; exact hfin _ hw''
       | halt x w'=>simp only[Oper.quietUpon]at D
      ·rw[b_ hwt]at D ⊢;rw[<- D];exact hfin _ U
 obtain⟨r,G⟩:=h0 { w with drawn:=w.drawn+1 } (Below.refl _ _).drew rfl;have hstart:over ops f (vals r) (Array.replicate ops.toArray.size false)=f:=by
  funext s
  unfold over
  cases writer ops s with
  | none=>rfl
  | some i =>
    simp only;rw[show(Array.replicate ops.toArray.size false).getD i false=false from by
     rw[Array.getD_eq_getD_getElem?];by_cases y:i<ops.length
     ·simp[y]
     ·simp[y]]
    simp
 have hrep : ∀ i,(Array.replicate ops.toArray.size false).getD i false=false:=fun i=>by
  rw[Array.getD_eq_getD_getElem?];by_cases y:i<ops.length
  ·simp[y]
  ·simp[y]
 have:=key ops.toArray.size (Array.replicate ops.toArray.size false) a { w with drawn:=w.drawn+1 } r 0 (by simp) (Kv.start _ _ _) (fun j e _=>by rw[hrep]; simp) (L_ _) (by rw[hstart]; exact O) G (fun R hfl=>by
  subst hfl;have:(List.range ops.length).filter (fun i => !(Array.replicate ops.toArray.size false).getD i false)=List.range ops.length:=List.filter_eq_self.2 fun i _=>by rw[hrep]; rfl
  rw[this]; simp)
 exact this
end
end Fx
namespace Fx
section
variable {P:Program} {n:Nat} {Q:Post} {f:Nat->Value} {w:World} {ops:List Oper}
def Jo(a:Nat)(vs:Array Value):Gh->Nat->Value:=fun r i=>bif Nat.beq i a then .pointer (some ⟨(r 0).1,0,none⟩)else vs.getD i undef
def YA(w:World)(m:Nat)(z y:Nat->Value)(T:TypeId):Nat->Gh->World->Prop:=fun k r w1=>Below w.heap.size w w1/\(match k with|0=>True|1=>w.heap.size<=(r 0).1/\aQ w1 (r 0).1 m z T|_=>w.heap.size<=(r 0).1/\aQ w1 (r 0).1 m y T)
theorem YA.up{m:Nat}{z y:Nat->Value}{T:TypeId}{k:Nat}{r:Gh}{w1 w2:World}(h:YA w m z y T k r w1)(b:Below w1.heap.size w1 w2):YA w m z y T k r w2:=by
 refine⟨M6 h.1 b,?_⟩;have a:=h.2
 cases k with
 | zero=>trivial
 | succ k=>cases k with
   | zero=>exact⟨a.1,a.2.cu (Sb b) (u_ a.2.lt)⟩
   | succ k=>exact⟨a.1,a.2.cu (Sb b) (u_ a.2.lt)⟩
def QB(P:Program)(ρ:Operand->Value)(o:Oper)(w:World)(v:Value):Prop := ∀ w1,Below w.heap.size w w1->(execOp ρ o).run P w1 = .ok (.value v) w1 \/ ∃ g a,(execOp ρ o).run P w1 = .ok (.enter g a) w1/\Calls P g a w1 fun e w2=>e = .returned v/\Below w1.heap.size w1 w2
def Tt(P:Program)(a:Nat->Value)(ops:Array Oper)(w:World)(b c:Nat)(vs:Array Value):List Oper->Nat->Prop
 | [],_=>True
 | o::l,i=>(Nat.beq i b=true\/Nat.beq i c=true\/(if Region.wanted o (yf ops a)then QB P (ev a) o w (vs.getD i undef)else vs.getD i undef=undef))/\Tt P a ops w b c vs l (i+1)
theorem KH{a:Nat->Value}{c:Array Oper}{b d:Nat}{vs:Array Value} : ∀ {l:List Oper} {k:Nat},Tt P a c w b d vs l k -> ∀ i,i<l.length->(k+i=b\/k+i=d\/(if Region.wanted (opAt l i) (yf c a)then QB P (ev a) (opAt l i) w (vs.getD (k+i) undef)else vs.getD (k+i) undef=undef))
 | [],_,_,i,hi=>N_ hi (by simp)
 | o::l,k,h,0,_=>by
   rcases h.1 with h1|h1|h1
   ·exact .inl (B_ h1)
   ·exact .inr (.inl (B_ h1))
   ·exact .inr (.inr h1)
 | o::l,k,h,i+1,hi=>by
   have:=KH h.2 i (by simpa using hi)
   rwa [show k+1+i=k+(i+1) by omega]at this
def Np(ops:List Oper)(f:Nat->Value)(a:Nat)(vs:Array Value)(g:Nat):Nat->Value:=full ops f (fun i=>bif Nat.beq i a then .pointer (some ⟨g,0,none⟩)else vs.getD i undef)
theorem qZ{id:Nat}{T T':TypeId}{a v:Operand}{m:Nat}{z y:Nat->Value}{u:Value}(c d:Nat)(Z:List Span)(vs:Array Value)(hm:P.follows .mixedOrders=true)(hok:mE n ops=true)(hsel:Region.noSelect ops.toArray=true)(x:wS ops [c,d]=true)(hsp:Fv ops [c,d] Z=true)
 (hes : [c,d].all (fun e=>Nat.blt e ops.length&&(match (opAt ops e).guard with|none=>true|_=>false))=true)
 (hia:(opAt ops c).op = .alloc T) (hz:((P.info? T).bind (·.zero)).map (·.cells)=some (aA m z))
 (F:(opAt ops d).op = .store T' a v) (V:(opAt ops d).dst=none) (X:(P.info? T').map (·.size)=some m) (ha : ∀ g,ev (Np ops f c vs g) a = .pointer (some ⟨g,0,none⟩)) (hv : ∀ g,ev (Np ops f c vs g) v=u) (hu:u.cells=aA m y) (h1 : ∀ j,j<m->(y j).oneCell'=true) (hvs:vs.getD d undef=undef)
 (l : ∀ g,Tt P (Np ops f c vs g) ops.toArray w c d vs ops 0)
 (h : ∀ g w' G,G=Np ops f c vs g->w.heap.size<=g->aQ w' g m y T->Below w.heap.size w w'->Q .normal G w'):W P n (.region id ops.toArray true) Q f w:=by
 have U:c≠d:=by
  unfold wS at x;simp only[T_]at x;intro e; subst e; rw[Nat.beq_refl]at x; exact N_ x.1.2 (by simp)
 have hval : ∀ r i,Jo c vs r i=(fun i=>bif Nat.beq i c then Value.pointer (some ⟨(r 0).1,0,none⟩)else vs.getD i undef) i:=fun _ _=>rfl;have M:Nat.beq c c=true:=Nat.beq_refl _;have amY:Nat.beq d c=false:=by
  cases l:Nat.beq d c
  ·rfl
  ·exact N_ (B_ l).symm U
 refine W.drawn [c,d] Z (Jo c vs) (YA w m z y T) hm hok hsel x hsp hes (by simp[U]) (fun w1 t _=>⟨fun _=>(0,0),t,trivial⟩) ?_ ?_ ?_ ?_ ?_
 ·intro i O C r k w1 _ _ o;have D:i≠c/\i≠d:=by simpa using C
  have t:Nat.beq i c=false:=by
   cases l:Nat.beq i c
   ·rfl
   ·exact N_ (B_ l) D.1
  have hv':Jo c vs r i=vs.getD i undef:=by unfold Jo; rw[t]; rfl
  rcases KH (l (r 0).1) i O with h2|h2|h2
  ·exact N_ h2 (by omega)
  ·exact N_ h2 (by omega)
  rw[H_]at h2;have hff:full ops f (Jo c vs r)=Np ops f c vs (r 0).1:=rfl;rw[hff,hv'];by_cases Y:Region.wanted (opAt ops i) (yf ops.toArray (Np ops f c vs (r 0).1))=true
  ·rw[d_ Y]at h2 ⊢
   rcases h2 w1 o.1 with h3|⟨g,args,h3,h4⟩
   ·rw[h3]; exact⟨rfl,rfl⟩
   rw[h3]; exact⟨rfl,h4.mono fun e w2 ⟨B,hb2⟩=>⟨B,o.up hb2⟩⟩
  rw[b_ Y]at h2 ⊢; exact h2
 ·intro k i s
  cases k with
  | zero =>
    simp at s; subst s;intro r w1 b K o t A;obtain⟨zz,hz1,hz2⟩:=Option.map_eq_some_iff.1 hz;obtain⟨ti,hi1,hz3⟩:=Option.bind_eq_some_iff.1 hz1;have E:(execOp b.eval (opAt ops c)).run P w1 = .ok (.value (.pointer (some ⟨w1.heap.size,0,none⟩))) (w1.alloc (.cells zz.cells T)):=by
     unfold execOp;simp[hia,Instr.alloc,zeroValue,typeInfo,hi1,hz3,newVar,newRow]
    unfold Oper.wp;rw[E];have:=A (w1.heap.size,0) (w1.alloc (.cells zz.cells T)) ⟨M6 o.1 (Stp.alloc _ _).old,o.1.size,by
     show(w1.alloc _).heap[w1.heap.size]? = _;rw[alloc_at,d_ rfl,hz2]⟩
    unfold Jo at this;rw[M,pK]at this;exact this
  | succ k =>
    cases k with
    | zero =>
      simp at s; subst s;intro r w1 b K o t A;obtain⟨J,L,hS3⟩:=o;have ea:b.eval a = .pointer (some ⟨(r 0).1,0,none⟩):=(t a (by rw[F]; simp[Op.operands])).trans (ha (r 0).1);have ev':b.eval v=u:=(t v (by rw[F]; simp[Op.operands])).trans (hv (r 0).1);have N:w1.heap[(r 0).1]? = some (.cells (aA m z) T (0,0)):=hS3;have hall:(aA m y).all (·.oneCell')=true:=by
       rw[Array.all_eq_true_iff_forall_mem];intro q hqm;obtain⟨j,R,B⟩:=Array.getElem_of_mem hqm;have S:j<m:=(by simpa [cB] using R);have H:=gM y S;rw[Array.getElem?_eq_getElem R,B]at H;rw[C_ H]; exact h1 j S
      have amZ:(storeVar T' ⟨(r 0).1,0,none⟩ u).run P w1 = .ok () (w1.setRow (r 0).1 (aA m y)):=by
       have I:=run_storeCells_at (P:=P) (r 0).1 0 T (aA m y).toList 0 (aA m z) w1 N (by simp[cB]) (fun q l=>(Array.all_eq_true_iff_forall_mem.1 hall) q (by simpa using l));have h7:((aA m z).toList.take (0+0)++(aA m y).toList++(aA m z).toList.drop (0+0+(aA m y).toList.length)).toArray=aA m y:=by
        rw[List.drop_eq_nil_of_le (by simp[cB])]; simp
       rw[h7]at I
       cases l:P.info? T' with
       | none=>simp[l]at X
       | some ti =>
         have hz':ti.size=m:=(by simp[l]at X; omega);simp only[storeVar,sizeOf,typeInfo,Sem.run_bind,run_program,l,hu,cB,hz',ne_eq,not_true_eq_false,if_false,Result.andThen_ok,Sem.run_pure,I]
      have E:(execOp b.eval (opAt ops d)).run P w1 = .ok .skip (w1.setRow (r 0).1 (aA m y)):=by
       unfold execOp;simp only[F,ea,ev',Instr.storeAt,Instr.sureAddr,Sem.run_bind,Sem.run_pure,Result.andThen_ok,amZ]
      obtain⟨s1,s2,s3⟩:=AU (w:=w1) (cs:=aA m y) N;unfold Oper.wp;rw[E];show K (b.put (opAt ops d).dst undef) _;rw[V];have:=A (0,0) (w1.setRow (r 0).1 (aA m y)) ⟨s1.below J J.size L,by rw[Jm (by omega)]; exact L,by rw[Jm (by omega)]; exact s2⟩;rw[V]at this;exact this
    | succ k=>simp at s
 ·intro i O C k r p _;have D:i≠c/\i≠d:=by simpa using C
  have t:Nat.beq i c=false:=by
   cases l:Nat.beq i c
   ·rfl
   ·exact N_ (B_ l) D.1
  unfold Jo; rw[t]; rfl
 ·intro k i s q r p l
  cases k with
  | zero=>simp at s; subst s; unfold Jo; rw[M,Jm (by omega)]
  | succ k =>
    cases k with
    | zero=>simp at s; subst s; unfold Jo; rw[amY]; rfl
    | succ k=>simp at s
 intro r w' o;exact h (r 0).1 w' _ rfl o.2.1 o.2.2 o.1
theorem bW{a:Nat}{vs:Array Value}{g s:Nat}(h:writer ops s=none):ev (Np ops f a vs g) (.tmp s)=f s:=by
 show full ops f _ s=f s;unfold full; rw[h]
theorem qbV{ρ:Operand->Value}{o:Oper}{v:Value}(h : ∀ w1,Below w.heap.size w w1->(execOp ρ o).run P w1 = .ok (.value v) w1):QB P ρ o w v:=fun w1 a => .inl (h w1 a)
theorem qbC{ρ:Operand->Value}{o:Oper}{v:Value}{g:FuncId}{args:Array Value}(h : ∀ w1,Below w.heap.size w w1->(execOp ρ o).run P w1 = .ok (.enter g args) w1)(b : ∀ w1,Below w.heap.size w w1->Calls P g args w1 fun e w2=>e = .returned v/\Below w1.heap.size w1 w2):QB P ρ o w v:=fun w1 a => .inr ⟨g,args,h w1 a,b w1 a⟩
theorem Jp{o:Oper}{ops:Array Oper}{a:Nat->Value}{v b:Value}{p:Prop}(c:Region.wanted o (yf ops a)=true)(e:b=v)(h:QB P (ev a) o w v):(if Region.wanted o (yf ops a)then QB P (ev a) o w b else p):=by rw[d_ c,e]; exact h
end
end Fx
namespace Fx
section
variable {P:Program} {n:Nat} {Q:Post} {f:Nat->Value} {w:World} {ops:Array Oper} {rest:List Oper} {o:Oper}
theorem yP{T E:TypeId}{len s:Nat}{k:List (Nat × Operand)}{vs:List (Nat × Value)}{zc y:Nat->Value}(H:Region.wanted o (yf ops f)=true)(A:o.op = .buildSlice T len k.toArray)(B:k.map (fun p=>(p.1,ev f p.2))=vs)(G:P.underlying T=some (.slice E))(d:(P.info? E).map (·.size)=some s)
 (m:Nat.ble (len*s) 16777216=true) (c:Nat.beq (len*s) 0=false) (I:((P.info? E).bind (·.zero)).map (·.cells)=some (aA s zc)) (t:Instr.fill (fun i=>some (i*s,s)) (aA (len*s) (fun j=>zc (j % s))) vs=some (aA (len*s) y)) (r:inn n o.dst=true)
 (h : ∀ g w',g=w.heap.size->aQ w' g (len*s) y E->Stp w.heap.size w w'->w'.heap.size=w.heap.size+1->L P n ops Q rest (put f o.dst (.slice (some ⟨g,0,none⟩) len len)) w'):L P n ops Q (o::rest) f w:=by
 obtain⟨z,J,K⟩:=Option.map_eq_some_iff.1 I;obtain⟨i,b,M⟩:=Option.bind_eq_some_iff.1 J;have F:i.size=s:=by rw[b]at d; simpa using d
 have N : ¬ len*s>2^24:=by have:=Nat.le_of_ble_eq_true m; omega
 have a:len*s≠0:=fun e=>by rw[e]at c; exact N_ c (by decide)
 have D:0<s:=Nat.pos_of_ne_zero fun e=>a (by rw[e,Nat.mul_zero]);have q:(Array.range (len*s)).map (fun j=>z.cells[j % z.cells.size]!)=aA (len*s) (fun j=>zc (j % s)):=by
  refine vK (by simp) fun j v => ?_;have x:j % s<s:=K_ _ D;have u:=gM zc x;rw[K];simp[v,cB];rw[getElem!_def,u]
 have C:(execOp (ev f) o).run P w = .ok (.value (.slice (some ⟨w.heap.size,0,none⟩) len len)) (w.alloc (.cells (aA (len*s) y) E)):=by
  unfold execOp;simp only[A,List.map_toArray,B];unfold Instr.buildSlice;have l : ¬ 16777216<len*s:=by omega
  simp[underlying,sizeOf,typeInfo,zeroValue,G,b,F,M,l];simp[a,q,t,newRow]
 refine L.val H C r (h _ _ rfl ?_ (Stp.alloc _ _) (by simp));show(w.alloc _).heap[w.heap.size]? = _;rw[alloc_at,d_ rfl]
theorem acT{x1:Nat × Operand}{v1:Value}(h1:ev f x1.2=v1) : [x1].map (fun p=>(p.1,ev f p.2)) = [(x1.1,v1)]:=by rw[List.map_cons,h1]; rfl
theorem Nq{x1 x2:Nat × Operand}{v1 v2:Value}(h1:ev f x1.2=v1)(a:ev f x2.2=v2) : [x1,x2].map (fun p=>(p.1,ev f p.2)) = [(x1.1,v1),(x2.1,v2)]:=by rw[List.map_cons,h1,acT a]
theorem acU{x1 x2 a:Nat × Operand}{v1 v2 b:Value}(h1:ev f x1.2=v1)(c:ev f x2.2=v2)(d:ev f a.2=b) : [x1,x2,a].map (fun p=>(p.1,ev f p.2)) = [(x1.1,v1),(x2.1,v2),(a.1,b)]:=by rw[List.map_cons,h1,Nq c d]
theorem acV{x1 x2 a b:Nat × Operand}{v1 v2 c d:Value}(h1:ev f x1.2=v1)(e:ev f x2.2=v2)(g:ev f a.2=c)(h:ev f b.2=d) : [x1,x2,a,b].map (fun p=>(p.1,ev f p.2)) = [(x1.1,v1),(x2.1,v2),(a.1,c),(b.1,d)]:=by rw[List.map_cons,h1,acU e g h]
end
end Fx
namespace Fx
def Own(w:World)(B:Nat)(E:TypeId)(s:Nat)(v:Value)(n:Nat)(x:Nat->Value):Prop:=w.ownsRow B E s v n ((List.range (n*s)).map x)
theorem wT(w:World)(B:Nat)(E:TypeId)(s:Nat)(x:Nat->Value):Own w B E s (.slice none 0 0) 0 x:=⟨by simp,.inl ⟨rfl,rfl⟩⟩
theorem Stp.grown{g:Nat}{w w':World}(h:Stp g w w'):w.grownBy w' (some g):=⟨h.os,h.tape,h.output,h.size,fun k a b=>h.block k a (fun e=>b (by rw[e]))⟩
theorem Own.cu{w w':World}{B:Nat}{E:TypeId}{s:Nat}{v:Value}{n:Nat}{x:Nat->Value}{g:Nat}(h:Own w B E s v n x)(b:Stp g w w')(a:v.ownBlock≠some g):Own w' B E s v n x:=World.ownsRow.kept h b.grown (.inr a)
theorem Own.up{w w':World}{B:Nat}{E:TypeId}{s:Nat}{v:Value}{n:Nat}{x:Nat->Value}(h:Own w B E s v n x)(a:Below w.heap.size w w'):Own w' B E s v n x:=by
 refine World.ownsRow.kept h (row:=none) ⟨a.os,a.tape,a.output,a.size,fun k b _=>a.block k b⟩ ?_
 cases v.ownBlock <;> simp
theorem Own.ge{w:World}{B:Nat}{E:TypeId}{s:Nat}{v:Value}{n:Nat}{x:Nat->Value}(h:Own w B E s v n x){g:Nat}(a:v.ownBlock=some g):B<=g/\g<w.heap.size:=by
 rcases h.2 with ⟨rfl,_⟩|⟨g',cap,cur,rfl,hb,hgg,_⟩
 ·cases a
 simp only[Value.ownBlock,Option.some.injEq]at a; subst a;exact⟨hb,(t_.1 hgg).1⟩
theorem Own.not{w:World}{B:Nat}{E:TypeId}{s:Nat}{v:Value}{n:Nat}{x:Nat->Value}(h:Own w B E s v n x){b:Nat}(a:b<B):v.ownBlock≠some b:=fun e=>by have:=(h.ge e).1; omega
theorem Own.kM{w:World}{B:Nat}{E:TypeId}{s:Nat}{v:Value}{n:Nat}{x:Nat->Value}(h:Own w B E s v n x){b:Nat}(a:w.heap.size<=b):v.ownBlock≠some b:=fun e=>by have:=(h.ge e).2; omega
theorem Own.form{w:World}{B:Nat}{E:TypeId}{s:Nat}{v:Value}{n:Nat}{x:Nat->Value}(h:Own w B E s v n x)(c:0<n) : ∃ g cap,v = .slice (some ⟨g,0,none⟩) n cap/\B<=g/\g<w.heap.size/\n<=cap/\iU w g 0 (n*s) x:=by
 have b:=h
 rcases h.2 with ⟨_,d⟩|⟨g,cap,cur,rfl,hb,hgg,hnc,_⟩
 ·omega
 refine⟨g,cap,rfl,hb,(t_.1 hgg).1,hnc,fun i a => ?_⟩;rw[H_,World.ownsRow.cellAt b i a];simp[a]
theorem Own.val{w:World}{B:Nat}{E:TypeId}{s:Nat}{v:Value}{n:Nat}{x:Nat->Value}(h:Own w B E s v n x) : ∃ a cap,v = .slice a n cap:=by
 rcases h.2 with ⟨rfl,rfl⟩|⟨g,cap,cur,rfl,_⟩
 ·exact⟨_,_,rfl⟩
 exact⟨_,_,rfl⟩
def iJ(x:Nat->Value)(k:Nat)(y:Nat->Value):Nat->Value:=fun p=>if p<k then x p else y (p-k)
theorem QN(x y:Nat->Value)(k m:Nat):(List.range k).map x++(List.range m).map y=(List.range (k+m)).map (iJ x k y):=by
 apply List.ext_getElem?;intro i;by_cases h:i<k
 ·rw[List.getElem?_append_left (by simpa using h)];simp[h,iJ,show i<k+m by omega]
 rw[List.getElem?_append_right (by simp; omega)];by_cases a:i<k+m
 ·simp[a,iJ,h,show i-k<m by omega]
 simp[a,show ¬ i-k<m by omega]
section
variable {P:Program} {n:Nat} {Q:Post} {f:Nat->Value} {w:World} {o:Oper}
theorem YB{B:Nat}{E T ty:TypeId}{s bytes k m c:Nat}{v:Value}{x y:Nat->Value}{b off:Nat}(e:P.underlying T=some (.slice E))(hi:(P.info? E).map (fun i=>(i.size,i.bytes))=some (s,bytes))(I:((P.info? E).bind (·.zero)).map (·.cells.size)=some s)(G:Nat.blt 0 s=true)
 (D:Own w B E s v k x) (p:iU w b off (m*s) y) (h1 : ∀ j,j<m*s->(y j).oneCell'=true) (A:0<m) (o:(k+m)*bytes<=140737488355328) (L:k+m<=140737488355328) (n:B<=w.heap.size) :
 ∃ g cap w',(Builtin.append_ #[T,T] ty #[v,.slice (some ⟨b,off,none⟩) m c]).run P w = .ok (.slice (some ⟨g,0,none⟩) (k+m) cap) w'/\Own w' B E s (.slice (some ⟨g,0,none⟩) (k+m) cap) (k+m) (iJ x (k*s) y)/\w.grownBy w' v.ownBlock/\(v.ownBlock=some g\/g=w.heap.size)/\g<w'.heap.size:=by
 obtain⟨i,f,d⟩:=Option.map_eq_some_iff.1 hi;obtain⟨z,l,J⟩:=Option.map_eq_some_iff.1 I;rw[f]at l;simp only[Prod.mk.injEq]at d;have K:i.zero=some z:=l;have H:0<s:=by simpa [Nat.blt_eq] using G
 obtain⟨g,cap,w',F,C,q,r,t⟩:=run_append_lies (P:=P) w T ty B E i z s bytes e f K d.1 d.2 J H v k _ D ⟨b,off,none⟩ m c ((List.range (m*s)).map y) (by simp)
  (fun j u a=>by
   have h:j<m*s:=(by have:=(List.getElem?_eq_some_iff.1 a).1; simpa using this);simp[h]at a;rw[addr_add,<- a]; exact p j h)
  (fun u e=>by
   obtain⟨j,a,rfl⟩:=List.mem_map.1 e;exact h1 j (by simpa using a)) A (by unfold maxLen; omega) o n w.heap.size rfl
 refine⟨g,cap,w',F,?_,q,r,t⟩;unfold Own;rw[Nat.add_mul,<- QN];exact C
theorem abp{B:Nat}{E T:TypeId}{s bytes k m c:Nat}{v:Value}{x y:Nat->Value}{b off:Nat}{a d:Operand}{ρ:Operand->Value}(q:o.op = .call { callee := .builtin .append,args := #[a,d],argTypes := #[T,T] })(z:ρ a=v)(C:ρ d = .slice (some ⟨b,off,none⟩) m c)
 (A:P.underlying T=some (.slice E)) (hi:(P.info? E).map (fun i=>(i.size,i.bytes))=some (s,bytes)) (D:((P.info? E).bind (·.zero)).map (·.cells.size)=some s) (u:Nat.blt 0 s=true)
 (r:Own w B E s v k x) (n:iU w b off (m*s) y) (h1 : ∀ j,j<m*s->(y j).oneCell'=true) (p:0<m) (l:(k+m)*bytes<=140737488355328) (e:k+m<=140737488355328) (f:B<=w.heap.size) :
 ∃ g cap w',(execOp ρ o).run P w = .ok (.value (.slice (some ⟨g,0,none⟩) (k+m) cap)) w'/\Own w' B E s (.slice (some ⟨g,0,none⟩) (k+m) cap) (k+m) (iJ x (k*s) y)/\w.grownBy w' v.ownBlock/\(v.ownBlock=some g\/g=w.heap.size)/\g<w'.heap.size:=by
 obtain⟨g,cap,w',t,h⟩:=YB (ty:=o.type) (c:=c) A hi D u r n h1 p l e f;refine⟨g,cap,w',?_,h⟩;unfold execOp;simp only[q];unfold resolve invoke;simp only[List.map_toArray,List.map_cons,List.map_nil,z,C];unfold builtin;simp only[Sem.run_bind,Sem.run_pure,Result.andThen_ok,t]
theorem HY{w w':World}{v:Value}(c:w.grownBy w' v.ownBlock){b:Nat}(a:b<w.heap.size)(d:v.ownBlock≠some b):w'.heap[b]? = w.heap[b]? := c.block b a (fun e=>d e.symm)
theorem aQ.grown{w w':World}{v:Value}{b m:Nat}{x:Nat->Value}{T:TypeId}(h:aQ w b m x T)(a:w.grownBy w' v.ownBlock)(c:v.ownBlock≠some b):aQ w' b m x T:=(HY a h.lt c).trans h
theorem iU.grown{w w':World}{v:Value}{b off m:Nat}{x:Nat->Value}(h:iU w b off m x)(c:w.grownBy w' v.ownBlock)(e:v.ownBlock≠some b):iU w' b off m x:=fun i d=>by
 have a:=h i d;rw[<- a];exact World.cell?_of_block (w:=w) (HY c (block_lt_of_cell a) e)
theorem zA{w0 w w':World}{v:Value}{B:Nat}(h:Below B w0 w)(b:w.grownBy w' v.ownBlock)(a:B<=w.heap.size)(c : ∀ g,v.ownBlock=some g->B<=g):Below B w0 w':=h.grown b a c
theorem zB{ops:Array Oper}{rest:List Oper}{B:Nat}{E T:TypeId}{s bytes k m c:Nat}{v:Value}{x y:Nat->Value}{b off:Nat}{a d:Operand}(K:Region.wanted o (yf ops f)=true)(D:o.op = .call { callee := .builtin .append,args := #[a,d],argTypes := #[T,T] })(I:ev f a=v)(M:ev f d = .slice (some ⟨b,off,none⟩) m c)
 (J:P.underlying T=some (.slice E)) (hi:(P.info? E).map (fun i=>(i.size,i.bytes))=some (s,bytes)) (N:((P.info? E).bind (·.zero)).map (·.cells.size)=some s) (H:Nat.blt 0 s=true) (A:inn n o.dst=true)
 (F:Own w B E s v k x) (z:iU w b off (m*s) y) (h1 : ∀ j,j<m*s->(y j).oneCell'=true) (C:0<m) (u:(k+m)*bytes<=140737488355328) (r:k+m<=140737488355328) (t:B<=w.heap.size)
 (h : ∀ g cap w',Own w' B E s (.slice (some ⟨g,0,none⟩) (k+m) cap) (k+m) (iJ x (k*s) y)->w.grownBy w' v.ownBlock->(v.ownBlock=some g\/g=w.heap.size)->g<w'.heap.size->L P n ops Q rest (put f o.dst (.slice (some ⟨g,0,none⟩) (k+m) cap)) w'):L P n ops Q (o::rest) f w:=by
 obtain⟨g,cap,w',G,e,l,p,q⟩:=abp (ρ:=ev f) (c:=c) D I M J hi N H F z h1 C u r t;exact L.val K G A (h g cap w' e l p q)
theorem QO{T E:TypeId}{x a:Operand}{b off len cap s:Nat}{k:IntKind}{j:Nat}(l:o.op = .slice T x (some a) none none)(hx:ev f x = .slice (some ⟨b,off,none⟩) len cap)(g:ev f a = .int k j)(n:P.underlying T=some (.slice E))(m:(P.info? E).map (·.size)=some s)(p:j<=len) :
 Runs P f o w (.slice (if cap=j then some ⟨b,off,none⟩else some ⟨b,off+j*s,none⟩) (len-j) (cap-j)):=by
 obtain⟨i,c,d⟩:=Option.map_eq_some_iff.1 m;unfold Runs execOp;simp only[l,hx,g,Option.map_some,Option.map_none];have e:(j:Int)<=(len:Int):=by omega
 simp[Instr.sliceAt,Instr.slice,underlying,n,Instr.sliceBounds,Instr.sliceBound,asIntOf,e,sizeOf,typeInfo,c,d,addr_add];intro h; omega
theorem lW{T:TypeId}{x y:Operand}{T':TypeId}{a:Addr}(c:o.op = .binOp .eql T x y T')(hx:ev f x = .pointer (some a))(hy:ev f y = .pointer none)(d:P.underlying T=some (.pointer (P.pointee T))):Runs P f o w (.bool false):=by
 unfold Runs execOp;simp only[c,hx,hy];have b:(eqGuard .eql T x y (.pointer (some a)) (.pointer none)).run P w = .ok () w:=by unfold eqGuard; rfl
 simp only[Sem.run_bind,b,Result.andThen_ok,run_eql_pointer_nil w T (some a) d,Sem.run_pure];rfl
variable {ops:List Oper} {vals:Gh->Nat->Value} {S:Nat->Gh->World->Prop}
def acW(P:Program)(ops:List Oper)(f:Nat->Value)(vals:Gh->Nat->Value)(S:Nat->Gh->World->Prop)(a:List Nat):List Span->Nat->Prop
 | [],_=>True
 | s::l,i=>(a.contains i=true\/(QOk P ops f vals S i s.1 s.2.1/\DOk vals i s.1))/\acW P ops f vals S a l (i+1)
theorem OX{a:List Nat} : ∀ {l:List Span} {k:Nat},acW P ops f vals S a l k -> ∀ i,i<l.length->(a.contains (k+i)=true\/(QOk P ops f vals S (k+i) (l.getD i jm).1 (l.getD i jm).2.1/\DOk vals (k+i) (l.getD i jm).1))
 | [],_,_,i,hi=>N_ hi (by simp)
 | s::l,k,h,0,_=>h.1
 | s::l,k,h,i+1,hi=>by
   have:=OX h.2 i (by simpa using hi);rw[show k+1+i=k+(i+1) by omega]at this;exact this
def acX(P:Program)(ops:List Oper)(f:Nat->Value)(vals:Gh->Nat->Value)(S:Nat->Gh->World->Prop)(a:Exit->Act->World->Prop):List Nat->Nat->Prop
 | [],_=>True
 | i::l,k=>(EOk P ops f vals S a i k/\DOk vals i (k+1))/\acX P ops f vals S a l (k+1)
theorem Jq{a:Exit->Act->World->Prop} : ∀ {l:List Nat} {k:Nat},acX P ops f vals S a l k -> ∀ j i,l[j]? = some i->EOk P ops f vals S a i (k+j)/\DOk vals i (k+j+1)
 | [],_,_,j,i,h=>by simp at h
 | e::l,k,h,0,i,hj=>by simp at hj; subst hj; exact h.1
 | e::l,k,h,j+1,i,hj=>by
   have:=Jq h.2 j i (by simpa using hj);rw[show k+1+j=k+(j+1) by omega]at this;exact this
theorem W.draws{id:Nat}(a:List Nat)(b:List Span)(vals:Gh->Nat->Value)(S:Nat->Gh->World->Prop)(x:P.follows .mixedOrders=true)(z:mE n ops=true)(B:Region.noSelect ops.toArray=true)(u:wS ops a=true)(j:Fv ops a b=true)
 (v:a.all (fun e=>Nat.blt e ops.length&&(match (opAt ops e).guard with|none=>true|_=>false))=true) (y:decide a.Nodup=true)
 (q : ∀ w1,Below w.heap.size w w1->w1.heap.size=w.heap.size->S 0 (fun _=>(0,0)) w1) (A:acW P ops f vals S a b 0) (p:acX P ops f vals S (lift n Q) a 0)
 (h : ∀ r w' m,m=full ops f (vals r)->S a.length r w'->Q .normal m w'):W P n (.region id ops.toArray true) Q f w:=by
 have C:b.length=ops.length:=by
  unfold Fv at j; rw[T_]at j; exact B_ j.1
 have o : ∀ i,i<ops.length->a.contains i=false->QOk P ops f vals S i (b.getD i jm).1 (b.getD i jm).2.1/\DOk vals i (b.getD i jm).1:=fun i g d=>by
  have:=OX A i (by omega);rw[H_]at this
  rcases this with c|c
  ·rw[d]at c; cases c
  ·exact c
 refine W.drawn a b vals S x z B u j v (h_ y) (fun w1 c s=>⟨_,q w1 c s⟩) (fun i g d=>(o i g d).1) (fun k i l => ?_) (fun i g d=>(o i g d).2) (fun k i l => ?_) (fun r w' t=>h r w' _ rfl t)
 ·have:=(Jq p k i l).1; rwa [H_]at this
 have:=(Jq p k i l).2; rwa [H_]at this
theorem Stp.then{g b:Nat}{w0 w1 w2:World}(h:Stp g w0 w1)(a:Stp b w1 w2)(e:b=g\/w0.heap.size<=b):Stp g w0 w2:=⟨a.os.trans h.os,a.tape.trans h.tape,a.output.trans h.output,m_ h.size a.size,fun k c d=>(a.block k (n_ c h.size) (by omega)).trans (h.block k c d)⟩
end
end Fx
end Go.Proofs.YtcbedgfikejkoaaGreatDoor
namespace Go.Proofs.YtcbedgfikejkoaaGreatDoor.Fx
open Go.RowKit
theorem Own.congr{w:World}{B:Nat}{E:TypeId}{s:Nat}{v:Value}{n:Nat}{x y:Nat->Value}(h:Own w B E s v n x)(e : ∀ j,j<n*s->x j=y j):Own w B E s v n y:=by
 have:(List.range (n*s)).map x=(List.range (n*s)).map y:=List.map_congr_left fun j a=>e j (P_.1 a);unfold Own at h ⊢;rw[<- this]; exact h
theorem aQ.congr{w:World}{g n:Nat}{x y:Nat->Value}{T:TypeId}(h:aQ w g n x T)(e : ∀ j,j<n->x j=y j):aQ w g n y T:=by
 unfold aQ at h ⊢; rw[h,dS e]
section
variable {P:Program} {f:Nat->Value} {w:World} {o:Oper}
theorem Nr{T E:TypeId}{b:List (Nat × Operand)}{vs:List (Nat × Value)}{len s m:Nat}{x y:Nat->Value}(g:o.op = .build T b.toArray)(h:b.map (fun p=>(p.1,ev f p.2))=vs)(j:P.underlying T=some (.array len E))
 (k:(P.info? E).map (·.size)=some s) (a:((P.info? T).bind (·.zero)).map (·.cells)=some (aA m x)) (c:Instr.fill (fun i=>some (i*s,s)) (aA m x) vs=some (aA m y)):Runs P f o w (.agg (aA m y)):=by
 obtain⟨z,l,n⟩:=Option.map_eq_some_iff.1 a;obtain⟨i,d,a⟩:=Option.bind_eq_some_iff.1 l;obtain⟨r,e,q⟩:=Option.map_eq_some_iff.1 k;unfold Runs execOp;simp only[g,List.map_toArray,h];unfold Instr.build;simp only[zeroValue,typeInfo,underlying,sizeOf,Sem.run_bind,run_program,Result.andThen_ok,d,e,a,j,Sem.run_pure,n,q,c]
theorem AV{T E:TypeId}{x a:Operand}{b off len cap s:Nat}{k:IntKind}{j n' c':Nat}{A:Option Addr}(i:o.op = .slice T x (some a) none none)(hx:ev f x = .slice (some ⟨b,off,none⟩) len cap)(g:ev f a = .int k j)(m:P.underlying T=some (.slice E))(l:(P.info? E).map (·.size)=some s)(e:j<=len)
 (c:(if cap=j then some ⟨b,off,none⟩else some ⟨b,off+j*s,none⟩:Option Addr)=A) (h:len-j=n') (d:cap-j=c'):Runs P f o w (.slice A n' c'):=by
 subst c h d;exact QO i hx g m l e
end
end Go.Proofs.YtcbedgfikejkoaaGreatDoor.Fx
namespace Go.Proofs.YtcbedgfikejkoaaGreatDoor.Fx
open Go.RowKit
section
variable {w w':World} {B:Nat} {E:TypeId} {s g n cap:Nat} {x:Nat->Value}
theorem Own.blk(h:Own w B E s (.slice (some ⟨g,0,none⟩) n cap) n x):B<=g/\n<=cap/\cap<=maxLen /\ ∃ b,aQ w g (cap*s) b E /\ ∀ p,p<n*s->b p=x p:=by
 rcases h.2 with ⟨e,_⟩|⟨g',cap',cur,e,hb,hgg,hnc,hmax,hsz,ht⟩
 ·cases e
 simp only[Value.slice.injEq,Option.some.injEq,Addr.mk.injEq,and_true,true_and]at e;obtain⟨rfl,rfl⟩:=e;refine⟨hb,hnc,hmax,fun p=>cur.getD p undef,?_,fun p a => ?_⟩
 ·unfold aQ;rw[hgg]
  congr 2
  refine(vK hsz fun j c => ?_);simp[Array.getD,hsz,c]
 have d:n*s<=cap*s:=Nat.mul_le_mul_right s hnc;have:=M_ (fun l:List Value=>l[p]?) ht;simp only[List.getElem?_take_of_lt a,Array.getElem?_toList,List.getElem?_map,List.getElem?_range a,Option.map_some]at this;simp only[Array.getD_eq_getD_getElem?,this,Option.getD_some]
theorem aQ.own{a:Nat->Value}(h:aQ w g (cap*s) a E)(d:B<=g)(c:n<=cap)(f:cap<=maxLen)(e : ∀ p,p<n*s->a p=x p):Own w B E s (.slice (some ⟨g,0,none⟩) n cap) n x:=by
 refine⟨by simp,.inr ⟨g,cap,aA (cap*s) a,rfl,d,h,c,f,cB _ _,?_⟩⟩;have i:n*s<=cap*s:=Nat.mul_le_mul_right s c;apply List.ext_getElem?;intro p;by_cases b:p<n*s
 ·rw[List.getElem?_take_of_lt b,Array.getElem?_toList,gM a (by omega),List.getElem?_map,List.getElem?_range b,Option.map_some,e p b]
 rw[List.getElem?_eq_none (by simp; omega),List.getElem?_eq_none (by simp; omega)]
theorem Own.lt(h:Own w B E s (.slice (some ⟨g,0,none⟩) n cap) n x):g<w.heap.size:=(h.ge rfl).2
theorem Own.aH(h:Own w B E s (.slice (some ⟨g,0,none⟩) n cap) n x):iU w g 0 (n*s) x:=fun i c=>by
 rcases Nat.eq_zero_or_pos n with e|e
 ·subst e; omega
 ·obtain⟨f,d,a,_,_,_,b⟩:=h.form e;simp only[Value.slice.injEq,Option.some.injEq,Addr.mk.injEq,and_true,true_and]at a;obtain⟨rfl,rfl⟩:=a;exact b i c
theorem Own.acY{a:Nat}(h:Own w B E s (.slice (some ⟨g,0,none⟩) n cap) n x)(b:Stp a w w')(c:g≠a):Own w' B E s (.slice (some ⟨g,0,none⟩) n cap) n x:=h.cu b fun e=>c (C_ e)
end
section
variable {P:Program} {n:Nat} {Q:Post} {ops:Array Oper} {rest:List Oper} {f:Nat->Value} {w:World} {o:Oper}
theorem L.ana{T E:TypeId}{a v:Operand}{B s g k cap i:Nat}{x:Nat->Value}{u:Value}(z:Region.wanted o (yf ops f)=true)(j:o.dst=none)(q:o.op = .store T a v)(ha:ev f a = .pointer (some ⟨g,i,none⟩))(y:ev f v=u)(h1:u.oneCell'=true)(d:(P.info? T).map (·.size)=some 1)
 (e:Own w B E s (.slice (some ⟨g,0,none⟩) k cap) k x) (hi:i<k*s) (h : ∀ w',Own w' B E s (.slice (some ⟨g,0,none⟩) k cap) k (dJ x i u)->Stp g w w'->w'.heap.size=w.heap.size->L P n ops Q rest f w'):L P n ops Q (o::rest) f w:=by
 obtain⟨c,b,m,F,C,l⟩:=e.blk;have G:k*s<=cap*s:=Nat.mul_le_mul_right s b;refine L.Ti (x:=F) z j q ha y h1 d C (by omega) fun w' A t D=>h w' (A.own c b m fun p r => ?_) t D;unfold dJ; rw[l p r]
theorem L.anb{T E:TypeId}{a v:Operand}{B s g k cap i c:Nat}{x y:Nat->Value}(C:Region.wanted o (yf ops f)=true)(m:o.dst=none)(t:o.op = .store T a v)(ha:ev f a = .pointer (some ⟨g,i,none⟩))(A:ev f v = .agg (aA c y))(h1 : ∀ j,j<c->(y j).oneCell'=true)(e:(P.info? T).map (·.size)=some c)
 (l:Own w B E s (.slice (some ⟨g,0,none⟩) k cap) k x) (hi:i+c<=k*s) (h : ∀ w',Own w' B E s (.slice (some ⟨g,0,none⟩) k cap) k (bG x i c y)->Stp g w w'->w'.heap.size=w.heap.size->L P n ops Q rest f w'):L P n ops Q (o::rest) f w:=by
 obtain⟨d,b,r,H,F,q⟩:=l.blk;have I:k*s<=cap*s:=Nat.mul_le_mul_right s b;refine L.Tj (x:=H) C m t ha A h1 e F (by omega) fun w' D z G=>h w' (D.own d b r fun p u => ?_) z G;unfold bG; rw[q p u]
end
end Go.Proofs.YtcbedgfikejkoaaGreatDoor.Fx
namespace Go.Proofs.YtcbedgfikejkoaaGreatDoor.Fx
open Go.RowKit
section
variable {P:Program} {n:Nat} {Q:Post} {f:Nat->Value} {w:World} {o:Oper}
theorem Tv{E T ty:TypeId}{s k c cap:Nat}{a b:Option Addr}(h:P.underlying T=some (.slice E))(hi:(P.info? E).map (·.size)=some s)(g:k<=cap):(Builtin.append_ #[T,T] ty #[.slice b k cap,.slice a 0 c]).run P w = .ok (.slice b k cap) w:=by
 obtain⟨i,e,f⟩:=Option.map_eq_some_iff.1 hi;have d:(Builtin.firstCells s 0 (.slice a 0 c)).run P w = .ok #[] w:=by
  cases a with
  | none=>simp[Builtin.firstCells]
  | some a=>simp[Builtin.firstCells,loadCells,loadCellsFrom]
 unfold Builtin.append_;simp[underlying,h,sizeOf,typeInfo,e,f,Builtin.lenOf,g,d]
 cases b <;> simp[storeCells]
theorem Own.zero{B:Nat}{E:TypeId}{s k:Nat}{v:Value}{x y:Nat->Value}(h:Own w B E s v k x):Own w B E s v (k+0) (iJ x (k*s) y) :=
 Own.congr h fun j a=>by unfold iJ; rw[d_ (show j<k*s from a)]
theorem Ns(w:World)(r:Option Nat):w.grownBy w r:=⟨rfl,rfl,rfl,A_ _,fun _ _ _=>rfl⟩
theorem Tx{B:Nat}{E T:TypeId}{s bytes k m c:Nat}{v:Value}{x y:Nat->Value}{a:Option Addr}{u z:Operand}{ρ:Operand->Value}(p:o.op = .call { callee := .builtin .append,args := #[u,z],argTypes := #[T,T] })(q:ρ u=v)(t:ρ z = .slice a m c)
 (r:P.underlying T=some (.slice E)) (hi:(P.info? E).map (fun i=>(i.size,i.bytes))=some (s,bytes)) (O:((P.info? E).bind (·.zero)).map (·.cells.size)=some s) (M:Nat.blt 0 s=true)
 (f:Own w B E s v k x) (H:0<m -> ∃ b l,a=some ⟨b,l,none⟩/\iU w b l (m*s) y) (h1 : ∀ j,j<m*s->(y j).oneCell'=true) (G:(k+m)*bytes<=140737488355328) (D:k+m<=140737488355328) (F:B<=w.heap.size) :
 ∃ e w',(execOp ρ o).run P w = .ok (.value e) w'/\Own w' B E s e (k+m) (iJ x (k*s) y)/\w.grownBy w' v.ownBlock/\(e=v\/e.ownBlock=v.ownBlock\/e.ownBlock=some w.heap.size):=by
 rcases Nat.eq_zero_or_pos m with rfl|hm
 ·refine⟨v,w,?_,f.zero,Ns _ _,.inl rfl⟩;obtain⟨b,cap,N,L⟩ : ∃ b cap,v = .slice b k cap/\k<=cap:=by
   rcases f.2 with ⟨rfl,rfl⟩|⟨g,cap,cur,rfl,_,_,hnc,_⟩
   ·exact⟨none,0,rfl,A_ _⟩
   ·exact⟨_,_,rfl,hnc⟩
  subst N;have J:(P.info? E).map (·.size)=some s:=by
   obtain⟨i,K,n⟩:=Option.map_eq_some_iff.1 hi;rw[K]; simp only[Prod.mk.injEq]at n; simp[n.1]
  have h:=Tv (P:=P) (w:=w) (ty:=o.type) (a:=a) (b:=b) (c:=c) r J L;unfold execOp;simp only[p];unfold resolve invoke;simp only[List.map_toArray,List.map_cons,List.map_nil,q,t];unfold builtin;simp only[Sem.run_bind,Sem.run_pure,Result.andThen_ok,h]
 obtain⟨b,l,rfl,I⟩:=H hm;obtain⟨g,cap,w',h,A,C,d,_⟩:=abp (P:=P) p q t r hi O M f I h1 hm G D F;refine⟨_,w',h,A,C,?_⟩
 rcases d with d|d
 ·exact .inr (.inl d.symm)
 exact .inr (.inr (by rw[d]; rfl))
theorem L.Jr{ops:Array Oper}{rest:List Oper}{B:Nat}{E T:TypeId}{s bytes k m c:Nat}{v:Value}{x y:Nat->Value}{a:Option Addr}{g l:Operand}(K:Region.wanted o (yf ops f)=true)(D:o.op = .call { callee := .builtin .append,args := #[g,l],argTypes := #[T,T] })(I:ev f g=v)(M:ev f l = .slice a m c)
 (J:P.underlying T=some (.slice E)) (hi:(P.info? E).map (fun i=>(i.size,i.bytes))=some (s,bytes)) (N:((P.info? E).bind (·.zero)).map (·.cells.size)=some s) (H:Nat.blt 0 s=true) (C:inn n o.dst=true)
 (F:Own w B E s v k x) (A:0<m -> ∃ b e,a=some ⟨b,e,none⟩/\iU w b e (m*s) y) (h1 : ∀ j,j<m*s->(y j).oneCell'=true) (z:(k+m)*bytes<=140737488355328) (t:k+m<=140737488355328) (u:B<=w.heap.size)
 (h : ∀ d w',Own w' B E s d (k+m) (iJ x (k*s) y)->w.grownBy w' v.ownBlock->(d=v\/d.ownBlock=v.ownBlock\/d.ownBlock=some w.heap.size)->L P n ops Q rest (put f o.dst d) w'):L P n ops Q (o::rest) f w:=by
 obtain⟨d,w',G,p,q,r⟩:=Tx (ρ:=ev f) D I M J hi N H F A h1 z t u;exact L.val K G C (h d w' p q r)
end
end Go.Proofs.YtcbedgfikejkoaaGreatDoor.Fx
namespace Go.Proofs.YtcbedgfikejkoaaGreatDoor.Fx
open Go.RowKit
structure jI(S:Nat->Prop)(w w':World):Prop where
 os:w'.os=w.os
 tape:w'.tape=w.tape
 output:w'.output=w.output
 size:w.heap.size<=w'.heap.size
 block : ∀ k,k<w.heap.size -> ¬ S k->w'.heap[k]? = w.heap[k]?
section
variable {S S':Nat->Prop} {w0 w1 w2:World}
theorem uS(S:Nat->Prop)(w:World):jI S w w:=⟨rfl,rfl,rfl,A_ _,fun _ _ _=>rfl⟩
theorem jI.then{g:Nat}(h:jI S w0 w1)(b:Stp g w1 w2)(f:S g\/w0.heap.size<=g):jI S w0 w2 :=
 ⟨b.os.trans h.os,b.tape.trans h.tape,b.output.trans h.output,m_ h.size b.size,fun k c d=>(b.block k (n_ c h.size) (fun e=>f.elim (fun a=>d (by rw[e]; exact a)) (fun a=>by omega))).trans (h.block k c d)⟩
theorem jI.grow{v:Value}(h:jI S w0 w1)(b:w1.grownBy w2 v.ownBlock)(f : ∀ k,v.ownBlock=some k->S k\/w0.heap.size<=k):jI S w0 w2 :=
 ⟨b.os.trans h.os,b.tape.trans h.tape,b.output.trans h.output,m_ h.size b.size,fun k c d=>(b.block k (n_ c h.size) (fun e=>(f k e.symm).elim d (fun a=>by omega))).trans (h.block k c d)⟩
theorem jI.of_below(h:Below w0.heap.size w0 w1):jI S w0 w1:=⟨h.os,h.tape,h.output,h.size,fun k a _=>h.block k a⟩
theorem jI.below{B:Nat}{w:World}(a:Below B w w0)(h:jI S w0 w1)(b : ∀ k,S k->B<=k)(d:B<=w0.heap.size):Below B w w1 where
 os:=h.os.trans a.os
 tape:=h.tape.trans a.tape
 output:=h.output.trans a.output
 size:=m_ a.size h.size
 block:=fun k c=>(h.block k (by omega) (fun e=>by have:=b k e; omega)).trans (a.block k c)
theorem aQ.chg{b m:Nat}{x:Nat->Value}{T:TypeId}(h:aQ w0 b m x T)(a:jI S w0 w1)(c : ¬ S b):aQ w1 b m x T:=(a.block b h.lt c).trans h
theorem iU.chg{b off m:Nat}{x:Nat->Value}(h:iU w0 b off m x)(e:jI S w0 w1)(f : ¬ S b):iU w1 b off m x:=fun i c=>by
 have a:=h i c;have d:=block_lt_of_cell a;unfold World.cell? at a ⊢;rw[e.block b d f]; exact a
theorem Own.chg{B:Nat}{E:TypeId}{s:Nat}{v:Value}{n:Nat}{x:Nat->Value}(h:Own w0 B E s v n x)(b:jI S w0 w1)(c : ∀ g,v.ownBlock=some g -> ¬ S g):Own w1 B E s v n x:=by
 refine⟨h.1,?_⟩
 rcases h.2 with a|⟨g,cap,cur,rfl,hb,hg,rest⟩
 ·exact .inl a
 exact .inr ⟨g,cap,cur,rfl,hb,(b.block g (t_.1 hg).1 (c g rfl)).trans hg,rest⟩
end
section
variable {P:Program} {f:Nat->Value} {w:World} {o:Oper}
theorem KI{T T':TypeId}{x y:Operand}{k d:IntKind}{a c:Int}{b:Nat}(g:o.op = .binOp .shl T x y T')(hx:ev f x = .int k a)(hy:ev f y = .int d b)(i:b<=k.bits)(e:k.wrap (a*2^b)=c):Runs P f o w (.int k c):=by
 unfold Runs execOp;simp only[g,hx,hy];have h:(binOp .shl T (.int k a) (.int d (b:Int))).run P w = .ok (.int k c) w:=by
  simp only[binOp,Op.shift];rw[b_ (by omega),show min (Int.toNat (b:Int)) k.bits=b by simp; omega,e];simp
 simp only[Sem.run_bind,pI,Result.andThen_ok,h,Sem.run_pure]
end
end Go.Proofs.YtcbedgfikejkoaaGreatDoor.Fx
namespace Go.Proofs.YtcbedgfikejkoaaGreatDoor.Fx
open Go.RowKit
section
variable {P:Program} {n:Nat} {Q:Post} {f:Nat->Value} {w:World} {o:Oper}
theorem L.OY{ops:Array Oper}{rest:List Oper}{T E:TypeId}{s:Nat}(p:Region.wanted o (yf ops f)=true)(j:o.op = .buildSlice T 0 #[])(m:P.underlying T=some (.slice E))(l:(P.info? E).map (·.size)=some s)(b:inn n o.dst=true)
 (h : ∀ g w',g=w.heap.size->(∀ B x,B<=g->Own w' B E s (.slice (some ⟨g,0,none⟩) 0 0) 0 x)->Stp w.heap.size w w'->L P n ops Q rest (put f o.dst (.slice (some ⟨g,0,none⟩) 0 0)) w'):L P n ops Q (o::rest) f w:=by
 obtain⟨i,c,q⟩:=Option.map_eq_some_iff.1 l;have k:(execOp (ev f) o).run P w = .ok (.value (.slice (some ⟨w.heap.size,0,none⟩) 0 0)) (w.alloc (.cells #[] E)):=by
  unfold execOp;simp only[j,List.map_toArray];unfold Instr.buildSlice;simp[underlying,sizeOf,typeInfo,m,c,Instr.fill,newRow];have e : ∀ d:Value,Array.map (fun _=>d) (Array.range 0) = #[]:=fun d=>by apply Array.ext <;> simp
  rw[e]
 refine L.val p k b (h _ _ rfl (fun B x a=>⟨by simp,.inr ⟨w.heap.size,0,#[],rfl,a,?_,A_ _,L_ _,by simp,by simp⟩⟩) (Stp.alloc _ _));show(w.alloc _).heap[w.heap.size]? = _;rw[alloc_at,d_ rfl]
end
end Go.Proofs.YtcbedgfikejkoaaGreatDoor.Fx
namespace Go.Proofs.YtcbedgfikejkoaaGreatDoor.Fx
open Go.RowKit
theorem Out.mono{P:Program}{f:Nat->Value}{o:Oper}{w:World}{K c:Value->World->Prop}(h:Out P f o w K)(b : ∀ v w',K v w'->c v w'):Out P f o w c:=by
 rcases h with ⟨v,w',a,h⟩|⟨w',a,h⟩|⟨g,args,a,h⟩
 ·exact .inl ⟨v,w',a,b v w' h⟩
 ·exact .inr (.inl ⟨w',a,b _ w' h⟩)
 exact .inr (.inr ⟨g,args,a,h.mono fun e w' ⟨v,d,i⟩=>⟨v,d,b v w' i⟩⟩)
def uT(c:Nat):Bool:=Nat.ble c 1 || Nat.beq c 4
def acZ(S:World->World->Prop)(c:Nat)(w w2:World):Prop:=c=0\/(c=1/\S w w2)\/w2=w
def R(P:Program)(n:Nat)(ops:List Oper)(cs:List Nat)(S:World->World->Prop)(Q:Post):List Nat->(Nat->Value)->World->Prop
 | [],f,w=>Q .normal f w
 | i::l,f,w=>(Region.wanted (opAt ops i) (yf ops.toArray f)=false/\R P n ops cs S Q l (put f (opAt ops i).dst undef) w) \/
   (Region.wanted (opAt ops i) (yf ops.toArray f)=true /\
    ((uT (cs.getD i 3)=true /\ ∃ v,(∀ w2,acZ S (cs.getD i 3) w w2->(execOp (ev f) (opAt ops i)).run P w2 = .ok (.value v) w2)/\R P n ops cs S Q l (put f (opAt ops i).dst v) w) \/
     (uT (cs.getD i 3)=false/\Out P f (opAt ops i) w fun v w'=>(cs.getD i 3=2->S w w')/\R P n ops cs S Q l (put f (opAt ops i).dst v) w')))
section
variable {P:Program} {n:Nat} {ops:List Oper} {cs:List Nat} {S:World->World->Prop} {Q:Post}
theorem R.tail{i:Nat}{X Y:List Nat}(c : ∀ f w,R P n ops cs S Q X f w->R P n ops cs S Q Y f w){f:Nat->Value}{w:World}(h:R P n ops cs S Q (i::X) f w):R P n ops cs S Q (i::Y) f w:=by
 unfold R at h ⊢
 rcases h with ⟨b,a⟩|⟨b,⟨a,v,h3,h4⟩|⟨a,h3⟩⟩
 ·exact .inl ⟨b,c _ _ a⟩
 ·exact .inr ⟨b,.inl ⟨a,v,h3,c _ _ h4⟩⟩
 exact .inr ⟨b,.inr ⟨a,h3.mono fun v w' d=>⟨d.1,c _ _ d.2⟩⟩⟩
def Stl(P:Program)(ops:List Oper)(cs:List Nat)(S:World->World->Prop)(i:Nat)(f:Nat->Value)(w:World)(v:Value):Prop :=
 (Region.wanted (opAt ops i) (yf ops.toArray f)=false/\v=undef)\/(Region.wanted (opAt ops i) (yf ops.toArray f)=true/\uT (cs.getD i 3)=true /\ ∀ w2,acZ S (cs.getD i 3) w w2->(execOp (ev f) (opAt ops i)).run P w2 = .ok (.value v) w2)
theorem R.Nt{i:Nat}{l:List Nat}{f:Nat->Value}{w:World}{v:Value}(b:Stl P ops cs S i f w v)(h:R P n ops cs S Q l (put f (opAt ops i).dst v) w):R P n ops cs S Q (i::l) f w:=by
 unfold R
 rcases b with ⟨a,rfl⟩|⟨a,h2,h3⟩
 ·exact .inl ⟨a,h⟩
 exact .inr ⟨a,.inl ⟨h2,v,h3,h⟩⟩
theorem R.stl{i:Nat}{l:List Nat}{f:Nat->Value}{w:World}(hi:uT (cs.getD i 3)=true)(h:R P n ops cs S Q (i::l) f w) : ∃ v,Stl P ops cs S i f w v/\R P n ops cs S Q l (put f (opAt ops i).dst v) w:=by
 unfold R at h
 rcases h with ⟨b,a⟩|⟨b,⟨a,v,h3,h4⟩|⟨a,h3⟩⟩
 ·exact⟨undef,.inl ⟨b,rfl⟩,a⟩
 ·exact⟨v,.inr ⟨b,a,h3⟩,h4⟩
 rw[hi]at a; cases a
theorem CJ{ops:List Oper}(c:mE n ops=true){i j:Nat}(hi:i<ops.length)(g:j<ops.length)(h:i≠j)(f:Nat->Value)(u v:Value) :
 put (put f (opAt ops i).dst u) (opAt ops j).dst v=put (put f (opAt ops j).dst v) (opAt ops i).dst u:=by
 cases hdi:(opAt ops i).dst with
 | none=>rfl
 | some di =>
   cases hdj:(opAt ops j).dst with
   | none=>rfl
   | some dj =>
     have d:di≠dj:=fun e=>by
      subst e;have b:=((fI c hi).1 di hdi).1;have a:=((fI c g).1 di hdj).1;rw[b]at a; exact h (C_ a)
     funext s
     simp only[put]
     cases b:Nat.beq s di <;> cases a:Nat.beq s dj <;> simp
     exact(d ((B_ b).symm.trans (B_ a))).elim
theorem ada{ops:List Oper}(b:mE n ops=true){i j:Nat}(hi:i<ops.length)(g:j<ops.length)(ha:dL (opAt ops j) i=false)(f:Nat->Value)(u:Value) : ∀ x∈(opAt ops j).op.operands,ev (put f (opAt ops i).dst u) x=ev f x:=by
 intro x h
 cases x with
 | tmp t =>
   show put f (opAt ops i).dst u t=f t
   cases hdi:(opAt ops i).dst with
   | none=>rfl
   | some d =>
     simp only[put]
     cases hb:Nat.beq t d with
     | false=>rfl
     | true =>
       have e:=B_ hb;subst e;have c:=((fI b hi).1 t hdi).1;have a:=(fI b g).2.1 t i h c;rw[ha]at a; cases a
 | _=>rfl
theorem Fw{ops:List Oper}(a:mE n ops=true){i j:Nat}(hi:i<ops.length)(q:j<ops.length)(ha:dL (opAt ops j) i=false)(f:Nat->Value)(u:Value) :
 Region.wanted (opAt ops j) (yf ops.toArray (put f (opAt ops i).dst u))=Region.wanted (opAt ops j) (yf ops.toArray f):=by
 unfold Region.wanted
 cases hg:(opAt ops j).guard with
 | none=>rfl
 | some gb =>
   obtain⟨g,b⟩:=gb;simp only;have c:=(fI a q).2.2.1 g b hg;have m:g≠i:=fun e=>by subst e; rw[ha]at c; cases c
   congr 1
   unfold yf
   cases hd:(ops.toArray[g]?).bind (·.dst)with
   | none=>rfl
   | some d =>
     simp only;have p:g<ops.length:=by
      cases hq:ops.toArray[g]? with
      | none=>rw[hq]at hd; cases hd
      | some o=>have:=(t_.1 hq).1; simpa using this
     have l:(opAt ops g).dst=some d:=by
      unfold opAt;rw[List.getElem?_toArray]at hd;rw[r_]
      cases hq:ops[g]? with
      | none=>rw[hq]at hd; cases hd
      | some o=>rw[hq]at hd; exact hd
     have e:put f (opAt ops i).dst u d=f d:=by
      cases hdi:(opAt ops i).dst with
      | none=>rfl
      | some di =>
        simp only[put]
        cases hb:Nat.beq d di with
        | false=>rfl
        | true =>
          have e:=B_ hb;subst e;have k:=((fI a hi).1 d hdi).1;have h:=((fI a p).1 d l).1;rw[k]at h; exact N_ (C_ h).symm m
     rw[e]
theorem Js{ops:List Oper}(d:mE n ops=true)(e:Region.noSelect ops.toArray=true){i j:Nat}(hi:i<ops.length)(a:j<ops.length)(ha:dL (opAt ops j) i=false)(f:Nat->Value)(u:Value) :
 execOp (ev (put f (opAt ops i).dst u)) (opAt ops j)=execOp (ev f) (opAt ops j) :=
 execOp_congr _ (fun c b=>Region.noSelect_spec e j (opAt ops j) c b (by
  unfold opAt; rw[List.getElem?_toArray,r_,o_ a]; rfl)) (ada d hi a ha f u)
def ru(ops:List Oper)(cs:List Nat)(fJ:List (Nat × Nat × List Nat))(i j:Nat):Bool :=
 !dL (opAt ops i) j&&((uT (cs.getD i 3)&&(Nat.beq (cs.getD i 3) 0 || uT (cs.getD j 3) || (Nat.beq (cs.getD i 3) 1&&Nat.beq (cs.getD j 3) 2))) || fJ.any fun c=>Nat.beq c.1 j&&Nat.beq c.2.1 i&&yO ops j c.2.2 i)
def wU(ops:List Oper)(cs:List Nat)(fJ:List (Nat × Nat × List Nat)):List Nat->Bool
 | []=>true
 | i::l=>l.all (ru ops cs fJ i)&&wU ops cs fJ l
def AX(ops:List Oper)(l:List Nat):Bool:=Nat.beq l.length ops.length&&l.all (fun i=>Nat.blt i ops.length)&&decide l.Nodup&&(List.range ops.length).all (fun i=>l.any (Nat.beq i))
theorem swap(o:mE n ops=true)(x:Region.noSelect ops.toArray=true){i j:Nat}(hi:i<ops.length)(m:j<ops.length)(s:i≠j)(q:dL (opAt ops j) i=false)(z:dL (opAt ops i) j=false)(E : ∀ w,S w w)(B : ∀ a b c,S a b->S b c->S a c)(C:uT (cs.getD i 3)=true)(D:cs.getD i 3=0\/uT (cs.getD j 3)=true\/(cs.getD i 3=1/\cs.getD j 3=2))
 {l:List Nat} {f:Nat->Value} {w:World} (h:R P n ops cs S Q (i::j::l) f w):R P n ops cs S Q (j::i::l) f w:=by
 obtain⟨A,t,h⟩:=h.stl C;have y : ∀(u:Value) (w':World),acZ S (cs.getD i 3) w w'->Stl P ops cs S i (put f (opAt ops j).dst u) w' A:=fun u w' k=>by
  unfold Stl;rw[Fw o m hi z,Js o x m hi z]
  rcases t with t|⟨p,g,h3⟩
  ·exact .inl t
  ·refine .inr ⟨p,g,fun w2 d=>h3 w2 ?_⟩
   rcases k with k|⟨k,hb2⟩|k
   ·exact .inl k
   ·rcases d with d|⟨_,d⟩|d
    ·exact .inl d
    ·exact .inr (.inl ⟨k,B _ _ _ hb2 d⟩)
    ·subst d; exact .inr (.inl ⟨k,hb2⟩)
   ·subst k; exact d
 unfold R at h;rw[Fw o hi m q,Js o x hi m q]at h;rw[R]
 rcases h with ⟨p,g⟩|⟨p,⟨g,v,h3,d⟩|⟨g,h3⟩⟩
 ·refine .inl ⟨p,R.Nt (y undef w (.inr (.inr rfl))) ?_⟩;rw[CJ o hi m s]at g; exact g
 ·refine .inr ⟨p,.inl ⟨g,v,h3,R.Nt (y v w (.inr (.inr rfl))) ?_⟩⟩;rw[CJ o hi m s]at d; exact d
 refine .inr ⟨p,.inr ⟨g,?_⟩⟩;unfold Out at h3;rw[Js o x hi m q]at h3;refine Out.mono (K:=fun v w'=>(cs.getD j 3=2->S w w')/\R P n ops cs S Q l (put (put f (opAt ops i).dst A) (opAt ops j).dst v) w') h3 fun v w' r=>⟨r.1,R.Nt (y v w' ?_) ?_⟩
 ·rcases D with e|e|⟨e,e2⟩
  ·exact .inl e
  ·rw[g]at e; cases e
  exact .inr (.inl ⟨e,r.1 e2⟩)
 have:=r.2; rw[CJ o hi m s]at this; exact this
theorem bubble(o:mE n ops=true)(p:Region.noSelect ops.toArray=true)(e : ∀ w,S w w)(g : ∀ a b c,S a b->S b c->S a c){j:Nat}(m:j<ops.length){l:List Nat} :
 ∀(d:List Nat),(∀ i∈d,i<ops.length/\i≠j/\dL (opAt ops j) i=false/\dL (opAt ops i) j=false/\uT (cs.getD i 3)=true/\(cs.getD i 3=0\/uT (cs.getD j 3)=true\/(cs.getD i 3=1/\cs.getD j 3=2))) -> ∀ f w,R P n ops cs S Q (d++j::l) f w->R P n ops cs S Q (j::(d++l)) f w
 | [],_,f,w,h=>h
 | i::d,hp,f,w,h=>by
   obtain⟨q,r,s,t,u,v⟩:=hp i (List.mem_cons_self ..);exact swap o p q m r s t e g u v (R.tail (fun f w=>bubble o p e g m d (fun k x=>hp k (List.mem_cons_of_mem _ x)) f w) h)
theorem wV{fJ:List (Nat × Nat × List Nat)} : ∀ {l:List Nat},wU ops cs fJ l=true->l.Pairwise fun i j=>ru ops cs fJ i j=true
 | [],_=>List.Pairwise.nil
 | i::l,h=>by
   unfold wU at h;rw[T_,List.all_eq_true]at h;exact List.Pairwise.cons h.1 (wV h.2)
theorem R.any(O:mE n ops=true)(hsel:Region.noSelect ops.toArray=true)(hS : ∀ w,S w w)(hT : ∀ a b c,S a b->S b c->S a c){fJ:List (Nat × Nat × List Nat)} : ∀(k:Nat) (t:List Nat) (p:Array Bool) (a:Act) (f:Nat->Value) (w:World),t.length=k->p.size=ops.length->Kv ops.toArray .any p ->
 (∀ i,i∈t<->i<ops.length/\p.getD i false=false)->t.Nodup->(t.Pairwise fun i j=>ru ops cs fJ i j=true)->Fr a n f->R P n ops cs S Q t f w->wpAny P .any ops.toArray (lift n Q) k p a w:=by
 intro k
 induction k with
 | zero =>
   intro t p a f w F Z J x G H A h;have:t = []:=List.eq_nil_of_length_eq_zero F;subst this;refine⟨?_,f,A,h⟩;rw[List.eq_nil_iff_forall_not_mem];intro j E;obtain⟨z,u,_,_⟩:=fV E;exact N_ ((x j).2 ⟨u,z⟩) (by simp)
 | succ k ih =>
   intro t p a f w F Z J x G H A h;refine⟨fun hr => ?_,fun j E => ?_⟩
   ·cases t with
    | nil=>simp at F
    | cons r anc =>
      exfalso;obtain⟨z,u⟩:=(x r).1 (List.mem_cons_self ..);have:r∈Region.ready .any ops.toArray p:=by
       refine mem_ready.2 ⟨getD_in (by omega) u,opAt ops r,by unfold opAt; rw[List.getElem?_toArray,r_,o_ z]; rfl,fun e L C => ?_⟩;have B:dL (opAt ops r) e.on=true:=by
        unfold dL; rw[Array.any_eq_true']; exact⟨e,L,by rw[C,Nat.beq_refl]; rfl⟩
       have hlt:=(fI O z).2.2.2 e.on B
       cases hle:p.getD e.on false with
       | true=>rfl
       | false =>
         have g:=(x e.on).2 ⟨by omega,hle⟩
         rcases List.mem_cons.1 g with e1|e1
         ·omega
         ·have o:=(List.pairwise_cons.1 H).1 _ e1;unfold ru at o;rw[B]at o; simp at o
      rw[hr]at this; simp at this
   ·obtain⟨z,u,V,W⟩:=fV E;have hjm:=(x j).2 ⟨u,z⟩;obtain⟨s,y,rfl⟩:=List.append_of_mem hjm;have C:=bubble (P:=P) (cs:=cs) (S:=S) (Q:=Q) O hsel hS hT u (l:=y) s (fun i M=>by
     obtain⟨h5,X⟩:=(x i).1 (List.mem_append_left _ M);have N:i≠j:=fun e=>by
      subst e;exact(List.nodup_append.1 G).2.2 i M i (List.mem_cons_self ..) rfl
     have o:ru ops cs fJ i j=true:=(List.pairwise_append.1 H).2.2 i M j (List.mem_cons_self ..);unfold ru at o;rw[T_,Bool.or_eq_true]at o;have adb:dL (opAt ops j) i=false:=by
      cases hq:dL (opAt ops j) i with
      | false=>rfl
      | true=>have:=W i hq; rw[X]at this; cases this
     refine⟨h5,N,adb,by simpa using o.1,?_⟩
     rcases o.2 with o|o
     ·rw[T_,Bool.or_eq_true]at o;refine⟨o.1,?_⟩
      rcases o.2 with q|q
      ·rw[Bool.or_eq_true]at q;exact q.elim (fun q => .inl (B_ q)) (fun q => .inr (.inl q))
      ·rw[T_]at q;exact .inr (.inr ⟨B_ q.1,B_ q.2⟩)
     ·exfalso;rw[List.any_eq_true]at o;obtain⟨c,_,Y⟩:=o;rw[T_,T_]at Y;obtain⟨m,g⟩:=jw Y.2
      cases m with
      | zero=>unfold reach at g; simp at g; exact N g.symm
      | succ m =>
        unfold reach at g;rw[Bool.or_eq_true]at g
        rcases g with g|g
        ·simp at g; exact N g.symm
        ·rw[V]at g;simp only at g;rw[Array.any_eq_true']at g;obtain⟨e,L,g⟩:=g;rw[T_]at g;have B:dL (opAt ops j) e.on=true:=by
          unfold dL; rw[Array.any_eq_true']; exact⟨e,L,by rw[g.1,Nat.beq_refl]; rfl⟩
         have:=J.reach _ _ g.2 (W e.on B);rw[X]at this; cases this) f w h
    have hperm:(s++y).length=k:=(by simp at F ⊢; omega);have hnd':(s++y).Nodup:=by
     refine G.sublist ?_;exact List.Sublist.append_left (List.sublist_cons_self ..) s
    have ade:(s++y).Pairwise fun i j=>ru ops cs fJ i j=true:=H.sublist (List.Sublist.append_left (List.sublist_cons_self ..) s);have hmem' : ∀ i,i∈s++y<->i<ops.length/\(p.setIfInBounds j true).getD i false=false:=fun i=>by
     by_cases e:j=i
     ·subst e;rw[set_self (by omega)];constructor
      ·intro g;exfalso;have D:=List.nodup_append.1 G
       rcases List.mem_append.1 g with q|q
       ·exact D.2.2 j q j (List.mem_cons_self ..) rfl
       ·exact(List.nodup_cons.1 D.2.1).1 q
      ·intro q; cases q.2
     ·rw[kL e,<- x i];simp only[List.mem_append,List.mem_cons];constructor
      ·rintro (q|q)
       ·exact .inl q
       ·exact .inr (.inr q)
      ·rintro (q|q|q)
       ·exact .inl q
       ·exact N_ q.symm e
       ·exact .inr q
    have T : ∀(v:Value) (w':World),R P n ops cs S Q (s++y) (put f (opAt ops j).dst v) w'->wpAny P .any ops.toArray (lift n Q) k (p.setIfInBounds j true) (a.put (opAt ops j).dst v) w':=fun v w' hR =>
     ih (s++y) _ _ _ w' hperm (by simp[Z]) (J.set E) hmem' hnd' ade (A.put (by
      cases D:(opAt ops j).dst with
      | none=>rfl
      | some d=>have:=((fI O u).1 d D).2; simpa [inn,Nat.blt_eq] using this) v) hR
    unfold wpOp;rw[V];simp only;rw[A.yf];unfold R at C
    rcases C with ⟨I,U⟩|⟨I,⟨U,v,q3,q4⟩|⟨U,q3⟩⟩
    ·rw[b_ (by rw[I]; decide)]; exact T _ _ U
    ·rw[d_ I];refine .inl<|Out.wp (K:=fun v' w'=>v'=v/\w'=w) A (.inl ⟨v,w,q3 w (.inr (.inr rfl)),rfl,rfl⟩) ?_;rintro v' w' ⟨rfl,rfl⟩;exact T _ _ q4
    ·rw[d_ I];exact .inl (Out.wp A q3 fun v w' hk=>T v w' hk.2)
theorem Ad{f:Nat->Value}{w:World}{id:Nat}(l:List Nat)(cs:List Nat)(S:World->World->Prop)(g : ∀ w,S w w)(j : ∀ a b c,S a b->S b c->S a c)(fJ:List (Nat × Nat × List Nat))(s:P.follows .mixedOrders=true)(t:mE n ops=true)(v:Region.noSelect ops.toArray=true)(e:AX ops l=true)(u:wU ops cs fJ l=true)
 (h : ∀ w1,Below w.heap.size w w1->w1.heap.size=w.heap.size->R P n ops cs S Q l f w1):W P n (.region id ops.toArray true) Q f w:=fun a m=>by
 refine wp_region_any s ?_;unfold AX at e;rw[T_,T_,T_,List.all_eq_true,List.all_eq_true]at e;obtain⟨⟨⟨x,y⟩,p3⟩,p4⟩:=e;have r:=B_ x;have z:l.Nodup:=h_ p3;have:=R.any (P:=P) (Q:=Q) (fJ:=fJ) t v g j ops.length l (Array.replicate ops.length false) a f { w with drawn:=w.drawn+1 } r (by simp) (Kv.start _ _ _) (fun i=>by
  have o : ∀ i,(Array.replicate ops.length false).getD i false=false:=fun i=>getD_replicate_false _ _;constructor
  ·intro d; exact⟨by simpa [Nat.blt_eq] using y i d,o i⟩
  ·intro d;obtain⟨k,p,q⟩:=List.any_eq_true.1 (p4 i (by simpa using d.1));rw[B_ q]; exact p) z (wV u) m (h { w with drawn:=w.drawn+1 } (Below.refl _ _).drew rfl)
 simpa using this
end
section
variable {P:Program} {n:Nat} {ops:List Oper} {cs:List Nat} {S:World->World->Prop} {Q:Post} {f:Nat->Value} {w:World} {i:Nat} {l:List Nat}
theorem Rn(h:Q .normal f w):R P n ops cs S Q [] f w:=h
theorem Rk(a:Region.wanted (opAt ops i) (yf ops.toArray f)=false)(h:R P n ops cs S Q l (put f (opAt ops i).dst undef) w):R P n ops cs S Q (i::l) f w := .inl ⟨a,h⟩
theorem R.pure{v:Value}(b:Region.wanted (opAt ops i) (yf ops.toArray f)=true)(a:Nat.beq (cs.getD i 3) 0=true)(hr : ∀ w2,(execOp (ev f) (opAt ops i)).run P w2 = .ok (.value v) w2)(h:R P n ops cs S Q l (put f (opAt ops i).dst v) w):R P n ops cs S Q (i::l) f w :=
 .inr ⟨b,.inl ⟨by rw[B_ a]; rfl,v,fun w2 _=>hr w2,h⟩⟩
theorem Rd{v:Value}(d:Region.wanted (opAt ops i) (yf ops.toArray f)=true)(a:Nat.beq (cs.getD i 3) 1=true)(b:S w w)(hr : ∀ w2,S w w2->(execOp (ev f) (opAt ops i)).run P w2 = .ok (.value v) w2)(h:R P n ops cs S Q l (put f (opAt ops i).dst v) w):R P n ops cs S Q (i::l) f w :=
 .inr ⟨d,.inl ⟨by rw[B_ a]; rfl,v,fun w2 c=>hr w2 (by
  rcases c with e|⟨_,e⟩|e
  ·rw[B_ a]at e; cases e
  ·exact e
  ·subst e; exact b),h⟩⟩
theorem R.still{v:Value}(c:Region.wanted (opAt ops i) (yf ops.toArray f)=true)(a:Nat.beq (cs.getD i 3) 4=true)(hr:(execOp (ev f) (opAt ops i)).run P w = .ok (.value v) w)(h:R P n ops cs S Q l (put f (opAt ops i).dst v) w):R P n ops cs S Q (i::l) f w :=
 .inr ⟨c,.inl ⟨by rw[B_ a]; rfl,v,fun w2 b=>by
  rcases b with e|⟨e,_⟩|e
  ·rw[B_ a]at e; cases e
  ·rw[B_ a]at e; cases e
  ·subst e; exact hr,h⟩⟩
theorem Rp(v:Value)(hr : ∀ w2,Runs P f (opAt ops i) w2 v)(h:R P n ops cs S Q l (put f (opAt ops i).dst v) w)(b:Region.wanted (opAt ops i) (yf ops.toArray f)=true:=by rfl)(a:Nat.beq (cs.getD i 3) 0=true:=by rfl):R P n ops cs S Q (i::l) f w:=R.pure b a hr h
theorem Rs(v:Value)(hr:Runs P f (opAt ops i) w v)(h:R P n ops cs S Q l (put f (opAt ops i).dst v) w)(b:Region.wanted (opAt ops i) (yf ops.toArray f)=true:=by rfl)(a:Nat.beq (cs.getD i 3) 4=true:=by rfl):R P n ops cs S Q (i::l) f w:=R.still b a hr h
theorem R.qM(d:Nat.beq (cs.getD i 3) 3=true)(h:L P n ops.toArray (fun _ c w'=>R P n ops cs S Q l c w') [opAt ops i] f w):R P n ops cs S Q (i::l) f w:=by
 have g:=B_ d;obtain⟨_,⟨a,b⟩|⟨a,b⟩⟩:=h
 ·refine .inr ⟨a,.inr ⟨by rw[g]; rfl,Out.mono (K:=fun v w'=>R P n ops cs S Q l (put f (opAt ops i).dst v) w') b fun v w' j=>⟨fun e=>by omega,j⟩⟩⟩
 exact .inl ⟨a,b⟩
theorem R.make(e:Nat.beq (cs.getD i 3) 2=true)(h:L P n ops.toArray (fun _ d w'=>S w w'/\R P n ops cs S Q l d w') [opAt ops i] f w):R P n ops cs S Q (i::l) f w:=by
 have g:=B_ e;obtain⟨_,⟨a,b⟩|⟨a,b⟩⟩:=h
 ·exact .inr ⟨a,.inr ⟨by rw[g]; rfl,Out.mono (K:=fun v w'=>S w w'/\R P n ops cs S Q l (put f (opAt ops i).dst v) w') b fun v w' c=>⟨fun _=>c.1,c.2⟩⟩⟩
 exact .inl ⟨a,b.2⟩
def Mk(w w':World):Prop:=Below w.heap.size w w'
theorem uf(w:World):Mk w w:=Below.refl _ _
theorem Mk.trans(a b c:World)(h:Mk a b)(k:Mk b c):Mk a c:=M6 h k
end
end Go.Proofs.YtcbedgfikejkoaaGreatDoor.Fx
namespace Go.Proofs.YtcbedgfikejkoaaGreatDoor.Fx
open Go.RowKit
theorem u8e{a c:Int}(h:0<=c/\c<=255)(e:a=c):IntKind.u8.wrap a=c:=by subst e; exact IntWalk.u8_in _ h
def flat(s:Nat)(F:Nat->Nat->Value):Nat->Value:=fun p=>F (p / s) (p % s)
theorem kU{s k j p:Nat}{F:Nat->Nat->Value}(b:p=s*k+j)(a:j<s):flat s F p=F k j:=by
 subst b;have c:0<s:=by omega
 unfold flat;rw[Nat.add_comm,Nat.add_mul_div_left _ _ c,Nat.div_eq_of_lt a,H_,Nat.add_mul_mod_self_left,Nat.mod_eq_of_lt a]
theorem iB{s k j p:Nat}{F:Nat->Nat->Value}{v:Value}(b:p=s*k+j)(a:j<s)(e:F k j=v):flat s F p=v:=(kU b a).trans e
theorem bK{s n:Nat}{F G:Nat->Nat->Value}(h : ∀ k,k<n -> ∀ j,j<s->F k j=G k j) : ∀ p,p<n*s->flat s F p=flat s G p:=fun p a=>by
 have b:0<s:=Nat.pos_of_ne_zero fun e=>by subst e; simp at a
 unfold flat;exact h _ (Nat.div_lt_of_lt_mul (by rw[Nat.mul_comm]; exact a)) _ (K_ _ b)
def rY(F:Nat->Nat->Value)(k:Nat)(y:Nat->Value):Nat->Nat->Value:=fun i=>if i=k then y else F i
theorem yQ{s n:Nat}{F:Nat->Nat->Value}{y z:Nat->Value} : ∀ p,p<(n+1)*s->iJ (flat s F) (n*s) (bG z (0*s) s y) p=flat s (rY F n y) p:=fun p a=>by
 have d:0<s:=Nat.pos_of_ne_zero fun e=>by subst e; simp at a
 unfold iJ;by_cases h:p<n*s
 ·rw[d_ h];have c:p / s<n:=Nat.div_lt_of_lt_mul (by rw[Nat.mul_comm]; exact h);unfold flat rY;rw[b_ (by omega)]
 ·rw[b_ h];have e:p=s*n+(p-n*s):=by rw[Nat.mul_comm s n]; omega
  have b:p-n*s<s:=by rw[Nat.add_mul]at a; omega
  rw[kU e b];unfold bG rY;rw[d_ (by omega),d_ rfl]
  congr 1; omega
theorem vM{s n k:Nat}{F:Nat->Nat->Value}{y:Nat->Value}{o:Nat}(b:o=s*k) : ∀ p,p<n*s->bG (flat s F) o s y p=flat s (rY F k y) p:=fun p c=>by
 subst b;have a:0<s:=Nat.pos_of_ne_zero fun e=>by subst e; simp at c
 unfold bG flat rY;have e:=Nat.div_add_mod p s;have g:=K_ p a;by_cases h:p / s=k
 ·rw[h]at e;rw[d_ ⟨by omega,by omega⟩,d_ h]; congr 1; omega
 ·rw[b_ h,b_];rintro ⟨d,f⟩;apply h;have:p=(p-s*k)+s*k:=by omega
  rw[this,Nat.add_mul_div_left _ _ a,Nat.div_eq_of_lt (by omega),H_]
theorem HZ{s n k j:Nat}{F:Nat->Nat->Value}{v:Value}{o:Nat}(f:o=s*k+j)(d:j<s) : ∀ p,p<n*s->dJ (flat s F) o v p=flat s (rY F k (dJ (F k) j v)) p:=fun p i=>by
 subst f;have b:0<s:=by omega
 unfold dJ flat rY;have e:=Nat.div_add_mod p s;have g:=K_ p b;by_cases h:p / s=k
 ·rw[d_ h,h];rw[h]at e;by_cases a:p % s=j
  ·rw[d_ (by omega),d_ a]
  ·rw[b_ (by omega),b_ a]
 ·rw[b_ h,b_];intro c;apply h;rw[c,Nat.add_comm,Nat.add_mul_div_left _ _ b,Nat.div_eq_of_lt d,H_]
theorem CK{s n k j c:Nat}{F:Nat->Nat->Value}{y:Nat->Value}{o:Nat}(d:o=s*k+j)(i:j+c<=s) : ∀ p,p<n*s->bG (flat s F) o c y p=flat s (rY F k (bG (F k) j c y)) p:=fun p f=>by
 subst d;have b:0<s:=Nat.pos_of_ne_zero fun e=>by subst e; simp at f
 unfold bG flat rY;have e:=Nat.div_add_mod p s;have l:=K_ p b;by_cases h:p / s=k
 ·rw[d_ h,h];rw[h]at e;by_cases a:j<=p % s/\p % s<j+c
  ·rw[d_ (by omega),d_ a]; congr 1; omega
  ·rw[b_ (by omega),b_ a]
 ·rw[b_ h,b_];rintro ⟨g,a⟩;apply h;have:p=(p-s*k)+s*k:=by omega
  rw[this,Nat.add_mul_div_left _ _ b,Nat.div_eq_of_lt (by omega),H_]
def nV(w:World)(a:Option Addr)(n s:Nat)(x:Nat->Value):Prop:=0<n -> ∃ b c,a=some ⟨b,c,none⟩/\iU w b c (n*s) x
section
variable {w w':World} {a:Option Addr} {n s:Nat} {x:Nat->Value}
theorem nV.below{B:Nat}(h:nV w a n s x)(g:Below B w w')(f : ∀ b c,a=some ⟨b,c,none⟩->b<B):nV w' a n s x:=fun d=>by
 obtain⟨b,c,e,i⟩:=h d;exact⟨b,c,e,i.below g (f b c e)⟩
theorem nV.up(h:nV w a n s x)(f:Below w.heap.size w w')(g:Nat.blt 0 s=true):nV w' a n s x:=fun c=>by
 obtain⟨b,j,e,d⟩:=h c;have i:0<s:=by simpa [Nat.blt_eq] using g
 exact⟨b,j,e,d.below f (d.lt (Nat.mul_pos c i))⟩
theorem nV.at{F:Nat->Nat->Value}(h:nV w a n s (flat s F)){k:Nat}(j:k<n) : ∃ b c,a=some ⟨b,c,none⟩/\iU w b (c+s*k) s (F k):=by
 obtain⟨b,c,e,f⟩:=h (by omega);refine⟨b,c,e,fun i g => ?_⟩;have l:s*k+i<n*s:=by
  have d:(k+1)*s<=n*s:=Nat.mul_le_mul_right s j;rw[Nat.add_mul,Nat.one_mul,Nat.mul_comm k s]at d;omega
 have:=f (s*k+i) l;rw[kU rfl g,<- Nat.add_assoc]at this;exact this
theorem Own.arr{B:Nat}{E:TypeId}{c:Nat}(h:Own w B E s (.slice a n c) n x):nV w a n s x:=fun b=>by
 obtain⟨g,cap,e,_,_,_,d⟩:=h.form b;simp only[Value.slice.injEq,true_and]at e;exact⟨g,0,e.1,d⟩
theorem Own.addr{B:Nat}{E:TypeId}{c:Nat}(h:Own w B E s (.slice a n c) n x)(b:0<n) : ∃ g,a=some ⟨g,0,none⟩:=by
 obtain⟨g,cap,e,_⟩:=h.form b;simp only[Value.slice.injEq,true_and]at e;exact⟨g,e.1⟩
end
def Ty(w:World)(g:Nat)(T:TypeId):Prop := ∃ c,w.heap[g]? = some (.cells c T (0,0))
theorem Ty.ne{w:World}{g b:Nat}{T T':TypeId}(h:Ty w g T)(a:Ty w b T')(ne:T≠T'):g≠b:=fun e=>by
 subst e;obtain⟨c,h⟩:=h;obtain⟨d,a⟩:=a;rw[h]at a;simp only[Option.some.injEq,Obj.cells.injEq]at a;exact ne a.2.1
theorem aQ.ty{w:World}{g n:Nat}{x:Nat->Value}{T:TypeId}(h:aQ w g n x T):Ty w g T:=⟨_,h⟩
theorem Own.ty{w:World}{B:Nat}{E:TypeId}{s:Nat}{v:Value}{n:Nat}{x:Nat->Value}(h:Own w B E s v n x){g:Nat}(a:v.ownBlock=some g):Ty w g E:=by
 rcases h.2 with ⟨rfl,_⟩|⟨g',cap,cur,rfl,hb,hgg,_⟩
 ·cases a
 simp only[Value.ownBlock,Option.some.injEq]at a; subst a;exact⟨_,hgg⟩
theorem Own.KJ{w:World}{B:Nat}{E:TypeId}{s g cap:Nat}{n:Nat}{x:Nat->Value}(h:Own w B E s (.slice (some ⟨g,0,none⟩) n cap) n x):Ty w g E:=h.ty rfl
structure jg(Ts:List TypeId)(w w':World):Prop where
 os:w'.os=w.os
 tape:w'.tape=w.tape
 output:w'.output=w.output
 size:w.heap.size<=w'.heap.size
 block : ∀ k,k<w.heap.size->(∀ T,Ty w k T->Ts.contains T=false)->w'.heap[k]? = w.heap[k]?
theorem Ty.only{w:World}{k:Nat}{T T':TypeId}(h:Ty w k T)(a:Ty w k T'):T'=T:=Classical.byContradiction fun b=>Ty.ne a h b rfl
section
variable {w w':World} {T:TypeId} {Ts:List TypeId}
theorem fP{g:Nat}(a:Stp g w w')(d:Ty w g T):jg [T] w w':=⟨a.os,a.tape,a.output,a.size,fun k b c=>a.block k b fun e=>by
 have:=c T (by rw[e]; exact d);simp at this⟩
theorem zC{B:Nat}{s:Nat}{v:Value}{n:Nat}{x:Nat->Value}(a:w.grownBy w' v.ownBlock)(h:Own w B T s v n x):jg [T] w w':=⟨a.os,a.tape,a.output,a.size,fun k b c=>a.block k b fun e=>by
 have:=c T (h.ty e.symm);simp at this⟩
theorem jg.of_below(h:Below w.heap.size w w'):jg Ts w w':=⟨h.os,h.tape,h.output,h.size,fun k a _=>h.block k a⟩
theorem jg.Tz{S:Nat->Prop}(h:jI S w w')(f : ∀ k,S k -> ∃ T,Ty w k T/\Ts.contains T=true):jg Ts w w':=⟨h.os,h.tape,h.output,h.size,fun k c d=>h.block k c fun e=>by
 obtain⟨T,b,a⟩:=f k e;rw[d T b]at a; cases a⟩
theorem vN(w:World):jg Ts w w:=⟨rfl,rfl,rfl,A_ _,fun _ _ _=>rfl⟩
theorem jg.trans(a b c:World)(h:jg Ts a b)(k:jg Ts b c):jg Ts a c:=⟨k.os.trans h.os,k.tape.trans h.tape,k.output.trans h.output,m_ h.size k.size,fun i d f =>
 have e:=h.block i d f
 (k.block i (n_ d h.size) fun T ⟨g,j⟩=>f T ⟨g,by rw[<- e]; exact j⟩).trans e⟩
theorem jg.wide{Us:List TypeId}(h:jg Ts w w')(d:Ts.all Us.contains=true):jg Us w w':=⟨h.os,h.tape,h.output,h.size,fun k b c=>h.block k b fun T e=>by
 cases hq:Ts.contains T with
 | false=>rfl
 | true =>
   have a:=c T e;rw[List.all_eq_true.1 d T (List.contains_iff_mem.1 hq)]at a; cases a⟩
theorem aQ.kV{b n:Nat}{x:Nat->Value}{a:TypeId}(h:aQ w b n x a)(c:jg Ts w w')(e:Ts.contains a=false):aQ w' b n x a:=(c.block b h.lt fun _ d=>by rw[Ty.only h.ty d]; exact e).trans h
theorem Own.kV{B:Nat}{E:TypeId}{s:Nat}{v:Value}{n:Nat}{x:Nat->Value}(h:Own w B E s v n x)(b:jg Ts w w')(d:Ts.contains E=false):Own w' B E s v n x:=by
 refine⟨h.1,?_⟩
 rcases h.2 with a|⟨g,cap,cur,rfl,hb,hg,rest⟩
 ·exact .inl a
 exact .inr ⟨g,cap,cur,rfl,hb,(b.block g (t_.1 hg).1 fun _ c=>by rw[Ty.only ⟨_,hg⟩ c]; exact d).trans hg,rest⟩
theorem Own.mono{B b:Nat}{E:TypeId}{s:Nat}{v:Value}{n:Nat}{x:Nat->Value}(h:Own w B E s v n x)(c:b<=B):Own w b E s v n x:=by
 refine⟨h.1,?_⟩
 rcases h.2 with a|⟨g,cap,cur,rfl,hb,rest⟩
 ·exact .inl a
 exact .inr ⟨g,cap,cur,rfl,m_ c hb,rest⟩
theorem Own.fu{B:Nat}{E:TypeId}{s:Nat}{v a:Value}{n:Nat}{x:Nat->Value}(h:Own w B E s v n x)(e:v=a):Own w B E s a n x:=e ▸ h
end
section
variable {P:Program} {f:Nat->Value} {w:World} {o:Oper}
theorem abq{T T':TypeId}{x y:Operand}{k c:IntKind}{a q:Int}{b:Nat}(d:o.op = .binOp .shr T x y T')(hx:ev f x = .int k a)(hy:ev f y = .int c b)(h:b<=k.bits)(e:(2:Int)^b=q):Runs P f o w (.int k (a / q)):=by
 unfold Runs execOp;simp only[d,hx,hy];have g:(binOp .shr T (.int k a) (.int c (b:Int))).run P w = .ok (.int k (a / q)) w:=by
  simp only[binOp];rw[shift_shr _ _ _ _ (by omega) (by omega),show(b:Int).toNat=b by omega,e];simp
 simp only[Sem.run_bind,pI,Result.andThen_ok,g,Sem.run_pure]
end
theorem bA{n o m:Nat}{x y:Nat->Value}(hx : ∀ j,j<n->(x j).oneCell'=true)(hy : ∀ j,j<m->(y j).oneCell'=true) : ∀ j,j<n->(bG x o m y j).oneCell'=true:=fun j a=>by
 unfold bG; split
 ·rename_i h; exact hy _ (by omega)
 ·exact hx j a
def KL(F:Nat->Nat->Value)(y:Nat->Value)(n k:Nat):Nat->Nat->Value:=fun i=>if i<=k then(if i<n then F i else y)else F (i-1)
def Jt(F:Nat->Nat->Value)(k:Nat)(y:Nat->Value):Nat->Nat->Value:=fun i=>if i<k then F i else if i=k then y else F (i-1)
def cK{a:Type}(f:Nat->a)(k:Nat)(v:a):Nat->a:=fun i=>if i<k then f i else if i=k then v else f (i-1)
theorem Av{F:Nat->Nat->Value}{y:Nat->Value}{n k j:Nat}(h:j<k)(a:k<=n):KL F y n k j=F j:=by unfold KL; rw[d_ (by omega),d_ (by omega)]
theorem yR{F:Nat->Nat->Value}{y:Nat->Value}{n:Nat} : ∀ i,i<n+1 -> ∀ j:Nat,rY F n y i j=KL F y n n i j:=fun i a j=>by
 unfold rY KL;rw[d_ (show i<=n by omega)];by_cases h:i=n
 ·rw[d_ h,b_ (by omega)]
 ·rw[b_ h,d_ (by omega)]
theorem zD{F:Nat->Nat->Value}{y:Nat->Value}{n k j:Nat}(e:k=j+1)(_hk:k<=n) : ∀ i,i<n+1 -> ∀ q:Nat,rY (KL F y n k) k (F j) i q=KL F y n j i q:=fun i _ q=>by
 unfold rY KL;by_cases h:i=k
 ·rw[d_ h,b_ (by omega),show i-1=j by omega]
 ·rw[b_ h];by_cases a:i<=j
  ·rw[d_ (by omega),d_ a]
  ·rw[b_ (by omega),b_ a]
theorem uH{F:Nat->Nat->Value}{y:Nat->Value}{n k:Nat}(b:k<=n) : ∀ i,i<n+1 -> ∀ q:Nat,rY (KL F y n k) k y i q=Jt F k y i q:=fun i _ q=>by
 unfold rY KL Jt;by_cases h:i=k
 ·rw[d_ h,b_ (by omega),d_ h]
 ·rw[b_ h];by_cases a:i<k
  ·rw[d_ (by omega),d_ (by omega),d_ a]
  ·rw[b_ (by omega),b_ a,b_ h]
def down(P:Nat->Bool):Nat->Nat
 | 0=>0
 | n+1=>if P n then down P n else n+1
theorem qo{P:Nat->Bool}{k:Nat} : ∀ {n:Nat},k<=n->(∀ i,k<=i->i<n->P i=true)->(k=0 \/ ∀ j,k=j+1->P j=false)->k=down P n
 | 0,h,_,_=>by unfold down; omega
 | n+1,h,h1,h2=>by
   unfold down;by_cases e:k=n+1
   ·rcases h2 with h2|h2
    ·omega
    ·rw[h2 n e,b_ (by decide)]; exact e
   ·rw[h1 n (by omega) (by omega),d_ rfl];exact qo (by omega) (fun i a b=>h1 i a (by omega)) h2
theorem rZ(P:Nat->Bool) : ∀ n,down P n<=n
 | 0=>A_ _
 | n+1=>by
   unfold down; split
   ·have:=rZ P n; omega
   ·exact A_ _
theorem Ju{P:Nat->Bool} : ∀ {n i:Nat},down P n<=i->i<n->P i=true
 | 0,_,_,h=>N_ h (z_ _)
 | n+1,i,h1,h2=>by
   unfold down at h1;split at h1
   ·rename_i hp;by_cases e:i=n
    ·subst e; exact hp
    ·exact Ju h1 (by omega)
   ·omega
theorem Jv{P:Nat->Bool} : ∀ {n j:Nat},down P n=j+1->P j=false
 | 0,_,h=>by unfold down at h; omega
 | n+1,j,h=>by
   unfold down at h;split at h
   ·exact Jv h
   ·rename_i hp;have:j=n:=(by omega);subst this;exact Bool.eq_false_iff.2 hp
end Go.Proofs.YtcbedgfikejkoaaGreatDoor.Fx
namespace Go.Proofs.YtcbedgfikejkoaaGreatDoor
open Go.RowKit Fx
theorem Fx.iU.dr{w w':World}{b off n:Nat}{x:Nat->Value}(h:iU w b off n x)(a : ∃ q,w'=World.drewN w q):iU w' b off n x:=by obtain⟨q,rfl⟩:=a; exact h
theorem Fx.aQ.cb{w w':World}{g n:Nat}{x:Nat->Value}{T:TypeId}(h:aQ w g n x T)(a:Below w.heap.size w w'):iU w' g 0 n x:=h.aH.below a h.lt
theorem Fx.Own.cb{w w':World}{B g n c s:Nat}{E:TypeId}{x:Nat->Value}(h:Own w B E s (.slice (some ⟨g,0,none⟩) n c) n x)(a:Below w.heap.size w w'):iU w' g 0 (n*s) x:=h.aH.below a h.lt
namespace Rt
abbrev au(x:Int):Value := .int .i64 x
abbrev aC(x:Int):Value := .int .u64 x
abbrev zL0:Nat->Value:=fun a=>if a<12 then .bool false else if a<18 then aC 0 else if a<20 then .slice none 0 0 else if a<21 then .pointer none else .slice none 0 0
abbrev zK0:Nat->Value:=fun a=>if a<2 then aC 0 else au 0
abbrev zR0:Nat->Value:=fun a=>if a<1 then au 0 else if a<3 then aC 0 else if a<4 then au 0 else aC 0
abbrev zQ0:Nat->Value:=fun a=>if a<1 then au 0 else if a<8 then aC 0 else if a<9 then .int .u8 (0)else if a<10 then aC 0 else if a<12 then au 0 else aC 0
abbrev zS0:Nat->Value:=fun a=>if a<1 then au 0 else aC 0
abbrev zP0:Nat->Value:=fun a=>if a<12 then .bool false else if a<18 then aC 0 else .slice none 0 0
abbrev zT0:Nat->Value:=fun a=>if a<1 then .int .u8 (0)else if a<2 then aC 0 else if a<4 then au 0 else aC 0
theorem Kvq{n:Nat}{f g:Nat->Value}(h:(List.range n).map f=(List.range n).map g):∀ j,j<n->f j=g j:=fun j hj=>by
 have:=congrArg (fun l=>l[j]?) h;simpa [hj] using this
abbrev aG:Value := .bool true
abbrev aF:Value := .bool false
def qN(o:Oper):Operand:=match o.op with
 | .move x | .assign x | .nilCheck x | .load _ x | .extract x _ | .unOp _ _ x | .convert _ _ x | .fieldAddr _ x _ | .indexAddr _ x _ | .binOp _ _ x _ _ | .store _ x _ | .box _ x=>x
 | _ => .tmp 0
def zF(o:Oper):Operand:=match o.op with
 | .indexAddr _ _ y | .binOp _ _ _ y _ | .store _ _ y=>y
 | _ => .tmp 0
def Nu(o:Oper):TypeId:=match o.op with
 | .load t _ | .fieldAddr t _ _ | .indexAddr t _ _ | .store t _ _ | .box t _ | .alloc t=>t
 | _=>0
def QS(o:Oper):Bool:=match o.op with | .move _ | .assign _=>true|_=>false
def YC(o:Oper):Bool:=match o.op with | .load .. => true|_=>false
def YD(o:Oper):Bool:=match o.op with | .indexAddr .. => true|_=>false
def QT(o:Oper):Bool:=match o.op with | .store .. => true|_=>false
def EI(b:BinOp)(o:Oper):Bool:=match o.op with | .binOp c _ _ _ _=>(match b,c with | .add,.add | .sub,.sub | .mul,.mul | .lss,.lss | .leq,.leq | .gtr,.gtr | .geq,.geq | .eql,.eql | .neq,.neq=>true|_,_=>false)|_=>false
section
variable {P:Program} {n:Nat} {Q:Post} {f:Nat->Value} {w:World} {ops:Array Oper} {rest:List Oper} {o:Oper} {v:Value}
theorem YE(h:QS o=true):o.op = .move (qN o)\/o.op = .assign (qN o):=by
 unfold QS at h; unfold qN; split at h <;> simp_all
theorem OZ(h:YC o=true):o.op = .load (Nu o) (qN o):=by
 unfold YC at h; unfold qN Nu; split at h <;> simp_all
theorem O1(h:YD o=true):o.op = .indexAddr (Nu o) (qN o) (zF o):=by
 unfold YD at h; unfold qN Nu zF; split at h <;> simp_all
theorem EJ(h:QT o=true):o.op = .store (Nu o) (qN o) (zF o):=by
 unfold QT at h; unfold qN Nu zF; split at h <;> simp_all
theorem og{b:BinOp}(h:EI b o=true) : ∃ T a,o.op = .binOp b T (qN o) (zF o) a:=by
 unfold EI at h; unfold qN zF;split at h
 ·rename_i c T x y a e;rw[e];split at h <;> first|exact⟨_,_,rfl⟩|cases h
 cases h
theorem TA(hx:ev f (qN o)=v)(a:QS o=true:=by kernel_rfl):Runs P f o w v:=by
 rcases YE a with h|h
 ·exact fF h hx
 exact eP h hx
theorem aM{b off m p:Nat}{x:Nat->Value}(c:iU w b off m x)(i:Nat)(g:x i=v:=by exact rfl)(ha:ev f (qN o) = .pointer (some ⟨b,p,none⟩):=by exact rfl)(d:p=off+i:=by omega)(hi:i<m:=by omega)(e:YC o=true:=by kernel_rfl)(a:Tg P (Nu o)=true:=by kernel_rfl):Runs P f o w v :=
 bf (OZ e) ha a c hi d g
theorem fM{b off m p s:Nat}{x y:Nat->Value}(c:iU w b off m x)(i:Nat)(hy : ∀ j,j<s->x (i+j)=y j:=by intro j _; rw[H_])(ha:ev f (qN o) = .pointer (some ⟨b,p,none⟩):=by exact rfl)(d:p=off+i:=by omega)(hi:i+s<=m:=by omega)(e:YC o=true:=by kernel_rfl)(a:G8 P (Nu o)=true:=by kernel_rfl)(g:(P.info? (Nu o)).map (·.size)=some s:=by kernel_rfl):Runs P f o w (.agg (aA s y)) :=
 eG (OZ e) ha a g c hi d hy
def elS(P:Program)(T:TypeId):Option Nat:=match P.underlying T with|some (.slice E)=>(P.info? E).map (·.size)|_=>none
def elA(P:Program)(T:TypeId):Option (Nat × Nat):=match P.underlying T with|some (.array m E)=>(P.info? E).map fun i=>(m,i.size)|_=>none
theorem dB{b off c len cap:Nat}{k:IntKind}{j:Int}(s:Nat)(hx:ev f (qN o) = .slice (some ⟨b,off,none⟩) len cap:=by exact rfl)(hi:ev f (zF o) = .int k j:=by exact rfl)(d:0<=j:=by omega)(h1:j<(len:Int):=by omega)(g:off+j.toNat*s=c:=by omega)(h:YD o=true:=by kernel_rfl)(a:elS P (Nu o)=some s:=by kernel_rfl):Runs P f o w (.pointer (some ⟨b,c,none⟩)):=by
 unfold elS at a;split at a
 ·rename_i E e; exact dR (O1 h) hx hi e a d h1 g
 cases a
theorem jD{b off c:Nat}{k:IntKind}{j:Int}(m s:Nat)(hx:ev f (qN o) = .pointer (some ⟨b,off,none⟩):=by exact rfl)(hi:ev f (zF o) = .int k j:=by exact rfl)(d:0<=j:=by omega)(h1:j<(m:Int):=by omega)(g:off+j.toNat*s=c:=by omega)(h:YD o=true:=by kernel_rfl)(a:elA P (Nu o)=some (m,s):=by kernel_rfl):Runs P f o w (.pointer (some ⟨b,c,none⟩)):=by
 unfold elA at a;split at a
 ·rename_i m' E e;obtain⟨z,i,l⟩:=Option.map_eq_some_iff.1 a;obtain⟨rfl,rfl⟩:=Prod.mk.inj l;exact gH (O1 h) hx hi e (by rw[i]; rfl) d h1 g
 cases a
section
variable {k:IntKind} {a b c:Int}
theorem fH(hx:ev f (qN o) = .int k a:=by exact rfl)(hy:ev f (zF o) = .int k b:=by exact rfl)(d:k.wrap (a+b)=c:=by first|exact Fx.iM (by omega) (by omega)|exact Fx.jQ (by omega) (by omega))(e:EI .add o=true:=by kernel_rfl):Runs P f o w (.int k c):=by
 obtain⟨T,g,h⟩:=og e; exact KE h hx hy d
theorem gP(hx:ev f (qN o) = .int k a:=by exact rfl)(hy:ev f (zF o) = .int k b:=by exact rfl)(d:k.wrap (a-b)=c:=by first|exact Fx.iM (by omega) (by omega)|exact Fx.jQ (by omega) (by omega))(e:EI .sub o=true:=by kernel_rfl):Runs P f o w (.int k c):=by
 obtain⟨T,g,h⟩:=og e; exact abg h hx hy d
theorem iD(h:a<b)(hx:ev f (qN o) = .int k a:=by exact rfl)(hy:ev f (zF o) = .int k b:=by exact rfl)(c:EI .lss o=true:=by kernel_rfl):Runs P f o w (.bool true):=by
 obtain⟨T,d,e⟩:=og c; exact acD e hx hy h
theorem iE(h : ¬ a<b)(hx:ev f (qN o) = .int k a:=by exact rfl)(hy:ev f (zF o) = .int k b:=by exact rfl)(c:EI .lss o=true:=by kernel_rfl):Runs P f o w (.bool false):=by
 obtain⟨T,d,e⟩:=og c; exact acE e hx hy h
theorem oh(h:a<=b)(hx:ev f (qN o) = .int k a:=by exact rfl)(hy:ev f (zF o) = .int k b:=by exact rfl)(c:EI .leq o=true:=by kernel_rfl):Runs P f o w (.bool true):=by
 obtain⟨T,d,e⟩:=og c; exact acF e hx hy h
theorem oP(h : ¬ a<=b)(hx:ev f (qN o) = .int k a:=by exact rfl)(hy:ev f (zF o) = .int k b:=by exact rfl)(c:EI .leq o=true:=by kernel_rfl):Runs P f o w (.bool false):=by
 obtain⟨T,d,e⟩:=og c; exact jk e hx hy h
theorem nA(h:b<a)(hx:ev f (qN o) = .int k a:=by exact rfl)(hy:ev f (zF o) = .int k b:=by exact rfl)(c:EI .gtr o=true:=by kernel_rfl):Runs P f o w (.bool true):=by
 obtain⟨T,d,e⟩:=og c; exact acG e hx hy h
theorem nC(h : ¬ b<a)(hx:ev f (qN o) = .int k a:=by exact rfl)(hy:ev f (zF o) = .int k b:=by exact rfl)(c:EI .gtr o=true:=by kernel_rfl):Runs P f o w (.bool false):=by
 obtain⟨T,d,e⟩:=og c; exact jl e hx hy h
theorem kW(h:b<=a)(hx:ev f (qN o) = .int k a:=by exact rfl)(hy:ev f (zF o) = .int k b:=by exact rfl)(c:EI .geq o=true:=by kernel_rfl):Runs P f o w (.bool true):=by
 obtain⟨T,d,e⟩:=og c; exact acH e hx hy h
theorem kN(h : ¬ b<=a)(hx:ev f (qN o) = .int k a:=by exact rfl)(hy:ev f (zF o) = .int k b:=by exact rfl)(c:EI .geq o=true:=by kernel_rfl):Runs P f o w (.bool false):=by
 obtain⟨T,d,e⟩:=og c; exact acI e hx hy h
theorem dZ(h:a=b)(hx:ev f (qN o) = .int k a:=by exact rfl)(hy:ev f (zF o) = .int k b:=by exact rfl)(c:EI .eql o=true:=by kernel_rfl):Runs P f o w (.bool true):=by
 obtain⟨T,d,e⟩:=og c; exact iW e hx hy h
theorem fB(h : ¬ a=b)(hx:ev f (qN o) = .int k a:=by exact rfl)(hy:ev f (zF o) = .int k b:=by exact rfl)(c:EI .eql o=true:=by kernel_rfl):Runs P f o w (.bool false):=by
 obtain⟨T,d,e⟩:=og c; exact iX e hx hy h
theorem kY(h : ¬ a=b)(hx:ev f (qN o) = .int k a:=by exact rfl)(hy:ev f (zF o) = .int k b:=by exact rfl)(c:EI .neq o=true:=by kernel_rfl):Runs P f o w (.bool true):=by
 obtain⟨T,d,e⟩:=og c; exact acJ e hx hy h
theorem jR(h:a=b)(hx:ev f (qN o) = .int k a:=by exact rfl)(hy:ev f (zF o) = .int k b:=by exact rfl)(c:EI .neq o=true:=by kernel_rfl):Runs P f o w (.bool false):=by
 obtain⟨T,d,e⟩:=og c; exact acK e hx hy h
theorem TD(hx:ev f (qN o) = .int k a:=by exact rfl)(hy:ev f (zF o) = .int k b:=by exact rfl)(h:a<b:=by omega)(c:EI .lss o=true:=by kernel_rfl):Runs P f o w (.bool true):=iD h hx hy c
theorem H6(hx:ev f (qN o) = .int k a:=by exact rfl)(hy:ev f (zF o) = .int k b:=by exact rfl)(h : ¬ a<b:=by omega)(c:EI .lss o=true:=by kernel_rfl):Runs P f o w (.bool false):=iE h hx hy c
theorem ahy(hx:ev f (qN o) = .int k a:=by exact rfl)(hy:ev f (zF o) = .int k b:=by exact rfl)(h:a<=b:=by omega)(c:EI .leq o=true:=by kernel_rfl):Runs P f o w (.bool true):=oh h hx hy c
theorem DV(hx:ev f (qN o) = .int k a:=by exact rfl)(hy:ev f (zF o) = .int k b:=by exact rfl)(h:b<a:=by omega)(c:EI .gtr o=true:=by kernel_rfl):Runs P f o w (.bool true):=nA h hx hy c
theorem yS(hx:ev f (qN o) = .int k a:=by exact rfl)(hy:ev f (zF o) = .int k b:=by exact rfl)(h : ¬ b<a:=by omega)(c:EI .gtr o=true:=by kernel_rfl):Runs P f o w (.bool false):=nC h hx hy c
theorem H7(hx:ev f (qN o) = .int k a:=by exact rfl)(hy:ev f (zF o) = .int k b:=by exact rfl)(h : ¬ b<=a:=by omega)(c:EI .geq o=true:=by kernel_rfl):Runs P f o w (.bool false):=kN h hx hy c
theorem ahz(hx:ev f (qN o) = .int k a:=by exact rfl)(hy:ev f (zF o) = .int k b:=by exact rfl)(h:a=b:=by omega)(c:EI .eql o=true:=by kernel_rfl):Runs P f o w (.bool true):=dZ h hx hy c
theorem ahA(hx:ev f (qN o) = .int k a:=by exact rfl)(hy:ev f (zF o) = .int k b:=by exact rfl)(h : ¬ a=b:=by omega)(c:EI .eql o=true:=by kernel_rfl):Runs P f o w (.bool false):=fB h hx hy c
end
theorem av(v:Value)(h:L P n ops Q rest (put f o.dst v) w)(hr:(execOp (ev f) o).run P w = .ok (.value v) w:=by kernel_rfl)(b:Region.wanted o (yf ops f)=true:=by rfl)(a:inn n o.dst=true:=by rfl):L P n ops Q (o::rest) f w:=L.val b hr a h
theorem aU(hx:ev f (qN o)=v)(h:L P n ops Q rest (put f o.dst v) w)(b:QS o=true:=by kernel_rfl)(c:Region.wanted o (yf ops f)=true:=by rfl)(a:inn n o.dst=true:=by rfl):L P n ops Q (o::rest) f w:=L.val c (TA hx b) a h
theorem bS(h:L P n ops Q rest (put f o.dst undef) w)(b:Region.wanted o (yf ops f)=false:=by rfl)(a:inn n o.dst=true:=by rfl):L P n ops Q (o::rest) f w:=Lk b a h
theorem aR{C:World->Prop}{R:(Nat->Value)->Prop}(h:Qt P n ops C R rest (put f o.dst undef))(b:Region.wanted o (yf ops f)=false:=by rfl)(a:inn n o.dst=true:=by rfl):Qt P n ops C R (o::rest) f:=Qs b a h
theorem eT{C:World->Prop}{R:(Nat->Value)->Prop}(hx:ev f (qN o)=v)(h:Qt P n ops C R rest (put f o.dst v))(b:QS o=true:=by kernel_rfl)(c:Region.wanted o (yf ops f)=true:=by rfl)(a:inn n o.dst=true:=by rfl):Qt P n ops C R (o::rest) f:=Qt.val c (fun _ _=>TA hx b) a h
section
variable {g:FuncId} {ax:Array Value}
theorem kF{K:Ending->World->Prop}(b:Calls P g ax w K)(h : ∀ e w',K e w' -> ∃ v,e = .returned v/\L P n ops Q rest (put f o.dst v) w')(hr:(execOp (ev f) o).run P w = .ok (.enter g ax) w:=by kernel_rfl)(c:Region.wanted o (yf ops f)=true:=by rfl)(a:inn n o.dst=true:=by rfl):L P n ops Q (o::rest) f w:=Ac c hr a (b.mono h)
theorem dX{u:Value}{K:World->Prop}(c:Calls P g ax w fun e w'=>e = .returned u/\K w')(v:Value)(d:u=v)(h : ∀ w',K w'->L P n ops Q rest (put f o.dst v) w')(hr:(execOp (ev f) o).run P w = .ok (.enter g ax) w:=by kernel_rfl)(i:Region.wanted o (yf ops f)=true:=by rfl)(b:inn n o.dst=true:=by rfl):L P n ops Q (o::rest) f w :=
 kF c (fun _ w' a=>⟨v,by rw[a.1,d],h w' a.2⟩) hr i b
theorem lX{u:Value}(c:Calls P g ax w fun e w'=>e = .returned u/\w'=w)(v:Value)(d:u=v)(h:L P n ops Q rest (put f o.dst v) w)(hr:(execOp (ev f) o).run P w = .ok (.enter g ax) w:=by kernel_rfl)(i:Region.wanted o (yf ops f)=true:=by rfl)(b:inn n o.dst=true:=by rfl):L P n ops Q (o::rest) f w :=
 kF c (fun _ w' a=>⟨v,by rw[a.1,d],a.2 ▸ h⟩) hr i b
theorem qO{u:Value}{C:World->Prop}{R:(Nat->Value)->Prop}(d : ∀ w,C w->Calls P g ax w fun e w'=>e = .returned u/\w'=w)(v:Value)(i:u=v)(h:Qt P n ops C R rest (put f o.dst v))(hr:(fun w=>(execOp (ev f) o).run P w)=(fun w => .ok (.enter g ax) w):=by kernel_rfl)(j:Region.wanted o (yf ops f)=true:=by rfl)(c:inn n o.dst=true:=by rfl):Qt P n ops C R (o::rest) f :=
 EH j (fun w _=>congrFun hr w) c (fun w b=>(d w b).mono fun _ _ a=>⟨by rw[a.1,i],by rw[a.2]; exact b⟩) h
theorem Ae{u:Value}{w0:World}{R:(Nat->Value)->Prop}(d : ∀ w,Below w0.heap.size w0 w->Calls P g ax w fun e w'=>e = .returned u/\Below w.heap.size w w')(v:Value)(i:u=v)(h:Qt P n ops (fun w=>Below w0.heap.size w0 w) R rest (put f o.dst v))(hr:(fun w=>(execOp (ev f) o).run P w)=(fun w => .ok (.enter g ax) w):=by kernel_rfl)(j:Region.wanted o (yf ops f)=true:=by rfl)(c:inn n o.dst=true:=by rfl):Qt P n ops (fun w=>Below w0.heap.size w0 w) R (o::rest) f :=
 EH j (fun w _=>congrFun hr w) c (fun w b=>(d w b).mono fun _ _ a=>⟨by rw[a.1,i],M6 b a.2⟩) h
end
theorem pO{m:Nat}{T:TypeId}{y:Nat->Value}(h : ∀ g w',g=w.heap.size->aQ w' g m y T->Stp w.heap.size w w'->w'.heap.size=w.heap.size+1->L P n ops Q rest (put f o.dst (.pointer (some ⟨g,0,none⟩))) w')(b:o.op = .box T (qN o):=by exact rfl)(hx:ev f (qN o) = .agg (aA m y):=by exact rfl)(c:Region.wanted o (yf ops f)=true:=by rfl)(a:inn n o.dst=true:=by rfl):L P n ops Q (o::rest) f w:=DT c b hx (bJ _ _) a h
theorem yD{T:TypeId}(v:Value)(h : ∀ g w',g=w.heap.size->aQ w' g 1 (fun _=>v) T->Stp w.heap.size w w'->w'.heap.size=w.heap.size+1->L P n ops Q rest (put f o.dst (.pointer (some ⟨g,0,none⟩))) w')(b:o.op = .box T (qN o):=by exact rfl)(hx:ev f (qN o)=v:=by exact rfl)(c:v.oneCell'=true:=by exact rfl)(d:Region.wanted o (yf ops f)=true:=by rfl)(a:inn n o.dst=true:=by rfl):L P n ops Q (o::rest) f w:=DT d b hx (cells_one c) a h
theorem nS{T:TypeId}(m:Nat)(y:Nat->Value)(h : ∀ g w',g=w.heap.size->aQ w' g m y T->Stp w.heap.size w w'->w'.heap.size=w.heap.size+1->L P n ops Q rest (put f o.dst (.pointer (some ⟨g,0,none⟩))) w')(b:o.op = .alloc T:=by exact rfl)(d:((P.info? T).bind (·.zero)).map (·.cells)=some (aA m y):=by kernel_rfl)(c:Region.wanted o (yf ops f)=true:=by rfl)(a:inn n o.dst=true:=by rfl):L P n ops Q (o::rest) f w:=BL c b d a h
section
variable {TB E:TypeId} {g m B s k cap c:Nat} {x y:Nat->Value}
theorem ji(b:aQ w g m x TB)(i:Nat)(u:Value)(h : ∀ w',aQ w' g m (dJ x i u) TB->Stp g w w'->w'.heap.size=w.heap.size->L P n ops Q rest f w')(ha:ev f (qN o) = .pointer (some ⟨g,i,none⟩):=by exact rfl)(e:ev f (zF o)=u:=by exact rfl)(h1:u.oneCell'=true:=by exact rfl)(hi:i<m:=by omega)(d:QT o=true:=by kernel_rfl)(a:(P.info? (Nu o)).map (·.size)=some 1:=by kernel_rfl)(c:o.dst=none:=by exact rfl)(j:Region.wanted o (yf ops f)=true:=by rfl):L P n ops Q (o::rest) f w:=L.Ti j c (EJ d) ha e h1 a b hi h
theorem dM(b:aQ w g m x TB)(i:Nat)(h : ∀ w',aQ w' g m (bG x i s y) TB->Stp g w w'->w'.heap.size=w.heap.size->L P n ops Q rest f w')(ha:ev f (qN o) = .pointer (some ⟨g,i,none⟩):=by exact rfl)(e:ev f (zF o) = .agg (aA s y):=by exact rfl)(h1 : ∀ j,j<s->(y j).oneCell'=true:=by exact fun _ _=>rfl)(hi:i+s<=m:=by omega)(d:QT o=true:=by kernel_rfl)(a:(P.info? (Nu o)).map (·.size)=some s:=by kernel_rfl)(c:o.dst=none:=by exact rfl)(k:Region.wanted o (yf ops f)=true:=by rfl):L P n ops Q (o::rest) f w:=L.Tj k c (EJ d) ha e h1 a b hi h
theorem qP(b:Own w B E s (.slice (some ⟨g,0,none⟩) k cap) k x)(i:Nat)(u:Value)(h : ∀ w',Own w' B E s (.slice (some ⟨g,0,none⟩) k cap) k (dJ x i u)->Stp g w w'->w'.heap.size=w.heap.size->L P n ops Q rest f w')(ha:ev f (qN o) = .pointer (some ⟨g,i,none⟩):=by exact rfl)(e:ev f (zF o)=u:=by exact rfl)(h1:u.oneCell'=true:=by exact rfl)(hi:i<k*s:=by omega)(d:QT o=true:=by kernel_rfl)(a:(P.info? (Nu o)).map (·.size)=some 1:=by kernel_rfl)(c:o.dst=none:=by exact rfl)(j:Region.wanted o (yf ops f)=true:=by rfl):L P n ops Q (o::rest) f w:=L.ana j c (EJ d) ha e h1 a b hi h
theorem AY(b:Own w B E s (.slice (some ⟨g,0,none⟩) k cap) k x)(i:Nat)(h : ∀ w',Own w' B E s (.slice (some ⟨g,0,none⟩) k cap) k (bG x i c y)->Stp g w w'->w'.heap.size=w.heap.size->L P n ops Q rest f w')(ha:ev f (qN o) = .pointer (some ⟨g,i,none⟩):=by exact rfl)(l:ev f (zF o) = .agg (aA c y):=by exact rfl)(h1 : ∀ j,j<c->(y j).oneCell'=true:=by exact fun _ _=>rfl)(hi:i+c<=k*s:=by omega)(e:QT o=true:=by kernel_rfl)(a:(P.info? (Nu o)).map (·.size)=some c:=by kernel_rfl)(d:o.dst=none:=by exact rfl)(m:Region.wanted o (yf ops f)=true:=by rfl):L P n ops Q (o::rest) f w:=L.anb m d (EJ e) ha l h1 a b hi h
end
theorem nD{id:Nat}{ops:List Oper}(h:Qt P n ops.toArray (fun w'=>Below w.heap.size w w') (fun a => ∀ w',Below w.heap.size w w'->Q .normal a w') ops f)(c:P.follows .mixedOrders=true:=by kernel_rfl)(b:Region.lexB .any ops.toArray=true:=by kernel_rfl):W P n (.region id ops.toArray true) Q f w:=W.quiet _ c b (Below.refl _ _).drew h
theorem Af{id:Nat}{ops:List Oper}(h:Qt P n ops.toArray (fun w' => ∃ q,w'=World.drewN w q) (fun a => ∀ w',(∃ q,w'=World.drewN w q)->Q .normal a w') ops f)(c:P.follows .mixedOrders=true:=by kernel_rfl)(b:Region.lexB .any ops.toArray=true:=by kernel_rfl):W P n (.region id ops.toArray true) Q f w:=W.quiet _ c b ⟨1,rfl⟩ h
theorem Fy{R:(Nat->Value)->Prop}(v:Value)(h:St P n ops w R rest (put f o.dst v))(hr:(execOp (ev f) o).run P w = .ok (.value v) w:=by kernel_rfl)(b:Region.wanted o (yf ops f)=true:=by rfl)(a:inn n o.dst=true:=by rfl):St P n ops w R (o::rest) f:=St.val b hr a h
theorem aX{C:World->Prop}{R:(Nat->Value)->Prop}(v:Value)(h:Qt P n ops C R rest (put f o.dst v))(hr:(fun w=>(execOp (ev f) o).run P w)=(fun w => .ok (.value v) w):=by kernel_rfl)(b:Region.wanted o (yf ops f)=true:=by rfl)(a:inn n o.dst=true:=by rfl):Qt P n ops C R (o::rest) f:=Qt.val b (fun w _=>congrFun hr w) a h
end
section
variable {P:Program} {n:Nat} {ops:List Oper} {cs:List Nat} {S:World->World->Prop} {Q:Post} {f:Nat->Value} {w:World} {i:Nat} {l:List Nat}
theorem aY(v:Value)(h:R P n ops cs S Q l (put f (Fx.opAt ops i).dst v) w)(hr:(fun w=>(execOp (ev f) (Fx.opAt ops i)).run P w)=(fun w => .ok (.value v) w):=by kernel_rfl)(b:Region.wanted (Fx.opAt ops i) (yf ops.toArray f)=true:=by rfl)(a:Nat.beq (cs.getD i 3) 0=true:=by rfl):R P n ops cs S Q (i::l) f w:=R.pure b a (fun w=>congrFun hr w) h
theorem bX{v:Value}(hx:ev f (qN (Fx.opAt ops i))=v)(h:R P n ops cs S Q l (put f (Fx.opAt ops i).dst v) w)(b:QS (Fx.opAt ops i)=true:=by kernel_rfl)(c:Region.wanted (Fx.opAt ops i) (yf ops.toArray f)=true:=by rfl)(a:Nat.beq (cs.getD i 3) 0=true:=by rfl):R P n ops cs S Q (i::l) f w:=R.pure c a (fun _=>TA hx b) h
theorem gQ(h:L P n ops.toArray (fun _ a w'=>R P n ops cs S Q l a w') [Fx.opAt ops i] f w)(b:Nat.beq (cs.getD i 3) 3=true:=by rfl):R P n ops cs S Q (i::l) f w:=R.qM b h
theorem zG(h:L P n ops.toArray (fun _ a w'=>S w w'/\R P n ops cs S Q l a w') [Fx.opAt ops i] f w)(b:Nat.beq (cs.getD i 3) 2=true:=by rfl):R P n ops cs S Q (i::l) f w:=R.make b h
end
section
variable {P:Program} {n:Nat} {Q:Post} {f:Nat->Value} {w:World} {ops:Array Oper} {c:Operand} {x y:Code}
theorem aN(h:W P n x Q f w)(a:ev f c = .bool true:=by exact rfl):W P n (.cond c x y) Q f w:=Wc a (fun _=>h) (fun h=>nomatch h)
theorem aK(h:W P n y Q f w)(a:ev f c = .bool false:=by exact rfl):W P n (.cond c x y) Q f w:=Wc a (fun h=>nomatch h) (fun _=>h)
theorem ay{id:Nat}{l:List Oper}(h:L P n l.toArray (Nh P n y Q) l f w):W P n (.seq (.region id l.toArray false) y) Q f w:=Ws (Wl h)
theorem aD(h:W P n y Q f w):L P n ops (Nh P n y Q) [] f w:=h
theorem bT{l:List Oper}{cs:List Nat}{S:World->World->Prop}(h:W P n y Q f w):R P n l cs S (Nh P n y Q) [] f w:=h
theorem aJ{a:Func}{K:Ending->World->Prop}(v:Value)(h:K (.returned v) w)(hr:(BI a f).run P w = .ok v w:=by kernel_rfl):acC P a K .ret f w:=⟨v,hr,h⟩
theorem Kent{g:FuncId}{a:Func}{c:Code}{ax:Array Value}{K:Ending->World->Prop}(d:P.funcs[g]? = some a)(n:Nat)(h:W P n c (acC P a K) (Fx.start ax) w)(b:a.body=some c:=by exact rfl)(e:a.ntmps=n:=by exact rfl)(ha:Nat.ble ax.size n=true:=by exact rfl):Calls P g ax w K:=Fx.enter d b e ha h
theorem jY{id:Nat}{ops:List Oper}(l:List Nat)(cs:List Nat)(fJ:List (Nat × Nat × List Nat))(h : ∀ w1,Below w.heap.size w w1->w1.heap.size=w.heap.size->R P n ops cs Mk Q l f w1)(a:P.follows .mixedOrders=true:=by kernel_rfl)(b:mE n ops=true:=by kernel_rfl)(e:Region.noSelect ops.toArray=true:=by kernel_rfl)(c:AX ops l=true:=by kernel_rfl)(d:wU ops cs fJ l=true:=by kernel_rfl):W P n (.region id ops.toArray true) Q f w:=Ad l cs Mk uf Mk.trans fJ a b e c d h
end
def fdO(P:Program)(o:Oper):Option Nat:=match o.op with
 | .fieldAddr S _ i=>(match P.underlying S with|some (.struct fs)=>(match fs[i]? with|some fd=>(match P.info? fd.type with|some z=>bif Nat.beq z.size 0 then none else some fd.offset|none=>none)|none=>none)|_=>none)
 | _=>none
theorem jo{P:Program}{f:Nat->Value}{w:World}{o:Oper}{b off c:Nat}(hx:ev f (qN o) = .pointer (some ⟨b,off,none⟩))(d:Nat)(a:fdO P o=some d:=by kernel_rfl)(h:off+d=c:=by first|exact rfl|omega):Runs P f o w (.pointer (some ⟨b,c,none⟩)):=by
 unfold fdO at a;split at a
 ·rename_i S x i e;have g:qN o=x:=by unfold qN; rw[e]
  split at a
  ·rename_i fs es;split at a
   ·rename_i fd ef;split at a
    ·rename_i z ez
     cases h0:Nat.beq z.size 0
     ·rw[h0]at a;have:fd.offset=d:=C_ a;subst this;exact fO e (g ▸ hx) es ef (by rw[ez]; rfl) h0 h
     rw[h0]at a; cases a
    cases a
   cases a
  cases a
 cases a
theorem qQ{P:Program}{w:World}{ops:Array Oper}{f:Nat->Value}{o:Oper}{v:Value}{p:Prop}(a:Region.wanted o (yf ops f)=true:=by kernel_rfl)(h:(fun w=>(execOp (ev f) o).run P w)=(fun w => .ok (.value v) w):=by kernel_rfl):(if Region.wanted o (yf ops f)then QB P (ev f) o w v else p):=by rw[d_ a]; exact qbV fun w1 _=>congrFun h w1
theorem uo{P:Program}{w:World}{ops:Array Oper}{f:Nat->Value}{o:Oper}{a:Value}{p:Prop}(v:Value)(h : ∀ w1,Below w.heap.size w w1->Runs P f o w1 v)(b:Region.wanted o (yf ops f)=true:=by kernel_rfl)(e:a=v:=by kernel_rfl):(if Region.wanted o (yf ops f)then QB P (ev f) o w a else p):=by rw[d_ b,e]; exact qbV h
theorem fA{B:Nat}{w0 w w':World}(h:Below w.heap.size w w')(b:Below B w0 w)(a:B<=w0.heap.size):Below B w0 w':=b.trans (h.mono (m_ a b.size))
theorem cO{a g s:Nat}(e:g=s)(h:a<s):a≠g:=by omega
theorem iK{B g s:Nat}(e:g=s)(h:B<=s):B<=g:=by omega
theorem gN{g s:Nat}(e:g=s):s<=g:=by omega
class Tr (w w':World) (A:Prop) (B:outParam Prop):Prop where tr:Below w.heap.size w w'->A->B
class Tc (Ts:List TypeId) (w w':World) (A:Prop) (B:outParam Prop) (c:outParam Bool):Prop where tc:jg Ts w w'->A->c=true->B
section
variable {w w':World} {Ts:List TypeId}
instance {g n:Nat} {x:Nat->Value} {T:TypeId}:Tr w w' (aQ w g n x T) (aQ w' g n x T):=⟨fun b h=>h.cu (Sb b) (u_ h.lt)⟩
instance {g o n:Nat} {x:Nat->Value}:Tr w w' (iU w g o n x) (iU w' g o n x):=⟨fun b h i a=>(h.below b (h.lt (by omega))) i a⟩
instance {B:Nat} {E:TypeId} {s n:Nat} {v:Value} {x:Nat->Value}:Tr w w' (Own w B E s v n x) (Own w' B E s v n x):=⟨fun b h=>h.up b⟩
instance {w0:World}:Tr w w' (Below w0.heap.size w0 w) (Below w0.heap.size w0 w'):=⟨fun h b=>fA h b (A_ _)⟩
instance {g n:Nat} {x:Nat->Value} {T:TypeId}:Tc Ts w w' (aQ w g n x T) (aQ w' g n x T) (!Ts.contains T):=⟨fun b h e=>h.kV b (by simpa using e)⟩
instance {B:Nat} {E:TypeId} {s n:Nat} {v:Value} {x:Nat->Value}:Tc Ts w w' (Own w B E s v n x) (Own w' B E s v n x) (!Ts.contains E):=⟨fun b h e=>h.kV b (by simpa using e)⟩
theorem bB{a b:Prop}(s:Below w.heap.size w w')(c:a) [Tr w w' a b]:b:=Tr.tr s c
theorem fC{a c b d:Prop}(s:Below w.heap.size w w')(e:a)(a1:b) [Tr w w' a c] [Tr w w' b d]:c/\d:=⟨Tr.tr s e,Tr.tr s a1⟩
theorem iY{a d b e c f:Prop}(s:Below w.heap.size w w')(g:a)(a1:b)(a2:c) [Tr w w' a d] [Tr w w' b e] [Tr w w' c f]:d/\e/\f:=⟨Tr.tr s g,Tr.tr s a1,Tr.tr s a2⟩
theorem jW{a e b f c g d h:Prop}(s:Below w.heap.size w w')(i:a)(a1:b)(a2:c)(j:d) [Tr w w' a e] [Tr w w' b f] [Tr w w' c g] [Tr w w' d h]:e/\f/\g/\h:=⟨Tr.tr s i,Tr.tr s a1,Tr.tr s a2,Tr.tr s j⟩
theorem nE{a f b g c h d i e j:Prop}(s:Below w.heap.size w w')(k:a)(a1:b)(a2:c)(l:d)(m:e) [Tr w w' a f] [Tr w w' b g] [Tr w w' c h] [Tr w w' d i] [Tr w w' e j]:f/\g/\h/\i/\j:=⟨Tr.tr s k,Tr.tr s a1,Tr.tr s a2,Tr.tr s l,Tr.tr s m⟩
theorem rz{a g b h c i d j e k f l:Prop}(s:Below w.heap.size w w')(m:a)(a1:b)(a2:c)(n:d)(o:e)(p:f) [Tr w w' a g] [Tr w w' b h] [Tr w w' c i] [Tr w w' d j] [Tr w w' e k] [Tr w w' f l]:g/\h/\i/\j/\k/\l:=⟨Tr.tr s m,Tr.tr s a1,Tr.tr s a2,Tr.tr s n,Tr.tr s o,Tr.tr s p⟩
theorem jJ{a h b i c j d k e l f m g n:Prop}(s:Below w.heap.size w w')(o:a)(a1:b)(a2:c)(p:d)(q:e)(r:f)(t:g) [Tr w w' a h] [Tr w w' b i] [Tr w w' c j] [Tr w w' d k] [Tr w w' e l] [Tr w w' f m] [Tr w w' g n]:h/\i/\j/\k/\l/\m/\n:=⟨Tr.tr s o,Tr.tr s a1,Tr.tr s a2,Tr.tr s p,Tr.tr s q,Tr.tr s r,Tr.tr s t⟩
theorem mO{a i b j c k d l e m f n g o h p:Prop}(s:Below w.heap.size w w')(q:a)(a1:b)(a2:c)(r:d)(t:e)(u:f)(v:g)(x:h) [Tr w w' a i] [Tr w w' b j] [Tr w w' c k] [Tr w w' d l] [Tr w w' e m] [Tr w w' f n] [Tr w w' g o] [Tr w w' h p]:i/\j/\k/\l/\m/\n/\o/\p:=⟨Tr.tr s q,Tr.tr s a1,Tr.tr s a2,Tr.tr s r,Tr.tr s t,Tr.tr s u,Tr.tr s v,Tr.tr s x⟩
theorem CO{a j b k c l d m e n f o g p h q i r:Prop}(s:Below w.heap.size w w')(t:a)(a1:b)(a2:c)(u:d)(v:e)(x:f)(y:g)(z:h)(A:i) [Tr w w' a j] [Tr w w' b k] [Tr w w' c l] [Tr w w' d m] [Tr w w' e n] [Tr w w' f o] [Tr w w' g p] [Tr w w' h q] [Tr w w' i r]:j/\k/\l/\m/\n/\o/\p/\q/\r:=⟨Tr.tr s t,Tr.tr s a1,Tr.tr s a2,Tr.tr s u,Tr.tr s v,Tr.tr s x,Tr.tr s y,Tr.tr s z,Tr.tr s A⟩
theorem vO{a k b l c m d n e o f p g q h r i t j u:Prop}(s:Below w.heap.size w w')(v:a)(a1:b)(a2:c)(x:d)(y:e)(z:f)(A:g)(B:h)(C:i)(D:j) [Tr w w' a k] [Tr w w' b l] [Tr w w' c m] [Tr w w' d n] [Tr w w' e o] [Tr w w' f p] [Tr w w' g q] [Tr w w' h r] [Tr w w' i t] [Tr w w' j u]:k/\l/\m/\n/\o/\p/\q/\r/\t/\u:=⟨Tr.tr s v,Tr.tr s a1,Tr.tr s a2,Tr.tr s x,Tr.tr s y,Tr.tr s z,Tr.tr s A,Tr.tr s B,Tr.tr s C,Tr.tr s D⟩
theorem Fz{a l b m d o e p f q g r h t i u j v k x c n:Prop}(s:Below w.heap.size w w')(y:a)(a1:b)(a2:d)(A:e)(B:f)(C:g)(D:h)(E:i)(F:j)(G:k)(z:c) [Tr w w' a l] [Tr w w' b m] [Tr w w' d o] [Tr w w' e p] [Tr w w' f q] [Tr w w' g r] [Tr w w' h t] [Tr w w' i u] [Tr w w' j v] [Tr w w' k x] [Tr w w' c n]:l/\m/\o/\p/\q/\r/\t/\u/\v/\x/\n:=⟨Tr.tr s y,Tr.tr s a1,Tr.tr s a2,Tr.tr s A,Tr.tr s B,Tr.tr s C,Tr.tr s D,Tr.tr s E,Tr.tr s F,Tr.tr s G,Tr.tr s z⟩
theorem O4{a m b n e q f r g t h u i v j x k y l z c o d p:Prop}(s:Below w.heap.size w w')(A:a)(a1:b)(a2:e)(D:f)(E:g)(F:h)(G:i)(H:j)(I:k)(J:l)(B:c)(C:d) [Tr w w' a m] [Tr w w' b n] [Tr w w' e q] [Tr w w' f r] [Tr w w' g t] [Tr w w' h u] [Tr w w' i v] [Tr w w' j x] [Tr w w' k y] [Tr w w' l z] [Tr w w' c o] [Tr w w' d p]:m/\n/\q/\r/\t/\u/\v/\x/\y/\z/\o/\p:=⟨Tr.tr s A,Tr.tr s a1,Tr.tr s a2,Tr.tr s D,Tr.tr s E,Tr.tr s F,Tr.tr s G,Tr.tr s H,Tr.tr s I,Tr.tr s J,Tr.tr s B,Tr.tr s C⟩
theorem abr{a n b o f t g u h v i x j y k z l A m B c p d q e r:Prop}(s:Below w.heap.size w w')(C:a)(a1:b)(a2:f)(G:g)(H:h)(I:i)(J:j)(K:k)(L:l)(M:m)(D:c)(E:d)(F:e) [Tr w w' a n] [Tr w w' b o] [Tr w w' f t] [Tr w w' g u] [Tr w w' h v] [Tr w w' i x] [Tr w w' j y] [Tr w w' k z] [Tr w w' l A] [Tr w w' m B] [Tr w w' c p] [Tr w w' d q] [Tr w w' e r]:n/\o/\t/\u/\v/\x/\y/\z/\A/\B/\p/\q/\r:=⟨Tr.tr s C,Tr.tr s a1,Tr.tr s a2,Tr.tr s G,Tr.tr s H,Tr.tr s I,Tr.tr s J,Tr.tr s K,Tr.tr s L,Tr.tr s M,Tr.tr s D,Tr.tr s E,Tr.tr s F⟩
theorem jh{a b:Prop}{c:Bool}(s:jg Ts w w')(d:a) [Tc Ts w w' a b c](e:c=true:=by decide):b:=Tc.tc s d e
theorem vP{a c b d:Prop}{e f:Bool}(s:jg Ts w w')(g:a)(a1:b) [Tc Ts w w' a c e] [Tc Ts w w' b d f](h:e=true:=by decide)(h1:f=true:=by decide):c/\d:=⟨Tc.tc s g h,Tc.tc s a1 h1⟩
theorem BO{a d b e c f:Prop}{g h i:Bool}(s:jg Ts w w')(j:a)(a1:b)(a2:c) [Tc Ts w w' a d g] [Tc Ts w w' b e h] [Tc Ts w w' c f i](k:g=true:=by decide)(h1:h=true:=by decide)(l:i=true:=by decide):d/\e/\f:=⟨Tc.tc s j k,Tc.tc s a1 h1,Tc.tc s a2 l⟩
theorem Em{a e b f c g d h:Prop}{i j k l:Bool}(s:jg Ts w w')(m:a)(a1:b)(a2:c)(n:d) [Tc Ts w w' a e i] [Tc Ts w w' b f j] [Tc Ts w w' c g k] [Tc Ts w w' d h l](o:i=true:=by decide)(h1:j=true:=by decide)(p:k=true:=by decide)(q:l=true:=by decide):e/\f/\g/\h:=⟨Tc.tc s m o,Tc.tc s a1 h1,Tc.tc s a2 p,Tc.tc s n q⟩
theorem qA{a f b g c h d i e j:Prop}{k l m n o:Bool}(s:jg Ts w w')(p:a)(a1:b)(a2:c)(q:d)(r:e) [Tc Ts w w' a f k] [Tc Ts w w' b g l] [Tc Ts w w' c h m] [Tc Ts w w' d i n] [Tc Ts w w' e j o](t:k=true:=by decide)(h1:l=true:=by decide)(u:m=true:=by decide)(v:n=true:=by decide)(x:o=true:=by decide):f/\g/\h/\i/\j:=⟨Tc.tc s p t,Tc.tc s a1 h1,Tc.tc s a2 u,Tc.tc s q v,Tc.tc s r x⟩
theorem TF{a g b h c i d j e k f l:Prop}{m n o p q r:Bool}(s:jg Ts w w')(t:a)(a1:b)(a2:c)(u:d)(v:e)(x:f) [Tc Ts w w' a g m] [Tc Ts w w' b h n] [Tc Ts w w' c i o] [Tc Ts w w' d j p] [Tc Ts w w' e k q] [Tc Ts w w' f l r](y:m=true:=by decide)(h1:n=true:=by decide)(z:o=true:=by decide)(A:p=true:=by decide)(B:q=true:=by decide)(C:r=true:=by decide):g/\h/\i/\j/\k/\l:=⟨Tc.tc s t y,Tc.tc s a1 h1,Tc.tc s a2 z,Tc.tc s u A,Tc.tc s v B,Tc.tc s x C⟩
theorem TG{a h b i c j d k e l f m g n:Prop}{o p q r t u v:Bool}(s:jg Ts w w')(x:a)(a1:b)(a2:c)(y:d)(z:e)(A:f)(B:g) [Tc Ts w w' a h o] [Tc Ts w w' b i p] [Tc Ts w w' c j q] [Tc Ts w w' d k r] [Tc Ts w w' e l t] [Tc Ts w w' f m u] [Tc Ts w w' g n v](C:o=true:=by decide)(h1:p=true:=by decide)(D:q=true:=by decide)(E:r=true:=by decide)(F:t=true:=by decide)(G:u=true:=by decide)(H:v=true:=by decide):h/\i/\j/\k/\l/\m/\n:=⟨Tc.tc s x C,Tc.tc s a1 h1,Tc.tc s a2 D,Tc.tc s y E,Tc.tc s z F,Tc.tc s A G,Tc.tc s B H⟩
theorem adf{a i b j c k d l e m f n g o h p:Prop}{q r t u v x y z:Bool}(s:jg Ts w w')(A:a)(a1:b)(a2:c)(B:d)(C:e)(D:f)(E:g)(F:h) [Tc Ts w w' a i q] [Tc Ts w w' b j r] [Tc Ts w w' c k t] [Tc Ts w w' d l u] [Tc Ts w w' e m v] [Tc Ts w w' f n x] [Tc Ts w w' g o y] [Tc Ts w w' h p z](G:q=true:=by decide)(h1:r=true:=by decide)(H:t=true:=by decide)(I:u=true:=by decide)(J:v=true:=by decide)(K:x=true:=by decide)(L:y=true:=by decide)(M:z=true:=by decide):i/\j/\k/\l/\m/\n/\o/\p:=⟨Tc.tc s A G,Tc.tc s a1 h1,Tc.tc s a2 H,Tc.tc s B I,Tc.tc s C J,Tc.tc s D K,Tc.tc s E L,Tc.tc s F M⟩
theorem adg{a j b k c l d m e n f o g p h q i r:Prop}{t u v x y z A B C:Bool}(s:jg Ts w w')(D:a)(a1:b)(a2:c)(E:d)(F:e)(G:f)(H:g)(I:h)(J:i) [Tc Ts w w' a j t] [Tc Ts w w' b k u] [Tc Ts w w' c l v] [Tc Ts w w' d m x] [Tc Ts w w' e n y] [Tc Ts w w' f o z] [Tc Ts w w' g p A] [Tc Ts w w' h q B] [Tc Ts w w' i r C](K:t=true:=by decide)(h1:u=true:=by decide)(L:v=true:=by decide)(M:x=true:=by decide)(N:y=true:=by decide)(O:z=true:=by decide)(P:A=true:=by decide)(Q:B=true:=by decide)(R:C=true:=by decide):j/\k/\l/\m/\n/\o/\p/\q/\r:=⟨Tc.tc s D K,Tc.tc s a1 h1,Tc.tc s a2 L,Tc.tc s E M,Tc.tc s F N,Tc.tc s G O,Tc.tc s H P,Tc.tc s I Q,Tc.tc s J R⟩
theorem O5{a k b l c m d n e o f p g q h r i t j u:Prop}{v x y z A B C D E F:Bool}(s:jg Ts w w')(G:a)(a1:b)(a2:c)(H:d)(I:e)(J:f)(K:g)(L:h)(M:i)(N:j) [Tc Ts w w' a k v] [Tc Ts w w' b l x] [Tc Ts w w' c m y] [Tc Ts w w' d n z] [Tc Ts w w' e o A] [Tc Ts w w' f p B] [Tc Ts w w' g q C] [Tc Ts w w' h r D] [Tc Ts w w' i t E] [Tc Ts w w' j u F](O:v=true:=by decide)(h1:x=true:=by decide)(P:y=true:=by decide)(Q:z=true:=by decide)(R:A=true:=by decide)(S:B=true:=by decide)(T:C=true:=by decide)(U:D=true:=by decide)(V:E=true:=by decide)(W:F=true:=by decide):k/\l/\m/\n/\o/\p/\q/\r/\t/\u:=⟨Tc.tc s G O,Tc.tc s a1 h1,Tc.tc s a2 P,Tc.tc s H Q,Tc.tc s I R,Tc.tc s J S,Tc.tc s K T,Tc.tc s L U,Tc.tc s M V,Tc.tc s N W⟩
theorem abt{a l b m d o e p f q g r h t i u j v k x c n:Prop}{y z B C D E F G H I A:Bool}(s:jg Ts w w')(J:a)(a1:b)(a2:d)(L:e)(M:f)(N:g)(O:h)(P:i)(Q:j)(R:k)(K:c) [Tc Ts w w' a l y] [Tc Ts w w' b m z] [Tc Ts w w' d o B] [Tc Ts w w' e p C] [Tc Ts w w' f q D] [Tc Ts w w' g r E] [Tc Ts w w' h t F] [Tc Ts w w' i u G] [Tc Ts w w' j v H] [Tc Ts w w' k x I] [Tc Ts w w' c n A](S:y=true:=by decide)(h1:z=true:=by decide)(U:B=true:=by decide)(V:C=true:=by decide)(W:D=true:=by decide)(X:E=true:=by decide)(Y:F=true:=by decide)(Z:G=true:=by decide)(h8:H=true:=by decide)(h9:I=true:=by decide)(T:A=true:=by decide):l/\m/\o/\p/\q/\r/\t/\u/\v/\x/\n:=⟨Tc.tc s J S,Tc.tc s a1 h1,Tc.tc s a2 U,Tc.tc s L V,Tc.tc s M W,Tc.tc s N X,Tc.tc s O Y,Tc.tc s P Z,Tc.tc s Q h8,Tc.tc s R h9,Tc.tc s K T⟩
theorem ahB{a m b n e q f r g t h u i v j x k y l z c o d p:Prop}{A B E F G H I J K L C D:Bool}(s:jg Ts w w')(M:a)(a1:b)(a2:e)(P:f)(Q:g)(R:h)(S:i)(T:j)(U:k)(V:l)(N:c)(O:d) [Tc Ts w w' a m A] [Tc Ts w w' b n B] [Tc Ts w w' e q E] [Tc Ts w w' f r F] [Tc Ts w w' g t G] [Tc Ts w w' h u H] [Tc Ts w w' i v I] [Tc Ts w w' j x J] [Tc Ts w w' k y K] [Tc Ts w w' l z L] [Tc Ts w w' c o C] [Tc Ts w w' d p D](W:A=true:=by decide)(h1:B=true:=by decide)(Z:E=true:=by decide)(h3:F=true:=by decide)(h4:G=true:=by decide)(h5:H=true:=by decide)(h6:I=true:=by decide)(h7:J=true:=by decide)(h8:K=true:=by decide)(h9:L=true:=by decide)(X:C=true:=by decide)(Y:D=true:=by decide):m/\n/\q/\r/\t/\u/\v/\x/\y/\z/\o/\p:=⟨Tc.tc s M W,Tc.tc s a1 h1,Tc.tc s a2 Z,Tc.tc s P h3,Tc.tc s Q h4,Tc.tc s R h5,Tc.tc s S h6,Tc.tc s T h7,Tc.tc s U h8,Tc.tc s V h9,Tc.tc s N X,Tc.tc s O Y⟩
theorem rD{a a1 g s:Nat}(e:g=s)(b:a<s)(h1:a1<s):a≠g/\a1≠g:=⟨cO e b,cO e h1⟩
theorem AZ{a a1 a2 g s:Nat}(e:g=s)(b:a<s)(h1:a1<s)(c:a2<s):a≠g/\a1≠g/\a2≠g:=⟨cO e b,cO e h1,cO e c⟩
theorem KM{a a1 a2 b g s:Nat}(e:g=s)(c:a<s)(h1:a1<s)(d:a2<s)(f:b<s):a≠g/\a1≠g/\a2≠g/\b≠g:=⟨cO e c,cO e h1,cO e d,cO e f⟩
theorem Ag{a a1 a2 b c g s:Nat}(e:g=s)(d:a<s)(h1:a1<s)(f:a2<s)(h:b<s)(i:c<s):a≠g/\a1≠g/\a2≠g/\b≠g/\c≠g:=⟨cO e d,cO e h1,cO e f,cO e h,cO e i⟩
theorem G9{a a1 a2 b c d g s:Nat}(e:g=s)(f:a<s)(h1:a1<s)(h:a2<s)(i:b<s)(j:c<s)(k:d<s):a≠g/\a1≠g/\a2≠g/\b≠g/\c≠g/\d≠g:=⟨cO e f,cO e h1,cO e h,cO e i,cO e j,cO e k⟩
theorem Nv{a a1 a2 b c d f g s:Nat}(e:g=s)(h:a<s)(h1:a1<s)(i:a2<s)(j:b<s)(k:c<s)(l:d<s)(m:f<s):a≠g/\a1≠g/\a2≠g/\b≠g/\c≠g/\d≠g/\f≠g:=⟨cO e h,cO e h1,cO e i,cO e j,cO e k,cO e l,cO e m⟩
theorem YF{a a1 a2 b c d f h g s:Nat}(e:g=s)(i:a<s)(h1:a1<s)(j:a2<s)(k:b<s)(l:c<s)(m:d<s)(n:f<s)(o:h<s):a≠g/\a1≠g/\a2≠g/\b≠g/\c≠g/\d≠g/\f≠g/\h≠g:=⟨cO e i,cO e h1,cO e j,cO e k,cO e l,cO e m,cO e n,cO e o⟩
theorem YG{a a1 a2 b c d f h i g s:Nat}(e:g=s)(j:a<s)(h1:a1<s)(k:a2<s)(l:b<s)(m:c<s)(n:d<s)(o:f<s)(p:h<s)(q:i<s):a≠g/\a1≠g/\a2≠g/\b≠g/\c≠g/\d≠g/\f≠g/\h≠g/\i≠g:=⟨cO e j,cO e h1,cO e k,cO e l,cO e m,cO e n,cO e o,cO e p,cO e q⟩
theorem abu{a a1 a2 b c d f h i j g s:Nat}(e:g=s)(k:a<s)(h1:a1<s)(l:a2<s)(m:b<s)(n:c<s)(o:d<s)(p:f<s)(q:h<s)(r:i<s)(t:j<s):a≠g/\a1≠g/\a2≠g/\b≠g/\c≠g/\d≠g/\f≠g/\h≠g/\i≠g/\j≠g:=⟨cO e k,cO e h1,cO e l,cO e m,cO e n,cO e o,cO e p,cO e q,cO e r,cO e t⟩
theorem ahC{a a1 a2 c d f h i j k b g s:Nat}(e:g=s)(l:a<s)(h1:a1<s)(n:a2<s)(o:c<s)(p:d<s)(q:f<s)(r:h<s)(t:i<s)(u:j<s)(v:k<s)(m:b<s):a≠g/\a1≠g/\a2≠g/\c≠g/\d≠g/\f≠g/\h≠g/\i≠g/\j≠g/\k≠g/\b≠g:=⟨cO e l,cO e h1,cO e n,cO e o,cO e p,cO e q,cO e r,cO e t,cO e u,cO e v,cO e m⟩
end
end Rt
end Go.Proofs.YtcbedgfikejkoaaGreatDoor
namespace Go.Proofs.YtcbedgfikejkoaaGreatDoor.Fx
open Go.RowKit Go.MapKept
def Mp(w:World)(b n:Nat)(key:Nat->Int)(val:Nat->Value):Prop :=
 ∃ a c,w.heap[b]? = some (.map a c)/\Stamped a c/\a.size=n /\ ∀ i,i<n -> ∃ e,a[i]? = some e/\e.key = .int .u64 (key i)/\e.val=val i
def aO{a:Type}(f:Nat->a)(j:Nat)(v:a):Nat->a:=fun i=>if i=j then v else f i
section
variable {w w':World} {b n:Nat} {key:Nat->Int} {val:Nat->Value}
theorem Mp.lt(h:Mp w b n key val):b<w.heap.size:=by
 obtain⟨a,c,h,_⟩:=h;exact(t_.1 h).1
theorem Mp.keep(h:Mp w b n key val)(e:w'.heap[b]? = w.heap[b]?):Mp w' b n key val:=by
 obtain⟨a,c,d,f⟩:=h;exact⟨a,c,e.trans d,f⟩
theorem Mp.cu{g:Nat}(h:Mp w b n key val)(a:Stp g w w')(c:b≠g):Mp w' b n key val:=h.keep (a.block b h.lt c)
theorem Mp.up(h:Mp w b n key val)(a:Below w.heap.size w w'):Mp w' b n key val:=h.keep (a.block b h.lt)
instance:Rt.Tr w w' (Mp w b n key val) (Mp w' b n key val):=⟨fun b h=>h.up b⟩
theorem Mp.sZ{T:TypeId}(h:Mp w b n key val)(a:Ty w b T):False:=by
 obtain⟨d,c,h,_⟩:=h;obtain⟨cs,a⟩:=a;rw[h]at a; cases a
theorem Mp.kV{Ts:List TypeId}(h:Mp w b n key val)(a:jg Ts w w')(_:True):Mp w' b n key val:=h.keep (a.block b h.lt fun _ c=>(h.sZ c).elim)
instance {Ts:List TypeId}:Rt.Tc Ts w w' (Mp w b n key val) (Mp w' b n key val) true:=⟨fun b h _=>h.kV b trivial⟩
theorem Mp.ne{g:Nat}{T:TypeId}(h:Mp w b n key val)(a:Ty w g T):g≠b:=fun e=>h.sZ (e ▸ a)
theorem Mp.vQ{j:Nat->Int}{k:Nat->Value}(h:Mp w b n key val)(e : ∀ i,i<n->key i=j i/\val i=k i):Mp w b n j k:=by
 obtain⟨l,c,m,o,p,q⟩:=h;exact⟨l,c,m,o,p,fun i g=>by
  obtain⟨x,a,d,f⟩:=q i g;exact⟨x,a,by rw[d,(e i g).1],by rw[f,(e i g).2]⟩⟩
theorem Mp.inj(h:Mp w b n key val) : ∀ i j,i<n->j<n->key i=key j->i=j:=fun i j t u e=>by
 obtain⟨g,c,_,⟨_,_,v⟩,hn,hg⟩:=h;obtain⟨x,d,q,_⟩:=hg i t;obtain⟨y,f,r,_⟩:=hg j u;rw[t_]at d f;obtain⟨m,d⟩:=d;obtain⟨o,f⟩:=f;have z:=List.pairwise_iff_getElem.1 v;have p : ∀ a c (k:a<g.size) (l:c<g.size),a<c->g[a].key≠g[c].key:=fun a c k l s=>by
  have:=z a c (by simpa using k) (by simpa using l) s
  simpa only[List.getElem_map,Array.getElem_toList] using this
 rcases Nat.lt_trichotomy i j with h1|h1|h1
 ·exact N_ (by rw[d,f,q,r,e]) (p i j m o h1)
 ·exact h1
 ·exact N_ (by rw[d,f,q,r,e]) (p j i o m h1)
end
section
variable {P:Program} {f:Nat->Value} {w:World} {o:Oper}
variable {b n:Nat} {key:Nat->Int} {val:Nat->Value}
theorem Mp.find(h:Mp w b n key val){a:Array MapEntry}{c:Nat}(t:w.heap[b]? = some (.map a c))(k:Int) :
 (Instr.findNow (.int .u64) (.int .u64 k) a.toList 0=some none /\ ∀ i,i<n->key i≠k) \/ ∃ j,j<n/\key j=k/\Instr.findNow (.int .u64) (.int .u64 k) a.toList 0=some (some (j,val j)):=by
 obtain⟨B,A,p,C,r,q⟩:=h;rw[t]at p;simp only[Option.some.injEq,Obj.map.injEq]at p;obtain⟨rfl,rfl⟩:=p;have u : ∀ x∈a.toList,IsKey (.int .u64) x.key:=fun x v=>by
  obtain⟨i,o,e⟩:=List.getElem_of_mem v;obtain⟨y,l,m,_⟩:=q i (by simpa [<- r] using o);have:y=x:=by
   have f:a.toList[i]? = some x:=(by rw[o_ o,e]);rw[Array.getElem?_toList,l]at f;exact C_ f
  rw[<- this,m]; exact rfl
 rcases findNow_spec (d := .int .u64) (k := .int .u64 k) rfl a.toList 0 u with ⟨f,g⟩|⟨j,e,f,g,h7⟩
 ·left;refine⟨f,fun i o e => ?_⟩;obtain⟨y,l,m,_⟩:=q i o;exact g y (Array.mem_toList_iff.2 (Array.mem_of_getElem? l)) (by rw[m,e])
 right;have s:j<n:=by
  rw[Array.getElem?_toList]at g;rw[<- r]; exact(t_.1 g).1
 obtain⟨y,l,m,z⟩:=q j s;rw[Array.getElem?_toList,l]at g;obtain rfl:=C_ g;rw[m]at h7;simp only[Value.int.injEq,true_and]at h7;exact⟨j,s,h7,by rw[f,H_,z]⟩
theorem qp{T K E:TypeId}{k:Int}{ok:Bool}{z:Value}(h:Mp w b n key val)(o:P.underlying T=some (.map K E))(l:P.underlying K=some (.int .u64))(v:(zeroValue E).run P w = .ok z w) :
 ((∀ i,i<n->key i≠k)->(Instr.lookup T (.map (some b)) (.int .u64 k) ok).run P w = .ok (if ok then .tuple #[z,.bool false]else z) w) /\
 ∀ j,j<n->key j=k->(Instr.lookup T (.map (some b)) (.int .u64 k) ok).run P w = .ok (if ok then .tuple #[val j,.bool true]else val j) w:=by
 have t:=h;obtain⟨q,c,d,_⟩:=t;have m:(Instr.checkKey q.isEmpty 10000 K (.int .u64 k)).run P w = .ok () w:=run_checkKey l (show IsKey (.int .u64) (.int .u64 k)from rfl) _ 9999
 rcases h.find d k with ⟨f,r⟩|⟨j,a,hkj,f⟩
 ·refine⟨fun _ => ?_,fun j a e=>N_ e (r j a)⟩;have g:=run_findKey (w:=w) l f;unfold Instr.lookup;simp only[Sem.run_bind,run_underlying o,Result.andThen_ok,Go.MapKept.run_getObj_map d,Sem.run_pure,m,g,v]
 refine⟨fun u=>N_ hkj (u j a),fun p s e => ?_⟩;obtain rfl:p=j:=h.inj p j s a (e.trans hkj.symm);have g:=run_findKey (w:=w) l f;unfold Instr.lookup;simp only[Sem.run_bind,run_underlying o,Result.andThen_ok,Go.MapKept.run_getObj_map d,Sem.run_pure,m,g]
theorem O6{T K E:TypeId}{x a:Operand}{k:Int}{z:Value}(e:o.op = .lookup T x a false)(hx:ev f x = .map (some b))(hi:ev f a = .int .u64 k)(h:Mp w b n key val)(g:P.underlying T=some (.map K E))(c:P.underlying K=some (.int .u64))(j:(zeroValue E).run P w = .ok z w)(d : ∀ i,i<n->key i≠k):Runs P f o w z:=by
 unfold Runs execOp;simp only[e,hx,hi,Sem.run_bind,((qp (ok:=false) h g c j).1 d),Result.andThen_ok,Sem.run_pure]; rfl
theorem wW{T K E:TypeId}{x a:Operand}{k:Int}{z v:Value}{j:Nat}(g:o.op = .lookup T x a false)(hx:ev f x = .map (some b))(hi:ev f a = .int .u64 k)(h:Mp w b n key val)(i:P.underlying T=some (.map K E))(e:P.underlying K=some (.int .u64))(m:(zeroValue E).run P w = .ok z w)(d:j<n)(c:key j=k)(l:val j=v):Runs P f o w v:=by
 subst l;unfold Runs execOp;simp only[g,hx,hi,Sem.run_bind,((qp (ok:=false) h i e m).2 j d c),Result.andThen_ok,Sem.run_pure]; rfl
theorem FB{T K E:TypeId}{x a:Operand}{k:Int}{z:Value}(e:o.op = .lookup T x a true)(hx:ev f x = .map (some b))(hi:ev f a = .int .u64 k)(h:Mp w b n key val)(g:P.underlying T=some (.map K E))(c:P.underlying K=some (.int .u64))(j:(zeroValue E).run P w = .ok z w)(d : ∀ i,i<n->key i≠k):Runs P f o w (.tuple #[z,.bool false]):=by
 unfold Runs execOp;simp only[e,hx,hi,Sem.run_bind,((qp (ok:=true) h g c j).1 d),Result.andThen_ok,Sem.run_pure]; rfl
theorem FC{T K E:TypeId}{x a:Operand}{k:Int}{z v:Value}{j:Nat}(g:o.op = .lookup T x a true)(hx:ev f x = .map (some b))(hi:ev f a = .int .u64 k)(h:Mp w b n key val)(i:P.underlying T=some (.map K E))(e:P.underlying K=some (.int .u64))(m:(zeroValue E).run P w = .ok z w)(d:j<n)(c:key j=k)(l:val j=v):Runs P f o w (.tuple #[v,.bool true]):=by
 subst l;unfold Runs execOp;simp only[g,hx,hi,Sem.run_bind,((qp (ok:=true) h i e m).2 j d c),Result.andThen_ok,Sem.run_pure]; rfl
end
section
variable {P:Program} {w:World} {b n:Nat} {key:Nat->Int} {val:Nat->Value}
theorem Jw{w:World}{b:Nat}{o o':Obj}(d:w.heap[b]? = some o):({ w with heap:=w.heap.setIfInBounds b o' }:World).heap[b]? = some o'/\Stp b w { w with heap:=w.heap.setIfInBounds b o' }/\({ w with heap:=w.heap.setIfInBounds b o' }:World).heap.size=w.heap.size:=by
 obtain⟨a,c⟩:=heap_set (o':=o') d;exact⟨a,⟨rfl,rfl,rfl,by simp,fun k _ e=>c k e⟩,by simp⟩
theorem Aw{T K E:TypeId}{k:Int}{v:Value}(h:Mp w b n key val)(L:P.underlying T=some (.map K E))(A:P.underlying K=some (.int .u64)) :
 (∀ j,j<n->key j=k -> ∃ w',(Instr.mapUpdate T (.map (some b)) (.int .u64 k) v).run P w = .ok () w'/\Mp w' b n key (aO val j v)/\Stp b w w'/\w'.heap.size=w.heap.size) /\
 ((∀ i,i<n->key i≠k) -> ∃ w',(Instr.mapUpdate T (.map (some b)) (.int .u64 k) v).run P w = .ok () w'/\Mp w' b (n+1) (aO key n k) (aO val n v)/\Stp b w w'/\w'.heap.size=w.heap.size):=by
 have R:=h;obtain⟨f,c,d,H,o,q⟩:=R;have J:(Instr.checkKey false 10000 K (.int .u64 k)).run P w = .ok () w:=run_checkKey A (show IsKey (.int .u64) (.int .u64 k)from rfl) _ 9999
 rcases h.find d k with ⟨t,I⟩|⟨j,p,hkj,t⟩
 ·refine⟨fun j p e=>N_ e (I j p),fun _ => ?_⟩;have u:=run_findKey (w:=w) A t;obtain⟨C,D,F⟩:=Jw (o' := .map (f.push { key := .int .u64 k,val:=v,born:=c }) (c+1)) d;have B:(Instr.mapUpdate T (.map (some b)) (.int .u64 k) v).run P w = .ok () { w with heap:=w.heap.setIfInBounds b (.map (f.push { key := .int .u64 k,val:=v,born:=c }) (c+1)) }:=by
   unfold Instr.mapUpdate;simp only[Sem.run_bind,run_underlying L,Result.andThen_ok,Go.MapKept.run_getObj_map d,J,u];exact run_setObj_map _ d
  refine⟨_,B,⟨_,_,C,stamped_push H fun x r e => ?_,by simp[o],fun i g => ?_⟩,D,F⟩
  ·obtain⟨i,g,O⟩:=List.getElem_of_mem r;obtain⟨y,l,m,_⟩:=q i (by simpa [<- o] using g);have G:f.toList[i]? = some x:=(by rw[o_ g,O]);rw[Array.getElem?_toList,l]at G;obtain rfl:=C_ G;rw[m]at e;simp only[Value.int.injEq,true_and]at e;exact I i (by simpa [<- o] using g) e
  by_cases e:i=n
  ·subst e;refine⟨_,by rw[Array.getElem?_push,d_ o.symm],?_,?_⟩
   ·show Value.int .u64 k=_; unfold aO; rw[d_ rfl]
   show v=_; unfold aO; rw[d_ rfl]
  obtain⟨y,l,m,N⟩:=q i (by omega);refine⟨y,by rw[Array.getElem?_push,b_ (by omega)]; exact l,?_,?_⟩
  ·unfold aO; rw[b_ e]; exact m
  unfold aO; rw[b_ e]; exact N
 refine⟨fun a Q e => ?_,fun S=>N_ hkj (S j p)⟩;obtain rfl:a=j:=h.inj a j Q p (e.trans hkj.symm);have u:=run_findKey (w:=w) A t;obtain⟨y,l,m,N⟩:=q a p;obtain⟨C,D,F⟩:=Jw (o' := .map (f.modify a fun e => { e with key := .int .u64 k,val:=v }) c) d;have U:(Instr.keyThatStays (((f[a]?).map (·.key)).getD (.int .u64 k)) (.int .u64 k)).run P w = .ok (.int .u64 k) w:=by
  rw[l];show(Instr.keyThatStays y.key (.int .u64 k)).run P w=_;rw[m,e];unfold Instr.keyThatStays;rw[d_ (by simp[Instr.sameBits])]; rfl
 have B:(Instr.mapUpdate T (.map (some b)) (.int .u64 k) v).run P w = .ok () { w with heap:=w.heap.setIfInBounds b (.map (f.modify a fun e => { e with key := .int .u64 k,val:=v }) c) }:=by
  unfold Instr.mapUpdate;simp only[Sem.run_bind,run_underlying L,Result.andThen_ok,Go.MapKept.run_getObj_map d,J,u,U];exact run_setObj_map _ d
 refine⟨_,B,⟨_,_,C,stamped_modify H a _ (fun _ _=>rfl) (fun x _ r => ?_),by simp[o],fun i g => ?_⟩,D,F⟩
 ·rw[l]at r;obtain rfl:=C_ r;show Value.int .u64 k=y.key;rw[m,e]
 obtain⟨z,M,V,W⟩:=q i g;by_cases s:a=i
 ·subst s;refine⟨{ z with key := .int .u64 k,val:=v },by rw[Array.getElem?_modify,d_ rfl,M]; rfl,?_,?_⟩
  ·show Value.int .u64 k=_; rw[e]
  show v=_; unfold aO; rw[d_ rfl]
 refine⟨z,by rw[Array.getElem?_modify,b_ s]; exact M,V,?_⟩;unfold aO; rw[b_ (fun h=>s h.symm)]; exact W
end
def It(w:World)(r b n:Nat)(S:Nat->Bool):Prop :=
 ∃ a d c g f,w.heap[b]? = some (.map a d)/\w.heap[r]? = some (.mapIter (some b) c g f)/\(∀ x∈a.toList,x.born<c)/\c<=f/\a.size=n/\(∀ x∈a.toList,x.born<d)/\c<=d/\(∀(i j:Nat) (x y:MapEntry),a[i]? = some x->a[j]? = some y->x.born=y.born->i=j) /\ ∀ i,i<n -> ∃ e,a[i]? = some e/\g.contains e.born=S i
section
variable {w w':World} {r b n:Nat} {S:Nat->Bool}
theorem It.lt(h:It w r b n S):r<w.heap.size:=by
 obtain⟨d,c,s,e,a,_,h,_⟩:=h;exact(t_.1 h).1
theorem It.SE(h:It w r b n S):b<w.heap.size:=by
 obtain⟨d,c,s,e,a,h,_⟩:=h;exact(t_.1 h).1
theorem It.keep(h:It w r b n S)(e:w'.heap[b]? = w.heap[b]?)(d:w'.heap[r]? = w.heap[r]?):It w' r b n S:=by
 obtain⟨f,c,s,k,a,g,i,j⟩:=h;exact⟨f,c,s,k,a,e.trans g,d.trans i,j⟩
theorem It.up(h:It w r b n S)(a:Below w.heap.size w w'):It w' r b n S:=h.keep (a.block b h.SE) (a.block r h.lt)
instance:Rt.Tr w w' (It w r b n S) (It w' r b n S):=⟨fun b h=>h.up b⟩
theorem It.sZ{T:TypeId}(h:It w r b n S)(a:Ty w r T):False:=by
 obtain⟨e,c,s,f,d,_,h,_⟩:=h;obtain⟨cs,a⟩:=a;rw[h]at a; cases a
theorem It.TH{T:TypeId}(h:It w r b n S)(a:Ty w b T):False:=by
 obtain⟨e,c,s,f,d,h,_⟩:=h;obtain⟨cs,a⟩:=a;rw[h]at a; cases a
theorem It.kV{Ts:List TypeId}(h:It w r b n S)(c:jg Ts w w')(_:True):It w' r b n S:=h.keep (c.block b h.SE fun _ a=>(h.TH a).elim) (c.block r h.lt fun _ a=>(h.sZ a).elim)
instance {Ts:List TypeId}:Rt.Tc Ts w w' (It w r b n S) (It w' r b n S) true:=⟨fun b h _=>h.kV b trivial⟩
theorem It.rb(h:It w r b n S):r≠b:=fun e=>by
 obtain⟨g,c,s,i,f,d,a,_⟩:=h;rw[e,d]at a; cases a
end
def BA(w:World)(r b i:Nat):Prop :=
 ∃ a c f d e,w.heap[b]? = some (.map a c)/\w.heap[r]? = some (.mapIter (some b) f (Array.push d e.born) c)/\a[i]? = some e/\(a.toList.map (·.born)).Nodup
section
variable {w w':World} {r b i:Nat}
theorem BA.lt(h:BA w r b i):r<w.heap.size:=by
 obtain⟨a,c,s,d,e,_,h,_⟩:=h;exact(t_.1 h).1
theorem BA.SE(h:BA w r b i):b<w.heap.size:=by
 obtain⟨a,c,s,d,e,h,_⟩:=h;exact(t_.1 h).1
theorem BA.keep(h:BA w r b i)(e:w'.heap[b]? = w.heap[b]?)(a:w'.heap[r]? = w.heap[r]?):BA w' r b i:=by
 obtain⟨d,c,s,k,x,f,g,j⟩:=h;exact⟨d,c,s,k,x,e.trans f,a.trans g,j⟩
theorem BA.up(h:BA w r b i)(a:Below w.heap.size w w'):BA w' r b i:=h.keep (a.block b h.SE) (a.block r h.lt)
instance:Rt.Tr w w' (BA w r b i) (BA w' r b i):=⟨fun b h=>h.up b⟩
theorem BA.sZ{T:TypeId}(h:BA w r b i)(a:Ty w r T):False:=by
 obtain⟨d,c,s,f,e,_,h,_⟩:=h;obtain⟨cs,a⟩:=a;rw[h]at a; cases a
theorem BA.TH{T:TypeId}(h:BA w r b i)(a:Ty w b T):False:=by
 obtain⟨d,c,s,f,e,h,_⟩:=h;obtain⟨cs,a⟩:=a;rw[h]at a; cases a
theorem BA.kV{Ts:List TypeId}(h:BA w r b i)(c:jg Ts w w')(_:True):BA w' r b i:=h.keep (c.block b h.SE fun _ a=>(h.TH a).elim) (c.block r h.lt fun _ a=>(h.sZ a).elim)
instance {Ts:List TypeId}:Rt.Tc Ts w w' (BA w r b i) (BA w' r b i) true:=⟨fun b h _=>h.kV b trivial⟩
end
def Fam(w:World)(n:Nat)(pb:Nat->Nat)(s:Nat)(x:Nat->Nat->Value)(T:TypeId):Prop := ∀ i,i<n->aQ w (pb i) s (x i) T
section
variable {w w':World} {n s:Nat} {pb:Nat->Nat} {x:Nat->Nat->Value} {T:TypeId}
theorem Fam.up(h:Fam w n pb s x T)(b:Below w.heap.size w w'):Fam w' n pb s x T:=fun i a=>(h i a).cu (Sb b) (u_ (h i a).lt)
instance:Rt.Tr w w' (Fam w n pb s x T) (Fam w' n pb s x T):=⟨fun b h=>h.up b⟩
theorem Fam.kV{Ts:List TypeId}(h:Fam w n pb s x T)(b:jg Ts w w')(c:Ts.contains T=false):Fam w' n pb s x T:=fun i a=>(h i a).kV b c
instance {Ts:List TypeId}:Rt.Tc Ts w w' (Fam w n pb s x T) (Fam w' n pb s x T) (!(Ts.contains T)):=⟨fun b h e=>h.kV b (by simpa using e)⟩
theorem Fam.cu{g:Nat}(h:Fam w n pb s x T)(b:Stp g w w')(c : ∀ i,i<n->pb i≠g):Fam w' n pb s x T:=fun i a=>(h i a).cu b (c i a)
theorem Fam.put{j:Nat}{y:Nat->Value}(h:Fam w n pb s x T)(f:Stp (pb j) w w')(c:aQ w' (pb j) s y T)(hi : ∀ i k,i<n->k<n->pb i=pb k->i=k)(d:j<n):Fam w' n pb s (aO x j y) T:=fun i a=>by
 unfold aO;by_cases e:i=j
 ·subst e; rw[d_ rfl]; exact c
 ·rw[b_ e]; exact(h i a).cu f fun b=>e (hi i j a d b)
theorem Fam.to{b:Nat->Nat->Value}(h:Fam w n pb s x T)(e : ∀ i,i<n->x i=b i):Fam w n pb s b T:=fun i a=>e i a ▸ h i a
theorem Fam.push{g:Nat}{y:Nat->Value}(h:Fam w n pb s x T)(a:aQ w g s y T):Fam w (n+1) (aO pb n g) s (aO x n y) T:=fun i b=>by
 unfold aO;by_cases e:i=n
 ·rw[d_ e,d_ e]; exact a
 ·rw[b_ e,b_ e]; exact h i (by omega)
end
def unseen(S:Nat->Bool):Nat->Nat
 | 0=>0
 | n+1=>unseen S n+if S n then 0 else 1
theorem Ay(S:Nat->Bool)(i:Nat) : ∀ n,n<=i->unseen (aO S i true) n=unseen S n
 | 0,_=>rfl
 | n+1,h=>by
   unfold unseen;rw[Ay S i n (by omega)];have:aO S i true n=S n:=(by unfold aO; rw[b_ (by omega)]);rw[this]
theorem pQ{S:Nat->Bool}{i:Nat}(a:S i=false) : ∀ n,i<n->unseen (aO S i true) n+1=unseen S n
 | 0,h=>N_ h (z_ _)
 | n+1,h=>by
   unfold unseen;by_cases e:i=n
   ·subst e;rw[Ay S i i (A_ _),a];have:aO S i true i=true:=(by unfold aO; rw[d_ rfl]);rw[this]; simp
   ·have:aO S i true n=S n:=(by unfold aO; rw[b_ (by omega)]);rw[this,<- pQ a n (by omega)];omega
theorem run_makeMap'{P:Program}(t:TypeId)(w:World):(Instr.makeMap t none).run P w = .ok (.map (some w.heap.size)) (w.alloc (.map #[] 0)):=rfl
section
variable {P:Program} {n0:Nat} {Q:Post} {f:Nat->Value} {w:World} {ops:Array Oper} {rest:List Oper} {o:Oper} {b n:Nat} {key:Nat->Int} {val:Nat->Value}
theorem L.adh{T K E:TypeId}{x c v:Operand}{k:Int}{u:Value}{j:Nat}(z:Region.wanted o (yf ops f)=true)(a:o.dst=none)(q:o.op = .mapUpdate T x c v)(hx:ev f x = .map (some b))(hi:ev f c = .int .u64 k)(y:ev f v=u)(h:Mp w b n key val)(t:P.underlying T=some (.map K E))(p:P.underlying K=some (.int .u64))(m:j<n)(l:key j=k)
 (i : ∀ w',Mp w' b n key (aO val j u)->Stp b w w'->w'.heap.size=w.heap.size->L P n0 ops Q rest f w'):L P n0 ops Q (o::rest) f w:=by
 obtain⟨w',r,d,e,g⟩:=(Aw (v:=u) h t p).1 j m l;have s:(execOp (ev f) o).run P w = .ok .skip w':=by
  unfold execOp;simp only[q,hx,hi,y,Sem.run_bind,r,Result.andThen_ok,Sem.run_pure]
 refine L.unit z s (by rw[a]; rfl) ?_;rw[a]; exact i w' d e g
theorem L.QU{T K E:TypeId}{x c v:Operand}{k:Int}{u:Value}(y:Region.wanted o (yf ops f)=true)(a:o.dst=none)(p:o.op = .mapUpdate T x c v)(hx:ev f x = .map (some b))(hi:ev f c = .int .u64 k)(t:ev f v=u)(h:Mp w b n key val)(s:P.underlying T=some (.map K E))(l:P.underlying K=some (.int .u64))(m : ∀ i,i<n->key i≠k)
 (j : ∀ w',Mp w' b (n+1) (aO key n k) (aO val n u)->Stp b w w'->w'.heap.size=w.heap.size->L P n0 ops Q rest f w'):L P n0 ops Q (o::rest) f w:=by
 obtain⟨w',q,d,e,g⟩:=(Aw (v:=u) h s l).2 m;have r:(execOp (ev f) o).run P w = .ok .skip w':=by
  unfold execOp;simp only[p,hx,hi,t,Sem.run_bind,q,Result.andThen_ok,Sem.run_pure]
 refine L.unit y r (by rw[a]; rfl) ?_;rw[a]; exact j w' d e g
theorem L.KN{T:TypeId}(h:Region.wanted o (yf ops f)=true)(b:inn n0 o.dst=true)(d:o.op = .makeMap T none)
 (a : ∀ g w',g=w.heap.size->Mp w' g 0 (fun _=>0) (fun _ => .pointer none)->Stp w.heap.size w w'->w'.heap.size=w.heap.size+1->L P n0 ops Q rest (put f o.dst (.map (some g))) w'):L P n0 ops Q (o::rest) f w:=by
 have e:(execOp (ev f) o).run P w = .ok (.value (.map (some w.heap.size))) (w.alloc (.map #[] 0)):=by
  unfold execOp;simp only[d,Option.map_none];simp[run_makeMap']
 refine L.val h e b (a _ _ rfl ?_ (Stp.alloc _ _) (by simp));exact⟨#[],0,by rw[alloc_at,d_ rfl],stamped_empty 0,rfl,fun i c=>N_ c (z_ _)⟩
theorem TI{T K E:TypeId}{x:Operand}{Ts:Array TypeId}(g:o.op = .call { callee := .builtin .len,args := #[x],argTypes:=Ts })(e:Ts = #[T])(hx:ev f x = .map (some b))(h:Mp w b n key val)(j:P.underlying T=some (.map K E)):Runs P f o w (.int .i64 n):=by
 obtain⟨k,c,a,_,d,_⟩:=h;unfold Runs execOp;simp only[g];unfold resolve invoke;simp only[e,List.map_toArray,List.map_cons,List.map_nil,hx];unfold builtin;have i:(Builtin.len_ #[T] o.type #[.map (some b)]).run P w = .ok (.int .i64 n) w:=by
  unfold Builtin.len_;simp[run_underlying j,Go.MapKept.run_getObj_map a,goInt,d]
 simp only[Sem.run_bind,Sem.run_pure,Result.andThen_ok,i]
theorem L.range{T K E:TypeId}{x:Operand}(M:Region.wanted o (yf ops f)=true)(A:inn n0 o.dst=true)(F:o.op = .range T x)(hx:ev f x = .map (some b))(h:Mp w b n key val)(J:P.underlying T=some (.map K E))
 (l : ∀ g w',g=w.heap.size->It w' g b n (fun _=>false)->Stp w.heap.size w w'->w'.heap.size=w.heap.size+1->L P n0 ops Q rest (put f o.dst (.pointer (some ⟨g,0,none⟩))) w'):L P n0 ops Q (o::rest) f w:=by
 have D:=h;obtain⟨d,c,p,m,u,v⟩:=D;have H:=run_range_map (P:=P) w T K E b d c J p;have I:(execOp (ev f) o).run P w = .ok (.value (.pointer (some ⟨w.heap.size,0,none⟩))) (w.alloc (.mapIter (some b) c #[] c)):=by
  unfold execOp;simp only[F,hx,Sem.run_bind,H,Result.andThen_ok,Sem.run_pure]
 refine L.val M I A (l _ _ rfl ?_ (Stp.alloc _ _) (by simp));refine⟨d,c,c,#[],c,?_,by rw[alloc_at,d_ rfl],m.1,A_ _,u,m.1,A_ _,fun i j x y hx k e => ?_,fun i C => ?_⟩
 ·rw[alloc_at,b_ (u_ h.lt)]; exact p
 ·rw[t_]at hx k;obtain⟨r,hx⟩:=hx;obtain⟨s,k⟩:=k;have G:=List.pairwise_iff_getElem.1 m.2.1;have t : ∀ a c (q:a<d.size) (l:c<d.size),a<c->d[a].born≠d[c].born:=fun a c q l z=>by
   have:=G a c (by simpa using q) (by simpa using l) z
   simpa only[List.getElem_map,Array.getElem_toList] using this
  rcases Nat.lt_trichotomy i j with h5|h5|h5
  ·exact N_ (by rw[hx,k,e]) (t i j r s h5)
  ·exact h5
  exact N_ (by rw[hx,k,e]) (t j i s r h5)
 obtain⟨e,B,_⟩:=v i C;exact⟨e,B,by simp⟩
theorem L.next{x:Operand}{r:Nat}{S:Nat->Bool}(R:Region.wanted o (yf ops f)=true)(K:inn n0 o.dst=true)(M:o.op = .next x false)(hx:ev f x = .pointer (some ⟨r,0,none⟩))(h:Mp w b n key val)(hi:It w r b n S)
 (hc0:(∀ i,i<n->S i=true)->L P n0 ops Q rest (put f o.dst (.tuple #[.bool false])) w)
 (hc1 : ∀ i w',i<n->S i=false->It w' r b n (aO S i true)->BA w' r b i->Stp r w w'->w'.heap.size=w.heap.size->L P n0 ops Q rest (put f o.dst (.tuple #[.bool true,.int .u64 (key i),val i])) w'):L P n0 ops Q (o::rest) f w:=by
 obtain⟨g,c,d,a,W,l,s,H,Z,h5,h6,I,J,C⟩:=hi;obtain⟨es',c',G,kst,_,k4⟩:=h;rw[l]at G;simp only[Option.some.injEq,Obj.map.injEq]at G;obtain⟨rfl,rfl⟩:=G;have hrb:r≠b:=fun e=>by rw[e,l]at s; cases s
 rcases run_next_at (P:=P) w o.type r b d W a g c s l H Z with ⟨z,E⟩|⟨e,he,w1,hw1,E⟩
 ·have t:(execOp (ev f) o).run P w = .ok (.value (.tuple #[.bool false])) w:=by
   unfold execOp;simp only[M,hx,Sem.run_bind,E,Result.andThen_ok,Sem.run_pure]
  refine L.val R t K<|hc0 fun i hi => ?_;obtain⟨y,u,F⟩:=C i hi;rw[<- F]
  cases hq:a.contains y.born with
  | true=>rfl
  | false =>
    have q:y∈leftOf g a:=by
     unfold leftOf;rw[Array.mem_filter];exact⟨Array.mem_of_getElem? u,by rw[hq]; rfl⟩
    have:=Array.size_pos_of_mem q;omega
 have t:(execOp (ev f) o).run P w = .ok (.value (.tuple #[.bool true,e.key,e.val])) (Go.ChangeMaps.setBlock w1 r (.mapIter (some b) d (a.push e.born) c)):=by
  unfold execOp;simp only[M,hx,Sem.run_bind,E,Result.andThen_ok,Sem.run_pure]
 have q:e∈leftOf g a:=Array.mem_toList_iff.1 he;unfold leftOf at q;rw[Array.mem_filter]at q;obtain⟨hme,hns⟩:=q;obtain⟨i,hi,Y⟩:=Array.getElem_of_mem hme;have m:g[i]? = some e:=by rw[Array.getElem?_eq_getElem hi,Y]
 obtain⟨y,u,ky,vy⟩:=k4 i (by omega);rw[m]at u;obtain rfl:=C_ u;obtain⟨y2,T,F⟩:=C i (by omega);rw[m]at T;obtain rfl:=C_ T;have hsf:S i=false:=by rw[<- F]; simpa using hns
 have p:w1.os=w.os/\w1.tape=w.tape/\w1.output=w.output/\w1.heap=w.heap:=by rcases hw1 with rfl|rfl <;> exact⟨rfl,rfl,rfl,rfl⟩
 have O:(Go.ChangeMaps.setBlock w1 r (.mapIter (some b) d (a.push e.born) c)).heap.size=w.heap.size:=by
  show(w1.heap.setIfInBounds r _).size=_; rw[p.2.2.2]; simp
 have N:Stp r w (Go.ChangeMaps.setBlock w1 r (.mapIter (some b) d (a.push e.born) c)) :=
  ⟨p.1,p.2.1,p.2.2.1,by rw[O]; exact A_ _,fun k _ D=>by show(w1.heap.setIfInBounds r _)[k]? = _; rw[p.2.2.2,Array.getElem?_setIfInBounds_ne (Ne.symm D)]⟩
 have adi:r<w1.heap.size:=by
  rcases hw1 with rfl|rfl <;> exact(t_.1 s).1
 rw[ky,vy]at t;have U:(Go.ChangeMaps.setBlock w1 r (.mapIter (some b) d (a.push e.born) c)).heap[b]? = some (.map g c):=by rw[N.block b (t_.1 l).1 (Ne.symm hrb)]; exact l
 have V:(Go.ChangeMaps.setBlock w1 r (.mapIter (some b) d (a.push e.born) c)).heap[r]? = some (.mapIter (some b) d (a.push e.born) c):=by simp[Go.ChangeMaps.setBlock,adi]
 refine L.val R t K (hc1 i _ (by omega) hsf ⟨g,c,d,a.push e.born,c,U,V,H,I,h5,h6,I,J,fun j hj => ?_⟩ ⟨g,c,d,a,e,U,V,m,kst.2.1⟩ N O);obtain⟨A,v,hs3⟩:=C j hj;refine⟨A,v,?_⟩;unfold aO;by_cases B:j=i
 ·subst B;rw[m]at v;obtain rfl:=C_ v;rw[d_ rfl]; simp
 rw[b_ B,<- hs3];have D:A.born≠e.born:=fun X=>B (J j i A e v m X)
 cases hq:a.contains A.born with
 | true=>simp at hq ⊢; exact .inl hq
 | false=>simp at hq ⊢; exact⟨hq,D⟩
theorem O7{x:Operand}{r i:Nat}(q:o.op = .entry x)(hx:ev f x = .pointer (some ⟨r,0,none⟩))(h:Mp w b n key val)(hi:BA w r b i)(p:i<n):Runs P f o w (.tuple #[.int .u64 (key i),val i]):=by
 obtain⟨k,c,s,z,e,d,l,g,m⟩:=hi;obtain⟨C,B,a,_,_,u⟩:=h;rw[d]at a;simp only[Option.some.injEq,Obj.map.injEq]at a;obtain⟨rfl,rfl⟩:=a;obtain⟨y,j,v,A⟩:=u i p;rw[g]at j;obtain rfl:=C_ j;have t:=run_entry_at (P:=P) w r b s z k c e l d (Array.mem_toList_iff.2 (Array.mem_of_getElem? g)) m;unfold Runs execOp;simp only[q,hx,Sem.run_bind,t,Result.andThen_ok,Sem.run_pure,v,A]
end
structure QV(r:Nat)(w w':World):Prop where
 s:Stp r w w'
 no : ∀ T,¬ Ty w r T
section
variable {w w':World} {r b n:Nat}
theorem Mp.CP{m:Nat}{key:Nat->Int}{val:Nat->Value}(h:Mp w r m key val)(a:Stp r w w'):QV r w w':=⟨a,fun _ b=>h.sZ b⟩
theorem It.CP{m q:Nat}{S:Nat->Bool}(h:It w r q m S)(a:Stp r w w'):QV r w w':=⟨a,fun _ b=>h.sZ b⟩
theorem BA.CP{q i:Nat}(h:BA w r q i)(a:Stp r w w'):QV r w w':=⟨a,fun _ b=>h.sZ b⟩
theorem Fam.eH{m s:Nat}{pb:Nat->Nat}{x:Nat->Nat->Value}{T:TypeId}(h:Fam w m pb s x T)(a:QV r w w'):Fam w' m pb s x T:=fun i b=>(h i b).cu a.s fun e=>a.no T (e ▸ (h i b).ty)
theorem aQ.eH{x:Nat->Value}{T:TypeId}(h:aQ w b n x T)(a:QV r w w'):aQ w' b n x T:=h.cu a.s fun e=>a.no T (e ▸ h.ty)
theorem Own.eH{B s:Nat}{E:TypeId}{v:Value}{x:Nat->Value}(h:Own w B E s v n x)(a:QV r w w'):Own w' B E s v n x:=h.cu a.s fun e=>a.no E (h.ty e)
theorem Mp.eH{key:Nat->Int}{val:Nat->Value}(h:Mp w b n key val)(a:QV r w w')(c:b≠r):Mp w' b n key val:=h.cu a.s c
end
theorem tu(key:Nat->Int)(n:Nat)(k:Int):(∃ j,j<n/\key j=k) \/ ∀ i,i<n->key i≠k:=by
 by_cases h : ∃ j,j<n/\key j=k
 ·exact .inl h
 exact .inr fun i a e=>h ⟨i,a,e⟩
theorem wX{p:Nat->Prop}(h : ∃ k,p k) : ∃ k,p k /\ ∀ j,p j->k<=j:=by
 obtain⟨k,c⟩:=h
 induction k using Nat.strongRecOn with
 | _ k ih =>
   by_cases b : ∃ j,j<k/\p j
   ·obtain⟨j,a,e⟩:=b; exact ih j a e
   ·exact⟨k,c,fun j a=>Nat.not_lt.1 fun d=>b ⟨j,d,a⟩⟩
open Classical in
theorem DW{P:Program}{n:Nat}{c:Code}{Q:Post}{f:Nat->Value}{w:World}(I:Nat->(Nat->Value)->World->Prop)(j:Nat)(l:I j f w)
 (hr : ∀ k f w,I k f w->W P n c (KD (fun f w => ∃ a,a<k/\I a f w) (fun _ _=>0) 1 Q) f w):W P n (.loop c) Q f w:=by
 refine Wo (fun f w => ∃ k,I k f w) (fun f w=>if h : ∃ k,I k f w then(wX h).choose else 0) ⟨j,l⟩ fun f w h => ?_;refine(hr _ f w (wX h).choose_spec.1).mono fun e d w' i => ?_;rw[dif_pos h]
 cases e with
 | normal =>
   obtain⟨⟨a,m,b⟩,_⟩:=i;refine⟨⟨a,b⟩,?_⟩;have g : ∃ k,I k d w':=⟨a,b⟩;show(if h : ∃ k,I k d w' then(wX h).choose else 0)<_;rw[dif_pos g];exact Nat.lt_of_le_of_lt ((wX g).choose_spec.2 a b) m
 | _=>exact i
structure zH(Ts:List TypeId)(w w':World):Prop where
 os:w'.os=w.os
 tape:w'.tape=w.tape
 output:w'.output=w.output
 size:w.heap.size<=w'.heap.size
 block : ∀ k T,Ty w k T->Ts.contains T=false->w'.heap[k]? = w.heap[k]?
section
variable {w w' w2:World} {Ts Us:List TypeId}
theorem zH.refl(w:World):zH Ts w w:=⟨rfl,rfl,rfl,A_ _,fun _ _ _ _=>rfl⟩
theorem Ty.ltw{k:Nat}{T:TypeId}(h:Ty w k T):k<w.heap.size:=by
 obtain⟨c,h⟩:=h;exact(t_.1 h).1
theorem zH.trans(w w' w2:World)(h:zH Ts w w')(k:zH Ts w' w2):zH Ts w w2:=⟨k.os.trans h.os,k.tape.trans h.tape,k.output.trans h.output,m_ h.size k.size,fun i T b a=>by
 have e:=h.block i T b a;obtain⟨c,d⟩:=b;exact(k.block i T ⟨c,e.trans d⟩ a).trans e⟩
theorem zH.Jy(h:jg Ts w w'):zH Ts w w':=⟨h.os,h.tape,h.output,h.size,fun k T a b=>h.block k a.ltw fun d c=>by rw[Ty.only a c]; exact b⟩
theorem zH.of_below(h:Below w.heap.size w w'):zH Ts w w' := .Jy (.of_below h)
theorem zH.wide(h:zH Ts w w')(d:Ts.all Us.contains=true):zH Us w w':=⟨h.os,h.tape,h.output,h.size,fun k T f c=>h.block k T f (by
 cases e:Ts.contains T with
 | false=>rfl
 | true =>
   have b:T∈Ts:=(by simpa using e);have a:=(List.all_eq_true.1 d) T b;rw[c]at a; cases a)⟩
theorem aQ.om{b n:Nat}{x:Nat->Value}{T:TypeId}(h:aQ w b n x T)(a:zH Ts w w')(c:Ts.contains T=false):aQ w' b n x T:=(a.block b T h.ty c).trans h
theorem Fam.om{n s:Nat}{pb:Nat->Nat}{x:Nat->Nat->Value}{T:TypeId}(h:Fam w n pb s x T)(b:zH Ts w w')(c:Ts.contains T=false):Fam w' n pb s x T:=fun i a=>(h i a).om b c
theorem Own.om{B s n:Nat}{E:TypeId}{v:Value}{x:Nat->Value}(h:Own w B E s v n x)(a:zH Ts w w')(b:Ts.contains E=false):Own w' B E s v n x:=by
 refine⟨h.1,?_⟩
 rcases h.2 with hn|⟨g,cap,cur,hv,hB,hg,rest⟩
 ·exact .inl hn
 exact .inr ⟨g,cap,cur,hv,hB,(a.block g E ⟨cur,hg⟩ b).trans hg,rest⟩
end
end Go.Proofs.YtcbedgfikejkoaaGreatDoor.Fx
