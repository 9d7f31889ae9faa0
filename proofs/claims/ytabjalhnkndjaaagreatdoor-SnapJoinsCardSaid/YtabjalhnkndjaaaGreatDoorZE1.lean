/-
  What the proof of the law rests on, part 1: walks of functions, and plain laws; each says its conditions itself.
-/
import Derived.WalkKit
import Derived.WalkSpells
import Derived.Laws.AppendOwnNone
import Derived.Deep.QuietTactic
import Derived.BigQuiet
import Derived.RegionTactic
import Derived.Deep.RegionWith
import Derived.Deep.RegionLaw
import Derived.Deep.AppendLies
import Derived.Deep.Cut
import Derived.Deep.OwnRows
import Derived.StillTailTactics
import Derived.Deep.RegionHeld3
import Derived.Deep.MidRow
import Derived.StillTail
import Derived.DeepKeys
import Derived.Test.YtabjalhnkndjaaaGreatDoorRows
import Derived.MapKept
import Derived.Maps.RangeRun
variable{m k b j u M:Nat}{T E O:Go.TypeId}{x y:Nat->Go.Value}{c H:Go.Value}{f p Y:Go.Operand}{h q:Go.World}{a d:Int}{K:Go.IntKind}{s:List Go.Oper}{A:Go.Code}{D:Nat->Nat->Go.Value}{P:Go.Program}{N:Prop}{U:Array Go.Value}{V:Array Go.Oper}{e:Go.FuncId}{o:Array Bool}{z:Bool}{X:Nat->Int}{Q:Go.Oper}{Z:List Nat}
namespace Go.Proofs.YtabjalhnkndjaaaGreatDoor
theorem b_.{u}{h:Decidable N}(n:¬N:=by omega){α:Sort u}{t e:α}:(if N then t else e)=e:=if_neg n
theorem d_.{u}{h:Decidable N}(n:N:=by omega){α:Sort u}{t e:α}:(if N then t else e)=t:=if_pos n
theorem f_[i:Decidable N](h:N:=by omega):decide N=true:=decide_eq_true h
theorem g_[i:Decidable N](h:¬N:=by omega):decide N=false:=decide_eq_false h
theorem h_[i:Decidable N](h:decide N=true:=by rfl):N:=of_decide_eq_true h
theorem j_[i:Decidable N](h:decide N=false):¬N:=of_decide_eq_false h
theorem m_(h:b<=m)(g:m<=k):b<=k:=Nat.le_trans h g
theorem n_(h:b<m)(g:m<=k):b<k:=Nat.lt_of_lt_of_le h g
theorem o_.{u}{α:Type u}{l:List α}(h:m<l.length):l[m]? = some l[m]:=List.getElem?_eq_getElem h
theorem r_.{u}{α:Type u}{l:List α}{a:α}:l.getD m a = l[m]?.getD a:=List.getD_eq_getElem?_getD
theorem t_.{u}{α:Type u}{b:α}{xs:Array α}:xs[m]? = some b<->∃ h:m<xs.size,xs[m]=b:=Array.getElem?_eq_some_iff
theorem u_(h:m<b):m ≠ b:=Nat.ne_of_lt h
theorem z_(n:Nat):¬n<0:=Nat.not_lt_zero n
theorem A_(n:Nat):n<=n:=Nat.le_refl n
theorem B_(h:k.beq m=true):k=m:=Nat.eq_of_beq_eq_true h
theorem C_.{u}{α:Type u}{v w:α}(h:some v=some w):v=w:=Option.some.inj h
theorem D_(a:Int):a+0=a:=Int.add_zero a
theorem E_.{u}{α:Type u}{a b:List α}:(a++b).length=a.length+b.length:=List.length_append
theorem G_(n:Nat):0+n=n:=Nat.zero_add n
theorem H_(b:Bool):(b&&false)=false:=Bool.and_false b
theorem I_(x:Nat)(h:0<m):x%m<m:=Nat.mod_lt x h
theorem J_(n:Nat):0<=n:=Nat.zero_le n
theorem K_.{u,v}{α:Sort u}{β:Sort v}{a b:α}(f:α->β)(h:a=b):f a=f b:=congrArg f h
abbrev L_.{u}{a:Prop}{b:Sort u}(h:a)(n:¬a):b:=absurd h n
theorem M_(a:Int):a<=a:=Int.le_refl a
theorem N_:m ∈ List.range k<->m<k:=List.mem_range
theorem O_[i:Decidable N]:decide N=true<->N:=decide_eq_true_iff
theorem P_{c:Int}(h:a<=d)(g:d<=c):a<=c:=Int.le_trans h g
theorem Q_(a b:Bool):((a&&b)=true)=(a=true/\b=true):=Bool.and_eq_true a b
theorem R_(b:Bool):(¬b=true)=(b=false):=Bool.not_eq_true b
end Go.Proofs.YtabjalhnkndjaaaGreatDoor
set_option maxHeartbeats 1600000
set_option linter.unusedVariables false
set_option linter.unusedSimpArgs false
namespace Go.Proofs.YtabjalhnkndjaaaGreatDoor
open Go.RowKit
def dD(k:IntKind)(n:Nat)(x:Nat->Int):Array Value:=Array.ofFn (fun i:Fin n => .int k (x i))
theorem dM(k:IntKind)(n:Nat)(x:Nat->Int):(dD k n x).size=n:=by unfold dD; simp
theorem JQ(k:IntKind)(n:Nat)(x:Nat->Int)(i:Nat)(h:i<n):(dD k n x)[i]? = some (.int k (x i)):=by simp_all [dD]
theorem jd{a:Nat × Nat}(w:h.heap[b]? = some (.cells (dD K m X) T a))(i:Nat)(hi:i<m:=by omega) :
 h.cell? ⟨b,i,none⟩=some (.int K (X i)):=by
 rw[cell_of_row h b i _ _ _ w]; grind [JQ]
def fZ(x:Nat->Int)(i:Nat)(v:Int):Nat->Int:=fun j=>if j=i then v else x j
theorem jE(x:Nat->Int)(i j:Nat)(v:Int)(h:j≠i):fZ x i v j=x j:=by grind [fZ]
theorem nR(b off j:Nat):(⟨b,off,none⟩:Addr).add j=⟨b,off+j,none⟩:=by grind [Addr.add]
theorem DN{o:Oper}{a:Act}{Q:Exit->Act->World->Prop}(b:Region.wanted o (yielded V a.tmps)=true)
 (ops:o.wp P a h (wpList P V Q s) Q):wpList P V Q (o::s) a h:=by
 unfold wpList; simp_all
theorem bal{o:Obj}(w:Below (h.alloc o).heap.size (h.alloc o) q):Below h.heap.size h q :=
 ((Below.refl _ _).alloc (A_ _) _).trans (w.mono (by simp))
theorem Oj{w2:World}(w:Below h.heap.size h q)(a:Below q.heap.size q w2):Below h.heap.size h w2:=w.trans (a.mono w.size)
theorem kQ(w:World)(n:Nat):Below w.heap.size w (w.drewN n):=⟨rfl,rfl,rfl,A_ _,fun _ _=>rfl⟩
theorem bN(B:Below m h q)(n:Nat):Below m h (q.drewN n):=⟨B.os,B.tape,B.output,B.size,B.block⟩
theorem qD   {a : Func}  (d : P.funcs[e]? = some a) (f : (a.name == "runtime.NumGoroutine") = false) (b : a.body = some A) (args : Array Value) (w : World) :
 (callFunc e args).run P w = .ok (.enter e args) w:=by
 simp_all [callFunc]
theorem iY(w:World)(o:Obj)(k:Nat):(w.alloc o).heap[k]? = if k=w.heap.size then some o else w.heap[k]? := by
 show(w.heap.push o)[k]? = _
 grind
theorem run_storeVar_one(w:World)(g o:Nat)(ty:TypeId)(v b:Value)(hi:(P.info? ty).map (·.size)=some 1)(h1:v.oneCell'=true)(c:w.cell? ⟨g,o,none⟩=some b)(d:w.frozen? ⟨g,o,none⟩=false) :
 (storeVar ty ⟨g,o,none⟩ v).run P w = .ok () (w.setCell ⟨g,o,none⟩ v):=by
 have f:v.cells = #[v]:=by cases v <;> first|rfl|(simp[Value.oneCell']at h1)
 have:=run_storeCells_cells (P:=P) g o [v] 0 w (fun j a=>by simp_all) (fun j a=>by simp_all) (fun u e=>by simp_all)
 cases hq:P.info? ty with
 | none=>simp_all
 | some i =>
   simp_all [storeVar,sizeOf,typeInfo,World.setCells]
namespace Fx
def put(f:Nat->Value)(d:Option Nat)(v:Value):Nat->Value :=
 match d with
 | none=>f
 | some d=>fun i=>bif Nat.beq i d then v else f i
def ev(f:Nat->Value):Operand->Value
 | .tmp t=>f t
 | .const v=>v
 | .global g => .pointer (some ⟨g,0,none⟩)
 | .func g => .func (.func g) #[] #[]
structure Fr(a:Act)(n:Nat)(f:Nat->Value):Prop where
 size:a.tmps.size=n
 defers:a.defers = []
 get : ∀ i,a.tmps.getD i undef=f i
def dF(n:Nat)(d:Option Nat):Bool:=match d with|none=>true|some d=>Nat.blt d n
theorem Fr.ev{a:Act}{n:Nat}{f:Nat->Value}(h:Fr a n f):a.eval=Fx.ev f:=by
 funext x
 cases x <;> simp only[Act.eval,Fx.ev]
 exact h.get _
theorem Fr.put{a:Act}{n:Nat}{f:Nat->Value}(h:Fr a n f){d:Option Nat}(c:dF n d=true)(v:Value):Fr (a.put d v) n (Fx.put f d v):=by
 cases d with
 | none=>exact h
 | some d =>
   have g:d<n:=(by grind [dF,Nat.blt_eq]);refine⟨by simp[Act.put,h.size],h.defers,fun i => ?_⟩;have b:=h.get i;simp only[Act.put,Fx.put,Array.getD_eq_getD_getElem?,Array.getElem?_setIfInBounds]at b ⊢;by_cases e:d=i
   ·simp_all [h.size]
   grind [B_]
def yf(ops:Array Oper)(f:Nat->Value)(j:Nat):Option Bool :=
 match (ops[j]?).bind (·.dst)with
 | some d=>(match f d with | .bool b=>some b|_=>none)
 | none=>none
theorem Fr.yf{a:Act}{n:Nat}{f:Nat->Value}(h:Fr a n f)(ops:Array Oper):yielded ops a.tmps=Fx.yf ops f:=by
 funext j
 unfold yielded Fx.yf
 cases hd:(ops[j]?).bind (·.dst)with
 | none=>rfl
 | some d =>
   simp only[Option.bind_some];have b:=h.get d;rw[Array.getD_eq_getD_getElem?]at b
   cases hq:a.tmps[d]? with
   | none =>
     rw[hq]at b;rw[<- b];rfl
   | some v=>grind
abbrev kR:=Exit->(Nat->Value)->World->Prop
def JR(n:Nat)(Q:kR):Exit->Act->World->Prop:=fun e a w => ∃ f,Fr a n f/\Q e f w
def W(P:Program)(n:Nat)(c:Code)(Q:kR)(f:Nat->Value)(w:World):Prop := ∀ a,Fr a n f->Code.wp P c (JR n Q) a w
def Ub(P:Program)(n:Nat)(y:Code)(Q:kR):kR:=fun e f w=>match e with | .normal=>W P n y Q f w|e=>Q e f w
def BJ(id:Nat)(Q:kR):kR:=fun e f w=>match e with | .exit id'=>if id'=id then Q .normal f w else Q (.exit id') f w|e=>Q e f w
def Qm(I:(Nat->Value)->World->Prop)(m:(Nat->Value)->World->Nat)(k:Nat)(Q:kR):kR:=fun e f w=>match e with | .normal=>I f w/\m f w<k|e=>Q e f w
section
variable {P:Program} {n:Nat} {Q:kR} {f:Nat->Value} {w:World}
theorem aQ{y:Code}(h:W P n A (Ub P n y Q) f w):W P n (.seq A y) Q f w:=fun a i =>
 wp_seq (Code.wp_mono (fun e d w' b=>by
  obtain⟨g,c,b⟩:=b
  cases e <;> first|exact b d c|exact⟨g,c,b⟩) (h a i))
theorem Wk(h:Q .normal f w):W P n .skip Q f w:=fun _ a=>wp_skip ⟨f,a,h⟩
theorem Wr(h:Q .ret f w):W P n .ret Q f w:=fun _ a=>wp_ret ⟨f,a,h⟩
theorem Wx(h:Q (.exit m) f w):W P n (.exit m) Q f w:=fun _ a=>wp_exit ⟨f,a,h⟩
theorem Wb(h:W P n A (BJ m Q) f w):W P n (.block m A) Q f w:=fun a i =>
 wp_block (Code.wp_mono (fun e j w' b=>by
  obtain⟨d,g,b⟩:=b
  cases e <;> first
   | exact⟨d,g,b⟩
   | (simp only[BJ]at b; simp only[Exit.inBlock]; split at b <;> rename_i JX <;> simp only[JX,if_true,if_false] <;> exact⟨d,g,b⟩)) (h a i))
theorem Wc{y:Code}{b:Bool}(g:ev f p = .bool b)(i:b=true->W P n A Q f w)(h:b=false->W P n y Q f w):W P n (.cond p A y) Q f w:=fun a d =>
 wp_cond_split (t:=b) (by rw[d.ev]; exact g) (fun e=>i e a d) (fun e=>h e a d)
theorem Wo(I:(Nat->Value)->World->Prop)(m:(Nat->Value)->World->Nat)(p:I f w)(hr : ∀ f w,I f w->W P n A (Qm I m (m f w) Q) f w):W P n (.loop A) Q f w:=fun a q =>
 wp_loop (fun a w => ∃ f,Fr a n f/\I f w) (fun a w=>m (fun i=>a.tmps.getD i undef) w) ⟨f,q,p⟩ (fun a w g=>by
  obtain⟨f,j,g⟩:=g;have e:=funext j.get;refine Code.wp_mono (fun l k w' b => ?_) (hr f w g a j);obtain⟨d,h,b⟩:=b
  cases l <;> first
   | exact⟨d,h,b⟩
   | (have o:=funext h.get
      exact⟨⟨d,h,b.1⟩,by rw[e,o]; exact b.2⟩))
theorem W.mono{b:kR}(h:W P n A Q f w)(j : ∀ e f w,Q e f w->b e f w):W P n A b f w:=fun a g =>
 Code.wp_mono (fun _ _ _ ⟨d,i,q⟩=>⟨d,i,j _ _ _ q⟩) (h a g)
def LM(P:Program)(f:Nat->Value)(o:Oper)(w:World)(K:Value->World->Prop):Prop :=
 (∃ v w',(execOp (ev f) o).run P w = .ok (.value v) w'/\K v w')\/(∃ w',(execOp (ev f) o).run P w = .ok .skip w'/\K undef w') \/
 ∃ g a,(execOp (ev f) o).run P w = .ok (.enter g a) w/\Calls P g a w fun e w' => ∃ v,e = .returned v/\K v w'
def L(P:Program)(n:Nat)(ops:Array Oper)(Q:kR):List Oper->(Nat->Value)->World->Prop
 | [],f,w=>Q .normal f w
 | o::rest,f,w=>dF n o.dst=true/\((Region.wanted o (yf ops f)=true/\LM P f o w fun v w'=>L P n ops Q rest (put f o.dst v) w')\/(Region.wanted o (yf ops f)=false/\L P n ops Q rest (put f o.dst undef) w))
variable {ops:Array Oper} {rest:List Oper} {o:Oper}
theorem LM.wp{a:Act}{K:Value->World->Prop}{K':Act->World->Prop}{d:Exit->Act->World->Prop}(ha:Fr a n f)(h:LM P f o w K)(c : ∀ v w',K v w'->K' (a.put o.dst v) w'):o.wp P a w K' d:=by
 unfold Oper.wp;rw[ha.ev]
 rcases h with ⟨v,w',b,h⟩|⟨w',b,h⟩|⟨g,args,b,h⟩
 ·rw[b]; exact c v _ h
 ·rw[b]; exact c undef w' h
 rw[b]; exact h.mono fun e w' ⟨v,i,j⟩=>by simp_all
theorem L.to : ∀ {l:List Oper} {f:Nat->Value} {w:World},L P n ops Q l f w -> ∀ a,Fr a n f->wpList P ops (JR n Q) l a w
 | [],f,w,h,a,ha=>⟨f,ha,h⟩
 | o::rest,f,w,⟨hd,h⟩,a,ha=>by
   unfold wpList;rw[ha.yf]
   rcases h with ⟨b,h⟩|⟨b,h⟩
   ·rw[d_ b];exact .inl (h.wp ha fun v _ c=>L.to c _ (ha.put hd v))
   ·rw[b_ (by rw[b]; decide)];exact L.to h _ (ha.put hd undef)
theorem Wl(h:L P n s.toArray Q s f w):W P n (.region m s.toArray false) Q f w:=fun a b=>wp_region_lit (h.to a b)
theorem Ln(h:Q .normal f w):L P n ops Q [] f w:=h
abbrev cB(P:Program)(f:Nat->Value)(o:Oper)(w:World)(v:Value):Prop:=(execOp (ev f) o).run P w = .ok (.value v) w
theorem L.val(b:Region.wanted o (yf ops f)=true)(hr:(execOp (ev f) o).run P w = .ok (.value c) h)(a:dF n o.dst=true)(v:L P n ops Q rest (put f o.dst c) h):L P n ops Q (o::rest) f w :=
 ⟨a,.inl ⟨b,.inl ⟨c,h,hr,v⟩⟩⟩
theorem Lv(v:Value)(hr:cB P f o w v)(h:L P n ops Q rest (put f o.dst v) w)(b:Region.wanted o (yf ops f)=true:=by rfl)(a:dF n o.dst=true:=by rfl):L P n ops Q (o::rest) f w:=L.val b hr a h
theorem L.unit(b:Region.wanted o (yf ops f)=true)(hr:(execOp (ev f) o).run P w = .ok .skip h)(a:dF n o.dst=true)(w':L P n ops Q rest (put f o.dst undef) h):L P n ops Q (o::rest) f w :=
 ⟨a,.inl ⟨b,.inr (.inl ⟨h,hr,w'⟩)⟩⟩
theorem Lk(b:Region.wanted o (yf ops f)=false)(a:dF n o.dst=true)(h:L P n ops Q rest (put f o.dst undef) w):L P n ops Q (o::rest) f w :=
 ⟨a,.inr ⟨b,h⟩⟩
theorem zW{args:Array Value}(b:Region.wanted o (yf ops f)=true)(hr:(execOp (ev f) o).run P w = .ok (.enter e args) w)(a:dF n o.dst=true)
 (h:Calls P e args w fun g w' => ∃ v,g = .returned v/\L P n ops Q rest (put f o.dst v) w'):L P n ops Q (o::rest) f w :=
 ⟨a,.inl ⟨b,.inr (.inr ⟨e,args,hr,h⟩)⟩⟩
def Qt(P:Program)(n:Nat)(ops:Array Oper)(C:World->Prop)(Q:(Nat->Value)->Prop)(rest:List Oper)(f:Nat->Value):Prop := ∀ a,Fr a n f->wpQuiet P ops C (fun c => ∃ b,Fr c n b/\Q b) rest a
variable {C:World->Prop} {R:(Nat->Value)->Prop}
theorem W.quiet(C:World->Prop)(ops:P.follows .mixedOrders=true)(g:Region.lexB .any s.toArray=true)(i:C w.drew)
 (h:Qt P n s.toArray C (fun b => ∀ w',C w'->Q .normal b w') s f):W P n (.region m s.toArray true) Q f w:=fun a j=>by
 refine wp_region_quiet (C:=C) ops g i ?_;have:=h a j;have key : ∀(l:List Oper) (a:Act),wpQuiet P s.toArray C (fun c => ∃ b,Fr c n b /\ ∀ w',C w'->Q .normal b w') l a->wpQuiet P s.toArray C (fun c => ∀ w',C w'->JR n Q .normal c w') l a:=by
  intro l
  induction l with
  | nil=>intro a h; obtain⟨b,k,p⟩:=h; exact fun w' q=>⟨b,k,p w' q⟩
  | cons o l ih =>
    intro a h;unfold wpQuiet at h ⊢;split
    ·rename_i hw; rw[d_ hw]at h; obtain⟨v,d,e⟩:=h; exact⟨v,d,ih _ e⟩
    ·rename_i hw; rw[b_ hw]at h; exact ih _ h
 exact key _ _ this
theorem Qn(h:R f):Qt P n ops C R [] f:=fun _ a=>⟨f,a,h⟩
theorem Qt.val(e:Region.wanted o (yf ops f)=true)(hr : ∀ w,C w->(execOp (ev f) o).run P w = .ok (.value c) w)(d:dF n o.dst=true)(h:Qt P n ops C R rest (put f o.dst c)):Qt P n ops C R (o::rest) f:=fun a b=>by
 unfold wpQuiet;rw[b.yf,d_ e];refine⟨c,fun w v => ?_,h _ (b.put d c)⟩;unfold Oper.quietAt;rw[b.ev,hr w v];exact⟨rfl,rfl⟩
theorem Qv(v:Value)(hr : ∀ w,C w->cB P f o w v)(h:Qt P n ops C R rest (put f o.dst v))(b:Region.wanted o (yf ops f)=true:=by rfl)(a:dF n o.dst=true:=by rfl):Qt P n ops C R (o::rest) f:=Qt.val b hr a h
theorem Qs(d:Region.wanted o (yf ops f)=false)(c:dF n o.dst=true)(h:Qt P n ops C R rest (put f o.dst undef)):Qt P n ops C R (o::rest) f:=fun a b=>by
 unfold wpQuiet;rw[b.yf,b_ (by rw[d]; decide)];exact h _ (b.put c undef)
theorem ET{v:Value}{args:Array Value}(j:Region.wanted o (yf ops f)=true)(hr : ∀ w,C w->(execOp (ev f) o).run P w = .ok (.enter e args) w)(i:dF n o.dst=true)
 (d : ∀ w,C w->Calls P e args w fun g w'=>g = .returned v/\C w') (h:Qt P n ops C R rest (put f o.dst v)):Qt P n ops C R (o::rest) f:=fun a b=>by
 unfold wpQuiet;rw[b.yf,d_ j];refine⟨v,fun w c => ?_,h _ (b.put i v)⟩;unfold Oper.quietAt;rw[b.ev,hr w c];exact⟨rfl,d w c⟩
def St(P:Program)(n:Nat)(ops:Array Oper)(w:World)(Q:(Nat->Value)->Prop)(rest:List Oper)(f:Nat->Value):Prop := ∀ a,Fr a n f->wpStill P ops w (fun c => ∃ b,Fr c n b/\Q b) rest a
theorem St.nil(h:R f):St P n ops w R [] f:=fun _ a=>⟨f,a,h⟩
theorem St.val(d:Region.wanted o (yf ops f)=true)(hr:(execOp (ev f) o).run P w = .ok (.value c) w)(v:dF n o.dst=true)(h:St P n ops w R rest (put f o.dst c)):St P n ops w R (o::rest) f:=fun a b=>by
 unfold wpStill;rw[b.yf,d_ d];unfold Oper.still;rw[b.ev,hr];exact⟨rfl,h _ (b.put v c)⟩
theorem yx(v:Value)(hr:cB P f o w v)(h:St P n ops w R rest (put f o.dst v))(b:Region.wanted o (yf ops f)=true:=by rfl)(a:dF n o.dst=true:=by rfl):St P n ops w R (o::rest) f:=St.val b hr a h
theorem Wt(k:Nat)(i:P.follows .mixedOrders=true)(d:Region.lexTailB .any s.toArray k=true)
 (h : ∀ w1,Below w.heap.size w w1->w1.heap.size=w.heap.size->St P n s.toArray w1 (fun b=>L P n s.toArray Q (s.drop k) b w1) (s.take k) f):W P n (.region m s.toArray true) Q f w:=fun a e=>by
 refine wp_region_still_tail k i d ?_;have:=h { w with drawn:=w.drawn+1 } (Below.refl _ _).drew rfl a e
 have key : ∀(l:List Oper) (a:Act),wpStill P s.toArray { w with drawn:=w.drawn+1 } (fun c => ∃ b,Fr c n b/\L P n s.toArray Q (s.drop k) b { w with drawn:=w.drawn+1 }) l a ->
  wpStill P s.toArray { w with drawn:=w.drawn+1 } (fun c=>wpList P s.toArray (JR n Q) (s.drop k) c { w with drawn:=w.drawn+1 }) l a:=by
  intro l
  induction l with
  | nil=>intro a h; obtain⟨b,g,j⟩:=h; exact j.to a g
  | cons o l ih =>
    intro a h;unfold wpStill at h ⊢;split
    ·rename_i hw;rw[d_ hw]at h;unfold Oper.still Oper.stillUpon at h ⊢
     grind
    ·rename_i hw; rw[b_ hw]at h; exact ih _ h
 exact key _ _ this
def rdF(f:Nat->Value):ResultVar->Sem Value
 | .tmp t=>pure (f t)
 | .cell a t=>do loadVar t (<- asAddr (f a))
def Dt(a:Func)(f:Nat->Value):Sem Value:=do
 let vs <- a.results.mapM (rdF f)
 pure (if h:vs.size=1 then vs[0]else .tuple vs)
def alO(P:Program)(a:Func)(R:Ending->World->Prop):kR:=fun e f w=>match e with
 | .normal => ∃ v,(Dt a f).run P w = .ok v w/\R (.returned v) w
 | .ret => ∃ v,(Dt a f).run P w = .ok v w/\R (.returned v) w
 | .outgrown=>R .outgrown w
 | _=>False
theorem Wh{a:Act}(h:Fr a n f)(b:Func):results b a.tmps=Dt b f:=by
 unfold results Dt
 congr 1
 congr 1
 grind [h.get,rdF]
def start(args:Array Value):Nat->Value:=fun i=>args.getD i undef
theorem enter{d:Func}{R:Ending->World->Prop}(k:P.funcs[e]? = some d)(j:d.body=some A)(q:d.ntmps=n)(ha:Nat.ble U.size n=true)
 (h:W P n A (alO P d R) (start U) w):Calls P e U w R:=by
 refine calls_of_wp k j<|Code.wp_mono (fun args a w' b => ?_) (h _ ⟨?_,rfl,?_⟩)
 ·obtain⟨m,l,b⟩:=b
  cases args <;> first
   | exact b.elim
   | (obtain⟨v,o,f⟩:=b; exact⟨l.defers,v,by grind [Wh],f⟩)
   | exact b
 ·simp_all
 intro i;simp only[start,Array.getD_eq_getD_getElem?,Array.getElem?_append,Array.getElem?_replicate]
 grind
theorem jQ{a:Func}(hr:a.results = #[]):(Dt a f).run P w = .ok (.tuple #[]) w:=by
 simp_all [Dt]
theorem sN(h:W P n A Q f w):Ub P n A Q .normal f w:=h
theorem cZ(h:Q (.exit m) f w):Ub P n A Q (.exit m) f w:=h
theorem sR(h:Q .ret f w):Ub P n A Q .ret f w:=h
theorem bS(h:Q .normal f w):BJ m Q .normal f w:=h
theorem bO(h:Q .ret f w):BJ m Q .ret f w:=h
theorem dB(h:Q .normal f w):BJ m Q (.exit m) f w:=by grind [BJ]
theorem Gj(b:Nat.beq m k=false)(h:Q (.exit m) f w):BJ k Q (.exit m) f w:=by
 grind [Nat.beq_refl,BJ]
theorem iC{I:(Nat->Value)->World->Prop}{id:(Nat->Value)->World->Nat}(h:Q (.exit m) f w):Qm I id k Q (.exit m) f w:=h
theorem oG{I:(Nat->Value)->World->Prop}{m:(Nat->Value)->World->Nat}(h:Q .ret f w):Qm I m k Q .ret f w:=h
theorem iA{I:(Nat->Value)->World->Prop}{m:(Nat->Value)->World->Nat}(h:I f w)(a:m f w<k):Qm I m k Q .normal f w:=⟨h,a⟩
theorem aav(h1:ev f p=c) : [p].map (ev f) = [c]:=by simp_all
theorem Qo(h1:ev f p=c)(a:ev f Y=H) : [p,Y].map (ev f) = [c,H]:=by simp_all
theorem aqQ{b:Operand}{a:Value}(h1:ev f p=c)(x1:ev f Y=H)(d:ev f b=a) : [p,Y,b].map (ev f) = [c,H,a]:=by simp_all
theorem aqR{x1 d:Operand}{a b:Value}(h1:ev f p=c)(e:ev f Y=H)(g:ev f x1=a)(h:ev f d=b) : [p,Y,x1,d].map (ev f) = [c,H,a,b]:=by simp_all
theorem aqS{d e g:Operand}{v2 a b:Value}(h1:ev f p=H)(h:ev f Y=v2)(i:ev f d=a)(j:ev f e=b)(k:ev f g=c) : [p,Y,d,e,g].map (ev f) = [H,v2,a,b,c]:=by simp_all
end
end Fx
namespace Fx
section
variable {P:Program} {f:Nat->Value} {w:World} {o:Oper}
theorem iJ(a:o.op = .move p)(hx:ev f p=c):cB P f o w c:=by
 unfold cB execOp; simp_all
theorem fG(a:o.op = .assign p)(hx:ev f p=c):cB P f o w c:=by
 unfold cB execOp; simp_all
theorem aaw{y:Operand}{v:Value}(d:o.op = .pick p Y y)(a:ev f p = .bool z)(hx:ev f Y=H)(hy:ev f y=v):cB P f o w (if z then H else v):=by
 unfold cB execOp; simp_all [asBool]
theorem iE{y:Operand}(b:o.op = .pick p Y y)(a:ev f p = .bool true)(hx:ev f Y=H):cB P f o w H:=aaw b a hx rfl
theorem iF{x:Operand}(b:o.op = .pick p x Y)(a:ev f p = .bool false)(hy:ev f Y=H):cB P f o w H:=aaw b a rfl hy
theorem sZ(d:BinOp)(t:TypeId)(x y:Operand)(k c:IntKind)(a b:Int):(eqGuard d t x y (.int k a) (.int c b)).run P w = .ok () w:=by
 simp_all [eqGuard]
theorem vQ{k:BinOp}(e:o.op = .binOp k T p Y E)(hx:ev f p = .int K a)(hy:ev f Y = .int K d)(h:(binOp k T (.int K a) (.int K d)).run P w = .ok c w):cB P f o w c:=by
 grind [execOp,Sem.run_bind,sZ,Result.andThen_ok,Sem.run_pure]
theorem aax{c:Int}(g:o.op = .binOp .add T p Y E)(hx:ev f p = .int K a)(hy:ev f Y = .int K d)(e:K.wrap (a+d)=c):cB P f o w (.int K c) :=
 vQ g hx hy (by simp[binOp,Op.intArith,e])
theorem akl{c:Int}(g:o.op = .binOp .sub T p Y E)(hx:ev f p = .int K a)(hy:ev f Y = .int K d)(e:K.wrap (a-d)=c):cB P f o w (.int K c) :=
 vQ g hx hy (by simp[binOp,Op.intArith,e])
theorem Mw{c:Int}(g:o.op = .binOp .mul T p Y E)(hx:ev f p = .int K a)(hy:ev f Y = .int K d)(e:K.wrap (a*d)=c):cB P f o w (.int K c) :=
 vQ g hx hy (by simp[binOp,Op.intArith,e])
theorem Ht{c:Int}(h:o.op = .binOp .quo T p Y E)(hx:ev f p = .int K a)(hy:ev f Y = .int K d)(e:d≠0)(g:K.wrap (a.tdiv d)=c):cB P f o w (.int K c) :=
 vQ h hx hy (by simp[binOp,Op.intDiv,g,e])
theorem BK{c:Int}(h:o.op = .binOp .rem T p Y E)(hx:ev f p = .int K a)(hy:ev f Y = .int K d)(e:d≠0)(g:a.tmod d=c):cB P f o w (.int K c) :=
 vQ h hx hy (by simp[binOp,Op.intDiv,g,e])
theorem aay(x:o.op = .binOp .lss T p Y E)(hx:ev f p = .int K a)(hy:ev f Y = .int K d):cB P f o w (.bool (decide (a<d))) :=
 vQ x hx hy (by simp[binOp,Op.intCmp])
theorem akm(x:o.op = .binOp .leq T p Y E)(hx:ev f p = .int K a)(hy:ev f Y = .int K d):cB P f o w (.bool (decide (a<=d))) :=
 vQ x hx hy (by simp[binOp,Op.intCmp])
theorem aaz(x:o.op = .binOp .gtr T p Y E)(hx:ev f p = .int K a)(hy:ev f Y = .int K d):cB P f o w (.bool (decide (d<a))) :=
 vQ x hx hy (by simp[binOp,Op.intCmp])
theorem JU(x:o.op = .binOp .geq T p Y E)(hx:ev f p = .int K a)(hy:ev f Y = .int K d):cB P f o w (.bool (decide (d<=a))) :=
 vQ x hx hy (by simp[binOp,Op.intCmp])
theorem akn(x:o.op = .binOp .eql T p Y E)(hx:ev f p = .int K a)(hy:ev f Y = .int K d):cB P f o w (.bool (decide (a=d))) :=
 vQ x hx hy (by simp[binOp,Op.intCmp]; rfl)
theorem Wi(x:o.op = .binOp .neq T p Y E)(hx:ev f p = .int K a)(hy:ev f Y = .int K d):cB P f o w (.bool (!decide (a=d))) :=
 vQ x hx hy (by simp[binOp,Op.intCmp]; rfl)
theorem ako(a:o.op = .unOp .not T p)(hx:ev f p = .bool z):cB P f o w (.bool (!z)):=by
 unfold cB execOp; simp_all [Op.unary]
theorem alP(x:o.op = .binOp .lss T p Y E)(hx:ev f p = .int K a)(hy:ev f Y = .int K d)(h:a<d):cB P f o w (.bool true):=by
 grind [aay]
theorem alQ(x:o.op = .binOp .lss T p Y E)(hx:ev f p = .int K a)(hy:ev f Y = .int K d)(h : ¬ (a<d)):cB P f o w (.bool false):=by
 have:=aay (P:=P) (w:=w) x hx hy; grind
theorem alR(x:o.op = .binOp .leq T p Y E)(hx:ev f p = .int K a)(hy:ev f Y = .int K d)(h:a<=d):cB P f o w (.bool true):=by
 grind [akm]
theorem jR(x:o.op = .binOp .leq T p Y E)(hx:ev f p = .int K a)(hy:ev f Y = .int K d)(h : ¬ (a<=d)):cB P f o w (.bool false):=by
 have:=akm (P:=P) (w:=w) x hx hy; grind
theorem alS(x:o.op = .binOp .gtr T p Y E)(hx:ev f p = .int K a)(hy:ev f Y = .int K d)(h:d<a):cB P f o w (.bool true):=by
 grind [aaz]
theorem jI(x:o.op = .binOp .gtr T p Y E)(hx:ev f p = .int K a)(hy:ev f Y = .int K d)(h : ¬ (d<a)):cB P f o w (.bool false):=by
 have:=aaz (P:=P) (w:=w) x hx hy; grind
theorem alT(x:o.op = .binOp .geq T p Y E)(hx:ev f p = .int K a)(hy:ev f Y = .int K d)(h:d<=a):cB P f o w (.bool true):=by
 grind [JU]
theorem alU(x:o.op = .binOp .geq T p Y E)(hx:ev f p = .int K a)(hy:ev f Y = .int K d)(h : ¬ (d<=a)):cB P f o w (.bool false):=by
 have:=JU (P:=P) (w:=w) x hx hy; grind
theorem jS(x:o.op = .binOp .eql T p Y E)(hx:ev f p = .int K a)(hy:ev f Y = .int K d)(h:a=d):cB P f o w (.bool true):=by
 grind [akn]
theorem jT(x:o.op = .binOp .eql T p Y E)(hx:ev f p = .int K a)(hy:ev f Y = .int K d)(h : ¬ (a=d)):cB P f o w (.bool false):=by
 grind [akn]
theorem alV(x:o.op = .binOp .neq T p Y E)(hx:ev f p = .int K a)(hy:ev f Y = .int K d)(h : ¬ (a=d)):cB P f o w (.bool true):=by
 grind [Wi]
theorem alW(x:o.op = .binOp .neq T p Y E)(hx:ev f p = .int K a)(hy:ev f Y = .int K d)(h:a=d):cB P f o w (.bool false):=by
 grind [Wi]
theorem alX(a:o.op = .unOp .not T p)(hx:ev f p = .bool false):cB P f o w (.bool true):=ako a hx
theorem aaA(a:o.op = .unOp .not T p)(hx:ev f p = .bool true):cB P f o w (.bool false):=ako a hx
theorem jN(h : -9223372036854775808<=d/\d<=9223372036854775807:=by omega)(e:a=d:=by rfl):IntKind.i64.wrap a=d:=by grind [IntWalk.i64_in]
theorem jO{c:Int}(h:0<=c/\c<=18446744073709551615)(e:a=c):IntKind.u64.wrap a=c:=by grind [IntWalk.u64_in]
theorem dQ{b:IntKind}(g:o.op = .convert E T p)(hx:ev f p = .int b a)(h:(P.underlying E).isSome=true)(e:P.underlying T=some (.int K))(k:K.wrap a=d):cB P f o w (.int K d):=by
 grind [execOp,Program.intKind,run_convert_int,Sem.run_bind,Result.andThen_ok,Sem.run_pure]
theorem x_len{b:Option Addr}{Ts:Array TypeId}(a:o.op = .call { callee := .builtin .len,args := #[p],argTypes:=Ts })(d:Ts = #[T])(hx:ev f p = .slice b m k)(e:P.underlying T=some (.slice (P.elem T))):cB P f o w (.int .i64 m):=by
 unfold cB execOp;simp only[a]
 grind [resolve,invoke,builtin,Sem.run_bind,Sem.run_pure,Result.andThen_ok,run_len_slice,goInt]
theorem Wj{Ts:Array TypeId}{b:IntKind}(c:o.op = .call { callee := .builtin .max,args := #[p,Y],argTypes:=Ts }:=by rfl)(hx:ev f p = .int K a:=by rfl)(hy:ev f Y = .int b d:=by rfl):cB P f o w (.int K (if d>a then d else a)):=by
 unfold cB execOp;simp only[c]
 grind [resolve,invoke,builtin,Sem.run_bind,Sem.run_pure,Result.andThen_ok,run_max_int2]
theorem aqT{Ts:Array TypeId}{b:IntKind}(c:o.op = .call { callee := .builtin .min,args := #[p,Y],argTypes:=Ts })(hx:ev f p = .int K a)(hy:ev f Y = .int b d):cB P f o w (.int K (if d<a then d else a)):=by
 unfold cB execOp;simp only[c]
 grind [resolve,invoke,builtin,Sem.run_bind,Sem.run_pure,Result.andThen_ok,run_min_int2]
theorem iG{c:Array Field}{a:Field}(n:o.op = .fieldAddr T p k)(hx:ev f p = .pointer (some ⟨b,j,none⟩))(S:P.underlying T=some (.struct c))
 (s:c[k]? = some a) (h:(P.info? a.type).map (·.size)=some m) (x:Nat.beq m 0=false) (l:j+a.offset=u):cB P f o w (.pointer (some ⟨b,u,none⟩)):=by
 have g:m≠0:=fun e=>by simp_all
 obtain⟨z,q,i⟩:=Option.map_eq_some_iff.1 h;rw[<- i]at g;unfold cB execOp
 simp_all [Instr.fieldAt,underlying,Instr.sureAddr,fieldPlace,sizeOf,typeInfo,nR]
theorem iH(e:o.op = .indexAddr T p Y)(hx:ev f p = .pointer (some ⟨b,k,none⟩))(hi:ev f Y = .int K a)
 (g:P.underlying T=some (.array m E)) (h:(P.info? E).map (·.size)=some M) (c:0<=a) (h1:a<(m:Int)) (d:k+a.toNat*M=u):cB P f o w (.pointer (some ⟨b,u,none⟩)):=by
 obtain⟨z,l,n⟩:=Option.map_eq_some_iff.1 h;unfold cB execOp;simp only[e,hx,hi];simp[Instr.indexAt,asIntOf,underlying,g,Instr.sureAddr,c,h1,sizeOf,typeInfo,l,n,nR,d]
theorem fQ{s:Nat}(e:o.op = .indexAddr T p Y)(hx:ev f p = .slice (some ⟨b,m,none⟩) u M)(hi:ev f Y = .int K a)
 (g:P.underlying T=some (.slice E)) (h:(P.info? E).map (·.size)=some s) (c:0<=a) (h1:a<(u:Int)) (d:m+a.toNat*s=k):cB P f o w (.pointer (some ⟨b,k,none⟩)):=by
 obtain⟨z,l,j⟩:=Option.map_eq_some_iff.1 h;unfold cB execOp;simp only[e,hx,hi];simp[Instr.indexAt,asIntOf,underlying,g,c,h1,sizeOf,typeInfo,l,j,nR,d]
end
end Fx
namespace Fx
def aA(n:Nat)(x:Nat->Value):Array Value:=Array.ofFn (fun i:Fin n=>x i)
theorem gG(n:Nat)(x:Nat->Value):(aA n x).size=n:=by unfold aA; simp
theorem jm(x:Nat->Value)(h:m<k):(aA k x)[m]? = some (x m):=by simp_all [aA]
theorem Mx(x:Nat->Value)(h:m<=k):(aA m x)[k]? = none:=by simp_all [aA]
theorem zm(b:U.size=m)(h : ∀ i,i<m->U[i]? = some (x i)):U=aA m x:=by
 apply Array.ext_getElem?
 grind [jm,Mx]
theorem fI(h : ∀ i,i<m->x i=y i):aA m x=aA m y:=by
 grind [aA]
def dN(x:Nat->Value)(i:Nat)(v:Value):Nat->Value:=fun j=>if j=i then v else x j
def bJ(x:Nat->Value)(o m:Nat)(y:Nat->Value):Nat->Value:=fun j=>if o<=j/\j<o+m then y (j-o)else x j
theorem nK(h:j=m:=by omega):dN x m c j=c:=by grind [dN]
theorem EY(h:j≠m)(e:x j=c):dN x m H j=c:=by grind [dN]
theorem vw(h:b=k+j:=by omega)(a:j<m:=by omega)(e:y j=c:=by rfl):bJ x k m y b=c:=by grind [bJ]
theorem EZ(h:k<b\/b+m<=k)(e:x k=c):bJ x b m y k=c:=by grind [bJ]
def rv(k:IntKind)(x:Nat->Int):Nat->Value:=fun i => .int k (x i)
theorem yA(k:IntKind)(x:Nat->Int)(i:Nat)(v:Int):dN (rv k x) i (.int k v)=rv k (fZ x i v):=by
 grind [dN,rv,fZ]
def jM(w:World)(b off n:Nat)(x:Nat->Value):Prop := ∀ i,i<n->w.cell? ⟨b,off+i,none⟩=some (x i)
def aM(w:World)(g n:Nat)(x:Nat->Value)(T:TypeId):Prop:=w.heap[g]? = some (.cells (aA n x) T (0,0))
structure eG(g:Nat)(w w':World):Prop where
 os:w'.os=w.os
 tape:w'.tape=w.tape
 output:w'.output=w.output
 size:w.heap.size<=w'.heap.size
 block : ∀ k,k<w.heap.size->k≠g->w'.heap[k]? = w.heap[k]?
theorem eG.below{w':World}(s:eG k h w')(B:Below m q h)(a:m<=h.heap.size)(b:m<=k):Below m q w' :=
 B.trans ⟨s.os,s.tape,s.output,s.size,fun w c=>s.block w (by omega) (by omega)⟩
theorem Sb(w:Below h.heap.size h q):eG h.heap.size h q:=⟨w.os,w.tape,w.output,w.size,fun k a _=>w.block k a⟩
theorem eG.bP(s:eG h.heap.size h q):Below h.heap.size h q:=⟨s.os,s.tape,s.output,s.size,fun k a=>s.block k a (by omega)⟩
theorem oZ(g:Nat)(w:World):eG g w w:=⟨rfl,rfl,rfl,A_ _,fun _ _ _=>rfl⟩
theorem eG.alloc(w:World)(o:Obj):eG w.heap.size w (w.alloc o):=Sb ((Below.refl _ _).alloc (A_ _) o)
theorem aM.lt(w:aM h m k x T):m<h.heap.size:=(t_.1 w).1
theorem aM.cK(w:aM h b k x T)(s:eG m h q)(a:b≠m:=by omega):aM q b k x T:=(s.block b w.lt a).trans w
theorem aM.aJ(w:aM h m k x T):jM h m 0 k x:=fun i a=>by
 rw[G_,cell_of_row h m i _ _ _ w]; exact jm x a
theorem jM.lt(w:jM h b k m x)(a:0<m):b<h.heap.size:=block_lt_of_cell (w 0 a)
theorem jM.cK{w w':World}{g b off n:Nat}{x:Nat->Value}(h:jM w b off n x)(s:eG g w w')(e:b≠g:=by omega):jM w' b off n x:=fun i c=>by
 have a:=h i c;have d:=block_lt_of_cell a;rw[<- a];exact World.cell?_of_block (w:=w) (s.block b d e)
theorem jM.below(off:jM h b m k x)(s:Below j h q)(a:b<j):jM q b m k x:=fun i c=>by
 rw[<- off i c]; exact s.cell (p:=⟨b,m+i,none⟩) a
def JV(P:Program)(T:TypeId):Bool:=match P.underlying T with|some (.struct _)=>true|some (.array _ _)=>true|_=>false
def Uc(P:Program)(T:TypeId):Bool:=match P.underlying T with|some (.struct _)=>false|some (.array _ _)=>false|some _=>true|none=>false
theorem aM.to(w:aM h m k x T)(e:x=y):aM h m k y T:=by simp_all
theorem eP(w:aM h m 1 (dN x 0 c) T):aM h m 1 (fun _=>c) T:=by
 assumption
theorem aO(n:aM h k m (bJ x 0 m y) T):aM h k m y T:=by
 grind [aM,fI,bJ]
section
variable {P:Program} {n:Nat} {Q:kR} {f:Nat->Value} {w:World} {ops:Array Oper} {rest:List Oper} {o:Oper}
theorem bE{i:Nat}(h:o.op = .load T p)(ha:ev f p = .pointer (some ⟨b,u,none⟩))(off:Uc P T=true)(e:jM w b k m x)(hi:i<m:=by omega)(g:u=k+i:=by omega)(j:x i=c:=by rfl):cB P f o w c:=by
 subst g;subst j;have a:=e i hi;unfold cB execOp;simp only[h,ha];unfold Uc at off
 cases hu:P.underlying T with
 | none=>simp_all
 | some d =>
   rw[hu]at off
   cases d <;> simp_all [Instr.loadAt,Instr.sureAddr,loadVar,isAgg,underlying]
theorem eB{i:Nat}(r:o.op = .load T p)(ha:ev f p = .pointer (some ⟨b,M,none⟩))(c:JV P T=true)(t:(P.info? T).map (·.size)=some j)(g:jM w b u m x)(hi:i+j<=m)(k:M=u+i)(hy : ∀ s,s<j->x (i+s)=y s) :
 cB P f o w (.agg (aA j y)):=by
 subst k;rw[<- fI hy];have q:(aA j (fun s=>x (i+s))).toList.length=j:=by simp[gG]
 have n:w.rangeAt b (u+i) (aA j (fun s=>x (i+s))).toList:=fun s v e=>by
  have l:s<j:=by grind
  rw[Array.getElem?_toList,jm _ l]at e;rw[<- C_ e,Nat.add_assoc];exact g (i+s) (by omega)
 unfold JV at c
 cases hu:P.underlying T with
 | none=>simp_all
 | some d =>
   rw[hu]at c;have h:d.isRow=true:=(by grind);have:=run_loadAt_mid (P:=P) w b (u+i) T (aA j (fun s=>x (i+s))).toList d n hu h (by simp_all);unfold cB execOp
   simp_all
theorem JW{cs:Array Value}(b:w.heap[m]? = some (.cells U T (0,0))):eG m w (w.setRow m cs)/\(w.setRow m cs).heap[m]? = some (.cells cs T (0,0))/\(w.setRow m cs).heap.size=w.heap.size:=by
 refine⟨⟨rfl,rfl,rfl,by simp,fun k _ c=>setRow_other _ _ _ _ (by omega)⟩,?_,by simp⟩
 grind [setRow_heap]
theorem L.Om{i:Nat}{u:Value}(q:Region.wanted o (yf ops f)=true)(c:o.dst=none)(s:o.op = .store T p Y)(ha:ev f p = .pointer (some ⟨k,i,none⟩))(y:ev f Y=u)(h1:u.oneCell'=true)(d:(P.info? T).map (·.size)=some 1)
 (b:aM w k m x E) (hi:i<m) (h : ∀ w',aM w' k m (dN x i u) E->eG k w w'->w'.heap.size=w.heap.size->L P n ops Q rest f w'):L P n ops Q (o::rest) f w:=by
 have e:w.cell? ⟨k,i,none⟩=some (x i):=by have:=b.aJ i hi; simp_all
 have j:w.frozen? ⟨k,i,none⟩=false:=by
  unfold World.frozen?;simp only[show w.heap[k]? = _ from b];simp
 have t:=run_storeVar_one (P:=P) w k i T u (x i) d h1 e j;have TB:(execOp (ev f) o).run P w = .ok .skip (w.setCell ⟨k,i,none⟩ u):=by
  grind [execOp,Instr.storeAt,Instr.sureAddr,Sem.run_bind,Sem.run_pure,Result.andThen_ok]
 refine L.unit q TB (by rw[c]; rfl) ?_;rw[c];refine h _ ?_ ⟨rfl,rfl,rfl,by simp_all,fun g _ r=>Below.heap_setCell _ _ _ _ (by omega)⟩ (by simp_all);show(w.setCell ⟨k,i,none⟩ u).heap[k]? = _;have l:w.heap[k]? = some (.cells (aA m x) E (0,0)):=b;simp only[World.setCell,Array.getElem?_modify,if_true,l,Option.map_some,Option.isSome_none]
 congr 2
 grind [zm,gG,dN,jm]
theorem L.aaB(C:Region.wanted o (yf ops f)=true)(i:o.dst=none)(a:o.op = .store T p Y)(ha:ev f p = .pointer (some ⟨j,b,none⟩))(B:ev f Y = .agg (aA k y))(h1 : ∀ g,g<k->(y g).oneCell'=true)(H:(P.info? T).map (·.size)=some k)
 (e:aM w j m x E) (hi:b+k<=m) (h : ∀ w',aM w' j m (bJ x b k y) E->eG j w w'->w'.heap.size=w.heap.size->L P n ops Q rest f w'):L P n ops Q (o::rest) f w:=by
 have c:=e;have d : ∀ u∈(aA k y).toList,u.oneCell'=true:=fun u A=>by
  obtain⟨g,s,I⟩:=List.getElem_of_mem A;have l:g<k:=by grind [gG]
  have:=jm y l
  grind
 have q:=run_storeCells_at (P:=P) j b E (aA k y).toList 0 (aA m x) w c (by grind [gG]) d;have r:(execOp (ev f) o).run P w = .ok .skip (w.setRow j ((aA m x).toList.take (b+0)++(aA k y).toList++(aA m x).toList.drop (b+0+(aA k y).toList.length)).toArray):=by
  unfold execOp
  cases hq:P.info? T with
  | none=>simp_all
  | some z =>
    have D:z.size=k:=(by simp_all);have t:(Value.agg (aA k y)).cells=aA k y:=rfl;simp only[a,ha,B,Instr.storeAt,Instr.sureAddr,Sem.run_bind,Sem.run_pure,Result.andThen_ok,storeVar,sizeOf,typeInfo,run_program,hq,t,gG,D,ne_eq,not_true_eq_false,if_false,q]
 refine L.unit C r (by rw[i]; rfl) ?_;rw[i];obtain⟨TB,F,G⟩:=JW (w:=w) (cs:=((aA m x).toList.take (b+0)++(aA k y).toList++(aA m x).toList.drop (b+0+(aA k y).toList.length)).toArray) c;refine h _ ?_ TB G;show _=_;rw[F]
 congr 2
 refine zm (by grind [gG]) fun g s => ?_
 grind [bJ,List.getElem?_append_right,aA]
theorem Ga(v:Region.wanted o (yf ops f)=true)(e:o.op = .box T p)(hx:ev f p=c)(d:c.cells=aA m y)(a:dF n o.dst=true)
 (h : ∀ g w',g=w.heap.size->aM w' g m y T->eG w.heap.size w w'->w'.heap.size=w.heap.size+1->L P n ops Q rest (put f o.dst (.pointer (some ⟨g,0,none⟩))) w'):L P n ops Q (o::rest) f w:=by
 have b:(execOp (ev f) o).run P w = .ok (.value (.pointer (some ⟨w.heap.size,0,none⟩))) (w.alloc (.cells c.cells T)):=by
  simp_all [execOp,Instr.box,newVar,newRow]
 refine L.val v b a (h _ _ rfl ?_ (eG.alloc _ _) (by simp));show(w.alloc _).heap[w.heap.size]? = _
 grind [iY]
theorem bM(m:Nat)(y:Nat->Value):(Value.agg (aA m y)).cells=aA m y:=by rfl
theorem bG(h:c.oneCell'=true:=by rfl):c.cells=aA 1 (fun _=>c):=by
 cases c <;> first|rfl|(simp[Value.oneCell']at h)
theorem DR(d:Region.wanted o (yf ops f)=true)(k:o.op = .alloc T)(a:((P.info? T).bind (·.zero)).map (·.cells)=some (aA m y))(b:dF n o.dst=true)
 (h : ∀ g w',g=w.heap.size->aM w' g m y T->eG w.heap.size w w'->w'.heap.size=w.heap.size+1->L P n ops Q rest (put f o.dst (.pointer (some ⟨g,0,none⟩))) w'):L P n ops Q (o::rest) f w:=by
 obtain⟨z,e,l⟩:=Option.map_eq_some_iff.1 a;obtain⟨i,j,a⟩:=Option.bind_eq_some_iff.1 e;have c:(execOp (ev f) o).run P w = .ok (.value (.pointer (some ⟨w.heap.size,0,none⟩))) (w.alloc (.cells z.cells T)):=by
  simp_all [execOp,Instr.alloc,zeroValue,typeInfo,newVar,newRow]
 refine L.val d c b (h _ _ rfl ?_ (eG.alloc _ _) (by simp));show(w.alloc _).heap[w.heap.size]? = _
 grind [iY]
theorem aT{b:Nat->Option (Nat × Nat)}{off s:Nat}{rest:List (Nat × Value)}(g:b k=some (off,s))(h:c.cells=aA s y)(f:Nat.ble (off+s) m=true:=by rfl) :
 Instr.fill b (aA m x) ((k,c)::rest)=Instr.fill b (aA m (bJ x off s y)) rest:=by
 have key : ∀(l:List Value) (i:Nat) (a:Array Value),(l.zipIdx i).foldl (fun cs (v,j)=>cs.setIfInBounds (off+j) v) a=Array.ofFn (fun q:Fin a.size=>if off+i<=q.1/\q.1<off+i+l.length then l.getD (q.1-off-i) undef else a[q.1]):=by
  intro l
  induction l with
  | nil=>intro i a; apply Array.ext <;> simp; omega
  | cons v _ ih =>
    intro i a;rw[List.zipIdx_cons,List.foldl_cons,ih];apply Array.ext
    ·simp
    grind [Array.getElem_ofFn]
 conv=>lhs; unfold Instr.fill
 simp only[g,h,gG];rw[b_ (by simp_all)]
 congr 1
 rw[<- Array.foldl_toList,Array.toList_zipIdx,key];refine zm (by simp[gG]) fun j d => ?_;have e:j<(aA m x).size:=by grind [gG]
 rw[Array.getElem?_ofFn,dif_pos e];simp only[Array.length_toList,gG,bJ,Nat.add_zero,Nat.sub_zero];by_cases v:off<=j/\j<off+s
 ·grind [jm]
 rw[b_ v,b_ v];have:=jm x d
 simp_all
theorem iq{j:List (Nat × Operand)}{vs:List (Nat × Value)}{b:Array Field}{places:Array (Nat × Nat)}(s:o.op = .build T j.toArray)(t:j.map (fun p=>(p.1,ev f p.2))=vs)(v:P.underlying T=some (.struct b))
 (u:b.mapM (fun a=>(P.info? a.type).map fun i=>(a.offset,i.size))=some places) (e:((P.info? T).bind (·.zero)).map (·.cells)=some (aA m x)) (k:Instr.fill (places[·]?) (aA m x) vs=some (aA m y)):cB P f o w (.agg (aA m y)):=by
 obtain⟨z,A,B⟩:=Option.map_eq_some_iff.1 e;obtain⟨i,n,e⟩:=Option.bind_eq_some_iff.1 A;have key : ∀(g:Field->Sem (Nat × Nat)) (c : ∀ d x,(P.info? d.type).map (fun i=>(d.offset,i.size))=some x->(g d).run P w = .ok x w) (l:List Field) (r:List (Nat × Nat)),l.mapM (fun a=>(P.info? a.type).map fun i=>(a.offset,i.size))=some r->(l.mapM g).run P w = .ok r w:=by
  intro g c l
  induction l with
  | nil=>simp_all
  | cons d l ih =>
    intro r h;rw[List.mapM_cons]at h
    cases h1:(P.info? d.type).map (fun i=>(d.offset,i.size))with
    | none=>simp_all
    | some i1 =>
      cases h2:l.mapM (fun a=>(P.info? a.type).map fun i=>(a.offset,i.size))with
      | none=>simp_all
      | some r2 =>
        grind [Sem.run_bind,Result.andThen_ok,Sem.run_pure]
 have C:b.toList.mapM (fun a=>(P.info? a.type).map fun i=>(a.offset,i.size))=some places.toList:=by
  rw[Array.mapM_eq_mapM_toList]at u
  cases hq:b.toList.mapM (fun a=>(P.info? a.type).map fun i=>(a.offset,i.size))with
  | none=>simp_all
  | some r=>grind
 have q : ∀(g:Field->Sem (Nat × Nat)),(∀ d x,(P.info? d.type).map (fun i=>(d.offset,i.size))=some x->(g d).run P w = .ok x w)->(b.mapM g).run P w = .ok places w:=fun g c=>by
  simp_all [Array.mapM_eq_mapM_toList]
 have c : ∀(d:Field) (x:Nat × Nat),(P.info? d.type).map (fun i=>(d.offset,i.size))=some x->(do pure (d.offset,<- sizeOf d.type):Sem (Nat × Nat)).run P w = .ok x w:=fun d x h=>by
  cases h1:P.info? d.type with
  | none=>simp_all
  | some i1=>simp_all [sizeOf,typeInfo]
 unfold cB execOp;simp only[s,List.map_toArray,t];unfold Instr.build;simp only[zeroValue,typeInfo,underlying,Sem.run_bind,run_program,Result.andThen_ok,n,e,v,Sem.run_pure,q _ c,B,k]
theorem rC{a:Func}{b:List Operand}{args:List Value}{Ts:Array TypeId}(i:o.op = .call { callee := .value (.func e),args:=b.toArray,argTypes:=Ts })(hx:b.map (ev f)=args)(g:P.funcs[e]? = some a)
 (h : (a.name == "runtime.NumGoroutine") = false) (d : a.body = some A) : (execOp (ev f) o).run P w = .ok (.enter e args.toArray) w := by
 grind [execOp,resolve,ev,Deferred.ofValue,invoke,qD]
theorem uJ{a:Func}{d:List Operand}{args:List Value}{Ts:Array TypeId}{cap:Array Value}{all:Array Value}(k:o.op = .call { callee := .value p,args:=d.toArray,argTypes:=Ts })(l:ev f p = .func (.func e) U cap)(hx:d.map (ev f)=args)(g:U++args.toArray++cap=all)
 (i : P.funcs[e]? = some a) (j : (a.name == "runtime.NumGoroutine") = false) (h : a.body = some A) : (execOp (ev f) o).run P w = .ok (.enter e all) w := by
 grind [execOp,resolve,Deferred.ofValue,invoke,qD]
theorem qp{a:Fn}{b c:List Operand}{us vs:List Value}(d:o.op = .makeFunc a b.toArray c.toArray:=by rfl)(hx:b.map (ev f)=us:=by rfl)(hy:c.map (ev f)=vs:=by rfl):cB P f o w (.func a us.toArray vs.toArray):=by
 unfold cB execOp
 simp_all [Instr.makeFunc]
end
end Fx
def sM:Option IntKind->Value->Option Lit
 | none,.bool b=>some (.bool b)
 | some q,.int q' n=>if q'=q/\(Lit.int q n).wf=true then some (.int q n)else none
 | _,_=>none
def zX:List (Option IntKind)->List Value->List Lit->Prop
 | [],[],[]=>True
 | k::ks,c::cs,l::ls=>sM k c=some l/\zX ks cs ls
 | _,_,_=>False
theorem zX.CS : ∀ {ks:List (Option IntKind)} {cs:List Value} {ls:List Lit},zX ks cs ls->cs.length=ks.length/\ls.length=ks.length
 | [],[],[],_=>⟨rfl,rfl⟩
 | _::_,_::_,_::_,h=>by have:=zX.CS h.2; simp[this.1,this.2]
 | [],_::_,_,h=>h.elim
 | [],[],_::_,h=>h.elim
 | _::_,[],_,h=>h.elim
 | _::_,_::_,[],h=>h.elim
theorem zX.split : ∀ {a b:List (Option IntKind)} {cs:List Value} {ls:List Lit},zX (a++b) cs ls->zX a (cs.take a.length) (ls.take a.length)/\zX b (cs.drop a.length) (ls.drop a.length)
 | [],b,cs,ls,h=>by simpa using ⟨trivial,h⟩
 | k::a,b,c::cs,l::ls,h=>by
   have:=zX.split (a:=a) h.2;exact⟨⟨h.1,by simpa using this.1⟩,by simpa using this.2⟩
 | _::_,_,[],_,h=>h.elim
 | _::_,_,_::_,[],h=>h.elim
theorem zX.one{k:Option IntKind}{cs:List Value}{a:List Lit}(h:zX [k] cs a) : ∃ c l,cs = [c]/\a = [l]/\sM k c=some l:=by
 have b:=h.CS
 match cs,a,b,h with
 | [c],[l],_,h=>exact⟨c,l,rfl,rfl,h.1⟩
def Eh(a:TypeId->Nat)(b:TypeId->Option (List (Option IntKind))):List Field->Nat->Option (List (Option IntKind))
 | [],_=>some []
 | f :: fs, o => if f.offset = o ∧ (f.name != "_") = true then
     match b f.type with
     | some l=>if l.length=a f.type then(Eh a b fs (o+l.length)).map (l ++ ·)else none
     | none=>none
   else none
def flatK(P:Program):Nat->TypeId->Option (List (Option IntKind))
 | 0,_=>none
 | d+1,t =>
   match P.underlying t with
   | some .bool=>some [none]
   | some (.int q)=>some [some q]
   | some (.array n e)=>match flatK P d e with
     | some l=>if l.length=P.cellsOf e/\n*l.length=P.cellsOf t then some (List.replicate n l).flatten else none
     | none=>none
   | some (.struct fs)=>match Eh P.cellsOf (flatK P d) fs.toList 0 with
     | some l=>if l.length=P.cellsOf t then some l else none
     | none=>none
   | _=>none
theorem Ud{a:Type}(n:Nat)(f:Nat->Option a)(g:Nat->a)(h : ∀ i,i<n->f i=some (g i)):(List.range n).mapM f=some ((List.range n).map g):=by
 induction n with
 | zero=>rfl
 | succ n ih =>
   rw[List.range_succ,List.mapM_append,ih (fun i b=>h i (by omega)),List.map_append]
   simp_all
theorem aaC{d:Type}(c:Nat) : ∀(n:Nat) (a:List d),a.length=n*c->((List.range n).map fun i=>(a.drop (i*c)).take c).flatten=a
 | 0,a,h=>by simp_all
 | n+1,a,h=>by
   rw[List.range_succ_eq_map,List.map_cons,List.flatten_cons,List.map_map];have b:(a.drop c).length=n*c:=(by grind);have f:=aaC c n (a.drop c) b;have e:((fun i=>(a.drop (i*c)).take c) ∘ Nat.succ)=fun i=>((a.drop c).drop (i*c)).take c:=by
    grind [List.drop_drop,Nat.succ_mul]
   simp_all
theorem zX.block{l:List (Option IntKind)} : ∀ {n:Nat} {cs:List Value} {ls:List Lit},zX (List.replicate n l).flatten cs ls -> ∀ i,i<n->zX l ((cs.drop (i*l.length)).take l.length) ((ls.drop (i*l.length)).take l.length)
 | 0,_,_,_,i,hi=>L_ hi (by omega)
 | n+1,cs,ls,h,i,hi=>by
   rw[List.replicate_succ,List.flatten_cons]at h;have a:=zX.split h
   cases i with
   | zero=>simpa using a.1
   | succ i =>
     have:=zX.block a.2 i (by omega);rw[List.drop_drop,List.drop_drop]at this;rw[Nat.succ_mul,Nat.add_comm];exact this
theorem xg{a:Type}(n:Nat)(l:List a):(List.replicate n l).flatten.length=n*l.length:=by
 simp_all
theorem aaD{P:Program}{d:Nat}(g : ∀ t a cs b,flatK P d t=some a->zX a cs b->P.keyLits d t cs=some b)(cs:List Value)(b:List Lit) :
 ∀(c:List Field) (o:Nat) (a:List (Option IntKind)),Eh P.cellsOf (flatK P d) c o=some a->zX a (cs.drop o) (b.drop o) ->
  (∀ f ∈ c, (f.name != "_") = true) ∧ ∃ L : List (List Lit), c.mapM (fun f => P.keyLits d f.type ((cs.drop f.offset).take (P.cellsOf f.type))) = some L ∧ L.flatten = b.drop o
 | [],o,a,h,hf=>by
   simp[Eh]at h;subst h;have:=hf.CS;refine⟨by simp,[],rfl,?_⟩
   grind
 | f::c,o,a,h,hf=>by
   unfold Eh at h;by_cases i : f.offset = o ∧ (f.name != "_") = true
   ·rw[d_ i]at h
    cases h2:flatK P d f.type with
    | none=>simp_all
    | some l =>
      rw[h2]at h;simp only at h;by_cases j:l.length=P.cellsOf f.type
      ·rw[d_ j]at h
       cases h4:Eh P.cellsOf (flatK P d) c (o+l.length)with
       | none=>simp_all
       | some r =>
         rw[h4]at h;simp only[Option.map_some,Option.some.injEq]at h;subst h;have e:=zX.split hf;rw[List.drop_drop,List.drop_drop]at e;obtain⟨p,L,k,m⟩:=aaD g cs b c (o+l.length) r h4 e.2;have n:=g f.type l _ _ h2 e.1;refine⟨?_,(b.drop o).take l.length::L,?_,?_⟩
         ·simp_all
         ·simp_all
         grind [List.take_append_drop,List.drop_drop]
      simp_all
   simp_all
theorem uK{P:Program} : ∀(d:Nat) (t:TypeId) (f:List (Option IntKind)) (cs:List Value) (b:List Lit),flatK P d t=some f->zX f cs b->P.keyLits d t cs=some b
 | 0,_,_,_,_,h,_=>by cases h
 | d+1,t,f,cs,b,h,a=>by
   unfold flatK at h;unfold Program.keyLits
   cases hu:P.underlying t with
   | none=>simp_all
   | some td =>
     rw[hu]at h
     cases td with
     | bool =>
       simp only[Option.some.injEq]at h;subst h;obtain⟨c,l,rfl,rfl,this⟩:=a.one
       cases c <;> simp[sM]at this
       subst this;rfl
     | int q =>
       simp only[Option.some.injEq]at h;subst h;obtain⟨c,l,rfl,rfl,this⟩:=a.one
       cases c <;> simp[sM]at this
       rename_i q' n;obtain⟨⟨rfl,m⟩,rfl⟩:=this;simp[m]
     | array n e =>
       simp only at h
       cases h2:flatK P d e with
       | none=>simp_all
       | some l =>
         rw[h2]at h;simp only at h;by_cases g:l.length=P.cellsOf e/\n*l.length=P.cellsOf t
         ·rw[d_ g]at h;simp only[Option.some.injEq]at h;subst h;have k:=a.CS;rw[xg]at k;simp only;rw[d_,<- g.1,Ud n _ (fun i=>(b.drop (i*l.length)).take l.length) (fun i j=>uK d e l _ _ h2 (a.block i j))]
          grind [aaC]
         simp_all
     | struct fs =>
       simp only at h
       cases h2:Eh P.cellsOf (flatK P d) fs.toList 0 with
       | none=>simp_all
       | some l =>
         rw[h2]at h;simp only at h;by_cases g:l.length=P.cellsOf t
         ·rw[d_ g]at h;simp only[Option.some.injEq]at h;subst h;obtain⟨r,L,o,p⟩:=aaD (fun t f cs b h a=>uK d t f cs b h a) cs b fs.toList 0 l h2 (by assumption)
          grind [a.CS]
         simp_all
     | _=>cases h
theorem tu(w:World)(m d:Nat)(t:TypeId)(ks:List (Option IntKind))(a b:Array Value)(la lb:List Lit)(i:P.keyTypeAt m t=true)(c:flatK P m t=some ks)
 (o:(match P.underlying t with|some (.array _ _)|some (.struct _)=>true|_=>false)=true) (ha:zX ks a.toList la) (g:zX ks b.toList lb) (r:Bool) (hr:r=true<->la=lb) :
 (Op.equalIn (d+m) t (.agg a) (.agg b)).run P w = .ok r w:=by
 have k:ks.length=P.cellsOf t:=by
  cases m with
  | zero=>cases c
  | succ m =>
    grind [flatK,xg]
 have f : ∀(e:Array Value) (l:List Lit),zX ks e.toList l->Value.formed P t (.agg e)=true:=by
  intro e l h
  grind [h.CS,Value.formed]
 obtain⟨q,n,j⟩:=run_equalIn_deep d m t i w m m (.agg a) (.agg b) la lb (f a la ha) (f b lb g) (uK m t ks _ _ c (by assumption)) (uK m t ks _ _ c (by assumption))
 grind
theorem Oo(w:World)(m:Nat)(g:m<=10000)(t:TypeId)(ks:List (Option IntKind))(a b:Array Value)(la lb:List Lit)(e:P.keyTypeAt m t=true)(d:flatK P m t=some ks)
 (f:(match P.underlying t with|some (.array _ _)|some (.struct _)=>true|_=>false)=true) (ha:zX ks a.toList la) (c:zX ks b.toList lb) (r:Bool) (hr:r=true<->la=lb) :
 (binOp .eql t (.agg a) (.agg b)).run P w = .ok (.bool r) w:=by
 rw[run_eql_struct,show 10000=(10000-m)+m by omega,tu w _ (10000-m) _ _ _ _ _ _ e d f ha c _ hr]; rfl
theorem Oq(w:World)(m:Nat)(g:m<=10000)(t:TypeId)(ks:List (Option IntKind))(a b:Array Value)(la lb:List Lit)(e:P.keyTypeAt m t=true)(d:flatK P m t=some ks)
 (f:(match P.underlying t with|some (.array _ _)|some (.struct _)=>true|_=>false)=true) (ha:zX ks a.toList la) (c:zX ks b.toList lb) (r:Bool) (hr:r=true<->la=lb) :
 (binOp .neq t (.agg a) (.agg b)).run P w = .ok (.bool (!r)) w:=by
 rw[run_neq_struct,show 10000=(10000-m)+m by omega,tu w _ (10000-m) _ _ _ _ _ _ e d f ha c _ hr]; rfl
namespace Fx
def Kd(ks:List (Option IntKind))(x:Nat->Value):Prop := ∀ i,(h:i<ks.length) -> ∃ l,sM ks[i] (x i)=some l
theorem Wm{k:IntKind}{n:Nat}{x:Nat->Int}(h : ∀ i,i<n->(Lit.int k (x i)).wf=true):Kd (List.replicate n (some k)) (rv k x):=fun i a=>by
 have b:i<n:=by simpa using a
 refine⟨.int k (x i),?_⟩;rw[List.getElem_replicate];simp[sM,rv,h i b]
theorem aaE(h : -9223372036854775808<=a/\a<=9223372036854775807):(Lit.int .i64 a).wf=true:=by grind [Lit.wf,IntKind.min,IntKind.max,IntKind.bits,IntKind.signed]
theorem xk(h:0<=a/\a<=18446744073709551615):(Lit.int .u64 a).wf=true:=by grind [Lit.wf,IntKind.min,IntKind.max,IntKind.bits,IntKind.signed]
theorem axU(h:0<=a/\a<=255):(Lit.int .u8 a).wf=true:=by grind [Lit.wf,IntKind.min,IntKind.max,IntKind.bits,IntKind.signed]
theorem Yy{k:Option IntKind}{l:Lit}(h:sM k c=some l)(a:sM k H=some l):c=H:=by
 cases k with
 | none =>
   cases c <;> cases H <;> simp_all [sM]
   grind
 | some q =>
   cases c <;> cases H <;> simp_all [sM]
   grind
theorem Kd.fit{x:Nat->Value} : ∀(a:List (Option IntKind)) (o:Nat),(∀ i,(h:i<a.length) -> ∃ l,sM a[i] (x (o+i))=some l) -> ∃ b,zX a ((List.range a.length).map fun i=>x (o+i)) b
 | [],_,_=>⟨[],trivial⟩
 | k::a,o,h=>by
   obtain⟨l,d⟩:=h 0 (by simp);obtain⟨b,f⟩:=Kd.fit a (o+1) (fun i c=>by
    have:=h (i+1) (by simp_all)
    simpa [Nat.add_assoc,Nat.add_comm 1 i] using this)
   refine⟨l::b,?_⟩;rw[List.length_cons,List.range_succ_eq_map,List.map_cons,List.map_map];refine⟨by assumption,?_⟩;have e:(fun i=>x (o+i)) ∘ Nat.succ=fun i=>x (o+1+i):=by grind
   simp_all
theorem MB(n:Nat)(x:Nat->Value):(aA n x).toList=(List.range n).map x:=by
 apply List.ext_getElem?
 grind [jm,Mx]
theorem zX.inj : ∀ {ks:List (Option IntKind)} {a b:List Value} {l:List Lit},zX ks a l->zX ks b l->a=b
 | [],[],[],[],_,_=>rfl
 | _::_,_::_,_::_,_::_,h,h'=>by rw[Yy h.1 h'.1,zX.inj h.2 h'.2]
 | [],[],_::_,_,_,h'=>h'.elim
 | [],_::_,_,_,h,_=>h.elim
 | _::_,[],_,_,h,_=>h.elim
 | _::_,_::_,[],_,_,h'=>h'.elim
 | _::_,_::_,_::_,[],h,_=>h.elim
 | [],[],[],_::_,h,_=>h.elim
theorem zX.same : ∀ {ks:List (Option IntKind)} {a:List Value} {l l':List Lit},zX ks a l->zX ks a l'->l=l'
 | [],[],[],[],_,_=>rfl
 | _::_,_::_,_::_,_::_,h,h'=>by
   have:=h.1.symm.trans h'.1;rw[C_ this,zX.same h.2 h'.2]
 | [],[],[],_::_,_,h'=>h'.elim
 | [],[],_::_,_,h,_=>h.elim
 | [],_::_,_,_,h,_=>h.elim
 | _::_,[],_,_,h,_=>h.elim
 | _::_,_::_,_::_,[],_,h'=>h'.elim
 | _::_,_::_,[],_,h,_=>h.elim
section
variable {P:Program} {n:Nat} {Q:kR} {f:Nat->Value} {w:World} {o:Oper}
theorem Wn(w:World)(m:Nat)(p:m<=10000){ks:List (Option IntKind)}(o:P.keyTypeAt m T=true)(l:flatK P m T=some ks)(f:ks.length=n)(s:JV P T=true)(g:Kd ks x)(ky:Kd ks y)(b:Bool)(d:b=true <-> ∀ i,i<n->x i=y i) :
 (binOp .eql T (.agg (aA n x)) (.agg (aA n y))).run P w = .ok (.bool b) w/\(binOp .neq T (.agg (aA n x)) (.agg (aA n y))).run P w = .ok (.bool (!b)) w:=by
 obtain⟨j,a⟩:=Kd.fit (x:=x) ks 0 (fun i h=>by rw[G_]; exact g i h);obtain⟨k,c⟩:=Kd.fit (x:=y) ks 0 (fun i h=>by rw[G_]; exact ky i h);simp only[G_,f]at a c;have r:(match P.underlying T with|some (.array _ _)|some (.struct _)=>true|_=>false)=true:=by
  grind [JV]
 have q:b=true<->j=k:=by
  rw[d];constructor
  ·grind [List.map_congr_left,zX.same]
  ·intro h;subst h;have e:=zX.inj a c
   simp_all
 grind [MB,Oo,Oq]
theorem aaF{u:BinOp}{r:Value}{b:Array Value}(g:o.op = .binOp u T p Y E)(hx:ev f p=c)(hy:ev f Y=H)(i:c = .agg U)(j:H = .agg b)(e:P.eqGuardType P.depth T=false)(h:(binOp u T c H).run P w = .ok r w):cB P f o w r:=by
 grind [execOp,Sem.run_bind,run_eqGuard_agg,Result.andThen_ok,Sem.run_pure]
theorem qY{y:Operand}{ks:List (Option IntKind)}{X Y:Nat->Value}(m:Nat)(b:Bool)(k:o.op = .binOp .eql T p y E)(hx:ev f p = .agg (aA n X))(hy:ev f y = .agg (aA n Y))(c:b=true <-> ∀ i,i<n->X i=Y i)(x:Kd ks X)(ky:Kd ks Y)
 (h:Nat.ble m 10000=true) (g:P.keyTypeAt m T=true) (e:flatK P m T=some ks:=by kernel_rfl) (j:ks.length=n:=by kernel_rfl) (l:JV P T=true:=by kernel_rfl) (d:P.eqGuardType P.depth T=false:=by kernel_rfl):cB P f o w (.bool b) :=
 aaF k hx hy rfl rfl d (Wn w _ (Nat.le_of_ble_eq_true h) g e j l x ky _ c).1
theorem zY{y:Operand}{ks:List (Option IntKind)}{X Y:Nat->Value}(m:Nat)(b:Bool)(k:o.op = .binOp .neq T p y E)(hx:ev f p = .agg (aA n X))(hy:ev f y = .agg (aA n Y))(c:b=true <-> ∀ i,i<n->X i=Y i)(x:Kd ks X)(ky:Kd ks Y)
 (h:Nat.ble m 10000=true) (g:P.keyTypeAt m T=true) (e:flatK P m T=some ks:=by kernel_rfl) (j:ks.length=n:=by kernel_rfl) (l:JV P T=true:=by kernel_rfl) (d:P.eqGuardType P.depth T=false:=by kernel_rfl):cB P f o w (.bool (!b)) :=
 aaF k hx hy rfl rfl d (Wn w _ (Nat.le_of_ble_eq_true h) g e j l x ky _ c).2
theorem E5(h:N):true=true<->N:=by simp_all
theorem nob(h : ¬ N):false=true<->N:=by simp_all
theorem aU(e:jM w m k n x)(a:JV P T=true:=by kernel_rfl)(g:(P.info? T).map (·.size)=some n:=by kernel_rfl):(loadVar T ⟨m,k,none⟩).run P w = .ok (.agg (aA n x)) w:=by
 have i:(aA n x).toList.length=n:=by simp[gG]
 have h:w.rangeAt m k (aA n x).toList:=fun j v c=>by
  have b:j<n:=by grind
  rw[Array.getElem?_toList,jm _ b]at c;rw[<- C_ c];exact e j b
 unfold JV at a
 cases hu:P.underlying T with
 | none=>simp_all
 | some d =>
   rw[hu]at a;have f:d.isRow=true:=(by grind);have:=run_loadVar_mid (P:=P) w m k T (aA n x).toList d h hu f (by simp_all);omega
theorem Yz{i:Nat}(g:jM w k b m x)(a:Uc P T=true)(hi:i<m)(off:j=b+i)(e:x i=c):(loadVar T ⟨k,j,none⟩).run P w = .ok c w:=by
 subst off e;have f:=g i hi;unfold Uc at a
 cases hu:P.underlying T with
 | none=>simp_all
 | some d =>
   rw[hu]at a
   cases d <;> simp_all [loadVar,isAgg,underlying]
def LZ(P:Program)(f:Nat->Value)(w:World)(r:ResultVar)(v:Value):Prop:=match r with
 | .tmp t=>f t=v
 | .cell a T => ∃ b,f a = .pointer (some b)/\(loadVar T b).run P w = .ok v w
theorem LZ.run{r:ResultVar}(h:LZ P f w r c):(rdF f r).run P w = .ok c w:=by
 cases r with
 | tmp t=>simp_all [LZ,rdF]
 | cell a T=>obtain⟨b,v,d⟩:=h; grind [rdF,asAddr]
theorem rV{a:Func}{r:ResultVar}(hr:a.results = #[r])(h:LZ P f w r c):(Dt a f).run P w = .ok c w:=by
 simp_all [h.run,Dt]
theorem gK{a:Func}{r s:ResultVar}(hr:a.results = #[r,s])(h:LZ P f w r c)(b:LZ P f w s H:=by exact rfl):(Dt a f).run P w = .ok (.tuple #[c,H]) w:=by
 simp_all [h.run,b.run,Dt]
theorem akp{a:Func}{r s t:ResultVar}{x:Value}(hr:a.results = #[r,s,t])(h:LZ P f w r c:=by exact rfl)(b:LZ P f w s H:=by exact rfl)(u:LZ P f w t x:=by exact rfl):(Dt a f).run P w = .ok (.tuple #[c,H,x]) w:=by
 simp_all [h.run,b.run,u.run,Dt]
end
end Fx
def DT(ops:Array Oper)(a:Region.Mode)(l:Array Bool):Prop := ∀ j o,ops[j]? = some o->l.getD j false=true -> ∀ e∈o.after,Region.binds a e=true->l.getD e.on false=true
def reach(ops:Array Oper)(a:Region.Mode):Nat->Nat->Nat->Bool
 | 0,t,i=>t==i
 | n+1,t,i=>t==i || (match ops[t]? with|some o=>o.after.any (fun e=>Region.binds a e&&reach ops a n e.on i)|none=>false)
theorem tC(l:Array Bool)(i j:Nat):(l.setIfInBounds i true).getD j false=(if i=j/\j<l.size then true else l.getD j false):=by
 simp only[Array.getD_eq_getD_getElem?,Array.getElem?_setIfInBounds]
 grind
theorem DT.set{b:Region.Mode}(h:DT V b o)(hi:m∈Region.ready b V o):DT V b (o.setIfInBounds m true):=by
 obtain⟨_,l,k,g⟩:=mem_ready.1 hi;intro j ops f a e d c;rw[tC];split
 ·rfl
 rw[tC]at a;split at a
 ·simp_all
 exact h j ops f a e d c
theorem DT.start(ops:Array Oper)(b:Region.Mode)(n:Nat):DT ops b (Array.replicate n false):=by
 intro j o _ a;rw[Array.getD_eq_getD_getElem?]at a
 grind
theorem DT.reach{ops:Array Oper}{b:Region.Mode}{l:Array Bool}{i:Nat}(h:DT ops b l) : ∀ n t,reach ops b n t i=true->l.getD t false=true->l.getD i false=true
 | 0,t,hr,ht=>by
   grind [YtabjalhnkndjaaaGreatDoor.reach]
 | n+1,t,hr,ht=>by
   unfold YtabjalhnkndjaaaGreatDoor.reach at hr;rw[Bool.or_eq_true]at hr
   rcases hr with hr|hr
   ·have e:t=i:=(by simpa using hr);rw[<- e]; exact ht
   ·cases ho:ops[t]? with
    | none=>simp[ho]at hr
    | some o =>
      simp only[ho]at hr;rw[Array.any_eq_true']at hr;obtain⟨e,c,a⟩:=hr;rw[Q_]at a;exact DT.reach h n e.on a.2 (h t o ho ht e c a.1)
namespace Fx
abbrev Gh:=Nat->Nat × Nat
def E8(r:Gh)(k:Nat)(p:Nat × Nat):Gh:=fun j=>bif Nat.beq j k then p else r j
theorem wT(r:Gh)(k:Nat)(p:Nat × Nat):E8 r k p k=p:=by grind [E8,Nat.beq_refl]
def bH(ops:List Oper)(i:Nat):Oper:=ops.getD i default
def akq(s:Nat):Option Nat->Bool|none=>false|some d=>Nat.beq d s
def Ac(s:Nat):List Oper->Nat->Option Nat
 | [],_=>none
 | o::l,i=>bif akq s o.dst then some i else Ac s l (i+1)
def tF(ops:List Oper)(s:Nat):Option Nat:=Ac s ops 0
def over(ops:List Oper)(f:Nat->Value)(v:Nat->Value)(a:Array Bool):Nat->Value:=fun s=>match tF ops s with|some i=>(if a.getD i false then v i else f s)|none=>f s
def full(ops:List Oper)(f:Nat->Value)(v:Nat->Value):Nat->Value:=fun s=>match tF ops s with|some i=>v i|none=>f s
def dL(o:Oper)(j:Nat):Bool:=o.after.any fun e=>Region.binds .any e&&Nat.beq e.on j
def Bd(n:Nat)(ops:List Oper):Bool :=
 (List.range ops.length).all fun i =>
  let o:=bH ops i
  (match o.dst with|none=>true|some d=>(match tF ops d with|some j=>Nat.beq j i|none=>false)&&Nat.blt d n) &&
  (o.op.operands.all fun x=>match x with | .tmp t=>(match tF ops t with|some j=>dL o j|none=>true)|_=>true) &&
  (match o.guard with|none=>true|some (j,_)=>dL o j)&&(o.after.all fun e => !Region.binds .any e || Nat.blt e.on i)
theorem Bf{s:Nat} : ∀ {l:List Oper} {k i:Nat},Ac s l k=some i->k<=i/\(bH l (i-k)).dst=some s/\i-k<l.length
 | [],_,_,h=>by cases h
 | o::l,k,i,h=>by
   unfold Ac at h
   cases hd:akq s o.dst
   ·rw[hd]at h;have:=Bf (l:=l) (k:=k+1) (i:=i) h;refine⟨by omega,?_,by grind⟩;have e:i-k=(i-(k+1))+1:=(by omega);rw[e];exact this.2.1
   ·rw[hd]at h;have:k=i:=(by simp_all);subst this;refine⟨A_ _,?_,by simp⟩;simp only[Nat.sub_self,bH,List.getD_cons_zero]
    cases hq:o.dst with
    | none=>rw[hq]at hd; cases hd
    | some d=>rw[hq]at hd; rw[B_ hd]
theorem yE(h:tF s k=some m):(bH s m).dst=some k/\m<s.length:=by
 have:=Bf h; simp_all
section
variable {ops:List Oper} {f:Nat->Value} {n:Nat}
theorem pJ(h:Bd n ops=true)(hi:m<ops.length) :
 (∀ d,(bH ops m).dst=some d->tF ops d=some m/\d<n)/\(∀ t j,.tmp t∈(bH ops m).op.operands->tF ops t=some j->dL (bH ops m) j=true)/\(∀ j b,(bH ops m).guard=some (j,b)->dL (bH ops m) j=true)/\(∀ j,dL (bH ops m) j=true->j<m):=by
 grind [Bd,B_,Nat.blt_eq,Array.all_eq_true',dL]
theorem zn(h:m<o.size):(o.setIfInBounds m true).getD m false=true:=by simp_all
theorem qE(h:m≠j):(o.setIfInBounds m true).getD j false=o.getD j false:=by simp_all
theorem Qp(h:Bd n ops=true)(b:o.size=ops.length)(hi:m<ops.length):put (over ops f x o) (bH ops m).dst (x m)=over ops f x (o.setIfInBounds m true):=by
 have c:=(pJ h hi).1
 funext s
 unfold over
 cases hd:(bH ops m).dst with
 | none =>
   grind [put,yE,qE]
 | some d =>
   grind [put,Nat.beq_refl,zn,B_,yE,qE]
theorem jo(hr:m∈Region.ready .any ops.toArray o):o.getD m false=false/\m<ops.length/\ops.toArray[m]? = some (bH ops m) /\ ∀ j,dL (bH ops m) j=true->o.getD j false=true:=by
 grind [mem_ready,bH,dL,B_]
theorem agE(h:Bd n ops=true){v:Nat->Value}(hr:m∈Region.ready .any ops.toArray o) : ∀ x∈(bH ops m).op.operands,ev (over ops f v o) x=ev (full ops f v) x:=by
 obtain⟨_,c,_,b⟩:=jo hr;intro x d
 cases x with
 | tmp t =>
   show over ops f v _ t=full ops f v t
   grind [over,full,pJ]
 | _=>rfl
theorem Qq(h:Bd n ops=true)(hr:m∈Region.ready .any ops.toArray o):Region.wanted (bH ops m) (yf ops.toArray (over ops f x o))=Region.wanted (bH ops m) (yf ops.toArray (full ops f x)):=by
 obtain⟨_,c,_,b⟩:=jo hr;unfold Region.wanted
 grind [bH,pJ,yf,over,full]
end
def DU(ops:List Oper):Nat->List Nat->Nat->Bool
 | t,[],i=>Nat.beq t i
 | t,j::l,i=>dL (bH ops t) j&&DU ops j l i
theorem nS{ops:List Oper} : ∀ {p:List Nat} {t i:Nat},DU ops t p i=true -> ∃ m,reach ops.toArray .any m t i=true
 | [],t,i,h=>⟨0,by unfold reach; rw[B_ h]; simp⟩
 | j::l,t,i,h=>by
   unfold DU at h;rw[Q_]at h;obtain⟨m,d⟩:=nS h.2;refine⟨m+1,?_⟩;unfold reach;rw[Bool.or_eq_true];right;have a:=h.1;unfold dL at a;rw[Array.any_eq_true']at a;obtain⟨e,b,c⟩:=a;rw[Q_]at c;have f:ops.toArray[t]? = some (bH ops t):=by
    unfold bH at b ⊢;rw[List.getElem?_toArray,r_]
    cases hq:ops[t]? with
    | none =>
      rw[r_,hq]at b;exact L_ b (by simp[show(default:Oper).after = #[]from rfl])
    | some o=>rfl
   grind [Array.any_eq_true',B_]
end Fx
namespace Fx
section
variable {P:Program} {n:Nat} {Q:kR} {f:Nat->Value} {w:World} {ops:List Oper}
def QB(P:Program)(ρ:Operand->Value)(o:Oper)(w:World)(v:Value):Prop := ∀ w1,Below w.heap.size w w1->(execOp ρ o).run P w1 = .ok (.value v) w1 \/ ∃ g a,(execOp ρ o).run P w1 = .ok (.enter g a) w1/\Calls P g a w1 fun e w2=>e = .returned v/\Below w1.heap.size w1 w2
theorem qbV{ρ:Operand->Value}{o:Oper}(h : ∀ w1,Below w.heap.size w w1->(execOp ρ o).run P w1 = .ok (.value c) w1):QB P ρ o w c:=fun w1 a => .inl (h w1 a)
theorem qbC{ρ:Operand->Value}{o:Oper}{args:Array Value}(h : ∀ w1,Below w.heap.size w w1->(execOp ρ o).run P w1 = .ok (.enter e args) w1)(b : ∀ w1,Below w.heap.size w w1->Calls P e args w1 fun g w2=>g = .returned c/\Below w1.heap.size w1 w2):QB P ρ o w c:=fun w1 a => .inr ⟨e,args,h w1 a,b w1 a⟩
theorem alZ{o:Oper}{v:Value}(a:Region.wanted o (yf V x)=true)(e:c=v)(h:QB P (ev x) o w v):(if Region.wanted o (yf V x)then QB P (ev x) o w c else N):=by rw[d_ a,e]; exact h
end
end Fx
namespace Fx
section
variable {P:Program} {n:Nat} {Q:kR} {f:Nat->Value} {w:World} {ops:Array Oper} {rest:List Oper} {o:Oper}
theorem ama{b c:Bool}(i:o.op = .binOp .eql T p Y E)(hx:ev f p = .bool z)(hy:ev f Y = .bool b)(e:P.underlying T=some .bool)(g:(z==b)=c):cB P f o w (.bool c):=by
 unfold cB execOp;simp only[i,hx,hy];have h:(eqGuard .eql T p Y (.bool z) (.bool b)).run P w = .ok () w:=by unfold eqGuard; rfl
 simp only[Sem.run_bind,h,Result.andThen_ok,run_eql_bool w T z b e,Sem.run_pure,g]
theorem uz{s:Nat}{k:List (Nat × Operand)}{vs:List (Nat × Value)}{zc:Nat->Value}(H:Region.wanted o (yf ops f)=true)(A:o.op = .buildSlice T m k.toArray)(B:k.map (fun p=>(p.1,ev f p.2))=vs)(G:P.underlying T=some (.slice E))(d:(P.info? E).map (·.size)=some s)
 (len:Nat.ble (m*s) 16777216=true) (c:Nat.beq (m*s) 0=false) (I:((P.info? E).bind (·.zero)).map (·.cells)=some (aA s zc)) (t:Instr.fill (fun i=>some (i*s,s)) (aA (m*s) (fun j=>zc (j % s))) vs=some (aA (m*s) y)) (r:dF n o.dst=true)
 (h : ∀ g w',g=w.heap.size->aM w' g (m*s) y E->eG w.heap.size w w'->w'.heap.size=w.heap.size+1->L P n ops Q rest (put f o.dst (.slice (some ⟨g,0,none⟩) m m)) w'):L P n ops Q (o::rest) f w:=by
 obtain⟨z,J,K⟩:=Option.map_eq_some_iff.1 I;obtain⟨i,b,M⟩:=Option.bind_eq_some_iff.1 J;have F:i.size=s:=by rw[b]at d; simpa using d
 have N : ¬ m*s>2^24:=by have:=Nat.le_of_ble_eq_true len; omega
 have a:m*s≠0:=fun e=>by rw[e]at c; exact L_ c (by decide)
 have D:0<s:=Nat.pos_of_ne_zero fun e=>a (by rw[e,Nat.mul_zero]);have q:(Array.range (m*s)).map (fun j=>z.cells[j % z.cells.size]!)=aA (m*s) (fun j=>zc (j % s)):=by
  refine zm (by simp) fun j v => ?_;have x:j % s<s:=I_ _ D;have u:=jm zc x;rw[K];simp[v,gG];rw[getElem!_def,u]
 have C:(execOp (ev f) o).run P w = .ok (.value (.slice (some ⟨w.heap.size,0,none⟩) m m)) (w.alloc (.cells (aA (m*s) y) E)):=by
  unfold execOp;simp only[A,List.map_toArray,B];unfold Instr.buildSlice;have l : ¬ 16777216<m*s:=by omega
  simp[underlying,sizeOf,typeInfo,zeroValue,G,b,F,M,l];simp[a,q,t,newRow]
 refine L.val H C r (h _ _ rfl ?_ (eG.alloc _ _) (by simp));show(w.alloc _).heap[w.heap.size]? = _;rw[iY,d_ rfl]
theorem amb{x1:Nat × Operand}(h1:ev f x1.2=c) : [x1].map (fun p=>(p.1,ev f p.2)) = [(x1.1,c)]:=by rw[List.map_cons,h1]; rfl
theorem aaH{x1 x2:Nat × Operand}(h1:ev f x1.2=c)(a:ev f x2.2=H) : [x1,x2].map (fun p=>(p.1,ev f p.2)) = [(x1.1,c),(x2.1,H)]:=by rw[List.map_cons,h1,amb a]
end
end Fx
namespace Fx
def aY(w:World)(B:Nat)(E:TypeId)(s:Nat)(v:Value)(n:Nat)(x:Nat->Value):Prop:=w.ownsRow B E s v n ((List.range (n*s)).map x)
theorem wm(w:World)(B:Nat)(E:TypeId)(s:Nat)(x:Nat->Value):aY w B E s (.slice none 0 0) 0 x:=⟨by simp,.inl ⟨rfl,rfl⟩⟩
theorem eG.grown(g:eG m h q):h.grownBy q (some m):=⟨g.os,g.tape,g.output,g.size,fun k a b=>g.block k a (fun e=>b (by rw[e]))⟩
theorem aY.cK(v:aY h m E k c b x)(w:eG j h q)(a:c.ownBlock≠some j):aY q m E k c b x:=World.ownsRow.kept v w.grown (.inr a)
theorem aY.up{w':World}(w:aY h m E k c b x)(a:Below h.heap.size h w'):aY w' m E k c b x:=by
 refine World.ownsRow.kept w (row:=none) ⟨a.os,a.tape,a.output,a.size,fun B s _=>a.block B s⟩ ?_
 grind
theorem aY.ge(g:aY h k E b c j x)(a:c.ownBlock=some m):k<=m/\m<h.heap.size:=by
 rcases g.2 with ⟨rfl,_⟩|⟨g',cap,cur,rfl,hb,hgg,_⟩
 ·cases a
 grind [Value.ownBlock]
theorem aY.not(B:aY h m E k c j x)(a:b<m:=by omega):c.ownBlock≠some b:=fun e=>by have:=(B.ge e).1; omega
theorem aY.gW(w:aY h m E k c j x)(a:h.heap.size<=b):c.ownBlock≠some b:=fun e=>by have:=(w.ge e).2; omega
theorem aY.form(n:aY h k E b c m x)(B:0<m:=by omega) : ∃ g cap,c = .slice (some ⟨g,0,none⟩) m cap/\k<=g/\g<h.heap.size/\m<=cap/\jM h g 0 (m*b) x:=by
 have w:=n
 rcases n.2 with ⟨_,d⟩|⟨g,cap,cur,rfl,hb,hgg,hnc,_⟩
 ·omega
 refine⟨g,cap,rfl,hb,(t_.1 hgg).1,hnc,fun i a => ?_⟩;rw[G_,World.ownsRow.cellAt w i a];simp[a]
theorem aY.val(v:aY h k E b c m x) : ∃ a cap,c = .slice a m cap:=by
 rcases v.2 with ⟨rfl,rfl⟩|⟨g,cap,cur,rfl,_⟩
 ·simp_all
 simp_all
def gP(x:Nat->Value)(k:Nat)(y:Nat->Value):Nat->Value:=fun p=>if p<k then x p else y (p-k)
theorem MC(x y:Nat->Value)(k m:Nat):(List.range k).map x++(List.range m).map y=(List.range (k+m)).map (gP x k y):=by
 apply List.ext_getElem?
 grind [gP]
section
variable {P:Program} {n:Nat} {Q:kR} {f:Nat->Value} {w:World} {o:Oper}
theorem agF{ty:TypeId}{c:Nat}(h:P.underlying T=some (.slice E))(hi:(P.info? E).map (fun i=>(i.size,i.bytes))=some (j,M))(A:((P.info? E).bind (·.zero)).map (·.cells.size)=some j)(L:Nat.blt 0 j=true)
 (r:aY w u E j H k x) (p:jM w b n (m*j) y) (h1 : ∀ s,s<m*j->(y s).oneCell'=true) (q:0<m) (o:(k+m)*M<=140737488355328) (F:k+m<=140737488355328) (bytes:u<=w.heap.size) :
 ∃ g cap w',(Builtin.append_ #[T,T] ty #[H,.slice (some ⟨b,n,none⟩) m c]).run P w = .ok (.slice (some ⟨g,0,none⟩) (k+m) cap) w'/\aY w' u E j (.slice (some ⟨g,0,none⟩) (k+m) cap) (k+m) (gP x (k*j) y)/\w.grownBy w' H.ownBlock/\(H.ownBlock=some g\/g=w.heap.size)/\g<w'.heap.size:=by
 obtain⟨i,d,a⟩:=Option.map_eq_some_iff.1 hi;obtain⟨z,l,C⟩:=Option.map_eq_some_iff.1 A;rw[d]at l;simp only[Prod.mk.injEq]at a;have D:=l;have t:0<j:=by simp_all
 obtain⟨g,cap,w',K,J,G,v,I⟩:=run_append_lies (P:=P) w T ty u E i z j M h d D a.1 a.2 C t H k _ r ⟨b,n,none⟩ m c ((List.range (m*j)).map y) (by simp)
  (fun s B e=>by
   have f:s<m*j:=(by grind);simp[f]at e;rw[nR,<- e]; exact p s f)
  (fun B h=>by
   grind) q (by grind [maxLen]) o bytes w.heap.size rfl
 grind [aY,Nat.add_mul,MC]
theorem akr{c:Nat}{ρ:Operand->Value}(z:o.op = .call { callee := .builtin .append,args := #[p,Y],argTypes := #[T,T] })(C:ρ p=H)(D:ρ Y = .slice (some ⟨b,n,none⟩) m c)
 (t:P.underlying T=some (.slice E)) (hi:(P.info? E).map (fun i=>(i.size,i.bytes))=some (j,M)) (v:((P.info? E).bind (·.zero)).map (·.cells.size)=some j) (r:Nat.blt 0 j=true)
 (q:aY w u E j H k x) (B:jM w b n (m*j) y) (h1 : ∀ s,s<m*j->(y s).oneCell'=true) (bytes:0<m) (l:(k+m)*M<=140737488355328) (e:k+m<=140737488355328) (f:u<=w.heap.size) :
 ∃ g cap w',(execOp ρ o).run P w = .ok (.value (.slice (some ⟨g,0,none⟩) (k+m) cap)) w'/\aY w' u E j (.slice (some ⟨g,0,none⟩) (k+m) cap) (k+m) (gP x (k*j) y)/\w.grownBy w' H.ownBlock/\(H.ownBlock=some g\/g=w.heap.size)/\g<w'.heap.size:=by
 obtain⟨g,cap,w',A,h⟩:=agF (ty:=o.type) (c:=c) t hi v r q B h1 bytes l e f;refine⟨g,cap,w',?_,h⟩;unfold execOp
 grind [resolve,invoke,builtin,Sem.run_bind,Sem.run_pure,Result.andThen_ok]
theorem ME(a:w.grownBy h c.ownBlock)(w':b<w.heap.size)(d:c.ownBlock≠some b):h.heap[b]? = w.heap[b]? := by grind [a.block]
theorem aM.grown(w':aM w b m x T)(a:w.grownBy h c.ownBlock)(v:c.ownBlock≠some b):aM h b m x T:=(ME a w'.lt v).trans w'
theorem jM.grown(w':jM w b k m x)(v:w.grownBy h c.ownBlock)(e:c.ownBlock≠some b):jM h b k m x:=fun i d=>by
 have a:=w' i d;rw[<- a];exact World.cell?_of_block (w:=w) (ME v (block_lt_of_cell a) e)
theorem sO(B:Below m h w)(b:w.grownBy q c.ownBlock)(a:m<=w.heap.size)(w0 : ∀ g,c.ownBlock=some g->m<=g):Below m h q:=by grind [B.grown]
theorem xX{ops:Array Oper}{rest:List Oper}{B:Nat}{E T:TypeId}{s bytes k m c:Nat}{v:Value}{x y:Nat->Value}{b off:Nat}{a d:Operand}(K:Region.wanted o (yf ops f)=true)(D:o.op = .call { callee := .builtin .append,args := #[a,d],argTypes := #[T,T] })(I:ev f a=v)(M:ev f d = .slice (some ⟨b,off,none⟩) m c)
 (J:P.underlying T=some (.slice E)) (hi:(P.info? E).map (fun i=>(i.size,i.bytes))=some (s,bytes)) (N:((P.info? E).bind (·.zero)).map (·.cells.size)=some s) (H:Nat.blt 0 s=true) (A:dF n o.dst=true)
 (F:aY w B E s v k x) (z:jM w b off (m*s) y) (h1 : ∀ j,j<m*s->(y j).oneCell'=true) (C:0<m) (u:(k+m)*bytes<=140737488355328) (r:k+m<=140737488355328) (t:B<=w.heap.size)
 (h : ∀ g cap w',aY w' B E s (.slice (some ⟨g,0,none⟩) (k+m) cap) (k+m) (gP x (k*s) y)->w.grownBy w' v.ownBlock->(v.ownBlock=some g\/g=w.heap.size)->g<w'.heap.size->L P n ops Q rest (put f o.dst (.slice (some ⟨g,0,none⟩) (k+m) cap)) w'):L P n ops Q (o::rest) f w:=by
 obtain⟨g,cap,w',G,e,l,p,q⟩:=akr (ρ:=ev f) (c:=c) D I M J hi N H F z h1 C u r t;exact L.val K G A (h g cap w' e l p q)
theorem YA(h:o.op = .slice T p (some Y) none none)(hx:ev f p = .slice (some ⟨b,k,none⟩) m u)(g:ev f Y = .int K j)(len:P.underlying T=some (.slice E))(l:(P.info? E).map (·.size)=some M)(n:j<=m) :
 cB P f o w (.slice (if u=j then some ⟨b,k,none⟩else some ⟨b,k+j*M,none⟩) (m-j) (u-j)):=by
 obtain⟨i,c,d⟩:=Option.map_eq_some_iff.1 l;unfold cB execOp;simp only[h,hx,g,Option.map_some,Option.map_none];have e:(j:Int)<=(m:Int):=by omega
 simp[Instr.sliceAt,Instr.slice,underlying,len,Instr.sliceBounds,Instr.sliceBound,asIntOf,e,sizeOf,typeInfo,c,d,nR];omega
theorem CU{a:Addr}(c:o.op = .binOp .eql T p Y E:=by rfl)(hx:ev f p = .pointer (some a):=by rfl)(hy:ev f Y = .pointer none:=by rfl)(d:P.underlying T=some (.pointer (P.pointee T)):=by kernel_rfl):cB P f o w (.bool false):=by
 grind [execOp,eqGuard,Sem.run_bind,Result.andThen_ok,run_eql_pointer_nil,Sem.run_pure]
variable {ops:List Oper} {vals:Gh->Nat->Value} {S:Nat->Gh->World->Prop}
theorem eG.then(g:eG m h q)(a:eG b q w)(e:b=m\/h.heap.size<=b:=by omega):eG m h w:=⟨a.os.trans g.os,a.tape.trans g.tape,a.output.trans g.output,m_ g.size a.size,fun k c d=>(a.block k (n_ c g.size) (by omega)).trans (g.block k c d)⟩
end
end Fx
end Go.Proofs.YtabjalhnkndjaaaGreatDoor
namespace Go.Proofs.YtabjalhnkndjaaaGreatDoor.Fx
open Go.RowKit
theorem aY.congr{n:Nat}(s:aY h k E m c n x)(e : ∀ j,j<n*m->x j=y j):aY h k E m c n y:=by
 have:(List.range (n*m)).map x=(List.range (n*m)).map y:=List.map_congr_left fun j a=>e j (N_.1 a);unfold aY at s ⊢;rw[<- this]; exact s
theorem aM.congr{n:Nat}(w:aM h m n x T)(e : ∀ j,j<n->x j=y j):aM h m n y T:=by
 unfold aM at w ⊢; rw[w,fI e]
section
variable {P:Program} {f:Nat->Value} {w:World} {o:Oper}
theorem Ad{b:List (Nat × Operand)}{vs:List (Nat × Value)}{s:Nat}(g:o.op = .build T b.toArray)(h:b.map (fun p=>(p.1,ev f p.2))=vs)(j:P.underlying T=some (.array k E))
 (len:(P.info? E).map (·.size)=some s) (a:((P.info? T).bind (·.zero)).map (·.cells)=some (aA m x)) (c:Instr.fill (fun i=>some (i*s,s)) (aA m x) vs=some (aA m y)):cB P f o w (.agg (aA m y)):=by
 obtain⟨z,l,n⟩:=Option.map_eq_some_iff.1 a;obtain⟨i,d,a⟩:=Option.bind_eq_some_iff.1 l;obtain⟨r,e,q⟩:=Option.map_eq_some_iff.1 len;unfold cB execOp;simp only[g,List.map_toArray,h];unfold Instr.build;simp only[zeroValue,typeInfo,underlying,sizeOf,Sem.run_bind,run_program,Result.andThen_ok,d,e,a,j,Sem.run_pure,n,q,c]
theorem Uf{off len cap s:Nat}{A:Option Addr}(l:o.op = .slice T p (some Y) none none)(hx:ev f p = .slice (some ⟨b,off,none⟩) len cap)(h:ev f Y = .int K j)(n:P.underlying T=some (.slice E))(x:(P.info? E).map (·.size)=some s)(g:j<=len)
 (d:(if cap=j then some ⟨b,off,none⟩else some ⟨b,off+j*s,none⟩:Option Addr)=A) (i:len-j=m) (e:cap-j=k):cB P f o w (.slice A m k):=by
 subst d i e;exact YA l hx h n x g
end
end Go.Proofs.YtabjalhnkndjaaaGreatDoor.Fx
namespace Go.Proofs.YtabjalhnkndjaaaGreatDoor.Fx
open Go.RowKit
section
variable {w w':World} {B:Nat} {E:TypeId} {s g n cap:Nat} {x:Nat->Value}
theorem aY.wo(h:aY w B E s (.slice (some ⟨g,0,none⟩) n cap) n x):B<=g/\n<=cap/\cap<=maxLen /\ ∃ b,aM w g (cap*s) b E /\ ∀ p,p<n*s->b p=x p:=by
 rcases h.2 with ⟨e,_⟩|⟨g',cap',cur,e,hb,hgg,hnc,hmax,hsz,ht⟩
 ·cases e
 simp only[Value.slice.injEq,Option.some.injEq,Addr.mk.injEq,and_true,true_and]at e;obtain⟨rfl,rfl⟩:=e;refine⟨hb,hnc,hmax,fun p=>cur.getD p undef,?_,fun p a => ?_⟩
 ·unfold aM;rw[hgg]
  congr 2
  refine(zm hsz fun j c => ?_)
  simp_all
 have:=K_ (fun l:List Value=>l[p]?) ht;simp only[List.getElem?_take_of_lt a,Array.getElem?_toList,List.getElem?_map,List.getElem?_range a,Option.map_some]at this
 simp_all
theorem aM.own(h:aM w g (cap*s) y E)(c:B<=g)(b:n<=cap)(d:cap<=maxLen)(e : ∀ p,p<n*s->y p=x p):aY w B E s (.slice (some ⟨g,0,none⟩) n cap) n x:=by
 refine⟨by simp,.inr ⟨g,cap,aA (cap*s) y,rfl,c,h,b,d,gG _ _,?_⟩⟩;have f:n*s<=cap*s:=Nat.mul_le_mul_right s b;apply List.ext_getElem?
 grind [jm]
theorem aY.lt(h:aY w B E s (.slice (some ⟨g,0,none⟩) n cap) n x):g<w.heap.size:=(h.ge rfl).2
theorem aY.aJ(h:aY w B E s (.slice (some ⟨g,0,none⟩) n cap) n x):jM w g 0 (n*s) x:=fun i c=>by
 rcases Nat.eq_zero_or_pos n with e|e
 ·subst e; omega
 ·obtain⟨f,d,a,_,_,_,b⟩:=h.form e;simp only[Value.slice.injEq,Option.some.injEq,Addr.mk.injEq,and_true,true_and]at a;obtain⟨rfl,rfl⟩:=a;exact b i c
theorem aY.agG(h:aY w B E s (.slice (some ⟨g,0,none⟩) n cap) n x)(b:eG m w w')(c:g≠m:=by omega):aY w' B E s (.slice (some ⟨g,0,none⟩) n cap) n x:=h.cK b fun e=>c (C_ e)
end
section
variable {P:Program} {n:Nat} {Q:kR} {ops:Array Oper} {rest:List Oper} {f:Nat->Value} {w:World} {o:Oper}
theorem L.axV(t:Region.wanted o (yf ops f)=true)(cap:o.dst=none)(s:o.op = .store T p Y)(ha:ev f p = .pointer (some ⟨b,u,none⟩))(r:ev f Y=c)(h1:c.oneCell'=true)(d:(P.info? T).map (·.size)=some 1)
 (e:aY w M E m (.slice (some ⟨b,0,none⟩) k j) k x) (hi:u<k*m) (h : ∀ w',aY w' M E m (.slice (some ⟨b,0,none⟩) k j) k (dN x u c)->eG b w w'->w'.heap.size=w.heap.size->L P n ops Q rest f w'):L P n ops Q (o::rest) f w:=by
 obtain⟨i,g,l,C,z,D⟩:=e.wo;have F:k*m<=j*m:=Nat.mul_le_mul_right m g;refine L.Om (x:=C) t cap s ha r h1 d z (by omega) fun w' y q A=>h w' (y.own i g l fun a G => ?_) q A
 grind [dN]
theorem L.axW{B:Nat}(z:Region.wanted o (yf ops f)=true)(s:o.dst=none)(r:o.op = .store T p Y)(ha:ev f p = .pointer (some ⟨j,M,none⟩))(cap:ev f Y = .agg (aA b y))(h1 : ∀ g,g<b->(y g).oneCell'=true)(e:(P.info? T).map (·.size)=some b)
 (l:aY w B E m (.slice (some ⟨j,0,none⟩) k u) k x) (hi:M+b<=k*m) (h : ∀ w',aY w' B E m (.slice (some ⟨j,0,none⟩) k u) k (bJ x M b y)->eG j w w'->w'.heap.size=w.heap.size->L P n ops Q rest f w'):L P n ops Q (o::rest) f w:=by
 obtain⟨d,c,q,F,C,G⟩:=l.wo;have H:k*m<=u*m:=Nat.mul_le_mul_right m c;refine L.aaB (x:=F) z s r ha cap h1 e C (by omega) fun w' A t D=>h w' (A.own d c q fun i I => ?_) t D
 grind [bJ]
end
end Go.Proofs.YtabjalhnkndjaaaGreatDoor.Fx
namespace Go.Proofs.YtabjalhnkndjaaaGreatDoor.Fx
open Go.RowKit
section
variable {P:Program} {n:Nat} {Q:kR} {f:Nat->Value} {w:World} {o:Oper}
theorem aaI{ty:TypeId}{c:Nat}{a b:Option Addr}(h:P.underlying T=some (.slice E))(hi:(P.info? E).map (·.size)=some j)(g:k<=m):(Builtin.append_ #[T,T] ty #[.slice b k m,.slice a 0 c]).run P w = .ok (.slice b k m) w:=by
 obtain⟨i,e,f⟩:=Option.map_eq_some_iff.1 hi;have d:(Builtin.firstCells j 0 (.slice a 0 c)).run P w = .ok #[] w:=by
  cases a with
  | none=>rfl
  | some a=>simp[Builtin.firstCells,loadCells,loadCellsFrom]
 unfold Builtin.append_;simp[underlying,h,sizeOf,typeInfo,e,f,Builtin.lenOf,g,d]
 cases b <;> rfl
theorem aY.zero(h:aY w b E m c k x):aY w b E m c (k+0) (gP x (k*m) y) :=
 aY.congr h fun j a=>by unfold gP; rw[d_ (show j<k*m from a)]
theorem Ug(w:World)(r:Option Nat):w.grownBy w r:=⟨rfl,rfl,rfl,A_ _,fun _ _ _=>rfl⟩
theorem aaJ{B:Nat}{E T:TypeId}{s bytes k m c:Nat}{v:Value}{x y:Nat->Value}{a:Option Addr}{p q:Operand}{ρ:Operand->Value}(H:o.op = .call { callee := .builtin .append,args := #[p,q],argTypes := #[T,T] })(J:ρ p=v)(L:ρ q = .slice a m c)
 (n:P.underlying T=some (.slice E)) (hi:(P.info? E).map (fun i=>(i.size,i.bytes))=some (s,bytes)) (M:((P.info? E).bind (·.zero)).map (·.cells.size)=some s) (I:Nat.blt 0 s=true)
 (f:aY w B E s v k x) (C:0<m -> ∃ b h,a=some ⟨b,h,none⟩/\jM w b h (m*s) y) (h1 : ∀ j,j<m*s->(y j).oneCell'=true) (A:(k+m)*bytes<=140737488355328) (u:k+m<=140737488355328) (z:B<=w.heap.size) :
 ∃ e w',(execOp ρ o).run P w = .ok (.value e) w'/\aY w' B E s e (k+m) (gP x (k*s) y)/\w.grownBy w' v.ownBlock/\(e=v\/e.ownBlock=v.ownBlock\/e.ownBlock=some w.heap.size):=by
 rcases Nat.eq_zero_or_pos m with rfl|hm
 ·refine⟨v,w,?_,f.zero,Ug _ _,.inl rfl⟩;obtain⟨b,cap,K,G⟩ : ∃ b cap,v = .slice b k cap/\k<=cap:=by
   rcases f.2 with ⟨rfl,rfl⟩|⟨g,cap,cur,rfl,_,_,hnc,_⟩
   ·simp_all
   grind
  subst K;have F:(P.info? E).map (·.size)=some s:=by
   grind [Option.map_eq_some_iff]
  have l:=aaI (P:=P) (w:=w) (ty:=o.type) (a:=a) (b:=b) (c:=c) n F G;unfold execOp
  grind [resolve,invoke,builtin,Sem.run_bind,Sem.run_pure,Result.andThen_ok]
 obtain⟨b,h,rfl,D⟩:=C hm;obtain⟨g,cap,w',l,r,t,d,_⟩:=akr (P:=P) H J L n hi M I f D h1 hm A u z;refine⟨_,w',l,r,t,?_⟩
 rcases d with d|d
 ·exact .inr (.inl d.symm)
 exact .inr (.inr (by rw[d]; rfl))
theorem L.tH{rest:List Oper}{B:Nat}{s bytes:Nat}{v:Value}{a:Option Addr}(K:Region.wanted o (yf V f)=true)(D:o.op = .call { callee := .builtin .append,args := #[p,Y],argTypes := #[T,T] })(I:ev f p=v)(M:ev f Y = .slice a m b)
 (J:P.underlying T=some (.slice E)) (hi:(P.info? E).map (fun i=>(i.size,i.bytes))=some (s,bytes)) (N:((P.info? E).bind (·.zero)).map (·.cells.size)=some s) (H:Nat.blt 0 s=true) (C:dF n o.dst=true)
 (F:aY w B E s v k x) (A:0<m -> ∃ g e,a=some ⟨g,e,none⟩/\jM w g e (m*s) y) (h1 : ∀ j,j<m*s->(y j).oneCell'=true) (z:(k+m)*bytes<=140737488355328) (t:k+m<=140737488355328) (u:B<=w.heap.size)
 (h : ∀ d w',aY w' B E s d (k+m) (gP x (k*s) y)->w.grownBy w' v.ownBlock->(d=v\/d.ownBlock=v.ownBlock\/d.ownBlock=some w.heap.size)->L P n V Q rest (put f o.dst d) w'):L P n V Q (o::rest) f w:=by
 obtain⟨d,w',G,ops,q,r⟩:=aaJ (ρ:=ev f) D I M J hi N H F A h1 z t u;exact L.val K G C (h d w' ops q r)
end
end Go.Proofs.YtabjalhnkndjaaaGreatDoor.Fx
namespace Go.Proofs.YtabjalhnkndjaaaGreatDoor.Fx
open Go.RowKit
structure ko(S:Nat->Prop)(w w':World):Prop where
 os:w'.os=w.os
 tape:w'.tape=w.tape
 output:w'.output=w.output
 size:w.heap.size<=w'.heap.size
 block : ∀ k,k<w.heap.size -> ¬ S k->w'.heap[k]? = w.heap[k]?
section
variable {S S':Nat->Prop} {w0 w1 w2:World}
theorem vR(S:Nat->Prop)(w:World):ko S w w:=⟨rfl,rfl,rfl,A_ _,fun _ _ _=>rfl⟩
theorem ko.then(h:ko S w0 w1)(b:eG m w1 w2)(f:S m\/w0.heap.size<=m:=by omega):ko S w0 w2 :=
 ⟨b.os.trans h.os,b.tape.trans h.tape,b.output.trans h.output,m_ h.size b.size,fun k c d=>(b.block k (n_ c h.size) (fun e=>f.elim (fun a=>d (by simp_all)) (fun a=>by omega))).trans (h.block k c d)⟩
theorem ko.grow(h:ko S w0 w1)(b:w1.grownBy w2 c.ownBlock)(f : ∀ k,c.ownBlock=some k->S k\/w0.heap.size<=k):ko S w0 w2 :=
 ⟨b.os.trans h.os,b.tape.trans h.tape,b.output.trans h.output,m_ h.size b.size,fun k v d=>(b.block k (n_ v h.size) (fun e=>(f k e.symm).elim d (fun a=>by omega))).trans (h.block k v d)⟩
theorem ko.jr(h:Below w0.heap.size w0 w1):ko S w0 w1:=⟨h.os,h.tape,h.output,h.size,fun k a _=>h.block k a⟩
theorem ko.below(a:Below m h w0)(B:ko S w0 w1)(hS : ∀ k,S k->m<=k)(c:m<=w0.heap.size):Below m h w1 where
 os:=B.os.trans a.os
 tape:=B.tape.trans a.tape
 output:=B.output.trans a.output
 size:=m_ a.size B.size
 block:=fun k b=>(B.block k (by omega) (fun e=>by grind)).trans (a.block k b)
theorem aM.qZ(h:aM w0 b m x T)(a:ko S w0 w1)(c : ¬ S b):aM w1 b m x T:=(a.block b h.lt c).trans h
theorem aY.qZ(h:aY w0 m E k c b x)(B:ko S w0 w1)(v : ∀ g,c.ownBlock=some g -> ¬ S g):aY w1 m E k c b x:=by
 refine⟨h.1,?_⟩
 rcases h.2 with a|⟨g,cap,cur,rfl,hb,hg,rest⟩
 ·simp_all
 exact .inr ⟨g,cap,cur,rfl,hb,(B.block g (t_.1 hg).1 (v g rfl)).trans hg,rest⟩
end
section
variable {P:Program} {f:Nat->Value} {w:World} {o:Oper}
theorem MF{k:IntKind}(h:o.op = .binOp .shl T p Y E)(hx:ev f p = .int K a)(hy:ev f Y = .int k b)(i:b<=K.bits)(g:K.wrap (a*2^b)=d):cB P f o w (.int K d):=by
 unfold cB execOp;simp only[h,hx,hy];have j:(binOp .shl T (.int K a) (.int k (b:Int))).run P w = .ok (.int K d) w:=by
  simp only[binOp,Op.shift];rw[b_,show min (Int.toNat (b:Int)) K.bits=b by omega,g];simp
 grind [Sem.run_bind,sZ,Result.andThen_ok,Sem.run_pure]
end
end Go.Proofs.YtabjalhnkndjaaaGreatDoor.Fx
namespace Go.Proofs.YtabjalhnkndjaaaGreatDoor.Fx
open Go.RowKit
section
variable {P:Program} {n:Nat} {Q:kR} {f:Nat->Value} {w:World} {o:Oper}
theorem L.Wp{rest:List Oper}{s:Nat}(p:Region.wanted o (yf V f)=true)(j:o.op = .buildSlice T 0 #[])(m:P.underlying T=some (.slice E))(l:(P.info? E).map (·.size)=some s)(b:dF n o.dst=true)
 (h : ∀ g w',g=w.heap.size->(∀ B x,B<=g->aY w' B E s (.slice (some ⟨g,0,none⟩) 0 0) 0 x)->eG w.heap.size w w'->L P n V Q rest (put f o.dst (.slice (some ⟨g,0,none⟩) 0 0)) w'):L P n V Q (o::rest) f w:=by
 obtain⟨i,c,q⟩:=Option.map_eq_some_iff.1 l;have k:(execOp (ev f) o).run P w = .ok (.value (.slice (some ⟨w.heap.size,0,none⟩) 0 0)) (w.alloc (.cells #[] E)):=by
  unfold execOp;simp only[j,List.map_toArray];unfold Instr.buildSlice;simp[underlying,sizeOf,typeInfo,m,c,Instr.fill,newRow];have e : ∀ d:Value,Array.map (fun _=>d) (Array.range 0) = #[]:=fun d=>by apply Array.ext <;> simp
  rw[e]
 refine L.val p k b (h _ _ rfl (fun B x a=>⟨by simp,.inr ⟨w.heap.size,0,#[],rfl,a,?_,A_ _,J_ _,by simp,by simp⟩⟩) (eG.alloc _ _));show(w.alloc _).heap[w.heap.size]? = _;rw[iY,d_ rfl]
end
end Go.Proofs.YtabjalhnkndjaaaGreatDoor.Fx
namespace Go.Proofs.YtabjalhnkndjaaaGreatDoor.Fx
open Go.RowKit
theorem LM.mono{P:Program}{f:Nat->Value}{o:Oper}{w:World}{K K':Value->World->Prop}(h:LM P f o w K)(b : ∀ v w',K v w'->K' v w'):LM P f o w K':=by
 rcases h with ⟨v,w',a,h⟩|⟨w',a,h⟩|⟨g,args,a,h⟩
 ·exact .inl ⟨v,w',a,b v _ h⟩
 ·exact .inr (.inl ⟨w',a,b _ w' h⟩)
 exact .inr (.inr ⟨g,args,a,h.mono fun e w' ⟨v,c,d⟩=>⟨v,c,b v _ d⟩⟩)
def jJ(c:Nat):Bool:=Nat.ble c 1 || Nat.beq c 4
def agH(S:World->World->Prop)(c:Nat)(w w2:World):Prop:=c=0\/(c=1/\S w w2)\/w2=w
def R(P:Program)(n:Nat)(ops:List Oper)(cs:List Nat)(S:World->World->Prop)(Q:kR):List Nat->(Nat->Value)->World->Prop
 | [],f,w=>Q .normal f w
 | i::l,f,w=>(Region.wanted (bH ops i) (yf ops.toArray f)=false/\R P n ops cs S Q l (put f (bH ops i).dst undef) w) \/
   (Region.wanted (bH ops i) (yf ops.toArray f)=true /\
    ((jJ (cs.getD i 3)=true /\ ∃ v,(∀ w2,agH S (cs.getD i 3) w w2->(execOp (ev f) (bH ops i)).run P w2 = .ok (.value v) w2)/\R P n ops cs S Q l (put f (bH ops i).dst v) w) \/
     (jJ (cs.getD i 3)=false/\LM P f (bH ops i) w fun v w'=>(cs.getD i 3=2->S w w')/\R P n ops cs S Q l (put f (bH ops i).dst v) w')))
section
variable {P:Program} {n:Nat} {ops:List Oper} {cs:List Nat} {S:World->World->Prop} {Q:kR}
theorem R.tail{Y:List Nat}(c : ∀ x h,R P n ops cs S Q Z x h->R P n ops cs S Q Y x h)(f:R P n ops cs S Q (m::Z) x h):R P n ops cs S Q (m::Y) x h:=by
 unfold R at f ⊢
 rcases f with ⟨b,a⟩|⟨b,⟨a,v,h3,h4⟩|⟨a,h3⟩⟩
 ·simp_all
 ·grind
 grind [h3.mono]
def Stl(P:Program)(ops:List Oper)(cs:List Nat)(S:World->World->Prop)(i:Nat)(f:Nat->Value)(w:World)(v:Value):Prop :=
 (Region.wanted (bH ops i) (yf ops.toArray f)=false/\v=undef)\/(Region.wanted (bH ops i) (yf ops.toArray f)=true/\jJ (cs.getD i 3)=true /\ ∀ w2,agH S (cs.getD i 3) w w2->(execOp (ev f) (bH ops i)).run P w2 = .ok (.value v) w2)
theorem R.Gm(b:Stl P ops cs S m x h c)(i:R P n ops cs S Q Z (put x (bH ops m).dst c) h):R P n ops cs S Q (m::Z) x h:=by
 unfold R
 rcases b with ⟨a,rfl⟩|⟨a,h2,h3⟩
 ·simp_all
 grind
theorem R.stl(hi:jJ (cs.getD m 3)=true)(i:R P n ops cs S Q (m::Z) x h) : ∃ v,Stl P ops cs S m x h v/\R P n ops cs S Q Z (put x (bH ops m).dst v) h:=by
 unfold R at i
 rcases i with ⟨b,a⟩|⟨b,⟨a,v,h3,h4⟩|⟨a,h3⟩⟩
 ·exact⟨undef,.inl ⟨b,rfl⟩,a⟩
 ·exact⟨v,.inr ⟨b,a,h3⟩,h4⟩
 simp_all
theorem Gn(c:Bd n ops=true)(hi:m<ops.length)(a:j<ops.length)(b:m≠j)(f:Nat->Value)(u v:Value) :
 put (put f (bH ops m).dst u) (bH ops j).dst v=put (put f (bH ops j).dst v) (bH ops m).dst u:=by
 cases hdi:(bH ops m).dst with
 | none=>rfl
 | some di =>
   cases hdj:(bH ops j).dst with
   | none=>rfl
   | some dj =>
     grind [pJ,put,B_]
theorem amc(b:Bd n ops=true)(hi:m<ops.length)(a:j<ops.length)(ha:dL (bH ops j) m=false)(f:Nat->Value)(u:Value) : ∀ x∈(bH ops j).op.operands,ev (put f (bH ops m).dst u) x=ev f x:=by
 intro x c
 cases x with
 | tmp t =>
   show put f (bH ops m).dst u t=f t
   cases hdi:(bH ops m).dst with
   | none=>rfl
   | some d =>
     grind [put,B_,pJ]
 | _=>rfl
theorem JY(c:Bd n ops=true)(hi:m<ops.length)(a:j<ops.length)(ha:dL (bH ops j) m=false)(f:Nat->Value)(u:Value) :
 Region.wanted (bH ops j) (yf ops.toArray (put f (bH ops m).dst u))=Region.wanted (bH ops j) (yf ops.toArray f):=by
 unfold Region.wanted
 cases hg:(bH ops j).guard with
 | none=>rfl
 | some gb =>
   obtain⟨g,b⟩:=gb;simp only;have h:=(pJ c a).2.2.1 g b hg;have l:g≠m:=fun e=>by simp_all
   congr 1
   unfold yf
   cases hd:(ops.toArray[g]?).bind (·.dst)with
   | none=>rfl
   | some d =>
     simp only;have i:g<ops.length:=by
      grind
     have k:(bH ops g).dst=some d:=by
      grind [bH]
     have e:put f (bH ops m).dst u d=f d:=by
      cases hdi:(bH ops m).dst with
      | none=>rfl
      | some di =>
        grind [put,B_,pJ]
     rw[e]
theorem Ot(d:Bd n ops=true)(e:Region.noSelect ops.toArray=true)(hi:m<ops.length)(a:j<ops.length)(ha:dL (bH ops j) m=false)(f:Nat->Value)(u:Value) :
 execOp (ev (put f (bH ops m).dst u)) (bH ops j)=execOp (ev f) (bH ops j) :=
 execOp_congr _ (fun c b=>Region.noSelect_spec e j (bH ops j) c b (by
  unfold bH; rw[List.getElem?_toArray,r_,o_ a]; rfl)) (amc d hi a ha f u)
def oH(ops:List Oper)(cs:List Nat)(bR:List (Nat × Nat × List Nat))(i j:Nat):Bool :=
 !dL (bH ops i) j&&((jJ (cs.getD i 3)&&(Nat.beq (cs.getD i 3) 0 || jJ (cs.getD j 3) || (Nat.beq (cs.getD i 3) 1&&Nat.beq (cs.getD j 3) 2))) || bR.any fun c=>Nat.beq c.1 j&&Nat.beq c.2.1 i&&DU ops j c.2.2 i)
def Ae(ops:List Oper)(cs:List Nat)(bR:List (Nat × Nat × List Nat)):List Nat->Bool
 | []=>true
 | i::l=>l.all (oH ops cs bR i)&&Ae ops cs bR l
def Af(ops:List Oper)(l:List Nat):Bool:=Nat.beq l.length ops.length&&l.all (fun i=>Nat.blt i ops.length)&&decide l.Nodup&&(List.range ops.length).all (fun i=>l.any (Nat.beq i))
theorem Qr(p:Bd n ops=true)(r:Region.noSelect ops.toArray=true)(hi:m<ops.length)(o:j<ops.length)(D:m≠j)(q:dL (bH ops j) m=false)(t:dL (bH ops m) j=false)(hS : ∀ h,S h h)(A : ∀ a b c,S a b->S b c->S a c)(B:jJ (cs.getD m 3)=true)(C:cs.getD m 3=0\/jJ (cs.getD j 3)=true\/(cs.getD m 3=1/\cs.getD j 3=2))
    (w:R P n ops cs S Q (m::j::Z) x h):R P n ops cs S Q (j::m::Z) x h:=by
 obtain⟨z,y,w⟩:=w.stl B;have s : ∀(u:Value) (w':World),agH S (cs.getD m 3) h w'->Stl P ops cs S m (put x (bH ops j).dst u) w' z:=fun u w' g=>by
  unfold Stl;rw[JY p o hi t,Ot p r o hi t]
  rcases y with y|⟨k,i,h3⟩
  ·simp_all
  ·refine .inr ⟨k,i,fun w2 d=>h3 w2 ?_⟩
   rcases g with g|⟨g,hb2⟩|g
   ·exact .inl g
   ·rcases d with d|⟨_,d⟩|d
    ·omega
    ·exact .inr (.inl ⟨g,A _ _ _ hb2 d⟩)
    ·subst d; exact .inr (.inl ⟨g,hb2⟩)
   simp_all
 unfold R at w;rw[JY p hi o q,Ot p r hi o q]at w;rw[R]
 rcases w with ⟨k,i⟩|⟨k,⟨i,v,h3,d⟩|⟨i,h3⟩⟩
 ·refine .inl ⟨k,R.Gm (s undef h (.inr (.inr rfl))) ?_⟩
  grind [Gn]
 ·refine .inr ⟨k,.inl ⟨i,v,h3,R.Gm (s v _ (.inr (.inr rfl))) ?_⟩⟩
  grind [Gn]
 refine .inr ⟨k,.inr ⟨i,?_⟩⟩;unfold LM at h3;rw[Ot p r hi o q]at h3;refine LM.mono (K:=fun v w'=>(cs.getD j 3=2->S h w')/\R P n ops cs S Q Z (put (put x (bH ops m).dst z) (bH ops j).dst v) w') h3 fun v w' f=>⟨f.1,R.Gm (s v w' ?_) ?_⟩
 ·rcases C with e|e|⟨e,e2⟩
  ·exact .inl e
  ·simp_all
  exact .inr (.inl ⟨e,f.1 e2⟩)
 grind [Gn]
theorem Ag{bR:List (Nat × Nat × List Nat)} : ∀ {l:List Nat},Ae ops cs bR l=true->l.Pairwise fun i j=>oH ops cs bR i j=true
 | [],_=>List.Pairwise.nil
 | i::l,h=>by
   unfold Ae at h;rw[Q_,List.all_eq_true]at h;exact List.Pairwise.cons h.1 (Ag h.2)
end
section
variable {P:Program} {n:Nat} {ops:List Oper} {cs:List Nat} {S:World->World->Prop} {Q:kR} {f:Nat->Value} {w:World} {i:Nat} {l:List Nat}
theorem Rn(h:Q .normal f w):R P n ops cs S Q [] f w:=h
theorem Rk(a:Region.wanted (bH ops i) (yf ops.toArray f)=false)(h:R P n ops cs S Q l (put f (bH ops i).dst undef) w):R P n ops cs S Q (i::l) f w := .inl ⟨a,h⟩
theorem R.pure(b:Region.wanted (bH ops i) (yf ops.toArray f)=true)(a:Nat.beq (cs.getD i 3) 0=true)(hr : ∀ w2,(execOp (ev f) (bH ops i)).run P w2 = .ok (.value c) w2)(h:R P n ops cs S Q l (put f (bH ops i).dst c) w):R P n ops cs S Q (i::l) f w :=
 .inr ⟨b,.inl ⟨by rw[B_ a]; rfl,c,fun w2 _=>hr w2,h⟩⟩
theorem lI{v:Value}(c:Region.wanted (bH ops i) (yf ops.toArray f)=true)(a:Nat.beq (cs.getD i 3) 1=true)(hS:S w w)(hr : ∀ w2,S w w2->(execOp (ev f) (bH ops i)).run P w2 = .ok (.value v) w2)(h:R P n ops cs S Q l (put f (bH ops i).dst v) w):R P n ops cs S Q (i::l) f w :=
 .inr ⟨c,.inl ⟨by rw[B_ a]; rfl,v,fun w2 b=>hr w2 (by
  rcases b with e|⟨_,e⟩|e
  ·rw[B_ a]at e; cases e
  ·exact e
  ·subst e; exact hS),h⟩⟩
theorem R.still(v:Region.wanted (bH ops i) (yf ops.toArray f)=true)(a:Nat.beq (cs.getD i 3) 4=true)(hr:(execOp (ev f) (bH ops i)).run P w = .ok (.value c) w)(h:R P n ops cs S Q l (put f (bH ops i).dst c) w):R P n ops cs S Q (i::l) f w :=
 .inr ⟨v,.inl ⟨by rw[B_ a]; rfl,c,fun w2 b=>by
  rcases b with e|⟨e,_⟩|e
  ·rw[B_ a]at e; cases e
  ·rw[B_ a]at e; cases e
  ·subst e; exact hr,h⟩⟩
theorem Rp(v:Value)(hr : ∀ w2,cB P f (bH ops i) w2 v)(h:R P n ops cs S Q l (put f (bH ops i).dst v) w)(b:Region.wanted (bH ops i) (yf ops.toArray f)=true:=by rfl)(a:Nat.beq (cs.getD i 3) 0=true:=by rfl):R P n ops cs S Q (i::l) f w:=by grind [R.pure]
theorem Rs(v:Value)(hr:cB P f (bH ops i) w v)(h:R P n ops cs S Q l (put f (bH ops i).dst v) w)(b:Region.wanted (bH ops i) (yf ops.toArray f)=true:=by rfl)(a:Nat.beq (cs.getD i 3) 4=true:=by rfl):R P n ops cs S Q (i::l) f w:=by grind [R.still]
theorem R.ru(d:Nat.beq (cs.getD i 3) 3=true)(h:L P n ops.toArray (fun _ c w'=>R P n ops cs S Q l c w') [bH ops i] f w):R P n ops cs S Q (i::l) f w:=by
 have g:=B_ d;obtain⟨_,⟨a,b⟩|⟨a,b⟩⟩:=h
 ·refine .inr ⟨a,.inr ⟨by rw[g]; rfl,LM.mono (K:=fun v w'=>R P n ops cs S Q l (put f (bH ops i).dst v) w') b fun v _ j=>⟨fun e=>by omega,j⟩⟩⟩
 exact .inl ⟨a,b⟩
theorem R.make(e:Nat.beq (cs.getD i 3) 2=true)(h:L P n ops.toArray (fun _ d w'=>S w w'/\R P n ops cs S Q l d w') [bH ops i] f w):R P n ops cs S Q (i::l) f w:=by
 have g:=B_ e;obtain⟨_,⟨a,b⟩|⟨a,b⟩⟩:=h
 ·exact .inr ⟨a,.inr ⟨by rw[g]; rfl,LM.mono (K:=fun v w'=>S w w'/\R P n ops cs S Q l (put f (bH ops i).dst v) w') b fun v _ c=>⟨fun _=>c.1,c.2⟩⟩⟩
 exact .inl ⟨a,b.2⟩
def Mk(w w':World):Prop:=Below w.heap.size w w'
theorem mE(w:World):Mk w w:=Below.refl _ _
theorem Mk.trans(a b c:World)(h:Mk a b)(k:Mk b c):Mk a c:=Oj h k
end
end Go.Proofs.YtabjalhnkndjaaaGreatDoor.Fx
namespace Go.Proofs.YtabjalhnkndjaaaGreatDoor.Fx
open Go.RowKit
def nT(n:Nat)(ops:List Oper):Bool :=
 (List.range ops.length).all fun i =>
  let o:=bH ops i
  (match o.dst with|none=>true|some d=>(match tF ops d with|some j=>Nat.beq j i|none=>false)&&Nat.blt d n) &&
  (o.op.operands.all fun x=>match x with | .tmp t=>(match tF ops t with|some j=>dL o j || dL (bH ops j) i|none=>true)|_=>true) &&
  (match o.guard with|none=>true|some (j,_)=>dL o j)&&(o.after.all fun e => !Region.binds .any e || Nat.blt e.on i)
theorem ny(h:nT k s=true)(hi:m<s.length) :
 (∀ d,(bH s m).dst=some d->tF s d=some m/\d<k)/\(∀ t j,.tmp t∈(bH s m).op.operands->tF s t=some j->dL (bH s m) j=true\/dL (bH s j) m=true)/\(∀ j b,(bH s m).guard=some (j,b)->dL (bH s m) j=true)/\(∀ j,dL (bH s m) j=true->j<m):=by
 grind [nT,B_,Nat.blt_eq,Array.all_eq_true',dL]
section
variable {P:Program} {n:Nat} {ops:List Oper} {cs:List Nat} {S:World->World->Prop} {Q:kR}
theorem Ei(c:nT n ops=true)(hi:m<ops.length)(a:j<ops.length)(b:m≠j)(f:Nat->Value)(u v:Value) :
 put (put f (bH ops m).dst u) (bH ops j).dst v=put (put f (bH ops j).dst v) (bH ops m).dst u:=by
 cases hdi:(bH ops m).dst with
 | none=>rfl
 | some di =>
   cases hdj:(bH ops j).dst with
   | none=>rfl
   | some dj =>
     grind [ny,put,B_]
theorem agI(c:nT n ops=true)(hi:m<ops.length)(b:j<ops.length)(ha:dL (bH ops j) m=false)(a:dL (bH ops m) j=false)(f:Nat->Value)(u:Value) : ∀ x∈(bH ops j).op.operands,ev (put f (bH ops m).dst u) x=ev f x:=by
 intro x e
 cases x with
 | tmp t =>
   show put f (bH ops m).dst u t=f t
   cases hdi:(bH ops m).dst with
   | none=>rfl
   | some d =>
     grind [put,B_,ny]
 | _=>rfl
theorem Hy(c:nT n ops=true)(hi:m<ops.length)(a:j<ops.length)(ha:dL (bH ops j) m=false)(f:Nat->Value)(u:Value) :
 Region.wanted (bH ops j) (yf ops.toArray (put f (bH ops m).dst u))=Region.wanted (bH ops j) (yf ops.toArray f):=by
 unfold Region.wanted
 cases hg:(bH ops j).guard with
 | none=>rfl
 | some gb =>
   obtain⟨g,b⟩:=gb;simp only;have h:=(ny c a).2.2.1 g b hg;have l:g≠m:=fun e=>by simp_all
   congr 1
   unfold yf
   cases hd:(ops.toArray[g]?).bind (·.dst)with
   | none=>rfl
   | some d =>
     simp only;have i:g<ops.length:=by
      grind
     have k:(bH ops g).dst=some d:=by
      grind [bH]
     have e:put f (bH ops m).dst u d=f d:=by
      cases hdi:(bH ops m).dst with
      | none=>rfl
      | some di =>
        grind [put,B_,ny]
     rw[e]
theorem JZ(e:nT n ops=true)(g:Region.noSelect ops.toArray=true)(hi:m<ops.length)(a:j<ops.length)(ha:dL (bH ops j) m=false)(d:dL (bH ops m) j=false)(f:Nat->Value)(u:Value) :
 execOp (ev (put f (bH ops m).dst u)) (bH ops j)=execOp (ev f) (bH ops j) :=
 execOp_congr _ (fun c b=>Region.noSelect_spec g j (bH ops j) c b (by
  unfold bH; rw[List.getElem?_toArray,r_,o_ a]; rfl)) (agI e hi a ha d f u)
theorem aks(p:nT n ops=true)(s:Region.noSelect ops.toArray=true)(hi:m<ops.length)(o:j<ops.length)(D:m≠j)(q:dL (bH ops j) m=false)(r:dL (bH ops m) j=false)(hS : ∀ h,S h h)(A : ∀ a b c,S a b->S b c->S a c)(B:jJ (cs.getD m 3)=true)(C:cs.getD m 3=0\/jJ (cs.getD j 3)=true\/(cs.getD m 3=1/\cs.getD j 3=2))
    (w:R P n ops cs S Q (m::j::Z) x h):R P n ops cs S Q (j::m::Z) x h:=by
 obtain⟨z,y,w⟩:=w.stl B;have t : ∀(u:Value) (w':World),agH S (cs.getD m 3) h w'->Stl P ops cs S m (put x (bH ops j).dst u) w' z:=fun u w' g=>by
  unfold Stl;rw[Hy p o hi r,JZ p s o hi r q]
  rcases y with y|⟨k,i,h3⟩
  ·simp_all
  ·refine .inr ⟨k,i,fun w2 d=>h3 w2 ?_⟩
   rcases g with g|⟨g,hb2⟩|g
   ·exact .inl g
   ·rcases d with d|⟨_,d⟩|d
    ·omega
    ·exact .inr (.inl ⟨g,A _ _ _ hb2 d⟩)
    ·subst d; exact .inr (.inl ⟨g,hb2⟩)
   simp_all
 unfold R at w;rw[Hy p hi o q,JZ p s hi o q r]at w;rw[R]
 rcases w with ⟨k,i⟩|⟨k,⟨i,v,h3,d⟩|⟨i,h3⟩⟩
 ·refine .inl ⟨k,R.Gm (t undef h (.inr (.inr rfl))) ?_⟩
  grind [Ei]
 ·refine .inr ⟨k,.inl ⟨i,v,h3,R.Gm (t v _ (.inr (.inr rfl))) ?_⟩⟩
  grind [Ei]
 refine .inr ⟨k,.inr ⟨i,?_⟩⟩;unfold LM at h3;rw[JZ p s hi o q r]at h3;refine LM.mono (K:=fun v w'=>(cs.getD j 3=2->S h w')/\R P n ops cs S Q Z (put (put x (bH ops m).dst z) (bH ops j).dst v) w') h3 fun v w' f=>⟨f.1,R.Gm (t v w' ?_) ?_⟩
 ·rcases C with e|e|⟨e,e2⟩
  ·exact .inl e
  ·simp_all
  exact .inr (.inl ⟨e,f.1 e2⟩)
 grind [Ei]
theorem Ou(m:nT n ops=true)(o:Region.noSelect ops.toArray=true)(hS : ∀ w,S w w)(e : ∀ a b c,S a b->S b c->S a c){j:Nat}(g:j<ops.length){l:List Nat} :
 ∀(d:List Nat),(∀ i∈d,i<ops.length/\i≠j/\dL (bH ops j) i=false/\dL (bH ops i) j=false/\jJ (cs.getD i 3)=true/\(cs.getD i 3=0\/jJ (cs.getD j 3)=true\/(cs.getD i 3=1/\cs.getD j 3=2))) -> ∀ f w,R P n ops cs S Q (d++j::l) f w->R P n ops cs S Q (j::(d++l)) f w
 | [],_,f,w,h=>h
 | i::d,hp,f,w,h=>by
   obtain⟨p,q,r,s,t,u⟩:=hp i (List.mem_cons_self ..);exact aks m o p g q r s hS e t u (R.tail (fun f w=>Ou m o hS e g d (fun k v=>hp k (List.mem_cons_of_mem _ v)) f w) h)
theorem R.aqU(Z:nT n ops=true)(ac:Region.noSelect ops.toArray=true)(hS : ∀ w,S w w)(O : ∀ a b c,S a b->S b c->S a c){bR:List (Nat × Nat × List Nat)} : ∀(k:Nat) (o:List Nat) (g:Array Bool) (a:Act) (f:Nat->Value) (w:World),o.length=k->g.size=ops.length->DT ops.toArray .any g ->
 (∀ i,i∈o<->i<ops.length/\g.getD i false=false)->o.Nodup->(o.Pairwise fun i j=>oH ops cs bR i j=true)->Fr a n f->R P n ops cs S Q o f w->wpAny P .any ops.toArray (JR n Q) k g a w:=by
 intro k
 induction k with
 | zero =>
   intro o g a f w H ad C z W D x h;have:o = []:=List.eq_nil_of_length_eq_zero H;subst this;refine⟨?_,f,x,h⟩;rw[List.eq_nil_iff_forall_not_mem];intro j y;obtain⟨A,u,_,_⟩:=jo y
   simp_all
 | succ k ih =>
   intro o g a f w H ad C z W D x h;refine⟨fun hr => ?_,fun j y => ?_⟩
   ·cases o with
    | nil=>simp_all
    | cons r aqV =>
      exfalso;obtain⟨A,u⟩:=(z r).1 (List.mem_cons_self ..);have:r∈Region.ready .any ops.toArray g:=by
       refine mem_ready.2 ⟨getD_in (by omega) u,bH ops r,by grind [bH],fun e he B => ?_⟩
       grind [dL,Array.any_eq_true',Nat.beq_refl,ny,List.pairwise_cons,oH]
      simp_all
   ·obtain⟨A,u,E,h4⟩:=jo y;have T:=(z j).2 ⟨u,A⟩;obtain⟨p,s,rfl⟩:=List.append_of_mem T;have B:=Ou (P:=P) (cs:=cs) (S:=S) (Q:=Q) Z ac hS O u (l:=s) p (fun i G=>by
     obtain⟨M,h6⟩:=(z i).1 (List.mem_append_left _ G);have Y:i≠j:=fun e=>by
      grind
     have q:=(List.pairwise_append.1 D).2.2 i G j (List.mem_cons_self ..);unfold oH at q;rw[Q_,Bool.or_eq_true]at q;have V:dL (bH ops j) i=false:=by
      grind
     refine⟨M,Y,V,by simp_all,?_⟩
     rcases q.2 with q|q
     ·grind [B_]
     ·exfalso;rw[List.any_eq_true]at q;obtain⟨c,_,F⟩:=q;rw[Q_,Q_]at F;obtain⟨m,t⟩:=nS F.2
      cases m with
      | zero=>grind [reach]
      | succ m =>
        unfold reach at t;rw[Bool.or_eq_true]at t
        rcases t with t|t
        ·simp_all
        ·rw[E]at t
         grind [dL,Nat.beq_refl,C.reach]) f w h
    have aa:(p++s).length=k:=(by grind);have X:(p++s).Nodup:=by
     grind
    have ab:=D.sublist (List.Sublist.append_left (List.sublist_cons_self ..) p);have U : ∀ i,i∈p++s<->i<ops.length/\(g.setIfInBounds j true).getD i false=false:=fun i=>by
     grind [zn,qE]
    have ae : ∀(v:Value) (w':World),R P n ops cs S Q (p++s) (put f (bH ops j).dst v) w'->wpAny P .any ops.toArray (JR n Q) k (g.setIfInBounds j true) (a.put (bH ops j).dst v) w':=fun v w' N =>
     ih (p++s) _ _ _ w' aa (by simp_all) (C.set y) U X ab (x.put (by
      cases hd:(bH ops j).dst with
      | none=>rfl
      | some d=>grind [ny,dF,Nat.blt_eq]) v) N
    unfold wpOp;rw[E];simp only;rw[x.yf];unfold R at B
    rcases B with ⟨I,J⟩|⟨I,⟨J,v,q3,q4⟩|⟨J,q3⟩⟩
    ·simp_all
    ·rw[d_ I];refine .inl<|LM.wp (K:=fun L w'=>L=v/\w'=w) x (.inl ⟨v,w,q3 w (.inr (.inr rfl)),rfl,rfl⟩) ?_;rintro L w' ⟨rfl,rfl⟩;exact ae _ _ q4
    grind [LM.wp]
theorem W.nC(l:List Nat)(cs:List Nat)(S:World->World->Prop)(hS : ∀ h,S h h)(g : ∀ a b c,S a b->S b c->S a c)(bR:List (Nat × Nat × List Nat))(r:P.follows .mixedOrders=true)(s:nT n ops=true)(u:Region.noSelect ops.toArray=true)(e:Af ops l=true)(t:Ae ops cs bR l=true)
 (w : ∀ w1,Below h.heap.size h w1->w1.heap.size=h.heap.size->R P n ops cs S Q l x w1):W P n (.region m ops.toArray true) Q x h:=fun a j=>by
 refine wp_region_any r ?_;unfold Af at e;rw[Q_,Q_,Q_,List.all_eq_true,List.all_eq_true]at e;obtain⟨⟨⟨v,f⟩,p3⟩,p4⟩:=e;have q:=B_ v;have y:=h_ p3;have:=R.aqU (P:=P) (Q:=Q) (bR:=bR) s u hS g ops.length l (Array.replicate ops.length false) a x { h with drawn:=h.drawn+1 } q (by simp) (DT.start _ _ _) (fun i=>by
  have id : ∀ i,(Array.replicate ops.length false).getD i false=false:=fun i=>getD_replicate_false _ _;constructor
  ·intro d; exact⟨by simpa [Nat.blt_eq] using f i d,id i⟩
  ·intro d;obtain⟨k,o,p⟩:=List.any_eq_true.1 (p4 i (by simpa using d.1));rw[B_ p]; exact o) y (Ag t) j (w { h with drawn:=h.drawn+1 } (Below.refl _ _).drew rfl)
 simpa using this
end
end Go.Proofs.YtabjalhnkndjaaaGreatDoor.Fx
namespace Go.Proofs.YtabjalhnkndjaaaGreatDoor.Fx
open Go.RowKit
theorem u8e(h:0<=d/\d<=255)(e:a=d):IntKind.u8.wrap a=d:=by grind [IntWalk.u8_in]
def dn(s:Nat)(F:Nat->Nat->Value):Nat->Value:=fun p=>F (p / s) (p % s)
theorem eF(s:b=m*k+j)(a:j<m):dn m D b=D k j:=by
 grind [dn,Nat.add_mul_div_left,Nat.div_eq_of_lt,Nat.add_mul_mod_self_left,Nat.mod_eq_of_lt]
theorem je(s:b=m*k+j:=by omega)(a:j<m:=by omega)(e:D k j=c:=by rfl):dn m D b=c:=by grind [eF]
theorem bZ{n:Nat}{G:Nat->Nat->Value}(h : ∀ k,k<n -> ∀ j,j<m->D k j=G k j) : ∀ p,p<n*m->dn m D p=dn m G p:=fun p a=>by
 have b:0<m:=Nat.pos_of_ne_zero fun e=>by subst e; simp at a
 unfold dn;exact h _ (Nat.div_lt_of_lt_mul (by rw[Nat.mul_comm]; exact a)) _ (I_ _ b)
def wu(F:Nat->Nat->Value)(k:Nat)(y:Nat->Value):Nat->Nat->Value:=fun i=>if i=k then y else F i
theorem BL : ∀ p,p<(k+1)*m->gP (dn m D) (k*m) (bJ x (0*m) m y) p=dn m (wu D k y) p:=fun p a=>by
 have d:0<m:=Nat.pos_of_ne_zero fun e=>by subst e; simp at a
 unfold gP;by_cases h:p<k*m
 ·rw[d_ h];have c:=Nat.div_lt_of_lt_mul (by rw[Nat.mul_comm]; exact h);unfold dn wu;rw[b_]
 ·rw[b_ h];have e:p=m*k+(p-k*m):=by rw[Nat.mul_comm m k]; omega
  have b:p-k*m<m:=by rw[Nat.add_mul]at a; omega
  rw[eF e b];unfold bJ wu;rw[d_,d_ rfl]
  congr 1; omega
theorem BM(s:b=m*k:=by omega) : ∀ p,p<j*m->bJ (dn m D) b m y p=dn m (wu D k y) p:=fun p c=>by
 subst s;have a:0<m:=Nat.pos_of_ne_zero fun e=>by subst e; simp at c
 unfold bJ dn wu;have e:=Nat.div_add_mod p m;have g:=I_ p a;by_cases h:p / m=k
 ·rw[h]at e;rw[d_ ⟨by omega,by omega⟩,d_ h]; congr 1; omega
 ·rw[b_ h,b_ ?_];rintro ⟨d,f⟩;apply h;have:p=(p-m*k)+m*k:=by omega
  rw[this,Nat.add_mul_div_left _ _ a,Nat.div_eq_of_lt (by omega),G_]
theorem MG(f:b=m*k+j:=by omega)(d:j<m:=by omega) : ∀ p,p<u*m->dN (dn m D) b c p=dn m (wu D k (dN (D k) j c)) p:=fun p i=>by
 subst f;have F:0<m:=by omega
 unfold dN dn wu;have e:=Nat.div_add_mod p m;by_cases h:p / m=k
 ·rw[d_ h,h];rw[h]at e;by_cases a:p % m=j
  ·rw[d_,d_ a]
  ·rw[b_,b_ a]
 ·rw[b_ h,b_ ?_];intro s;apply h;rw[s,Nat.add_comm,Nat.add_mul_div_left _ _ F,Nat.div_eq_of_lt d,G_]
theorem Gp(d:u=m*k+j:=by omega)(i:j+b<=m:=by omega) : ∀ p,p<M*m->bJ (dn m D) u b y p=dn m (wu D k (bJ (D k) j b y)) p:=fun p f=>by
 subst d;have s:0<m:=Nat.pos_of_ne_zero fun e=>by subst e; simp at f
 unfold bJ dn wu;have e:=Nat.div_add_mod p m;by_cases h:p / m=k
 ·rw[d_ h,h];rw[h]at e;by_cases a:j<=p % m/\p % m<j+b
  ·rw[d_,d_ a]; congr 1; omega
  ·rw[b_,b_ a]
 ·rw[b_ h,b_ ?_];rintro ⟨g,a⟩;apply h;have:p=(p-m*k)+m*k:=by omega
  rw[this,Nat.add_mul_div_left _ _ s,Nat.div_eq_of_lt (by omega),G_]
def iB(w:World)(a:Option Addr)(n s:Nat)(x:Nat->Value):Prop:=0<n -> ∃ b c,a=some ⟨b,c,none⟩/\jM w b c (n*s) x
section
variable {w w':World} {a:Option Addr} {n s:Nat} {x:Nat->Value}
theorem iB.up(h:iB w a n s x)(f:Below w.heap.size w w')(g:Nat.blt 0 s=true):iB w' a n s x:=fun c=>by
 obtain⟨b,j,e,d⟩:=h c;have i:0<s:=by simpa [Nat.blt_eq] using g
 exact⟨b,j,e,d.below f (d.lt (Nat.mul_pos c i))⟩
theorem iB.at(h:iB w a n s (dn s D))(f:k<n) : ∃ b c,a=some ⟨b,c,none⟩/\jM w b (c+s*k) s (D k):=by
 obtain⟨b,c,e,d⟩:=h (by omega);refine⟨b,c,e,fun i l => ?_⟩;have g:s*k+i<n*s:=by
  have j:(k+1)*s<=n*s:=Nat.mul_le_mul_right s f
  grind
 have:=d (s*k+i) g
 grind [eF]
theorem aY.oI{c:Nat}(h:aY w m E s (.slice a n c) n x):iB w a n s x:=fun b=>by
 obtain⟨g,cap,e,_,_,_,d⟩:=h.form b;simp only[Value.slice.injEq,true_and]at e;exact⟨g,0,e.1,d⟩
theorem aY.wz(h:aY w m E s (.slice a n k) n x)(b:0<n:=by omega) : ∃ g,a=some ⟨g,0,none⟩:=by
 obtain⟨g,cap,e,_⟩:=h.form b
 simp_all
end
def Ty(w:World)(g:Nat)(T:TypeId):Prop := ∃ c,w.heap[g]? = some (.cells c T (0,0))
theorem Ty.ne{w:World}{g d:Nat}{T b:TypeId}(h:Ty w g T)(a:Ty w d b)(ne:T≠b):g≠d:=fun e=>by
 subst e;obtain⟨c,h⟩:=h;obtain⟨f,a⟩:=a;rw[h]at a;simp only[Option.some.injEq,Obj.cells.injEq]at a;exact ne a.2.1
theorem aM.ty(w:aM h m k x T):Ty h m T:=⟨_,w⟩
theorem aY.ty(w:aY h k E b c j x)(a:c.ownBlock=some m):Ty h m E:=by
 rcases w.2 with ⟨rfl,_⟩|⟨g',cap,cur,rfl,hb,hgg,_⟩
 ·cases a
 simp only[Value.ownBlock,Option.some.injEq]at a; subst a;exact⟨_,hgg⟩
theorem aY.Wq(w:aY h b E j (.slice (some ⟨m,0,none⟩) k u) k x):Ty h m E:=w.ty rfl
structure jk(Ts:List TypeId)(w w':World):Prop where
 os:w'.os=w.os
 tape:w'.tape=w.tape
 output:w'.output=w.output
 size:w.heap.size<=w'.heap.size
 block : ∀ k,k<w.heap.size->(∀ T,Ty w k T->Ts.contains T=false)->w'.heap[k]? = w.heap[k]?
theorem Ty.only(w:Ty h k T)(b:Ty h k E):E=T:=by grind [Ty.ne]
section
variable {w w':World} {T:TypeId} {Ts:List TypeId}
theorem gJ(a:eG m w w')(d:Ty w m T):jk [T] w w':=⟨a.os,a.tape,a.output,a.size,fun k b c=>a.block k b fun e=>by
 grind⟩
theorem yc(a:w.grownBy w' c.ownBlock)(h:aY w m T k c b x):jk [T] w w':=⟨a.os,a.tape,a.output,a.size,fun B s v=>a.block B s fun e=>by
 have:=v _ (h.ty e.symm)
 simp_all⟩
theorem jk.jr(h:Below w.heap.size w w'):jk Ts w w':=⟨h.os,h.tape,h.output,h.size,fun k a _=>h.block k a⟩
theorem jk.aaL{S:Nat->Prop}(h:ko S w w')(c : ∀ k,S k -> ∃ T,Ty w k T/\Ts.contains T=true):jk Ts w w':=⟨h.os,h.tape,h.output,h.size,fun k a b=>h.block k a fun e=>by
 grind⟩
theorem vS(w:World):jk Ts w w:=⟨rfl,rfl,rfl,A_ _,fun _ _ _=>rfl⟩
theorem jk.trans(a b c:World)(h:jk Ts a b)(k:jk Ts b c):jk Ts a c:=⟨k.os.trans h.os,k.tape.trans h.tape,k.output.trans h.output,m_ h.size k.size,fun i d f =>
 have e:=h.block i d f
 (k.block i (n_ d h.size) fun T ⟨g,j⟩=>f T ⟨g,by simp_all⟩).trans e⟩
theorem aM.nA(h:aM w b m x T)(c:jk Ts w w')(e:Ts.contains T=false):aM w' b m x T:=(c.block b h.lt fun _ d=>by grind [Ty.only,h.ty]).trans h
theorem aY.nA(h:aY w m E k c b x)(s:jk Ts w w')(d:Ts.contains E=false):aY w' m E k c b x:=by
 refine⟨h.1,?_⟩
 rcases h.2 with a|⟨g,cap,cur,rfl,hb,hg,rest⟩
 ·simp_all
 exact .inr ⟨g,cap,cur,rfl,hb,(s.block g (t_.1 hg).1 fun _ B=>by rw[Ty.only ⟨_,hg⟩ B]; omega).trans hg,rest⟩
theorem aY.mono(h:aY w m E k c j x)(B:b<=m):aY w b E k c j x:=by
 refine⟨h.1,?_⟩
 rcases h.2 with a|⟨g,cap,cur,rfl,hb,rest⟩
 ·simp_all
 exact .inr ⟨g,cap,cur,rfl,m_ B hb,rest⟩
theorem aY.fE(h:aY w m E k c b x)(e:c=H):aY w m E k H b x:=by simp_all
end
section
variable {P:Program} {f:Nat->Value} {w:World} {o:Oper}
theorem Wu{d:IntKind}{q:Int}(g:o.op = .binOp .shr T p Y E)(hx:ev f p = .int K a)(hy:ev f Y = .int d b)(e:b<=K.bits:=by decide)(h:(2:Int)^b=q:=by decide):cB P f o w (.int K (a / q)):=by
 unfold cB execOp
 simp_all [binOp,shift_shr,sZ]
end
theorem cu(hx : ∀ j,j<k->(x j).oneCell'=true)(hy : ∀ j,j<m->(y j).oneCell'=true) : ∀ j,j<k->(bJ x b m y j).oneCell'=true:=fun j a=>by
 unfold bJ; split
 ·rename_i h; exact hy _ (by omega)
 ·exact hx j a
section
variable {P:Program} {f:Nat->Value} {w:World} {o:Oper}
theorem Qu(h:o.op = .index T p Y)(hx:ev f p = .agg (aA m y))(hi:ev f Y = .int K (j:Int))(b:P.underlying T=some (.array m E))(l:(P.info? E).map (·.size)=some 1)(hE:Uc P E=true)(a:j<m)(i:y j=c):cB P f o w c:=by
 subst i;obtain⟨z,x,e⟩:=Option.map_eq_some_iff.1 l;unfold cB execOp;simp only[h,hx,hi];unfold Uc at hE
 cases hq:P.underlying E with
 | none=>simp_all
 | some d =>
   rw[hq]at hE
   cases d <;> first
    | (cases hE; done)
    | (simp[Instr.index,asIntOf,underlying,b,sizeOf,typeInfo,x,e,part,isAgg,hq,jm y a]; omega)
    | simp[Instr.index,asIntOf,underlying,b,a,sizeOf,typeInfo,x,e,part,isAgg,hq,jm y a]
end
def Qw(F:Nat->Nat->Value)(y:Nat->Value)(n k:Nat):Nat->Nat->Value:=fun i=>if i<=k then(if i<n then F i else y)else F (i-1)
def Ov(F:Nat->Nat->Value)(k:Nat)(y:Nat->Value):Nat->Nat->Value:=fun i=>if i<k then F i else if i=k then y else F (i-1)
def dW{a:Type}(f:Nat->a)(k:Nat)(v:a):Nat->a:=fun i=>if i<k then f i else if i=k then v else f (i-1)
theorem HY(h:j<k)(a:k<=m:=by omega):Qw D y m k j=D j:=by grind [Qw]
theorem E9 : ∀ i,i<m+1 -> ∀ j:Nat,wu D m y i j=Qw D y m m i j:=fun i a j=>by
 unfold wu Qw;rw[d_ (show i<=m by omega)];by_cases h:i=m
 ·rw[d_ h,b_]
 ·rw[b_ h,d_]
theorem Jf(e:k=j+1)(_hk:k<=m) : ∀ i,i<m+1 -> ∀ q:Nat,wu (Qw D y m k) k (D j) i q=Qw D y m j i q:=fun i _ q=>by
 unfold wu Qw;by_cases h:i=k
 ·rw[d_ h,b_,show i-1=j by omega]
 ·rw[b_ h];by_cases a:i<=j
  ·rw[d_,d_ a]
  ·rw[b_,b_ a]
theorem Fa(b:k<=m) : ∀ i,i<m+1 -> ∀ q:Nat,wu (Qw D y m k) k y i q=Ov D k y i q:=fun i _ q=>by
 unfold wu Qw Ov;by_cases h:i=k
 ·rw[d_ h,b_,d_ h]
 ·rw[b_ h];by_cases a:i<k
  ·rw[d_,d_,d_ a]
  ·rw[b_,b_ a,b_ h]
def down(P:Nat->Bool):Nat->Nat
 | 0=>0
 | n+1=>if P n then down P n else n+1
theorem yF{P:Nat->Bool}{k:Nat} : ∀ {n:Nat},k<=n->(∀ i,k<=i->i<n->P i=true)->(k=0 \/ ∀ j,k=j+1->P j=false)->k=down P n
 | 0,h,_,_=>by grind [down]
 | n+1,h,h1,h2=>by
   unfold down;by_cases e:k=n+1
   ·simp_all
   ·rw[h1 n (by omega) (by omega),d_ rfl];exact yF (by omega) (fun i a b=>h1 i a (by omega)) h2
theorem CV(P:Nat->Bool) : ∀ n,down P n<=n
 | 0=>A_ _
 | n+1=>by
   unfold down; split
   ·have:=CV P n; omega
   omega
theorem Ow{P:Nat->Bool} : ∀ {n i:Nat},down P n<=i->i<n->P i=true
 | 0,_,_,h=>L_ h (z_ _)
 | n+1,i,h1,h2=>by
   unfold down at h1;split at h1
   ·rename_i hp;by_cases e:i=n
    ·simp_all
    ·exact Ow h1 (by omega)
   omega
theorem Ox{P:Nat->Bool} : ∀ {n j:Nat},down P n=j+1->P j=false
 | 0,_,h=>by grind [down]
 | n+1,j,h=>by
   unfold down at h;split at h
   ·exact Ox h
   simp_all
end Go.Proofs.YtabjalhnkndjaaaGreatDoor.Fx
namespace Go.Proofs.YtabjalhnkndjaaaGreatDoor
open Fx hiding E9 Fa HY Jf L R start
open Go.RowKit Fx
theorem Fx.jM.dr(w:jM h b m k x)(a : ∃ w',q=World.drewN h w'):jM q b m k x:=by obtain⟨w',rfl⟩:=a; exact w
theorem Fx.aM.cb(w:aM h m k x T)(a:Below h.heap.size h q):jM q m 0 k x:=w.aJ.below a w.lt
theorem Fx.aY.cb(w:aY h j E b (.slice (some ⟨k,0,none⟩) m u) m x)(a:Below h.heap.size h q):jM q k 0 (m*b) x:=w.aJ.below a w.lt
namespace Rt
abbrev av(x:Int):Value := .int .i64 x
abbrev aG(x:Int):Value := .int .u64 x
abbrev zL0:Nat->Value:=fun a=>if a<12 then .bool false else if a<18 then aG 0 else if a<20 then .slice none 0 0 else if a<21 then .pointer none else .slice none 0 0
abbrev zJ0:Nat->Value:=fun a=>if a<2 then aG 0 else av 0
abbrev zR0:Nat->Value:=fun a=>if a<1 then av 0 else if a<3 then aG 0 else if a<4 then av 0 else aG 0
abbrev zQ0:Nat->Value:=fun a=>if a<1 then av 0 else if a<8 then aG 0 else if a<9 then .int .u8 (0)else if a<10 then aG 0 else if a<12 then av 0 else aG 0
abbrev zS0:Nat->Value:=fun a=>if a<1 then av 0 else aG 0
abbrev zP0:Nat->Value:=fun a=>if a<12 then .bool false else if a<18 then aG 0 else .slice none 0 0
abbrev zK0:Nat->Value:=fun a=>if a<2 then .int .u64 (0)else .int .i64 (0)
abbrev zT0:Nat->Value:=fun a=>if a<1 then .int .i64 (0)else if a<3 then .int .u64 (0)else if a<4 then .int .i64 (0)else .int .u64 (0)
theorem Kvq(h:(List.range m).map x=(List.range m).map y):∀ j,j<m->x j=y j:=fun j hj=>by
 have:=congrArg (fun l=>l[j]?) h;simpa [hj] using this
abbrev aH:Value := .bool true
abbrev aD:Value := .bool false
def uL(o:Oper):Operand:=match o.op with
 | .move x | .assign x | .nilCheck x | .load _ x | .extract x _ | .unOp _ _ x | .convert _ _ x | .fieldAddr _ x _ | .indexAddr _ x _ | .binOp _ _ x _ _ | .store _ x _ | .box _ x=>x
 | _ => .tmp 0
def BN(o:Oper):Operand:=match o.op with
 | .indexAddr _ _ y | .binOp _ _ _ y _ | .store _ _ y=>y
 | _ => .tmp 0
def Uh(o:Oper):TypeId:=match o.op with
 | .load t _ | .fieldAddr t _ _ | .indexAddr t _ _ | .store t _ _ | .box t _ | .alloc t=>t
 | _=>0
def YB(o:Oper):Bool:=match o.op with | .move _ | .assign _=>true|_=>false
def agJ(o:Oper):Bool:=match o.op with | .load .. => true|_=>false
def agK(o:Oper):Bool:=match o.op with | .indexAddr .. => true|_=>false
def YC(o:Oper):Bool:=match o.op with | .store .. => true|_=>false
def Iy(b:BinOp)(o:Oper):Bool:=match o.op with | .binOp c _ _ _ _=>(match b,c with | .add,.add | .sub,.sub | .mul,.mul | .lss,.lss | .leq,.leq | .gtr,.gtr | .geq,.geq | .eql,.eql | .neq,.neq=>true|_,_=>false)|_=>false
section
variable {P:Program} {n:Nat} {Q:kR} {f:Nat->Value} {w:World} {ops:Array Oper} {rest:List Oper} {o:Oper} {v:Value}
theorem agL(h:YB o=true):o.op = .move (uL o)\/o.op = .assign (uL o):=by
 unfold YB at h; unfold uL; split at h <;> simp_all
theorem Wv(h:agJ o=true):o.op = .load (Uh o) (uL o):=by
 unfold agJ at h; unfold uL Uh; split at h <;> simp_all
theorem Ww(h:agK o=true):o.op = .indexAddr (Uh o) (uL o) (BN o):=by
 unfold agK at h; unfold uL Uh BN; split at h <;> simp_all
theorem Jg(h:YC o=true):o.op = .store (Uh o) (uL o) (BN o):=by
 unfold YC at h; unfold uL Uh BN; split at h <;> simp_all
theorem rz{b:BinOp}(h:Iy b o=true) : ∃ T a,o.op = .binOp b T (uL o) (BN o) a:=by
 unfold Iy at h; unfold uL BN;split at h
 ·rename_i c T x y a e;rw[e];split at h <;> first|exact⟨_,_,rfl⟩|cases h
 cases h
theorem Kxm(hx:ev f (uL o)=v)(a:YB o=true:=by kernel_rfl):cB P f o w v:=by
 rcases agL a with h|h
 ·exact iJ h hx
 exact fG h hx
theorem aR{p:Nat}(c:jM w b k m x)(i:Nat)(g:x i=v:=by exact rfl)(ha:ev f (uL o) = .pointer (some ⟨b,p,none⟩):=by exact rfl)(d:p=k+i:=by omega)(hi:i<m:=by omega)(e:agJ o=true:=by kernel_rfl)(a:Uc P (Uh o)=true:=by kernel_rfl):cB P f o w v :=
 bE (Wv e) ha a c hi d g
theorem dZ{p:Nat}(c:jM w b j m x)(i:Nat)(hy : ∀ s,s<k->x (i+s)=y s:=by intro s _; rw[G_])(ha:ev f (uL o) = .pointer (some ⟨b,p,none⟩):=by exact rfl)(d:p=j+i:=by omega)(hi:i+k<=m:=by omega)(e:agJ o=true:=by kernel_rfl)(a:JV P (Uh o)=true:=by kernel_rfl)(g:(P.info? (Uh o)).map (·.size)=some k:=by kernel_rfl):cB P f o w (.agg (aA k y)) :=
 eB (Wv e) ha a g c hi d hy
def elS(P:Program)(T:TypeId):Option Nat:=match P.underlying T with|some (.slice E)=>(P.info? E).map (·.size)|_=>none
def elA(P:Program)(T:TypeId):Option (Nat × Nat):=match P.underlying T with|some (.array m E)=>(P.info? E).map fun i=>(m,i.size)|_=>none
theorem fC(s:Nat)(hx:ev f (uL o) = .slice (some ⟨b,m,none⟩) u M:=by exact rfl)(hi:ev f (BN o) = .int K a:=by exact rfl)(d:0<=a:=by omega)(h1:a<(u:Int):=by omega)(g:m+a.toNat*s=k:=by omega)(h:agK o=true:=by kernel_rfl)(j:elS P (Uh o)=some s:=by kernel_rfl):cB P f o w (.pointer (some ⟨b,k,none⟩)):=by
 unfold elS at j;split at j
 ·rename_i E e; exact fQ (Ww h) hx hi e j d h1 g
 cases j
theorem jh(off s:Nat)(hx:ev f (uL o) = .pointer (some ⟨b,m,none⟩):=by exact rfl)(hi:ev f (BN o) = .int K a:=by exact rfl)(d:0<=a:=by omega)(h1:a<(off:Int):=by omega)(g:m+a.toNat*s=k:=by omega)(h:agK o=true:=by kernel_rfl)(j:elA P (Uh o)=some (off,s):=by kernel_rfl):cB P f o w (.pointer (some ⟨b,k,none⟩)):=by
 unfold elA at j;split at j
 ·rename_i m' E e;obtain⟨z,i,l⟩:=Option.map_eq_some_iff.1 j;obtain⟨rfl,rfl⟩:=Prod.mk.inj l;exact iH (Ww h) hx hi e (by rw[i]; rfl) d h1 g
 cases j
section
variable {k:IntKind} {a b c:Int}
theorem gu(hx:ev f (uL o) = .int k a:=by exact rfl)(hy:ev f (BN o) = .int k b:=by exact rfl)(d:k.wrap (a+b)=c:=by first|exact jN (by omega) (by omega)|exact jO (by omega) (by omega))(e:Iy .add o=true:=by kernel_rfl):cB P f o w (.int k c):=by
 obtain⟨T,g,h⟩:=rz e; exact aax h hx hy d
theorem jK(hx:ev f (uL o) = .int k a:=by exact rfl)(hy:ev f (BN o) = .int k b:=by exact rfl)(d:k.wrap (a-b)=c:=by first|exact jN (by omega) (by omega)|exact jO (by omega) (by omega))(e:Iy .sub o=true:=by kernel_rfl):cB P f o w (.int k c):=by
 obtain⟨T,g,h⟩:=rz e; exact akl h hx hy d
theorem fK(h:a<b)(hx:ev f (uL o) = .int k a:=by exact rfl)(hy:ev f (BN o) = .int k b:=by exact rfl)(c:Iy .lss o=true:=by kernel_rfl):cB P f o w (.bool true):=by
 obtain⟨T,d,e⟩:=rz c; exact alP e hx hy h
theorem fM(h : ¬ a<b)(hx:ev f (uL o) = .int k a:=by exact rfl)(hy:ev f (BN o) = .int k b:=by exact rfl)(c:Iy .lss o=true:=by kernel_rfl):cB P f o w (.bool false):=by
 obtain⟨T,d,e⟩:=rz c; exact alQ e hx hy h
theorem xq(h:a<=b)(hx:ev f (uL o) = .int k a:=by exact rfl)(hy:ev f (BN o) = .int k b:=by exact rfl)(c:Iy .leq o=true:=by kernel_rfl):cB P f o w (.bool true):=by
 obtain⟨T,d,e⟩:=rz c; exact alR e hx hy h
theorem yg(h : ¬ a<=b)(hx:ev f (uL o) = .int k a:=by exact rfl)(hy:ev f (BN o) = .int k b:=by exact rfl)(c:Iy .leq o=true:=by kernel_rfl):cB P f o w (.bool false):=by
 obtain⟨T,d,e⟩:=rz c; exact jR e hx hy h
theorem lK(h:b<a)(hx:ev f (uL o) = .int k a:=by exact rfl)(hy:ev f (BN o) = .int k b:=by exact rfl)(c:Iy .gtr o=true:=by kernel_rfl):cB P f o w (.bool true):=by
 obtain⟨T,d,e⟩:=rz c; exact alS e hx hy h
theorem lM(h : ¬ b<a)(hx:ev f (uL o) = .int k a:=by exact rfl)(hy:ev f (BN o) = .int k b:=by exact rfl)(c:Iy .gtr o=true:=by kernel_rfl):cB P f o w (.bool false):=by
 obtain⟨T,d,e⟩:=rz c; exact jI e hx hy h
theorem mW(h:b<=a)(hx:ev f (uL o) = .int k a:=by exact rfl)(hy:ev f (BN o) = .int k b:=by exact rfl)(c:Iy .geq o=true:=by kernel_rfl):cB P f o w (.bool true):=by
 obtain⟨T,d,e⟩:=rz c; exact alT e hx hy h
theorem mM(h : ¬ b<=a)(hx:ev f (uL o) = .int k a:=by exact rfl)(hy:ev f (BN o) = .int k b:=by exact rfl)(c:Iy .geq o=true:=by kernel_rfl):cB P f o w (.bool false):=by
 obtain⟨T,d,e⟩:=rz c; exact alU e hx hy h
theorem gU(h:a=b)(hx:ev f (uL o) = .int k a:=by exact rfl)(hy:ev f (BN o) = .int k b:=by exact rfl)(c:Iy .eql o=true:=by kernel_rfl):cB P f o w (.bool true):=by
 obtain⟨T,d,e⟩:=rz c; exact jS e hx hy h
theorem gX(h : ¬ a=b)(hx:ev f (uL o) = .int k a:=by exact rfl)(hy:ev f (BN o) = .int k b:=by exact rfl)(c:Iy .eql o=true:=by kernel_rfl):cB P f o w (.bool false):=by
 obtain⟨T,d,e⟩:=rz c; exact jT e hx hy h
theorem mO(h : ¬ a=b)(hx:ev f (uL o) = .int k a:=by exact rfl)(hy:ev f (BN o) = .int k b:=by exact rfl)(c:Iy .neq o=true:=by kernel_rfl):cB P f o w (.bool true):=by
 obtain⟨T,d,e⟩:=rz c; exact alV e hx hy h
theorem kr(h:a=b:=by rfl)(hx:ev f (uL o) = .int k a:=by exact rfl)(hy:ev f (BN o) = .int k b:=by exact rfl)(c:Iy .neq o=true:=by kernel_rfl):cB P f o w (.bool false):=by
 obtain⟨T,d,e⟩:=rz c; exact alW e hx hy h
theorem Wy(hx:ev f (uL o) = .int k a:=by exact rfl)(hy:ev f (BN o) = .int k b:=by exact rfl)(h:a<b:=by omega)(c:Iy .lss o=true:=by kernel_rfl):cB P f o w (.bool true):=fK h hx hy c
theorem DV(hx:ev f (uL o) = .int k a:=by exact rfl)(hy:ev f (BN o) = .int k b:=by exact rfl)(h : ¬ a<b:=by omega)(c:Iy .lss o=true:=by kernel_rfl):cB P f o w (.bool false):=fM h hx hy c
theorem aqW(hx:ev f (uL o) = .int k a:=by exact rfl)(hy:ev f (BN o) = .int k b:=by exact rfl)(h:a<=b:=by omega)(c:Iy .leq o=true:=by kernel_rfl):cB P f o w (.bool true):=xq h hx hy c
theorem aaM(hx:ev f (uL o) = .int k a:=by exact rfl)(hy:ev f (BN o) = .int k b:=by exact rfl)(h:b<a:=by omega)(c:Iy .gtr o=true:=by kernel_rfl):cB P f o w (.bool true):=lK h hx hy c
theorem Fb(hx:ev f (uL o) = .int k a:=by exact rfl)(hy:ev f (BN o) = .int k b:=by exact rfl)(h : ¬ b<a:=by omega)(c:Iy .gtr o=true:=by kernel_rfl):cB P f o w (.bool false):=lM h hx hy c
theorem Qx(hx:ev f (uL o) = .int k a:=by exact rfl)(hy:ev f (BN o) = .int k b:=by exact rfl)(h : ¬ b<=a:=by omega)(c:Iy .geq o=true:=by kernel_rfl):cB P f o w (.bool false):=mM h hx hy c
theorem Qy(hx:ev f (uL o) = .int k a:=by exact rfl)(hy:ev f (BN o) = .int k b:=by exact rfl)(h:a=b:=by omega)(c:Iy .eql o=true:=by kernel_rfl):cB P f o w (.bool true):=gU h hx hy c
theorem Qz(hx:ev f (uL o) = .int k a:=by exact rfl)(hy:ev f (BN o) = .int k b:=by exact rfl)(h : ¬ a=b:=by omega)(c:Iy .eql o=true:=by kernel_rfl):cB P f o w (.bool false):=gX h hx hy c
theorem Wz(hx:ev f (uL o) = .int k a:=by exact rfl)(hy:ev f (BN o) = .int k b:=by exact rfl)(h:a=b:=by omega)(c:Iy .neq o=true:=by kernel_rfl):cB P f o w (.bool false):=kr h hx hy c
end
theorem au(v:Value)(h:L P n ops Q rest (put f o.dst v) w)(hr:(execOp (ev f) o).run P w = .ok (.value v) w:=by kernel_rfl)(b:Region.wanted o (yf ops f)=true:=by rfl)(a:dF n o.dst=true:=by rfl):L P n ops Q (o::rest) f w:=L.val b hr a h
theorem bA(hx:ev f (uL o)=v)(h:L P n ops Q rest (put f o.dst v) w)(b:YB o=true:=by kernel_rfl)(c:Region.wanted o (yf ops f)=true:=by rfl)(a:dF n o.dst=true:=by rfl):L P n ops Q (o::rest) f w:=L.val c (Kxm hx b) a h
theorem bf(h:L P n ops Q rest (put f o.dst undef) w)(b:Region.wanted o (yf ops f)=false:=by rfl)(a:dF n o.dst=true:=by rfl):L P n ops Q (o::rest) f w:=Lk b a h
theorem bD{C:World->Prop}{R:(Nat->Value)->Prop}(h:Qt P n ops C R rest (put f o.dst undef))(b:Region.wanted o (yf ops f)=false:=by rfl)(a:dF n o.dst=true:=by rfl):Qt P n ops C R (o::rest) f:=Qs b a h
theorem iL{C:World->Prop}{R:(Nat->Value)->Prop}(hx:ev f (uL o)=v)(h:Qt P n ops C R rest (put f o.dst v))(b:YB o=true:=by kernel_rfl)(c:Region.wanted o (yf ops f)=true:=by rfl)(a:dF n o.dst=true:=by rfl):Qt P n ops C R (o::rest) f:=Qt.val c (fun _ _=>Kxm hx b) a h
section
variable {g:FuncId} {ax:Array Value}
theorem lX{K:Ending->World->Prop}(b:Calls P g ax w K)(h : ∀ e w',K e w' -> ∃ v,e = .returned v/\L P n ops Q rest (put f o.dst v) w')(hr:(execOp (ev f) o).run P w = .ok (.enter g ax) w:=by kernel_rfl)(c:Region.wanted o (yf ops f)=true:=by rfl)(a:dF n o.dst=true:=by rfl):L P n ops Q (o::rest) f w:=zW c hr a (b.mono h)
theorem dO{K:World->Prop}(c:Calls P g ax w fun e w'=>e = .returned H/\K w')(v:Value)(d:H=v)(h : ∀ w',K w'->L P n ops Q rest (put f o.dst v) w')(hr:(execOp (ev f) o).run P w = .ok (.enter g ax) w:=by kernel_rfl)(i:Region.wanted o (yf ops f)=true:=by rfl)(b:dF n o.dst=true:=by rfl):L P n ops Q (o::rest) f w :=
 lX c (fun _ w' a=>⟨v,by rw[a.1,d],h w' a.2⟩) hr i b
theorem mX(u:Calls P g ax w fun e w'=>e = .returned c/\w'=w)(v:Value)(d:c=v)(h:L P n ops Q rest (put f o.dst v) w)(hr:(execOp (ev f) o).run P w = .ok (.enter g ax) w:=by kernel_rfl)(i:Region.wanted o (yf ops f)=true:=by rfl)(b:dF n o.dst=true:=by rfl):L P n ops Q (o::rest) f w :=
 lX u (fun _ w' a=>⟨v,by rw[a.1,d],a.2 ▸ h⟩) hr i b
theorem BA{C:World->Prop}{R:(Nat->Value)->Prop}(d : ∀ w,C w->Calls P g ax w fun e w'=>e = .returned c/\w'=w)(v:Value)(i:c=v)(h:Qt P n ops C R rest (put f o.dst v))(hr:(fun w=>(execOp (ev f) o).run P w)=(fun w => .ok (.enter g ax) w):=by kernel_rfl)(j:Region.wanted o (yf ops f)=true:=by rfl)(u:dF n o.dst=true:=by rfl):Qt P n ops C R (o::rest) f :=
 ET j (fun w _=>congrFun hr w) u (fun w b=>(d w b).mono fun _ _ a=>⟨by rw[a.1,i],by rw[a.2]; exact b⟩) h
theorem zo{R:(Nat->Value)->Prop}(d : ∀ w,Below h.heap.size h w->Calls P g ax w fun e w'=>e = .returned c/\Below w.heap.size w w')(v:Value)(i:c=v)(w0:Qt P n ops (fun w=>Below h.heap.size h w) R rest (put f o.dst v))(hr:(fun w=>(execOp (ev f) o).run P w)=(fun w => .ok (.enter g ax) w):=by kernel_rfl)(j:Region.wanted o (yf ops f)=true:=by rfl)(u:dF n o.dst=true:=by rfl):Qt P n ops (fun w=>Below h.heap.size h w) R (o::rest) f :=
 ET j (fun w _=>congrFun hr w) u (fun w b=>(d w b).mono fun _ _ a=>⟨by rw[a.1,i],Oj b a.2⟩) w0
end
theorem oq(h : ∀ g w',g=w.heap.size->aM w' g m y T->eG w.heap.size w w'->w'.heap.size=w.heap.size+1->L P n ops Q rest (put f o.dst (.pointer (some ⟨g,0,none⟩))) w')(b:o.op = .box T (uL o):=by exact rfl)(hx:ev f (uL o) = .agg (aA m y):=by exact rfl)(c:Region.wanted o (yf ops f)=true:=by rfl)(a:dF n o.dst=true:=by rfl):L P n ops Q (o::rest) f w:=Ga c b hx (bM _ _) a h
theorem Ej(v:Value)(h : ∀ g w',g=w.heap.size->aM w' g 1 (fun _=>v) T->eG w.heap.size w w'->w'.heap.size=w.heap.size+1->L P n ops Q rest (put f o.dst (.pointer (some ⟨g,0,none⟩))) w')(b:o.op = .box T (uL o):=by exact rfl)(hx:ev f (uL o)=v:=by exact rfl)(c:v.oneCell'=true:=by exact rfl)(d:Region.wanted o (yf ops f)=true:=by rfl)(a:dF n o.dst=true:=by rfl):L P n ops Q (o::rest) f w:=Ga d b hx (bG c) a h
theorem oJ(m:Nat)(y:Nat->Value)(h : ∀ g w',g=w.heap.size->aM w' g m y T->eG w.heap.size w w'->w'.heap.size=w.heap.size+1->L P n ops Q rest (put f o.dst (.pointer (some ⟨g,0,none⟩))) w')(b:o.op = .alloc T:=by exact rfl)(d:((P.info? T).bind (·.zero)).map (·.cells)=some (aA m y):=by kernel_rfl)(c:Region.wanted o (yf ops f)=true:=by rfl)(a:dF n o.dst=true:=by rfl):L P n ops Q (o::rest) f w:=DR c b d a h
section
variable {TB E:TypeId} {g m B s k cap c:Nat} {x y:Nat->Value}
theorem jf(b:aM w g m x TB)(i:Nat)(u:Value)(h : ∀ w',aM w' g m (dN x i u) TB->eG g w w'->w'.heap.size=w.heap.size->L P n ops Q rest f w')(ha:ev f (uL o) = .pointer (some ⟨g,i,none⟩):=by exact rfl)(e:ev f (BN o)=u:=by exact rfl)(h1:u.oneCell'=true:=by exact rfl)(hi:i<m:=by omega)(d:YC o=true:=by kernel_rfl)(a:(P.info? (Uh o)).map (·.size)=some 1:=by kernel_rfl)(c:o.dst=none:=by exact rfl)(j:Region.wanted o (yf ops f)=true:=by rfl):L P n ops Q (o::rest) f w:=L.Om j c (Jg d) ha e h1 a b hi h
theorem dY(b:aM w g m x TB)(i:Nat)(h : ∀ w',aM w' g m (bJ x i s y) TB->eG g w w'->w'.heap.size=w.heap.size->L P n ops Q rest f w')(ha:ev f (uL o) = .pointer (some ⟨g,i,none⟩):=by exact rfl)(e:ev f (BN o) = .agg (aA s y):=by exact rfl)(h1 : ∀ j,j<s->(y j).oneCell'=true:=by exact fun _ _=>rfl)(hi:i+s<=m:=by omega)(d:YC o=true:=by kernel_rfl)(a:(P.info? (Uh o)).map (·.size)=some s:=by kernel_rfl)(c:o.dst=none:=by exact rfl)(k:Region.wanted o (yf ops f)=true:=by rfl):L P n ops Q (o::rest) f w:=L.aaB k c (Jg d) ha e h1 a b hi h
theorem Gb(b:aY w B E s (.slice (some ⟨g,0,none⟩) k cap) k x)(i:Nat)(u:Value)(h : ∀ w',aY w' B E s (.slice (some ⟨g,0,none⟩) k cap) k (dN x i u)->eG g w w'->w'.heap.size=w.heap.size->L P n ops Q rest f w')(ha:ev f (uL o) = .pointer (some ⟨g,i,none⟩):=by exact rfl)(e:ev f (BN o)=u:=by exact rfl)(h1:u.oneCell'=true:=by exact rfl)(hi:i<k*s:=by omega)(d:YC o=true:=by kernel_rfl)(a:(P.info? (Uh o)).map (·.size)=some 1:=by kernel_rfl)(c:o.dst=none:=by exact rfl)(j:Region.wanted o (yf ops f)=true:=by rfl):L P n ops Q (o::rest) f w:=L.axV j c (Jg d) ha e h1 a b hi h
theorem L6(b:aY w B E s (.slice (some ⟨g,0,none⟩) k cap) k x)(i:Nat)(h : ∀ w',aY w' B E s (.slice (some ⟨g,0,none⟩) k cap) k (bJ x i c y)->eG g w w'->w'.heap.size=w.heap.size->L P n ops Q rest f w')(ha:ev f (uL o) = .pointer (some ⟨g,i,none⟩):=by exact rfl)(l:ev f (BN o) = .agg (aA c y):=by exact rfl)(h1 : ∀ j,j<c->(y j).oneCell'=true:=by exact fun _ _=>rfl)(hi:i+c<=k*s:=by omega)(e:YC o=true:=by kernel_rfl)(a:(P.info? (Uh o)).map (·.size)=some c:=by kernel_rfl)(d:o.dst=none:=by exact rfl)(m:Region.wanted o (yf ops f)=true:=by rfl):L P n ops Q (o::rest) f w:=L.axW m d (Jg e) ha l h1 a b hi h
end
theorem rA(h:Qt P n s.toArray (fun w'=>Below w.heap.size w w') (fun a => ∀ w',Below w.heap.size w w'->Q .normal a w') s f)(c:P.follows .mixedOrders=true:=by kernel_rfl)(b:Region.lexB .any s.toArray=true:=by kernel_rfl):W P n (.region m s.toArray true) Q f w:=W.quiet _ c b (Below.refl _ _).drew h
theorem zu(h:Qt P n s.toArray (fun w' => ∃ q,w'=World.drewN w q) (fun a => ∀ w',(∃ q,w'=World.drewN w q)->Q .normal a w') s f)(c:P.follows .mixedOrders=true:=by kernel_rfl)(b:Region.lexB .any s.toArray=true:=by kernel_rfl):W P n (.region m s.toArray true) Q f w:=W.quiet _ c b ⟨1,rfl⟩ h
theorem Oy{R:(Nat->Value)->Prop}(v:Value)(h:St P n ops w R rest (put f o.dst v))(hr:(execOp (ev f) o).run P w = .ok (.value v) w:=by kernel_rfl)(b:Region.wanted o (yf ops f)=true:=by rfl)(a:dF n o.dst=true:=by rfl):St P n ops w R (o::rest) f:=St.val b hr a h
theorem bI{C:World->Prop}{R:(Nat->Value)->Prop}(v:Value)(h:Qt P n ops C R rest (put f o.dst v))(hr:(fun w=>(execOp (ev f) o).run P w)=(fun w => .ok (.value v) w):=by kernel_rfl)(b:Region.wanted o (yf ops f)=true:=by rfl)(a:dF n o.dst=true:=by rfl):Qt P n ops C R (o::rest) f:=Qt.val b (fun w _=>congrFun hr w) a h
end
section
variable {P:Program} {n:Nat} {ops:List Oper} {cs:List Nat} {S:World->World->Prop} {Q:kR} {f:Nat->Value} {w:World} {i:Nat} {l:List Nat}
theorem aS(v:Value)(h:R P n ops cs S Q l (put f (bH ops i).dst v) w)(hr:(fun w=>(execOp (ev f) (bH ops i)).run P w)=(fun w => .ok (.value v) w):=by kernel_rfl)(b:Region.wanted (bH ops i) (yf ops.toArray f)=true:=by rfl)(a:Nat.beq (cs.getD i 3) 0=true:=by rfl):R P n ops cs S Q (i::l) f w:=R.pure b a (fun w=>congrFun hr w) h
theorem eZ(hx:ev f (uL (bH ops i))=c)(h:R P n ops cs S Q l (put f (bH ops i).dst c) w)(b:YB (bH ops i)=true:=by kernel_rfl)(v:Region.wanted (bH ops i) (yf ops.toArray f)=true:=by rfl)(a:Nat.beq (cs.getD i 3) 0=true:=by rfl):R P n ops cs S Q (i::l) f w:=R.pure v a (fun _=>Kxm hx b) h
theorem jP(h:L P n ops.toArray (fun _ a w'=>R P n ops cs S Q l a w') [bH ops i] f w)(b:Nat.beq (cs.getD i 3) 3=true:=by rfl):R P n ops cs S Q (i::l) f w:=R.ru b h
theorem mF(h:L P n ops.toArray (fun _ a w'=>S w w'/\R P n ops cs S Q l a w') [bH ops i] f w)(b:Nat.beq (cs.getD i 3) 2=true:=by rfl):R P n ops cs S Q (i::l) f w:=R.make b h
end
section
variable {P:Program} {n:Nat} {Q:kR} {f:Nat->Value} {w:World} {ops:Array Oper} {c:Operand} {x y:Code}
theorem aP(h:W P n x Q f w)(a:ev f c = .bool true:=by exact rfl):W P n (.cond c x y) Q f w:=Wc a (fun _=>h) (fun h=>nomatch h)
theorem aL(h:W P n y Q f w)(a:ev f c = .bool false:=by exact rfl):W P n (.cond c x y) Q f w:=Wc a (fun h=>nomatch h) (fun _=>h)
theorem ay(h:L P n s.toArray (Ub P n y Q) s f w):W P n (.seq (.region m s.toArray false) y) Q f w:=aQ (Wl h)
theorem aC(h:W P n y Q f w):L P n ops (Ub P n y Q) [] f w:=h
theorem dJ{S:World->World->Prop}(h:W P n y Q f w):R P n s Z S (Ub P n y Q) [] f w:=h
theorem aK{a:Func}{K:Ending->World->Prop}(v:Value)(h:K (.returned v) w)(hr:(Dt a f).run P w = .ok v w:=by kernel_rfl):alO P a K .ret f w:=⟨v,hr,h⟩
theorem bX{a:Func}{K:Ending->World->Prop}(d:P.funcs[e]? = some a)(n:Nat)(h:W P n A (alO P a K) (Fx.start U) w)(b:a.body=some A:=by exact rfl)(ax:a.ntmps=n:=by exact rfl)(ha:Nat.ble U.size n=true:=by exact rfl):Calls P e U w K:=enter d b ax ha h
theorem nP(l:List Nat)(cs:List Nat)(bR:List (Nat × Nat × List Nat))(h : ∀ w1,Below w.heap.size w w1->w1.heap.size=w.heap.size->R P n s cs Mk Q l f w1)(a:P.follows .mixedOrders=true:=by kernel_rfl)(b:nT n s=true:=by kernel_rfl)(e:Region.noSelect s.toArray=true:=by kernel_rfl)(c:Af s l=true:=by kernel_rfl)(d:Ae s cs bR l=true:=by kernel_rfl):W P n (.region m s.toArray true) Q f w:=W.nC l cs Mk mE Mk.trans bR a b e c d h
end
def fdO(P:Program)(o:Oper):Option Nat:=match o.op with
 | .fieldAddr S _ i=>(match P.underlying S with|some (.struct fs)=>(match fs[i]? with|some fd=>(match P.info? fd.type with|some z=>bif Nat.beq z.size 0 then none else some fd.offset|none=>none)|none=>none)|_=>none)
 | _=>none
theorem iO(hx:ev y (uL Q) = .pointer (some ⟨b,m,none⟩))(d:Nat)(a:fdO P Q=some d:=by kernel_rfl)(o:m+d=k:=by first|exact rfl|omega):cB P y Q h (.pointer (some ⟨b,k,none⟩)):=by
 unfold fdO at a;split at a
 ·rename_i S x i e;have g:uL Q=x:=by unfold uL; rw[e]
  split at a
  ·rename_i fs es;split at a
   ·rename_i fd ef;split at a
    ·rename_i z ez
     cases h0:Nat.beq z.size 0
     ·rw[h0]at a;have:fd.offset=d:=C_ a;subst this;exact iG e (g ▸ hx) es ef (by rw[ez]; rfl) h0 o
     rw[h0]at a; cases a
    cases a
   cases a
  cases a
 cases a
theorem KqE(a:Region.wanted Q (yf V x)=true:=by kernel_rfl)(w:(fun h=>(execOp (ev x) Q).run P h)=(fun h => .ok (.value c) h):=by kernel_rfl):(if Region.wanted Q (yf V x)then QB P (ev x) Q h c else N):=by rw[d_ a]; exact qbV fun w1 _=>congrFun w w1
theorem QL(v:Value)(f : ∀ w1,Below h.heap.size h w1->cB P x Q w1 v)(b:Region.wanted Q (yf V x)=true:=by kernel_rfl)(e:c=v:=by kernel_rfl):(if Region.wanted Q (yf V x)then QB P (ev x) Q h c else N):=by rw[d_ b,e]; exact qbV f
theorem iR{w':World}(B:Below q.heap.size q w')(b:Below m h q)(a:m<=h.heap.size):Below m h w':=b.trans (B.mono (m_ a b.size))
theorem gD(e:k=b)(h:m<b):m≠k:=by omega
theorem gQ(e:k=b)(h:m<=b):m<=k:=by omega
theorem iy(e:m=k):k<=m:=by omega
class Tr (w w':World) (A:Prop) (B:outParam Prop):Prop where tr:Below w.heap.size w w'->A->B
class Tc (Ts:List TypeId) (w w':World) (A:Prop) (B:outParam Prop) (c:outParam Bool):Prop where tc:jk Ts w w'->A->c=true->B
section
variable {w w':World} {Ts:List TypeId}
instance {g n:Nat} {x:Nat->Value} {T:TypeId}:Tr w w' (aM w g n x T) (aM w' g n x T):=⟨fun b h=>h.cK (Sb b) (u_ h.lt)⟩
instance {g o n:Nat} {x:Nat->Value}:Tr w w' (jM w g o n x) (jM w' g o n x):=⟨fun b h i a=>(h.below b (h.lt (by omega))) i a⟩
instance {B:Nat} {E:TypeId} {s n:Nat} {v:Value} {x:Nat->Value}:Tr w w' (aY w B E s v n x) (aY w' B E s v n x):=⟨fun b h=>h.up b⟩
instance {w0:World}:Tr w w' (Below w0.heap.size w0 w) (Below w0.heap.size w0 w'):=⟨fun h b=>iR h b (A_ _)⟩
instance {g n:Nat} {x:Nat->Value} {T:TypeId}:Tc Ts w w' (aM w g n x T) (aM w' g n x T) (!Ts.contains T):=⟨fun b h e=>h.nA b (by simpa using e)⟩
instance {B:Nat} {E:TypeId} {s n:Nat} {v:Value} {x:Nat->Value}:Tc Ts w w' (aY w B E s v n x) (aY w' B E s v n x) (!Ts.contains E):=⟨fun b h e=>h.nA b (by simpa using e)⟩
theorem LB{b:Bool}(h:(z&&b)=true):z=true:=(Q_ z b ▸ h).1
theorem Ol{a:Bool}(h:(a&&z)=true):z=true:=(Q_ a z ▸ h).2
section
variable {A0 B0 A1 B1 A2 B2 A3 B3 A4 B4 A5 B5 A6 B6 A7 B7 A8 B8 A9 B9 A10 B10 A11 B11 A12 B12 A13 B13 A14 B14 A15 B15:Prop} [Tr w w' A0 B0] [Tr w w' A1 B1] [Tr w w' A2 B2] [Tr w w' A3 B3] [Tr w w' A4 B4] [Tr w w' A5 B5] [Tr w w' A6 B6] [Tr w w' A7 B7] [Tr w w' A8 B8] [Tr w w' A9 B9] [Tr w w' A10 B10] [Tr w w' A11 B11] [Tr w w' A12 B12] [Tr w w' A13 B13] [Tr w w' A14 B14] [Tr w w' A15 B15] (hS:Below w.heap.size w w')
include hS
theorem bL(a0:A0):B0:=Tr.tr hS a0
theorem fB(a0:A0)(a1:A1):B0/\B1:=⟨Tr.tr hS a0,bL hS a1⟩
theorem iP(a0:A0)(a1:A1)(a2:A2):B0/\B1/\B2:=⟨Tr.tr hS a0,fB hS a1 a2⟩
theorem jv(a0:A0)(a1:A1)(a2:A2)(a3:A3):B0/\B1/\B2/\B3:=⟨Tr.tr hS a0,iP hS a1 a2 a3⟩
theorem oK(a0:A0)(a1:A1)(a2:A2)(a3:A3)(a4:A4):B0/\B1/\B2/\B3/\B4:=⟨Tr.tr hS a0,jv hS a1 a2 a3 a4⟩
theorem oL(a0:A0)(a1:A1)(a2:A2)(a3:A3)(a4:A4)(a5:A5):B0/\B1/\B2/\B3/\B4/\B5:=⟨Tr.tr hS a0,oK hS a1 a2 a3 a4 a5⟩
theorem kU(a0:A0)(a1:A1)(a2:A2)(a3:A3)(a4:A4)(a5:A5)(a6:A6):B0/\B1/\B2/\B3/\B4/\B5/\B6:=⟨Tr.tr hS a0,oL hS a1 a2 a3 a4 a5 a6⟩
theorem lY(a0:A0)(a1:A1)(a2:A2)(a3:A3)(a4:A4)(a5:A5)(a6:A6)(a7:A7):B0/\B1/\B2/\B3/\B4/\B5/\B6/\B7:=⟨Tr.tr hS a0,kU hS a1 a2 a3 a4 a5 a6 a7⟩
theorem yQ(a0:A0)(a1:A1)(a2:A2)(a3:A3)(a4:A4)(a5:A5)(a6:A6)(a7:A7)(a8:A8):B0/\B1/\B2/\B3/\B4/\B5/\B6/\B7/\B8:=⟨Tr.tr hS a0,lY hS a1 a2 a3 a4 a5 a6 a7 a8⟩
theorem vT(a0:A0)(a1:A1)(a2:A2)(a3:A3)(a4:A4)(a5:A5)(a6:A6)(a7:A7)(a8:A8)(a9:A9):B0/\B1/\B2/\B3/\B4/\B5/\B6/\B7/\B8/\B9:=⟨Tr.tr hS a0,yQ hS a1 a2 a3 a4 a5 a6 a7 a8 a9⟩
theorem BO(a0:A0)(a1:A1)(a2:A2)(a3:A3)(a4:A4)(a5:A5)(a6:A6)(a7:A7)(a8:A8)(a9:A9)(uy:A10):B0/\B1/\B2/\B3/\B4/\B5/\B6/\B7/\B8/\B9/\B10:=⟨Tr.tr hS a0,vT hS a1 a2 a3 a4 a5 a6 a7 a8 a9 uy⟩
theorem QA(a0:A0)(a1:A1)(a2:A2)(a3:A3)(a4:A4)(a5:A5)(a6:A6)(a7:A7)(a8:A8)(a9:A9)(uy:A10)(a11:A11):B0/\B1/\B2/\B3/\B4/\B5/\B6/\B7/\B8/\B9/\B10/\B11:=⟨Tr.tr hS a0,BO hS a1 a2 a3 a4 a5 a6 a7 a8 a9 uy a11⟩
theorem aku(a0:A0)(a1:A1)(a2:A2)(a3:A3)(a4:A4)(a5:A5)(a6:A6)(a7:A7)(a8:A8)(a9:A9)(uy:A10)(a11:A11)(a12:A12):B0/\B1/\B2/\B3/\B4/\B5/\B6/\B7/\B8/\B9/\B10/\B11/\B12:=⟨Tr.tr hS a0,QA hS a1 a2 a3 a4 a5 a6 a7 a8 a9 uy a11 a12⟩
end
section
variable {A0 B0 A1 B1 A2 B2 A3 B3 A4 B4 A5 B5 A6 B6 A7 B7 A8 B8 A9 B9 A10 B10 A11 B11 A12 B12 A13 B13 A14 B14 A15 B15:Prop} {C0 C1 C2 C3 C4 C5 C6 C7 C8 C9 C10 C11 C12 C13 C14 C15:Bool} [Tc Ts w w' A0 B0 C0] [Tc Ts w w' A1 B1 C1] [Tc Ts w w' A2 B2 C2] [Tc Ts w w' A3 B3 C3] [Tc Ts w w' A4 B4 C4] [Tc Ts w w' A5 B5 C5] [Tc Ts w w' A6 B6 C6] [Tc Ts w w' A7 B7 C7] [Tc Ts w w' A8 B8 C8] [Tc Ts w w' A9 B9 C9] [Tc Ts w w' A10 B10 C10] [Tc Ts w w' A11 B11 C11] [Tc Ts w w' A12 B12 C12] [Tc Ts w w' A13 B13 C13] [Tc Ts w w' A14 B14 C14] [Tc Ts w w' A15 B15 C15] (hS:jk Ts w w')
include hS
theorem jU(a0:A0)(h:C0=true:=by decide):B0:=Tc.tc hS a0 h
theorem lZ(a0:A0)(a1:A1)(h:(C0&&C1)=true:=by decide):B0/\B1:=⟨Tc.tc hS a0 (LB h),jU hS a1 (Ol h)⟩
theorem wB(a0:A0)(a1:A1)(a2:A2)(h:(C0&&(C1&&C2))=true:=by decide):B0/\B1/\B2:=⟨Tc.tc hS a0 (LB h),lZ hS a1 a2 (Ol h)⟩
theorem QC(a0:A0)(a1:A1)(a2:A2)(a3:A3)(h:(C0&&(C1&&(C2&&C3)))=true:=by decide):B0/\B1/\B2/\B3:=⟨Tc.tc hS a0 (LB h),wB hS a1 a2 a3 (Ol h)⟩
theorem xu(a0:A0)(a1:A1)(a2:A2)(a3:A3)(a4:A4)(h:(C0&&(C1&&(C2&&(C3&&C4))))=true:=by decide):B0/\B1/\B2/\B3/\B4:=⟨Tc.tc hS a0 (LB h),QC hS a1 a2 a3 a4 (Ol h)⟩
theorem YD(a0:A0)(a1:A1)(a2:A2)(a3:A3)(a4:A4)(a5:A5)(h:(C0&&(C1&&(C2&&(C3&&(C4&&C5)))))=true:=by decide):B0/\B1/\B2/\B3/\B4/\B5:=⟨Tc.tc hS a0 (LB h),xu hS a1 a2 a3 a4 a5 (Ol h)⟩
theorem QD(a0:A0)(a1:A1)(a2:A2)(a3:A3)(a4:A4)(a5:A5)(a6:A6)(h:(C0&&(C1&&(C2&&(C3&&(C4&&(C5&&C6))))))=true:=by decide):B0/\B1/\B2/\B3/\B4/\B5/\B6:=⟨Tc.tc hS a0 (LB h),YD hS a1 a2 a3 a4 a5 a6 (Ol h)⟩
theorem QE(a0:A0)(a1:A1)(a2:A2)(a3:A3)(a4:A4)(a5:A5)(a6:A6)(a7:A7)(h:(C0&&(C1&&(C2&&(C3&&(C4&&(C5&&(C6&&C7)))))))=true:=by decide):B0/\B1/\B2/\B3/\B4/\B5/\B6/\B7:=⟨Tc.tc hS a0 (LB h),QD hS a1 a2 a3 a4 a5 a6 a7 (Ol h)⟩
theorem agM(a0:A0)(a1:A1)(a2:A2)(a3:A3)(a4:A4)(a5:A5)(a6:A6)(a7:A7)(a8:A8)(h:(C0&&(C1&&(C2&&(C3&&(C4&&(C5&&(C6&&(C7&&C8))))))))=true:=by decide):B0/\B1/\B2/\B3/\B4/\B5/\B6/\B7/\B8:=⟨Tc.tc hS a0 (LB h),QE hS a1 a2 a3 a4 a5 a6 a7 a8 (Ol h)⟩
theorem QF(a0:A0)(a1:A1)(a2:A2)(a3:A3)(a4:A4)(a5:A5)(a6:A6)(a7:A7)(a8:A8)(a9:A9)(h:(C0&&(C1&&(C2&&(C3&&(C4&&(C5&&(C6&&(C7&&(C8&&C9)))))))))=true:=by decide):B0/\B1/\B2/\B3/\B4/\B5/\B6/\B7/\B8/\B9:=⟨Tc.tc hS a0 (LB h),agM hS a1 a2 a3 a4 a5 a6 a7 a8 a9 (Ol h)⟩
theorem aaP(a0:A0)(a1:A1)(a2:A2)(a3:A3)(a4:A4)(a5:A5)(a6:A6)(a7:A7)(a8:A8)(a9:A9)(uy:A10)(h:(C0&&(C1&&(C2&&(C3&&(C4&&(C5&&(C6&&(C7&&(C8&&(C9&&C10))))))))))=true:=by decide):B0/\B1/\B2/\B3/\B4/\B5/\B6/\B7/\B8/\B9/\B10:=⟨Tc.tc hS a0 (LB h),QF hS a1 a2 a3 a4 a5 a6 a7 a8 a9 uy (Ol h)⟩
theorem aqX(a0:A0)(a1:A1)(a2:A2)(a3:A3)(a4:A4)(a5:A5)(a6:A6)(a7:A7)(a8:A8)(a9:A9)(uy:A10)(a11:A11)(h:(C0&&(C1&&(C2&&(C3&&(C4&&(C5&&(C6&&(C7&&(C8&&(C9&&(C10&&C11)))))))))))=true:=by decide):B0/\B1/\B2/\B3/\B4/\B5/\B6/\B7/\B8/\B9/\B10/\B11:=⟨Tc.tc hS a0 (LB h),aaP hS a1 a2 a3 a4 a5 a6 a7 a8 a9 uy a11 (Ol h)⟩
end
section
variable {a0 a1 a2 a3 a4 a5 a6 a7 a8 a9 uy a11 a12 a13 a14 a15 g s:Nat} (hE:g=s)
include hE
theorem oM(a:a0<s)(h1:a1<s):a0≠g/\a1≠g:=⟨gD hE a,gD hE h1⟩
theorem El(a:a0<s)(h1:a1<s)(b:a2<s):a0≠g/\a1≠g/\a2≠g:=⟨gD hE a,oM hE h1 b⟩
theorem J2(a:a0<s)(h1:a1<s)(b:a2<s)(c:a3<s):a0≠g/\a1≠g/\a2≠g/\a3≠g:=⟨gD hE a,El hE h1 b c⟩
theorem Du(a:a0<s)(h1:a1<s)(b:a2<s)(c:a3<s)(d:a4<s):a0≠g/\a1≠g/\a2≠g/\a3≠g/\a4≠g:=⟨gD hE a,J2 hE h1 b c d⟩
theorem J3(a:a0<s)(h1:a1<s)(b:a2<s)(c:a3<s)(d:a4<s)(e:a5<s):a0≠g/\a1≠g/\a2≠g/\a3≠g/\a4≠g/\a5≠g:=⟨gD hE a,Du hE h1 b c d e⟩
theorem Oz(a:a0<s)(h1:a1<s)(b:a2<s)(c:a3<s)(d:a4<s)(e:a5<s)(f:a6<s):a0≠g/\a1≠g/\a2≠g/\a3≠g/\a4≠g/\a5≠g/\a6≠g:=⟨gD hE a,J3 hE h1 b c d e f⟩
theorem aaQ(a:a0<s)(h1:a1<s)(b:a2<s)(c:a3<s)(d:a4<s)(e:a5<s)(f:a6<s)(h:a7<s):a0≠g/\a1≠g/\a2≠g/\a3≠g/\a4≠g/\a5≠g/\a6≠g/\a7≠g:=⟨gD hE a,Oz hE h1 b c d e f h⟩
theorem aaR(a:a0<s)(h1:a1<s)(b:a2<s)(c:a3<s)(d:a4<s)(e:a5<s)(f:a6<s)(h:a7<s)(i:a8<s):a0≠g/\a1≠g/\a2≠g/\a3≠g/\a4≠g/\a5≠g/\a6≠g/\a7≠g/\a8≠g:=⟨gD hE a,aaQ hE h1 b c d e f h i⟩
theorem aaS(a:a0<s)(h1:a1<s)(b:a2<s)(c:a3<s)(d:a4<s)(e:a5<s)(f:a6<s)(h:a7<s)(i:a8<s)(j:a9<s):a0≠g/\a1≠g/\a2≠g/\a3≠g/\a4≠g/\a5≠g/\a6≠g/\a7≠g/\a8≠g/\a9≠g:=⟨gD hE a,aaR hE h1 b c d e f h i j⟩
theorem aqY(a:a0<s)(h1:a1<s)(c:a2<s)(d:a3<s)(e:a4<s)(f:a5<s)(h:a6<s)(i:a7<s)(j:a8<s)(k:a9<s)(b:uy<s):a0≠g/\a1≠g/\a2≠g/\a3≠g/\a4≠g/\a5≠g/\a6≠g/\a7≠g/\a8≠g/\a9≠g/\uy≠g:=⟨gD hE a,aaS hE h1 c d e f h i j k b⟩
end
end
end Rt
end Go.Proofs.YtabjalhnkndjaaaGreatDoor
namespace Go.Proofs.YtabjalhnkndjaaaGreatDoor
open Go.RowKit Rt
abbrev dz(g n c:Nat):Value := .slice (some ⟨g,0,none⟩) n c
theorem uD(h:a=d):Ending.returned (.int K a) = .returned (.int K d):=by rw[h]
theorem gN{b:Bool}(h:z=b):Ending.returned (.bool z) = .returned (.bool b):=by rw[h]
abbrev pt(g:Nat):Value := .pointer (some ⟨g,0,none⟩)
abbrev pf(g o:Nat):Value := .pointer (some ⟨g,o,none⟩)
theorem Fx.ic(h:a=d:=by first|rfl|omega):Value.int K a = .int K d:=K_ _ h
theorem Fx.io(h : -9223372036854775808<=d/\d<=9223372036854775807:=by omega)(e:a=d:=by omega):IntKind.i64.wrap a=d:=Fx.jN h e
namespace Rt
def Em(n:Int):Bool:=decide (0<=n)&&decide (n<=1125899906842624)
def qF(l:List Int):Bool:=l.all Em
def qw(l:List Int):Int × Bool:=if qF l then(l.sum,true)else(0,false)
theorem Iz(l:List Int)(k:Nat)(h:k<l.length):qF (l.take (k+1))=(qF (l.take k)&&Em l[k]):=by
 unfold qF; rw[List.take_succ_eq_append_getElem h,List.all_append]; simp
theorem L8(l:List Int)(k:Nat)(h:k<l.length):(l.take (k+1)).sum=(l.take k).sum+l[k]:=by
 rw[List.take_succ_eq_append_getElem h,List.sum_append]; simp
theorem Gq : ∀(l:List Int),qF l=true->0<=l.sum/\l.sum<=1125899906842624*(l.length:Int)
 | [],_=>by simp
 | x::l,h=>by
   unfold qF at h;rw[List.all_cons,Q_]at h;have:=Gq l h.2;have a:=h.1;unfold Em at a;simp at a;rw[List.sum_cons,List.length_cons];omega
theorem Ah(l:List Int):0<=(qw l).1/\(qw l).1<=1125899906842624*(l.length:Int):=by
 unfold qw;by_cases h:qF l=true
 ·rw[d_ h]; exact Gq l h
 rw[b_ h]; simp; omega
theorem L9{l:List Int}(a:k<l.length)(h:Em l[k]=false):qF l=false:=by
 unfold qF;rw[List.all_eq_false];exact⟨l[k],List.getElem_mem a,by simpa using h⟩
def G(x:Nat->Int)(i:Nat):Int:=x i
def C(x:Nat->Int)(i:Nat):Int:=x (6+i)
def F(x:Nat->Int)(i:Nat):Int:=x (12+i)
def R(x:Nat->Int)(i j:Nat):Int:=x (18+i*6+j)
def outs(x:Nat->Int)(k:Nat):Nat->List Int
 | 0 => [C x k]
 | j+1=>outs x k j ++ [R x k j]
def IB(x:Nat->Int)(k:Nat):Nat->List Int
 | 0 => [G x k,F x k]
 | j+1=>IB x k j ++ [R x j k]
def mP(x:Nat->Int)(k:Nat):Int × Bool:=((qw (IB x k 6)).1-(qw (outs x k 6)).1,(qw (outs x k 6)).2&&(qw (IB x k 6)).2)
end Rt
def RdI(k:IntKind)(w:World)(a:Option Addr)(l:List Int):Prop :=
 ∀ i (h:i<l.length),∃ b c,a=some ⟨b,c,none⟩/\w.cell? ⟨b,c+i,none⟩=some (.int k l[i])
end Go.Proofs.YtabjalhnkndjaaaGreatDoor
namespace Go.Proofs.YtabjalhnkndjaaaGreatDoor.Fx
open Go.RowKit
def WA(I:(Nat->Value)->World->Prop)(Q:kR):kR:=fun e f w=>match e with | .normal=>I f w|e=>Q e f w
section
variable {P:Program} {n:Nat} {Q:kR} {f:Nat->Value} {w:World} {I:(Nat->Value)->World->Prop}
theorem yh{y:Code}(I:(Nat->Value)->World->Prop)(h1:W P n A (WA I Q) f w)(b : ∀ f w,I f w->W P n y Q f w):W P n (.seq A y) Q f w :=
 aQ (W.mono h1 fun e f w a=>by
  cases e <;> first|exact b f w a|exact a)
theorem nL(h:I f w):WA I Q .normal f w:=h
theorem jnR(h:Q .ret f w):WA I Q .ret f w:=h
theorem jnX(h:Q (.exit m) f w):WA I Q (.exit m) f w:=h
end
end Go.Proofs.YtabjalhnkndjaaaGreatDoor.Fx
namespace Go.Proofs.YtabjalhnkndjaaaGreatDoor
open Go.Proofs.Tryz
open Fx hiding E9 Fa HY Jf L R start
open Go.RowKit Rt
namespace Rt
structure dA where
 o:Int
 seq:Int
 bB:Nat->Int
 aI:Int
 node:Int
 dst:Int
 bF:Int
 bK:Int
 of:Int
def dH(v:dA):Nat->Value:=fun p=>if p=0 then av v.o else if p=1 then aG v.seq else if p<8 then aG (v.bB (p-2))else if p=8 then .int .u8 v.aI else if p=9 then aG v.node else if p=10 then av v.dst else if p=11 then av v.bF else if p=12 then aG v.bK else aG v.of
theorem rD(v:dA){p:Nat}(h:p=j+2)(a:j<6):dH v p=aG (v.bB j):=by
 subst h; unfold dH; rw[b_,b_,d_,show j+2-2=j by omega]
theorem lu(v:dA) : ∀ j,j<14->(dH v j).oneCell'=true:=fun j _=>by unfold dH; repeat (first|rfl|split)
def uM(i:Int):Bool:=decide (1<=i)&&decide (i<=6)
def oN(v:dA):dA :=
 if v.aI=1 then { v with dst:=0,bK:=0,of:=0 } else if v.aI=2 then { v with dst:=0,bK:=0,of:=0 } else if v.aI=3 then { v with dst:=0,of:=0 }
 else if v.aI=4 then { v with node:=0,dst:=0,bF:=0 } else if v.aI=5 then { v with bK:=0,of:=0 } else if v.aI=6 then { v with node:=0,bF:=0,bK:=0,of:=0 }
 else { v with node:=0,dst:=0,bF:=0,bK:=0,of:=0 }
def sP(v:dA):Bool:=decide (1<=v.bF)&&decide (v.bF<=1125899906842624)
def oO(v:dA):Bool:=uM v.dst && !decide (v.dst=v.o)
def eU(v:dA):Bool :=
 if v.aI=1 then decide (0<=v.bF)&&decide (v.bF<=1125899906842624)else if v.aI=2 then sP v else if v.aI=3 then sP v&&decide (1<=v.bK)
 else if v.aI=4 then decide (1<=v.bK)&&decide (1<=v.of) && !decide (v.bK=v.of)else if v.aI=5 then sP v&&oO v else if v.aI=6 then oO v else decide (v.aI=7)
end Rt
theorem Fe(n:Int)(w:World) :
 Calls prog 85 #[av n] w fun e w'=>e = .returned (.bool (uM n))/\w'=w:=by
 refine bX func85 9 ?_;refine ay<|au aD<|aC<|ay<|au (av n) ?_;by_cases a:1<=n
 ·refine Lv aH (mW a)<|au aH<|au (av n) ?_;by_cases b:n<=6
  ·refine Lv aH (xq b)<|au aH<|au aH<|aC<|Wr<|aK aH<|⟨gN (by simp only[uM]; first|(symm; simp; omega)|(symm; simp; done)),rfl⟩
  refine Lv aD (yg b)<|au aD<|au aD<|aC<|Wr<|aK aD<|⟨gN (by simp only[uM]; first|(symm; simp; omega)|(symm; simp; done)),rfl⟩
 refine Lv aD (mM a)<|au aD<|bf<|bf<|au aD<|au aD<|aC<|Wr<|aK aD<|⟨gN (by simp only[uM]; first|(symm; simp; omega)|(symm; simp; done)),rfl⟩
theorem aqZ(v:dA)(w:World) :
 Calls prog 86 #[.agg (aA 14 (dH v))] w fun e w'=>e = .returned (.agg (aA 14 (dH (oN v))))/\Below w.heap.size w w':=by
 refine bX func86 60 ?_;refine ay<|oq fun b w1 kV x s1 z1 => ?_;have U:=bL s1.bP (Below.refl w.heap.size w);have tJ:=iy kV;have vB:=x.lt;refine oJ 14 (fun i=>(#[av 0,aG 0,aG 0,aG 0,aG 0,aG 0,aG 0,aG 0,.int .u8 (0),aG 0,av 0,av 0,aG 0,aG 0]:Array Value).getD i undef) fun m w2 nN y s2 z2 => ?_;have⟨s,b2⟩:=fB s2.bP x U;have xw:=gQ nN U.size;have BP:=gD nN x.lt;have zR:=y.lt;refine aC<|ay<|au (pt b)<|Lv (av v.o) (aR s.aJ 0)<|au (pf b 1)<|Lv (aG v.seq) (aR s.aJ 1)<|au (pf b 2)<|Lv (.agg (aA 6 (rv .u64 v.bB))) (dZ s.aJ 2 (fun j c=>rD _ (by omega) c))<|au (pf b 8)<|Lv (.int .u8 (v.aI)) (aR s.aJ 8)<|au (.agg (aA 14 (bJ (bJ (bJ (bJ (fun i=>(#[av 0,aG 0,aG 0,aG 0,aG 0,aG 0,aG 0,aG 0,.int .u8 (0),aG 0,av 0,av 0,aG 0,aG 0]:Array Value).getD i undef) 0 1 (fun _=>av v.o)) 1 1 (fun _=>aG v.seq)) 2 6 (rv .u64 v.bB)) 8 1 (fun _ => .int .u8 (v.aI)))))<|oJ 14 (fun i=>(#[av 0,aG 0,aG 0,aG 0,aG 0,aG 0,aG 0,aG 0,.int .u8 (0),aG 0,av 0,av 0,aG 0,aG 0]:Array Value).getD i undef) fun a w3 nO m4 s3 z3 => ?_;have⟨m5,m6,b3⟩:=iP s3.bP s y b2;have Gc:=gQ nO b2.size;have⟨WB,aaU⟩:=oM nO s.lt y.lt;have Gr:=m4.lt;refine dY m4 0 (h1:=(fun j c=>by rcases j with _|_|_|_|_|_|_|_|_|_|_|_|_|_|j <;> first|rfl|omega)) fun w4 m7 O z4 => ?_
 have m8:aM w4 a 14 (bJ (bJ (bJ (bJ (fun i=>(#[av 0,aG 0,aG 0,aG 0,aG 0,aG 0,aG 0,aG 0,.int .u8 (0),aG 0,av 0,av 0,aG 0,aG 0]:Array Value).getD i undef) 0 1 (fun _=>av v.o)) 1 1 (fun _=>aG v.seq)) 2 6 (rv .u64 v.bB)) 8 1 (fun _ => .int .u8 (v.aI))) 30:=aO m7;have k:aM w4 a 14 (dH ⟨v.o,v.seq,v.bB,v.aI,0,0,0,0,0⟩) 30:=m8.congr (Kvq (by kernel_rfl))
 have f:=m5.cK O (by omega);have n:=m6.cK O (by omega);have d:=O.below b3 b3.size (by omega);refine aC<|aQ<|ay<|au (pf b 8)<|Lv (.int .u8 (v.aI)) (aR f.aJ 8)<|aC<|Wb<|aQ<|ay ?_;by_cases g:v.aI=1
 ·refine Lv aH (gU g)<|au aH<|aC<|aP<|Wk<|sN<|aP<|ay<|au (pf b 9)<|Lv (aG v.node) (aR f.aJ 9)<|au (pf a 9)<|jf k 9 (aG v.node) fun w5 kY P z5 => ?_;have m13:aM w5 a 14 (dH ⟨v.o,v.seq,v.bB,v.aI,v.node,0,0,0,0⟩) 30:=kY.congr (Kvq (by kernel_rfl))
  have m14:=f.cK P (by omega);have m15:=n.cK P (by omega);have b5:=P.below d d.size (by omega);refine aC<|Wl<|au (pf b 11)<|Lv (av v.bF) (aR m14.aJ 11)<|au (pf a 11)<|jf m13 11 (av v.bF) fun w6 m16 Q z6 => ?_;have m17:aM w6 a 14 (dH ⟨v.o,v.seq,v.bB,v.aI,v.node,0,v.bF,0,0⟩) 30:=m16.congr (Kvq (by kernel_rfl))
  have m18:=m14.cK Q (by omega);have m19:=m15.cK Q (by omega);have b6:=Q.below b5 b5.size (by omega);refine Ln<|bS<|sN<|ay<|Lv (.agg (aA 14 (dH ⟨v.o,v.seq,v.bB,v.aI,v.node,0,v.bF,0,0⟩))) (dZ m17.aJ 0)<|dY m19 0 (h1:=(lu _)) fun w7 m20 R z7 => ?_;have mG:aM w7 m 14 (dH ⟨v.o,v.seq,v.bB,v.aI,v.node,0,v.bF,0,0⟩) 30:=aO m20;have m22:=m18.cK R (by omega);have m23:=m17.cK R (by omega);have b7:=R.below b6 b6.size (by omega);refine aC (Wr (⟨.agg (aA 14 (dH ⟨v.o,v.seq,v.bB,v.aI,v.node,0,v.bF,0,0⟩)),rV Tryz.results86 ⟨_,rfl,aU mG.aJ (by kernel_rfl) (by kernel_rfl)⟩,?_⟩));refine⟨K_ (fun q=>Ending.returned (Value.agg q)) (fI fun i r => ?_),b7⟩;unfold oN; rw[d_ g]
 refine Lv aD (gX g)<|au aD<|aC<|aL<|Wl ?_;by_cases h:v.aI=2
 ·refine Lv aH (gU h)<|au aH<|aC<|aP<|ay<|au (pf b 9)<|Lv (aG v.node) (aR f.aJ 9)<|au (pf a 9)<|jf k 9 (aG v.node) fun w8 m24 S z8 => ?_;have mU:aM w8 a 14 (dH ⟨v.o,v.seq,v.bB,v.aI,v.node,0,0,0,0⟩) 30:=m24.congr (Kvq (by kernel_rfl))
  have pK:=f.cK S (by omega);have pO:=n.cK S (by omega);have b8:=S.below d d.size (by omega);refine aC<|Wl<|au (pf b 11)<|Lv (av v.bF) (aR pK.aJ 11)<|au (pf a 11)<|jf mU 11 (av v.bF) fun w9 om T z9 => ?_;have qb:aM w9 a 14 (dH ⟨v.o,v.seq,v.bB,v.aI,v.node,0,v.bF,0,0⟩) 30:=om.congr (Kvq (by kernel_rfl))
  have qV:=pK.cK T (by omega);have mY:=pO.cK T (by omega);have b9:=T.below b8 b8.size (by omega);refine Ln<|bS<|sN<|ay<|Lv (.agg (aA 14 (dH ⟨v.o,v.seq,v.bB,v.aI,v.node,0,v.bF,0,0⟩))) (dZ qb.aJ 0)<|dY mY 0 (h1:=(lu _)) fun uE m32 z QM => ?_;have oD:aM uE m 14 (dH ⟨v.o,v.seq,v.bB,v.aI,v.node,0,v.bF,0,0⟩) 30:=aO m32;have pz:=qV.cK z (by omega);have pQ:=qb.cK z (by omega);have b10:=z.below b9 b9.size (by omega);refine aC (Wr (⟨.agg (aA 14 (dH ⟨v.o,v.seq,v.bB,v.aI,v.node,0,v.bF,0,0⟩)),rV Tryz.results86 ⟨_,rfl,aU oD.aJ (by kernel_rfl) (by kernel_rfl)⟩,?_⟩));refine⟨K_ (fun q=>Ending.returned (Value.agg q)) (fI fun i r => ?_),b10⟩;unfold oN; rw[b_ g,d_ h]
 refine Lv aD (gX h)<|au aD<|aC<|aL<|ay ?_;by_cases l:v.aI=3
 ·refine Lv aH (gU l)<|au aH<|aC<|aP<|ay<|au (pf b 9)<|Lv (aG v.node) (aR f.aJ 9)<|au (pf a 9)<|jf k 9 (aG v.node) fun Bg rE A z11 => ?_;have sD:aM Bg a 14 (dH ⟨v.o,v.seq,v.bB,v.aI,v.node,0,0,0,0⟩) 30:=rE.congr (Kvq (by kernel_rfl))
  have qM:=f.cK A (by omega);have qW:=n.cK A (by omega);have V:=A.below d d.size (by omega);refine aC<|ay<|au (pf b 11)<|Lv (av v.bF) (aR qM.aJ 11)<|au (pf a 11)<|jf sD 11 (av v.bF) fun BD vk B z12 => ?_;have pR:aM BD a 14 (dH ⟨v.o,v.seq,v.bB,v.aI,v.node,0,v.bF,0,0⟩) 30:=vk.congr (Kvq (by kernel_rfl))
  have qx:=qM.cK B (by omega);have qy:=qW.cK B (by omega);have W:=B.below V V.size (by omega);refine aC<|Wl<|au (pf b 12)<|Lv (aG v.bK) (aR qx.aJ 12)<|au (pf a 12)<|jf pR 12 (aG v.bK) fun Bh uF C z13 => ?_;have sQ:aM Bh a 14 (dH ⟨v.o,v.seq,v.bB,v.aI,v.node,0,v.bF,v.bK,0⟩) 30:=uF.congr (Kvq (by kernel_rfl))
  have qc:=qx.cK C (by omega);have tK:=qy.cK C (by omega);have X:=C.below W W.size (by omega);refine Ln<|bS<|sN<|ay<|Lv (.agg (aA 14 (dH ⟨v.o,v.seq,v.bB,v.aI,v.node,0,v.bF,v.bK,0⟩))) (dZ sQ.aJ 0)<|dY tK 0 (h1:=(lu _)) fun EU xY D z14 => ?_;have uN:aM EU m 14 (dH ⟨v.o,v.seq,v.bB,v.aI,v.node,0,v.bF,v.bK,0⟩) 30:=aO xY;have yj:=qc.cK D (by omega);have Ai:=sQ.cK D (by omega);have b14:=D.below X X.size (by omega);refine aC (Wr (⟨.agg (aA 14 (dH ⟨v.o,v.seq,v.bB,v.aI,v.node,0,v.bF,v.bK,0⟩)),rV Tryz.results86 ⟨_,rfl,aU uN.aJ (by kernel_rfl) (by kernel_rfl)⟩,?_⟩));refine⟨K_ (fun q=>Ending.returned (Value.agg q)) (fI fun i r => ?_),b14⟩;unfold oN; rw[b_ g,b_ h,d_ l]
 refine Lv aD (gX l)<|au aD<|aC<|aL<|ay ?_;by_cases p:v.aI=4
 ·refine Lv aH (gU p)<|au aH<|aC<|aP<|ay<|au (pf b 12)<|Lv (aG v.bK) (aR f.aJ 12)<|au (pf a 12)<|jf k 12 (aG v.bK) fun CW yG E z15 => ?_;have xA:aM CW a 14 (dH ⟨v.o,v.seq,v.bB,v.aI,0,0,0,v.bK,0⟩) 30:=yG.congr (Kvq (by kernel_rfl))
  have yH:=f.cK E (by omega);have wC:=n.cK E (by omega);have Y:=E.below d d.size (by omega);refine aC<|Wl<|au (pf b 13)<|Lv (aG v.of) (aR yH.aJ 13)<|au (pf a 13)<|jf xA 13 (aG v.of) fun w16 vU F z16 => ?_;have wD:aM w16 a 14 (dH ⟨v.o,v.seq,v.bB,v.aI,0,0,0,v.bK,v.of⟩) 30:=vU.congr (Kvq (by kernel_rfl))
  have tL:=yH.cK F (by omega);have uG:=wC.cK F (by omega);have Z:=F.below Y Y.size (by omega);refine Ln<|bS<|sN<|ay<|Lv (.agg (aA 14 (dH ⟨v.o,v.seq,v.bB,v.aI,0,0,0,v.bK,v.of⟩))) (dZ wD.aJ 0)<|dY uG 0 (h1:=(lu _)) fun Fg oo G z17 => ?_;have sF:aM Fg m 14 (dH ⟨v.o,v.seq,v.bB,v.aI,0,0,0,v.bK,v.of⟩) 30:=aO oo;have pE:=tL.cK G (by omega);have vV:=wD.cK G (by omega);have b17:=G.below Z Z.size (by omega);refine aC (Wr (⟨.agg (aA 14 (dH ⟨v.o,v.seq,v.bB,v.aI,0,0,0,v.bK,v.of⟩)),rV Tryz.results86 ⟨_,rfl,aU sF.aJ (by kernel_rfl) (by kernel_rfl)⟩,?_⟩));refine⟨K_ (fun q=>Ending.returned (Value.agg q)) (fI fun i r => ?_),b17⟩;unfold oN; rw[b_ g,b_ h,b_ l,d_ p]
 refine Lv aD (gX p)<|au aD<|aC<|aL<|ay ?_;by_cases t:v.aI=5
 ·refine Lv aH (gU t)<|au aH<|aC<|aP<|ay<|au (pf b 9)<|Lv (aG v.node) (aR f.aJ 9)<|au (pf a 9)<|jf k 9 (aG v.node) fun En m64 H z18 => ?_;have xB:aM En a 14 (dH ⟨v.o,v.seq,v.bB,v.aI,v.node,0,0,0,0⟩) 30:=m64.congr (Kvq (by kernel_rfl))
  have sG:=f.cK H (by omega);have sH:=n.cK H (by omega);have aa:=H.below d d.size (by omega);refine aC<|ay<|au (pf b 11)<|Lv (av v.bF) (aR sG.aJ 11)<|au (pf a 11)<|jf xB 11 (av v.bF) fun YF sI I z19 => ?_;have tN:aM YF a 14 (dH ⟨v.o,v.seq,v.bB,v.aI,v.node,0,v.bF,0,0⟩) 30:=sI.congr (Kvq (by kernel_rfl))
  have tO:=sG.cK I (by omega);have qg:=sH.cK I (by omega);have ab:=I.below aa aa.size (by omega);refine aC<|Wl<|au (pf b 10)<|Lv (av v.dst) (aR tO.aJ 10)<|au (pf a 10)<|jf tN 10 (av v.dst) fun TN sS J z20 => ?_;have vW:aM TN a 14 (dH ⟨v.o,v.seq,v.bB,v.aI,v.node,v.dst,v.bF,0,0⟩) 30:=sS.congr (Kvq (by kernel_rfl))
  have yR:=tO.cK J (by omega);have xZ:=qg.cK J (by omega);have b20:=J.below ab ab.size (by omega);refine Ln<|bS<|sN<|ay<|Lv (.agg (aA 14 (dH ⟨v.o,v.seq,v.bB,v.aI,v.node,v.dst,v.bF,0,0⟩))) (dZ vW.aJ 0)<|dY xZ 0 (h1:=(lu _)) fun WE wE K z21 => ?_;have zh:aM WE m 14 (dH ⟨v.o,v.seq,v.bB,v.aI,v.node,v.dst,v.bF,0,0⟩) 30:=aO wE;have yS:=yR.cK K (by omega);have zi:=vW.cK K (by omega);have DW:=K.below b20 b20.size (by omega);refine aC (Wr (⟨.agg (aA 14 (dH ⟨v.o,v.seq,v.bB,v.aI,v.node,v.dst,v.bF,0,0⟩)),rV Tryz.results86 ⟨_,rfl,aU zh.aJ (by kernel_rfl) (by kernel_rfl)⟩,?_⟩));refine⟨K_ (fun q=>Ending.returned (Value.agg q)) (fI fun i r => ?_),DW⟩;unfold oN; rw[b_ g,b_ h,b_ l,b_ p,d_ t]
 refine Lv aD (gX t)<|au aD<|aC<|aL<|ay ?_;by_cases u:v.aI=6
 ·refine Lv aH (gU u)<|au aH<|aC<|aP<|Wl<|au (pf b 10)<|Lv (av v.dst) (aR f.aJ 10)<|au (pf a 10)<|jf k 10 (av v.dst) fun YG yI L z22 => ?_;have xC:aM YG a 14 (dH ⟨v.o,v.seq,v.bB,v.aI,0,v.dst,0,0,0⟩) 30:=yI.congr (Kvq (by kernel_rfl))
  have zk:=f.cK L (by omega);have zS:=n.cK L (by omega);have zl:=L.below d d.size (by omega);refine Ln<|bS<|sN<|ay<|Lv (.agg (aA 14 (dH ⟨v.o,v.seq,v.bB,v.aI,0,v.dst,0,0,0⟩))) (dZ xC.aJ 0)<|dY zS 0 (h1:=(lu _)) fun yB zw M z23 => ?_;have Aj:aM yB m 14 (dH ⟨v.o,v.seq,v.bB,v.aI,0,v.dst,0,0,0⟩) 30:=aO zw;have Bq:=zk.cK M (by omega);have BQ:=xC.cK M (by omega);have Fh:=M.below zl zl.size (by omega);refine aC (Wr (⟨.agg (aA 14 (dH ⟨v.o,v.seq,v.bB,v.aI,0,v.dst,0,0,0⟩)),rV Tryz.results86 ⟨_,rfl,aU Aj.aJ (by kernel_rfl) (by kernel_rfl)⟩,?_⟩));refine⟨K_ (fun q=>Ending.returned (Value.agg q)) (fI fun i r => ?_),Fh⟩;unfold oN; rw[b_ g,b_ h,b_ l,b_ p,b_ t,d_ u]
 refine Lv aD (gX u)<|au aD<|aC<|aL<|Wk<|bS<|sN<|ay<|Lv (.agg (aA 14 (dH ⟨v.o,v.seq,v.bB,v.aI,0,0,0,0,0⟩))) (dZ k.aJ 0)<|dY n 0 (h1:=(lu _)) fun Ui zT N z24 => ?_;have BR:aM Ui m 14 (dH ⟨v.o,v.seq,v.bB,v.aI,0,0,0,0,0⟩) 30:=aO zT;have Bj:=f.cK N (by omega);have Ak:=k.cK N (by omega);have Gs:=N.below d d.size (by omega);refine aC (Wr (⟨.agg (aA 14 (dH ⟨v.o,v.seq,v.bB,v.aI,0,0,0,0,0⟩)),rV Tryz.results86 ⟨_,rfl,aU BR.aJ (by kernel_rfl) (by kernel_rfl)⟩,?_⟩));refine⟨K_ (fun q=>Ending.returned (Value.agg q)) (fI fun i r => ?_),Gs⟩;unfold oN; rw[b_ g,b_ h,b_ l,b_ p,b_ t,b_ u]
set_option linter.unusedSimpArgs false in
set_option maxHeartbeats 2000000 in
theorem QG(v:dA)(w:World) :
 Calls prog 87 #[.agg (aA 14 (dH v))] w fun e w'=>e = .returned (.bool (eU v))/\Below w.heap.size w w':=by
 refine bX func87 75 ?_;refine ay<|oq fun g w1 M B N T =>have I:=bL N.bP (Below.refl w.heap.size w);have Q:=iy M;have R:=B.lt;au aD<|aC<|yh (fun f F=>f 1=(pt g)/\f 3 = .bool (sP v)/\aM F g 14 (dH v) 30/\Below w.heap.size w F) ?_ ?_
 ·refine Wl<|au (pf g 11)<|Lv (av v.bF) (aR B.aJ 11) ?_;by_cases D:1<=v.bF
  ·refine Lv aH (mW D)<|au aH<|au (pf g 11)<|Lv (av v.bF) (aR B.aJ 11) ?_;by_cases G:v.bF<=1125899906842624
   ·refine Lv aH (xq G)<|au aH<|au aH<|Ln<|nL ⟨(by rfl),(by show Value.bool true=Value.bool (sP v); unfold sP; rw[f_ D,f_ G]; rfl),B,I⟩
   refine Lv aD (yg G)<|au aD<|au aD<|Ln<|nL ⟨(by rfl),(by show Value.bool false=Value.bool (sP v); unfold sP; rw[f_ D,g_ G]; rfl),B,I⟩
  refine Lv aD (mM D)<|au aD<|bf<|bf<|bf<|au aD<|au aD<|Ln<|nL ⟨(by rfl),(by show Value.bool false=Value.bool (sP v); unfold sP; rw[g_ D]; rfl),B,I⟩
 rintro O w2 ⟨A,K,C,J⟩;refine yh (fun f F=>f 1=(pt g)/\f 3 = .bool (sP v)/\f 4 = .bool (oO v)/\aM F g 14 (dH v) 30/\Below w.heap.size w F) ?_ ?_
 ·refine Wl<|Lv (pf g 10) (iO A 10)<|Lv (av v.dst) (aR C.aJ 10) ?_;by_cases t:(uM v.dst)=true
  ·refine mX (Fe v.dst _) aH (by rw[t])<|au aH<|Lv (pf g 10) (iO A 10)<|Lv (av v.dst) (aR C.aJ 10)<|Lv (pt g) (iO A 0)<|Lv (av v.o) (aR C.aJ 0) ?_;by_cases H:v.dst=v.o
   ·refine Lv aD (kr H)<|au aD<|au aD<|Ln<|nL ⟨A,K,(by show Value.bool false=Value.bool (oO v); unfold oO; rw[t,f_ H]; rfl),C,J⟩
   refine Lv aH (mO H)<|au aH<|au aH<|Ln<|nL ⟨A,K,(by show Value.bool true=Value.bool (oO v); unfold oO; rw[t,g_ H]; rfl),C,J⟩
  rw[R_]at t;refine mX (Fe v.dst _) aD (by rw[t])<|au aD<|bf<|bf<|bf<|bf<|bf<|au aD<|au aD<|Ln<|nL ⟨A,K,(by show Value.bool false=Value.bool (oO v); unfold oO; rw[t]; rfl),C,J⟩
 rintro P S ⟨m,E,L,n,h⟩;refine aQ<|ay<|Lv (pf g 8) (iO m 8)<|Lv (.int .u8 (v.aI)) (aR n.aJ 8)<|aC<|Wb<|ay ?_;by_cases a:v.aI=1
 ·refine Lv aH (gU a)<|au aH<|aC<|aP<|ay<|Lv (pf g 11) (iO m 11)<|Lv (av v.bF) (aR n.aJ 11) ?_;by_cases p:0<=v.bF
  ·refine Lv aH (mW p)<|au aH<|Lv (pf g 11) (iO m 11)<|Lv (av v.bF) (aR n.aJ 11) ?_;by_cases u:v.bF<=1125899906842624
   ·refine Lv aH (xq u)<|au aH<|au aH<|aC<|Wr<|bO<|sR<|aK aH<|⟨gN (Eq.symm (by unfold eU; first|(rw[d_ a]; done)|(rw[d_ a]; first|(simp[p,u]; done)|(simp[p,u]; omega)))),h⟩
   refine Lv aD (yg u)<|au aD<|au aD<|aC<|Wr<|bO<|sR<|aK aD<|⟨gN (Eq.symm (by unfold eU; first|(rw[d_ a]; done)|(rw[d_ a]; first|(simp[p,u]; done)|(simp[p,u]; omega)))),h⟩
  refine Lv aD (mM p)<|au aD<|bf<|bf<|bf<|au aD<|au aD<|aC<|Wr<|bO<|sR<|aK aD<|⟨gN (Eq.symm (by unfold eU; first|(rw[d_ a]; done)|(rw[d_ a]; first|(simp[p]; done)|(simp[p]; omega)))),h⟩
 refine Lv aD (gX a)<|au aD<|aC<|aL<|ay ?_;by_cases b:v.aI=2
 ·refine Lv aH (gU b)<|au aH<|aC<|aP<|ay<|bA E<|au (.bool (sP v))<|aC<|Wr<|bO<|sR<|aK (.bool (sP v))<|⟨gN (Eq.symm (by unfold eU; first|(rw[b_ a,d_ b]; done)|(rw[b_ a,d_ b]; first|(simp[]; done)|(simp[]; omega)))),h⟩
 refine Lv aD (gX b)<|au aD<|aC<|aL<|ay ?_;by_cases c:v.aI=3
 ·refine Lv aH (gU c)<|au aH<|aC<|aP<|ay ?_;by_cases k:(sP v)=true
  ·refine bA (E.trans (K_ Value.bool k))<|au aH<|Lv (pf g 12) (iO m 12)<|Lv (aG v.bK) (aR n.aJ 12) ?_;by_cases x:1<=v.bK
   ·refine Lv aH (mW x)<|au aH<|au aH<|aC<|Wr<|bO<|sR<|aK aH<|⟨gN (Eq.symm (by unfold eU; first|(rw[b_ a,b_ b,d_ c]; done)|(rw[b_ a,b_ b,d_ c]; first|(simp[k,x]; done)|(simp[k,x]; omega)))),h⟩
   refine Lv aD (mM x)<|au aD<|au aD<|aC<|Wr<|bO<|sR<|aK aD<|⟨gN (Eq.symm (by unfold eU; first|(rw[b_ a,b_ b,d_ c]; done)|(rw[b_ a,b_ b,d_ c]; first|(simp[k,x]; done)|(simp[k,x]; omega)))),h⟩
  rw[R_]at k;refine bA (E.trans (K_ Value.bool k))<|au aD<|bf<|bf<|bf<|au aD<|au aD<|aC<|Wr<|bO<|sR<|aK aD<|⟨gN (Eq.symm (by unfold eU; first|(rw[b_ a,b_ b,d_ c]; done)|(rw[b_ a,b_ b,d_ c]; first|(simp[k]; done)|(simp[k]; omega)))),h⟩
 refine Lv aD (gX c)<|au aD<|aC<|aL<|ay ?_;by_cases d:v.aI=4
 ·refine Lv aH (gU d)<|au aH<|aC<|aP<|ay<|Lv (pf g 12) (iO m 12)<|Lv (aG v.bK) (aR n.aJ 12) ?_;by_cases j:1<=v.bK
  ·refine Lv aH (mW j)<|au aH<|Lv (pf g 13) (iO m 13)<|Lv (aG v.of) (aR n.aJ 13) ?_;by_cases q:1<=v.of
   ·refine Lv aH (mW q)<|au aH<|au aH<|Lv (pf g 12) (iO m 12)<|Lv (aG v.bK) (aR n.aJ 12)<|Lv (pf g 13) (iO m 13)<|Lv (aG v.of) (aR n.aJ 13) ?_;by_cases y:v.bK=v.of
    ·refine Lv aD (kr y)<|au aD<|au aD<|aC<|Wr<|bO<|sR<|aK aD<|⟨gN (Eq.symm (by unfold eU; first|(rw[b_ a,b_ b,b_ c,d_ d]; done)|(rw[b_ a,b_ b,b_ c,d_ d]; first|(simp[j,q,y]; done)|(simp[j,q,y]; omega)))),h⟩
    refine Lv aH (mO y)<|au aH<|au aH<|aC<|Wr<|bO<|sR<|aK aH<|⟨gN (Eq.symm (by unfold eU; first|(rw[b_ a,b_ b,b_ c,d_ d]; done)|(rw[b_ a,b_ b,b_ c,d_ d]; first|(simp[j,q,y]; done)|(simp[j,q,y]; omega)))),h⟩
   refine Lv aD (mM q)<|au aD<|au aD<|bf<|bf<|bf<|bf<|bf<|au aD<|au aD<|aC<|Wr<|bO<|sR<|aK aD<|⟨gN (Eq.symm (by unfold eU; first|(rw[b_ a,b_ b,b_ c,d_ d]; done)|(rw[b_ a,b_ b,b_ c,d_ d]; first|(simp[j,q]; done)|(simp[j,q]; omega)))),h⟩
  refine Lv aD (mM j)<|au aD<|bf<|bf<|bf<|au aD<|au aD<|bf<|bf<|bf<|bf<|bf<|au aD<|au aD<|aC<|Wr<|bO<|sR<|aK aD<|⟨gN (Eq.symm (by unfold eU; first|(rw[b_ a,b_ b,b_ c,d_ d]; done)|(rw[b_ a,b_ b,b_ c,d_ d]; first|(simp[j]; done)|(simp[j]; omega)))),h⟩
 refine Lv aD (gX d)<|au aD<|aC<|aL<|ay ?_;by_cases i:v.aI=5
 ·refine Lv aH (gU i)<|au aH<|aC<|aP<|ay ?_;by_cases l:(sP v)=true
  ·refine bA (E.trans (K_ Value.bool l))<|au aH ?_;by_cases s:(oO v)=true
   ·refine bA (L.trans (K_ Value.bool s))<|au aH<|au aH<|aC<|Wr<|bO<|sR<|aK aH<|⟨gN (Eq.symm (by unfold eU; first|(rw[b_ a,b_ b,b_ c,b_ d,d_ i]; done)|(rw[b_ a,b_ b,b_ c,b_ d,d_ i]; first|(simp[l,s]; done)|(simp[l,s]; omega)))),h⟩
   rw[R_]at s;refine bA (L.trans (K_ Value.bool s))<|au aD<|au aD<|aC<|Wr<|bO<|sR<|aK aD<|⟨gN (Eq.symm (by unfold eU; first|(rw[b_ a,b_ b,b_ c,b_ d,d_ i]; done)|(rw[b_ a,b_ b,b_ c,b_ d,d_ i]; first|(simp[l,s]; done)|(simp[l,s]; omega)))),h⟩
  rw[R_]at l;refine bA (E.trans (K_ Value.bool l))<|au aD<|bf<|au aD<|au aD<|aC<|Wr<|bO<|sR<|aK aD<|⟨gN (Eq.symm (by unfold eU; first|(rw[b_ a,b_ b,b_ c,b_ d,d_ i]; done)|(rw[b_ a,b_ b,b_ c,b_ d,d_ i]; first|(simp[l]; done)|(simp[l]; omega)))),h⟩
 refine Lv aD (gX i)<|au aD<|aC<|aL<|ay ?_;by_cases r:v.aI=6
 ·refine Lv aH (gU r)<|au aH<|aC<|aP<|ay<|bA L<|au (.bool (oO v))<|aC<|Wr<|bO<|sR<|aK (.bool (oO v))<|⟨gN (Eq.symm (by unfold eU; first|(rw[b_ a,b_ b,b_ c,b_ d,b_ i,d_ r]; done)|(rw[b_ a,b_ b,b_ c,b_ d,b_ i,d_ r]; first|(simp[]; done)|(simp[]; omega)))),h⟩
 refine Lv aD (gX r)<|au aD<|aC<|aL<|Wk<|bS<|sN<|ay<|Lv (pf g 8) (iO m 8)<|Lv (.int .u8 (v.aI)) (aR n.aJ 8) ?_;by_cases z:v.aI=7
 ·refine Lv aH (gU z)<|au aH<|aC<|Wr<|aK aH<|⟨gN (Eq.symm (by unfold eU; first|(rw[b_ a,b_ b,b_ c,b_ d,b_ i,b_ r]; done)|(rw[b_ a,b_ b,b_ c,b_ d,b_ i,b_ r]; first|(simp[z]; done)|(simp[z]; omega)))),h⟩
 refine Lv aD (gX z)<|au aD<|aC<|Wr<|aK aD<|⟨gN (Eq.symm (by unfold eU; first|(rw[b_ a,b_ b,b_ c,b_ d,b_ i,b_ r]; done)|(rw[b_ a,b_ b,b_ c,b_ d,b_ i,b_ r]; first|(simp[z]; done)|(simp[z]; omega)))),h⟩
namespace Rt
def nU(n:Int):Prop:=0<=n/\n<=18446744073709551615
def Br(n:Int):Prop := -9223372036854775808<=n/\n<=9223372036854775807
structure jB(v:dA):Prop where
 o:Br v.o
 seq:nU v.seq
 bB : ∀ i,i<6->nU (v.bB i)
 aI:0<=v.aI/\v.aI<=255
 node:nU v.node
 dst:Br v.dst
 bF:Br v.bF
 bK:nU v.bK
 of:nU v.of
theorem jB.own{v:dA}(h:jB v):jB (oN v):=by
 have z:nU 0:=⟨by decide,by decide⟩;have y:Br 0:=⟨by decide,by decide⟩;unfold oN;split
 ·exact⟨h.o,h.seq,h.bB,h.aI,h.node,y,h.bF,z,z⟩
 split
 ·exact⟨h.o,h.seq,h.bB,h.aI,h.node,y,h.bF,z,z⟩
 split
 ·exact⟨h.o,h.seq,h.bB,h.aI,h.node,y,h.bF,h.bK,z⟩
 split
 ·exact⟨h.o,h.seq,h.bB,h.aI,z,y,y,h.bK,h.of⟩
 split
 ·exact⟨h.o,h.seq,h.bB,h.aI,h.node,h.dst,h.bF,z,z⟩
 split
 ·exact⟨h.o,h.seq,h.bB,h.aI,z,h.dst,y,z,z⟩
 exact⟨h.o,h.seq,h.bB,h.aI,z,y,y,z,z⟩
theorem HZ{v:dA}(h:jB v):Kd [(some .i64),(some .u64),(some .u64),(some .u64),(some .u64),(some .u64),(some .u64),(some .u64),(some .u8),(some .u64),(some .i64),(some .i64),(some .u64),(some .u64)] (dH v):=by
 have a : ∀(k:IntKind) (n:Int),(Lit.int k n).wf=true -> ∃ l,sM (some k) (.int k n)=some l:=fun k n d=>by
  obtain⟨l,c⟩:=Wm (k:=k) (n:=1) (x:=fun _=>n) (fun _ _=>d) 0 (by simp);exact⟨l,c⟩
 intro i b;have e:i<14:=b
 rcases i with _|_|_|_|_|_|_|_|_|_|_|_|_|_|i
 ·exact a .i64 v.o (aaE h.o)
 ·exact a .u64 v.seq (xk h.seq)
 ·exact a .u64 (v.bB 0) (xk (h.bB 0 (by decide)))
 ·exact a .u64 (v.bB 1) (xk (h.bB 1 (by decide)))
 ·exact a .u64 (v.bB 2) (xk (h.bB 2 (by decide)))
 ·exact a .u64 (v.bB 3) (xk (h.bB 3 (by decide)))
 ·exact a .u64 (v.bB 4) (xk (h.bB 4 (by decide)))
 ·exact a .u64 (v.bB 5) (xk (h.bB 5 (by decide)))
 ·exact a .u8 v.aI (axU h.aI)
 ·exact a .u64 v.node (xk h.node)
 ·exact a .i64 v.dst (aaE h.dst)
 ·exact a .i64 v.bF (aaE h.bF)
 ·exact a .u64 v.bK (xk h.bK)
 ·exact a .u64 v.of (xk h.of)
 omega
def Eo(v:dA):Bool:=(List.range 6).all fun i=>decide (v.bB i<1099511627776)
def zx(v:dA):Bool:=decide (v.node=(oN v).node)&&decide (v.dst=(oN v).dst)&&decide (v.bF=(oN v).bF)&&decide (v.bK=(oN v).bK)&&decide (v.of=(oN v).of)
def dG(v:dA):Bool:=uM v.o&&decide (1<=v.seq)&&decide (v.seq<1099511627776)&&decide (v.bB (v.o-1).toNat=v.seq-1)&&Eo v&&zx v&&eU v
theorem aaV(v:dA):(oN v).o=v.o/\(oN v).seq=v.seq/\(oN v).bB=v.bB/\(oN v).aI=v.aI:=by
 grind [oN]
theorem Gt(v:dA):zx v=true <-> ∀ i,i<14->dH v i=dH (oN v) i:=by
 obtain⟨f,g,j,k⟩:=aaV v;unfold zx;simp only[Q_,decide_eq_true_eq];constructor
 ·rintro ⟨⟨⟨⟨a,b⟩,c⟩,d⟩,e⟩ i r;have:oN v=v:=by
   cases hv:oN v with
   | mk o seq bB aI node dst bF bK of =>
     rw[hv]at f g j k a b c d e
     cases v; simp_all
  rw[this]
 intro h;have q:Value.int .u64 v.node=aG (oN v).node:=h 9 (by decide);have l:Value.int .i64 v.dst=av (oN v).dst:=h 10 (by decide);have m:Value.int .i64 v.bF=av (oN v).bF:=h 11 (by decide);have n:Value.int .u64 v.bK=aG (oN v).bK:=h 12 (by decide);have p:Value.int .u64 v.of=aG (oN v).of:=h 13 (by decide)
 simp_all
theorem gY(h:uM a=true) : ∃ i:Nat,i<6/\a=(i:Int)+1:=by
 unfold uM at h; simp at h;obtain⟨i,b⟩:=Int.eq_ofNat_of_zero_le (show 0<=a-1 by omega)
 grind
theorem MH{v:dA}(a:k<6)(h:1099511627776<=v.bB k):Eo v=false:=by
 grind [Eo]
theorem Al{v:dA}(a : ¬ (k:Int)<6)(h : ∀ i,i<k->v.bB i<1099511627776):Eo v=true:=by
 grind [Eo]
theorem YH{v:dA}(h : ∀ i,i<k->v.bB i<1099511627776)(a:v.bB k<1099511627776) : ∀ i,i<k+1->v.bB i<1099511627776:=fun i b=>by
 by_cases e:i=k
 ·subst e; exact a
 ·exact h i (by omega)
theorem kM{v:dA}(h:dG v=true):uM v.o=true:=by
 grind [dG]
end Rt
set_option maxHeartbeats 2000000 in
theorem MI(v:dA)(w:World)(D:jB v) :
 Calls prog 57 #[.agg (aA 14 (dH v))] w fun e w'=>e = .returned (.bool (dG v))/\Below w.heap.size w w':=by
 refine bX func57 47 ?_;refine ay<|oq fun m w1 Q q s1 z1 =>have t:=bL s1.bP (Below.refl w.heap.size w);have tJ:=iy Q;have vB:=q.lt;au aD<|aC<|aQ<|aQ ?_;refine rA<|bI (pt m)<|Qv (av v.o) (fun c b=>aR (q.cb b) 0) ?_;by_cases j:(uM v.o)=true
 ·obtain⟨a,ha,ea⟩:=gY j;refine BA (fun _ _=>Fe v.o _) aH (by rw[j])<|bI aD<|bI aD<|bI (pf m 1)<|Qv (aG v.seq) (fun c b=>aR (q.cb b) 1) ?_;by_cases F:v.seq<1
  ·refine Qv aH (fun c b=>fK F)<|bI aH<|bI aH<|bD<|bD<|bD<|bI aH<|bI aH<|bD<|bD<|bD<|bD<|bD<|bD<|bD<|bD<|bD<|bD<|bI aH<|Qn ?_;intro OC R;have⟨d,J⟩:=fB R q t;refine sN<|aP<|ay<|au aD<|aC<|Wr<|sR<|aK aD<|have d:decide (1<=v.seq)=false:=g_ (by omega);⟨gN (Eq.symm (by unfold dG; rw[j,d]; rfl)),J⟩
  refine Qv aD (fun c b=>fM F)<|bI aD<|bI aD<|bI (pf m 1)<|Qv (aG v.seq) (fun c b=>aR (q.cb b) 1) ?_;by_cases G:1099511627776<=v.seq
  ·refine Qv aH (fun c b=>mW G)<|bI aH<|bI aH<|bD<|bD<|bD<|bD<|bD<|bD<|bD<|bD<|bD<|bD<|bI aH<|Qn ?_;intro wb2 S;have⟨l,K⟩:=fB S q t;refine sN<|aP<|ay<|au aD<|aC<|Wr<|sR<|aK aD<|have d:decide (1<=v.seq)=true:=f_ (by omega);have l:decide (v.seq<1099511627776)=false:=g_ (by omega);⟨gN (Eq.symm (by unfold dG; rw[j,d,l]; rfl)),K⟩
  refine Qv aD (fun c b=>mM G)<|bI aD<|bI aD<|bI (pt m)<|Qv (av v.o) (fun c b=>aR (q.cb b) 0)<|Qv (av a) (fun c b=>jK)<|bI (pf m 2)<|Qv (pf m (a+2)) (fun c b=>jh 6 1)<|Qv (aG (v.bB a)) (fun c b=>aR (q.cb b) (a+2) (rD _ (by omega) (by omega)))<|bI (pf m 1)<|Qv (aG v.seq) (fun c b=>aR (q.cb b) 1)<|Qv (aG (v.seq-1)) (fun c b=>jK) ?_;by_cases r:(v.bB a)=(v.seq-1)
  ·refine Qv aD (fun c b=>kr r)<|bI aD<|Qn ?_;intro wb3 T;have⟨p,L⟩:=fB T q t;refine sN<|aL<|Wk<|sN<|aQ<|ay<|au (av 0)<|aC<|Wb<|Wo (fun f H => ∃ k:Nat,k<=6/\(∀ i,i<k->v.bB i<1099511627776)/\f 1=(pt m)/\f 3=av (k:Int)/\aM H m 14 (dH v) 30/\Below w.heap.size w H) (fun f _=>(6-(intOf (f 3)).toNat)) ⟨0,by omega,(fun i h=>L_ h (by omega)),(by rfl),ic,p,L⟩ ?_;rintro f1 w2 ⟨k,hk,C,A,B,g,u⟩;refine aQ<|ay<|bA B ?_;by_cases x:(k:Int)<6
   ·refine Lv aH (fK x)<|aC<|aP<|Wk<|sN<|aQ<|Wb<|ay<|bA B<|Lv (pf m 2) (iO A 2)<|Lv (pf m (k+2)) (jh 6 1)<|Lv (aG (v.bB k)) (aR g.aJ (k+2) (rD _ (by omega) (by omega))) ?_;by_cases E:1099511627776<=(v.bB k)
    ·refine Lv aH (mW E)<|aC<|aP<|ay<|au aD<|aC<|Wr<|bO<|sR<|oG<|bO<|sR<|aK aD<|have d:decide (1<=v.seq)=true:=f_ (by omega);have l:decide (v.seq<1099511627776)=true:=f_ (by omega);have p:decide (v.bB (v.o-1).toNat=v.seq-1)=true:=f_ (by rw[show(v.o-1).toNat=a by omega]; exact r);have g:=MH (by omega) E;⟨gN (Eq.symm (by unfold dG; rw[j,d,l,p,g]; rfl)),u⟩
    refine Lv aD (mM E)<|aC<|aL<|Wk<|bS<|sN<|Wl<|bA B<|Lv (av ((k:Int)+1)) gu<|au (av ((k:Int)+1))<|Ln<|iA ⟨k+1,by omega,(YH C (by omega)),A,ic,g,u⟩ ?_;show(6-(intOf (av ((k:Int)+1))).toNat)<_;simp only[B,intOf]; omega
   refine Lv aD (fM x)<|aC<|aL<|Wx<|cZ<|iC<|dB<|sN<|aQ<|rA<|Qv (.agg (aA 14 (dH v))) (fun c b=>dZ (g.cb b) 0 (ha:=A))<|Qv (.agg (aA 14 (dH v))) (fun c b=>dZ (g.cb b) 0 (ha:=A))<|zo (fun _ _=>aqZ v _) _ rfl ?_;by_cases y : ∀ i,i<14->(dH v) i=(dH (oN v)) i
   ·refine Qv aH (fun c b=>qY (n:=14) (ks := [(some .i64),(some .u64),(some .u64),(some .u64),(some .u64),(some .u64),(some .u64),(some .u64),(some .u8),(some .u64),(some .i64),(some .i64),(some .u64),(some .u64)]) (X:=dH v) (Y:=dH (oN v)) 12 true rfl rfl rfl (E5 y) (HZ D) (HZ D.own) rfl (by kernel_rfl))<|bI aH<|Qv (.agg (aA 14 (dH v))) (fun c b=>dZ (g.cb b) 0 (ha:=A)) ?_;by_cases z:(eU v)=true
    ·refine zo (fun _ _=>QG v _) aH (by rw[z])<|bI aH<|bI aH<|Qn ?_;intro wb4 U;have⟨s,M⟩:=fB U g u;refine sN<|Wr<|aK aH<|have d:decide (1<=v.seq)=true:=f_ (by omega);have l:decide (v.seq<1099511627776)=true:=f_ (by omega);have p:decide (v.bB (v.o-1).toNat=v.seq-1)=true:=f_ (by rw[show(v.o-1).toNat=a by omega]; exact r);have g:=Al x C;have s:=(Gt v).2 y;⟨gN (Eq.symm (by unfold dG; rw[j,d,l,p,g,s,z]; rfl)),M⟩
    rw[R_]at z;refine zo (fun _ _=>QG v _) aD (by rw[z])<|bI aD<|bI aD<|Qn ?_;intro wb5 V;have N:=bL V u;refine sN<|Wr<|aK aD<|have d:decide (1<=v.seq)=true:=f_ (by omega);have l:decide (v.seq<1099511627776)=true:=f_ (by omega);have p:decide (v.bB (v.o-1).toNat=v.seq-1)=true:=f_ (by rw[show(v.o-1).toNat=a by omega]; exact r);have g:=Al x C;have s:=(Gt v).2 y;⟨gN (Eq.symm (by unfold dG; rw[j,d,l,p,g,s,z]; rfl)),N⟩
   refine Qv aD (fun c b=>qY (n:=14) (ks := [(some .i64),(some .u64),(some .u64),(some .u64),(some .u64),(some .u64),(some .u64),(some .u64),(some .u8),(some .u64),(some .i64),(some .i64),(some .u64),(some .u64)]) (X:=dH v) (Y:=dH (oN v)) 12 false rfl rfl rfl (nob y) (HZ D) (HZ D.own) rfl (by kernel_rfl))<|bI aD<|bD<|bD<|bI aD<|bI aD<|Qn ?_;intro wb6 W;have O:=bL W u;refine sN<|Wr<|aK aD<|have d:decide (1<=v.seq)=true:=f_ (by omega);have l:decide (v.seq<1099511627776)=true:=f_ (by omega);have p:decide (v.bB (v.o-1).toNat=v.seq-1)=true:=f_ (by rw[show(v.o-1).toNat=a by omega]; exact r);have g:=Al x C;have s:zx v=false:=Bool.eq_false_iff.2 (fun h=>y ((Gt v).1 h));⟨gN (Eq.symm (by unfold dG; rw[j,d,l,p,g,s]; rfl)),O⟩
  refine Qv aH (fun c b=>mO r)<|bI aH<|Qn ?_;intro wb7 Z;have P:=bL Z t;refine sN<|aP<|ay<|au aD<|aC<|Wr<|sR<|aK aD<|have d:decide (1<=v.seq)=true:=f_ (by omega);have l:decide (v.seq<1099511627776)=true:=f_ (by omega);have p:decide (v.bB (v.o-1).toNat=v.seq-1)=false:=g_ (by rw[show(v.o-1).toNat=a by omega]; exact r);⟨gN (Eq.symm (by unfold dG; rw[j,d,l,p]; rfl)),P⟩
 rw[R_]at j;refine BA (fun _ _=>Fe v.o _) aD (by rw[j])<|bI aH<|bI aH<|bD<|bD<|bD<|bI aH<|bI aH<|bD<|bD<|bD<|bI aH<|bI aH<|bD<|bD<|bD<|bD<|bD<|bD<|bD<|bD<|bD<|bD<|bI aH<|Qn ?_;intro wb8 aa;have I:=bL aa t;refine sN<|aP<|ay<|au aD<|aC<|Wr<|sR<|aK aD<|⟨gN (Eq.symm (by unfold dG; rw[j]; rfl)),I⟩
namespace Rt
def qG(K:Nat->Int)(v:dA):Bool:=dG v&&decide (v.seq<=K (v.o-1).toNat)
def BS(D K:Nat->Int):Bool:=(List.range 6).all fun i=>decide (D i<=K i)
def fq(K:Nat->Int)(v:dA):Bool:=dG v&&decide (v.seq=K (v.o-1).toNat+1)&&BS v.bB K
theorem aaX{K:Nat->Int}(a:k<6)(h:K k<X k):BS X K=false:=by
 unfold BS; rw[List.all_eq_false]; exact⟨k,N_.2 a,by simp; omega⟩
theorem YI{K:Nat->Int}(b : ¬ (k:Int)<6)(h : ∀ i,i<k->X i<=K i):BS X K=true:=by
 unfold BS; rw[List.all_eq_true]; intro i a; have:=N_.1 a; simp; exact h i (by omega)
theorem agN{K:Nat->Int}(h : ∀ i,i<k->X i<=K i)(b : ¬ K k<X k) : ∀ i,i<k+1->X i<=K i:=fun i a=>by
 by_cases e:i=k
 ·subst e; omega
 ·exact h i (by omega)
def J4(K:Nat->Int):Prop := ∀ i,i<6->0<=K i/\K i<1099511627776
theorem Jh{v:dA}(h:dG v=true):1<=v.seq/\v.seq<1099511627776:=by
 unfold dG at h; simp only[Q_,decide_eq_true_eq]at h; exact⟨h.1.1.1.1.1.2,h.1.1.1.1.2⟩
end Rt
theorem aaY(K:Nat->Int)(v:dA)(w:World)(m:jB v) :
 Calls prog 58 #[.agg (aA 6 (rv .u64 K)),.agg (aA 14 (dH v))] w fun e w'=>e = .returned (.bool (qG K v))/\Below w.heap.size w w':=by
 refine bX func58 17 ?_;refine ay<|oq fun s w1 r i z M =>have j:=bL z.bP (Below.refl w.heap.size w);have D:=iy r;have G:=i.lt;oq fun l w2 k c A N => ?_;have⟨y,h⟩:=fB A.bP i j;have E:=gQ k j.size;have F:=gD k i.lt;have H:=c.lt;refine au aD<|aC<|aQ<|rA<|Qv (.agg (aA 14 (dH v))) (fun f b=>dZ (c.cb b) 0) ?_;by_cases d:(dG v)=true
 ·obtain⟨a,C,B⟩:=gY (kM d);refine zo (fun _ _=>MI _ _ m) aH (by rw[d])<|bI aH<|bI (pf l 1)<|Qv (aG v.seq) (fun f b=>aR (c.cb b) 1)<|bI (pt l)<|Qv (av v.o) (fun f b=>aR (c.cb b) 0)<|Qv (av a) (fun f b=>jK)<|Qv (pf s a) (fun f b=>jh 6 1)<|Qv (aG (K a)) (fun f b=>aR (y.cb b) a) ?_;by_cases g:v.seq<=(K a)
  ·refine Qv aH (fun f b=>xq g)<|bI aH<|bI aH<|Qn ?_;intro I t;have n:=bL t h;refine sN<|Wr<|aK aH<|have c:decide (v.seq<=K (v.o-1).toNat)=true:=f_ (by rw[show(v.o-1).toNat=a by omega]; exact g);⟨gN (Eq.symm (by unfold qG; rw[d,c]; rfl)),n⟩
  refine Qv aD (fun f b=>yg g)<|bI aD<|bI aD<|Qn ?_;intro J u;have p:=bL u h;refine sN<|Wr<|aK aD<|have c:decide (v.seq<=K (v.o-1).toNat)=false:=g_ (by rw[show(v.o-1).toNat=a by omega]; exact g);⟨gN (Eq.symm (by unfold qG; rw[d,c]; rfl)),p⟩
 rw[R_]at d;refine zo (fun _ _=>MI _ _ m) aD (by rw[d])<|bI aD<|bD<|bD<|bD<|bD<|bD<|bD<|bD<|bD<|bI aD<|bI aD<|Qn ?_;intro L x;have q:=bL x h;refine sN<|Wr<|aK aD<|⟨gN (Eq.symm (by unfold qG; rw[d]; rfl)),q⟩
theorem WG(K:Nat->Int)(v:dA)(w:World)(H:jB v)(R:J4 K) :
 Calls prog 59 #[.agg (aA 6 (rv .u64 K)),.agg (aA 14 (dH v))] w fun e w'=>e = .returned (.bool (fq K v))/\Below w.heap.size w w':=by
 refine bX func59 32 ?_;refine ay<|oq fun s w1 Q A s1 z1 =>have C:=bL s1.bP (Below.refl w.heap.size w);have tJ:=iy Q;have vB:=A.lt;oq fun l w2 D d s2 z2 => ?_;have⟨m,t⟩:=fB s2.bP A C;have xw:=gQ D C.size;have BP:=gD D A.lt;have zR:=d.lt;refine au aD<|aC<|aQ<|aQ<|rA<|Qv (.agg (aA 14 (dH v))) (fun c b=>dZ (d.cb b) 0) ?_;by_cases g:(dG v)=true
 ·obtain⟨a,S,ea⟩:=gY (kM g);have ka:=R a S;refine zo (fun _ _=>MI _ _ H) aH (by rw[g])<|bI aD<|bI aD<|bI (pf l 1)<|Qv (aG v.seq) (fun c b=>aR (d.cb b) 1)<|bI (pt l)<|Qv (av v.o) (fun c b=>aR (d.cb b) 0)<|Qv (av a) (fun c b=>jK)<|Qv (pf s a) (fun c b=>jh 6 1)<|Qv (aG (K a)) (fun c b=>aR (m.cb b) a)<|Qv (aG ((K a)+1)) (fun c b=>gu) ?_;by_cases n:v.seq=((K a)+1)
  ·refine Qv aD (fun c b=>kr n)<|bI aD<|Qn ?_;intro OC T;have⟨Y,Z,L⟩:=iP T m d t;refine sN<|aL<|Wk<|sN<|aQ<|ay<|au (av 0)<|aC<|Wb<|Wo (fun f B => ∃ k:Nat,k<=6/\(∀ i,i<k->v.bB i<=K i)/\f 2=(pt s)/\f 3=(pt l)/\f 5=av (k:Int)/\aM B s 6 (rv .u64 K) 28/\aM B l 14 (dH v) 30/\Below w.heap.size w B) (fun f _=>(6-(intOf (f 5)).toNat)) ⟨0,by omega,(fun i h=>L_ h (by omega)),(by rfl),(by rfl),ic,Y,Z,L⟩ ?_;rintro f1 j ⟨k,hk,G,E,F,p,I,J,u⟩;refine aQ<|ay<|bA p ?_;by_cases x:(k:Int)<6
   ·refine Lv aH (fK x)<|aC<|aP<|Wk<|sN<|aQ<|Wb<|aQ<|zu<|iL p<|Qv (pf l 2) (fun c b=>iO F 2)<|Qv (pf l (k+2)) (fun c b=>jh 6 1)<|Qv (aG (v.bB k)) (fun c b=>aR (J.aJ.dr b) (k+2) (rD _ (by omega) (by omega)))<|iL p<|Qv (pf s k) (fun c b=>jh 6 1 (hx:=E))<|Qv (aG (K k)) (fun c b=>aR (I.aJ.dr b) k) ?_;by_cases r:(K k)<(v.bB k)
    ·refine Qv aH (fun c b=>lK r)<|Qn ?_;rintro _ ⟨q,rfl⟩;obtain⟨IC,y⟩ : ∃ c,c=World.drewN j q:=⟨_,rfl⟩;rw[<- y];have s4:eG j.heap.size j IC:=(by rw[y]; exact Sb (kQ j q));have M:=bL s4.bP u;clear y;refine sN<|aP<|ay<|au aD<|aC<|Wr<|bO<|sR<|oG<|bO<|sR<|aK aD<|have d:decide (v.seq=K (v.o-1).toNat+1)=true:=f_ (by rw[show(v.o-1).toNat=a by omega]; exact n);have m:=aaX (by omega) r;⟨gN (Eq.symm (by unfold fq; rw[g,d,m]; rfl)),M⟩
    refine Qv aD (fun c b=>lM r)<|Qn ?_;rintro _ ⟨q,rfl⟩;obtain⟨Ma,z⟩ : ∃ c,c=World.drewN j q:=⟨_,rfl⟩;rw[<- z];have s5:eG j.heap.size j Ma:=(by rw[z]; exact Sb (kQ j q));have⟨W,X,N⟩:=iP s5.bP I J u;clear z;refine sN<|aL<|Wk<|bS<|sN<|Wl<|bA p<|Lv (av ((k:Int)+1)) gu<|au (av ((k:Int)+1))<|Ln<|iA ⟨k+1,by omega,(agN G r),E,F,ic,W,X,N⟩ ?_;show(6-(intOf (av ((k:Int)+1))).toNat)<_;simp only[p,intOf]; omega
   refine Lv aD (fM x)<|aC<|aL<|Wx<|cZ<|iC<|dB<|sN<|ay<|au aH<|aC<|Wr<|aK aH<|have d:decide (v.seq=K (v.o-1).toNat+1)=true:=f_ (by rw[show(v.o-1).toNat=a by omega]; exact n);have m:=YI x G;⟨gN (Eq.symm (by unfold fq; rw[g,d,m]; rfl)),u⟩
  refine Qv aH (fun c b=>mO n)<|bI aH<|Qn ?_;intro wb2 U;have O:=bL U t;refine sN<|aP<|ay<|au aD<|aC<|Wr<|sR<|aK aD<|have d:decide (v.seq=K (v.o-1).toNat+1)=false:=g_ (by rw[show(v.o-1).toNat=a by omega]; exact n);⟨gN (Eq.symm (by unfold fq; rw[g,d]; rfl)),O⟩
 rw[R_]at g;refine zo (fun _ _=>MI _ _ H) aD (by rw[g])<|bI aH<|bI aH<|bD<|bD<|bD<|bD<|bD<|bD<|bD<|bD<|bD<|bI aH<|Qn ?_;intro wb3 V;have P:=bL V t;refine sN<|aP<|ay<|au aD<|aC<|Wr<|sR<|aK aD<|⟨gN (Eq.symm (by unfold fq; rw[g]; rfl)),P⟩
end Go.Proofs.YtabjalhnkndjaaaGreatDoor
namespace Go.Proofs.YtabjalhnkndjaaaGreatDoor.Fx
open Go.RowKit Go.MapKept
def Mp(w:World)(b n:Nat)(key:Nat->Int)(val:Nat->Value):Prop :=
 ∃ a c,w.heap[b]? = some (.map a c)/\Stamped a c/\a.size=n /\ ∀ i,i<n -> ∃ e,a[i]? = some e/\e.key = .int .u64 (key i)/\e.val=val i
def aZ{a:Type}(f:Nat->a)(j:Nat)(v:a):Nat->a:=fun i=>if i=j then v else f i
section
variable {w w':World} {b n:Nat} {key:Nat->Int} {val:Nat->Value}
theorem Mp.lt(h:Mp w b n key val):b<w.heap.size:=by
 obtain⟨a,c,h,_⟩:=h
 grind
theorem Mp.rT(h:Mp w b n key val)(e:w'.heap[b]? = w.heap[b]?):Mp w' b n key val:=by
 obtain⟨a,c,d,f⟩:=h;exact⟨a,c,e.trans d,f⟩
theorem Mp.cK(h:Mp w b n key val)(a:eG m w w')(c:b≠m:=by omega):Mp w' b n key val:=by grind [h.rT,a.block,h.lt]
theorem Mp.up(h:Mp w b n key val)(a:Below w.heap.size w w'):Mp w' b n key val:=h.rT (a.block b h.lt)
instance:Rt.Tr w w' (Mp w b n key val) (Mp w' b n key val):=⟨fun b h=>h.up b⟩
theorem Mp.xK(h:Mp w b n key val)(a:Ty w b T):False:=by
 obtain⟨d,c,h,_⟩:=h;obtain⟨cs,a⟩:=a
 simp_all
theorem Mp.nA{Ts:List TypeId}(h:Mp w b n key val)(a:jk Ts w w')(_:True):Mp w' b n key val:=by grind [h.rT,a.block,h.lt,h.xK]
instance {Ts:List TypeId}:Rt.Tc Ts w w' (Mp w b n key val) (Mp w' b n key val) true:=⟨fun b h _=>h.nA b trivial⟩
theorem Mp.ne(h:Mp w b n key val)(a:Ty w m T):m≠b:=by grind [h.xK]
theorem Mp.qU(h:Mp w b n key val)(e : ∀ i,i<n->key i=X i/\val i=x i):Mp w b n X x:=by
 obtain⟨f,c,g,j,k,l⟩:=h;exact⟨f,c,g,j,k,fun i m=>by
  simp_all⟩
theorem Mp.inj(h:Mp w b n key val) : ∀ i j,i<n->j<n->key i=key j->i=j:=fun i j t u e=>by
 obtain⟨g,c,_,⟨_,_,v⟩,hn,hg⟩:=h;obtain⟨x,d,q,_⟩:=hg i t;obtain⟨y,f,r,_⟩:=hg j u;rw[t_]at d f;obtain⟨m,d⟩:=d;obtain⟨o,f⟩:=f;have z:=List.pairwise_iff_getElem.1 v;have p : ∀ a c (k:a<g.size) (l:c<g.size),a<c->g[a].key≠g[c].key:=fun a c k l s=>by
  have:=z a c (by simpa using k) (by simpa using l) s
  simpa only[List.getElem_map,Array.getElem_toList] using this
 rcases Nat.lt_trichotomy i j with h1|h1|h1
 ·exact L_ (by rw[d,f,q,r,e]) (p i j m o h1)
 ·exact h1
 ·exact L_ (by rw[d,f,q,r,e]) (p j i o m h1)
end
section
variable {P:Program} {f:Nat->Value} {w:World} {o:Oper}
variable {b n:Nat} {key:Nat->Int} {val:Nat->Value}
theorem Mp.find(h:Mp w b n key val){a:Array MapEntry}(o:w.heap[b]? = some (.map a m))(k:Int) :
 (Instr.findNow (.int .u64) (.int .u64 k) a.toList 0=some none /\ ∀ i,i<n->key i≠k) \/ ∃ j,j<n/\key j=k/\Instr.findNow (.int .u64) (.int .u64 k) a.toList 0=some (some (j,val j)):=by
 obtain⟨e,d,f,g,l,c⟩:=h
 grind [IsKey,List.getElem_of_mem,findNow_spec]
theorem uH{ok:Bool}(h:Mp w b n key val)(o:P.underlying T=some (.map O E))(l:P.underlying O=some (.int .u64))(v:(zeroValue E).run P w = .ok c w) :
 ((∀ i,i<n->key i≠a)->(Instr.lookup T (.map (some b)) (.int .u64 a) ok).run P w = .ok (if ok then .tuple #[c,.bool false]else c) w) /\
 ∀ j,j<n->key j=a->(Instr.lookup T (.map (some b)) (.int .u64 a) ok).run P w = .ok (if ok then .tuple #[val j,.bool true]else val j) w:=by
 have t:=h;obtain⟨q,K,d,_⟩:=t;have m:(Instr.checkKey q.isEmpty 10000 O (.int .u64 a)).run P w = .ok () w:=run_checkKey l (show IsKey (.int .u64) (.int .u64 a)from rfl) _ 9999
 rcases h.find d a with ⟨f,r⟩|⟨j,k,hkj,f⟩
 ·refine⟨fun _ => ?_,fun j k e=>L_ e (r j k)⟩;have g:=run_findKey (w:=w) l f;unfold Instr.lookup;simp only[Sem.run_bind,run_underlying o,Result.andThen_ok,Go.MapKept.run_getObj_map d,Sem.run_pure,m,g,v]
 refine⟨fun u=>L_ hkj (u j k),fun p s e => ?_⟩;obtain rfl:p=j:=h.inj p j s k (e.trans hkj.symm);have g:=run_findKey (w:=w) l f;unfold Instr.lookup;simp only[Sem.run_bind,run_underlying o,Result.andThen_ok,Go.MapKept.run_getObj_map d,Sem.run_pure,m,g]
theorem ahO{z:Value}(e:o.op = .lookup T p Y false)(hx:ev f p = .map (some b))(hi:ev f Y = .int .u64 d)(h:Mp w b n key val)(g:P.underlying T=some (.map O E))(c:P.underlying O=some (.int .u64))(j:(zeroValue E).run P w = .ok z w)(K : ∀ i,i<n->key i≠d):cB P f o w z:=by
 unfold cB execOp;simp only[e,hx,hi,Sem.run_bind,((uH (ok:=false) h g c j).1 K),Result.andThen_ok,Sem.run_pure]; rfl
theorem Df{z:Value}(g:o.op = .lookup T p Y false)(hx:ev f p = .map (some b))(hi:ev f Y = .int .u64 d)(h:Mp w b n key val)(i:P.underlying T=some (.map O E))(e:P.underlying O=some (.int .u64))(m:(zeroValue E).run P w = .ok z w)(K:j<n)(x:key j=d)(l:val j=c:=by rfl):cB P f o w c:=by
 subst l;unfold cB execOp;simp only[g,hx,hi,Sem.run_bind,((uH (ok:=false) h i e m).2 j K x),Result.andThen_ok,Sem.run_pure]; rfl
theorem Ch{z:Value}(e:o.op = .lookup T p Y true)(hx:ev f p = .map (some b))(hi:ev f Y = .int .u64 d)(h:Mp w b n key val)(g:P.underlying T=some (.map O E))(c:P.underlying O=some (.int .u64))(j:(zeroValue E).run P w = .ok z w)(K : ∀ i,i<n->key i≠d):cB P f o w (.tuple #[z,.bool false]):=by
 grind [execOp,Sem.run_bind,uH,Result.andThen_ok,Sem.run_pure]
theorem Ci{z:Value}(g:o.op = .lookup T p Y true)(hx:ev f p = .map (some b))(hi:ev f Y = .int .u64 d)(h:Mp w b n key val)(i:P.underlying T=some (.map O E))(e:P.underlying O=some (.int .u64))(m:(zeroValue E).run P w = .ok z w)(K:j<n)(x:key j=d)(l:val j=c:=by rfl):cB P f o w (.tuple #[c,.bool true]):=by
 subst l;unfold cB execOp;simp only[g,hx,hi,Sem.run_bind,((uH (ok:=true) h i e m).2 j K x),Result.andThen_ok,Sem.run_pure]; rfl
end
section
variable {P:Program} {w:World} {b n:Nat} {key:Nat->Int} {val:Nat->Value}
theorem Pn{o o':Obj}(d:w.heap[b]? = some o):({ w with heap:=w.heap.setIfInBounds b o' }:World).heap[b]? = some o'/\eG b w { w with heap:=w.heap.setIfInBounds b o' }/\({ w with heap:=w.heap.setIfInBounds b o' }:World).heap.size=w.heap.size:=by
 obtain⟨a,c⟩:=heap_set (o':=o') d;exact⟨a,⟨rfl,rfl,rfl,by simp,fun k _ e=>c k e⟩,by simp⟩
theorem D8{v:Value}(h:Mp w b n key val)(B:P.underlying T=some (.map O E))(p:P.underlying O=some (.int .u64)) :
 (∀ j,j<n->key j=a -> ∃ w',(Instr.mapUpdate T (.map (some b)) (.int .u64 a) v).run P w = .ok () w'/\Mp w' b n key (aZ val j v)/\eG b w w'/\w'.heap.size=w.heap.size) /\
 ((∀ i,i<n->key i≠a) -> ∃ w',(Instr.mapUpdate T (.map (some b)) (.int .u64 a) v).run P w = .ok () w'/\Mp w' b (n+1) (aZ key n a) (aZ val n v)/\eG b w w'/\w'.heap.size=w.heap.size):=by
 have G:=h;obtain⟨f,c,k,u,l,z⟩:=G;have A:(Instr.checkKey false 10000 O (.int .u64 a)).run P w = .ok () w:=run_checkKey p (show IsKey (.int .u64) (.int .u64 a)from rfl) _ 9999
 rcases h.find k a with ⟨m,C⟩|⟨j,g,hkj,m⟩
 ·refine⟨fun j g e=>L_ e (C j g),fun _ => ?_⟩;have o:=run_findKey (w:=w) p m;obtain⟨r,s,t⟩:=Pn (o' := .map (f.push { key := .int .u64 a,val:=v,born:=c }) (c+1)) k;have q:(Instr.mapUpdate T (.map (some b)) (.int .u64 a) v).run P w = .ok () { w with heap:=w.heap.setIfInBounds b (.map (f.push { key := .int .u64 a,val:=v,born:=c }) (c+1)) }:=by
   unfold Instr.mapUpdate;simp only[Sem.run_bind,run_underlying B,Result.andThen_ok,Go.MapKept.run_getObj_map k,A,o];exact run_setObj_map _ k
  refine⟨_,q,⟨_,_,r,stamped_push u fun x J e => ?_,by simp[l],fun i D => ?_⟩,s,t⟩
  ·grind [List.getElem_of_mem]
  by_cases e:i=n
  ·subst e;refine⟨_,by rw[Array.getElem?_push,d_ l.symm],?_,?_⟩
   ·grind [aZ]
   grind [aZ]
  obtain⟨y,L,M,N⟩:=z i (by omega)
  grind [aZ]
 refine⟨fun d F e => ?_,fun H=>L_ hkj (H j g)⟩;obtain rfl:d=j:=h.inj d j F g (e.trans hkj.symm);have o:=run_findKey (w:=w) p m;obtain⟨y,L,M,N⟩:=z d g;obtain⟨r,s,t⟩:=Pn (o' := .map (f.modify d fun e => { e with key := .int .u64 a,val:=v }) c) k;have I:(Instr.keyThatStays (((f[d]?).map (·.key)).getD (.int .u64 a)) (.int .u64 a)).run P w = .ok (.int .u64 a) w:=by
  simp_all [Instr.keyThatStays,Instr.sameBits]
 have q:(Instr.mapUpdate T (.map (some b)) (.int .u64 a) v).run P w = .ok () { w with heap:=w.heap.setIfInBounds b (.map (f.modify d fun e => { e with key := .int .u64 a,val:=v }) c) }:=by
  unfold Instr.mapUpdate;simp only[Sem.run_bind,run_underlying B,Result.andThen_ok,Go.MapKept.run_getObj_map k,A,o,I];exact run_setObj_map _ k
 refine⟨_,q,⟨_,_,r,stamped_modify u d _ (fun _ _=>rfl) (fun x _ J => ?_),by simp[l],fun i D => ?_⟩,s,t⟩
 ·simp_all
 grind [aZ]
end
def It(w:World)(r b n:Nat)(S:Nat->Bool):Prop :=
 ∃ a d c g f,w.heap[b]? = some (.map a d)/\w.heap[r]? = some (.mapIter (some b) c g f)/\(∀ x∈a.toList,x.born<c)/\c<=f/\a.size=n/\(∀ x∈a.toList,x.born<d)/\c<=d/\(∀(i j:Nat) (x y:MapEntry),a[i]? = some x->a[j]? = some y->x.born=y.born->i=j) /\ ∀ i,i<n -> ∃ e,a[i]? = some e/\g.contains e.born=S i
section
variable {w w':World} {r b n:Nat} {S:Nat->Bool}
theorem It.lt(h:It w r b n S):r<w.heap.size:=by
 obtain⟨d,c,s,e,a,_,h,_⟩:=h
 grind
theorem It.yC(h:It w r b n S):b<w.heap.size:=by
 obtain⟨d,c,s,e,a,h,_⟩:=h
 grind
theorem It.rT(h:It w r b n S)(e:w'.heap[b]? = w.heap[b]?)(d:w'.heap[r]? = w.heap[r]?):It w' r b n S:=by
 obtain⟨f,c,s,k,a,g,i,j⟩:=h;exact⟨f,c,s,k,a,e.trans g,d.trans i,j⟩
theorem It.up(h:It w r b n S)(a:Below w.heap.size w w'):It w' r b n S:=by grind [h.rT,a.block,h.yC,h.lt]
instance:Rt.Tr w w' (It w r b n S) (It w' r b n S):=⟨fun b h=>h.up b⟩
theorem It.xK(h:It w r b n S)(a:Ty w r T):False:=by
 obtain⟨e,c,s,f,d,_,h,_⟩:=h;obtain⟨cs,a⟩:=a
 simp_all
theorem It.acE(h:It w r b n S)(a:Ty w b T):False:=by
 obtain⟨e,c,s,f,d,h,_⟩:=h;obtain⟨cs,a⟩:=a
 simp_all
theorem It.nA{Ts:List TypeId}(h:It w r b n S)(a:jk Ts w w')(_:True):It w' r b n S:=by grind [h.rT,a.block,h.yC,h.acE,h.lt,h.xK]
instance {Ts:List TypeId}:Rt.Tc Ts w w' (It w r b n S) (It w' r b n S) true:=⟨fun b h _=>h.nA b trivial⟩
theorem It.rb(h:It w r b n S):r≠b:=fun e=>by
 obtain⟨g,c,s,i,f,d,a,_⟩:=h;rw[e,d]at a; cases a
end
def EW(w:World)(r b i:Nat):Prop :=
 ∃ a c f d e,w.heap[b]? = some (.map a c)/\w.heap[r]? = some (.mapIter (some b) f (Array.push d e.born) c)/\a[i]? = some e/\(a.toList.map (·.born)).Nodup
section
variable {w w':World} {r b i:Nat}
theorem EW.lt(h:EW w r b i):r<w.heap.size:=by
 obtain⟨a,c,s,d,e,_,h,_⟩:=h
 grind
theorem EW.yC(h:EW w r b i):b<w.heap.size:=by
 obtain⟨a,c,s,d,e,h,_⟩:=h
 grind
theorem EW.rT(h:EW w r b i)(e:w'.heap[b]? = w.heap[b]?)(a:w'.heap[r]? = w.heap[r]?):EW w' r b i:=by
 obtain⟨d,c,s,k,x,f,g,j⟩:=h;exact⟨d,c,s,k,x,e.trans f,a.trans g,j⟩
theorem EW.up(h:EW w r b i)(a:Below w.heap.size w w'):EW w' r b i:=by grind [h.rT,a.block,h.yC,h.lt]
instance:Rt.Tr w w' (EW w r b i) (EW w' r b i):=⟨fun b h=>h.up b⟩
theorem EW.xK(h:EW w r b i)(a:Ty w r T):False:=by
 obtain⟨d,c,s,f,e,_,h,_⟩:=h;obtain⟨cs,a⟩:=a
 simp_all
theorem EW.acE(h:EW w r b i)(a:Ty w b T):False:=by
 obtain⟨d,c,s,f,e,h,_⟩:=h;obtain⟨cs,a⟩:=a
 simp_all
theorem EW.nA{Ts:List TypeId}(h:EW w r b i)(a:jk Ts w w')(_:True):EW w' r b i:=by grind [h.rT,a.block,h.yC,h.acE,h.lt,h.xK]
instance {Ts:List TypeId}:Rt.Tc Ts w w' (EW w r b i) (EW w' r b i) true:=⟨fun b h _=>h.nA b trivial⟩
end
def Gf(w:World)(n:Nat)(pb:Nat->Nat)(s:Nat)(x:Nat->Nat->Value)(T:TypeId):Prop := ∀ i,i<n->aM w (pb i) s (x i) T
section
variable {w w':World} {n s:Nat} {pb:Nat->Nat} {x:Nat->Nat->Value} {T:TypeId}
end
def unseen(S:Nat->Bool):Nat->Nat
 | 0=>0
 | n+1=>unseen S n+if S n then 0 else 1
theorem D9(S:Nat->Bool)(i:Nat) : ∀ n,n<=i->unseen (aZ S i true) n=unseen S n
 | 0,_=>rfl
 | n+1,h=>by
   unfold unseen;rw[D9 S i n (by omega)]
   grind [aZ]
theorem um{S:Nat->Bool}{i:Nat}(a:S i=false) : ∀ n,i<n->unseen (aZ S i true) n+1=unseen S n
 | 0,h=>L_ h (z_ _)
 | n+1,h=>by
   unfold unseen;by_cases e:i=n
   ·grind [D9,aZ]
   ·have:aZ S i true n=S n:=(by grind [aZ]);rw[this,<- um a n (by omega)];omega
theorem run_makeMap'(t:TypeId)(w:World):(Instr.makeMap t none).run P w = .ok (.map (some w.heap.size)) (w.alloc (.map #[] 0)):=by rfl
section
variable {P:Program} {n0:Nat} {Q:kR} {f:Nat->Value} {w:World} {ops:Array Oper} {rest:List Oper} {o:Oper} {b n:Nat} {key:Nat->Int} {val:Nat->Value}
theorem L.anf{T K E:TypeId}{x c v:Operand}{k:Int}{u:Value}{j:Nat}(s:Region.wanted o (yf ops f)=true)(a:o.dst=none)(t:o.op = .mapUpdate T x c v)(hx:ev f x = .map (some b))(hi:ev f c = .int .u64 k)(z:ev f v=u)(h:Mp w b n key val)(r:P.underlying T=some (.map K E))(p:P.underlying K=some (.int .u64))(m:j<n)(l:key j=k)
 (i : ∀ w',Mp w' b n key (aZ val j u)->eG b w w'->w'.heap.size=w.heap.size->L P n0 ops Q rest f w'):L P n0 ops Q (o::rest) f w:=by
 obtain⟨w',y,d,e,g⟩:=(D8 (v:=u) h r p).1 j m l;have q:(execOp (ev f) o).run P w = .ok .skip w':=by
  grind [execOp,Sem.run_bind,Result.andThen_ok,Sem.run_pure]
 refine L.unit s q (by rw[a]; rfl) ?_;rw[a]; exact i w' d e g
theorem L.UU{T K E:TypeId}{x c v:Operand}{k:Int}{u:Value}(r:Region.wanted o (yf ops f)=true)(a:o.dst=none)(s:o.op = .mapUpdate T x c v)(hx:ev f x = .map (some b))(hi:ev f c = .int .u64 k)(y:ev f v=u)(h:Mp w b n key val)(q:P.underlying T=some (.map K E))(l:P.underlying K=some (.int .u64))(m : ∀ i,i<n->key i≠k)
 (j : ∀ w',Mp w' b (n+1) (aZ key n k) (aZ val n u)->eG b w w'->w'.heap.size=w.heap.size->L P n0 ops Q rest f w'):L P n0 ops Q (o::rest) f w:=by
 obtain⟨w',t,d,e,g⟩:=(D8 (v:=u) h q l).2 m;have p:(execOp (ev f) o).run P w = .ok .skip w':=by
  grind [execOp,Sem.run_bind,Result.andThen_ok,Sem.run_pure]
 refine L.unit r p (by rw[a]; rfl) ?_;rw[a]; exact j w' d e g
theorem L.Nq(e:Region.wanted o (yf ops f)=true)(b:dF n0 o.dst=true)(h:o.op = .makeMap T none)
 (a : ∀ g w',g=w.heap.size->Mp w' g 0 (fun _=>0) (fun _ => .pointer none)->eG w.heap.size w w'->w'.heap.size=w.heap.size+1->L P n0 ops Q rest (put f o.dst (.map (some g))) w'):L P n0 ops Q (o::rest) f w:=by
 have d:(execOp (ev f) o).run P w = .ok (.value (.map (some w.heap.size))) (w.alloc (.map #[] 0)):=by
  simp_all [execOp,run_makeMap']
 refine L.val e d b (a _ _ rfl ?_ (eG.alloc _ _) (by simp));exact⟨#[],0,by grind [iY],stamped_empty 0,rfl,fun i c=>L_ c (z_ _)⟩
theorem acF{Ts:Array TypeId}(g:o.op = .call { callee := .builtin .len,args := #[p],argTypes:=Ts })(e:Ts = #[T])(hx:ev f p = .map (some b))(h:Mp w b n key val)(i:P.underlying T=some (.map O E)):cB P f o w (.int .i64 n):=by
 obtain⟨j,c,a,_,d,_⟩:=h;unfold cB execOp;simp only[g];unfold resolve invoke;simp only[e,List.map_toArray,List.map_cons,List.map_nil,hx];unfold builtin;have k:(Builtin.len_ #[T] o.type #[.map (some b)]).run P w = .ok (.int .i64 n) w:=by
  unfold Builtin.len_;simp[run_underlying i,Go.MapKept.run_getObj_map a,goInt,d]
 simp_all
theorem L.range(u:Region.wanted o (yf ops f)=true)(q:dF n0 o.dst=true)(C:o.op = .range T p)(hx:ev f p = .map (some b))(h:Mp w b n key val)(t:P.underlying T=some (.map O E))
 (x : ∀ g w',g=w.heap.size->It w' g b n (fun _=>false)->eG w.heap.size w w'->w'.heap.size=w.heap.size+1->L P n0 ops Q rest (put f o.dst (.pointer (some ⟨g,0,none⟩))) w'):L P n0 ops Q (o::rest) f w:=by
 have r:=h;obtain⟨k,c,l,a,m,v⟩:=r;have F:=run_range_map (P:=P) w T O E b k c t l;have s:(execOp (ev f) o).run P w = .ok (.value (.pointer (some ⟨w.heap.size,0,none⟩))) (w.alloc (.mapIter (some b) c #[] c)):=by
  grind [execOp,Sem.run_bind,Result.andThen_ok,Sem.run_pure]
 refine L.val u s q (x _ _ rfl ?_ (eG.alloc _ _) (by simp));refine⟨k,c,c,#[],c,?_,by grind [iY],a.1,A_ _,m,a.1,A_ _,fun i j p y hx d e => ?_,fun i z => ?_⟩
 ·grind [iY]
 ·rw[t_]at hx d;obtain⟨A,hx⟩:=hx;obtain⟨B,d⟩:=d;have D:=List.pairwise_iff_getElem.1 a.2.1
  grind
 simp_all
theorem L.next{S:Nat->Bool}(F:Region.wanted o (yf ops f)=true)(C:dF n0 o.dst=true)(ho:o.op = .next p false)(hx:ev f p = .pointer (some ⟨m,0,none⟩))(h:Mp w b n key val)(hi:It w m b n S)
 (T:(∀ i,i<n->S i=true)->L P n0 ops Q rest (put f o.dst (.tuple #[.bool false])) w)
 (U : ∀ i w',i<n->S i=false->It w' m b n (aZ S i true)->EW w' m b i->eG m w w'->w'.heap.size=w.heap.size->L P n0 ops Q rest (put f o.dst (.tuple #[.bool true,.int .u64 (key i),val i])) w'):L P n0 ops Q (o::rest) f w:=by
 obtain⟨g,c,d,a,J,v,K,A,M,N,O,B,R,x⟩:=hi;obtain⟨es',c',u,kst,_,k4⟩:=h;rw[v]at u;simp only[Option.some.injEq,Obj.map.injEq]at u;obtain⟨rfl,rfl⟩:=u
 rcases run_next_at (P:=P) w o.type m b d J a g c K v A M with ⟨z,X⟩|⟨e,he,w1,hw1,X⟩
 ·have r:(execOp (ev f) o).run P w = .ok (.value (.tuple #[.bool false])) w:=by
   grind [execOp,Sem.run_bind,Result.andThen_ok,Sem.run_pure]
  refine L.val F r C<|T fun i hi => ?_;obtain⟨y,t,D⟩:=x i hi;rw[<- D]
  cases hq:a.contains y.born with
  | true=>rfl
  | false =>
    have l:y∈leftOf g a:=by
     grind [leftOf]
    grind
 have r:(execOp (ev f) o).run P w = .ok (.value (.tuple #[.bool true,e.key,e.val])) (Go.ChangeMaps.setBlock w1 m (.mapIter (some b) d (a.push e.born) c)):=by
  grind [execOp,Sem.run_bind,Result.andThen_ok,Sem.run_pure]
 have l:=Array.mem_toList_iff.1 he;unfold leftOf at l;rw[Array.mem_filter]at l;obtain⟨W,hns⟩:=l;obtain⟨i,hi,ei⟩:=Array.getElem_of_mem W;have q:g[i]? = some e:=by grind
 obtain⟨y,t,ky,vy⟩:=k4 i (by omega);rw[q]at t;obtain rfl:=C_ t;obtain⟨y2,G,D⟩:=x i (by omega);rw[q]at G;obtain rfl:=C_ G;have Z:S i=false:=by grind
 have s:w1.os=w.os/\w1.tape=w.tape/\w1.output=w.output/\w1.heap=w.heap:=by rcases hw1 with rfl|rfl <;> exact⟨rfl,rfl,rfl,rfl⟩
 have aa:(Go.ChangeMaps.setBlock w1 m (.mapIter (some b) d (a.push e.born) c)).heap.size=w.heap.size:=by
  show(w1.heap.setIfInBounds m _).size=_; grind
 have E:eG m w (Go.ChangeMaps.setBlock w1 m (.mapIter (some b) d (a.push e.born) c)) :=
  ⟨s.1,s.2.1,s.2.2.1,by omega,fun k _ hne=>by show(w1.heap.setIfInBounds m _)[k]? = _; grind⟩
 have Y:m<w1.heap.size:=by
  grind
 rw[ky,vy]at r;have H:(Go.ChangeMaps.setBlock w1 m (.mapIter (some b) d (a.push e.born) c)).heap[b]? = some (.map g c):=by grind [E.block]
 have I:(Go.ChangeMaps.setBlock w1 m (.mapIter (some b) d (a.push e.born) c)).heap[m]? = some (.mapIter (some b) d (a.push e.born) c):=by simp[Go.ChangeMaps.setBlock,Y]
 refine L.val F r C (U i _ (by omega) Z ⟨g,c,d,a.push e.born,c,H,I,A,B,N,O,B,R,fun j V => ?_⟩ ⟨g,c,d,a,e,H,I,q,kst.2.1⟩ E aa);obtain⟨y3,ab,hs3⟩:=x j V;refine⟨y3,ab,?_⟩
 grind [aZ]
theorem Xk{i:Nat}(q:o.op = .entry p)(hx:ev f p = .pointer (some ⟨m,0,none⟩))(h:Mp w b n key val)(hi:EW w m b i)(x:i<n):cB P f o w (.tuple #[.int .u64 (key i),val i]):=by
 obtain⟨d,c,s,v,e,j,k,l,r⟩:=hi;obtain⟨g,a,t,_,_,u⟩:=h
 grind [run_entry_at,execOp,Sem.run_bind,Result.andThen_ok,Sem.run_pure]
end
structure Zp(r:Nat)(w w':World):Prop where
 s:eG r w w'
 no : ∀ T,¬ Ty w r T
section
variable {w w':World} {r b n:Nat}
theorem Mp.Gg(h:Mp w r m X x)(a:eG r w w'):Zp r w w':=⟨a,fun _ b=>h.xK b⟩
theorem It.Gg{S:Nat->Bool}(h:It w r k m S)(a:eG r w w'):Zp r w w':=⟨a,fun _ b=>h.xK b⟩
theorem aM.fH(h:aM w b n x T)(a:Zp r w w'):aM w' b n x T:=by grind [(h.cK · ·),a.s,a.no,h.ty]
theorem aY.fH(h:aY w m E k c n x)(a:Zp r w w'):aY w' m E k c n x:=h.cK a.s fun e=>a.no E (h.ty e)
theorem Mp.fH(h:Mp w b n X x)(a:Zp r w w')(c:b≠r:=by omega):Mp w' b n X x:=h.cK a.s c
end
theorem uo(key:Nat->Int)(n:Nat)(k:Int):(∃ j,j<n/\key j=k) \/ ∀ i,i<n->key i≠k:=by
 grind
theorem KF{p:Nat->Prop}(h : ∃ k,p k) : ∃ k,p k /\ ∀ j,p j->k<=j:=by
 obtain⟨k,a⟩:=h
 induction k using Nat.strongRecOn with
 | _ k ih =>
   grind
open Classical in
theorem Ic{Q:kR}(I:Nat->(Nat->Value)->World->Prop)(g:Nat)(j:I g x h)
 (hr : ∀ k x h,I k x h->W P m A (Qm (fun x h => ∃ a,a<k/\I a x h) (fun _ _=>0) 1 Q) x h):W P m (.loop A) Q x h:=by
 refine Wo (fun x h => ∃ k,I k x h) (fun x h=>if f : ∃ k,I k x h then(KF f).choose else 0) ⟨g,j⟩ fun x h f =>(hr _ x h (KF f).choose_spec.1).mono fun e i w' d => ?_;rw[dif_pos f]
 cases e with
 | normal =>
   obtain⟨⟨a,w,b⟩,_⟩:=d;refine⟨⟨a,b⟩,?_⟩;have l : ∃ k,I k i w':=⟨a,b⟩
   grind
 | _=>exact d
structure Mq(Ts:List TypeId)(w w':World):Prop where
 os:w'.os=w.os
 tape:w'.tape=w.tape
 output:w'.output=w.output
 size:w.heap.size<=w'.heap.size
 block : ∀ k T,Ty w k T->Ts.contains T=false->w'.heap[k]? = w.heap[k]?
section
variable {w w' w2:World} {Ts Us:List TypeId}
theorem Mq.refl(w:World):Mq Ts w w:=⟨rfl,rfl,rfl,A_ _,fun _ _ _ _=>rfl⟩
theorem Ty.ltw(h:Ty w k T):k<w.heap.size:=by
 obtain⟨c,h⟩:=h
 grind
theorem Mq.trans(w w' w2:World)(h:Mq Ts w w')(k:Mq Ts w' w2):Mq Ts w w2:=⟨k.os.trans h.os,k.tape.trans h.tape,k.output.trans h.output,m_ h.size k.size,fun i T b a=>by
 have e:=h.block i T b a;obtain⟨c,d⟩:=b;exact(k.block i T ⟨c,e.trans d⟩ a).trans e⟩
theorem aM.Rx(h:aM w b m x T)(a:Mq Ts w w')(c:Ts.contains T=false):aM w' b m x T:=(a.block b T h.ty c).trans h
end
end Go.Proofs.YtabjalhnkndjaaaGreatDoor.Fx
namespace Go.Proofs.YtabjalhnkndjaaaGreatDoor
open Go.RowKit
namespace Fx
section
variable {S S':Nat->Prop}
theorem ko.trans(w w' w2:World)(h:ko S w w')(k:ko S w' w2):ko S w w2:=⟨k.os.trans h.os,k.tape.trans h.tape,k.output.trans h.output,m_ h.size k.size,fun i a hS=>(k.block i (n_ a h.size) hS).trans (h.block i a hS)⟩
theorem ko.mono(w:ko S h q)(hS : ∀ k,S k->S' k):ko S' h q:=⟨w.os,w.tape,w.output,w.size,fun i a b=>w.block i a fun c=>b (hS i c)⟩
theorem ko.rX(w:eG m h q):ko (fun k=>k=m) h q:=(vR _ h).then w (.inl rfl)
end
end Fx
end Go.Proofs.YtabjalhnkndjaaaGreatDoor
namespace Go.Proofs.YtabjalhnkndjaaaGreatDoor
open Go.RowKit Rt
set_option maxHeartbeats 400000 in
theorem OA(a:Option Addr)(len cap:Nat)(l:List Int)(w:World)(hlen:len<=100)(hl:Hid (l.length=len))(hr:RdI .i64 w a l) :
 Calls Tryz.prog 83 #[.slice a len cap] w fun e w'=>e = .returned (.tuple #[.int .i64 (qw l).1,.bool (qw l).2])/\w'=w:=by
 go_enter Tryz.func83,Tryz.ntmps83
 go_wp2
 go_loop [2,3,8] (fun v o i=>o = .bool false /\ ∃ k:Nat,k<=len/\i = .int .i64 k/\qF (l.take k)=true/\v = .int .i64 (l.take k).sum) (fun _ _ i=>len-(intOf i).toNat)
 case atStart=>exact⟨rfl,0,J_ _,rfl,rfl,rfl⟩
 case round =>
  obtain⟨rfl,k,hk,rfl,hok,rfl⟩:=hrel;by_cases hk2:k<len
  ·have hk3:k<l.length:=(by rw[hl.out]; exact hk2);obtain⟨b,off,rfl,hc⟩:=hr k hk3;have hb:=Gq _ hok;have hle:(l.take k).length<=k:=List.length_take_le _ _;have HS:Hid _:=L8 _ _ hk3;have HO:Hid _:=Iz l k hk3;have HF:Hid (Em l[k]=false->qw l=(0,false)):=(by intro h; unfold qw; rw[b_ (by rw[L9 hk3 h]; decide)]);have Hok:Hid _:=hok;clear hr hok;generalize l[k]=x at *;generalize hs:(l.take k).sum=s at *;clear hs;by_cases h0:x<0
   ·have hn:Em x=false:=(by unfold Em; simp; omega);have HR:Hid _:=HF.out hn;clear HF hn HS HO
    go_wp2
    go_ret2
    rw[HR.out]; exact⟨rfl,rfl⟩
   ·by_cases h1:1125899906842624<x
    ·have hn:Em x=false:=(by unfold Em; simp; omega);have HR:Hid _:=HF.out hn;clear HF hn HS HO
     go_wp2
     go_ret2
     rw[HR.out]; exact⟨rfl,rfl⟩
    ·have hy:Hid (Em x=true):=(by unfold Em Hid; simp; omega);clear HF
     go_wp2
     go_round
     case rel=>exact⟨rfl,k+1,by omega,by go_num,by rw[HO.out,Hok.out,hy.out]; rfl,by rw[HS.out]⟩
     case measure=>simp[intOf]; omega
  ·have hT:Hid (l.take k=l):=List.take_of_length_le (by rw[hl.out]; omega);rw[hT.out]at hok ⊢;have HR:Hid (qw l=(l.sum,true)):=(by unfold qw Hid; rw[d_ hok]);clear hok;generalize l.sum=s at *
   go_wp2
   go_ret2
   rw[HR.out]; exact⟨rfl,rfl⟩
end Go.Proofs.YtabjalhnkndjaaaGreatDoor
