/-
  What the proof of the law rests on, part 5: walks of functions, and plain laws; each says its conditions itself.
-/
import Derived.Test.YtcbedgfikejkoaaGreatDoorRows
import Derived.OrdersIn
import Derived.Test.YtcbedgfikejkoaaGreatDoorZE4
set_option maxRecDepth 20000
set_option linter.unusedVariables false
set_option maxHeartbeats 1600000
set_option linter.unusedSimpArgs false
namespace Go.Proofs.YtcbedgfikejkoaaGreatDoor
open Go.RowKit Rt
open Fx (bf dF eG Lv sN Ln Ws Qv Wl Rp Wr Sb Wk rV sR Rs Rn Rd Rk Wb Wx Wo Qn EH Ac yP BL fP ng uf uS Ad rv aA aQ bG aO Stp aL Mp aS iU bE iT jI bJ jQ bL bU cZ dh gZ iH)
namespace Rt
def lK(v:EvM)(l:Int):Bool:=decide (l<=v.aT)&&decide (v.aT<=1125899906842624)
def sI(v:EvM):EvM:=⟨v.o,v.seq,v.deps,v.kind,0,v.dst,0,v.req,v.of⟩
def zk(v:EvM):Bool:=decide (0<v.req)
def Ob(v:EvM):EvM:=⟨v.o,v.seq,v.deps,v.kind,v.node,v.dst,v.aT,0,v.of⟩
def afc(v:EvM):EvM:=⟨v.o,v.seq,v.deps,v.kind,v.node,v.dst,v.aT,0,0⟩
def toB(v:EvM):Bool:=jy v.dst && !decide (v.dst=v.o)
def LW(v:EvM):EvM:=⟨v.o,v.seq,v.deps,v.kind,v.node,0,v.aT,v.req,v.of⟩
end Rt
def Rt.ED(v:EvM):Bool:=decide (0<v.req)&&(decide (0<v.of) && !decide (v.of=v.req))
theorem Cn(n:Int)(w:World) :
 Calls Tryz.prog 139 #[au n] w fun e w'=>e = .returned (.bool (jy n))/\w'=w:=by
 refine Kent Tryz.func139 9 ?_;refine ay<|av aF<|aD<|ay<|av (au n) ?_;by_cases a:1<=n
 ·refine Lv aG (kW a)<|av aG<|av (au n) ?_;by_cases b:n<=6
  ·refine Lv aG (oh b)<|av aG<|av aG<|aD<|Wr<|aJ aG ?_;exact⟨iF (by simp only[jy]; first|(symm; simp; omega)|(symm; simp; done)),rfl⟩
  refine Lv aF (oP b)<|av aF<|av aF<|aD<|Wr<|aJ aF ?_;exact⟨iF (by simp only[jy]; first|(symm; simp; omega)|(symm; simp; done)),rfl⟩
 refine Lv aF (kN a)<|av aF<|bS<|bS<|av aF<|av aF<|aD<|Wr<|aJ aF ?_;exact⟨iF (by simp only[jy]; first|(symm; simp; omega)|(symm; simp; done)),rfl⟩
theorem J8(l:Int)(v:EvM)(g:Nat)(w:World)(a:aQ w g 14 (bI v) 218) :
 Calls Tryz.prog 169 #[(pt g),au l] w fun e w'=>e = .returned (.bool (lK v l))/\aQ w' g 14 (bI (sI v)) 218/\Stp g w w':=by
 have P:=a.lt;refine Kent Tryz.func169 30 ?_;refine ay<|av aF<|aD<|ay<|av (pt g)<|av (pt g)<|av (pt g)<|av (pf g 11)<|Lv (au v.aT) (aM a.aH 11)<|av (au l) ?_;by_cases c:l<=v.aT
 ·refine Lv aG (kW c)<|av aG<|av (pt g)<|av (pt g)<|av (pt g)<|av (pf g 11)<|Lv (au v.aT) (aM a.aH 11) ?_;by_cases d:v.aT<=1125899906842624
  ·refine Lv aG (oh d)<|av aG<|av aG<|aD<|ay<|av (pt g)<|av (pt g)<|av (pt g)<|av (pt g)<|av (pf g 9)<|ji a 9 (aC 0) fun J p D Q => ?_;have t:aQ J g 14 (bI (⟨v.o,v.seq,v.deps,v.kind,0,v.dst,v.aT,v.req,v.of⟩:EvM)) 218:=p.congr (fun j b=>by rcases j with _|_|_|_|_|_|_|_|_|_|_|_|_|_|j <;> first|rfl|omega)
   have f:=(ng g w).then D (by omega);refine av (pt g)<|av (pt g)<|av (pf g 11)<|ji t 11 (au 0) fun K u E R => ?_;have x:aQ K g 14 (bI (⟨v.o,v.seq,v.deps,v.kind,0,v.dst,0,v.req,v.of⟩:EvM)) 218:=u.congr (fun j b=>by rcases j with _|_|_|_|_|_|_|_|_|_|_|_|_|_|j <;> first|rfl|omega)
   have h:=f.then E (by omega);refine aD<|ay<|av aG<|av aG<|aD<|Wr<|aJ aG ?_;exact⟨iF (by simp only[lK]; first|(symm; simp; omega)|(symm; simp; done)),x,h⟩
  refine Lv aF (oP d)<|av aF<|av aF<|aD<|ay<|av (pt g)<|av (pt g)<|av (pt g)<|av (pt g)<|av (pf g 9)<|ji a 9 (aC 0) fun L y F S => ?_;have z:aQ L g 14 (bI (⟨v.o,v.seq,v.deps,v.kind,0,v.dst,v.aT,v.req,v.of⟩:EvM)) 218:=y.congr (fun j b=>by rcases j with _|_|_|_|_|_|_|_|_|_|_|_|_|_|j <;> first|rfl|omega)
  have i:=(ng g w).then F (by omega);refine av (pt g)<|av (pt g)<|av (pf g 11)<|ji z 11 (au 0) fun M A G T => ?_;have B:aQ M g 14 (bI (⟨v.o,v.seq,v.deps,v.kind,0,v.dst,0,v.req,v.of⟩:EvM)) 218:=A.congr (fun j b=>by rcases j with _|_|_|_|_|_|_|_|_|_|_|_|_|_|j <;> first|rfl|omega)
  have k:=i.then G (by omega);refine aD<|ay<|av aF<|av aF<|aD<|Wr<|aJ aF ?_;exact⟨iF (by simp only[lK]; first|(symm; simp; omega)|(symm; simp; done)),B,k⟩
 refine Lv aF (kN c)<|av aF<|bS<|bS<|bS<|bS<|bS<|bS<|av aF<|av aF<|aD<|ay<|av (pt g)<|av (pt g)<|av (pt g)<|av (pt g)<|av (pf g 9)<|ji a 9 (aC 0) fun N C H U => ?_;have q:aQ N g 14 (bI (⟨v.o,v.seq,v.deps,v.kind,0,v.dst,v.aT,v.req,v.of⟩:EvM)) 218:=C.congr (fun j b=>by rcases j with _|_|_|_|_|_|_|_|_|_|_|_|_|_|j <;> first|rfl|omega)
 have m:=(ng g w).then H (by omega);refine av (pt g)<|av (pt g)<|av (pf g 11)<|ji q 11 (au 0) fun O r I V => ?_;have s:aQ O g 14 (bI (⟨v.o,v.seq,v.deps,v.kind,0,v.dst,0,v.req,v.of⟩:EvM)) 218:=r.congr (fun j b=>by rcases j with _|_|_|_|_|_|_|_|_|_|_|_|_|_|j <;> first|rfl|omega)
 have n:=m.then I (by omega);refine aD<|ay<|av aF<|av aF<|aD<|Wr<|aJ aF ?_;exact⟨iF (by simp only[lK]; first|(symm; simp; omega)|(symm; simp; done)),s,n⟩
theorem P5(v:EvM)(g:Nat)(w:World)(a:aQ w g 14 (bI v) 218) :
 Calls Tryz.prog 170 #[(pt g)] w fun e w'=>e = .returned (.bool (zk v))/\aQ w' g 14 (bI (Ob v)) 218/\Stp g w w':=by
 have r:=a.lt;refine Kent Tryz.func170 15 ?_;refine ay<|av aF<|aD<|ay<|av (pt g)<|av (pt g)<|av (pt g)<|av (pf g 12)<|Lv (aC v.req) (aM a.aH 12) ?_;by_cases b:0<v.req
 ·refine Lv aG (nA b)<|av aG<|aD<|ay<|av (pt g)<|av (pt g)<|av (pt g)<|av (pf g 12)<|ji a 12 (aC 0) fun p h m s => ?_;have i:aQ p g 14 (bI (⟨v.o,v.seq,v.deps,v.kind,v.node,v.dst,v.aT,0,v.of⟩:EvM)) 218:=h.congr (fun j f=>by rcases j with _|_|_|_|_|_|_|_|_|_|_|_|_|_|j <;> first|rfl|omega)
  have c:=(ng g w).then m (by omega);refine aD<|ay<|av aG<|av aG<|aD<|Wr<|aJ aG ?_;exact⟨iF (by simp only[zk]; first|(symm; simp; omega)|(symm; simp; done)),i,c⟩
 refine Lv aF (nC b)<|av aF<|aD<|ay<|av (pt g)<|av (pt g)<|av (pt g)<|av (pf g 12)<|ji a 12 (aC 0) fun q k n t => ?_;have l:aQ q g 14 (bI (⟨v.o,v.seq,v.deps,v.kind,v.node,v.dst,v.aT,0,v.of⟩:EvM)) 218:=k.congr (fun j f=>by rcases j with _|_|_|_|_|_|_|_|_|_|_|_|_|_|j <;> first|rfl|omega)
 have d:=(ng g w).then n (by omega);refine aD<|ay<|av aF<|av aF<|aD<|Wr<|aJ aF ?_;exact⟨iF (by simp only[zk]; first|(symm; simp; omega)|(symm; simp; done)),l,d⟩
theorem apO(v:EvM)(g:Nat)(w:World)(h:aQ w g 14 (bI v) 218) :
 Calls Tryz.prog 171 #[(pt g)] w fun e w'=>e = .returned (.bool (ED v))/\aQ w' g 14 (bI (afc v)) 218/\Stp g w w':=by
 have lg:=h.lt;refine Kent Tryz.func171 32 ?_;refine ay<|av aF<|aD<|Ws ?_;refine Af<|aX (pt g)<|aX (pt g)<|aX (pt g)<|aX (pf g 13)<|Qv (aC v.of) (fun b d=>aM (h.aH.dr d) 13) ?_;by_cases r:0<v.of
 ·refine Qv aG (fun b d=>nA r)<|aX aG<|aX (pt g)<|aX (pt g)<|aX (pt g)<|aX (pf g 13)<|Qv (aC v.of) (fun b d=>aM (h.aH.dr d) 13)<|aX (pt g)<|aX (pt g)<|aX (pt g)<|aX (pf g 12)<|Qv (aC v.req) (fun b d=>aM (h.aH.dr d) 12) ?_;by_cases q:v.of=v.req
  ·refine Qv aF (fun b d=>jR q)<|aX aF<|aX aF<|Qn ?_;rintro _ ⟨f,rfl⟩;obtain⟨Z,i⟩ : ∃ b,b=World.drewN w f:=⟨_,rfl⟩;rw[<- i];have y:Stp w.heap.size w Z:=(by rw[i]; exact Sb (jX w f));have H:=bB y.old h;have B:=(ng g w).then y (.inr (ng g w).size);clear i;refine sN<|ay<|av (pt g)<|av (pt g)<|av (pt g)<|av (pf g 13)<|ji H 13 (aC 0) fun W K Q z1 => ?_;have L:aQ W g 14 (bI (⟨v.o,v.seq,v.deps,v.kind,v.node,v.dst,v.aT,v.req,0⟩:EvM)) 218:=K.congr (fun j s=>by rcases j with _|_|_|_|_|_|_|_|_|_|_|_|_|_|j <;> first|rfl|omega)
   have C:=B.then Q (by omega);refine aD<|ay<|av (pt g)<|kF (P5 (⟨v.o,v.seq,v.deps,v.kind,v.node,v.dst,v.aT,v.req,0⟩:EvM) g _ L) ?_;rintro e w2 ⟨a,u,R⟩;have m:=C.then R (by omega);by_cases c:zk (⟨v.o,v.seq,v.deps,v.kind,v.node,v.dst,v.aT,v.req,0⟩:EvM)=true
   ·refine⟨.bool true,by rw[a,c],?_⟩;clear a;refine av aG<|av aF<|av aF<|av aF<|aD<|Wr<|aJ aF ?_;exact⟨iF (by simp only[ED,zk]at *; first|(symm; simp; omega)|(symm; simp at *; omega)|(symm; simp at *; done)),u,m⟩
   rw[U_]at c;refine⟨.bool false,by rw[a,c],?_⟩;clear a;refine av aF<|bS<|av aF<|av aF<|aD<|Wr<|aJ aF ?_;exact⟨iF (by simp only[ED,zk]at *; first|(symm; simp; omega)|(symm; simp at *; omega)|(symm; simp at *; done)),u,m⟩
  refine Qv aG (fun b d=>kY q)<|aX aG<|aX aG<|Qn ?_;rintro _ ⟨f,rfl⟩;obtain⟨aa,k⟩ : ∃ b,b=World.drewN w f:=⟨_,rfl⟩;rw[<- k];have z:Stp w.heap.size w aa:=by rw[k]; exact Sb (jX w f)
  have M:=bB z.old h;have D:=(ng g w).then z (.inr (ng g w).size);clear k;refine sN<|ay<|av (pt g)<|av (pt g)<|av (pt g)<|av (pf g 13)<|ji M 13 (aC 0) fun X N S z2 => ?_;have O:aQ X g 14 (bI (⟨v.o,v.seq,v.deps,v.kind,v.node,v.dst,v.aT,v.req,0⟩:EvM)) 218:=N.congr (fun j s=>by rcases j with _|_|_|_|_|_|_|_|_|_|_|_|_|_|j <;> first|rfl|omega)
  have E:=D.then S (by omega);refine aD<|ay<|av (pt g)<|kF (P5 (⟨v.o,v.seq,v.deps,v.kind,v.node,v.dst,v.aT,v.req,0⟩:EvM) g _ O) ?_;rintro e w4 ⟨a,x,T⟩;have n:=E.then T (by omega);by_cases c:zk (⟨v.o,v.seq,v.deps,v.kind,v.node,v.dst,v.aT,v.req,0⟩:EvM)=true
  ·refine⟨.bool true,by rw[a,c],?_⟩;clear a;refine av aG<|av aG<|av aG<|av aG<|aD<|Wr<|aJ aG ?_;exact⟨iF (by simp only[ED,zk]at *; first|(symm; simp; omega)|(symm; simp at *; omega)|(symm; simp at *; done)),x,n⟩
  rw[U_]at c;refine⟨.bool false,by rw[a,c],?_⟩;clear a;refine av aF<|bS<|av aF<|av aF<|aD<|Wr<|aJ aF ?_;exact⟨iF (by simp only[ED,zk]at *; first|(symm; simp; omega)|(symm; simp at *; omega)|(symm; simp at *; done)),x,n⟩
 refine Qv aF (fun b d=>nC r)<|aX aF<|aR<|aR<|aR<|aR<|aR<|aR<|aR<|aR<|aR<|aR<|aR<|aX aF<|aX aF<|Qn ?_;rintro _ ⟨f,rfl⟩;obtain⟨ab,l⟩ : ∃ b,b=World.drewN w f:=⟨_,rfl⟩;rw[<- l];have A:Stp w.heap.size w ab:=by rw[l]; exact Sb (jX w f)
 have P:=bB A.old h;have F:=(ng g w).then A (.inr (ng g w).size);clear l;refine sN<|ay<|av (pt g)<|av (pt g)<|av (pt g)<|av (pf g 13)<|ji P 13 (aC 0) fun Y I U z3 => ?_;have J:aQ Y g 14 (bI (⟨v.o,v.seq,v.deps,v.kind,v.node,v.dst,v.aT,v.req,0⟩:EvM)) 218:=I.congr (fun j s=>by rcases j with _|_|_|_|_|_|_|_|_|_|_|_|_|_|j <;> first|rfl|omega)
 have G:=F.then U (by omega);refine aD<|ay<|av (pt g)<|kF (P5 (⟨v.o,v.seq,v.deps,v.kind,v.node,v.dst,v.aT,v.req,0⟩:EvM) g _ J) ?_;rintro e w6 ⟨a,t,V⟩;have p:=G.then V (by omega);by_cases c:zk (⟨v.o,v.seq,v.deps,v.kind,v.node,v.dst,v.aT,v.req,0⟩:EvM)=true
 ·refine⟨.bool true,by rw[a,c],?_⟩;clear a;refine av aG<|av aF<|av aF<|av aF<|aD<|Wr<|aJ aF ?_;exact⟨iF (by simp only[ED,zk]at *; first|(symm; simp; omega)|(symm; simp at *; omega)|(symm; simp at *; done)),t,p⟩
 rw[U_]at c;refine⟨.bool false,by rw[a,c],?_⟩;clear a;refine av aF<|bS<|av aF<|av aF<|aD<|Wr<|aJ aF ?_;exact⟨iF (by simp only[ED,zk]at *; first|(symm; simp; omega)|(symm; simp at *; omega)|(symm; simp at *; done)),t,p⟩
theorem aje(v:EvM)(g:Nat)(w:World)(a:aQ w g 14 (bI v) 218) :
 Calls Tryz.prog 172 #[(pt g)] w fun e w'=>e = .returned (.bool (toB v))/\aQ w' g 14 (bI (LW v)) 218/\Stp g w w':=by
 have Q:=a.lt;refine Kent Tryz.func172 28 ?_;refine ay<|av aF<|aD<|Ws ?_;refine nD<|aX (pt g)<|aX (pt g)<|aX (pt g)<|aX (pf g 10)<|Qv (au v.dst) (fun d b=>aM (a.cb b) 10) ?_;by_cases c:(jy v.dst)=true
 ·refine qO (fun _ _=>Cn v.dst _) aG (by rw[c])<|aX aG<|aX (pt g)<|aX (pt g)<|aX (pt g)<|aX (pf g 10)<|Qv (au v.dst) (fun d b=>aM (a.cb b) 10)<|aX (pt g)<|aX (pt g)<|aX (pt g)<|aX (pt g)<|Qv (au v.o) (fun d b=>aM (a.cb b) 0) ?_;by_cases f:v.dst=v.o
  ·refine Qv aF (fun d b=>jR f)<|aX aF<|aX aF<|Qn ?_;intro N h;have E:Stp w.heap.size w N:=Sb h;have t:=bB h a;have m:=(ng g w).then E (.inr (ng g w).size);refine sN<|ay<|av (pt g)<|av (pt g)<|av (pt g)<|av (pf g 10)<|ji t 10 (au 0) fun K u F R => ?_;have x:aQ K g 14 (bI (⟨v.o,v.seq,v.deps,v.kind,v.node,0,v.aT,v.req,v.of⟩:EvM)) 218:=u.congr (fun j l=>by rcases j with _|_|_|_|_|_|_|_|_|_|_|_|_|_|j <;> first|rfl|omega)
   have n:=m.then F (by omega);refine aD<|ay<|av aF<|av aF<|aD<|Wr<|aJ aF ?_;exact⟨iF (by unfold toB; rw[c]; first|(symm; simp; omega)|(symm; simp; done)),x,n⟩
  refine Qv aG (fun d b=>kY f)<|aX aG<|aX aG<|Qn ?_;intro O i;have G:Stp w.heap.size w O:=Sb i;have y:=bB i a;have p:=(ng g w).then G (.inr (ng g w).size);refine sN<|ay<|av (pt g)<|av (pt g)<|av (pt g)<|av (pf g 10)<|ji y 10 (au 0) fun L z H S => ?_;have A:aQ L g 14 (bI (⟨v.o,v.seq,v.deps,v.kind,v.node,0,v.aT,v.req,v.of⟩:EvM)) 218:=z.congr (fun j l=>by rcases j with _|_|_|_|_|_|_|_|_|_|_|_|_|_|j <;> first|rfl|omega)
  have q:=p.then H (by omega);refine aD<|ay<|av aG<|av aG<|aD<|Wr<|aJ aG ?_;exact⟨iF (by unfold toB; rw[c]; first|(symm; simp; omega)|(symm; simp; done)),A,q⟩
 rw[U_]at c;refine qO (fun _ _=>Cn v.dst _) aF (by rw[c])<|aX aF<|aR<|aR<|aR<|aR<|aR<|aR<|aR<|aR<|aR<|aR<|aR<|aX aF<|aX aF<|Qn ?_;intro P k;have I:Stp w.heap.size w P:=Sb k;have B:=bB k a;have r:=(ng g w).then I (.inr (ng g w).size);refine sN<|ay<|av (pt g)<|av (pt g)<|av (pt g)<|av (pf g 10)<|ji B 10 (au 0) fun M C J T => ?_;have D:aQ M g 14 (bI (⟨v.o,v.seq,v.deps,v.kind,v.node,0,v.aT,v.req,v.of⟩:EvM)) 218:=C.congr (fun j l=>by rcases j with _|_|_|_|_|_|_|_|_|_|_|_|_|_|j <;> first|rfl|omega)
 have s:=r.then J (by omega);refine aD<|ay<|av aF<|av aF<|aD<|Wr<|aJ aF ?_;exact⟨iF (by unfold toB; rw[c]; first|(symm; simp; omega)|(symm; simp; done)),D,s⟩
namespace Rt
def mY(v:EvM):Bool :=
 if v.kind=1 then lK v 0 else if v.kind=2 then lK v 1 else if v.kind=3 then lK v 1&&zk v else if v.kind=4 then ED v else if v.kind=5 then lK v 1&&toB v else if v.kind=6 then toB v else decide (v.kind=7)
def rT(v:EvM):EvM :=
 if v.kind=1 then sI v else if v.kind=2 then sI v else if v.kind=3 then Ob (sI v)else if v.kind=4 then afc v else if v.kind=5 then LW (sI v)else if v.kind=6 then LW v else v
def Wn(v:EvM):EvM:=⟨v.o,v.seq,v.deps,v.kind,0,0,0,0,0⟩
theorem afd(a b:EvM):(∀ i,i<14->bI a i=bI b i)<->a.o=b.o/\a.seq=b.seq/\(∀ i,i<6->a.deps i=b.deps i)/\a.kind=b.kind/\a.node=b.node/\a.dst=b.dst/\a.aT=b.aT/\a.req=b.req/\a.of=b.of:=by
 constructor
 ·intro h;have f:Value.int .i64 a.o=au b.o:=h 0 (by decide);have g:Value.int .u64 a.seq=aC b.seq:=h 1 (by decide);have p:Value.int .u8 a.kind = .int .u8 b.kind:=h 8 (by decide);have q:Value.int .u64 a.node=aC b.node:=h 9 (by decide);have j:Value.int .i64 a.dst=au b.dst:=h 10 (by decide);have k:Value.int .i64 a.aT=au b.aT:=h 11 (by decide);have l:Value.int .u64 a.req=aC b.req:=h 12 (by decide);have m:Value.int .u64 a.of=aC b.of:=h 13 (by decide);simp only[Value.int.injEq,true_and]at f g p q j k l m;refine⟨f,g,fun i r => ?_,p,q,j,k,l,m⟩;have n:=h (i+2) (by omega);rw[mU a rfl r,mU b rfl r]at n
  simpa using n
 rintro ⟨f,g,n,p,q,j,k,l,m⟩ i r;unfold bI;rw[f,g,p,q,j,k,l,m];by_cases c:i=0
 ·rw[d_ c,d_ c]
 by_cases d:i=1
 ·rw[b_ c,d_ d,b_ c,d_ d]
 by_cases e:i<8
 ·rw[b_ c,b_ d,d_ e,b_ c,b_ d,d_ e,n _ (by omega)]
 rw[b_ c,b_ d,b_ e,b_ c,b_ d,b_ e]
theorem IK{v:EvM}(a:mY v=true):(∀ i,i<14->bI (rT v) i=bI (Wn v) i)<->qC v=true:=by
 have h:=a;rw[afd];unfold mY at h;unfold rT qC kX Wn;simp only[T_,decide_eq_true_eq];split at h
 ·rename_i k; simp[k,sI,and_assoc]
 split at h
 ·rename_i k1 k; simp[k,sI,and_assoc]
 split at h
 ·rename_i k1 k2 k; simp[k,sI,Ob,and_assoc]
 split at h
 ·rename_i k1 k2 k3 k; simp[k,afc,and_assoc]
 split at h
 ·rename_i k1 k2 k3 k4 k; simp[k,sI,LW,and_assoc]
 split at h
 ·rename_i k1 k2 k3 k4 k5 k; simp[k,LW,and_assoc]
 rename_i k1 k2 k3 k4 k5 k6; simp[k1,k2,k3,k4,k5,k6,and_assoc]
theorem D7{v:EvM}(h:qC v=true):dH v=mY v:=by
 unfold qC kX at h;unfold dH mY someE lK ED toB mH zk;simp only[T_,decide_eq_true_eq]at h;split <;> try rfl
 rename_i k1;split <;> try rfl
 rename_i k2;split
 ·congr 1
 rename_i k3;split
 ·rename_i k4; rw[Bool.eq_iff_iff]; simp only[T_,decide_eq_true_eq,Bool.not_eq_true',decide_eq_false_iff_not]; omega
 split <;> rfl
def Oc(x:Nat->Int):Nat->Int
 | 0=>x 0
 | k+1=>if x (k+1)>Oc x k then x (k+1)else Oc x k
theorem Wp(x:Nat->Int) : ∀ n i,i<=n->x i<=Oc x n
 | 0,i,h=>by rw[show i=0 by omega]; exact O_ _
 | n+1,i,h=>by
   unfold Oc;by_cases e:i=n+1
   ·subst e; split <;> omega
   ·have:=Wp x n i (by omega); split <;> omega
theorem Wq(x:Nat->Int) : ∀ n,∃ i,i<=n/\Oc x n=x i
 | 0=>⟨0,A_ _,rfl⟩
 | n+1=>by
   unfold Oc;split
   ·exact⟨n+1,A_ _,rfl⟩
   ·obtain⟨i,a,e⟩:=Wq x n; exact⟨i,by omega,e⟩
theorem afe{v:EvM}(h:1099511627776<=Oc v.deps 5):xu v=false:=by
 obtain⟨i,a,e⟩:=Wq v.deps 5;exact Ij (k:=i) (by omega) (by omega)
theorem J9{v:EvM}(h : ¬ 1099511627776<=Oc v.deps 5):xu v=true :=
 xw (k:=6) (by omega) fun i a=>by have:=Wp v.deps 5 i (by omega); omega
def ajf(v:EvM)(b:Bool)(a:EvM):Prop:=b=mY v/\(b=true->a=rT v)
end Rt
set_option maxHeartbeats 1000000 in
theorem aff(v:EvM)(g:Nat)(w:World)(k:aQ w g 14 (bI v) 218) :
 Calls Tryz.prog 141 #[(pt g)] w fun e w' => ∃ b O,e = .returned (.bool b)/\aQ w' g 14 (bI O) 218/\Stp g w w'/\ajf v b O:=by
 have X:=k.lt;refine Kent Tryz.func141 46 ?_;refine ay<|av aF<|aD<|Ws<|ay<|av (pt g)<|av (pt g)<|av (pt g)<|av (pf g 8)<|Lv (.int .u8 (v.kind)) (aM k.aH 8)<|aD<|Wb<|ay ?_;by_cases c:v.kind=1
 ·refine Lv aG (dZ c)<|av aG<|aD<|aN<|ay<|av (pt g)<|kF (J8 0 v g _ k) ?_;rintro e Y ⟨a,G,P⟩;have y:=(ng g w).then P (by omega);by_cases p:lK v 0=true
  ·refine⟨.bool true,by rw[a,p],?_⟩;clear a;refine av aG (aD (Wr (bL (sR (aJ aG (⟨_,_,rfl,G,y,Eq.symm (by unfold mY; rw[d_ c,(show lK v 0=true from p)]; try rfl),fun d => ?_⟩))))))
   unfold rT; rw[d_ c]; try rfl
  rw[U_]at p;refine⟨.bool false,by rw[a,p],?_⟩;clear a;refine av aF (aD (Wr (bL (sR (aJ aF (⟨_,_,rfl,G,y,Eq.symm (by unfold mY; rw[d_ c,(show lK v 0=false from p)]; try rfl),fun d => ?_⟩))))))
  cases d
 refine Lv aF (fB c)<|av aF<|aD<|aK<|ay ?_;by_cases f:v.kind=2
 ·refine Lv aG (dZ f)<|av aG<|aD<|aN<|ay<|av (pt g)<|kF (J8 1 v g _ k) ?_;rintro e Z ⟨a,H,Q⟩;have z:=(ng g w).then Q (by omega);by_cases q:lK v 1=true
  ·refine⟨.bool true,by rw[a,q],?_⟩;clear a;refine av aG (aD (Wr (bL (sR (aJ aG (⟨_,_,rfl,H,z,Eq.symm (by unfold mY; rw[b_ c,d_ f,(show lK v 1=true from q)]; try rfl),fun d => ?_⟩))))))
   unfold rT; rw[b_ c,d_ f]; try rfl
  rw[U_]at q;refine⟨.bool false,by rw[a,q],?_⟩;clear a;refine av aF (aD (Wr (bL (sR (aJ aF (⟨_,_,rfl,H,z,Eq.symm (by unfold mY; rw[b_ c,d_ f,(show lK v 1=false from q)]; try rfl),fun d => ?_⟩))))))
  cases d
 refine Lv aF (fB f)<|av aF<|aD<|aK<|ay ?_;by_cases h:v.kind=3
 ·refine Lv aG (dZ h)<|av aG<|aD<|aN<|ay<|av (pt g)<|kF (J8 1 v g _ k) ?_;rintro e w3 ⟨a,I,R⟩;have A:=(ng g w).then R (by omega);by_cases m:lK v 1=true
  ·refine⟨.bool true,by rw[a,m],?_⟩;clear a;refine av aG<|av (pt g)<|kF (P5 (⟨v.o,v.seq,v.deps,v.kind,0,v.dst,0,v.req,v.of⟩:EvM) g _ I) ?_;rintro e w4 ⟨a,J,S⟩;have B:=A.then S (by omega);by_cases r:zk (⟨v.o,v.seq,v.deps,v.kind,0,v.dst,0,v.req,v.of⟩:EvM)=true
   ·refine⟨.bool true,by rw[a,r],?_⟩;clear a;refine av aG (av aG (aD (Wr (bL (sR (aJ aG (⟨_,_,rfl,J,B,Eq.symm (by unfold mY; rw[b_ c,b_ f,d_ h,(show lK v 1=true from m),(show zk v=true from r)]; try rfl),fun d => ?_⟩)))))))
    unfold rT; rw[b_ c,b_ f,d_ h]; try rfl
   rw[U_]at r;refine⟨.bool false,by rw[a,r],?_⟩;clear a;refine av aF (av aF (aD (Wr (bL (sR (aJ aF (⟨_,_,rfl,J,B,Eq.symm (by unfold mY; rw[b_ c,b_ f,d_ h,(show lK v 1=true from m),(show zk v=false from r)]; try rfl),fun d => ?_⟩)))))))
   cases d
  rw[U_]at m;refine⟨.bool false,by rw[a,m],?_⟩;clear a;refine av aF (bS (bS (av aF (av aF (aD (Wr (bL (sR (aJ aF (⟨_,_,rfl,I,A,Eq.symm (by unfold mY; rw[b_ c,b_ f,d_ h,(show lK v 1=false from m)]; try rfl),fun d => ?_⟩))))))))))
  cases d
 refine Lv aF (fB h)<|av aF<|aD<|aK<|ay ?_;by_cases i:v.kind=4
 ·refine Lv aG (dZ i)<|av aG<|aD<|aN<|ay<|av (pt g)<|kF (apO v g _ k) ?_;rintro e w5 ⟨a,K,T⟩;have C:=(ng g w).then T (by omega);by_cases s:ED v=true
  ·refine⟨.bool true,by rw[a,s],?_⟩;clear a;refine av aG (aD (Wr (bL (sR (aJ aG (⟨_,_,rfl,K,C,Eq.symm (by unfold mY; rw[b_ c,b_ f,b_ h,d_ i,(show ED v=true from s)]; try rfl),fun d => ?_⟩))))))
   unfold rT; rw[b_ c,b_ f,b_ h,d_ i]; try rfl
  rw[U_]at s;refine⟨.bool false,by rw[a,s],?_⟩;clear a;refine av aF (aD (Wr (bL (sR (aJ aF (⟨_,_,rfl,K,C,Eq.symm (by unfold mY; rw[b_ c,b_ f,b_ h,d_ i,(show ED v=false from s)]; try rfl),fun d => ?_⟩))))))
  cases d
 refine Lv aF (fB i)<|av aF<|aD<|aK<|ay ?_;by_cases j:v.kind=5
 ·refine Lv aG (dZ j)<|av aG<|aD<|aN<|ay<|av (pt g)<|kF (J8 1 v g _ k) ?_;rintro e w6 ⟨a,L,U⟩;have D:=(ng g w).then U (by omega);by_cases n:lK v 1=true
  ·refine⟨.bool true,by rw[a,n],?_⟩;clear a;refine av aG<|av (pt g)<|kF (aje (⟨v.o,v.seq,v.deps,v.kind,0,v.dst,0,v.req,v.of⟩:EvM) g _ L) ?_;rintro e w7 ⟨a,M,V⟩;have E:=D.then V (by omega);by_cases t:toB (⟨v.o,v.seq,v.deps,v.kind,0,v.dst,0,v.req,v.of⟩:EvM)=true
   ·refine⟨.bool true,by rw[a,t],?_⟩;clear a;refine av aG (av aG (aD (Wr (bL (sR (aJ aG (⟨_,_,rfl,M,E,Eq.symm (by unfold mY; rw[b_ c,b_ f,b_ h,b_ i,d_ j,(show lK v 1=true from n),(show toB v=true from t)]; try rfl),fun d => ?_⟩)))))))
    unfold rT; rw[b_ c,b_ f,b_ h,b_ i,d_ j]; try rfl
   rw[U_]at t;refine⟨.bool false,by rw[a,t],?_⟩;clear a;refine av aF (av aF (aD (Wr (bL (sR (aJ aF (⟨_,_,rfl,M,E,Eq.symm (by unfold mY; rw[b_ c,b_ f,b_ h,b_ i,d_ j,(show lK v 1=true from n),(show toB v=false from t)]; try rfl),fun d => ?_⟩)))))))
   cases d
  rw[U_]at n;refine⟨.bool false,by rw[a,n],?_⟩;clear a;refine av aF (bS (bS (av aF (av aF (aD (Wr (bL (sR (aJ aF (⟨_,_,rfl,L,D,Eq.symm (by unfold mY; rw[b_ c,b_ f,b_ h,b_ i,d_ j,(show lK v 1=false from n)]; try rfl),fun d => ?_⟩))))))))))
  cases d
 refine Lv aF (fB j)<|av aF<|aD<|aK<|ay ?_;by_cases l:v.kind=6
 ·refine Lv aG (dZ l)<|av aG<|aD<|aN<|ay<|av (pt g)<|kF (aje v g _ k) ?_;rintro e w8 ⟨a,N,W⟩;have F:=(ng g w).then W (by omega);by_cases u:toB v=true
  ·refine⟨.bool true,by rw[a,u],?_⟩;clear a;refine av aG (aD (Wr (bL (sR (aJ aG (⟨_,_,rfl,N,F,Eq.symm (by unfold mY; rw[b_ c,b_ f,b_ h,b_ i,b_ j,d_ l,(show toB v=true from u)]; try rfl),fun d => ?_⟩))))))
   unfold rT; rw[b_ c,b_ f,b_ h,b_ i,b_ j,d_ l]; try rfl
  rw[U_]at u;refine⟨.bool false,by rw[a,u],?_⟩;clear a;refine av aF (aD (Wr (bL (sR (aJ aF (⟨_,_,rfl,N,F,Eq.symm (by unfold mY; rw[b_ c,b_ f,b_ h,b_ i,b_ j,d_ l,(show toB v=false from u)]; try rfl),fun d => ?_⟩))))))
  cases d
 refine Lv aF (fB l)<|av aF<|aD<|aK<|Wk<|bU<|sN<|ay<|av (pt g)<|av (pt g)<|av (pt g)<|av (pf g 8)<|Lv (.int .u8 (v.kind)) (aM k.aH 8) ?_;by_cases x:v.kind=7
 ·refine Lv aG (dZ x) (av aG (aD (Wr (aJ aG (⟨_,_,rfl,k,(ng g w),Eq.symm (by unfold mY; rw[b_ c,b_ f,b_ h,b_ i,b_ j,b_ l,f_ x]; try rfl),fun d => ?_⟩)))))
  unfold rT; rw[b_ c,b_ f,b_ h,b_ i,b_ j,b_ l]; try rfl
 refine Lv aF (fB x) (av aF (aD (Wr (aJ aF (⟨_,_,rfl,k,(ng g w),Eq.symm (by unfold mY; rw[b_ c,b_ f,b_ h,b_ i,b_ j,b_ l,g_ x]; try rfl),fun d => ?_⟩)))))
 cases d
theorem ajg(x:Nat->Int)(b off:Nat)(w:World)(hx:iU w b off 6 (rv .u64 x)) :
 Calls Tryz.prog 140 #[.slice (some ⟨b,off,none⟩) (6) (6)] w fun e w'=>e = .returned (aC (Oc x 5))/\Below w.heap.size w w':=by
 have o:=hx.lt (by omega);refine Kent Tryz.func140 25 ?_;refine ay<|av (aC 0)<|aD<|Ws<|ay<|av (.slice (some ⟨b,off,none⟩) (6) (6))<|av (au 6)<|Lv aF H6<|aD<|aK<|Wk<|sN<|ay<|av (.slice (some ⟨b,off,none⟩) (6) (6))<|Lv (pf b off) (dB 1)<|Lv (aC (x 0)) (aM hx 0)<|av (aC (x 0))<|aD<|Ws<|ay<|av (au 1)<|aD<|Wb<|Wo (fun f j => ∃ k:Nat,k<=5/\f 0 = .slice (some ⟨b,off,none⟩) (6) (6)/\f 3=aC (Oc x k)/\f 4=au ((k:Int)+1)/\iU j b off 6 (rv .u64 x)/\Below w.heap.size w j) (fun f _=>(6-(intOf (f 4)).toNat)) ⟨0,by omega,(by rfl),rfl,Fx.ic,hx,(Below.refl w.heap.size w)⟩ ?_;rintro m p ⟨k,n,c,h,a,i,d⟩;refine Ws<|ay<|aU a<|aU c<|av (au 6) ?_;by_cases g:((k:Int)+1)<6
 ·refine Lv aG (iD g)<|aD<|aN<|Wk<|sN<|Ws<|Wb<|Wl<|aU h<|aU c<|aU a<|Lv (pf b (k+off+1)) (dB 1)<|Lv (aC (x (k+1))) (aM i (k+1))<|Lv (aC (Oc x (k+1))) (Fx.abm rfl rfl rfl)<|av (aC (Oc x (k+1)))<|Ln<|bU<|sN<|Wl<|aU a<|Lv (au ((k:Int)+2)) fH<|av (au ((k:Int)+2))<|Ln<|iH ⟨k+1,by omega,c,rfl,Fx.ic,i,d⟩ ?_;show(6-(intOf (au ((k:Int)+2))).toNat)<_;simp only[a,intOf]; omega
 refine Lv aF (iE g)<|aD<|aK<|Wx<|cZ<|gZ<|dh<|sN<|ay<|aU h<|av (aC (Oc x k))<|aD<|Wr<|aJ (aC (Oc x k)) ?_;have l:k=5:=by omega
 exact⟨by rw[l],d⟩
theorem Ka{ks:List (Option IntKind)}{x y:Nat->Value}(h:Fx.Kd ks y)(e : ∀ j,j<ks.length->x j=y j):Fx.Kd ks x:=fun i a=>by rw[e i a]; exact h i a
namespace Rt
theorem LX{v:EvM}(h:gI v):gI (Wn v):=by
 have z:jA 0:=⟨by decide,by decide⟩;have y:tJ 0:=⟨by decide,by decide⟩;exact⟨h.o,h.seq,h.deps,h.kind,z,y,y,z,z⟩
theorem LY{v:EvM}(h:gI v):gI (rT v):=by
 have z:jA 0:=⟨by decide,by decide⟩;have y:tJ 0:=⟨by decide,by decide⟩;unfold rT;split
 ·exact⟨h.o,h.seq,h.deps,h.kind,z,h.dst,y,h.req,h.of⟩
 split
 ·exact⟨h.o,h.seq,h.deps,h.kind,z,h.dst,y,h.req,h.of⟩
 split
 ·exact⟨h.o,h.seq,h.deps,h.kind,z,h.dst,y,z,h.of⟩
 split
 ·exact⟨h.o,h.seq,h.deps,h.kind,h.node,h.dst,h.aT,z,z⟩
 split
 ·exact⟨h.o,h.seq,h.deps,h.kind,z,y,y,h.req,h.of⟩
 split
 ·exact⟨h.o,h.seq,h.deps,h.kind,h.node,y,h.aT,h.req,h.of⟩
 exact h
end Rt
set_option maxHeartbeats 2000000 in
theorem IL(v:EvM)(w:World)(G:gI v) :
 Calls Tryz.prog 90 #[.agg (aA 14 (bI v))] w fun e w'=>e = .returned (.bool (bR v))/\Below w.heap.size w w':=by
 refine Kent Tryz.func90 55 ?_;refine ay<|pO fun g w1 ku t s1 z1 => ?_;have B:=bB s1.old (Below.refl w.heap.size w);have tC:=gN ku;have uK:=t.lt;refine av aF<|aD<|Ws<|Ws ?_;refine nD<|aX (pt g)<|Qv (au v.o) (fun f d=>aM (t.cb d) 0) ?_;by_cases l:(jy v.o)=true
 ·obtain⟨a,ha,ea⟩:=eU l;refine qO (fun _ _=>Cn v.o _) aG (by rw[l])<|aX aF<|aX aF<|aX (pf g 1)<|Qv (aC v.seq) (fun f d=>aM (t.cb d) 1) ?_;by_cases N:v.seq<1
  ·refine Qv aG (fun f d=>iD N)<|aX aG<|aX aG<|aR<|aR<|aR<|aX aG<|aX aG<|aR<|aR<|aR<|aR<|aR<|aR<|aR<|aR<|aR<|aR<|aX aG<|Qn ?_;intro YL uL;have⟨k,U⟩:=fC uL t B;refine sN<|aN<|ay<|av aF<|aD<|Wr<|sR<|aJ aF ?_;have k:decide (1<=v.seq)=false:=g_ (by omega);exact⟨iF (Eq.symm (by unfold bR; rw[l,k]; try rfl)),U⟩
  refine Qv aF (fun f d=>iE N)<|aX aF<|aX aF<|aX (pf g 1)<|Qv (aC v.seq) (fun f d=>aM (t.cb d) 1) ?_;by_cases O:1099511627776<=v.seq
  ·refine Qv aG (fun f d=>kW O)<|aX aG<|aX aG<|aR<|aR<|aR<|aR<|aR<|aR<|aR<|aR<|aR<|aR<|aX aG<|Qn ?_;intro wb2 yh;have⟨m,V⟩:=fC yh t B;refine sN<|aN<|ay<|av aF<|aD<|Wr<|sR<|aJ aF ?_;have k:decide (1<=v.seq)=true:=f_ (by omega);have m:decide (v.seq<1099511627776)=false:=g_ (by omega);exact⟨iF (Eq.symm (by unfold bR; rw[l,k,m]; try rfl)),V⟩
  refine Qv aF (fun f d=>kN O)<|aX aF<|aX aF<|aX (pt g)<|Qv (au v.o) (fun f d=>aM (t.cb d) 0)<|Qv (au a) (fun f d=>gP)<|aX (pf g 2)<|Qv (pf g (a+2)) (fun f d=>jD 6 1)<|Qv (aC (v.deps a)) (fun f d=>aM (t.cb d) (a+2) (mU _ (by omega) (by omega)))<|aX (pf g 1)<|Qv (aC v.seq) (fun f d=>aM (t.cb d) 1)<|Qv (aC (v.seq-1)) (fun f d=>gP) ?_;by_cases y:(v.deps a)=(v.seq-1)
  ·refine Qv aF (fun f d=>jR y)<|aX aF<|Qn ?_;intro wb3 yj;have⟨q,W⟩:=fC yj t B;refine sN<|aK<|Wk<|sN<|Ws<|ay<|av (pf g 2)<|Lv (.slice (some ⟨g,2,none⟩) (6) (6)) (Fx.Oa rfl rfl Tryz.underlying35 (s:=1) (by kernel_rfl))<|dX (ajg v.deps g 2 _ (fun j x=>by have Q:=q.aH (2+j) (by omega); rw[H_]at Q; rw[Q,mU v (p:=2+j) (j:=j) (by omega) x]; rfl)) _ rfl ?_;intro w2 hb1;have⟨r,I⟩:=fC hb1 q W;by_cases A:1099511627776<=(Oc v.deps 5)
   ·refine Lv aG (kW A)<|aD<|aN<|ay<|av aF<|aD<|Wr<|sR<|aJ aF ?_;have k:decide (1<=v.seq)=true:=f_ (by omega);have m:decide (v.seq<1099511627776)=true:=f_ (by omega);have q:decide (v.deps (v.o-1).toNat=v.seq-1)=true:=f_ (by rw[show(v.o-1).toNat=a by omega]; exact y);have r:=afe A;exact⟨iF (Eq.symm (by unfold bR; rw[l,k,m,q,r]; try rfl)),I⟩
   refine Lv aF (kN A)<|aD<|aK<|Wk<|sN<|ay<|Lv (.agg (aA 14 (bI v))) (fM r.aH 0)<|av (.agg (aA 14 (bG zQ0 0 14 (bI v))))<|pO fun z w3 P u s6 z2 => ?_;have⟨C,Z⟩:=fC s6.old r I;have qX:=iK P I.size;have Px:=cO P r.lt;have zM:=u.lt;refine av (pt z)<|aD<|Ws ?_;have L:aQ w3 z 14 (bI v) 218:=u.congr (fun j x=>by rcases j with _|_|_|_|_|_|_|_|_|_|_|_|_|_|j <;> first|rfl|omega)
   refine Ad [0,1,2,3,4,5,7,9,11,13,6,8,10,12,14,15,16,17,18] [0,3,0,0,0,0,4,0,4,0,4,0,4,0,4,0,0,0,0] (Fx.zH [218]) Fx.zH.refl Fx.zH.trans (fJ := [(2,1,[1]),(3,1,[2,1]),(4,1,[2,1]),(5,1,[2,1]),(7,1,[2,1]),(9,1,[2,1]),(11,1,[2,1]),(13,1,[2,1]),(6,1,[2,1]),(8,1,[2,1]),(10,1,[2,1]),(12,1,[2,1]),(14,1,[2,1]),(15,1,[2,1]),(16,1,[2,1]),(17,1,[2,1]),(18,1,[1])]) (by kernel_rfl) (by kernel_rfl) (by kernel_rfl) (by kernel_rfl) (by kernel_rfl) fun qU dU iC => ?_;have⟨m9,m10,M⟩:=iY dU C L Z;refine aY (pt z)<|gQ<|kF (aff v z _ m10) ?_;rintro e w4 ⟨b,v',E,R,S,F,hkv⟩;have H:=m9.cu S (by omega);have J:=S.below M M.size (by omega)
   cases b
   ·refine⟨.bool false,E,?_⟩;clear E;refine Ln<|aY aF<|Rk (by rfl)<|Rk (by rfl)<|Rk (by rfl)<|Rk (by rfl)<|Rk (by rfl)<|Rk (by rfl)<|Rk (by rfl)<|Rk (by rfl)<|Rk (by rfl)<|Rk (by rfl)<|Rk (by rfl)<|Rk (by rfl)<|Rk (by rfl)<|Rk (by rfl)<|aY aF<|aY aF<|bT<|Wr<|aJ aF ?_;have k:decide (1<=v.seq)=true:=f_ (by omega);have m:decide (v.seq<1099511627776)=true:=f_ (by omega);have q:decide (v.deps (v.o-1).toNat=v.seq-1)=true:=f_ (by rw[show(v.o-1).toNat=a by omega]; exact y);have r:=J9 A;have u:qC v=true->dH v=false:=fun h=>by rw[D7 h,<- F]
    have C:(qC v&&dH v)=false:=by cases h:qC v with|false=>rfl|true=>exact u h
    have L:(true&&true&&true&&true&&true&&qC v&&dH v)=false:=C;exact⟨iF (Eq.symm (by unfold bR; rw[l,k,m,q,r,L]; try rfl)),J⟩
   refine⟨.bool true,E,?_⟩;clear E;rw[hkv rfl]at R;refine Ln<|aY aG<|aY (pt z)<|aY (pt z)<|aY (pt z)<|aY (pt g)<|aY (pf g 1)<|aY (pf g 2)<|aY (pf g 8)<|Rs (.agg (aA 14 (bI (rT v)))) (fM R.aH 0) ?_;refine Rs (au v.o) (aM H.aH 0) ?_;refine Rs (aC v.seq) (aM H.aH 1) ?_;refine Rs (.agg (aA 6 (rv .u64 v.deps))) (fM H.aH 2 (fun j x=>mU _ (by omega) x)) ?_;refine Rs (.int .u8 (v.kind)) (aM H.aH 8) ?_;refine aY (.agg (aA 14 (bG (bG (bG (bG zQ0 0 1 (fun _=>au v.o)) 1 1 (fun _=>aC v.seq)) 2 6 (rv .u64 v.deps)) 8 1 (fun _ => .int .u8 (v.kind))))) ?_;by_cases D : ∀ i,i<14->(bI (rT v)) i=(bG (bG (bG (bG zQ0 0 1 (fun _=>au v.o)) 1 1 (fun _=>aC v.seq)) 2 6 (rv .u64 v.deps)) 8 1 (fun _ => .int .u8 (v.kind))) i
   ·refine Rp aG (fun f=>Fx.wQ (n:=14) (ks := [(some .i64),(some .u64),(some .u64),(some .u64),(some .u64),(some .u64),(some .u64),(some .u64),(some .u8),(some .u64),(some .i64),(some .i64),(some .u64),(some .u64)]) (X:=bI (rT v)) (Y:=bG (bG (bG (bG zQ0 0 1 (fun _=>au v.o)) 1 1 (fun _=>aC v.seq)) 2 6 (rv .u64 v.deps)) 8 1 (fun _ => .int .u8 (v.kind))) 12 true rfl rfl rfl (Fx.Tn D) (AJ (LY G)) (Ka (AJ (LX G)) (fun j x=>by rcases j with _|_|_|_|_|_|_|_|_|_|_|_|_|_|j <;> first|rfl|exact N_ x (by simp))) rfl (by kernel_rfl) (by kernel_rfl) (by kernel_rfl) (by kernel_rfl) (by kernel_rfl))<|aY aG<|aY aG<|bT<|Wr<|aJ aG ?_
    have k:decide (1<=v.seq)=true:=f_ (by omega);have m:decide (v.seq<1099511627776)=true:=f_ (by omega);have q:decide (v.deps (v.o-1).toNat=v.seq-1)=true:=f_ (by rw[show(v.o-1).toNat=a by omega]; exact y);have r:=J9 A;have u:=(IK F.symm).1 (fun i K=>(D i K).trans (by rcases i with _|_|_|_|_|_|_|_|_|_|_|_|_|_|i <;> first|rfl|omega))
    have C:=(D7 u).trans F.symm;exact⟨iF (Eq.symm (by unfold bR; rw[l,k,m,q,r,u,C]; try rfl)),J⟩
   refine Rp aF (fun f=>Fx.wQ (n:=14) (ks := [(some .i64),(some .u64),(some .u64),(some .u64),(some .u64),(some .u64),(some .u64),(some .u64),(some .u8),(some .u64),(some .i64),(some .i64),(some .u64),(some .u64)]) (X:=bI (rT v)) (Y:=bG (bG (bG (bG zQ0 0 1 (fun _=>au v.o)) 1 1 (fun _=>aC v.seq)) 2 6 (rv .u64 v.deps)) 8 1 (fun _ => .int .u8 (v.kind))) 12 false rfl rfl rfl (Fx.nob D) (AJ (LY G)) (Ka (AJ (LX G)) (fun j x=>by rcases j with _|_|_|_|_|_|_|_|_|_|_|_|_|_|j <;> first|rfl|exact N_ x (by simp))) rfl (by kernel_rfl) (by kernel_rfl) (by kernel_rfl) (by kernel_rfl) (by kernel_rfl))<|aY aF<|aY aF<|bT<|Wr<|aJ aF ?_
   have k:decide (1<=v.seq)=true:=f_ (by omega);have m:decide (v.seq<1099511627776)=true:=f_ (by omega);have q:decide (v.deps (v.o-1).toNat=v.seq-1)=true:=f_ (by rw[show(v.o-1).toNat=a by omega]; exact y);have r:=J9 A;have u:qC v=false:=Bool.eq_false_iff.2 (fun h=>D (fun i K=>((IK F.symm).2 h i K).trans (by rcases i with _|_|_|_|_|_|_|_|_|_|_|_|_|_|i <;> first|rfl|omega)))
   exact⟨iF (Eq.symm (by unfold bR; rw[l,k,m,q,r,u]; try rfl)),J⟩
  refine Qv aG (fun f d=>kY y)<|aX aG<|Qn ?_;intro wb4 BX;have b9:=bB BX B;refine sN<|aN<|ay<|av aF<|aD<|Wr<|sR<|aJ aF ?_;have k:decide (1<=v.seq)=true:=f_ (by omega);have m:decide (v.seq<1099511627776)=true:=f_ (by omega);have q:decide (v.deps (v.o-1).toNat=v.seq-1)=false:=g_ (by rw[show(v.o-1).toNat=a by omega]; exact y);exact⟨iF (Eq.symm (by unfold bR; rw[l,k,m,q]; try rfl)),b9⟩
 rw[U_]at l;refine qO (fun _ _=>Cn v.o _) aF (by rw[l])<|aX aG<|aX aG<|aR<|aR<|aR<|aX aG<|aX aG<|aR<|aR<|aR<|aX aG<|aX aG<|aR<|aR<|aR<|aR<|aR<|aR<|aR<|aR<|aR<|aR<|aX aG<|Qn ?_;intro wb5 FJ;have T:=bB FJ B;refine sN<|aN<|ay<|av aF<|aD<|Wr<|sR<|aJ aF ?_;exact⟨iF (Eq.symm (by unfold bR; rw[l]; try rfl)),T⟩
namespace Rt
def vk(a b:Int):Int:=if b>a then b else a
def vx(X:Nat->Nat->Int):Nat->Value:=fun p=>aC (X (p / 6) (p % 6))
theorem Wu(X:Nat->Nat->Int){i p j:Nat}(a:p=6*i)(b:j<6):vx X (p+j)=rv .u64 (X i) j:=by
 subst a;show Value.int .u64 (X ((6*i+j) / 6) ((6*i+j) % 6))=aC (X i j);rw[show(6*i+j) / 6=i by omega,show(6*i+j) % 6=j by omega]
def AO(c:Int->Int->Int)(X:Nat->Nat->Int):Nat->Nat->Int
 | 0=>X 0
 | k+1=>fun p=>c (AO c X k p) (X (k+1) p)
def P6(c:Int->Int->Int)(X:Nat->Nat->Int):Nat->Nat->Int
 | 0=>fun _=>0
 | k+1=>AO c X k
def Vcs(w:World)(a:Option Addr)(n cap:Nat)(X:Nat->Nat->Int):Prop:=0<n->n<=cap /\ ∃ b c,a=some ⟨b,c,none⟩/\iU w b c (6*n) (vx X)
def zl(x:Nat->Int)(k:Nat):Nat->Int:=fun p=>if p<k then x p else 0
theorem Od(x:Nat->Int)(k:Nat):upd (zl x k) k (x k)=zl x (k+1):=by
 funext p; unfold upd zl
 by_cases h:p=k
 ·subst h; rw[d_ rfl,d_ (by omega)]
 rw[b_ h];by_cases a:p<k
 ·rw[d_ a,d_ (by omega)]
 rw[b_ a,b_ (by omega)]
theorem RU(x:Nat->Int):aA 6 (rv .u64 (zl x 6))=aA 6 (rv .u64 x):=Fx.dS fun p a=>M_ (Value.int .u64) (by unfold zl; rw[d_ a])
end Rt
theorem ajh(a b:Int)(w:World) :
 Calls Tryz.prog 119 #[aC a,aC b] w fun e w'=>e = .returned (aC (vk a b))/\w'=w:=by
 refine Kent Tryz.func119 8 ?_;refine ay<|av (aC 0)<|aD<|ay<|av (aC a)<|av (aC b)<|Lv (aC (vk a b)) (Fx.abm rfl rfl rfl)<|av (aC (vk a b))<|aD<|Wr<|aJ (aC (vk a b)) ?_;exact⟨rfl,rfl⟩
theorem Wv(x y:Nat->Int)(d go c q:Nat)(w:World)(l:q<6)(j:aQ w d 1 (fun _ => .func (.func 119) #[] #[]) 198)(f:aQ w go 6 (rv .u64 x) 35)(k:aQ w c 6 (rv .u64 y) 35) :
 Calls Tryz.prog 155 #[au (q:Int),(pt d),(pt go),(pt c)] w fun e w'=>e = .returned (aC (vk (x q) (y q)))/\Below w.heap.size w w':=by
 refine Kent Tryz.func155 14 ?_;refine ay<|av (aC 0)<|aD<|Ws ?_;refine nD<|Qv (.func (.func 119) #[] #[]) (fun b a=>aM (j.cb a) 0)<|aX (au q)<|Qv (pf go q) (fun b a=>jD 6 1)<|Qv (aC (x q)) (fun b a=>aM (f.cb a) q)<|aX (au q)<|Qv (pf c q) (fun b a=>jD 6 1)<|Qv (aC (y q)) (fun b a=>aM (k.cb a) q)<|EH (v:=aC (vk (x q) (y q))) (by rfl) (fun b a=>Fx.BM (args := [aC (x q),aC (y q)]) rfl rfl rfl (all := #[aC (x q),aC (y q)]) rfl Tryz.func119 rfl rfl) rfl (fun b a=>(ajh (x q) (y q) _).mono fun e v2 h=>⟨h.1,by rw[h.2]; exact a⟩) ?_;refine aX (aC (vk (x q) (y q)))<|Qn ?_;intro n i;have⟨m,g⟩:=fC i f (Below.refl w.heap.size w);refine sN<|Wr<|aJ (aC (vk (x q) (y q))) ?_;exact⟨rfl,g⟩
theorem Og(x y:Nat->Int)(b go c:Nat)(w:World)(z:aQ w b 1 (fun _ => .func (.func 119) #[] #[]) 198)(B:aQ w go 6 (rv .u64 x) 35)(C:aQ w c 6 (rv .u64 y) 35) :
 Calls Tryz.prog 153 #[.func (.func 155) #[] #[(pt b),(pt go),(pt c)]] w fun e w'=>e = .returned (.agg (aA 6 (rv .u64 (fun p=>vk (x p) (y p)))))/\Below w.heap.size w w':=by
 refine Kent Tryz.func153 14 ?_;refine ay<|BL (m:=6) (y:=rv .u64 (fun _=>0)) (by rfl) rfl (by kernel_rfl) rfl fun a w1 u D Z z1 => ?_;have⟨T,W,X,E⟩:=jW Z.old z B C (Below.refl w.heap.size w);have tC:=gN u;have⟨nK,Vh,zm⟩:=AZ u z.lt B.lt C.lt;have uK:=D.lt;refine aD<|Ws<|ay<|av (au 0)<|aD<|Wb ?_;have Y:aQ w1 a 6 (rv .u64 (zl (fun p=>vk (x p) (y p)) 0)) 35:=D;refine Wo (fun f h => ∃ k:Nat,k<=6/\f 0 = .func (.func 155) #[] #[(pt b),(pt go),(pt c)]/\f 2=(pt a)/\f 4=au (k:Int)/\aQ h b 1 (fun _ => .func (.func 119) #[] #[]) 198/\aQ h go 6 (rv .u64 x) 35/\aQ h c 6 (rv .u64 y) 35/\aQ h a 6 (rv .u64 (zl (fun p=>vk (x p) (y p)) k)) 35/\Below w.heap.size w h) (fun f _=>(6-(intOf (f 4)).toNat)) ⟨0,by omega,(by rfl),(by rfl),Fx.ic,T,W,X,Y,E⟩ ?_;rintro f1 w2 ⟨k,hk,v,d,g,n,o,q,r,l⟩;refine ay ?_;by_cases t:(k:Int)<6
 ·refine Lv aG (iD t (hx:=g))<|aD<|Ws<|aN<|Wk<|sN<|Ws<|Wb<|ay<|aU g<|av (au k)<|aD<|Wl<|av (au k)<|aU v<|av (au k)<|Ac (by rfl) (Fx.BM (args := [au (k:Int)]) rfl rfl rfl (all := #[au (k:Int),(pt b),(pt go),(pt c)]) rfl Tryz.func155 rfl rfl) rfl<|(Wv x y b go c k _ (by omega) n o q).mono ?_;rintro e w3 ⟨A,I⟩;refine⟨aC (vk (x k) (y k)),by rw[A],?_⟩;clear A;have⟨J,K,L,M,s⟩:=nE I n o q r l;refine Lv (pf a k) (jD 6 1 (hx:=d))<|ji M k (aC (vk (x k) (y k))) fun w4 N i z2 => ?_;have O:aQ w4 a 6 (rv .u64 (upd (zl (fun p=>vk (x p) (y p)) k) k (vk (x k) (y k)))) 35:=N.to (Fx.zy _ _ _ _);have P:=J.cu i (by omega);have Q:=K.cu i (by omega);have R:=L.cu i (by omega);have F:=i.below s s.size (by omega);refine Ln<|bU<|sN<|Wl<|Lv (au ((k:Int)+1)) (fH (hx:=g))<|av (au ((k:Int)+1))<|Ln ?_;have S:=O.to (M_ (rv .u64) (Od (fun p=>vk (x p) (y p)) k));refine iH ⟨k+1,by omega,v,d,Fx.ic,P,Q,R,S,F⟩ ?_;show(6-(intOf (au ((k:Int)+1))).toNat)<_;simp only[g,intOf]; omega
 refine Lv aF (iE t (hx:=g))<|aD<|Ws<|aK<|Wx<|cZ<|gZ<|dh<|sN<|ay<|Lv (.agg (aA 6 (rv .u64 (zl (fun p=>vk (x p) (y p)) k)))) (fM r.aH 0 (ha:=d))<|dM r 0 (ha:=d) fun w5 U j z3 => ?_;have V:aQ w5 a 6 (rv .u64 (zl (fun p=>vk (x p) (y p)) k)) 35:=aL U;have m22:=n.cu j (by omega);have m23:=o.cu j (by omega);have m24:=q.cu j (by omega);have G:=j.below l l.size (by omega);refine aD (Wr (⟨.agg (aA 6 (rv .u64 (zl (fun p=>vk (x p) (y p)) k))),rV Tryz.results153 ⟨_,d,aS V.aH (by kernel_rfl) (by kernel_rfl)⟩,?_⟩));have H:k=6:=by omega
 exact⟨by rw[H,RU],G⟩
namespace Rt
def V2(x y:Nat->Int):Nat->Nat->Int
 | 0=>x
 | 1=>y
 | _=>fun _=>0
end Rt
theorem LZ(a:Option Addr)(cap:Nat)(w:World) :
 Calls Tryz.prog 118 #[.slice a (0) (cap),.func (.func 119) #[] #[]] w fun e w'=>e = .returned (.agg (aA 6 (rv .u64 (fun _=>0))))/\Below w.heap.size w w':=by
 refine Kent Tryz.func118 26 ?_;refine ay<|yD (.func (.func 119) #[] #[]) fun t C j b p E => ?_;have c:=bB p.old (Below.refl w.heap.size w);have u:=gN j;have A:=b.lt;refine nS 6 (rv .u64 (fun _=>0)) fun k D f g q F => ?_;have⟨l,d⟩:=fC q.old b c;have v:=iK f c.size;have z:=cO f b.lt;have B:=g.lt;refine aD<|Ws<|ay<|av (.slice a (0) (cap))<|av (au 0)<|Lv aG (dZ rfl)<|aD<|aN<|ay<|Lv (.agg (aA 6 (rv .u64 (fun _=>0)))) (Fx.Nr (vs := []) (s:=1) (m:=6) (x:=rv .u64 (fun _=>0)) rfl rfl Tryz.underlying35 (by kernel_rfl) (by kernel_rfl) (by rfl))<|dM g 0 fun r n h G => ?_;have o:aQ r k 6 (rv .u64 (fun _=>0)) 35:=aL n;have y:=l.cu h (by omega);have i:=h.below d d.size (by omega);refine aD (Wr (sR (⟨.agg (aA 6 (rv .u64 (fun _=>0))),rV Tryz.results118 ⟨_,rfl,aS o.aH (by kernel_rfl) (by kernel_rfl)⟩,?_⟩)));exact⟨rfl,i⟩
theorem L6(b off m cap:Nat)(X:Nat->Nat->Int)(w:World)(hcap:m+1<=cap)(hm:m<=1000000)(hx:iU w b off (6*(m+1)) (vx X)) :
 Calls Tryz.prog 118 #[.slice (some ⟨b,off,none⟩) (m+1) (cap),.func (.func 119) #[] #[]] w fun e w'=>e = .returned (.agg (aA 6 (rv .u64 (AO vk X m))))/\Below w.heap.size w w':=by
 have lb:=hx.lt (by omega);refine Kent Tryz.func118 26 ?_;refine ay<|yD (.func (.func 119) #[] #[]) fun c w1 Q F s1 z1 => ?_;have⟨T,K⟩:=fC s1.old hx (Below.refl w.heap.size w);have tC:=gN Q;have nK:b≠c:=by rw[Q]; exact u_ (hx.lt (by omega))
 have uK:=F.lt;refine nS 6 (rv .u64 (fun _=>0)) fun r w2 z I s2 z2 => ?_;have⟨J,Z,L⟩:=iY s2.old T F K;have qX:=iK z K.size;have aji:b≠r:=by rw[z]; exact u_ (T.lt (by omega))
 have Ls:=cO z F.lt;have zM:=I.lt;refine aD<|Ws<|ay<|av (.slice (some ⟨b,off,none⟩) (m+1) (cap))<|av (au ((m+1:Nat):Int))<|Lv aF ahA<|aD<|aK<|Wk<|sN<|ay<|av (.slice (some ⟨b,off,none⟩) (m+1) (cap))<|Lv (pf b off) (dB 6)<|Lv (.agg (aA 6 (rv .u64 (X 0)))) (fM J 0 (fun j E=>Wu _ (i:=0) (p:=0) (by omega) E))<|nS 6 (rv .u64 (fun _=>0)) fun a w3 A m6 s3 z3 => ?_;have⟨m7,m8,m9,M⟩:=jW s3.old J Z I L;have BF:=iK A L.size;have auq:b≠a:=by rw[A]; exact u_ (J.lt (by omega))
 have⟨Ww,Wy⟩:=rD A Z.lt I.lt;have GZ:=m6.lt;refine dM m6 0 fun w4 m10 x z4 => ?_;have m11:aQ w4 a 6 (rv .u64 (X 0)) 35:=aL m10;have m12:=m7.cu x (by omega);have m13:=m8.cu x (by omega);have m14:=m9.cu x (by omega);have b4:=x.below M M.size (by omega);refine aD<|Ws<|ay<|av (.slice (some ⟨b,off,none⟩) (m+1) (cap))<|Lv (.slice (if cap=1 then some ⟨b,off,none⟩else some ⟨b,off+6,none⟩) (m) (cap-1)) (Fx.AV (j:=1) (b:=b) (off:=off) (len:=m+1) (cap:=cap) (s:=6) rfl rfl rfl Tryz.underlying196 (by kernel_rfl) (by omega) rfl rfl rfl)<|av (au m)<|av (au 0)<|aD<|Wb ?_;have m15:aQ w4 a 6 (rv .u64 (AO vk X 0)) 35:=m11;refine Wo (fun f n => ∃ k:Nat,k<=m/\f 3=(pt c)/\f 4=(pt r)/\f 5=(pt a)/\f 16 = .slice (if cap=1 then some ⟨b,off,none⟩else some ⟨b,off+6,none⟩) (m) (cap-1)/\f 17=au (m:Int)/\f 18=au (k:Int)/\iU n b off (6*(m+1)) (vx X)/\aQ n c 1 (fun _ => .func (.func 119) #[] #[]) 198/\aQ n r 6 (rv .u64 (fun _=>0)) 35/\aQ n a 6 (rv .u64 (AO vk X k)) 35/\Below w.heap.size w n) (fun f _=>(m-(intOf (f 18)).toNat)) ⟨0,by omega,(by rfl),(by rfl),(by rfl),(by rfl),Fx.ic,Fx.ic,m12,m13,m14,m15,b4⟩ ?_;rintro f1 w5 ⟨k,hk,R,C,t,S,D,g,u,G,H,v,o⟩;refine ay ?_;by_cases P:(k:Int)<(m:Int)
 ·refine Lv aG (iD P (hx:=g) (hy:=D))<|aD<|Ws<|aN<|Wk<|sN<|Ws<|Wb<|ay<|Lv (pf b (6*k+off+6)) (dB 6 (hx:=(S.trans (M_ (fun q=>Value.slice q (m) (cap-1)) (b_ (by omega))))) (hi:=g))<|Lv (.agg (aA 6 (rv .u64 (X (k+1))))) (fM u (6*k+6) (fun j E=>Wu _ (i:=k+1) (p:=6*k+6) (by omega) E))<|nS 6 (rv .u64 (fun _=>0)) fun d w6 B U s5 z5 => ?_;have⟨m21,m22,m23,m24,N⟩:=nE s5.old u G H v o;have NT:=iK B o.size;have apP:b≠d:=by rw[B]; exact u_ (u.lt (by omega))
  have⟨apQ,apR,apS⟩:=AZ B G.lt H.lt v.lt;have M9:=U.lt;refine dM U 0 fun w7 nW h z6 => ?_;have V:aQ w7 d 6 (rv .u64 (X (k+1))) 35:=aL nW;have pU:=m21.cu h (by omega);have W:=m22.cu h (by omega);have nX:=m23.cu h (by omega);have Y:=m24.cu h (by omega);have b7:=h.below N N.size (by omega);refine aD<|Wl<|Lv (.func (.func 155) #[] #[(pt c),(pt a),(pt d)]) (Fx.mG (us := []) (vs := [(pt c),(pt a),(pt d)]) rfl rfl (Fx.OV R t rfl))<|dX (Og (AO vk X k) (X (k+1)) c a d _ W Y V) _ rfl ?_;intro w8 hb1;have⟨lu,m32,oQ,nL,oO,O⟩:=rz hb1 pU W nX Y V b7;refine dM nL 0 (ha:=t) fun w9 nT l z7 => ?_;have qV:aQ w9 a 6 (rv .u64 (fun p=>vk ((AO vk X k) p) ((X (k+1)) p))) 35:=aL nT;have qB:=lu.cu l (by omega);have pE:=m32.cu l (by omega);have sJ:=oQ.cu l (by omega);have mK:=oO.cu l (by omega);have b9:=l.below O O.size (by omega);refine Ln<|bU<|sN<|Wl<|Lv (au ((k:Int)+1)) (fH (hx:=g))<|av (au ((k:Int)+1))<|Ln<|iH ⟨k+1,by omega,R,C,t,S,(D.trans Fx.ic),Fx.ic,qB,pE,sJ,qV,b9⟩ ?_;show(m-(intOf (au ((k:Int)+1))).toNat)<_;simp only[g,intOf]; omega
 refine Lv aF (iE P (hx:=g) (hy:=D))<|aD<|Ws<|aK<|Wx<|cZ<|gZ<|dh<|sN<|ay<|Lv (.agg (aA 6 (rv .u64 (AO vk X k)))) (fM v.aH 0 (ha:=t))<|dM H 0 (ha:=C) fun su ni y z8 => ?_;have mR:aQ su r 6 (rv .u64 (AO vk X k)) 35:=aL ni;have qw:=u.cu y (by omega);have qW:=G.cu y (by omega);have ow:=v.cu y (by omega);have b10:=y.below o o.size (by omega);refine aD (Wr (⟨.agg (aA 6 (rv .u64 (AO vk X k))),rV Tryz.results118 ⟨_,C,aS mR.aH (by kernel_rfl) (by kernel_rfl)⟩,?_⟩));have ek:k=m:=by omega
 exact⟨by rw[ek],b10⟩
theorem Oh(a:Option Addr)(n cap:Nat)(X:Nat->Nat->Int)(w:World)(g:n<=1000000)(h:Vcs w a n cap X) :
 Calls Tryz.prog 118 #[.slice a n cap,.func (.func 119) #[] #[]] w fun e w'=>e = .returned (.agg (aA 6 (rv .u64 (P6 vk X n))))/\Below w.heap.size w w':=by
 cases n with
 | zero=>exact LZ a cap w
 | succ m=>obtain⟨c,b,f,rfl,d⟩:=h (by omega); exact L6 b f m cap X w c (by omega) d
theorem afg{w w':World}{a:Option Addr}{n cap:Nat}{X:Nat->Nat->Int}(h:Vcs w a n cap X)(f:Below w.heap.size w w'):Vcs w' a n cap X:=fun d=>by
 obtain⟨g,b,i,e,c⟩:=h d;exact⟨g,b,i,e,c.below f (c.lt (by omega))⟩
theorem afh(a:Option Addr)(n cap:Nat)(X:Nat->Nat->Int)(w:World)(k:n<=1000000)(h:Vcs w a n cap X) :
 Calls Tryz.prog 68 #[.slice a (n) (cap)] w fun e w'=>e = .returned (.agg (aA 6 (rv .u64 (P6 vk X n))))/\Below w.heap.size w w':=by
 refine Kent Tryz.func68 5 ?_;refine ay<|BL (m:=6) (y:=rv .u64 (fun _=>0)) (by rfl) rfl (by kernel_rfl) rfl fun i v g d q z => ?_;have b:=bB q.old (Below.refl w.heap.size w);have t:=gN g;have u:=d.lt;refine aD<|ay<|av (.slice a (n) (cap))<|dX (Oh a n cap X _ k (afg h b)) _ rfl ?_;intro x j;have⟨l,c⟩:=fC j d b;refine dM l 0 fun s o r A => ?_;have p:aQ s i 6 (rv .u64 (P6 vk X n)) 35:=aL o;have f:=r.below c c.size (by omega);refine aD (Wr (⟨.agg (aA 6 (rv .u64 (P6 vk X n))),rV Tryz.results68 ⟨_,rfl,aS p.aH (by kernel_rfl) (by kernel_rfl)⟩,?_⟩));exact⟨rfl,f⟩
namespace Rt
theorem ajj(x y:Nat->Int):bG (bG (fun j=>rv .u64 (fun _=>0) (j % 6)) (0*6) 6 (rv .u64 x)) (1*6) 6 (rv .u64 y)=vx (V2 x y):=by
 funext p
 unfold bG;by_cases b:1*6<=p/\p<1*6+6
 ·rw[d_ b];show _=Value.int .u64 (V2 x y (p / 6) (p % 6));rw[show p / 6=1 by omega,show p-1*6=p % 6 by omega]; rfl
 rw[b_ b];by_cases a:0*6<=p/\p<0*6+6
 ·rw[d_ a];show _=Value.int .u64 (V2 x y (p / 6) (p % 6));rw[show p / 6=0 by omega,show p-0*6=p % 6 by omega]; rfl
 rw[b_ a];show _=Value.int .u64 (V2 x y (p / 6) (p % 6));obtain⟨q,c⟩ : ∃ q,p / 6=q+2:=⟨p / 6-2,by omega⟩;rw[c]; rfl
end Rt
namespace Rt
def hasB(K:Nat->Int)(o a:Int):Bool:=jy o&&decide (0<a)&&decide (a<=K (o-1).toNat)
theorem IQ{a b:Nat->Int}:za a b=true <-> ∀ i,i<6->rv .u64 (fun p=>vk (a p) (b p)) i=rv .u64 b i:=by
 unfold za;rw[List.all_eq_true];have e : ∀ i,rv .u64 (fun p=>vk (a p) (b p)) i=rv .u64 b i<->a i<=b i:=fun i=>by
  show Value.int .u64 (vk (a i) (b i))=aC (b i)<->_;simp only[Value.int.injEq,true_and]; unfold vk; split <;> omega
 constructor
 ·intro h i c; have:=h i (P_.2 c); rw[e]; exact h_ this
 intro h i c; have:=h i (P_.1 c); rw[e]at this; exact f_ this
def Kr(K:Nat->Int):Prop := ∀ i,i<6->jA (K i)
theorem Kr.kd{K:Nat->Int}(h:Kr K):Fx.Kd (List.replicate 6 (some .u64)) (rv .u64 K):=Fx.Tm fun i a=>Fx.vL (h i a)
theorem Kr.mx{K L:Nat->Int}(h:Kr K)(b:Kr L):Kr (fun p=>vk (K p) (L p)):=fun i a=>by
 have c:=h i a; have d:=b i a; show jA (vk (K i) (L i)); unfold vk; split <;> assumption
end Rt
theorem ZM{w:World}{g:Nat}{T:TypeId}{x:Nat->Value}(D K:Nat->Int)(h:aQ w g (2*6) x T)(e:x=vx (V2 D K)) :
 Calls Tryz.prog 68 #[bM g 2 2] w fun e w'=>e = .returned (.agg (aA 6 (rv .u64 fun p=>vk (D p) (K p))))/\Below w.heap.size w w' :=
 afh (some ⟨g,0,none⟩) 2 2 (V2 D K) w (by omega) (fun _=>⟨A_ _,g,0,rfl,(h.to e).aH⟩)
theorem Kc(n:Int)(w:World) :
 Calls Tryz.prog 77 #[au n] w fun e w'=>e = .returned (.bool (jy n))/\w'=w:=by
 refine Kent Tryz.func77 9 ?_;refine ay<|av aF<|aD<|ay<|av (au n) ?_;by_cases a:1<=n
 ·refine Lv aG (kW a)<|av aG<|av (au n) ?_;by_cases b:n<=6
  ·refine Lv aG (oh b)<|av aG<|av aG<|aD<|Wr<|aJ aG ?_;exact⟨iF (by simp only[jy]; first|(symm; simp; omega)|(symm; simp; done)),rfl⟩
  refine Lv aF (oP b)<|av aF<|av aF<|aD<|Wr<|aJ aF ?_;exact⟨iF (by simp only[jy]; first|(symm; simp; omega)|(symm; simp; done)),rfl⟩
 refine Lv aF (kN a)<|av aF<|bS<|bS<|av aF<|av aF<|aD<|Wr<|aJ aF ?_;exact⟨iF (by simp only[jy]; first|(symm; simp; omega)|(symm; simp; done)),rfl⟩
theorem abZ(K:Nat->Int)(o q:Int)(w:World) :
 Calls Tryz.prog 142 #[.agg (aA 6 (rv .u64 K)),au o,aC q] w fun e w'=>e = .returned (.bool (hasB K o q))/\Below w.heap.size w w':=by
 refine Kent Tryz.func142 21 ?_;refine ay<|pO fun k s j i l t => ?_;have f:=bB l.old (Below.refl w.heap.size w);have p:=gN j;have r:=i.lt;refine av aF<|aD<|ay<|av (au o) ?_;by_cases b:(jy o)=true
 ·obtain⟨a,n,m⟩:=eU b;refine lX (Kc o _) aG (by rw[b])<|av aG<|av (aC q) ?_;by_cases c:0<q
  ·refine Lv aG (nA c)<|av aG<|av aG<|av (au o)<|Lv (au a) gP<|Lv (pf k a) (jD 6 1)<|Lv (aC (K a)) (aM i.aH a)<|av (aC q) ?_;by_cases g:q<=(K a)
   ·refine Lv aG (kW g)<|av aG<|av aG<|aD<|Wr<|aJ aG ?_;have d:decide (0<q)=true:=f_ c;have h:decide (q<=K (o-1).toNat)=true:=f_ (by rw[show(o-1).toNat=a by omega]; exact g);exact⟨iF (Eq.symm (by unfold hasB; rw[b,d,h]; try rfl)),f⟩
   refine Lv aF (kN g)<|av aF<|av aF<|aD<|Wr<|aJ aF ?_;have d:decide (0<q)=true:=f_ c;have h:decide (q<=K (o-1).toNat)=false:=g_ (by rw[show(o-1).toNat=a by omega]; exact g);exact⟨iF (Eq.symm (by unfold hasB; rw[b,d,h]; try rfl)),f⟩
  refine Lv aF (nC c)<|av aF<|av aF<|bS<|bS<|bS<|bS<|bS<|bS<|av aF<|av aF<|aD<|Wr<|aJ aF ?_;have d:decide (0<q)=false:=g_ c;exact⟨iF (Eq.symm (by unfold hasB; rw[b,d]; try rfl)),f⟩
 rw[U_]at b;refine lX (Kc o _) aF (by rw[b])<|av aF<|bS<|bS<|av aF<|av aF<|bS<|bS<|bS<|bS<|bS<|bS<|av aF<|av aF<|aD<|Wr<|aJ aF ?_;exact⟨iF (Eq.symm (by unfold hasB; rw[b]; try rfl)),f⟩
theorem Wz(D K:Nat->Int)(w:World)(o:Kr D)(b:Kr K) :
 Calls Tryz.prog 143 #[.agg (aA 6 (rv .u64 D)),.agg (aA 6 (rv .u64 K))] w fun e w'=>e = .returned (.bool (za D K))/\Below w.heap.size w w':=by
 refine Kent Tryz.func143 11 ?_;refine ay<|pO fun M w1 E d I z1 => ?_;have f:=bB I.old (Below.refl w.heap.size w);have Q:=gN E;have W:=d.lt;refine pO fun N w2 l r J z2 => ?_;have⟨H,B⟩:=fC J.old d f;have R:=iK l f.size;have T:=cO l d.lt;have Z:=r.lt;refine av aF<|aD<|Ws ?_;refine jY [0,1,4,2,3,5,6] [4,4,2,2,1,0,0] [(2,0,[0]),(3,0,[2,0]),(2,1,[1]),(3,1,[2,1]),(3,2,[2]),(5,2,[3,2]),(6,2,[2]),(5,3,[3]),(6,3,[3])] fun qU F P => ?_;have⟨t,c,g⟩:=iY F H r B;refine Rs (.agg (aA 6 (rv .u64 D))) (fM t.aH 0) ?_;refine Rs (.agg (aA 6 (rv .u64 K))) (fM c.aH 0) ?_;refine Rd (v := .agg (aA 6 (rv .u64 K))) (by rfl) (by rfl) (uf _) (fun A G=>eG (x:=rv .u64 K) (y:=rv .u64 K) rfl rfl (by kernel_rfl) (by kernel_rfl) (c.aH.below G (by have:=c.lt; omega)) (i:=0) (by omega) (by omega) (fun j _=>by rw[H_])) ?_;refine zG<|yP (vs := [(0,.agg (aA 6 (rv .u64 D))),(1,.agg (aA 6 (rv .u64 K)))]) (s:=6) (zc:=rv .u64 (fun _=>0)) (y:=bG (bG (fun j=>(rv .u64 (fun _=>0)) (j % 6)) (0*6) 6 (rv .u64 D)) (1*6) 6 (rv .u64 K)) (by rfl) rfl rfl Tryz.underlying196 (by kernel_rfl) (by rfl) (by rfl) (by kernel_rfl) (by rw[bE (off:=0*6) (s:=6) (y:=rv .u64 D) rfl (bJ _ _) (by rfl)]; rw[bE (off:=1*6) (s:=6) (y:=rv .u64 K) rfl (bJ _ _) (by rfl)]; rfl) rfl fun O w3 m u z z3 => ?_;have C:=bB z.old g;have S:=iK m g.size;have⟨U,V⟩:=rD m t.lt c.lt;have aa:=u.lt;refine Ln ⟨z.old,?_⟩;refine zG<|dX (ZM D K u (ajj D K)) _ rfl ?_;intro w4 q;have L:=Sb q;have k:=bB q C;refine Ln ⟨L.old,?_⟩;by_cases a : ∀ i,i<6->(rv .u64 (fun p=>vk (D p) (K p))) i=(rv .u64 K) i
 ·refine Rp aG (fun A=>Fx.wQ (n:=6) (ks:=List.replicate 6 (some .u64)) (X:=rv .u64 (fun p=>vk (D p) (K p))) (Y:=rv .u64 K) 12 true rfl rfl rfl (Fx.Tn a) (o.mx b).kd b.kd rfl (by kernel_rfl) (by kernel_rfl) (by kernel_rfl) (by kernel_rfl) (by kernel_rfl))<|aY aG<|bT<|Wr<|aJ aG ?_;exact⟨iF (Eq.symm (IQ.2 a)),k⟩
 refine Rp aF (fun A=>Fx.wQ (n:=6) (ks:=List.replicate 6 (some .u64)) (X:=rv .u64 (fun p=>vk (D p) (K p))) (Y:=rv .u64 K) 12 false rfl rfl rfl (Fx.nob a) (o.mx b).kd b.kd rfl (by kernel_rfl) (by kernel_rfl) (by kernel_rfl) (by kernel_rfl) (by kernel_rfl))<|aY aF<|bT<|Wr<|aJ aF ?_;exact⟨iF (Eq.symm (Bool.eq_false_iff.2 (fun h=>a (IQ.1 h)))),k⟩
theorem Rt.L8{K:Nat->Int}{v:EvM}(h:bR v=true):mV K v=hasB K v.o v.seq:=by
 have a:=je h; have b:=(EM h).1;unfold mV hasB; rw[h,a,show decide (0<v.seq)=true from f_ (by omega)]; rfl
theorem WA(K:Nat->Int)(v:EvM)(w:World)(k:gI v) :
 Calls Tryz.prog 91 #[.agg (aA 6 (rv .u64 K)),.agg (aA 14 (bI v))] w fun e w'=>e = .returned (.bool (mV K v))/\Below w.heap.size w w':=by
 refine Kent Tryz.func91 15 ?_;refine ay<|pO fun B H q c z O => ?_;have f:=bB z.old (Below.refl w.heap.size w);have C:=gN q;have F:=c.lt;refine pO fun j I i d A P => ?_;have⟨x,g⟩:=fC A.old c f;have D:=iK i f.size;have E:=cO i c.lt;have G:=d.lt;refine av aF<|aD<|ay<|Lv (.agg (aA 14 (bI v))) (fM d.aH 0) ?_;by_cases a:(bR v)=true
 ·refine dX (IL v _ k) aG (by rw[a]) ?_;intro J r;have⟨y,l,h⟩:=iY r x d g;refine av aG<|Lv (.agg (aA 6 (rv .u64 K))) (fM y.aH 0)<|av (pt j)<|Lv (au v.o) (aM l.aH 0)<|av (pf j 1)<|Lv (aC v.seq) (aM l.aH 1) ?_;by_cases b:(hasB K v.o v.seq)=true
  ·refine dX (abZ K v.o v.seq _) aG (by rw[b]) ?_;intro L s;have m:=bB s h;refine av aG<|av aG<|aD<|Wr<|aJ aG ?_;exact⟨iF (Eq.symm ((L8 a).trans b)),m⟩
  rw[U_]at b;refine dX (abZ K v.o v.seq _) aF (by rw[b]) ?_;intro M t;have n:=bB t h;refine av aF<|av aF<|aD<|Wr<|aJ aF ?_;exact⟨iF (Eq.symm ((L8 a).trans b)),n⟩
 rw[U_]at a;refine dX (IL v _ k) aF (by rw[a]) ?_;intro N u;have p:=bB u g;refine av aF<|bS<|bS<|bS<|bS<|bS<|bS<|av aF<|av aF<|aD<|Wr<|aJ aF ?_;exact⟨iF (Eq.symm (by unfold mV; rw[a]; rfl)),p⟩
theorem P7(K:Nat->Int)(v:EvM)(w:World)(i:gI v)(q:Kr K) :
 Calls Tryz.prog 92 #[.agg (aA 6 (rv .u64 K)),.agg (aA 14 (bI v))] w fun e w'=>e = .returned (.bool (dG K v))/\Below w.heap.size w w':=by
 refine Kent Tryz.func92 24 ?_;refine ay<|pO fun z Q y l F W => ?_;have m:=bB F.old (Below.refl w.heap.size w);have L:=gN y;have O:=l.lt;refine pO fun k R p c G X => ?_;have⟨r,h⟩:=fC G.old l m;have M:=iK p m.size;have N:=cO p l.lt;have P:=c.lt;refine av aF<|aD<|Ws ?_;refine nD<|Qv (.agg (aA 14 (bI v))) (fun d b=>fM (c.cb b) 0) ?_;by_cases f:(bR v)=true
 ·obtain⟨a,I,H⟩:=eU (je f);have J:=EM f;refine Ae (fun _ _=>IL v _ i) aG (by rw[f])<|aX aG<|aX (pt k)<|Qv (au v.o) (fun d b=>aM (c.cb b) 0)<|Qv (au a) (fun d b=>gP)<|Qv (pf z a) (fun d b=>jD 6 1)<|Qv (aC (K a)) (fun d b=>aM (r.cb b) a)<|aX (pf k 1)<|Qv (aC v.seq) (fun d b=>aM (c.cb b) 1)<|Qv (aC (v.seq-1)) (fun d b=>gP) ?_;by_cases n:(K a)=(v.seq-1)
  ·refine Qv aG (fun d b=>dZ n)<|aX aG<|aX aG<|aX (pf k 2)<|Qv (.agg (aA 6 (rv .u64 v.deps))) (fun d b=>fM (c.cb b) 2 (fun j E=>mU _ (by omega) E))<|Qv (.agg (aA 6 (rv .u64 K))) (fun d b=>fM (r.cb b) 0) ?_;by_cases g:(za v.deps K)=true
   ·refine Ae (fun _ _=>Wz v.deps K _ i.deps q) aG (by rw[g])<|aX aG<|aX aG<|Qn ?_;intro S A;have s:=bB A h;refine sN<|Wr<|aJ aG ?_;have c:decide (v.seq=K (v.o-1).toNat+1)=true:=f_ (by rw[show(v.o-1).toNat=a by omega]; omega);exact⟨iF (Eq.symm (by unfold dG; rw[f,c,g]; try rfl)),s⟩
   rw[U_]at g;refine Ae (fun _ _=>Wz v.deps K _ i.deps q) aF (by rw[g])<|aX aF<|aX aF<|Qn ?_;intro T B;have t:=bB B h;refine sN<|Wr<|aJ aF ?_;have c:decide (v.seq=K (v.o-1).toNat+1)=true:=f_ (by rw[show(v.o-1).toNat=a by omega]; omega);exact⟨iF (Eq.symm (by unfold dG; rw[f,c,g]; try rfl)),t⟩
  refine Qv aF (fun d b=>fB n)<|aX aF<|aX aF<|aR<|aR<|aR<|aR<|aX aF<|aX aF<|Qn ?_;intro U C;have u:=bB C h;refine sN<|Wr<|aJ aF ?_;have c:decide (v.seq=K (v.o-1).toNat+1)=false:=g_ (by rw[show(v.o-1).toNat=a by omega]; omega);exact⟨iF (Eq.symm (by unfold dG; rw[f,c]; try rfl)),u⟩
 rw[U_]at f;refine Ae (fun _ _=>IL v _ i) aF (by rw[f])<|aX aF<|aR<|aR<|aR<|aR<|aR<|aR<|aR<|aR<|aR<|aX aF<|aX aF<|aR<|aR<|aR<|aR<|aX aF<|aX aF<|Qn ?_;intro V D;have x:=bB D h;refine sN<|Wr<|aJ aF ?_;exact⟨iF (Eq.symm (by unfold dG; rw[f]; try rfl)),x⟩
namespace Rt
def jP(m:dP)(v:EvM):Int:=if m.T.has v.node=false then 9 else if 140737488355328<m.R (m.idx v.node) (aP v)+v.aT then 6 else 0
def Dr(m:dP)(k:Int)(r:Nat->Int):dP := { m with R:=aO m.R (m.idx k) r }
def vo(m:dP)(v:EvM):dP:=Dr m v.node (upd (m.R (m.idx v.node)) (aP v) (m.R (m.idx v.node) (aP v)+v.aT))
def tT(m:dP)(v:EvM):(Nat->Int) × Int:=dA (m.R (m.idx v.node)) v.o v.dst v.aT
def kQ(m:dP)(v:EvM):Int:=if m.T.has v.node=false then 9 else if m.inn (v.dst-1).toNat=false then 10 else(tT m v).2
def D8(m:dP)(v:EvM):dP:=Dr m v.node (tT m v).1
def IU(m:dP)(v:EvM):dP := { m with inn:=aI m.inn (v.dst-1).toNat true }
def Dt(m:dP)(v:EvM):dP := { m with left:=aI m.left (aP v) true }
theorem E8{R:Nat->Nat->Int}{j:Nat}{r:Nat->Int} : ∀ n x w b,Mp w b n x (aO (xQ R) j (.agg (aA 54 (rv .i64 r))))->Mp w b n x (xQ (aO R j r)):=fun n x w b h=>h.vQ fun i _=>⟨rfl,by unfold xQ aO; split <;> rfl⟩
end Rt
theorem Hl:Fx.wY Tryz.prog 117:=⟨by kernel_rfl,by kernel_rfl,by kernel_rfl⟩
theorem WB(m:dP)(d B:Nat)(w:World)(h:lS w B d m)(v:EvM)(Z:bR v=true)(b:Nat)(E:b<6)(Y:v.dst=(b:Int)+1)(j:Nat)(i:Nat)(n:aQ w j 1 (fun _=>(pt d)) 28)(l:aQ w i 14 (bI v) 37) :
 Calls Tryz.prog 228 #[(pt j),(pt i)] w fun e w'=>e = .returned (.tuple #[])/\lS w' B d (IU m v)/\jI (Gg m d) w w':=by
 have y:=h.c;have D:=h.t;have A:=h.p;have C:=h.r;have z:=h.g;have x:=h.a;have f:=h.ne;have lC:=h.c.lt;have lT:=h.t.lt;have lP:=h.p.lt;have lR:=h.r.lt;have lG:=h.g.lt;have lA:=h.a.lt;have lgl:=n.lt;have lge:=l.lt;have F:(v.dst-1).toNat=b:=by omega
 refine Kent Tryz.func228 9 ?_;refine jY [1,0,4,5,2,3,6,7] [4,0,4,0,0,0,0,3] [(7,0,[0]),(7,2,[2])] fun X k aa => ?_;have V:Stp w.heap.size w X:=Sb k;have⟨o,N,O,P,Q,R,S,T⟩:=mO k y D A C z x n l;have s:=(uS (Gg m d) w).then V (.inr (uS (Gg m d) w).size);refine aY (pf i 10)<|Rs (pt d) (aM S.aH 0) ?_;refine aY (pt d)<|aY (pt d)<|Rs (au v.dst) (aM T.aH 10) ?_;refine Rp (au b) (fun _=>gP)<|Rp (pf d b) (fun _=>jD 6 1)<|gQ<|ji o b aG fun W U q z1 => ?_;have H:aQ W d 29 (wD { m with inn:=aI m.inn b true }) 114:=U.to (Wi E _);have G:=fP q o.ty;have⟨I,J,K,L,M⟩:=qA G N O P Q R;have u:=s.then q (.inl (.inl rfl));refine Ln (Rn (⟨.tuple #[],iT Tryz.results228,?_⟩));unfold IU; rw[F];exact⟨rfl,{ c:=H,t:=I,p:=J,r:=K,g:=L,a:=M,ne:=⟨f.mp,f.mr,f.mg,f.ma,f.pr,f.pg,f.pa,f.rg,f.ra,f.ga⟩,lB:=h.lB,pB:=h.pB,rB:=h.rB,gB:=h.gB,aB:=h.aB },u⟩
theorem RV(m:dP)(b B:Nat)(w:World)(h:lS w B b m)(v:EvM)(I:bR v=true)(j:Nat)(f:Nat)(n:aQ w j 1 (fun _=>(pt b)) 28)(l:aQ w f 14 (bI v) 37) :
 Calls Tryz.prog 229 #[(pt j),(pt f)] w fun e w'=>e = .returned (.tuple #[])/\lS w' B b (Dt m v)/\jI (Gg m b) w w':=by
 have z:=h.c;have E:=h.t;have C:=h.p;have D:=h.r;have A:=h.g;have y:=h.a;have d:=h.ne;have lC:=h.c.lt;have lT:=h.t.lt;have lP:=h.p.lt;have lR:=h.r.lt;have lG:=h.g.lt;have lA:=h.a.lt;have lgl:=n.lt;have lge:=l.lt;obtain⟨a,F,ho⟩ : ∃ a:Nat,a<6/\v.o=(a:Int)+1:=eU (je I);have H:aP v=a:=by unfold aP; omega
 refine Kent Tryz.func229 9 ?_;refine jY [1,0,4,5,2,3,6,7] [4,0,4,0,0,0,0,3] [(7,0,[0]),(7,2,[2])] fun Z k iC => ?_;have X:Stp w.heap.size w Z:=Sb k;have⟨q,P,Q,R,S,T,U,V⟩:=mO k z E C D A y n l;have u:=(uS (Gg m b) w).then X (.inr (uS (Gg m b) w).size);refine aY (pt f)<|Rs (pt b) (aM U.aH 0) ?_;refine aY (pt b)<|aY (pf b 6)<|Rs (au v.o) (aM V.aH 0) ?_;refine Rp (au a) (fun _=>gP)<|Rp (pf b (a+6)) (fun _=>jD 6 1)<|gQ<|ji q (a+6) aG fun Y W s z1 => ?_;have J:aQ Y b 29 (wD { m with left:=aI m.left a true }) 114:=W.to (Wj (i:=a) F (by omega) _);have G:=fP s q.ty;have⟨K,L,M,N,O⟩:=qA G P Q R S T;have x:=u.then s (.inl (.inl rfl));refine Ln (Rn (⟨.tuple #[],iT Tryz.results229,?_⟩));unfold Dt; rw[H];exact⟨rfl,{ c:=J,t:=K,p:=L,r:=M,g:=N,a:=O,ne:=⟨d.mp,d.mr,d.mg,d.ma,d.pr,d.pg,d.pa,d.rg,d.ra,d.ga⟩,lB:=h.lB,pB:=h.pB,rB:=h.rB,gB:=h.gB,aB:=h.aB },x⟩
theorem RX(m:dP)(d B:Nat)(w:World)(h:lS w B d m)(v:EvM)(hv:bR v=true)(Q:m.T.has v.node=true)(r:Nat->Int)(l:Nat)(k:Nat)(i:Nat)(hr:aQ w l 54 (rv .i64 (r)) 82)(u:aQ w k 1 (fun _=>(pt d)) 28)(q:aQ w i 14 (bI v) 37) :
 Calls Tryz.prog 218 #[(pt l),(pt k),(pt i)] w fun e w'=>e = .returned (.tuple #[])/\lS w' B d (Dr m v.node r)/\jI (Gg m d) w w':=by
 have K:=h.c;have P:=h.t;have N:=h.p;have O:=h.r;have M:=h.g;have J:=h.a;have b:=h.ne;have lC:=h.c.lt;have lT:=h.t.lt;have lP:=h.p.lt;have lR:=h.r.lt;have lG:=h.g.lt;have lA:=h.a.lt;have lgr:=hr.lt;have lgl:=u.lt;have lge:=q.lt;obtain⟨y,s,j⟩:=ig Q;have I:m.idx v.node=y:=nu h.t.inv.inj s j;refine Kent Tryz.func218 10 ?_;refine jY [4,0,1,2,3,5,6,7] [4,0,0,4,0,4,4,3] [(7,0,[0]),(7,3,[3]),(7,5,[5]),(7,6,[6])] fun qU o iC => ?_;have s1:Stp w.heap.size w qU:=Sb o;have⟨z,m2,m3,A,m5,m6,C,D,E⟩:=CO o K P N O M J hr u q;have G:=(uS (Gg m d) w).then s1 (.inr (uS (Gg m d) w).size);refine aY (pf i 9)<|Rs (pt d) (aM D.aH 0) ?_;refine aY (pt d)<|aY (pf d 20)<|Rs (.map (some m.rb)) (aM z.aH 20) ?_;refine Rs (aC v.node) (aM E.aH 9) ?_;refine Rs (.agg (aA 54 (rv .i64 (r)))) (fM C.aH 0) ?_;refine gQ<|Fx.L.adh (by rfl) rfl rfl rfl rfl rfl A Tryz.underlying109 Tryz.underlying23 s j fun w1 S F z1 => ?_;have f:=A.CP F;have U:=z.eH f;have V:=m2.eH f (b.mr);have W:=m3.eH f (b.pr);have X:=m5.eH f (Ne.symm b.rg);have Y:=m6.eH f (Ne.symm b.ra);have m16:=C.eH f;have m17:=D.eH f;have m18:=E.eH f;have H:=G.then F (.inl (.inr (.inr (.inr (.inl rfl)))));have Z:Mp w1 m.rb m.T.n m.T.x (xQ (aO m.R y (r))):=E8 _ _ _ _ S;refine Ln (Rn (⟨.tuple #[],iT Tryz.results218,?_⟩));unfold Dr; rw[I];exact⟨rfl,{ c:=U,t:=V,p:=W,r:=Z,g:=X,a:=Y,ne:=⟨b.mp,b.mr,b.mg,b.ma,b.pr,b.pg,b.pa,b.rg,b.ra,b.ga⟩,lB:=h.lB,pB:=h.pB,rB:=h.rB,gB:=h.gB,aB:=h.aB },H⟩
theorem WE(m:dP)(d B:Nat)(w:World)(h:lS w B d m)(v:EvM)(hv:bR v=true)(Q:m.T.has v.node=true)(r:Nat->Int)(l:Nat)(k:Nat)(i:Nat)(hr:aQ w l 54 (rv .i64 (r)) 82)(u:aQ w k 1 (fun _=>(pt d)) 28)(q:aQ w i 14 (bI v) 37) :
 Calls Tryz.prog 227 #[(pt l),(pt k),(pt i)] w fun e w'=>e = .returned (.tuple #[])/\lS w' B d (Dr m v.node r)/\jI (Gg m d) w w':=by
 have K:=h.c;have P:=h.t;have N:=h.p;have O:=h.r;have M:=h.g;have J:=h.a;have b:=h.ne;have lC:=h.c.lt;have lT:=h.t.lt;have lP:=h.p.lt;have lR:=h.r.lt;have lG:=h.g.lt;have lA:=h.a.lt;have lgr:=hr.lt;have lgl:=u.lt;have lge:=q.lt;obtain⟨y,s,j⟩:=ig Q;have I:m.idx v.node=y:=nu h.t.inv.inj s j;refine Kent Tryz.func227 10 ?_;refine jY [4,0,1,2,3,5,6,7] [4,0,0,4,0,4,4,3] [(7,0,[0]),(7,3,[3]),(7,5,[5]),(7,6,[6])] fun qU o iC => ?_;have s1:Stp w.heap.size w qU:=Sb o;have⟨z,m2,m3,A,m5,m6,C,D,E⟩:=CO o K P N O M J hr u q;have G:=(uS (Gg m d) w).then s1 (.inr (uS (Gg m d) w).size);refine aY (pf i 9)<|Rs (pt d) (aM D.aH 0) ?_;refine aY (pt d)<|aY (pf d 20)<|Rs (.map (some m.rb)) (aM z.aH 20) ?_;refine Rs (aC v.node) (aM E.aH 9) ?_;refine Rs (.agg (aA 54 (rv .i64 (r)))) (fM C.aH 0) ?_;refine gQ<|Fx.L.adh (by rfl) rfl rfl rfl rfl rfl A Tryz.underlying109 Tryz.underlying23 s j fun w1 S F z1 => ?_;have f:=A.CP F;have U:=z.eH f;have V:=m2.eH f (b.mr);have W:=m3.eH f (b.pr);have X:=m5.eH f (Ne.symm b.rg);have Y:=m6.eH f (Ne.symm b.ra);have m16:=C.eH f;have m17:=D.eH f;have m18:=E.eH f;have H:=G.then F (.inl (.inr (.inr (.inr (.inl rfl)))));have Z:Mp w1 m.rb m.T.n m.T.x (xQ (aO m.R y (r))):=E8 _ _ _ _ S;refine Ln (Rn (⟨.tuple #[],iT Tryz.results227,?_⟩));unfold Dr; rw[I];exact⟨rfl,{ c:=U,t:=V,p:=W,r:=Z,g:=X,a:=Y,ne:=⟨b.mp,b.mr,b.mg,b.ma,b.pr,b.pg,b.pa,b.rg,b.ra,b.ga⟩,lB:=h.lB,pB:=h.pB,rB:=h.rB,gB:=h.gB,aB:=h.aB },H⟩
namespace Rt
theorem P8{v:EvM}(h:bR v=true)(c:v.kind=5) : ∃ b:Nat,b<6/\v.dst=(b:Int)+1:=by
 unfold bR at h;simp only[T_]at h;have a:=h.2;unfold dH at a;rw[b_ (by omega),b_ (by omega),b_ (by omega),b_ (by omega),d_ c]at a;unfold mH at a;simp only[T_]at a;exact eU a.2.1
end Rt
theorem afi(x:Nat->Int)(i j n:Int)(w:World)(hi:1<=i/\i<=6)(a:1<=j/\j<=6) :
 Calls Tryz.prog 226 #[.agg (aA 54 (rv .i64 x)),au i,au j,au n] w fun e w'=>e = .returned (.tuple #[.agg (aA 54 (rv .i64 (dA x i j n).1)),au (dA x i j n).2])/\Below w.heap.size w w' :=
 U9 x i j n w (by omega) (by omega)
theorem afj(x:Nat->Int)(i n:Int)(w:World)(hi:1<=i/\i<=6) :
 Calls Tryz.prog 221 #[.agg (aA 54 (rv .i64 x)),au i,au n] w fun e w'=>e = .returned (.tuple #[.agg (aA 54 (rv .i64 (bF x i n).1)),au (bF x i n).2])/\Below w.heap.size w w' :=
 U5 x i n w (by omega)
theorem afk(x:Nat->Int)(i n:Int)(w:World)(hi:1<=i/\i<=6) :
 Calls Tryz.prog 224 #[.agg (aA 54 (rv .i64 x)),au i,au n] w fun e w'=>e = .returned (.tuple #[.agg (aA 54 (rv .i64 (bH x i n).1)),au (bH x i n).2])/\Below w.heap.size w w' :=
 U8 x i n w (by omega)
theorem WH(m:dP)(k B:Nat)(w:World)(h:lS w B k m)(v:EvM)(O:bR v=true)(hkd:v.kind=2)(hRb : ∀ i,i<m.T.n -> ∀ p,p<54->0<=m.R i p/\m.R i p<=1125899906842624) :
 Calls Tryz.prog 208 #[(pt k),.agg (aA 14 (bI v))] w fun e w'=>SK w B k m (vo m v) (jP m v) e w':=by
 have hC:=h.c;have hT:=h.t;have hP:=h.p;have hR:=h.r;have hG:=h.g;have hA:=h.a;have hN:=h.ne;have lC:=h.c.lt;have lT:=h.t.lt;have lP:=h.p.lt;have lR:=h.r.lt;have lG:=h.g.lt;have lA:=h.a.lt;obtain⟨a,ha,ho⟩ : ∃ a:Nat,a<6/\v.o=(a:Int)+1:=eU (je O);have N:aP v=a:=by unfold aP; omega
 refine Kent Tryz.func208 39 ?_;refine ay<|yD (pt k) fun q w1 ku P s1 z1 => ?_;have⟨m2,m4,m5,m6,m7,X⟩:=rz s1.old hC hP hR hG hA (Below.refl w.heap.size w);have tC:=gN ku;have⟨nK,zm,yx,Co,AL⟩:=Ag ku hC.lt hP.lt hR.lt hG.lt hA.lt;have uK:=P.lt;refine pO fun f w2 uO m8 s2 z2 => ?_;have⟨m9,m11,m12,m13,m14,m15,b2⟩:=jJ s2.old m2 m4 m5 m6 m7 P X;have qX:=iK uO X.size;have⟨L9,Gi,Gj,Br,Gl,CW⟩:=G9 uO m2.lt m4.lt m5.lt m6.lt m7.lt P.lt;have zM:=m8.lt;refine av (.nilFunc)<|av (au 0)<|aD<|Ws ?_;refine jY [4,0,1,2,3,5,6,7,8,9,10,11,12] [1,0,0,1,0,1,1,0,0,0,2,3,0] [(11,0,[0]),(11,3,[3]),(11,5,[5]),(11,6,[6]),(11,10,[10]),(12,10,[10]),(12,11,[11])] fun qU dU iC => ?_;have⟨F,m18,G,m20,m21,u,y,A⟩:=mO dU m9 m11 m12 m13 m14 m15 m8 b2;refine aY (pf f 9)<|Rd (v:=(pt k)) (by rfl) (by rfl) (uf _) (fun H j=>bf (x:=fun _=>(pt k)) rfl rfl (by kernel_rfl) (u.aH.below j (by have:=u.lt; omega)) (i:=0) (by omega) (by omega) rfl) ?_;refine aY (pt k)<|aY (pf k 20)<|Rd (v := .map (some m.rb)) (by rfl) (by rfl) (uf _) (fun H j=>bf (x:=wD m) rfl rfl (by kernel_rfl) (F.aH.below j (by have:=F.lt; omega)) (i:=20) (by omega) (by omega) rfl) ?_;refine Rd (v:=aC v.node) (by rfl) (by rfl) (uf _) (fun H j=>bf (x:=bI v) rfl rfl (by kernel_rfl) (y.aH.below j (by have:=y.lt; omega)) (i:=9) (by omega) (by omega) rfl) ?_
 rcases Fx.tu m.T.x m.T.n v.node with ⟨b,E,K⟩|jH
 ·refine Rd (v := .tuple #[.agg (aA 54 (rv .i64 (m.R b))),.bool true]) (by rfl) (by rfl) (uf _) (fun H j=>Fx.FC (z := .agg (aA 54 (rv .i64 (fun _=>0)))) rfl rfl rfl (G.up j) Tryz.underlying109 Tryz.underlying23 (by kernel_rfl) E K rfl) ?_;refine aY (.tuple #[.agg (aA 54 (rv .i64 (m.R b))),.bool true])<|aY (.agg (aA 54 (rv .i64 (m.R b))))<|aY aG<|zG<|nS 54 (rv .i64 (fun _=>0)) fun d w3 um Q s4 z3 => ?_;have⟨lu,m32,Y⟩:=iY s4.old u y A;have BF:=iK um A.size;have⟨Oi,Ke,Oj,WI,WJ,afl,afm⟩:=Nv um F.lt m18.lt G.lt m20.lt m21.lt u.lt y.lt;have GZ:=Q.lt;refine Ln ⟨s4.old,?_⟩;refine gQ<|dM Q 0 fun w4 oQ s5 z4 => ?_;have nL:aQ w4 d 54 (rv .i64 (m.R b)) 82:=aL oQ;have gF:=fP s5 Q.ty;have⟨mK,ni⟩:=vP gF lu m32;have b5:=s5.below Y Y.size (by omega);refine Ln<|aY aG<|bT<|Ws<|ay<|av aG<|av aF<|aD<|aK<|Wk<|sN<|Ws<|Ws ?_;have L:m.idx v.node=b:=nu h.t.inv.inj E K;have s:m.T.has v.node=true:=jS E K;have q1:=hRb b E a (by omega);have q2:=lJ O (.inl hkd);refine jY [0,3,6,9,1,2,4,5,7,8,10,11] [0,4,0,0,0,4,0,4,0,0,0,3] [(11,1,[1]),(11,5,[5]),(11,7,[7])] fun BS fZ mQ => ?_;have⟨sM,S,U,Z⟩:=jW fZ mK ni nL b5;refine aY (pt f)<|aY (pt d)<|aY (pf f 11)<|aY (pt d)<|Rs (au v.o) (aM S.aH 0) ?_;refine Rp (au a) (fun _=>gP)<|Rp (pf d a) (fun _=>jD 6 1)<|Rs (au ((m.R b) a)) (aM U.aH a) ?_;refine Rs (au v.aT) (aM S.aH 11) ?_;refine Rp (au (((m.R b) a)+v.aT)) (fun _=>fH)<|Rp (pf d a) (fun _=>jD 6 1)<|gQ<|ji U a (au (((m.R b) a)+v.aT)) fun w5 uw s7 z5 => ?_;have V:aQ w5 d 54 (rv .i64 (upd (m.R b) a (((m.R b) a)+v.aT))) 82:=uw.to (Fx.zy _ _ _ _);have jT:=fP s7 U.ty;have⟨rE,W⟩:=vP jT sM S;have I:=s7.below Z Z.size (by omega);refine Ln<|bT<|ay<|av (pt f)<|Lv (au v.o) (aM W.aH 0)<|Lv (au a) gP<|av (pt d)<|Lv (pf d a) (jD 6 1)<|Lv (au ((upd (m.R b) a (((m.R b) a)+v.aT)) a)) (aM V.aH a) ?_;by_cases C:140737488355328<((upd (m.R b) a (((m.R b) a)+v.aT)) a)
  ·refine Lv aG (nA C)<|aD<|aN<|ay<|av (.nilFunc)<|av (au 6)<|aD<|Wr<|sR<|aJ (.tuple #[.nilFunc,au 6]) ?_;have l:jP m v=6:=(by unfold jP; rw[b_ (by rw[s]; decide)]; exact d_ (by rw[L,N]; simpa [upd] using C));exact⟨⟨.nilFunc,0,#[],by rw[l],rfl,fun J=>N_ (l.symm.trans J) (by first|decide|omega|assumption)⟩,I⟩
  refine Lv aF (nC C)<|aD<|aK<|Wk<|sN<|ay<|Lv (.func (.func 218) #[] #[(pt d),(pt q),(pt f)]) (Fx.mG (us := []) (vs := [(pt d),(pt q),(pt f)]) rfl rfl rfl)<|av (.func (.func 218) #[] #[(pt d),(pt q),(pt f)])<|av (au 0)<|aD<|Wr<|aJ (.tuple #[.func (.func 218) #[] #[(pt d),(pt q),(pt f)],au 0]) ?_;have em:vo m v=Dr m v.node (upd (m.R b) a (m.R b a+v.aT)):=by unfold vo; rw[L,N]
  rw[em];have l:jP m v=0:=by unfold jP; rw[b_ (by rw[s]; decide)]; exact b_ (by rw[L,N]; simpa [upd] using C)
  exact⟨⟨_,218,#[(pt d),(pt q),(pt f)],by rw[l],rfl,fun _=>⟨rfl,⟨_,_,Tryz.func218,rfl,rfl⟩,fun w2 D=>(RX m k B w2 ((h.up I).up D) v O s _ _ _ _ (V.cu (Sb D) (u_ V.lt)) (rE.cu (Sb D) (u_ rE.lt)) (W.cu (Sb D) (u_ W.lt))).mono fun _ _ M=>⟨M.1,M.2.1,M.2.2.mono fun _ s => .inl s⟩⟩⟩,I⟩
 refine Rd (v := .tuple #[.agg (aA 54 (rv .i64 (fun _=>0))),.bool false]) (by rfl) (by rfl) (uf _) (fun H j=>Fx.FB (z := .agg (aA 54 (rv .i64 (fun _=>0)))) rfl rfl rfl (G.up j) Tryz.underlying109 Tryz.underlying23 (by kernel_rfl) jH) ?_;refine aY (.tuple #[.agg (aA 54 (rv .i64 (fun _=>0))),.bool false])<|aY (.agg (aA 54 (rv .i64 (fun _=>0))))<|aY aF<|zG<|nS 54 (rv .i64 (fun _=>0)) fun g4 w6 CU nY s8 z6 => ?_;have b8:=bB s8.old A;have NT:=iK CU A.size;have⟨afn,afo,afp,afq,afr,afs,aft⟩:=Nv CU F.lt m18.lt G.lt m20.lt m21.lt u.lt y.lt;have M9:=nY.lt;refine Ln ⟨s8.old,?_⟩;refine gQ<|dM nY 0 fun w7 uN s9 z7 => ?_;have vH:aQ w7 g4 54 (rv .i64 (fun _=>0)) 82:=aL uN;have b9:=s9.below b8 b8.size (by omega);refine Ln<|aY aF<|bT<|Ws<|ay<|av aF<|av aG<|aD<|aN<|ay<|av (.nilFunc)<|av (au 9)<|aD<|Wr<|sR<|aJ (.tuple #[.nilFunc,au 9]) ?_;have l:jP m v=9:=by unfold jP; exact d_ (zI jH)
 exact⟨⟨.nilFunc,0,#[],by rw[l],rfl,fun J=>N_ (l.symm.trans J) (by first|decide|omega|assumption)⟩,b9⟩
theorem ZN(m:dP)(f B:Nat)(w:World)(h:lS w B f m)(v:EvM)(S:bR v=true)(hkd:v.kind=5) :
 Calls Tryz.prog 211 #[(pt f),.agg (aA 14 (bI v))] w fun e w'=>SK w B f m (D8 m v) (kQ m v) e w':=by
 have hC:=h.c;have hT:=h.t;have hP:=h.p;have hR:=h.r;have hG:=h.g;have hA:=h.a;have hN:=h.ne;have lC:=h.c.lt;have lT:=h.t.lt;have lP:=h.p.lt;have lR:=h.r.lt;have lG:=h.g.lt;have lA:=h.a.lt;obtain⟨a,ha,ho⟩ : ∃ a:Nat,a<6/\v.o=(a:Int)+1:=eU (je S);have hra:aP v=a:=by unfold aP; omega
 obtain⟨b,hb,hd⟩:=P8 S hkd;have O:(v.dst-1).toNat=b:=by omega
 refine Kent Tryz.func211 47 ?_;refine ay<|yD (pt f) fun A w1 ku U s1 z1 => ?_;have⟨m2,m4,m5,m6,m7,W⟩:=rz s1.old hC hP hR hG hA (Below.refl w.heap.size w);have tC:=gN ku;have⟨nK,zm,yx,Co,AL⟩:=Ag ku hC.lt hP.lt hR.lt hG.lt hA.lt;have uK:=U.lt;refine pO fun j w2 uO m8 s2 z2 => ?_;have⟨m9,m11,m12,m13,m14,m15,b2⟩:=jJ s2.old m2 m4 m5 m6 m7 U W;have qX:=iK uO W.size;have⟨L9,Gi,Gj,Br,Gl,CW⟩:=G9 uO m2.lt m4.lt m5.lt m6.lt m7.lt U.lt;have zM:=m8.lt;refine av (.nilFunc)<|av (au 0)<|aD<|Ws ?_;refine jY [4,0,1,2,3,5,6,7,8,9,10,11,12] [1,0,0,1,0,1,1,0,0,0,2,3,0] [(11,0,[0]),(11,3,[3]),(11,5,[5]),(11,6,[6]),(11,10,[10]),(12,10,[10]),(12,11,[11])] fun qU dU iC => ?_;have⟨C,m18,J,m20,m21,D,E,G⟩:=mO dU m9 m11 m12 m13 m14 m15 m8 b2;refine aY (pf j 9)<|Rd (v:=(pt f)) (by rfl) (by rfl) (uf _) (fun K l=>bf (x:=fun _=>(pt f)) rfl rfl (by kernel_rfl) (D.aH.below l (by have:=D.lt; omega)) (i:=0) (by omega) (by omega) rfl) ?_;refine aY (pt f)<|aY (pf f 20)<|Rd (v := .map (some m.rb)) (by rfl) (by rfl) (uf _) (fun K l=>bf (x:=wD m) rfl rfl (by kernel_rfl) (C.aH.below l (by have:=C.lt; omega)) (i:=20) (by omega) (by omega) rfl) ?_;refine Rd (v:=aC v.node) (by rfl) (by rfl) (uf _) (fun K l=>bf (x:=bI v) rfl rfl (by kernel_rfl) (E.aH.below l (by have:=E.lt; omega)) (i:=9) (by omega) (by omega) rfl) ?_
 rcases Fx.tu m.T.x m.T.n v.node with ⟨d,Q,N⟩|jH
 ·refine Rd (v := .tuple #[.agg (aA 54 (rv .i64 (m.R d))),.bool true]) (by rfl) (by rfl) (uf _) (fun K l=>Fx.FC (z := .agg (aA 54 (rv .i64 (fun _=>0)))) rfl rfl rfl (J.up l) Tryz.underlying109 Tryz.underlying23 (by kernel_rfl) Q N rfl) ?_;refine aY (.tuple #[.agg (aA 54 (rv .i64 (m.R d))),.bool true])<|aY (.agg (aA 54 (rv .i64 (m.R d))))<|aY aG<|zG<|nS 54 (rv .i64 (fun _=>0)) fun q w3 um V s4 z3 => ?_;have⟨nW,lu,m32,X⟩:=jW s4.old C D E G;have BF:=iK um G.size;have⟨Oi,Ke,Oj,WI,WJ,afl,afm⟩:=Nv um C.lt m18.lt J.lt m20.lt m21.lt D.lt E.lt;have GZ:=V.lt;refine Ln ⟨s4.old,?_⟩;refine gQ<|dM V 0 fun w4 oQ s5 z4 => ?_;have nL:aQ w4 q 54 (rv .i64 (m.R d)) 82:=aL oQ;have gF:=fP s5 V.ty;have⟨oO,mK,ni⟩:=BO gF nW lu m32;have b5:=s5.below X X.size (by omega);refine Ln<|aY aG<|bT<|Ws<|Wb<|ay<|av aG<|av aF<|av aF<|aD<|aK<|Ws ?_;have ex:m.idx v.node=d:=nu h.t.inv.inj Q N;have u:m.T.has v.node=true:=jS Q N;refine jY [1,0,4,5,2,3,6,7,8,9] [4,0,4,0,0,0,0,4,0,0] [] fun BS fZ mQ => ?_;have⟨mR,sM,F,uM,Y⟩:=nE fZ oO mK ni nL b5;refine aY (pf j 10)<|Rs (pt f) (aM sM.aH 0) ?_;refine aY (pt f)<|aY (pt f)<|Rs (au v.dst) (aM F.aH 10) ?_;refine Rp (au b) (fun _=>gP)<|Rp (pf f b) (fun _=>jD 6 1) ?_;by_cases s:(m.inn b)=true
  ·refine Rs aG (aM mR.aH b ((Dq (by omega)).trans (M_ Value.bool s))) ?_;refine aY aF<|aY aF<|bT<|aK<|Wk<|bU<|sN<|ay<|Lv (.agg (aA 54 (rv .i64 (m.R d)))) (fM uM.aH 0)<|av (pt j)<|Lv (au v.o) (aM F.aH 0)<|av (pf j 10)<|Lv (au v.dst) (aM F.aH 10)<|av (pf j 11)<|Lv (au v.aT) (aM F.aH 11)<|dX (afi (m.R d) v.o v.dst v.aT _ (by omega) (by omega)) _ rfl ?_;intro w5 hb1;have⟨sw,vU,rE,Z⟩:=jW hb1 sM F uM Y;refine av (.tuple #[.agg (aA 54 (rv .i64 ((dA (m.R d) v.o v.dst v.aT).1))),au ((dA (m.R d) v.o v.dst v.aT).2)])<|av (.agg (aA 54 (rv .i64 ((dA (m.R d) v.o v.dst v.aT).1))))<|av (au ((dA (m.R d) v.o v.dst v.aT).2))<|dM rE 0 fun w6 uj s8 z5 => ?_;have nY:aQ w6 q 54 (rv .i64 ((dA (m.R d) v.o v.dst v.aT).1)) 82:=aL uj;have jT:=fP s8 rE.ty;have⟨sO,vG⟩:=vP jT sw vU;have L:=s8.below Z Z.size (by omega);refine av (au ((dA (m.R d) v.o v.dst v.aT).2))<|aD<|Ws<|ay<|av (au ((dA (m.R d) v.o v.dst v.aT).2)) ?_;by_cases M:((dA (m.R d) v.o v.dst v.aT).2)=0
   ·refine Lv aF (jR M)<|aD<|aK<|Wk<|sN<|ay<|Lv (.func (.func 227) #[] #[(pt q),(pt A),(pt j)]) (Fx.mG (us := []) (vs := [(pt q),(pt A),(pt j)]) rfl rfl rfl)<|av (.func (.func 227) #[] #[(pt q),(pt A),(pt j)])<|av (au 0)<|aD<|Wr<|aJ (.tuple #[.func (.func 227) #[] #[(pt q),(pt A),(pt j)],au 0]) ?_;have H:tT m v=dA (m.R d) v.o v.dst v.aT:=(by unfold tT; rw[ex]);show SK w B f m (Dr m v.node (tT m v).1) _ _ _;rw[H];have k:kQ m v=0:=(by unfold kQ; rw[b_ (by rw[u]; decide),b_ (by rw[O,s]; decide),H]; exact M);exact⟨⟨_,227,#[(pt q),(pt A),(pt j)],by rw[k],rfl,fun _=>⟨rfl,⟨_,_,Tryz.func227,rfl,rfl⟩,fun w2 I=>(WE m f B w2 ((h.up L).up I) v S u _ _ _ _ (nY.cu (Sb I) (u_ nY.lt)) (sO.cu (Sb I) (u_ sO.lt)) (vG.cu (Sb I) (u_ vG.lt))).mono fun _ _ P=>⟨P.1,P.2.1,P.2.2.mono fun _ u => .inl u⟩⟩⟩,L⟩
   refine Lv aG (kY M)<|aD<|aN<|ay<|av (au ((dA (m.R d) v.o v.dst v.aT).2))<|av (.nilFunc)<|av (au ((dA (m.R d) v.o v.dst v.aT).2))<|aD<|Wr<|sR<|aJ (.tuple #[.nilFunc,au ((dA (m.R d) v.o v.dst v.aT).2)]) ?_;have H:tT m v=dA (m.R d) v.o v.dst v.aT:=(by unfold tT; rw[ex]);have k:kQ m v=(dA (m.R d) v.o v.dst v.aT).2:=(by unfold kQ; rw[b_ (by rw[u]; decide),b_ (by rw[O,s]; decide),H]);exact⟨⟨.nilFunc,0,#[],by rw[k],rfl,fun y=>N_ (k.symm.trans y) (by first|decide|omega|assumption)⟩,L⟩
  rw[U_]at s;refine Rs aF (aM mR.aH b ((Dq (by omega)).trans (M_ Value.bool s))) ?_;refine aY aG<|aY aG<|bT<|aN<|ay<|av (.nilFunc)<|av (au 10)<|aD<|Wr<|bL<|sR<|aJ (.tuple #[.nilFunc,au 10]) ?_;have k:kQ m v=10:=by unfold kQ; rw[b_ (by rw[u]; decide)]; exact d_ (by rw[O]; exact s)
  exact⟨⟨.nilFunc,0,#[],by rw[k],rfl,fun y=>N_ (k.symm.trans y) (by first|decide|omega|assumption)⟩,Y⟩
 refine Rd (v := .tuple #[.agg (aA 54 (rv .i64 (fun _=>0))),.bool false]) (by rfl) (by rfl) (uf _) (fun K l=>Fx.FB (z := .agg (aA 54 (rv .i64 (fun _=>0)))) rfl rfl rfl (J.up l) Tryz.underlying109 Tryz.underlying23 (by kernel_rfl) jH) ?_;refine aY (.tuple #[.agg (aA 54 (rv .i64 (fun _=>0))),.bool false])<|aY (.agg (aA 54 (rv .i64 (fun _=>0))))<|aY aF<|zG<|nS 54 (rv .i64 (fun _=>0)) fun g4 w7 CU uN s9 z6 => ?_;have b9:=bB s9.old G;have NT:=iK CU G.size;have⟨afu,apT,afv,apU,afw,afx,afy⟩:=Nv CU C.lt m18.lt J.lt m20.lt m21.lt D.lt E.lt;have M9:=uN.lt;refine Ln ⟨s9.old,?_⟩;refine gQ<|dM uN 0 fun w8 vV s10 z7 => ?_;have vJ:aQ w8 g4 54 (rv .i64 (fun _=>0)) 82:=aL vV;have b10:=s10.below b9 b9.size (by omega);refine Ln<|aY aF<|bT<|Ws<|Wb<|ay<|av aF<|av aG<|av aG<|aD<|aN<|ay<|av (.nilFunc)<|av (au 9)<|aD<|Wr<|bL<|sR<|aJ (.tuple #[.nilFunc,au 9]) ?_;have k:kQ m v=9:=by unfold kQ; exact d_ (zI jH)
 exact⟨⟨.nilFunc,0,#[],by rw[k],rfl,fun y=>N_ (k.symm.trans y) (by first|decide|omega|assumption)⟩,b10⟩
theorem ZO(m:dP)(i B:Nat)(w:World)(h:lS w B i m)(v:EvM)(J:bR v=true)(b:Nat)(G:b<6)(H:v.dst=(b:Int)+1) :
 Calls Tryz.prog 212 #[(pt i),.agg (aA 14 (bI v))] w fun e w'=>SK w B i m (IU m v) (0) e w':=by
 have y:=h.c;have S:=h.t;have A:=h.p;have C:=h.r;have z:=h.g;have x:=h.a;have R:=h.ne;have U:=h.c.lt;have Y:=h.t.lt;have W:=h.p.lt;have X:=h.r.lt;have V:=h.g.lt;have T:=h.a.lt;refine Kent Tryz.func212 7 ?_;refine ay<|yD (pt i) fun d w1 s l P z1 => ?_;have⟨K,L,M,N,O,o⟩:=rz P.old y A C z x (Below.refl w.heap.size w);have Z:=gN s;have⟨ab,ac,ad,ae,af⟩:=Ag s y.lt A.lt C.lt z.lt x.lt;have am:=l.lt;refine pO fun f E u n Q z2 => ?_;have⟨D,q⟩:=fC Q.old l o;have aa:=iK u o.size;have⟨al,ag,ah,ai,aj,ak⟩:=G9 u K.lt L.lt M.lt N.lt O.lt l.lt;have an:=n.lt;refine av (.nilFunc)<|av (au 0)<|aD<|ay<|Lv (.func (.func 228) #[] #[(pt d),(pt f)]) (Fx.mG (us := []) (vs := [(pt d),(pt f)]) rfl rfl rfl)<|av (.func (.func 228) #[] #[(pt d),(pt f)])<|av (au 0)<|aD<|Wr<|aJ (.tuple #[.func (.func 228) #[] #[(pt d),(pt f)],au 0]) ?_;have F:(0:Int)=0:=rfl;exact⟨⟨_,228,#[(pt d),(pt f)],by rw[F],rfl,fun _=>⟨rfl,⟨_,_,Tryz.func228,rfl,rfl⟩,fun E j=>(WB m i B E ((h.up q).up j) v J b G H _ _ (D.cu (Sb j) (u_ D.lt)) (n.cu (Sb j) (u_ n.lt))).mono fun _ _ k=>⟨k.1,k.2.1,k.2.2.mono fun _ I => .inl I⟩⟩⟩,q⟩
theorem WK(m:dP)(f B:Nat)(w:World)(h:lS w B f m)(v:EvM)(G:bR v=true) :
 Calls Tryz.prog 213 #[(pt f),.agg (aA 14 (bI v))] w fun e w'=>SK w B f m (Dt m v) (0) e w':=by
 have x:=h.c;have P:=h.t;have z:=h.p;have A:=h.r;have y:=h.g;have u:=h.a;have O:=h.ne;have R:=h.c.lt;have V:=h.t.lt;have T:=h.p.lt;have U:=h.r.lt;have S:=h.g.lt;have Q:=h.a.lt;refine Kent Tryz.func213 7 ?_;refine ay<|yD (pt f) fun b w1 q k M z1 => ?_;have⟨H,I,J,K,L,n⟩:=rz M.old x z A y u (Below.refl w.heap.size w);have W:=gN q;have⟨Y,Z,aa,ab,ac⟩:=Ag q x.lt z.lt A.lt y.lt u.lt;have aj:=k.lt;refine pO fun d D s l N z2 => ?_;have⟨C,o⟩:=fC N.old k n;have X:=iK s n.size;have⟨ai,ad,ae,af,ag,ah⟩:=G9 s H.lt I.lt J.lt K.lt L.lt k.lt;have ak:=l.lt;refine av (.nilFunc)<|av (au 0)<|aD<|ay<|Lv (.func (.func 229) #[] #[(pt b),(pt d)]) (Fx.mG (us := []) (vs := [(pt b),(pt d)]) rfl rfl rfl)<|av (.func (.func 229) #[] #[(pt b),(pt d)])<|av (au 0)<|aD<|Wr<|aJ (.tuple #[.func (.func 229) #[] #[(pt b),(pt d)],au 0]) ?_;have E:(0:Int)=0:=rfl;exact⟨⟨_,229,#[(pt b),(pt d)],by rw[E],rfl,fun _=>⟨rfl,⟨_,_,Tryz.func229,rfl,rfl⟩,fun D i=>(RV m f B D ((h.up o).up i) v G _ _ (C.cu (Sb i) (u_ C.lt)) (l.cu (Sb i) (u_ l.lt))).mono fun _ _ j=>⟨j.1,j.2.1,j.2.2.mono fun _ F => .inl F⟩⟩⟩,o⟩
section
open Rt
theorem apV(o q:Nat)(w:World)(a:1<=o/\o<=6)(c:1<=q/\q<1099511627776) :
 Calls Tryz.prog 214 #[au (o:Int),aC (q:Int)] w fun e w'=>e = .returned (aC (1099511627776*(o:Int)+(q:Int)))/\w'=w:=by
 refine Kent Tryz.func214 24 ?_;refine ay<|av (aC 0)<|aD<|Ws<|ay<|av (au o)<|Lv aF H6<|av aF<|av (au o)<|Lv aF yS<|av aF<|av aF<|av (aC q)<|Lv aF H6<|av aF<|av aF<|av (aC q)<|Lv aF H7<|av aF<|aD<|aK<|Wk<|sN<|ay<|av (au o)<|Lv (aC o) (dF rfl rfl (by kernel_rfl) Tryz.underlying23 (jQ (by omega) rfl))<|Lv (aC (1099511627776*(o:Int))) (Fx.KI (b:=40) rfl rfl rfl (by decide) (jQ (by omega) (by omega)))<|av (aC q)<|Lv (aC (1099511627776*(o:Int)+(q:Int))) (Fx.adU rfl rfl rfl (by omega) (by omega))<|av (aC (1099511627776*(o:Int)+(q:Int)))<|aD<|Wr<|aJ (aC (1099511627776*(o:Int)+(q:Int))) ?_;exact⟨rfl,rfl⟩
end
end Go.Proofs.YtcbedgfikejkoaaGreatDoor
namespace Go.Proofs.YtcbedgfikejkoaaGreatDoor
open Go.RowKit Go
namespace Rt
theorem Du : ∀(n m:Nat) (f:Nat->Nat),(∀ i,i<m->f i<n)->(∀ i j,i<m->j<m->f i=f j->i=j)->m<=n
 | 0,m,f,h1,_=>by
   rcases Nat.eq_zero_or_pos m with h|h
   ·omega
   ·have:=h1 0 h; omega
 | n+1,m,f,h1,h2=>by
   rcases Nat.eq_zero_or_pos m with h|h
   ·omega
   by_cases d : ∃ a,a<m/\f a=n
   ·obtain⟨a,b,e⟩:=d;have:=Du n (m-1) (fun j=>f (if j=a then m-1 else j)) (fun j o=>by
     have g:=h1 (if j=a then m-1 else j) (by split <;> omega)
     have k:f (if j=a then m-1 else j)≠n:=fun c=>by
      have:=h2 _ a (by split <;> omega) b (c.trans e.symm)
      split at this <;> omega
     show f _<n;omega) (fun i j l p c=>by
     have:=h2 _ _ (by split <;> omega) (by split <;> omega) c
     split at this <;> split at this <;> omega)
    omega
   ·have:=Du n m f (fun i b=>by
     have:=h1 i b;have:f i≠n:=fun e=>d ⟨i,b,e⟩;omega) h2
    omega
section
variable {T U:dO} {id pa k:Int} {i:Nat}
theorem dO.E9(h:T.err id pa=0):T.add id pa=T.put id pa:=d_ h
theorem dO.afz(h : ¬ T.err id pa=0):T.add id pa=T:=b_ h
theorem dO.AP(hi:i<T.n):T.has (T.x i)=true:=jS hi rfl
theorem dO.Ma(h:T.ok)(hi:i<T.n):T.par (T.x i)=T.p i:=BP h.inj hi rfl
theorem dO.step(h:T.ok)(a:T.has k=true):T.path k=k::T.path (T.par k):=by
 have b:jG T.x T.p T.n 3 (T.par k):=h.stop k a;show(if eB T.x T.n k=true then k::jK T.x T.p T.n 3 (T.par k)else [])=_;rw[d_ (show eB T.x T.n k=true from a),<- (Jz b (show 3<=4 by omega)).1]; rfl
theorem dO.afA(h:T.ok)(hi:i<T.n):T.path (T.x i)=T.x i::T.path (T.p i):=by rw[dO.step h (dO.AP hi),dO.Ma h hi]
theorem dO.zT:(T.path k).length<=4:=zJ
theorem dO.afB(h:T.ok):T.path 0 = []:=CB.ahJ h 4
theorem vW.zero(T:dO):vW dO.zero T:=⟨fun _ h=>(nomatch h),fun _ h=>(nomatch h)⟩
theorem vW.path(b:T.ok)(a:U.ok)(h:vW U T) : ∀(d:Nat) (k:Int),(k=0\/U.has k=true)->jK U.x U.p U.n d k=jK T.x T.p T.n d k
 | 0,_,_=>rfl
 | d+1,k,hk=>by
   rcases hk with rfl|hk
   ·rw[kZ (CB.YJ a),kZ (CB.YJ b)]
   ·unfold jK;have c:eB U.x U.n k=true:=hk;have e:eB T.x T.n k=true:=h.has k hk;have f:iN U.x U.p U.n k=iN T.x T.p T.n k:=h.par k hk;rw[d_ c,d_ e,<- f,vW.path b a h d];exact CB.up a hk
theorem vW.lt(s:U.ok)(h:vW U T)(hi:i<T.n)(m:U.has (T.x i)=false):U.n<T.n:=by
 have p : ∀ j,∃ q,j<U.n->q<T.n/\T.x q=U.x j:=fun j=>by
  by_cases g:j<U.n
  ·obtain⟨q,c,d⟩:=ig (h.has _ (dO.AP g));exact⟨q,fun _=>⟨c,d⟩⟩
  ·exact⟨0,fun h=>N_ h g⟩
 obtain⟨f,k⟩:=Classical.axiomOfChoice p;have:=Du T.n (U.n+1) (fun j=>if j=U.n then i else f j) (fun j g=>by
  show(if j=U.n then i else f j)<T.n;split
  ·exact hi
  ·exact(k j (by omega)).1) (fun a b t u e=>by
  have o : ∀ j,j<U.n->f j≠i:=fun j g e=>by
   have c:=(k j g).2;rw[e]at c;rw[c,dO.AP g]at m; cases m
  have e:(if a=U.n then i else f a)=(if b=U.n then i else f b):=e;by_cases c:a=U.n
  ·by_cases d:b=U.n
   ·omega
   ·rw[d_ c,b_ d]at e; exact N_ e.symm (o b (by omega))
  ·by_cases d:b=U.n
   ·rw[b_ c,d_ d]at e; exact N_ e (o a (by omega))
   ·rw[b_ c,b_ d]at e;have l:=(k a (by omega)).2;have r:=(k b (by omega)).2;rw[e]at l;exact s.inj a b (by omega) (by omega) (l.symm.trans r))
 omega
theorem vW.add(d:T.ok)(g:U.ok)(h:vW U T)(hi:i<T.n)(j:T.p i=0\/U.has (T.p i)=true) :
 vW (U.add (T.x i) (T.p i)) T/\(U.add (T.x i) (T.p i)).has (T.x i)=true /\ ∀ k,U.has k=true->(U.add (T.x i) (T.p i)).has k=true:=by
 cases hh:U.has (T.x i)with
 | true =>
   have e:U.add (T.x i) (T.p i)=U:=by
    refine dO.afz fun m => ?_;have:=(FE m).2.1;rw[show eB U.x U.n (T.x i)=U.has (T.x i)from rfl,hh]at this; cases this
   rw[e]; exact⟨h,hh,fun _ h=>h⟩
 | false =>
   have s:=(d.pos i hi).1;have q:=vW.lt g h hi hh;have r:=d.small;have l:U.err (T.x i) (T.p i)=0:=by
    unfold dO.err sj;rw[b_ (by omega),b_ (by rw[show eB U.x U.n (T.x i)=U.has (T.x i)from rfl,hh]; decide),b_,b_]
    ·rintro (b|b)
     ·omega
     ·have f:=vW.path d g h 4 (T.p i) j;rw[f]at b;have c:=dO.afA d hi;have o:(T.path (T.x i)).length<=4:=dO.zT;rw[c,List.length_cons]at o;have b:4<=(T.path (T.p i)).length:=b;omega
    ·rintro ⟨b,f⟩
     rcases j with c|c
     ·exact b c
     ·rw[show eB U.x U.n (T.p i)=U.has (T.p i)from rfl,c]at f; cases f
   rw[dO.E9 l];refine⟨⟨fun k a => ?_,fun k a => ?_⟩,?_,fun k a => ?_⟩
   ·rw[dO.jN,Bool.or_eq_true]at a
    rcases a with a|a
    ·exact h.has k a
    ·rw[<- h_ a]; exact dO.AP hi
   ·rw[dO.jN,Bool.or_eq_true]at a;rw[dO.uI];split
    ·rename_i e; subst e; exact(dO.Ma d hi).symm
    ·rename_i e
     rcases a with a|a
     ·exact h.par k a
     ·exact N_ (h_ a) e
   ·rw[dO.jN,f_ rfl,Bool.or_true]
   ·rw[dO.jN,a,Bool.true_or]
structure Mc(T U:dO)(r k:Nat):Prop where
 sub:vW U T
 fst : ∀ j,j<r->j<T.n->U.has (T.x j)=true
 nxt:k<=r->r<T.n->U.has (T.x r)=true
theorem Mc.start(T:dO) : ∀ {r:Nat},r=0->Mc T dO.zero r T.n:=fun e=>⟨vW.zero T,fun j h=>by omega,fun a b=>by omega⟩
theorem Mc.add{r k:Nat}(f:T.ok)(g:U.ok)(h:Mc T U r k)(m:0<k)(o:k<=T.n)(l:T.p (k-1)=0\/U.has (T.p (k-1))=true):Mc T (U.add (T.x (k-1)) (T.p (k-1))) r (k-1):=by
 obtain⟨c,d,b⟩:=vW.add f g h.sub (show k-1<T.n by omega) l;refine⟨c,fun j i a=>b _ (h.fst j i a),fun q a => ?_⟩;by_cases e:k<=r
 ·exact b _ (h.nxt e a)
 obtain rfl:r=k-1:=by omega
 exact d
theorem Mc.skip{r k:Nat}(b:T.ok)(h:Mc T U r k)(f:0<k)(g:k<=T.n)(d : ¬ T.p (k-1)=0)(a:U.has (T.p (k-1))=false):Mc T U r (k-1):=by
 refine⟨h.sub,h.fst,fun j c => ?_⟩;by_cases e:k<=r
 ·exact h.nxt e c
 obtain rfl:r=k-1:=by omega
 rcases b.par (k-1) (by omega)with h1|⟨i,hi,h1⟩
 ·exact N_ h1 d
 rw[<- h1,h.fst i hi (by omega)]at a; cases a
theorem Mc.next{r:Nat}(h:Mc T U r 0):Mc T U (r+1) T.n :=
 ⟨h.sub,fun j d a=>by
  by_cases e:j=r
  ·subst e; exact h.nxt (L_ _) a
  ·exact h.fst j (by omega) a,fun b c=>by omega⟩
theorem Mc.all{r k:Nat}(h:Mc T U r k)(hr:T.n<=r) : ∀ k,T.has k=true->U.has k=true:=fun k b=>by
 obtain⟨j,a,rfl⟩:=ig b;exact h.fst j (by omega) a
theorem Mc.path{r k:Nat}(h:Mc T U r k)(hr:T.n<=r)(q:Int):U.path q=T.path q:=h.sub.same (h.all hr) q
theorem Mc.list{r k:Nat}(h:Mc T U r k)(hr:T.n<=r){l m:List Int}(a:l.Pairwise (· < ·) /\ ∀ k,k∈l<->T.has k=true)(b:m.Pairwise (· < ·) /\ ∀ k,k∈m<->U.has k=true):m=l :=
 vR b.1 a.1 fun k=>(b.2 k).trans (Iff.trans ⟨h.sub.has k,h.all hr k⟩ (a.2 k).symm)
end
def SL(l:List Int)(v:Int)(n:Nat)(b:Bool):Prop:=b=true <-> ∃ j,j<n/\j<l.length/\l.getD j 0=v
theorem SL.zero(l:List Int)(v:Int):SL l v 0 false:=⟨fun h=>(nomatch h),fun⟨j,h,_⟩=>N_ h (z_ _)⟩
theorem SL.keep{l:List Int}{v:Int}{n:Nat}(h:SL l v n true):SL l v (n+1) true:=⟨fun _=>by obtain⟨j,b,a⟩:=h.1 rfl; exact⟨j,by omega,a⟩,fun _=>rfl⟩
theorem SL.yes{l:List Int}{v:Int}{n:Nat}(a:n<l.length)(e:l.getD n 0=v):SL l v (n+1) true:=⟨fun _=>⟨n,by omega,a,e⟩,fun _=>rfl⟩
theorem SL.no{l:List Int}{v:Int}{n:Nat}(h:SL l v n false)(e : ¬ l.getD n 0=v):SL l v (n+1) false:=⟨fun h=>(nomatch h),fun⟨j,d,c,a⟩=>by
 by_cases b:j=n
 ·subst b; exact N_ a e
 ·exact h.2 ⟨j,by omega,c,a⟩⟩
theorem SL.mem{l:List Int}{v:Int}{n:Nat}{b:Bool}(h:SL l v n b)(i:l.length<=n):b=true<->v∈l:=by
 constructor
 ·intro f;obtain⟨j,_,c,d⟩:=h.1 f;exact vS c d
 intro g;obtain⟨j,a,e⟩:=List.getElem_of_mem g;refine h.2 ⟨j,by omega,a,?_⟩;rw[r_,o_ a]; exact e
end Rt
namespace Rt
def ZP(x:Nat->Int)(v:Int)(j aq:Nat):Prop:=(aq=0 /\ ∀ q,q<j->x q≠v)\/(0<aq/\aq<=j/\x (aq-1)=v)
section
variable {x:Nat->Int} {v:Int} {j aq:Nat}
theorem ZP.zero:ZP x v 0 0 := .inl ⟨rfl,fun _ h=>N_ h (z_ _)⟩
theorem ZP.yes(e:x j=v):ZP x v (j+1) (j+1) := .inr ⟨by omega,by omega,e⟩
theorem ZP.no(h:ZP x v j aq)(e : ¬ x j=v):ZP x v (j+1) aq:=by
 rcases h with ⟨a,b⟩|⟨a,b,h3⟩
 ·refine .inl ⟨a,fun q d => ?_⟩;by_cases c:q=j
  ·subst c; exact e
  exact b q (by omega)
 exact .inr ⟨a,by omega,h3⟩
end
section
variable {x p:Nat->Int} {n:Nat}
theorem sQ : ∀ {d:Nat} {v:Int},jG x p n d v -> ∀ k,k<(jK x p n d v).length->eB x n ((jK x p n d v).getD k 0)=true /\
 (k+1<(jK x p n d v).length->(jK x p n d v).getD (k+1) 0=iN x p n ((jK x p n d v).getD k 0))/\(k+1=(jK x p n d v).length->eB x n (iN x p n ((jK x p n d v).getD k 0))=false)
 | 0,v,h,k,hk=>N_ hk (z_ _)
 | d+1,v,h,k,hk=>by
   cases hv:eB x n v with
   | false=>rw[kZ hv]at hk; exact N_ hk (z_ _)
   | true =>
     have e:jK x p n (d+1) v=v::jK x p n d (iN x p n v):=(by show(if _ then _ else _)=_; rw[d_ hv]);have c:jG x p n d (iN x p n v):=h hv;have i := @sQ d (iN x p n v) c;have g:0<(jK x p n d (iN x p n v)).length->(jK x p n d (iN x p n v)).getD 0 0=iN x p n v:=fun a=>by
      cases d with
      | zero=>exact N_ a (z_ _)
      | succ d =>
        unfold jK at a ⊢;split at a
        ·rename_i hq; rw[d_ hq]; rfl
        ·exact N_ a (z_ _)
     rw[e]at hk ⊢;rw[List.length_cons]at hk ⊢
     cases k with
     | zero =>
       rw[List.getD_cons_zero,List.getD_cons_succ];refine⟨hv,fun b=>g (by omega),fun b => ?_⟩
       cases hq:eB x n (iN x p n v)with
       | false=>rfl
       | true =>
         obtain⟨j,_,_,f⟩:=Ia c hq;rw[f,List.length_cons]at b; omega
     | succ k =>
       rw[List.getD_cons_succ,List.getD_cons_succ];have:=i k (by omega);exact⟨this.1,fun b=>this.2.1 (by omega),fun b=>this.2.2 (by omega)⟩
end
section
variable {T:dO} {id pa k v:Int} {i j aq:Nat} {pl:List Int}
theorem ZP.get(h:ZP T.x v T.n aq)(d:T.has v=true):0<aq/\aq-1<T.n/\T.x (aq-1)=v:=by
 rcases h with ⟨a,b⟩|⟨a,b,h3⟩
 ·obtain⟨q,c,e⟩:=ig d;exact N_ e (b q c)
 exact⟨a,by omega,h3⟩
theorem dO.Ol(h:T.ok)(e:pl=T.path v){q:Nat}(a:q<pl.length):T.has (pl.getD q 0)=true:=by
 subst e; exact(sQ (h.stop v) q a).1
theorem dO.ZQ(h:T.ok)(e:pl=T.path v){q:Nat}(b:q+1<pl.length)(ha:aq-1<T.n)(hx:T.x (aq-1)=pl.getD q 0):T.p (aq-1)=pl.getD (q+1) 0:=by
 subst e;have:=(sQ (h.stop v) q (Nat.lt_of_succ_lt b)).2.1 b;have a:=dO.Ma h ha;rw[hx]at a;exact a.symm.trans this.symm
theorem dO.ZR(h:T.ok)(e:pl=T.path v){q:Nat}(c:q+1=pl.length)(ha:aq-1<T.n)(hx:T.x (aq-1)=pl.getD q 0):T.p (aq-1)=0:=by
 subst e;have a:=(sQ (h.stop v) q (Nat.lt_of_succ_le (Nat.le_of_eq c))).2.2 c;have b:=dO.Ma h ha;rw[hx]at b;rw[show iN T.x T.p T.n ((jK T.x T.p T.n 4 v).getD q 0)=T.p (aq-1)from b]at a
 rcases h.par _ ha with h4|⟨i,hi,h4⟩
 ·exact h4
 rw[<- h4,jS (by omega) rfl]at a; cases a
theorem dO.afC(d : ¬ id=0)(e:pa=0\/T.has pa=true):T.err id pa=if T.has id=true then 14 else if 32<=T.n\/4<=(T.path pa).length then 6 else 0:=by
 show sj T.x T.p T.n id pa=_;unfold sj;rw[b_ d];have c : ¬ (¬ pa=0/\eB T.x T.n pa=false):=by
  rintro ⟨b,a⟩
  rcases e with h3|h3
  ·exact b h3
  ·rw[show eB T.x T.n pa=T.has pa from rfl,h3]at a; cases a
 rw[b_ c]; rfl
end
def Apt(v1 v2:Value):Prop := ∀ g,v1.ownBlock=some g->v2.ownBlock≠some g
section
variable {w w':World} {v v2:Value} {B s n g m c:Nat} {E:TypeId} {x:Nat->Value}
theorem Apt.symm(h:Apt v v2):Apt v2 v:=fun g a b=>h g b a
theorem Apt.nil:Apt (.slice none 0 0) v:=fun g h=>nomatch h
theorem Apt.app(h:Apt v v2)(b:Fx.Own w B E s v n x)(d:v2.ownBlock=some g\/g=w.heap.size):Apt v (bM g m c):=fun q a e=>by
 have e:some g=some q:=e;obtain rfl:=C_ e
 rcases d with h1|h1
 ·exact h _ a h1
 ·have:=(b.ge a).2; omega
end
end Rt
namespace Rt
def G6(n:Nat):Nat->List Nat
 | 0 => []
 | j+1=>G6 n j ++ [n-1-j]
theorem P9(n:Nat) : ∀ j,(G6 n j).length=j
 | 0=>rfl
 | j+1=>by unfold G6; rw[G_,P9 n j]; rfl
def Na(T:dO)(l:List Int)(a:List Nat):dO:=a.foldl (fun U x=>U.add (l.getD x 0) (T.par (l.getD x 0))) dO.zero
theorem Gm(T:dO)(l:List Int)(a:List Nat)(x:Nat):Na T l (a ++ [x])=(Na T l a).add (l.getD x 0) (T.par (l.getD x 0)):=by unfold Na; rw[List.foldl_append]; rfl
def lM(l ll:List Int)(U:dO):Nat->dO
 | 0=>U
 | i+1=>if ll.getD i 0∈l then lM l ll U i else(lM l ll U i).add (ll.getD i 0) 0
section
variable {T U:dO} {l ll:List Int} {id pa k v:Int} {i j n:Nat}
theorem has_lt(t:U.ok)(h : ∀ k,U.has k=true->T.has k=true)(hx:T.has v=true)(o:U.has v=false):U.n<T.n:=by
 obtain⟨i,u,rfl⟩:=ig hx;have r : ∀ j,∃ q,j<U.n->q<T.n/\T.x q=U.x j:=fun j=>by
  by_cases g:j<U.n
  ·obtain⟨q,c,d⟩:=ig (h _ (dO.AP g));exact⟨q,fun _=>⟨c,d⟩⟩
  ·exact⟨0,fun h=>N_ h g⟩
 obtain⟨f,l⟩:=Classical.axiomOfChoice r;have:=Du T.n (U.n+1) (fun j=>if j=U.n then i else f j) (fun j g=>by
  show(if j=U.n then i else f j)<T.n;split
  ·exact u
  ·exact(l j (by omega)).1) (fun a b w y e=>by
  have p : ∀ j,j<U.n->f j≠i:=fun j g e=>by
   have c:=(l j g).2;rw[e]at c;rw[c,dO.AP g]at o; cases o
  have e:(if a=U.n then i else f a)=(if b=U.n then i else f b):=e;by_cases c:a=U.n
  ·by_cases d:b=U.n
   ·omega
   ·rw[d_ c,b_ d]at e; exact N_ e.symm (p b (by omega))
  ·by_cases d:b=U.n
   ·rw[b_ c,d_ d]at e; exact N_ e (p a (by omega))
   ·rw[b_ c,b_ d]at e;have m:=(l a (by omega)).2;have s:=(l b (by omega)).2;rw[e]at m;exact t.inj a b (by omega) (by omega) (m.symm.trans s))
 omega
theorem WL(p:U.ok)(h : ∀ k,U.has k=true->T.has k=true):U.n<=T.n:=by
 have l : ∀ j,∃ q,j<U.n->q<T.n/\T.x q=U.x j:=fun j=>by
  by_cases i:j<U.n
  ·obtain⟨q,m,o⟩:=ig (h _ (dO.AP i));exact⟨q,fun _=>⟨m,o⟩⟩
  ·exact⟨0,fun h=>N_ h i⟩
 obtain⟨f,c⟩:=Classical.axiomOfChoice l;exact Du T.n U.n f (fun q r=>(c q r).1) fun a b d g e=>p.inj a b d g (by rw[<- (c a d).2,<- (c b g).2,e])
structure BwI(T U:dO)(l:List Int)(j:Nat):Prop where
 ok:U.ok
 sub:vW U T
 has : ∀ x,l.length-j<=x->x<l.length->U.has (l.getD x 0)=true
 only : ∀ k,U.has k=true->k∈l
theorem WO(a:T.ok)(hi:i<T.n):0<=T.x i/\T.x i<=18446744073709551615:=by have:=a.pos i hi; omega
theorem ZT(U:dO)(id pa k:Int)(h:(U.add id pa).has k=true):U.has k=true\/k=id:=by
 unfold dO.add at h;split at h
 ·rw[dO.jN,Bool.or_eq_true]at h
  rcases h with h|h
  ·exact .inl h
  exact .inr (h_ h).symm
 exact .inl h
theorem WQ(a:T.ok)(e:l=T.path pa) : ∀ j,j<=l.length->BwI T (Na T l (G6 l.length j)) l j
 | 0,_=>⟨CB.zero _ _,vW.zero T,fun x g c=>by omega,fun k h=>nomatch h⟩
 | j+1,hj=>by
   have d:=WQ a e j (by omega);have m:l.length-1-j<l.length:=(by omega);have t:T.has (l.getD (l.length-1-j) 0)=true:=dO.Ol a e m;obtain⟨i,f,b⟩:=ig t;have n:T.par (l.getD (l.length-1-j) 0)=T.p i:=(by rw[<- b]; exact dO.Ma a f);show BwI T (Na T l (G6 l.length j ++ [l.length-1-j])) l (j+1);rw[Gm,n,<- b];have s:T.p i=0\/(Na T l (G6 l.length j)).has (T.p i)=true:=by
    by_cases r:l.length-1-j+1=l.length
    ·exact .inl (dO.ZR (aq:=i+1) a e r f b)
    ·have c:=dO.ZQ (aq:=i+1) a e (show l.length-1-j+1<l.length by omega) f b;have c:T.p i=l.getD (l.length-1-j+1) 0:=c;right;rw[c];exact d.has _ (by omega) (by omega)
   obtain⟨u,v,w⟩:=vW.add a d.ok d.sub f s;refine⟨dO.JG d.ok (WO a f),u,fun x g c => ?_,fun k q => ?_⟩
   ·by_cases o:x=l.length-1-j
    ·rw[o,<- b]; exact v
    ·exact w _ (d.has x (by omega) c)
   ·rcases ZT _ _ _ _ q with g|rfl
    ·exact d.only k g
    ·rw[b];rw[r_,o_ m]; exact R_ m
structure RtI(T U:dO)(l ll:List Int)(i:Nat):Prop where
 ok:U.ok
 sub : ∀ k,U.has k=true->T.has k=true
 par : ∀ k,k∈l->U.has k=true/\U.par k=T.par k
 has : ∀ q,q<i->q<ll.length->U.has (ll.getD q 0)=true
 only : ∀ k,U.has k=true->k∈l \/ ∃ q,q<i/\q<ll.length/\ll.getD q 0=k
theorem afD(d:ll.Pairwise (· < ·)){a b:Nat}(ha:a<ll.length)(c:b<ll.length)(e:ll.getD a 0=ll.getD b 0):a=b:=by
 rw[r_,r_,o_ ha,o_ c]at e;have e:ll[a]=ll[b]:=e
 rcases Nat.lt_trichotomy a b with h1|h1|h1
 ·have:=List.pairwise_iff_getElem.1 d a b ha c h1; omega
 ·exact h1
 have:=List.pairwise_iff_getElem.1 d b a c ha h1; omega
theorem WR(d:T.ok)(g:ll.Pairwise (· < ·) /\ ∀ k,k∈ll<->T.has k=true)(n:RtI T U l ll 0) : ∀ i,i<=ll.length->RtI T (lM l ll U i) l ll i
 | 0,_=>n
 | i+1,hi=>by
   have b:=WR d g n i (by omega);unfold lM;have s:ll.getD i 0∈ll:=(by rw[r_,o_ (by omega)]; exact R_ _);have f:=(g.2 _).1 s;by_cases c:ll.getD i 0∈l
   ·rw[d_ c];refine⟨b.ok,b.sub,b.par,fun q v h => ?_,fun k a => ?_⟩
    ·by_cases e:q=i
     ·rw[e]; exact(b.par _ c).1
     ·exact b.has q (by omega) h
    ·rcases b.only k a with h1|⟨q,h1,h2,h3⟩
     ·exact .inl h1
     ·exact .inr ⟨q,by omega,h2,h3⟩
   ·rw[b_ c];obtain⟨z,r,m⟩:=ig f;have o:=WO d r;rw[m]at o;have u:=d.pos z r;rw[m]at u;have p:(lM l ll U i).has (ll.getD i 0)=false:=by
     cases hh:(lM l ll U i).has (ll.getD i 0)with
     | false=>rfl
     | true =>
       rcases b.only _ hh with h1|⟨q,h1,h2,h3⟩
       ·exact N_ h1 c
       ·have:=afD g.1 h2 (by omega) h3; omega
    have w:=has_lt b.ok b.sub f p;have x:=d.small;have j:(lM l ll U i).err (ll.getD i 0) 0=0:=by
     rw[dO.afC (by omega) (.inl rfl),b_ (by rw[p]; decide),b_];rw[dO.afB b.ok];rintro (h1|h1)
     ·omega
     ·simp at h1
    rw[dO.E9 j];have t : ∀ k,k∈l -> ¬ ll.getD i 0=k:=fun k a e=>c (e ▸ a);refine⟨by have:=dO.JG (pa:=0) b.ok o; rwa [dO.E9 j]at this,fun k a => ?_,fun k a => ?_,fun q v h => ?_,fun k a => ?_⟩
    ·rw[dO.jN,Bool.or_eq_true]at a
     rcases a with a|a
     ·exact b.sub k a
     ·rw[<- h_ a]; exact f
    ·rw[dO.jN,dO.uI,b_ (t k a),(b.par k a).1,Bool.true_or];exact⟨rfl,(b.par k a).2⟩
    ·rw[dO.jN];by_cases e:q=i
     ·rw[e,f_ rfl,Bool.or_true]
     ·rw[b.has q (by omega) h,Bool.true_or]
    ·rw[dO.jN,Bool.or_eq_true]at a
     rcases a with a|a
     ·rcases b.only k a with h1|⟨q,h1,h2,h3⟩
      ·exact .inl h1
      ·exact .inr ⟨q,by omega,h2,h3⟩
     ·exact .inr ⟨i,by omega,by omega,h_ a⟩
theorem IV(c : ∀ k,U.has k=T.has k) : ∀(d:Nat) (k:Int),(∀ q,q∈jK T.x T.p T.n d k->U.par q=T.par q)->jK U.x U.p U.n d k=jK T.x T.p T.n d k
 | 0,_,_=>rfl
 | d+1,k,h=>by
   have a:eB U.x U.n k=eB T.x T.n k:=c k
   cases hk:eB T.x T.n k with
   | false=>rw[kZ hk,kZ (a.trans hk)]
   | true =>
     have b:jK T.x T.p T.n (d+1) k=k::jK T.x T.p T.n d (iN T.x T.p T.n k):=(by show(if _ then _ else _)=_; rw[d_ hk]);have e:jK U.x U.p U.n (d+1) k=k::jK U.x U.p U.n d (iN U.x U.p U.n k):=(by show(if _ then _ else _)=_; rw[d_ (a.trans hk)]);rw[b]at h;have f:iN U.x U.p U.n k=iN T.x T.p T.n k:=h k (List.mem_cons_self ..);rw[b,e,f,IV c d _ fun q g=>h q (List.mem_cons_of_mem _ g)]
theorem ZU(i:T.ok)(e:l=T.path pa)(m:ll.Pairwise (· < ·) /\ ∀ k,k∈ll<->T.has k=true):(lM l ll (Na T l (G6 l.length l.length)) ll.length).err id pa=T.err id pa:=by
 have d:=WQ i e l.length (A_ _);have t : ∀ k,k∈l -> ∃ x,x<l.length/\l.getD x 0=k:=fun k a=>by
  obtain⟨x,h,r⟩:=List.getElem_of_mem a;exact⟨x,h,by rw[r_,o_ h]; exact r⟩
 have s:RtI T (Na T l (G6 l.length l.length)) l ll 0:=⟨d.ok,d.sub.has,fun k a=>by
  obtain⟨x,h,rfl⟩:=t k a;have:=d.has x (by omega) h;exact⟨this,d.sub.par _ this⟩,fun q b=>by omega,fun k a => .inl (d.only k a)⟩
 have c:=WR i m s ll.length (A_ _);generalize lM l ll (Na T l (G6 l.length l.length)) ll.length=V at c;have g : ∀ k,V.has k=T.has k:=fun k=>by
  cases f:T.has k with
  | false =>
    cases j:V.has k with
    | false=>rfl
    | true=>rw[c.sub k j]at f; cases f
  | true =>
    obtain⟨q,b,o⟩:=List.getElem_of_mem ((m.2 k).2 f);have:=c.has q b b;rw[r_,o_ b]at this;rw[<- o]; exact this
 have u:V.n=T.n:=by
  have f:=WL c.ok c.sub;have j:=WL i (fun k a=>by rw[g]; exact a : ∀ k,T.has k=true->V.has k=true);omega
 have v:V.path pa=T.path pa:=IV g 4 pa fun q b=>(c.par q (by rw[e]; exact b)).2;show sj V.x V.p V.n id pa=sj T.x T.p T.n id pa;unfold sj;have w:jK V.x V.p V.n 4 pa=jK T.x T.p T.n 4 pa:=v;rw[show eB V.x V.n id=eB T.x T.n id from g id,show eB V.x V.n pa=eB T.x T.n pa from g pa,w,u]
end
end Rt
namespace Fx
abbrev zn:=Exit->(Nat->Value)->List Deferred->World->Prop
def WS(n:Nat)(Q:zn):Exit->Act->World->Prop:=fun e a w => ∃ f,BD a n f/\Q e f a.defers w
def W0(ro:Option Nat)(m:Nat)(P:Program)(n:Nat)(c:Code)(Q:zn)(f:Nat->Value)(ds:List Deferred)(w:World):Prop := ∀ a,BD a n f->a.defers=ds->c.wpIn (FR ro) m P (WS n Q) a w
def WT(ro:Option Nat)(m:Nat)(P:Program)(n:Nat)(y:Code)(Q:zn):zn:=fun e f ds w=>match e with | .normal=>W0 ro m P n y Q f ds w|e=>Q e f ds w
def Cq(id:Nat)(Q:zn):zn:=fun e f ds w=>match e with | .exit id'=>if id'=id then Q .normal f ds w else Q (.exit id') f ds w|e=>Q e f ds w
def Om(I:(Nat->Value)->World->Prop)(b:(Nat->Value)->World->Nat)(k:Nat)(ds:List Deferred)(Q:zn):zn:=fun e f a w=>match e with | .normal=>a=ds/\I f w/\b f w<k|e=>Q e f a w
section
variable {ro:Option Nat} {m:Nat} {ds:List Deferred} {P:Program} {n:Nat} {Q:zn} {f:Nat->Value} {w:World}
theorem W0.seq{x y:Code}(h:W0 ro m P n x (WT ro m P n y Q) f ds w):W0 ro m P n (.seq x y) Q f ds w:=fun a i j =>
 wpIn_seq (wpIn_mono (h a i j) fun e d w' b=>by
  obtain⟨g,c,b⟩:=b
  cases e <;> first|exact b d c rfl|exact⟨g,c,b⟩)
theorem W0.skip(h:Q .normal f ds w):W0 ro m P n .skip Q f ds w:=fun _ a b=>wpIn_skip ⟨f,a,b ▸ h⟩
theorem W0.ret(h:Q .ret f ds w):W0 ro m P n .ret Q f ds w:=fun _ a b=>wpIn_ret ⟨f,a,b ▸ h⟩
theorem W0.exit{id:Nat}(h:Q (.exit id) f ds w):W0 ro m P n (.exit id) Q f ds w:=fun _ a b=>wpIn_exit ⟨f,a,b ▸ h⟩
theorem W0.block{id:Nat}{c:Code}(h:W0 ro m P n c (Cq id Q) f ds w):W0 ro m P n (.block id c) Q f ds w:=fun a i j =>
 wpIn_block (wpIn_mono (h a i j) fun e k w' b=>by
  obtain⟨d,g,b⟩:=b
  cases e <;> first
   | exact⟨d,g,b⟩
   | (simp only[Cq]at b; simp only[Exit.inBlock]; split at b <;> rename_i hid <;> simp only[hid,if_true,if_false] <;> exact⟨d,g,b⟩))
theorem W0.cond{c:Operand}{x y:Code}{b:Bool}(h:ev f c = .bool b)(j:b=true->W0 ro m P n x Q f ds w)(i:b=false->W0 ro m P n y Q f ds w):W0 ro m P n (.cond c x y) Q f ds w:=fun a d g =>
 wpIn_cond_split (t:=b) (by rw[d.ev]; exact h) (fun e=>j e a d g) (fun e=>i e a d g)
theorem W0.loop{c:Code}(I:(Nat->Value)->World->Prop)(k:(Nat->Value)->World->Nat)(r:I f w)(hr : ∀ f w,I f w->W0 ro m P n c (Om I k (k f w) ds Q) f ds w):W0 ro m P n (.loop c) Q f ds w:=fun a s h =>
 wpIn_loop (fun a w => ∃ f,BD a n f/\a.defers=ds/\I f w) (fun a w=>k (fun i=>a.tmps.getD i undef) w) ⟨f,s,h,r⟩ (fun a w g=>by
  obtain⟨f,l,h,g⟩:=g;have e:(fun i=>a.tmps.getD i undef)=f:=funext l.get;refine wpIn_mono (hr f w g a l h)<|fun p o w' b => ?_;obtain⟨d,j,b⟩:=b
  cases p <;> first
   | exact⟨d,j,b⟩
   | (have q:(fun i=>o.tmps.getD i undef)=d:=funext j.get
      exact⟨⟨d,j,b.1,b.2.1⟩,by rw[e,q]; exact b.2.2⟩))
theorem W0.list{id:Nat}{ops:List Oper}(h:L P n ops.toArray (fun e f w=>Q e f ds w) ops f w)(k:ops.all kH=true:=by rfl):W0 ro m P n (.region id ops.toArray false) Q f ds w:=fun a i j =>
 H9 i h k fun e l w' ⟨b,c,d,g⟩=>⟨b,c,by rw[d,j]; exact g⟩
theorem rU{y:Code}(h:W0 ro m P n y Q f ds w):WT ro m P n y Q .normal f ds w:=h
theorem ajl{id:Nat}{y:Code}(h:Q (.exit id) f ds w):WT ro m P n y Q (.exit id) f ds w:=h
theorem Md{id:Nat}(h:Q .normal f ds w):Cq id Q .normal f ds w:=h
theorem ajm{id:Nat}(h:Q .normal f ds w):Cq id Q (.exit id) f ds w:=by simp only[Cq,if_true]; exact h
theorem apY{I:(Nat->Value)->World->Prop}{a:(Nat->Value)->World->Nat}{k id:Nat}(h:Q (.exit id) f ds w):Om I a k ds Q (.exit id) f ds w:=h
theorem ajn{I:(Nat->Value)->World->Prop}{a:(Nat->Value)->World->Nat}{k:Nat}(h:I f w)(b:a f w<k):Om I a k ds Q .normal f ds w:=⟨rfl,h,b⟩
def acf(P:Program)(m:Nat)(b:Func)(R:Ending->World->Prop):zn:=fun e f ds w => ∀ a,BD a b.ntmps f->a.defers=ds->bodyPostM (FR none) m P b R e a w
theorem afE{g:FuncId}{b:Func}{c:Code}{args:Array Value}{R:Ending->World->Prop}(m:Nat)(k:P.funcs[g]? = some b)(j:b.body=some c)(f:b.ntmps=n)(ha:Nat.ble args.size n=true)(h:W0 none m P n c (acf P m b R) (start args) [] w):Calls P g args w R:=by
 have q:args.size<=n:=Nat.le_of_ble_eq_true ha;refine(callsIn_wide (n:=m)).1 (callsIn_of_wp_marks (F:=FR none) k j trivial ?_ rfl);refine wpIn_mono (h _ ⟨?_,?_⟩ rfl) fun e a w' ⟨p,l,o⟩=>o a (by rw[f]; exact l) rfl
 ·simp[f]; omega
 intro i;simp only[start,Array.getD_eq_getD_getElem?,Array.getElem?_append,Array.getElem?_replicate];by_cases d:i<args.size
 ·simp[d]
 rw[b_ d];split
 ·rw[Array.getElem?_eq_none (by omega)]; rfl
 rw[Array.getElem?_eq_none (by omega)]
theorem leaveD{b:Func}{R:Ending->World->Prop}{D:Nat}{v:Value}(c:w.heap[D]? = some (.deferred (some [])))(h:(BI b f).run P (w.putObj D (.deferred none)) = .ok v (w.putObj D (.deferred none)))(d:R (.returned v) (w.putObj D (.deferred none))) :
 acf P m b R .ret f [{ target := .collected D,args := #[] }] w:=fun a e g=>leave1 e g c h d
variable {ops:List Oper} {cs:List Nat} {S:World->World->Prop}
theorem R.ajo(T:mE n ops=true)(hsel:Region.noSelect ops.toArray=true)(aa:ops.all kH=true)(hS : ∀ w,S w w)(hT : ∀ a b c,S a b->S b c->S a c){fJ:List (Nat × Nat × List Nat)} : ∀(k:Nat) (u:List Nat) (p:Array Bool) (a:Act) (f:Nat->Value) (w:World),u.length=k->p.size=ops.length->Kv ops.toArray .any p ->
 (∀ i,i∈u<->i<ops.length/\p.getD i false=false)->u.Nodup->(u.Pairwise fun i j=>ru ops cs fJ i j=true)->BD a n f->a.defers=ds->R P n ops cs S (fun e f w=>Q e f ds w) u f w->wpAnyIn (FR ro) m P .any ops.toArray (WS n Q) k p a w:=by
 intro k
 induction k with
 | zero =>
   intro u p a f w F ac J x G H A L h;have:u = []:=List.eq_nil_of_length_eq_zero F;subst this;refine⟨?_,f,A,by rw[L]; exact h⟩;rw[List.eq_nil_iff_forall_not_mem];intro j E;obtain⟨z,s,_,_⟩:=fV E;exact N_ ((x j).2 ⟨s,z⟩) (by simp)
 | succ k ih =>
   intro u p a f w F ac J x G H A L h;refine⟨fun hr => ?_,fun j E => ?_⟩
   ·cases u with
    | nil=>simp at F
    | cons r anc =>
      exfalso;obtain⟨z,s⟩:=(x r).1 (List.mem_cons_self ..);have:r∈Region.ready .any ops.toArray p:=by
       refine mem_ready.2 ⟨getD_in (by omega) s,opAt ops r,by unfold opAt; rw[List.getElem?_toArray,r_,o_ z]; rfl,fun e M C => ?_⟩;have B:dL (opAt ops r) e.on=true:=by
        unfold dL; rw[Array.any_eq_true']; exact⟨e,M,by rw[C,Nat.beq_refl]; rfl⟩
       have hlt:=(fI T z).2.2.2 e.on B
       cases hle:p.getD e.on false with
       | true=>rfl
       | false =>
         have g:=(x e.on).2 ⟨by omega,hle⟩
         rcases List.mem_cons.1 g with e1|e1
         ·omega
         ·have o:=(List.pairwise_cons.1 H).1 _ e1;unfold ru at o;rw[B]at o; simp at o
      rw[hr]at this; simp at this
   ·obtain⟨z,s,W,X⟩:=fV E;have hjm:=(x j).2 ⟨s,z⟩;obtain⟨t,y,rfl⟩:=List.append_of_mem hjm;have C:=bubble (P:=P) (cs:=cs) (S:=S) (Q:=fun e f w=>Q e f ds w) T hsel hS hT s (l:=y) t (fun i N=>by
     obtain⟨h5,Y⟩:=(x i).1 (List.mem_append_left _ N);have O:i≠j:=fun e=>by
      subst e;exact(List.nodup_append.1 G).2.2 i N i (List.mem_cons_self ..) rfl
     have o:ru ops cs fJ i j=true:=(List.pairwise_append.1 H).2.2 i N j (List.mem_cons_self ..);unfold ru at o;rw[T_,Bool.or_eq_true]at o;have adb:dL (opAt ops j) i=false:=by
      cases hq:dL (opAt ops j) i with
      | false=>rfl
      | true=>have:=X i hq; rw[Y]at this; cases this
     refine⟨h5,O,adb,by simpa using o.1,?_⟩
     rcases o.2 with o|o
     ·rw[T_,Bool.or_eq_true]at o;refine⟨o.1,?_⟩
      rcases o.2 with q|q
      ·rw[Bool.or_eq_true]at q;exact q.elim (fun q => .inl (B_ q)) (fun q => .inr (.inl q))
      ·rw[T_]at q;exact .inr (.inr ⟨B_ q.1,B_ q.2⟩)
     ·exfalso;rw[List.any_eq_true]at o;obtain⟨c,_,Z⟩:=o;rw[T_,T_]at Z;obtain⟨m,g⟩:=jw Z.2
      cases m with
      | zero=>unfold reach at g; simp at g; exact O g.symm
      | succ m =>
        unfold reach at g;rw[Bool.or_eq_true]at g
        rcases g with g|g
        ·simp at g; exact O g.symm
        ·rw[W]at g;simp only at g;rw[Array.any_eq_true']at g;obtain⟨e,M,g⟩:=g;rw[T_]at g;have B:dL (opAt ops j) e.on=true:=by
          unfold dL; rw[Array.any_eq_true']; exact⟨e,M,by rw[g.1,Nat.beq_refl]; rfl⟩
         have:=J.reach _ _ g.2 (X e.on B);rw[Y]at this; cases this) f w h
    have hperm:(t++y).length=k:=(by simp at F ⊢; omega);have hnd':(t++y).Nodup:=by
     refine G.sublist ?_;exact List.Sublist.append_left (List.sublist_cons_self ..) t
    have ade:(t++y).Pairwise fun i j=>ru ops cs fJ i j=true:=H.sublist (List.Sublist.append_left (List.sublist_cons_self ..) t);have hmem' : ∀ i,i∈t++y<->i<ops.length/\(p.setIfInBounds j true).getD i false=false:=fun i=>by
     by_cases e:j=i
     ·subst e;rw[set_self (by omega)];constructor
      ·intro g;exfalso;have D:=List.nodup_append.1 G
       rcases List.mem_append.1 g with q|q
       ·exact D.2.2 j q j (List.mem_cons_self ..) rfl
       ·exact(List.nodup_cons.1 D.2.1).1 q
      ·intro q; cases q.2
     ·rw[kL e,<- x i];simp only[List.mem_append,List.mem_cons];constructor
      ·rintro (q|q)
       ·exact .inl q
       ·exact .inr (.inr q)
      ·rintro (q|q|q)
       ·exact .inl q
       ·exact N_ q.symm e
       ·exact .inr q
    have U : ∀(v:Value) (w':World),R P n ops cs S (fun e f w=>Q e f ds w) (t++y) (put f (opAt ops j).dst v) w'->wpAnyIn (FR ro) m P .any ops.toArray (WS n Q) k (p.setIfInBounds j true) (a.put (opAt ops j).dst v) w':=fun v w' hR =>
     ih (t++y) _ _ _ w' hperm (by simp[ac]) (J.set E) hmem' hnd' ade (A.put (by
      cases D:(opAt ops j).dst with
      | none=>rfl
      | some d=>have:=((fI T s).1 d D).2; simpa [inn,Nat.blt_eq] using this) v) (by rw[put_defers]; exact L) hR
    have ab:kH (opAt ops j)=true:=by
     rw[List.all_eq_true]at aa;refine aa _ ?_;unfold opAt;rw[r_,o_ s];exact R_ s
    unfold wpOpIn;rw[W];simp only;rw[A.yf];unfold R at C
    rcases C with ⟨I,V⟩|⟨I,⟨V,v,q3,q4⟩|⟨V,q3⟩⟩
    ·rw[b_ (by rw[I]; decide)]; exact⟨fun _ _=>trivial,U _ _ V⟩
    ·rw[d_ I];refine Out.wpIn (K:=fun v' w'=>v'=v/\w'=w) A ab (.inl ⟨v,w,q3 w (.inr (.inr rfl)),rfl,rfl⟩) ?_;rintro v' w' ⟨rfl,rfl⟩;exact U _ _ q4
    ·rw[d_ I];exact Out.wpIn A ab q3 fun v w' hk=>U v w' hk.2
theorem W0.ajp{f:Nat->Value}{w:World}{id:Nat}(l:List Nat)(cs:List Nat)(S:World->World->Prop)(o : ∀ w,S w w)(p : ∀ a b c,S a b->S b c->S a c)(fJ:List (Nat × Nat × List Nat))(x:P.follows .mixedOrders=true)(z:mE n ops=true)(B:Region.noSelect ops.toArray=true)(g:AX ops l=true)(A:wU ops cs fJ l=true)
 (h : ∀ j,Below w.heap.size w j->j.heap.size=w.heap.size->R P n ops cs S (fun e f w=>Q e f ds w) l f j) (y:ops.all kH=true:=by rfl):W0 ro m P n (.region id ops.toArray true) Q f ds w:=fun a q r=>by
 refine wpIn_region_any x ?_;unfold AX at g;rw[T_,T_,T_,List.all_eq_true,List.all_eq_true]at g;obtain⟨⟨⟨C,D⟩,p3⟩,p4⟩:=g;have v:=B_ C;have E:l.Nodup:=h_ p3;have:=R.ajo (ro:=ro) (m:=m) (ds:=ds) (P:=P) (Q:=Q) (fJ:=fJ) z B y o p ops.length l (Array.replicate ops.length false) a f { w with drawn:=w.drawn+1 } v (by simp) (Kv.start _ _ _) (fun i=>by
  have s : ∀ i,(Array.replicate ops.length false).getD i false=false:=fun i=>getD_replicate_false _ _;constructor
  ·intro d; exact⟨by simpa [Nat.blt_eq] using D i d,s i⟩
  ·intro d;obtain⟨k,t,u⟩:=List.any_eq_true.1 (p4 i (by simpa using d.1));rw[B_ u]; exact t) E (wV A) q r (h { w with drawn:=w.drawn+1 } (Below.refl _ _).drew rfl)
 simpa using this
end
end Fx
namespace Rgx
def Qa{b:Type}(J:b->World->Prop):Prop := ∀ s W a,J s W->W.grownBy a none->J s a
def afF{d:Type}(F:Fence)(n:Nat)(P:Program)(g:Nat)(lb:Array Value)(j:d->Array Value)(i:World->World->Prop)(S:List d->Prop)(N:Nat)(h:World->Prop):Prop :=
 ∀(l:Nat) (J:List d->World->Prop) (W:World),h W->Qa J ->
  (∀ c x b,J c b->c.length<N->YieldAt F (n-1) P l (j x) b fun e a=>e = .returned (.bool true)/\J (c ++ [x]) a/\i b a) ->
  J [] W ->
  CallsIn F n P g (#[.func (.yield l) #[] #[]]++lb) W fun e a=>(∃ v,e = .returned v) /\ ∃ f,S f/\J f a
def Oo{c:Type}(B:Nat)(I:c->World->Prop):Prop :=
 ∀ s W a b,I s W->W.grownBy a b->(∀ r,b=some r->B<=r /\ ∃ o:Obj,W.heap[r]? = some o/\o.isCells=false)->I s a
variable {F:Fence} {n:Nat} {P:Program}
theorem Oo.putObj{a:Type}{B:Nat}{I:a->World->Prop}(h:Oo B I){s:a}{W:World}{l:Nat}{o:Obj}(o':Obj)(f:I s W)(b:B<=l)(c:W.heap[l]? = some o)(d:o.isCells=false):I s (W.putObj l o') :=
 h s W _ (some l) f (grownBy_putObj' W l o') (fun r e=>by cases e; exact⟨b,o,c,d⟩)
theorem Oo.alloc{a:Type}{B:Nat}{I:a->World->Prop}(h:Oo B I){s:a}{W:World}(o:Obj)(b:I s W):I s (W.alloc o) :=
 h s W _ none b (World.grownBy_alloc W o none) (fun r e=>by cases e)
def KeepsFrom(B:Nat)(W a:World):Prop:=W.heap.size<=a.heap.size /\ ∀ k,B<=k->k<W.heap.size->a.heap[k]? = W.heap[k]?
def ajq{a:Type}(B:Nat)(b:World->World->Prop)(I:List a->World->Prop)(c:List a)(W:World):Exit->Act->World->Prop
 | .normal,_,W'=>KeepsFrom B W W'/\b W W'/\I c W'
 | _,_,_=>False
theorem EF{α:Type}{g:Operand}{ps:Array Tmp}{assign body:Code}{Q:Exit->Act->World->Prop}{a:Act}{w:World}
 (hro:F.round=none) (h1:1<=n) {gf:Nat} {lb:Array Value} (hg:a.eval g = .func (.func gf) #[] lb) (hFg:F.fn gf) (eg : ∀ args w,(callFunc gf args).run P w = .ok (.enter gf args) w)
 {encs:α->Array Value} {Kp:World->World->Prop} {S:List α->Prop} {N:Nat} {Ip:World->Prop} (hseq:afF F (n-1) P gf lb encs Kp S N Ip)
 (hIp:Ip w) (Ny : ∀ W o,w.heap.size<=W.heap.size->Ip W->Ip (W.alloc o))
 (hKt : ∀ {A B C:World},Kp A B->Kp B C->Kp A C) (hKb : ∀(W:World) (l:Nat) (o o':Obj),w.heap.size<=l->W.heap[l]? = some o->o.isCells=false->Kp W (W.putObj l o')) (hps : ∀ x,(encs x).size=ps.size)
 (I:List α->World->Prop) (hI:Oo w.heap.size I) (h0:I [] w) (A₁:α->Act->Prop)
 (hassign : ∀(l:Nat) (x:α) (W:World),assign.wpIn (F.inRound l) (n-1-1) P (Exit.then (fun a' W'=>A₁ x a'/\W'=W) (fun _ _ _=>False)) { tmps:=(ps.zip (encs x)).foldl (fun t (p,v)=>t.setIfInBounds p v) a.tmps,defers := [] } W)
 (hbody : ∀(l:Nat) (pre:List α) (x:α) (W:World) (a':Act),A₁ x a'->I pre W->pre.length<N->w.heap.size<=W.heap.size->body.wpIn (F.inRound l) (n-1-1) P (ajq w.heap.size Kp I (pre ++ [x]) W) a' W)
 (hdone : ∀(D:Nat) (xs:List α) (W:World),w.heap.size<=D->S xs->I xs W->W.heap[D]? = some (.deferred (some []))->Q .normal { a with defers := { target := .collected D,args := #[] }::a.defers } W) :
 (Code.rangeFunc g ps assign body).wpIn F n P Q a w:=by
 refine wpIn_rangeFunc ?_;intro fn hfn;rw[hro];obtain⟨rec,hrec⟩ : ∃ rec:LoopState->Option Code->Loop,rec=fun st pe => { state:=st,pending:=pe,fn,tmps:=a.tmps,params:=ps,assign,body,defers:=w.heap.size }:=⟨_,rfl⟩;obtain⟨W1,hW1⟩ : ∃ W1,(w.alloc (.deferred (some []))).alloc (.loop (rec .ready none))=W1:=⟨_,rfl⟩;have hL1:W1.heap[w.heap.size+1]? = some (.loop (rec .ready none)):=by
  rw[<- hW1]; have:=World.alloc_heap_new (w.alloc (.deferred (some []))) (.loop (rec .ready none)); rwa [World.size_alloc]at this
 have hK1:W1.heap[w.heap.size]? = some (.deferred (some [])):=by
  rw[<- hW1]; exact(Below.heap_alloc _ _ _ (by simp)).trans (World.alloc_heap_new w _)
 have hI1:I [] W1:=by rw[<- hW1]; exact hI.alloc _ (hI.alloc _ h0)
 have hp1:Ip W1:=by rw[<- hW1]; exact Ny _ _ (by simp) (Ny _ _ (A_ _) hIp)
 refine⟨w.heap.size+1,[{ target := .collected w.heap.size,args := #[] }],W1,{ target := .fn (.func gf) lb,args := #[.func (.yield (w.heap.size+1)) #[] #[]] },W1,gf,
  #[.func (.yield (w.heap.size+1)) #[] #[]]++lb,W1,?_,?_,?_,?_,fun _=>h1,?_⟩
 ·rw[<- hW1,hrec]; exact run_enterLoop_outer _ _ _ _ _
 ·simp only[resolve,hg];simp[go_sem]
 ·intro f' hf'; simp[Target.leads]at hf'; subst hf'; exact hFg
 ·simp[invoke,go_sem,eg]
 refine(hseq (w.heap.size+1)
  (fun pre W=>I pre W/\W.heap[w.heap.size+1]? = some (.loop (rec .ready none))/\W.heap[w.heap.size]? = some (.deferred (some [])))
  W1 hp1
  (fun s A B hs hg'=>⟨hI s A B none hs.1 hg' (fun r e=>nomatch e),(hg'.block _ (t_.1 hs.2.1).1 (fun e=>nomatch e)).trans hs.2.1,(hg'.block _ (t_.1 hs.2.2).1 (fun e=>nomatch e)).trans hs.2.2⟩)
  ?_ ⟨hI1,hL1,hK1⟩).mono ?_
 ·-- one round
  rintro pre x W ⟨hi,hl,hk⟩ hlen;have hlt:w.heap.size+1<W.heap.size:=(t_.1 hl).1;have hy:=run_yield (P:=P) (args:=encs x) hl (by rw[hrec]; exact hps x);rw[hrec]at hy;refine⟨fn,_,assign,body,hy,roundIn_of_wpIn hfn (wpIn_mono (hassign _ x W) ?_)⟩;rintro e1 a1 w1 hq1
  cases e1 with
  | exit id=>exact hq1.elim
  | goto t=>exact hq1.elim
  | ret=>exact hq1.elim
  | panic ch=>exact hq1.elim
  | outgrown=>exact hq1.elim
  | normal =>
  obtain⟨hA1,ew⟩:=hq1;rw[ew];refine⟨_,run_beginRound hl (by rw[hrec]),?_⟩;have hl2:(W.putObj (w.heap.size+1) (.loop { rec .ready none with state := .busy })).heap[w.heap.size+1]? = some (.loop { rec .ready none with state := .busy }):=World.putObj_heap_same hlt;have hk2:(W.putObj (w.heap.size+1) (.loop { rec .ready none with state := .busy })).heap[w.heap.size]? = some (.deferred (some [])):=(World.putObj_heap_other (by omega)).trans hk;have hw2:Kp W (W.putObj (w.heap.size+1) (.loop { rec .ready none with state := .busy })):=hKb _ _ _ _ (by omega) hl rfl;refine wpIn_mono (hbody _ pre x _ a1 hA1 (hI.putObj _ hi (by omega) hl rfl) hlen (by simp; omega)) ?_;rintro e a3 W3 hp
  cases e with
  | normal =>
    obtain⟨hk3,hkp3,hi3⟩:=hp;have hl3:=(hk3.2 _ (by omega) (t_.1 hl2).1).trans hl2;have apZ:=(hk3.2 _ (by omega) (t_.1 hk2).1).trans hk2;have hr:=run_endRound (P:=P) none hl3;rw[hrec]at hr hl3;refine⟨_,_,hr,rfl,⟨hI.putObj _ hi3 (by omega) hl3 rfl,?_,(World.putObj_heap_other (by omega)).trans apZ⟩,hKt (hKt hw2 hkp3) (hKb _ _ _ _ (by omega) hl3 rfl)⟩;rw[hrec]; exact World.putObj_heap_same (t_.1 hl3).1
  | ret=>exact hp.elim
  | exit id=>exact hp.elim
  | goto t=>exact hp.elim
  | panic ch=>exact hp.elim
  | outgrown=>exact hp.elim
 rintro e W2 ⟨⟨v,rfl⟩,xs,hS,hi,hl,hk⟩;exact⟨none,_,by have:=run_endLoop (P:=P) hl (by rw[hrec]; simp); rw[hrec]at this; exact this,hdone _ xs _ (A_ _) hS (hI.putObj _ hi (by omega) hl rfl) ((World.putObj_heap_other (by omega)).trans hk)⟩
end Rgx
namespace Fx
theorem Me{a:Act}{n p q:Nat}{u v:Value}{f:Nat->Value}(h:BD a n f)(c:p<n)(g:q<n):BD { tmps:=(#[p,q].zip #[u,v]).foldl (fun t (p,v)=>t.setIfInBounds p v) a.tmps,defers := [] } n (put (put f (some p) u) (some q) v):=by
 have b:=(h.put (d:=some p) (by simpa [inn,Nat.blt_eq] using c) u).put (d:=some q) (by simpa [inn,Nat.blt_eq] using g) v;have e:(#[p,q].zip #[u,v]).foldl (fun t (p,v)=>t.setIfInBounds p v) a.tmps=((a.put (some p) u).put (some q) v).tmps:=by simp[Array.zip,Act.put]
 rw[e]; exact⟨b.size,b.get⟩
theorem W0.afG{P:Program}{n m:Nat}{Q:zn}{f:Nat->Value}{ds:List Deferred}{w:World}{c:Type}{g:Operand}{p q:Tmp}{E G:Code}{gf:Nat}{lb:Array Value}(h1:1<=m)(hg:ev f g = .func (.func gf) #[] lb)(J : ∀ z w,(callFunc gf z).run P w = .ok (.enter gf z) w)
 {eu ev2:c->Value} {d:World->World->Prop} {S:List c->Prop} {N:Nat} {s:World->Prop} (hseq:Rgx.afF (FR none) (m-1) P gf lb (fun x => #[eu x,ev2 x]) d S N s)
 (R:s w) (T : ∀ W o,w.heap.size<=W.heap.size->s W->s (W.alloc o)) (V : ∀ {A B C:World},d A B->d B C->d A C) (U : ∀(W:World) (l:Nat) (o o':Obj),w.heap.size<=l->W.heap[l]? = some o->o.isCells=false->d W (W.putObj l o')) (hp:p<n) (hq:q<n)
 (I:List c->World->Prop) (O:Rgx.Oo w.heap.size I) (L:I [] w) (A:c->(Nat->Value)->Prop)
 (X : ∀(l:Nat) (x:c) (W:World),W0 (some l) (m-1-1) P n E (fun e b H h=>e = .normal/\H = []/\A x b/\h=W) (put (put f (some p) (eu x)) (some q) (ev2 x)) [] W)
 (Y : ∀(l:Nat) (r:List c) (x:c) (W:World) (b:Nat->Value),A x b->I r W->r.length<N->w.heap.size<=W.heap.size->W0 (some l) (m-1-1) P n G (fun e K H h=>e = .normal/\Rgx.KeepsFrom w.heap.size W h/\d W h/\I (r ++ [x]) h) b [] W)
 (aa : ∀(D:Nat) (u:List c) (W:World),w.heap.size<=D->S u->I u W->W.heap[D]? = some (.deferred (some []))->Q .normal f ({ target := .collected D,args := #[] }::ds) W):W0 none m P n (.rangeFunc g #[p,q] E G) Q f ds w:=fun a t Z=>by
 refine Rgx.EF (F:=FR none) rfl h1 (by rw[t.ev]; exact hg) trivial J hseq R T V U (fun _=>rfl) I O L (fun x i => ∃ b,BD i n b/\i.defers = []/\A x b) ?_ ?_ ?_
 ·intro l x W;refine wpIn_mono (X l x W _ (Me t hp hq) rfl) ?_;rintro e i w' ⟨b,y,rfl,j,k,rfl⟩;exact⟨⟨b,y,j,k⟩,rfl⟩
 ·rintro l r x W i ⟨b,y,j,k⟩ hi hl hs;refine wpIn_mono (Y l r x W b k hi hl hs i y j) ?_;rintro e a'' w' ⟨K,axW,rfl,v⟩;exact v
 ·intro D u W j k v M;refine⟨f,⟨t.size,t.get⟩,?_⟩;show Q .normal f (_::a.defers) W;rw[Z]; exact aa D u W j k v M
end Fx
end Go.Proofs.YtcbedgfikejkoaaGreatDoor
namespace Go.Proofs.YtcbedgfikejkoaaGreatDoor
open Go.RowKit Rt
open Fx (fF eP bf dR Lv sN Ln Ws Wl Wr Sb Wk rV Rs Rn Wb Wx Wo fP ng uf aQ Stp Mp iT nV dK bU cZ dh gZ iH)
namespace Rt
structure Qb(sb:Nat)(v:Value)(W W':World):Prop where
 size:W.heap.size<=W'.heap.size
 b:W'.heap[sb]? = W.heap[sb]?
 g : ∀ g,v.ownBlock=some g->W'.heap[g]? = W.heap[g]?
theorem Qb.trans{a:Nat}{v:Value}{A B C:World}(h:Qb a v A B)(k:Qb a v B C):Qb a v A C:=⟨m_ h.size k.size,k.b.trans h.b,fun g c=>(k.g g c).trans (h.g g c)⟩
theorem Qb.put{a B:Nat}{v:Value}(e:a<B)(c : ∀ g,v.ownBlock=some g->g<B)(W:World)(l:Nat)(o o':Obj)(d:B<=l):Qb a v W (W.putObj l o'):=⟨by simp,World.putObj_heap_other (by omega),fun g b=>World.putObj_heap_other (by have:=c g b; omega)⟩
theorem Qb.CS{a b:Nat}{v:Value}{W c:World}(h:Stp b W c)(h1:a<W.heap.size)(f:a≠b)(e : ∀ g,v.ownBlock=some g->g<W.heap.size/\g≠b):Qb a v W c:=⟨h.size,h.block a h1 f,fun g d=>h.block g (e g d).1 (e g d).2⟩
theorem afH{q n c s:Nat}{a:Option Addr}{x:Nat->Value}{W d:World}(l:nV W a n s x)(r:0<s)(k:Qb q (.slice a n c) W d):nV d a n s x:=fun h=>by
 obtain⟨b,p,e,m⟩:=l h;refine⟨b,p,e,fun i o => ?_⟩;have f:=m i o;have j:=k.g b (by rw[e]; rfl);unfold World.cell? at f ⊢;rw[j]; exact f
def BwP(b:Nat)(a:Option Addr)(n c:Nat)(l:List Int)(W:World):Prop:=aQ W b 1 (fun _ => .slice a n c) 53/\nV W a n 1 (yK l)
theorem BwP.alloc{f n c:Nat}{a:Option Addr}{l:List Int}{W:World}(h:BwP f a n c l W)(o:Obj):BwP f a n c l (W.alloc o) :=
 ⟨(Below.heap_alloc W o f h.1.lt).trans h.1,fun g=>by
   obtain⟨b,p,e,k⟩:=h.2 g;refine⟨b,p,e,fun i m => ?_⟩;have d:=k i m;have j:=Below.heap_alloc W o b (block_lt_of_cell d);unfold World.cell? at d ⊢;rw[j]; exact d⟩
theorem WU{h f B:Nat}{c:World}{F:List Nat->dO}(h1:h<c.heap.size)(j:f<c.heap.size):Rgx.Oo c.heap.size (fun(n:List Nat) W=>tH W B h f (F n)/\Stp f c W):=fun s W i o a b m=>by
 have g : ∀ k,k<c.heap.size->i.heap[k]? = W.heap[k]? := fun k d=>b.block k (n_ d a.2.size) fun e=>by
  have:=(m k e.symm).1; omega
 exact⟨tH.keep a.1 (g h h1) (g f j),⟨b.os.trans a.2.os,b.tape.trans a.2.tape,b.output.trans a.2.output,m_ a.2.size b.size,fun k d l=>(g k d).trans (a.2.block k d l)⟩⟩
theorem ZV{w:World}{B E s n b m:Nat}{v:Value}{x:Nat->Value}{k:Nat->Int}{y:Nat->Value}(a:Fx.Own w B E s v n x)(d:Mp w b m k y){g:Nat}(c:v.ownBlock=some g):g<w.heap.size/\g≠b:=⟨(a.ge c).2,fun e=>d.sZ (by rw[<- e]; exact a.ty c)⟩
theorem afI{T:dO}{k:Int}(h : ∀ i,i<T.n->T.x i≠k):T.par k=0:=by
 have : ∀ n,(∀ i,i<n->T.x i≠k)->iN T.x T.p n k=0:=fun n=>by
  induction n with
  | zero=>exact fun _=>rfl
  | succ n ih=>exact fun h=>by unfold iN; rw[b_ (h n (by omega))]; exact ih fun i a=>h i (by omega)
 exact this _ h
structure JB(J:List Nat->World->Prop)(pre:List Nat)(w:World):Prop where
 ab:Rgx.Qa J
 j:J pre w
end Rt
theorem aqb(a:Option Addr)(n c:Nat)(w:World) :
 Calls Tryz.prog 230 #[.slice a (n) (c)] w fun e w' => ∃ d,e = .returned (.func (.func 241) #[] #[(pt d)])/\w.heap.size<=d/\aQ w' d 1 (fun _ => .slice a n c) 53/\Below w.heap.size w w':=by
 refine Kent Tryz.func230 4 ?_;refine ay<|yD (.slice a (n) (c)) fun b l h f j m => ?_;have g:=bB j.old (Below.refl w.heap.size w);have i:=gN h;have k:=f.lt;refine av (.nilFunc)<|aD<|ay<|Lv (.func (.func 241) #[] #[(pt b)]) (Fx.mG (us := []) (vs := [(pt b)]) rfl rfl rfl)<|av (.func (.func 241) #[] #[(pt b)])<|aD<|Wr<|aJ (.func (.func 241) #[] #[(pt b)]) ?_;exact⟨b,rfl,i,f,g⟩
theorem ajr(J:List Nat->World->Prop)(h d c:Nat)(a:Option Addr)(l:List Int)(w:World)(o:aQ w d 1 (fun _ => .slice a (l.length) (c)) 53)(I:nV w a l.length 1 (yK l))(n:JB J [] w)(U:l.length<=1000)
 (L : ∀ r x m,J r m->r.length<l.length->Go.YieldAt (Fx.FR none) 1 Tryz.prog h #[au (x:Nat),aC (l.getD x 0)] m fun e y=>e = .returned (.bool true)/\J (r ++ [x]) y/\Qb d (.slice a l.length c) m y) :
  Calls Tryz.prog 241 #[.func (.yield h) #[] #[],(pt d)] w fun e w'=>(∃ v,e = .returned v) /\ ∃ F,F=G6 l.length l.length/\J F w':=by
 have V:=o.lt;have n:JB J (G6 l.length (l.length-l.length)) w:=by rw[Nat.sub_self]; exact n
 refine Kent Tryz.func241 19 ?_;refine ay<|Lv (.slice a (l.length) (c)) (aM o.aH 0)<|av (au l.length)<|Lv (au ((l.length:Int)-1)) gP<|av (au ((l.length:Int)-1))<|aD<|Wb<|Wo (fun f u => ∃ k:Nat,k<=l.length/\f 0 = .func (.yield h) #[] #[]/\f 1=(pt d)/\f 3=au ((k:Int)-1)/\aQ u d 1 (fun _ => .slice a (l.length) (c)) 53/\nV u a l.length 1 (yK l)/\JB J (G6 l.length (l.length-k)) u) (fun f _=>(intOf (f 3)+1).toNat) ⟨l.length,(A_ _),(by rfl),(by rfl),Fx.ic,o,I,n⟩ ?_;rintro S X ⟨k,T,A,B,g,D,E,p⟩;refine Ws<|ay<|aU g ?_;by_cases z:0<=((k:Int)-1)
 ·refine Lv aG (kW z)<|aD<|aN<|Wk<|sN<|Ws<|Wb<|Ws<|Fx.W.abv 2<|Fx.Ly.v (.func (.yield h) #[] #[]) (fF rfl A) ?_;refine Fx.Ly.v (au ((k:Int)-1)) (fF rfl g) ?_;refine Fx.Ly.v (.slice a (l.length) (c)) (bf (x:=fun _ => .slice a (l.length) (c)) rfl B (by kernel_rfl) D.aH (i:=0) (by omega) (by omega) rfl) ?_;refine Fx.Ly.v (au ((k:Int)-1)) (fF rfl g) ?_;obtain⟨G,Q,H,M⟩:=E (by omega);refine Fx.Ly.v (pf G (k+Q-1)) (dR rfl (rfl.trans (M_ (fun q=>Value.slice q (l.length) (c)) H)) rfl Tryz.underlying53 (s:=1) (by kernel_rfl) (by omega) (by omega) (by omega)) ?_;refine Fx.Ly.v (aC (l.getD (k-1) 0)) (bf (x:=yK l) rfl rfl (by kernel_rfl) M (i:=k-1) (by omega) (by omega) rfl) ?_;refine Fx.Ly.yield (l:=h) (args := [au ((k:Int)-1),aC (l.getD (k-1) 0)]) rfl rfl rfl (Fx.args2 rfl rfl) rfl (by have:=L (G6 l.length (l.length-k)) (k-1) _ p.j (by rw[P9]; omega); rw[show((k-1:Nat):Int)=(k:Int)-1 by omega]at this; exact this) ?_;rintro R t ⟨rfl,K,C⟩;refine⟨.bool true,rfl,?_⟩;have N:aQ t d 1 (fun _ => .slice a (l.length) (c)) 53:=C.b.trans D;have O:nV t a l.length 1 (yK l):=afH E (by decide) C;have P:JB J (G6 l.length (l.length-(k-1))) t:=⟨p.ab,by rw[show l.length-(k-1)=(l.length-k)+1 by omega]; unfold G6; rw[show l.length-1-(l.length-k)=k-1 by omega]; exact K⟩;refine Fx.Ly.v (.bool false) (Fx.Tf rfl rfl) ?_;refine Fx.Ly.nil ?_;refine sN<|aK<|Wk<|bU<|sN<|Wl<|aU g<|Lv (au ((k:Int)-2)) gP<|av (au ((k:Int)-2))<|Ln<|iH ⟨k-1,(by omega),A,B,Fx.ic,N,O,P⟩ ?_;show(intOf (au ((k:Int)-2))+1).toNat<_;simp only[g,intOf]; omega
 refine Lv aF (kN z) (aD (aK (Wx (cZ (gZ (dh (⟨.tuple #[],iT Tryz.results241,?_⟩)))))));exact⟨⟨_,rfl⟩,_,rfl,by have:=p.j; rw[show l.length-k=l.length by omega]at this; exact this⟩
theorem afJ(b c:Nat)(a:Option Addr)(l:List Int)(i:l.length<=1000) :
 Rgx.afF (Fx.FR none) 2 Tryz.prog 241 #[(pt b)] (fun x:Nat => #[au (x:Int),aC (l.getD x 0)]) (Qb b (.slice a l.length c)) (fun k=>k=G6 l.length l.length) l.length (BwP b a l.length c l) :=
 fun j J W ⟨h,e⟩ g f d=>callsIn_wide.2 (ajr J j b c a l W h e ⟨g,d⟩ i f)
namespace Rt
theorem Qc{l:List Int}{T:dO}(b:T.ok)(h : ∀ k,k∈l->T.has k=true)(x:Nat):0<=l.getD x 0/\l.getD x 0<=18446744073709551615:=by
 by_cases a:x<l.length
 ·have d:l.getD x 0∈l:=by rw[r_,o_ a]; exact R_ a
  obtain⟨i,c,e⟩:=ig (h _ d);rw[<- e]; exact WO b c
 rw[r_,List.getElem?_eq_none (by omega)]; decide
theorem Qd{l:List Int}{T:dO}{pa:Int}(a:T.ok)(e:l=T.path pa)(x:Nat):0<=l.getD x 0/\l.getD x 0<=18446744073709551615:=Qc a (fun k d=>by
 obtain⟨i,b,c⟩:=List.getElem_of_mem d;have:=dO.Ol a e b;rw[r_,o_ b]at this;rw[<- c]; exact this) x
theorem ZW{l:List Int}{T:dO}(a:T.ok)(h : ∀ k,k∈l<->T.has k=true)(x:Nat):0<=l.getD x 0/\l.getD x 0<=18446744073709551615:=Qc a (fun k b=>(h k).1 b) x
end Rt
theorem afK(m:dP)(u B:Nat)(w:World)(h:lS w B u m)(id pa:Int)(hid:0<=id/\id<=18446744073709551615) :
 Calls Tryz.prog 215 #[(pt u),aC id,aC pa] w fun e w'=>e = .returned (au (m.T.err id pa))/\Below w.heap.size w w':=by
 have hC:=h.c;have hT:=h.t;have hP:=h.p;have hR:=h.r;have hG:=h.g;have hA:=h.a;have hN:=h.ne;have lC:=h.c.lt;have lT:=h.t.lt;have lP:=h.p.lt;have lR:=h.r.lt;have lG:=h.g.lt;have lA:=h.a.lt;refine Fx.afE 3 Tryz.func215 rfl (n:=55) rfl (by rfl) ?_;refine Fx.W0.seq<|Fx.W0.list<|yD (pt u) fun g1 w1 ku m1 s1 z1 => ?_;have⟨m2,m3,m4,m5,m6,m7,b1⟩:=jJ s1.old hC hT hP hR hG hA (Below.refl w.heap.size w);have tC:=gN ku;have⟨nK,zm,yx,Co,AL⟩:=Ag ku hC.lt hP.lt hR.lt hG.lt hA.lt;have uK:=m1.lt;refine av (au 0)<|Ln<|Fx.rU<|Fx.W0.seq<|Fx.W0.list<|kF (abN _) ?_;rintro e9 w2 ⟨y,j,v,hg1,m8,hb1⟩;refine⟨_,v,?_⟩;clear v;have nem.aus:m.mb≠j:=u_ (n_ m3.lt hg1);have⟨m9,m10,m11,m12,m13,m14,m15,b2⟩:=mO hb1 m2 m3 m4 m5 m6 m7 m1 b1;have m16:tH w2 (w.heap.size) y j dO.zero:=m8.weak b1.size;clear m8 hg1;refine nS 1 (fun _ => .pointer none) fun M w3 uO m17 s3 z2 => ?_;have⟨m18,m19,m24,nW,b3⟩:=nE s3.old m9 m10 m15 m16 b2;have qX:=iK uO b2.size;have⟨afL,aqc,aqd,aqe,aqf,aqg⟩:=G9 uO m9.lt m11.lt m12.lt m13.lt m14.lt m15.lt;have zM:=m17.lt;refine ji m17 0 (pt y) fun w4 oN s4 z3 => ?_;have pU:aQ w4 M 1 (fun _=>(pt y)) 107:=dK oN;have gF:=fP s4 m17.ty;have⟨pV,nX,nL,oO⟩:=Em gF m18 m19 m24 nW;have b4:=s4.below b3 b3.size (by omega);refine Ln<|Fx.rU<|Fx.W0.seq<|Fx.W0.list<|Lv (pt u) (aM nL.aH 0)<|av (pt u)<|av (pf u 18)<|Lv (pt m.tp) (aM pV.aH 18)<|av (aC pa)<|kF (JH pa nX) ?_;rintro e9 w5 ⟨G,H,v,nT,hb2⟩;refine⟨_,v,?_⟩;clear v;have⟨mR,qw,qW,b5⟩:=jW hb2 nL oO pU b4;obtain⟨l,K⟩ : ∃ q,q=dO.path m.T pa:=⟨_,rfl⟩;rw[<- K]at nT ⊢;have hl4:l.length<=4:=by rw[K]; exact dO.zT
 refine av (.slice G (l.length) (H))<|Ln<|Fx.rU<|Fx.W0.seq<|Fx.W0.seq<|Fx.W0.list<|av (.slice G (l.length) (H))<|kF (aqb G l.length H _) ?_;rintro e9 w6 ⟨sb1,v,hg2,ow,hb3⟩;refine⟨_,v,?_⟩;clear v;have⟨ug,F,xk,uh,V⟩:=nE hb3 mR qw qW nT b5;refine Ln<|Fx.rU<|Fx.W0.block ?_;have ajs:g1≠j:=F.map.ne ug.ty;have axX:=ug.lt;have ajt:M≠j:=F.map.ne xk.ty;have axY:=xk.lt;have ach:sb1≠j:=F.map.ne ow.ty;have aju:=ow.lt;have hgm:=F.gm;have ltm:=F.lt;have ltt:=F.blk.lt;have L : ∀ g,(.slice G (l.length) (H):Value).ownBlock=some g->g<w6.heap.size/\g≠j:=fun g A=>ZV uh F.map A;refine Fx.W0.afG (gf:=241) (lb := #[(pt sb1)]) (eu:=fun x:Nat=>au (x:Int)) (ev2:=fun x=>aC (l.getD x 0)) (by decide) rfl (fun args w=>kK Tryz.func241 (by kernel_rfl) rfl args w) (afJ sb1 H G l (by omega)) ⟨ow,Fx.adV uh⟩ (fun W o _ hi=>hi.alloc o) (fun h k=>h.trans k) (fun W l o o' K _ _=>Qb.put aju (fun g A=>(L g A).1) W l o o' K) (by decide) (by decide) (fun xs W=>tH W (w.heap.size) y j (Na m.T l xs)/\Stp j w6 W) (WU ltt ltm) ⟨F,ng _ _⟩ (fun x f=>f 3=(pt g1)/\f 7=(pt M)/\f 10=aC (l.getD x 0)) ?_ ?_ ?_
 ·intro ly x W;exact Fx.W0.list (Lv (aC (l.getD x 0)) (eP rfl rfl) (Ln ⟨rfl,rfl,⟨rfl,rfl,rfl⟩,rfl⟩))
 ·rintro ly pre x W f9 ⟨q3,q7,q10⟩ ⟨hT2,s⟩ hpl hWs;have I:Below w.heap.size w W:=s.below V V.size hgm;have E:=h.up I;have hPW:=E.p;have N:=E.c;have O:=E.t;have R:=ug.cu s ajs;have ajv:=R.lt;have S:=xk.cu s ajt;have ajw:=S.lt;have lWm:j<W.heap.size:=n_ ltm s.size;have lWt:w6.heap.size<=W.heap.size:=s.size;have lCW:=N.lt;have lPW:=hPW.lt;have lTW:=O.lt;have lh0:=h.t.lt;have lh1:=h.p.lt;refine Fx.W0.block ?_;refine Fx.W0.ajp [1,6,0,2,3,4,5,7,8] [4,0,4,0,0,4,0,4,3] Fx.Mk uf Fx.Mk.trans (fJ := [(8,0,[0]),(8,2,[7,5,4,3,2]),(8,5,[7,5]),(8,7,[7])]) (by kernel_rfl) (by kernel_rfl) (by kernel_rfl) (by kernel_rfl) (by kernel_rfl) fun qU dU iC => ?_;have s7:Stp W.heap.size W qU:=Sb dU;have⟨rR,sw,vU,rE,uj,nY⟩:=rz dU N hPW O R S hT2;have b7:=(ng j W).then s7 (.inr (ng j W).size);refine bX q10<|bX q10<|Rs (pt y) (aM uj.aH 0 (ha:=q7)) ?_;refine Rs (pt u) (aM rE.aH 0 (ha:=q3)) ?_;refine aY (pt u)<|aY (pf u 19)<|Rs (.map (some m.pb)) (aM rR.aH 19) ?_
  rcases Fx.tu m.T.x m.T.n (l.getD x 0)with ⟨WV,D9,Ea⟩|jH
  ·refine Rs (aC (m.T.p WV)) (Fx.wW (z:=aC 0) rfl rfl rfl sw Tryz.underlying108 Tryz.underlying23 (by rfl) D9 Ea rfl) ?_;refine gQ<|dX (K9 (l.getD x 0) (m.T.p WV) nY (Qd h.t.inv K x)) _ rfl ?_;rintro w7 ⟨uy,s8⟩;have P:=nY.CP s8;have m64:=rR.eH P;have xq:=sw.eH P (by omega);have wI:=vU.eH P (by omega);have vF:=rE.eH P;have yt:=uj.eH P;have X:=b7.then s8 (.inl rfl);refine Ln<|Rn<|Fx.Md ?_;have ep:m.T.par (l.getD x 0)=m.T.p WV:=BP E.t.inv.inj D9 Ea;refine⟨rfl,⟨X.size,fun q hq hq2=>X.block q hq2 (by omega)⟩,Qb.CS X (by omega) ach (fun g A=>⟨n_ (L g A).1 lWt,(L g A).2⟩),?_,s.then X (.inl rfl)⟩;rw[Gm,ep]; exact uy
  refine Rs (aC 0) (Fx.O6 (z:=aC 0) rfl rfl rfl sw Tryz.underlying108 Tryz.underlying23 (by rfl) jH) ?_;refine gQ<|dX (K9 (l.getD x 0) 0 nY (Qd h.t.inv K x)) _ rfl ?_;rintro w8 ⟨sO,s9⟩;have Q:=nY.CP s9;have vG:=rR.eH Q;have uN:=sw.eH Q (by omega);have vH:=vU.eH Q (by omega);have vI:=rE.eH Q;have yL:=uj.eH Q;have Y:=b7.then s9 (.inl rfl);refine Ln<|Rn<|Fx.Md ?_;have ep:m.T.par (l.getD x 0)=0:=afI jH;refine⟨rfl,⟨Y.size,fun q hq hq2=>Y.block q hq2 (by omega)⟩,Qb.CS Y (by omega) ach (fun g A=>⟨n_ (L g A).1 lWt,(L g A).2⟩),?_,s.then Y (.inl rfl)⟩;rw[Gm,ep]; exact sO
 rintro D xs W hD rfl ⟨hT2,s⟩ hK;have I:Below w.heap.size w W:=s.below V V.size hgm;have E:=h.up I;have hPW:=E.p;have N:=E.c;have O:=E.t;have R:=ug.cu s ajs;have ajv:=R.lt;have S:=xk.cu s ajt;have ajw:=S.lt;have lWm:j<W.heap.size:=n_ ltm s.size;have lWt:w6.heap.size<=W.heap.size:=s.size;have lCW:=N.lt;have lPW:=hPW.lt;have lTW:=O.lt;have lh0:=h.t.lt;have lh1:=h.p.lt;have lDW:=(t_.1 hK).1;have oW:=uh.cu s (fun e=>(L _ e).2 rfl);refine Fx.Md<|Fx.rU<|Fx.W0.seq<|Fx.W0.seq<|Fx.W0.list<|Lv (pt u) (aM R.aH 0) ?_;refine av (pt u)<|av (pf u 18)<|Lv (pt m.tp) (aM N.aH 18)<|kF (UR O) ?_;rintro e9 w9 ⟨la1,C,d,v,wJ,hq1,ajx,hb4⟩;refine⟨_,v,?_⟩;clear v;have s10:=Sb hb4;have⟨vV,vJ,yu⟩:=iY hb4 S hT2 oW;have b10:=(ng j W).then s10 (.inr (ng j W).size);refine av (au d.length)<|av (au 0)<|Ln<|Fx.rU<|Fx.W0.block<|Fx.W0.loop (fun f U => ∃ i:Nat,i<=d.length/\f 1=aC id/\f 2=aC pa/\f 7=(pt M)/\f 8 = .slice G (l.length) (H)/\f 37 = .slice la1 (d.length) (C)/\f 38=au (d.length:Int)/\f 39=au (i:Int)/\aQ U M 1 (fun _=>(pt y)) 107/\tH U (w.heap.size) y j (lM l d (Na m.T l (G6 l.length l.length)) i)/\Fx.Own U W.heap.size 23 1 (.slice la1 (d.length) (C)) d.length (yK d)/\Fx.Own U w4.heap.size 23 1 (.slice G (l.length) (H)) l.length (yK l)/\Stp j W U) (fun f _=>((d.length:Int)-intOf (f 39)).toNat) ⟨0,(by omega),Fx.ic,Fx.ic,(by rfl),(by rfl),(by rfl),Fx.ic,Fx.ic,vV,vJ,wJ,yu,b10⟩ ?_;rintro f1 su ⟨i,hi,h1,h2,h3,h4,h5,h6,J,zK,wL,Ai,zL,b11⟩;refine Fx.W0.seq<|Fx.W0.list ?_;by_cases c40:(i:Int)<(d.length:Int)
 ·refine Lv aG (iD c40 (hx:=J) (hy:=h6)) (Ln (Fx.rU (Fx.W0.seq (Fx.W0.cond (b:=true) rfl (fun _=>Fx.W0.skip (Fx.rU (Fx.W0.seq (Fx.W0.block (Fx.W0.seq (Fx.W0.list ?_)))))) (fun h=>nomatch h)))));obtain⟨DZ,aa⟩:=Ai.addr (by omega);have AB:Fx.Own su W.heap.size 23 1 (bM DZ d.length C) d.length (yK d):=Ai.fu (M_ (fun q=>Value.slice q d.length C) aa);refine Lv (pf DZ i) (dB 1 (hx:=(h5.trans (M_ (fun q=>Value.slice q (d.length) (C)) aa))) (hi:=J))<|Lv (aC (d.getD i 0)) (aM AB.aH i)<|av (aC (d.getD i 0))<|Ln<|Fx.rU<|Fx.W0.seq<|Fx.W0.list<|aU h4<|av (aC (d.getD i 0))<|dX (anm l (d.getD i 0) _ _ _ _ zL (by omega)) (ax := #[.slice G (l.length) (H),aC (d.getD i 0)]) _ rfl ?_;intro Ah hb5;have s11:=Sb hb5;have⟨yY,yZ,Aj,Er⟩:=jW hb5 zK wL zL AB;have b12:=b11.then s11 (.inr b11.size);by_cases Z:d.getD i 0∈l
  ·skip
   refine Lv aF (Fx.Tf rfl (M_ Value.bool (f_ Z)))<|Ln<|Fx.rU<|Fx.W0.cond (b:=false) rfl (fun h=>nomatch h)<|fun _=>Fx.W0.skip<|Fx.Md<|Fx.rU<|Fx.W0.list<|Lv (au ((i:Int)+1)) (fH (hx:=J))<|av (au ((i:Int)+1))<|Ln ?_;have C9:Fx.Own Ah W.heap.size 23 1 (.slice la1 (d.length) (C)) d.length (yK d):=Er.fu (M_ (fun q=>Value.slice q d.length C) aa.symm);have Cc:tH Ah (w.heap.size) y j (lM l d (Na m.T l (G6 l.length l.length)) (i+1)):=by unfold lM; rw[d_ Z]; exact yZ
   skip
   refine Fx.ajn ⟨i+1,(by omega),(h1.trans Fx.ic),(h2.trans Fx.ic),h3,h4,h5,(h6.trans Fx.ic),Fx.ic,yY,Cc,C9,Aj,b12⟩ ?_;show((d.length:Int)-intOf (au ((i:Int)+1))).toNat<_;simp only[J,intOf]; omega
  skip
  refine Lv aG (Fx.acL rfl (M_ Value.bool (g_ Z))) (Ln (Fx.rU (Fx.W0.cond (b:=true) rfl (fun _=>Fx.W0.list (Lv (pt y) (aM yY.aH 0 (ha:=h3)) ?_)) (fun h=>nomatch h))));refine av (aC (d.getD i 0))<|dX (K9 (d.getD i 0) 0 yZ (ZW h.t.inv hq1.2 i)) _ rfl ?_;rintro BZ ⟨CF,s12⟩;have afM:=yZ.CP s12;have Al:=yY.eH afM;have ES:=Aj.eH afM;have Ev:=Er.eH afM;have b13:=b12.then s12 (.inl rfl);refine Ln<|Fx.Md<|Fx.rU<|Fx.W0.list<|Lv (au ((i:Int)+1)) (fH (hx:=J))<|av (au ((i:Int)+1))<|Ln ?_;have ET:Fx.Own BZ W.heap.size 23 1 (.slice la1 (d.length) (C)) d.length (yK d):=Ev.fu (M_ (fun q=>Value.slice q d.length C) aa.symm);have FV:tH BZ (w.heap.size) y j (lM l d (Na m.T l (G6 l.length l.length)) (i+1)):=by unfold lM; rw[b_ Z]; exact CF
  skip
  refine Fx.ajn ⟨i+1,(by omega),(h1.trans Fx.ic),(h2.trans Fx.ic),h3,h4,h5,(h6.trans Fx.ic),Fx.ic,Al,FV,ET,ES,b13⟩ ?_;show((d.length:Int)-intOf (au ((i:Int)+1))).toNat<_;simp only[J,intOf]; omega
 refine Lv aF (iE c40 (hx:=J) (hy:=h6))<|Ln<|Fx.rU<|Fx.W0.seq<|Fx.W0.cond (b:=false) rfl (fun h=>nomatch h)<|fun _=>Fx.W0.exit<|Fx.ajl<|Fx.apY<|Fx.ajm<|Fx.rU<|Fx.W0.seq ?_;have hil:i=d.length:=by omega
 refine Fx.W0.list<|Lv (pt y) (aM zK.aH 0 (ha:=h3)) ?_;refine aU h1<|aU h2<|dX (K9 id pa wL hid) _ rfl ?_;rintro FK ⟨uX,s13⟩;have afN:=wL.CP s13;have xI:=zK.eH afN;have uY:=Ai.eH afN;have rH:=zL.eH afN;have b14:=b11.then s13 (.inl rfl);refine av (au (dO.err (lM l d (Na m.T l (G6 l.length l.length)) i) id pa))<|Ln<|Fx.rU<|Fx.W0.ret ?_;have hKD:=(b14.block D lDW (by omega)).trans hK;have eD:dO.err (lM l d (Na m.T l (G6 l.length l.length)) d.length) id pa=m.T.err id pa:=ZU h.t.inv K hq1;refine Fx.leaveD hKD (rV Tryz.results215 (show Fx.Nl Tryz.prog _ _ (.tmp 6) (au (dO.err (lM l d (Na m.T l (G6 l.length l.length)) i) id pa))from rfl)) ⟨by rw[hil,eD],?_⟩;exact(b14.below I I.size hgm).grown (grownBy_putObj' _ D _) (b14.below I I.size hgm).size fun r e=>by cases e; omega
end Go.Proofs.YtcbedgfikejkoaaGreatDoor
namespace Go.Proofs.YtcbedgfikejkoaaGreatDoor
open Go.RowKit
namespace Fx
abbrev RY:=List (Nat × List Nat)
def IW(ops:List Oper)(a:List Nat)(b:Bool)(i:Nat)(l:RY):Bool:=l.all fun x=>match a[x.1]? with|some e => !Nat.beq i e&&(if b then yO ops i x.2 e else yO ops e x.2 i)|none=>false
def Oq(ops:List Oper)(a:List Nat)(c b:List RY):Bool:=(List.range ops.length).all fun i=>IW ops a true i (c.getD i [])&&IW ops a false i (b.getD i [])
def qH(a:List Nat)(b:Array Bool)(j:Nat):Bool:=match a[j]? with|some e=>b.getD e false|none=>false
def WW(m:Nat->Bool)(j:Nat):Nat->Bool:=fun q=>bif Nat.beq q j then true else m q
section
variable {P:Program} {n:Nat} {Q:Post} {f:Nat->Value} {w:World} {ops:List Oper}
theorem RZ{i e:Nat}{p:List Nat}{b:Array Bool}(hr:i∈Region.ready .any ops.toArray b)(j:Kv ops.toArray .any b)(d:i≠e)(h:yO ops i p e=true):b.getD e false=true:=by
 obtain⟨m,n,l,g⟩:=fV hr;obtain⟨f,h⟩:=jw h
 cases f with
 | zero=>unfold reach at h; exact N_ (by simpa using h) d
 | succ f =>
   unfold reach at h;rw[Bool.or_eq_true]at h
   rcases h with h|h
   ·exact N_ (by simpa using h) d
   ·rw[l]at h;simp only at h;rw[Array.any_eq_true']at h;obtain⟨c,k,a⟩:=h;rw[T_]at a;refine j.reach _ _ a.2<|g c.on ?_;unfold dL;rw[Array.any_eq_true'];exact⟨c,k,by rw[a.1,Nat.beq_refl]; rfl⟩
theorem W.masks{id:Nat}(o:List Nat)(V Z:List RY)(y:Gh->Nat->Value)(S:(Nat->Bool)->Gh->World->Prop)(hm:P.follows .mixedOrders=true)(T:mE n ops=true)(hsel:Region.noSelect ops.toArray=true)(WX:Oq ops o V Z=true)
 (hes:o.all (fun e=>Nat.blt e ops.length&&(match (opAt ops e).guard with|none=>true|_=>false))=true) (hnd:o.Nodup) (r0:Gh)
 (h0 : ∀ C,Below w.heap.size w C->C.heap.size=w.heap.size->S (fun _=>false) r0 C)
 (I : ∀ i,i<ops.length->o.contains i=false -> ∀ r m w,(∀ x∈V.getD i [],m x.1=true)->(∀ x∈Z.getD i [],m x.1=false)->S m r w->if Region.wanted (opAt ops i) (yf ops.toArray (full ops f (y r)))then Oper.quietUpon P (S m r) w (y r i) ((execOp (ev (full ops f (y r))) (opAt ops i)).run P w)else y r i=undef)
 (H : ∀ j i,o[j]? = some i -> ∀ r m w (a:Act) (K:Act->World->Prop),(∀ x∈V.getD i [],m x.1=true)->(∀ x∈Z.getD i [],m x.1=false)->m j=false->S m r w->(∀ x∈(opAt ops i).op.operands,a.eval x=ev (full ops f (y r)) x)->(∀ p w',S (WW m j) (rX r j p) w'->K (a.put (opAt ops i).dst (y (rX r j p) i)) w')->(opAt ops i).wp P a w K (lift n Q))
 (hd : ∀ i,i<ops.length -> ∀ j r p,(∀ x∈V.getD i [],x.1≠j)->o[j]? ≠ some i->j<o.length->y (rX r j p) i=y r i)
 (h : ∀ r m w',(∀ j,j<o.length->m j=true)->S m r w'->Q .normal (full ops f (y r)) w'):W P n (.region id ops.toArray true) Q f w:=fun a L=>by
 refine wp_region_any hm ?_;have Y : ∀ i,i<ops.length->IW ops o true i (V.getD i [])=true/\IW ops o false i (Z.getD i [])=true:=fun i t=>by
  unfold Oq at WX;rw[List.all_eq_true]at WX;have:=WX i (by simpa using t)
  rwa [T_]at this
 have hpr : ∀ i,i<ops.length -> ∀ x∈V.getD i [],∃ e,o[x.1]? = some e/\i≠e/\yO ops i x.2 e=true:=fun i t x F=>by
  have c:=(Y i t).1;unfold IW at c;rw[List.all_eq_true]at c;have c:=c x F
  cases H:o[x.1]? with
  | none=>rw[H]at c; cases c
  | some e =>
    rw[H]at c;simp only[if_true,T_]at c;exact⟨e,rfl,fun q=>by subst q; rw[Nat.beq_refl]at c; exact N_ c.1 (by simp),c.2⟩
 have hpo : ∀ i,i<ops.length -> ∀ x∈Z.getD i [],∃ e,o[x.1]? = some e/\yO ops e x.2 i=true:=fun i t x F=>by
  have c:=(Y i t).2;unfold IW at c;rw[List.all_eq_true]at c;have c:=c x F
  cases H:o[x.1]? with
  | none=>rw[H]at c; cases c
  | some e =>
    rw[H]at c;simp only[T_]at c;exact⟨e,rfl,by simpa using c.2⟩
 have Tq : ∀ k i,o[k]? = some i->i<ops.length/\(opAt ops i).guard=none:=fun k i hk=>by
  rw[List.all_eq_true]at hes;have:=hes i (List.mem_of_getElem? hk);rw[T_]at this;refine⟨by simpa [Nat.blt_eq] using this.1,?_⟩
  cases hg:(opAt ops i).guard with
  | none=>rfl
  | some _=>rw[hg]at this; exact N_ this.2 (by simp)
 have key : ∀(N:Nat) (b:Array Bool) (a:Act) (C:World) (r:Gh),b.size=ops.length->Kv ops.toArray .any b->Fr a n (over ops f (y r) b)->S (qH o b) r C ->
  (∀ M:List Nat,M=(List.range ops.length).filter (fun i => !b.getD i false)->M.length=N)->wpAny P .any ops.toArray (lift n Q) N b a C:=by
  intro N
  induction N with
  | zero =>
    intro b a C r U El L O X;have R : ∀ i,i<ops.length->b.getD i false=true:=fun i t=>by
     have c:=List.eq_nil_of_length_eq_zero (X _ rfl)
     cases I:b.getD i false
     ·have:i∈(List.range ops.length).filter (fun i => !b.getD i false):=(by simp only[List.mem_filter,P_]; exact⟨t,by rw[I]; rfl⟩);rw[c]at this; cases this
     ·rfl
    have hnone:Region.ready .any ops.toArray b = []:=by
     cases I:Region.ready .any ops.toArray b with
     | nil=>rfl
     | cons i l =>
       have E:i∈Region.ready .any ops.toArray b:=(by rw[I]; exact List.mem_cons_self);obtain⟨c,D,_,_⟩:=fV E;rw[R i D]at c; cases c
    refine⟨hnone,full ops f (y r),?_,h r _ C (fun j A => ?_) O⟩
    ·have:over ops f (y r) b=full ops f (y r):=by
      funext s
      unfold over full
      cases Y:writer ops s with
      | none=>rfl
      | some i=>simp only; rw[d_ (R i (nJ Y).2)]
     exact this ▸ L
    ·unfold qH;rw[o_ A];exact R _ (Tq j _ (o_ A)).1
  | succ N ih =>
    intro b a C r U El L O X;have hcount : ∀ i,i∈Region.ready .any ops.toArray b -> ∀ M:List Nat,M=(List.range ops.length).filter (fun j => !(b.setIfInBounds i true).getD j false)->M.length=N:=by
     intro i E M acP;obtain⟨c,D,_,_⟩:=fV E;subst acP;have e:(List.range ops.length).filter (fun j => !(b.setIfInBounds i true).getD j false)=((List.range ops.length).filter (fun i => !b.getD i false)).erase i:=by
      rw[List.Nodup.erase_eq_filter (List.Nodup.sublist List.filter_sublist List.nodup_range),List.filter_filter];apply List.filter_congr;intro j A;by_cases e:i=j
      ·subst e; rw[set_self (by rw[U]; exact D)]; simp
      ·rw[kL e];have:(j != i)=true:=(by simp; exact fun q=>e q.symm);rw[this,Bool.true_and]
     rw[e,List.length_erase_of_mem (by simp only[List.mem_filter,P_]; exact⟨D,by rw[c]; rfl⟩),X _ rfl];rfl
    refine⟨fun hnone => ?_,fun i E => ?_⟩
    ·exfalso;have hlen:=X _ rfl;exact(by
      have : ∃ i,i∈Region.ready .any ops.toArray b:=by
       obtain⟨q,I⟩ : ∃ q,q∈(List.range ops.length).filter (fun i => !b.getD i false):=by
        cases hfe:(List.range ops.length).filter (fun i => !b.getD i false)with
        | nil=>rw[hfe]at hlen; cases hlen
        | cons q l=>exact⟨q,List.mem_cons_self⟩
       have Nn : ∀ m q,q<=m->q<ops.length->b.getD q false=false -> ∃ i,i<ops.length/\b.getD i false=false /\ ∀ j,j<i->b.getD j false=true:=by
        intro m
        induction m with
        | zero=>intro q hm B hq2; exact⟨q,B,hq2,fun j A=>by omega⟩
        | succ m ihm =>
          intro q hm B hq2;by_cases R : ∀ j,j<q->b.getD j false=true
          ·exact⟨q,B,hq2,R⟩
          ·obtain⟨j,A⟩:=Classical.not_forall.1 R;obtain⟨hj1,hj2⟩:=Classical.not_imp.1 A;exact ihm j (by omega) (by omega) (by simpa using hj2)
       simp only[List.mem_filter,P_]at I;obtain⟨i,t,hi1,hi2⟩:=Nn q q (A_ _) I.1 (by simpa using I.2);refine⟨i,mem_ready.2 ⟨getD_in (by rw[U]; exact t) hi1,opAt ops i,?_,fun e H hb=>hi2 e.on ((fI T t).2.2.2 e.on ?_)⟩⟩
       ·unfold opAt; rw[List.getElem?_toArray,r_,o_ t]; rfl
       ·unfold dL; rw[Array.any_eq_true']; exact⟨e,H,by rw[hb,Nat.beq_refl]; rfl⟩
      obtain⟨i,t⟩:=this;rw[hnone]at t; cases t)
    ·obtain⟨c,t,hop,R⟩:=fV E;have hsz':(b.setIfInBounds i true).size=ops.length:=(by simpa using U);have KG:=El.set E;have hev:=OW (f:=f) T (v:=y r) E;have hae : ∀ x∈(opAt ops i).op.operands,a.eval x=ev (full ops f (y r)) x:=fun x F=>by rw[L.ev]; exact hev x F
     have hex:execOp a.eval (opAt ops i)=execOp (ev (full ops f (y r))) (opAt ops i):=execOp_congr _ (Region.noSelect_spec hsel i _ · · hop) hae;have hwant:Region.wanted (opAt ops i) (yielded ops.toArray a.tmps)=Region.wanted (opAt ops i) (yf ops.toArray (full ops f (y r))):=(by rw[L.yf]; exact DU T E);have hpre : ∀ x∈V.getD i [],qH o b x.1=true:=fun x F=>by
      obtain⟨e,D,h3,G⟩:=hpr i t x F;unfold qH;rw[D]; exact RZ E El h3 G
     have hpost : ∀ x∈Z.getD i [],qH o b x.1=false:=fun x F=>by
      obtain⟨e,D,G⟩:=hpo i t x F;unfold qH;rw[D]
      cases hle:b.getD e false with
      | false=>exact hle
      | true =>
        obtain⟨mm,G⟩:=jw G;have:=El.reach _ _ G hle;rw[c]at this; cases this
     unfold wpOp;simp only[hop];rw[hwant];by_cases hne:o.contains i=true
     ·have hmem:i∈o:=(by simpa using hne);obtain⟨j,A⟩:=List.getElem?_of_mem hmem;have hg:=(Tq j i A).2;have hjl:j<o.length:=(List.getElem?_eq_some_iff.1 A).1;rw[d_ (by unfold Region.wanted; rw[hg])];refine .inl<|H j i A r _ C a _ hpre hpost (by unfold qH; rw[A]; exact c) O hae fun p w' hS' => ?_;have hsame:over ops f (y r) b=over ops f (y (rX r j p)) b:=by
       funext s
       unfold over
       cases Y:writer ops s with
       | none=>rfl
       | some q =>
         simp only
         cases hlq:b.getD q false
         ·rfl
         ·simp only[if_true];have hqi:=(nJ Y).2;refine(hd q hqi j r p (fun x F e => ?_) (fun e => ?_) hjl).symm
          ·obtain⟨J,D,h3,G⟩:=hpr q hqi x F;obtain⟨mm,G⟩:=jw G;have h5:=El.reach _ _ G hlq;rw[e,A]at D;rw[<- C_ D,c]at h5; cases h5
          ·rw[A]at e;rw[<- C_ e,c]at hlq; cases hlq
      refine ih _ _ _ (rX r j p) hsz' KG ?_ ?_ (hcount i E)
      ·have:=(hsame ▸ L).put (d:=(opAt ops i).dst) (by
        cases hd:(opAt ops i).dst with
        | none=>rfl
        | some d=>simp[inn,Nat.blt_eq,((fI T t).1 d hd).2]) (y (rX r j p) i)
       rwa [BN T U t]at this
      ·have e:qH o (b.setIfInBounds i true)=WW (qH o b) j:=by
        funext q
        unfold WW
        cases hb:Nat.beq q j with
        | true =>
          have:=B_ hb;subst this;unfold qH;rw[A]; exact set_self (by rw[U]; exact t)
        | false =>
          have hqj:q≠j:=fun z=>by rw[z,Nat.beq_refl]at hb; cases hb
          unfold qH
          cases hqe:o[q]? with
          | none=>rfl
          | some J =>
            have:i≠J:=fun z=>by
             subst z;have h9:=List.getElem?_eq_some_iff.1 hqe;have h10:=List.getElem?_eq_some_iff.1 A;exact hqj ((List.getElem_inj hnd).1 (h9.2.trans h10.2.symm))
            exact kL this
       rw[e]; exact hS'
     ·have hne':o.contains i=false:=(by simpa using hne);have B:=I i t hne' r _ C hpre hpost O;have hfin : ∀ w',S (qH o b) r w'->wpAny P .any ops.toArray (lift n Q) N (b.setIfInBounds i true) (a.put (opAt ops i).dst (y r i)) w':=fun w' hS'=>by
       refine ih _ _ _ r hsz' KG ?_ ?_ (hcount i E)
       ·have:=L.put (d:=(opAt ops i).dst) (by
         cases hd:(opAt ops i).dst with
         | none=>rfl
         | some d=>simp[inn,Nat.blt_eq,((fI T t).1 d hd).2]) (y r i)
        rwa [BN T U t]at this
       ·have e:qH o (b.setIfInBounds i true)=qH o b:=by
         funext q
         unfold qH
         cases hqe:o[q]? with
         | none=>rfl
         | some J =>
           have:i≠J:=fun z=>by subst z; exact N_ (show o.contains i=true by simpa using List.mem_of_getElem? hqe) hne
           exact kL this
        rw[e]; exact hS'
      by_cases hwt:Region.wanted (opAt ops i) (yf ops.toArray (full ops f (y r)))=true
      ·rw[d_ hwt]at B ⊢;refine .inl ?_;unfold Oper.wp;rw[hex];generalize (execOp (ev (full ops f (y r))) (opAt ops i)).run P C=res at B
       cases res with
       | ok nx w' =>
         cases nx <;> simp only[Oper.quietUpon]at B <;> simp only[Oper.upon]
         case value u=>obtain⟨e1,J⟩:=B; subst e1 J; exact hfin _ O
         case skip=>obtain⟨e1,J⟩:=B; subst e1; rw[<- J]; exact hfin _ O
         case enter g args =>
          obtain⟨e1,hc⟩:=B;subst e1;exact hc.mono fun e w'' ⟨he',hw''⟩=>by subst he'; exact hfin _ hw''
       | halt x w'=>simp only[Oper.quietUpon]at B
      ·rw[b_ hwt]at B ⊢;rw[<- B];exact hfin _ O
 have hrep : ∀ i,(Array.replicate ops.toArray.size false).getD i false=false:=fun i=>by
  rw[Array.getD_eq_getD_getElem?];by_cases t:i<ops.length
  ·simp[t]
  ·simp[t]
 have hstart:over ops f (y r0) (Array.replicate ops.toArray.size false)=f:=by
  funext s
  unfold over
  cases writer ops s with
  | none=>rfl
  | some i=>simp only; rw[hrep]; simp
 have hdn:qH o (Array.replicate ops.toArray.size false)=fun _=>false:=by
  funext j
  unfold qH
  cases o[j]? with
  | none=>rfl
  | some e=>exact hrep e
 have:=key ops.toArray.size (Array.replicate ops.toArray.size false) a { w with drawn:=w.drawn+1 } r0 (by simp) (Kv.start _ _ _) (by rw[hstart]; exact L) (by rw[hdn]; exact h0 _ (Below.refl _ _).drew rfl) (fun M X=>by
  subst X;rw[List.filter_eq_self.2 (fun i _=>by rw[hrep]; rfl)];simp)
 simpa using this
theorem eO{r:Gh}{k j:Nat}{p:Nat × Nat}(h:j≠k):rX r k p j=r j:=by
 unfold rX;have:Nat.beq j k=false:=by
  cases hq:Nat.beq j k
  ·rfl
  ·exact N_ (B_ hq) h
 rw[this]; rfl
theorem Mf{o:Oper}{ρ:Operand->Value}{T:TypeId}{m:Nat}{z:Nat->Value}(d:o.op = .alloc T)(e:((P.info? T).bind (·.zero)).map (·.cells)=some (aA m z))(a:World) : ∃ b,(execOp ρ o).run P a = .ok (.value (.pointer (some ⟨a.heap.size,0,none⟩))) b/\aQ b a.heap.size m z T/\Stp a.heap.size a b:=by
 obtain⟨i,f,g⟩:=Option.map_eq_some_iff.1 e;obtain⟨j,c,h⟩:=Option.bind_eq_some_iff.1 f;refine⟨a.alloc (.cells i.cells T),?_,?_,Stp.alloc _ _⟩
 ·unfold execOp;simp[d,Instr.alloc,zeroValue,typeInfo,c,h,newVar,newRow]
 show(a.alloc _).heap[a.heap.size]? = _;rw[alloc_at,d_ rfl,g]
theorem Mg{o:Oper}{ρ:Operand->Value}{T T':TypeId}{a v:Operand}{m g:Nat}{x y:Nat->Value}{u:Value}(A:o.op = .store T' a v)(l:(P.info? T').map (·.size)=some m)(n:ρ a = .pointer (some ⟨g,0,none⟩))(p:ρ v=u)(D:u.cells=aA m y)(h1 : ∀ j,j<m->(y j).oneCell'=true){b:World}(t:aQ b g m x T) : ∃ d,(execOp ρ o).run P b = .ok .skip d/\aQ d g m y T/\Stp g b d:=by
 have h:b.heap[g]? = some (.cells (aA m x) T (0,0)):=t;have s:(aA m y).all (·.oneCell')=true:=by
  rw[Array.all_eq_true_iff_forall_mem];intro q B;obtain⟨j,i,z⟩:=Array.getElem_of_mem B;have k:j<m:=by simpa [cB] using i
  have e:=gM y k;rw[Array.getElem?_eq_getElem i,z]at e;rw[C_ e]; exact h1 j k
 have C:(storeVar T' ⟨g,0,none⟩ u).run P b = .ok () (b.setRow g (aA m y)):=by
  have f:=run_storeCells_at (P:=P) g 0 T (aA m y).toList 0 (aA m x) b h (by simp[cB]) (fun q c=>(Array.all_eq_true_iff_forall_mem.1 s) q (by simpa using c));have r:((aA m x).toList.take (0+0)++(aA m y).toList++(aA m x).toList.drop (0+0+(aA m y).toList.length)).toArray=aA m y:=by
   rw[List.drop_eq_nil_of_le (by simp[cB])]; simp
  rw[r]at f
  cases c:P.info? T' with
  | none=>simp[c]at l
  | some ti =>
    have E:ti.size=m:=(by simp[c]at l; omega);simp only[storeVar,sizeOf,typeInfo,Sem.run_bind,run_program,c,D,cB,E,ne_eq,not_true_eq_false,if_false,Result.andThen_ok,Sem.run_pure,f]
 obtain⟨F,G,H⟩:=AU (w:=b) (cs:=aA m y) h;refine⟨_,?_,G,F⟩;unfold execOp;simp only[A,n,p,Instr.storeAt,Instr.sureAddr,Sem.run_bind,Sem.run_pure,Result.andThen_ok,C]
def Dv(c d:Nat)(vs:Array Value)(a b:Nat):Nat->Value:=fun i=>bif Nat.beq i c then .pointer (some ⟨a,0,none⟩)else bif Nat.beq i d then .pointer (some ⟨b,0,none⟩)else vs.getD i undef
def Kg(ops:List Oper)(f:Nat->Value)(c d:Nat)(vs:Array Value)(a b:Nat):Nat->Value:=full ops f (Dv c d vs a b)
structure ZX(w:World)(m1 m2:Nat)(z1 y1 z2 y2:Nat->Value)(T1 T2:TypeId)(m:Nat->Bool)(r:Gh)(v:World):Prop where
 b:Below w.heap.size w v
 a:m 0=true->w.heap.size<=(r 0).1/\aQ v (r 0).1 m1 (if m 2=true then y1 else z1) T1
 c:m 1=true->w.heap.size<=(r 1).1/\aQ v (r 1).1 m2 (if m 3=true then y2 else z2) T2
 ne:m 0=true->m 1=true->(r 0).1≠(r 1).1
theorem ZX.up{m1 m2:Nat}{z1 y1 z2 y2:Nat->Value}{T1 T2:TypeId}{m:Nat->Bool}{r:Gh}{v e:World}(h:ZX w m1 m2 z1 y1 z2 y2 T1 T2 m r v)(d:Below v.heap.size v e):ZX w m1 m2 z1 y1 z2 y2 T1 T2 m r e :=
 ⟨M6 h.b d,fun q=>⟨(h.a q).1,(h.a q).2.cu (Sb d) (u_ (h.a q).2.lt)⟩,fun q=>⟨(h.c q).1,(h.c q).2.cu (Sb d) (u_ (h.c q).2.lt)⟩,h.ne⟩
def Ot(P:Program)(a:Nat->Value)(ops:Array Oper)(w:World)(b:List Nat)(vs:Array Value):List Oper->Nat->Prop
 | [],_=>True
 | o::l,i=>(b.contains i=true\/(if Region.wanted o (yf ops a)then QB P (ev a) o w (vs.getD i undef)else vs.getD i undef=undef))/\Ot P a ops w b vs l (i+1)
theorem IX{a:Nat->Value}{c:Array Oper}{b:List Nat}{vs:Array Value} : ∀ {l:List Oper} {k:Nat},Ot P a c w b vs l k -> ∀ i,i<l.length->(b.contains (k+i)=true\/(if Region.wanted (opAt l i) (yf c a)then QB P (ev a) (opAt l i) w (vs.getD (k+i) undef)else vs.getD (k+i) undef=undef))
 | [],_,_,i,hi=>N_ hi (by simp)
 | o::l,k,h,0,_=>h.1
 | o::l,k,h,i+1,hi=>by
   have:=IX h.2 i (by simpa using hi)
   rwa [show k+1+i=k+(i+1) by omega]at this
theorem Gn{i j:Nat}(h:i≠j):Nat.beq i j=false:=by
 cases hq:Nat.beq i j
 ·rfl
 exact N_ (B_ hq) h
def Dw(l:RY)(j:Nat):Bool:=l.any fun x=>Nat.beq x.1 j
theorem xR{l:RY}{j:Nat}(h:Dw l j=true) : ∃ x∈l,x.1=j:=by
 unfold Dw at h;rw[List.any_eq_true]at h;obtain⟨x,a,b⟩:=h;exact⟨x,a,B_ b⟩
theorem Dx{id:Nat}{T1 T2 T1' T2':TypeId}{a1 v1 a2 v2:Operand}{m1 m2:Nat}{z1 y1 z2 y2:Nat->Value}{u1 u2:Value}(k l y z:Nat)(N M:List RY)(vs:Array Value)(hm:P.follows .mixedOrders=true)(hok:mE n ops=true)(hsel:Region.noSelect ops.toArray=true)(WX:Oq ops [k,l,y,z] N M=true)
 (hes : [k,l,y,z].all (fun e=>Nat.blt e ops.length&&(match (opAt ops e).guard with|none=>true|_=>false))=true) (hnd:decide [k,l,y,z].Nodup=true)
 (hw1:Dw (N.getD y []) 0=true) (hw2:Dw (N.getD z []) 1=true) (hw3:Dw (M.getD k []) 2=true) (hw4:Dw (M.getD l []) 3=true)
 (o1:(opAt ops k).op = .alloc T1) (o2:(opAt ops l).op = .alloc T2) (n1:((P.info? T1).bind (·.zero)).map (·.cells)=some (aA m1 z1)) (n2:((P.info? T2).bind (·.zero)).map (·.cells)=some (aA m2 z2))
 (U:(opAt ops y).op = .store T1' a1 v1) (V:(opAt ops z).op = .store T2' a2 v2) (X:(opAt ops y).dst=none) (Y:(opAt ops z).dst=none) (e1:(P.info? T1').map (·.size)=some m1) (e2:(P.info? T2').map (·.size)=some m2)
 (ha1 : ∀ o s,ev (Kg ops f k l vs o s) a1 = .pointer (some ⟨o,0,none⟩)) (ha2 : ∀ o s,ev (Kg ops f k l vs o s) a2 = .pointer (some ⟨s,0,none⟩)) (hv1 : ∀ o s,ev (Kg ops f k l vs o s) v1=u1) (hv2 : ∀ o s,ev (Kg ops f k l vs o s) v2=u2)
 (hu1:u1.cells=aA m1 y1) (hu2:u2.cells=aA m2 y2) (h11 : ∀ j,j<m1->(y1 j).oneCell'=true) (h12 : ∀ j,j<m2->(y2 j).oneCell'=true)
 (hq : ∀ o s,Ot P (Kg ops f k l vs o s) ops.toArray w [k,l,y,z] vs ops 0)
 (h : ∀ o s w' Z,Z=Kg ops f k l vs o s->w.heap.size<=o->w.heap.size<=s->o≠s->aQ w' o m1 y1 T1->aQ w' s m2 y2 T2->Below w.heap.size w w'->Q .normal Z w'):W P n (.region id ops.toArray true) Q f w:=by
 have hn:=h_ hnd;simp only[List.nodup_cons,List.mem_cons,List.not_mem_nil,or_false,not_or]at hn;obtain⟨⟨x12,x1s,x1t⟩,⟨x2s,x2t⟩,xst,_⟩:=hn;refine W.masks [k,l,y,z] N M (fun r=>Dv k l vs (r 0).1 (r 1).1) (ZX w m1 m2 z1 y1 z2 y2 T1 T2) hm hok hsel WX hes (h_ hnd) (fun _=>(0,0)) (fun w1 A _=>⟨A,fun h=>(nomatch h),fun h=>(nomatch h),fun h=>(nomatch h)⟩) ?_ ?_ ?_ ?_
 ·intro i hi T r m v _ _ d
  rcases IX (hq (r 0).1 (r 1).1) i hi with h2|h2
  ·rw[H_]at h2; rw[h2]at T; cases T
  rw[H_]at h2;have hni':i≠k/\i≠l/\i≠y/\i≠z:=by simpa using T
  have H:Dv k l vs (r 0).1 (r 1).1 i=vs.getD i undef:=by unfold Dv; rw[Gn hni'.1,Gn hni'.2.1]; rfl
  show if Region.wanted (opAt ops i) (yf ops.toArray (Kg ops f k l vs (r 0).1 (r 1).1))then Oper.quietUpon P _ v (Dv k l vs (r 0).1 (r 1).1 i) ((execOp (ev (Kg ops f k l vs (r 0).1 (r 1).1)) (opAt ops i)).run P v)else Dv k l vs (r 0).1 (r 1).1 i=undef;rw[H];by_cases hw:Region.wanted (opAt ops i) (yf ops.toArray (Kg ops f k l vs (r 0).1 (r 1).1))=true
  ·rw[d_ hw]at h2 ⊢
   rcases h2 v d.b with h3|⟨g,args,h3,h4⟩
   ·rw[h3]; exact⟨rfl,rfl⟩
   rw[h3]; exact⟨rfl,h4.mono fun e w2 ⟨he,hb2⟩=>⟨he,d.up hb2⟩⟩
  rw[b_ hw]at h2 ⊢; exact h2
 ·intro j i t r m v a K hpr hpo hmj d B J
  match j,t with
  | 0,t =>
    obtain rfl:k=i:=(by simpa using t);obtain⟨v2,E,A,u⟩:=Mf (ρ:=a.eval) o1 n1 v;unfold Oper.wp;rw[E];obtain⟨x,C,D⟩:=xR hw3;have hm2:m 2=false:=(by rw[<- D]; exact hpo x C);have:=J (v.heap.size,0) v2 ⟨M6 d.b u.old,fun _=>by
     rw[pK];exact⟨d.b.size,by show aQ v2 v.heap.size m1 (if m 2=true then y1 else z1) T1; rw[hm2]; exact A⟩,fun q=>by
     have q:m 1=true:=q;rw[eO (by decide)];exact⟨(d.c q).1,(d.c q).2.cu u (u_ (d.c q).2.lt)⟩,fun _ q=>by
     have q:m 1=true:=q;rw[pK,eO (by decide)];exact Nat.ne_of_gt (d.c q).2.lt⟩
    have H:Dv k l vs (rX r 0 (v.heap.size,0) 0).1 (rX r 0 (v.heap.size,0) 1).1 k = .pointer (some ⟨v.heap.size,0,none⟩):=(by unfold Dv; rw[Nat.beq_refl,pK]; rfl);rw[H]at this;exact this
  | 1,t =>
    obtain rfl:l=i:=(by simpa using t);obtain⟨v2,E,A,u⟩:=Mf (ρ:=a.eval) o2 n2 v;unfold Oper.wp;rw[E];obtain⟨x,C,D⟩:=xR hw4;have hm3:m 3=false:=(by rw[<- D]; exact hpo x C);have:=J (v.heap.size,0) v2 ⟨M6 d.b u.old,fun q=>by
     have q:m 0=true:=q;rw[eO (by decide)];exact⟨(d.a q).1,(d.a q).2.cu u (u_ (d.a q).2.lt)⟩,fun _=>by
     rw[pK];exact⟨d.b.size,by show aQ v2 v.heap.size m2 (if m 3=true then y2 else z2) T2; rw[hm3]; exact A⟩,fun q _=>by
     have q:m 0=true:=q;rw[pK,eO (by decide)];exact u_ (d.a q).2.lt⟩
    have H:Dv k l vs (rX r 1 (v.heap.size,0) 0).1 (rX r 1 (v.heap.size,0) 1).1 l = .pointer (some ⟨v.heap.size,0,none⟩):=(by unfold Dv; rw[Gn (fun e=>x12 e.symm),Nat.beq_refl,pK]; rfl);rw[H]at this;exact this
  | 2,t =>
    obtain rfl:y=i:=(by simpa using t);obtain⟨x,C,D⟩:=xR hw1;have F:m 0=true:=(by rw[<- D]; exact hpr x C);have O:a.eval a1 = .pointer (some ⟨(r 0).1,0,none⟩):=(B a1 (by rw[U]; simp[Op.operands])).trans (ha1 (r 0).1 (r 1).1);have R:a.eval v1=u1:=(B v1 (by rw[U]; simp[Op.operands])).trans (hv1 (r 0).1 (r 1).1);obtain⟨I,E,A,u⟩:=Mg U e1 O R hu1 h11 (d.a F).2;unfold Oper.wp;rw[E];show K (a.put (opAt ops y).dst undef) _;rw[X];have:=J (0,0) I ⟨u.below d.b d.b.size (d.a F).1,fun _=>by
     rw[eO (by decide)];exact⟨(d.a F).1,by show aQ I (r 0).1 m1 (if WW m 2 2=true then y1 else z1) T1; exact A⟩,fun q=>by
     have q:m 1=true:=q;rw[eO (by decide)];exact⟨(d.c q).1,(d.c q).2.cu u (fun e=>d.ne F q e.symm)⟩,fun _ q=>by
     have q:m 1=true:=q;rw[eO (by decide),eO (by decide)];exact d.ne F q⟩
    rw[X]at this;exact this
  | 3,t =>
    obtain rfl:z=i:=(by simpa using t);obtain⟨x,C,D⟩:=xR hw2;have G:m 1=true:=(by rw[<- D]; exact hpr x C);have O:a.eval a2 = .pointer (some ⟨(r 1).1,0,none⟩):=(B a2 (by rw[V]; simp[Op.operands])).trans (ha2 (r 0).1 (r 1).1);have R:a.eval v2=u2:=(B v2 (by rw[V]; simp[Op.operands])).trans (hv2 (r 0).1 (r 1).1);obtain⟨I,E,A,u⟩:=Mg V e2 O R hu2 h12 (d.c G).2;unfold Oper.wp;rw[E];show K (a.put (opAt ops z).dst undef) _;rw[Y];have:=J (0,0) I ⟨u.below d.b d.b.size (d.c G).1,fun q=>by
     have q:m 0=true:=q;rw[eO (by decide)];exact⟨(d.a q).1,(d.a q).2.cu u (d.ne q G)⟩,fun _=>by
     rw[eO (by decide)];exact⟨(d.c G).1,by show aQ I (r 1).1 m2 (if WW m 3 3=true then y2 else z2) T2; exact A⟩,fun q _=>by
     have q:m 0=true:=q;rw[eO (by decide),eO (by decide)];exact d.ne q G⟩
    rw[Y]at this;exact this
  | j+4,t=>simp at t
 ·intro i hi j r p C hne hjl;have t:j=0\/j=1\/j=2\/j=3:=by simp at hjl; omega
  show Dv k l vs (rX r j p 0).1 (rX r j p 1).1 i=Dv k l vs (r 0).1 (r 1).1 i;unfold Dv
  rcases t with rfl|rfl|rfl|rfl
  ·have:i≠k:=fun e=>hne (by rw[e]; rfl);rw[Gn this]; simp only[cond_false]; rw[eO (by decide)]
  ·have:i≠l:=fun e=>hne (by rw[e]; rfl);rw[Gn this]; simp only[cond_false]; rw[eO (by decide)]
  ·rw[eO (by decide),eO (by decide)]
  rw[eO (by decide),eO (by decide)]
 intro r m w' L d;have m0:=L 0 (by simp); have m1':=L 1 (by simp); have m2':=L 2 (by simp); have m3:=L 3 (by simp);have B:=d.a m0; have S:=d.c m1';rw[m2']at B; rw[m3]at S;exact h (r 0).1 (r 1).1 w' _ rfl B.1 S.1 (d.ne m0 m1') B.2 S.2 d.b
end
end Fx
end Go.Proofs.YtcbedgfikejkoaaGreatDoor
namespace Go.Proofs.YtcbedgfikejkoaaGreatDoor
open Go.RowKit Rt
open Fx (bf Lv sN Ln Ws Rp Wr Sb Wk rC sR Rs Rn Rk Dx fP uS rv aA aQ aO ev Stp aL Mp iT jI cells_one)
namespace Rt
def nU(v:EvM):Int:=1099511627776*v.o+v.seq
def jr(m:dP)(v:EvM):Int:=if 5<=m.own (aP v)\/140737488355328<v.aT then 6 else m.T.err (nU v) v.node
def Eb(m:dP)(v:EvM):dP := { m with T:=m.T.put (nU v) v.node,R:=aO m.R m.T.n (upd (fun _=>0) (aP v) v.aT),own:=aI m.own (aP v) (m.own (aP v)+1) }
theorem WY{T:dO}{pa:Int}{id:Int}{w:World}{b n:Nat}{x:Nat->Int}(h:Mp w b n x (aO (EB T) T.n (aC pa))):Mp w b n x (EB (T.put id pa)):=h.vQ fun i _=>⟨rfl,by show aO (EB T) T.n _ i=aC (aO T.p T.n pa i); unfold aO EB; split <;> rfl⟩
theorem ZY{R:Nat->Nat->Int}{j n b:Nat}{r:Nat->Int}{x:Nat->Int}{w:World}(h:Mp w b n x (aO (xQ R) j (.agg (aA 54 (rv .i64 r))))):Mp w b n x (xQ (aO R j r)):=E8 _ _ _ _ h
end Rt
theorem ajy(o q:Int)(w:World)(a:1<=o/\o<=6)(b:1<=q/\q<1099511627776):Calls Tryz.prog 214 #[au o,aC q] w fun e w'=>e = .returned (aC (1099511627776*o+q))/\w'=w:=by
 have h:=apV o.toNat q.toNat w (by omega) (by omega);rw[show((o.toNat:Nat):Int)=o by omega,show((q.toNat:Nat):Int)=q by omega]at h;exact h
theorem WZ(m:dP)(b B:Nat)(w:World)(h:lS w B b m)(v:EvM)(hv:bR v=true)(J:m.T.err (nU v) v.node=0)(a:Nat)(ha:a<6)(hra:aP v=a)(hob:0<=m.own a/\m.own a<=1000)(hid:0<=nU v/\nU v<=18446744073709551615)(I:Nat)(G:Nat)(l:Nat)(H:Nat)(S:aQ w I 1 (fun _=>(pt b)) 28)(hi:aQ w G 1 (fun _=>aC (nU v)) 23)(P:aQ w l 14 (bI v) 37)(Q:aQ w H 1 (fun _=>au (a:Int)) 3) :
 Calls Tryz.prog 216 #[(pt I),(pt G),(pt l),(pt H)] w fun e w'=>e = .returned (.tuple #[])/\lS w' B b (Eb m v)/\jI (Gg m b) w w':=by
 have hC:=h.c;have hT:=h.t;have hP:=h.p;have hR:=h.r;have hG:=h.g;have hA:=h.a;have d:=h.ne;have lC:=h.c.lt;have lT:=h.t.lt;have lP:=h.p.lt;have lR:=h.r.lt;have lG:=h.g.lt;have lA:=h.a.lt;have lgl:=S.lt;have lgi:=hi.lt;have lge:=P.lt;have lgk:=Q.lt;have U : ∀ i,i<m.T.n->m.T.x i≠nU v:=fun i hi e=>by have:=(FE J).2.1; rw[jS hi e]at this; cases this
 refine Kent Tryz.func216 42 ?_;refine Ws ?_;refine jY [5,0,1,2,3,4,6,7] [4,0,0,4,4,0,4,3] [(7,0,[3,2,1,0]),(7,3,[3]),(7,4,[4]),(7,6,[6])] fun qU K iC => ?_;have s1:Stp w.heap.size w qU:=Sb K;have⟨W,m2,m3,m4,m5,m6,m7,m8,m9,m10⟩:=vO K hC hT hP hR hG hA S hi P Q;have b1:=(uS (Gg m b) w).then s1 (.inr (uS (Gg m b) w).size);refine aY (pf l 9)<|Rs (pt b) (aM m7.aH 0) ?_;refine aY (pt b)<|aY (pf b 18)<|Rs (pt m.tp) (aM W.aH 18) ?_;refine Rs (aC (nU v)) (aM m8.aH 0) ?_;refine Rs (aC v.node) (aM m9.aH 9) ?_;refine gQ<|dX (K9 (nU v) v.node m2 hid) _ rfl ?_;rintro y ⟨m11,s2⟩;have j:=m2.CP s2;have m12:=W.eH j;have m13:=m3.eH j (Ne.symm d.mp);have m14:=m4.eH j (Ne.symm d.mr);have m15:=m5.eH j (Ne.symm d.mg);have m16:=m6.eH j (Ne.symm d.ma);have m17:=m7.eH j;have m18:=m8.eH j;have m19:=m9.eH j;have m20:=m10.eH j;have C:=b1.then s2 (.inl (.inr (.inl rfl)));have m21:tH y B m.tp m.mb (m.T.put (nU v) v.node):=by rw[<- dO.E9 J]; exact m11
 refine Ln<|bT<|Ws ?_;refine jY [5,0,1,2,3,4,6,7] [4,0,0,4,4,0,4,3] [(7,0,[0]),(7,3,[3]),(7,4,[4]),(7,6,[6])] fun BS M mQ => ?_;have s3:Stp y.heap.size y BS:=Sb M;have⟨m22,m23,m24,nW,oN,pU,pV,nX,ou,lu⟩:=vO M m12 m13 m14 m15 m16 m17 m18 m19 m20 m21;have b3:=C.then s3 (.inr C.size);refine aY (pf l 9)<|Rs (pt b) (aM pU.aH 0) ?_;refine aY (pt b)<|aY (pf b 19)<|Rs (.map (some m.pb)) (aM m22.aH 19) ?_;refine Rs (aC (nU v)) (aM pV.aH 0) ?_;refine Rs (aC v.node) (aM nX.aH 9) ?_;refine gQ<|Fx.L.QU (by rfl) rfl rfl rfl rfl rfl m23 Tryz.underlying108 Tryz.underlying23 U fun z m32 s4 z1 => ?_;have k:=m23.CP s4;have oQ:=m22.eH k;have nL:=m24.eH k (Ne.symm d.pr);have oO:=nW.eH k (Ne.symm d.pg);have nT:=oN.eH k (Ne.symm d.pa);have qV:=pU.eH k;have qB:=pV.eH k;have pE:=nX.eH k;have sJ:=ou.eH k;have mK:=lu.eH k (d.mp);have D:=b3.then s4 (.inl (.inr (.inr (.inl rfl))));have ni:Mp z m.pb ((m.T.put (nU v) v.node).n) ((m.T.put (nU v) v.node).x) (EB (m.T.put (nU v) v.node)):=WY m32;refine Ln<|bT<|Ws ?_;refine jY [0,2,3,7,8,1,4,5,6,9,10] [4,4,0,0,0,4,0,0,0,0,3] [(10,0,[0]),(10,1,[1]),(10,5,[5])] fun SF N BU => ?_;have s5:Stp z.heap.size z SF:=Sb N;have⟨s,qw,qW,ow,sK,vE,sM,rQ,uM,uw⟩:=vO N oQ nL oO nT qV qB pE sJ mK ni;have b5:=D.then s5 (.inr D.size);refine Rs (pt b) (aM sK.aH 0) ?_;refine aY (pt b)<|aY (pf b 21)<|aY (pt b)<|aY (pf b 21)<|Rs (au a) (aM rQ.aH 0) ?_;refine Rp (pf b (a+21)) (fun _=>jD 6 1)<|Rs (au (m.own a)) (aM s.aH (a+21) (J6 (p:=a) (by omega) (by omega))) ?_;refine Rp (au ((m.own a)+1)) (fun _=>fH)<|Rp (pf b (a+21)) (fun _=>jD 6 1)<|gQ<|ji s (a+21) (au ((m.own a)+1)) fun w3 ug s6 z2 => ?_;have uW:aQ w3 b 29 (wD { m with own:=aI m.own a (m.own a+1) }) 114:=ug.to (ZL ha (by omega) _);have gF:=fP s6 s.ty;have⟨xk,uh,rR,sw,vU,rE,uj,nY,uy⟩:=adg gF qw qW ow sK vE sM rQ uM uw;have q:=b5.then s6 (.inl (.inl rfl));refine Ln<|bT<|ay<|av (.agg (aA 54 (rv .i64 (fun _=>0))))<|nS 54 (rv .i64 (fun _=>0)) fun o w4 F u s7 z3 => ?_;have⟨xq,wI,vF,yt,sO,vG,uN,vH,vI,yL⟩:=vO s7.old xk uh rR sw vU rE uj nY uy uW;have b7:=q.then s7 (.inr q.size);have V:=iK F q.size;have⟨aqj,aqk,aql,aqm,aqn,aqo,aqp,aqr,aqs⟩:=YG F xk.lt uh.lt rR.lt sw.lt vU.lt rE.lt uj.lt uy.lt uW.lt;have uK:=u.lt;refine dM u 0 fun w5 wJ s8 z4 => ?_;have yV:aQ w5 o 54 (rv .i64 (fun _=>0)) 82:=aL wJ;have jT:=fP s8 u.ty;have⟨yX,yM,wK,vV,vJ,yu,zK,wL,Ai,zL⟩:=O5 jT xq wI vF yt sO vG uN vH vI yL;have b8:=b7.then s8 (.inr V);refine aD<|ay<|Lv (au a) (aM zK.aH 0)<|av (pf l 11)<|Lv (au v.aT) (aM yu.aH 11)<|av (pt o)<|Lv (pf o a) (jD 6 1)<|ji yV a (au v.aT) fun A AB s9 z5 => ?_;have yY:aQ A o 54 (rv .i64 (upd (fun _=>0) a v.aT)) 82:=AB.to (Fx.zy _ _ _ _);have oq:=fP s9 yV.ty;have⟨yZ,Aj,Er,C9,Cc,CF,Al,ES,Ev,ET⟩:=O5 oq yX yM wK vV vJ yu zK wL Ai zL;have E:=b8.then s9 (.inr V);refine aD ?_;refine jY [0,1,2,3,4,5,6] [4,0,0,4,4,4,3] [(6,0,[0]),(6,3,[3]),(6,4,[4]),(6,5,[5])] fun wt4 O Ii => ?_;have s10:Stp A.heap.size A wt4:=Sb O;have⟨FV,uX,xI,X,Y,oU,oF,qb,oG,Z,aa⟩:=Fz O yZ Aj Er C9 Cc CF Al ES Ev ET yY;have b10:=E.then s10 (.inr E.size);refine Rs (pt b) (aM X.aH 0) ?_;refine aY (pt b)<|aY (pf b 20)<|Rs (.map (some m.rb)) (aM Z.aH 20) ?_;refine Rs (aC (nU v)) (aM Y.aH 0) ?_;refine Rs (.agg (aA 54 (rv .i64 (upd (fun _=>0) a v.aT)))) (fM aa.aH 0) ?_;refine gQ<|Fx.L.QU (by rfl) rfl rfl rfl rfl rfl FV Tryz.underlying109 Tryz.underlying23 U fun w7 sF s11 z6 => ?_;have f:=FV.CP s11;have oZ:=uX.eH f (Ne.symm d.rg);have rM:=xI.eH f (Ne.symm d.ra);have yE:=X.eH f;have uD:=Y.eH f;have yF:=oU.eH f;have Bc:=oF.eH f;have wm:=qb.eH f (d.mr);have tO:=oG.eH f (d.pr);have qc:=Z.eH f;have xJ:=aa.eH f;have b11:=b10.then s11 (.inl (.inr (.inr (.inr (.inl rfl)))));have xK:Mp w7 m.rb ((m.T.put (nU v) v.node).n) ((m.T.put (nU v) v.node).x) (xQ (aO m.R m.T.n (upd (fun _=>0) a v.aT))):=ZY sF;refine Ln (Rn (⟨.tuple #[],iT Tryz.results216,?_⟩));unfold Eb; rw[hra];exact⟨rfl,{ c:=qc,t:=wm,p:=tO,r:=xK,g:=oZ,a:=rM,ne:=⟨d.mp,d.mr,d.mg,d.ma,d.pr,d.pg,d.pa,d.rg,d.ra,d.ga⟩,lB:=h.lB,pB:=h.pB,rB:=h.rB,gB:=h.gB,aB:=h.aB },b11⟩
theorem Z0(m:dP)(j B:Nat)(w:World)(h:lS w B j m)(v:EvM)(L:bR v=true)(ab : ∀ a,a<6->0<=m.own a/\m.own a<=1000) :
 Calls Tryz.prog 207 #[(pt j),.agg (aA 14 (bI v))] w fun e w'=>SK w B j m (Eb m v) (jr m v) e w':=by
 have Z:=h.c;have hT:=h.t;have hP:=h.p;have hR:=h.r;have hG:=h.g;have hA:=h.a;have hN:=h.ne;have lC:=h.c.lt;have lT:=h.t.lt;have lP:=h.p.lt;have lR:=h.r.lt;have lG:=h.g.lt;have lA:=h.a.lt;obtain⟨a,J,ho⟩ : ∃ a:Nat,a<6/\v.o=(a:Int)+1:=eU (je L);have z:aP v=a:=by unfold aP; omega
 have hbd:=nI L;have aa:0<=nU v/\nU v<=18446744073709551615:=by unfold nU; omega
 have hoa:=ab a J;refine Kent Tryz.func207 38 ?_;refine ay<|yD (pt j) fun n w1 X M s1 z1 => ?_;have⟨m2,U⟩:=fC s1.old Z (Below.refl w.heap.size w);have tC:=gN X;have nK:=cO X Z.lt;have uK:=M.lt;refine pO fun b w2 Y l s2 z2 => ?_;have⟨P,Q,H⟩:=iY s2.old m2 M U;have qX:=iK Y U.size;have⟨aji,Ls⟩:=rD Y m2.lt M.lt;have zM:=l.lt;refine av (.nilFunc)<|av (au 0)<|aD<|Ws ?_;refine Dx (T1:=23) (T2:=3) (T1':=23) (T2':=3) (a1 := .tmp 6) (v1 := .tmp 13) (a2 := .tmp 7) (v2 := .tmp 16) (m1:=1) (m2:=1) (z1:=rv .u64 (fun _=>0)) (y1:=fun _=>aC (nU v)) (z2:=rv .i64 (fun _=>0)) (y2:=fun _=>au (a:Int)) (u1:=aC (nU v)) (u2:=au (a:Int)) 8 9 10 11 [[],[],[],[],[],[],[],[],[],[],[(0,[8]),(1,[9])],[(0,[8]),(1,[9]),(2,[10])]] [[(2,[0]),(3,[0])],[(2,[1]),(3,[1])],[(2,[2]),(3,[2])],[(2,[3]),(3,[3])],[(2,[4]),(3,[4])],[(3,[5])],[(3,[6])],[(3,[7])],[(2,[8]),(3,[8])],[(2,[9]),(3,[9])],[(3,[10])],[]] #[(pt b),au v.o,(pf b 1),aC v.seq,aC (nU v),(pt b),au v.o,au (a:Int),undef,undef,undef,undef] (by kernel_rfl) (by kernel_rfl) (by kernel_rfl) (by kernel_rfl) (by kernel_rfl) (by kernel_rfl) (by kernel_rfl) (by kernel_rfl) (by kernel_rfl) (by kernel_rfl) rfl rfl (by kernel_rfl) (by kernel_rfl) rfl rfl rfl rfl (by kernel_rfl) (by kernel_rfl) (fun d f=>(show ev _ (.tmp 6)=(pt d)from by kernel_rfl)) (fun d f=>(show ev _ (.tmp 7)=(pt f)from by kernel_rfl)) (fun d f=>(show ev _ (.tmp 13)=aC (nU v)from by kernel_rfl)) (fun d f=>(show ev _ (.tmp 16)=au (a:Int)from by kernel_rfl)) (cells_one (by rfl)) (cells_one (by rfl)) (fun _ _=>rfl) (fun _ _=>rfl) (fun d f => ?_) ?_
 ·refine⟨?_,?_,?_,?_,?_,?_,?_,?_,?_,?_,?_,?_,trivial⟩
  ·exact .inr qQ
  ·exact .inr (uo (au v.o) fun D q=>bf (x:=bI v) rfl (show ev _ (.tmp 9)=(pt b)from by kernel_rfl) (by kernel_rfl) (l.aH.below q (by have:=l.lt; omega)) (i:=0) (by omega) (by omega) rfl)
  ·exact .inr qQ
  ·exact .inr (uo (aC v.seq) fun D q=>bf (x:=bI v) rfl (show ev _ (.tmp 11)=(pf b 1)from by kernel_rfl) (by kernel_rfl) (l.aH.below q (by have:=l.lt; omega)) (i:=1) (by omega) (by omega) rfl)
  ·exact .inr (Fx.Jp (v:=aC (nU v)) (by kernel_rfl) (by kernel_rfl) (Fx.qbC (fun D q=>rC (args := [au v.o,aC v.seq]) rfl (Fx.args2 (show ev _ (.tmp 10)=au v.o from by kernel_rfl) (show ev _ (.tmp 12)=aC v.seq from by kernel_rfl)) Tryz.func214 rfl rfl) (fun D q=>(ajy v.o v.seq _ (by omega) (by omega)).mono fun e v2 h=>⟨h.1,(by rw[h.2]; exact Below.refl _ _)⟩)))
  ·exact .inr qQ
  ·exact .inr (uo (au v.o) fun D q=>bf (x:=bI v) rfl (show ev _ (.tmp 14)=(pt b)from by kernel_rfl) (by kernel_rfl) (l.aH.below q (by have:=l.lt; omega)) (i:=0) (by omega) (by omega) rfl)
  ·exact .inr (uo (au a) fun D q=>Fx.abg rfl (show ev _ (.tmp 15)=au v.o from by kernel_rfl) (show ev _ (.const (au 1))=au 1 from by kernel_rfl) Fx.io)
  ·exact .inl rfl
  ·exact .inl rfl
  ·exact .inl rfl
  exact .inl rfl
 rintro d f w3 G y A C ne1 m6 m7 hb1;have auv:j≠d:=u_ (n_ (P.lt) A);have abP:n≠d:=u_ (n_ (Q.lt) A);have auw:b≠d:=u_ (n_ (l.lt) A);have auy:j≠f:=u_ (n_ (P.lt) C);have auz:n≠f:=u_ (n_ (Q.lt) C);have auA:b≠f:=u_ (n_ (l.lt) C);have⟨m8,m9,m10,b3⟩:=jW hb1 P Q l H;have A:w.heap.size<=d:=m_ H.size A;have GZ:=m6.lt;have C:w.heap.size<=f:=m_ H.size C;have M9:=m7.lt;have R:G 2=(pt n):=by rw[y]; kernel_rfl
 have S:G 3=(pt b):=by rw[y]; kernel_rfl
 have q5:G 6=(pt d):=by rw[y]; kernel_rfl
 have q6:G 7=(pt f):=by rw[y]; kernel_rfl
 clear y;refine sN<|Ws<|Ws ?_;refine jY [0,2,3,1,4,5,6,7,8,9,10,11] [4,4,0,0,0,4,0,0,0,4,0,0] [] fun qU dU iC => ?_;have⟨m11,N,O,ac,ad,E⟩:=rz dU m8 m9 m10 m6 m7 b3;refine Rs (pt j) (aM N.aH 0 (ha:=R)) ?_;refine aY (pt j)<|aY (pf j 21)<|Rs (au a) (aM ad.aH 0 (ha:=q6)) ?_;refine Rp (pf j (a+21)) (fun _=>jD 6 1)<|Rs (au (m.own a)) (aM m11.aH (a+21) (J6 (p:=a) (by omega) (by omega))) ?_;by_cases V:5<=(m.own a)
 ·refine Rp aG (fun _=>kW V)<|aY aG<|Rk (by rfl)<|Rk (by rfl)<|Rk (by rfl)<|aY aG<|bT<|aN<|ay<|av (.nilFunc)<|av (au 6)<|aD<|Wr<|sR<|aJ (.tuple #[.nilFunc,au 6]) ?_;have k:jr m v=6:=by unfold jr; rw[z]; exact d_ (.inl (by omega))
  exact⟨⟨.nilFunc,0,#[],by rw[k],rfl,fun u=>N_ (k.symm.trans u) (by first|decide|omega|assumption)⟩,E⟩
 refine Rp aF (fun _=>kN V)<|aY aF<|Rp (pf b 11) (fun _=>jo S 11)<|Rs (au v.aT) (aM O.aH 11) ?_;by_cases W:140737488355328<v.aT
 ·refine Rp aG (fun _=>nA W)<|aY aG<|bT<|aN<|ay<|av (.nilFunc)<|av (au 6)<|aD<|Wr<|sR<|aJ (.tuple #[.nilFunc,au 6]) ?_;have k:jr m v=6:=by unfold jr; rw[z]; exact d_ (.inr (by omega))
  exact⟨⟨.nilFunc,0,#[],by rw[k],rfl,fun u=>N_ (k.symm.trans u) (by first|decide|omega|assumption)⟩,E⟩
 refine Rp aF (fun _=>nC W)<|aY aF<|bT<|aK<|Wk<|sN<|Ws<|ay<|Lv (pt j) (aM N.aH 0 (ha:=R))<|Lv (aC (nU v)) (aM ac.aH 0 (ha:=q5))<|Lv (pf b 9) (jo S 9)<|Lv (aC v.node) (aM O.aH 9)<|dX (afK m j B _ (h.up E) (nU v) v.node aa) _ rfl ?_;intro w4 s;have⟨ae,af,ag,m20,I⟩:=nE s N O ac ad E;refine av (au (m.T.err (nU v) v.node))<|aD<|ay<|av (au (m.T.err (nU v) v.node)) ?_;by_cases F:(m.T.err (nU v) v.node)=0
 ·refine Lv aF (jR F)<|aD<|aK<|Wk<|sN<|ay<|Lv (.func (.func 216) #[] #[(pt n),(pt d),(pt b),(pt f)]) (Fx.mG (us := []) (vs := [(pt n),(pt d),(pt b),(pt f)]) rfl rfl (Fx.S9 R q5 S q6))<|av (.func (.func 216) #[] #[(pt n),(pt d),(pt b),(pt f)])<|av (au 0)<|aD<|Wr<|aJ (.tuple #[.func (.func 216) #[] #[(pt n),(pt d),(pt b),(pt f)],au 0]) ?_;have k:jr m v=0:=by unfold jr; rw[z,b_ (by omega)]; exact F
  exact⟨⟨_,216,#[(pt n),(pt d),(pt b),(pt f)],by rw[k],rfl,fun _=>⟨rfl,⟨_,_,Tryz.func216,rfl,rfl⟩,fun w2 s=>(WZ m j B w2 ((h.up I).up s) v L F a J z (ab a J) aa _ _ _ _ (ae.cu (Sb s) (u_ ae.lt)) (ag.cu (Sb s) (u_ ag.lt)) (af.cu (Sb s) (u_ af.lt)) (m20.cu (Sb s) (u_ m20.lt))).mono fun _ _ K=>⟨K.1,K.2.1,K.2.2.mono fun _ hk => .inl hk⟩⟩⟩,I⟩
 refine Lv aG (kY F)<|aD<|aN<|ay<|av (au (m.T.err (nU v) v.node))<|av (.nilFunc)<|av (au (m.T.err (nU v) v.node))<|aD<|Wr<|sR<|aJ (.tuple #[.nilFunc,au (m.T.err (nU v) v.node)]) ?_;have k:jr m v=m.T.err (nU v) v.node:=by unfold jr; rw[z,b_ (by omega)]
 exact⟨⟨.nilFunc,0,#[],by rw[k],rfl,fun u=>N_ (k.symm.trans u) (by first|decide|omega|assumption)⟩,I⟩
end Go.Proofs.YtcbedgfikejkoaaGreatDoor
namespace Go.Proofs.YtcbedgfikejkoaaGreatDoor
open Go.RowKit Go
namespace Rt
section
variable {x p:Nat->Int} {n d e:Nat} {k v:Int}
theorem Kh : ∀ {d:Nat} {v:Int},jG x p n d v -> ∀ k,k∈jK x p n d v->(jK x p n d k).length<=(jK x p n d v).length
 | 0,v,h,k,hk=>by cases hk
 | d+1,v,h,k,hk=>by
   cases hv:eB x n v with
   | false=>rw[kZ hv]at hk; cases hk
   | true =>
     have e:jK x p n (d+1) v=v::jK x p n d (iN x p n v):=(by show(if _ then _ else _)=_; rw[d_ hv]);have a:jG x p n d (iN x p n v):=h hv;rw[e]at hk
     rcases List.mem_cons.1 hk with rfl|hk
     ·exact A_ _
     ·have b:=Kh a k hk;have c:jG x p n d k:=by
       refine BR (d:=d) ?_ (m_ b zJ);exact Gp a k hk
      have f:=(Jz c (Nat.le_succ d)).1;rw[f,e,List.length_cons]; omega
where Gp : ∀ {d:Nat} {v:Int},jG x p n d v -> ∀ k,k∈jK x p n d v->jG x p n d k
 | 0,v,h,k,hk=>by cases hk
 | d+1,v,h,k,hk=>by
   cases hv:eB x n v with
   | false=>rw[kZ hv]at hk; cases hk
   | true =>
     have e:jK x p n (d+1) v=v::jK x p n d (iN x p n v):=(by show(if _ then _ else _)=_; rw[d_ hv]);have hs:jG x p n d (iN x p n v):=h hv;rw[e]at hk
     rcases List.mem_cons.1 hk with rfl|hk
     ·exact h
     ·exact(Jz (Gp hs k hk) (Nat.le_succ d)).2
theorem IY : ∀ {d:Nat} {v:Int},jG x p n d v->(jK x p n d v).Nodup
 | 0,v,h=>List.nodup_nil
 | d+1,v,h=>by
   cases hv:eB x n v with
   | false=>rw[kZ hv]; exact List.nodup_nil
   | true =>
     have e:jK x p n (d+1) v=v::jK x p n d (iN x p n v):=(by show(if _ then _ else _)=_; rw[d_ hv]);have a:jG x p n d (iN x p n v):=h hv;rw[e,List.nodup_cons];refine⟨fun c => ?_,IY a⟩;have f:=Kh a v c;have b:=(Jz (Kh.Gp a v c) (Nat.le_succ d)).1;rw[e]at b;rw[<- b,List.length_cons]at f;omega
end
section
variable {T:dO} {l:List Int} {k:Int}
theorem dO.Bt(h:T.ok)(k:Int):(T.path k).Nodup:=IY (h.stop k)
theorem dO.lN(h:T.ok)(e:l=T.path k) : ∀ v,v∈l->T.has v=true:=fun v c=>by
 obtain⟨i,a,b⟩:=List.getElem_of_mem c;have:=dO.Ol h e a;rw[r_,o_ a]at this;rw[<- b]; exact this
theorem Dy(h:l.Nodup){i j:Nat}(hi:i<l.length)(a:j<l.length)(e:l.getD i 0=l.getD j 0):i=j:=by
 rw[r_,r_,o_ hi,o_ a]at e;exact(List.getElem_inj h).1 e
end
def jU(f:(Nat->Int)->(Nat->Int) × Int)(r:Nat->Nat->Int):Nat->Int
 | 0=>0
 | i+1=>if jU f r i=0 then(f (r i)).2 else jU f r i
section
variable {f:(Nat->Int)->(Nat->Int) × Int} {r:Nat->Nat->Int} {i n:Nat}
theorem Dz(h:jU f r i=0)(a:(f (r i)).2=0):jU f r (i+1)=0:=by unfold jU; rw[d_ h,a]
theorem Bu(h:jU f r i=0)(a : ¬ (f (r i)).2=0) : ∀ n,i<n->jU f r n=(f (r i)).2
 | 0,hn=>N_ hn (z_ _)
 | n+1,hn=>by
   unfold jU;by_cases e:i=n
   ·subst e; rw[d_ h]
   ·rw[Bu h a n (by omega),b_ a]
theorem Gq : ∀ {n:Nat},jU f r n=0 -> ∀ i,i<n->(f (r i)).2=0
 | 0,_,i,hi=>N_ hi (z_ _)
 | n+1,h,i,hi=>by
   unfold jU at h;by_cases a:jU f r n=0
   ·rw[d_ a]at h;by_cases e:i=n
    ·rw[e]; exact h
    ·exact Gq a i (by omega)
   ·rw[b_ a]at h; exact N_ h a
end
def Ec(m:dP)(k:Int):Nat->Int:=m.R (m.idx k)
def dI(m:dP)(f:(Nat->Int)->(Nat->Int) × Int)(l:List Int):Int:=jU f (fun i=>Ec m (l.getD i 0)) l.length
open Classical in
noncomputable def qj(m:dP)(f:(Nat->Int)->(Nat->Int) × Int)(l:List Int):dP := { m with R:=fun i=>if m.T.x i∈l then(f (m.R i)).1 else m.R i }
def Ed(l:List Int)(S:Nat->Bool)(v:Int):Nat->Bool
 | 0=>false
 | n+1=>Ed l S v n || (S n&&decide (l.getD n 0=v))
theorem sS{l:List Int}{S:Nat->Bool}{v:Int} : ∀ {n:Nat},Ed l S v n=true <-> ∃ q,q<n/\S q=true/\l.getD q 0=v
 | 0=>⟨fun h=>(nomatch h),fun⟨q,h,_⟩=>N_ h (z_ _)⟩
 | n+1=>by
   unfold Ed;rw[Bool.or_eq_true,sS,T_,Q_];constructor
   ·rintro (⟨q,c,a,b⟩|⟨c,a⟩)
    ·exact⟨q,by omega,a,b⟩
    ·exact⟨n,by omega,c,a⟩
   ·rintro ⟨q,c,a,b⟩;by_cases e:q=n
    ·subst e; exact .inr ⟨a,b⟩
    ·exact .inl ⟨q,by omega,a,b⟩
def zo(m:dP)(f:(Nat->Int)->(Nat->Int) × Int)(l:List Int)(S:Nat->Bool):Nat->Nat->Int:=fun i=>if Ed l S (m.T.x i) l.length=true then(f (m.R i)).1 else m.R i
theorem Ou(m:dP)(f:(Nat->Int)->(Nat->Int) × Int)(l:List Int):zo m f l (fun _=>false)=m.R:=by
 funext i
 unfold zo;rw[b_];rw[sS];rintro ⟨q,_,h,_⟩; cases h
theorem R3{m:dP}(o:m.T.ok){f:(Nat->Int)->(Nat->Int) × Int}{l:List Int}{S:Nat->Bool}{q j:Nat}(t:q<l.length)(s:j<m.T.n)(g:m.T.x j=l.getD q 0) : ∀ i,i<m.T.n->Fx.aO (zo m f l S) j (f (m.R j)).1 i=zo m f l (Fx.aO S q true) i:=fun i p=>by
 unfold Fx.aO;by_cases e:i=j
 ·subst e;rw[d_ rfl];unfold zo;rw[d_];rw[sS];exact⟨q,t,by show(if q=q then true else S q)=true; rw[d_ rfl],g.symm⟩
 ·rw[b_ e];unfold zo;have:Ed l S (m.T.x i) l.length=true<->Ed l (fun i=>if i=q then true else S i) (m.T.x i) l.length=true:=by
   rw[sS,sS];constructor
   ·rintro ⟨r,d,a,b⟩;exact⟨r,d,by show(if r=q then true else S r)=true; split <;> first|rfl|exact a,b⟩
   ·rintro ⟨r,d,a,b⟩;by_cases k:r=q
    ·subst k;exact N_ (o.inj i j p s (by rw[g,<- b])) e
    ·exact⟨r,d,by have a:(if r=q then true else S r)=true:=a; rw[b_ k]at a; exact a,b⟩
  by_cases c:Ed l S (m.T.x i) l.length=true
  ·rw[d_ c,d_ (this.1 c)]
  ·rw[b_ c,b_ (fun h=>c (this.2 h))]
theorem W9{m:dP}{f:(Nat->Int)->(Nat->Int) × Int}{l:List Int}{S:Nat->Bool}(h : ∀ q,q<l.length->S q=true):zo m f l S=(qj m f l).R:=by
 funext i
 show _=if m.T.x i∈l then(f (m.R i)).1 else m.R i;unfold zo;have:Ed l S (m.T.x i) l.length=true<->m.T.x i∈l:=by
  rw[sS];constructor
  ·rintro ⟨q,b,_,d⟩;rw[<- d,r_,o_ b]; exact R_ b
  ·intro g;obtain⟨q,a,e⟩:=List.getElem_of_mem g;exact⟨q,a,h q a,by rw[r_,o_ a]; exact e⟩
 by_cases c:m.T.x i∈l
 ·rw[d_ (this.2 c),d_ c]
 rw[b_ (fun h=>c (this.1 h)),b_ c]
def tV(m:dP)(f:(Nat->Int)->(Nat->Int) × Int)(l:List Int):Nat->Value:=fun q => .agg (Fx.aA 54 (Fx.rv .i64 (f (Ec m (l.getD q 0))).1))
theorem IZ{m:dP}{f:(Nat->Int)->(Nat->Int) × Int}{l:List Int}{w:World}{b i:Nat}{r:Nat->Int}(h:Fx.Mp w b (i+1) (Fx.aO (fun q=>l.getD q 0) i (l.getD i 0)) (Fx.aO (tV m f l) i (.agg (Fx.aA 54 (Fx.rv .i64 r)))))(e:r=(f (Ec m (l.getD i 0))).1):Fx.Mp w b (i+1) (fun q=>l.getD q 0) (tV m f l):=h.vQ fun q a=>by
 unfold Fx.aO;by_cases c:q=i
 ·subst c; rw[d_ rfl,d_ rfl,e]; exact⟨rfl,rfl⟩
 ·rw[b_ c,b_ c]; exact⟨rfl,rfl⟩
end Rt
end Go.Proofs.YtcbedgfikejkoaaGreatDoor
namespace Go.Proofs.YtcbedgfikejkoaaGreatDoor
open Go.RowKit Rt
open Fx (Lv sN Ln Ws Wl Wr Sb Wk sR Rs Rn Wb Wx Wo DW Ac fP uS rv aA aQ aO Stp aL Mp aS iI iT jI unseen dK bL bU cZ dh gZ iH qm fQ)
theorem Xa(x:Nat->Int)(v:EvM)(a:Nat)(w:World)(E:1<=v.o/\v.o<=6)(b:aQ w a 14 (bI v) 37) :
 Calls Tryz.prog 220 #[.agg (aA 54 (rv .i64 x)),(pt a)] w fun e w'=>e = .returned (.tuple #[.agg (aA 54 (rv .i64 (bF x v.o v.aT).1)),au (bF x v.o v.aT).2])/\Below w.heap.size w w':=by
 have H:=b.lt;refine Kent Tryz.func220 13 ?_;refine ay<|pO fun D P i c A S => ?_;have⟨k,g⟩:=fC A.old b (Below.refl w.heap.size w);have F:=gN i;have K:=cO i b.lt;have N:=c.lt;refine nS 54 (rv .i64 (fun _=>0)) fun q Q j l B T => ?_;have⟨d,m,n⟩:=iY B.old k c g;have G:=iK j g.size;have⟨L,M⟩:=rD j k.lt c.lt;have O:=l.lt;refine av (au 0)<|aD<|ay<|Lv (.agg (aA 54 (rv .i64 x))) (fM m.aH 0)<|av (pt a)<|Lv (au v.o) (aM d.aH 0)<|av (pf a 11)<|Lv (au v.aT) (aM d.aH 11)<|dX (afj (x) v.o v.aT _ (by omega)) _ rfl ?_;intro R r;have⟨t,u,y,h⟩:=jW r d m l n;refine av (.agg (aA 54 (rv .i64 ((bF (x) v.o v.aT).1))))<|av (au ((bF (x) v.o v.aT).2))<|dM y 0 fun C z f U => ?_;have s:aQ C q 54 (rv .i64 ((bF (x) v.o v.aT).1)) 82:=aL z;have I:=t.cu f (by omega);have J:=u.cu f (by omega);have p:=f.below h h.size (by omega);refine av (au ((bF (x) v.o v.aT).2)) (aD (Wr (⟨.tuple #[.agg (aA 54 (rv .i64 ((bF (x) v.o v.aT).1))),au ((bF (x) v.o v.aT).2)],fQ Tryz.results220 ⟨_,rfl,aS s.aH (by kernel_rfl) (by kernel_rfl)⟩ (by exact rfl),?_⟩)));exact⟨rfl,p⟩
theorem Xb(x:Nat->Int)(v:EvM)(g:Nat->Int)(b c:Nat)(w:World)(K:1<=v.o/\v.o<=6)(d:aQ w b 14 (bI v) 37)(f:aQ w c 5 (jf g) 106) :
 Calls Tryz.prog 223 #[.agg (aA 54 (rv .i64 x)),(pt b),(pt c)] w fun e w'=>e = .returned (.tuple #[.agg (aA 54 (rv .i64 (bH x v.o (g 3)).1)),au (bH x v.o (g 3)).2])/\Below w.heap.size w w':=by
 have N:=d.lt;have O:=f.lt;refine Kent Tryz.func223 14 ?_;refine ay<|pO fun J Z k h G z1 => ?_;have⟨m,n,i⟩:=iY G.old d f (Below.refl w.heap.size w);have L:=gN k;have⟨S,T⟩:=rD k d.lt f.lt;have X:=h.lt;refine nS 54 (rv .i64 (fun _=>0)) fun y w2 l p H z2 => ?_;have⟨q,r,s,t⟩:=jW H.old m n h i;have M:=iK l i.size;have⟨U,V,W⟩:=AZ l m.lt n.lt h.lt;have Y:=p.lt;refine av (au 0)<|aD<|ay<|Lv (.agg (aA 54 (rv .i64 x))) (fM s.aH 0)<|av (pt b)<|Lv (au v.o) (aM q.aH 0)<|av (pf c 3)<|Lv (au (g 3)) (aM r.aH 3)<|dX (afk (x) v.o (g 3) _ (by omega)) _ rfl ?_;intro w3 z;have⟨E,F,A,B,j⟩:=nE z q r s p t;refine av (.agg (aA 54 (rv .i64 ((bH (x) v.o (g 3)).1))))<|av (au ((bH (x) v.o (g 3)).2))<|dM B 0 fun I C a z3 => ?_;have D:aQ I y 54 (rv .i64 ((bH (x) v.o (g 3)).1)) 82:=aL C;have P:=E.cu a (by omega);have Q:=F.cu a (by omega);have R:=A.cu a (by omega);have u:=a.below j j.size (by omega);refine av (au ((bH (x) v.o (g 3)).2)) (aD (Wr (⟨.tuple #[.agg (aA 54 (rv .i64 ((bH (x) v.o (g 3)).1))),au ((bH (x) v.o (g 3)).2)],fQ Tryz.results223 ⟨_,rfl,aS D.aH (by kernel_rfl) (by kernel_rfl)⟩ (by exact rfl),?_⟩)));exact⟨rfl,u⟩
theorem Mh(m:dP)(j B:Nat)(w:World)(h:lS w B j m)(o:(Nat->Int)->(Nat->Int) × Int)(l:List Int)(s:Nat)(hgM:m.rb≠s/\m.mb≠s/\m.pb≠s/\m.gb≠s/\m.ab≠s)(hlh : ∀ k,k∈l->m.T.has k=true)(I:Mp w s l.length (fun q=>l.getD q 0) (tV m o l))(z:Nat)(A:Nat)(H:aQ w z 1 (fun _ => .map (some s)) 109)(Z:aQ w A 1 (fun _=>(pt j)) 28) :
 Calls Tryz.prog 232 #[(pt z),(pt A)] w fun e w'=>e = .returned (.tuple #[])/\lS w' B j (qj m o l)/\jI (Gg m j) w w':=by
 have hC:=h.c;have hT:=h.t;have hP:=h.p;have hR:=h.r;have hG:=h.g;have hA:=h.a;have b:=h.ne;have lC:=h.c.lt;have lT:=h.t.lt;have lP:=h.p.lt;have lR:=h.r.lt;have lG:=h.g.lt;have lA:=h.a.lt;have lg8:=H.lt;have lgl:=Z.lt;have lF:=I.lt;obtain⟨hg1,hg2,hg3,hg4,hg5⟩:=hgM;refine Kent Tryz.func232 17 ?_;refine ay<|Lv (.map (some s)) (aM H.aH 0)<|Fx.L.range (by rfl) rfl rfl rfl I Tryz.underlying109 fun F w1 ku m1 s1 z1 => ?_;have⟨m2,m3,m4,m5,m6,m7,m8,m9,m10⟩:=CO s1.old hC hT hP hR hG hA I H Z;have b1:=(uS (Gg m j) w).then s1 (.inr (uS (Gg m j) w).size);have tC:w.heap.size<=F:=by rw[ku]; exact(uS (Gg m j) w).size
 have uK:=m1.lt;refine aD<|Wb ?_;have m11:Mp w1 m.rb m.T.n m.T.x (xQ (zo m o l (fun _=>false))):=by rw[Ou]; exact m5
 refine DW (fun kE f v => ∃ S:Nat->Bool,∃ K:Nat,K=unseen S l.length/\K=kE/\f 0=(pt z)/\f 1=(pt A)/\f 5=(pt F)/\aQ v j 29 (wD m) 114/\tH v B m.tp m.mb m.T/\Mp v m.pb m.T.n m.T.x (EB m.T)/\iI v m.gb m.gn (fun i=>m.g i 0) (fun i=>m.g i 1) (vg m.g)/\iI v m.ab m.an m.ao m.ar EC/\Mp v s l.length (fun q=>l.getD q 0) (tV m o l)/\aQ v z 1 (fun _ => .map (some s)) 109/\aQ v A 1 (fun _=>(pt j)) 28/\Mp v m.rb m.T.n m.T.x (xQ (zo m o l S))/\Fx.It v F s l.length S/\jI (Gg m j) w v) (unseen (fun _=>false) l.length) ⟨(fun _=>false),(unseen (fun _=>false) l.length),rfl,rfl,(by rfl),(by rfl),(by rfl),m2,m3,m4,m6,m7,m8,m9,m10,m11,m1,b1⟩ ?_;rintro kE f1 w2 ⟨S,K,hkk,hkE,W,X,G,m12,m13,m14,m15,m16,m17,m18,m19,m20,M,Q⟩;refine ay<|Fx.L.next (by rfl) rfl rfl G m17 M (fun tF => ?_)<|fun d w3 C hS1 m22 mc1 s2 z2 => ?_
 ·skip
  refine av aF (aD (Ws (aK (Wx (cZ (gZ (dh (⟨.tuple #[],iT Tryz.results232,?_⟩))))))));have m23:Mp w2 m.rb m.T.n m.T.x (xQ (qj m o l).R):=by rw[<- W9 tF]; exact m20
  exact⟨rfl,{ c:=m12,t:=m13,p:=m14,r:=m23,g:=m15,a:=m16,ne:=⟨b.mp,b.mr,b.mg,b.ma,b.pr,b.pg,b.pa,b.rg,b.ra,b.ga⟩,lB:=h.lB,pB:=h.pB,rB:=h.rB,gB:=h.gB,aB:=h.aB },Q⟩
 skip
 have y:=M.CP s2;have m24:=m12.eH y;have nW:=m13.eH y (by omega);have oN:=m14.eH y (by omega);have pU:=m15.eH y (by omega);have pV:=m16.eH y (by omega);have N:=m17.eH y (M.rb.symm);have ou:=m18.eH y;have lu:=m19.eH y;have m32:=m20.eH y (by omega);have D:=Q.then s2 (.inr tC);refine av aG<|aD<|Ws<|aN<|Wk<|sN<|Wb<|ay<|Lv (.tuple #[aC (l.getD d 0),.agg (aA 54 (rv .i64 ((o (Ec m (l.getD d 0))).1)))]) (Fx.O7 (key:=fun q=>l.getD q 0) (val:=tV m o l) (i:=d) rfl G N mc1 C)<|av (aC (l.getD d 0))<|av (.agg (aA 54 (rv .i64 ((o (Ec m (l.getD d 0))).1))))<|nS 54 (rv .i64 (fun _=>0)) fun g2 w4 V O s3 z3 => ?_;have⟨nL,oO,nT,qV,qB,pE,sJ,mK,ni,mR,qw⟩:=Fz s3.old m24 nW oN pU pV N ou lu m32 mc1 m22;have b4:=D.then s3 (.inr D.size);have qX:=iK V D.size;have⟨aqt,aqu,aqv,aqw,aqx,aqy,aqz,aqA⟩:=YF V m24.lt oN.lt pU.lt pV.lt N.lt ou.lt lu.lt m32.lt;have zM:=O.lt;refine av (aC (l.getD d 0))<|dM O 0 fun P qW s4 z4 => ?_;have ow:aQ P g2 54 (rv .i64 ((o (Ec m (l.getD d 0))).1)) 82:=aL qW;have gF:=fP s4 O.ty;have⟨sK,vE,sM,rQ,uM,uw,ug,uW,xk,uh,rR⟩:=abt gF nL oO nT qV qB pE sJ mK ni mR qw;have U:=b4.then s4 (.inr qX);refine aD ?_;obtain⟨jz,J,E⟩:=ig (hlh _ (vS C rfl));have ejx:Ec m (l.getD d 0)=m.R jz:=by unfold Ec dP.idx; rw[nu h.t.inv.inj J E]
 refine jY [4,0,1,2,3,5,6] [4,0,0,4,0,4,3] [(6,0,[0]),(6,3,[3]),(6,5,[5])] fun qU Y iC => ?_;have s5:Stp P.heap.size P qU:=Sb Y;have⟨sw,vU,rE,uj,nY,uy,m64,xq,wI,vF,yt,sO⟩:=O4 Y sK vE sM rQ uM uw ug uW xk uh rR ow;have b6:=U.then s5 (.inr U.size);refine aY (aC (l.getD d 0))<|Rs (pt j) (aM xq.aH 0 (ha:=X)) ?_;refine aY (pt j)<|aY (pf j 20)<|Rs (.map (some m.rb)) (aM sw.aH 20) ?_;refine Rs (.agg (aA 54 (rv .i64 ((o (Ec m (l.getD d 0))).1)))) (fM sO.aH 0) ?_;refine gQ<|Fx.L.adh (by rfl) rfl rfl rfl rfl rfl wI Tryz.underlying109 Tryz.underlying23 J E fun w6 vG s6 z5 => ?_;have u:=wI.CP s6;have uN:=sw.eH u;have vH:=vU.eH u (b.mr);have vI:=rE.eH u (b.pr);have yL:=uj.eH u (Ne.symm b.rg);have wJ:=nY.eH u (Ne.symm b.ra);have yV:=uy.eH u (by omega);have yX:=m64.eH u;have yM:=xq.eH u;have wK:=vF.eH u (by omega) (by omega);have vV:=yt.eH u (by omega) (by omega);have vJ:=sO.eH u;have b7:=b6.then s6 (.inl (.inr (.inr (.inr (.inl rfl)))));have yu:Mp w6 m.rb m.T.n m.T.x (xQ (zo m o l (aO S d true))):=by have q9:=E8 _ _ _ _ vG; rw[ejx]at q9; exact q9.vQ fun i hi=>⟨rfl,by unfold xQ; rw[R3 h.t.inv C J E i hi]⟩
 refine Ln (Rn (bU (iH ⟨unseen (aO S d true) l.length,(by have W:=Fx.pQ hS1 l.length C; omega),(aO S d true),(unseen (aO S d true) l.length),rfl,rfl,W,X,G,uN,vH,vI,yL,wJ,yV,yX,yM,yu,vV,b7⟩ (by decide))))
theorem Xc(m:dP)(j B:Nat)(w:World)(h:lS w B j m)(C:Int)(v:EvM)(ho:1<=v.o/\v.o<=6)(E:Nat)(u:aQ w E 14 (bI v) 37) :
 Calls Tryz.prog 219 #[(pt j),aC C,.func (.func 220) #[] #[(pt E)]] w fun e w'=>SK w B j m (qj m (fun x=>bF x v.o v.aT) (m.T.path C)) (dI m (fun x=>bF x v.o v.aT) (m.T.path C)) e w':=by
 have hC:=h.c;have hT:=h.t;have hP:=h.p;have hR:=h.r;have hG:=h.g;have hA:=h.a;have hN:=h.ne;have lC:=h.c.lt;have lT:=h.t.lt;have lP:=h.p.lt;have lR:=h.r.lt;have lG:=h.g.lt;have lA:=h.a.lt;have lge:=u.lt;refine Kent Tryz.func219 44 ?_;refine ay<|yD (pt j) fun A w1 ku Y s1 z1 => ?_;have⟨m2,m3,m4,m5,m6,m7,m8,b1⟩:=mO s1.old hC hT hP hR hG hA u (Below.refl w.heap.size w);have tC:=gN ku;have⟨nK,zm,yx,Co,AL,Ll⟩:=G9 ku hC.lt hP.lt hR.lt hG.lt hA.lt u.lt;have uK:=Y.lt;refine av (.nilFunc)<|av (au 0)<|aD<|ay<|Fx.L.KN (by rfl) rfl rfl fun d w2 uO m9 s2 z2 => ?_;have⟨m10,m11,m12,m13,m14,m15,m16,m17,b2⟩:=CO s2.old m2 m3 m4 m5 m6 m7 m8 Y b1;have qX:=iK uO b1.size;have⟨Gr,Gj,Br,Gl,CW,UO,UQ⟩:=Nv uO m2.lt m4.lt m5.lt m6.lt m7.lt m8.lt Y.lt;have zM:=m9.lt;refine nS 1 (fun _ => .map none) fun y w3 um Z s3 z3 => ?_;have⟨m19,m20,m21,m22,m23,m24,nW,oN,pU,b3⟩:=vO s3.old m10 m11 m12 m13 m14 m15 m16 m17 m9 b2;have BF:=iK um b2.size;have⟨afO,Xd,afP,Xe,Xf,Oi,afQ,Ke⟩:=YF um m10.lt m12.lt m13.lt m14.lt m15.lt m16.lt m17.lt m9.lt;have GZ:=Z.lt;refine ji Z 0 (.map (some d)) fun O pV s4 z4 => ?_;have nX:aQ O y 1 (fun _ => .map (some d)) 109:=dK pV;have gF:=fP s4 Z.ty;have⟨ou,lu,m32,oQ,nL,oO,nT,qV,qB⟩:=adg gF m19 m20 m21 m22 m23 m24 nW oN pU;have b4:=s4.below b3 b3.size (by omega);refine aD<|Ws<|ay<|Lv (pt j) (aM qV.aH 0)<|av (pt j)<|av (pf j 18)<|Lv (pt m.tp) (aM ou.aH 18)<|av (aC C)<|kF (JH C lu) ?_;rintro e9 w5 ⟨pa1,D,u,pE,hb1⟩;refine⟨_,u,?_⟩;clear u;have⟨sJ,mK,ni,mR,qw,qW,ow,sK,vE,sM,b5⟩:=Fz hb1 ou lu m32 oQ nL oO nT qV qB nX b4;obtain⟨l,H⟩ : ∃ q,q=dO.path m.T C:=⟨_,rfl⟩;rw[<- H]at pE ⊢;have hl4:l.length<=4:=by rw[H]; exact dO.zT
 refine av (au l.length)<|av (au 0)<|aD<|Wb ?_;have rQ:Mp w5 d 0 (fun q=>l.getD q 0) (tV m (fun x=>bF x v.o v.aT) l):=vE.vQ fun i hi=>N_ hi (z_ _);refine Wo (fun f k => ∃ i:Nat,i<=l.length/\jU (fun x=>bF x v.o v.aT) (fun i=>Ec m (l.getD i 0)) i=0/\f 2 = .func (.func 220) #[] #[(pt E)]/\f 3=(pt A)/\f 8=(pt y)/\f 19 = .slice pa1 (l.length) (D)/\f 20=au (l.length:Int)/\f 21=au (i:Int)/\aQ k j 29 (wD m) 114/\tH k B m.tp m.mb m.T/\Mp k m.pb m.T.n m.T.x (EB m.T)/\Mp k m.rb m.T.n m.T.x (xQ m.R)/\iI k m.gb m.gn (fun i=>m.g i 0) (fun i=>m.g i 1) (vg m.g)/\iI k m.ab m.an m.ao m.ar EC/\aQ k E 14 (bI v) 37/\aQ k A 1 (fun _=>(pt j)) 28/\aQ k y 1 (fun _ => .map (some d)) 109/\Fx.Own k O.heap.size 23 1 (.slice pa1 (l.length) (D)) l.length (yK l)/\Mp k d i (fun q=>l.getD q 0) (tV m (fun x=>bF x v.o v.aT) l)/\Below w.heap.size w k) (fun f _=>((l.length:Int)-intOf (f 21)).toNat) ⟨0,(by omega),rfl,(by rfl),(by rfl),(by rfl),(by rfl),Fx.ic,Fx.ic,sJ,mK,ni,mR,qw,qW,ow,sK,sM,pE,rQ,b5⟩ ?_;rintro f1 w6 ⟨i,hi,K,h1,U,V,h4,W,G,uM,uw,ug,uW,xk,uh,rR,N,aa,rE,ac,P⟩;refine ay ?_;by_cases c22:(i:Int)<(l.length:Int)
 ·refine Lv aG (iD c22 (hx:=G) (hy:=W))<|aD<|Ws<|aN<|Wk<|sN<|Ws<|Wb<|ay ?_;obtain⟨DZ,S⟩:=rE.addr (by omega);have nY:Fx.Own w6 O.heap.size 23 1 (bM DZ l.length D) l.length (yK l):=rE.fu (M_ (fun q=>Value.slice q l.length D) S);refine Lv (pf DZ i) (dB 1 (hx:=(h4.trans (M_ (fun q=>Value.slice q (l.length) (D)) S))) (hi:=G))<|Lv (aC (l.getD i 0)) (aM nY.aH i)<|av (aC (l.getD i 0))<|aD<|Ws ?_;obtain⟨b,hjz,ejz⟩:=ig (dO.lN h.t.inv H _ (vS (show i<l.length by omega) rfl));have J:Ec m (l.getD i 0)=m.R b:=by unfold Ec dP.idx; rw[nu h.t.inv.inj hjz ejz]
  refine Wl<|aU h1<|Lv (pt j) (aM N.aH 0 (ha:=U))<|av (pt j)<|av (pf j 20)<|Lv (.map (some m.rb)) (aM uM.aH 20)<|av (aC (l.getD i 0))<|Lv (.agg (aA 54 (rv .i64 (m.R b)))) (Fx.wW (z := .agg (aA 54 (rv .i64 (fun _=>0)))) rfl rfl rfl uW Tryz.underlying109 Tryz.underlying23 (by kernel_rfl) hjz ejz rfl)<|Ac (by rfl) (Fx.BM (args := [.agg (aA 54 (rv .i64 (m.R b)))]) rfl rfl rfl (all := #[.agg (aA 54 (rv .i64 (m.R b))),(pt E)]) rfl Tryz.func220 rfl rfl) rfl<|(Xa (m.R b) v E _ ho rR).mono ?_;rintro e w7 ⟨u,F⟩;refine⟨.tuple #[.agg (aA 54 (rv .i64 ((bF (m.R b) v.o v.aT).1))),au ((bF (m.R b) v.o v.aT).2)],by rw[u],?_⟩;clear u;have⟨uy,m64,xq,wI,vF,yt,sO,vG,uN,vH,vI,b7⟩:=O4 F uM uw ug uW xk uh rR N aa ac nY P;refine av (.tuple #[.agg (aA 54 (rv .i64 ((bF (m.R b) v.o v.aT).1))),au ((bF (m.R b) v.o v.aT).2)])<|av (.agg (aA 54 (rv .i64 ((bF (m.R b) v.o v.aT).1))))<|av (au ((bF (m.R b) v.o v.aT).2))<|nS 54 (rv .i64 (fun _=>0)) fun g4 w8 CU ad s7 z5 => ?_;have⟨wJ,yV,yX,yM,wK,vV,vJ,yu,zK,wL,Ai,b8⟩:=O4 s7.old uy m64 xq wI vF yt sO vG uN vH vI b7;have NT:=iK CU b7.size;have⟨afv,afw,afx,afy,aqC,aqD,afR,aqE,afS,afT⟩:=abu CU uy.lt xq.lt wI.lt vF.lt yt.lt sO.lt vG.lt uN.lt vH.lt vI.lt;have M9:=ad.lt;refine dM ad 0 fun w9 zL s8 z6 => ?_;have AB:aQ w9 g4 54 (rv .i64 ((bF (m.R b) v.o v.aT).1)) 82:=aL zL;have jT:=fP s8 ad.ty;have⟨yY,yZ,Aj,Er,C9,Cc,CF,Al,ES,Ev,ET⟩:=abt jT wJ yV yX yM wK vV vJ yu zK wL Ai;have Q:=s8.below b8 b8.size (by omega);refine av (au ((bF (m.R b) v.o v.aT).2))<|aD<|Ws<|ay<|av (au ((bF (m.R b) v.o v.aT).2)) ?_;by_cases I:((bF (m.R b) v.o v.aT).2)=0
  ·refine Lv aF (jR I)<|aD<|aK<|Wk<|sN ?_;have hnd:l.Nodup:=(by rw[H]; exact dO.Bt h.t.inv C);have hny : ∀ q,q<i->(fun q=>l.getD q 0) q≠l.getD i 0:=fun q hq e=>by have:=Dy hnd (show q<l.length by omega) (show i<l.length by omega) e; omega
   refine Wl<|Lv (.map (some d)) (aM ES.aH 0 (ha:=V))<|av (aC (l.getD i 0))<|Lv (.agg (aA 54 (rv .i64 ((bF (m.R b) v.o v.aT).1)))) (fM AB.aH 0)<|Fx.L.QU (by rfl) rfl rfl rfl rfl rfl Ev Tryz.underlying109 Tryz.underlying23 hny fun su FV s9 z7 => ?_;have s:=Ev.CP s9;have uX:=yY.eH s;have xI:=yZ.eH s (by omega);have uY:=Aj.eH s (by omega);have rH:=Er.eH s (by omega);have oU:=C9.eH s (by omega);have oF:=Cc.eH s (by omega);have qb:=CF.eH s;have oG:=Al.eH s;have oV:=ES.eH s;have rJ:=ET.eH s;have sF:=AB.eH s;have b10:=s9.below Q Q.size (by omega);have oZ:Mp su d (i+1) (fun q=>l.getD q 0) (tV m (fun x=>bF x v.o v.aT) l):=IZ FV (by rw[J]);refine Ln<|bU<|sN<|Wl<|Lv (au ((i:Int)+1)) (fH (hx:=G))<|av (au ((i:Int)+1))<|Ln ?_;have rM:Fx.Own su O.heap.size 23 1 (.slice pa1 (l.length) (D)) l.length (yK l):=rJ.fu (M_ (fun q=>Value.slice q l.length D) S.symm);refine iH ⟨i+1,(by omega),(Dz K (by rw[J]; exact I)),h1,U,V,h4,(W.trans Fx.ic),Fx.ic,uX,xI,uY,rH,oU,oF,qb,oG,oV,rM,oZ,b10⟩ ?_;show((l.length:Int)-intOf (au ((i:Int)+1))).toNat<_;simp only[G,intOf]; omega
  refine Lv aG (kY I)<|aD<|aN<|ay<|av (au ((bF (m.R b) v.o v.aT).2))<|av (.nilFunc)<|av (au ((bF (m.R b) v.o v.aT).2))<|aD<|Wr<|sR<|bL<|sR<|qm<|bL<|sR<|aJ (.tuple #[.nilFunc,au ((bF (m.R b) v.o v.aT).2)]) ?_;have M:dI m (fun x=>bF x v.o v.aT) l=(bF (m.R b) v.o v.aT).2:=by unfold dI; rw[Bu K (by rw[J]; exact I) _ (by omega),J]
  exact⟨⟨.nilFunc,0,#[],by rw[M],rfl,fun e0=>N_ (M.symm.trans e0) (by first|decide|omega|assumption)⟩,Q⟩
 refine Lv aF (iE c22 (hx:=G) (hy:=W))<|aD<|Ws<|aK<|Wx<|cZ<|gZ<|dh<|sN<|ay<|Lv (.func (.func 232) #[] #[(pt y),(pt A)]) (Fx.mG (us := []) (vs := [(pt y),(pt A)]) rfl rfl (Fx.args2 V U))<|av (.func (.func 232) #[] #[(pt y),(pt A)])<|av (au 0)<|aD<|Wr<|aJ (.tuple #[.func (.func 232) #[] #[(pt y),(pt A)],au 0]) ?_;have hil:i=l.length:=by omega
 rw[hil]at ac K;have hgm:m.rb≠d/\m.mb≠d/\m.pb≠d/\m.gb≠d/\m.ab≠d:=⟨by omega,by omega,by omega,by omega,by omega⟩;have M:dI m (fun x=>bF x v.o v.aT) l=0:=K;exact⟨⟨_,232,#[(pt y),(pt A)],by rw[M],rfl,fun _=>⟨rfl,⟨_,_,Tryz.func232,rfl,rfl⟩,fun w2 F=>(Mh m j B w2 ((h.up P).up F) (fun x=>bF x v.o v.aT) l d hgm (dO.lN h.t.inv H) (ac.up F) _ _ (aa.cu (Sb F) (u_ aa.lt)) (N.cu (Sb F) (u_ N.lt))).mono fun _ _ X=>⟨X.1,X.2.1,X.2.2.mono fun _ hk => .inl hk⟩⟩⟩,P⟩
theorem Xg(m:dP)(j B:Nat)(w:World)(h:lS w B j m)(C:Int)(v:EvM)(g:Nat->Int)(ho:1<=v.o/\v.o<=6)(E F:Nat)(u:aQ w E 14 (bI v) 37)(Z:aQ w F 5 (jf g) 106) :
 Calls Tryz.prog 219 #[(pt j),aC C,.func (.func 223) #[] #[(pt E),(pt F)]] w fun e w'=>SK w B j m (qj m (fun x=>bH x v.o (g 3)) (m.T.path C)) (dI m (fun x=>bH x v.o (g 3)) (m.T.path C)) e w':=by
 have hC:=h.c;have hT:=h.t;have hP:=h.p;have hR:=h.r;have hG:=h.g;have hA:=h.a;have hN:=h.ne;have lC:=h.c.lt;have lT:=h.t.lt;have lP:=h.p.lt;have lR:=h.r.lt;have lG:=h.g.lt;have lA:=h.a.lt;have lge:=u.lt;have lgg:=Z.lt;refine Kent Tryz.func219 44 ?_;refine ay<|yD (pt j) fun A w1 ku m1 s1 z1 => ?_;have⟨m2,m3,m4,m5,m6,m7,m8,m9,b1⟩:=CO s1.old hC hT hP hR hG hA u Z (Below.refl w.heap.size w);have tC:=gN ku;have⟨nK,zm,yx,Co,AL,Ll,aiw⟩:=Nv ku hC.lt hP.lt hR.lt hG.lt hA.lt u.lt Z.lt;have uK:=m1.lt;refine av (.nilFunc)<|av (au 0)<|aD<|ay<|Fx.L.KN (by rfl) rfl rfl fun d w2 uO m10 s2 z2 => ?_;have⟨m11,m12,m13,m14,m15,m16,m17,m18,m19,b2⟩:=vO s2.old m2 m3 m4 m5 m6 m7 m8 m9 m1 b1;have qX:=iK uO b1.size;have⟨Gi,Br,Gl,CW,UO,UQ,afL,aqF⟩:=YF uO m2.lt m4.lt m5.lt m6.lt m7.lt m8.lt m9.lt m1.lt;have zM:=m10.lt;refine nS 1 (fun _ => .map none) fun y w3 um m20 s3 z3 => ?_;have⟨m21,m22,m23,m24,nW,oN,pU,pV,nX,ou,b3⟩:=Fz s3.old m11 m12 m13 m14 m15 m16 m17 m18 m19 m10 b2;have BF:=iK um b2.size;have⟨Xd,Xe,Xf,Oi,afQ,Ke,Oj,WI,WJ⟩:=YG um m11.lt m13.lt m14.lt m15.lt m16.lt m17.lt m18.lt m19.lt m10.lt;have GZ:=m20.lt;refine ji m20 0 (.map (some d)) fun P lu s4 z4 => ?_;have m32:aQ P y 1 (fun _ => .map (some d)) 109:=dK lu;have gF:=fP s4 m20.ty;have⟨oQ,nL,oO,nT,qV,qB,pE,sJ,mK,ni⟩:=O5 gF m21 m22 m23 m24 nW oN pU pV nX ou;have b4:=s4.below b3 b3.size (by omega);refine aD<|Ws<|ay<|Lv (pt j) (aM mK.aH 0)<|av (pt j)<|av (pf j 18)<|Lv (pt m.tp) (aM oQ.aH 18)<|av (aC C)<|kF (JH C nL) ?_;rintro e9 w5 ⟨pa1,D,u,mR,hb1⟩;refine⟨_,u,?_⟩;clear u;have⟨qw,qW,ow,sK,vE,sM,rQ,uM,uw,ug,uW,b5⟩:=O4 hb1 oQ nL oO nT qV qB pE sJ mK ni m32 b4;obtain⟨l,I⟩ : ∃ q,q=dO.path m.T C:=⟨_,rfl⟩;rw[<- I]at mR ⊢;have hl4:l.length<=4:=by rw[I]; exact dO.zT
 refine av (au l.length)<|av (au 0)<|aD<|Wb ?_;have xk:Mp w5 d 0 (fun q=>l.getD q 0) (tV m (fun x=>bH x v.o (g 3)) l):=ug.vQ fun i hi=>N_ hi (z_ _);refine Wo (fun f k => ∃ i:Nat,i<=l.length/\jU (fun x=>bH x v.o (g 3)) (fun i=>Ec m (l.getD i 0)) i=0/\f 2 = .func (.func 223) #[] #[(pt E),(pt F)]/\f 3=(pt A)/\f 8=(pt y)/\f 19 = .slice pa1 (l.length) (D)/\f 20=au (l.length:Int)/\f 21=au (i:Int)/\aQ k j 29 (wD m) 114/\tH k B m.tp m.mb m.T/\Mp k m.pb m.T.n m.T.x (EB m.T)/\Mp k m.rb m.T.n m.T.x (xQ m.R)/\iI k m.gb m.gn (fun i=>m.g i 0) (fun i=>m.g i 1) (vg m.g)/\iI k m.ab m.an m.ao m.ar EC/\aQ k E 14 (bI v) 37/\aQ k F 5 (jf g) 106/\aQ k A 1 (fun _=>(pt j)) 28/\aQ k y 1 (fun _ => .map (some d)) 109/\Fx.Own k P.heap.size 23 1 (.slice pa1 (l.length) (D)) l.length (yK l)/\Mp k d i (fun q=>l.getD q 0) (tV m (fun x=>bH x v.o (g 3)) l)/\Below w.heap.size w k) (fun f _=>((l.length:Int)-intOf (f 21)).toNat) ⟨0,(by omega),rfl,(by rfl),(by rfl),(by rfl),(by rfl),Fx.ic,Fx.ic,qw,qW,ow,sK,vE,sM,rQ,uM,uw,uW,mR,xk,b5⟩ ?_;rintro f1 w6 ⟨i,hi,M,h1,V,W,h4,X,H,uh,rR,sw,vU,rE,uj,nY,uy,O,xq,wI,vF,Q⟩;refine ay ?_;by_cases c22:(i:Int)<(l.length:Int)
 ·refine Lv aG (iD c22 (hx:=H) (hy:=X))<|aD<|Ws<|aN<|Wk<|sN<|Ws<|Wb<|ay ?_;obtain⟨DZ,U⟩:=wI.addr (by omega);have yt:Fx.Own w6 P.heap.size 23 1 (bM DZ l.length D) l.length (yK l):=wI.fu (M_ (fun q=>Value.slice q l.length D) U);refine Lv (pf DZ i) (dB 1 (hx:=(h4.trans (M_ (fun q=>Value.slice q (l.length) (D)) U))) (hi:=H))<|Lv (aC (l.getD i 0)) (aM yt.aH i)<|av (aC (l.getD i 0))<|aD<|Ws ?_;obtain⟨b,hjz,ejz⟩:=ig (dO.lN h.t.inv I _ (vS (show i<l.length by omega) rfl));have K:Ec m (l.getD i 0)=m.R b:=by unfold Ec dP.idx; rw[nu h.t.inv.inj hjz ejz]
  refine Wl<|aU h1<|Lv (pt j) (aM O.aH 0 (ha:=V))<|av (pt j)<|av (pf j 20)<|Lv (.map (some m.rb)) (aM uh.aH 20)<|av (aC (l.getD i 0))<|Lv (.agg (aA 54 (rv .i64 (m.R b)))) (Fx.wW (z := .agg (aA 54 (rv .i64 (fun _=>0)))) rfl rfl rfl vU Tryz.underlying109 Tryz.underlying23 (by kernel_rfl) hjz ejz rfl)<|Ac (by rfl) (Fx.BM (args := [.agg (aA 54 (rv .i64 (m.R b)))]) rfl rfl rfl (all := #[.agg (aA 54 (rv .i64 (m.R b))),(pt E),(pt F)]) rfl Tryz.func223 rfl rfl) rfl<|(Xb (m.R b) v g E F _ ho nY uy).mono ?_;rintro e w7 ⟨u,G⟩;refine⟨.tuple #[.agg (aA 54 (rv .i64 ((bH (m.R b) v.o (g 3)).1))),au ((bH (m.R b) v.o (g 3)).2)],by rw[u],?_⟩;clear u;have⟨sO,vG,uN,vH,vI,yL,wJ,yV,yX,yM,wK,vV,b7⟩:=abr G uh rR sw vU rE uj nY uy O xq vF yt Q;refine av (.tuple #[.agg (aA 54 (rv .i64 ((bH (m.R b) v.o (g 3)).1))),au ((bH (m.R b) v.o (g 3)).2)])<|av (.agg (aA 54 (rv .i64 ((bH (m.R b) v.o (g 3)).1))))<|av (au ((bH (m.R b) v.o (g 3)).2))<|nS 54 (rv .i64 (fun _=>0)) fun g4 w8 CU vJ s7 z5 => ?_;have⟨yu,zK,wL,Ai,zL,AB,yY,yZ,Aj,Er,C9,Cc,b8⟩:=abr s7.old sO vG uN vH vI yL wJ yV yX yM wK vV b7;have NT:=iK CU b7.size;have⟨afR,afS,afT,aqG,aqH,aqI,aqJ,aqK,aqL,aqM,aqN⟩:=ahC CU sO.lt uN.lt vH.lt vI.lt yL.lt wJ.lt yV.lt yX.lt yM.lt wK.lt vV.lt;have M9:=vJ.lt;refine dM vJ 0 fun w9 CF s8 z6 => ?_;have Al:aQ w9 g4 54 (rv .i64 ((bH (m.R b) v.o (g 3)).1)) 82:=aL CF;have jT:=fP s8 vJ.ty;have⟨ES,Ev,ET,FV,uX,xI,uY,rH,oU,oF,qb,oG⟩:=ahB jT yu zK wL Ai zL AB yY yZ Aj Er C9 Cc;have S:=s8.below b8 b8.size (by omega);refine av (au ((bH (m.R b) v.o (g 3)).2))<|aD<|Ws<|ay<|av (au ((bH (m.R b) v.o (g 3)).2)) ?_;by_cases J:((bH (m.R b) v.o (g 3)).2)=0
  ·refine Lv aF (jR J)<|aD<|aK<|Wk<|sN ?_;have hnd:l.Nodup:=(by rw[I]; exact dO.Bt h.t.inv C);have hny : ∀ q,q<i->(fun q=>l.getD q 0) q≠l.getD i 0:=fun q hq e=>by have:=Dy hnd (show q<l.length by omega) (show i<l.length by omega) e; omega
   refine Wl<|Lv (.map (some d)) (aM oF.aH 0 (ha:=W))<|av (aC (l.getD i 0))<|Lv (.agg (aA 54 (rv .i64 ((bH (m.R b) v.o (g 3)).1)))) (fM Al.aH 0)<|Fx.L.QU (by rfl) rfl rfl rfl rfl rfl qb Tryz.underlying109 Tryz.underlying23 hny fun su oV s9 z7 => ?_;have s:=qb.CP s9;have rJ:=ES.eH s;have sF:=Ev.eH s (by omega);have oZ:=ET.eH s (by omega);have rM:=FV.eH s (by omega);have yE:=uX.eH s (by omega);have uD:=xI.eH s (by omega);have yF:=uY.eH s;have Bc:=rH.eH s;have wm:=oU.eH s;have tO:=oF.eH s;have qc:=oG.eH s;have xJ:=Al.eH s;have b10:=s9.below S S.size (by omega);have xK:Mp su d (i+1) (fun q=>l.getD q 0) (tV m (fun x=>bH x v.o (g 3)) l):=IZ oV (by rw[K]);refine Ln<|bU<|sN<|Wl<|Lv (au ((i:Int)+1)) (fH (hx:=H))<|av (au ((i:Int)+1))<|Ln ?_;have tQ:Fx.Own su P.heap.size 23 1 (.slice pa1 (l.length) (D)) l.length (yK l):=qc.fu (M_ (fun q=>Value.slice q l.length D) U.symm);refine iH ⟨i+1,(by omega),(Dz M (by rw[K]; exact J)),h1,V,W,h4,(X.trans Fx.ic),Fx.ic,rJ,sF,oZ,rM,yE,uD,yF,Bc,wm,tO,tQ,xK,b10⟩ ?_;show((l.length:Int)-intOf (au ((i:Int)+1))).toNat<_;simp only[H,intOf]; omega
  refine Lv aG (kY J)<|aD<|aN<|ay<|av (au ((bH (m.R b) v.o (g 3)).2))<|av (.nilFunc)<|av (au ((bH (m.R b) v.o (g 3)).2))<|aD<|Wr<|sR<|bL<|sR<|qm<|bL<|sR<|aJ (.tuple #[.nilFunc,au ((bH (m.R b) v.o (g 3)).2)]) ?_;have N:dI m (fun x=>bH x v.o (g 3)) l=(bH (m.R b) v.o (g 3)).2:=by unfold dI; rw[Bu M (by rw[K]; exact J) _ (by omega),K]
  exact⟨⟨.nilFunc,0,#[],by rw[N],rfl,fun e0=>N_ (N.symm.trans e0) (by first|decide|omega|assumption)⟩,S⟩
 refine Lv aF (iE c22 (hx:=H) (hy:=X))<|aD<|Ws<|aK<|Wx<|cZ<|gZ<|dh<|sN<|ay<|Lv (.func (.func 232) #[] #[(pt y),(pt A)]) (Fx.mG (us := []) (vs := [(pt y),(pt A)]) rfl rfl (Fx.args2 W V))<|av (.func (.func 232) #[] #[(pt y),(pt A)])<|av (au 0)<|aD<|Wr<|aJ (.tuple #[.func (.func 232) #[] #[(pt y),(pt A)],au 0]) ?_;have hil:i=l.length:=by omega
 rw[hil]at vF M;have hgm:m.rb≠d/\m.mb≠d/\m.pb≠d/\m.gb≠d/\m.ab≠d:=⟨by omega,by omega,by omega,by omega,by omega⟩;have N:dI m (fun x=>bH x v.o (g 3)) l=0:=M;exact⟨⟨_,232,#[(pt y),(pt A)],by rw[N],rfl,fun _=>⟨rfl,⟨_,_,Tryz.func232,rfl,rfl⟩,fun w2 G=>(Mh m j B w2 ((h.up Q).up G) (fun x=>bH x v.o (g 3)) l d hgm (dO.lN h.t.inv I) (vF.up G) _ _ (xq.cu (Sb G) (u_ xq.lt)) (O.cu (Sb G) (u_ O.lt))).mono fun _ _ Y=>⟨Y.1,Y.2.1,Y.2.2.mono fun _ hk => .inl hk⟩⟩⟩,Q⟩
end Go.Proofs.YtcbedgfikejkoaaGreatDoor
