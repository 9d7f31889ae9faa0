/-
  What the proof of the law rests on, part 8: walks of functions, and plain laws; each says its conditions itself.
-/
import Derived.Test.YtcbedgfikejkoaaGreatDoorRows
import Derived.LaidMore
import Derived.OpenShut
import Derived.ProofKit
import Derived.Stop.Joined
import Derived.Test.YtcbedgfikejkoaaGreatDoorZA7
set_option maxRecDepth 20000
set_option linter.unusedVariables false
set_option maxHeartbeats 1600000
set_option linter.unusedSimpArgs false
namespace Go.Proofs.YtcbedgfikejkoaaGreatDoor
open Go.RowKit Rt
open Fx (Ws ev)
section
namespace Rt
def Ab.gs(A:Ab)(y:Int):Int:=A.R y 0+A.R y 1+A.R y 2+A.R y 3+A.R y 4+A.R y 5
def GH(v:EvM)(y:Int):Int:=if v.kind=1/\qO v=y\/v.kind=2/\v.node=y then v.aQ else 0
def Zz(ev:Nat->EvM)(K:Nat->Int)(y:Int):Nat->Int
 | 0=>0
 | j+1=>Zz ev K y j+if vS K (ev j)=true then GH (ev j) y else 0
section
variable {A:Ab} {ev gv:Nat->EvM} {an n k i j:Nat} {K:Nat->Int} {L:eY} {v:EvM} {y x:Int} {m:dO} {N:Nat}
theorem Ab.aeP(l:Mv v):(A.qI v).gs y=A.gs y+GH v y:=by
 have o:=l.reg.2;have e : ∀ p,(A.qI v).R y p=A.R y p+A.dl v y p:=fun _=>rfl;unfold Ab.gs;rw[e,e,e,e,e,e];have s:A.dl v y 0+A.dl v y 1+A.dl v y 2+A.dl v y 3+A.dl v y 4+A.dl v y 5=GH v y:=by
  have n:(∀ p,p<6->A.dl v y p=0)->GH v y=0->A.dl v y 0+A.dl v y 1+A.dl v y 2+A.dl v y 3+A.dl v y 4+A.dl v y 5=GH v y:=fun h d=>by
   rw[d,h 0 (by decide),h 1 (by decide),h 2 (by decide),h 3 (by decide),h 4 (by decide),h 5 (by decide)]; rfl
  have k : ∀ {z:Int},(∀ p,A.dl v y p=if y=z/\p=aV v then v.aQ else 0)->GH v y=(if z=y then v.aQ else 0)->A.dl v y 0+A.dl v y 1+A.dl v y 2+A.dl v y 3+A.dl v y 4+A.dl v y 5=GH v y:=fun {z} h d=>by
   by_cases c:y=z
   ·rw[d,h,h,h,h,h,h,d_ c.symm]
    rcases(show aV v=0\/aV v=1\/aV v=2\/aV v=3\/aV v=4\/aV v=5 by omega)with q|q|q|q|q|q <;> rw[q] <;> simp[c]
   ·have a : ∀ p,A.dl v y p=0:=fun p=>by rw[h,b_ fun q=>c q.1]
    rw[d,a,a,a,a,a,a,b_ (show ¬ z=y from fun q=>c q.symm)]; rfl
  unfold Ab.dl at *;by_cases b:v.kind=1
  ·refine k (z:=qO v) (fun p=>by rw[d_ b]) ?_;unfold GH;by_cases c:qO v=y
   ·rw[d_ (.inl ⟨b,c⟩),d_ c]
   ·rw[b_ (fun q=>q.elim (fun q=>c q.2) (fun q=>by omega)),b_ c]
  by_cases f:v.kind=2
  ·refine k (z:=v.node) (fun p=>by rw[b_ b,d_ f]) ?_;unfold GH;by_cases c:v.node=y
   ·rw[d_ (.inr ⟨f,c⟩),d_ c]
   ·rw[b_ (fun q=>q.elim (fun q=>b q.1) (fun q=>c q.2)),b_ c]
  have m:GH v y=0:=b_ (fun q=>q.elim (fun q=>b q.1) (fun q=>f q.1));refine n (fun p r => ?_) m;rw[b_ b,b_ f];by_cases g:v.kind=3
  ·rw[d_ g,b_ (fun q=>by omega)]
  rw[b_ g];by_cases i:v.kind=4
  ·rw[d_ i,b_ (fun q=>by omega)]
  rw[b_ i];by_cases j:v.kind=5
  ·rw[d_ j,b_ (fun q=>by omega)]
  rw[b_ j]
 omega
theorem ZA(b : ∀ i,i<n->Mv (ev i)):(fQ ev K (WL k) n).gs y=Zz ev K y n:=by
 induction n with
 | zero=>rfl
 | succ n a =>
   have a:=a fun i c=>b i (by omega);show(if vS K (ev n)=true then(fQ ev K (WL k) n).qI (ev n)else fQ ev K (WL k) n).gs y=Zz ev K y n+_;split
   ·rw[Ab.aeP (b n (by omega)),a]
   ·rw[a,D_]
theorem Et.row(h:Et m L N)(hi:i<L.nn):aZ m (L.id i)=L.R i:=by
 unfold aZ;rw[d_ ((h.s.T.has _).2 ⟨i,hi,rfl⟩),h.s.row i hi]
theorem rF.gs(h:rF k ev an L)(W:Ws k ev an)(hi:i<L.nn):sD (L.R i)=Zz ev L.known (L.id i) an:=by
 obtain⟨m,N,a,c,b⟩:=h.ex;rw[<- ZA (k:=k) (K:=L.known) (y:=L.id i) W.g,<- b,<- a.row hi];rfl
theorem rF.small(h:rF k ev an L)(W:Ws k ev an){q:Nat}(d:q<L.gn):1<=L.g q 3/\L.g q 3<=65536:=by
 obtain⟨m,N,c,e⟩:=h.tw W;obtain⟨a,b⟩:=c.t.s.Zq d;have:=c.s.g _ _ a;rw[b 3 (by decide) (by decide)]at this;exact this
end
end Rt
end
end Go.Proofs.YtcbedgfikejkoaaGreatDoor
namespace Go.Proofs.YtcbedgfikejkoaaGreatDoor
open Go.RowKit Go
namespace Rt
def aeQ(i r:Int)(x:Nat->Int):Bool:=decide (x 0=i)&&(decide (x 1=r) || decide (x 4=r))
structure UqL(L:eY)(i:Int):Prop where
 a : ∀ q,q<L.gn -> ∀ r,r≠0->aeQ i r (L.g q)=true -> ∃ j,j<L.rn (i-1).toNat/\L.rq (i-1).toNat j=r
 u : ∀ r,r≠0 -> ∀ q p,q<L.gn->p<L.gn->aeQ i r (L.g q)=true->aeQ i r (L.g p)=true->q=p
section
variable {L:eY} {N:Nat} {v:EvM} {i:Int} {y z:xL}
theorem UqL.new(k:Nat):UqL (kH k 0).core i:=⟨fun _ h=>M_ h (z_ _),fun _ _ _ _ h=>M_ h (z_ _)⟩
attribute [local irreducible] dF cZ
end
end Rt
end Go.Proofs.YtcbedgfikejkoaaGreatDoor
namespace Go.Proofs.YtcbedgfikejkoaaGreatDoor
open Go.RowKit Rt
open Fx (bC dw eG Lv sN Ln Ws Qv Wl Rp Wr Sb Wk sR Rs Rd Wb Wx Wo Qn gP tZ zC rv aA aR bK ev cB Stp aS flat iN down iC mY bR bZ cu gL ig)
section
namespace Rt
def KO(L:eY):Prop := ∀ q,6<=q->L.known q=0
def G5(L:eY):Prop := ∀ q,q<L.gn -> ∀ p,5<=p->L.g q p=0
structure GK(L:eY):Prop where
 g:xJ L
 k:KO L
 r:G5 L
structure WG(M:WM):Prop where
 g : ∀ o,o<M.n->GK (M.ml o).core
section
variable {ev:Nat->EvM} {K:Nat->Int} {an k i c N N':Nat} {L L':eY} {v:EvM} {m:dO}
attribute [local irreducible] dF cZ in
theorem KO.apply(h:KO L):KO (bV L v):=by
 rcases lW L v with ⟨c,e⟩|⟨_,e⟩
 ·intro q a;have:=jU (Dj (iK c)).1;rw[e]; unfold aI; rw[b_ (by omega)]; exact h q a
 rw[e]; exact h
attribute [local irreducible] dF cZ in
theorem G5.apply(h:G5 L):G5 (bV L v):=by
 unfold bV;split
 ·show ∀ q,q<(gY L v).gn -> ∀ p,5<=p->(gY L v).g q p=0;unfold gY;split; · exact h
  split; · exact h
  split
  ·intro q a p b;have a:q<L.gn+1:=a;show cB L.g (down (fun i=>Df v (L.g i)) L.gn) (pJ v) q p=0;have c:down (fun i=>Df v (L.g i)) L.gn<=L.gn:=Fx.vZ _ _;generalize down (fun i=>Df v (L.g i)) L.gn=k at c ⊢
   rcases dU c a with rfl|⟨j,hj,ej,_,_⟩
   ·rw[dH]; unfold pJ; rw[b_ (by omega),b_ (by omega),b_ (by omega),b_ (by omega)]
   rw[ej]; exact h j hj p b
  split
  ·intro q a p b;have a:q<L.gn:=a;show aI L.g (yw L v) (aI (L.g (yw L v)) 4 v.req) q p=0;generalize yw L v=k;unfold aI;by_cases e:q=k
   ·rw[d_ e];show(if p=4 then v.req else L.g k p)=0;rw[b_ (by omega),<- e]; exact h q a p b
   rw[b_ e]; exact h q a p b
  split; · exact h
  split <;> exact h
 exact h
theorem KO.eq(h:KO L)(a:KO L')(e : ∀ q,q<6->L'.known q=L.known q):L'.known=L.known:=by
 funext q
 by_cases c:q<6
 ·exact e q c
 rw[h q (by omega),a q (by omega)]
theorem GK.apply(h:GK L)(a:gu v):GK (bV L v):=⟨FX h.g a,h.k.apply,h.r.apply⟩
theorem WT(k a:Nat):GK (kH k a).core:=⟨LK k a,fun _ _=>rfl,fun q h=>M_ h (z_ _)⟩
theorem Ew(a : ∀ j,j<an->gu (ev j))(h:GK L) : ∀ j,j<=an->GK (nM ev K L j)
 | 0,_=>h
 | j+1,hj=>by
   unfold nM;split
   ·exact(Ew a h j (by omega)).apply (a j (by omega))
   ·exact Ew a h j (by omega)
theorem Mc(a : ∀ j,j<an->gu (ev j)) : ∀ f L,GK L->GK (iB ev an K f L)
 | 0,L,h=>by unfold Rt.iB; exact h
 | f+1,L,h=>by
   unfold Rt.iB;split
   ·exact Ew a h an (A_ _)
   ·exact Mc a f _ (Ew a h an (A_ _))
theorem WG.new{M:WM}(h : ∀ i,(M.ml i).core=(kH M.n 0).core):WG M:=⟨fun o _=>by rw[h]; exact WT _ _⟩
theorem WG.do{w':World}{M d:WM}{B p T o:Nat}{x:DZ}(h:WG M)(l:oo w' B p d T)(i:o<M.n)(b:DoR o x M d v):WG d:=⟨fun q k=>by
 rw[b.n]at k
 rcases b.c with ⟨m,r,f,a⟩|⟨m,r,f,a,h5,h6,h7,h8⟩
 ·by_cases e:q=o
  ·rw[e]
   rcases a with a|⟨_,a⟩
   ·rw[a]; exact h.g o i
   ·rw[a]; exact Mc (fun j s=>by have:=l.wf j (by omega); rw[f]at this; exact this) _ _ (h.g o i)
  ·rw[b.oth q e]; exact h.g q k
 ·by_cases e:q=o
  ·rw[e,h5];exact(h.g o i).apply (by have:=l.wf M.an (by omega); rw[f,uG]at this; exact this)
  ·rw[b.oth q e]; exact h.g q k⟩
theorem PL{f g:Nat->Int}{o:Int} : ∀ {n:Nat},(∀ i,i<n->f i=g i)->mK f o n=mK g o n
 | 0,_=>rfl
 | n+1,h=>by unfold mK; rw[PL (n:=n) fun i a=>h i (by omega),h n (by omega)]
theorem rF.asks(h:rF k ev an L)(p:rF k ev an L')(W:Ws k ev an)(o : ∀ i,i<6->L'.known i=L.known i) : ∀(a:Nat) (r:Int),a<6->((∃ j,j<L'.rn a/\L'.rq a j=r) <-> ∃ j,j<L.rn a/\L.rq a j=r):=by
 obtain⟨m,N,d,t,f⟩:=h.ex;obtain⟨c,N',l,u,n⟩:=p.ex;have e:eH c=eH m:=by
  rw[f,n];exact JL o (fun i q=>(W.g i q).reg.2) an (A_ _)
 intro a r b;rw[<- d.s.ask a r b,<- l.s.ask a r b];have:gH c ((a:Int)+1) r=gH m ((a:Int)+1) r:=congrFun (congrFun (L_ Ab.ask e) _) r;rw[this]
theorem fP.to(h:fP m L)(b:Dx L L')(z:L'.known=L.known)(ha : ∀(a:Nat) (r:Int),a<6->((∃ j,j<L'.rn a/\L'.rq a j=r) <-> ∃ j,j<L.rn a/\L.rq a j=r))(r:G5 L)(A:G5 L'):fP m L':=by
 have o : ∀ {i},i<L'.nn->i<L.nn:=fun {i} q=>by rw[<- b.nn]; exact q
 have s : ∀ {i},i<L'.gn->i<L.gn:=fun {i} q=>by rw[<- b.gn]; exact q
 have t : ∀ q,q<L.gn->L'.g q=L.g q:=fun q l=>by
  funext p
  by_cases c:p<5
  ·exact b.g q l p c
  ·rw[r q l p (by omega),A q (by rw[b.gn]; exact l) p (by omega)]
 refine⟨⟨fun k=>(h.T.has k).trans ⟨fun⟨i,d,e⟩=>⟨i,by rw[b.nn]; exact d,by rw[(b.n i d).1]; exact e⟩,fun⟨i,d,e⟩=>⟨i,o d,by rw[<- (b.n i (o d)).1]; exact e⟩⟩,by rw[b.nn]; exact h.T.n,fun i d=>by rw[(b.n i (o d)).1,(b.n i (o d)).2.1]; exact h.T.par i (o d)⟩,
  by rw[b.inn]; exact h.inn,by rw[b.left]; exact h.left,by rw[z]; exact h.known,fun i d=>by rw[(b.n i (o d)).1,(b.n i (o d)).2.2]; exact h.row i (o d),fun a ha=>by rw[b.nn,PL (f:=L'.id) (g:=L.id) fun i d=>(b.n i d).1]; exact h.own a ha,
  h.gi,by rw[b.gn]; exact h.gn,fun q l=>by rw[t q (s l)]; exact h.g1 q (s l),fun j y => ?_,fun a r w=>(h.ask a r w).trans (ha a r w).symm,h.ga,fun p q x l u v => ?_⟩
 ·obtain⟨q,l,e⟩:=h.g2 j y;exact⟨q,by rw[b.gn]; exact l,by rw[t q l]; exact e⟩
 rw[t p (s x),t q (s l)]at u v;exact h.li p q (s x) (s l) u v
def ZB(c i n:Nat):Nat:=if c=n then n else i+1
theorem WU(h:c=i\/c=an)(hi:i<an):ZB c i an=i+1\/ZB c i an=an:=by unfold ZB; split <;> omega
theorem aeR(h:rF k ev an L)(W:Ws k ev an)(hi:i<an)(b:JX ev an K)(a : ∀ q,q<6->L.known q=vK K (fI ev c) q)(j:c=i\/c=an)(d:(ev i).seq<=K (aL (ev i))) : ∀ q,q<6->(bV L (ev i)).known q=vK K (fI ev (ZB c i an)) q:=by
 unfold ZB;by_cases e:c=an
 ·rw[d_ e];subst e;rw[(aeH W hi (fun q f=>(a q f).trans (aiG b q f)) d).2]; exact a
 rw[b_ e];have g:c=i:=by omega
 subst g;exact(h.nextK W hi b a d).2
theorem aeS(W:Ws k ev an)(hi:i<an)(a : ∀ q,q<6->L.known q=vK K (fI ev c) q)(f:c=i\/c=an)(d : ¬ (ev i).seq<=K (aL (ev i))) : ∀ q,q<6->L.known q=vK K (fI ev (ZB c i an)) q:=by
 unfold ZB;by_cases e:c=an
 ·rw[d_ e,<- e]; exact a
 rw[b_ e];have b:c=i:=by omega
 subst b;exact aiE W hi a d
end
end Rt
open Rt
theorem xK.to{w:World}{B b N N':Nat}{m:dO}{L L':eY}(h:xK w B b m L N)(d:fP m L')(a:Inv L' N')(c:xJ L'):xK w B b m L' N':=⟨h.q,d,a.toInv0,a.s,c⟩
end
theorem Md(n:Nat)(m:Int)(w:World)(j:m=(n:Int))(k:1<=n)(l:n<=6) :
 Calls Tryz.prog 27 #[au m] w fun e d => ∃ p M,e = .returned (pt p)/\M.n=n/\M.an=0/\WC M/\WG M/\oo d w.heap.size p M 0/\Below w.heap.size w d:=by
 subst j; exact(NT n w k l).mono fun _ _ ⟨p,M,f,a,b,c,g,h⟩=>⟨p,M,f,a,b,.new b fun i=>by rw[c i,a],.new fun i=>by rw[c i,a],g,h⟩
set_option maxRecDepth 20000 in
set_option maxHeartbeats 2000000 in
theorem WV(Z:Nat)(aa0:Option Addr)(N ca:Nat)(xa:Nat->DZ)(pb:Nat)(w:World)(hna:N<=60)(hrb:Z<=255)(hpb:pb<=255)(hxa : ∀ k,k<N->FZ (xa k))(WW:mY w aa0 N 9 (flat 9 fun k=>F3 (xa k)))(hK:iN w 0 0 8 Bu) :
 Calls Tryz.prog 11 #[.int .u8 (Z:Int),.slice aa0 (N) (ca),.int .u8 (pb:Int)] w fun e w' => ∃ H J m p O,e = .returned (.tuple #[(pt H),(pt (m.pl p)),.bool true])/\p=pb % (Z % 6+1)/\m.n=Z % 6+1/\p<m.n/\WC m/\m.an<=60/\xK w' w.heap.size H J (m.ml p).core O/\O<=219600/\um w' w.heap.size (m.pl p) (m.ml p)/\Inv (m.ml p).core O/\Below w.heap.size w w':=by
 have l0:=hK.lt (by omega);refine Kent Tryz.func11 117 ?_;refine ay<|av (.pointer none)<|av (.pointer none)<|av aF<|aD<|Ws ?_;obtain⟨E,ern⟩ : ∃ r,r=Z % 6:=⟨_,rfl⟩;have hrn:E<6:=by rw[ern]; exact J_ _ (by omega)
 refine Wl<|av (.int .u8 (Z:Int))<|Lv (au Z) (dw rfl rfl (by kernel_rfl) Tryz.underlying3 (iC (by omega) rfl))<|Lv (au E) (Fx.uL rfl rfl rfl (by omega) (D5 ern))<|Lv (au ((E:Int)+1)) fC<|av (au ((E:Int)+1))<|aD<|ay<|av (au ((E:Int)+1))<|mh (Md (E+1) _ _ (by omega) (by omega) (by omega)) (ax := #[au ((E:Int)+1)]) ?_;rintro e9 w1 ⟨B,M0,L,hMn,hMa,aqT,aqU,hW0,hbw⟩;refine⟨(pt B),L,?_⟩;clear L;have sB:=(Below.refl w.heap.size w).size;have b1:=bE hbw (Below.refl w.heap.size w);have sW:w.heap.size<=w1.heap.size:=hbw.size;refine av (pt B)<|aD<|Ws<|ay<|av (au 0)<|aD<|Wb<|Wo (fun f G => ∃ k:Nat,∃ m:WM,∃ O:Nat,k<=N/\O<=3660*k/\m.n=M0.n/\m.an<=k/\w.heap.size<=G.heap.size/\WC m/\WG m/\f 1 = .slice aa0 (N) (ca)/\f 2 = .int .u8 (pb:Int)/\f 9=au ((E:Int)+1)/\f 10=(pt B)/\f 11=au (k:Int)/\oo G w.heap.size B m O/\Below w.heap.size w G) (fun f _=>(N-(intOf (f 11)).toNat)) ⟨0,M0,0,by omega,by omega,rfl,by omega,sW,aqT,aqU,(by rfl),Fx.ic,Fx.ic,(by rfl),Fx.ic,hW0,b1⟩ ?_;rintro f1 u ⟨k,m,O,hk,hTk,aeT,awL,sWk,ZC,hWG,h1,h2,h3,h4,h5,M,b2⟩;refine Ws<|ay<|bf h5<|bf h1<|av (au N) ?_;by_cases c26:(k:Int)<(N:Int)
 ·refine Lv aG (iq c26)<|aD<|aO<|Wk<|sN<|Ws<|Wb<|Wl<|bf h4<|bf h1<|bf h5 ?_;obtain⟨bq1,oq1,eq1,m2⟩:=(WW.up b2 rfl) (by omega);have ahf:bq1<u.heap.size:=m2.lt (by omega);refine Lv (pf bq1 (9*k+oq1)) (dh 9 (hx:=(rfl.trans (L_ (fun q=>Value.slice q (N) (ca)) eq1))))<|Lv (.agg (aA 9 (F3 (xa k)))) (fD m2 (9*k) (fun jq hjq=>Fx.jJ (k:=k) (by omega) hjq))<|mh (aiA m w.heap.size B O (xa k) _ M sWk (hxa k (by omega)) (by omega) (by omega)) ?_;rintro e9 w3 ⟨v9,L,hv9,M2,hW1,hM2,awN,awO,hb1⟩;refine⟨_,L,?_⟩;clear L;have aqV:=hM2.n;have b3:Below w.heap.size w w3:=aiB b2 hb1 sB;have sW1:w.heap.size<=w3.heap.size:=by have:=hb1.size; omega
  have sWn:w.heap.size<=w3.heap.size:=by have:=hb1.size; omega
  have aqW:WC M2:=ZC.do hW1 (J_ _ (by have:=M.n1; omega)) hM2 (by omega) (M.cz.own _ (J_ _ (by have:=M.n1; omega)));have aqX:WG M2:=hWG.do hW1 (J_ _ (by have:=M.n1; omega)) hM2;refine Ln<|bR<|sN<|Wl<|bf h5<|Lv (au ((k:Int)+1)) fC<|av (au ((k:Int)+1))<|Ln<|ig ⟨k+1,M2,(O+3660),by omega,by omega,(aqV.trans aeT),by omega,sWn,aqW,aqX,h1,(h2.trans Fx.ic),(h3.trans Fx.ic),h4,Fx.ic,hW1,b3⟩ ?_;show(N-(intOf (au ((k:Int)+1))).toNat)<_;simp only[h5,intOf]; omega
 refine Lv aF (iw c26)<|aD<|aK<|Wx<|bZ<|gL<|cu<|sN<|Ws ?_;have hWc:=M.c;have hWa:=M.a;have aeU:=M.wf;have awQ:=M.may;have hcz:=M.cz;have hWw:=M;have haA:mY u m.aa m.an 14 (evX m.ev):=hWa.arr;have lpw:B<u.heap.size:=hWc.lt;have l0X:0<u.heap.size:=by omega
 have hKX:iN u 0 0 8 Bu:=hK.below b2 l0;have hB:1<=u.heap.size:=by omega
 have aiI:m.an<=60:=by omega
 have V:=ZC.w;have hWn:m.n=E+1:=aeT.trans hMn;obtain⟨p,ewo⟩ : ∃ r,r=pb % (E+1):=⟨_,rfl⟩;have hwo:p<(E+1):=by rw[ewo]; exact J_ _ (by omega)
 have Q:p<m.n:=by omega
 have aqY:=hWw.l;have haL:mY u m.la m.n 1 (GD m.pl):=aqY.arr;have aaE:=hWw.g p Q;have aiK:=aaE.c;have awV:m.pl p<u.heap.size:=aiK.lt;have hKc:=(ZC.f p Q).kc;have hKk:BX (m.ml p).s.known:=(hWw.inv p Q).kn;have aqZ:rF m.n m.ev m.an (kH (E+1) 0).core:=by have q9:=rF.new m.n m.ev m.an (Zr V) 0; rw[hWn]at q9 ⊢; exact q9
 have ara : ∀ q,q<6->(kH (E+1) 0).core.known q=vK (m.ml p).s.known (fI m.ev 0) q:=aiF hKc (fun q hq=>(hKk q hq).1);refine uO<|dZ h4<|aX (pt B)<|aX (pt B)<|Qv (.slice m.la (m.n) (m.lc)) (fun C A=>aM (hWc.aH.dr A) 0)<|dZ h2<|Qv (au pb) (fun C A=>dw rfl rfl (by kernel_rfl) Tryz.underlying3 (iC (by omega) rfl))<|dZ h3<|Qv (au p) (fun C A=>Fx.uL rfl rfl rfl (by omega) (D5 ewo)) ?_;obtain⟨bq2,oq2,Gy,m3z⟩:=haL (by omega);have aiL:bq2<u.heap.size:=m3z.lt (by omega);have m3:=m3z.below (Below.refl u.heap.size u) aiL;have aqa:bq2<u.heap.size:=m3.lt (by omega);refine Qv (pf bq2 (oq2+p)) (fun C A=>dh 1 (hx:=(rfl.trans (L_ (fun q=>Value.slice q (m.n) (m.lc)) Gy))))<|Qv (pt (m.pl p)) (fun C A=>aM (m3.dr A) p)<|aX (pt (m.pl p))<|Qn ?_;rintro _ ⟨W,rfl⟩;obtain⟨BZ,oU⟩ : ∃ C,C=World.drewN u W:=⟨_,rfl⟩;rw[<- oU];have s2:Stp u.heap.size u BZ:=by rw[oU]; exact Sb (je u W)
 have⟨m4,m5,m6⟩:=iy s2.old hWc aiK aaE;have b4:=s2.below (Below.refl u.heap.size u) (Below.refl u.heap.size u).size (Below.refl u.heap.size u).size;clear oU;refine sN<|ay<|bf h3<|mh (yZ (aaB (E+1) (by omega) _) (L_ (fun z => #[Value.int .i64 z]) (by omega))) (ax := #[au ((E:Int)+1)]) ?_;rintro e9 w4 ⟨H,m0,L,hl1,hb2⟩;refine⟨_,L,?_⟩;clear L;have hl2:=hl1.weak b4.size;have⟨m8,m9,m10,b5⟩:=kV hb2 m4 m5 m6 b4;refine av (.tuple #[(pt H),au 0])<|av (pt H)<|av (au 0)<|av (pt H)<|av (au 0)<|aD<|Ws<|ay<|av (au 0)<|Lv aF (jQ rfl)<|av aF<|av (pt H)<|Lv aF (Fx.mP rfl rfl rfl (by kernel_rfl))<|av aF<|aD<|aK<|Wk<|sN<|Ws<|ay<|av (au 0)<|aD<|Wb<|Wo (fun f G => ∃ K:Nat,∃ J:dO,∃ D:eY,∃ I:Nat,∃ F:Nat,K<=m.an+1/\I<=60*K/\rF m.n m.ev m.an D/\GK D/\(∀ q,q<6->D.known q=vK (m.ml p).s.known (fI m.ev F) q)/\(F=0\/F=m.an)/\(1<=K->F=m.an)/\f 10=(pt B)/\f 12=(pt (m.pl p))/\f 13=(pt H)/\f 15=au (K:Int)/\xK G u.heap.size H J D I/\aR G B 2 (Ms (.slice m.la (m.n) (m.lc)) (.slice m.aa (m.an) (m.ac))) 78/\aR G (m.pl p) 27 (lZ (m.ml p)) 56/\um G w.heap.size (m.pl p) (m.ml p)/\Below u.heap.size u G) (fun f _=>(m.an+1-(intOf (f 15)).toNat)) ⟨0,m0,(kH (E+1) 0).core,0,0,by omega,by omega,aqZ,(WT _ _),ara,(.inl rfl),(fun h=>M_ h (by decide)),h4,(by rfl),(by rfl),Fx.ic,hl2,m8,m9,m10,b5⟩ ?_;rintro f2 w5 ⟨K,J,D,I,F,hrd,hN9,T,U,hKn,hcx,hrc,h6,h7,h8,h9,m12,m13,m14,m15,b6⟩;refine Ws<|ay<|bf h9<|bf h6<|av (pt B)<|av (pf B 1)<|Lv (.slice m.aa (m.an) (m.ac)) (aM m13.aH 1)<|av (au m.an) ?_;by_cases c63:(K:Int)<=(m.an:Int)
 ·refine Lv aG (mZ c63)<|aD<|aO<|Wk<|sN<|Ws<|Wb<|ay<|av (au 0)<|aD<|Wb<|Wo (fun f G => ∃ t:Nat,∃ J:dO,∃ D:eY,∃ I:Nat,∃ F:Nat,t<=m.an/\I<=60*K+t/\rF m.n m.ev m.an D/\GK D/\(∀ q,q<6->D.known q=vK (m.ml p).s.known (fI m.ev F) q)/\(F=t\/F=m.an)/\f 10=(pt B)/\f 12=(pt (m.pl p))/\f 13=(pt H)/\f 15=au (K:Int)/\f 16=au (t:Int)/\xK G u.heap.size H J D I/\aR G B 2 (Ms (.slice m.la (m.n) (m.lc)) (.slice m.aa (m.an) (m.ac))) 78/\aR G (m.pl p) 27 (lZ (m.ml p)) 56/\um G w.heap.size (m.pl p) (m.ml p)/\Below u.heap.size u G) (fun f _=>(m.an-(intOf (f 16)).toNat)) ⟨0,J,D,I,F,by omega,by omega,T,U,hKn,hcx,h6,h7,h8,(h9.trans Fx.ic),Fx.ic,m12,m13,m14,m15,b6⟩ ?_;rintro f3 R ⟨t,J,D,I,F,hix,hN9,T,U,hKn,hcx,Y,h11,h12,SI,S,m16,m17,m18,m19,b7⟩;refine Ws<|ay<|bf S<|bf Y<|av (pt B)<|av (pf B 1)<|Lv (.slice m.aa (m.an) (m.ac)) (aM m17.aH 1)<|av (au m.an) ?_;by_cases c72:(t:Int)<(m.an:Int)
  ·refine Lv aG (iq c72)<|aD<|aO<|Wk<|sN<|Ws<|Wb<|Ws ?_;have hi9:t<m.an:=(by omega);have hxw:=aeU t hi9;obtain⟨P,aiM,hrg,hro⟩ : ∃ P,aL (m.ev t)=P/\P<6/\(m.ev t).o=(P:Int)+1:=⟨_,rfl,(V.g t hi9).reg.2,(V.g t hi9).reg.1⟩;have hkk:=hKk P hrg;refine uO<|dZ Y<|aX (pt B)<|aX (pf B 1)<|Qv (.slice m.aa (m.an) (m.ac)) (fun C A=>aM (m17.aH.dr A) 1)<|dZ S ?_;obtain⟨X,oq3,Xf,aiN⟩:=haA (by omega);have aiO:X<u.heap.size:=aiN.lt (by omega);have m20:=aiN.below b7 aiO;have aqb:X<R.heap.size:=m20.lt (by omega);refine Qv (pf X (14*t+oq3)) (fun C A=>dh 14 (hx:=(rfl.trans (L_ (fun q=>Value.slice q (m.an) (m.ac)) Xf))))<|aX (pf X (14*t+oq3+1))<|Qv (aC ((m.ev t).seq)) (fun C A=>aM (m20.dr A) (14*t+1) (Fx.gJ (k:=t) (j:=1) (by omega) (by omega) rfl))<|dZ h11<|dZ Y<|aX (pt B)<|aX (pf B 1)<|Qv (.slice m.aa (m.an) (m.ac)) (fun C A=>aM (m17.aH.dr A) 1)<|dZ S<|Qv (pf X (14*t+oq3)) (fun C A=>dh 14 (hx:=(rfl.trans (L_ (fun q=>Value.slice q (m.an) (m.ac)) Xf))))<|aX (pf X (14*t+oq3))<|Qv (au ((m.ev t).o)) (fun C A=>aM (m20.dr A) (14*t) (Fx.gJ (k:=t) (j:=0) (by omega) (by omega) rfl))<|Qv (au P) (fun C A=>gD)<|aX (pt (m.pl p))<|aX (pt (m.pl p))<|aX (pf (m.pl p) 12)<|Qv (pf (m.pl p) (P+12)) (fun C A=>jM 6 1)<|Qv (aC ((m.ml p).s.known P)) (fun C A=>aM (m18.aH.dr A) (P+12) (kF _ (by omega) (jO _ (by omega) (by omega)))) ?_;by_cases Yl:((m.ev t).seq)<=((m.ml p).s.known P)
   ·have aeV:(m.ev t).seq<=(m.ml p).s.known (aL (m.ev t)):=(by rw[aiM]; omega);refine Qv aG (fun C A=>mZ Yl)<|Qn ?_;rintro _ ⟨W,rfl⟩;obtain⟨wq2,sG⟩ : ∃ C,C=World.drewN R W:=⟨_,rfl⟩;rw[<- sG];have s4:Stp R.heap.size R wq2:=(by rw[sG]; exact Sb (je R W));have⟨m21,m22,m23,m24,mQ,b8⟩:=rT s4.old m16 m17 m18 m19 m20 b7;clear sG;refine sN<|aO<|Wl<|bf h12<|bf Y<|av (pt B)<|av (pf B 1)<|Lv (.slice m.aa (m.an) (m.ac)) (aM m22.aH 1)<|bf S<|Lv (pf X (14*t+oq3)) (dh 14 (hx:=(rfl.trans (L_ (fun q=>Value.slice q (m.an) (m.ac)) Xf))))<|Lv (.agg (aA 14 (bM (m.ev t)))) (fD mQ (14*t) (fun jq hjq=>Fx.jJ (k:=t) (by omega) hjq))<|dJ (Es (v:=(m.ev t)) m21 (aeU t (by omega)) hB (hKX.below b8 l0X) (fun _ _=>rfl)) _ rfl ?_;rintro w7 ⟨hq1,hc1⟩;have aeW:=m21.q.typed hc1;have aeX:=m21.q.CQ hc1 b8.size;have b9:=Za b8 aeX (A_ _);have nH:=m22.D8 aeW (by decide);have awW:=nH.lt;have oq:=m23.D8 aeW (by decide);have awX:=oq.lt;have oL:=m24.D8 aeW (by decide);refine Ln<|bR<|sN<|Wl<|bf S<|Lv (au ((t:Int)+1)) fC<|av (au ((t:Int)+1))<|Ln<|ig ⟨t+1,jB J (m.ev t),bV D (m.ev t),I+1,(ZB F t m.an),by omega,by omega,(T.apply V (show t<m.an by omega)),(U.apply (aeU t (show t<m.an by omega))),(aeR T V (show t<m.an by omega) hKc hKn hcx aeV),(WU hcx (show t<m.an by omega)),Y,h11,h12,(SI.trans Fx.ic),Fx.ic,hq1,nH,oq,oL,b9⟩ ?_;show(m.an-(intOf (au ((t:Int)+1))).toNat)<_;simp only[S,intOf]; omega
   have aeV : ¬ (m.ev t).seq<=(m.ml p).s.known (aL (m.ev t)):=(by rw[aiM]; omega);refine Qv aF (fun C A=>nP Yl)<|Qn ?_;rintro _ ⟨W,rfl⟩;obtain⟨Xd,Aj⟩ : ∃ C,C=World.drewN R W:=⟨_,rfl⟩;rw[<- Aj];have s5:Stp R.heap.size R Xd:=(by rw[Aj]; exact Sb (je R W));have⟨oM,oC,mI,m32,b10⟩:=qU s5.old m16 m17 m18 m19 b7;clear Aj;refine sN<|aK<|Wk<|bR<|sN<|Wl<|bf S<|Lv (au ((t:Int)+1)) fC<|av (au ((t:Int)+1))<|Ln<|ig ⟨t+1,J,D,I,(ZB F t m.an),by omega,by omega,T,U,(aeS V (show t<m.an by omega) hKn hcx aeV),(WU hcx (show t<m.an by omega)),Y,h11,h12,(SI.trans Fx.ic),Fx.ic,oM,oC,mI,m32,b10⟩ ?_;show(m.an-(intOf (au ((t:Int)+1))).toNat)<_;simp only[S,intOf]; omega
  refine Lv aF (iw c72)<|aD<|aK<|Wx<|bZ<|gL<|cu<|bR<|sN<|Wl<|bf SI<|Lv (au ((K:Int)+1)) fC<|av (au ((K:Int)+1))<|Ln<|ig ⟨K+1,J,D,I,F,by omega,by omega,T,U,hKn,(.inr (by omega)),(fun _=>by omega),Y,h11,h12,Fx.ic,m16,m17,m18,m19,b7⟩ ?_;show(m.an+1-(intOf (au ((K:Int)+1))).toNat)<_;simp only[h9,intOf]; omega
 refine Lv aF (nP c63)<|aD<|aK<|Wx<|bZ<|gL<|cu<|sN<|Ws ?_;have ecx:F=m.an:=by omega
 have hkE : ∀ q,q<6->(m.ml p).s.known q=D.known q:=fun q hq=>by rw[hKn q hq,ecx]; exact(aiG hKc q hq).symm
 have hGm:=hWG.g p Q;have hSm:Dx D (m.ml p).core:=T.same (ZC.f p Q) V U.g hGm.g hkE;have awZ:I<=3720:=by omega
 have hkf:(m.ml p).core.known=D.known:=U.k.eq hGm.k hkE;have hSq:=m12.s.to hSm hkf (T.asks (ZC.f p Q) V hkE) U.r hGm.r;refine jW [0,1,2,4,5,6,7,3,8,9,10,11] [0,0,0,2,0,0,0,1,2,0,0,0] [(8,3,[3]),(9,3,[8,3]),(10,3,[9,8,3]),(11,3,[3]),(9,8,[8]),(10,8,[9,8]),(11,8,[8])] fun qA dP iE => ?_;have⟨nV,oN,sP,b11⟩:=kV dP m12 m14 m15 b6;refine bW h8<|bW h7<|bW h8<|bW h7<|aY (pt (m.pl p))<|aY (pt (m.pl p))<|Rd (v := .agg (aA 20 (nQ (m.ml p).s))) (by rfl) (by rfl) (tZ _) (fun C A=>eG (x:=lZ (m.ml p)) (y:=nQ (m.ml p).s) rfl rfl (by kernel_rfl) (by kernel_rfl) (oN.aH.below A (by have:=oN.lt; omega)) (i:=0) (by omega) (by omega) (fun jq hjq=>(show lZ _ (0+jq)=nQ _ jq by rw[G_]; exact kF _ hjq rfl))) ?_;refine xM<|mh (Zc nV (by omega)) ?_;rintro e9 w8 ⟨ss1,L,aiP,hb3⟩;obtain⟨zna,znc,zga,zgc,eS9⟩ : ∃ a b c d,ss1=NS D a b c d:=⟨_,_,_,_,aiP.e⟩;subst eS9;refine⟨_,L,?_⟩;clear L;have s7:=Sb hb3;have⟨qX,nI,b12⟩:=iy hb3 nV sP b11;refine Ln ⟨s7.old,?_⟩;refine xM<|dJ (Zu aiP.r (.ldg nI.ldg) hSm (qX.wf (by omega))) _ rfl ?_;intro w9 hb4;have s8:=Sb hb4;have⟨nJ,qK,b13⟩:=iy hb4 qX nI b12;refine Ln ⟨s8.old,?_⟩;refine aY (pt H) (aY (pt (m.pl p)) (aY aG (bS (Wr (⟨.tuple #[(pt H),(pt (m.pl p)),.bool true],Fx.afx Tryz.results11 (by exact rfl) (by exact rfl) (by exact rfl),?_⟩)))));exact⟨H,J,m,p,O,rfl,by rw[ewo,ern],hWn.trans (by rw[ern]),Q,ZC,aiI,(nJ.weak b2.size).to hSq (hWw.inv p Q) hGm.g,by omega,qK,hWw.inv p Q,(aiB b2 b13 b2.size)⟩
section
namespace Rt
section
variable {ev:Nat->EvM} {an k n:Nat} {K:Nat->Int} {L:eY} {v:EvM} {f:(Nat->Int)->(Nat->Int) × Int} {r:Nat->Nat->Int} {x:Nat->Int}
theorem take_one(b:may x=true)(a:bQ v=true)(h1:1<=v.aQ)(f:v.aQ<=65536)(d:x (6+aV v)+v.aQ<=1125899906842624):(bD x v.o v.aQ).2=if Aq x (aV v)<v.aQ then 11 else 0:=by
 have e:=vJ b a;unfold bD bT pW;rw[b,f_ h1,f_ (show v.aQ<=1125899906842624 by omega),e,d_ (show(true&&true&&true)=true from rfl),d_ (PK a),(CV a).2.2];by_cases c:Aq x (aV v)<v.aQ
 ·rw[f_ c,d_ c]; rfl
 rw[g_ c,b_ c];show(if(0:Int)=0 then if x (6+aV v)+v.aQ<=1125899906842624 then(upd x (6+aV v) (x (6+aV v)+v.aQ),0)else(zero,6)else(zero,0)).2=0;rw[d_ rfl,d_ d]
theorem Me : ∀ {n:Nat},(∀ i,i<n->(f (r i)).2=0\/(f (r i)).2=11)->gK f r n=0\/(gK f r n=11 /\ ∃ i,i<n/\(f (r i)).2=11)
 | 0,_ => .inl rfl
 | n+1,h=>by
   rcases Me (n:=n) (fun i a=>h i (by omega))with q|⟨q,i,a,e⟩
   ·have s:gK f r (n+1)=(f (r n)).2:=by unfold gK; rw[d_ q]
    rcases h n (by omega)with z|z
    ·left; rw[s,z]
    ·right; exact⟨s.trans z,n,by omega,z⟩
   ·right;have s:gK f r (n+1)=gK f r n:=by
     show(if gK f r n=0 then _ else _)=_;rw[b_ (by rw[q]; decide)]
    exact⟨s.trans q,i,by omega,e⟩
theorem ZE{m:dO}{N S:Nat}(b:Tw m L N S)(u:bQ v=true)(M:v.kind=3)(h1:1<=v.aQ)(I:v.aQ<=65536)(hr:dz L.known v=true)(J:gH m v.o v.req=false)(K:m.T.has v.node=true) :
 (bA L v=0\/bA L v=11\/bA L v=10)/\(bA L v=0 -> ∀ q,q<dF L.t L.tn v.node->v.aQ<=eF L (aT L.t L.tn q v.node) v.o)/\(bA L v=11 -> ∃ q,q<dF L.t L.tn v.node/\eF L (aT L.t L.tn q v.node) v.o<v.aQ):=by
 have g:=b.t.t;have H:m.known=L.known:=b.t.s.known;have G:bU m v=bA L v:=(b.t.s.apply g b.t.i v).1;have z : ∀ y,y∈m.T.path v.node->(bD (aZ m y) v.o v.aQ).2=if eF L y v.o<v.aQ then 11 else 0:=fun y w=>by
  have j:=b.t.may (dN.lK g rfl y w);have O:=b.cell y (6+aV v);rw[take_one j u h1 I (by omega),<- vJ j u,b.t.s.local b.t.i]
 have C:dL m v=dA m (fun x=>bD x v.o v.aQ) (m.T.path v.node):=by
  unfold dL jd;rw[b_ (by omega),b_ (by omega),d_ M,b_ (by rw[J]; decide),b_ (by rw[K]; decide)]
 have l : ∀ i,i<(m.T.path v.node).length->(m.T.path v.node).getD i 0∈m.T.path v.node:=fun i d=>by
  rw[r_,o_ d]; exact Q_ d
 have B : ∀ i,i<(m.T.path v.node).length->AB m ((m.T.path v.node).getD i 0)=aZ m ((m.T.path v.node).getD i 0):=fun i d=>by
  unfold aZ; rw[d_ (dN.lK g rfl _ (l i d))]
 have A:dL m v=0\/(dL m v=11 /\ ∃ y,y∈m.T.path v.node/\eF L y v.o<v.aQ):=by
  rw[C]
  rcases Me (f:=fun x=>bD x v.o v.aQ) (r:=fun i=>AB m ((m.T.path v.node).getD i 0)) (n:=(m.T.path v.node).length) (fun i d=>by
   show(bD (AB m ((m.T.path v.node).getD i 0)) v.o v.aQ).2=0\/(bD (AB m ((m.T.path v.node).getD i 0)) v.o v.aQ).2=11;rw[B i d,z _ (l i d)];split
   ·exact .inr rfl
   ·exact .inl rfl)with q|⟨q,i,d,e⟩
  ·exact .inl q
  ·refine .inr ⟨q,_,l i d,?_⟩;have e:(bD (AB m ((m.T.path v.node).getD i 0)) v.o v.aQ).2=11:=e;rw[B i d,z _ (l i d)]at e;by_cases c:eF L ((m.T.path v.node).getD i 0) v.o<v.aQ
   ·exact c
   ·rw[b_ c]at e; cases e
 have F:bU m v=if m.inn (aL v)=false\/m.left (aL v)=true then 10 else dL m v:=by
  have D:dz m.known v=true:=by rw[H]; exact hr
  unfold bU;rw[b_ (by rw[u]; decide),b_ (by rw[JK D]; decide),b_ (by rw[D]; decide)]
 rw[<- G,F];refine⟨?_,fun k q p => ?_,fun h => ?_⟩
 ·split
  ·exact .inr (.inr rfl)
  rcases A with a|a
  ·exact .inl a
  exact .inr (.inl a.1)
 ·by_cases c:m.inn (aL v)=false\/m.left (aL v)=true
  ·rw[d_ c]at k; cases k
  rw[b_ c,C]at k;have j:=(b.t.s.T.mem g b.t.i v.node (aT L.t L.tn q v.node)).2 ⟨q,p,rfl⟩;have e:=vI (f:=fun x=>bD x v.o v.aQ) g k j;have e:(bD (aZ m (aT L.t L.tn q v.node)) v.o v.aQ).2=0:=e;rw[z _ j]at e;by_cases E:eF L (aT L.t L.tn q v.node) v.o<v.aQ
  ·rw[d_ E]at e; cases e
  omega
 by_cases c:m.inn (aL v)=false\/m.left (aL v)=true
 ·rw[d_ c]at h; cases h
 rw[b_ c]at h
 rcases A with a|⟨_,y,w,hl⟩
 ·rw[a]at h; cases h
 obtain⟨q,p,e⟩:=(b.t.s.T.mem g b.t.i v.node y).1 w;exact⟨q,p,by rw[e]; exact hl⟩
theorem Mf(h:rF k ev an L)(W:Ws k ev an)(f:bQ v=true)(b:v.kind=3)(h1:1<=v.aQ)(r:v.aQ<=65536)(hr:dz L.known v=true) :
 (bA L v=0 -> ∀ q,q<dF L.t L.tn v.node->v.aQ<=eF L (aT L.t L.tn q v.node) v.o)/\(bA L v=11 -> ∃ q,q<dF L.t L.tn v.node/\eF L (aT L.t L.tn q v.node) v.o<v.aQ):=by
 obtain⟨m,N,a,u⟩:=h.tw W;have p:m.known=L.known:=a.t.s.known;have n:bU m v=bA L v:=(a.t.s.apply a.t.t a.t.i v).1;have l:bU m v=if m.inn (aL v)=false\/m.left (aL v)=true then 10 else dL m v:=by
  have d:dz m.known v=true:=by rw[p]; exact hr
  unfold bU;rw[b_ (by rw[f]; decide),b_ (by rw[JK d]; decide),b_ (by rw[d]; decide)]
 have no : ∀ c:Int,c≠0->c≠11->dL m v=c -> ¬ bA L v=0 /\ ¬ bA L v=11:=fun c g j e=>by
  rw[<- n,l];split
  ·exact⟨by decide,by decide⟩
  ·rw[e]; exact⟨g,j⟩
 cases aeY:gH m v.o v.req with
 | true =>
   have e:dL m v=14:=by
    unfold dL jd;rw[b_ (by omega),b_ (by omega),d_ b,d_ aeY]
   have:=no 14 (by decide) (by decide) e;exact⟨fun h=>M_ h this.1,fun h=>M_ h this.2⟩
 | false =>
   cases hh:m.T.has v.node with
   | true=>exact(ZE a f b h1 r hr aeY hh).2
   | false =>
     have e:dL m v=9:=by
      unfold dL jd;rw[b_ (by omega),b_ (by omega),d_ b,b_ (by rw[aeY]; decide),d_ (by rw[hh])]
     have:=no 9 (by decide) (by decide) e;exact⟨fun h=>M_ h this.1,fun h=>M_ h this.2⟩
end
end Rt
end
section
namespace Rt
section
variable {ev:Nat->EvM} {an k N:Nat} {L:eY} {v:EvM} {i:Int} {x:xL}
theorem Gg(h:bA L v=0\/bA L v=11):bQ v=true/\dz L.known v=true:=by
 have a:bQ v=true:=by
  cases c:bQ v with
  | true=>rfl
  | false =>
    have:bA L v=1:=(by unfold bA; rw[d_ c]);rw[this]at h; rcases h with h|h <;> cases h
 refine⟨a,?_⟩
 cases c:dz L.known v with
 | true=>rfl
 | false =>
   have:bA L v=14\/bA L v=13:=by
    unfold bA;rw[b_ (by rw[a]; decide)];split
    ·exact .inl rfl
    ·exact .inr rfl
   rcases this with e|e <;> rw[e]at h <;> rcases h with h|h <;> cases h
theorem Ro(a:Inv0 L N){k:Nat}{y:Int}(c:k<dF L.t L.tn y):aT L.t L.tn k y≠0:=by
 have h:=yA c;obtain⟨j,b,e⟩:=gZ.1 h;rw[a.BH]at b;rw[(a.tid j b).1]at e;have:=a.pos j b;omega
theorem Rq(h:rF k ev an L)(W:Ws k ev an)(o:Inv0 L N)(m:x.kind=3)(h1:1<=x.aQ)(g:x.aQ<=65536) :
 (jl L i x=0->oG L i x.node x.aQ=0)/\(jl L i x=11->oG L i x.node x.aQ≠0/\1<=vL L i x.node x.aQ):=by
 cases hr:jH i with
 | false =>
   have:=(BD (L:=L) (x:=x) hr).1;exact⟨fun e=>M_ (this.symm.trans e) (by decide),fun e=>M_ (this.symm.trans e) (by decide)⟩
 | true =>
   rw[nN hr];refine⟨fun e => ?_,fun e => ?_⟩
   ·obtain⟨d,b⟩:=Gg (.inl e);have a:=(Mf (v:=jk L.known i x) h W d m h1 g b).1 e;exact(JM (k:=dF L.t L.tn x.node) (fun j c=>by have:=a j c; show ¬ eF L (aT L.t L.tn j x.node) i<x.aQ; have:x.aQ<=eF L (aT L.t L.tn j x.node) i:=this; omega) rfl).1
   ·obtain⟨d,b⟩:=Gg (.inr e);obtain⟨q,f,a⟩:=(Mf (v:=jk L.known i x) h W d m h1 g b).2 e;have f:q<dF L.t L.tn x.node:=f;have a:eF L (aT L.t L.tn q x.node) i<x.aQ:=a;unfold oG vL
    rcases jh (fun j=>decide (eF L (aT L.t L.tn j x.node) i<x.aQ)) (dF L.t L.tn x.node)with ⟨j,c,n,l⟩|⟨_,hn⟩
    ·have e:Gd L i x.node x.aQ=(j:Int):=n;have l:=h_ l;rw[e,b_ (by omega),b_ (by omega),show(j:Int).toNat=j by omega];exact⟨Ro o c,by omega⟩
    ·have:=hn q f;exact M_ a (j_ this)
theorem Ob(h:bA L v=0):bA (bV L v) v=14/\(bV L v).known (aL v)=v.seq:=by
 obtain⟨b,c,_⟩:=Dj (iK h);have a:(bV L v).known (aL v)=v.seq:=by
  rcases lW L v with ⟨_,e⟩|⟨e,_⟩
  ·rw[e,c]; unfold aI; rw[d_ rfl]
  ·exact M_ h e
 refine⟨?_,a⟩;unfold bA;rw[b_ (by rw[b]; decide),d_ (Zt b (by rw[a]; exact N_ _))]
end
end Rt
end
namespace Rt
def WX:xL:=⟨1,0,0,10,0,0⟩
def Oc:xL:=⟨3,J2,0,4,1,0⟩
theorem PN:Gc WX:=⟨⟨by decide,by decide⟩,⟨by decide,by decide⟩,⟨by decide,by decide⟩,⟨by decide,by decide⟩,⟨by decide,by decide⟩,⟨by decide,by decide⟩⟩
theorem ZF:Gc Oc:=⟨⟨by decide,by decide⟩,⟨by decide,by decide⟩,⟨by decide,by decide⟩,⟨by decide,by decide⟩,⟨by decide,by decide⟩,⟨by decide,by decide⟩⟩
def wA:EvM:=jk (kH 2 0).core.known 1 WX
theorem aiQ:gu wA:=N8 (fun i _=>⟨N_ 0,(by decide:(0:Int)<1099511627776)⟩) PN (by decide)
noncomputable def wL:eY:=bV (kH 2 0).core wA
noncomputable def wqA:dO:=jB wq0 wA
theorem twA:Et wqA wL 1:=tw0.apply wA
theorem aiR:jl (kH 2 0).core 1 WX=0:=by rw[nN (by decide)]; exact tw0.err wA (by kernel_rfl)
theorem arf:iL (kH 2 0).core 1 WX=wA:=by unfold iL; rw[d_ aiR]; rfl
theorem ap1:bA (kH 2 0).core wA=0:=tw0.err wA (by kernel_rfl)
theorem aiS:jl wL 2 Oc=11:=by
 rw[nN (by decide),<- twA.s.known];exact twA.err (jk wqA.known 2 Oc) (by kernel_rfl)
theorem arh:iL wL 2 Oc=zeroE:=by unfold iL; rw[b_ (by rw[aiS]; decide)]
theorem aiT:0<dF wL.t wL.tn J2:=by
 rw[<- (twA.s.T.path twA.t twA.i J2).1,show wqA.T.path J2 = [J2] by kernel_rfl];decide
theorem aiU:eF wL (aT wL.t wL.tn 0 J2) 2=0:=twA.loc _ _ (by kernel_rfl)
theorem lkA:oG wL 2 J2 4=J2/\vL wL 2 J2 4=4:=by
 obtain⟨a,b⟩:=Gf (k:=0) (fun _ h=>M_ h (z_ _)) aiT (show eF wL (aT wL.t wL.tn 0 J2) 2<4 by rw[aiU]; decide);exact⟨a,by rw[b,aiU]; rfl⟩
end Rt
theorem nO(w:World)(c:iN w 0 0 8 Bu) :
 Calls Tryz.prog 10 #[] w fun e w'=>e = .returned (.bool true)/\Below w.heap.size w w':=by
 have g:=c.lt (by omega);have f:1<=w.heap.size:=by omega
 refine Kent Tryz.func10 63 ?_;refine ay<|av aF<|aD<|ay<|mh (aaB 2 (by omega) _) ?_;rintro e9 w1 ⟨b,m0,z,T,K⟩;refine⟨_,z,?_⟩;clear z;have A:=T.weak (Below.refl w.heap.size w).size;have m:=bE K (Below.refl w.heap.size w);refine av (.tuple #[(pt b),au 0])<|av (pt b)<|av (au 0)<|av (pt b)<|av (au 0)<|aD<|Ws<|ay<|av (au 0)<|Lv aF (jQ rfl)<|av aF<|av (pt b)<|Lv aF (Fx.mP rfl rfl rfl (by kernel_rfl))<|av aF<|aD<|aK<|Wk<|sN<|ay<|av (pt b)<|av (.agg (aA 6 (bK (bK (fun a=>if a<1 then .int .u8 (0)else if a<2 then aC 0 else if a<4 then au 0 else aC 0) 0 1 (fun _ => .int .u8 (1))) 3 1 (fun _=>au 10))))<|dJ (Oa A f (c.below m g) 1 (x:=WX) PN (fun j S=>by rcases j with _|_|_|_|_|_|j <;> first|rfl|omega)) (.tuple #[.agg (aA 14 (bM wA)),au 0]) (by rw[arf,aiR]) ?_
 intro w2 L;have⟨U,n⟩:=fq L A m;refine av (.tuple #[.agg (aA 14 (bM wA)),au 0])<|av (.agg (aA 14 (bM wA)))<|av (au 0)<|rR 14 (fun a=>if a<1 then au 0 else if a<8 then aC 0 else if a<9 then .int .u8 (0)else if a<10 then aC 0 else if a<12 then au 0 else aC 0) fun u w3 I i s3 z1 => ?_;have⟨m3,o⟩:=fq s3.old U n;have sM:=iQ I n.size;have ug:=i.lt;refine eP i 0 (h1:=(fV _)) fun w4 m4 F z2 => ?_;have C:aR w4 u 14 (bM wA) 37:=aS m4;have P:=gP F i.ty;have k:=kQ P m3;have d:=F.below o o.size (by omega);refine av (au 0)<|aD<|ay<|av (pt b)<|Lv (.agg (aA 14 (bM wA))) (fD C.aH 0)<|dJ (Es (v:=wA) k aiQ f (c.below d g) (fun _ _=>rfl)) (au 0) (by rw[ap1]) ?_;rintro w5 ⟨B,y⟩;have R:=k.q.typed y;have O:=k.q.CQ y d.size;have p:=Za d O (A_ _);have D:=C.D8 R (by decide);have lm7:=D.lt;refine av (au 0)<|aD<|ay<|av (pt b)<|av (.agg (aA 6 (bK (bK (bK (bK (fun a=>if a<1 then .int .u8 (0)else if a<2 then aC 0 else if a<4 then au 0 else aC 0) 0 1 (fun _ => .int .u8 (3))) 1 1 (fun _=>aC 1099511627777)) 3 1 (fun _=>au 4)) 4 1 (fun _=>aC 1))))<|dJ (Oa B f (c.below p g) 2 (x:=Oc) ZF (fun j S=>by rcases j with _|_|_|_|_|_|j <;> first|rfl|omega)) (.tuple #[.agg (aA 14 (bM zeroE)),au 11]) (by rw[(show iL (bV (kH 2 0).core wA) 2 Oc=zeroE from arh),(show jl (bV (kH 2 0).core wA) 2 Oc=11 from aiS)]) ?_
 intro w6 M;have⟨E,m9,r⟩:=iy M D B p;refine av (.tuple #[.agg (aA 14 (bM zeroE)),au 11])<|av (.agg (aA 14 (bM zeroE)))<|av (au 11)<|rR 14 (fun a=>if a<1 then au 0 else if a<8 then aC 0 else if a<9 then .int .u8 (0)else if a<10 then aC 0 else if a<12 then au 0 else aC 0) fun J w7 t h s6 z3 => ?_;have⟨V,W,s⟩:=iy s6.old E m9 r;have ru:=iQ t r.size;have Cw:=cK t E.lt;have zK:=h.lt;refine eP h 0 (h1:=(fV _)) fun w8 X l z4 => ?_;have m14:aR w8 J 14 (bM zeroE) 37:=aS X;have Y:=V.cO l (by omega);have Q:=gP l h.ty;have Z:=kQ Q W;have G:=l.below s s.size (by omega);refine av (au 11)<|aD<|ay<|av (pt b)<|dJ (WS b w.heap.size 1 _ wL _ Z 2 J2 4 (by omega) (by omega)) (ax := #[(pt b),au 2,aC 1099511627777,au 4]) (.tuple #[aC J2,au 4]) (by rw[lkA.1,lkA.2]) ?_;intro w9 N;have⟨aa,H⟩:=fq N Y G;refine av (.tuple #[aC J2,au 4])<|av (aC J2)<|av (au 4)<|av (aC J2)<|av (au 4)<|aD<|ay<|av (au 0)<|Lv aG (eO rfl)<|av aG<|av (pf u 1)<|Lv (aC ((wA:EvM).seq)) (aM aa.aH 1)<|Lv aG (eO rfl)<|av aG<|av aG<|av (au 0)<|Lv aG (eO rfl)<|av aG<|av aG<|av (au 11)<|Lv aG (eO rfl)<|av aG<|av aG<|av (aC J2)<|Lv aG (eO rfl)<|av aG<|av aG ?_;refine av (au 4)<|Lv aG (eO rfl)<|av aG<|av aG<|aD<|Wr<|aJ aG ?_;exact⟨rfl,H⟩
section
namespace Rt
section
variable {L:eY} {i:Int} {x:xL}
theorem Od(h : ¬ jl L i x=0):iL L i x=zeroE:=by unfold iL; rw[b_ h]
theorem ZG(h:jl L i x=0):jH i=true/\iL L i x=jk L.known i x/\bA L (iL L i x)=0:=by
 have a:jH i=true:=by
  cases c:jH i with
  | true=>rfl
  | false=>rw[(BD c).1]at h; cases h
 have e:iL L i x=jk L.known i x:=by unfold iL; rw[d_ h]
 exact⟨a,e,by rw[e,<- nN a]; exact h⟩
end
end Rt
end
namespace Rt
def rM(a x b:Int):xL:=⟨3,a,0,x,b,0⟩
theorem aeZ{a x b:Int}(h1:iA a)(c:pV x)(d:iA b):Gc (rM a x b):=⟨⟨by show(0:Int)<=3; decide,by show(3:Int)<=255; decide⟩,h1,⟨by show _<=(0:Int); decide,by show(0:Int)<=_; decide⟩,c,d,⟨by show(0:Int)<=0; decide,by show(0:Int)<=_; decide⟩⟩
theorem aiW{k n r:Nat}(e:r=k % (n+1)):Int.tmod (k:Int) ((n:Int)+1)=(r:Int):=by
 rw[show(n:Int)+1=((n+1:Nat):Int) by omega]; exact D5 e
theorem ZH{m:kR}{N k:Nat}(h:Inv m.core N):iA (EY m k):=by
 unfold EY;by_cases c:m.s.nn=0
 ·rw[d_ c]; exact⟨by decide,by decide⟩
 rw[b_ c];have a:k % m.core.nn<m.core.nn:=J_ _ (by show 0<m.s.nn; omega);have b:1<=m.id (k % m.s.nn):=h.pos _ a;have d:m.id (k % m.s.nn)<7696581394432:=h.top _ a;exact⟨by omega,by omega⟩
end Rt
set_option maxRecDepth 20000 in
set_option maxHeartbeats 2000000 in
theorem Oe(E:Nat)(A:Option Addr)(t F:Nat)(xa:Nat->DZ)(z b:Nat)(g:Int)(D:Nat)(w:World)(hrb:E<=255)(hpb:z<=255)(hmb:b<=65535)(V:iA g)(hqb:D<=255)(hxa : ∀ k,k<t->FZ (xa k))(WW:mY w A t 9 (flat 9 fun k=>F3 (xa k)))(l:iN w 0 0 8 Bu) :
 Calls Tryz.prog 4 #[.int .u8 (E:Int),.slice A (t) (F),.int .u8 (z:Int),.int .u16 (b:Int),aC g,.int .u8 (D:Int)] w fun e w'=>e = .returned (.bool true)/\Below w.heap.size w w':=by
 have o:=l.lt (by omega);have J:1<=w.heap.size:=by omega
 have axe:=V.1;have axf:=V.2;refine Kent Tryz.func4 129 ?_;refine ay<|av aF<|aD<|Ws<|ay<|av (.slice A (t) (F)) ?_;by_cases I:(decide ((t:Int)<=60))=true
 ·refine lU (aaj _ _ _ _) (ax := #[.slice A (t) (F)]) aG (by rw[I])<|av aF<|av aF<|av (aC g) ?_;by_cases c28:g=0
  ·refine Lv aG (eO c28)<|av aG<|aD<|aO<|ay<|dJ (nO _ (l.below (Below.refl w.heap.size w) o)) _ rfl ?_;intro w1 hb1;have b1:=bE hb1 (Below.refl w.heap.size w);refine av aG<|aD<|Wr<|sR<|aJ aG ?_;exact⟨rfl,b1⟩
  refine Lv aF (fO c28)<|av aF<|aD<|aK<|Wk<|sN<|Ws ?_;have hna:=h_ I;refine Wl<|av (.int .u8 (E:Int))<|av (.slice A (t) (F))<|av (.int .u8 (z:Int))<|mh (WV E A t F xa z _ (by omega) hrb hpb hxa (WW.up (Below.refl w.heap.size w) rfl) (l.below (Below.refl w.heap.size w) o)) ?_;rintro e9 w2 ⟨p,mq,s,a,N9,he,hwo,aeT,ari,ZC,aiI,arj,hN9,hlo1,hI9,hb2⟩;refine⟨_,he,?_⟩;clear he;have b2:=bE hb2 (Below.refl w.heap.size w);have hWs:=ZC.w;have hFd:=ZC.f a ari;have aiX:=arj.weak (Below.refl w.heap.size w).size;obtain⟨d,hmd⟩ : ∃ q,(s.ml a).core=q:=⟨_,rfl⟩;rw[hmd]at aiX hI9 hFd;have aaF:=hlo1.mono (Below.refl w.heap.size w).size;refine av (.tuple #[(pt p),(pt (s.pl a)),.bool true])<|av (pt p)<|av (pt (s.pl a))<|av aG<|av (pt p)<|av (pt (s.pl a))<|av aG<|aD<|Ws<|ay<|av aG<|av aF<|aD<|aK<|Wk<|sN<|Ws ?_;obtain⟨H,P⟩ : ∃ r,r=E % 6:=⟨_,rfl⟩;have hrn:H<6:=by rw[P]; exact J_ _ (by omega)
  have ewo:a=z % (H+1):=by rw[hwo,P]
  have axg:a<6:=by have:=J_ z (show 0<H+1 by omega); omega
  refine Wl<|av (.int .u8 (z:Int))<|Lv (au z) (dw rfl rfl (by kernel_rfl) Tryz.underlying3 (iC (by omega) rfl))<|av (.int .u8 (E:Int))<|Lv (au E) (dw rfl rfl (by kernel_rfl) Tryz.underlying3 (iC (by omega) rfl))<|Lv (au H) (Fx.uL rfl rfl rfl (by omega) (D5 P))<|Lv (au ((H:Int)+1)) fC<|Lv (au a) (Fx.uL rfl rfl rfl (by omega) (aiW ewo))<|Lv (au ((a:Int)+1)) fC<|av (au ((a:Int)+1))<|aD<|ay<|av (pt (s.pl a))<|av (.int .u8 (D:Int))<|Lv (au D) (dw rfl rfl (by kernel_rfl) Tryz.underlying3 (iC (by omega) rfl))<|dJ (Ub (s.ml a) (s.pl a) D _ aaF.ldg (by omega)) _ rfl ?_;intro w3 hb3;have⟨m1,m2,b3⟩:=iy hb3 aiX aaF b2;refine av (aC (EY (s.ml a) D))<|aD<|Ws ?_;obtain⟨c,T⟩ : ∃ q,q=EY (s.ml a) D:=⟨_,rfl⟩;have ark:iA c:=by rw[T]; exact ZH (N:=N9) (by rw[hmd]; exact hI9)
  refine Wl<|av (.int .u16 (b:Int))<|Lv (au b) (dw rfl rfl (by kernel_rfl) Tryz.underlying2 (iC (by omega) rfl))<|Lv (au ((b:Int)+1)) fC<|av (au ((b:Int)+1))<|aD<|ay<|av (pt p)<|av (au ((a:Int)+1))<|bf (L_ (Value.int .u64) T.symm)<|av (au ((b:Int)+1))<|dJ (WS p _ _ mq d _ m1 ((a:Int)+1) c ((b:Int)+1) (by omega) (by omega)) (ax := #[(pt p),au ((a:Int)+1),aC c,au ((b:Int)+1)]) _ rfl ?_;intro w4 hb4;have⟨m3,m4,b4⟩:=iy hb4 m1 m2 b3;refine av (.tuple #[aC (oG d ((a:Int)+1) c ((b:Int)+1)),au (vL d ((a:Int)+1) c ((b:Int)+1))])<|av (aC (oG d ((a:Int)+1) c ((b:Int)+1)))<|av (au (vL d ((a:Int)+1) c ((b:Int)+1)))<|av (aC (oG d ((a:Int)+1) c ((b:Int)+1)))<|av (au (vL d ((a:Int)+1) c ((b:Int)+1)))<|aD<|Ws ?_;have hak:Gc (rM c ((b:Int)+1) g):=aeZ ark ⟨by omega,by omega⟩ V;refine Wl<|av (pt p)<|av (au ((a:Int)+1))<|bf (L_ (Value.int .u64) T.symm)<|av (au ((b:Int)+1))<|av (aC g)<|av (.agg (aA 6 (bK (bK (bK (bK (fun h=>if h<1 then .int .u8 (0)else if h<2 then aC 0 else if h<4 then au 0 else aC 0) 0 1 (fun _ => .int .u8 (3))) 1 1 (fun _=>aC c)) 3 1 (fun _=>au ((b:Int)+1))) 4 1 (fun _=>aC g))))<|dJ (Oa m3 J (l.below b4 o) ((a:Int)+1) (x:=(rM c ((b:Int)+1) g)) hak (fun j G=>by rcases j with _|_|_|_|_|_|j <;> first|rfl|omega)) _ rfl ?_
  intro w5 hb5;have⟨m5,m6,b5⟩:=iy hb5 m3 m4 b4;refine av (.tuple #[.agg (aA 14 (bM (iL d ((a:Int)+1) (rM c ((b:Int)+1) g)))),au (jl d ((a:Int)+1) (rM c ((b:Int)+1) g))])<|av (.agg (aA 14 (bM (iL d ((a:Int)+1) (rM c ((b:Int)+1) g)))))<|av (au (jl d ((a:Int)+1) (rM c ((b:Int)+1) g)))<|rR 14 (fun h=>if h<1 then au 0 else if h<8 then aC 0 else if h<9 then .int .u8 (0)else if h<10 then aC 0 else if h<12 then au 0 else aC 0) fun Q w6 mo m7 s6 z1 => ?_;have⟨m8,m9,b6⟩:=iy s6.old m5 m6 b5;have sM:=iQ mo b5.size;have ug:=m7.lt;refine eP m7 0 (h1:=(fV _)) fun w7 m10 s7 z2 => ?_;have L:aR w7 Q 14 (bM (iL d ((a:Int)+1) (rM c ((b:Int)+1) g))) 37:=aS m10;have gV:=gP s7 m7.ty;have⟨ab,m13⟩:=BM gV m8 m9;have B:=s7.below b6 b6.size (by omega);refine av (au (jl d ((a:Int)+1) (rM c ((b:Int)+1) g)))<|aD<|Ws<|Ws ?_;have W:=Rq (i:=((a:Int)+1)) (x:=(rM c ((b:Int)+1) g)) hFd hWs ab.i rfl (show 1<=(b:Int)+1 by omega) (show(b:Int)+1<=65536 by omega);refine Wl<|av (au (jl d ((a:Int)+1) (rM c ((b:Int)+1) g))) ?_;by_cases C:(jl d ((a:Int)+1) (rM c ((b:Int)+1) g))=11
  ·have htq:oG d ((a:Int)+1) c ((b:Int)+1)≠0/\1<=vL d ((a:Int)+1) c ((b:Int)+1):=W.2 C;refine Lv aG (eO C)<|av aG<|av (aC (oG d ((a:Int)+1) c ((b:Int)+1)))<|Lv aF (fO htq.1)<|av aF<|av (au (vL d ((a:Int)+1) c ((b:Int)+1)))<|Lv aF (Fx.RJ rfl rfl rfl (by have:=htq.2; omega))<|av aF<|av aF<|av aF<|av (au (jl d ((a:Int)+1) (rM c ((b:Int)+1) g))) ?_;by_cases m:(jl d ((a:Int)+1) (rM c ((b:Int)+1) g))=0
   ·have Z:oG d ((a:Int)+1) c ((b:Int)+1)=0:=W.1 m;refine Lv aG (eO m)<|av aG<|av (aC (oG d ((a:Int)+1) c ((b:Int)+1)))<|Lv aF (jQ Z)<|av aF<|av aF<|aD<|aK<|Wk<|sN<|Ws<|ay<|av (au (jl d ((a:Int)+1) (rM c ((b:Int)+1) g)))<|Lv aG (Fx.MC rfl rfl rfl (by rw[C]; decide))<|aD<|aO<|Ws ?_;have u:(iL d ((a:Int)+1) (rM c ((b:Int)+1) g))=zeroE:=Od (by rw[C]; decide);refine Wl<|Lv (.agg (aA 14 (bM (iL d ((a:Int)+1) (rM c ((b:Int)+1) g))))) (fD L.aH 0)<|av (.agg (aA 14 (fun h=>if h<1 then au 0 else if h<8 then aC 0 else if h<9 then .int .u8 (0)else if h<10 then aC 0 else if h<12 then au 0 else aC 0)))<|Lv aG (Fx.rQ (n:=14) (ks := [(some .i64),(some .u64),(some .u64),(some .u64),(some .u64),(some .u64),(some .u64),(some .u64),(some .u8),(some .u64),(some .i64),(some .i64),(some .u64),(some .u64)]) (X:=bM (iL d ((a:Int)+1) (rM c ((b:Int)+1) g))) (Y:=fun h=>if h<1 then au 0 else if h<8 then aC 0 else if h<9 then .int .u8 (0)else if h<10 then aC 0 else if h<12 then au 0 else aC 0) 12 true rfl rfl rfl (Fx.Dz (fun j G=>by rw[u]; exact(show bM zeroE j=_ from by rcases j with _|_|_|_|_|_|_|_|_|_|_|_|_|_|j <;> first|rfl|omega))) (by rw[u]; exact tO ql) (Bp (tO ql) (fun j G=>by rcases j with _|_|_|_|_|_|_|_|_|_|_|_|_|_|j <;> first|rfl|omega)) rfl (by kernel_rfl) (by kernel_rfl) (by kernel_rfl) (by kernel_rfl) (by kernel_rfl))<|av aG<|dJ (nO _ (l.below B o)) _ rfl ?_
    intro w8 hb6;have b8:=bE hb6 B;refine av aG<|av aG<|aD<|Wr<|sR<|aJ aG ?_;exact⟨rfl,b8⟩
   refine Lv aF (fO m)<|av aF<|dB<|dB<|av aF<|av aF<|aD<|aK<|Wk<|sN<|Ws<|ay<|av (au (jl d ((a:Int)+1) (rM c ((b:Int)+1) g)))<|Lv aG (Fx.MC rfl rfl rfl (by rw[C]; decide))<|aD<|aO<|Ws ?_;have u:(iL d ((a:Int)+1) (rM c ((b:Int)+1) g))=zeroE:=Od (by rw[C]; decide);refine Wl<|Lv (.agg (aA 14 (bM (iL d ((a:Int)+1) (rM c ((b:Int)+1) g))))) (fD L.aH 0)<|av (.agg (aA 14 (fun h=>if h<1 then au 0 else if h<8 then aC 0 else if h<9 then .int .u8 (0)else if h<10 then aC 0 else if h<12 then au 0 else aC 0)))<|Lv aG (Fx.rQ (n:=14) (ks := [(some .i64),(some .u64),(some .u64),(some .u64),(some .u64),(some .u64),(some .u64),(some .u64),(some .u8),(some .u64),(some .i64),(some .i64),(some .u64),(some .u64)]) (X:=bM (iL d ((a:Int)+1) (rM c ((b:Int)+1) g))) (Y:=fun h=>if h<1 then au 0 else if h<8 then aC 0 else if h<9 then .int .u8 (0)else if h<10 then aC 0 else if h<12 then au 0 else aC 0) 12 true rfl rfl rfl (Fx.Dz (fun j G=>by rw[u]; exact(show bM zeroE j=_ from by rcases j with _|_|_|_|_|_|_|_|_|_|_|_|_|_|j <;> first|rfl|omega))) (by rw[u]; exact tO ql) (Bp (tO ql) (fun j G=>by rcases j with _|_|_|_|_|_|_|_|_|_|_|_|_|_|j <;> first|rfl|omega)) rfl (by kernel_rfl) (by kernel_rfl) (by kernel_rfl) (by kernel_rfl) (by kernel_rfl))<|av aG<|dJ (nO _ (l.below B o)) _ rfl ?_
   intro w9 hb7;have b9:=bE hb7 B;refine av aG<|av aG<|aD<|Wr<|sR<|aJ aG ?_;exact⟨rfl,b9⟩
  refine Lv aF (fO C)<|av aF<|dB<|dB<|dB<|dB<|dB<|dB<|av aF<|av aF<|av (au (jl d ((a:Int)+1) (rM c ((b:Int)+1) g))) ?_;by_cases m:(jl d ((a:Int)+1) (rM c ((b:Int)+1) g))=0
  ·have Z:oG d ((a:Int)+1) c ((b:Int)+1)=0:=W.1 m;refine Lv aG (eO m)<|av aG<|av (aC (oG d ((a:Int)+1) c ((b:Int)+1)))<|Lv aF (jQ Z)<|av aF<|av aF<|aD<|aK<|Wk<|sN<|Ws<|ay<|av (au (jl d ((a:Int)+1) (rM c ((b:Int)+1) g)))<|Lv aF (jQ m)<|aD<|aK<|Wk<|sN<|Ws ?_;obtain⟨_,hmv,K⟩:=ZG m;rw[hmv]at K;have aa:gu (jk d.known ((a:Int)+1) (rM c ((b:Int)+1) g)):=N8 ab.i.kn hak (by unfold jH; simp; omega);obtain⟨hE2,hk1⟩:=Ob K;have arl:aL (jk d.known ((a:Int)+1) (rM c ((b:Int)+1) g))=a:=(by show(((a:Int)+1)-1).toNat=a; omega);have hk2:(bV (bV d (jk d.known ((a:Int)+1) (rM c ((b:Int)+1) g))) (jk d.known ((a:Int)+1) (rM c ((b:Int)+1) g))).known a=(jk d.known ((a:Int)+1) (rM c ((b:Int)+1) g)).seq:=(by rw[Rl (by rw[hE2]; decide),<- hk1,arl]);have hsq:(jk d.known ((a:Int)+1) (rM c ((b:Int)+1) g)).seq=d.known a+1:=(by show d.known (((a:Int)+1)-1).toNat+1=_; rw[show(((a:Int)+1)-1).toNat=a by omega]);have m20:aR w7 Q 14 (bM (jk d.known ((a:Int)+1) (rM c ((b:Int)+1) g))) 37:=(by have q9:=L; rw[hmv]at q9; exact q9);refine zC [0,1,2,3,4,5,6,7,8,9,10,11,12,13,14,15,16,17,19,20,22,23,18,21,24,25,26,27,28,29] [0,4,2,0,0,0,4,2,0,0,0,0,4,2,0,0,0,0,2,0,0,0,0,1,0,0,0,2,0,0] (Fx.xD [114]) Fx.xD.refl Fx.xD.trans (fG := [(2,1,[1]),(7,1,[4,2,1]),(13,1,[10,9,4,2,1]),(18,1,[16,15,10,9,4,2,1]),(27,1,[26,25,16,15,10,9,4,2,1]),(3,2,[2]),(4,2,[2]),(5,2,[4,2]),(6,2,[4,2]),(7,2,[4,2]),(8,2,[4,2]),(9,2,[4,2]),(10,2,[9,4,2]),(11,2,[10,9,4,2]),(12,2,[10,9,4,2]),(13,2,[10,9,4,2]),(14,2,[10,9,4,2]),(15,2,[10,9,4,2]),(16,2,[15,10,9,4,2]),(17,2,[16,15,10,9,4,2]),(19,2,[16,15,10,9,4,2]),(20,2,[16,15,10,9,4,2]),(22,2,[16,15,10,9,4,2]),(23,2,[16,15,10,9,4,2]),(18,2,[16,15,10,9,4,2]),(21,2,[16,15,10,9,4,2]),(24,2,[16,15,10,9,4,2]),(25,2,[16,15,10,9,4,2]),(26,2,[25,16,15,10,9,4,2]),(27,2,[26,25,16,15,10,9,4,2]),(28,2,[26,25,16,15,10,9,4,2]),(29,2,[2]),(7,6,[6]),(13,6,[10,7,6]),(18,6,[16,15,10,7,6]),(27,6,[26,25,16,15,10,7,6]),(8,7,[7]),(9,7,[8,7]),(10,7,[7]),(11,7,[10,7]),(12,7,[10,7]),(13,7,[10,7]),(14,7,[10,7]),(15,7,[10,7]),(16,7,[15,10,7]),(17,7,[16,15,10,7]),(19,7,[16,15,10,7]),(20,7,[16,15,10,7]),(22,7,[16,15,10,7]),(23,7,[16,15,10,7]),(18,7,[16,15,10,7]),(21,7,[16,15,10,7]),(24,7,[16,15,10,7]),(25,7,[16,15,10,7]),(26,7,[25,16,15,10,7]),(27,7,[26,25,16,15,10,7]),(28,7,[26,25,16,15,10,7]),(29,7,[7]),(13,12,[12]),(18,12,[16,13,12]),(27,12,[26,25,16,13,12]),(14,13,[13]),(15,13,[14,13]),(16,13,[13]),(17,13,[16,13]),(19,13,[16,13]),(20,13,[16,13]),(22,13,[16,13]),(23,13,[16,13]),(18,13,[16,13]),(21,13,[16,13]),(24,13,[16,13]),(25,13,[16,13]),(26,13,[25,16,13]),(27,13,[26,25,16,13]),(28,13,[26,25,16,13]),(29,13,[13]),(21,18,[18]),(24,18,[21,18]),(25,18,[24,21,18]),(26,18,[18]),(27,18,[26,18]),(28,18,[26,18]),(29,18,[18]),(28,27,[27]),(29,27,[27])]) (by kernel_rfl) (by kernel_rfl) (by kernel_rfl) (by kernel_rfl) (by kernel_rfl) fun qA dP iE => ?_;have⟨m21,m22,m23,b10⟩:=kV dP ab m13 m20 B;refine aY (pt p)<|Rs (.agg (aA 14 (bM (jk d.known ((a:Int)+1) (rM c ((b:Int)+1) g))))) (fD m23.aH 0) ?_;refine xM<|dJ (PD (v:=(jk d.known ((a:Int)+1) (rM c ((b:Int)+1) g))) m21 aa J (l.below b10 o) (fun _ _=>rfl)) (au 0) (by rw[K]) ?_;intro sO hb8;have s11:=Sb hb8;have⟨ac,mQ,nH,M⟩:=kV hb8 m21 m22 m23 b10;refine Ln ⟨(Fx.xD.zT (Fx.iP.of_below s11.old)),?_⟩;refine Rp aG (fun _=>eO rfl)<|aY aG<|aY (pt p)<|Rs (.agg (aA 14 (bM (jk d.known ((a:Int)+1) (rM c ((b:Int)+1) g))))) (fD nH.aH 0) ?_;refine xM<|dJ (Es (v:=(jk d.known ((a:Int)+1) (rM c ((b:Int)+1) g))) ac aa J (l.below M o) (fun _ _=>rfl)) (au 0) (by rw[K]) ?_;rintro Gi ⟨U,hc1⟩;have R:=ac.q.typed hc1;have aeX:=ac.q.CQ hc1 M.size;have O:=Za M aeX (A_ _);have oq:=mQ.D8 R (by decide);have ad:=nH.D8 R (by decide);have axh:=ad.lt;refine Ln ⟨R,?_⟩;refine Rp aG (fun _=>eO rfl)<|aY aG<|aY aG<|aY (pt p)<|Rs (.agg (aA 14 (bM (jk d.known ((a:Int)+1) (rM c ((b:Int)+1) g))))) (fD ad.aH 0) ?_;refine xM<|dJ (Es (v:=(jk d.known ((a:Int)+1) (rM c ((b:Int)+1) g))) U aa J (l.below O o) (fun _ _=>rfl)) (au 14) (by rw[hE2]) ?_;rintro BR ⟨hq2,hc2⟩;have S:=U.q.typed hc2;have hbw2:=U.q.CQ hc2 O.size
   have b13:=Za O hbw2 (A_ _);have oM:=oq.D8 S (by decide);have oC:=ad.D8 S (by decide);have axi:=oC.lt;refine Ln ⟨S,?_⟩;refine Rp aG (fun _=>eO rfl)<|aY aG<|aY aG<|aY (pt p)<|aY (au ((a:Int)+1))<|Rp (au a) (fun _=>gD)<|aY (pf Q 1)<|Rd (v:=aC (((jk d.known ((a:Int)+1) (rM c ((b:Int)+1) g)):EvM).seq)) (by rfl) (by rfl) (Fx.xD.refl _) (fun v1 hv1=>bC (x:=bM (jk d.known ((a:Int)+1) (rM c ((b:Int)+1) g))) rfl rfl (by kernel_rfl) (oC.D8 hv1 (by decide)).aH (i:=1) (by omega) (by omega) rfl) ?_;refine xM<|dJ (JD hq2) _ rfl ?_;intro Gt hb9;have s12:=Sb hb9;have b14:=bE hb9 b13;refine Ln ⟨(Fx.xD.zT (Fx.iP.of_below s12.old)),?_⟩;refine Rp (aC (((bV (bV d (jk d.known ((a:Int)+1) (rM c ((b:Int)+1) g))) (jk d.known ((a:Int)+1) (rM c ((b:Int)+1) g))).known) a)) (fun v1=>Fx.R4 (j:=a) (y:=rv .u64 ((bV (bV d (jk d.known ((a:Int)+1) (rM c ((b:Int)+1) g))) (jk d.known ((a:Int)+1) (rM c ((b:Int)+1) g))).known)) rfl rfl rfl Tryz.underlying35 (by kernel_rfl) (by kernel_rfl) (by omega) (rfl))<|Rp aG (fun _=>eO hk2)<|aY aG<|aY aG<|xM<|dJ (nO _ (l.below b14 o)) _ rfl ?_;intro Mi XG;have s13:=Sb XG;have b15:=bE XG b14;refine Ln ⟨(Fx.xD.zT (Fx.iP.of_below s13.old)),?_⟩;refine aY aG<|aY aG<|bS<|Wr<|aJ aG ?_;exact⟨rfl,b15⟩
  refine Lv aF (fO m)<|av aF<|dB<|dB<|av aF<|av aF<|aD<|aK<|Wk<|sN<|Ws<|ay<|av (au (jl d ((a:Int)+1) (rM c ((b:Int)+1) g)))<|Lv aG (nk m)<|aD<|aO<|Ws ?_;have u:(iL d ((a:Int)+1) (rM c ((b:Int)+1) g))=zeroE:=Od m;refine Wl<|Lv (.agg (aA 14 (bM (iL d ((a:Int)+1) (rM c ((b:Int)+1) g))))) (fD L.aH 0)<|av (.agg (aA 14 (fun h=>if h<1 then au 0 else if h<8 then aC 0 else if h<9 then .int .u8 (0)else if h<10 then aC 0 else if h<12 then au 0 else aC 0)))<|Lv aG (Fx.rQ (n:=14) (ks := [(some .i64),(some .u64),(some .u64),(some .u64),(some .u64),(some .u64),(some .u64),(some .u64),(some .u8),(some .u64),(some .i64),(some .i64),(some .u64),(some .u64)]) (X:=bM (iL d ((a:Int)+1) (rM c ((b:Int)+1) g))) (Y:=fun h=>if h<1 then au 0 else if h<8 then aC 0 else if h<9 then .int .u8 (0)else if h<10 then aC 0 else if h<12 then au 0 else aC 0) 12 true rfl rfl rfl (Fx.Dz (fun j G=>by rw[u]; exact(show bM zeroE j=_ from by rcases j with _|_|_|_|_|_|_|_|_|_|_|_|_|_|j <;> first|rfl|omega))) (by rw[u]; exact tO ql) (Bp (tO ql) (fun j G=>by rcases j with _|_|_|_|_|_|_|_|_|_|_|_|_|_|j <;> first|rfl|omega)) rfl (by kernel_rfl) (by kernel_rfl) (by kernel_rfl) (by kernel_rfl) (by kernel_rfl))<|av aG<|dJ (nO _ (l.below B o)) _ rfl ?_
  intro Mj abO;have b16:=bE abO B;refine av aG<|av aG<|aD<|Wr<|sR<|aJ aG ?_;exact⟨rfl,b16⟩
 rw[T_]at I;refine lU (aaj _ _ _ _) (ax := #[.slice A (t) (F)]) aF (by rw[I])<|av aG<|av aG<|dB<|dB<|av aG<|aD<|aO<|ay<|dJ (nO _ (l.below (Below.refl w.heap.size w) o)) _ rfl ?_;intro w16 abP;have b17:=bE abP (Below.refl w.heap.size w);refine av aG<|aD<|Wr<|sR<|aJ aG ?_;exact⟨rfl,b17⟩
end Go.Proofs.YtcbedgfikejkoaaGreatDoor
namespace Go.Proofs.YtcbedgfikejkoaaGreatDoor
open Go Go.RowKit Rt
set_option maxRecDepth 100000
theorem kG : Tryz.prog.globalNamed "leat/ledger.kinds" = some 0 := by kernel_rfl
theorem kT:(Tryz.prog.globals[0]?).map (·.type)=some 163:=by kernel_rfl
theorem kC:Tryz.prog.cellsOf 162=1:=by kernel_rfl
theorem kC8:Tryz.prog.cellsOf 163=8:=by kernel_rfl
theorem Mg{H:Type}{enc:TypeId × Value->H}{P:Program}{w:World}{base:Nat}{d:Nat->Bool}{a:Bool}{fuel:Nat}{t:TypeId}{c rs:Array TypeId}{e:Bool}{v:Value}{q:List MemPlace}(b:P.underlying t=some (.func c rs e))(h:DataW.trod enc P w base d a fuel t [v]=some (.nil,q)):v = .nilFunc:=by
 cases fuel with
 | zero=>simp[DataW.trod]at h
 | succ n=>cases v <;> simp[DataW.trod,b]at h <;> rfl
theorem Mh {W : World} (h : laidMetH Tryz.prog [("leat/ledger.kinds", Rows.laid_leat_ledger_kinds)] W) : Fx.iN W 0 0 8 Bu := by
 obtain⟨g,t,e,R,p,V,Z,hv,T⟩:=h.funcs (List.mem_singleton.2 rfl);obtain rfl:=C_ (kG.symm.trans V);obtain rfl:=C_ (kT.symm.trans Z);have U:DataW.trod (funcToken Tryz.prog) Tryz.prog W 0 (fun _=>true) true R 163 e.toList=some (.agg [.nil,.held [40,42,108,101,97,116,47,108,101,100,103,101,114,46,76,101,100,103,101,114,41,46,109,97,107,101,115],.held [40,42,108,101,97,116,47,108,101,100,103,101,114,46,76,101,100,103,101,114,41,46,114,97,105,115,101,115],.held [40,42,108,101,97,116,47,108,101,100,103,101,114,46,76,101,100,103,101,114,41,46,116,97,107,101,115],.held [40,42,108,101,97,116,47,108,101,100,103,101,114,46,76,101,100,103,101,114,41,46,102,114,101,101,115],.held [40,42,108,101,97,116,47,108,101,100,103,101,114,46,76,101,100,103,101,114,41,46,109,111,118,101,115],.held [40,42,108,101,97,116,47,108,101,100,103,101,114,46,76,101,100,103,101,114,41,46,106,111,105,110,115],.held [40,42,108,101,97,116,47,108,101,100,103,101,114,46,76,101,100,103,101,114,41,46,108,101,97,118,101,115]],p):=T;obtain⟨k,m,_,Q,Y,hl,l⟩:=DataW.trod_array Tryz.underlying163 U;have P:k.map (·.1) = [.nil,.held [40,42,108,101,97,116,47,108,101,100,103,101,114,46,76,101,100,103,101,114,41,46,109,97,107,101,115],.held [40,42,108,101,97,116,47,108,101,100,103,101,114,46,76,101,100,103,101,114,41,46,114,97,105,115,101,115],.held [40,42,108,101,97,116,47,108,101,100,103,101,114,46,76,101,100,103,101,114,41,46,116,97,107,101,115],.held [40,42,108,101,97,116,47,108,101,100,103,101,114,46,76,101,100,103,101,114,41,46,102,114,101,101,115],.held [40,42,108,101,97,116,47,108,101,100,103,101,114,46,76,101,100,103,101,114,41,46,109,111,118,101,115],.held [40,42,108,101,97,116,47,108,101,100,103,101,114,46,76,101,100,103,101,114,41,46,106,111,105,110,115],.held [40,42,108,101,97,116,47,108,101,100,103,101,114,46,76,101,100,103,101,114,41,46,108,101,97,118,101,115]]:=by
  have:=L_ Prod.fst Q;simp only[DataW.agg.injEq]at this;exact this.symm
 rw[kC8]at Y;rw[kC]at l;have a : ∀ i,i<8 -> ∀ d,(k.map (·.1))[i]? = some d -> ∃ c q,e[i]? = some c/\DataW.trod (funcToken Tryz.prog) Tryz.prog W 0 (fun _=>true) true m 162 [c]=some (d,q):=fun i X d b=>by
  have f:=l i X;rw[Nat.mul_one]at f;have S:(e.toList.drop i).take 1 = [e.toList[i]'(by omega)]:=by rw[List.drop_eq_getElem_cons (by omega)]; rfl
  rw[S]at f;rw[List.getElem?_map]at b
  cases hx:k[i]? with
  | none=>rw[hx]at b; cases b
  | some x =>
    rw[hx]at f b;simp only[Option.map_some,Option.some.injEq]at b;refine⟨e.toList[i]'(by omega),x.2,?_,by rw[f,<- b]⟩;rw[<- Array.getElem?_toList,o_ (by omega)]
 rw[P]at a;intro j hj;rw[G_,World.var?_cell kG hv j];obtain⟨c0,q0,n,z⟩:=a 0 (by decide) _ rfl;have H:=Mg Tryz.underlying162 z;obtain⟨c1,q1,o,A⟩:=a 1 (by decide) _ rfl;have I:=func_of_trod (f0:=207) Tryz.underlying162 (by kernel_rfl) A;obtain⟨c2,q2,r,B⟩:=a 2 (by decide) _ rfl;have J:=func_of_trod (f0:=208) Tryz.underlying162 (by kernel_rfl) B;obtain⟨c3,q3,s,C⟩:=a 3 (by decide) _ rfl;have K:=func_of_trod (f0:=209) Tryz.underlying162 (by kernel_rfl) C;obtain⟨c4,q4,u,D⟩:=a 4 (by decide) _ rfl;have L:=func_of_trod (f0:=210) Tryz.underlying162 (by kernel_rfl) D;obtain⟨c5,q5,v,E⟩:=a 5 (by decide) _ rfl;have M:=func_of_trod (f0:=211) Tryz.underlying162 (by kernel_rfl) E;obtain⟨c6,q6,w,F⟩:=a 6 (by decide) _ rfl;have N:=func_of_trod (f0:=212) Tryz.underlying162 (by kernel_rfl) F;obtain⟨c7,q7,y,G⟩:=a 7 (by decide) _ rfl;have O:=func_of_trod (f0:=213) Tryz.underlying162 (by kernel_rfl) G
 rcases j with _|_|_|_|_|_|_|_|j
 ·rw[n,H]; rfl
 ·rw[o,I]; rfl
 ·rw[r,J]; rfl
 ·rw[s,K]; rfl
 ·rw[u,L]; rfl
 ·rw[v,M]; rfl
 ·rw[w,N]; rfl
 ·rw[y,O]; rfl
 omega
theorem WY (os : Os) (args : Array Value) : laidMetH Tryz.prog [("leat/ledger.kinds", Rows.laid_leat_ledger_kinds)] ((World.doorLaid Tryz.prog 600 os).forCall (fun _ _ => 0) ⟨#[], args, []⟩).memory :=
 laidMetH_of_parts3 (fuel:=8) (laidMet_of_run' 8 (by kernel_rfl) (by kernel_rfl)) (by kernel_rfl) (by kernel_rfl)
end Go.Proofs.YtcbedgfikejkoaaGreatDoor
