/-
  What the proof of the law rests on, part 8: walks of functions, and plain laws; each says its conditions itself.
-/
import Derived.Test.YtahbiajdgealnaaGreatDoorRows
import Derived.LaidMore
import Derived.OpenShut
import Derived.ProofKit
import Derived.Stop.Joined
import Derived.Test.YtahbiajdgealnaaGreatDoorZG7
set_option maxRecDepth 20000
set_option linter.unusedVariables false
set_option maxHeartbeats 1600000
set_option linter.unusedSimpArgs false
namespace Go.Proofs.YtahbiajdgealnaaGreatDoor
open Go.RowKit Rt
open Fx (dO bB dG fQ jm jl Lv sN Ln Ws Qv Wl Wr Sb Wk rC sR Wb Wx Wo qE Qn xY yu gX yJ tO yt Cm rv aA aP aZ ev Stp aW flat dD jg aR iP nT bD cells_one bE wo jL gY bH bP bR bY bZ gJ gL pY)
section
namespace Rt
def uV(L:fI)(a:Nat)(x:oN):EvM:=⟨(a:Int)+1,L.known a+1,L.known,x.kind,x.node,x.dst,x.aU,x.req,x.of⟩
noncomputable def Ms(L:fI)(a:Nat)(l:List oN):Nat->fI
 | 0=>L
 | q+1=>dH (Ms L a l q) (uV (Ms L a l q) a (l.getD q dB))
def oU(x:Nat->Int)(a b:Nat):Nat->Int:=if 0<Rt.L x a then upd x (18+a*6+b) (x (18+a*6+b)+Rt.L x a)else x
theorem afr{L:fI}{R b:Nat->Nat->Int}{K a:Nat->Int}(h1:R=b)(c:K=a):({ L with R:=R,known:=K }:fI) = { L with R:=b,known:=a }:=by rw[h1,c]
theorem afs{L:fI}{R:Nat->Nat->Int}{F:Nat->Bool}{K a:Nat->Int}(b:K=a):({ L with R:=R,left:=F,known:=K }:fI) = { L with R:=R,left:=F,known:=a }:=by rw[b]
def rT(L:fI)(a b k c:Nat):fI := { L with R:=fun q=>if q<k then oU (L.R q) a b else L.R q,known:=aH L.known a (L.known a+c) }
structure Z9(L:fI)(a b:Nat):Prop where
 a6:a<6
 b6:b<6
 ne:a≠b
 ia:L.inn a=true
 la:L.left a=false
 ib:L.inn b=true
 lb:L.left b=false
 kn : ∀ q,q<6->0<=L.known q/\L.known q<=1000
 sm : ∀ k,k<L.nn->(∀ p,L.R k p<=1099511627776)/\nE (L.R k)<=1099511627776
section
variable {L:fI} {a b k c N n:Nat} {x:Nat->Int} {v:EvM}
theorem Oy{K:Nat->Int}{y:oN}(b : ∀ q,q<6->0<=K q/\K q<=2000)(ha:a<6)(hy:om ⟨(a:Int)+1,K a+1,K,y.kind,y.node,y.dst,y.aU,y.req,y.of⟩=true)(g:dz ⟨(a:Int)+1,K a+1,K,y.kind,y.node,y.dst,y.aU,y.req,y.of⟩=true):bS ⟨(a:Int)+1,K a+1,K,y.kind,y.node,y.dst,y.aU,y.req,y.of⟩=true:=by
 have f:wZ ⟨(a:Int)+1,K a+1,K,y.kind,y.node,y.dst,y.aU,y.req,y.of⟩=true:=by
  unfold wZ; rw[List.all_eq_true]; intro j h; exact f_ (by have:=b j (O_.1 h); show K j<_; omega)
 have:=b a ha;have e:((a:Int)+1-1).toNat=a:=by omega
 have c:mD ((a:Int)+1)=true:=by unfold mD; simp; omega
 have d:decide (K ((a:Int)+1-1).toNat=K a+1-1)=true:=f_ (by rw[e]; omega);unfold bS;rw[f,hy,g];show(mD ((a:Int)+1)&&decide (1<=K a+1)&&decide (K a+1<1099511627776)&&decide (K ((a:Int)+1-1).toNat=K a+1-1)&&true&&true&&true)=true;rw[c,d,f_ (show 1<=K a+1 by omega),f_ (show K a+1<1099511627776 by omega)]; rfl
theorem Mt{M:fI}{y:oN}(ha:a<6)(c:bS (uV M a y)=true)(hi:M.inn a=true)(e:M.left a=false):bQ M (uV M a y)=dS M (uV M a y):=by
 have b:aO (uV M a y)=a:=by show((a:Int)+1-1).toNat=a; omega
 have d:dI M.known (uV M a y)=true:=F5 c (by rw[b]; rfl) fun q _=>N_ _;unfold bQ;rw[b_ (by rw[c]; decide),b_ (by rw[JX d]; decide),b_ (by rw[d]; decide),b_];rw[b,hi,e]; decide
theorem aac(h:may x=true)(ha:a<6):0<=Rt.L x a/\Rt.L x a<=nE x:=by
 have p:=((jX x).1 h).2.1;have l:=fun k b=>(p k b).1;have f : ∀ k,k<6->F x k<=C x k:=fun k b=>(p k b).2.1;have:=l 0 (by decide); have:=l 1 (by decide); have:=l 2 (by decide); have:=l 3 (by decide); have:=l 4 (by decide); have:=l 5 (by decide);have:=f 0 (by decide); have:=f 1 (by decide); have:=f 2 (by decide); have:=f 3 (by decide); have:=f 4 (by decide); have:=f 5 (by decide);have s:Rt.L x 0+Rt.L x 1+Rt.L x 2+Rt.L x 3+Rt.L x 4+Rt.L x 5=nE x-mE x:=by simp only[Rt.L,mE,nE]; omega
 have u:0<=mE x:=by unfold mE; omega
 refine⟨l a ha,?_⟩
 rcases(show a=0\/a=1\/a=2\/a=3\/a=4\/a=5 by omega)with e|e|e|e|e|e <;> rw[e] <;> omega
theorem Xt(h:may x=true)(ha:a<6)(d:b<6)(j:a≠b)(c:0<Rt.L x a)(f:x (18+a*6+b)<=1099511627776)(g:nE x<=1099511627776):cK x ((a:Int)+1) ((b:Int)+1) (Rt.L x a)=(oU x a b,0):=by
 have i:=aac h ha;have e:jU ((a:Int)+1) ((b:Int)+1)=18+a*6+b:=by unfold jU; rw[show((a:Int)+1).toNat-1=a by omega,show((b:Int)+1).toNat-1=b by omega]
 unfold cK
 rcases lW x (Rt.L x a) (gG ((a:Int)+1)&&gG ((b:Int)+1)) (mU x ((a:Int)+1) ((b:Int)+1) (Rt.L x a)) (jU ((a:Int)+1) ((b:Int)+1))with ⟨_,_,q⟩|⟨_,q⟩
 ·refine M_ ⟨h,by omega,by omega,?_,?_,?_⟩ q
  ·unfold gG; simp; omega
  ·unfold mU; rw[b_ (by omega),jP h a ha,g_ (by omega)]; rfl
  rw[e]; omega
 rw[q,e]; unfold oU; rw[d_ c]
theorem aad(h:Z9 L a b)(l:Inv0 L N)(d:k<L.nn)(z:c<=100)(s:0<Rt.L (L.R k) a) :
 bQ (rT L a b k c) (uV (rT L a b k c) a (rA (L.id k) ((b:Int)+1) (cB (L.R k) ((a:Int)+1))))=0/\dH (rT L a b k c) (uV (rT L a b k c) a (rA (L.id k) ((b:Int)+1) (cB (L.R k) ((a:Int)+1))))=rT L a b (k+1) (c+1):=by
 have f:=l.may k d;have A:=aac f h.a6;have u:=(h.sm k d).2;have n:=jP f a h.a6;have r:rA (L.id k) ((b:Int)+1) (cB (L.R k) ((a:Int)+1))=⟨5,L.id k,(b:Int)+1,Rt.L (L.R k) a,0,0⟩:=by
  unfold rA;rw[n,show XY (Rt.L (L.R k) a) 1125899906842624=Rt.L (L.R k) a by unfold XY; split <;> omega]
 rw[r];have t : ∀ q,q<6->0<=(rT L a b k c).known q/\(rT L a b k c).known q<=2000:=fun q x=>by
  have:=h.kn q x;show 0<=aH L.known a (L.known a+c) q/\aH L.known a (L.known a+c) q<=2000;unfold aH;split
  ·subst_vars; omega
  ·omega
 have v:bS (uV (rT L a b k c) a ⟨5,L.id k,(b:Int)+1,Rt.L (L.R k) a,0,0⟩)=true:=Oy t h.a6 (by simp[om,ku]) (by
  have:=h.b6; have:=h.ne;unfold dz someE kN mD;simp;omega)
 have g:(rT L a b k c).node (L.id k)=(k:Int):=l.at d;have p:aO (uV (rT L a b k c) a ⟨5,L.id k,(b:Int)+1,Rt.L (L.R k) a,0,0⟩)=a:=by show((a:Int)+1-1).toNat=a; omega
 have o:(rT L a b k c).R k=L.R k:=b_ (by omega);have y:=h.b6;have w:=Xt f h.a6 h.b6 h.ne s ((h.sm k d).1 _) u;have m:vU (rT L a b k c) (uV (rT L a b k c) a ⟨5,L.id k,(b:Int)+1,Rt.L (L.R k) a,0,0⟩)=(oU (L.R k) a b,0):=by
  show cK ((rT L a b k c).R ((rT L a b k c).node (L.id k)).toNat) ((a:Int)+1) ((b:Int)+1) (Rt.L (L.R k) a)=_;rw[g,show(k:Int).toNat=k by omega,o,w]
 have j:bQ (rT L a b k c) (uV (rT L a b k c) a ⟨5,L.id k,(b:Int)+1,Rt.L (L.R k) a,0,0⟩)=0:=by
  rw[Mt h.a6 v h.ia h.la];show ow (rT L a b k c) (uV (rT L a b k c) a ⟨5,L.id k,(b:Int)+1,Rt.L (L.R k) a,0,0⟩)=0;show(if(rT L a b k c).node (L.id k)<0 then(9:Int)else if(b:Int)+1<1\/6<(b:Int)+1\/L.inn ((b:Int)+1-1).toNat=false then 10 else(vU (rT L a b k c) (uV (rT L a b k c) a ⟨5,L.id k,(b:Int)+1,Rt.L (L.R k) a,0,0⟩)).2)=0;rw[b_ (show ¬ (rT L a b k c).node (L.id k)<0 by rw[g]; omega),b_,m];rintro (q|q|q)
  ·omega
  ·omega
  ·rw[show((b:Int)+1-1).toNat=b by omega,h.ib]at q; cases q
 refine⟨j,?_⟩;unfold dH;rw[d_ j];show DR (AY (rT L a b k c) _) _=_;unfold DR AY;rw[m,p];show({ (rT L a b k c)with R:=aH (rT L a b k c).R ((rT L a b k c).node (L.id k)).toNat (oU (L.R k) a b),known:=aH (rT L a b k c).known a ((rT L a b k c).known a+1) }:fI)=_;rw[g,show(k:Int).toNat=k by omega];refine afr (L:=L) (R:=aH (fun q=>if q<k then oU (L.R q) a b else L.R q) k (oU (L.R k) a b)) (K:=aH (aH L.known a (L.known a+c)) a (aH L.known a (L.known a+c) a+1)) ?_ ?_
 ·funext q
  unfold aH;by_cases e:q=k
  ·rw[d_ e,d_ (show q<k+1 by omega),e]
  rw[b_ e];show(if q<k then oU (L.R q) a b else L.R q)=if q<k+1 then oU (L.R q) a b else L.R q;by_cases i:q<k
  ·rw[d_ i,d_ (show q<k+1 by omega)]
  rw[b_ i,b_ (show ¬ q<k+1 by omega)]
 funext q
 unfold aH;split
 ·rw[d_ rfl]; omega
 rfl
theorem aae(f : ¬ 0<Rt.L (L.R k) a):rT L a b (k+1) c=rT L a b k c:=by
 unfold rT
 congr 1
 funext q
 by_cases e:q=k
 ·rw[d_ (show q<k+1 by omega),b_ (show ¬ q<k by omega),e]; unfold oU; rw[b_ f]
 by_cases d:q<k
 ·rw[d_ (show q<k+1 by omega),d_ d]
 rw[b_ (show ¬ q<k+1 by omega),b_ d]
theorem E5{l:List oN}{y:oN}{q:Nat}:(q<l.length->(l ++ [y]).getD q dB=l.getD q dB)/\(l ++ [y]).getD l.length dB=y:=by
 refine⟨fun h => ?_,?_⟩
 ·rw[r_,r_,List.getElem?_append_left h]
 rw[r_,List.getElem?_append_right (A_ _),Nat.sub_self]; rfl
theorem Oz(h:Z9 L a b)(f:Inv0 L N)(l:List oN) : ∀ k,k<=L.nn->(∀ q,q<(eG L.id L.R ((a:Int)+1) ((b:Int)+1) k).length->l.getD q dB=(eG L.id L.R ((a:Int)+1) ((b:Int)+1) k).getD q dB) ->
 Ms L a l (eG L.id L.R ((a:Int)+1) ((b:Int)+1) k).length=rT L a b k (eG L.id L.R ((a:Int)+1) ((b:Int)+1) k).length /\ ∀ q,q<(eG L.id L.R ((a:Int)+1) ((b:Int)+1) k).length->bQ (Ms L a l q) (uV (Ms L a l q) a (l.getD q dB))=0
 | 0,_,_=>by
   refine⟨?_,fun q d=>M_ d (z_ _)⟩;show L=rT L a b 0 0;unfold rT;have n:(fun q=>if q<0 then oU (L.R q) a b else L.R q)=L.R:=(by funext q; rw[b_ (z_ _)]);have o:aH L.known a (L.known a+((0:Nat):Int))=L.known:=by
    funext q; unfold aH; split
    ·subst_vars; omega
    ·rfl
   rw[n,o]
 | k+1,hk,hl=>by
   have i:=jP (f.may k (by omega)) a h.a6;have v:=tK L.id L.R ((a:Int)+1) ((b:Int)+1) k;have w:=f.nn;by_cases g:0<cB (L.R k) ((a:Int)+1)
   ·have e:eG L.id L.R ((a:Int)+1) ((b:Int)+1) (k+1)=eG L.id L.R ((a:Int)+1) ((b:Int)+1) k ++ [rA (L.id k) ((b:Int)+1) (cB (L.R k) ((a:Int)+1))]:=by
     show leave1 _ _ _ _=_;unfold leave1; rw[d_ g]
    rw[e]at hl ⊢;have p : ∀ q,q<(eG L.id L.R ((a:Int)+1) ((b:Int)+1) k).length->l.getD q dB=(eG L.id L.R ((a:Int)+1) ((b:Int)+1) k).getD q dB:=fun q d=>(hl q (by rw[E_]; exact Nat.lt_add_right _ d)).trans ((E5 (q:=q)).1 d);obtain⟨m,s⟩:=Oz h f l k (by omega) p;have j:l.getD (eG L.id L.R ((a:Int)+1) ((b:Int)+1) k).length dB=rA (L.id k) ((b:Int)+1) (cB (L.R k) ((a:Int)+1)):=(hl _ (by rw[E_]; show _<_+1; omega)).trans (E5 (q:=0)).2;obtain⟨t,u⟩:=aad (c:=(eG L.id L.R ((a:Int)+1) ((b:Int)+1) k).length) h f (show k<L.nn by omega) (by omega) (by rw[<- i]; exact g);have r:Ms L a l ((eG L.id L.R ((a:Int)+1) ((b:Int)+1) k).length+1)=rT L a b (k+1) ((eG L.id L.R ((a:Int)+1) ((b:Int)+1) k).length+1):=by
     show dH (Ms L a l _) (uV (Ms L a l _) a (l.getD _ dB))=_;rw[m,j,u]
    rw[E_];refine⟨r,fun q d => ?_⟩;by_cases c:q=(eG L.id L.R ((a:Int)+1) ((b:Int)+1) k).length
    ·rw[c,m,j]; exact t
    ·exact s q (by have d:q<(eG L.id L.R ((a:Int)+1) ((b:Int)+1) k).length+1:=d; omega)
   ·have e:eG L.id L.R ((a:Int)+1) ((b:Int)+1) (k+1)=eG L.id L.R ((a:Int)+1) ((b:Int)+1) k:=by
     show leave1 _ _ _ _=_;unfold leave1; rw[b_ g]
    rw[e]at hl ⊢;rw[aae (by rw[<- i]; exact g)];exact Oz h f l k (by omega) hl
def bL(L:fI)(a b:Nat):List oN:=eG L.id L.R ((a:Int)+1) ((b:Int)+1) L.nn ++ [mo]
def kF(L:fI)(a b c:Nat):fI := { rT L a b L.nn c with left:=aH L.left a true,known:=aH L.known a (L.known a+((c+1:Nat):Int)) }
theorem aaf(h:Z9 L a b)(g:Inv0 L N):(∀ q,q<(bL L a b).length->bQ (Ms L a (bL L a b) q) (uV (Ms L a (bL L a b) q) a ((bL L a b).getD q dB))=0)/\Ms L a (bL L a b) (bL L a b).length=kF L a b (eG L.id L.R ((a:Int)+1) ((b:Int)+1) L.nn).length:=by
 obtain⟨j,o⟩:=Oz h g (bL L a b) L.nn (A_ _) (fun q d=>(E5 (q:=q)).1 d);have i:(bL L a b).getD (eG L.id L.R ((a:Int)+1) ((b:Int)+1) L.nn).length dB=mo:=(E5 (q:=0)).2;have m:(bL L a b).length=(eG L.id L.R ((a:Int)+1) ((b:Int)+1) L.nn).length+1:=E_;have p:=tK L.id L.R ((a:Int)+1) ((b:Int)+1) L.nn;have r:=g.nn;generalize hc:(eG L.id L.R ((a:Int)+1) ((b:Int)+1) L.nn).length=c at *;have l : ∀ q,q<6->0<=(rT L a b L.nn c).known q/\(rT L a b L.nn c).known q<=2000:=fun q d=>by
  have:=h.kn q d;show 0<=aH L.known a (L.known a+c) q/\aH L.known a (L.known a+c) q<=2000;unfold aH;split
  ·subst_vars; omega
  ·omega
 have n:bS (uV (rT L a b L.nn c) a mo)=true:=Oy (y:=mo) l h.a6 (by simp[om,ku,mo]) (by simp[dz,mo]);have k:aO (uV (rT L a b L.nn c) a mo)=a:=by show((a:Int)+1-1).toNat=a; omega
 have f:bQ (rT L a b L.nn c) (uV (rT L a b L.nn c) a mo)=0:=by rw[Mt h.a6 n h.ia h.la]; rfl
 rw[m];refine⟨fun q d => ?_,?_⟩
 ·by_cases e:q=c
  ·rw[e,j,i]; exact f
  exact o q (by omega)
 show dH (Ms L a (bL L a b) c) (uV (Ms L a (bL L a b) c) a ((bL L a b).getD c dB))=_;rw[j,i];unfold dH;rw[d_ f];show({ rT L a b L.nn c with left:=aH L.left (aO (uV (rT L a b L.nn c) a mo)) true,known:=aH (rT L a b L.nn c).known (aO (uV (rT L a b L.nn c) a mo)) ((rT L a b L.nn c).known (aO (uV (rT L a b L.nn c) a mo))+1) }:fI)=_;rw[k];refine afs (L:=L) (R:=fun q=>if q<L.nn then oU (L.R q) a b else L.R q) (F:=aH L.left a true) (K:=aH (aH L.known a (L.known a+c)) a (aH L.known a (L.known a+c) a+1)) ?_
 funext q
 show aH (aH L.known a (L.known a+c)) a (aH L.known a (L.known a+c) a+1) q=aH L.known a (L.known a+((c+1:Nat):Int)) q;unfold aH;split
 ·rw[d_ rfl]; omega
 rfl
theorem Xu(h:may x=true)(ha:a<6)(p:b<6)(t:a≠b)(q:x (18+a*6+b)<=1099511627776)(r:nE x<=1099511627776)(s:k<6):may (oU x a b)=true/\Rt.L (oU x a b) k=if k=a then 0 else if k=b then Rt.L x b+Rt.L x a else Rt.L x k:=by
 by_cases n:0<Rt.L x a
 ·have o:=Xt h ha p t n q r;obtain⟨i,f,_,_,_,j,m,_,_,_,g,_⟩:=zJ (show(cK x ((a:Int)+1) ((b:Int)+1) (Rt.L x a)).2=0 by rw[o]);have j:i=a:=by omega
  have m:f=b:=by omega
  subst j m;rw[o]at g;refine⟨g.may,?_⟩;rw[g.l k s];by_cases c:k=i
  ·rw[d_ c,b_ (show ¬ k=f by omega),d_ c,c]; omega
  rw[b_ c,b_ c];by_cases d:k=f
  ·rw[d_ d,d_ d,d]; omega
  rw[b_ d,b_ d]; omega
 have u:=(aac h ha).1;have e:oU x a b=x:=by unfold oU; rw[b_ n]
 rw[e];refine⟨h,?_⟩;by_cases c:k=a
 ·rw[d_ c,c]; omega
 rw[b_ c];by_cases d:k=b
 ·rw[d_ d,d]; omega
 rw[b_ d]
theorem ajm(h:Z9 L a b)(j:Inv0 L N)(l:c<=100):bQ (kF L a b c) (uV (kF L a b c) a ⟨6,0,(b:Int)+1,0,0,0⟩)=10:=by
 have g : ∀ q,q<6->0<=(kF L a b c).known q/\(kF L a b c).known q<=2000:=fun q i=>by
  have:=h.kn q i;show 0<=aH L.known a (L.known a+((c+1:Nat):Int)) q/\aH L.known a (L.known a+((c+1:Nat):Int)) q<=2000;unfold aH;split
  ·subst_vars; omega
  ·omega
 have k:=h.b6;have m:=h.ne;have e:bS (uV (kF L a b c) a ⟨6,0,(b:Int)+1,0,0,0⟩)=true:=Oy (y:=⟨6,0,(b:Int)+1,0,0,0⟩) g h.a6 (by simp[om,ku]) (by
  unfold dz kN mD;simp;omega)
 have d:aO (uV (kF L a b c) a ⟨6,0,(b:Int)+1,0,0,0⟩)=a:=by show((a:Int)+1-1).toNat=a; omega
 have f:dI (kF L a b c).known (uV (kF L a b c) a ⟨6,0,(b:Int)+1,0,0,0⟩)=true:=F5 e (by rw[d]; rfl) fun q _=>N_ _;unfold bQ;rw[b_ (by rw[e]; decide),b_ (by rw[JX f]; decide),b_ (by rw[f]; decide),d_];right;rw[d];show aH L.left a true a=true;unfold aH; rw[d_ rfl]
end
end Rt
end
namespace Rt
theorem Mv{ks:List (Option IntKind)}{X Y:Nat->Value}(h:Fx.Kd ks X)(e : ∀ i,i<ks.length->X i=Y i):Fx.Kd ks Y:=fun i a=>by
 obtain⟨l,b⟩:=h i a; exact⟨l,by rw[<- e i a]; exact b⟩
def wR:Nat->Int:=upd (fun _=>0) 0 6
def RZ(g cap:Nat):vk:=⟨fun i=>decide (i<2),fun _=>false,fun _=>0,some ⟨g,0,none⟩,1,cap,none,0,0⟩
theorem aft{x z:Nat->Value} : ∀ j,j<(0+1)*56->gY x (0*56) (aZ z (0*56) 56 (jQ 9 0 wR)) j=flat 56 (fun _=>jQ 9 0 wR) j:=fun j a=>by
 rw[app0];unfold aZ;rw[d_ (by omega),show j-0*56=j by omega];exact(Fx.jG (F:=fun _=>jQ 9 0 wR) (k:=0) (by omega) (by omega)).symm
theorem Mw : ∀ g a:Nat,mI (RZ g a) 1 2=0/\mI (RZ g a) 1 3=10:=fun g a=>⟨by kernel_rfl,by kernel_rfl⟩
theorem afu:cB wR 1=6:=by kernel_rfl
theorem aag(g cap:Nat):tL (RZ g cap) (fun _=>9) (fun _=>wR) 1 2 = [rA 9 2 6,mo]:=by
 rw[(Gy (s:=RZ g cap) (by kernel_rfl) (by kernel_rfl) (by decide)).2];show leave1 [] 9 2 (cB wR 1) ++ [mo]=_;rw[afu]; rfl
theorem afv(g cap:Nat):tL (RZ g cap) (fun _=>9) (fun _=>wR) 1 3 = []:=(zo (.inr (.inl (by kernel_rfl)))).2
theorem aah(g cap:Nat):(gW (RZ g cap) 6).length=2:=by kernel_rfl
end Rt
theorem Rt.ajn(j:Nat):dD (aZ (fun d=>if d<2 then aC 0 else au 0) 0 1 (fun _=>aC 9)) 2 (au 6) j=jQ 9 0 wR j:=by
 unfold dD aZ jQ wR upd;by_cases a:j=0
 ·subst a; rfl
 by_cases b:j=1
 ·subst b; rfl
 by_cases c:j=2
 ·subst c; rfl
 rw[b_ c,b_ (by omega),b_ a,b_ b,b_ (by omega)];show(if j<2 then _ else _)=_;rw[b_ (by omega)]
set_option maxRecDepth 20000 in
set_option maxHeartbeats 1000000 in
theorem zq(w:World) :
 Calls Tryz.prog 29 #[] w fun e w'=>e = .returned (.bool true)/\Below w.heap.size w w':=by
 refine Kent Tryz.func29 60 ?_;refine ay<|av aF<|aD<|ay<|Lv (.agg (aA 6 (aZ (aZ (fun _ => .bool false) 0 1 (fun _ => .bool true)) 1 1 (fun _ => .bool true)))) (Fx.Fh (vs := [(0,.bool true),(1,.bool true)]) (s:=1) (m:=6) (x:=fun _ => .bool false) rfl rfl Tryz.underlying49 (by kernel_rfl) (by kernel_rfl) (by rw[aR (off:=0) (s:=1) (y:=fun _ => .bool true) (by kernel_rfl) (cells_one (by rfl)) (by rfl)]; rw[aR (off:=1) (s:=1) (y:=fun _ => .bool true) (by kernel_rfl) (cells_one (by rfl)) (by rfl)]; rfl))<|av (.agg (aA 20 (aZ (fun a=>if a<12 then .bool false else if a<18 then aC 0 else .slice none 0 0) 0 6 (aZ (aZ (fun _ => .bool false) 0 1 (fun _ => .bool true)) 1 1 (fun _ => .bool true)))))<|uW 20 (fun a=>if a<12 then .bool false else if a<18 then aC 0 else .slice none 0 0) fun r w1 lN m1 s1 z1 => ?_;have L:=bF s1.old (Below.refl w.heap.size w);refine fq m1 0 (h1:=(bE (fun l _=>by show((fun a=>if a<12 then .bool false else if a<18 then aC 0 else .slice none 0 0:Nat->Value) l).oneCell'=true; simp only[]; repeat (first|rfl|split)) (bE (bE (fun l _=>by show((fun _ => .bool false:Nat->Value) l).oneCell'=true; simp only[]; repeat (first|rfl|split)) (fun _ _=>rfl)) (fun _ _=>rfl)))) fun w2 m2 s2 z2 => ?_
 have m3:=aW m2;have M:=s2.below L L.size (by omega);refine aD<|ay<|av (.agg (aA 56 (aZ (fun a=>if a<2 then aC 0 else au 0) 0 1 (fun _=>aC 9))))<|uW 56 (fun a=>if a<2 then aC 0 else au 0) fun o w3 S J s3 z3 => ?_;have⟨m5,N⟩:=fF s3.old m3 M;refine fq J 0 (h1:=(bE (fun l _=>by show((fun a=>if a<2 then aC 0 else au 0:Nat->Value) l).oneCell'=true; simp only[]; repeat (first|rfl|split)) (fun _ _=>rfl))) fun w4 m6 s4 z4 => ?_
 have m7:=aW m6;have gD:=gX s4 J.ty;have m8:=jT gD m5;have O:=s4.below N N.size (by omega);refine aD<|ay<|av (pf o 2)<|av (pf o 2)<|Lv (pf o 2) (iY 6 1)<|jh m7 2 (au 6) fun w5 m9 s5 z5 => ?_;have jv:=gX s5 m7.ty;have I:=jT jv m8;have P:=s5.below O O.size (by omega);refine aD<|Ws ?_;have m11:=m9.congr (fun j F=>ajn j);refine Wl<|av (pf r 18)<|Lv (.slice none 0 0) (aM I.aI 18 (Fx.zu (by omega) rfl))<|Lv (.agg (aA 56 (jQ 9 0 wR))) (fJ m11.aI 0)<|xY (vs := [(0,.agg (aA 56 (jQ 9 0 wR)))]) (s:=56) (zc:=fun a=>if a<2 then aC 0 else au 0) (y:=aZ (fun j=>(fun a=>if a<2 then aC 0 else au 0) (j % 56)) (0*56) 56 (jQ 9 0 wR)) (by rfl) rfl rfl Tryz.underlying50 (by kernel_rfl) (by rfl) (by rfl) (by kernel_rfl) (by rw[aR (off:=0*56) (s:=56) (y:=jQ 9 0 wR) rfl (bD _ _) (by rfl)]; rfl) rfl fun g3 p T m12 s6 z6 => ?_;have⟨m13,A⟩:=fF s6.old I P;have⟨aeJ,Wz⟩:=vH T I.lt m11.lt;refine yu (B:=w.heap.size) (s:=56) (bytes:=448) (k:=0) (m:=1) (v := .slice none 0 0) (x:=fun _=>undef) (by rfl) rfl rfl rfl Tryz.underlying50 (by kernel_rfl) (by kernel_rfl) rfl rfl (tO p w.heap.size 61 56 (fun _=>undef)) m12.aI (uI (qj _ _ _)) (by omega) (by omega) (by omega) A.size fun c b K ho1 g sH hlt1 => ?_;have qc:=yJ g (tO p w.heap.size 61 56 (fun _=>undef));have m16:=jT qc m13
 have m15:=(ho1.congr (fun j F=>aft j F));have Q:=yt A g A.size (fun q H=>((tO p w.heap.size 61 56 (fun _=>undef)).ge H).1);refine av (pf r 18)<|jh m16 18 (bO c 1 b) fun w8 m18 s7 z7 => ?_;have yQ:=gX s7 m16.ty;have m20:=jT yQ m15;have b8:=s7.below Q Q.size (by omega);refine aD<|Ws ?_;have m21:aP w8 r 20 (kK (RZ c b)) 53:=m18.congr (fun j F=>by rcases j with _|_|_|_|_|_|_|_|_|_|_|_|_|_|_|_|_|_|_|_|j <;> first|rfl|omega)
 refine Wl<|Lv (.agg (aA 20 (kK (RZ c b)))) (fJ m21.aI 0)<|lU (JZ (RZ c b) (fun _=>9) (fun _=>0) (fun _=>wR) 1 2 _ (by show 1<=900000; omega) (fun k G=>m20.arr.at G) (by omega)) ?_;rintro R w9 ⟨vq1,nq1,f,V,E,arK⟩;obtain⟨h,d,rfl⟩:=E.val;rw[(Mw c b).1]at f;rw[aag]at V E;obtain rfl:nq1=2:=V;refine⟨_,f,?_⟩;clear f;have⟨m23,m24,b9⟩:=jr arK m20 m21 b8;refine av (.tuple #[.slice h (2) (d),au 0])<|av (.slice h (2) (d))<|av (au 0)<|av (.slice h (2) (d))<|av (au 0)<|aD<|ay<|Lv (.agg (aA 20 (kK (RZ c b)))) (fJ m24.aI 0)<|lU (JZ (RZ c b) (fun _=>9) (fun _=>0) (fun _=>wR) 1 3 _ (by show 1<=900000; omega) (fun k G=>m23.arr.at G) (by omega)) ?_;rintro R sI ⟨vq2,nq2,f,W,U,arL⟩;obtain⟨z,C,rfl⟩:=U.val;rw[(Mw c b).2]at f;rw[afv]at W U;obtain rfl:nq2=0:=W;refine⟨_,f,?_⟩;clear f;have⟨nY,nZ,b10⟩:=jr arL m24 E b9;refine av (.tuple #[.slice z (0) (C),au 10])<|av (.slice z (0) (C))<|av (au 10)<|av (.slice z (0) (C))<|av (au 10)<|aD<|ay<|av (au 0)<|Lv aG (eX rfl)<|av aG<|av (.slice h (2) (d))<|av (au 2)<|Lv aG (eX rfl)<|av aG<|av aG<|av (.slice h (2) (d)) ?_;obtain⟨t,D⟩:=nZ.addr (by omega);have oH:Fx.Own sI w8.heap.size 86 6 (bO t 2 d) 2 (Ov [rA 9 2 6,mo]):=nZ.eH (L_ (fun q=>Value.slice q 2 d) D);refine Lv (pt t) (dh 6 (hx:=(rfl.trans (L_ (fun q=>Value.slice q (2) (d)) D))))<|Lv (.agg (aA 6 (yj ([rA 9 2 6,mo].getD 0 dB)))) (fJ oH.aI 0 (fun l hjq=>Fx.jG (k:=0) (by omega) hjq))<|av (.agg (aA 6 (aZ (aZ (aZ (aZ (fun a=>if a<1 then .int .u8 (0)else if a<2 then aC 0 else if a<4 then au 0 else aC 0) 0 1 (fun _ => .int .u8 (5))) 1 1 (fun _=>aC 9)) 2 1 (fun _=>au 2)) 3 1 (fun _=>au 6))))<|Lv aG (Fx.wJ (n:=6) (ks := [(some .u8),(some .u64),(some .i64),(some .i64),(some .u64),(some .u64)]) (X:=yj ([rA 9 2 6,mo].getD 0 dB)) (Y:=aZ (aZ (aZ (aZ (fun a=>if a<1 then .int .u8 (0)else if a<2 then aC 0 else if a<4 then au 0 else aC 0) 0 1 (fun _ => .int .u8 (5))) 1 1 (fun _=>aC 9)) 2 1 (fun _=>au 2)) 3 1 (fun _=>au 6)) 12 true rfl rfl rfl (Fx.SC (fun i u=>by rcases i with _|_|_|_|_|_|i <;> first|rfl|omega)) (Mv (Xq ⟨by decide,⟨by decide,by decide⟩,⟨by decide,by decide⟩,⟨by decide,by decide⟩,⟨by decide,by decide⟩,⟨by decide,by decide⟩⟩:Fx.Kd _ (yj (rA 9 2 6))) (fun i u=>by rcases i with _|_|_|_|_|_|i <;> first|rfl|exact M_ u (by simp))) (Mv (Xq ⟨by decide,⟨by decide,by decide⟩,⟨by decide,by decide⟩,⟨by decide,by decide⟩,⟨by decide,by decide⟩,⟨by decide,by decide⟩⟩:Fx.Kd _ (yj (rA 9 2 6))) (fun i u=>by rcases i with _|_|_|_|_|_|i <;> first|rfl|exact M_ u (by simp))) rfl (by kernel_rfl) (by kernel_rfl) (by kernel_rfl) (by kernel_rfl) (by kernel_rfl))<|av aG<|av aG<|av (.slice h (2) (d))<|Lv (pf t 6) (dh 6 (hx:=(rfl.trans (L_ (fun q=>Value.slice q (2) (d)) D))))<|av (pf t 6)<|Lv (.int .u8 (([rA 9 2 6,mo].getD 1 dB).kind)) (aM oH.aI 6 (Fx.gy (k:=1) (j:=0) (by omega) (by omega) rfl))<|Lv aG (eX rfl)<|av aG<|av aG<|av (au 10)<|Lv aG (eX rfl)<|av aG<|av aG<|Lv (.agg (aA 20 (kK (RZ c b)))) (fJ nY.aI 0)<|lU (JY (RZ c b) _) ?_
 rintro R xU ⟨vq3,nq3,f,Z,arM,arN⟩;obtain⟨aq3,aua,rfl⟩:=arM.val;rw[aah]at Z;subst Z;refine⟨_,f,?_⟩;clear f;have b11:=bF arN b10;refine av (au 2)<|Lv aG (eX rfl)<|av aG<|av aG<|aD<|Wr<|aJ aG ?_;exact⟨rfl,b11⟩
section
namespace Rt
def Qh(x:Nat->Int)(a:Nat):Nat->Int
 | 0=>x a-x (a+6)+x (a+12)
 | k+1=>Qh x a k+(x (18+k*6+a)-x (18+a*6+k))
section
variable {x:Nat->Int} {a k p q:Nat}
theorem ajo(b:p=a+6)(c:q=a+12):x a-x p+x q=Qh x a 0:=by subst b c; rfl
theorem ajp(b:p=18+k*6+a)(c:q=18+a*6+k):Qh x a k+(x p-x q)=Qh x a (k+1):=by subst b c; rfl
theorem ajq:Qh x a 6=Rt.L x a:=by
 show x a-x (a+6)+x (a+12)+(x (18+0*6+a)-x (18+a*6+0))+(x (18+1*6+a)-x (18+a*6+1))+(x (18+2*6+a)-x (18+a*6+2))+(x (18+3*6+a)-x (18+a*6+3))+(x (18+4*6+a)-x (18+a*6+4))+(x (18+5*6+a)-x (18+a*6+5))=_;unfold Rt.L G C F R;rw[Nat.add_comm 6 a,Nat.add_comm 12 a];omega
theorem Xv(h:may x=true)(ha:a<6) : ∀ k,k<=6 -> -(1125899906842624*(k+2:Nat))<=Qh x a k/\Qh x a k<=1125899906842624*(k+2:Nat)
 | 0,_=>by
   have:=gH h a (by omega); have:=gH h (a+6) (by omega); have:=gH h (a+12) (by omega);show _<=x a-x (a+6)+x (a+12)/\x a-x (a+6)+x (a+12)<=_;omega
 | k+1,hk=>by
   have:=Xv h ha k (by omega); have:=gH h (18+k*6+a) (by omega); have:=gH h (18+a*6+k) (by omega);show _<=Qh x a k+(x (18+k*6+a)-x (18+a*6+k))/\Qh x a k+(x (18+k*6+a)-x (18+a*6+k))<=_;omega
end
end Rt
set_option maxRecDepth 10000 in
theorem IZ(s:vk)(id par:Nat->Int)(R:Nat->Nat->Int)(x:Int)(a g:Nat)(w:World)(hnd:nT w s.na s.nn 56 (flat 56 fun k=>jQ (id k) (par k) (R k)))(hnn:s.nn<=1000000)(ha:a<6)(hjn:g<s.nn)(hx:id g=x)(hu : ∀ i,i<g->id i≠x)(m:may (R g)=true) :
 Calls Tryz.prog 31 #[.agg (aA 20 (kK s)),au ((a:Int)+1),aC x] w fun e w'=>e = .returned (au (Rt.L (R g) a))/\Below w.heap.size w w':=by
 refine Kent Tryz.func31 71 ?_;refine ay<|rE fun l w1 lN X s1 z1 => ?_;have Y:=bF s1.old (Below.refl w.heap.size w);refine av (au 0)<|aD<|Ws<|ay<|av (au 0)<|aD<|Wb<|Wo (fun f o => ∃ k:Nat,k<=g/\f 1=au ((a:Int)+1)/\f 2=aC x/\f 3=(pt l)/\f 7=au (k:Int)/\aP o l 20 (kK s) 53/\Below w.heap.size w o) (fun f _=>(s.nn-(intOf (f 7)).toNat)) ⟨0,by omega,Fx.ic,Fx.ic,(by rfl),Fx.ic,X,Y⟩ ?_;rintro f1 w2 ⟨k,hk,p,U,C,t,n,A⟩;refine Ws<|ay<|aT t<|Lv (pf l 18) (iZ C 18)<|Lv (.slice s.na (s.nn) (s.nc)) (aM n.aI 18)<|av (au s.nn)<|Lv aG OO<|aD<|aL<|Wk<|sN<|Ws<|Wb<|ay<|Lv (pf l 18) (iZ C 18)<|Lv (.slice s.na (s.nn) (s.nc)) (aM n.aI 18)<|aT t ?_;obtain⟨h,E,T,v⟩:=(hnd.up A rfl) (by omega);refine Lv (pf h (56*k+E)) (dh 56 (hx:=(rfl.trans (L_ (fun q=>Value.slice q (s.nn) (s.nc)) T))))<|av (pf h (56*k+E))<|Lv (aC (id k)) (aM v (56*k) (Fx.gy (k:=k) (j:=0) (by omega) (by omega) rfl))<|aT U ?_;by_cases B:(id k)=x
 ·refine Lv aG (eX B)<|aD<|aL<|Ws ?_;obtain rfl:k=g:=Classical.byContradiction fun e=>hu k (by omega) B;refine Wl<|Lv (pf l 18) (iZ C 18)<|Lv (.slice s.na (s.nn) (s.nc)) (aM n.aI 18)<|aT t<|Lv (pf h (56*k+E)) (dh 56 (hx:=(rfl.trans (L_ (fun q=>Value.slice q (s.nn) (s.nc)) T))))<|av (pf h (56*k+E+2))<|Lv (.agg (aA 54 (rv .i64 (R k)))) (fJ v (56*k+2) (fun W hjq=>(Fx.jG (k:=k) (j:=2+W) (by omega) (by omega)).trans ((fun q _=>BG _ _ _ q) W hjq)))<|uW 54 (rv .i64 (fun _=>0)) fun d w3 G N s2 z2 => ?_;have⟨m5,m6,P⟩:=jr s2.old n v A;have qW:=iT G A.size;have Pb:=cu G n.lt;have aaV:h≠d:=by rw[G]; exact u_ (v.lt (by omega))
  have zY:=N.lt;refine fq N 0 fun z m7 O z3 => ?_;have D:aP z d 54 (rv .i64 (R k)) 59:=aW m7;have gD:=gX O N.ty;have m9:=jT gD m5;have m10:=m6.cZ O (by omega);have Z:=O.below P P.size (by omega);refine aD<|Ws ?_;have hb0:=gH m a (by omega);have hb1:=gH m (a+6) (by omega);have hb2:=gH m (a+12) (by omega);refine yN<|eB p<|Qv (au a) (fun c b=>fZ)<|aX (pt d)<|Qv (pf d a) (fun c b=>iY 6 1)<|Qv (au ((R k) a)) (fun c b=>aM (D.aI.dr b) a)<|eB p<|Qv (au a) (fun c b=>fZ)<|aX (pf d 6)<|Qv (pf d (a+6)) (fun c b=>iY 6 1)<|Qv (au ((R k) (a+6))) (fun c b=>aM (D.aI.dr b) (a+6))<|Qv (au (((R k) a)-((R k) (a+6)))) (fun c b=>fZ)<|eB p<|Qv (au a) (fun c b=>fZ)<|aX (pf d 12)<|Qv (pf d (a+12)) (fun c b=>iY 6 1)<|Qv (au ((R k) (a+12))) (fun c b=>aM (D.aI.dr b) (a+12))<|Qv (au ((((R k) a)-((R k) (a+6)))+((R k) (a+12)))) (fun c b=>eU)<|aX (au ((((R k) a)-((R k) (a+6)))+((R k) (a+12))))<|Qn ?_;rintro _ ⟨y,rfl⟩;obtain⟨Em,H⟩ : ∃ c,c=World.drewN z y:=⟨_,rfl⟩;rw[<- H];have s4:Stp z.heap.size z Em:=by rw[H]; exact Sb (jS z y)
  have⟨m11,m13,b5⟩:=jr s4.old m9 D Z;clear H;refine sN<|Ws<|ay<|av (au 0)<|aD<|Wb<|Wo (fun f o => ∃ r:Nat,r<=6/\f 1=au ((a:Int)+1)/\f 8=(pt d)/\f 9=au (Qh (R k) a r)/\f 10=au (r:Int)/\aP o l 20 (kK s) 53/\aP o d 54 (rv .i64 (R k)) 59/\Below w.heap.size w o) (fun f _=>(6-(intOf (f 10)).toNat)) ⟨0,by omega,(p.trans Fx.ic),(by rfl),(L_ (Value.int .i64) (ajo (by omega) (by omega))),Fx.ic,m11,m13,b5⟩ ?_;rintro f2 F ⟨r,hr,J,K,V,u,m14,M,Q⟩;refine Ws<|ay<|aT u ?_;by_cases S:(r:Int)<6
  ·refine Lv aG (gN S)<|aD<|aL<|Wk<|sN<|Ws<|Wb ?_;have hb0:=Xv m ha r (by omega);have hb1:=gH m (a+6*r+18) (by omega);have hb2:=gH m (6*a+r+18) (by omega);refine yN<|eB V<|eB u<|eB J<|Qv (au a) (fun c b=>fZ)<|Qv (pf d 18) (fun c b=>iZ K 18)<|Qv (pf d (6*r+18)) (fun c b=>iY 6 6)<|Qv (pf d (a+6*r+18)) (fun c b=>iY 6 1)<|Qv (au ((R k) (a+6*r+18))) (fun c b=>aM (M.aI.dr b) (a+6*r+18))<|eB J<|Qv (au a) (fun c b=>fZ)<|eB u<|Qv (pf d 18) (fun c b=>iZ K 18)<|Qv (pf d (6*a+18)) (fun c b=>iY 6 6)<|Qv (pf d (6*a+r+18)) (fun c b=>iY 6 1)<|Qv (au ((R k) (6*a+r+18))) (fun c b=>aM (M.aI.dr b) (6*a+r+18))<|Qv (au (((R k) (a+6*r+18))-((R k) (6*a+r+18)))) (fun c b=>fZ)<|Qv (au ((Qh (R k) a r)+(((R k) (a+6*r+18))-((R k) (6*a+r+18))))) (fun c b=>eU)<|aX (au ((Qh (R k) a r)+(((R k) (a+6*r+18))-((R k) (6*a+r+18)))))<|Qn ?_;rintro _ ⟨y,rfl⟩;obtain⟨wq2,I⟩ : ∃ c,c=World.drewN F y:=⟨_,rfl⟩;rw[<- I];have s5:Stp F.heap.size F wq2:=(by rw[I]; exact Sb (jS F y));have⟨m16,m17,b7⟩:=jr s5.old m14 M Q;clear I;refine bR<|sN<|Wl<|aT u<|Lv (au ((r:Int)+1)) eU<|av (au ((r:Int)+1))<|Ln<|gL ⟨r+1,by omega,(J.trans Fx.ic),K,(L_ (Value.int .i64) (ajp (by omega) (by omega))),Fx.ic,m16,m17,b7⟩ ?_;show(6-(intOf (au ((r:Int)+1))).toNat)<_;simp only[u,intOf]; omega
  refine Lv aF (gP S)<|aD<|aK<|Wx<|bY<|gJ<|bZ<|sN<|ay<|aT V<|av (au (Qh (R k) a r))<|aD<|Wr<|bP<|sR<|pY<|bP<|sR<|aJ (au (Qh (R k) a r)) ?_;obtain rfl:r=6:=by omega
  exact⟨by rw[ajq],Q⟩
 refine Lv aF (fT B)<|aD<|aK<|Wk<|bR<|sN<|Wl<|aT t<|Lv (au ((k:Int)+1)) eU<|av (au ((k:Int)+1))<|Ln<|gL ⟨k+1,(Nat.lt_of_le_of_ne hk (fun e=>B (by rw[e]; exact hx))),(p.trans Fx.ic),(U.trans Fx.ic),C,Fx.ic,n,A⟩ ?_;show(s.nn-(intOf (au ((k:Int)+1))).toNat)<_;simp only[t,intOf]; omega
end
section
namespace Rt
section
variable {L:fI} {a b k c N n an q r:Nat} {ev:Nat->EvM} {x:Nat->Int} {v:EvM} {s:vk}
theorem uU.lvb(h:uU k ev an L)(W:Ws k ev an) : ∀ i,i<L.nn->(∀ p,L.R i p<=1099511627776)/\nE (L.R i)<=1099511627776:=fun i b=>by
 obtain⟨m,N,a,_⟩:=h.tw W;have r : ∀ p,L.R i p<=65536*an:=fun p=>by rw[<- a.t.row b]; exact a.s.r _ p
 have:=W.an;refine⟨fun p=>by have:=r p; omega,?_⟩;have:=r 0; have:=r 1; have:=r 2; have:=r 3; have:=r 4; have:=r 5;unfold nE; simp only[G]; omega
theorem R3(s:vk)(id:Nat->Int)(R:Nat->Nat->Int)(i tj:Int):mI s i tj=0\/mI s i tj=10/\tL s id R i tj = []:=by
 unfold mI tL;by_cases h:jD s i=false\/jD s tj=false\/i=tj
 ·rw[d_ h,d_ h]; exact .inr ⟨rfl,rfl⟩
 rw[b_ h]; exact .inl rfl
theorem Qi{i:Int}(h:jD s i=true):1<=i/\i<=6/\s.inn (i-1).toNat=true/\s.left (i-1).toNat=false:=by
 unfold jD isLive at h;simp only[T_,decide_eq_true_eq,Bool.not_eq_true']at h;exact⟨h.1.1,h.1.2,h.2.1,h.2.2⟩
theorem afw{na ga:Option Addr}{nc gc:Nat}(h:uU k ev an L)(W:Ws k ev an)(n : ∀ q,q<6->0<=L.known q/\L.known q<=1000)(e:mI (kL L na nc ga gc) ((a:Int)+1) ((b:Int)+1)=0):Z9 L a b/\tL (kL L na nc ga gc) L.id L.R ((a:Int)+1) ((b:Int)+1)=bL L a b:=by
 by_cases c:jD (kL L na nc ga gc) ((a:Int)+1)=false\/jD (kL L na nc ga gc) ((b:Int)+1)=false\/(a:Int)+1=(b:Int)+1
 ·rw[(zo (id:=L.id) (R:=L.R) c).1]at e; cases e
 have j:jD (kL L na nc ga gc) ((a:Int)+1)=true:=by
  cases h:jD (kL L na nc ga gc) ((a:Int)+1)
  ·exact M_ (.inl h) c
  ·rfl
 have l:jD (kL L na nc ga gc) ((b:Int)+1)=true:=by
  cases h:jD (kL L na nc ga gc) ((b:Int)+1)
  ·exact M_ (.inr (.inl h)) c
  ·rfl
 have m : ¬ (a:Int)+1=(b:Int)+1:=fun e=>c (.inr (.inr e));obtain⟨o,p,d,f⟩:=Qi j;obtain⟨r,s,g,i⟩:=Qi l;rw[show((a:Int)+1-1).toNat=a by omega]at d f;rw[show((b:Int)+1-1).toNat=b by omega]at g i;exact⟨⟨by omega,by omega,by omega,d,f,g,i,n,h.lvb W⟩,(Gy j l m).2⟩
theorem Xw{y:oN}(b:El L.known)(ha:a<6)(hy:Ea y):gU (uV L a y):=by
 have h:=afn (i:=(a:Int)+1) b hy (by unfold mD; simp; omega);have e:afm L.known ((a:Int)+1) y=uV L a y:=by unfold afm uV; rw[show((a:Int)+1-1).toNat=a by omega]
 rw[<- e]; exact h
theorem Xx(d:Inv0 L N) : ∀ x∈bL L a b,b<6->Ea x:=fun x e f=>by
 have:=RY (s:=kL L none 0 none 0) (id:=L.id) (R:=L.R) (i:=(a:Int)+1) (tj:=(b:Int)+1) ⟨by omega,by omega⟩ (fun k c=>by have:=d.pos k c; have:=d.top k c; exact⟨by omega,by omega⟩);unfold bL at e
 rcases List.mem_append.1 e with h|h
 ·exact Gx ⟨by omega,by omega⟩ L.nn (fun k c=>by have:=d.pos k c; have:=d.top k c; exact⟨by omega,by omega⟩) x h
 ·obtain rfl:x=mo:=by simpa using h
  exact⟨by decide,⟨by decide,by decide⟩,⟨by decide,by decide⟩,⟨by decide,by decide⟩,⟨by decide,by decide⟩,⟨by decide,by decide⟩⟩
def Xy(L:fI)(a b k r:Nat):Int:=if r=a then 0 else if r=b then Rt.L (L.R k) b+Rt.L (L.R k) a else Rt.L (L.R k) r
theorem ajr:0=Xy L a b k a:=by unfold Xy; rw[d_ rfl]
theorem ajs(h : ¬ b=a):Rt.L (L.R k) b+Rt.L (L.R k) a=Xy L a b k b:=by unfold Xy; rw[b_ h,d_ rfl]
theorem ajt(h : ¬ r=a)(c : ¬ r=b):Rt.L (L.R k) r=Xy L a b k r:=by unfold Xy; rw[b_ h,b_ c]
theorem afx(h:Z9 L a b)(e:Inv0 L N)(d:k<L.nn)(hr:r<6):zl (kF L a b c) (L.id k) ((r:Int)+1)=Xy L a b k r:=by
 have i:(kF L a b c).node (L.id k)=(k:Int):=e.at d;have f:=h.sm k d;obtain⟨j,l⟩:=Xu (e.may k d) h.a6 h.b6 h.ne (f.1 _) f.2 hr;have g:(kF L a b c).R k=oU (L.R k) a b:=d_ d;unfold zl;rw[i,b_ (by omega),show(k:Int).toNat=k by omega,g,jP j r hr,l];rfl
theorem Xz(h:Z9 L a b)(d:Inv0 L N)(c:k<L.nn)(hr:r<6):0<=Rt.L (L.R k) r/\Rt.L (L.R k) r<=1099511627776:=by
 have:=aac (d.may k c) hr;have:=(h.sm k c).2;omega
theorem Qj(h:Z9 L a b){na ga XA XB:Option Addr}{nc gc XC XD:Nat} : ∀ n,((gW (kL (kF L a b c) na nc ga gc) n).length:Int)=((gW (kL L XA XC XB XD) n).length:Int)-if a<n then 1 else 0
 | 0=>rfl
 | n+1=>by
   have g:=Qj h (na:=na) (ga:=ga) (XA:=XA) (XB:=XB) (nc:=nc) (gc:=gc) (XC:=XC) (XD:=XD) n;by_cases e:n=a
   ·subst e;have d:isLive (kL (kF L n b c) na nc ga gc) n=false:=by
     show(L.inn n && !aH L.left n true n)=false;unfold aH; rw[d_ rfl]; cases L.inn n <;> rfl
    have i:isLive (kL L XA XC XB XD) n=true:=by
     show(L.inn n && !L.left n)=true;rw[h.ia,h.la]; rfl
    rw[uJ d,wh i,g,E_,b_ (by omega),d_ (by omega)];show _=((_+1:Nat):Int)-1;omega
   ·have d:isLive (kL (kF L a b c) na nc ga gc) n=isLive (kL L XA XC XB XD) n:=by
     show(L.inn n && !aH L.left a true n)=(L.inn n && !L.left n);unfold aH; rw[b_ e]
    have f:(a<n+1)=(a<n):=propext ⟨fun q=>by omega,fun q=>by omega⟩
    cases h3:isLive (kL L XA XC XB XD) n with
    | true =>
      rw[wh h3,wh (d.trans h3),E_,E_];simp only[f];show((_+1:Nat):Int)=((_+1:Nat):Int)-_;omega
    | false=>rw[uJ h3,uJ (d.trans h3),g]; simp only[f]
theorem XE(h:Z9 L a b){na ga XA XB:Option Addr}{nc gc XC XD:Nat}:((gW (kL (kF L a b c) na nc ga gc) 6).length:Int)=((gW (kL L XA XC XB XD) 6).length:Int)-1:=by
 have:=Qj (c:=c) h (na:=na) (ga:=ga) (XA:=XA) (XB:=XB) (nc:=nc) (gc:=gc) (XC:=XC) (XD:=XD) 6;rw[d_ h.a6]at this; exact this
theorem aai{na ga:Option Addr}{nc gc:Nat}(f:q<(gW (kL (kF L a b c) na nc ga gc) 6).length) : ¬ (gW (kL (kF L a b c) na nc ga gc) 6).getD q 0=(a:Int)+1:=fun e=>by
 have h:=(Gw 6).1 (abq f);rw[e,show((a:Int)+1-1).toNat=a by omega]at h;have d:=h.2.2;have:isLive (kL (kF L a b c) na nc ga gc) a=false:=by
  show(L.inn a && !aH L.left a true a)=false;unfold aH; rw[d_ rfl]; cases L.inn a <;> rfl
 rw[this]at d; cases d
theorem OA:(kF L a b c).left a=true:=by
 show aH L.left a true a=true;unfold aH; rw[d_ rfl]
theorem aaj(a:b<6):Ea ⟨6,0,(b:Int)+1,0,0,0⟩:=by
 have z:jO 0:=⟨by decide,by decide⟩;have y:qJ 0:=⟨by decide,by decide⟩;exact⟨⟨by show(0:Int)<=6; decide,by show(6:Int)<=255; decide⟩,z,⟨by show _<=(b:Int)+1; omega,by show(b:Int)+1<=_; omega⟩,y,z,z⟩
theorem XF:(kF L a b c).nn=L.nn:=rfl
theorem XG:(kF L a b c).gn=L.gn:=rfl
theorem Mx:(kF L a b c).id=L.id:=rfl
theorem R4:(bL L a b).length=(eG L.id L.R ((a:Int)+1) ((b:Int)+1) L.nn).length+1:=E_
end
end Rt
end
theorem Fx.afy{f:Nat->Value}{x1 x2 a b c d:Nat × Operand}{v1 v2 e g h i:Value}(h1:ev f x1.2=v1)(j:ev f x2.2=v2)(k:ev f a.2=e)(l:ev f b.2=g)(m:ev f c.2=h)(n:ev f d.2=i) : [x1,x2,a,b,c,d].map (fun p=>(p.1,ev f p.2)) = [(x1.1,v1),(x2.1,v2),(a.1,e),(b.1,g),(c.1,h),(d.1,i)]:=by rw[List.map_cons,h1,Fx.SI j k l m n]
theorem Fx.afz{f:Nat->Value}{x1 x2 a b c d e:Nat × Operand}{v1 v2 g h i j k:Value}(h1:ev f x1.2=v1)(l:ev f x2.2=v2)(m:ev f a.2=g)(n:ev f b.2=h)(o:ev f c.2=i)(q:ev f d.2=j)(r:ev f e.2=k) : [x1,x2,a,b,c,d,e].map (fun p=>(p.1,ev f p.2)) = [(x1.1,v1),(x2.1,v2),(a.1,g),(b.1,h),(c.1,i),(d.1,j),(e.1,k)]:=by rw[List.map_cons,h1,Fx.afy l m n o q r]
theorem Fx.afA{f:Nat->Value}{x1 x2 a b c d e g:Nat × Operand}{v1 v2 h i j k l m:Value}(h1:ev f x1.2=v1)(n:ev f x2.2=v2)(o:ev f a.2=h)(q:ev f b.2=i)(r:ev f c.2=j)(s:ev f d.2=k)(t:ev f e.2=l)(u:ev f g.2=m) : [x1,x2,a,b,c,d,e,g].map (fun p=>(p.1,ev f p.2)) = [(x1.1,v1),(x2.1,v2),(a.1,h),(b.1,i),(c.1,j),(d.1,k),(e.1,l),(g.1,m)]:=by rw[List.map_cons,h1,Fx.afz n o q r s t u]
theorem Fx.afB{f:Nat->Value}{x1 x2 a b c d e g h:Nat × Operand}{v1 v2 i j k l m n o:Value}(h1:ev f x1.2=v1)(q:ev f x2.2=v2)(r:ev f a.2=i)(s:ev f b.2=j)(t:ev f c.2=k)(u:ev f d.2=l)(v:ev f e.2=m)(w:ev f g.2=n)(x:ev f h.2=o) : [x1,x2,a,b,c,d,e,g,h].map (fun p=>(p.1,ev f p.2)) = [(x1.1,v1),(x2.1,v2),(a.1,i),(b.1,j),(c.1,k),(d.1,l),(e.1,m),(g.1,n),(h.1,o)]:=by rw[List.map_cons,h1,Fx.afA q r s t u v w x]
attribute [local irreducible] bL Xy zl eG gW oU Rt.L kF in
set_option maxRecDepth 20000 in
set_option maxHeartbeats 2000000 in
theorem OB(rb:Nat)(aa0:Option Addr)(na ca:Nat)(xa:Nat->GY)(cb db:Nat)(w:World)(hrb:rb<=255)(hcb:cb<=255)(hdb:db<=255)(hxa : ∀ k,k<na->IK (xa k))(aju:nT w aa0 na 9 (flat 9 fun k=>GZ (xa k)))(hK:jg w 0 0 8 Oc) :
 Calls Tryz.prog 8 #[.int .u8 (rb:Int),.slice aa0 (na) (ca),.int .u8 (cb:Int),.int .u8 (db:Int)] w fun e w'=>e = .returned (.bool true)/\Below w.heap.size w w':=by
 have l0:=hK.lt (by omega);refine Kent Tryz.func8 256 ?_;refine ay<|av aF<|aD<|Ws<|ay<|av (.slice aa0 (na) (ca)) ?_;by_cases c32:(decide ((na:Int)<=60))=true
 ·refine mO (aaU _ _ _ _) (ax := #[.slice aa0 (na) (ca)]) aG (by rw[c32])<|av aF<|aD<|aK<|Wk<|sN<|Ws ?_;have hna:=h_ c32;obtain⟨rq,erq⟩ : ∃ r,r=rb % 5:=⟨_,rfl⟩;have hrq:rq<5:=by rw[erq]; exact J_ _ (by omega)
  obtain⟨rn,hrn⟩ : ∃ q,q=rq+1:=⟨_,rfl⟩;refine Wl<|av (.int .u8 (rb:Int))<|Lv (au rb) (dG rfl rfl (by kernel_rfl) Tryz.underlying3 (iP (by omega) rfl))<|Lv (au rq) (Fx.yG rfl rfl rfl (by omega) (Gl erq))<|Lv (au ((rn:Int)+1)) eU<|av (au ((rn:Int)+1))<|aD<|ay<|av (au ((rn:Int)+1))<|lU (Mr (rn+1) _ _ (by omega) (by omega) (by omega)) (ax := #[au ((rn:Int)+1)]) ?_;rintro e9 w1 ⟨X,M0,U,hMn,hMa,arO,hW0,hbw⟩;refine⟨(pt X),U,?_⟩;clear U;have sB:=(Below.refl w.heap.size w).size;have b1:=bF hbw (Below.refl w.heap.size w);have sW:w.heap.size<=w1.heap.size:=hbw.size;refine av (pt X)<|aD<|Ws<|ay<|av (au 0)<|aD<|Wb<|Wo (fun f C => ∃ k:Nat,∃ B:WM,∃ T9:Nat,k<=na/\T9<=3660*k/\B.n=M0.n/\B.an<=k/\w.heap.size<=C.heap.size/\WC B/\f 1 = .slice aa0 (na) (ca)/\f 2 = .int .u8 (cb:Int)/\f 3 = .int .u8 (db:Int)/\f 9=au ((rn:Int)+1)/\f 10=(pt X)/\f 11=au (k:Int)/\oM C w.heap.size X B T9/\Below w.heap.size w C) (fun f _=>(na-(intOf (f 11)).toNat)) ⟨0,M0,0,by omega,by omega,rfl,by omega,sW,arO,(by rfl),Fx.ic,Fx.ic,Fx.ic,(by rfl),Fx.ic,hW0,b1⟩ ?_;rintro f1 D ⟨k,B,T9,hk,hTk,ajv,axN,sWk,hWC,h1,h2,h3,h4,h5,h6,m1,b2⟩;refine Ws<|ay<|aT h6<|aT h1<|av (au na) ?_;by_cases c44:(k:Int)<(na:Int)
  ·refine Lv aG (gN c44)<|aD<|aL<|Wk<|sN<|Ws<|Wb<|Wl<|aT h5<|aT h1<|aT h6 ?_;obtain⟨bq1,oq1,eq1,m2⟩:=(aju.up b2 rfl) (by omega);have ahJ:bq1<D.heap.size:=m2.lt (by omega);refine Lv (pf bq1 (9*k+oq1)) (dh 9 (hx:=(rfl.trans (L_ (fun q=>Value.slice q (na) (ca)) eq1))))<|Lv (.agg (aA 9 (GZ (xa k)))) (fJ m2 (9*k) (fun jq hjq=>Fx.jG (k:=k) (by omega) hjq))<|lU (ajg B w.heap.size X T9 (xa k) _ m1 sWk (hxa k (by omega)) (by omega) (by omega)) ?_;rintro e9 w3 ⟨v9,U,hv9,M2,hW1,hM2,axQ,axR,hb1⟩;refine⟨_,U,?_⟩;clear U;have arP:=hM2.n;have b3:Below w.heap.size w w3:=afb b2 hb1 sB;have sW1:w.heap.size<=w3.heap.size:=(by have:=hb1.size; omega);have sWn:w.heap.size<=w3.heap.size:=(by have:=hb1.size; omega);have arQ:WC M2:=hWC.do hW1 (J_ _ (by have:=m1.n1; omega)) hM2 (by omega) (m1.cz.own _ (J_ _ (by have:=m1.n1; omega)));refine Ln<|bR<|sN<|Wl<|aT h6<|Lv (au ((k:Int)+1)) eU<|av (au ((k:Int)+1))<|Ln<|gL ⟨k+1,M2,(T9+3660),by omega,by omega,(arP.trans ajv),by omega,sWn,arQ,h1,(h2.trans Fx.ic),(h3.trans Fx.ic),(h4.trans Fx.ic),h5,Fx.ic,hW1,b3⟩ ?_;show(na-(intOf (au ((k:Int)+1))).toNat)<_;simp only[h6,intOf]; omega
  refine Lv aF (gP c44)<|aD<|aK<|Wx<|bY<|gJ<|bZ<|sN<|Ws ?_;have hWc:=m1.c;have hWa:=m1.a;have arR:=m1.wf;have axT:=m1.may;have hcz:=m1.cz;have hWw:=m1;have haA:nT D B.aa B.an 14 (evX B.ev):=hWa.arr;have lpw:X<D.heap.size:=hWc.lt;have l0X:0<D.heap.size:=by omega
  have hKX:jg D 0 0 8 Oc:=hK.below b2 l0;have hB:1<=D.heap.size:=by omega
  have axV:B.an<=60:=by omega
  have hWs:=hWC.w;have hWn:B.n=rn+1:=ajv.trans hMn;have arU:uU B.n B.ev B.an (qK (rn+1) 0).core:=by have q9:=uU.new B.n B.ev B.an (Z5 hWs) 0; rw[hWn]at q9 ⊢; exact q9
  refine Wl<|aT h4<|lU (IJ (aiB (rn+1) (by omega) _) (L_ (fun z => #[Value.int .i64 z]) (by omega))) (ax := #[au ((rn:Int)+1)]) ?_;rintro e9 w4 ⟨G,m0,U,hl1,hb2⟩;refine⟨_,U,?_⟩;clear U;have s2:=Sb hb2;have hl2:=hl1.weak (Below.refl D.heap.size D).size;have m3:=bF hb2 hWc;have b4:=s2.below (Below.refl D.heap.size D) (Below.refl D.heap.size D).size (Below.refl D.heap.size D).size;refine av (.tuple #[(pt G),au 0])<|av (pt G)<|av (au 0)<|av (pt G)<|av (au 0)<|aD<|Ws<|ay<|av (au 0)<|Lv aF (ko rfl)<|av aF<|av (pt G)<|Lv aF (Fx.uh rfl rfl rfl (by kernel_rfl))<|av aF<|aD<|aK<|Wk<|sN<|Ws<|ay<|av (au 0)<|aD<|Wb<|Wo (fun f C => ∃ V:Nat,∃ mq:dU,∃ l:fI,∃ N9:Nat,V<=B.an/\N9=V/\uU B.n B.ev B.an l/\l.known=gV B.ev V/\f 2 = .int .u8 (cb:Int)/\f 3 = .int .u8 (db:Int)/\f 9=au ((rn:Int)+1)/\f 10=(pt X)/\f 12=(pt G)/\f 14=au (V:Int)/\zP C D.heap.size G mq l N9/\aP C X 2 (GX (.slice B.la (B.n) (B.lc)) (.slice B.aa (B.an) (B.ac))) 44/\Below D.heap.size D C) (fun f _=>(B.an-(intOf (f 14)).toNat)) ⟨0,m0,(qK (rn+1) 0).core,0,by omega,rfl,arU,rfl,(h2.trans Fx.ic),(h3.trans Fx.ic),(h4.trans Fx.ic),h5,(by rfl),Fx.ic,hl2,m3,b4⟩ ?_;rintro f2 w5 ⟨V,mq,l,N9,hix,hN9,hFd,hKn,h7,h8,h9,h10,h11,h12,m4,m5,b5⟩;refine Ws<|ay<|aT h12<|aT h10<|av (pt X)<|av (pf X 1)<|Lv (.slice B.aa (B.an) (B.ac)) (aM m5.aI 1)<|av (au B.an) ?_;by_cases c70:(V:Int)<(B.an:Int)
  ·refine Lv aG (gN c70)<|aD<|aL<|Wk<|sN<|Ws<|Wb<|ay<|aT h11<|aT h10<|av (pt X)<|av (pf X 1)<|Lv (.slice B.aa (B.an) (B.ac)) (aM m5.aI 1)<|aT h12 ?_;obtain⟨bq2,oq2,Jz,m6z⟩:=haA (by omega);have ajw:bq2<D.heap.size:=m6z.lt (by omega);have m6:=m6z.below b5 ajw;have axY:bq2<w5.heap.size:=m6.lt (by omega);refine Lv (pf bq2 (14*V+oq2)) (dh 14 (hx:=(rfl.trans (L_ (fun q=>Value.slice q (B.an) (B.ac)) Jz))))<|Lv (.agg (aA 14 (bV (B.ev V)))) (fJ m6 (14*V) (fun jq hjq=>Fx.jG (k:=V) (by omega) hjq))<|dQ (JO (v:=(B.ev V)) m4 (arR V (by omega)) hB (hKX.below b5 l0X) (fun _ _=>rfl)) (au 0) (by rw[(hFd.next hWs (show V<B.an by omega) hKn).1]) ?_
   rintro w6 ⟨hq1,hc1⟩;have arW:=m4.q.typed hc1;have arX:=m4.q.Gj hc1 b5.size;have b6:=aeZ b5 arX (A_ _);have m7:=m5.Ca arW (by decide);have lm7:=m7.lt;refine Lv aF (ko rfl)<|aD<|aK<|Wk<|bR<|sN<|Wl<|aT h12<|Lv (au ((V:Int)+1)) eU<|av (au ((V:Int)+1))<|Ln<|gL ⟨V+1,iX mq (B.ev V),dH l (B.ev V),N9+1,by omega,by omega,(hFd.apply hWs (show V<B.an by omega)),(hFd.next hWs (show V<B.an by omega) hKn).2,(h7.trans Fx.ic),(h8.trans Fx.ic),(h9.trans Fx.ic),h10,h11,Fx.ic,hq1,m7,b6⟩ ?_
   show(B.an-(intOf (au ((V:Int)+1))).toNat)<_;simp only[h12,intOf]; omega
  refine Lv aF (gP c70)<|aD<|aK<|Wx<|bY<|gJ<|bZ<|sN<|Ws ?_;have eix:V=B.an:=by omega
  have arY:l.known=gV B.ev B.an:=by rw[hKn,eix]
  have Gz:=m4.i;have hL32:l.nn<=32:=Gz.nn;have aya:l.gn<=60:=by have:=Gz.gn; omega
  have hK9 : ∀ q,q<6->0<=l.known q/\l.known q<=1000:=fun q hq=>by rw[arY]; exact⟨A9 _ _,by have:=Qg B.ev B.an q; omega⟩
  obtain⟨g,ewo⟩ : ∃ r,r=cb % (rn+1):=⟨_,rfl⟩;have hwo:g<(rn+1):=by rw[ewo]; exact J_ _ (by omega)
  obtain⟨o,etw⟩ : ∃ r,r=db % (rn+1):=⟨_,rfl⟩;have htw:o<(rn+1):=by rw[etw]; exact J_ _ (by omega)
  have R5:g<6:=by omega
  have afC:o<6:=by omega
  refine Wl<|aT h7<|Lv (au cb) (dG rfl rfl (by kernel_rfl) Tryz.underlying3 (iP (by omega) rfl))<|aT h9<|Lv (au g) (Fx.yG rfl rfl rfl (by omega) (Gl ewo))<|Lv (au ((g:Int)+1)) eU<|av (au ((g:Int)+1))<|aD<|ay<|aT h8<|Lv (au db) (dG rfl rfl (by kernel_rfl) Tryz.underlying3 (iP (by omega) rfl))<|aT h9<|Lv (au o) (Fx.yG rfl rfl rfl (by omega) (Gl etw))<|Lv (au ((o:Int)+1)) eU<|av (au ((o:Int)+1))<|aD<|ay<|aT h11<|lU (Qc m4 (by omega)) ?_;rintro e9 w7 ⟨ss1,U,ajx,hb3⟩;obtain⟨M,N,J,K,eS9⟩ : ∃ a b c d,ss1=kL l a b c d:=⟨_,_,_,_,ajx.e⟩;subst eS9;refine⟨_,U,?_⟩;clear U;have⟨m8,m9,b7⟩:=jr hb3 m4 m5 b5;refine uW 20 (fun t=>if t<12 then .bool false else if t<18 then aC 0 else .slice none 0 0) fun W w8 lN m10 s4 z1 => ?_;have⟨m11,m12,m13,b8⟩:=nO s4.old m8 m9 ajx b7;have tN:D.heap.size<=W:=by rw[lN]; exact b7.size
  have asa:=cu lN m9.lt;have uM:=m10.lt;refine fq m10 0 (h1:=(fun j _=>Jq _ j)) fun w9 m14 s5 z2 => ?_;have m15:aP w9 W 20 (kK (kL l M N J K)) 53:=aW m14;have gD:=gX s5 m10.ty;have⟨m16,m17,m18⟩:=Ec gD m11 m12 m13;have b9:=s5.below b8 b8.size (by omega);refine aD<|ay<|Lv (.agg (aA 20 (kK (kL l M N J K)))) (fJ m15.aI 0)<|av (au ((g:Int)+1))<|av (au ((o:Int)+1))<|lU (JZ (kL l M N J K) l.id l.par l.R ((g:Int)+1) ((o:Int)+1) _ (show l.nn<=900000 by omega) (fun k hk=>m18.n.arr.at hk) (by omega)) ?_;rintro e9 sI ⟨v9,S,U,hn9,hO9,XL⟩;obtain⟨la,lc,rfl⟩:=hO9.val;refine⟨_,U,?_⟩;clear U;have⟨m19,m20,m21,m22,b10⟩:=tQ XL m16 m17 m18 m15 b9;refine av (.tuple #[.slice la (S) (lc),au (mI (kL l M N J K) ((g:Int)+1) ((o:Int)+1))])<|av (.slice la (S) (lc))<|av (au (mI (kL l M N J K) ((g:Int)+1) ((o:Int)+1)))<|av (.slice la (S) (lc))<|av (au (mI (kL l M N J K) ((g:Int)+1) ((o:Int)+1)))<|aD<|Ws<|ay<|av (au (mI (kL l M N J K) ((g:Int)+1) ((o:Int)+1))) ?_;by_cases afD:(mI (kL l M N J K) ((g:Int)+1) ((o:Int)+1))=0
  ·refine Lv aF (ko afD)<|aD<|aK<|Wk<|sN<|Ws<|Ws ?_;have asb:mI (kL l M N J K) ((g:Int)+1) ((o:Int)+1)=0:=(by omega);obtain⟨hC,hlv⟩:=afw hFd hWs hK9 asb;rw[hlv]at hn9;have ajy:=hO9;rw[hlv]at ajy;have hle:=aaf hC Gz;have hlw : ∀ q,q<S->Ea ((bL l g o).getD q dB):=fun q hq=>Xx Gz _ (ajk (by rw[<- hn9]; exact hq)) afC;obtain⟨cc,hcc⟩ : ∃ q,q=(eG l.id l.R ((g:Int)+1) ((o:Int)+1) l.nn).length:=⟨_,rfl⟩;have ayd:cc<=32:=(by rw[hcc]; exact m_ (tK _ _ _ _ _) hL32);have aye:S=cc+1:=(by rw[hn9,hcc]; exact R4);have ayf:=hC.ne;have ayg:N9<=60:=(by omega);refine Wl<|av (au 0)<|aD<|Wb<|Wo (fun f C => ∃ A:Nat,∃ mz:dU,A<=S/\f 12=(pt G)/\f 15=au ((g:Int)+1)/\f 16=au ((o:Int)+1)/\f 17=(pt W)/\f 18 = .slice la (S) (lc)/\f 20=au (A:Int)/\Fx.Own C w9.heap.size 86 6 (.slice la (S) (lc)) S (Ov (bL l g o))/\zP C D.heap.size G mz (Ms l g (bL l g o) A) (N9+A)/\Dj C w5.heap.size (kL l M N J K) l/\aP C X 2 (GX (.slice B.la (B.n) (B.lc)) (.slice B.aa (B.an) (B.ac))) 44/\aP C W 20 (kK (kL l M N J K)) 53/\Below D.heap.size D C) (fun f _=>(S-(intOf (f 20)).toNat)) ⟨0,mq,by omega,h11,Fx.ic,Fx.ic,(by rfl),(by rfl),Fx.ic,ajy,m19,m21,m20,m22,b10⟩ ?_;rintro f3 xU ⟨A,mz,hqx,QD,Nb,XI,h16,QE,h18,m23,m24,nP,oG,nY,b11⟩;refine Ws<|ay<|aT h18<|aT QE<|av (au S) ?_;by_cases c117:(A:Int)<(S:Int)
   ·refine Lv aG (gN c117)<|aD<|aL<|Wk<|sN<|Ws<|Wb<|Ws ?_;obtain⟨H,hL7⟩ : ∃ q,q=(Ms l g (bL l g o) A):=⟨_,rfl⟩;have nZ:zP xU D.heap.size G mz H (N9+A):=(by rw[hL7]; exact m24);have hk7:=nZ.i.kn;have hk9:=hk7 g R5;have hx7:=hlw A (by omega);have hE7:bQ H (uV H g ((bL l g o).getD A dB))=0:=(by rw[hL7]; exact hle.1 A (by rw[<- hn9]; omega));have hv7:gU (uV H g ((bL l g o).getD A dB)):=Xw hk7 R5 hx7;refine Wl<|aT QE<|aT h18 ?_;obtain⟨DL,eq3⟩:=m23.addr (by omega);have oH:Fx.Own xU w9.heap.size 86 6 (bO DL S lc) S (Ov (bL l g o)):=m23.eH (L_ (fun q=>Value.slice q S lc) eq3);refine Lv (pf DL (6*A)) (dh 6 (hx:=(rfl.trans (L_ (fun q=>Value.slice q (S) (lc)) eq3))))<|Lv (.agg (aA 6 (yj ((bL l g o).getD A dB)))) (fJ oH.aI (6*A) (fun jq hjq=>Fx.jG (k:=A) (by omega) hjq))<|uW 6 (fun t=>if t<1 then .int .u8 (0)else if t<2 then aC 0 else if t<4 then au 0 else aC 0) fun g2 Dy yD pG s7 z3 => ?_;have⟨nA,m32,qg,oO,qh,b12⟩:=tT s7.old nP oG nY nZ oH b11;have qW:D.heap.size<=g2:=(by rw[yD]; exact b11.size);have⟨asc,ase,asf⟩:=Ed yD oG.lt nY.lt oH.lt;have zY:=pG.lt;refine fq pG 0 (h1:=(fun j _=>Xo _ j)) fun EI qH s8 z4 => ?_;have nS:aP EI g2 6 (yj ((bL l g o).getD A dB)) 86:=aW qH;have jv:=gX s8 pG.ty;have⟨rU,pV,sJ,nJ⟩:=Kn jv nA m32 qg oO;have mJ:=qh.X6 s8 (by omega);have b13:=s8.below b12 b12.size (by omega);refine aD<|Ws ?_;refine qE (T:=32) (T':=32) (a := .tmp 22) (v := .tmp 145) (m:=14) (z:=fun t=>if t<1 then au 0 else if t<8 then aC 0 else if t<9 then .int .u8 (0)else if t<10 then aC 0 else if t<12 then au 0 else aC 0) (y:=aZ (aZ (aZ (aZ (aZ (aZ (aZ (aZ (aZ (fun t=>if t<1 then au 0 else if t<8 then aC 0 else if t<9 then .int .u8 (0)else if t<10 then aC 0 else if t<12 then au 0 else aC 0) 0 1 (fun _=>au ((g:Int)+1))) 1 1 (fun _=>aC ((((H).known) g)+1))) 2 6 (rv .u64 ((H).known))) 8 1 (fun _ => .int .u8 (((bL l g o).getD A dB).kind))) 9 1 (fun _=>aC (((bL l g o).getD A dB).node))) 10 1 (fun _=>au (((bL l g o).getD A dB).dst))) 11 1 (fun _=>au (((bL l g o).getD A dB).aU))) 12 1 (fun _=>aC (((bL l g o).getD A dB).req))) 13 1 (fun _=>aC (((bL l g o).getD A dB).of))) (u := .agg (aA 14 (aZ (aZ (aZ (aZ (aZ (aZ (aZ (aZ (aZ (fun t=>if t<1 then au 0 else if t<8 then aC 0 else if t<9 then .int .u8 (0)else if t<10 then aC 0 else if t<12 then au 0 else aC 0) 0 1 (fun _=>au ((g:Int)+1))) 1 1 (fun _=>aC ((((H).known) g)+1))) 2 6 (rv .u64 ((H).known))) 8 1 (fun _ => .int .u8 (((bL l g o).getD A dB).kind))) 9 1 (fun _=>aC (((bL l g o).getD A dB).node))) 10 1 (fun _=>au (((bL l g o).getD A dB).dst))) 11 1 (fun _=>au (((bL l g o).getD A dB).aU))) 12 1 (fun _=>aC (((bL l g o).getD A dB).req))) 13 1 (fun _=>aC (((bL l g o).getD A dB).of))))) 22 23 (List.replicate 24 (0,2,[],[])) #[au ((g:Int)+1),(pt G),.agg (aA 6 (rv .u64 ((H).known))),au ((g:Int)+1),au (g:Int),aC (((H).known) g),aC ((((H).known) g)+1),(pt G),.agg (aA 6 (rv .u64 ((H).known))),(pt g2),.int .u8 (((bL l g o).getD A dB).kind),(pf g2 1),aC (((bL l g o).getD A dB).node),(pf g2 2),au (((bL l g o).getD A dB).dst),(pf g2 3),au (((bL l g o).getD A dB).aU),(pf g2 4),aC (((bL l g o).getD A dB).req),(pf g2 5),aC (((bL l g o).getD A dB).of),.agg (aA 14 (aZ (aZ (aZ (aZ (aZ (aZ (aZ (aZ (aZ (fun t=>if t<1 then au 0 else if t<8 then aC 0 else if t<9 then .int .u8 (0)else if t<10 then aC 0 else if t<12 then au 0 else aC 0) 0 1 (fun _=>au ((g:Int)+1))) 1 1 (fun _=>aC ((((H).known) g)+1))) 2 6 (rv .u64 ((H).known))) 8 1 (fun _ => .int .u8 (((bL l g o).getD A dB).kind))) 9 1 (fun _=>aC (((bL l g o).getD A dB).node))) 10 1 (fun _=>au (((bL l g o).getD A dB).dst))) 11 1 (fun _=>au (((bL l g o).getD A dB).aU))) 12 1 (fun _=>aC (((bL l g o).getD A dB).req))) 13 1 (fun _=>aC (((bL l g o).getD A dB).of)))),undef,undef] (by kernel_rfl) (by kernel_rfl) (by kernel_rfl) (by kernel_rfl) (by kernel_rfl) (by kernel_rfl) rfl (by kernel_rfl) rfl rfl (by kernel_rfl) (fun g3=>(show ev _ (.tmp 22)=(pt g3)from by kernel_rfl)) (fun g3=>(show ev _ (.tmp 145) = .agg (aA 14 (aZ (aZ (aZ (aZ (aZ (aZ (aZ (aZ (aZ (fun t=>if t<1 then au 0 else if t<8 then aC 0 else if t<9 then .int .u8 (0)else if t<10 then aC 0 else if t<12 then au 0 else aC 0) 0 1 (fun _=>au ((g:Int)+1))) 1 1 (fun _=>aC ((((H).known) g)+1))) 2 6 (rv .u64 ((H).known))) 8 1 (fun _ => .int .u8 (((bL l g o).getD A dB).kind))) 9 1 (fun _=>aC (((bL l g o).getD A dB).node))) 10 1 (fun _=>au (((bL l g o).getD A dB).dst))) 11 1 (fun _=>au (((bL l g o).getD A dB).aU))) 12 1 (fun _=>aC (((bL l g o).getD A dB).req))) 13 1 (fun _=>aC (((bL l g o).getD A dB).of))))from by kernel_rfl)) (bD _ _) (bE (bE (bE (bE (bE (bE (bE (bE (bE (fun jq _=>by show((fun t=>if t<1 then au 0 else if t<8 then aC 0 else if t<9 then .int .u8 (0)else if t<10 then aC 0 else if t<12 then au 0 else aC 0:Nat->Value) jq).oneCell'=true; simp only[]; repeat (first|rfl|split)) (fun _ _=>rfl)) (fun _ _=>rfl)) (fun _ _=>rfl)) (fun _ _=>rfl)) (fun _ _=>rfl)) (fun _ _=>rfl)) (fun _ _=>rfl)) (fun _ _=>rfl)) (fun _ _=>rfl)) (by kernel_rfl) (fun g3 => ?_) ?_
    ·refine⟨?_,?_,?_,?_,?_,?_,?_,?_,?_,?_,?_,?_,?_,?_,?_,?_,?_,?_,?_,?_,?_,?_,?_,?_,trivial⟩
     ·exact .inr (.inr (lY (au ((g:Int)+1)) fun P F=>dO rfl ((bH (by kernel_rfl)).trans Nb)))
     ·exact .inr (.inr (lY (pt G) fun P F=>dO rfl ((bH (by kernel_rfl)).trans QD)))
     ·exact .inr (.inr (Fx.yI (v := .agg (aA 6 (rv .u64 ((H).known)))) (by kernel_rfl) (by kernel_rfl) (Fx.qbC (fun P F=>rC (args := [(pt G)]) rfl (Fx.args1 (show ev _ (.tmp 125)=(pt G)from by kernel_rfl)) Tryz.func23 rfl rfl) (fun P F=>(EX (nJ.up F)).mono fun e v2 h=>⟨h.1,h.2⟩))))
     ·exact .inr (.inr (lY (au ((g:Int)+1)) fun P F=>dO rfl ((bH (by kernel_rfl)).trans Nb)))
     ·exact .inr (.inr (lY (au g) fun P F=>Fx.OE rfl (show ev _ (.tmp 127)=au ((g:Int)+1)from by kernel_rfl) (show ev _ (.const (au 1))=au 1 from by kernel_rfl) Fx.io))
     ·exact .inr (.inr (lY (aC (((H).known) g)) fun P F=>Fx.Bq (j:=g) (y:=rv .u64 ((H).known)) rfl (show ev _ (.tmp 126) = .agg (aA 6 (rv .u64 ((H).known)))from by kernel_rfl) (show ev _ (.tmp 128)=au (g:Int)from by kernel_rfl) Tryz.underlying30 (by kernel_rfl) (by kernel_rfl) (by omega) (rfl)))
     ·exact .inr (.inr (lY (aC ((((H).known) g)+1)) fun P F=>Fx.Fa rfl (show ev _ (.tmp 129)=aC (((H).known) g)from by kernel_rfl) (show ev _ (.const (aC 1))=aC 1 from by kernel_rfl) (jL (by omega) (by omega))))
     ·exact .inr (.inr (lY (pt G) fun P F=>dO rfl ((bH (by kernel_rfl)).trans QD)))
     ·exact .inr (.inr (Fx.yI (v := .agg (aA 6 (rv .u64 ((H).known)))) (by kernel_rfl) (by kernel_rfl) (Fx.qbC (fun P F=>rC (args := [(pt G)]) rfl (Fx.args1 (show ev _ (.tmp 131)=(pt G)from by kernel_rfl)) Tryz.func23 rfl rfl) (fun P F=>(EX (nJ.up F)).mono fun e v2 h=>⟨h.1,h.2⟩))))
     ·exact .inr (.inr oF)
     ·exact .inr (.inr (lY (.int .u8 (((bL l g o).getD A dB).kind)) fun P F=>bB (x:=yj ((bL l g o).getD A dB)) rfl (show ev _ (.tmp 133)=(pt g2)from by kernel_rfl) (by kernel_rfl) (nS.aI.below F (by have:=nS.lt; omega)) (i:=0) (by omega) (by omega) rfl))
     ·exact .inr (.inr oF)
     ·exact .inr (.inr (lY (aC (((bL l g o).getD A dB).node)) fun P F=>bB (x:=yj ((bL l g o).getD A dB)) rfl (show ev _ (.tmp 135)=(pf g2 1)from by kernel_rfl) (by kernel_rfl) (nS.aI.below F (by have:=nS.lt; omega)) (i:=1) (by omega) (by omega) rfl))
     ·exact .inr (.inr oF)
     ·exact .inr (.inr (lY (au (((bL l g o).getD A dB).dst)) fun P F=>bB (x:=yj ((bL l g o).getD A dB)) rfl (show ev _ (.tmp 137)=(pf g2 2)from by kernel_rfl) (by kernel_rfl) (nS.aI.below F (by have:=nS.lt; omega)) (i:=2) (by omega) (by omega) rfl))
     ·exact .inr (.inr oF)
     ·exact .inr (.inr (lY (au (((bL l g o).getD A dB).aU)) fun P F=>bB (x:=yj ((bL l g o).getD A dB)) rfl (show ev _ (.tmp 139)=(pf g2 3)from by kernel_rfl) (by kernel_rfl) (nS.aI.below F (by have:=nS.lt; omega)) (i:=3) (by omega) (by omega) rfl))
     ·exact .inr (.inr oF)
     ·exact .inr (.inr (lY (aC (((bL l g o).getD A dB).req)) fun P F=>bB (x:=yj ((bL l g o).getD A dB)) rfl (show ev _ (.tmp 141)=(pf g2 4)from by kernel_rfl) (by kernel_rfl) (nS.aI.below F (by have:=nS.lt; omega)) (i:=4) (by omega) (by omega) rfl))
     ·exact .inr (.inr oF)
     ·exact .inr (.inr (lY (aC (((bL l g o).getD A dB).of)) fun P F=>bB (x:=yj ((bL l g o).getD A dB)) rfl (show ev _ (.tmp 143)=(pf g2 5)from by kernel_rfl) (by kernel_rfl) (nS.aI.below F (by have:=nS.lt; omega)) (i:=5) (by omega) (by omega) rfl))
     ·exact .inr (.inr (lY (.agg (aA 14 (aZ (aZ (aZ (aZ (aZ (aZ (aZ (aZ (aZ (fun t=>if t<1 then au 0 else if t<8 then aC 0 else if t<9 then .int .u8 (0)else if t<10 then aC 0 else if t<12 then au 0 else aC 0) 0 1 (fun _=>au ((g:Int)+1))) 1 1 (fun _=>aC ((((H).known) g)+1))) 2 6 (rv .u64 ((H).known))) 8 1 (fun _ => .int .u8 (((bL l g o).getD A dB).kind))) 9 1 (fun _=>aC (((bL l g o).getD A dB).node))) 10 1 (fun _=>au (((bL l g o).getD A dB).dst))) 11 1 (fun _=>au (((bL l g o).getD A dB).aU))) 12 1 (fun _=>aC (((bL l g o).getD A dB).req))) 13 1 (fun _=>aC (((bL l g o).getD A dB).of))))) fun P F=>fQ (vs := [(0,au ((g:Int)+1)),(1,aC ((((H).known) g)+1)),(2,.agg (aA 6 (rv .u64 ((H).known)))),(3,.int .u8 (((bL l g o).getD A dB).kind)),(4,aC (((bL l g o).getD A dB).node)),(5,au (((bL l g o).getD A dB).dst)),(6,au (((bL l g o).getD A dB).aU)),(7,aC (((bL l g o).getD A dB).req)),(8,aC (((bL l g o).getD A dB).of))]) (places := #[(0,1),(1,1),(2,6),(8,1),(9,1),(10,1),(11,1),(12,1),(13,1)]) (m:=14) (x:=fun t=>if t<1 then au 0 else if t<8 then aC 0 else if t<9 then .int .u8 (0)else if t<10 then aC 0 else if t<12 then au 0 else aC 0) rfl (Fx.afB (show ev _ (.tmp 124)=au ((g:Int)+1)from by kernel_rfl) (show ev _ (.tmp 130)=aC ((((H).known) g)+1)from by kernel_rfl) (show ev _ (.tmp 132) = .agg (aA 6 (rv .u64 ((H).known)))from by kernel_rfl) (show ev _ (.tmp 134) = .int .u8 (((bL l g o).getD A dB).kind)from by kernel_rfl) (show ev _ (.tmp 136)=aC (((bL l g o).getD A dB).node)from by kernel_rfl) (show ev _ (.tmp 138)=au (((bL l g o).getD A dB).dst)from by kernel_rfl) (show ev _ (.tmp 140)=au (((bL l g o).getD A dB).aU)from by kernel_rfl) (show ev _ (.tmp 142)=aC (((bL l g o).getD A dB).req)from by kernel_rfl) (show ev _ (.tmp 144)=aC (((bL l g o).getD A dB).of)from by kernel_rfl)) Tryz.underlying32 (by kernel_rfl) (by kernel_rfl) (by rw[aR (off:=0) (s:=1) (y:=fun _=>au ((g:Int)+1)) (by kernel_rfl) (cells_one (by rfl)) (by rfl)]; rw[aR (off:=1) (s:=1) (y:=fun _=>aC ((((H).known) g)+1)) (by kernel_rfl) (cells_one (by rfl)) (by rfl)]; rw[aR (off:=2) (s:=6) (y:=rv .u64 ((H).known)) (by kernel_rfl) (bD _ _) (by rfl)]; rw[aR (off:=8) (s:=1) (y:=fun _ => .int .u8 (((bL l g o).getD A dB).kind)) (by kernel_rfl) (cells_one (by rfl)) (by rfl)]; rw[aR (off:=9) (s:=1) (y:=fun _=>aC (((bL l g o).getD A dB).node)) (by kernel_rfl) (cells_one (by rfl)) (by rfl)]; rw[aR (off:=10) (s:=1) (y:=fun _=>au (((bL l g o).getD A dB).dst)) (by kernel_rfl) (cells_one (by rfl)) (by rfl)]; rw[aR (off:=11) (s:=1) (y:=fun _=>au (((bL l g o).getD A dB).aU)) (by kernel_rfl) (cells_one (by rfl)) (by rfl)]; rw[aR (off:=12) (s:=1) (y:=fun _=>aC (((bL l g o).getD A dB).req)) (by kernel_rfl) (cells_one (by rfl)) (by rfl)]; rw[aR (off:=13) (s:=1) (y:=fun _=>aC (((bL l g o).getD A dB).of)) (by kernel_rfl) (cells_one (by rfl)) (by rfl)]; rfl)))
     ·exact .inl rfl
     exact .inr (.inl rfl)
    rintro g3 MG f4 hf1 Aj nC hb4;have asg:X≠g3:=u_ (n_ (pV.lt) Aj);have ash:W≠g3:=u_ (n_ (sJ.lt) Aj);have asi:DL≠g3:=u_ (n_ (mJ.lt) Aj);have asj:g2≠g3:=u_ (n_ (nS.lt) Aj);have⟨sK,rJ,og,qV,wT,tV,b14⟩:=jM hb4 rU pV sJ nJ mJ nS b13;have Aj:D.heap.size<=g3:=m_ b13.size Aj;have J6:=nC.lt;have q1:f4 12=(pt G):=(by rw[hf1]; exact(bH (by kernel_rfl)).trans QD);have q2:f4 15=au ((g:Int)+1):=(by rw[hf1]; exact(bH (by kernel_rfl)).trans Nb);have q3:f4 16=au ((o:Int)+1):=(by rw[hf1]; exact(bH (by kernel_rfl)).trans XI);have q4:f4 17=(pt W):=(by rw[hf1]; exact(bH (by kernel_rfl)).trans h16);have q5:f4 18 = .slice la (S) (lc):=(by rw[hf1]; exact(bH (by kernel_rfl)).trans QE);have q6:f4 20=au (A:Int):=(by rw[hf1]; exact(bH (by kernel_rfl)).trans h18);have q9:f4 116=au (S:Int):=(by rw[hf1]; kernel_rfl);have q38:f4 22=(pt g3):=(by rw[hf1]; kernel_rfl);clear hf1;refine sN<|Ws ?_;have rW:aP MG g3 14 (bV (uV H g ((bL l g o).getD A dB))) 32:=nC.congr (fun j hj=>by rcases j with _|_|_|_|_|_|_|_|_|_|_|_|_|_|j <;> first|rfl|omega)
    refine Wl<|aT q1<|Lv (.agg (aA 14 (bV (uV H g ((bL l g o).getD A dB))))) (fJ rW.aI 0 (ha:=q38))<|dQ (JO (v:=(uV H g ((bL l g o).getD A dB))) qV hv7 hB (hKX.below b14 l0X) (fun _ _=>rfl)) (au 0) (by rw[hE7]) ?_;rintro KJ ⟨hq2,hc2⟩;have R6:=qV.q.typed hc2;have hbw2:=qV.q.Gj hc2 b14.size;have b15:=aeZ b14 hbw2 (A_ _);have wu:=sK.Ca R6 (by decide);have uX:=rJ.Ca R6 (by decide);have ayj:=uX.lt;have uN:=og.Ca R6 (by decide);have ayk:=uN.lt;have vL:=wT.Ca R6 (by decide);have wz:=tV.Ca R6 (by decide);have ayl:=wz.lt;have uw:=rW.Ca R6 (by decide);have aym:=uw.lt;refine Lv aF (ko rfl)<|aD<|aK<|Wk<|bR<|sN<|Wl<|aT q6<|Lv (au ((A:Int)+1)) eU<|av (au ((A:Int)+1))<|Ln ?_;have uy:Fx.Own KJ w9.heap.size 86 6 (.slice la (S) (lc)) S (Ov (bL l g o)):=vL.eH (L_ (fun q=>Value.slice q S lc) eq3.symm);have uz:zP KJ D.heap.size G (iX mz (uV H g ((bL l g o).getD A dB))) (Ms l g (bL l g o) (A+1)) (N9+(A+1)):=by have q9:=hq2; rw[hL7]at q9 ⊢; exact q9
    skip
    refine gL ⟨A+1,iX mz (uV H g ((bL l g o).getD A dB)),by omega,q1,(q2.trans Fx.ic),(q3.trans Fx.ic),q4,q5,Fx.ic,uy,uz,wu,uX,uN,b15⟩ ?_;show(S-(intOf (au ((A:Int)+1))).toNat)<_;simp only[h18,intOf]; omega
   refine Lv aF (gP c117)<|aD<|aK<|Wx<|bY<|gJ<|bZ<|sN<|Ws ?_;have eqx:A=S:=(by omega);obtain⟨p,XZ⟩ : ∃ q,q=kF l g o cc:=⟨_,rfl⟩;have wU:zP xU D.heap.size G mz p (N9+A):=(by have q9:=m24; rw[show(Ms l g (bL l g o) A)=p from by rw[eqx,hn9,XZ,hcc]; exact hle.2]at q9; exact q9);have eNN:p.nn=l.nn:=(by rw[XZ]; exact XF);have eGN:p.gn=l.gn:=(by rw[XZ]; exact XG);have eID:p.id=l.id:=(by rw[XZ]; exact Mx);have eLF:p.left g=true:=(by rw[XZ]; exact OA);have hkE:=wU.i.kn;refine Wl<|aT QD<|lU (Qc wU (by omega)) ?_;rintro e9 w16 ⟨ss2,U,ajz,hb5⟩;obtain⟨Q,I,Y,Z,eS9⟩ : ∃ a b c d,ss2=kL p a b c d:=⟨_,_,_,_,ajz.e⟩;subst eS9;refine⟨_,U,?_⟩;clear U;have⟨qI,vM,oh,tX,b16⟩:=tQ hb5 nP oG nY wU b11;refine uW 20 (fun t=>if t<12 then .bool false else if t<18 then aC 0 else .slice none 0 0) fun g4 TR GQ m64 s11 z5 => ?_;have⟨wV,wB,wW,wX,sM,b17⟩:=tT s11.old qI vM oh tX ajz b16;have Rc:D.heap.size<=g4:=(by rw[GQ]; exact b16.size);have⟨VL,VN⟩:=vH GQ vM.lt oh.lt;have Rf:=m64.lt;refine fq m64 0 (h1:=(fun j _=>Jq _ j)) fun R9 uY s12 z6 => ?_;have uD:aP R9 g4 20 (kK (kL p Q I Y Z)) 53:=aW uY;have qc:=gX s12 m64.ty;have⟨wC,uZ⟩:=Bt qc wV wB;have yx:=wW.cZ s12 (by omega);have⟨wD,yA⟩:=Bt qc wX sM;have b18:=s12.below b17 b17.size (by omega);refine aD<|Ws<|ay<|av (pf g4 18)<|Lv (.slice Q (p.nn) (I)) (aM uD.aI 18)<|av (au p.nn)<|Lv (pf W 18) (iZ h16 18)<|Lv (.slice M (l.nn) (N)) (aM yx.aI 18)<|av (au l.nn)<|Lv aF (Fx.MP rfl rfl rfl (by rw[eNN]))<|av aF<|av (pf g4 19)<|Lv (.slice Y (p.gn) (Z)) (aM uD.aI 19)<|av (au p.gn)<|Lv (pf W 19) (iZ h16 19)<|Lv (.slice J (l.gn) (K)) (aM yx.aI 19)<|av (au l.gn)<|Lv aF (Fx.MP rfl rfl rfl (by rw[eGN]))<|av aF<|av aF<|aT Nb<|Lv (au g) fZ<|av (pf g4 6)<|Lv (pf g4 (g+6)) (iY 6 1)<|Lv aG (aM uD.aI (g+6) ((yU _ R5 (by omega)).trans (L_ Value.bool eLF)))<|av aF<|av aF<|aD<|aK<|Wk<|sN<|Ws<|Ws ?_;have hyN:=yA.n;refine Wl<|av (au 0)<|aD<|Wb<|Wo (fun f C => ∃ E:Nat,E<=p.nn/\f 12=(pt G)/\f 15=au ((g:Int)+1)/\f 16=au ((o:Int)+1)/\f 17=(pt W)/\f 23=(pt g4)/\f 24=au (E:Int)/\Dj C w5.heap.size (kL l M N J K) l/\aP C X 2 (GX (.slice B.la (B.n) (B.lc)) (.slice B.aa (B.an) (B.ac))) 44/\aP C W 20 (kK (kL l M N J K)) 53/\zP C D.heap.size G mz p (N9+A)/\Dj C xU.heap.size (kL p Q I Y Z) p/\aP C g4 20 (kK (kL p Q I Y Z)) 53/\Fx.Own C xU.heap.size 61 56 (.slice Q (p.nn) (I)) p.nn (flat 56 (Sk p))/\Below D.heap.size D C) (fun f _=>(p.nn-(intOf (f 24)).toNat)) ⟨0,by omega,QD,(Nb.trans Fx.ic),(XI.trans Fx.ic),h16,(by rfl),Fx.ic,wC,uZ,yx,wD,yA,uD,hyN,b18⟩ ?_;rintro f5 QF ⟨E,hjx,h19,h20,h21,h22,h23,h24,yB,yC,wY,wE,vg,vN,yR,b19⟩;refine Ws<|ay<|aT h24<|Lv (pf g4 18) (iZ h23 18)<|Lv (.slice Q (p.nn) (I)) (aM vN.aI 18)<|av (au p.nn) ?_;by_cases ajA:(E:Int)<(p.nn:Int)
   ·refine Lv aG (gN ajA)<|aD<|aL<|Wk<|sN<|Ws<|Wb<|Ws ?_;have XP:E<l.nn:=(by omega);have hux : ∀ i,i<E->l.id i≠p.id E:=fun i hi=>by rw[eID]; have:=Gz.rise i E hi XP; omega
    have hmj:=Gz.may E XP;have hLw:=Xz hC Gz XP R5;have Sc:=Xz hC Gz XP afC;refine Wl<|Lv (pf g4 18) (iZ h23 18)<|Lv (.slice Q (p.nn) (I)) (aM vN.aI 18)<|aT h24 ?_;obtain⟨NC,eq4⟩:=yR.addr (by omega);have xV:Fx.Own QF xU.heap.size 61 56 (bO NC p.nn I) p.nn (flat 56 (Sk p)):=yR.eH (L_ (fun q=>Value.slice q p.nn I) eq4);refine Lv (pf NC (56*E)) (dh 56 (hx:=(rfl.trans (L_ (fun q=>Value.slice q (p.nn) (I)) eq4))))<|av (pf NC (56*E))<|Lv (aC (p.id E)) (aM xV.aI (56*E) (Fx.gy (k:=E) (j:=0) (by omega) (by omega) rfl))<|av (aC (p.id E))<|aD<|ay<|av (au 1)<|aD<|Wb ?_;have AA:Fx.Own QF xU.heap.size 61 56 (.slice Q (p.nn) (I)) p.nn (flat 56 (Sk p)):=xV.eH (L_ (fun q=>Value.slice q p.nn I) eq4.symm);refine Wo (fun f C => ∃ O:Nat,O<=6/\f 12=(pt G)/\f 15=au ((g:Int)+1)/\f 16=au ((o:Int)+1)/\f 17=(pt W)/\f 23=(pt g4)/\f 24=au (E:Int)/\f 25=aC (p.id E)/\f 26=au ((O:Int)+1)/\Dj C w5.heap.size (kL l M N J K) l/\aP C X 2 (GX (.slice B.la (B.n) (B.lc)) (.slice B.aa (B.an) (B.ac))) 44/\aP C W 20 (kK (kL l M N J K)) 53/\zP C D.heap.size G mz p (N9+A)/\Dj C xU.heap.size (kL p Q I Y Z) p/\aP C g4 20 (kK (kL p Q I Y Z)) 53/\Fx.Own C xU.heap.size 61 56 (.slice Q (p.nn) (I)) p.nn (flat 56 (Sk p))/\Below D.heap.size D C) (fun f _=>(7-(intOf (f 26)).toNat)) ⟨0,by omega,h19,(h20.trans Fx.ic),(h21.trans Fx.ic),h22,h23,(h24.trans Fx.ic),Fx.ic,Fx.ic,yB,yC,wY,wE,vg,vN,AA,b19⟩ ?_;rintro f6 TU ⟨O,hrx,h25,h26,h27,TL,h29,Yl,h31,h32,zW,zX,yS,zD,Al,Dz,Cc,b20⟩;refine Ws<|ay<|aT h32 ?_;by_cases ajB:((O:Int)+1)<=6
    ·refine Lv aG (nM ajB)<|aD<|aL<|Wk<|sN<|Ws<|Wb<|Ws ?_;have hr6:O<6:=(by omega);have hLr:=Xz hC Gz XP hr6;have hloc:zl p (p.id E) ((O:Int)+1)=Xy l g o E O:=(by rw[XZ,Mx]; exact afx hC Gz XP hr6);refine Wl<|Lv (.agg (aA 20 (kK (kL l M N J K)))) (fJ yS.aI 0 (ha:=TL))<|aT h32<|aT h31<|dQ (IZ (kL l M N J K) l.id l.par l.R (p.id E) O E _ zW.n.arr (show l.nn<=1000000 by omega) (by omega) XP (by rw[eID]) hux hmj) _ rfl ?_;intro w21 hb6;have⟨Ao,Bg,yE,DJ,Ce,DK,Eo,KH⟩:=kW hb6 zW zX yS zD Al Dz Cc b20;refine av (au (Rt.L (l.R E) O))<|aD<|Ws<|ay<|aT h32<|aT h26 ?_;by_cases ajC:((O:Int)+1)=((g:Int)+1)
     ·refine Lv aG (eX ajC)<|aD<|aL<|Wl<|av (au 0)<|aD<|Cm (fun f C=>f 12=(pt G)/\f 15=au ((g:Int)+1)/\f 16=au ((o:Int)+1)/\f 17=(pt W)/\f 23=(pt g4)/\f 24=au (E:Int)/\f 25=aC (p.id E)/\f 26=au ((O:Int)+1)/\f 27=au (Xy l g o E O)/\Dj C w5.heap.size (kL l M N J K) l/\aP C X 2 (GX (.slice B.la (B.n) (B.lc)) (.slice B.aa (B.an) (B.ac))) 44/\aP C W 20 (kK (kL l M N J K)) 53/\zP C D.heap.size G mz p (N9+A)/\Dj C xU.heap.size (kL p Q I Y Z) p/\aP C g4 20 (kK (kL p Q I Y Z)) 53/\Fx.Own C xU.heap.size 61 56 (.slice Q (p.nn) (I)) p.nn (flat 56 (Sk p))/\Below D.heap.size D C) ?_ ?_
      ·refine ay<|aT h32<|aT h27<|Lv aF aav<|aD<|aK<|Wk ?_;exact wo ⟨h25,(h26.trans Fx.ic),(h27.trans Fx.ic),TL,h29,(Yl.trans Fx.ic),(h31.trans Fx.ic),(h32.trans Fx.ic),(L_ (Value.int .i64) (by rw[show O=g by omega]; exact ajr)),Ao,Bg,yE,DJ,Ce,DK,Eo,KH⟩
      rintro f7 w22 ⟨h33,h34,h35,h36,h37,h38,h39,h40,h41,uO,xB,uP,rM,oI,ou,pK,MF⟩;refine ay<|aT h33<|aT h40<|aT h39<|dQ (Qb rM ((O:Int)+1) (p.id E) (by omega)) _ rfl ?_;intro w23 hb7;have⟨oJ,ql,qM,tZ,qm,sZ,xZ,TJ⟩:=kW hb7 uO xB uP rM oI ou pK MF;refine aT h41<|Lv aF (ko hloc)<|aD<|aK<|Wk<|bR<|sN<|Wl<|aT h40<|Lv (au ((O:Int)+2)) eU<|av (au ((O:Int)+2))<|Ln<|gL ⟨O+1,by omega,h33,(h34.trans Fx.ic),(h35.trans Fx.ic),h36,h37,(h38.trans Fx.ic),(h39.trans Fx.ic),Fx.ic,oJ,ql,qM,tZ,qm,sZ,xZ,TJ⟩ ?_;show(7-(intOf (au ((O:Int)+2))).toNat)<_;simp only[h32,intOf]; omega
     refine Lv aF (fT ajC)<|aD<|aK<|Wk<|sN<|Cm (fun f C=>f 12=(pt G)/\f 15=au ((g:Int)+1)/\f 16=au ((o:Int)+1)/\f 17=(pt W)/\f 23=(pt g4)/\f 24=au (E:Int)/\f 25=aC (p.id E)/\f 26=au ((O:Int)+1)/\f 27=au (Xy l g o E O)/\Dj C w5.heap.size (kL l M N J K) l/\aP C X 2 (GX (.slice B.la (B.n) (B.lc)) (.slice B.aa (B.an) (B.ac))) 44/\aP C W 20 (kK (kL l M N J K)) 53/\zP C D.heap.size G mz p (N9+A)/\Dj C xU.heap.size (kL p Q I Y Z) p/\aP C g4 20 (kK (kL p Q I Y Z)) 53/\Fx.Own C xU.heap.size 61 56 (.slice Q (p.nn) (I)) p.nn (flat 56 (Sk p))/\Below D.heap.size D C) ?_ ?_
     ·refine ay<|aT h32<|aT h27 ?_;by_cases ajD:((O:Int)+1)=((o:Int)+1)
      ·refine Lv aG (eX ajD)<|aD<|aL<|Wl<|av (au (Rt.L (l.R E) O))<|Lv (.agg (aA 20 (kK (kL l M N J K)))) (fJ yE.aI 0 (ha:=TL))<|aT h26<|aT h31<|dQ (IZ (kL l M N J K) l.id l.par l.R (p.id E) g E _ Ao.n.arr (show l.nn<=1000000 by omega) (by omega) XP (by rw[eID]) hux hmj) _ rfl ?_;intro w24 hb8;have⟨uf,yc,AL,vR,tu,pO,xC,TK⟩:=kW hb8 Ao Bg yE DJ Ce DK Eo KH;refine Lv (au ((Rt.L (l.R E) O)+(Rt.L (l.R E) g))) eU<|av (au ((Rt.L (l.R E) O)+(Rt.L (l.R E) g)))<|Ln ?_;exact wo ⟨h25,(h26.trans Fx.ic),(h27.trans Fx.ic),TL,h29,(Yl.trans Fx.ic),(h31.trans Fx.ic),(h32.trans Fx.ic),(L_ (Value.int .i64) (by rw[show O=o by omega]; exact ajs (by omega))),uf,yc,AL,vR,tu,pO,xC,TK⟩
      refine Lv aF (fT ajD)<|aD<|aK<|Wk ?_;exact wo ⟨h25,(h26.trans Fx.ic),(h27.trans Fx.ic),TL,h29,(Yl.trans Fx.ic),(h31.trans Fx.ic),(h32.trans Fx.ic),(L_ (Value.int .i64) (ajt (by omega) (by omega))),Ao,Bg,yE,DJ,Ce,DK,Eo,KH⟩
     rintro f8 w25 ⟨h42,h43,h44,h45,h46,h47,h48,h49,h50,xD,tC,AO,Er,Cw,zZ,Cx,b25⟩;refine ay<|aT h42<|aT h49<|aT h48<|dQ (Qb Er ((O:Int)+1) (p.id E) (by omega)) _ rfl ?_;intro w26 XL;have⟨Es,AP,yV,FU,GR,Cy,CB,b26⟩:=kW XL xD tC AO Er Cw zZ Cx b25;refine aT h50<|Lv aF (ko hloc)<|aD<|aK<|Wk<|bR<|sN<|Wl<|aT h49<|Lv (au ((O:Int)+2)) eU<|av (au ((O:Int)+2))<|Ln<|gL ⟨O+1,by omega,h42,(h43.trans Fx.ic),(h44.trans Fx.ic),h45,h46,(h47.trans Fx.ic),(h48.trans Fx.ic),Fx.ic,Es,AP,yV,FU,GR,Cy,CB,b26⟩ ?_;show(7-(intOf (au ((O:Int)+2))).toNat)<_;simp only[h32,intOf]; omega
    refine Lv aF (nV ajB)<|aD<|aK<|Wx<|bY<|gJ<|bZ<|bR<|sN<|Wl<|aT Yl<|Lv (au ((E:Int)+1)) eU<|av (au ((E:Int)+1))<|Ln<|gL ⟨E+1,by omega,h25,(h26.trans Fx.ic),(h27.trans Fx.ic),TL,h29,Fx.ic,zW,zX,yS,zD,Al,Dz,Cc,b20⟩ ?_;show(p.nn-(intOf (au ((E:Int)+1))).toNat)<_;simp only[h24,intOf]; omega
   refine Lv aF (gP ajA)<|aD<|aK<|Wx<|bY<|gJ<|bZ<|sN<|ay<|Lv (.agg (aA 20 (kK (kL p Q I Y Z)))) (fJ vN.aI 0 (ha:=h23))<|lU (JY (kL p Q I Y Z) _) ?_;rintro e9 w27 ⟨vb,nb,U,hnb,hOb,hbb⟩;obtain⟨ab,J2,rfl⟩:=hOb.val;have ayu:nb<=6:=(by rw[hnb]; exact zn _ 6);refine⟨_,U,?_⟩;clear U;have⟨Et,Eu,AQ,CF,AU,CO,CG,Yj⟩:=kW hbb yB yC wY wE vg vN yR b19;refine av (.slice ab (nb) (J2))<|aD<|Ws<|ay<|av (au 0)<|aD<|Wb<|Wo (fun f C => ∃ kq:Nat,kq<=nb/\f 12=(pt G)/\f 15=au ((g:Int)+1)/\f 16=au ((o:Int)+1)/\f 17=(pt W)/\f 28 = .slice ab (nb) (J2)/\f 29=au (kq:Int)/\Dj C w5.heap.size (kL l M N J K) l/\aP C X 2 (GX (.slice B.la (B.n) (B.lc)) (.slice B.aa (B.an) (B.ac))) 44/\aP C W 20 (kK (kL l M N J K)) 53/\zP C D.heap.size G mz p (N9+A)/\Dj C xU.heap.size (kL p Q I Y Z) p/\aP C g4 20 (kK (kL p Q I Y Z)) 53/\Fx.Own C xU.heap.size 61 56 (.slice Q (p.nn) (I)) p.nn (flat 56 (Sk p))/\Fx.Own C QF.heap.size 3 1 (.slice ab (nb) (J2)) nb (Ow (gW (kL p Q I Y Z) 6))/\Below D.heap.size D C) (fun f _=>(nb-(intOf (f 29)).toNat)) ⟨0,by omega,h19,(h20.trans Fx.ic),(h21.trans Fx.ic),h22,(by rfl),Fx.ic,Et,Eu,AQ,CF,AU,CO,CG,hOb,Yj⟩ ?_;rintro f9 w28 ⟨kq,hkq,h51,XK,h53,h54,h55,h56,yg,yX,yh,BI,K4,JA,K5,Js,XJ⟩;refine Ws<|ay<|aT h56<|aT h55<|av (au nb) ?_;by_cases ajE:(kq:Int)<(nb:Int)
   ·refine Lv aG (gN ajE)<|aD<|aL<|Wk<|sN<|Ws<|Wb<|ay<|aT h55<|aT h56 ?_;obtain⟨gq3,eq5⟩:=Js.addr (by omega);have Rh:Fx.Own w28 QF.heap.size 3 1 (bO gq3 nb J2) nb (Ow (gW (kL p Q I Y Z) 6)):=Js.eH (L_ (fun q=>Value.slice q nb J2) eq5);refine Lv (pf gq3 kq) (dh 1 (hx:=(rfl.trans (L_ (fun q=>Value.slice q (nb) (J2)) eq5))))<|Lv (au ((gW (kL p Q I Y Z) 6).getD kq 0)) (aM Rh.aI kq)<|aT XK<|Lv aF (jm rfl rfl rfl (fun e=>aai (L:=l) (a:=g) (b:=o) (c:=cc) (q:=kq) (na:=Q) (nc:=I) (ga:=Y) (gc:=Z) (by rw[<- XZ,<- hnb]; omega) (by rw[<- XZ]; exact e)))<|aD<|aK<|Wk<|bR<|sN<|Wl<|aT h56<|Lv (au ((kq:Int)+1)) eU<|av (au ((kq:Int)+1))<|Ln ?_;have Nr:Fx.Own w28 QF.heap.size 3 1 (.slice ab (nb) (J2)) nb (Ow (gW (kL p Q I Y Z) 6)):=Rh.eH (L_ (fun q=>Value.slice q nb J2) eq5.symm);refine gL ⟨kq+1,by omega,h51,(XK.trans Fx.ic),(h53.trans Fx.ic),h54,h55,Fx.ic,yg,yX,yh,BI,K4,JA,K5,Nr,XJ⟩ ?_;show(nb-(intOf (au ((kq:Int)+1))).toNat)<_;simp only[h56,intOf]; omega
   refine Lv aF (gP ajE)<|aD<|aK<|Wx<|bY<|gJ<|bZ<|sN<|Ws ?_;have ayv:=hkE g R5;refine qE (T:=32) (T':=32) (a := .tmp 30) (v := .tmp 239) (m:=14) (z:=fun t=>if t<1 then au 0 else if t<8 then aC 0 else if t<9 then .int .u8 (0)else if t<10 then aC 0 else if t<12 then au 0 else aC 0) (y:=aZ (aZ (aZ (aZ (aZ (fun t=>if t<1 then au 0 else if t<8 then aC 0 else if t<9 then .int .u8 (0)else if t<10 then aC 0 else if t<12 then au 0 else aC 0) 0 1 (fun _=>au ((g:Int)+1))) 1 1 (fun _=>aC ((((p).known) g)+1))) 2 6 (rv .u64 ((p).known))) 8 1 (fun _ => .int .u8 (6))) 10 1 (fun _=>au ((o:Int)+1))) (u := .agg (aA 14 (aZ (aZ (aZ (aZ (aZ (fun t=>if t<1 then au 0 else if t<8 then aC 0 else if t<9 then .int .u8 (0)else if t<10 then aC 0 else if t<12 then au 0 else aC 0) 0 1 (fun _=>au ((g:Int)+1))) 1 1 (fun _=>aC ((((p).known) g)+1))) 2 6 (rv .u64 ((p).known))) 8 1 (fun _ => .int .u8 (6))) 10 1 (fun _=>au ((o:Int)+1))))) 11 12 (List.replicate 13 (0,2,[],[])) #[au ((g:Int)+1),(pt G),.agg (aA 6 (rv .u64 ((p).known))),au ((g:Int)+1),au (g:Int),aC (((p).known) g),aC ((((p).known) g)+1),(pt G),.agg (aA 6 (rv .u64 ((p).known))),au ((o:Int)+1),.agg (aA 14 (aZ (aZ (aZ (aZ (aZ (fun t=>if t<1 then au 0 else if t<8 then aC 0 else if t<9 then .int .u8 (0)else if t<10 then aC 0 else if t<12 then au 0 else aC 0) 0 1 (fun _=>au ((g:Int)+1))) 1 1 (fun _=>aC ((((p).known) g)+1))) 2 6 (rv .u64 ((p).known))) 8 1 (fun _ => .int .u8 (6))) 10 1 (fun _=>au ((o:Int)+1)))),undef,undef] (by kernel_rfl) (by kernel_rfl) (by kernel_rfl) (by kernel_rfl) (by kernel_rfl) (by kernel_rfl) rfl (by kernel_rfl) rfl rfl (by kernel_rfl) (fun g5=>(show ev _ (.tmp 30)=(pt g5)from by kernel_rfl)) (fun g5=>(show ev _ (.tmp 239) = .agg (aA 14 (aZ (aZ (aZ (aZ (aZ (fun t=>if t<1 then au 0 else if t<8 then aC 0 else if t<9 then .int .u8 (0)else if t<10 then aC 0 else if t<12 then au 0 else aC 0) 0 1 (fun _=>au ((g:Int)+1))) 1 1 (fun _=>aC ((((p).known) g)+1))) 2 6 (rv .u64 ((p).known))) 8 1 (fun _ => .int .u8 (6))) 10 1 (fun _=>au ((o:Int)+1))))from by kernel_rfl)) (bD _ _) (bE (bE (bE (bE (bE (fun jq _=>by show((fun t=>if t<1 then au 0 else if t<8 then aC 0 else if t<9 then .int .u8 (0)else if t<10 then aC 0 else if t<12 then au 0 else aC 0:Nat->Value) jq).oneCell'=true; simp only[]; repeat (first|rfl|split)) (fun _ _=>rfl)) (fun _ _=>rfl)) (fun _ _=>rfl)) (fun _ _=>rfl)) (fun _ _=>rfl)) (by kernel_rfl) (fun g5 => ?_) ?_
   ·refine⟨?_,?_,?_,?_,?_,?_,?_,?_,?_,?_,?_,?_,?_,trivial⟩
    ·exact .inr (.inr (lY (au ((g:Int)+1)) fun P F=>dO rfl ((bH (by kernel_rfl)).trans XK)))
    ·exact .inr (.inr (lY (pt G) fun P F=>dO rfl ((bH (by kernel_rfl)).trans h51)))
    ·exact .inr (.inr (Fx.yI (v := .agg (aA 6 (rv .u64 ((p).known)))) (by kernel_rfl) (by kernel_rfl) (Fx.qbC (fun P F=>rC (args := [(pt G)]) rfl (Fx.args1 (show ev _ (.tmp 230)=(pt G)from by kernel_rfl)) Tryz.func23 rfl rfl) (fun P F=>(EX (BI.up F)).mono fun e v2 h=>⟨h.1,h.2⟩))))
    ·exact .inr (.inr (lY (au ((g:Int)+1)) fun P F=>dO rfl ((bH (by kernel_rfl)).trans XK)))
    ·exact .inr (.inr (lY (au g) fun P F=>Fx.OE rfl (show ev _ (.tmp 232)=au ((g:Int)+1)from by kernel_rfl) (show ev _ (.const (au 1))=au 1 from by kernel_rfl) Fx.io))
    ·exact .inr (.inr (lY (aC (((p).known) g)) fun P F=>Fx.Bq (j:=g) (y:=rv .u64 ((p).known)) rfl (show ev _ (.tmp 231) = .agg (aA 6 (rv .u64 ((p).known)))from by kernel_rfl) (show ev _ (.tmp 233)=au (g:Int)from by kernel_rfl) Tryz.underlying30 (by kernel_rfl) (by kernel_rfl) (by omega) (rfl)))
    ·exact .inr (.inr (lY (aC ((((p).known) g)+1)) fun P F=>Fx.Fa rfl (show ev _ (.tmp 234)=aC (((p).known) g)from by kernel_rfl) (show ev _ (.const (aC 1))=aC 1 from by kernel_rfl) (jL (by omega) (by omega))))
    ·exact .inr (.inr (lY (pt G) fun P F=>dO rfl ((bH (by kernel_rfl)).trans h51)))
    ·exact .inr (.inr (Fx.yI (v := .agg (aA 6 (rv .u64 ((p).known)))) (by kernel_rfl) (by kernel_rfl) (Fx.qbC (fun P F=>rC (args := [(pt G)]) rfl (Fx.args1 (show ev _ (.tmp 236)=(pt G)from by kernel_rfl)) Tryz.func23 rfl rfl) (fun P F=>(EX (BI.up F)).mono fun e v2 h=>⟨h.1,h.2⟩))))
    ·exact .inr (.inr (lY (au ((o:Int)+1)) fun P F=>dO rfl ((bH (by kernel_rfl)).trans h53)))
    ·exact .inr (.inr (lY (.agg (aA 14 (aZ (aZ (aZ (aZ (aZ (fun t=>if t<1 then au 0 else if t<8 then aC 0 else if t<9 then .int .u8 (0)else if t<10 then aC 0 else if t<12 then au 0 else aC 0) 0 1 (fun _=>au ((g:Int)+1))) 1 1 (fun _=>aC ((((p).known) g)+1))) 2 6 (rv .u64 ((p).known))) 8 1 (fun _ => .int .u8 (6))) 10 1 (fun _=>au ((o:Int)+1))))) fun P F=>fQ (vs := [(0,au ((g:Int)+1)),(1,aC ((((p).known) g)+1)),(2,.agg (aA 6 (rv .u64 ((p).known)))),(3,.int .u8 (6)),(5,au ((o:Int)+1))]) (places := #[(0,1),(1,1),(2,6),(8,1),(9,1),(10,1),(11,1),(12,1),(13,1)]) (m:=14) (x:=fun t=>if t<1 then au 0 else if t<8 then aC 0 else if t<9 then .int .u8 (0)else if t<10 then aC 0 else if t<12 then au 0 else aC 0) rfl (Fx.SI (show ev _ (.tmp 229)=au ((g:Int)+1)from by kernel_rfl) (show ev _ (.tmp 235)=aC ((((p).known) g)+1)from by kernel_rfl) (show ev _ (.tmp 237) = .agg (aA 6 (rv .u64 ((p).known)))from by kernel_rfl) (show ev _ (.const (.int .u8 (6))) = .int .u8 (6)from by kernel_rfl) (show ev _ (.tmp 238)=au ((o:Int)+1)from by kernel_rfl)) Tryz.underlying32 (by kernel_rfl) (by kernel_rfl) (by rw[aR (off:=0) (s:=1) (y:=fun _=>au ((g:Int)+1)) (by kernel_rfl) (cells_one (by rfl)) (by rfl)]; rw[aR (off:=1) (s:=1) (y:=fun _=>aC ((((p).known) g)+1)) (by kernel_rfl) (cells_one (by rfl)) (by rfl)]; rw[aR (off:=2) (s:=6) (y:=rv .u64 ((p).known)) (by kernel_rfl) (bD _ _) (by rfl)]; rw[aR (off:=8) (s:=1) (y:=fun _ => .int .u8 (6)) (by kernel_rfl) (cells_one (by rfl)) (by rfl)]; rw[aR (off:=10) (s:=1) (y:=fun _=>au ((o:Int)+1)) (by kernel_rfl) (cells_one (by rfl)) (by rfl)]; rfl)))
    ·exact .inl rfl
    exact .inr (.inl rfl)
   rintro g5 w29 f10 hf2 WA QY acI;have alj:X≠g5:=u_ (n_ (yX.lt) WA);have alk:W≠g5:=u_ (n_ (yh.lt) WA);have alm:g4≠g5:=u_ (n_ (JA.lt) WA);have⟨Ns,K6,Nt,Jt,U2,U3,Vd,K7,b29⟩:=Br acI yg yX yh BI K4 JA K5 Js XJ;have WA:D.heap.size<=g5:=m_ XJ.size WA;have tg5:=QY.lt;have q39:f10 12=(pt G):=(by rw[hf2]; exact(bH (by kernel_rfl)).trans h51);have q40:f10 17=(pt W):=(by rw[hf2]; exact(bH (by kernel_rfl)).trans h54);have q41:f10 28 = .slice ab (nb) (J2):=(by rw[hf2]; exact(bH (by kernel_rfl)).trans h55);have q42:f10 30=(pt g5):=(by rw[hf2]; kernel_rfl);clear hf2;refine sN<|Ws ?_;have QZ:aP w29 g5 14 (bV (uV p g ⟨6,0,(o:Int)+1,0,0,0⟩)) 32:=QY.congr (fun j hj=>by rcases j with _|_|_|_|_|_|_|_|_|_|_|_|_|_|j <;> first|rfl|omega)
   have hEJ:bQ p (uV p g ⟨6,0,(o:Int)+1,0,0,0⟩)=10:=(by rw[XZ]; exact ajm hC Gz (by omega));have hvJ:gU (uV p g ⟨6,0,(o:Int)+1,0,0,0⟩):=Xw hkE R5 (aaj afC);refine Wl<|aT q39<|Lv (.agg (aA 14 (bV (uV p g ⟨6,0,(o:Int)+1,0,0,0⟩)))) (fJ QZ.aI 0 (ha:=q42))<|dQ (JO (v:=(uV p g ⟨6,0,(o:Int)+1,0,0,0⟩)) Jt hvJ hB (hKX.below b29 l0X) (fun _ _=>rfl)) (au 10) (by rw[hEJ]) ?_;rintro w30 ⟨hq3,hc3⟩;have MB:=Jt.q.typed hc3;have asn:=Jt.q.Gj hc3 b29.size;have b30:=aeZ b29 asn (A_ _);have adl:=Ns.Ca MB (by decide);have U4:=K6.Ca MB (by decide);have aun:=U4.lt;have Q0:=Nt.Ca MB (by decide);have auo:=Q0.lt;have YI:=U2.Ca MB (by decide);have ads:=U3.Ca MB (by decide);have aup:=ads.lt;have aht:=Vd.Ca MB (by decide);have ahu:=K7.Ca MB (by decide);have adt:=QZ.Ca MB (by decide);have auq:=adt.lt;refine Lv aG (eX rfl)<|av aG<|aT q41<|av (au nb)<|Lv (.agg (aA 20 (kK (kL l M N J K)))) (fJ Q0.aI 0 (ha:=q40))<|lU (JY (kL l M N J K) _) ?_;rintro e9 w31 ⟨vd,nd,U,hnd,hOd,hbd⟩;obtain⟨ad,ayB,rfl⟩:=hOd.val;have ayC:nd<=6:=(by rw[hnd]; exact zn _ 6);refine⟨_,U,?_⟩;clear U;have b31:=bF hbd b30;refine av (au nd)<|Lv (au ((nd:Int)-1)) fZ<|Lv aG (jl rfl rfl rfl (by have q9:=XE (c:=cc) hC (na:=Q) (nc:=I) (ga:=Y) (gc:=Z) (XA:=M) (XC:=N) (XB:=J) (XD:=K); rw[<- XZ,<- hnb,<- hnd]at q9; exact q9))<|av aG<|av aG<|dQ (zq _) _ rfl ?_;intro w32 acJ;have b32:=bF acJ b31;refine av aG<|av aG<|aD<|Wr<|aJ aG ?_;exact⟨rfl,(afb b2 b32 b2.size)⟩
  refine Lv aG (nN afD)<|aD<|aL<|Ws ?_;obtain⟨aso,ajF⟩:=(R3 (kL l M N J K) l.id l.R ((g:Int)+1) ((o:Int)+1)).resolve_left afD;have hn0:S=0:=by rw[hn9,ajF]; rfl
  refine Wl<|av (au (mI (kL l M N J K) ((g:Int)+1) ((o:Int)+1)))<|Lv aG (eX aso)<|av aG<|av (.slice la (S) (lc))<|av (au S)<|Lv aG aau<|av aG<|av aG<|dQ (zq _) _ rfl ?_;intro w33 acK;have b33:=bF acK b10;refine av aG<|av aG<|aD<|Wr<|sR<|aJ aG ?_;exact⟨rfl,(afb b2 b33 b2.size)⟩
 rw[U_]at c32;refine mO (aaU _ _ _ _) (ax := #[.slice aa0 (na) (ca)]) aF (by rw[c32])<|av aG<|aD<|aL<|ay<|dQ (zq _) _ rfl ?_;intro w34 acL;have b34:=bF acL (Below.refl w.heap.size w);refine av aG<|aD<|Wr<|sR<|aJ aG ?_;exact⟨rfl,b34⟩
end Go.Proofs.YtahbiajdgealnaaGreatDoor
namespace Go.Proofs.YtahbiajdgealnaaGreatDoor
open Go Go.RowKit Rt
set_option maxRecDepth 100000
theorem kG : Tryz.prog.globalNamed "leat/ledger.kinds" = some 0 := by kernel_rfl
theorem kT:(Tryz.prog.globals[0]?).map (·.type)=some 137:=by kernel_rfl
theorem kC:Tryz.prog.cellsOf 136=1:=by kernel_rfl
theorem kC8:Tryz.prog.cellsOf 137=8:=by kernel_rfl
theorem MC{H:Type}{enc:TypeId × Value->H}{P:Program}{w:World}{base:Nat}{d:Nat->Bool}{a:Bool}{fuel:Nat}{t:TypeId}{c rs:Array TypeId}{e:Bool}{v:Value}{q:List MemPlace}(b:P.underlying t=some (.func c rs e))(h:DataW.trod enc P w base d a fuel t [v]=some (.nil,q)):v = .nilFunc:=by
 cases fuel with
 | zero=>simp[DataW.trod]at h
 | succ n=>cases v <;> simp[DataW.trod,b]at h <;> rfl
theorem ME {W : World} (h : laidMetH Tryz.prog [("leat/ledger.kinds", Rows.laid_leat_ledger_kinds)] W) : Fx.jg W 0 0 8 Oc := by
 obtain⟨g,t,e,R,p,V,Z,hv,T⟩:=h.funcs (List.mem_singleton.2 rfl);obtain rfl:=C_ (kG.symm.trans V);obtain rfl:=C_ (kT.symm.trans Z);have U:DataW.trod (funcToken Tryz.prog) Tryz.prog W 0 (fun _=>true) true R 137 e.toList=some (.agg [.nil,.held [40,42,108,101,97,116,47,108,101,100,103,101,114,46,76,101,100,103,101,114,41,46,109,97,107,101,115],.held [40,42,108,101,97,116,47,108,101,100,103,101,114,46,76,101,100,103,101,114,41,46,114,97,105,115,101,115],.held [40,42,108,101,97,116,47,108,101,100,103,101,114,46,76,101,100,103,101,114,41,46,116,97,107,101,115],.held [40,42,108,101,97,116,47,108,101,100,103,101,114,46,76,101,100,103,101,114,41,46,102,114,101,101,115],.held [40,42,108,101,97,116,47,108,101,100,103,101,114,46,76,101,100,103,101,114,41,46,109,111,118,101,115],.held [40,42,108,101,97,116,47,108,101,100,103,101,114,46,76,101,100,103,101,114,41,46,106,111,105,110,115],.held [40,42,108,101,97,116,47,108,101,100,103,101,114,46,76,101,100,103,101,114,41,46,108,101,97,118,101,115]],p):=T;obtain⟨k,m,_,Q,Y,hl,l⟩:=DataW.trod_array Tryz.underlying137 U;have P:k.map (·.1) = [.nil,.held [40,42,108,101,97,116,47,108,101,100,103,101,114,46,76,101,100,103,101,114,41,46,109,97,107,101,115],.held [40,42,108,101,97,116,47,108,101,100,103,101,114,46,76,101,100,103,101,114,41,46,114,97,105,115,101,115],.held [40,42,108,101,97,116,47,108,101,100,103,101,114,46,76,101,100,103,101,114,41,46,116,97,107,101,115],.held [40,42,108,101,97,116,47,108,101,100,103,101,114,46,76,101,100,103,101,114,41,46,102,114,101,101,115],.held [40,42,108,101,97,116,47,108,101,100,103,101,114,46,76,101,100,103,101,114,41,46,109,111,118,101,115],.held [40,42,108,101,97,116,47,108,101,100,103,101,114,46,76,101,100,103,101,114,41,46,106,111,105,110,115],.held [40,42,108,101,97,116,47,108,101,100,103,101,114,46,76,101,100,103,101,114,41,46,108,101,97,118,101,115]]:=by
  have:=L_ Prod.fst Q;simp only[DataW.agg.injEq]at this;exact this.symm
 rw[kC8]at Y;rw[kC]at l;have a : ∀ i,i<8 -> ∀ d,(k.map (·.1))[i]? = some d -> ∃ c q,e[i]? = some c/\DataW.trod (funcToken Tryz.prog) Tryz.prog W 0 (fun _=>true) true m 136 [c]=some (d,q):=fun i X d b=>by
  have f:=l i X;rw[Nat.mul_one]at f;have S:(e.toList.drop i).take 1 = [e.toList[i]'(by omega)]:=by rw[List.drop_eq_getElem_cons (by omega)]; rfl
  rw[S]at f;rw[List.getElem?_map]at b
  cases hx:k[i]? with
  | none=>rw[hx]at b; cases b
  | some x =>
    rw[hx]at f b;simp only[Option.map_some,Option.some.injEq]at b;refine⟨e.toList[i]'(by omega),x.2,?_,by rw[f,<- b]⟩;rw[<- Array.getElem?_toList,o_ (by omega)]
 rw[P]at a;intro j hj;rw[G_,World.var?_cell kG hv j];obtain⟨c0,q0,n,z⟩:=a 0 (by decide) _ rfl;have H:=MC Tryz.underlying136 z;obtain⟨c1,q1,o,A⟩:=a 1 (by decide) _ rfl;have I:=func_of_trod (f0:=162) Tryz.underlying136 (by kernel_rfl) A;obtain⟨c2,q2,r,B⟩:=a 2 (by decide) _ rfl;have J:=func_of_trod (f0:=163) Tryz.underlying136 (by kernel_rfl) B;obtain⟨c3,q3,s,C⟩:=a 3 (by decide) _ rfl;have K:=func_of_trod (f0:=164) Tryz.underlying136 (by kernel_rfl) C;obtain⟨c4,q4,u,D⟩:=a 4 (by decide) _ rfl;have L:=func_of_trod (f0:=165) Tryz.underlying136 (by kernel_rfl) D;obtain⟨c5,q5,v,E⟩:=a 5 (by decide) _ rfl;have M:=func_of_trod (f0:=166) Tryz.underlying136 (by kernel_rfl) E;obtain⟨c6,q6,w,F⟩:=a 6 (by decide) _ rfl;have N:=func_of_trod (f0:=167) Tryz.underlying136 (by kernel_rfl) F;obtain⟨c7,q7,y,G⟩:=a 7 (by decide) _ rfl;have O:=func_of_trod (f0:=168) Tryz.underlying136 (by kernel_rfl) G
 rcases j with _|_|_|_|_|_|_|_|j
 ·rw[n,H]; rfl
 ·rw[o,I]; rfl
 ·rw[r,J]; rfl
 ·rw[s,K]; rfl
 ·rw[u,L]; rfl
 ·rw[v,M]; rfl
 ·rw[w,N]; rfl
 ·rw[y,O]; rfl
 omega
theorem XH (os : Os) (args : Array Value) : laidMetH Tryz.prog [("leat/ledger.kinds", Rows.laid_leat_ledger_kinds)] ((World.doorLaid Tryz.prog 600 os).forCall (fun _ _ => 0) ⟨#[], args, []⟩).memory :=
 laidMetH_of_parts3 (fuel:=8) (laidMet_of_run' 8 (by kernel_rfl) (by kernel_rfl)) (by kernel_rfl) (by kernel_rfl)
end Go.Proofs.YtahbiajdgealnaaGreatDoor
