/-
  What the proof of the law rests on, part 4: walks of functions, and plain laws; each says its conditions itself.
-/
import Derived.Laws.StructEq
import Derived.Test.YtcbedgfikejkoaaGreatDoorZE3
set_option linter.unusedVariables false
set_option maxHeartbeats 1600000
set_option linter.unusedSimpArgs false
namespace Go.Proofs.YtcbedgfikejkoaaGreatDoor
open Go.RowKit Rt
open Fx (fF fO bf dR eG Lv sN Ln Ws Qv Wl Rp Wr Sb Wk rC sR Rs Rn Rd Rk Wb Wx Wo Wt qZ Qn yP zB qL fP zC vN zA A9 Ad rv aA aQ bG ev cK Stp aL flat dJ aS bE down nV bK bJ cells_one jg bA qR iJ bW bL bU cZ dh gZ iH qm fQ)
namespace Rt
theorem oH(x:Nat->Int)(n:Int)(is:Bool)(a:Int)(off:Nat) :
 ((dn x n is a off).1=zero/\(dn x n is a off).2≠0 /\ ¬ (may x=true/\1<=n/\n<=1125899906842624/\is=true/\a=0/\x off+n<=1125899906842624)) \/
 ((may x=true/\1<=n/\n<=1125899906842624/\is=true/\a=0/\x off+n<=1125899906842624)/\dn x n is a off=(upd x off (x off+n),0)):=by
 unfold dn;by_cases f:may x=true
 ·by_cases c:1<=n
  ·by_cases d:n<=1125899906842624
   ·rw[f,f_ c,f_ d];simp only[Bool.and_self,if_true]
    cases is
    ·left; exact⟨rfl,(by show(10:Int)≠0; decide),fun h=>by cases h.2.2.2.1⟩
    by_cases b:a=0
    ·by_cases e:x off+n<=1125899906842624
     ·right; exact⟨⟨trivial,c,d,rfl,b,e⟩,by rw[d_ rfl,d_ b,d_ e]⟩
     left; rw[d_ rfl,d_ b,b_ e]; exact⟨rfl,by decide,fun h=>e h.2.2.2.2.2⟩
    left; rw[d_ rfl,b_ b]; exact⟨rfl,b,fun h=>b h.2.2.2.2.1⟩
   left; rw[g_ d,J_,b_ (by decide)]; exact⟨rfl,by decide,fun h=>d h.2.2.1⟩
  left; rw[g_ c,J_,Bool.false_and,b_ (by decide)]; exact⟨rfl,by decide,fun h=>c h.2.1⟩
 left; rw[show may x=false by simpa using f,Bool.false_and,Bool.false_and,b_ (by decide)]; exact⟨rfl,by decide,fun h=>by cases h.1⟩
theorem NM{x:Nat->Int}(h:Rl x){off:Nat}{n:Int}(h1:1<=n)(c:x off+n<=1125899906842624)(a:off<54):Rl (upd x off (x off+n)):=by
 intro p b;unfold upd;split
 ·have:=h off a; omega
 exact h p b
theorem qx{i:Int}(h:iq i=true) : ∃ a:Nat,a<6/\i=(a:Int)+1/\i.toNat-1=a:=by
 have:1<=i/\i<=6:=by unfold iq at h; simpa using h
 exact⟨(i-1).toNat,by omega,by omega,by omega⟩
structure Moved(x y:Nat->Int)(a b:Nat)(n:Int):Prop where
 may:may y=true
 l : ∀ k,k<6->L y k=L x k+(if k=b then n else 0)-(if k=a then n else 0)
 g:tL y=tL x
 u:oD y=oD x
theorem Cg{x:Nat->Int}{i j n:Int}(h:(dA x i j n).2=0) : ∃ a b:Nat,a<6/\b<6/\a≠b/\i=(a:Int)+1/\j=(b:Int)+1/\1<=n/\n<=1125899906842624/\n<=L x a/\Moved x (dA x i j n).1 a b n/\(dA x i j n).1=upd x (18+a*6+b) (x (18+a*6+b)+n):=by
 unfold dA at *
 rcases oH x n (iq i&&iq j) (nN x i j n) (lD i j)with ⟨_,f,_⟩|⟨⟨hm,h1,f,hr,he,hx⟩,heq⟩
 ·exact N_ h f
 rw[T_]at hr;obtain⟨a,g,l,D⟩:=qx hr.1;obtain⟨b,m,q,E⟩:=qx hr.2;have s:lD i j=18+a*6+b:=by unfold lD; rw[D,E]
 rw[s]at heq hx;rw[s];have B:a≠b:=by
  intro z;unfold nN at he;rw[d_ (by rw[l,q,z])]at he
  cases he
 have y:n<=L x a:=by
  unfold nN at he;rw[b_ (by omega)]at he;by_cases d:fU x i<n
  ·rw[f_ d]at he; cases he
  ·rw[l,oC hm a g]at d; omega
 obtain⟨e,t,w⟩:=(jO x).1 hm;have d:=adY x a b g m n;have c : ∀ p,p<18->upd x (18+a*6+b) (x (18+a*6+b)+n) p=x p:=fun p I=>gU _ _ _ _ (by omega);have o:tL (upd x (18+a*6+b) (x (18+a*6+b)+n))=tL x:=by unfold tL G; rw[c 0 (by omega),c 1 (by omega),c 2 (by omega),c 3 (by omega),c 4 (by omega),c 5 (by omega)]
 have A:(dn x n (iq i&&iq j) (nN x i j n) (18+a*6+b)).1=upd x (18+a*6+b) (x (18+a*6+b)+n):=by rw[heq]
 rw[A];refine⟨a,b,g,m,B,l,q,h1,f,y,⟨?_,d,o,?_⟩,rfl⟩
 ·rw[jO];refine⟨NM e h1 hx (by omega),fun k r => ?_,by rw[o]; exact w⟩;obtain⟨H,u,v⟩:=t k r;refine⟨?_,?_,?_⟩
  ·rw[d k r];split
   ·split <;> omega
   split
   ·rename_i hka; subst hka; omega
   omega
  ·unfold F C at *; rw[c _ (by omega),c _ (by omega)]; exact u
  unfold R at *; rw[gU _ _ _ _ (by omega)]; exact v
 unfold oD C F; simp only[c _ (show 6+0<18 by omega),c _ (show 6+1<18 by omega),c _ (show 6+2<18 by omega),c _ (show 6+3<18 by omega),c _ (show 6+4<18 by omega),c _ (show 6+5<18 by omega),c _ (show 12+0<18 by omega),c _ (show 12+1<18 by omega),c _ (show 12+2<18 by omega),c _ (show 12+3<18 by omega),c _ (show 12+4<18 by omega),c _ (show 12+5<18 by omega)]
theorem FX(x:Nat->Int)(off:Nat)(c:off<18)(v:Int)(a b:Nat):R (upd x off v) a b=R x a b:=gU _ _ _ _ (by omega)
theorem Vv(x:Nat->Int)(off:Nat)(a:off<18)(v:Int)(k:Nat):L (upd x off v) k=L x k+(G (upd x off v) k-G x k)+(F (upd x off v) k-F x k)-(C (upd x off v) k-C x k):=by
 unfold L;simp only[FX x off a v];omega
theorem aiF(x:Nat->Int)(a:Nat)(n:Int)(k:Nat):C (upd x (6+a) (x (6+a)+n)) k=C x k+(if k=a then n else 0):=by
 unfold C upd;by_cases h:k=a
 ·subst h; simp
 rw[b_ (by omega),b_ h]; omega
theorem aiG(x:Nat->Int)(a:Nat)(n:Int)(k:Nat):F (upd x (12+a) (x (12+a)+n)) k=F x k+(if k=a then n else 0):=by
 unfold F upd;by_cases h:k=a
 ·subst h; simp
 rw[b_ (by omega),b_ h]; omega
theorem aiH(x:Nat->Int)(a:Nat)(n:Int)(k:Nat):G (upd x a (x a+n)) k=G x k+(if k=a then n else 0):=by
 unfold G upd;by_cases h:k=a
 ·subst h; simp
 rw[b_ h,b_ h]; omega
theorem six(a:Nat)(ha:a<6)(n:Int):(if 0=a then n else 0)+(if 1=a then n else 0)+(if 2=a then n else 0)+(if 3=a then n else 0)+(if 4=a then n else 0)+(if 5=a then n else 0)=n:=by
 have:a=0\/a=1\/a=2\/a=3\/a=4\/a=5:=by omega
 rcases this with h|h|h|h|h|h <;> subst h <;> simp
theorem JV{x:Nat->Int}{i n:Int}(h:(bF x i n).2=0) : ∃ a:Nat,a<6/\i=(a:Int)+1/\1<=n/\n<=1125899906842624/\n<=L x a/\C x a+n<=1125899906842624/\may (bF x i n).1=true /\
 (∀ k,k<6->L (bF x i n).1 k=L x k-(if k=a then n else 0))/\tL (bF x i n).1=tL x/\oD (bF x i n).1=oD x+n/\(bF x i n).1=upd x (6+a) (x (6+a)+n):=by
 unfold bF at *
 rcases oH x n (iq i) (qD x i n) (6+(i.toNat-1))with ⟨_,j,_⟩|⟨⟨hm,h1,j,hr,he,hx⟩,heq⟩
 ·exact N_ h j
 obtain⟨a,l,o,p⟩:=qx hr;rw[p]at heq hx;rw[p];have t:n<=L x a:=by
  unfold qD at he;by_cases g:fU x i<n
  ·rw[f_ g]at he; cases he
  ·rw[o,oC hm a l]at g; omega
 obtain⟨e,q,s⟩:=(jO x).1 hm;have u:(dn x n (iq i) (qD x i n) (6+a)).1=upd x (6+a) (x (6+a)+n):=by rw[heq]
 rw[u];have b:=aiF x a n;have f : ∀ k,k<6->G (upd x (6+a) (x (6+a)+n)) k=G x k:=fun k d=>gU _ _ _ _ (by omega);have c : ∀ k,k<6->F (upd x (6+a) (x (6+a)+n)) k=F x k:=fun k d=>gU _ _ _ _ (by omega);have g : ∀ k,k<6->L (upd x (6+a) (x (6+a)+n)) k=L x k-(if k=a then n else 0):=by
  intro k d;rw[Vv x (6+a) (by omega),f k d,c k d,b k]; omega
 have m:tL (upd x (6+a) (x (6+a)+n))=tL x:=by unfold tL; rw[f 0 (by omega),f 1 (by omega),f 2 (by omega),f 3 (by omega),f 4 (by omega),f 5 (by omega)]
 refine⟨a,l,o,h1,j,t,hx,?_,g,m,?_,rfl⟩
 ·rw[jO];refine⟨NM e h1 hx (by omega),fun k d => ?_,by rw[m]; exact s⟩;obtain⟨v,w,r⟩:=q k d;refine⟨?_,?_,?_⟩
  ·rw[g k d];split
   ·rename_i hka; subst hka; omega
   omega
  ·rw[c k d,b k]; split <;> omega
  rw[FX x (6+a) (by omega)]; exact r
 unfold oD;rw[c 0 (by omega),c 1 (by omega),c 2 (by omega),c 3 (by omega),c 4 (by omega),c 5 (by omega),b 0,b 1,b 2,b 3,b 4,b 5];have:=six a l n;omega
theorem JW{x:Nat->Int}{i n:Int}(h:(bH x i n).2=0) : ∃ a:Nat,a<6/\i=(a:Int)+1/\1<=n/\n<=1125899906842624/\n<=C x a-F x a/\may (bH x i n).1=true /\
 (∀ k,k<6->L (bH x i n).1 k=L x k+(if k=a then n else 0))/\tL (bH x i n).1=tL x/\oD (bH x i n).1=oD x-n/\(bH x i n).1=upd x (12+a) (x (12+a)+n):=by
 unfold bH at *
 rcases oH x n (iq i) (qE x i n) (12+(i.toNat-1))with ⟨_,j,_⟩|⟨⟨hm,h1,j,hr,he,hx⟩,heq⟩
 ·exact N_ h j
 obtain⟨a,m,u,l⟩:=qx hr;rw[l]at heq hx;rw[l];have s:n<=C x a-F x a:=by
  unfold qE at he;rw[l]at he;by_cases g:C x a-F x a<n
  ·rw[f_ g]at he; cases he
  ·omega
 obtain⟨e,p,r⟩:=(jO x).1 hm;have t:(dn x n (iq i) (qE x i n) (12+a)).1=upd x (12+a) (x (12+a)+n):=by rw[heq]
 rw[t];have c:=aiG x a n;have f : ∀ k,k<6->G (upd x (12+a) (x (12+a)+n)) k=G x k:=fun k d=>gU _ _ _ _ (by omega);have b : ∀ k,k<6->C (upd x (12+a) (x (12+a)+n)) k=C x k:=fun k d=>gU _ _ _ _ (by omega);have g : ∀ k,k<6->L (upd x (12+a) (x (12+a)+n)) k=L x k+(if k=a then n else 0):=by
  intro k d;rw[Vv x (12+a) (by omega),f k d,c k,b k d]; omega
 have o:tL (upd x (12+a) (x (12+a)+n))=tL x:=by unfold tL; rw[f 0 (by omega),f 1 (by omega),f 2 (by omega),f 3 (by omega),f 4 (by omega),f 5 (by omega)]
 refine⟨a,m,u,h1,j,s,?_,g,o,?_,rfl⟩
 ·rw[jO];refine⟨NM e h1 hx (by omega),fun k d => ?_,by rw[o]; exact r⟩;obtain⟨v,w,q⟩:=p k d;refine⟨?_,?_,?_⟩
  ·rw[g k d]; split <;> omega
  ·rw[c k,b k d];split
   ·rename_i hka; subst hka; omega
   omega
  rw[FX x (12+a) (by omega)]; exact q
 unfold oD;rw[b 0 (by omega),b 1 (by omega),b 2 (by omega),b 3 (by omega),b 4 (by omega),b 5 (by omega),c 0,c 1,c 2,c 3,c 4,c 5];have:=six a m n;omega
end Rt
section
namespace Rt
def dz(f:(Nat->Int)->(Nat->Int) × Int)(idx:Nat->Nat)(R:Nat->Nat->Int):Nat->(Nat->Nat->Int) × Int
 | 0=>(R,0)
 | j+1=>if(dz f idx R j).2=0 then(if(f ((dz f idx R j).1 (idx j))).2=0 then(aI (dz f idx R j).1 (idx j) (f ((dz f idx R j).1 (idx j))).1,0)else((dz f idx R j).1,(f ((dz f idx R j).1 (idx j))).2))else dz f idx R j
section
variable {f:(Nat->Int)->(Nat->Int) × Int} {idx:Nat->Nat} {R Rk:Nat->Nat->Int} {k q:Nat}
theorem FY(h:dz f idx R k=(Rk,0))(e:idx k=q)(a:(f (Rk q)).2=0):dz f idx R (k+1)=(aI Rk q (f (Rk q)).1,0):=by
 unfold dz; rw[h,d_ rfl,e,d_ a]
theorem Iw(h:dz f idx R k=(Rk,0))(e:idx k=q)(a : ¬ (f (Rk q)).2=0):(dz f idx R (k+1)).2=(f (Rk q)).2:=by
 unfold dz; rw[h,d_ rfl,e,b_ a]
theorem Bl(a : ¬ (dz f idx R k).2=0) : ∀ n,k<=n->dz f idx R n=dz f idx R k
 | 0,h=>by obtain rfl:k=0:=by omega
           rfl
 | n+1,h=>by
   by_cases e:k=n+1
   ·rw[e]
   ·have:=Bl a n (by omega);rw[dz,this,b_ a]
end
def lead(P:Nat->Bool):Nat->Nat
 | 0=>0
 | n+1=>if lead P n=n/\P n=true then n+1 else lead P n
theorem EU(P:Nat->Bool) : ∀ n,lead P n<=n
 | 0=>A_ _
 | n+1=>by
   unfold lead; split
   ·exact A_ _
   ·have:=EU P n; omega
theorem LB{P:Nat->Bool} : ∀ {n:Nat},(∀ i,i<n->P i=true)->lead P n=n
 | 0,_=>rfl
 | n+1,h=>by unfold lead; rw[d_ ⟨LB fun i a=>h i (by omega),h n (by omega)⟩]
theorem PD{P:Nat->Bool}{K:Nat}(h1 : ∀ i,i<K->P i=true)(a:P K=false) : ∀ {n:Nat},K<=n->lead P n=K
 | 0,h=>by unfold lead; omega
 | n+1,h=>by
   unfold lead;by_cases e:K=n+1
   ·rw[d_ ⟨LB fun i d=>h1 i (by omega),h1 n (by omega)⟩]; exact e.symm
   ·rw[PD h1 a (n:=n) (by omega),b_];rintro ⟨c,b⟩;subst c; rw[a]at b; cases b
def bO(t:Nat->Nat->Int)(tn:Nat)(x:Int):Nat:=lead (fun i=>decide (0<=bC t tn (aZ t tn i x))) 1000
theorem wo{t:Nat->Nat->Int}{tn K D:Nat}{x:Int}(h1 : ∀ i,i<K->0<=bC t tn (aZ t tn i x))(c:bC t tn (aZ t tn K x)<0)(d:bC t tn (aZ t tn D x)<0)(e:D<=1000):K=bO t tn x:=by
 have a:K<=1000:=by
  rcases Nat.lt_or_ge D K with h|h
  ·have:=h1 D h; omega
  ·omega
 exact(PD (fun i b=>f_ (h1 i b)) (g_ (by omega)) a).symm
end Rt
def eF.node(L:eF)(x:Int):Int:=gV (fun i=>decide (L.id i=x)) L.nn
def eF.grant(L:eF)(o r:Int):Int:=gV (fun i=>decide (L.g i 0=o)&&decide (L.g i 1=r)) L.gn
def eF.kg(L:eF)(a:Nat)(r:Int):Int:=gV (fun i=>decide (L.rq a i=r)) (L.rn a)
namespace Rt
def pz(L:eF)(x:Int)(i:Nat):Nat:=(L.node (aZ L.t L.tn i x)).toNat
def oI(v:EvM):Nat->Int:=fun j=>if j=0 then v.o else if j=1 then v.req else if j=2 then v.node else if j=3 then v.aT else 0
def CG(v:EvM)(x:Nat->Int):Bool:=decide (v.o<x 0) || (decide (x 0=v.o)&&decide (v.req<x 1))
def aP(v:EvM):Nat:=(v.o-1).toNat
def nH(L:eF)(v:EvM):(Nat->Nat->Int) × Int:=dz (fun x=>bF x v.o v.aT) (pz L v.node) L.R (bO L.t L.tn v.node)
def iP(L:eF)(v:EvM):Int:=if 0<=L.kg (aP v) v.req then 14 else if bO L.t L.tn v.node=0 then 9 else(nH L v).2
def rO(L:eF)(a:Nat)(r:Int):eF := { L with rn:=aI L.rn a (L.rn a+1),rq:=aI L.rq a (aI (L.rq a) (L.rn a) r) }
def gJ(L:eF)(v:EvM):eF :=
 rO { L with R:=(nH L v).1,gn:=L.gn+1,g:=cK L.g (down (fun i=>CG v (L.g i)) L.gn) (oI v) } (aP v) v.req
theorem Dj{n q:Nat}{id par:Nat->Int}{R:Nat->Nat->Int}{r:Nat->Int} : ∀ i,i<n -> ∀ j,j<56->Fx.rY (fun a=>mW (id a) (par a) (R a)) q (bG (mW (id q) (par q) (R q)) 2 54 (rv .i64 r)) i j=mW (id i) (par i) (aI R q r i) j:=fun i _ j d=>by
 unfold Fx.rY aI;by_cases h:i=q
 ·subst h;rw[d_ rfl,d_ rfl];unfold bG mW rv;by_cases b:j=0
  ·subst b; rfl
  ·by_cases c:j=1
   ·subst c; rfl
   ·rw[d_ (by omega),b_ b,b_ c]
 ·rw[b_ h,b_ h]
theorem Zh{g:Nat->Nat->Int}{k:Nat}{x:Nat->Int}:Fx.Jt (fun a=>jf (g a)) k (jf x)=fun a=>jf (cK g k x a):=by
 funext i
 unfold Fx.Jt cK;by_cases h:i<k
 ·simp only[d_ h]
 by_cases b:i=k
 ·simp only[b_ h,d_ b]
 simp only[b_ h,b_ b]
theorem NP(m:lZ)(a:Option Addr)(n c:Nat):dJ (nk m) 19 (.slice a n c)=nk { m with s := { m.s with ga:=a,gn:=n,gc:=c } }:=by
 funext p
 unfold dJ nk;by_cases h:p=19
 ·subst h; rfl
 rw[b_ h];by_cases e:p<20
 ·rw[d_ e,d_ e]; unfold rF;by_cases b:p<6
  ·rw[d_ b,d_ b]
  by_cases d:p<12
  ·rw[b_ b,d_ d,b_ b,d_ d]
  by_cases f:p<18
  ·rw[b_ b,b_ d,d_ f,b_ b,b_ d,d_ f]
  rw[b_ b,b_ d,b_ f,d_ (by omega),b_ b,b_ d,b_ f,d_ (by omega)]
 rw[b_ e,b_ e]
theorem LC(m:lZ){i q:Nat}(f:q=i+21)(a:Option Addr)(n c:Nat):dJ (nk m) q (.slice a n c)=nk { m with ra:=aI m.ra i a,rn:=aI m.rn i n,rc:=aI m.rc i c }:=by
 subst f
 funext p
 unfold dJ nk;by_cases h:p=i+21
 ·subst h;rw[d_ rfl,b_ (by omega),b_ (by omega),Nat.add_sub_cancel];simp[aI]
 rw[b_ h];by_cases b:p<20
 ·rw[d_ b,d_ b]
 rw[b_ b,b_ b];by_cases d:p=20
 ·rw[d_ d,d_ d]
 rw[b_ d,b_ d];have e : ¬ p-21=i:=by omega
 simp[aI,e]
theorem xG.app{w w':World}{B a g cap:Nat}{r:Int}{m d:lZ}(h:xG w B 6 m)(_ha:a<6)(h1:d.ra=aI m.ra a (some ⟨g,0,none⟩))(l:d.rn=aI m.rn a (m.rn a+1))(t:d.rc=aI m.rc a cap)(u:d.rq=aI m.rq a (aI (m.rq a) (m.rn a) r))
 (z:Fx.Own w' B 23 1 (bM g (m.rn a+1) cap) (m.rn a+1) (rv .u64 (aI (m.rq a) (m.rn a) r))) (A:w.grownBy w' (uz m a).ownBlock) (C:(uz m a).ownBlock=some g\/g=w.heap.size):xG w' B 6 d:=by
 have k : ∀ i,i≠a->uz d i=uz m i:=fun i c=>by unfold uz; rw[h1,l,t]; simp[aI,c]
 have n:uz d a=bM g (m.rn a+1) cap:=by unfold uz; rw[h1,l,t]; simp[aI]
 have y : ∀ i,i<6->i≠a -> ∀ q,(uz m i).ownBlock=some q->q≠g:=fun i c D q b e=>by
  subst e
  rcases C with f|f
  ·exact h.2 i a c _ha D q b f
  ·have:=((h.1 i c).ge b).2; omega
 refine⟨fun i c => ?_,fun i j c v p q b => ?_⟩
 ·by_cases e:i=a
  ·subst e; rw[n,l,u]; simp only[aI,if_true]; exact z
  rw[k i e,l,u];simp only[aI,b_ e];refine World.ownsRow.kept (h.1 i c) A ?_;by_cases x:(uz m i).ownBlock=none
  ·exact .inl x
  right;intro f
  cases b:(uz m i).ownBlock with
  | none=>exact x b
  | some q=>rw[b]at f; exact h.2 i a c _ha e q b f.symm
 by_cases e:i=a
 ·subst e;rw[n]at b;rw[k j (fun e=>p e.symm)];intro o;exact y j v (fun e=>p e.symm) q o (C_ b).symm
 rw[k i e]at b;by_cases s:j=a
 ·subst s; rw[n]; intro o; exact y i c e q b (C_ o).symm
 rw[k j s]; exact h.2 i j c v p q b
end Rt
end
def Ky(a:World)(l:List (Nat × (Nat->Int)))(w':World):Prop:=(∀ p∈l,w'.heap[p.1]? = some (.cells (bV .i64 54 p.2) 82 (0,0)))/\Below a.heap.size a w'
theorem Ky.up{b w w':World}{l:List (Nat × (Nat->Int))}(h:Ky b l w)(a:Below w.heap.size w w'):Ky b l w':=⟨fun p c=>Tp (h.1 p c) a,M6 h.2 a⟩
instance {a w w':World} {l:List (Nat × (Nat->Int))}:Rt.Tr w w' (Ky a l w) (Ky a l w'):=⟨fun b h=>h.up b⟩
theorem Ky.drew{a w:World}{l:List (Nat × (Nat->Int))}(h:Ky a l w):Ky a l w.drew:=⟨h.1,bN h.2 1⟩
theorem Ky.drop{a w:World}{p:Nat × (Nat->Int)}{l:List (Nat × (Nat->Int))}(h:Ky a (p::l) w):Ky a l w:=⟨fun q b=>h.1 q (by simp[b]),h.2⟩
theorem Ky.row{b w:World}{l:List (Nat × (Nat->Int))}(h:Ky b l w)(g:Nat)(x:Nat->Int)(a:(g,x)∈l):w.heap[g]? = some (.cells (bV .i64 54 x) 82 (0,0)):=h.1 (g,x) a
theorem Ky.add{b w:World}{l:List (Nat × (Nat->Int))}(h:Ky b l w){g:Nat}{x:Nat->Int}(c:w.heap[g]? = some (.cells (bV .i64 54 x) 82 (0,0))):Ky b ((g,x)::l) w :=
 ⟨fun p a=>by
  rcases List.mem_cons.1 a with rfl|a
  ·exact c
  ·exact h.1 p a,h.2⟩
theorem Ky.start(w:World)(x:Nat->Int):Ky w [(w.heap.size,x)] (w.alloc (.cells (bV .i64 54 x) 82)):=⟨fun p a=>by
 obtain rfl:p=(w.heap.size,x):=by simpa using a
 exact heap_alloc_new w _,(Below.refl _ _).alloc (A_ _) _⟩
namespace Rt
def wu(x:Nat->Int)(k:Nat):Nat->Int
 | 0=>G x k-C x k+F x k
 | j+1=>wu x k j+R x j k-R x k j
theorem aej(x:Nat->Int)(k:Nat):wu x k 6=L x k:=by simp only[wu,L]; omega
theorem PE{x:Nat->Int}(h:Rl x)(k:Nat)(d:k<6) : ∀ j:Nat,j<=6 -> -(1125899906842624*((j:Int)+1))<=wu x k j/\wu x k j<=1125899906842624*((j:Int)+2)
 | 0,_=>by
   have a:=h k (by omega); have b:=h (6+k) (by omega); have c:=h (12+k) (by omega);simp only[wu,G,C,F]; omega
 | j+1,hj=>by
   have:=PE h k d j (by omega);have a:=h (18+j*6+k) (by omega); have b:=h (18+k*6+j) (by omega);simp only[wu,R]; omega
end Rt
theorem nP(n:Int)(w:World) :
 Calls Tryz.prog 147 #[au n] w fun e w'=>e = .returned (.bool (A8 n))/\w'=w:=by
 refine Kent Tryz.func147 9 ?_;refine ay<|av aF<|aD<|ay<|av (au n) ?_;by_cases a:0<=n
 ·refine Lv aG (kW a)<|av aG<|av (au n) ?_;by_cases b:n<=1125899906842624
  ·refine Lv aG (oh b)<|av aG<|av aG<|aD<|Wr<|aJ aG ?_;exact⟨iF (by simp only[A8]; first|(symm; simp; omega)|(symm; simp; done)),rfl⟩
  refine Lv aF (oP b)<|av aF<|av aF<|aD<|Wr<|aJ aF ?_;exact⟨iF (by simp only[A8]; first|(symm; simp; omega)|(symm; simp; done)),rfl⟩
 refine Lv aF (kN a)<|av aF<|bS<|bS<|av aF<|av aF<|aD<|Wr<|aJ aF ?_;exact⟨iF (by simp only[A8]; first|(symm; simp; omega)|(symm; simp; done)),rfl⟩
theorem zQ(n:Int)(w:World) :
 Calls Tryz.prog 99 #[au n] w fun e w'=>e = .returned (.bool (iq n))/\w'=w:=by
 refine Kent Tryz.func99 9 ?_;refine ay<|av aF<|aD<|ay<|av (au n) ?_;by_cases a:1<=n
 ·refine Lv aG (kW a)<|av aG<|av (au n) ?_;by_cases b:n<=6
  ·refine Lv aG (oh b)<|av aG<|av aG<|aD<|Wr<|aJ aG ?_;exact⟨iF (by simp only[iq]; first|(symm; simp; omega)|(symm; simp; done)),rfl⟩
  refine Lv aF (oP b)<|av aF<|av aF<|aD<|Wr<|aJ aF ?_;exact⟨iF (by simp only[iq]; first|(symm; simp; omega)|(symm; simp; done)),rfl⟩
 refine Lv aF (kN a)<|av aF<|bS<|bS<|av aF<|av aF<|aD<|Wr<|aJ aF ?_;exact⟨iF (by simp only[iq]; first|(symm; simp; omega)|(symm; simp; done)),rfl⟩
theorem Rt.Rw(x:Nat->Int)(k j:Nat):wu x k (j+1)=wu x k j+x (18+j*6+k)-x (18+k*6+j):=rfl
theorem Rt.Rx(x:Nat->Int)(k:Nat):wu x k 0=x k-x (6+k)+x (12+k):=rfl
theorem FZ(x:Nat->Int)(k:Nat)(w:World)(E:k<6)(d:Rl x) :
 Calls Tryz.prog 100 #[.agg (aA 54 (rv .i64 x)),au ((k:Int)+1)] w fun e w'=>e = .returned (au (L x k))/\Below w.heap.size w w':=by
 have B:wu x k 6=L x k:=aej x k;have A:=fun j=>PE d k E j;have S:wu x k 0=x k-x (k+6)+x (k+12):=by rw[Rx,Nat.add_comm 6 k,Nat.add_comm 12 k]
 have O:=d k (by omega);have P:=d (k+6) (by omega);have Q:=d (k+12) (by omega);refine Kent Tryz.func100 44 ?_;refine ay<|pO fun c l D h H X => ?_;have s:=bB H.old (Below.refl w.heap.size w);have U:=gN D;have W:=h.lt;refine av (au 0)<|aD<|ay<|av (au ((k:Int)+1))<|Lv (au k) gP<|av (au k)<|aD<|Ws ?_;refine Af<|aX (au k)<|aX (pt c)<|Qv (pf c k) (fun b a=>jD 6 1)<|Qv (au (x k)) (fun b a=>aM (h.aH.dr a) k)<|aX (au k)<|aX (pf c 6)<|Qv (pf c (k+6)) (fun b a=>jD 6 1)<|Qv (au (x (k+6))) (fun b a=>aM (h.aH.dr a) (k+6))<|Qv (au ((x k)-(x (k+6)))) (fun b a=>gP)<|aX (au k)<|aX (pf c 12)<|Qv (pf c (k+12)) (fun b a=>jD 6 1)<|Qv (au (x (k+12))) (fun b a=>aM (h.aH.dr a) (k+12))<|Qv (au (((x k)-(x (k+6)))+(x (k+12)))) (fun b a=>fH)<|aX (au (((x k)-(x (k+6)))+(x (k+12))))<|Qn ?_;rintro _ ⟨i,rfl⟩;obtain⟨K,n⟩ : ∃ b,b=World.drewN l i:=⟨_,rfl⟩;rw[<- n];have I:Stp l.heap.size l K:=by rw[n]; exact Sb (jX l i)
 have⟨F,t⟩:=fC I.old h s;clear n;refine sN<|Ws<|ay<|av (au 0)<|aD<|Wb<|Wo (fun f z => ∃ j:Nat,j<=6/\f 2=(pt c)/\f 5=au (k:Int)/\f 6=au (wu x k j)/\f 7=au (j:Int)/\aQ z c 54 (rv .i64 x) 82/\Below w.heap.size w z) (fun f _=>(6-(intOf (f 7)).toNat)) ⟨0,by omega,(by rfl),Fx.ic,Fx.ic,Fx.ic,F,t⟩ ?_;rintro R m ⟨j,V,p,q,y,g,r,u⟩;have T:=A j (by omega);have N:wu x k (j+1)=wu x k j+x (6*j+k+18)-x (j+6*k+18):=by rw[Rw,show 18+j*6+k=6*j+k+18 by omega,show 18+k*6+j=j+6*k+18 by omega]
 have s:=d (6*j+k+18);have t:=d (j+6*k+18);refine Ws<|ay<|aU g ?_;by_cases v:(j:Int)<6
 ·refine Lv aG (iD v)<|aD<|aN<|Wk<|sN<|Ws<|Wb ?_;refine Af<|eT y<|eT g<|eT q<|Qv (pf c 18) (fun b a=>jo p 18)<|Qv (pf c (6*j+18)) (fun b a=>jD 6 6)<|Qv (pf c (6*j+k+18)) (fun b a=>jD 6 1)<|Qv (au (x (6*j+k+18))) (fun b a=>aM (r.aH.dr a) (6*j+k+18))<|Qv (au ((wu x k j)+(x (6*j+k+18)))) (fun b a=>fH)<|eT q<|eT g<|Qv (pf c 18) (fun b a=>jo p 18)<|Qv (pf c (6*k+18)) (fun b a=>jD 6 6)<|Qv (pf c (j+6*k+18)) (fun b a=>jD 6 1)<|Qv (au (x (j+6*k+18))) (fun b a=>aM (r.aH.dr a) (j+6*k+18))<|Qv (au (((wu x k j)+(x (6*j+k+18)))-(x (j+6*k+18)))) (fun b a=>gP)<|aX (au (((wu x k j)+(x (6*j+k+18)))-(x (j+6*k+18))))<|Qn ?_;rintro _ ⟨i,rfl⟩;obtain⟨M,o⟩ : ∃ b,b=World.drewN m i:=⟨_,rfl⟩;rw[<- o];have J:Stp m.heap.size m M:=by rw[o]; exact Sb (jX m i)
  have⟨G,C⟩:=fC J.old r u;clear o;refine bU<|sN<|Wl<|aU g<|Lv (au ((j:Int)+1)) fH<|av (au ((j:Int)+1))<|Ln<|iH ⟨j+1,by omega,p,(q.trans Fx.ic),Fx.ic,Fx.ic,G,C⟩ ?_;show(6-(intOf (au ((j:Int)+1))).toNat)<_;simp only[g,intOf]; omega
 refine Lv aF (iE v)<|aD<|aK<|Wx<|cZ<|gZ<|dh<|sN<|ay<|aU y<|av (au (wu x k j))<|aD<|Wr<|aJ (au (wu x k j)) ?_;exact⟨pR (by rw[<- B]; exact M_ _ (by omega)),u⟩
namespace Rt
def Vw(x:Nat->Int)(i:Nat):Prop:=A8 (x i)=true/\A8 (x (i+6))=true/\A8 (x (i+12))=true/\x (i+12)<=x (i+6)/\x (7*i+18)=0
def F3(x:Nat->Int)(i j:Nat):Prop := ∀ q,q<j->A8 (x (6*i+q+18))=true
def LD(x:Nat->Int)(i:Nat):Prop := ∀ k,k<i->Vw x k/\F3 x k 6
def Ap(x:Nat->Int):Nat->Int
 | 0=>0
 | i+1=>Ap x i+x i
theorem Ry(x:Nat->Int):LD x 0:=fun _ h=>N_ h (by omega)
theorem NQ(x:Nat->Int)(i:Nat):F3 x i 0:=fun _ h=>N_ h (by omega)
theorem NR{x:Nat->Int}{i j:Nat}(h:F3 x i j)(a:A8 (x (6*i+j+18))=true):F3 x i (j+1):=fun q b=>by
 by_cases e:q=j
 ·subst e; exact a
 ·exact h q (by omega)
theorem Rz{x:Nat->Int}{i:Nat}(h:LD x i)(hr:Vw x i)(a:F3 x i 6):LD x (i+1):=fun k b=>by
 by_cases e:k=i
 ·subst e; exact⟨hr,a⟩
 ·exact h k (by omega)
theorem LG{x:Nat->Int}(h:LD x 6):Rl x:=fun p d=>by
 by_cases a:p<6
 ·exact Bb (h p a).1.1
 ·by_cases b:p<12
  ·have:=Bb (h (p-6) (by omega)).1.2.1; rwa [show p-6+6=p by omega]at this
  ·by_cases c:p<18
   ·have:=Bb (h (p-12) (by omega)).1.2.2.1; rwa [show p-12+12=p by omega]at this
   ·have:=Bb ((h ((p-18) / 6) (by omega)).2 ((p-18) % 6) (by omega)); rwa [show 6*((p-18) / 6)+(p-18) % 6+18=p by omega]at this
theorem PG{x:Nat->Int} : ∀ {i:Nat},LD x i->0<=Ap x i/\Ap x i<=1125899906842624*(i:Int)
 | 0,_=>by simp[Ap]
 | i+1,h=>by
   have a:=PG (i:=i) (fun k c=>h k (by omega));have b:=Bb (h i (by omega)).1.1;simp only[Ap]; omega
theorem JX{x:Nat->Int}{p:Nat}(a:p<54)(h:A8 (x p)=false):may x=false:=by
 cases hm:may x
 ·rfl
 have:=(jO x).1 hm |>.1 p a;unfold A8 at h; simp at h; omega
theorem aiI{x:Nat->Int}{i:Nat}(hi:i<6)(h:x (i+6)<x (i+12)):may x=false:=by
 cases hm:may x
 ·rfl
 have:=((jO x).1 hm |>.2.1 i hi).2.1;unfold F C at this; rw[Nat.add_comm 12 i,Nat.add_comm 6 i]at this; omega
theorem aiJ{x:Nat->Int}{i:Nat}(hi:i<6)(h : ¬ x (7*i+18)=0):may x=false:=by
 cases hm:may x
 ·rfl
 have:=((jO x).1 hm |>.2.1 i hi).2.2;unfold R at this; rw[show 18+i*6+i=7*i+18 by omega]at this; exact N_ this h
theorem aek{x:Nat->Int}{i:Nat}(hi:i<6)(h:L x i<0):may x=false:=by
 cases hm:may x
 ·rfl
 have:=((jO x).1 hm |>.2.1 i hi).1;omega
theorem Vx{x:Nat->Int}{m:Nat}(h : ∀ k,k<m->0<=L x k)(a:0<=L x m) : ∀ k,k<m+1->0<=L x k:=fun k b=>by
 by_cases e:k=m
 ·rw[e]; exact a
 ·exact h k (by omega)
theorem PK{x:Nat->Int}(ha:LD x 6)(b : ∀ k,k<6->0<=L x k):may x=decide (Ap x 6<=1125899906842624):=by
 have c:Ap x 6=tL x:=by simp only[Ap,tL,G]; omega
 rw[c,Bool.eq_iff_iff,jO,Q_];refine⟨fun h=>h.2.2,fun h=>⟨LG ha,fun k a=>⟨b k a,?_,?_⟩,h⟩⟩
 ·have:=(ha k a).1.2.2.2.1; unfold F C; rwa [Nat.add_comm 12 k,Nat.add_comm 6 k]
 have:=(ha k a).1.2.2.2.2; unfold R; rwa [show 18+k*6+k=7*k+18 by omega]
end Rt
set_option maxRecDepth 10000 in
set_option maxHeartbeats 1000000 in
theorem Vy(x:Nat->Int)(w:World) :
 Calls Tryz.prog 98 #[.agg (aA 54 (rv .i64 x))] w fun e w'=>e = .returned (.bool (may x))/\Below w.heap.size w w':=by
 refine Kent Tryz.func98 81 ?_;refine ay<|pO fun c w1 ku m1 s1 z1 => ?_;have b1:=bB s1.old (Below.refl w.heap.size w);have tC:=gN ku;have uK:=m1.lt;refine av aF<|aD<|ay<|av (au 0)<|aD<|Ws<|ay<|av (au 0)<|aD<|Wb<|Wo (fun f q => ∃ i:Nat,i<=6/\LD x i/\f 1=(pt c)/\f 3=au (Ap x i)/\f 4=au (i:Int)/\aQ q c 54 (rv .i64 x) 82/\Below w.heap.size w q) (fun f _=>(6-(intOf (f 4)).toNat)) ⟨0,by omega,Ry x,(by rfl),Fx.ic,Fx.ic,m1,b1⟩ ?_;rintro f1 d ⟨i,hi,B,n,h2,l,o,r⟩;have hG:=PG B;have HG:Ap x (i+1)=Ap x i+x i:=rfl;refine Ws<|ay<|aU l ?_;by_cases Z:(i:Int)<6
 ·refine Lv aG (iD Z)<|aD<|aN<|Wk<|sN<|Ws<|Wb<|Ws<|Ws ?_;refine Af<|eT l<|Qv (pt c) (fun a b=>jo n 0)<|Qv (pf c i) (fun a b=>jD 6 1)<|Qv (au (x i)) (fun a b=>aM (o.aH.dr b) i) ?_;by_cases s:(A8 (x i))=true
  ·refine qO (fun _ _=>nP (x i) _) aG (by rw[s])<|aX aF<|aX aF<|eT l<|Qv (pf c 6) (fun a b=>jo n 6)<|Qv (pf c (i+6)) (fun a b=>jD 6 1)<|Qv (au (x (i+6))) (fun a b=>aM (o.aH.dr b) (i+6)) ?_;by_cases v:(A8 (x (i+6)))=true
   ·refine qO (fun _ _=>nP (x (i+6)) _) aG (by rw[v])<|aX aF<|aX aF<|aX aF<|eT l<|Qv (pf c 12) (fun a b=>jo n 12)<|Qv (pf c (i+12)) (fun a b=>jD 6 1)<|Qv (au (x (i+12))) (fun a b=>aM (o.aH.dr b) (i+12)) ?_;by_cases y:(A8 (x (i+12)))=true
    ·refine qO (fun _ _=>nP (x (i+12)) _) aG (by rw[y])<|aX aF<|aX aF<|aX aF<|eT l<|Qv (pf c 12) (fun a b=>jo n 12)<|Qv (pf c (i+12)) (fun a b=>jD 6 1)<|Qv (au (x (i+12))) (fun a b=>aM (o.aH.dr b) (i+12))<|eT l<|Qv (pf c 6) (fun a b=>jo n 6)<|Qv (pf c (i+6)) (fun a b=>jD 6 1)<|Qv (au (x (i+6))) (fun a b=>aM (o.aH.dr b) (i+6)) ?_;by_cases H:(x (i+6))<(x (i+12))
     ·refine Qv aG (fun a b=>nA H)<|aX aG<|aX aG<|aR<|aR<|aR<|aR<|aR<|aR<|aR<|aX aG<|Qn ?_;rintro _ ⟨g,rfl⟩;obtain⟨Et,K⟩ : ∃ a,a=World.drewN d g:=⟨_,rfl⟩;rw[<- K];have s2:Stp d.heap.size d Et:=(by rw[K]; exact Sb (jX d g));have b3:=bB s2.old r;clear K;refine sN (aN (ay (av aF (aD (Wr (sR (bL (sR (qm (bL (sR (aJ aF (⟨iF (Eq.symm ?_),b3⟩)))))))))))));exact aiI (i:=i) (by omega) H
     refine Qv aF (fun a b=>nC H)<|aX aF<|aX aF<|eT l<|eT l<|Qv (pf c 18) (fun a b=>jo n 18)<|Qv (pf c (6*i+18)) (fun a b=>jD 6 6)<|Qv (pf c (7*i+18)) (fun a b=>jD 6 1)<|Qv (au (x (7*i+18))) (fun a b=>aM (o.aH.dr b) (7*i+18)) ?_;by_cases C:(x (7*i+18))=0
     ·refine Qv aF (fun a b=>jR C)<|aX aF<|Qn ?_;rintro _ ⟨g,rfl⟩;obtain⟨wq2,M⟩ : ∃ a,a=World.drewN d g:=⟨_,rfl⟩;rw[<- M];have s3:Stp d.heap.size d wq2:=(by rw[M]; exact Sb (jX d g));have⟨m4,b4⟩:=fC s3.old o r;clear M;refine sN<|aK<|Wk<|sN<|Ws ?_;have hR:Vw x i:=⟨s,v,y,by omega,C⟩;have b15:=Bb s;refine Wl<|aU h2<|aU l<|Lv (pt c) (jo n 0)<|Lv (pf c i) (jD 6 1)<|Lv (au (x i)) (aM m4.aH i)<|Lv (au ((Ap x i)+(x i))) fH<|av (au ((Ap x i)+(x i)))<|aD<|ay<|av (au 0)<|aD<|Wb<|Wo (fun f q => ∃ j:Nat,j<=6/\F3 x i j/\f 1=(pt c)/\f 3=au (Ap x (i+1))/\f 4=au (i:Int)/\f 5=au (j:Int)/\aQ q c 54 (rv .i64 x) 82/\Below w.heap.size w q) (fun f _=>(6-(intOf (f 5)).toNat)) ⟨0,by omega,NQ x i,n,Fx.ic,(l.trans Fx.ic),Fx.ic,m4,b4⟩ ?_;rintro f2 w3 ⟨j,hj,T,R,h5,S,E,U,G⟩;refine Ws<|ay<|aU E ?_;by_cases X:(j:Int)<6
      ·refine Lv aG (iD X)<|aD<|aN<|Wk<|sN<|Ws<|Wb<|ay<|aU S<|aU E<|Lv (pf c 18) (jo R 18)<|Lv (pf c (6*i+18)) (jD 6 6)<|Lv (pf c (6*i+j+18)) (jD 6 1)<|Lv (au (x (6*i+j+18))) (aM U.aH (6*i+j+18)) ?_;by_cases z:(A8 (x (6*i+j+18)))=true
       ·refine lX (nP (x (6*i+j+18)) _) aG (by rw[z])<|av aF<|aD<|aK<|Wk<|bU<|sN<|Wl<|aU E<|Lv (au ((j:Int)+1)) fH<|av (au ((j:Int)+1))<|Ln<|iH ⟨j+1,by omega,NR T z,R,(h5.trans Fx.ic),(S.trans Fx.ic),Fx.ic,U,G⟩ ?_;show(6-(intOf (au ((j:Int)+1))).toNat)<_;simp only[E,intOf]; omega
       rw[U_]at z;refine lX (nP (x (6*i+j+18)) _) aF (by rw[z]) (av aG (aD (aN (ay (av aF (aD (Wr (bL (sR (qm (bL (bL (sR (qm (bL (sR (aJ aF (⟨iF (Eq.symm ?_),G⟩))))))))))))))))));exact JX (p:=6*i+j+18) (by omega) z
      refine Lv aF (iE X)<|aD<|aK<|Wx<|cZ<|gZ<|dh<|bU<|sN<|Wl<|aU S<|Lv (au ((i:Int)+1)) fH<|av (au ((i:Int)+1))<|Ln ?_;have A:j=6:=(by omega);have hT6:F3 x i 6:=(by rw[A]at T; exact T);refine iH ⟨i+1,by omega,Rz B hR hT6,R,(h5.trans Fx.ic),Fx.ic,U,G⟩ ?_;show(6-(intOf (au ((i:Int)+1))).toNat)<_;simp only[l,intOf]; omega
     refine Qv aG (fun a b=>kY C)<|aX aG<|Qn ?_;rintro _ ⟨g,rfl⟩;obtain⟨wq3,N⟩ : ∃ a,a=World.drewN d g:=⟨_,rfl⟩;rw[<- N];have s4:Stp d.heap.size d wq3:=(by rw[N]; exact Sb (jX d g));have b6:=bB s4.old r;clear N;refine sN (aN (ay (av aF (aD (Wr (sR (bL (sR (qm (bL (sR (aJ aF (⟨iF (Eq.symm ?_),b6⟩)))))))))))));exact aiJ (i:=i) (by omega) C
    rw[U_]at y;refine qO (fun _ _=>nP (x (i+12)) _) aF (by rw[y])<|aX aG<|aX aG<|aX aG<|aR<|aR<|aR<|aR<|aR<|aR<|aR<|aR<|aR<|aX aG<|aX aG<|aR<|aR<|aR<|aR<|aR<|aR<|aR<|aX aG<|Qn ?_;rintro _ ⟨g,rfl⟩;obtain⟨wq4,O⟩ : ∃ a,a=World.drewN d g:=⟨_,rfl⟩;rw[<- O];have s5:Stp d.heap.size d wq4:=(by rw[O]; exact Sb (jX d g));have b7:=bB s5.old r;clear O;refine sN (aN (ay (av aF (aD (Wr (sR (bL (sR (qm (bL (sR (aJ aF (⟨iF (Eq.symm ?_),b7⟩)))))))))))));exact JX (p:=i+12) (by omega) y
   rw[U_]at v;refine qO (fun _ _=>nP (x (i+6)) _) aF (by rw[v])<|aX aG<|aX aG<|aX aG<|aR<|aR<|aR<|aR<|aR<|aR<|aX aG<|aX aG<|aR<|aR<|aR<|aR<|aR<|aR<|aR<|aR<|aR<|aX aG<|aX aG<|aR<|aR ?_;refine aR<|aR<|aR<|aR<|aR<|aX aG<|Qn ?_;rintro _ ⟨g,rfl⟩;obtain⟨wq5,P⟩ : ∃ a,a=World.drewN d g:=⟨_,rfl⟩;rw[<- P];have s6:Stp d.heap.size d wq5:=(by rw[P]; exact Sb (jX d g));have b8:=bB s6.old r;clear P;refine sN (aN (ay (av aF (aD (Wr (sR (bL (sR (qm (bL (sR (aJ aF (⟨iF (Eq.symm ?_),b8⟩)))))))))))));exact JX (p:=i+6) (by omega) v
  rw[U_]at s;refine qO (fun _ _=>nP (x i) _) aF (by rw[s])<|aX aG<|aX aG<|aR<|aR<|aR<|aR<|aR<|aR<|aX aG<|aX aG<|aR<|aR<|aR<|aR<|aR<|aR<|aX aG<|aX aG<|aR<|aR<|aR<|aR<|aR<|aR ?_;refine aR<|aR<|aR<|aX aG<|aX aG<|aR<|aR<|aR<|aR<|aR<|aR<|aR<|aX aG<|Qn ?_;rintro _ ⟨g,rfl⟩;obtain⟨wq6,Q⟩ : ∃ a,a=World.drewN d g:=⟨_,rfl⟩;rw[<- Q];have s7:Stp d.heap.size d wq6:=by rw[Q]; exact Sb (jX d g)
  have b9:=bB s7.old r;clear Q;refine sN (aN (ay (av aF (aD (Wr (sR (bL (sR (qm (bL (sR (aJ aF (⟨iF (Eq.symm ?_),b9⟩)))))))))))));exact JX (p:=i) (by omega) s
 refine Lv aF (iE Z)<|aD<|aK<|Wx<|cZ<|gZ<|dh<|sN<|Ws<|ay<|av (au 1)<|aD<|Wb ?_;have A:i=6:=by omega
 rw[A]at B;have HE:=LG B;have V:LD x 6:=B;refine Wo (fun f q => ∃ m:Nat,m<=6/\(∀ k,k<m->0<=L x k)/\f 1=(pt c)/\f 3=au (Ap x i)/\f 6=au ((m:Int)+1)/\aQ q c 54 (rv .i64 x) 82/\Below w.heap.size w q) (fun f _=>(7-(intOf (f 6)).toNat)) ⟨0,by omega,(fun _ h=>N_ h (by omega)),n,(h2.trans Fx.ic),Fx.ic,o,r⟩ ?_;rintro f3 w4 ⟨m,hm,u,h8,h9,D,m10,F⟩;refine Ws<|ay<|aU D ?_;by_cases Y:((m:Int)+1)<=6
 ·refine Lv aG (oh Y)<|aD<|aN<|Wk<|sN<|Ws<|Wb<|ay<|Lv (.agg (aA 54 (rv .i64 x))) (fM m10.aH 0 (ha:=h8))<|aU D<|dX (FZ x m _ (by omega) HE) _ rfl ?_;intro w5 hb1;have⟨m11,W⟩:=fC hb1 m10 F;by_cases I:(L x m)<0
  ·refine Lv aG (iD I) (aD (aN (ay (av aF (aD (Wr (bL (sR (qm (bL (sR (aJ aF (⟨iF (Eq.symm ?_),W⟩)))))))))))));exact aek (i:=m) (by omega) I
  refine Lv aF (iE I)<|aD<|aK<|Wk<|bU<|sN<|Wl<|aU D<|Lv (au ((m:Int)+2)) fH<|av (au ((m:Int)+2))<|Ln<|iH ⟨m+1,by omega,Vx u (by omega),h8,(h9.trans Fx.ic),Fx.ic,m11,W⟩ ?_;show(7-(intOf (au ((m:Int)+2))).toNat)<_;simp only[D,intOf]; omega
 refine Lv aF (oP Y)<|aD<|aK<|Wx<|cZ<|gZ<|dh<|sN<|ay<|aU h9 ?_;by_cases t:(Ap x i)<=1125899906842624
 ·refine Lv aG (oh t) (av aG (aD (Wr (aJ aG (⟨iF (Eq.symm ?_),F⟩)))));have J:m=6:=by omega
  rw[J]at u;rw[A]at t;rw[PK V u]; exact f_ t
 refine Lv aF (oP t) (av aF (aD (Wr (aJ aF (⟨iF (Eq.symm ?_),F⟩)))));have J:m=6:=by omega
 rw[J]at u;rw[A]at t;rw[PK V u]; exact g_ t
namespace Rt
def eX(x:Nat->Int)(i n:Int):Int:=if may x&&decide (1<=n)&&decide (n<=1125899906842624)then(if iq i then 0 else 10)else 1
end Rt
theorem F4(x:Nat->Int)(i n:Int)(w:World) :
 Calls Tryz.prog 162 #[.agg (aA 54 (rv .i64 x)),au i,au n] w fun e w'=>e = .returned (au (eX x i n))/\Below w.heap.size w w':=by
 refine Kent Tryz.func162 21 ?_;refine ay<|pO fun p s k h o v => ?_;have d:=bB o.old (Below.refl w.heap.size w);have q:=gN k;have r:=h.lt;refine av (au 0)<|aD<|Ws<|ay<|Lv (.agg (aA 54 (rv .i64 x))) (fM h.aH 0) ?_;by_cases a:(may x)=true
 ·refine dX (Vy x _) aG (by rw[a]) ?_;intro t l;have c:=bB l d;refine av aF<|av aF<|av (au n) ?_;by_cases f:n<1
  ·refine Lv aG (iD f) (av aG (av aG (bS (bS (av aG (aD (aN (ay (av (au 1) (aD (Wr (sR (aJ (au 1) (⟨pR ?_,c⟩))))))))))))));unfold eX; rw[a,g_ (show ¬ 1<=n by omega)]; simp
  refine Lv aF (iE f)<|av aF<|av aF<|av (au n) ?_;by_cases g:1125899906842624<n
  ·refine Lv aG (nA g) (av aG (aD (aN (ay (av (au 1) (aD (Wr (sR (aJ (au 1) (⟨pR ?_,c⟩))))))))));unfold eX; rw[a,f_ (show 1<=n by omega),g_ (show ¬ n<=1125899906842624 by omega)]; simp
  refine Lv aF (nC g)<|av aF<|aD<|aK<|Wk<|sN<|Ws<|ay<|av (au i) ?_;by_cases b:(iq i)=true
  ·refine lX (zQ i _) aG (by rw[b]) (av aF (aD (aK (Wk (sN (ay (av (au 0) (aD (Wr (aJ (au 0) (⟨pR ?_,c⟩)))))))))));unfold eX; rw[a,f_ (show 1<=n by omega),f_ (show n<=1125899906842624 by omega),b]; simp
  rw[U_]at b;refine lX (zQ i _) aF (by rw[b]) (av aG (aD (aN (ay (av (au 10) (aD (Wr (sR (aJ (au 10) (⟨pR ?_,c⟩))))))))));unfold eX; rw[a,f_ (show 1<=n by omega),f_ (show n<=1125899906842624 by omega),b]; simp
 rw[U_]at a;refine dX (Vy x _) aF (by rw[a]) ?_;intro u m;have j:=bB m d;refine av aG (av aG (bS (bS (av aG (av aG (bS (bS (av aG (aD (aN (ay (av (au 1) (aD (Wr (sR (aJ (au 1) (⟨pR ?_,j⟩)))))))))))))))));unfold eX; rw[a]; simp
namespace Rt
theorem F5{x:Nat->Int}{i n:Int}(h:eX x i n=0):may x=true/\1<=n/\n<=1125899906842624/\iq i=true:=by
 unfold eX at h;by_cases a:may x=true
 ·by_cases b:1<=n
  ·by_cases c:n<=1125899906842624
   ·rw[a,f_ b,f_ c]at h
    cases h4:iq i
    ·rw[h4]at h; simp at h
    exact⟨a,b,c,rfl⟩
   rw[g_ c]at h; simp at h
  rw[g_ b]at h; simp at h
 rw[show may x=false by simpa using a]at h; simp at h
theorem LH{x:Nat->Int}{i n b:Int}{off:Nat}(h : ¬ eX x i n=0):dn x n (iq i) b off=(zero,eX x i n):=by
 unfold eX at *;unfold dn;by_cases a:(may x&&decide (1<=n)&&decide (n<=1125899906842624))=true
 ·simp only[d_ a]at *
  cases h4:iq i
  ·simp
  simp[h4]at h
 simp only[b_ a]at *
theorem Dk{x:Nat->Int}{n a:Int}{is:Bool}{off:Nat}(h1:may x=true)(b:1<=n)(c:n<=1125899906842624)(d:is=true) :
 dn x n is a off=if a=0 then(if x off+n<=1125899906842624 then(upd x off (x off+n),0)else(zero,6))else(zero,a):=by
 unfold dn; rw[h1,f_ b,f_ c,d]; simp
theorem Bn{x:Nat->Int}{n a:Int}{is:Bool}{off:Nat}(h1:may x=true)(b:1<=n)(c:n<=1125899906842624)(d:is=true)(e:a=0)(f:x off+n<=1125899906842624):dn x n is a off=(upd x off (x off+n),0):=by
 rw[Dk h1 b c d,d_ e,d_ f]
theorem D5{x:Nat->Int}{n a:Int}{is:Bool}{off:Nat}(h1:may x=true)(b:1<=n)(c:n<=1125899906842624)(d:is=true)(e:a=0)(f : ¬ x off+n<=1125899906842624):dn x n is a off=(zero,6):=by
 rw[Dk h1 b c d,d_ e,b_ f]
theorem xM{x:Nat->Int}{n a e:Int}{is:Bool}{off:Nat}(h1:may x=true)(b:1<=n)(c:n<=1125899906842624)(d:is=true)(f:a=e)(g:e≠0):dn x n is a off=(zero,e):=by
 rw[Dk h1 b c d,f,b_ g]
theorem RB{x:Nat->Int}{n a:Int}{off:Nat}(h1:may x=true)(b:1<=n)(c:n<=1125899906842624):dn x n false a off=(zero,10):=by
 unfold dn; rw[h1,f_ b,f_ c]; simp
theorem pl(k:Nat):((k:Int)+1).toNat-1=k:=by omega
theorem RD{x:Nat->Int}{i j n:Int}(h : ¬ eX x i n=0):dA x i j n=(zero,eX x i n):=by
 unfold dA;unfold eX at *;unfold dn;by_cases a:(may x&&decide (1<=n)&&decide (n<=1125899906842624))=true
 ·simp only[d_ a]at *
  cases h4:iq i
  ·simp
  simp[h4]at h
 simp only[b_ a]at *
theorem LJ(k q:Nat):lD ((k:Int)+1) ((q:Int)+1)=6*k+q+18:=by unfold lD; omega
theorem Vz{x:Nat->Int}{k:Nat}(a:may x=true)(b:k<6):x (k+6)<=1125899906842624:=(lY a (k+6) (by omega)).2
end Rt
set_option maxRecDepth 10000 in
theorem Zi(x:Nat->Int)(i n:Int)(w:World) :
 Calls Tryz.prog 159 #[.agg (aA 54 (rv .i64 x)),au i,au n] w fun e w'=>e = .returned (.tuple #[.agg (aA 54 (rv .i64 (bF x i n).1)),au (bF x i n).2])/\Below w.heap.size w w':=by
 refine Kent Tryz.func159 42 ?_;refine ay<|pO fun b w1 Q p s1 z1 => ?_;have u:=bB s1.old (Below.refl w.heap.size w);have tC:=gN Q;have uK:=p.lt;refine nS 54 (rv .i64 (fun _=>0)) fun l w2 z B s2 z2 => ?_;have⟨C,K⟩:=fC s2.old p u;have qX:=iK z u.size;have La:=cO z p.lt;have zM:=B.lt;refine av (au 0)<|aD<|ay<|Lv (.agg (aA 54 (rv .i64 x))) (fM C.aH 0)<|av (au i)<|av (au n)<|dX (F4 x i n _) _ rfl ?_;intro w3 S;have⟨q,D,m⟩:=iY S C B K;refine av (au (eX x i n))<|aD<|Ws<|ay<|av (au (eX x i n)) ?_;by_cases j:(eX x i n)=0
 ·refine Lv aF (jR j)<|aD<|aK<|Wk<|sN<|Ws<|Ws ?_;obtain⟨a,s,t,h⟩:=F5 j;have J:=lY a;obtain⟨k,o,R,_⟩:=qx h;subst R;refine Wl<|av (au n)<|Lv (.agg (aA 54 (rv .i64 x))) (fM q.aH 0)<|av (au ((k:Int)+1))<|dX (FZ x k _ (by omega) (lY a)) _ rfl ?_;intro w4 T;have⟨g,r,d⟩:=iY T q D m;by_cases f:(L x k)<n
  ·refine Lv aG (nA f)<|aD<|aN<|ay<|av (.agg (aA 54 (rv .i64 (fun _=>0))))<|dM r 0 fun w5 m8 E z3 => ?_;have m9:aQ w5 l 54 (rv .i64 (fun _=>0)) 82:=aL m8;have m10:=g.cu E (by omega);have M:=E.below d d.size (by omega);refine av (au 11) (aD (Wr (sR (⟨.tuple #[.agg (aA 54 (rv .i64 (fun _=>0))),au 11],fQ Tryz.results159 ⟨_,rfl,aS m9.aH (by kernel_rfl) (by kernel_rfl)⟩ (by exact rfl),?_⟩))));refine⟨?_,M⟩;have c:bF x ((k:Int)+1) n=(zero,11):=by
    unfold bF qD;rw[oC a k o,f_ f];exact xM a s t h rfl (by decide)
   rw[c]
   all_goals rfl
  refine Lv aF (nC f)<|aD<|aK<|Wk<|sN<|Ws<|Ws ?_;have q1:=J (k+6);refine Wl<|av (au ((k:Int)+1))<|Lv (au k) gP<|av (pf b 6)<|Lv (pf b (k+6)) (jD 6 1)<|Lv (au (x (k+6))) (aM g.aH (k+6))<|av (au n)<|Lv (au ((x (k+6))+n)) fH ?_;by_cases y:1125899906842624<((x (k+6))+n)
  ·refine Lv aG (nA y)<|aD<|aN<|ay<|av (.agg (aA 54 (rv .i64 (fun _=>0))))<|dM r 0 fun w6 U F z4 => ?_;have V:aQ w6 l 54 (rv .i64 (fun _=>0)) 82:=aL U;have m13:=g.cu F (by omega);have N:=F.below d d.size (by omega);refine av (au 6) (aD (Wr (sR (⟨.tuple #[.agg (aA 54 (rv .i64 (fun _=>0))),au 6],fQ Tryz.results159 ⟨_,rfl,aS V.aH (by kernel_rfl) (by kernel_rfl)⟩ (by exact rfl),?_⟩))));refine⟨?_,N⟩;have c:bF x ((k:Int)+1) n=(zero,6):=by
    unfold bF qD;rw[oC a k o,g_ f,pl,Nat.add_comm 6 k];exact D5 a s t h rfl (by omega)
   rw[c]
   all_goals rfl
  refine Lv aF (nC y)<|aD<|aK<|Wk<|sN<|ay<|av (au ((k:Int)+1))<|Lv (au k) gP<|av (pf b 6)<|Lv (pf b (k+6)) (jD 6 1)<|Lv (au (x (k+6))) (aM g.aH (k+6))<|av (au n)<|Lv (au ((x (k+6))+n)) fH<|av (pf b 6)<|Lv (pf b (k+6)) (jD 6 1)<|ji g (k+6) (au ((x (k+6))+n)) fun w7 W G z5 => ?_;have A:aQ w7 b 54 (rv .i64 (upd x (k+6) ((x (k+6))+n))) 82:=W.to (Fx.zy _ _ _ _);have X:=r.cu G (by omega);have v:=G.below d d.size (by omega);refine aD<|ay<|Lv (.agg (aA 54 (rv .i64 (upd x (k+6) ((x (k+6))+n))))) (fM A.aH 0)<|dM X 0 fun w8 Y H z6 => ?_;have Z:aQ w8 l 54 (rv .i64 (upd x (k+6) ((x (k+6))+n))) 82:=aL Y;have m19:=A.cu H (by omega);have O:=H.below v v.size (by omega);refine av (au 0) (aD (Wr (⟨.tuple #[.agg (aA 54 (rv .i64 (upd x (k+6) ((x (k+6))+n)))),au 0],fQ Tryz.results159 ⟨_,rfl,aS Z.aH (by kernel_rfl) (by kernel_rfl)⟩ (by exact rfl),?_⟩)));refine⟨?_,O⟩;have c:bF x ((k:Int)+1) n=(upd x (k+6) (x (k+6)+n),0):=by
   unfold bF qD;rw[oC a k o,g_ f,pl,Nat.add_comm 6 k];exact Bn a s t h rfl (by omega)
  rw[c]
  all_goals rfl
 refine Lv aG (kY j)<|aD<|aN<|ay<|av (.agg (aA 54 (rv .i64 (fun _=>0))))<|av (au (eX x i n))<|dM D 0 fun w9 aa I z7 => ?_;have ab:aQ w9 l 54 (rv .i64 (fun _=>0)) 82:=aL aa;have m22:=q.cu I (by omega);have P:=I.below m m.size (by omega);refine av (au (eX x i n)) (aD (Wr (sR (⟨.tuple #[.agg (aA 54 (rv .i64 (fun _=>0))),au (eX x i n)],fQ Tryz.results159 ⟨_,rfl,aS ab.aH (by kernel_rfl) (by kernel_rfl)⟩ (by exact rfl),?_⟩))));refine⟨?_,P⟩;have c:bF x i n=(zero,eX x i n):=by
  exact LH j
 rw[c]
 all_goals rfl
set_option maxRecDepth 10000 in
theorem Zj(x:Nat->Int)(i n:Int)(w:World) :
 Calls Tryz.prog 161 #[.agg (aA 54 (rv .i64 x)),au i,au n] w fun e w'=>e = .returned (.tuple #[.agg (aA 54 (rv .i64 (bH x i n).1)),au (bH x i n).2])/\Below w.heap.size w w':=by
 refine Kent Tryz.func161 41 ?_;refine ay<|pO fun c w1 T t s1 z1 => ?_;have y:=bB s1.old (Below.refl w.heap.size w);have tC:=gN T;have uK:=t.lt;refine nS 54 (rv .i64 (fun _=>0)) fun s w2 D H s2 z2 => ?_;have⟨I,P⟩:=fC s2.old t y;have qX:=iK D y.size;have La:=cO D t.lt;have zM:=H.lt;refine av (au 0)<|aD<|ay<|Lv (.agg (aA 54 (rv .i64 x))) (fM I.aH 0)<|av (au i)<|av (au n)<|dX (F4 x i n _) _ rfl ?_;intro d V;have⟨g,u,l⟩:=iY V I H P;refine av (au (eX x i n))<|aD<|Ws<|ay<|av (au (eX x i n)) ?_;by_cases m:(eX x i n)=0
 ·refine Lv aF (jR m)<|aD<|aK<|Wk<|sN<|Ws<|Ws ?_;obtain⟨j,J,K,p⟩:=F5 m;have v:=lY j;obtain⟨k,W,U,_⟩:=qx p;subst U;have q1:=v (k+6);have q2:=v (k+12);refine Af<|aX (au n)<|aX (au ((k:Int)+1))<|Qv (au k) (fun a b=>gP)<|aX (pf c 6)<|Qv (pf c (k+6)) (fun a b=>jD 6 1)<|Qv (au (x (k+6))) (fun a b=>aM (g.aH.dr b) (k+6))<|aX (au ((k:Int)+1))<|Qv (au k) (fun a b=>gP)<|aX (pf c 12)<|Qv (pf c (k+12)) (fun a b=>jD 6 1)<|Qv (au (x (k+12))) (fun a b=>aM (g.aH.dr b) (k+12))<|Qv (au ((x (k+6))-(x (k+12)))) (fun a b=>gP) ?_;by_cases o:((x (k+6))-(x (k+12)))<n
  ·refine Qv aG (fun a b=>nA o)<|Qn ?_;rintro _ ⟨h,rfl⟩;obtain⟨Et,q⟩ : ∃ a,a=World.drewN d h:=⟨_,rfl⟩;rw[<- q];have s4:Stp d.heap.size d Et:=(by rw[q]; exact Sb (jX d h));have⟨m6,m7,z⟩:=iY s4.old g u l;clear q;refine sN<|aN<|ay<|av (.agg (aA 54 (rv .i64 (fun _=>0))))<|dM m7 0 fun w4 m8 L z3 => ?_;have m9:aQ w4 s 54 (rv .i64 (fun _=>0)) 82:=aL m8;have m10:=m6.cu L (by omega);have Q:=L.below z z.size (by omega);refine av (au 12) (aD (Wr (sR (⟨.tuple #[.agg (aA 54 (rv .i64 (fun _=>0))),au 12],fQ Tryz.results161 ⟨_,rfl,aS m9.aH (by kernel_rfl) (by kernel_rfl)⟩ (by exact rfl),?_⟩))));refine⟨?_,Q⟩;have f:bH x ((k:Int)+1) n=(zero,12):=by
    unfold bH qE C F;rw[pl,Nat.add_comm 6 k,Nat.add_comm 12 k,f_ o];exact xM j J K p rfl (by decide)
   rw[f]
   all_goals rfl
  refine Qv aF (fun a b=>nC o)<|Qn ?_;rintro _ ⟨h,rfl⟩;obtain⟨wq2,r⟩ : ∃ a,a=World.drewN d h:=⟨_,rfl⟩;rw[<- r];have s6:Stp d.heap.size d wq2:=by rw[r]; exact Sb (jX d h)
  have⟨E,X,A⟩:=iY s6.old g u l;clear r;refine sN<|aK<|Wk<|sN<|ay<|av (au ((k:Int)+1))<|Lv (au k) gP<|av (pf c 12)<|Lv (pf c (k+12)) (jD 6 1)<|Lv (au (x (k+12))) (aM E.aH (k+12))<|av (au n)<|Lv (au ((x (k+12))+n)) fH<|av (pf c 12)<|Lv (pf c (k+12)) (jD 6 1)<|ji E (k+12) (au ((x (k+12))+n)) fun w5 Y M z4 => ?_;have G:aQ w5 c 54 (rv .i64 (upd x (k+12) ((x (k+12))+n))) 82:=Y.to (Fx.zy _ _ _ _);have Z:=X.cu M (by omega);have B:=M.below A A.size (by omega);refine aD<|ay<|Lv (.agg (aA 54 (rv .i64 (upd x (k+12) ((x (k+12))+n))))) (fM G.aH 0)<|dM Z 0 fun w6 aa N z5 => ?_;have ab:aQ w6 s 54 (rv .i64 (upd x (k+12) ((x (k+12))+n))) 82:=aL aa;have m18:=G.cu N (by omega);have R:=N.below B B.size (by omega);refine av (au 0) (aD (Wr (⟨.tuple #[.agg (aA 54 (rv .i64 (upd x (k+12) ((x (k+12))+n)))),au 0],fQ Tryz.results161 ⟨_,rfl,aS ab.aH (by kernel_rfl) (by kernel_rfl)⟩ (by exact rfl),?_⟩)));refine⟨?_,R⟩;have f:bH x ((k:Int)+1) n=(upd x (k+12) (x (k+12)+n),0):=by
   unfold bH qE C F;rw[pl,Nat.add_comm 6 k,Nat.add_comm 12 k,g_ o];exact Bn j J K p rfl (by have:=Vz j W; omega)
  rw[f]
  all_goals rfl
 refine Lv aG (kY m)<|aD<|aN<|ay<|av (.agg (aA 54 (rv .i64 (fun _=>0))))<|av (au (eX x i n))<|dM u 0 fun w7 ac O z6 => ?_;have ad:aQ w7 s 54 (rv .i64 (fun _=>0)) 82:=aL ac;have m21:=g.cu O (by omega);have S:=O.below l l.size (by omega);refine av (au (eX x i n)) (aD (Wr (sR (⟨.tuple #[.agg (aA 54 (rv .i64 (fun _=>0))),au (eX x i n)],fQ Tryz.results161 ⟨_,rfl,aS ad.aH (by kernel_rfl) (by kernel_rfl)⟩ (by exact rfl),?_⟩))));refine⟨?_,S⟩;have f:bH x i n=(zero,eX x i n):=by
  exact LH m
 rw[f]
 all_goals rfl
set_option maxRecDepth 10000 in
theorem Zk(x:Nat->Int)(i j n:Int)(w:World) :
 Calls Tryz.prog 127 #[.agg (aA 54 (rv .i64 x)),au i,au j,au n] w fun e w'=>e = .returned (.tuple #[.agg (aA 54 (rv .i64 (dA x i j n).1)),au (dA x i j n).2])/\Below w.heap.size w w':=by
 refine Kent Tryz.func127 59 ?_;refine ay<|pO fun c w1 aa z s1 z1 => ?_;have B:=bB s1.old (Below.refl w.heap.size w);have tC:=gN aa;have uK:=z.lt;refine nS 54 (rv .i64 (fun _=>0)) fun h w2 F H s2 z2 => ?_;have⟨J,W⟩:=fC s2.old z B;have qX:=iK F B.size;have La:=cO F z.lt;have zM:=H.lt;refine av (au 0)<|aD<|ay<|Lv (.agg (aA 54 (rv .i64 x))) (fM J.aH 0)<|av (au i)<|av (au n)<|dX (F4 x i n _) _ rfl ?_;intro w3 hb1;have⟨p,u,f⟩:=iY hb1 J H W;refine av (au (eX x i n))<|aD<|Ws<|ay<|av (au (eX x i n)) ?_;by_cases t:(eX x i n)=0
 ·refine Lv aF (jR t)<|aD<|aK<|Wk<|sN<|Ws<|Ws ?_;obtain⟨b,r,s,l⟩:=F5 t;have S:=lY b;obtain⟨k,y,ei,_⟩:=qx l;subst ei;refine Wl<|av (au j) ?_;by_cases d:(iq j)=true
  ·refine lX (zQ j _) aG (by rw[d])<|av aF<|aD<|aK<|Wk<|sN<|Ws<|Ws ?_;obtain⟨q,hq,ej,_⟩:=qx d;subst ej;refine Wl<|av (au ((k:Int)+1))<|av (au ((q:Int)+1)) ?_;by_cases g:((k:Int)+1)=((q:Int)+1)
   ·refine Lv aG (dZ g)<|aD<|aN<|ay<|av (.agg (aA 54 (rv .i64 (fun _=>0))))<|dM u 0 fun w4 m6 O z3 => ?_;have m7:aQ w4 h 54 (rv .i64 (fun _=>0)) 82:=aL m6;have m8:=p.cu O (by omega);have X:=O.below f f.size (by omega);refine av (au 1) (aD (Wr (sR (⟨.tuple #[.agg (aA 54 (rv .i64 (fun _=>0))),au 1],fQ Tryz.results127 ⟨_,rfl,aS m7.aH (by kernel_rfl) (by kernel_rfl)⟩ (by exact rfl),?_⟩))));refine⟨?_,X⟩;have a:dA x ((k:Int)+1) ((q:Int)+1) n=(zero,1):=by
     unfold dA nN;rw[d_ g];exact xM b r s (by rw[l,d]; rfl) rfl (by decide)
    rw[a]
    all_goals rfl
   refine Lv aF (fB g)<|aD<|aK<|Wk<|sN<|Ws<|ay<|av (au n)<|Lv (.agg (aA 54 (rv .i64 x))) (fM p.aH 0)<|av (au ((k:Int)+1))<|dX (FZ x k _ (by omega) (lY b)) _ rfl ?_;intro w5 hb2;have⟨v,A,m⟩:=iY hb2 p u f;by_cases o:(L x k)<n
   ·refine Lv aG (nA o)<|aD<|aN<|ay<|av (.agg (aA 54 (rv .i64 (fun _=>0))))<|dM A 0 fun w6 m11 P z4 => ?_;have m12:aQ w6 h 54 (rv .i64 (fun _=>0)) 82:=aL m11;have m13:=v.cu P (by omega);have Y:=P.below m m.size (by omega);refine av (au 11) (aD (Wr (sR (⟨.tuple #[.agg (aA 54 (rv .i64 (fun _=>0))),au 11],fQ Tryz.results127 ⟨_,rfl,aS m12.aH (by kernel_rfl) (by kernel_rfl)⟩ (by exact rfl),?_⟩))));refine⟨?_,Y⟩;have a:dA x ((k:Int)+1) ((q:Int)+1) n=(zero,11):=by
     unfold dA nN;rw[b_ g,oC b k y,f_ o];exact xM b r s (by rw[l,d]; rfl) rfl (by decide)
    rw[a]
    all_goals rfl
   refine Lv aF (nC o)<|aD<|aK<|Wk<|sN<|Ws<|Ws ?_;have q1:=S (6*k+q+18);refine Wl<|av (au ((k:Int)+1))<|Lv (au k) gP<|av (au ((q:Int)+1))<|Lv (au q) gP<|av (pf c 18)<|Lv (pf c (6*k+18)) (jD 6 6)<|Lv (pf c (6*k+q+18)) (jD 6 1)<|Lv (au (x (6*k+q+18))) (aM v.aH (6*k+q+18))<|av (au n)<|Lv (au ((x (6*k+q+18))+n)) fH ?_;by_cases E:1125899906842624<((x (6*k+q+18))+n)
   ·refine Lv aG (nA E)<|aD<|aN<|ay<|av (.agg (aA 54 (rv .i64 (fun _=>0))))<|dM A 0 fun w7 m14 Q z5 => ?_;have m15:aQ w7 h 54 (rv .i64 (fun _=>0)) 82:=aL m14;have m16:=v.cu Q (by omega);have Z:=Q.below m m.size (by omega);refine av (au 6) (aD (Wr (sR (⟨.tuple #[.agg (aA 54 (rv .i64 (fun _=>0))),au 6],fQ Tryz.results127 ⟨_,rfl,aS m15.aH (by kernel_rfl) (by kernel_rfl)⟩ (by exact rfl),?_⟩))));refine⟨?_,Z⟩;have a:dA x ((k:Int)+1) ((q:Int)+1) n=(zero,6):=by
     unfold dA nN;rw[b_ g,oC b k y,g_ o,LJ];exact D5 b r s (by rw[l,d]; rfl) rfl (by omega)
    rw[a]
    all_goals rfl
   refine Lv aF (nC E)<|aD<|aK<|Wk<|sN<|Ws ?_;refine Wt 13 (by kernel_rfl) (by kernel_rfl) fun qU dU iC => ?_;have⟨G,m18,C⟩:=iY dU v A m;refine Fy (au ((k:Int)+1))<|qL (au k) gP<|Fy (au ((q:Int)+1))<|qL (au q) gP<|Fy (pf c 18)<|qL (pf c (6*k+18)) (jD 6 6)<|qL (pf c (6*k+q+18)) (jD 6 1)<|qL (au (x (6*k+q+18))) (aM G.aH (6*k+q+18))<|Fy (au n)<|qL (au ((x (6*k+q+18))+n)) fH<|Fy (pf c 18)<|qL (pf c (6*k+18)) (jD 6 6)<|qL (pf c (6*k+q+18)) (jD 6 1)<|Fx.St.nil ?_;refine ji G (6*k+q+18) (au ((x (6*k+q+18))+n)) fun w8 m19 R z6 => ?_;have I:aQ w8 c 54 (rv .i64 (upd x (6*k+q+18) ((x (6*k+q+18))+n))) 82:=m19.to (Fx.zy _ _ _ _);have m21:=m18.cu R (by omega);have D:=R.below C C.size (by omega);refine aD<|ay<|Lv (.agg (aA 54 (rv .i64 (upd x (6*k+q+18) ((x (6*k+q+18))+n))))) (fM I.aH 0)<|dM m21 0 fun w9 m22 K z7 => ?_;have m23:aQ w9 h 54 (rv .i64 (upd x (6*k+q+18) ((x (6*k+q+18))+n))) 82:=aL m22;have m24:=I.cu K (by omega);have T:=K.below D D.size (by omega);refine av (au 0) (aD (Wr (⟨.tuple #[.agg (aA 54 (rv .i64 (upd x (6*k+q+18) ((x (6*k+q+18))+n)))),au 0],fQ Tryz.results127 ⟨_,rfl,aS m23.aH (by kernel_rfl) (by kernel_rfl)⟩ (by exact rfl),?_⟩)));refine⟨?_,T⟩;have a:dA x ((k:Int)+1) ((q:Int)+1) n=(upd x (6*k+q+18) (x (6*k+q+18)+n),0):=by
    unfold dA nN;rw[b_ g,oC b k y,g_ o,LJ];exact Bn b r s (by rw[l,d]; rfl) rfl (by omega)
   rw[a]
   all_goals rfl
  rw[U_]at d;refine lX (zQ j _) aF (by rw[d])<|av aG<|aD<|aN<|ay<|av (.agg (aA 54 (rv .i64 (fun _=>0))))<|dM u 0 fun su nW M z8 => ?_;have oN:aQ su h 54 (rv .i64 (fun _=>0)) 82:=aL nW;have pU:=p.cu M (by omega);have U:=M.below f f.size (by omega);refine av (au 10) (aD (Wr (sR (⟨.tuple #[.agg (aA 54 (rv .i64 (fun _=>0))),au 10],fQ Tryz.results127 ⟨_,rfl,aS oN.aH (by kernel_rfl) (by kernel_rfl)⟩ (by exact rfl),?_⟩))));refine⟨?_,U⟩;have a:dA x ((k:Int)+1) j n=(zero,10):=by
   unfold dA;rw[d,J_];exact RB b r s
  rw[a]
  all_goals rfl
 refine Lv aG (kY t)<|aD<|aN<|ay<|av (.agg (aA 54 (rv .i64 (fun _=>0))))<|av (au (eX x i n))<|dM u 0 fun Ah pV N z9 => ?_;have nX:aQ Ah h 54 (rv .i64 (fun _=>0)) 82:=aL pV;have ou:=p.cu N (by omega);have V:=N.below f f.size (by omega);refine av (au (eX x i n)) (aD (Wr (sR (⟨.tuple #[.agg (aA 54 (rv .i64 (fun _=>0))),au (eX x i n)],fQ Tryz.results127 ⟨_,rfl,aS nX.aH (by kernel_rfl) (by kernel_rfl)⟩ (by exact rfl),?_⟩))));refine⟨?_,V⟩;have a:dA x i j n=(zero,eX x i n):=by
  exact RD t
 rw[a]
 all_goals rfl
namespace Rt
theorem EW{m:lZ}{x:Int}(h:0<=m.node x) : ∃ q:Nat,q<m.s.nn/\gV (fun i=>decide (m.id i=x)) m.s.nn=(q:Int)/\m.id q=x:=by
 rcases gu (fun i=>decide (m.id i=x)) m.s.nn with ⟨q,b,e,a⟩|⟨e,_⟩
 ·exact⟨q,b,e,h_ a⟩
 unfold lZ.node at h; omega
theorem PL{n:Nat}{x:Nat->Int}{r:Int} : ∀ j,j<(n+1)*1->iJ (rv .u64 x) (n*1) (bG (fun j=>rv .u64 (fun _=>0) (j % 1)) (0*1) 1 (fun _=>aC r)) j=rv .u64 (aI x n r) j:=by
 intro j a;unfold iJ rv aI;by_cases h:j<n*1
 ·rw[d_ h,b_ (by omega)]
 rw[b_ h,d_ (by omega)];unfold bG;rw[d_ (by omega)]
theorem LK{P:Nat->Bool}{n k j:Nat}(e:k=j+1)(h : ∀ i,k<=i->i<n->P i=true)(c:P j=true) : ∀ i,j<=i->i<n->P i=true:=fun i d b=>by
 by_cases a:i=j
 ·subst a; exact c
 ·exact h i (by omega) b
end Rt
theorem Ch(m:lZ)(p a:Nat)(o r:Int)(w:World)(h:DX w p m)(ha:a<6)(b:o=(a:Int)+1) :
 Calls Tryz.prog 158 #[(pt p),au o,aC r] w fun e w'=>e = .returned (.bool (decide (0<=m.kg a r)))/\Below w.heap.size w w':=by
 subst b; exact Y5 m p a r w h ha
set_option maxRecDepth 20000 in
set_option maxHeartbeats 2000000 in
theorem Zl(m:lZ)(B p a D:Nat)(v:EvM)(w:World)(M:wM w B p m)(E:B<=w.heap.size)(ha:a<6)(ho:v.o=(a:Int)+1)(bgg:m.s.gn<=900000)(brr : ∀ i,i<6->m.rn i<=900000)(hTN : ∀ x,m.node x=bC m.t m.tn x)(hD:bC m.t m.tn (aZ m.t m.tn D v.node)<0)(hD2:D<=1000) :
 Calls Tryz.prog 125 #[(pt p),.agg (aA 14 (bI v))] w fun e w'=>e = .returned (au (iP m.core v))/\Below B w w'/\(iP m.core v=0 -> ∃ m',m'.core=gJ m.core v/\wM w' B p m'):=by
 have Vl:=M.c;have hLn:=M.n;have hLg:=M.g;have Vm:=M.tc;have Vn:=M.t;have hLr:=M.r;have Vo:=M.pB;have Ew:=M.tB;have bn:=M.bn;have bg:=M.bg;have bt:=M.bt;have lpp:p<w.heap.size:=Vl.lt;have SE:m.tb<w.heap.size:=Vm.lt;refine Kent Tryz.func125 188 ?_;refine ay<|pO fun G w1 ku m1 s1 z1 => ?_;have⟨m2,m3,m4,m5,m6,m7⟩:=rz s1.old Vl hLn hLg Vm Vn hLr;have b1:=fA s1.old (Below.refl B w) E;have tC:=iK ku (Below.refl B w).size;have⟨nK,yx⟩:=rD ku Vl.lt Vm.lt;have uK:=m1.lt;refine av (au 0)<|aD<|Ws<|ay<|av (pt p)<|av (pt G)<|Lv (au v.o) (aM m1.aH 0)<|av (pf G 12)<|Lv (aC v.req) (aM m1.aH 12) ?_;have NS:DX w1 p m := { c:=m2.aH,an:=m3.arr,ag:=m4.arr,tc:=m5.aH,at2:=m6.arr,ar:=fun i L=>(m7.1 i L).arr,bn:=(by show m.s.nn<=1000000; omega),bg:=bg,bt:=(by show m.tn<=1000000; omega),br:=M.br };by_cases c17:(decide (0<=m.kg a v.req))=true
 ·refine dX (Ch m p a v.o v.req _ NS ha ho) aG (by rw[c17]) ?_;intro w2 hb1;have b2:=fA hb1 b1 E;refine aD<|aN<|ay<|av (au 14)<|aD<|Wr<|sR<|aJ (au 14) ?_;have eN:aP v=a:=by unfold aP; omega
  have V:iP m.core v=14:=by unfold iP; rw[eN]; exact d_ (h_ c17)
  exact⟨pR V.symm,b2,fun h0=>by rw[V]at h0; cases h0⟩
 rw[U_]at c17;refine dX (Ch m p a v.o v.req _ NS ha ho) aF (by rw[c17]) ?_;intro w3 hb2;have⟨m15,m16,m17,m18,m19,m20,m21⟩:=jJ hb2 m2 m3 m4 m5 m6 m7 m1;have b3:=fA hb2 b1 E;refine aD<|aK<|Wk<|sN<|Ws ?_;refine jY [0,1,2,4,3,5,6,7] [0,0,0,4,0,4,3,0] [(6,3,[3]),(6,5,[5]),(7,6,[6])] fun qU dU iC => ?_;have⟨m22,m23,m24,nW,oN,pU,pV⟩:=jJ dU m15 m16 m17 m18 m19 m20 m21;have b4:=fA dU b3 E;refine aY (pt p)<|aY (pt p)<|aY (pf p 20)<|aY (pf G 9)<|Rs (pt m.tb) (aM m22.aH 20) ?_;refine Rs (aC v.node) (aM pV.aH 9) ?_;refine gQ<|kF (JN m.tb m.ta m.tn m.tc m.t v.node D _ (uQ nW oN bt) hD hD2) ?_;rintro e w4 ⟨K,vv,he,hown,tF,hK1,hb3⟩;obtain⟨a1,A,rfl⟩:=hown.val;refine⟨.slice a1 K A,he,?_⟩;clear he;have Ym:K=bO m.t m.tn v.node:=wo tF hK1 hD hD2;have hKD:K<=1000:=by rw[Ym]; exact EU _ _
 have⟨nX,ou,lu,m32,oQ,nL,oO⟩:=jJ hb3 m22 m23 m24 nW oN pU pV;have b5:=fA hb3 b4 E;refine Ln<|aY (.slice a1 (K) (A))<|bT<|Ws<|ay<|av (.slice a1 (K) (A))<|av (au K) ?_;by_cases c27:(K:Int)=0
 ·refine Lv aG (dZ c27)<|aD<|aN<|ay<|av (au 9)<|aD<|Wr<|sR<|aJ (au 9) ?_;have eN:aP v=a:=by unfold aP; omega
  have ne1 : ¬ 0<=m.core.kg (aP v) v.req:=by rw[eN]; exact j_ c17
  have V:iP m.core v=9:=by unfold iP; rw[b_ ne1]; exact d_ (Ym.symm.trans (by omega))
  exact⟨pR V.symm,b5,fun h0=>by rw[V]at h0; cases h0⟩
 refine Lv aF (fB c27)<|aD<|aK<|Wk<|sN<|Ws<|ay<|av (au 0)<|aD<|Wb<|Wo (fun f F => ∃ k:Nat,∃ Rk:Nat->Nat->Int,k<=K/\dz (fun x=>bF x v.o v.aT) (pz m.core v.node) m.R k=(Rk,0)/\f 0=(pt p)/\f 3=(pt G)/\f 5 = .slice a1 (K) (A)/\f 6=au (k:Int)/\aQ F p 27 (nk m) 56/\Fx.Own F B 106 5 (.slice m.s.ga (m.s.gn) (m.s.gc)) m.s.gn (JL m)/\aQ F m.tb 1 (fun _ => .slice m.ta m.tn m.tc) 156/\Fx.Own F B 153 2 (.slice m.ta (m.tn) (m.tc)) m.tn (Rm m.t)/\xG F B 6 m/\aQ F G 14 (bI v) 37/\Fx.Own F qU.heap.size 23 1 (.slice a1 (K) (A)) K (rv .u64 (fun i=>aZ m.t m.tn i v.node))/\Fx.Own F B 84 56 (.slice m.s.na (m.s.nn) (m.s.nc)) m.s.nn (flat 56 (fun l=>mW (m.id l) (m.par l) (Rk l)))/\Below B w F) (fun f _=>(K-(intOf (f 6)).toNat)) ⟨0,m.R,by omega,rfl,(by rfl),(by rfl),(by rfl),Fx.ic,nX,lu,m32,oQ,nL,oO,hown,ou,b5⟩ ?_;rintro f1 w5 ⟨k,Rk,hk,hRk,Z,O,h3,h4,nT,qV,qB,pE,sJ,mK,ni,mR,b6⟩;refine Ws<|ay<|aU h4<|aU h3<|av (au K) ?_;by_cases c31:(k:Int)<(K:Int)
 ·refine Lv aG (iD c31)<|aD<|aN<|Wk<|sN<|Ws<|Wb<|Ws ?_;obtain⟨q,hq,eq0,_⟩:=EW (m:=m) (x:=aZ m.t m.tn k v.node) (by rw[hTN]; exact tF k (by omega));have ex1:pz m.core v.node k=q:=by show(gV (fun i=>decide (m.id i=aZ m.t m.tn k v.node)) m.s.nn).toNat=q; rw[eq0]; rfl
  refine Wl<|aU Z<|aU h3<|aU h4 ?_;obtain⟨DZ,eq1⟩:=ni.addr (by omega);have qw:Fx.Own w5 qU.heap.size 23 1 (bM DZ K A) K (rv .u64 (fun i=>aZ m.t m.tn i v.node)):=ni.fu (M_ (fun q=>Value.slice q K A) eq1);refine Lv (pf DZ k) (dB 1 (hx:=(rfl.trans (M_ (fun q=>Value.slice q (K) (A)) eq1))))<|Lv (aC (aZ m.t m.tn k v.node)) (aM qw.aH k) ?_;have qW:Fx.Own w5 qU.heap.size 23 1 (.slice a1 (K) (A)) K (rv .u64 (fun i=>aZ m.t m.tn i v.node)):=qw.fu (M_ (fun q=>Value.slice q K A) eq1.symm);have VA:DX w5 p { m with R:=Rk } := { c:=nT.aH,an:=mR.arr,ag:=qV.arr,tc:=qB.aH,at2:=pE.arr,ar:=fun i L=>(sJ.1 i L).arr,bn:=(by show m.s.nn<=1000000; omega),bg:=bg,bt:=(by show m.tn<=1000000; omega),br:=M.br };refine dX ((JM { m with R:=Rk } p (aZ m.t m.tn k v.node) _ VA).mono (fun e w2 O=>(⟨O.1.trans (pR eq0),O.2⟩:e = .returned (au (q:Int))/\_))) _ rfl ?_;intro w6 hb4;have⟨ow,sK,vE,sM,rQ,uM,uw,ug⟩:=mO hb4 nT qV qB pE sJ mK mR qW;have b7:=fA hb4 b6 E;refine av (au q)<|aD<|Ws ?_;obtain⟨Y,JY⟩:=uw.addr (by omega);have uW:Fx.Own w6 B 84 56 (bM Y m.s.nn m.s.nc) m.s.nn (flat 56 (fun l=>mW (m.id l) (m.par l) (Rk l))):=uw.fu (M_ (fun q=>Value.slice q m.s.nn m.s.nc) JY);refine qZ (T:=82) (T':=82) (a := .tmp 8) (v := .tmp 55) (m:=54) (z:=rv .i64 (fun _=>0)) (y:=rv .i64 ((bF (Rk q) v.o v.aT).1)) (u := .agg (aA 54 (rv .i64 ((bF (Rk q) v.o v.aT).1)))) 17 18 (List.replicate 20 (0,2,[],[])) #[(pt p),(pt p),(pt p),(pf p 18),.slice m.s.na (m.s.nn) (m.s.nc),au (q:Int),(pf Y (56*q)),(pf Y (56*q+2)),.agg (aA 54 (rv .i64 (Rk q))),(pt G),au v.o,(pf G 11),au v.aT,.tuple #[.agg (aA 54 (rv .i64 ((bF (Rk q) v.o v.aT).1))),au ((bF (Rk q) v.o v.aT).2)],.tuple #[.agg (aA 54 (rv .i64 ((bF (Rk q) v.o v.aT).1))),au ((bF (Rk q) v.o v.aT).2)],.agg (aA 54 (rv .i64 ((bF (Rk q) v.o v.aT).1))),au ((bF (Rk q) v.o v.aT).2),undef,undef,au ((bF (Rk q) v.o v.aT).2)] (by kernel_rfl) (by kernel_rfl) (by kernel_rfl) (by kernel_rfl) (by kernel_rfl) (by kernel_rfl) rfl (by kernel_rfl) rfl rfl (by kernel_rfl) (fun W=>(show ev _ (.tmp 8)=(pt W)from by kernel_rfl)) (fun W=>(show ev _ (.tmp 55) = .agg (aA 54 (rv .i64 ((bF (Rk q) v.o v.aT).1)))from by kernel_rfl)) (bJ _ _) (fun _ _=>rfl) (by kernel_rfl) (fun W => ?_) ?_
  ·refine⟨?_,?_,?_,?_,?_,?_,?_,?_,?_,?_,?_,?_,?_,?_,?_,?_,?_,?_,?_,?_,trivial⟩
   ·exact .inr (.inr (uo (pt p) fun d b=>fF rfl ((bW (by kernel_rfl)).trans Z)))
   ·exact .inr (.inr qQ)
   ·exact .inr (.inr qQ)
   ·exact .inr (.inr qQ)
   ·exact .inr (.inr (uo (.slice m.s.na (m.s.nn) (m.s.nc)) fun d b=>bf (x:=nk m) rfl (show ev _ (.tmp 44)=(pf p 18)from by kernel_rfl) (by kernel_rfl) (ow.aH.below b (by have:=ow.lt; omega)) (i:=18) (by omega) (by omega) rfl))
   ·exact .inr (.inr qQ)
   ·exact .inr (.inr (uo (pf Y (56*q)) fun d b=>dR rfl ((show ev _ (.tmp 45) = .slice m.s.na (m.s.nn) (m.s.nc)from by kernel_rfl).trans (M_ (fun q=>Value.slice q (m.s.nn) (m.s.nc)) JY)) (show ev _ (.tmp 46)=au (q:Int)from by kernel_rfl) Tryz.underlying47 (s:=56) (by kernel_rfl) (by omega) (by omega) (by omega)))
   ·exact .inr (.inr qQ)
   ·exact .inr (.inr (uo (.agg (aA 54 (rv .i64 (Rk q)))) fun d b=>eG (x:=flat 56 (fun l=>mW (m.id l) (m.par l) (Rk l))) (y:=rv .i64 (Rk q)) rfl (show ev _ (.tmp 48)=(pf Y (56*q+2))from by kernel_rfl) (by kernel_rfl) (by kernel_rfl) (uW.aH.below b (by have:=uW.lt; omega)) (i:=56*q+2) (by omega) (by omega) (fun X hjq=>(Fx.kU (k:=q) (j:=2+X) (by omega) (by omega)).trans ((fun X _=>JK _ _ _ X) X hjq))))
   ·exact .inr (.inr (uo (pt G) fun d b=>fO rfl ((bW (by kernel_rfl)).trans O) Tryz.underlying37 rfl (s:=1) (by kernel_rfl) rfl rfl))
   ·exact .inr (.inr (uo (au v.o) fun d b=>bf (x:=bI v) rfl (show ev _ (.tmp 50)=(pt G)from by kernel_rfl) (by kernel_rfl) (uM.aH.below b (by have:=uM.lt; omega)) (i:=0) (by omega) (by omega) rfl))
   ·exact .inr (.inr (uo (pf G 11) fun d b=>fO rfl ((bW (by kernel_rfl)).trans O) Tryz.underlying37 rfl (s:=1) (by kernel_rfl) rfl (by show _+11=_; omega)))
   ·exact .inr (.inr (uo (au v.aT) fun d b=>bf (x:=bI v) rfl (show ev _ (.tmp 52)=(pf G 11)from by kernel_rfl) (by kernel_rfl) (uM.aH.below b (by have:=uM.lt; omega)) (i:=11) (by omega) (by omega) rfl))
   ·exact .inr (.inr (Fx.Jp (v := .tuple #[.agg (aA 54 (rv .i64 ((bF (Rk q) v.o v.aT).1))),au ((bF (Rk q) v.o v.aT).2)]) (by kernel_rfl) (by kernel_rfl) (Fx.qbC (fun d b=>rC (args := [.agg (aA 54 (rv .i64 (Rk q))),au v.o,au v.aT]) rfl (Fx.OV (show ev _ (.tmp 49) = .agg (aA 54 (rv .i64 (Rk q)))from by kernel_rfl) (show ev _ (.tmp 51)=au v.o from by kernel_rfl) (show ev _ (.tmp 53)=au v.aT from by kernel_rfl)) Tryz.func159 rfl rfl) (fun d b=>(Zi (Rk q) v.o v.aT _).mono fun e v2 h=>⟨h.1,h.2⟩))))
   ·exact .inr (.inr qQ)
   ·exact .inr (.inr qQ)
   ·exact .inr (.inr qQ)
   ·exact .inl rfl
   ·exact .inr (.inl rfl)
   exact .inr (.inr qQ)
  rintro W w7 f2 hf1 qX xk hb5;have FW:p≠W:=u_ (n_ (ow.lt) qX);have aos:m.tb≠W:=u_ (n_ (vE.lt) qX);have aeg:G≠W:=u_ (n_ (uM.lt) qX);have aot:Y≠W:=u_ (n_ (uW.lt) qX);have⟨uh,rR,sw,vU,rE,uj,nY,uy⟩:=mO hb5 ow sK vE sM rQ uM ug uW;have b8:=fA hb5 b7 E;have qX:w.heap.size<=W:=m_ b7.size qX;have zM:=xk.lt;have q1:f2 0=(pt p):=by rw[hf1]; exact(bW (by kernel_rfl)).trans Z
  have q2:f2 3=(pt G):=by rw[hf1]; exact(bW (by kernel_rfl)).trans O
  have q3:f2 5 = .slice a1 (K) (A):=by rw[hf1]; exact(bW (by kernel_rfl)).trans h3
  have q4:f2 6=au (k:Int):=by rw[hf1]; exact(bW (by kernel_rfl)).trans h4
  have q15:f2 7=au (q:Int):=by rw[hf1]; kernel_rfl
  have q33:f2 8=(pt W):=by rw[hf1]; kernel_rfl
  have q34:f2 9=au ((bF (Rk q) v.o v.aT).2):=by rw[hf1]; kernel_rfl
  clear hf1;refine sN<|Ws<|ay<|aU q34 ?_;by_cases c58:((bF (Rk q) v.o v.aT).2)=0
  ·refine Lv aF (jR c58)<|aD<|aK<|Wk<|sN ?_;refine jY [0,1,2,3,5,4,6,7,8,9] [0,0,0,0,4,0,4,0,0,3] [(9,4,[4]),(9,6,[6])] fun BS fZ mQ => ?_;have⟨m64,xq,wI,vF,yt,sO,vG,uN,vH⟩:=CO fZ uh rR sw vU rE uj nY uy xk;have b9:=fA fZ b8 E;refine bX q1<|aY (pt p)<|aY (pt p)<|aY (pf p 18)<|bX q15<|Rs (.slice m.s.na (m.s.nn) (m.s.nc)) (aM m64.aH 18) ?_;refine Rs (.agg (aA 54 (rv .i64 ((bF (Rk q) v.o v.aT).1)))) (fM vH.aH 0 (ha:=q33)) ?_;refine Rp (pf Y (56*q)) (fun _=>dB 56 (hx:=(rfl.trans (M_ (fun q=>Value.slice q (m.s.nn) (m.s.nc)) JY))))<|aY (pf Y (56*q+2))<|gQ<|AY uN (56*q+2) fun w8 vI s9 z2 => ?_;have gF:=fP s9 uN.KJ;have⟨yL,wJ,yV,yX,yM,wK,vV⟩:=TG gF m64 xq wI vF yt sO vG;have b10:=s9.below b9 (m_ E b9.size) uN.blk.1;have yu:Fx.Own w8 B 84 56 (bM Y m.s.nn m.s.nc) m.s.nn (flat 56 (fun l=>mW (m.id l) (m.par l) (aI Rk q ((bF (Rk q) v.o v.aT).1) l))):=vI.congr (fun U S=>(Fx.CK (k:=q) (j:=2) (by omega) (by omega) U S).trans (bK (fun i L j hj=>Dj i L j hj) U S));refine Ln<|Rn<|bU<|sN<|Wl<|aU q4<|Lv (au ((k:Int)+1)) fH<|av (au ((k:Int)+1))<|Ln ?_;have zK:Fx.Own w8 B 84 56 (.slice m.s.na (m.s.nn) (m.s.nc)) m.s.nn (flat 56 (fun l=>mW (m.id l) (m.par l) (aI Rk q ((bF (Rk q) v.o v.aT).1) l))):=yu.fu (M_ (fun q=>Value.slice q m.s.nn m.s.nc) JY.symm);refine iH ⟨k+1,(aI Rk q (bF (Rk q) v.o v.aT).1),by omega,(FY hRk ex1 (by first|exact c58|exact Classical.not_not.1 c58)),q1,q2,q3,Fx.ic,yL,wJ,yV,yX,yM,wK,vV,zK,b10⟩ ?_
   show(K-(intOf (au ((k:Int)+1))).toNat)<_;simp only[h4,intOf]; omega
  refine Lv aG (kY c58)<|aD<|aN<|ay<|aU q34<|av (au ((bF (Rk q) v.o v.aT).2))<|aD<|Wr<|sR<|bL<|sR<|qm<|bL<|sR<|aJ (au ((bF (Rk q) v.o v.aT).2)) ?_;have eN:aP v=a:=by unfold aP; omega
  have ne1 : ¬ 0<=m.core.kg (aP v) v.req:=by rw[eN]; exact j_ c17
  have ne2 : ¬ bO m.core.t m.core.tn v.node=0:=fun e=>c27 (by rw[show K=0 from Ym.trans e]; rfl);have ew:nH m.core v=dz (fun x=>bF x v.o v.aT) (pz m.core v.node) m.R K:=by unfold nH; rw[show bO m.core.t m.core.tn v.node=K from Ym.symm]; rfl
  have V:iP m.core v=(bF (Rk q) v.o v.aT).2:=by
   unfold iP; rw[b_ ne1,b_ ne2,ew];have e1:=Iw hRk ex1 c58;rw[Bl (k:=k+1) (by rw[e1]; exact c58) K (by omega)]; exact e1
  exact⟨pR V.symm,b8,fun h0=>N_ (V.symm.trans h0) c58⟩
 refine Lv aF (iE c31)<|aD<|aK<|Wx<|cZ<|gZ<|dh<|sN<|Ws ?_;have hRK:dz (fun x=>bF x v.o v.aT) (pz m.core v.node) m.R K=(Rk,0):=by rw[show K=k by omega]; exact hRk
 refine Wl<|Lv (pt G) (jo O 0)<|Lv (au v.o) (aM mK.aH 0)<|Lv (pf G 12) (jo O 12)<|Lv (aC v.req) (aM mK.aH 12)<|Lv (pf G 9) (jo O 9)<|Lv (aC v.node) (aM mK.aH 9)<|Lv (pf G 11) (jo O 11)<|Lv (au v.aT) (aM mK.aH 11)<|av (.agg (aA 5 (bG (bG (bG (bG zR0 0 1 (fun _=>au v.o)) 1 1 (fun _=>aC v.req)) 2 1 (fun _=>aC v.node)) 3 1 (fun _=>au v.aT))))<|nS 5 zR0 fun Q w9 um wL s10 z3 => ?_;have⟨Ai,zL,AB,yY,yZ,Aj,C9⟩:=jJ s10.old nT qV qB pE sJ mK mR;have b11:=fA s10.old b6 E;have BF:=iK um b6.size;have aeh:=cO um nT.lt;have JO:(.slice m.s.ga (m.s.gn) (m.s.gc):Value).ownBlock≠some Q:=by rw[um]; exact qV.kM (A_ _)
 have⟨aei,aou⟩:=rD um qB.lt mK.lt;have GZ:=wL.lt;refine dM wL 0 (h1:=(bA (bA (bA (bA (fun X _=>by show(zR0 X).oneCell'=true; simp only[zR0]; repeat (first|rfl|split)) (fun _ _=>rfl)) (fun _ _=>rfl)) (fun _ _=>rfl)) (fun _ _=>rfl))) fun su Cc s11 z4 => ?_
 have CF:aQ su Q 5 (bG (bG (bG (bG zR0 0 1 (fun _=>au v.o)) 1 1 (fun _=>aC v.req)) 2 1 (fun _=>aC v.node)) 3 1 (fun _=>au v.aT)) 106:=aL Cc;have jT:=fP s11 wL.ty;have Al:=jh jT Ai;have ES:=zL.cu s11 JO;have⟨Ev,ET,FV,uX,uY⟩:=qA jT AB yY yZ Aj C9;have b12:=s11.below b11 (m_ E b11.size) (by omega);refine aD<|Ws ?_;have rH:aQ su Q 5 (jf (oI v)) 106:=CF.congr (fun j hj=>by rcases j with _|_|_|_|_|j <;> first|rfl|omega)
 refine Wl<|aU Z<|av (pt p)<|av (pt p)<|av (pf p 19)<|Lv (.slice m.s.ga (m.s.gn) (m.s.gc)) (aM Al.aH 19)<|av (au m.s.gn)<|av (au m.s.gn)<|aD<|Ws ?_;refine Ad [0,1,2,3,4,5,6,7,8,9,10,11,12] [0,0,0,0,0,1,4,2,2,0,0,0,3] (jg [106]) vN Fx.jg.trans (fJ := [(12,5,[5]),(7,6,[6]),(8,6,[7,6]),(12,6,[6]),(8,7,[7]),(9,7,[7]),(10,7,[7]),(11,7,[7]),(12,7,[7]),(9,8,[8]),(10,8,[8]),(11,8,[8]),(12,8,[8])]) (by kernel_rfl) (by kernel_rfl) (by kernel_rfl) (by kernel_rfl) (by kernel_rfl) fun SF mF BU => ?_;have⟨oU,oF,qb,oG,oV,rJ,sF,oZ⟩:=mO mF Al ES Ev ET FV uX uY rH;have b13:=fA mF b12 E;refine bX Z<|bX Z<|aY (pt p)<|aY (pt p)<|aY (pf p 19)<|Rd (v := .slice m.s.ga (m.s.gn) (m.s.gc)) (by rfl) (by rfl) (vN _) (fun d b=>bf (x:=nk m) rfl rfl (by kernel_rfl) (oU.kV b (by decide)).aH (i:=19) (by omega) (by omega) rfl) ?_;refine Rs (.agg (aA 5 (jf (oI v)))) (fM oZ.aH 0) ?_;refine zG<|yP (vs := [(0,.agg (aA 5 (jf (oI v))))]) (s:=5) (zc:=fun H=>if H<1 then au 0 else if H<3 then aC 0 else if H<4 then au 0 else aC 0) (y:=bG (fun j=>zR0 (j % 5)) (0*5) 5 (jf (oI v))) (by rfl) rfl rfl Tryz.underlying48 (by kernel_rfl) (by rfl) (by rfl) (by kernel_rfl) (by rw[bE (off:=0*5) (s:=5) (y:=jf (oI v)) rfl (bJ _ _) (by rfl)]; rfl) rfl fun g4 Ah CU rM s13 z5 => ?_;have⟨yE,uD,yF,Bc,wm,tO,qc,xJ⟩:=mO s13.old oU oF qb oG oV rJ sF oZ;have b14:=fA s13.old b13 E;have NT:=iK CU b13.size;have Zm:=cO CU oU.lt;have Zn:(.slice m.s.ga (m.s.gn) (m.s.gc):Value).ownBlock≠some g4:=by rw[CU]; exact oF.kM (A_ _)
 have⟨alv,Zo,alx⟩:=AZ CU qb.lt rJ.lt oZ.lt;have M9:=rM.lt;refine Ln ⟨Fx.jg.of_below s13.old,?_⟩;refine zG<|zB (B:=B) (s:=5) (bytes:=40) (k:=m.s.gn) (m:=1) (v := .slice m.s.ga (m.s.gn) (m.s.gc)) (x:=JL m) (by rfl) rfl rfl rfl Tryz.underlying48 (by kernel_rfl) (by kernel_rfl) rfl rfl uD rM.aH (zP (sD _)) (by omega) (by omega) (by omega) (m_ E b14.size) fun C A BZ ho1 hg1 xg hlt1 => ?_;have oq:=zC hg1 uD;have⟨tQ,Am,Da,Bd,Ao,Bf⟩:=TF oq yE yF Bc wm tO qc;have Ce:=xJ.grown hg1 JO;have aly:Q≠C:=fun e=>xg.elim (fun e2=>JO (by rw[e]; exact e2)) (fun e2=>by have:=xJ.lt; omega);have xK:Fx.Own BZ B 106 5 (bM C (m.s.gn+1) A) (m.s.gn+1) (flat 5 (Fx.KL (fun l=>jf (m.g l)) (jf (oI v)) m.s.gn m.s.gn)):=(ho1.congr (fun j hj=>(Fx.yQ j hj).trans (bK (fun i L q _=>Fx.yR i L q) j hj)));have b15:Below B w BZ:=zA b14 hg1 (m_ E b14.size) (fun q hq=>(uD.ge hq).1);refine Ln ⟨oq,?_⟩;refine aY (pt p)<|aY (pt p)<|aY (pf p 19)<|gQ<|ji tQ 19 (bM C (m.s.gn+1) A) fun FK ze Ba z6 => ?_;have uq:=fP Ba tQ.ty;have⟨xL,F6,Hg,Db,Dc,Ey,Ez⟩:=TG uq Am Da Bd Ao Bf Ce xK;have b16:=Ba.below b15 (m_ E b15.size) (by omega);refine Ln<|bT<|A9 (fun f F => ∃ k:Nat,k<=m.s.gn/\k=down (fun i=>CG v (m.g i)) m.s.gn/\f 0=(pt p)/\f 3=(pt G)/\f 10=(pt Q)/\f 11=au (k:Int)/\aQ F m.tb 1 (fun _ => .slice m.ta m.tn m.tc) 156/\Fx.Own F B 153 2 (.slice m.ta (m.tn) (m.tc)) m.tn (Rm m.t)/\xG F B 6 m/\aQ F G 14 (bI v) 37/\Fx.Own F B 84 56 (.slice m.s.na (m.s.nn) (m.s.nc)) m.s.nn (flat 56 (fun l=>mW (m.id l) (m.par l) (Rk l)))/\aQ F Q 5 (jf (oI v)) 106/\aQ F p 27 (dJ (nk m) 19 (bM C (m.s.gn+1) A)) 56/\Fx.Own F B 106 5 (bM C (m.s.gn+1) A) (m.s.gn+1) (flat 5 (Fx.KL (fun l=>jf (m.g l)) (jf (oI v)) m.s.gn k))/\Below B w F) ?_ ?_
 ·refine Wb<|Wo (fun f F => ∃ k:Nat,k<=m.s.gn/\(∀ i,k<=i->i<m.s.gn->CG v (m.g i)=true)/\f 0=(pt p)/\f 3=(pt G)/\f 10=(pt Q)/\f 11=au (k:Int)/\aQ F m.tb 1 (fun _ => .slice m.ta m.tn m.tc) 156/\Fx.Own F B 153 2 (.slice m.ta (m.tn) (m.tc)) m.tn (Rm m.t)/\xG F B 6 m/\aQ F G 14 (bI v) 37/\Fx.Own F B 84 56 (.slice m.s.na (m.s.nn) (m.s.nc)) m.s.nn (flat 56 (fun l=>mW (m.id l) (m.par l) (Rk l)))/\aQ F Q 5 (jf (oI v)) 106/\aQ F p 27 (dJ (nk m) 19 (bM C (m.s.gn+1) A)) 56/\Fx.Own F B 106 5 (bM C (m.s.gn+1) A) (m.s.gn+1) (flat 5 (Fx.KL (fun l=>jf (m.g l)) (jf (oI v)) m.s.gn k))/\Below B w F) (fun f _=>(intOf (f 11)).toNat) ⟨m.s.gn,by omega,(fun i Z O=>N_ Z (by omega)),Z,O,(by rfl),Fx.ic,xL,F6,Hg,Db,Dc,Ey,ze,Ez,b16⟩ ?_;rintro f3 I ⟨k,hk,hgt,P,h6,h7,J,Bg,Df,Bh,Dl,Dh,zf,Bj,yG,b17⟩;refine Ws<|Ws ?_;refine Af<|eT J ?_;by_cases c97:0<(k:Int)
  ·obtain⟨j,ej⟩ : ∃ j,k=j+1:=⟨k-1,by omega⟩;refine Qv aG (fun d b=>nA c97)<|aX aG<|eT P<|aX (pt p)<|aX (pt p)<|aX (pf p 19)<|Qv (bM C (m.s.gn+1) A) (fun d b=>aM (Bj.aH.dr b) 19 (Fx.lU (by omega)))<|eT J<|Qv (au j) (fun d b=>gP)<|Qv (pf C (5*j)) (fun d b=>dB 5)<|aX (pf C (5*j))<|Qv (au ((m.g j) 0)) (fun d b=>aM (yG.aH.dr b) (5*j) (Fx.iB (k:=j) (j:=0) (by omega) (by omega) ((congrFun (Fx.Av (by omega) (by omega)) 0).trans rfl)))<|Qv (pt Q) (fun d b=>jo h7 0)<|Qv (au v.o) (fun d b=>aM (zf.aH.dr b) 0) ?_;by_cases VB:v.o<((m.g j) 0)
   ·refine Qv aG (fun d b=>nA VB)<|aX aG<|aR<|aR<|aR<|aR<|aR<|aR<|aR<|aR<|aR<|aR<|aR<|aR<|aR<|aR<|aR<|aR<|aR<|aR<|aR<|aR<|aR<|aR<|aR ?_;refine aR<|aR<|aR<|aR<|aR<|aX aG<|aX aG<|Qn ?_;rintro _ ⟨N,rfl⟩;obtain⟨Et,pY⟩ : ∃ d,d=World.drewN I N:=⟨_,rfl⟩;rw[<- pY];have s15:Stp I.heap.size I Et:=(by rw[pY]; exact Sb (jX I N));have⟨Di,NH,JZ,JQ,JR,NU,JU,Vp⟩:=mO s15.old Bg Df Bh Dl Dh zf Bj yG;have b18:=fA s15.old b17 E;clear pY;refine sN<|aN<|Wk<|sN<|Wb<|Ws ?_;refine jY [0,1,2,3,5,6,7,8,9,11,12,4,10,13,14,15,16] [0,0,0,0,4,0,0,0,0,0,4,0,0,0,4,0,3] [(16,4,[4]),(16,10,[10]),(16,14,[14])] fun wt4 rP Ii => ?_;have⟨NI,Lx,NJ,NK,Vq,Vr,VD,LA⟩:=mO rP Di NH JZ JQ JR NU JU Vp;have b19:=fA rP b18 E;refine bX P<|aY (pt p)<|aY (pt p)<|aY (pf p 19)<|bX J<|bX P<|aY (pt p)<|aY (pt p)<|aY (pf p 19)<|bX J<|Rp (au j) (fun _=>gP)<|Rs (bM C (m.s.gn+1) A) (aM VD.aH 19 (Fx.lU (by omega))) ?_;refine Rs (bM C (m.s.gn+1) A) (aM VD.aH 19 (Fx.lU (by omega))) ?_;refine Rp (pf C (5*j)) (fun _=>dB 5)<|Rs (.agg (aA 5 (jf (m.g j)))) (fM LA.aH (5*j) (fun X hjq=>(Fx.kU (k:=j) (by omega) hjq).trans (congrFun (Fx.Av (by omega) (by omega)) X))) ?_;refine Rp (pf C (5*k)) (fun _=>dB 5)<|gQ<|AY LA (5*k) (h1:=(fun j _=>sD _ j)) fun JE Vs Ih z7 => ?_;have uV:=fP Ih LA.KJ;have⟨Zg,Rv,Vt,Vu,aeo⟩:=qA uV NI Lx NJ NK Vq;have VE:=Vr.cu Ih (by omega);have VF:=jh uV VD;have b20:=Ih.below b19 (m_ E b19.size) LA.blk.1;have aep:Fx.Own JE B 106 5 (bM C (m.s.gn+1) A) (m.s.gn+1) (flat 5 (Fx.KL (fun l=>jf (m.g l)) (jf (oI v)) m.s.gn j)):=Vs.congr (fun U S=>(Fx.vM (k:=k) (by omega) U S).trans (bK (fun i L q _=>Fx.zD ej (by omega) i L q) U S));refine Ln<|bT<|Wl<|aU J<|Lv (au j) gP<|av (au j)<|Ln<|bU<|iH ⟨j,by omega,(LK ej hgt (by unfold CG; rw[f_ VB]; rfl)),P,h6,h7,Fx.ic,Zg,Rv,Vt,Vu,aeo,VE,VF,aep,b20⟩ ?_;show(intOf (au j)).toNat<_;simp only[J,intOf]; omega
   refine Qv aF (fun d b=>nC VB)<|aX aF<|eT P<|aX (pt p)<|aX (pt p)<|aX (pf p 19)<|Qv (bM C (m.s.gn+1) A) (fun d b=>aM (Bj.aH.dr b) 19 (Fx.lU (by omega)))<|eT J<|Qv (au j) (fun d b=>gP)<|Qv (pf C (5*j)) (fun d b=>dB 5)<|aX (pf C (5*j))<|Qv (au ((m.g j) 0)) (fun d b=>aM (yG.aH.dr b) (5*j) (Fx.iB (k:=j) (j:=0) (by omega) (by omega) ((congrFun (Fx.Av (by omega) (by omega)) 0).trans rfl)))<|Qv (pt Q) (fun d b=>jo h7 0)<|Qv (au v.o) (fun d b=>aM (zf.aH.dr b) 0) ?_;by_cases Zp:((m.g j) 0)=v.o
   ·refine Qv aG (fun d b=>dZ Zp)<|aX aG<|eT P<|aX (pt p)<|aX (pt p)<|aX (pf p 19)<|Qv (bM C (m.s.gn+1) A) (fun d b=>aM (Bj.aH.dr b) 19 (Fx.lU (by omega)))<|eT J<|Qv (au j) (fun d b=>gP)<|Qv (pf C (5*j)) (fun d b=>dB 5)<|aX (pf C (5*j+1))<|Qv (aC ((m.g j) 1)) (fun d b=>aM (yG.aH.dr b) (5*j+1) (Fx.iB (k:=j) (j:=1) (by omega) (by omega) ((congrFun (Fx.Av (by omega) (by omega)) 1).trans rfl)))<|Qv (pf Q 1) (fun d b=>jo h7 1)<|Qv (aC v.req) (fun d b=>aM (zf.aH.dr b) 1) ?_;by_cases c139:v.req<((m.g j) 1)
    ·refine Qv aG (fun d b=>nA c139)<|aX aG<|aX aG<|aX aG<|Qn ?_;rintro _ ⟨N,rfl⟩;obtain⟨wq2,xH⟩ : ∃ d,d=World.drewN I N:=⟨_,rfl⟩;rw[<- xH];have Ir:Stp I.heap.size I wq2:=(by rw[xH]; exact Sb (jX I N));have⟨Zq,Zr,VG,VH,VI,VJ,aer,aes⟩:=mO Ir.old Bg Df Bh Dl Dh zf Bj yG;have M7:=fA Ir.old b17 E;clear xH;refine sN<|aN<|Wk<|sN<|Wb<|Ws ?_;refine jY [0,1,2,3,5,6,7,8,9,11,12,4,10,13,14,15,16] [0,0,0,0,4,0,0,0,0,0,4,0,0,0,4,0,3] [(16,4,[4]),(16,10,[10]),(16,14,[14])] fun wt5 AA Uk => ?_;have⟨aov,aow,aeu,aev,aew,aex,VK,VL⟩:=mO AA Zq Zr VG VH VI VJ aer aes;have JD:=fA AA M7 E;refine bX P<|aY (pt p)<|aY (pt p)<|aY (pf p 19)<|bX J<|bX P<|aY (pt p)<|aY (pt p)<|aY (pf p 19)<|bX J<|Rp (au j) (fun _=>gP)<|Rs (bM C (m.s.gn+1) A) (aM VK.aH 19 (Fx.lU (by omega))) ?_;refine Rs (bM C (m.s.gn+1) A) (aM VK.aH 19 (Fx.lU (by omega))) ?_;refine Rp (pf C (5*j)) (fun _=>dB 5)<|Rs (.agg (aA 5 (jf (m.g j)))) (fM VL.aH (5*j) (fun X hjq=>(Fx.kU (k:=j) (by omega) hjq).trans (congrFun (Fx.Av (by omega) (by omega)) X))) ?_;refine Rp (pf C (5*k)) (fun _=>dB 5)<|gQ<|AY VL (5*k) (h1:=(fun j _=>sD _ j)) fun w16 aey s20 z8 => ?_;have vT:=fP s20 VL.KJ;have⟨aez,aox,aoy,aiN,aiO⟩:=qA vT aov aow aeu aev aew;have aiP:=aex.cu s20 (by omega);have aeA:=jh vT VK;have SH:=s20.below JD (m_ E JD.size) VL.blk.1;have VN:Fx.Own w16 B 106 5 (bM C (m.s.gn+1) A) (m.s.gn+1) (flat 5 (Fx.KL (fun l=>jf (m.g l)) (jf (oI v)) m.s.gn j)):=aey.congr (fun U S=>(Fx.vM (k:=k) (by omega) U S).trans (bK (fun i L q _=>Fx.zD ej (by omega) i L q) U S));refine Ln<|bT<|Wl<|aU J<|Lv (au j) gP<|av (au j)<|Ln<|bU<|iH ⟨j,by omega,(LK ej hgt (by unfold CG; rw[f_ Zp,f_ c139]; cases decide (v.o<m.g j 0) <;> rfl)),P,h6,h7,Fx.ic,aez,aox,aoy,aiN,aiO,aiP,aeA,VN,SH⟩ ?_
     show(intOf (au j)).toNat<_;simp only[J,intOf]; omega
    refine Qv aF (fun d b=>nC c139)<|aX aF<|aX aF<|aX aF<|Qn ?_;rintro _ ⟨N,rfl⟩;obtain⟨wq3,F7⟩ : ∃ d,d=World.drewN I N:=⟨_,rfl⟩;rw[<- F7];have s21:Stp I.heap.size I wq3:=(by rw[F7]; exact Sb (jX I N));have⟨aeB,aeC,VO,Zt,Zu,Zv,Zw,aeD⟩:=mO s21.old Bg Df Bh Dl Dh zf Bj yG;have Pg:=fA s21.old b17 E;clear F7;refine sN<|aK<|Wx<|cZ<|gZ<|dh ?_;exact qR ⟨k,hk,(Fx.qo hk hgt (.inr (fun j2 e=>by rw[show j2=j by omega]; unfold CG; rw[g_ VB,g_ c139,J_]; rfl))),P,h6,h7,(J.trans Fx.ic),aeB,aeC,VO,Zt,Zu,Zv,Zw,aeD,Pg⟩
   refine Qv aF (fun d b=>fB Zp)<|aX aF<|aR<|aR<|aR<|aR<|aR<|aR<|aR<|aR<|aR<|aR<|aR<|aR<|aR<|aX aF<|aX aF<|aX aF<|Qn ?_;rintro _ ⟨N,rfl⟩;obtain⟨wq4,F8⟩ : ∃ d,d=World.drewN I N:=⟨_,rfl⟩;rw[<- F8];have Zx:Stp I.heap.size I wq4:=(by rw[F8]; exact Sb (jX I N));have⟨aeE,aeF,aeG,aeH,aeI,aeJ,aoz,aoA⟩:=mO Zx.old Bg Df Bh Dl Dh zf Bj yG;have b25:=fA Zx.old b17 E;clear F8;refine sN<|aK<|Wx<|cZ<|gZ<|dh ?_;exact qR ⟨k,hk,(Fx.qo hk hgt (.inr (fun j2 e=>by rw[show j2=j by omega]; unfold CG; rw[g_ VB,g_ Zp]; rfl))),P,h6,h7,(J.trans Fx.ic),aeE,aeF,aeG,aeH,aeI,aeJ,aoz,aoA,b25⟩
  refine Qv aF (fun d b=>nC c97)<|aX aF<|aR<|aR<|aR<|aR<|aR<|aR<|aR<|aR<|aR<|aR<|aR<|aR<|aR<|aR<|aR<|aR<|aR<|aR<|aR<|aR<|aR<|aR<|aR ?_;refine aR<|aR<|aR<|aR<|aR<|aR<|aR<|aR<|aR<|aR<|aR<|aR<|aR<|aR<|aR<|aR<|aR<|aR<|aR<|aR<|aX aF<|Qn ?_;rintro _ ⟨N,rfl⟩;obtain⟨wq5,NV⟩ : ∃ d,d=World.drewN I N:=⟨_,rfl⟩;rw[<- NV];have s23:Stp I.heap.size I wq5:=by rw[NV]; exact Sb (jX I N)
  have⟨aoB,aoC,aoD,aoE,aoF,aoG,aoH,aoI⟩:=mO s23.old Bg Df Bh Dl Dh zf Bj yG;have YN:=fA s23.old b17 E;clear NV;refine sN<|aK<|Wx<|cZ<|gZ<|dh ?_;exact qR ⟨k,hk,(Fx.qo hk hgt (.inl (by omega))),P,h6,h7,(J.trans Fx.ic),aoB,aoC,aoD,aoE,aoF,aoG,aoH,aoI,YN⟩
 rintro f4 Ph ⟨k,hk,ek,h9,h10,h11,h12,aoJ,aoK,aoL,aoM,aoN,aoO,aoP,aoQ,YO⟩;refine Ws ?_;refine jY [0,1,2,3,5,4,6,7,8] [0,0,0,0,4,0,4,0,3] [(8,4,[4]),(8,6,[6])] fun wt6 K7 ahZ => ?_;have⟨aoR,aoS,aoT,aoU,aoV,aiQ,aiR,aeL⟩:=mO K7 aoJ aoK aoL aoM aoN aoO aoP aoQ;have Yj:=fA K7 YO E;refine bX h9<|aY (pt p)<|aY (pt p)<|aY (pf p 19)<|bX h12<|Rs (bM C (m.s.gn+1) A) (aM aiR.aH 19 (Fx.lU (by omega))) ?_;refine Rs (.agg (aA 5 (jf (oI v)))) (fM aiQ.aH 0 (ha:=h11)) ?_;refine Rp (pf C (5*k)) (fun _=>dB 5)<|gQ<|AY aeL (5*k) (h1:=(fun j _=>sD _ j)) fun Un aoW Yk z9 => ?_;have Ak:=fP Yk aeL.KJ;have⟨aoX,aoY,aiS,aoZ,apa⟩:=qA Ak aoR aoS aoT aoU aoV;have apb:=aiQ.cu Yk (by omega);have apc:=jh Ak aiR;have b29:=Yk.below Yj (m_ E Yj.size) aeL.blk.1;have apd:Fx.Own Un B 106 5 (bM C (m.s.gn+1) A) (m.s.gn+1) (flat 5 (Fx.Jt (fun l=>jf (m.g l)) k (jf (oI v)))):=aoW.congr (fun U S=>(Fx.vM (k:=k) (by omega) U S).trans (bK (fun i L q _=>Fx.uH (by omega) i L q) U S));refine Ln<|bT<|Ws ?_;have ape:Fx.Own Un B 23 1 (.slice (m.ra a) (m.rn a) (m.rc a)) (m.rn a) (rv .u64 (m.rq a)):=aiS.1 a ha;have bra:=M.br a ha;refine Ad [0,1,4,5,8,9,12,16,17,2,3,6,7,10,11,13,14,15,18,19] [0,0,1,0,0,0,1,0,0,0,0,1,0,4,2,2,0,0,0,3] (jg [23]) vN Fx.jg.trans (fJ := [(19,2,[2]),(19,6,[6]),(19,11,[11]),(14,13,[13]),(15,13,[14,13]),(19,13,[13]),(15,14,[14]),(18,14,[14]),(19,14,[14]),(18,15,[15]),(19,15,[15])]) (by kernel_rfl) (by kernel_rfl) (by kernel_rfl) (by kernel_rfl) (by kernel_rfl) fun wt7 K8 aic => ?_;have⟨aiT,apf,apg,Zy,aph,apj,aeM,aiU,aiV⟩:=CO K8 aoX aoY aiS aoZ apa apb apc apd ape;have b30:=fA K8 b29 E;refine bX h9<|Rp (pt G) (fun _=>jo h10 0)<|bX h9<|Rp (pt G) (fun _=>jo h10 0)<|aY (pt p)<|aY (pf p 21)<|Rp (pf G 12) (fun _=>jo h10 12)<|aY (pt p)<|aY (pf p 21)<|Rd (v:=au v.o) (by rfl) (by rfl) (vN _) (fun d b=>bf (x:=bI v) rfl rfl (by kernel_rfl) (Zy.kV b (by decide)).aH (i:=0) (by omega) (by omega) rfl) ?_;refine Rp (au a) (fun _=>gP)<|Rd (v:=au v.o) (by rfl) (by rfl) (vN _) (fun d b=>bf (x:=bI v) rfl rfl (by kernel_rfl) (Zy.kV b (by decide)).aH (i:=0) (by omega) (by omega) rfl) ?_;refine Rp (au a) (fun _=>gP)<|Rp (pf p (a+21)) (fun _=>jD 6 1)<|Rd (v := .slice (m.ra a) (m.rn a) (m.rc a)) (by rfl) (by rfl) (vN _) (fun d b=>bf (x:=dJ (nk m) 19 (bM C (m.s.gn+1) A)) rfl rfl (by kernel_rfl) (aeM.kV b (by decide)).aH (i:=a+21) (by omega) (by omega) (Fx.BJ (by omega) (xE _ (by omega)))) ?_;refine Rs (aC v.req) (aM Zy.aH 12) ?_;refine zG<|yP (vs := [(0,aC v.req)]) (s:=1) (zc:=rv .u64 (fun _=>0)) (y:=bG (fun j=>(rv .u64 (fun _=>0)) (j % 1)) (0*1) 1 (fun _=>aC v.req)) (by rfl) rfl rfl Tryz.underlying53 (by kernel_rfl) (by rfl) (by rfl) (by kernel_rfl) (by rw[bE (off:=0*1) (s:=1) (y:=fun _=>aC v.req) rfl (cells_one (by rfl)) (by rfl)]; rfl) rfl fun g6 w19 Yn aiW s27 YP => ?_;have⟨apk,apl,apm,apn,apo,apq,aeN⟩:=jJ s27.old aiT apf apg aph aeM aiU aiV;have YQ:=fA s27.old b30 E;have lg6:=iK Yn b30.size;have⟨alA,alB,alC,alD,alE⟩:=Ag Yn aiT.lt Zy.lt apj.lt aeM.lt aiU.lt;have alF:(.slice (m.ra a) (m.rn a) (m.rc a):Value).ownBlock≠some g6:=by rw[Yn]; exact aiV.kM (A_ _)
 have tg6:=aiW.lt;refine Ln ⟨Fx.jg.of_below s27.old,?_⟩;refine zG<|zB (B:=B) (s:=1) (bytes:=8) (k:=(m.rn a)) (m:=1) (v := .slice (m.ra a) (m.rn a) (m.rc a)) (x:=rv .u64 (m.rq a)) (by rfl) rfl rfl rfl Tryz.underlying53 (by kernel_rfl) (by kernel_rfl) rfl rfl aeN aiW.aH (zP (fun _=>rfl)) (by omega) (by omega) (by omega) (m_ E YQ.size) fun g7 cap2 Q7 ho2 hg2 NG hlt2 => ?_;have Cb:=zC hg2 aeN;have⟨apr,aps,apt,aiX,apu⟩:=qA Cb apk apl apn apo apq;have apv:Fx.Own Q7 B 23 1 (.slice (some ⟨g7,0,none⟩) ((m.rn a)+1) cap2) ((m.rn a)+1) (rv .u64 (aI (m.rq a) (m.rn a) v.req)):=(ho2.congr (fun j hj=>PL j hj));have b32:Below B w Q7:=zA YQ hg2 (m_ E YQ.size) (fun q hq=>(aeN.ge hq).1);have apw:xG Q7 B 6 { m with ra:=aI m.ra a (some ⟨g7,0,none⟩),rn:=aI m.rn a (m.rn a+1),rc:=aI m.rc a cap2,rq:=aI m.rq a (aI (m.rq a) (m.rn a) v.req) }:=xG.app apm ha rfl rfl rfl rfl apv hg2 NG;refine Ln ⟨Cb,?_⟩;refine Rp (pf p (a+21)) (fun _=>jD 6 1)<|gQ<|ji aiX (a+21) (.slice (some ⟨g7,0,none⟩) ((m.rn a)+1) (cap2)) fun w21 apx s28 z11 => ?_;have RF:=fP s28 aiX.ty;have⟨apy,apz,apA,apB,apC⟩:=qA RF apr aps apt apu apw;have b33:=s28.below b32 (m_ E b32.size) (by omega);refine Ln<|bT<|ay<|av (au 0)<|aD<|Wr<|aJ (au 0) ?_;have eN:aP v=a:=by unfold aP; omega
 have ne1 : ¬ 0<=m.core.kg (aP v) v.req:=by rw[eN]; exact j_ c17
 have ne2 : ¬ bO m.core.t m.core.tn v.node=0:=fun e=>c27 (by rw[show K=0 from Ym.trans e]; rfl);have ew:nH m.core v=dz (fun x=>bF x v.o v.aT) (pz m.core v.node) m.R K:=by unfold nH; rw[show bO m.core.t m.core.tn v.node=K from Ym.symm]; rfl
 have V:iP m.core v=0:=by unfold iP; rw[b_ ne1,b_ ne2,ew,hRK]
 have eW:nH m.core v=(Rk,0):=ew.trans hRK;have apD:Fx.Own w21 B 106 5 (bM C (m.s.gn+1) A) (m.s.gn+1) (flat 5 fun l=>jf (cK m.g k (oI v) l)):=by rw[<- Zh]; exact apB
 refine⟨pR V.symm,b33,fun _=>⟨{ m with s := { m.s with ga:=some ⟨C,0,none⟩,gn:=m.s.gn+1,gc:=A },R:=Rk,g:=cK m.g k (oI v),ra:=aI m.ra a (some ⟨g7,0,none⟩),rn:=aI m.rn a (m.rn a+1),rc:=aI m.rc a cap2,rq:=aI m.rq a (aI (m.rq a) (m.rn a) v.req) },?_,?_⟩⟩
 ·unfold gJ rO; rw[eW,eN]; rw[show down (fun i=>CG v (m.core.g i)) m.core.gn=k from ek.symm]; rfl
 exact { c:=apx.to ((M_ (fun z=>dJ z (a+21) _) (NP m _ _ _)).trans (LC _ rfl _ _ _)),n:=apA,g:=apD,tc:=apy,t:=apz,r:=apC,pB:=Vo,tB:=Ew,bn:=bn,bg:=(by show m.s.gn+1<=1000000; omega),bt:=bt,br:=(fun i L=>by show aI m.rn a (m.rn a+1) i<=1000000; have:=brr i L; have:=brr a ha; unfold aI; split <;> omega) }
namespace Rt
def wN(L:eF)(v:EvM):Nat:=(L.grant v.o v.of).toNat
def mJ(L:eF)(v:EvM):(Nat->Nat->Int) × Int:=dz (fun x=>bH x v.o (L.g (wN L v) 3)) (pz L (L.g (wN L v) 2)) L.R (bO L.t L.tn (L.g (wN L v) 2))
def gW(L:eF)(v:EvM):Int:=if 0<=L.kg (aP v) v.req then 14 else if L.grant v.o v.of<0\/L.g (wN L v) 4≠0 then 12 else(mJ L v).2
def eY(L:eF)(v:EvM):eF:=rO { L with R:=(mJ L v).1,g:=aI L.g (wN L v) (aI (L.g (wN L v)) 4 v.req) } (aP v) v.req
theorem VP{m:lZ}{o r:Int}(h : ¬ m.grant o r<0) : ∃ q:Nat,q<m.s.gn/\m.grant o r=(q:Int)/\m.g q 0=o/\m.g q 1=r:=by
 rcases gu (fun i=>decide (m.g i 0=o)&&decide (m.g i 1=r)) m.s.gn with ⟨q,b,e,a⟩|⟨e,_⟩
 ·rw[T_]at a;exact⟨q,b,e,h_ a.1,h_ a.2⟩
 unfold lZ.grant at h; omega
theorem RG{n q:Nat}{g:Nat->Nat->Int}{r:Int} : ∀ i,i<n -> ∀ j,j<5->Fx.rY (fun a=>jf (g a)) q (dJ (jf (g q)) 4 (aC r)) i j=jf (aI g q (aI (g q) 4 r) i) j:=fun i _ j b=>by
 unfold Fx.rY;by_cases h:i=q
 ·subst h;rw[d_ rfl];unfold aI dJ jf;rw[d_ rfl]
  rcases j with _|_|_|_|_|j <;> first|rfl|omega
 ·rw[b_ h]; unfold aI; rw[b_ h]
end Rt
set_option maxRecDepth 20000 in
set_option maxHeartbeats 2000000 in
theorem Zz(m:lZ)(B p a:Nat)(v:EvM)(w:World)(F:wM w B p m)(A:B<=w.heap.size)(ha:a<6)(ho:v.o=(a:Int)+1)(bgg:m.s.gn<=900000)(brr : ∀ i,i<6->m.rn i<=900000)(hTN : ∀ x,m.node x=bC m.t m.tn x)(hDx : ∀ x,∃ D,D<=1000/\bC m.t m.tn (aZ m.t m.tn D x)<0) :
 Calls Tryz.prog 126 #[(pt p),.agg (aA 14 (bI v))] w fun e w'=>e = .returned (au (gW m.core v))/\Below B w w'/\(gW m.core v=0 -> ∃ m',m'.core=eY m.core v/\wM w' B p m'):=by
 have Vl:=F.c;have hLn:=F.n;have hLg:=F.g;have Vm:=F.tc;have Vn:=F.t;have hLr:=F.r;have Vo:=F.pB;have Ew:=F.tB;have bn:=F.bn;have bg:=F.bg;have bt:=F.bt;have lpp:p<w.heap.size:=Vl.lt;have SE:m.tb<w.heap.size:=Vm.lt;refine Kent Tryz.func126 128 ?_;refine ay<|pO fun E w1 ku m1 s1 z1 => ?_;have⟨m2,m3,m4,m5,m6,m7⟩:=rz s1.old Vl hLn hLg Vm Vn hLr;have b1:=fA s1.old (Below.refl B w) A;have tC:=iK ku (Below.refl B w).size;have⟨nK,yx⟩:=rD ku Vl.lt Vm.lt;have uK:=m1.lt;refine av (au 0)<|aD<|Ws<|ay<|av (pt p)<|av (pt E)<|Lv (au v.o) (aM m1.aH 0)<|av (pf E 12)<|Lv (aC v.req) (aM m1.aH 12) ?_;have NS:DX w1 p m := { c:=m2.aH,an:=m3.arr,ag:=m4.arr,tc:=m5.aH,at2:=m6.arr,ar:=fun i J=>(m7.1 i J).arr,bn:=(by show m.s.nn<=1000000; omega),bg:=bg,bt:=(by show m.tn<=1000000; omega),br:=F.br };by_cases S:(decide (0<=m.kg a v.req))=true
 ·refine dX (Ch m p a v.o v.req _ NS ha ho) aG (by rw[S]) ?_;intro w2 hb1;have b2:=fA hb1 b1 A;refine aD<|aN<|ay<|av (au 14)<|aD<|Wr<|sR<|aJ (au 14) ?_;have L:aP v=a:=by unfold aP; omega
  have H:gW m.core v=14:=by unfold gW; rw[L]; exact d_ (h_ S)
  exact⟨pR H.symm,b2,fun M=>by rw[H]at M; cases M⟩
 rw[U_]at S;refine dX (Ch m p a v.o v.req _ NS ha ho) aF (by rw[S]) ?_;intro w3 hb2;have⟨m15,m16,m17,m18,m19,m20,m21⟩:=jJ hb2 m2 m3 m4 m5 m6 m7 m1;have b3:=fA hb2 b1 A;refine aD<|aK<|Wk<|sN<|ay<|av (pt p)<|av (pt E)<|Lv (au v.o) (aM m21.aH 0)<|av (pf E 13)<|Lv (aC v.of) (aM m21.aH 13) ?_;have VA:DX w3 p m := { c:=m15.aH,an:=m16.arr,ag:=m17.arr,tc:=m18.aH,at2:=m19.arr,ar:=fun i J=>(m20.1 i J).arr,bn:=(by show m.s.nn<=1000000; omega),bg:=bg,bt:=(by show m.tn<=1000000; omega),br:=F.br };refine dX (Y4 m p v.o v.of _ VA) _ rfl ?_;intro w4 hb3;have⟨m22,m23,m24,nW,oN,pU,pV⟩:=jJ hb3 m15 m16 m17 m18 m19 m20 m21;have b4:=fA hb3 b3 A;refine av (au (m.grant v.o v.of))<|aD<|Ws<|ay<|av (au (m.grant v.o v.of)) ?_;by_cases aa:(m.grant v.o v.of)<0
 ·refine Lv aG (iD aa)<|av aG<|bS<|bS<|bS<|bS<|bS<|bS<|bS<|bS<|bS<|bS<|av aG<|aD<|aN<|ay<|av (au 12)<|aD<|Wr<|sR<|aJ (au 12) ?_;have L:aP v=a:=by unfold aP; omega
  have Y : ¬ 0<=m.core.kg (aP v) v.req:=by rw[L]; exact j_ S
  have H:gW m.core v=12:=by unfold gW; rw[b_ Y]; exact d_ (.inl aa)
  exact⟨pR H.symm,b4,fun M=>by rw[H]at M; cases M⟩
 obtain⟨b,hkg,ekg,_,_⟩:=VP aa;have ab:wN m.core v=b:=by show(m.grant v.o v.of).toNat=b; rw[ekg]; rfl
 refine Lv aF (iE aa)<|av aF<|av (pt p)<|av (pt p)<|av (pt p)<|av (pf p 19)<|Lv (.slice m.s.ga (m.s.gn) (m.s.gc)) (aM m22.aH 19)<|aU (M_ (Value.int .i64) ekg) ?_;obtain⟨af,eq1⟩:=m24.addr (by omega);have nX:Fx.Own w4 B 106 5 (bM af m.s.gn m.s.gc) m.s.gn (JL m):=m24.fu (M_ (fun q=>Value.slice q m.s.gn m.s.gc) eq1);refine Lv (pf af (5*b)) (dB 5 (hx:=(rfl.trans (M_ (fun q=>Value.slice q (m.s.gn) (m.s.gc)) eq1))))<|av (pf af (5*b+4))<|Lv (aC ((m.g b) 4)) (aM nX.aH (5*b+4) (Fx.iB (k:=b) (j:=4) (by omega) (by omega) rfl)) ?_;by_cases ae:((m.g b) 4)=0
 ·refine Lv aF (jR ae)<|av aF<|aD<|aK<|Wk<|sN<|Ws ?_;obtain⟨D,hD2,hD⟩:=hDx (m.g b 2);refine jY [0,1,2,4,5,6,7,9,3,8,10,11,12,13,14] [0,0,0,4,0,0,0,0,4,0,0,0,4,3,0] [(13,3,[3]),(13,8,[12,11,10,8]),(13,12,[12]),(14,13,[13])] fun qU dU iC => ?_;have⟨ou,lu,m32,oQ,nL,oO,nT⟩:=jJ dU m22 m23 nW oN pU pV nX;have b5:=fA dU b4 A;refine aY (pt p)<|aY (pt p)<|aY (pf p 20)<|aY (pt p)<|aY (pt p)<|aY (pt p)<|aY (pf p 19)<|bX (M_ (Value.int .i64) ekg)<|Rs (pt m.tb) (aM ou.aH 20) ?_;refine Rs (.slice m.s.ga (m.s.gn) (m.s.gc)) (aM ou.aH 19) ?_;refine Rp (pf af (5*b)) (fun _=>dB 5 (hx:=(rfl.trans (M_ (fun q=>Value.slice q (m.s.gn) (m.s.gc)) eq1))))<|aY (pf af (5*b+2))<|Rs (aC ((m.g b) 2)) (aM nT.aH (5*b+2) (Fx.iB (k:=b) (j:=2) (by omega) (by omega) rfl)) ?_;refine gQ<|kF (JN m.tb m.ta m.tn m.tc m.t (m.g b 2) D _ (uQ m32 oQ bt) hD hD2) ?_;rintro e w5 ⟨K,vv,he,hown,tF,hK1,hb4⟩;obtain⟨Z,C,rfl⟩:=hown.val;refine⟨.slice Z K C,he,?_⟩;clear he;have Ym:K=bO m.t m.tn (m.g b 2):=wo tF hK1 hD hD2;have hKD:K<=1000:=by rw[Ym]; exact EU _ _
  have⟨qV,qB,pE,sJ,mK,ni,mR⟩:=jJ hb4 ou lu m32 oQ nL oO nT;have b6:=fA hb4 b5 A;refine Ln<|aY (.slice Z (K) (C))<|bT<|Ws<|ay<|av (au 0)<|aD<|Wb ?_;have qw:Fx.Own w5 B 106 5 (.slice m.s.ga (m.s.gn) (m.s.gc)) m.s.gn (JL m):=mR.fu (M_ (fun q=>Value.slice q m.s.gn m.s.gc) eq1.symm);refine Wo (fun f Q => ∃ k:Nat,∃ Rk:Nat->Nat->Int,k<=K/\dz (fun x=>bH x v.o (m.g b 3)) (pz m.core (m.g b 2)) m.R k=(Rk,0)/\f 0=(pt p)/\f 3=(pt E)/\f 6 = .slice Z (K) (C)/\f 7=au (k:Int)/\f 5=au (b:Int)/\aQ Q p 27 (nk m) 56/\aQ Q m.tb 1 (fun _ => .slice m.ta m.tn m.tc) 156/\Fx.Own Q B 153 2 (.slice m.ta (m.tn) (m.tc)) m.tn (Rm m.t)/\xG Q B 6 m/\aQ Q E 14 (bI v) 37/\Fx.Own Q B 106 5 (.slice m.s.ga (m.s.gn) (m.s.gc)) m.s.gn (JL m)/\Fx.Own Q qU.heap.size 23 1 (.slice Z (K) (C)) K (rv .u64 (fun i=>aZ m.t m.tn i (m.g b 2)))/\Fx.Own Q B 84 56 (.slice m.s.na (m.s.nn) (m.s.nc)) m.s.nn (flat 56 (fun l=>mW (m.id l) (m.par l) (Rk l)))/\Below B w Q) (fun f _=>(K-(intOf (f 7)).toNat)) ⟨0,m.R,by omega,rfl,(by rfl),(by rfl),(by rfl),Fx.ic,((M_ (Value.int .i64) ekg).trans Fx.ic),qV,pE,sJ,mK,ni,qw,hown,qB,b6⟩ ?_;rintro f1 w6 ⟨k,Rk,hk,hRk,W,O,h3,h4,h5,qW,ow,sK,vE,sM,rQ,uM,uw,b7⟩;refine Ws<|ay<|aU h4<|aU h3<|av (au K) ?_;by_cases c54:(k:Int)<(K:Int)
  ·refine Lv aG (iD c54)<|aD<|aN<|Wk<|sN<|Ws<|Wb<|Ws ?_;obtain⟨q,hq,eq0,_⟩:=EW (m:=m) (x:=aZ m.t m.tn k (m.g b 2)) (by rw[hTN]; exact tF k (by omega));have ex1:pz m.core (m.g b 2) k=q:=(by show(gV (fun i=>decide (m.id i=aZ m.t m.tn k (m.g b 2))) m.s.nn).toNat=q; rw[eq0]; rfl);refine Wl<|aU W<|aU h3<|aU h4 ?_;obtain⟨PN,JY⟩:=uM.addr (by omega);have ug:Fx.Own w6 qU.heap.size 23 1 (bM PN K C) K (rv .u64 (fun i=>aZ m.t m.tn i (m.g b 2))):=uM.fu (M_ (fun q=>Value.slice q K C) JY);refine Lv (pf PN k) (dB 1 (hx:=(rfl.trans (M_ (fun q=>Value.slice q (K) (C)) JY))))<|Lv (aC ((fun i=>aZ m.t m.tn i (m.g b 2)) k)) (aM ug.aH k) ?_;have uW:Fx.Own w6 qU.heap.size 23 1 (.slice Z (K) (C)) K (rv .u64 (fun i=>aZ m.t m.tn i (m.g b 2))):=ug.fu (M_ (fun q=>Value.slice q K C) JY.symm);have apE:DX w6 p { m with R:=Rk } := { c:=qW.aH,an:=uw.arr,ag:=rQ.arr,tc:=ow.aH,at2:=sK.arr,ar:=fun i J=>(vE.1 i J).arr,bn:=(by show m.s.nn<=1000000; omega),bg:=bg,bt:=(by show m.tn<=1000000; omega),br:=F.br };refine dX ((JM { m with R:=Rk } p (aZ m.t m.tn k (m.g b 2)) _ apE).mono (fun e w2 O=>(⟨O.1.trans (pR eq0),O.2⟩:e = .returned (au (q:Int))/\_))) _ rfl ?_;intro w7 hb5;have⟨ad,uh,rR,sw,vU,rE,uj,nY⟩:=mO hb5 qW ow sK vE sM rQ uw uW;have b8:=fA hb5 b7 A;refine av (au q)<|aD<|Ws ?_;obtain⟨N,eq3⟩:=uj.addr (by omega);have uy:Fx.Own w7 B 84 56 (bM N m.s.nn m.s.nc) m.s.nn (flat 56 (fun l=>mW (m.id l) (m.par l) (Rk l))):=uj.fu (M_ (fun q=>Value.slice q m.s.nn m.s.nc) eq3);obtain⟨ac,eq4⟩:=rE.addr (by omega);have m64:Fx.Own w7 B 106 5 (bM ac m.s.gn m.s.gc) m.s.gn (JL m):=rE.fu (M_ (fun q=>Value.slice q m.s.gn m.s.gc) eq4);refine qZ (T:=82) (T':=82) (a := .tmp 9) (v := .tmp 85) (m:=54) (z:=rv .i64 (fun _=>0)) (y:=rv .i64 ((bH (Rk q) v.o ((m.g b) 3)).1)) (u := .agg (aA 54 (rv .i64 ((bH (Rk q) v.o ((m.g b) 3)).1)))) 24 25 (List.replicate 27 (0,2,[],[])) #[(pt p),(pt p),(pt p),(pf p 18),.slice m.s.na (m.s.nn) (m.s.nc),au (q:Int),(pf N (56*q)),(pf N (56*q+2)),.agg (aA 54 (rv .i64 (Rk q))),(pt E),au v.o,(pt p),(pt p),(pt p),(pf p 19),.slice m.s.ga (m.s.gn) (m.s.gc),au (b:Int),(pf ac (5*b)),(pf ac (5*b+3)),au ((m.g b) 3),.tuple #[.agg (aA 54 (rv .i64 ((bH (Rk q) v.o ((m.g b) 3)).1))),au ((bH (Rk q) v.o ((m.g b) 3)).2)],.tuple #[.agg (aA 54 (rv .i64 ((bH (Rk q) v.o ((m.g b) 3)).1))),au ((bH (Rk q) v.o ((m.g b) 3)).2)],.agg (aA 54 (rv .i64 ((bH (Rk q) v.o ((m.g b) 3)).1))),au ((bH (Rk q) v.o ((m.g b) 3)).2),undef,undef,au ((bH (Rk q) v.o ((m.g b) 3)).2)] (by kernel_rfl) (by kernel_rfl) (by kernel_rfl) (by kernel_rfl) (by kernel_rfl) (by kernel_rfl) rfl (by kernel_rfl) rfl rfl (by kernel_rfl) (fun I=>(show ev _ (.tmp 9)=(pt I)from by kernel_rfl)) (fun I=>(show ev _ (.tmp 85) = .agg (aA 54 (rv .i64 ((bH (Rk q) v.o ((m.g b) 3)).1)))from by kernel_rfl)) (bJ _ _) (fun _ _=>rfl) (by kernel_rfl) (fun I => ?_) ?_
   ·refine⟨?_,?_,?_,?_,?_,?_,?_,?_,?_,?_,?_,?_,?_,?_,?_,?_,?_,?_,?_,?_,?_,?_,?_,?_,?_,?_,?_,trivial⟩
    ·exact .inr (.inr (uo (pt p) fun G d=>fF rfl ((bW (by kernel_rfl)).trans W)))
    ·exact .inr (.inr qQ)
    ·exact .inr (.inr qQ)
    ·exact .inr (.inr qQ)
    ·exact .inr (.inr (uo (.slice m.s.na (m.s.nn) (m.s.nc)) fun G d=>bf (x:=nk m) rfl (show ev _ (.tmp 67)=(pf p 18)from by kernel_rfl) (by kernel_rfl) (ad.aH.below d (by have:=ad.lt; omega)) (i:=18) (by omega) (by omega) rfl))
    ·exact .inr (.inr qQ)
    ·exact .inr (.inr (uo (pf N (56*q)) fun G d=>dR rfl ((show ev _ (.tmp 68) = .slice m.s.na (m.s.nn) (m.s.nc)from by kernel_rfl).trans (M_ (fun q=>Value.slice q (m.s.nn) (m.s.nc)) eq3)) (show ev _ (.tmp 69)=au (q:Int)from by kernel_rfl) Tryz.underlying47 (s:=56) (by kernel_rfl) (by omega) (by omega) (by omega)))
    ·exact .inr (.inr qQ)
    ·exact .inr (.inr (uo (.agg (aA 54 (rv .i64 (Rk q)))) fun G d=>eG (x:=flat 56 (fun l=>mW (m.id l) (m.par l) (Rk l))) (y:=rv .i64 (Rk q)) rfl (show ev _ (.tmp 71)=(pf N (56*q+2))from by kernel_rfl) (by kernel_rfl) (by kernel_rfl) (uy.aH.below d (by have:=uy.lt; omega)) (i:=56*q+2) (by omega) (by omega) (fun jq hjq=>(Fx.kU (k:=q) (j:=2+jq) (by omega) (by omega)).trans ((fun jq _=>JK _ _ _ jq) jq hjq))))
    ·exact .inr (.inr (uo (pt E) fun G d=>fO rfl ((bW (by kernel_rfl)).trans O) Tryz.underlying37 rfl (s:=1) (by kernel_rfl) rfl rfl))
    ·exact .inr (.inr (uo (au v.o) fun G d=>bf (x:=bI v) rfl (show ev _ (.tmp 73)=(pt E)from by kernel_rfl) (by kernel_rfl) (vU.aH.below d (by have:=vU.lt; omega)) (i:=0) (by omega) (by omega) rfl))
    ·exact .inr (.inr (uo (pt p) fun G d=>fF rfl ((bW (by kernel_rfl)).trans W)))
    ·exact .inr (.inr qQ)
    ·exact .inr (.inr qQ)
    ·exact .inr (.inr qQ)
    ·exact .inr (.inr (uo (.slice m.s.ga (m.s.gn) (m.s.gc)) fun G d=>bf (x:=nk m) rfl (show ev _ (.tmp 78)=(pf p 19)from by kernel_rfl) (by kernel_rfl) (ad.aH.below d (by have:=ad.lt; omega)) (i:=19) (by omega) (by omega) rfl))
    ·exact .inr (.inr (uo (au b) fun G d=>fF rfl ((bW (by kernel_rfl)).trans h5)))
    ·exact .inr (.inr (uo (pf ac (5*b)) fun G d=>dR rfl ((show ev _ (.tmp 79) = .slice m.s.ga (m.s.gn) (m.s.gc)from by kernel_rfl).trans (M_ (fun q=>Value.slice q (m.s.gn) (m.s.gc)) eq4)) (show ev _ (.tmp 80)=au (b:Int)from by kernel_rfl) Tryz.underlying48 (s:=5) (by kernel_rfl) (by omega) (by omega) (by omega)))
    ·exact .inr (.inr qQ)
    ·exact .inr (.inr (uo (au ((m.g b) 3)) fun G d=>bf (x:=JL m) rfl (show ev _ (.tmp 82)=(pf ac (5*b+3))from by kernel_rfl) (by kernel_rfl) (m64.aH.below d (by have:=m64.lt; omega)) (i:=5*b+3) (by omega) (by omega) (Fx.iB (k:=b) (j:=3) (by omega) (by omega) rfl)))
    ·exact .inr (.inr (Fx.Jp (v := .tuple #[.agg (aA 54 (rv .i64 ((bH (Rk q) v.o ((m.g b) 3)).1))),au ((bH (Rk q) v.o ((m.g b) 3)).2)]) (by kernel_rfl) (by kernel_rfl) (Fx.qbC (fun G d=>rC (args := [.agg (aA 54 (rv .i64 (Rk q))),au v.o,au ((m.g b) 3)]) rfl (Fx.OV (show ev _ (.tmp 72) = .agg (aA 54 (rv .i64 (Rk q)))from by kernel_rfl) (show ev _ (.tmp 74)=au v.o from by kernel_rfl) (show ev _ (.tmp 83)=au ((m.g b) 3)from by kernel_rfl)) Tryz.func161 rfl rfl) (fun G d=>(Zj (Rk q) v.o ((m.g b) 3) _).mono fun e v2 h=>⟨h.1,h.2⟩))))
    ·exact .inr (.inr qQ)
    ·exact .inr (.inr qQ)
    ·exact .inr (.inr qQ)
    ·exact .inl rfl
    ·exact .inr (.inl rfl)
    exact .inr (.inr qQ)
   rintro I w8 U P X xq hb6;have aeQ:p≠I:=u_ (n_ (ad.lt) X);have aeR:m.tb≠I:=u_ (n_ (uh.lt) X);have aeS:E≠I:=u_ (n_ (vU.lt) X);have aeT:N≠I:=u_ (n_ (uy.lt) X);have apF:ac≠I:=u_ (n_ (m64.lt) X);have⟨wI,vF,yt,sO,vG,uN,vH,vI⟩:=mO hb6 ad uh rR sw vU nY uy m64;have b9:=fA hb6 b8 A;have X:w.heap.size<=I:=m_ b8.size X;have zM:=xq.lt;have q1:U 0=(pt p):=(by rw[P]; exact(bW (by kernel_rfl)).trans W);have q2:U 3=(pt E):=(by rw[P]; exact(bW (by kernel_rfl)).trans O);have q3:U 6 = .slice Z (K) (C):=(by rw[P]; exact(bW (by kernel_rfl)).trans h3);have q4:U 7=au (k:Int):=(by rw[P]; exact(bW (by kernel_rfl)).trans h4);have q5:U 5=au (b:Int):=(by rw[P]; exact(bW (by kernel_rfl)).trans h5);have q16:U 8=au (q:Int):=(by rw[P]; kernel_rfl);have q41:U 9=(pt I):=(by rw[P]; kernel_rfl);have q42:U 10=au ((bH (Rk q) v.o ((m.g b) 3)).2):=(by rw[P]; kernel_rfl);clear P;refine sN<|Ws<|ay<|aU q42 ?_;by_cases V:((bH (Rk q) v.o ((m.g b) 3)).2)=0
   ·refine Lv aF (jR V)<|aD<|aK<|Wk<|sN ?_;refine jY [0,1,2,3,5,4,6,7,8,9] [0,0,0,0,4,0,4,0,0,3] [(9,4,[4]),(9,6,[6])] fun BS fZ mQ => ?_;have⟨yL,wJ,yV,yX,yM,wK,vV,vJ,yu⟩:=CO fZ wI vF yt sO vG uN vH vI xq;have b10:=fA fZ b9 A;refine bX q1<|aY (pt p)<|aY (pt p)<|aY (pf p 18)<|bX q16<|Rs (.slice m.s.na (m.s.nn) (m.s.nc)) (aM yL.aH 18) ?_;refine Rs (.agg (aA 54 (rv .i64 ((bH (Rk q) v.o ((m.g b) 3)).1)))) (fM yu.aH 0 (ha:=q41)) ?_;refine Rp (pf N (56*q)) (fun _=>dB 56 (hx:=(rfl.trans (M_ (fun q=>Value.slice q (m.s.nn) (m.s.nc)) eq3))))<|aY (pf N (56*q+2))<|gQ<|AY vV (56*q+2) fun w9 zK s10 z2 => ?_;have gF:=fP s10 vV.KJ;have⟨wL,Ai,zL,AB,yY,yZ,Aj⟩:=TG gF yL wJ yV yX yM wK vJ;have b11:=s10.below b10 (m_ A b10.size) vV.blk.1;have C9:Fx.Own w9 B 84 56 (bM N m.s.nn m.s.nc) m.s.nn (flat 56 (fun l=>mW (m.id l) (m.par l) (aI Rk q ((bH (Rk q) v.o ((m.g b) 3)).1) l))):=zK.congr (fun pq hp=>(Fx.CK (k:=q) (j:=2) (by omega) (by omega) pq hp).trans (bK (fun i J j hj=>Dj i J j hj) pq hp));refine Ln<|Rn<|bU<|sN<|Wl<|aU q4<|Lv (au ((k:Int)+1)) fH<|av (au ((k:Int)+1))<|Ln ?_;have Cc:Fx.Own w9 B 106 5 (.slice m.s.ga (m.s.gn) (m.s.gc)) m.s.gn (JL m):=Aj.fu (M_ (fun q=>Value.slice q m.s.gn m.s.gc) eq4.symm);have CF:Fx.Own w9 B 84 56 (.slice m.s.na (m.s.nn) (m.s.nc)) m.s.nn (flat 56 (fun l=>mW (m.id l) (m.par l) (aI Rk q ((bH (Rk q) v.o ((m.g b) 3)).1) l))):=C9.fu (M_ (fun q=>Value.slice q m.s.nn m.s.nc) eq3.symm);refine iH ⟨k+1,(aI Rk q (bH (Rk q) v.o (m.g b 3)).1),by omega,(FY hRk ex1 (by first|exact V|exact Classical.not_not.1 V)),q1,q2,q3,Fx.ic,(q5.trans Fx.ic),wL,Ai,zL,AB,yY,Cc,yZ,CF,b11⟩ ?_
    show(K-(intOf (au ((k:Int)+1))).toNat)<_;simp only[h4,intOf]; omega
   refine Lv aG (kY V)<|aD<|aN<|ay<|aU q42<|av (au ((bH (Rk q) v.o ((m.g b) 3)).2))<|aD<|Wr<|sR<|bL<|sR<|qm<|bL<|sR<|aJ (au ((bH (Rk q) v.o ((m.g b) 3)).2)) ?_;have L:aP v=a:=(by unfold aP; omega);have Y : ¬ 0<=m.core.kg (aP v) v.req:=(by rw[L]; exact j_ S);have ne2 : ¬ (m.core.grant v.o v.of<0\/m.core.g (wN m.core v) 4≠0):=(by rw[ab]; exact fun h=>h.elim aa (fun h=>h ae));have ew:mJ m.core v=dz (fun x=>bH x v.o (m.g b 3)) (pz m.core (m.g b 2)) m.R K:=(by unfold mJ; rw[ab,show bO m.core.t m.core.tn (m.core.g b 2)=K from Ym.symm]; rfl);have H:gW m.core v=(bH (Rk q) v.o (m.g b 3)).2:=by
    unfold gW; rw[b_ Y,b_ ne2,ew];have e1:=Iw hRk ex1 V;rw[Bl (k:=k+1) (by rw[e1]; exact V) K (by omega)]; exact e1
   exact⟨pR H.symm,b9,fun M=>N_ (H.symm.trans M) V⟩
  refine Lv aF (iE c54)<|aD<|aK<|Wx<|cZ<|gZ<|dh<|sN<|Ws ?_;have hRK:dz (fun x=>bH x v.o (m.g b 3)) (pz m.core (m.g b 2)) m.R K=(Rk,0):=by rw[show K=k by omega]; exact hRk
  refine jY [0,1,2,3,5,6,4,7,8,9,10] [0,0,0,0,4,0,0,4,0,0,3] [(10,4,[4]),(10,7,[7])] fun SF mF BU => ?_;have⟨Al,ES,Ev,ET,FV,uX,uY⟩:=jJ mF qW ow sK vE sM rQ uw;have b12:=fA mF b7 A;refine bX W<|aY (pt p)<|aY (pt p)<|aY (pf p 19)<|bX h5<|Rp (pf E 12) (fun _=>jo O 12)<|Rs (.slice m.s.ga (m.s.gn) (m.s.gc)) (aM Al.aH 19) ?_;refine Rs (aC v.req) (aM FV.aH 12) ?_;obtain⟨gq5,eq5⟩:=uX.addr (by omega);have rH:Fx.Own SF B 106 5 (bM gq5 m.s.gn m.s.gc) m.s.gn (JL m):=uX.fu (M_ (fun q=>Value.slice q m.s.gn m.s.gc) eq5);refine Rp (pf gq5 (5*b)) (fun _=>dB 5 (hx:=(rfl.trans (M_ (fun q=>Value.slice q (m.s.gn) (m.s.gc)) eq5))))<|aY (pf gq5 (5*b+4))<|gQ<|qP rH (5*b+4) (aC v.req) fun su oU s12 z3 => ?_;have jT:=fP s12 rH.KJ;have⟨oF,qb,oG,oV,rJ,oZ⟩:=TF jT Al ES Ev ET FV uY;have b13:=s12.below b12 (m_ A b12.size) rH.blk.1;have rM:Fx.Own su B 106 5 (bM gq5 m.s.gn m.s.gc) m.s.gn (flat 5 (fun l=>jf (aI m.g b (aI (m.g b) 4 v.req) l))):=oU.congr (fun pq hp=>(Fx.HZ (k:=b) (j:=4) (by omega) (by omega) pq hp).trans (bK (fun i J j hj=>RG i J j hj) pq hp));refine Ln<|bT<|Ws ?_;have yE:Fx.Own su B 106 5 (.slice m.s.ga (m.s.gn) (m.s.gc)) m.s.gn (flat 5 (fun l=>jf (aI m.g b (aI (m.g b) 4 v.req) l))):=rM.fu (M_ (fun q=>Value.slice q m.s.gn m.s.gc) eq5.symm);have uD:Fx.Own su B 23 1 (.slice (m.ra a) (m.rn a) (m.rc a)) (m.rn a) (rv .u64 (m.rq a)):=oV.1 a ha;have bra:=F.br a ha;refine Ad [0,1,4,5,8,9,12,16,17,2,3,6,7,10,11,13,14,15,18,19] [0,0,1,0,0,0,1,0,0,0,0,1,0,4,2,2,0,0,0,3] (jg [23]) vN Fx.jg.trans (fJ := [(19,2,[2]),(19,6,[6]),(19,11,[11]),(14,13,[13]),(15,13,[14,13]),(19,13,[13]),(15,14,[14]),(18,14,[14]),(19,14,[14]),(18,15,[15]),(19,15,[15])]) (by kernel_rfl) (by kernel_rfl) (by kernel_rfl) (by kernel_rfl) (by kernel_rfl) fun wt4 rP Ii => ?_;have⟨yF,Bc,wm,tO,qc,xJ,xK,tQ⟩:=mO rP oF qb oG oV rJ oZ yE uD;have b14:=fA rP b13 A;refine bX W<|Rp (pt E) (fun _=>jo O 0)<|bX W<|Rp (pt E) (fun _=>jo O 0)<|aY (pt p)<|aY (pf p 21)<|Rp (pf E 12) (fun _=>jo O 12)<|aY (pt p)<|aY (pf p 21)<|Rd (v:=au v.o) (by rfl) (by rfl) (vN _) (fun G d=>bf (x:=bI v) rfl rfl (by kernel_rfl) (qc.kV d (by decide)).aH (i:=0) (by omega) (by omega) rfl) ?_;refine Rp (au a) (fun _=>gP)<|Rd (v:=au v.o) (by rfl) (by rfl) (vN _) (fun G d=>bf (x:=bI v) rfl rfl (by kernel_rfl) (qc.kV d (by decide)).aH (i:=0) (by omega) (by omega) rfl) ?_;refine Rp (au a) (fun _=>gP)<|Rp (pf p (a+21)) (fun _=>jD 6 1)<|Rd (v := .slice (m.ra a) (m.rn a) (m.rc a)) (by rfl) (by rfl) (vN _) (fun G d=>bf (x:=nk m) rfl rfl (by kernel_rfl) (yF.kV d (by decide)).aH (i:=a+21) (by omega) (by omega) (xE _ (by omega))) ?_;refine Rs (aC v.req) (aM qc.aH 12) ?_;refine zG<|yP (vs := [(0,aC v.req)]) (s:=1) (zc:=rv .u64 (fun _=>0)) (y:=bG (fun j=>(rv .u64 (fun _=>0)) (j % 1)) (0*1) 1 (fun _=>aC v.req)) (by rfl) rfl rfl Tryz.underlying53 (by kernel_rfl) (by rfl) (by rfl) (by kernel_rfl) (by rw[bE (off:=0*1) (s:=1) (y:=fun _=>aC v.req) rfl (cells_one (by rfl)) (by rfl)]; rfl) rfl fun g3 Ah um Am Ba z4 => ?_;have⟨Da,Bd,Ao,Bf,ze,xL,F6⟩:=jJ Ba.old yF Bc wm tO xJ xK tQ;have b15:=fA Ba.old b14 A;have BF:=iK um b14.size;have⟨alK,alL,alM⟩:=AZ um yF.lt Bc.lt qc.lt;have alN:(.slice (m.ra a) (m.rn a) (m.rc a):Value).ownBlock≠some g3:=by rw[um]; exact tQ.kM (A_ _)
  have GZ:=Am.lt;refine Ln ⟨Fx.jg.of_below Ba.old,?_⟩;refine zG<|zB (B:=B) (s:=1) (bytes:=8) (k:=(m.rn a)) (m:=1) (v := .slice (m.ra a) (m.rn a) (m.rc a)) (x:=rv .u64 (m.rq a)) (by rfl) rfl rfl rfl Tryz.underlying53 (by kernel_rfl) (by kernel_rfl) rfl rfl F6 Am.aH (zP (fun _=>rfl)) (by omega) (by omega) (by omega) (m_ A b15.size) fun g4 C BZ ho1 hg1 xg hlt1 => ?_;have oq:=zC hg1 F6;have⟨Db,Dc,Ey,Bg,Df⟩:=qA oq Da Bd Ao ze xL;have Hg:Fx.Own BZ B 23 1 (.slice (some ⟨g4,0,none⟩) ((m.rn a)+1) C) ((m.rn a)+1) (rv .u64 (aI (m.rq a) (m.rn a) v.req)):=(ho1.congr (fun j hj=>PL j hj));have b16:Below B w BZ:=zA b15 hg1 (m_ A b15.size) (fun q hq=>(F6.ge hq).1);have Bh:xG BZ B 6 { m with ra:=aI m.ra a (some ⟨g4,0,none⟩),rn:=aI m.rn a (m.rn a+1),rc:=aI m.rc a C,rq:=aI m.rq a (aI (m.rq a) (m.rn a) v.req) }:=xG.app Bf ha rfl rfl rfl rfl Hg hg1 xg;refine Ln ⟨oq,?_⟩;refine Rp (pf p (a+21)) (fun _=>jD 6 1)<|gQ<|ji Db (a+21) (.slice (some ⟨g4,0,none⟩) ((m.rn a)+1) (C)) fun FK Dl s15 z5 => ?_;have uq:=fP s15 Db.ty;have⟨Dh,zf,yG,Di,JZ⟩:=qA uq Dc Ey Bg Df Bh;have b17:=s15.below b16 (m_ A b16.size) (by omega);refine Ln<|bT<|ay<|av (au 0)<|aD<|Wr<|aJ (au 0) ?_;have L:aP v=a:=by unfold aP; omega
  have Y : ¬ 0<=m.core.kg (aP v) v.req:=by rw[L]; exact j_ S
  have ne2 : ¬ (m.core.grant v.o v.of<0\/m.core.g (wN m.core v) 4≠0):=by rw[ab]; exact fun h=>h.elim aa (fun h=>h ae)
  have ew:mJ m.core v=dz (fun x=>bH x v.o (m.g b 3)) (pz m.core (m.g b 2)) m.R K:=by unfold mJ; rw[ab,show bO m.core.t m.core.tn (m.core.g b 2)=K from Ym.symm]; rfl
  have H:gW m.core v=0:=by unfold gW; rw[b_ Y,b_ ne2,ew,hRK]
  have eW:mJ m.core v=(Rk,0):=ew.trans hRK;refine⟨pR H.symm,b17,fun _=>⟨{ m with s := { m.s with ga:=m.s.ga,gn:=m.s.gn,gc:=m.s.gc },R:=Rk,g:=aI m.g b (aI (m.g b) 4 v.req),ra:=aI m.ra a (some ⟨g4,0,none⟩),rn:=aI m.rn a (m.rn a+1),rc:=aI m.rc a C,rq:=aI m.rq a (aI (m.rq a) (m.rn a) v.req) },?_,?_⟩⟩
  ·unfold eY rO; rw[eW,L]; rw[ab]; rfl
  exact { c:=Dl.to (LC _ rfl _ _ _),n:=yG,g:=Di,tc:=Dh,t:=zf,r:=JZ,pB:=Vo,tB:=Ew,bn:=bn,bg:=(by show m.s.gn<=1000000; omega),bt:=bt,br:=(fun i J=>by show aI m.rn a (m.rn a+1) i<=1000000; have:=brr i J; have:=brr a ha; unfold aI; split <;> omega) }
 refine Lv aG (kY ae)<|av aG<|aD<|aN<|ay<|av (au 12)<|aD<|Wr<|sR<|aJ (au 12) ?_;have L:aP v=a:=by unfold aP; omega
 have Y : ¬ 0<=m.core.kg (aP v) v.req:=by rw[L]; exact j_ S
 have H:gW m.core v=12:=by unfold gW; rw[b_ Y,ab]; exact d_ (.inr ae)
 exact⟨pR H.symm,b4,fun M=>by rw[H]at M; cases M⟩
namespace Rt
def xO(L:eF)(v:EvM):Int:=if L.node v.node<0 then 9 else if 140737488355328<L.R (L.node v.node).toNat (aP v)+v.aT then 6 else 0
def F9(L:eF)(v:EvM):eF := { L with R:=aI L.R (L.node v.node).toNat (upd (L.R (L.node v.node).toNat) (aP v) (L.R (L.node v.node).toNat (aP v)+v.aT)) }
def zh(L:eF)(v:EvM):(Nat->Int) × Int:=dA (L.R (L.node v.node).toNat) v.o v.dst v.aT
def qg(L:eF)(v:EvM):Int:=if L.node v.node<0 then 9 else if v.dst<1\/6<v.dst\/L.inn (v.dst-1).toNat=false then 10 else(zh L v).2
def Ga(L:eF)(v:EvM):eF := { L with R:=aI L.R (L.node v.node).toNat (zh L v).1 }
noncomputable def dQ(L:eF)(v:EvM):Int :=
 if v.kind=1 then kP L v else if v.kind=2 then xO L v else if v.kind=3 then iP L v else if v.kind=4 then gW L v else if v.kind=5 then qg L v else 0
def fT(L:eF)(v:EvM):eF :=
 if v.kind=1 then rG L v else if v.kind=2 then F9 L v else if v.kind=3 then gJ L v else if v.kind=4 then eY L v else if v.kind=5 then Ga L v
 else if v.kind=6 then { L with inn:=aI L.inn (v.dst-1).toNat true } else { L with left:=aI L.left (aP v) true }
theorem NW{n q a:Nat}{id par:Nat->Int}{R:Nat->Nat->Int}{x:Int} : ∀ i,i<n -> ∀ j,j<56->Fx.rY (fun b=>mW (id b) (par b) (R b)) q (dJ (mW (id q) (par q) (R q)) (a+2) (au x)) i j=mW (id i) (par i) (aI R q (upd (R q) a x) i) j:=fun i _ j _=>by
 unfold Fx.rY;by_cases h:i=q
 ·subst h; rw[d_ rfl,Py rfl]; unfold aI; rw[d_ rfl]
 ·rw[b_ h]; unfold aI; rw[b_ h]
theorem ZA(m:lZ){i:Nat}(hi:i<6):dJ (nk m) i (.bool true)=nk { m with s := { m.s with inn:=aI m.s.inn i true } }:=by
 funext p
 unfold dJ nk;by_cases h:p=i
 ·subst h; rw[d_ rfl,d_ (by omega)]; unfold rF; rw[d_ hi]; simp[aI]
 rw[b_ h];by_cases a:p<20
 ·rw[d_ a,d_ a]; unfold rF;by_cases b:p<6
  ·rw[d_ b,d_ b]; simp[aI,h]
  rw[b_ b,b_ b]
 rw[b_ a,b_ a]
theorem VQ(m:lZ){i q:Nat}(hi:i<6)(d:q=i+6):dJ (nk m) q (.bool true)=nk { m with s := { m.s with left:=aI m.s.left i true } }:=by
 subst d
 funext p
 unfold dJ nk;by_cases h:p=i+6
 ·subst h; rw[d_ rfl,d_ (by omega)]; unfold rF; rw[b_ (by omega),d_ (by omega)]; simp[aI]
 rw[b_ h];by_cases a:p<20
 ·rw[d_ a,d_ a]; unfold rF;by_cases b:p<6
  ·rw[d_ b,d_ b]
  rw[b_ b,b_ b];by_cases c:p<12
  ·rw[d_ c,d_ c]; simp[aI,show ¬ p-6=i by omega]
  rw[b_ c,b_ c]
 rw[b_ a,b_ a]
theorem RH(m:lZ){i q:Nat}(hi:i<6)(e:q=i+12)(x:Int):dJ (nk m) q (aC x)=nk { m with s := { m.s with known:=aI m.s.known i x } }:=by
 subst e
 funext p
 unfold dJ nk;by_cases h:p=i+12
 ·subst h; rw[d_ rfl,d_ (by omega)]; unfold rF; rw[b_ (by omega),b_ (by omega),d_ (by omega)]; simp[aI]
 rw[b_ h];by_cases a:p<20
 ·rw[d_ a,d_ a]; unfold rF;by_cases b:p<6
  ·rw[d_ b,d_ b]
  rw[b_ b,b_ b];by_cases c:p<12
  ·rw[d_ c,d_ c]
  rw[b_ c,b_ c];by_cases d:p<18
  ·rw[d_ d,d_ d]; simp[aI,show ¬ p-12=i by omega]
  rw[b_ d,b_ d]
 rw[b_ a,b_ a]
theorem jB{v:EvM}(h:bR v=true):1<=v.kind/\v.kind<=7:=by
 unfold bR at h;simp only[T_]at h;have a:=h.2;unfold dH at a;split at a; · omega
 split at a; · omega
 split at a; · omega
 split at a; · omega
 split at a; · omega
 split at a; · omega
 have:=h_ a; omega
theorem lJ{v:EvM}(h:bR v=true)(c:v.kind=2\/v.kind=3\/v.kind=5):1<=v.aT/\v.aT<=1125899906842624:=by
 unfold bR at h;simp only[T_]at h;have a:=h.2;unfold dH at a;rw[b_ (by omega)]at a;have b:someE v=true->1<=v.aT/\v.aT<=1125899906842624:=fun h=>by unfold someE at h; simpa using h
 split at a; · exact b a
 split at a; · rw[T_]at a; exact b a.1
 rw[b_ (by omega)]at a;split at a; · rw[T_]at a; exact b a.1
 omega
theorem Iy{v:EvM}(h:bR v=true)(c:v.kind=6) : ∃ b:Nat,b<6/\v.dst=(b:Int)+1:=by
 unfold bR at h;simp only[T_]at h;have a:=h.2;unfold dH at a;rw[b_ (by omega),b_ (by omega),b_ (by omega),b_ (by omega),b_ (by omega),d_ c]at a;unfold mH at a;rw[T_]at a;exact eU a.1
end Rt
set_option maxRecDepth 20000 in
set_option maxHeartbeats 2000000 in
theorem aeV(m:lZ)(B p a:Nat)(v:EvM)(w:World)(Q:wM w B p m)(G:B<=w.heap.size)(ha:a<6)(ho:v.o=(a:Int)+1)(bnn:m.s.nn<=900)(bgg:m.s.gn<=900000)(brr : ∀ i,i<6->m.rn i<=900000)(hTN : ∀ x,m.node x=bC m.t m.tn x)(hDx : ∀ x,∃ D,D<=1000/\bC m.t m.tn (aZ m.t m.tn D x)<0)(hv:gI v)(hmay:bR v=true)(hR : ∀ k,k<m.s.nn->may (m.R k)=true) :
 Calls Tryz.prog 82 #[(pt p),.agg (aA 14 (bI v))] w fun e w'=>e = .returned (au (dQ m.core v))/\Below B w w'/\(dQ m.core v=0 -> ∃ m',m'.core=fT m.core v/\wM w' B p m'):=by
 have Vo:=Q.pB;have Ew:=Q.tB;have bn:=Q.bn;have bg:=Q.bg;have bt:=Q.bt;have lpp:p<w.heap.size:=Q.c.lt;have SE:m.tb<w.heap.size:=Q.tc.lt;have hvk:=hv.kind;have hvt:=hv.dst;have hkr:=jB hmay;obtain⟨D,hD2,hD⟩:=hDx v.node;refine Kent Tryz.func82 152 ?_;refine ay<|pO fun H w1 ku V s1 z1 => ?_;have A:=bB s1.old Q;have W:=fA s1.old (Below.refl B w) G;have tC:=iK ku (Below.refl B w).size;have uK:=V.lt;refine av (au 0)<|aD<|Ws<|ay<|av (pf H 8)<|Lv (.int .u8 (v.kind)) (aM V.aH 8)<|aD<|Wb<|ay ?_;by_cases E:v.kind=1
 ·refine Lv aG (dZ E)<|av aG<|aD<|aN<|ay<|av (pt p)<|Lv (.agg (aA 14 (bI v))) (fM V.aH 0)<|dX (Zd m B p a D v _ A (m_ G W.size) ha ho bnn hD hD2) _ rfl ?_;rintro w2 ⟨hb1,hr1⟩;have b2:Below B w w2:=W.trans hb1;refine av (au (kP m.core v))<|aD<|Wr<|bL<|sR<|aJ (au (kP m.core v)) ?_;have l:dQ m.core v=kP m.core v:=by unfold dQ; rw[d_ E]
  have ec:fT m.core v=rG m.core v:=by unfold fT; rw[d_ E]
  exact⟨pR l.symm,b2,fun C=>by rw[ec]; exact hr1 (l.symm.trans C)⟩
 refine Lv aF (fB E)<|av aF<|aD<|aK<|ay ?_;by_cases F:v.kind=2
 ·refine Lv aG (dZ F)<|av aG<|aD<|aN<|Ws ?_;have Z:=A.c;have ab:=A.n;have aa:=A.g;have ad:=A.tc;have ae:=A.t;have ac:=A.r;refine Wl<|av (pt p)<|av (pf H 9)<|Lv (aC v.node) (aM V.aH 9) ?_;have NS:DX w1 p m := { c:=Z.aH,an:=ab.arr,ag:=aa.arr,tc:=ad.aH,at2:=ae.arr,ar:=fun i hi=>(ac.1 i hi).arr,bn:=(by show m.s.nn<=1000000; omega),bg:=bg,bt:=(by show m.tn<=1000000; omega),br:=Q.br };refine dX (JM m p v.node _ NS) _ rfl ?_;intro w3 hb2;have⟨m3,m4,m5,m6,m7,m8,m9⟩:=jJ hb2 V Z ab aa ad ae ac;have b3:=fA hb2 W G;refine av (au (m.node v.node))<|aD<|Ws<|ay<|av (au (m.node v.node)) ?_;by_cases c23:(m.node v.node)<0
  ·refine Lv aG (iD c23)<|aD<|aN<|ay<|av (au 9)<|aD<|Wr<|sR<|bL<|sR<|aJ (au 9) ?_;have O:aP v=a:=(by unfold aP; omega);have l:dQ m.core v=9:=(by unfold dQ; rw[b_ E,d_ F]; unfold xO; exact d_ c23);exact⟨pR l.symm,b3,fun C=>by rw[l]at C; cases C⟩
  obtain⟨kn,hkq,U,_⟩:=EW (m:=m) (x:=v.node) (by omega);have U:m.node v.node=(kn:Int):=U;have ekN:(m.core.node v.node).toNat=kn:=by show(m.node v.node).toNat=kn; rw[U]; rfl
  refine Lv aF (iE c23)<|aD<|aK<|Wk<|sN<|Ws<|Ws ?_;have hRb:=lY (hR kn hkq) a (by omega);have hab:=lJ hmay (.inl F);refine Af<|aX (pt p)<|aX (pt p)<|aX (pt p)<|aX (pf p 18)<|Qv (.slice m.s.na (m.s.nn) (m.s.nc)) (fun f d=>aM (m4.aH.dr d) 18)<|eT (M_ (Value.int .i64) U)<|aX (pt H)<|Qv (au v.o) (fun f d=>aM (m3.aH.dr d) 0)<|Qv (au a) (fun f d=>gP) ?_;obtain⟨P,eq1⟩:=m5.addr (by omega);have m10:Fx.Own w3 B 84 56 (bM P m.s.nn m.s.nc) m.s.nn (Kw m):=m5.fu (M_ (fun q=>Value.slice q m.s.nn m.s.nc) eq1);refine Qv (pf P (56*kn)) (fun f d=>dB 56 (hx:=(rfl.trans (M_ (fun q=>Value.slice q (m.s.nn) (m.s.nc)) eq1))))<|aX (pf P (56*kn+2))<|aX (pf P (56*kn+2))<|Qv (pf P (a+56*kn+2)) (fun f d=>jD 6 1)<|Qv (au ((m.R kn) a)) (fun f d=>aM (m10.aH.dr d) (a+56*kn+2) (Fx.iB (k:=kn) (j:=a+2) (by omega) (by omega) (Vf _ _ _ (by omega))))<|aX (pf H 11)<|Qv (au v.aT) (fun f d=>aM (m3.aH.dr d) 11)<|Qv (au (((m.R kn) a)+v.aT)) (fun f d=>fH) ?_;by_cases c41:140737488355328<(((m.R kn) a)+v.aT)
  ·refine Qv aG (fun f d=>nA c41)<|Qn ?_;rintro _ ⟨K,rfl⟩;obtain⟨Et,pY⟩ : ∃ f,f=World.drewN w3 K:=⟨_,rfl⟩;rw[<- pY];have s3:Stp w3.heap.size w3 Et:=(by rw[pY]; exact Sb (jX w3 K));have b4:=fA s3.old b3 G;clear pY;refine sN<|aN<|ay<|av (au 6)<|aD<|Wr<|sR<|bL<|sR<|aJ (au 6) ?_;have O:aP v=a:=(by unfold aP; omega);have l:dQ m.core v=6:=(by unfold dQ; rw[b_ E,d_ F]; unfold xO; rw[ekN,O,b_ (show ¬ m.core.node v.node<0 from c23)]; exact d_ c41);exact⟨pR l.symm,b4,fun C=>by rw[l]at C; cases C⟩
  refine Qv aF (fun f d=>nC c41)<|Qn ?_;rintro _ ⟨K,rfl⟩;obtain⟨wq2,xH⟩ : ∃ f,f=World.drewN w3 K:=⟨_,rfl⟩;rw[<- xH];have s4:Stp w3.heap.size w3 wq2:=by rw[xH]; exact Sb (jX w3 K)
  have⟨m18,m19,m20,m21,m22,m23,m24⟩:=jJ s4.old m3 m4 m6 m7 m8 m9 m10;have b5:=fA s4.old b3 G;clear xH;refine sN<|aK<|Wk<|sN ?_;refine jY [0,1,2,3,5,6,14,4,9,10,11,17,18,19,7,8,12,13,15,16,20,21] [0,0,0,0,4,0,0,4,0,0,0,0,0,4,0,4,0,0,0,0,0,3] [(21,4,[4]),(21,7,[7]),(21,13,[13]),(21,15,[15])] fun qU dU iC => ?_;have⟨nW,oN,pU,pV,nX,ou,lu⟩:=jJ dU m18 m19 m20 m21 m22 m23 m24;have b6:=fA dU b5 G;refine aY (pt p)<|aY (pt p)<|aY (pt p)<|aY (pf p 18)<|bX (M_ (Value.int .i64) U)<|aY (pt H)<|aY (pf H 11)<|Rs (.slice m.s.na (m.s.nn) (m.s.nc)) (aM oN.aH 18) ?_;refine Rp (pf P (56*kn)) (fun _=>dB 56 (hx:=(rfl.trans (M_ (fun q=>Value.slice q (m.s.nn) (m.s.nc)) eq1))))<|aY (pf P (56*kn+2))<|aY (pf P (56*kn+2))<|Rp (pf P (56*kn)) (fun _=>dB 56 (hx:=(rfl.trans (M_ (fun q=>Value.slice q (m.s.nn) (m.s.nc)) eq1))))<|aY (pf P (56*kn+2))<|aY (pf P (56*kn+2))<|Rs (au v.o) (aM nW.aH 0) ?_;refine Rp (au a) (fun _=>gP)<|Rp (pf P (a+56*kn+2)) (fun _=>jD 6 1)<|Rs (au ((m.R kn) a)) (aM lu.aH (a+56*kn+2) (Fx.iB (k:=kn) (j:=a+2) (by omega) (by omega) (Vf _ _ _ (by omega)))) ?_;refine Rs (au v.aT) (aM nW.aH 11) ?_;refine Rp (au (((m.R kn) a)+v.aT)) (fun _=>fH)<|Rp (pf P (a+56*kn+2)) (fun _=>jD 6 1)<|gQ<|qP lu (a+56*kn+2) (au (((m.R kn) a)+v.aT)) fun w4 m32 s6 z2 => ?_;have gF:=fP s6 lu.KJ;have⟨nL,oO,nT,qV,qB⟩:=qA gF oN pU pV nX ou;have b7:=s6.below b6 (m_ G b6.size) lu.blk.1;have pE:Fx.Own w4 B 84 56 (bM P m.s.nn m.s.nc) m.s.nn (flat 56 (fun N=>mW (m.id N) (m.par N) (aI m.R kn (upd (m.R kn) a (((m.R kn) a)+v.aT)) N))):=m32.congr (fun pq hp=>(Fx.HZ (k:=kn) (j:=a+2) (by omega) (by omega) pq hp).trans (bK (fun i hi j hj=>NW (a:=a) (x:=((m.R kn) a)+v.aT) (q:=kn) (id:=m.id) (par:=m.par) (R:=m.R) i hi j hj) pq hp));refine Ln<|Rn<|bU<|sN<|ay<|av (au 0)<|aD<|Wr<|aJ (au 0) ?_;have O:aP v=a:=by unfold aP; omega
  have sJ:Fx.Own w4 B 84 56 (.slice m.s.na (m.s.nn) (m.s.nc)) m.s.nn (flat 56 (fun N=>mW (m.id N) (m.par N) (aI m.R kn (upd (m.R kn) a (((m.R kn) a)+v.aT)) N))):=pE.fu (M_ (fun q=>Value.slice q m.s.nn m.s.nc) eq1.symm);have l:dQ m.core v=0:=by unfold dQ; rw[b_ E,d_ F]; unfold xO; rw[ekN,O,b_ (show ¬ m.core.node v.node<0 from c23)]; exact b_ c41
  refine⟨pR l.symm,b7,fun _=>⟨{ m with R:=aI m.R kn (upd (m.R kn) a (m.R kn a+v.aT)) },by symm; unfold fT; rw[b_ E,d_ F]; unfold F9; rw[ekN,O]; rfl,?_⟩⟩;exact { c:=nL,n:=sJ,g:=oO,tc:=nT,t:=qV,r:=qB,pB:=Vo,tB:=Ew,bn:=bn,bg:=bg,bt:=bt,br:=Q.br }
 refine Lv aF (fB F)<|av aF<|aD<|aK<|ay ?_;by_cases J:v.kind=3
 ·refine Lv aG (dZ J)<|av aG<|aD<|aN<|ay<|av (pt p)<|Lv (.agg (aA 14 (bI v))) (fM V.aH 0)<|dX (Zl m B p a D v _ A (m_ G W.size) ha ho bgg brr hTN hD hD2) _ rfl ?_;rintro w5 ⟨hb3,hr2⟩;have b8:Below B w w5:=W.trans hb3;refine av (au (iP m.core v))<|aD<|Wr<|bL<|sR<|aJ (au (iP m.core v)) ?_;have l:dQ m.core v=iP m.core v:=by unfold dQ; rw[b_ E,b_ F,d_ J]
  have ec:fT m.core v=gJ m.core v:=by unfold fT; rw[b_ E,b_ F,d_ J]
  exact⟨pR l.symm,b8,fun C=>by rw[ec]; exact hr2 (l.symm.trans C)⟩
 refine Lv aF (fB J)<|av aF<|aD<|aK<|ay ?_;by_cases M:v.kind=4
 ·refine Lv aG (dZ M)<|av aG<|aD<|aN<|ay<|av (pt p)<|Lv (.agg (aA 14 (bI v))) (fM V.aH 0)<|dX (Zz m B p a  v _ A (m_ G W.size) ha ho bgg brr hTN hDx) _ rfl ?_;rintro w6 ⟨hb4,hr3⟩;have I:Below B w w6:=W.trans hb4;refine av (au (gW m.core v))<|aD<|Wr<|bL<|sR<|aJ (au (gW m.core v)) ?_;have l:dQ m.core v=gW m.core v:=by unfold dQ; rw[b_ E,b_ F,b_ J,d_ M]
  have ec:fT m.core v=eY m.core v:=by unfold fT; rw[b_ E,b_ F,b_ J,d_ M]
  exact⟨pR l.symm,I,fun C=>by rw[ec]; exact hr3 (l.symm.trans C)⟩
 refine Lv aF (fB M)<|av aF<|aD<|aK<|ay ?_;by_cases S:v.kind=5
 ·refine Lv aG (dZ S)<|av aG<|aD<|aN<|Ws ?_;have Z:=A.c;have ab:=A.n;have aa:=A.g;have ad:=A.tc;have ae:=A.t;have ac:=A.r;refine Wl<|av (pt p)<|av (pf H 9)<|Lv (aC v.node) (aM V.aH 9) ?_;have VA:DX w1 p m := { c:=Z.aH,an:=ab.arr,ag:=aa.arr,tc:=ad.aH,at2:=ae.arr,ar:=fun i hi=>(ac.1 i hi).arr,bn:=(by show m.s.nn<=1000000; omega),bg:=bg,bt:=(by show m.tn<=1000000; omega),br:=Q.br };refine dX (JM m p v.node _ VA) _ rfl ?_;intro L hb5;have⟨mK,ni,mR,qw,qW,ow,sK⟩:=jJ hb5 V Z ab aa ad ae ac;have b10:=fA hb5 W G;refine av (au (m.node v.node))<|aD<|Ws<|ay<|av (au (m.node v.node)) ?_;by_cases c80:(m.node v.node)<0
  ·refine Lv aG (iD c80)<|aD<|aN<|ay<|av (au 9)<|aD<|Wr<|sR<|bL<|sR<|aJ (au 9) ?_;have O:aP v=a:=(by unfold aP; omega);have l:dQ m.core v=9:=(by unfold dQ; rw[b_ E,b_ F,b_ J,b_ M,d_ S]; unfold qg; exact d_ c80);exact⟨pR l.symm,b10,fun C=>by rw[l]at C; cases C⟩
  obtain⟨kn,hkq,U,_⟩:=EW (m:=m) (x:=v.node) (by omega);have U:m.node v.node=(kn:Int):=U;have ekN:(m.core.node v.node).toNat=kn:=by show(m.node v.node).toNat=kn; rw[U]; rfl
  refine Lv aF (iE c80)<|aD<|aK<|Wk<|sN<|Ws<|Ws ?_;refine Af<|aX (pf H 10)<|Qv (au v.dst) (fun f d=>aM (mK.aH.dr d) 10) ?_;by_cases c83:v.dst<1
  ·refine Qv aG (fun f d=>iD c83)<|aX aG<|aR<|aR<|aR<|aX aG<|aX aG<|aR<|aR<|aR<|aR<|aR<|aR<|aR<|aR<|aR<|aR<|aX aG<|Qn ?_;rintro _ ⟨K,rfl⟩;obtain⟨wq3,F7⟩ : ∃ f,f=World.drewN L K:=⟨_,rfl⟩;rw[<- F7];have s8:Stp L.heap.size L wq3:=(by rw[F7]; exact Sb (jX L K));have b11:=fA s8.old b10 G;clear F7;refine sN<|aN<|ay<|av (au 10)<|aD<|Wr<|sR<|bL<|sR<|aJ (au 10) ?_;have O:aP v=a:=(by unfold aP; omega);have l:dQ m.core v=10:=(by unfold dQ; rw[b_ E,b_ F,b_ J,b_ M,d_ S]; unfold qg; rw[b_ (show ¬ m.core.node v.node<0 from c80)]; exact d_ (.inl c83));exact⟨pR l.symm,b11,fun C=>by rw[l]at C; cases C⟩
  refine Qv aF (fun f d=>iE c83)<|aX aF<|aX (pf H 10)<|Qv (au v.dst) (fun f d=>aM (mK.aH.dr d) 10) ?_;by_cases c87:6<v.dst
  ·refine Qv aG (fun f d=>nA c87)<|aX aG<|aX aG<|aR<|aR<|aR<|aR<|aR<|aR<|aR<|aR<|aR<|aR<|aX aG<|Qn ?_;rintro _ ⟨K,rfl⟩;obtain⟨wq4,F8⟩ : ∃ f,f=World.drewN L K:=⟨_,rfl⟩;rw[<- F8];have s9:Stp L.heap.size L wq4:=(by rw[F8]; exact Sb (jX L K));have b12:=fA s9.old b10 G;clear F8;refine sN<|aN<|ay<|av (au 10)<|aD<|Wr<|sR<|bL<|sR<|aJ (au 10) ?_;have O:aP v=a:=(by unfold aP; omega);have l:dQ m.core v=10:=(by unfold dQ; rw[b_ E,b_ F,b_ J,b_ M,d_ S]; unfold qg; rw[b_ (show ¬ m.core.node v.node<0 from c80)]; exact d_ (.inr (.inl c87)));exact⟨pR l.symm,b12,fun C=>by rw[l]at C; cases C⟩
  obtain⟨I,hb9,eb9⟩ : ∃ b:Nat,b<6/\v.dst=(b:Int)+1:=⟨(v.dst-1).toNat,by omega,by omega⟩;refine Qv aF (fun f d=>nC c87)<|aX aF<|aX aF<|aX (pt p)<|aX (pf H 10)<|Qv (au v.dst) (fun f d=>aM (mK.aH.dr d) 10)<|Qv (au I) (fun f d=>gP)<|aX (pt p)<|aX (pt p)<|aX (pt p)<|Qv (pf p I) (fun f d=>jD 6 1) ?_;by_cases c98:(m.s.inn I)=true
  ·refine Qv aG (fun f d=>aM (ni.aH.dr d) I ((mI _ (by omega) (FT _ (by omega))).trans (M_ Value.bool c98)))<|aX aF<|aX aF<|Qn ?_;rintro _ ⟨K,rfl⟩;obtain⟨wq5,NV⟩ : ∃ f,f=World.drewN L K:=⟨_,rfl⟩;rw[<- NV];have s10:Stp L.heap.size L wq5:=(by rw[NV]; exact Sb (jX L K));have⟨nY,uy,m64,xq,wI,vF,yt⟩:=jJ s10.old mK ni mR qw qW ow sK;have b13:=fA s10.old b10 G;clear NV;refine sN<|aK<|Wk<|sN<|Ws ?_;obtain⟨Y,JY⟩:=m64.addr (by omega);have sO:Fx.Own wq5 B 84 56 (bM Y m.s.nn m.s.nc) m.s.nn (Kw m):=m64.fu (M_ (fun q=>Value.slice q m.s.nn m.s.nc) JY);refine qZ (T:=82) (T':=82) (a := .tmp 7) (v := .tmp 118) (m:=54) (z:=rv .i64 (fun _=>0)) (y:=rv .i64 ((dA (m.R kn) v.o v.dst v.aT).1)) (u := .agg (aA 54 (rv .i64 ((dA (m.R kn) v.o v.dst v.aT).1)))) 19 20 (List.replicate 22 (0,2,[],[])) #[(pt p),(pt p),(pt p),(pf p 18),.slice m.s.na (m.s.nn) (m.s.nc),au (kn:Int),(pf Y (56*kn)),(pf Y (56*kn+2)),.agg (aA 54 (rv .i64 (m.R kn))),(pt H),au v.o,(pf H 10),au v.dst,(pf H 11),au v.aT,.tuple #[.agg (aA 54 (rv .i64 ((dA (m.R kn) v.o v.dst v.aT).1))),au ((dA (m.R kn) v.o v.dst v.aT).2)],.tuple #[.agg (aA 54 (rv .i64 ((dA (m.R kn) v.o v.dst v.aT).1))),au ((dA (m.R kn) v.o v.dst v.aT).2)],.agg (aA 54 (rv .i64 ((dA (m.R kn) v.o v.dst v.aT).1))),au ((dA (m.R kn) v.o v.dst v.aT).2),undef,undef,au ((dA (m.R kn) v.o v.dst v.aT).2)] (by kernel_rfl) (by kernel_rfl) (by kernel_rfl) (by kernel_rfl) (by kernel_rfl) (by kernel_rfl) rfl (by kernel_rfl) rfl rfl (by kernel_rfl) (fun X=>(show ev _ (.tmp 7)=(pt X)from by kernel_rfl)) (fun X=>(show ev _ (.tmp 118) = .agg (aA 54 (rv .i64 ((dA (m.R kn) v.o v.dst v.aT).1)))from by kernel_rfl)) (bJ _ _) (fun _ _=>rfl) (by kernel_rfl) (fun X => ?_) ?_
   ·refine⟨?_,?_,?_,?_,?_,?_,?_,?_,?_,?_,?_,?_,?_,?_,?_,?_,?_,?_,?_,?_,?_,?_,trivial⟩
    ·exact .inr (.inr qQ)
    ·exact .inr (.inr qQ)
    ·exact .inr (.inr qQ)
    ·exact .inr (.inr qQ)
    ·exact .inr (.inr (uo (.slice m.s.na (m.s.nn) (m.s.nc)) fun f d=>bf (x:=nk m) rfl (show ev _ (.tmp 105)=(pf p 18)from by kernel_rfl) (by kernel_rfl) (uy.aH.below d (by have:=uy.lt; omega)) (i:=18) (by omega) (by omega) rfl))
    ·exact .inr (.inr (uo (au kn) fun f d=>fF rfl ((bW (by kernel_rfl)).trans (M_ (Value.int .i64) U))))
    ·exact .inr (.inr (uo (pf Y (56*kn)) fun f d=>dR rfl ((show ev _ (.tmp 106) = .slice m.s.na (m.s.nn) (m.s.nc)from by kernel_rfl).trans (M_ (fun q=>Value.slice q (m.s.nn) (m.s.nc)) JY)) (show ev _ (.tmp 107)=au (kn:Int)from by kernel_rfl) Tryz.underlying47 (s:=56) (by kernel_rfl) (by omega) (by omega) (by omega)))
    ·exact .inr (.inr qQ)
    ·exact .inr (.inr (uo (.agg (aA 54 (rv .i64 (m.R kn)))) fun f d=>eG (x:=Kw m) (y:=rv .i64 (m.R kn)) rfl (show ev _ (.tmp 109)=(pf Y (56*kn+2))from by kernel_rfl) (by kernel_rfl) (by kernel_rfl) (sO.aH.below d (by have:=sO.lt; omega)) (i:=56*kn+2) (by omega) (by omega) (fun jq hjq=>(Fx.kU (k:=kn) (j:=2+jq) (by omega) (by omega)).trans ((fun jq _=>JK _ _ _ jq) jq hjq))))
    ·exact .inr (.inr qQ)
    ·exact .inr (.inr (uo (au v.o) fun f d=>bf (x:=bI v) rfl (show ev _ (.tmp 111)=(pt H)from by kernel_rfl) (by kernel_rfl) (nY.aH.below d (by have:=nY.lt; omega)) (i:=0) (by omega) (by omega) rfl))
    ·exact .inr (.inr qQ)
    ·exact .inr (.inr (uo (au v.dst) fun f d=>bf (x:=bI v) rfl (show ev _ (.tmp 113)=(pf H 10)from by kernel_rfl) (by kernel_rfl) (nY.aH.below d (by have:=nY.lt; omega)) (i:=10) (by omega) (by omega) rfl))
    ·exact .inr (.inr qQ)
    ·exact .inr (.inr (uo (au v.aT) fun f d=>bf (x:=bI v) rfl (show ev _ (.tmp 115)=(pf H 11)from by kernel_rfl) (by kernel_rfl) (nY.aH.below d (by have:=nY.lt; omega)) (i:=11) (by omega) (by omega) rfl))
    ·exact .inr (.inr (Fx.Jp (v := .tuple #[.agg (aA 54 (rv .i64 ((dA (m.R kn) v.o v.dst v.aT).1))),au ((dA (m.R kn) v.o v.dst v.aT).2)]) (by kernel_rfl) (by kernel_rfl) (Fx.qbC (fun f d=>rC (args := [.agg (aA 54 (rv .i64 (m.R kn))),au v.o,au v.dst,au v.aT]) rfl (Fx.S9 (show ev _ (.tmp 110) = .agg (aA 54 (rv .i64 (m.R kn)))from by kernel_rfl) (show ev _ (.tmp 112)=au v.o from by kernel_rfl) (show ev _ (.tmp 114)=au v.dst from by kernel_rfl) (show ev _ (.tmp 116)=au v.aT from by kernel_rfl)) Tryz.func127 rfl rfl) (fun f d=>(Zk (m.R kn) v.o v.dst v.aT _).mono fun e v2 h=>⟨h.1,h.2⟩))))
    ·exact .inr (.inr qQ)
    ·exact .inr (.inr qQ)
    ·exact .inr (.inr qQ)
    ·exact .inl rfl
    ·exact .inr (.inl rfl)
    exact .inr (.inr qQ)
   rintro X w8 f1 hf1 qX vG hb6;have apG:H≠X:=u_ (n_ (nY.lt) qX);have aeT:p≠X:=u_ (n_ (uy.lt) qX);have apH:m.tb≠X:=u_ (n_ (wI.lt) qX);have apI:Y≠X:=u_ (n_ (sO.lt) qX);have⟨vH,vI,yL,wJ,yV,yX⟩:=rz hb6 uy xq wI vF yt sO;have b14:=fA hb6 b13 G;have qX:w.heap.size<=X:=m_ b13.size qX;have zM:=vG.lt;have q1:f1 0=(pt p):=(by rw[hf1]; kernel_rfl);have q3:f1 6=au (kn:Int):=(by rw[hf1]; exact(bW (by kernel_rfl)).trans (M_ (Value.int .i64) U));have q4:f1 7=(pt X):=(by rw[hf1]; kernel_rfl);have q5:f1 8=au ((dA (m.R kn) v.o v.dst v.aT).2):=(by rw[hf1]; kernel_rfl);clear hf1;refine sN<|Ws<|ay<|aU q5 ?_;by_cases ZB:((dA (m.R kn) v.o v.dst v.aT).2)=0
   ·refine Lv aF (jR ZB)<|aD<|aK<|Wk<|sN ?_;refine jY [0,1,2,3,5,4,6,7,8,9] [0,0,0,0,4,0,4,0,0,3] [(9,4,[4]),(9,6,[6])] fun BS fZ mQ => ?_;have⟨wK,vV,vJ,yu,zK,wL,Ai⟩:=jJ fZ vH vI yL wJ yV yX vG;have b15:=fA fZ b14 G;refine bX q1<|aY (pt p)<|aY (pt p)<|aY (pf p 18)<|bX q3<|Rs (.slice m.s.na (m.s.nn) (m.s.nc)) (aM wK.aH 18) ?_;refine Rs (.agg (aA 54 (rv .i64 ((dA (m.R kn) v.o v.dst v.aT).1)))) (fM Ai.aH 0 (ha:=q4)) ?_;refine Rp (pf Y (56*kn)) (fun _=>dB 56 (hx:=(rfl.trans (M_ (fun q=>Value.slice q (m.s.nn) (m.s.nc)) JY))))<|aY (pf Y (56*kn+2))<|gQ<|AY wL (56*kn+2) fun w9 zL s13 z3 => ?_;have jT:=fP s13 wL.KJ;have⟨yY,yZ,Aj,Er,C9⟩:=qA jT wK vV vJ yu zK;have b16:=s13.below b15 (m_ G b15.size) wL.blk.1;have CF:Fx.Own w9 B 84 56 (bM Y m.s.nn m.s.nc) m.s.nn (flat 56 (fun N=>mW (m.id N) (m.par N) (aI m.R kn ((dA (m.R kn) v.o v.dst v.aT).1) N))):=zL.congr (fun pq hp=>(Fx.CK (k:=kn) (j:=2) (by omega) (by omega) pq hp).trans (bK (fun i hi j hj=>Dj (r:=(dA (m.R kn) v.o v.dst v.aT).1) (q:=kn) (id:=m.id) (par:=m.par) (R:=m.R) i hi j hj) pq hp));refine Ln<|Rn<|bU<|sN<|ay<|av (au 0)<|aD<|Wr<|aJ (au 0) ?_;have O:aP v=a:=(by unfold aP; omega);have eto : ¬ (v.dst<1\/6<v.dst\/m.core.inn (v.dst-1).toNat=false):=fun h=>h.elim c83 (fun h=>h.elim c87 (fun h=>by rw[show(v.dst-1).toNat=I by omega]at h; rw[show m.core.inn I=true from c98]at h; cases h))
    have eW:zh m.core v=dA (m.R kn) v.o v.dst v.aT:=(by unfold zh; rw[ekN]; rfl);have Al:Fx.Own w9 B 84 56 (.slice m.s.na (m.s.nn) (m.s.nc)) m.s.nn (flat 56 (fun N=>mW (m.id N) (m.par N) (aI m.R kn ((dA (m.R kn) v.o v.dst v.aT).1) N))):=CF.fu (M_ (fun q=>Value.slice q m.s.nn m.s.nc) JY.symm);have l:dQ m.core v=0:=(by unfold dQ; rw[b_ E,b_ F,b_ J,b_ M,d_ S]; unfold qg; rw[b_ (show ¬ m.core.node v.node<0 from c80),b_ eto,eW]; exact ZB);refine⟨pR l.symm,b16,fun _=>⟨{ m with R:=aI m.R kn (dA (m.R kn) v.o v.dst v.aT).1 },by symm; unfold fT; rw[b_ E,b_ F,b_ J,b_ M,d_ S]; unfold Ga; rw[ekN,eW]; rfl,?_⟩⟩;exact { c:=yY,n:=Al,g:=yZ,tc:=Aj,t:=Er,r:=C9,pB:=Vo,tB:=Ew,bn:=bn,bg:=bg,bt:=bt,br:=Q.br }
   refine Lv aG (kY ZB)<|aD<|aN<|ay<|aU q5<|av (au ((dA (m.R kn) v.o v.dst v.aT).2))<|aD<|Wr<|sR<|bL<|sR<|aJ (au ((dA (m.R kn) v.o v.dst v.aT).2)) ?_;have O:aP v=a:=(by unfold aP; omega);have eto : ¬ (v.dst<1\/6<v.dst\/m.core.inn (v.dst-1).toNat=false):=fun h=>h.elim c83 (fun h=>h.elim c87 (fun h=>by rw[show(v.dst-1).toNat=I by omega]at h; rw[show m.core.inn I=true from c98]at h; cases h))
   have eW:zh m.core v=dA (m.R kn) v.o v.dst v.aT:=(by unfold zh; rw[ekN]; rfl);have l:dQ m.core v=(dA (m.R kn) v.o v.dst v.aT).2:=(by unfold dQ; rw[b_ E,b_ F,b_ J,b_ M,d_ S]; unfold qg; rw[b_ (show ¬ m.core.node v.node<0 from c80),b_ eto,eW]);exact⟨pR l.symm,b14,fun C=>by rw[l]at C; exact N_ C ZB⟩
  rw[U_]at c98;refine Qv aF (fun f d=>aM (ni.aH.dr d) I ((mI _ (by omega) (FT _ (by omega))).trans (M_ Value.bool c98)))<|aX aG<|aX aG<|Qn ?_;rintro _ ⟨K,rfl⟩;obtain⟨wq6,aeX⟩ : ∃ f,f=World.drewN L K:=⟨_,rfl⟩;rw[<- aeX];have Ba:Stp L.heap.size L wq6:=by rw[aeX]; exact Sb (jX L K)
  have b17:=fA Ba.old b10 G;clear aeX;refine sN<|aN<|ay<|av (au 10)<|aD<|Wr<|sR<|bL<|sR<|aJ (au 10) ?_;have O:aP v=a:=by unfold aP; omega
  have l:dQ m.core v=10:=by unfold dQ; rw[b_ E,b_ F,b_ J,b_ M,d_ S]; unfold qg; rw[b_ (show ¬ m.core.node v.node<0 from c80)]; exact d_ (.inr (.inr (by rw[show(v.dst-1).toNat=I by omega]; exact c98)))
  exact⟨pR l.symm,b17,fun C=>by rw[l]at C; cases C⟩
 refine Lv aF (fB S)<|av aF<|aD<|aK<|ay ?_;by_cases VR:v.kind=6
 ·refine Lv aG (dZ VR)<|av aG<|aD<|aN ?_;have Z:=A.c;have ab:=A.n;have aa:=A.g;have ad:=A.tc;have ae:=A.t;have ac:=A.r;obtain⟨I,hb9,eb9⟩:=Iy hmay VR;refine jY [0,1,4,5,6,2,3,7,8] [0,0,4,0,0,0,0,0,3] [(8,2,[2])] fun SF mF BU => ?_;have⟨rH,oU,oF,qb,oG,oV,rJ⟩:=jJ mF V Z ab aa ad ae ac;have b18:=fA mF W G;refine aY (pt p)<|aY (pf H 10)<|aY (pt p)<|aY (pt p)<|aY (pt p)<|Rs (au v.dst) (aM rH.aH 10) ?_;refine Rp (au I) (fun _=>gP)<|Rp (pf p I) (fun _=>jD 6 1)<|gQ<|ji oU I aG fun su sF s16 z4 => ?_;have oq:=fP s16 oU.ty;have⟨rM,yE,uD,yF,Bc⟩:=qA oq oF qb oG oV rJ;have b19:=s16.below b18 (m_ G b18.size) (by omega);refine Ln<|Rn<|bU<|sN<|ay<|av (au 0)<|aD<|Wr<|aJ (au 0) ?_;have O:aP v=a:=by unfold aP; omega
  have l:dQ m.core v=0:=by unfold dQ; rw[b_ E,b_ F,b_ J,b_ M,b_ S]
  refine⟨pR l.symm,b19,fun _=>⟨{ m with s := { m.s with inn:=aI m.s.inn I true } },by symm; unfold fT; rw[b_ E,b_ F,b_ J,b_ M,b_ S,d_ VR]; rw[show(v.dst-1).toNat=I by omega]; rfl,?_⟩⟩;exact { c:=sF.to (ZA m hb9),n:=rM,g:=yE,tc:=uD,t:=yF,r:=Bc,pB:=Vo,tB:=Ew,bn:=bn,bg:=bg,bt:=bt,br:=Q.br }
 refine Lv aF (fB VR)<|av aF<|aD<|aK<|ay<|Lv aG ahz<|av aG<|aD<|aN ?_;have Z:=A.c;have ab:=A.n;have aa:=A.g;have ad:=A.tc;have ae:=A.t;have ac:=A.r;refine jY [0,1,4,5,6,2,3,7,8] [0,0,4,0,0,0,0,0,3] [(8,2,[2])] fun wt4 rP Ii => ?_;have⟨wm,tO,qc,xJ,xK,tQ,Am⟩:=jJ rP V Z ab aa ad ae ac;have b20:=fA rP W G;refine aY (pt p)<|aY (pt H)<|aY (pt p)<|aY (pt p)<|aY (pf p 6)<|Rs (au v.o) (aM wm.aH 0) ?_;refine Rp (au a) (fun _=>gP)<|Rp (pf p (a+6)) (fun _=>jD 6 1)<|gQ<|ji tO (a+6) aG fun Ah Da Ir z5 => ?_;have uq:=fP Ir tO.ty;have⟨Ao,Bf,Ce,ze,xL⟩:=qA uq qc xJ xK tQ Am;have M7:=Ir.below b20 (m_ G b20.size) (by omega);refine Ln<|Rn<|bU<|sN<|ay<|av (au 0)<|aD<|Wr<|aJ (au 0) ?_;have O:aP v=a:=by unfold aP; omega
 have l:dQ m.core v=0:=by unfold dQ; rw[b_ E,b_ F,b_ J,b_ M,b_ S]
 refine⟨pR l.symm,M7,fun _=>⟨{ m with s := { m.s with left:=aI m.s.left a true } },by symm; unfold fT; rw[b_ E,b_ F,b_ J,b_ M,b_ S,b_ VR]; rw[O]; rfl,?_⟩⟩;exact { c:=Da.to (VQ m ha rfl),n:=Ao,g:=Bf,tc:=Ce,t:=ze,r:=xL,pB:=Vo,tB:=Ew,bn:=bn,bg:=bg,bt:=bt,br:=Q.br }
namespace Rt
structure aeY(L:eF)(T:Nat):Prop where
 nn:L.nn<=33
 gn:L.gn<=T
 rn : ∀ i,i<6->L.rn i<=T
 tn : ∀ x,L.node x=bC L.t L.tn x
 dx : ∀ x,∃ D,D<=1000/\bC L.t L.tn (aZ L.t L.tn D x)<0
 may : ∀ k,k<L.nn->may (L.R k)=true
 kn:Es L.known
open Classical in
noncomputable def bD(L:eF)(v:EvM):Int :=
 if bR v=false then 1 else if mV L.known v=true then 14 else if dG L.known v=false then 13 else if L.inn (aP v)=false\/L.left (aP v)=true then 10 else dQ L v
def Iz(L:eF)(v:EvM):eF := { L with known:=aI L.known (aP v) (L.known (aP v)+1) }
open Classical in
noncomputable def bP(L:eF)(v:EvM):eF:=if bD L v=0 then Iz (fT L v) v else L
theorem qF(L:eF)(v:EvM):(fT L v).known=L.known:=by
 unfold fT;split; · unfold rG; rfl
 split; · unfold F9; rfl
 split; · unfold gJ rO; rfl
 split; · unfold eY rO; rfl
 split; · unfold Ga; rfl
 split <;> rfl
end Rt
set_option maxRecDepth 20000 in
set_option maxHeartbeats 2000000 in
theorem PO(m:lZ)(B p T:Nat)(v:EvM)(w:World)(L:wM w B p m)(z:gI v)(I:aeY m.core T)(hT:T<=900000) :
 Calls Tryz.prog 44 #[(pt p),.agg (aA 14 (bI v))] w fun e w' => ∃ p' m',e = .returned (.tuple #[(pt p'),au (bD m.core v)])/\m'.core=bP m.core v/\wM w' B p' m'/\Below w.heap.size w w':=by
 have O:=L.c;have lpp:p<w.heap.size:=O.lt;have hpB:=L.pB;refine Kent Tryz.func44 73 ?_;refine ay<|pO fun g1 w1 ku U s1 z1 => ?_;have⟨F,d,Y⟩:=iY s1.old L O (Below.refl w.heap.size w);have tC:=gN ku;have Vh:=cO ku O.lt;have uK:=U.lt;refine av (.pointer none)<|av (au 0)<|aD<|Ws<|ay<|Lv (.agg (aA 14 (bI v))) (fM U.aH 0) ?_;by_cases l:(bR v)=true
 ·refine dX (Ik v _ z) aG (by rw[l]) ?_;intro w2 hb1;have⟨m4,m5,m6,Z⟩:=jW hb1 F d U Y;refine av aF<|aD<|aK<|Wk<|sN<|Ws<|Ws ?_;refine nD<|aX (pt p)<|aX (pt p)<|aX (pt p)<|aX (pf p 12)<|Qv (.agg (aA 6 (rv .u64 m.s.known))) (fun W A=>fM (m5.cb A) 12 (fun j S=>mI _ (by omega) (nO _ S (by omega))))<|Qv (.agg (aA 14 (bI v))) (fun W A=>fM (m6.cb A) 0) ?_;by_cases u:(mV m.s.known v)=true
  ·refine Ae (fun _ _=>UY m.s.known v _ z) aG (by rw[u])<|Qn ?_;intro YL uL;have⟨m7,b3⟩:=fC uL m4 Z;refine sN<|aN<|ay<|av (pt p)<|av (pt p)<|av (au 14)<|aD<|Wr<|sR<|aJ (.tuple #[(pt p),au 14]) ?_;have b:bD m.core v=14:=(by unfold bD; rw[b_ (by rw[l]; decide)]; exact d_ u);have q:bP m.core v=m.core:=(by unfold bP; rw[b_ (by rw[b]; decide)]);exact⟨p,m,by rw[b],q.symm,m7,b3⟩
  rw[U_]at u;refine Ae (fun _ _=>UY m.s.known v _ z) aF (by rw[u])<|Qn ?_;intro wb2 yh;have⟨m10,m11,m12,b4⟩:=jW yh m4 m5 m6 Z;refine sN<|aK<|Wk<|sN<|Ws<|Ws ?_;refine nD<|aX (pt p)<|aX (pt p)<|aX (pt p)<|aX (pf p 12)<|Qv (.agg (aA 6 (rv .u64 m.s.known))) (fun W A=>fM (m11.cb A) 12 (fun j S=>mI _ (by omega) (nO _ S (by omega))))<|Qv (.agg (aA 14 (bI v))) (fun W A=>fM (m12.cb A) 0) ?_;by_cases x:(dG m.s.known v)=true
  ·refine Ae (fun _ _=>Pk m.s.known v _ z I.kn) aG (by rw[x])<|aX aF<|Qn ?_;intro N yj;have⟨K,M,m15,G⟩:=jW yj m10 m11 m12 b4;refine sN<|aK<|Wk<|sN<|Ws ?_;obtain⟨a,P,ho⟩:=eU (je l);refine Wl<|av (pt g1)<|Lv (au v.o) (aM m15.aH 0)<|Lv (au a) gP<|av (au a)<|aD<|Ws<|ay<|av (pt p)<|av (au a)<|av (pt p)<|av (pt p)<|av (pt p)<|Lv (pf p a) (jD 6 1) ?_;by_cases C:(m.s.inn a)=true
   ·refine Lv aG (aM M.aH a ((mI _ (by omega) (FT _ (by omega))).trans (M_ Value.bool C)))<|av aF<|av aF<|av (pt p)<|av (au a)<|av (pt p)<|av (pt p)<|av (pf p 6)<|Lv (pf p (a+6)) (jD 6 1) ?_;by_cases D:(m.s.left a)=true
    ·refine Lv aG (aM M.aH (a+6) ((mI _ (by omega) (Lj _ (by omega) (by omega))).trans (M_ Value.bool D)))<|av aG<|aD<|aN<|ay<|av (pt p)<|av (pt p)<|av (au 10)<|aD<|Wr<|sR<|aJ (.tuple #[(pt p),au 10]) ?_;have y:aP v=a:=(by unfold aP; omega);have b:bD m.core v=10:=(by unfold bD; rw[b_ (by rw[l]; decide),b_ (by rw[show mV m.core.known v=false from u]; decide),b_ (by rw[show dG m.core.known v=true from x]; decide),y]; exact d_ (.inr D));have q:bP m.core v=m.core:=(by unfold bP; rw[b_ (by rw[b]; decide)]);exact⟨p,m,by rw[b],q.symm,K,G⟩
    rw[U_]at D;refine Lv aF (aM M.aH (a+6) ((mI _ (by omega) (Lj _ (by omega) (by omega))).trans (M_ Value.bool D)))<|av aF<|aD<|aK<|Wk<|sN<|ay<|av (pt p)<|kF (aee m p _ K.ldg (by have:=I.nn; have e:m.core.nn=m.s.nn:=rfl; omega) K.bt) ?_;rintro e w3 ⟨f,F,J,R,hL2,Q⟩;refine⟨(pt f),J,?_⟩;clear J;have⟨m18,b6⟩:=fC Q m15 G;have E:aeY F.core T:=(by rw[R]; exact I);refine av (pt f)<|aD<|Ws ?_;have apK:=hL2;refine Wl<|av (pt f)<|Lv (.agg (aA 14 (bI v))) (fM m18.aH 0)<|kF (aeV F N.heap.size f a v _ apK Q.size P ho (by have h9:F.s.nn<=33:=E.nn; omega) (m_ E.gn hT) (fun i hi=>m_ (E.rn i hi) hT) E.tn E.dx z l E.may) ?_;rintro e X ⟨J,hbd,hL3⟩;refine⟨au (dQ m.core v),by rw[<- R]; exact J,?_⟩;clear J;rw[R]at hL3;have b8:Below N.heap.size N X:=Q.trans hbd;have b7:Below w.heap.size w X:=b6.trans (hbd.mono (m_ (A_ _) G.size));have m19:wM X B p m:=K.up b8;refine av (au (dQ m.core v))<|aD<|Ws<|ay<|av (au (dQ m.core v)) ?_;by_cases H:(dQ m.core v)=0
    ·refine Lv aF (jR H)<|aD<|aK<|Wk<|sN<|Ws ?_;obtain⟨d,hc3,k⟩:=hL3 H;have hMc:=k.c;have hMn:=k.n;have hMg:=k.g;have hMt:=k.tc;have apM:=k.t;have hMr:=k.r;have ek3:d.s.known=m.s.known:=(by show d.core.known=_; rw[hc3,qF]; rfl);have hk3:=I.kn a P;have hk3:0<=d.s.known a/\d.s.known a<1099511627776:=(by rw[ek3]; exact hk3);have lp2:=k.pB;have sw1:=G.size;refine jY [0,1,2,3,4,5,8,9,10,6,7,11,12] [0,0,0,0,0,0,4,0,0,0,0,0,3] [(12,6,[6])] fun qU dU iC => ?_;have⟨V,m21,m22,m23,m24,nW,b9⟩:=jJ dU hMc hMn hMg hMt apM hMr b7;refine aY (pt f)<|aY (au a)<|aY (pt f)<|aY (pt f)<|aY (pf f 12)<|Rp (pf f (a+12)) (fun _=>jD 6 1)<|aY (pt f)<|aY (pt f)<|aY (pf f 12)<|Rs (aC (d.s.known a)) (aM V.aH (a+12) (mI _ (by omega) (nO _ (by omega) (by omega)))) ?_;refine Rp (aC (d.s.known a+1)) (fun _=>fH)<|Rp (pf f (a+12)) (fun _=>jD 6 1)<|gQ<|ji V (a+12) (aC (d.s.known a+1)) fun w5 oN s8 z2 => ?_;have gF:=fP s8 V.ty;have⟨pU,pV,nX,ou,lu⟩:=qA gF m21 m22 m23 m24 nW;have b10:=s8.below b9 b9.size (by omega);refine Ln<|bT<|ay<|av (pt f)<|av (pt f)<|av (au 0)<|aD<|Wr<|aJ (.tuple #[(pt f),au 0]) ?_;have y:aP v=a:=(by unfold aP; omega);have b:bD m.core v=0:=by unfold bD; rw[b_ (by rw[l]; decide),b_ (by rw[show mV m.core.known v=false from u]; decide),b_ (by rw[show dG m.core.known v=true from x]; decide),y]; rw[b_ (show ¬ (m.core.inn a=false\/m.core.left a=true)from fun h=>h.elim (fun h=>by rw[show m.core.inn a=true from C]at h; cases h) (fun h=>by rw[show m.core.left a=false from D]at h; cases h))]; exact H
     have hfin:wM w5 N.heap.size f { d with s := { d.s with known:=aI d.s.known a (d.s.known a+1) } } := { c:=oN.to (RH d P rfl _),n:=pU,g:=pV,tc:=nX,t:=ou,r:=lu,pB:=k.pB,tB:=k.tB,bn:=k.bn,bg:=k.bg,bt:=k.bt,br:=k.br };refine⟨f,{ d with s := { d.s with known:=aI d.s.known a (d.s.known a+1) } },by rw[b],?_,hfin.mono (by have:=L.pB; have:=lpp; omega),b10⟩;unfold bP; rw[d_ b]; unfold Iz; rw[y,qF,<- hc3,show m.core.known=d.s.known from ek3.symm]; rfl
    refine Lv aG (kY H)<|aD<|aN<|ay<|av (pt p)<|av (au (dQ m.core v))<|av (pt p)<|av (au (dQ m.core v))<|aD<|Wr<|sR<|aJ (.tuple #[(pt p),au (dQ m.core v)]) ?_;have y:aP v=a:=(by unfold aP; omega);have b:bD m.core v=dQ m.core v:=by unfold bD; rw[b_ (by rw[l]; decide),b_ (by rw[show mV m.core.known v=false from u]; decide),b_ (by rw[show dG m.core.known v=true from x]; decide),y]; rw[b_ (show ¬ (m.core.inn a=false\/m.core.left a=true)from fun h=>h.elim (fun h=>by rw[show m.core.inn a=true from C]at h; cases h) (fun h=>by rw[show m.core.left a=false from D]at h; cases h))]
    have q:bP m.core v=m.core:=(by unfold bP; rw[b_ (by rw[b]; exact H)]);exact⟨p,m,by rw[b],q.symm,m19,b7⟩
   rw[U_]at C;refine Lv aF (aM M.aH a ((mI _ (by omega) (FT _ (by omega))).trans (M_ Value.bool C)))<|av aG<|av aG<|bS<|bS<|bS<|bS<|bS<|bS<|bS<|av aG<|aD<|aN<|ay<|av (pt p)<|av (pt p)<|av (au 10)<|aD<|Wr<|sR<|aJ (.tuple #[(pt p),au 10]) ?_;have y:aP v=a:=(by unfold aP; omega);have b:bD m.core v=10:=(by unfold bD; rw[b_ (by rw[l]; decide),b_ (by rw[show mV m.core.known v=false from u]; decide),b_ (by rw[show dG m.core.known v=true from x]; decide),y]; exact d_ (.inl C));have q:bP m.core v=m.core:=(by unfold bP; rw[b_ (by rw[b]; decide)]);exact⟨p,m,by rw[b],q.symm,K,G⟩
  rw[U_]at x;refine Ae (fun _ _=>Pk m.s.known v _ z I.kn) aF (by rw[x])<|aX aG<|Qn ?_;intro wb4 BX;have⟨m32,b11⟩:=fC BX m10 b4;refine sN<|aN<|ay<|av (pt p)<|av (pt p)<|av (au 13)<|aD<|Wr<|sR<|aJ (.tuple #[(pt p),au 13]) ?_;have b:bD m.core v=13:=by unfold bD; rw[b_ (by rw[l]; decide),b_ (by rw[show mV m.core.known v=false from u]; decide)]; exact d_ x
  have q:bP m.core v=m.core:=by unfold bP; rw[b_ (by rw[b]; decide)]
  exact⟨p,m,by rw[b],q.symm,m32,b11⟩
 rw[U_]at l;refine dX (Ik v _ z) aF (by rw[l]) ?_;intro w6 hb2;have⟨oO,b12⟩:=fC hb2 F Y;refine av aG<|aD<|aN<|ay<|av (pt p)<|av (pt p)<|av (au 1)<|aD<|Wr<|sR<|aJ (.tuple #[(pt p),au 1]) ?_;have b:bD m.core v=1:=by unfold bD; exact d_ l
 have q:bP m.core v=m.core:=by unfold bP; rw[b_ (by rw[b]; decide)]
 exact⟨p,m,by rw[b],q.symm,oO,b12⟩
section
namespace Rt
structure Inv0(L:eF)(T:Nat):Prop where
 Dm:L.tn=L.nn
 nn:L.nn<=32
 tid : ∀ i,i<L.nn->L.t i 0=L.id i/\L.t i 1=L.par i
 rise : ∀ i j,i<j->j<L.nn->L.id i<L.id j
 pos : ∀ i,i<L.nn->1<=L.id i
 top : ∀ i,i<L.nn->L.id i<7696581394432
 up : ∀ i,i<L.nn->L.par i=0 \/ ∃ j,j<L.nn/\L.id j=L.par i
 dep : ∀ x,∃ D,D<=4/\bC L.t L.tn (aZ L.t L.tn D x)<0
 gn:L.gn<=T
 rn : ∀ i,i<6->L.rn i<=T
 may : ∀ k,k<L.nn->may (L.R k)=true
 g47 : ∀ k,k<L.nn -> ∀ a,a<6->L.R k a<=140737488355328
 kn:Es L.known
theorem ilt(a:Int):a<0\/0<=a:=by omega
theorem iV{t:Nat->Nat->Int}{tn:Nat}{x:Int}:0<=bC t tn x <-> ∃ i,i<tn/\t i 0=x:=by
 constructor
 ·intro h;obtain⟨j,c,_,e⟩:=vZ h;exact⟨j,c,e⟩
 rintro ⟨i,b,e⟩
 rcases gu (fun i=>decide (t i 0=x)) tn with ⟨k,_,a,_⟩|⟨_,h2⟩
 ·unfold bC; rw[a]; omega
 have:=h2 i b; rw[f_ e]at this; cases this
theorem wz{t:Nat->Nat->Int}{tn:Nat}{x:Int}:bC t tn x<0 <-> ∀ i,i<tn->t i 0≠x:=by
 constructor
 ·intro h i a e;have:=iV.2 ⟨i,a,e⟩; omega
 intro h
 rcases ilt (bC t tn x)with h1|h1
 ·exact h1
 obtain⟨i,a,e⟩:=iV.1 h1;exact N_ e (h i a)
theorem wB{t:Nat->Nat->Int}{tn i:Nat}(c : ∀ i j,i<tn->j<tn->t i 0=t j 0->i=j)(hi:i<tn):bC t tn (t i 0)=(i:Int):=by
 obtain⟨j,b,e,a⟩:=vZ (iV.2 ⟨i,hi,rfl⟩);rw[e,c j i b hi a]
theorem Gb{t:Nat->Nat->Int}{tn:Nat}{x:Int} : ∀ j,aZ t tn (j+1) x=aZ t tn j (aZ t tn 1 x)
 | 0=>rfl
 | j+1=>by
   show t (bC t tn (aZ t tn (j+1) x)).toNat 1=t (bC t tn (aZ t tn j (aZ t tn 1 x))).toNat 1;rw[Gb j]
section
variable {L:eF} {T:Nat}
theorem Inv0.inj(h:Inv0 L T) : ∀ i j,i<L.nn->j<L.nn->L.id i=L.id j->i=j:=fun i j a b e=>by
 rcases Nat.lt_trichotomy i j with h1|h1|h1
 ·have:=h.rise i j h1 b; omega
 ·exact h1
 ·have:=h.rise j i h1 a; omega
theorem Inv0.aja(h:Inv0 L T) : ∀ i j,i<L.tn->j<L.tn->L.t i 0=L.t j 0->i=j:=fun i j a b e=>by
 rw[h.Dm]at a b;rw[(h.tid i a).1,(h.tid j b).1]at e;exact h.inj i j a b e
theorem D6{P Q:Nat->Bool} : ∀ {n:Nat},(∀ i,i<n->P i=Q i)->gV P n=gV Q n
 | 0,_=>rfl
 | n+1,h=>by
   simp only[gV];rw[D6 (n:=n) fun i a=>h i (by omega),h n (by omega)]
theorem Inv0.node(h:Inv0 L T)(x:Int):L.node x=bC L.t L.tn x:=by
 unfold eF.node bC;rw[h.Dm];exact D6 fun i a=>by rw[(h.tid i a).1]
theorem Inv0.w(h:Inv0 L T):aeY L T where
 nn:=by have:=h.nn; omega
 gn:=h.gn
 rn:=h.rn
 tn:=h.node
 dx:=fun x=>by obtain⟨D,b,a⟩:=h.dep x; exact⟨D,by omega,a⟩
 may:=h.may
 kn:=h.kn
theorem Inv0.mono{T':Nat}(h:Inv0 L T)(a:T<=T'):Inv0 L T' := { h with gn:=m_ h.gn a,rn:=fun i b=>m_ (h.rn i b) a }
theorem EX{a:Type}{f:Nat->a}{k i:Nat}{v:a}(h:i<k):cK f k v i=f i:=by unfold cK; rw[d_ h]
theorem dw{a:Type}{f:Nat->a}{k:Nat}{v:a}:cK f k v k=v:=by unfold cK; rw[b_ (by omega),d_ rfl]
theorem EY{a:Type}{f:Nat->a}{k i:Nat}{v:a}(h:k<i):cK f k v i=f (i-1):=by unfold cK; rw[b_ (by omega),b_ (by omega)]
theorem dD{k i n:Nat}(b:k<=n)(hi:i<n+1):i=k \/ ∃ j,j<n/\(∀ {α:Type} (f:Nat->α) (v:α),cK f k v i=f j)/\(j<k->i=j)/\(k<=j->i=j+1):=by
 rcases Nat.lt_trichotomy i k with h|h|h
 ·exact .inr ⟨i,by omega,fun f v=>EX h,fun _=>rfl,fun a=>by omega⟩
 ·exact .inl h
 exact .inr ⟨i-1,by omega,fun f v=>EY h,fun a=>by omega,fun _=>by omega⟩
theorem zi{k j n:Nat}(a:j<n) : ∃ i,i<n+1/\i≠k /\ ∀ {α:Type} (f:Nat->α) (v:α),cK f k v i=f j:=by
 by_cases h:j<k
 ·exact⟨j,by omega,by omega,fun f v=>EX h⟩
 exact⟨j+1,by omega,by omega,fun f v=>by rw[EY (by omega)]; rfl⟩
theorem zR(t:Nat->Nat->Int)(k:Nat)(id par:Int)(i:Nat):pX t k id par i=cK t k (fun j=>if j=0 then id else par) i:=rfl
theorem IB{P Q:Nat->Bool} : ∀ {n:Nat},(∀ i,i<n->P i=Q i)->down P n=down Q n
 | 0,_=>rfl
 | n+1,h=>by
   unfold down;rw[IB (n:=n) fun i a=>h i (by omega),h n (by omega)]
structure qh(t t':Nat->Nat->Int)(tn:Nat)(id par:Int):Prop where
 u : ∀ i j,i<tn->j<tn->t i 0=t j 0->i=j
 u' : ∀ i j,i<tn+1->j<tn+1->t' i 0=t' j 0->i=j
 no : ∀ i,i<tn->t i 0≠id
 old : ∀ i,i<tn -> ∃ j,j<tn+1/\t' j=t i
 new : ∃ j,j<tn+1/\t' j 0=id/\t' j 1=par
 back : ∀ j,j<tn+1->t' j 0=id \/ ∃ i,i<tn/\t' j=t i
variable {t t':Nat->Nat->Int} {tn:Nat} {id par:Int}
theorem qh.find(h:qh t t' tn id par){x:Int}:0<=bC t' (tn+1) x<->(0<=bC t tn x\/x=id):=by
 rw[iV,iV];constructor
 ·rintro ⟨j,b,e⟩
  rcases h.back j b with a|⟨i,hi,a⟩
  ·exact .inr (e.symm.trans a)
  exact .inl ⟨i,hi,by rw[<- a]; exact e⟩
 rintro (⟨i,hi,e⟩|e)
 ·obtain⟨j,b,a⟩:=h.old i hi;exact⟨j,b,by rw[a]; exact e⟩
 obtain⟨j,b,a,_⟩:=h.new;exact⟨j,b,a.trans e.symm⟩
theorem qh.ZC(h:qh t t' tn id par){x:Int}(hx:0<=bC t tn x):t' (bC t' (tn+1) x).toNat 1=t (bC t tn x).toNat 1:=by
 obtain⟨i,b,e⟩:=iV.1 hx;obtain⟨j,f,a⟩:=h.old i b;have c:bC t tn x=(i:Int):=by rw[<- e]; exact wB h.u b
 have d:bC t' (tn+1) x=(j:Int):=by
  have:t' j 0=x:=by rw[a]; exact e
  rw[<- this]; exact wB h.u' f
 rw[c,d];show t' j 1=t i 1;rw[a]
theorem qh.iter(h:qh t t' tn id par){x:Int} : ∀ K,(∀ i,i<K->0<=bC t tn (aZ t tn i x))->aZ t' (tn+1) K x=aZ t tn K x
 | 0,_=>rfl
 | K+1,hk=>by
   have a:=qh.iter h K fun i b=>hk i (by omega);show t' (bC t' (tn+1) (aZ t' (tn+1) K x)).toNat 1=t (bC t tn (aZ t tn K x)).toNat 1;rw[a]; exact h.ZC (hk K (by omega))
theorem wC{t:Nat->Nat->Int}{tn:Nat}{x:Int} : ∀ D,bC t tn (aZ t tn D x)<0 -> ∃ K,K<=D/\bC t tn (aZ t tn K x)<0 /\ ∀ i,i<K->0<=bC t tn (aZ t tn i x)
 | 0,h=>⟨0,A_ _,h,fun _ a=>N_ a (z_ _)⟩
 | D+1,h=>by
   by_cases f : ∀ i,i<D+1->0<=bC t tn (aZ t tn i x)
   ·exact⟨D+1,A_ _,h,f⟩
   ·obtain⟨i,a⟩:=Classical.not_forall.1 f;obtain⟨a,o⟩:=Classical.not_imp.1 a
    rcases Nat.lt_or_ge i D with h3|h3
    ·-- an earlier end
     have : ∀ n,n<=D->(∃ j,j<=n/\bC t tn (aZ t tn j x)<0) -> ∃ K,K<=n/\bC t tn (aZ t tn K x)<0 /\ ∀ i,i<K->0<=bC t tn (aZ t tn i x):=by
      intro n
      induction n with
      | zero=>rintro _ ⟨j,m,k⟩; obtain rfl:j=0:=by omega
              exact⟨0,A_ _,k,fun _ a=>N_ a (z_ _)⟩
      | succ n ih =>
        rintro k ⟨j,m,g⟩;by_cases c : ∃ j,j<=n/\bC t tn (aZ t tn j x)<0
        ·obtain⟨K,d,l⟩:=ih (by omega) c; exact⟨K,by omega,l⟩
        ·refine⟨n+1,A_ _,?_,fun i a => ?_⟩
         ·by_cases e:j=n+1
          ·rw[<- e]; exact g
          ·exact N_ ⟨j,by omega,g⟩ c
         ·rcases ilt (bC t tn (aZ t tn i x))with h7|h7
          ·exact N_ ⟨i,by omega,h7⟩ c
          ·exact h7
     obtain⟨K,d,b⟩:=this i (by omega) ⟨i,A_ _,by omega⟩;exact⟨K,by omega,b⟩
    ·obtain rfl:i=D:=(by omega);obtain⟨K,d,b⟩:=wC (t:=t) (tn:=tn) (x:=x) i (by omega);exact⟨K,by omega,b⟩
theorem qh.dep(h:qh t t' tn id par)(z:1<=id)(v : ∀ i,i<tn->t i 1=0\/0<=bC t tn (t i 1))(s:par=0\/0<=bC t tn par)(B:bC t tn 0<0)(o : ∀ x,∃ D,D<=4/\bC t tn (aZ t tn D x)<0)(p : ¬ DY t tn par) :
 ∀ x,∃ D,D<=4/\bC t' (tn+1) (aZ t' (tn+1) D x)<0:=by
 have A:bC t tn id<0:=wz.2 h.no;have k : ∀ x K,x≠id->bC t tn (aZ t tn K x)<0->(∀ i,i<K->0<=bC t tn (aZ t tn i x))->bC t' (tn+1) (aZ t' (tn+1) K x)<0:=fun x K c f a=>by
  rw[h.iter K a]
  rcases ilt (bC t' (tn+1) (aZ t tn K x))with h1|h1
  ·exact h1
  ·exfalso
   rcases h.find.1 h1 with h2|h2
   ·omega
   ·cases K with
    | zero=>exact c h2
    | succ K =>
      have q:=a K (by omega);obtain⟨i,b,e⟩:=iV.1 q;have d:aZ t tn (K+1) x=t i 1:=by
       show t (bC t tn (aZ t tn K x)).toNat 1=t i 1;rw[<- e,wB h.u b]; rfl
      rw[d]at h2 f
      rcases v i b with h4|h4
      ·omega
      ·omega
 intro x;by_cases c:x=id
 ·subst c;obtain⟨i,b⟩:=Classical.not_forall.1 p;obtain⟨y,b⟩:=Classical.not_imp.1 b;obtain⟨K,f,g,a⟩:=wC (t:=t) (tn:=tn) (x:=par) i (by omega);refine⟨K+1,by omega,?_⟩;have l:aZ t' (tn+1) 1 x=par:=by
   obtain⟨j,r,m,d⟩:=h.new;show t' (bC t' (tn+1) x).toNat 1=par;rw[<- m,wB h.u' r]; exact d
  rw[Gb,l];refine k par K ?_ g a;rintro rfl
  rcases s with h1|h1 <;> omega
 obtain⟨D,w,n⟩:=o x;obtain⟨K,f,g,a⟩:=wC D n;exact⟨K,by omega,k x K c g a⟩
end
end Rt
end
section
namespace Rt
section
variable {L:eF} {T:Nat} {v:EvM}
theorem ZE{t:Nat->Nat->Int}{tn:Nat}{id par:Int}(h:jM t tn id par=0):id≠0/\bC t tn id<0/\(par=0\/0<=bC t tn par)/\tn<32 /\ ¬ DY t tn par:=by
 unfold jM at h;split at h; · cases h
 rename_i h1;split at h; · cases h
 rename_i h2;split at h; · cases h
 rename_i h3;split at h; · cases h
 rename_i h4;refine⟨h1,by omega,?_,?_,fun b=>h4 (.inr b)⟩
 ·rcases ilt (bC t tn par)with h5|h5
  ·by_cases a:par=0
   ·exact .inl a
   exact N_ ⟨a,h5⟩ h3
  exact .inr h5
 rcases Nat.lt_or_ge tn 32 with h5|h5
 ·exact h5
 exact N_ (Or.inl h5) h4
theorem nI(h:bR v=true):1<=v.o/\v.o<=6/\1<=v.seq/\v.seq<1099511627776:=by
 have a:=je h;have b:=EM h;unfold jy at a;simp only[T_,decide_eq_true_eq]at a;exact⟨a.1,a.2,b.1,b.2⟩
theorem sG(h:bR v=true):jE v.o v.seq=1099511627776*v.o+v.seq:=by
 have:=nI h;unfold jE; rw[d_ (by omega)]
theorem mh(h:bR v=true):aP v<6:=by
 have:=nI h; unfold aP; omega
theorem ZF{a:Nat}{n:Int}(ha:a<6)(f:0<=n)(h1:n<=1125899906842624):may (upd (fun _=>0) a n)=true:=by
 have e : ∀ p,upd (fun _=>0) a n p=if p=a then n else 0:=fun p=>rfl;rw[jO];refine⟨fun p l => ?_,fun k h => ?_,?_⟩
 ·rw[e]; split <;> omega
 ·have b : ∀ i j,R (upd (fun _=>0) a n) i j=0:=fun i j=>by unfold R; rw[e,b_ (by omega)]
  refine⟨?_,?_,b k k⟩
  ·unfold L;simp only[b];have g:0<=G (upd (fun _=>0) a n) k:=by unfold G; rw[e]; split <;> omega
   have d:F (upd (fun _=>0) a n) k=0:=(by unfold F; rw[e,b_ (by omega)]);have c:C (upd (fun _=>0) a n) k=0:=(by unfold C; rw[e,b_ (by omega)]);omega
  have d:F (upd (fun _=>0) a n) k=0:=by unfold F; rw[e,b_ (by omega)]
  have c:C (upd (fun _=>0) a n) k=0:=by unfold C; rw[e,b_ (by omega)]
  omega
 unfold tL G;simp only[e];have:(if 0=a then n else 0)+(if 1=a then n else 0)+(if 2=a then n else 0)+(if 3=a then n else 0)+(if 4=a then n else 0)+(if 5=a then n else 0)=n:=six a ha n;omega
theorem xP(h:Inv0 L T)(d:bR v=true)(F:v.kind=1)(f:kP L v=0) : ∃ k,k<=L.nn/\1<=jE v.o v.seq/\L.nn<32/\(0<=v.aT/\v.aT<=140737488355328)/\(v.node=0\/0<=bC L.t L.tn v.node) /\ ¬ DY L.t L.tn v.node /\
 rG L v = { L with nn:=L.nn+1,id:=cK L.id k (jE v.o v.seq),par:=cK L.par k v.node,R:=cK L.R k (upd (fun _=>0) (aP v) v.aT),tn:=L.tn+1,t:=pX L.t k (jE v.o v.seq) v.node } /\
 (∀ i j,i<j->j<L.nn+1->cK L.id k (jE v.o v.seq) i<cK L.id k (jE v.o v.seq) j)/\(∀ i,i<L.nn+1->pX L.t k (jE v.o v.seq) v.node i 0=cK L.id k (jE v.o v.seq) i/\pX L.t k (jE v.o v.seq) v.node i 1=cK L.par k v.node i) /\
 qh L.t (pX L.t k (jE v.o v.seq) v.node) L.tn (jE v.o v.seq) v.node:=by
 unfold kP at f;split at f
 ·cases f
 rename_i h47;obtain⟨K,s,w,M,y⟩:=ZE f;have S:=nI d;have U:=sG d;have W:=mh d;have D:0<=v.aT/\v.aT<=140737488355328:=by
  have Q : ¬ 140737488355328<v.aT:=fun h=>h47 (.inr h);unfold bR at d;simp only[T_]at d;have l:=d.2;unfold dH at l;rw[d_ F]at l;simp only[T_,decide_eq_true_eq]at l;omega
 generalize hx:jE v.o v.seq=x at *;have J:1<=x:=by omega
 have A:down (fun i=>decide (x<L.t i 0)) L.tn=tN L.id L.nn x:=by
  unfold tN; rw[h.Dm]; exact IB fun i a=>by rw[(h.tid i a).1]
 have z:rG L v = { L with nn:=L.nn+1,id:=cK L.id (tN L.id L.nn x) x,par:=cK L.par (tN L.id L.nn x) v.node,R:=cK L.R (tN L.id L.nn x) (upd (fun _=>0) (aP v) v.aT),tn:=L.tn+1,t:=pX L.t (tN L.id L.nn x) x v.node }:=by
  unfold rG; rw[hx,A]; rfl
 generalize hkk:tN L.id L.nn x=k at *;have c:k<=L.nn:=by rw[<- hkk]; exact Fx.rZ _ _
 have G : ∀ i,i<L.nn->L.id i≠x:=fun i a e=>wz.1 s i (by rw[h.Dm]; exact a) (by rw[(h.tid i a).1]; exact e);have C : ∀ q,k<=q->q<L.nn->x<L.id q:=fun q b g=>by
  have:=Fx.Ju (P:=fun i=>decide (x<L.id i)) (n:=L.nn) (i:=q) (by show tN L.id L.nn x<=q; omega) g;exact h_ this
 have B : ∀ q,q<k->L.id q<x:=fun q b=>by
  obtain⟨j,rfl⟩ : ∃ j,k=j+1:=⟨k-1,by omega⟩;have g:=Fx.Jv (P:=fun i=>decide (x<L.id i)) (n:=L.nn) (j:=j) hkk;have N : ¬ x<L.id j:=j_ g;have O:=G j (by omega);by_cases e:q=j
  ·subst e; omega
  ·have:=h.rise q j (by omega) (by omega); omega
 have H:L.nn<32:=by have:=h.Dm; omega
 have m : ∀ i j,i<j->j<L.nn+1->cK L.id k x i<cK L.id k x j:=fun i j V hj=>by
  rcases dD c (show i<L.nn+1 by omega)with rfl|⟨q,hq,eq,q1,q2⟩
  ·rcases dD c hj with rfl|⟨r,hr,er,r1,r2⟩
   ·omega
   ·rw[dw,er];exact C r (by omega) hr
  ·rcases dD c hj with rfl|⟨r,hr,er,r1,r2⟩
   ·rw[dw,eq];exact B q (by omega)
   ·rw[eq,er];exact h.rise q r (by omega) hr
 have p : ∀ i,i<L.nn+1->pX L.t k x v.node i 0=cK L.id k x i/\pX L.t k x v.node i 1=cK L.par k v.node i:=fun i a=>by
  rw[zR]
  rcases dD c a with rfl|⟨q,hq,eq,_,_⟩
  ·rw[dw,dw,dw]; exact⟨rfl,rfl⟩
  ·rw[eq,eq,eq]; exact h.tid q hq
 have E : ∀ i j,i<L.nn+1->j<L.nn+1->cK L.id k x i=cK L.id k x j->i=j:=fun i j a hj e=>by
  rcases Nat.lt_trichotomy i j with b|b|b
  ·have:=m i j b hj; omega
  ·exact b
  ·have:=m j i b a; omega
 have I:qh L.t (pX L.t k x v.node) L.tn x v.node := {
  u:=h.aja
  u':=fun i j a hj e=>by
   rw[h.Dm]at a hj;rw[(p i a).1,(p j hj).1]at e;exact E i j a hj e
  no:=wz.1 s
  old:=fun i a=>by
   obtain⟨j,hj,_,e⟩:=zi (k:=k) a;exact⟨j,hj,by rw[zR]; exact e L.t _⟩
  new:=⟨k,by have:=h.Dm; omega,by rw[zR,dw]; rfl,by rw[zR,dw]; rfl⟩
  back:=fun j hj=>by
   rw[h.Dm]at hj
   rcases dD c hj with rfl|⟨q,hq,eq,_,_⟩
   ·exact .inl (by rw[zR,dw]; rfl)
   ·exact .inr ⟨q,by rw[h.Dm]; exact hq,by rw[zR]; exact eq L.t _⟩ }
 exact⟨k,c,J,H,D,w,y,z,m,p,I⟩
theorem RI(h:Inv0 L T)(c:bR v=true)(w:v.kind=1)(r:kP L v=0):Inv0 (rG L v) (T+1):=by
 obtain⟨k,a,m,K,s,g,n,p,B,E,F⟩:=xP h c w r;have I:=nI c;have J:=sG c;have C:=mh c;rw[p];generalize hx:jE v.o v.seq=x at *;have z : ∀ j,j<L.nn -> ∃ i,i<L.nn+1/\cK L.id k x i=L.id j:=fun j hj=>by
  obtain⟨i,hi,_,e⟩:=zi (k:=k) hj;exact⟨i,hi,e L.id x⟩
 have H:bC L.t L.tn 0<0:=wz.2 fun i hi e=>by
  rw[h.Dm]at hi;rw[(h.tid i hi).1]at e;have:=h.pos i hi; omega
 have A:v.node=0 \/ ∃ j,j<L.nn/\L.id j=v.node:=by
  rcases g with e|e
  ·exact .inl e
  ·obtain⟨i,hi,d⟩:=iV.1 e;rw[h.Dm]at hi;exact .inr ⟨i,hi,by rw[<- (h.tid i hi).1]; exact d⟩
 exact {
  Dm:=by show L.tn+1=L.nn+1; rw[h.Dm]
  nn:=by show L.nn+1<=32; omega
  tid:=E
  rise:=B
  pos:=fun i hi=>by
   show 1<=cK L.id k x i
   rcases dD a hi with rfl|⟨q,hq,eq,_,_⟩
   ·rw[dw]; exact m
   ·rw[eq]; exact h.pos q hq
  top:=fun i hi=>by
   show cK L.id k x i<_
   rcases dD a hi with rfl|⟨q,hq,eq,_,_⟩
   ·rw[dw]; omega
   ·rw[eq]; exact h.top q hq
  up:=fun i hi=>by
   show cK L.par k v.node i=0 \/ ∃ j,j<L.nn+1/\cK L.id k x j=cK L.par k v.node i;have l : ∀ y,(y=0 \/ ∃ j,j<L.nn/\L.id j=y)->(y=0 \/ ∃ j,j<L.nn+1/\cK L.id k x j=y):=fun y G=>G.imp id fun⟨j,hj,e⟩=>by
    obtain⟨i,hi,d⟩:=z j hj;exact⟨i,hi,d.trans e⟩
   rcases dD a hi with rfl|⟨q,hq,eq,_,_⟩
   ·rw[dw]; exact l _ A
   ·rw[eq]; exact l _ (h.up q hq)
  dep:=by
   show ∀ y,∃ D,D<=4/\bC (pX L.t k x v.node) (L.tn+1) (aZ (pX L.t k x v.node) (L.tn+1) D y)<0;refine F.dep m (fun i hi => ?_) g H h.dep n;have f:=hi;rw[h.Dm]at f;rw[(h.tid i f).2]
   rcases h.up i f with e|⟨j,hj,e⟩
   ·exact .inl e
   ·exact .inr (iV.2 ⟨j,by rw[h.Dm]; exact hj,by rw[(h.tid j hj).1]; exact e⟩)
  gn:=Nat.le_succ_of_le h.gn
  rn:=fun i hi=>Nat.le_succ_of_le (h.rn i hi)
  may:=fun i hi=>by
   show may (cK L.R k _ i)=true
   rcases dD a hi with rfl|⟨q,hq,eq,_,_⟩
   ·rw[dw]; exact ZF C s.1 (by omega)
   ·rw[eq]; exact h.may q hq
  g47:=fun i hi b u=>by
   show cK L.R k _ i b<=_
   rcases dD a hi with rfl|⟨q,hq,eq,_,_⟩
   ·rw[dw];show(if b=aP v then v.aT else 0)<=_;split <;> omega
   ·rw[eq]; exact h.g47 q hq b u
  kn:=h.kn }
theorem IC{b:eF}{T':Nat}(h:Inv0 L T)(c:b.nn=L.nn)(d:b.id=L.id)(f:b.par=L.par)(g:b.tn=L.tn)(j:b.t=L.t)(m:b.known=L.known)(n:b.gn<=T')(hr : ∀ i,i<6->b.rn i<=T')
 (l : ∀ k,k<L.nn->may (b.R k)=true /\ ∀ a,a<6->b.R k a<=140737488355328):Inv0 b T' where
 Dm:=by rw[c,g]; exact h.Dm
 nn:=by rw[c]; exact h.nn
 tid:=by rw[c,d,f,j]; exact h.tid
 rise:=by rw[c,d]; exact h.rise
 pos:=by rw[c,d]; exact h.pos
 top:=by rw[c,d]; exact h.top
 up:=by rw[c,d,f]; exact h.up
 dep:=by rw[g,j]; exact h.dep
 gn:=n
 rn:=hr
 may:=by rw[c]; exact fun k e=>(l k e).1
 g47:=by rw[c]; exact fun k e=>(l k e).2
 kn:=by rw[m]; exact h.kn
def uZ(x:Nat->Int):Prop:=may x=true /\ ∀ a,a<6->x a<=140737488355328
theorem Gc{f:(Nat->Int)->(Nat->Int) × Int}{idx:Nat->Nat}{R:Nat->Nat->Int}{n:Nat}(g : ∀ x,uZ x->(f x).2=0->uZ (f x).1)(d : ∀ k,k<n->uZ (R k)) : ∀ K k,k<n->uZ ((dz f idx R K).1 k)
 | 0,k,hk=>d k hk
 | K+1,k,hk=>by
   have a:=Gc g d (idx:=idx) K;unfold dz;by_cases e:(dz f idx R K).2=0
   ·rw[d_ e];by_cases b:(f ((dz f idx R K).1 (idx K))).2=0
    ·rw[d_ b];show uZ (if k=idx K then _ else _);by_cases c:k=idx K
     ·rw[d_ c]; exact g _ (by rw[<- c]; exact a k hk) b
     ·rw[b_ c]; exact a k hk
    ·rw[b_ b]; exact a k hk
   ·rw[b_ e]; exact a k hk
theorem ZG{x:Nat->Int}{i n:Int}(h:uZ x)(c:(bF x i n).2=0):uZ (bF x i n).1:=by
 obtain⟨a,g,_,_,_,_,_,f,_,_,_,e⟩:=JV c;exact⟨f,fun b d=>by rw[e,gU _ _ _ _ (by omega)]; exact h.2 b d⟩
theorem ZH{x:Nat->Int}{i n:Int}(h:uZ x)(c:(bH x i n).2=0):uZ (bH x i n).1:=by
 obtain⟨a,g,_,_,_,_,f,_,_,_,e⟩:=JW c;exact⟨f,fun b d=>by rw[e,gU _ _ _ _ (by omega)]; exact h.2 b d⟩
theorem ZI{x:Nat->Int}{i j n:Int}(h:uZ x)(d:(dA x i j n).2=0):uZ (dA x i j n).1:=by
 obtain⟨a,b,k,l,_,_,_,_,_,_,g,e⟩:=Cg d;exact⟨g.may,fun c f=>by rw[e,gU _ _ _ _ (by omega)]; exact h.2 c f⟩
theorem VT{x:Nat->Int}{a:Nat}{n:Int}(ha:a<6)(h:uZ x)(s:0<=n)(q : ¬ 140737488355328<x a+n):uZ (upd x a (x a+n)):=by
 have d:=(jO x).1 h.1;have e : ∀ p,upd x a (x a+n) p=if p=a then x a+n else x p:=fun p=>rfl;have t:=d.1 a (by omega);have c : ∀ b,b<6->upd x a (x a+n) b<=140737488355328:=fun b l=>by
  rw[e]; split
  ·omega
  ·exact h.2 b l
 refine⟨(jO _).2 ⟨fun p o => ?_,fun k m => ?_,?_⟩,c⟩
 ·have:=d.1 p o;rw[e]; split <;> omega
 ·obtain⟨r,i,j⟩:=d.2.1 k m;have f:C (upd x a (x a+n)) k=C x k:=by unfold C; rw[e,b_ (by omega)]
  have g:F (upd x a (x a+n)) k=F x k:=by unfold F; rw[e,b_ (by omega)]
  refine⟨?_,?_,?_⟩
  ·rw[Vv x a (by omega),f,g,aiH]; split <;> omega
  ·rw[f,g]; exact i
  unfold R; rw[e,b_ (by omega)]; exact j
 unfold tL G;have:=c 0 (by omega); have:=c 1 (by omega); have:=c 2 (by omega); have:=c 3 (by omega); have:=c 4 (by omega); have:=c 5 (by omega);omega
theorem Inv0.LM(h:Inv0 L T) : ∀ k,k<L.nn->uZ (L.R k):=fun k a=>⟨h.may k a,h.g47 k a⟩
theorem PS(h:Inv0 L T)(a:Nat) : ∀ i,i<6->aI L.rn a (L.rn a+1) i<=T+1:=fun i b=>by
 unfold aI;by_cases e:i=a
 ·subst e; rw[d_ rfl]; have:=h.rn i b; omega
 ·rw[b_ e]; have:=h.rn i b; omega
theorem PU{q:Nat}{r:Nat->Int}(h : ∀ k,k<L.nn->uZ (L.R k))(hr:uZ r) : ∀ k,k<L.nn->uZ (aI L.R q r k):=fun k a=>by
 unfold aI; split
 ·exact hr
 ·exact h k a
theorem Inv0.PV(h:Inv0 L T){x:Int}(hx : ¬ L.node x<0):(L.node x).toNat<L.nn:=by
 rw[h.node]at hx ⊢;obtain⟨j,a,e,_⟩:=vZ (show 0<=bC L.t L.tn x by omega);rw[e]; have:=h.Dm; simp; omega
theorem RJ(h:Inv0 L T)(a : ∀ k,k<L.nn->uZ ((nH L v).1 k)):Inv0 (gJ L v) (T+1):=by
 unfold gJ rO;generalize nH L v=W at a;exact IC h rfl rfl rfl rfl rfl rfl (Nat.succ_le_succ h.gn) (PS h _) a
theorem RL(h:Inv0 L T)(a : ∀ k,k<L.nn->uZ ((mJ L v).1 k)):Inv0 (eY L v) (T+1):=by
 unfold eY rO;generalize mJ L v=W at a;exact IC h rfl rfl rfl rfl rfl rfl (Nat.le_succ_of_le h.gn) (PS h _) a
theorem VU(h:Inv0 L T)(f:bR v=true)(a:dQ L v=0):Inv0 (fT L v) (T+1):=by
 have q:=jB f;have o:=mh f;have e:=h.gn;have d : ∀ i,i<6->L.rn i<=T+1:=fun i n=>Nat.le_succ_of_le (h.rn i n);unfold dQ at a;unfold fT;by_cases b:v.kind=1
 ·rw[d_ b]at a ⊢; exact RI h f b a
 by_cases c:v.kind=2
 ·rw[b_ b,d_ c]at a ⊢;unfold xO at a;split at a; · cases a
  rename_i n1;split at a; · cases a
  rename_i n2;have p:=lJ f (.inl c);exact IC h rfl rfl rfl rfl rfl rfl (Nat.le_succ_of_le e) d (PU h.LM (VT o (h.LM _ (h.PV n1)) (by omega) n2))
 by_cases g:v.kind=3
 ·rw[b_ b,b_ c,d_ g]at a ⊢;have j : ∀ k,k<L.nn->uZ ((nH L v).1 k):=by unfold nH; exact Gc (fun x=>ZG) h.LM _
  exact RJ h j
 by_cases l:v.kind=4
 ·rw[b_ b,b_ c,b_ g,d_ l]at a ⊢;have j : ∀ k,k<L.nn->uZ ((mJ L v).1 k):=by unfold mJ; exact Gc (fun x=>ZH) h.LM _
  exact RL h j
 by_cases m:v.kind=5
 ·rw[b_ b,b_ c,b_ g,b_ l,d_ m]at a ⊢;unfold qg at a;split at a; · cases a
  rename_i n1;split at a; · cases a
  exact IC h rfl rfl rfl rfl rfl rfl (Nat.le_succ_of_le e) d (PU h.LM (ZI (h.LM _ (h.PV n1)) a))
 rw[b_ b,b_ c,b_ g,b_ l,b_ m];split
 ·exact IC h rfl rfl rfl rfl rfl rfl (Nat.le_succ_of_le e) d h.LM
 exact IC h rfl rfl rfl rfl rfl rfl (Nat.le_succ_of_le e) d h.LM
theorem Bo(h:Inv0 L T):Inv0 (bP L v) (T+1):=by
 unfold bP;by_cases a:bD L v=0
 ·rw[d_ a];unfold bD at a;split at a; · cases a
  rename_i h1;split at a; · cases a
  split at a; · cases a
  rename_i h3;split at a; · cases a
  have b:bR v=true:=by simpa using h1
  have c:dG L.known v=true:=by simpa using h3
  have g:=VU h b a;have k:=mh b;have m:=EM b;refine { g with kn:=fun i j => ?_ };have e:(Iz (fT L v) v).known=aI L.known (aP v) (L.known (aP v)+1):=by unfold Iz; simp only[qF]
  rw[e];unfold dG at c;simp only[T_,decide_eq_true_eq]at c;have d:=h.kn;unfold aI;split
  ·have f:=c.1.2;have l:v.seq=L.known (aP v)+1:=f;have:=d (aP v) k;omega
  exact d i j
 rw[b_ a]; exact h.mono (Nat.le_succ T)
end
end Rt
end
section
namespace Rt
def J2(t:Nat->Nat->Int)(tn:Nat)(x y:Int):Nat->Int
 | 0=>0
 | k+1=>J2 t tn x y k+if aZ t tn k x=y then 1 else 0
def Dn(t:Nat->Nat->Int)(tn:Nat)(x y:Int):Int:=J2 t tn x y (bO t tn x)
def qG(t:Nat->Nat->Int)(tn:Nat)(g:Nat->Int)(y:Int):Int:=if g 4=0 then g 3*Dn t tn (g 2) y else 0
def pF(t:Nat->Nat->Int)(tn:Nat)(g:Nat->Nat->Int)(y:Int):Nat->Int
 | 0=>0
 | q+1=>pF t tn g y q+qG t tn (g q) y
structure Bp(L:eF):Prop where
 us : ∀ k,k<L.nn->oD (L.R k)=pF L.t L.tn L.g (L.id k) L.gn
 gb : ∀ q,q<L.gn->0<=bC L.t L.tn (L.g q 2)/\1<=L.g q 0/\L.g q 0<=6/\0<=L.g q 3/\L.g q 3<=1125899906842624
structure sH(v:EvM):Prop where
 aT:v.aT<=65536
 req:v.req<=256
structure RN(L:eF)(T:Nat):Prop where
 kt : ∀ i,i<6->L.known i<=T
 rb : ∀ k,k<L.nn -> ∀ a,a<54->L.R k a<=2097152*T
 rq : ∀ i,i<6 -> ∀ j,j<L.rn i->L.rq i j<=256
structure Inv(L:eF)(T:Nat):Prop extends Inv0 L T where
 s:Bp L
 b:RN L T
section
variable {L:eF} {T:Nat} {v:EvM}
theorem J3{P:Nat->Bool} : ∀ {n i:Nat},i<lead P n->P i=true
 | 0,i,h=>N_ h (z_ _)
 | n+1,i,h=>by
   unfold lead at h;by_cases e:lead P n=n/\P n=true
   ·rw[d_ e]at h;by_cases a:i=n
    ·rw[a]; exact e.2
    ·exact J3 (n:=n) (by omega)
   ·rw[b_ e]at h; exact J3 h
theorem Ci{t:Nat->Nat->Int}{tn i:Nat}{x:Int}(h:i<bO t tn x):0<=bC t tn (aZ t tn i x):=h_ (J3 (P:=fun i=>decide (0<=bC t tn (aZ t tn i x))) h)
theorem zS{t t':Nat->Nat->Int}{tn b:Nat}{g a:Nat->Nat->Int}{y c:Int} : ∀ n,(∀ q,q<n->qG t' b (a q) c=qG t tn (g q) y)->pF t' b a c n=pF t tn g y n
 | 0,_=>rfl
 | n+1,h=>by unfold pF; rw[zS n fun q d=>h q (by omega),h n (by omega)]
theorem IE{t:Nat->Nat->Int}{tn:Nat}{g:Nat->Nat->Int}{y:Int} : ∀ n,(∀ q,q<n->qG t tn (g q) y=0)->pF t tn g y n=0
 | 0,_=>rfl
 | n+1,h=>by unfold pF; rw[IE n fun q a=>h q (by omega),h n (by omega)]; rfl
theorem LP{t:Nat->Nat->Int}{tn k:Nat}{g:Nat->Nat->Int}{x:Nat->Int}{y:Int} : ∀ n,k<n->pF t tn (aI g k x) y n=pF t tn g y n-qG t tn (g k) y+qG t tn x y
 | 0,h=>N_ h (z_ _)
 | n+1,h=>by
   unfold pF;by_cases e:k=n
   ·subst e;rw[zS (t:=t) (tn:=tn) (g:=g) (y:=y) k fun q a=>by unfold aI; rw[b_ (by omega)]];unfold aI; rw[d_ rfl]; omega
   ·rw[LP n (by omega)];have:aI g k x n=g n:=b_ (fun h=>e h.symm);rw[this]; omega
theorem LQ{t:Nat->Nat->Int}{tn k:Nat}{g:Nat->Nat->Int}{x:Nat->Int}{y:Int} : ∀ n,k<=n->pF t tn (cK g k x) y (n+1)=pF t tn g y n+qG t tn x y
 | 0,h=>by
   obtain rfl:k=0:=(by omega);show(0:Int)+qG t tn (cK g 0 x 0) y=0+_;rw[dw]
 | n+1,h=>by
   by_cases e:k=n+1
   ·subst e;show pF t tn (cK g (n+1) x) y (n+1)+qG t tn (cK g (n+1) x (n+1)) y=_;rw[dw,zS (t:=t) (tn:=tn) (g:=g) (y:=y) (n+1) fun q a=>by rw[EX a]]
   ·show pF t tn (cK g k x) y (n+1)+qG t tn (cK g k x (n+1)) y=pF t tn g y n+qG t tn (g n) y+_;rw[LQ n (by omega),EY (by omega),Nat.add_sub_cancel]; omega
def VW(idx:Nat->Nat)(k:Nat):Nat->Int
 | 0=>0
 | j+1=>VW idx k j+if idx j=k then 1 else 0
theorem Dp{f:(Nat->Int)->(Nat->Int) × Int}{idx:Nat->Nat}{R:Nat->Nat->Int}{d:Int}(e : ∀ x,(f x).2=0->oD (f x).1=oD x+d) : ∀ K,(dz f idx R K).2=0 -> ∀ k,oD ((dz f idx R K).1 k)=oD (R k)+d*VW idx k K
 | 0,_,k=>by show oD (R k)=oD (R k)+d*0; omega
 | K+1,h,k=>by
   unfold dz at h ⊢;by_cases a:(dz f idx R K).2=0
   ·have g:=Dp e K a k;rw[d_ a]at h ⊢;by_cases b:(f ((dz f idx R K).1 (idx K))).2=0
    ·rw[d_ b];show oD (aI _ (idx K) _ k)=_;unfold aI VW;rw[Int.mul_add];by_cases c:k=idx K
     ·subst c;rw[d_ rfl,d_ rfl,e _ b,g]; omega
     ·rw[b_ c,b_ (fun h=>c h.symm),g]; omega
    ·rw[b_ b]at h; exact N_ h b
   ·rw[b_ a]at h; exact N_ h a
theorem NY{t:Nat->Nat->Int}{tn k:Nat}{x y:Int}{idx:Nat->Nat} : ∀ K,(∀ i,i<K->(idx i=k<->aZ t tn i x=y))->VW idx k K=J2 t tn x y K
 | 0,_=>rfl
 | K+1,h=>by
   unfold VW J2;rw[NY K fun i b=>h i (by omega)];by_cases e:idx K=k
   ·rw[d_ e,d_ ((h K (by omega)).1 e)]
   ·rw[b_ e,b_ (fun a=>e ((h K (by omega)).2 a))]
theorem EZ(h:Inv0 L T){x:Int}{i k:Nat}(g:k<L.nn)(hi:i<bO L.t L.tn x):pz L x i=k<->aZ L.t L.tn i x=L.id k:=by
 obtain⟨j,f,e,c⟩:=vZ (Ci hi);have b:j<L.nn:=by rw[<- h.Dm]; exact f
 have l:pz L x i=j:=by unfold pz; rw[h.node,e]; rfl
 rw[l];have a:L.id j=aZ L.t L.tn i x:=by rw[<- (h.tid j b).1]; exact c
 constructor
 ·rintro rfl; exact a.symm
 intro d; exact h.inj j k b g (a.trans d)
theorem LU{x:Nat->Int}{a:Nat}{n:Int}(ha:a<6):oD (upd x a n)=oD x:=by
 have b : ∀ k,C (upd x a n) k=C x k:=fun k=>gU _ _ _ _ (by omega);have c : ∀ k,F (upd x a n) k=F x k:=fun k=>gU _ _ _ _ (by omega);unfold oD; simp only[b,c]
theorem VX(h:bR v=true)(b:v.kind=4):1<=v.req:=by
 unfold bR at h;simp only[T_]at h;have a:=h.2;unfold dH at a;rw[b_ (by omega),b_ (by omega),b_ (by omega),d_ b]at a;simp only[T_,decide_eq_true_eq]at a;exact a.1.1
theorem aeZ{n k:Nat}{g:Nat->Nat->Int}{x:Nat->Int}(a:k<=n)(P:(Nat->Int)->Prop)(h : ∀ q,q<n->P (g q))(hx:P x) : ∀ q,q<n+1->P (cK g k x q):=fun q b=>by
 rcases dD a b with rfl|⟨j,hj,e,_,_⟩
 ·rw[dw]; exact hx
 ·rw[e]; exact h j hj
attribute [local irreducible] bO in
theorem NZ(j:Inv0 L T)(h:Bp L)(e:bR v=true)(b:v.kind=3)(a:iP L v=0):Bp (gJ L v):=by
 unfold iP at a;split at a; · cases a
 split at a; · cases a
 rename_i hp;have c:=nI e;have l:=lJ e (.inr (.inl b));unfold gJ rO;have p:=Dp (f:=fun x=>bF x v.o v.aT) (idx:=pz L v.node) (R:=L.R) (d:=v.aT) (fun x s=>by obtain⟨_,_,_,_,_,_,_,_,_,_,r,_⟩:=JV s; exact r) _ a;refine⟨fun k b => ?_,fun q n => ?_⟩
 ·show oD ((nH L v).1 k)=pF L.t L.tn (cK L.g (down (fun i=>CG v (L.g i)) L.gn) (oI v)) (L.id k) (L.gn+1);rw[LQ _ (Fx.rZ _ _)];have:=p k;rw[show qG L.t L.tn (oI v) (L.id k)=v.aT*Dn L.t L.tn v.node (L.id k)from rfl,<- h.us k b];unfold Dn;rw[<- NY (idx:=pz L v.node) (k:=k) _ fun i m=>EZ j b m];exact this
 exact aeZ (Fx.rZ _ _) (fun y=>0<=bC L.t L.tn (y 2)/\1<=y 0/\y 0<=6/\0<=y 3/\y 3<=1125899906842624) h.gb
  ⟨Ci (i:=0) (x:=v.node) (by omega),c.1,c.2.1,by show 0<=v.aT; omega,l.2⟩ q n
attribute [local irreducible] bO in
theorem N7(s:Inv0 L T)(h:Bp L)(z:bR v=true)(c:v.kind=4)(b:gW L v=0):Bp (eY L v):=by
 unfold gW at b;split at b; · cases b
 split at b; · cases b
 rename_i l;have F:=VX z c
 have E:0<=L.grant v.o v.of:=by rcases ilt (L.grant v.o v.of)with h|h; · exact N_ (.inl h) l
                                ·exact h
 have D:L.g (wN L v) 4=0:=by
  by_cases e:L.g (wN L v) 4=0
  ·exact e
  ·exact N_ (.inr e) l
 have n:wN L v<L.gn:=by
  rcases gu (fun i=>decide (L.g i 0=v.o)&&decide (L.g i 1=v.of)) L.gn with ⟨k,c,e,_⟩|⟨e,_⟩
  ·have m:L.grant v.o v.of=(k:Int):=e;unfold wN; rw[m]; exact c
  ·have m:L.grant v.o v.of = -1:=e;omega
 unfold eY rO mJ;unfold mJ at b;generalize wN L v=q at *;have A:=Dp (f:=fun x=>bH x v.o (L.g q 3)) (idx:=pz L (L.g q 2)) (R:=L.R) (d := -(L.g q 3)) (fun x C=>by obtain⟨_,_,_,_,_,_,_,_,_,B,_⟩:=JW C; rw[B]; omega) _ b;have u:=h.gb q n;refine⟨fun k c => ?_,fun p l => ?_⟩
 ·show oD ((dz _ _ _ _).1 k)=pF L.t L.tn (aI L.g q (aI (L.g q) 4 v.req)) (L.id k) L.gn;rw[LP _ n,<- h.us k c,A k];have a:qG L.t L.tn (aI (L.g q) 4 v.req) (L.id k)=0:=by
   unfold qG; rw[b_]; show ¬ v.req=0; omega
  have r:qG L.t L.tn (L.g q) (L.id k)=L.g q 3*Dn L.t L.tn (L.g q 2) (L.id k):=d_ D;rw[a,r];unfold Dn;rw[<- NY (idx:=pz L (L.g q 2)) (k:=k) _ fun i w=>EZ s c w,Int.neg_mul];omega
 show 0<=bC L.t L.tn (aI L.g q (aI (L.g q) 4 v.req) p 2)/\1<=aI L.g q (aI (L.g q) 4 v.req) p 0/\aI L.g q (aI (L.g q) 4 v.req) p 0<=6/\0<=aI L.g q (aI (L.g q) 4 v.req) p 3/\aI L.g q (aI (L.g q) 4 v.req) p 3<=1125899906842624;by_cases e:p=q
 ·subst e;have a : ∀ j,j≠4->aI L.g p (aI (L.g p) 4 v.req) p j=L.g p j:=fun j y=>by
   show(if p=p then aI (L.g p) 4 v.req else L.g p) j=_;rw[d_ rfl]; exact b_ y
  rw[a 2 (by omega),a 0 (by omega),a 3 (by omega)]; exact u
 have a:aI L.g q (aI (L.g q) 4 v.req) p=L.g p:=b_ e;rw[a]; exact h.gb p l
theorem J4{a:eF}(h:Bp L)(j:a.nn=L.nn)(l:a.id=L.id)(c:a.tn=L.tn)(d:a.t=L.t)(e:a.gn=L.gn)(f:a.g=L.g)(m : ∀ k,k<L.nn->oD (a.R k)=oD (L.R k)):Bp a:=by
 refine⟨fun k b => ?_,fun q i => ?_⟩
 ·rw[j]at b; rw[l,c,d,e,f,m k b]; exact h.us k b
 rw[e]at i; rw[c,d,f]; exact h.gb q i
theorem VY{q:Nat}{r:Nat->Int}{R:Nat->Nat->Int}(hr:oD r=oD (R q))(k:Nat):oD (aI R q r k)=oD (R k):=by
 unfold aI; split
 ·rename_i e; rw[e]; exact hr
 rfl
theorem qh.path{t t':Nat->Nat->Int}{tn:Nat}{id par z y:Int}(h:qh t t' tn id par)(A:1<=id)(r : ∀ i,i<tn->t i 1=0\/0<=bC t tn (t i 1))(p : ∃ D,D<=4/\bC t tn (aZ t tn D z)<0)(C:0<=bC t tn z) :
 Dn t' (tn+1) z y=Dn t tn z y/\(y=id->Dn t tn z y=0):=by
 obtain⟨D,w,g⟩:=p;obtain⟨K,x,c,a⟩:=wC D g;have f:K=bO t tn z:=wo a c g (by omega);have d : ∀ i,i<=K->aZ t' (tn+1) i z=aZ t tn i z:=fun i b=>h.iter i fun j B=>a j (by omega);have k:bC t' (tn+1) (aZ t' (tn+1) K z)<0:=by
  rw[d K (A_ _)]
  rcases ilt (bC t' (tn+1) (aZ t tn K z))with h1|h1
  ·exact h1
  ·exfalso
   rcases h.find.1 h1 with h2|h2
   ·omega
   ·cases K with
    | zero=>have:bC t tn z<0:=c; omega
    | succ K =>
      obtain⟨i,b,e⟩:=iV.1 (a K (by omega));have l:aZ t tn (K+1) z=t i 1:=by
       show t (bC t tn (aZ t tn K z)).toNat 1=t i 1;rw[<- e,wB h.u b]; rfl
      rw[l]at h2 c
      rcases r i b with h4|h4
      ·omega
      ·omega
 have m:K=bO t' (tn+1) z:=wo (fun i b=>by rw[d i (by omega)]; exact h.find.2 (.inl (a i b))) k k (by omega);have o : ∀ n,n<=K->J2 t' (tn+1) z y n=J2 t tn z y n:=by
  intro n
  induction n with
  | zero=>intro _; rfl
  | succ n ih=>intro q; unfold J2; rw[ih (by omega),d n (by omega)]
 refine⟨?_,fun s => ?_⟩
 ·unfold Dn; rw[<- f,<- m]; exact o K (A_ _)
 subst s;have : ∀ n,n<=K->J2 t tn z y n=0:=by
  intro n
  induction n with
  | zero=>intro _; rfl
  | succ n ih =>
    intro q; unfold J2;rw[ih (by omega),b_]
    ·rfl
    ·intro e;have:=a n (by omega);rw[e]at this;have v:=wz.2 h.no;omega
 unfold Dn; rw[<- f]; exact this K (A_ _)
attribute [local irreducible] bO in
theorem N8(a:Inv0 L T)(h:Bp L)(l:bR v=true)(s:v.kind=1)(r:kP L v=0):Bp (rG L v):=by
 obtain⟨k,u,A,E,D,B,C,p,F,G,n⟩:=xP a l s r;have z:=mh l;rw[p];generalize jE v.o v.seq=x at *;have w : ∀ i,i<L.tn->L.t i 1=0\/0<=bC L.t L.tn (L.t i 1):=fun i c=>by
  have d:=c;rw[a.Dm]at d;rw[(a.tid i d).2]
  rcases a.up i d with e|⟨j,hj,e⟩
  ·exact .inl e
  ·exact .inr (iV.2 ⟨j,by rw[a.Dm]; exact hj,by rw[(a.tid j hj).1]; exact e⟩)
 have m : ∀ q,q<L.gn -> ∀ y,Dn (pX L.t k x v.node) (L.tn+1) (L.g q 2) y=Dn L.t L.tn (L.g q 2) y/\(y=x->Dn L.t L.tn (L.g q 2) y=0):=fun q b y=>n.path A w (a.dep _) (h.gb q b).1;refine⟨fun i c => ?_,fun q b => ?_⟩
 ·show oD (cK L.R k (upd (fun _=>0) (aP v) v.aT) i)=pF (pX L.t k x v.node) (L.tn+1) L.g (cK L.id k x i) L.gn;rw[zS (t:=L.t) (tn:=L.tn) (g:=L.g) (y:=cK L.id k x i) L.gn fun q b=>by unfold qG; rw[(m q b _).1]]
  rcases dD u c with rfl|⟨j,hj,e,_,_⟩
  ·rw[dw,dw,LU z,IE L.gn fun q b=>by unfold qG; rw[(m q b _).2 rfl,Int.mul_zero]; exact ite_self _];rfl
  rw[e,e]; exact h.us j hj
 have f:=h.gb q b;exact⟨n.find.2 (.inl f.1),f.2⟩
theorem IG(g:Inv0 L T)(h:Bp L)(c:bR v=true)(a:dQ L v=0):Bp (fT L v):=by
 have m:=jB c;have l:=mh c;unfold dQ at a;unfold fT;by_cases b:v.kind=1
 ·rw[d_ b]at a ⊢; exact N8 g h c b a
 by_cases d:v.kind=2
 ·rw[b_ b,d_ d]at a ⊢;exact J4 h rfl rfl rfl rfl rfl rfl fun k _=>VY (LU l) k
 by_cases e:v.kind=3
 ·rw[b_ b,b_ d,d_ e]at a ⊢; exact NZ g h c e a
 by_cases f:v.kind=4
 ·rw[b_ b,b_ d,b_ e,d_ f]at a ⊢; exact N7 g h c f a
 by_cases i:v.kind=5
 ·rw[b_ b,b_ d,b_ e,b_ f,d_ i]at a ⊢;unfold qg at a;split at a; · cases a
  split at a; · cases a
  obtain⟨_,_,_,_,_,_,_,_,_,_,j,_⟩:=Cg a;exact J4 h rfl rfl rfl rfl rfl rfl fun k _=>VY j.u k
 rw[b_ b,b_ d,b_ e,b_ f,b_ i];split
 ·exact J4 h rfl rfl rfl rfl rfl rfl fun _ _=>rfl
 exact J4 h rfl rfl rfl rfl rfl rfl fun _ _=>rfl
theorem VZ{t:Nat->Nat->Int}{tn D:Nat}{x:Int}(h:bC t tn (aZ t tn D x)<0):bO t tn x<=D:=by
 rcases Nat.lt_or_ge D (bO t tn x)with h1|h1
 ·have:=Ci h1; omega
 exact h1
theorem Inv0.ajb(h:Inv0 L T)(x:Int):bO L.t L.tn x<=4:=by
 obtain⟨D,b,a⟩:=h.dep x;have:=VZ a; omega
theorem Cj{x:Nat->Int}{p:Nat}{n c:Int}(h : ∀ a,a<54->x a<=c)(d:n<=c) : ∀ a,a<54->upd x p n a<=c:=fun a b=>by
 show(if a=p then n else x a)<=c;split
 ·exact d
 ·exact h a b
theorem Gd{f:(Nat->Int)->(Nat->Int) × Int}{idx:Nat->Nat}{R:Nat->Nat->Int}{n:Nat}{B d:Int}(o:0<=d)(m : ∀ x c,(f x).2=0->(∀ a,a<54->x a<=c) -> ∀ a,a<54->(f x).1 a<=c+d)(j : ∀ k,k<n -> ∀ a,a<54->R k a<=B) : ∀(K:Nat) k,k<n -> ∀ a,a<54->(dz f idx R K).1 k a<=B+d*(K:Int)
 | 0,k,hk,a,ha=>by have h:=j k hk a ha; show R k a<=B+d*0; omega
 | K+1,k,hk,a,ha=>by
   have b:=Gd o m j (idx:=idx) K;have e:d*((K+1:Nat):Int)=d*(K:Int)+d:=(by rw[Int.natCast_succ,Int.mul_add,Int.mul_one]);rw[e];unfold dz;by_cases l:(dz f idx R K).2=0
   ·rw[d_ l];by_cases g:(f ((dz f idx R K).1 (idx K))).2=0
    ·rw[d_ g];show(if k=idx K then _ else _:Nat->Int) a<=_;by_cases i:k=idx K
     ·rw[d_ i];have:=m _ (B+d*(K:Int)) g (by rw[<- i]; exact b k hk) a ha; omega
     ·rw[b_ i]; have:=b k hk a ha; omega
    ·rw[b_ g]; have:=b k hk a ha; show(dz f idx R K).1 k a<=_; omega
   ·rw[b_ l]; have:=b k hk a ha; omega
theorem V4{i n c:Int}{x:Nat->Int}(g:n<=65536)(h:(bF x i n).2=0)(hx : ∀ a,a<54->x a<=c) : ∀ a,a<54->(bF x i n).1 a<=c+65536:=by
 obtain⟨a,f,_,_,_,_,_,_,_,_,_,e⟩:=JV h;rw[e];have:=hx (6+a) (by omega);exact Cj (fun b d=>by have:=hx b d; omega) (by omega)
theorem V6{i n c:Int}{x:Nat->Int}(h:(bH x i n).2=0)(hx : ∀ a,a<54->x a<=c) : ∀ a,a<54->(bH x i n).1 a<=c+0:=by
 obtain⟨a,g,_,_,_,b,_,_,_,_,e⟩:=JW h;rw[e,E_];have d:=hx (6+a) (by omega);have f:n<=x (6+a)-x (12+a):=b;exact Cj hx (by omega)
theorem PW(h:RN L T){a:Nat}{r:Int}(hr:r<=256) : ∀ i,i<6 -> ∀ j,j<aI L.rn a (L.rn a+1) i->aI L.rq a (aI (L.rq a) (L.rn a) r) i j<=256:=fun i d j b=>by
 unfold aI at b ⊢;by_cases e:i=a
 ·subst e;rw[d_ rfl]at b ⊢;by_cases c:j=L.rn i
  ·rw[d_ c]; exact hr
  ·rw[b_ c]; exact h.rq i d j (by omega)
 ·rw[b_ e]at b ⊢; exact h.rq i d j b
attribute [local irreducible] bO in
theorem RO(A:Inv0 L T)(h:RN L T)(E:sH v)(D:bR v=true)(d:dQ L v=0) :
 (∀ k,k<(fT L v).nn -> ∀ a,a<54->(fT L v).R k a<=2097152*((T+1:Nat):Int))/\(∀ i,i<6 -> ∀ j,j<(fT L v).rn i->(fT L v).rq i j<=256):=by
 have m:=jB D;have ab:=mh D;have V:(0:Int)<=(T:Int):=Int.natCast_nonneg _;have X:((T+1:Nat):Int)=(T:Int)+1:=Int.natCast_succ _;have u : ∀ k,k<L.nn -> ∀ a,a<54->L.R k a<=2097152*((T+1:Nat):Int):=fun k m a l=>by have:=h.rb k m a l; omega
 have G : ∀ q r,(∀ a,a<54->r a<=2097152*((T+1:Nat):Int)) -> ∀ k,k<L.nn -> ∀ a,a<54->aI L.R q r k a<=2097152*((T+1:Nat):Int):=fun q r O k m a l=>by
  unfold aI; split
  ·exact O a l
  ·exact u k m a l
 have P:=E.aT;unfold dQ at d;unfold fT;by_cases s:v.kind=1
 ·rw[d_ s]at d ⊢;obtain⟨k,N,ae,Z,Y,Q,S,I,aa,ac,ad⟩:=xP A D s d;rw[I];refine⟨fun i M a l => ?_,h.rq⟩;show cK L.R k (upd (fun _=>0) (aP v) v.aT) i a<=_
  rcases dD N M with rfl|⟨j,hj,e,_,_⟩
  ·rw[dw];exact Cj (c:=2097152*((T+1:Nat):Int)) (fun b _=>by omega) (by omega) a l
  rw[e]; exact u j hj a l
 by_cases z:v.kind=2
 ·rw[b_ s,d_ z]at d ⊢;unfold xO at d;split at d; · cases d
  rename_i n1;split at d; · cases d
  have w:=A.PV n1;have J:=h.rb _ w (aP v) (by omega);exact⟨G _ _ (Cj (fun b B=>u _ w b B) (by omega)),h.rq⟩
 by_cases C:v.kind=3
 ·rw[b_ s,b_ z,d_ C]at d ⊢;have y : ∀ k,k<L.nn -> ∀ a,a<54->(nH L v).1 k a<=2097152*((T+1:Nat):Int):=fun k m a l=>by
   have U:=A.ajb v.node;have:=Gd (f:=fun x=>bF x v.o v.aT) (idx:=pz L v.node) (by decide) (fun x c=>V4 P) h.rb (bO L.t L.tn v.node) k m a l;unfold nH; omega
  unfold gJ rO;generalize nH L v=W at y;exact⟨y,PW h E.req⟩
 by_cases F:v.kind=4
 ·rw[b_ s,b_ z,b_ C,d_ F]at d ⊢;have y : ∀ k,k<L.nn -> ∀ a,a<54->(mJ L v).1 k a<=2097152*((T+1:Nat):Int):=fun k m a l=>by
   have:=Gd (f:=fun x=>bH x v.o (L.g (wN L v) 3)) (idx:=pz L (L.g (wN L v) 2)) (O_ 0) (fun x c=>V6) h.rb (bO L.t L.tn (L.g (wN L v) 2)) k m a l;unfold mJ; omega
  unfold eY rO;generalize mJ L v=W at y;exact⟨y,PW h E.req⟩
 by_cases H:v.kind=5
 ·rw[b_ s,b_ z,b_ C,b_ F,d_ H]at d ⊢;unfold qg at d;split at d; · cases d
  rename_i n1;split at d; · cases d
  have w:=A.PV n1;obtain⟨a,b,l,B,_,_,_,_,_,_,_,e⟩:=Cg d;have J:=h.rb _ w (18+a*6+b) (by omega);have K:=G (L.node v.node).toNat _ (Cj (x:=L.R (L.node v.node).toNat) (p:=18+a*6+b) (n:=L.R (L.node v.node).toNat (18+a*6+b)+v.aT) (fun b B=>u _ w b B) (by omega));refine⟨?_,h.rq⟩;show ∀ k,k<L.nn -> ∀ c,c<54->aI L.R (L.node v.node).toNat (zh L v).1 k c<=_;unfold zh;rw[e]; exact K
 rw[b_ s,b_ z,b_ C,b_ F,b_ H];split
 ·exact⟨u,h.rq⟩
 exact⟨u,h.rq⟩
theorem RN.mono{T':Nat}(h:RN L T)(e:T<=T'):RN L T' where
 kt:=fun i c=>by have:=h.kt i c; omega
 rb:=fun k d a b=>by have:=h.rb k d a b; omega
 rq:=h.rq
theorem II(j:sH v)(h:Inv L T):Inv (bP L v) (T+1):=by
 refine⟨Bo h.toInv0,?_,?_⟩ <;> unfold bP <;> by_cases a:bD L v=0
 ·rw[d_ a];unfold bD at a;split at a; · cases a
  rename_i d;split at a; · cases a
  split at a; · cases a
  split at a; · cases a
  have e:bR v=true:=by simpa using d
  have c:=IG h.toInv0 h.s e a;exact⟨c.us,c.gb⟩
 ·rw[b_ a]; exact h.s
 ·rw[d_ a];unfold bD at a;split at a; · cases a
  rename_i d;split at a; · cases a
  split at a; · cases a
  split at a; · cases a
  have e:bR v=true:=by simpa using d
  have c:=RO h.toInv0 h.b j e a;refine⟨fun i g => ?_,c.1,c.2⟩;have f:(Iz (fT L v) v).known=aI L.known (aP v) (L.known (aP v)+1):=by unfold Iz; simp only[qF]
  rw[f];have d:=h.b.kt i g;have k:=h.b.kt (aP v) (mh e);unfold aI;split <;> omega
 rw[b_ a]; exact h.b.mono (Nat.le_succ T)
theorem Inv.mono{T':Nat}(h:Inv L T)(a:T<=T'):Inv L T':=⟨h.toInv0.mono a,h.s,h.b.mono a⟩
end
end Rt
end
section
namespace Rt
def evX(e:Nat->EvM):Nat->Value:=flat 14 fun k=>bI (e k)
noncomputable def nQ(e:Nat->EvM)(K:Nat->Int)(L:eF):Nat->eF
 | 0=>L
 | j+1=>if(e j).seq<=K (aP (e j))then bP (nQ e K L j) (e j)else nQ e K L j
def LV(L M:eF):Prop := ∀ i,i<6->L.known i=M.known i
open Classical in
noncomputable def iG(e:Nat->EvM)(n:Nat)(K:Nat->Int):Nat->eF->eF
 | 0,L=>L
 | f+1,L=>if LV (nQ e K L n) L then nQ e K L n else iG e n K f (nQ e K L n)
noncomputable def Gf(e:Nat->EvM)(n:Nat)(K:Nat->Int)(L:eF):eF:=iG e n K (n+1) L
section
variable {e:Nat->EvM} {K:Nat->Int} {L M M':eF} {j n r:Nat}
theorem V7(h:M=nQ e K L j)(b:(e j).seq<=K (aP (e j)))(a:M'=bP M (e j)):M'=nQ e K L (j+1):=by unfold nQ; rw[d_ b,<- h,a]
theorem ZJ(h:M=nQ e K L j)(a : ¬ (e j).seq<=K (aP (e j))):M=nQ e K L (j+1):=by unfold nQ; rw[b_ a,<- h]
theorem RP(hr:r<=n)(h:M=nQ e K L n)(a:LV M L):iG e n K (n+1-r) L=M:=by
 rw[show n+1-r=(n-r)+1 by omega]; unfold iG; rw[<- h,d_ a]
theorem V9(hr:r<=n)(h:M=nQ e K L n)(a : ¬ LV M L):iG e n K (n+1-(r+1)) M=iG e n K (n+1-r) L:=by
 rw[show n+1-r=(n-r)+1 by omega,show n+1-(r+1)=n-r by omega]
 conv=>rhs; unfold iG
 rw[<- h,b_ a]
theorem IJ{m a:lZ}:LV m.core a.core <-> ∀ i,i<6->(rv .u64 m.s.known) i=(rv .u64 a.s.known) i:=by
 unfold LV rv;simp only[Value.int.injEq,true_and]; exact Iff.rfl
end
theorem Es.kd{K:Nat->Int}(h:Es K):Fx.Kd (List.replicate 6 (some .u64)) (rv .u64 K):=Fx.Tm fun i a=>Fx.vL (by have:=h i a; omega)
end Rt
attribute [irreducible] Rt.iG
set_option maxRecDepth 20000 in
theorem ZK(m:lZ)(B p T:Nat)(O:Option Addr)(an E:Nat)(ev:Nat->EvM)(K:Nat->Int)(w:World)(hL:wM w B p m)(hI:Inv m.core T)(hA:nV w O an 14 (evX ev))(hwf : ∀ k,k<an->gI (ev k))(hmay : ∀ k,k<an->bR (ev k)=true)(hsm : ∀ k,k<an->sH (ev k))(han:an<=60)(hT:T<=890000) :
 Calls Tryz.prog 56 #[(pt p),.slice O (an) (E),.agg (aA 6 (rv .u64 K))] w fun e w' => ∃ p' m',e = .returned (pt p')/\m'.core=Gf ev an K m.core/\Inv m'.core (T+3660)/\wM w' B p' m'/\Below w.heap.size w w':=by
 refine Kent Tryz.func56 59 ?_;refine ay<|pO fun H w1 ku g s1 z1 => ?_;have⟨l,b1⟩:=fC s1.old hL (Below.refl w.heap.size w);have tC:=gN ku;have uK:=g.lt;refine av (.pointer none)<|aD<|Ws<|ay<|av (au 0)<|aD<|Wb<|Wo (fun f z => ∃ r:Nat,∃ x:Nat,∃ g:lZ,∃ N:Nat,r<=an+1/\iG ev an K (an+1-r) g.core=Gf ev an K m.core/\Inv g.core N/\N<=T+r*60/\f 0=(pt x)/\f 1 = .slice O (an) (E)/\f 5=(pt H)/\f 7=au (r:Int)/\aQ z H 6 (rv .u64 K) 35/\wM z B x g/\Below w.heap.size w z) (fun f _=>(an+1-(intOf (f 7)).toNat)) ⟨0,p,m,T,by omega,rfl,hI,by omega,(by rfl),(by rfl),(by rfl),Fx.ic,g,l,b1⟩ ?_;rintro f1 w2 ⟨r,x,g,N,hr,hc1,S,hT1,h1,h2,h3,h4,m3,m4,b2⟩;refine Ws<|ay<|aU h4<|aU h2<|av (au an) ?_;by_cases c13:(r:Int)<=(an:Int)
 ·refine Lv aG (oh c13)<|aD<|aN<|Wk<|sN<|Ws<|Wb<|Ws ?_;have ajc:=m4.c;refine Wl<|aU h1<|av (pt x)<|av (pt x)<|av (pf x 12)<|Lv (.agg (aA 6 (rv .u64 g.s.known))) (fM ajc.aH 12 (fun j V=>mI _ (by omega) (nO _ V (by omega))))<|nS 6 (rv .u64 (fun _=>0)) fun g2 w3 uO m5 s2 z2 => ?_;have⟨m6,m7,b3⟩:=iY s2.old m3 m4 b2;have qX:=iK uO b2.size;have⟨abS,Wd⟩:=rD uO m3.lt ajc.lt;have zM:=m5.lt;refine dM m5 0 fun w4 m9 s3 z3 => ?_;have m10:aQ w4 g2 6 (rv .u64 g.s.known) 35:=aL m9;have m11:=m6.cu s3 (by omega);have gF:=fP s3 m5.ty;have m12:=jh gF m7;have b4:=s3.below b3 b3.size (by omega);refine aD<|Ws<|ay<|av (au 0)<|aD<|Wb<|Wo (fun f z => ∃ j:Nat,∃ u:Nat,∃ l:lZ,∃ A:Nat,j<=an/\l.core=nQ ev K g.core j/\Inv l.core A/\A<=T+r*60+j/\f 0=(pt u)/\f 1 = .slice O (an) (E)/\f 5=(pt H)/\f 7=au (r:Int)/\f 8=(pt g2)/\f 9=au (j:Int)/\aQ z H 6 (rv .u64 K) 35/\aQ z g2 6 (rv .u64 g.s.known) 35/\wM z B u l/\Below w.heap.size w z) (fun f _=>(an-(intOf (f 9)).toNat)) ⟨0,x,g,N,by omega,rfl,S,by omega,h1,h2,h3,(h4.trans Fx.ic),(by rfl),Fx.ic,m11,m10,m12,b4⟩ ?_;rintro f2 t ⟨j,u,l,A,V,U,D,hT2,I,C,R,h8,h9,y,W,m15,J,G⟩;refine Ws<|ay<|aU y<|aU C<|av (au an) ?_;by_cases c24:(j:Int)<(an:Int)
  ·refine Lv aG (iD c24)<|aD<|aN<|Wk<|sN<|Ws<|Wb<|Ws ?_;obtain⟨a,ha,ho⟩:=eU (je (hmay j (by omega)));have eN:aP (ev j)=a:=(by unfold aP; omega);refine Af<|eT C<|eT y ?_;obtain⟨F,L,eq1,Z⟩:=(hA.up G rfl) (by omega);have ajd:F<t.heap.size:=Z.lt (by omega);refine Qv (pf F (14*j+L)) (fun b d=>dB 14 (hx:=(rfl.trans (M_ (fun q=>Value.slice q (an) (E)) eq1))))<|aX (pf F (14*j+L+1))<|Qv (aC ((ev j).seq)) (fun b d=>aM (Z.dr d) (14*j+1) (Fx.iB (k:=j) (j:=1) (by omega) (by omega) rfl))<|eT C<|eT y<|Qv (pf F (14*j+L)) (fun b d=>dB 14 (hx:=(rfl.trans (M_ (fun q=>Value.slice q (an) (E)) eq1))))<|aX (pf F (14*j+L))<|Qv (au ((ev j).o)) (fun b d=>aM (Z.dr d) (14*j) (Fx.iB (k:=j) (j:=0) (by omega) (by omega) rfl))<|Qv (au a) (fun b d=>gP)<|Qv (pf H a) (fun b d=>jD 6 1 (hx:=R))<|Qv (aC (K a)) (fun b d=>aM (W.aH.dr d) a) ?_;by_cases P:((ev j).seq)<=(K a)
   ·refine Qv aG (fun b d=>oh P)<|Qn ?_;rintro _ ⟨v,rfl⟩;obtain⟨Et,pY⟩ : ∃ b,b=World.drewN t v:=⟨_,rfl⟩;rw[<- pY];have s4:Stp t.heap.size t Et:=(by rw[pY]; exact Sb (jX t v));have⟨m18,m19,m20,m21,b6⟩:=nE s4.old W m15 J Z G;clear pY;refine sN<|aN<|Wl<|aU I<|aU C<|aU y<|Lv (pf F (14*j+L)) (dB 14 (hx:=(rfl.trans (M_ (fun q=>Value.slice q (an) (E)) eq1))))<|Lv (.agg (aA 14 (bI (ev j)))) (fM m21 (14*j) (fun jq hjq=>Fx.kU (k:=j) (by omega) hjq))<|kF (PO l B u A (ev j) _ m20 (hwf j (by omega)) D.w (by omega)) ?_;rintro e9 w6 ⟨M,m3,he,hc3,hL1,hb1⟩;refine⟨.tuple #[(pt M),au (bD l.core (ev j))],he,?_⟩;clear he;have⟨m22,m23,b7⟩:=iY hb1 m18 m19 b6;refine av (.tuple #[(pt M),au (bD l.core (ev j))])<|av (pt M)<|av (au (bD l.core (ev j)))<|av (pt M)<|Ln<|bU<|sN<|Wl<|aU y<|Lv (au ((j:Int)+1)) fH<|av (au ((j:Int)+1))<|Ln<|iH ⟨j+1,M,m3,A+1,by omega,(V7 U (by rw[eN]; exact P) hc3),(by rw[hc3]; exact II (hsm j (by omega)) D),by omega,(by rfl),C,R,(h8.trans Fx.ic),h9,Fx.ic,m22,m23,hL1,b7⟩ ?_;show(an-(intOf (au ((j:Int)+1))).toNat)<_;simp only[y,intOf]; omega
   refine Qv aF (fun b d=>oP P)<|Qn ?_;rintro _ ⟨v,rfl⟩;obtain⟨wq2,xH⟩ : ∃ b,b=World.drewN t v:=⟨_,rfl⟩;rw[<- xH];have s6:Stp t.heap.size t wq2:=(by rw[xH]; exact Sb (jX t v));have⟨nW,oN,pU,b8⟩:=jW s6.old W m15 J G;clear xH;refine sN<|aK<|Wk<|bU<|sN<|Wl<|aU y<|Lv (au ((j:Int)+1)) fH<|av (au ((j:Int)+1))<|Ln<|iH ⟨j+1,u,l,A,by omega,(ZJ U (by rw[eN]; exact P)),D,by omega,I,C,R,(h8.trans Fx.ic),h9,Fx.ic,nW,oN,pU,b8⟩ ?_;show(an-(intOf (au ((j:Int)+1))).toNat)<_;simp only[y,intOf]; omega
  refine Lv aF (iE c24)<|aD<|aK<|Wx<|cZ<|gZ<|dh<|sN<|Ws ?_;have apN:=J.c;refine Af<|eT I<|aX (pt u)<|aX (pt u)<|aX (pf u 12)<|Qv (.agg (aA 6 (rv .u64 l.s.known))) (fun b d=>fM (apN.aH.dr d) 12 (fun j V=>mI _ (by omega) (nO _ V (by omega))))<|Qv (.agg (aA 6 (rv .u64 g.s.known))) (fun b d=>fM (m15.aH.dr d) 0 (ha:=h9)) ?_;by_cases Q : ∀ i,i<6->(rv .u64 l.s.known) i=(rv .u64 g.s.known) i
  ·refine Qv aG (fun b d=>Fx.wQ (n:=6) (ks:=List.replicate 6 (some .u64)) (X:=rv .u64 l.s.known) (Y:=rv .u64 g.s.known) 12 true rfl rfl rfl (Fx.Tn Q) (Es.kd D.kn) (Es.kd S.kn) rfl (by kernel_rfl) (by kernel_rfl) (by kernel_rfl) (by kernel_rfl) (by kernel_rfl))<|Qn ?_;rintro _ ⟨v,rfl⟩;obtain⟨wq3,F7⟩ : ∃ b,b=World.drewN t v:=⟨_,rfl⟩;rw[<- F7];have s7:Stp t.heap.size t wq3:=(by rw[F7]; exact Sb (jX t v));have⟨lu,b9⟩:=fC s7.old J G;clear F7;refine sN<|aN<|ay<|aU I<|av (pt u)<|aD<|Wr<|bL<|sR<|qm<|bL<|sR<|aJ (pt u) ?_;exact⟨u,l,rfl,((RP (n:=an) (r:=r) (by omega) (by rw[show an=j by omega]; exact U) (IJ.2 Q)).symm.trans hc1),D.mono (by omega),lu,b9⟩
  refine Qv aF (fun b d=>Fx.wQ (n:=6) (ks:=List.replicate 6 (some .u64)) (X:=rv .u64 l.s.known) (Y:=rv .u64 g.s.known) 12 false rfl rfl rfl (Fx.nob Q) (Es.kd D.kn) (Es.kd S.kn) rfl (by kernel_rfl) (by kernel_rfl) (by kernel_rfl) (by kernel_rfl) (by kernel_rfl))<|Qn ?_;rintro _ ⟨v,rfl⟩;obtain⟨wq4,F8⟩ : ∃ b,b=World.drewN t v:=⟨_,rfl⟩;rw[<- F8];have s8:Stp t.heap.size t wq4:=by rw[F8]; exact Sb (jX t v)
  have⟨oQ,oO,b10⟩:=iY s8.old W J G;clear F8;refine sN<|aK<|Wk<|bU<|sN<|Wl<|aU h8<|Lv (au ((r:Int)+1)) fH<|av (au ((r:Int)+1))<|Ln<|iH ⟨r+1,u,l,A,by omega,(V9 (by omega) (by rw[show an=j by omega]; exact U) (fun h=>Q (IJ.1 h))).trans hc1,D,by omega,I,C,R,Fx.ic,oQ,oO,b10⟩ ?_;show(an+1-(intOf (au ((r:Int)+1))).toNat)<_;simp only[h4,intOf]; omega
 refine Lv aF (oP c13)<|aD<|aK<|Wx<|cZ<|gZ<|dh<|sN<|ay<|aU h1<|av (pt x)<|aD<|Wr<|aJ (pt x) ?_;exact⟨x,g,rfl,(by rw[<- hc1,show an+1-r=0 by omega]; unfold iG; rfl),S.mono (by omega),m4,b2⟩
end
section
namespace Rt
def zeroE:EvM:=⟨0,0,fun _=>0,0,0,0,0,0,0⟩
def iw(ev:Nat->EvM):Nat->Nat->Int
 | 0,_=>0
 | k+1,i=>iw ev k i+if aP (ev k)=i then 1 else 0
structure PX(ev:Nat->EvM)(an:Nat)(K:Nat->Int):Prop where
 le : ∀ i,i<6->K i<=iw ev an i
 cl : ∀ k,k<an->(ev k).seq<=K (aP (ev k)) -> ∀ i,i<6->(ev k).deps i<=K i
structure Cz(n an:Nat)(ev:Nat->EvM)(kn:Nat->Nat->Int):Prop where
 rd : ∀ k,k<an->dG (iw ev k) (ev k)=true
 reg : ∀ k,k<an->aP (ev k)<n
 own : ∀ o,o<n->kn o o=iw ev an o
 kc : ∀ o,o<n->PX ev an (kn o)
section
variable {ev:Nat->EvM} {an n j k i:Nat} {K:Nat->Int} {kn kn':Nat->Nat->Int} {v:EvM} {L:eF}
theorem Wh : ∀ d k i,iw ev k i<=iw ev (k+d) i
 | 0,_,_=>O_ _
 | d+1,k,i=>by have:=Wh d k i; show _<=iw ev (k+d) i+_; split <;> omega
theorem cnt_mono(h:j<=k):iw ev j i<=iw ev k i:=by have:=Wh (ev:=ev) (k-j) j i; rwa [show j+(k-j)=k by omega]at this
theorem E5(h:j<k):iw ev j (aP (ev j))+1<=iw ev k (aP (ev j)):=by
 have a:iw ev (j+1) (aP (ev j))<=iw ev k (aP (ev j)):=cnt_mono (by omega);have b:iw ev (j+1) (aP (ev j))=iw ev j (aP (ev j))+1:=by show _+(if _ then _ else _)=_; rw[d_ rfl]
 omega
theorem Bq : ∀ k i,0<=iw ev k i
 | 0,_=>O_ _
 | k+1,i=>by have:=Bq k i; unfold iw; split <;> omega
theorem EA(h:dG K v=true):bR v=true/\v.seq=K (aP v)+1 /\ ∀ i,i<6->v.deps i<=K i:=by
 unfold dG at h;simp only[T_,decide_eq_true_eq]at h;refine⟨h.1.1,h.1.2,fun i a => ?_⟩;have:=h.2;unfold za at this;rw[List.all_eq_true]at this;exact h_ (this i (P_.2 a))
theorem J5(h1:bR v=true)(a:v.seq=K (aP v)+1)(b : ∀ i,i<6->v.deps i<=K i):dG K v=true:=by
 unfold dG;simp only[T_,decide_eq_true_eq];refine⟨⟨h1,a⟩,?_⟩;unfold za;rw[List.all_eq_true];intro i c;exact f_ (b i (P_.1 c))
theorem Cz.seq(h:Cz n an ev kn)(a:k<an):(ev k).seq=iw ev k (aP (ev k))+1:=(EA (h.rd k a)).2.1
theorem Cz.N9(h:Cz n an ev kn)(a:k<an):(ev k).seq<=iw ev an (aP (ev k)):=by rw[h.seq a]; exact E5 a
theorem Cz.uniq(h:Cz n an ev kn)(c:j<an)(d:k<an)(b:aP (ev j)=aP (ev k))(a:(ev j).seq=(ev k).seq):j=k:=by
 rw[h.seq c,h.seq d]at a
 rcases Nat.lt_trichotomy j k with h1|h1|h1
 ·have:=E5 (ev:=ev) h1; rw[b]at this a; omega
 ·exact h1
 have:=E5 (ev:=ev) h1; rw[<- b]at this a; omega
theorem Cz.step(h:Cz n an ev kn)(c:PX ev an K)(d:j<an)(hr:dG K (ev j)=true):PX ev an (aI K (aP (ev j)) (K (aP (ev j))+1)):=by
 obtain⟨_,l,m⟩:=EA hr;have g : ∀ i,K i<=aI K (aP (ev j)) (K (aP (ev j))+1) i:=fun i=>by unfold aI; split <;> (try subst_vars) <;> omega
 refine⟨fun i a => ?_,fun k f b i a => ?_⟩
 ·unfold aI; split
  ·rename_i e; rw[e,<- l]; exact h.N9 d
  exact c.le i a
 by_cases e:(ev k).seq<=K (aP (ev k))
 ·exact S_ (c.cl k f e i a) (g i)
 unfold aI at b;split at b
 ·rename_i e2;rw[e2]at e;have:k=j:=h.uniq f d e2 (by omega);subst this;exact S_ (m i a) (g i)
 exact N_ b e
theorem iA(h:bD L v=0):dG L.known v=true:=by
 unfold bD at h;split at h; · cases h
 split at h; · cases h
 split at h; · cases h
 rename_i h3
 cases e:dG L.known v with
 | true=>rfl
 | false=>exact N_ e h3
theorem oJ(L:eF)(v:EvM):(bD L v=0/\(bP L v).known=aI L.known (aP v) (L.known (aP v)+1))\/(bD L v≠0/\bP L v=L):=by
 by_cases h:bD L v=0
 ·refine .inl ⟨h,?_⟩;unfold bP; rw[d_ h];show aI (fT L v).known _ _=_;rw[qF]
 refine .inr ⟨h,?_⟩;unfold bP; rw[b_ h]
def KnO(ev:Nat->EvM)(an o:Nat)(K:Nat->Int):Prop:=PX ev an K/\K o=iw ev an o
theorem Cz.apply(h:Cz n an ev kn){o:Nat}(a:KnO ev an o L.known)(c:j<an):KnO ev an o (bP L (ev j)).known:=by
 rcases oJ L (ev j)with ⟨f,b⟩|⟨_,b⟩
 ·have d:=iA f;rw[b];refine⟨h.step a.1 c d,?_⟩;unfold aI;split
  ·rename_i e;have:=(EA d).2.1;have g:=h.N9 c;rw[<- e]at this g;have:=a.2;omega
  exact a.2
 rw[b]; exact a
theorem Cz.pass(h:Cz n an ev kn){o:Nat}{b:Nat->Int}(a:KnO ev an o L.known) : ∀ j,j<=an->KnO ev an o (nQ ev b L j).known
 | 0,_=>a
 | j+1,hj=>by
   unfold nQ;split
   ·exact h.apply (h.pass a j (by omega)) (by omega)
   ·exact h.pass a j (by omega)
theorem Cz.iG(h:Cz n an ev kn){o:Nat}{a:Nat->Int} : ∀ f L,KnO ev an o L.known->KnO ev an o (iG ev an a f L).known
 | 0,L,hL=>by unfold Rt.iG; exact hL
 | f+1,L,hL=>by
   unfold Rt.iG;split
   ·exact h.pass hL an (A_ _)
   ·exact h.iG f _ (h.pass hL an (A_ _))
theorem Cz.learn(h:Cz n an ev kn){o:Nat}(g:o<n){b:Nat->Int}(i:L.known=kn o)(c : ∀ q,q≠o->kn' q=kn q)(d:kn' o=(Gf ev an b L).known):Cz n an ev kn':=by
 have f:KnO ev an o (Gf ev an b L).known:=h.iG (an+1) L (by rw[i]; exact⟨h.kc o g,h.own o g⟩);refine⟨h.rd,h.reg,fun q a => ?_,fun q a => ?_⟩
 ·by_cases e:q=o
  ·subst e; rw[d]; exact f.2
  rw[c q e]; exact h.own q a
 by_cases e:q=o
 ·subst e; rw[d]; exact f.1
 rw[c q e]; exact h.kc q a
theorem Ck : ∀ k,k<=an -> ∀ i,iw (aI ev an v) k i=iw ev k i
 | 0,_,_=>rfl
 | k+1,hk,i=>by
   have e:aI ev an v k=ev k:=(by unfold aI; rw[b_ (by omega)]);show iw (aI ev an v) k i+(if aP (aI ev an v k)=i then 1 else 0)=iw ev k i+if aP (ev k)=i then 1 else 0;rw[e,Ck k (by omega) i]
theorem PY(i:Nat):iw (aI ev an v) (an+1) i=iw ev an i+if aP v=i then 1 else 0:=by
 show iw (aI ev an v) an i+(if aP (aI ev an v an)=i then 1 else 0)=_;rw[Ck an (A_ _)];unfold aI; rw[d_ rfl]
theorem Cz.event(h:Cz n an ev kn){o:Nat}(m:o<n)(hr:dG (kn o) v=true)(d:aP v=o)(y:v.deps=kn o)(g : ∀ q,q≠o->kn' q=kn q)(j:kn' o=aI (kn o) o (kn o o+1)):Cz n (an+1) (aI ev an v) kn':=by
 obtain⟨u,t,z⟩:=EA hr;rw[d]at t;have s : ∀ k,k<an->aI ev an v k=ev k:=fun k l=>by unfold aI; rw[b_ (by omega)]
 have r:aI ev an v an=v:=by unfold aI; rw[d_ rfl]
 have p:=h.own o m;refine⟨fun k l => ?_,fun k l => ?_,fun q c => ?_,fun q c=>⟨fun i b => ?_,fun k l a i b => ?_⟩⟩
 ·have e:iw (aI ev an v) k=iw ev k:=funext fun i=>Ck k (by omega) i;rw[e];by_cases f:k=an
  ·subst f; rw[r];refine J5 u (by rw[d,t,p]) fun i b => ?_;exact S_ (z i b) ((h.kc o m).le i b)
  rw[s k (by omega)]; exact h.rd k (by omega)
 ·by_cases f:k=an
  ·subst f; rw[r,d]; exact m
  rw[s k (by omega)]; exact h.reg k (by omega)
 ·rw[PY,d];by_cases e:q=o
  ·subst e; rw[j,d_ rfl]; unfold aI; rw[d_ rfl,p]
  rw[g q e,b_ (fun x=>e x.symm),h.own q c,E_]
 ·rw[PY,d];by_cases e:q=o
  ·subst e; rw[j]; unfold aI;split
   ·rename_i ei; subst ei; rw[d_ rfl,p]; exact O_ _
   have:=(h.kc q c).le i b; split <;> omega
  rw[g q e]; have:=(h.kc q c).le i b; split <;> omega
 by_cases f:k=an
 ·subst f;rw[r]at a ⊢;by_cases e:q=o
  ·subst e; rw[j,y]; unfold aI; split <;> (try subst_vars) <;> omega
  rw[g q e,d,t]at a;have:=(h.kc q c).le o;have w:o<6:=by have:=mh u; omega
  have:=this w;omega
 rw[s k (by omega)]at a ⊢;by_cases e:q=o
 ·subst e;rw[j]at a ⊢;have A : ∀ i,kn q i<=aI (kn q) q (kn q q+1) i:=fun i=>by unfold aI; split <;> (try subst_vars) <;> omega
  refine S_ ((h.kc q c).cl k (by omega) ?_ i b) (A i);unfold aI at a;split at a
  ·rename_i e3; have:=h.N9 (k:=k) (by omega); rw[e3]at this ⊢; omega
  exact a
 rw[g q e]at a ⊢; exact(h.kc q c).cl k (by omega) a i b
theorem Cz.zero(n:Nat)(h : ∀ o,o<n->kn o=fun _=>0):Cz n 0 ev kn:=⟨fun _ h=>N_ h (z_ _),fun _ h=>N_ h (z_ _),fun o a=>by rw[h o a]; rfl,fun o a=>⟨fun i _=>by rw[h o a]; exact O_ _,fun _ h=>N_ h (z_ _)⟩⟩
end
end Rt
end
end Go.Proofs.YtcbedgfikejkoaaGreatDoor
namespace Go.Proofs.YtcbedgfikejkoaaGreatDoor
open Go.RowKit
namespace Fx
section
variable {S S':Nat->Prop}
theorem jI.trans(w w' c:World)(h:jI S w w')(k:jI S w' c):jI S w c:=⟨k.os.trans h.os,k.tape.trans h.tape,k.output.trans h.output,m_ h.size k.size,fun i b a=>(k.block i (n_ b h.size) a).trans (h.block i b a)⟩
theorem jI.mono{w w':World}(h:jI S w w')(a : ∀ k,S k->S' k):jI S' w w':=⟨h.os,h.tape,h.output,h.size,fun i b c=>h.block i b fun d=>c (a i d)⟩
theorem jI.CS{g:Nat}{w w':World}(h:Stp g w w'):jI (fun k=>k=g) w w':=(uS _ w).then h (.inl rfl)
end
end Fx
end Go.Proofs.YtcbedgfikejkoaaGreatDoor
namespace Go.Proofs.YtcbedgfikejkoaaGreatDoor
open Go.RowKit Rt
open Fx (Sb rv aA aQ ev dJ Mp iI jI jg)
section
set_option maxRecDepth 20000
structure dP where
 inn:Nat->Bool
 left:Nat->Bool
 known:Nat->Int
 own:Nat->Int
 T:dO
 R:Nat->Nat->Int
 gn:Nat
 g:Nat->Nat->Int
 an:Nat
 ao:Nat->Int
 ar:Nat->Int
 tp:Nat
 mb:Nat
 pb:Nat
 rb:Nat
 gb:Nat
 ab:Nat
def wD(m:dP):Nat->Value:=fun p=>if p<6 then .bool (m.inn p)else if p<12 then .bool (m.left (p-6))else if p<18 then .int .u64 (m.known (p-12))else if p=18 then .pointer (some ⟨m.tp,0,none⟩)else if p=19 then .map (some m.pb)else if p=20 then .map (some m.rb)else if p<27 then .int .i64 (m.own (p-21))else if p=27 then .map (some m.gb)else .map (some m.ab)
section
variable {m:dP} {p q:Nat}
theorem Dq(h:p<6):wD m p = .bool (m.inn p):=by unfold wD; rw[d_ h]
theorem Cm(h:p<6)(e:q=p+6):wD m q = .bool (m.left p):=by subst e; unfold wD; rw[b_ (by omega),d_ (by omega),Nat.add_sub_cancel]
theorem sP(h:p<6)(e:q=p+12):wD m q = .int .u64 (m.known p):=by subst e; unfold wD; rw[b_ (by omega),b_ (by omega),d_ (by omega),Nat.add_sub_cancel]
theorem J6(h:p<6)(e:q=p+21):wD m q = .int .i64 (m.own p):=by subst e; unfold wD; rw[b_ (by omega),b_ (by omega),b_ (by omega),b_ (by omega),b_ (by omega),b_ (by omega),d_ (by omega),Nat.add_sub_cancel]
theorem Wi{i:Nat}(hi:i<6)(b:Bool):dJ (wD m) i (.bool b)=wD { m with inn:=aI m.inn i b }:=by
 funext p
 unfold dJ;by_cases e:p=i
 ·subst e; rw[d_ rfl,Dq hi]; simp[aI]
 rw[b_ e]; unfold wD;by_cases h:p<6
 ·rw[d_ h,d_ h]; simp[aI,e]
 rw[b_ h,b_ h]
theorem Wj{i:Nat}(hi:i<6)(e0:q=i+6)(b:Bool):dJ (wD m) q (.bool b)=wD { m with left:=aI m.left i b }:=by
 subst e0
 funext p
 unfold dJ;by_cases e:p=i+6
 ·subst e; rw[d_ rfl,Cm hi rfl]; simp[aI]
 rw[b_ e]; unfold wD;by_cases h:p<6
 ·rw[d_ h,d_ h]
 rw[b_ h,b_ h];by_cases a:p<12
 ·rw[d_ a,d_ a]; simp[aI,show ¬ p-6=i by omega]
 rw[b_ a,b_ a]
theorem RQ{i:Nat}(hi:i<6)(e0:q=i+12)(x:Int):dJ (wD m) q (.int .u64 x)=wD { m with known:=aI m.known i x }:=by
 subst e0
 funext p
 unfold dJ;by_cases e:p=i+12
 ·subst e; rw[d_ rfl,sP hi rfl]; simp[aI]
 rw[b_ e]; unfold wD;by_cases h:p<6
 ·rw[d_ h,d_ h]
 rw[b_ h,b_ h];by_cases a:p<12
 ·rw[d_ a,d_ a]
 rw[b_ a,b_ a];by_cases b:p<18
 ·rw[d_ b,d_ b]; simp[aI,show ¬ p-12=i by omega]
 rw[b_ b,b_ b]
theorem ZL{i:Nat}(hi:i<6)(e0:q=i+21)(x:Int):dJ (wD m) q (.int .i64 x)=wD { m with own:=aI m.own i x }:=by
 subst e0
 funext p
 unfold dJ;by_cases e:p=i+21
 ·subst e; rw[d_ rfl,J6 hi rfl]; simp[aI]
 rw[b_ e]; unfold wD;by_cases h:p<6
 ·rw[d_ h,d_ h]
 rw[b_ h,b_ h];by_cases a:p<12
 ·rw[d_ a,d_ a]
 rw[b_ a,b_ a];by_cases b:p<18
 ·rw[d_ b,d_ b]
 rw[b_ b,b_ b];by_cases c:p=18
 ·rw[d_ c,d_ c]
 rw[b_ c,b_ c];by_cases d:p=19
 ·rw[d_ d,d_ d]
 rw[b_ d,b_ d];by_cases f:p=20
 ·rw[d_ f,d_ f]
 rw[b_ f,b_ f];by_cases g:p<27
 ·rw[d_ g,d_ g]; simp[aI,show ¬ p-21=i by omega]
 rw[b_ g,b_ g]
end
def xQ(R:Nat->Nat->Int):Nat->Value:=fun i => .agg (aA 54 (rv .i64 (R i)))
def EB(T:dO):Nat->Value:=fun j => .int .u64 (T.p j)
def vg(g:Nat->Nat->Int):Nat->Value:=fun i => .agg (aA 5 (jf (g i)))
def EC:Nat->Value:=fun _ => .bool true
structure QlN(m:dP):Prop where
 mp:m.mb≠m.pb
 mr:m.mb≠m.rb
 mg:m.mb≠m.gb
 ma:m.mb≠m.ab
 pr:m.pb≠m.rb
 pg:m.pb≠m.gb
 pa:m.pb≠m.ab
 rg:m.rb≠m.gb
 ra:m.rb≠m.ab
 ga:m.gb≠m.ab
structure lS(w:World)(B lp:Nat)(m:dP):Prop where
 c:aQ w lp 29 (wD m) 114
 t:tH w B m.tp m.mb m.T
 p:Mp w m.pb m.T.n m.T.x (EB m.T)
 r:Mp w m.rb m.T.n m.T.x (xQ m.R)
 g:iI w m.gb m.gn (fun i=>m.g i 0) (fun i=>m.g i 1) (vg m.g)
 a:iI w m.ab m.an m.ao m.ar EC
 ne:QlN m
 lB:B<=lp
 pB:B<=m.pb
 rB:B<=m.rb
 gB:B<=m.gb
 aB:B<=m.ab
def Gg(m:dP)(lp:Nat)(k:Nat):Prop:=k=lp\/k=m.mb\/k=m.pb\/k=m.rb\/k=m.gb\/k=m.ab
section
variable {w w':World} {B lp:Nat} {m:dP}
theorem lS.up(h:lS w B lp m)(b:Below w.heap.size w w'):lS w' B lp m := { h with c:=h.c.cu (Sb b) (u_ h.c.lt),t:=h.t.up b,p:=h.p.up b,r:=h.r.up b,g:=h.g.up b,a:=h.a.up b }
instance:Rt.Tr w w' (lS w B lp m) (lS w' B lp m):=⟨fun b h=>h.up b⟩
theorem lS.kV{d:List TypeId}(h:lS w B lp m)(b:jg d w w')(e:(d.contains 114 || d.contains 165)=false):lS w' B lp m:=by
 rw[Bool.or_eq_false_iff]at e;exact { h with c:=h.c.kV b e.1,t:=h.t.kV b e.2,p:=h.p.kV b trivial,r:=h.r.kV b trivial,g:=h.g.kV b trivial,a:=h.a.kV b trivial }
instance {a:List TypeId}:Rt.Tc a w w' (lS w B lp m) (lS w' B lp m) (!(a.contains 114 || a.contains 165)):=⟨fun b h e=>h.kV b (by simpa using e)⟩
theorem tH.keep{b a:Nat}{T:dO}(h:tH w B b a T)(c:w'.heap[b]? = w.heap[b]?)(d:w'.heap[a]? = w.heap[a]?):tH w' B b a T:=⟨c.trans h.blk,h.map.keep d,h.inv,h.gt,h.gm⟩
theorem lS.keep(h:lS w B lp m)(b : ∀ k,k=lp\/k=m.tp\/k=m.mb\/k=m.pb\/k=m.rb\/k=m.gb\/k=m.ab->w'.heap[k]? = w.heap[k]?):lS w' B lp m := { h with
 c:=(b _ (.inl rfl)).trans h.c,t:=tH.keep h.t (b _ (.inr (.inl rfl))) (b _ (.inr (.inr (.inl rfl)))),p:=h.p.keep (b _ (.inr (.inr (.inr (.inl rfl))))),r:=h.r.keep (b _ (.inr (.inr (.inr (.inr (.inl rfl)))))),
 g:=h.g.keep (b _ (.inr (.inr (.inr (.inr (.inr (.inl rfl))))))),a:=h.a.keep (b _ (.inr (.inr (.inr (.inr (.inr (.inr rfl))))))) }
theorem lS.chg{S:Nat->Prop}(h:lS w B lp m)(f:jI S w w')(d : ∀ k,k=m.tp\/Gg m lp k -> ¬ S k):lS w' B lp m:=by
 have b : ∀ k,k<w.heap.size -> ¬ S k->w'.heap[k]? = w.heap[k]? := f.block;refine h.keep fun k e => ?_
 rcases e with rfl|rfl|rfl|rfl|rfl|rfl|rfl
 ·exact b _ h.c.lt (d _ (.inr (.inl rfl)))
 ·exact b _ h.t.blk.lt (d _ (.inl rfl))
 ·exact b _ h.t.lt (d _ (.inr (.inr (.inl rfl))))
 ·exact b _ h.p.lt (d _ (.inr (.inr (.inr (.inl rfl)))))
 ·exact b _ h.r.lt (d _ (.inr (.inr (.inr (.inr (.inl rfl))))))
 ·exact b _ h.g.lt (d _ (.inr (.inr (.inr (.inr (.inr (.inl rfl)))))))
 exact b _ h.a.lt (d _ (.inr (.inr (.inr (.inr (.inr (.inr rfl)))))))
theorem lS.weak{b:Nat}(h:lS w B lp m)(a:b<=B):lS w b lp m := { h with t:=h.t.weak a,lB:=m_ a h.lB,pB:=m_ a h.pB,rB:=m_ a h.rB,gB:=m_ a h.gB,aB:=m_ a h.aB }
theorem lS.lt(h:lS w B lp m):lp<w.heap.size:=h.c.lt
theorem lS.ltS(h:lS w B lp m){k:Nat}(b:Gg m lp k):B<=k/\k<w.heap.size:=by
 rcases b with rfl|rfl|rfl|rfl|rfl|rfl
 ·exact⟨h.lB,h.c.lt⟩
 ·exact⟨h.t.gm,h.t.lt⟩
 ·exact⟨h.pB,h.p.lt⟩
 ·exact⟨h.rB,h.r.lt⟩
 ·exact⟨h.gB,h.g.lt⟩
 exact⟨h.aB,h.a.lt⟩
end
namespace Rt
def Aq(x:Nat->Int):Nat->Int->Nat
 | 0,_=>0
 | n+1,k=>if x n=k then n else Aq x n k
theorem nu{x:Nat->Int}{j:Nat}{k:Int} : ∀ {n:Nat},(∀ a b,a<n->b<n->x a=x b->a=b)->j<n->x j=k->Aq x n k=j
 | 0,_,h,_=>N_ h (z_ _)
 | n+1,hi,hj,e=>by
   unfold Aq;by_cases c:x n=k
   ·rw[d_ c]; exact hi n j (by omega) hj (c.trans e.symm)
   ·rw[b_ c];refine nu (fun a b d f=>hi a b (by omega) (by omega)) ?_ e
    rcases Nat.lt_or_ge j n with h|h
    ·exact h
    ·obtain rfl:j=n:=(by omega);exact N_ e c
end Rt
def dP.idx(m:dP)(k:Int):Nat:=Aq m.T.x m.T.n k
def RS(m:dP)(lp a:Nat)(k:Nat):Prop:=Gg m lp k\/a<=k
structure Wm(w:World)(B lp:Nat)(m m':dP)(b0:Nat)(fv:Value)(fi:Nat)(cap:Array Value):Prop where
 e:fv = .func (.func fi) #[] cap
 f : ∃ fn c, Tryz.prog.funcs[fi]? = some fn ∧ (fn.name == "runtime.NumGoroutine") = false ∧ fn.body = some c
 s : ∀ w2,Below w.heap.size w w2->Calls Tryz.prog fi cap w2 fun e w3=>e = .returned (.tuple #[])/\lS w3 B lp m'/\jI (RS m lp b0) w2 w3
def SK(w:World)(B lp:Nat)(m f:dP)(b:Int)(e:Ending)(w':World):Prop :=
 (∃ a d c,e = .returned (.tuple #[a,.int .i64 b])/\a.oneCell'=true/\(b=0->Wm w' B lp m f w.heap.size a d c))/\Below w.heap.size w w'
theorem lS.J7{w w':World}{B lp g n d:Nat}{m:dP}{x:Nat->Value}{T:TypeId}(h:lS w B lp m)(b:aQ w g n x T)(f:T≠114)(i:jI (RS m lp d) w w')(j:g<d):aQ w' g n x T:=b.chg i fun e=>by
 rcases e with (rfl|rfl|rfl|rfl|rfl|rfl)|e
 ·exact f (Fx.Ty.only h.c.ty b.ty)
 ·exact h.t.map.sZ b.ty
 ·exact h.p.sZ b.ty
 ·exact h.r.sZ b.ty
 ·exact h.g.sZ b.ty
 ·exact h.a.sZ b.ty
 ·omega
theorem Fx.PZ{P:Program}{f:Nat->Value}{w:World}{o:Oper}{g:Nat}{t:Operand}{b:List Operand}{args:List Value}{d:Array TypeId}{cap all:Array Value}(l:o.op = .call { callee := .value t,args:=b.toArray,argTypes:=d })(m:ev f t = .func (.func g) #[] cap)(hx:b.map (ev f)=args)(j:args.toArray++cap=all)
 (k : ∃ a c, P.funcs[g]? = some a ∧ (a.name == "runtime.NumGoroutine") = false ∧ a.body = some c) : (execOp (ev f) o).run P w = .ok (.enter g all) w := by
 obtain⟨a,c,e,h,i⟩:=k;exact Fx.BM l m hx (by rw[<- j]; simp) e h i
namespace Fx
theorem It.eH{w w':World}{r b n g:Nat}{S:Nat->Bool}(h:It w r b n S)(a:QV g w w')(c:b≠g)(d:r≠g):It w' r b n S:=h.keep (a.s.block b h.SE c) (a.s.block r h.lt d)
theorem BA.eH{w w':World}{r b i g:Nat}(h:BA w r b i)(a:QV g w w')(c:b≠g)(d:r≠g):BA w' r b i:=h.keep (a.s.block b h.SE c) (a.s.block r h.lt d)
end Fx
end
end Go.Proofs.YtcbedgfikejkoaaGreatDoor
namespace Go.Proofs.YtcbedgfikejkoaaGreatDoor.Fx
open Go.RowKit
section
variable {P:Program} {n0:Nat} {Q:Post} {f:Nat->Value} {w:World} {ops:Array Oper} {rest:List Oper} {o:Oper}
theorem Oa{T E:TypeId}{x:Operand}{b off n s:Nat}(d:o.op = .slice T x none none none)(hx:ev f x = .pointer (some ⟨b,off,none⟩))(c:P.underlying T=some (.array n E))(e:(P.info? E).map (·.size)=some s) :
 Runs P f o w (.slice (some ⟨b,off,none⟩) n n):=by
 obtain⟨i,a,g⟩:=Option.map_eq_some_iff.1 e;unfold Runs execOp;simp only[d,hx,Option.map_none];by_cases h:n=0
 ·subst h; simp[Instr.sliceAt,Instr.sureAddr,underlying,c,Instr.sliceBounds,sizeOf,typeInfo,a]
 simp[Instr.sliceAt,Instr.sureAddr,underlying,c,Instr.sliceBounds,sizeOf,typeInfo,a,Addr.add,g]
end
end Go.Proofs.YtcbedgfikejkoaaGreatDoor.Fx
