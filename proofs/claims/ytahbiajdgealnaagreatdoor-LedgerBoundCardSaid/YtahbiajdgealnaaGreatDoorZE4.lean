/-
  What the proof of the law rests on, part 4: walks of functions, and plain laws; each says its conditions itself.
-/
import Derived.Laws.StructEq
import Derived.Test.YtahbiajdgealnaaGreatDoorZE3
set_option maxHeartbeats 1600000
set_option linter.unusedVariables false
set_option linter.unusedSimpArgs false
namespace Go.Proofs.YtahbiajdgealnaaGreatDoor
open Go.RowKit Rt
open Fx (fD eP fJ bD gP gM dD dS gD jB eX jC fU jD je Lv sN Ln Ws Qv Wl Rp Wc Qs Wr Sb Lk Wk rC rV sR Rs Rn Rd Rk Wb Wx Wo Dy Wt qW Qn FM Bc yN zh C9 Dw qo gY zi ng uq uo vO wZ zf Dk Ap rv aC aS bI aM ev cK Stp dH aW flat dA Mp fq aY gX iU bF down iN jO iW ou bK bJ cells_one iP bV xk unseen jK iB bY dM bM bQ cu cB gJ gT qb gQ)
namespace Rt
def Bv(t:Nat->Nat->Int)(n k:Nat):Nat->Nat->Int:=fun i=>if i<=k then(if i<n then t i else fun _=>0)else t (i-1)
def oF(t:Nat->Nat->Int)(k:Nat)(id par:Int):Nat->Nat->Int:=fun i=>if i<k then t i else if i=k then(fun j=>if j=0 then id else par)else t (i-1)
theorem tC{w:World}{B tb tn tc:Nat}{ta:Option Addr}{t:Nat->Nat->Int}(b:aS w tb 1 (fun _ => .slice ta tn tc) 123)(a:Fx.Own w B 128 2 (.slice ta tn tc) tn (rv .u64 (kP t)))(j:tn<=1000):Ey w tb ta tn tc t where
 tc:=b.aI
 t:=fun k h=>by
  obtain⟨g,d,e,_,_,_,c⟩:=a.form (by omega);simp only[Value.slice.injEq,true_and]at e;refine⟨g,0,e.1,fun i f => ?_⟩;have:=c (2*k+i) (by omega);rw[E_]at this;rw[E_,this];show some (Value.int .u64 (t ((2*k+i) / 2) ((2*k+i) % 2)))=some (Value.int .u64 (t k i));rw[show(2*k+i) / 2=k by omega,show(2*k+i) % 2=i by omega]
 bt:=by omega
theorem xJ(t:Nat->Nat->Int)(n:Nat) : ∀ j,j<(n+1)*2->iB (rv .u64 (kP t)) (n*2) (bI (fun j=>rv .u64 (fun _=>0) (j % 2)) (0*2) 2 (rv .u64 (fun _=>0))) j=rv .u64 (kP (Bv t n n)) j:=fun j a=>by
 unfold iB;by_cases h:j<n*2
 ·rw[d_ h];show Value.int .u64 (t (j / 2) (j % 2))=Value.int .u64 (Bv t n n (j / 2) (j % 2));unfold Bv; rw[d_ (by omega),d_ (by omega)]
 ·rw[b_ h];unfold bI; rw[d_ (by omega)];show Value.int .u64 0=Value.int .u64 (Bv t n n (j / 2) (j % 2));unfold Bv; rw[d_ (by omega),b_ (by omega)]
theorem zk{t:Nat->Nat->Int}{n k j p:Nat}(a:p=2*j)(h:j<k)(b:k<=n):rv .u64 (kP (Bv t n k)) p=aF (t j 0):=by
 subst a;show Value.int .u64 (Bv t n k (2*j / 2) (2*j % 2))=_;unfold Bv; rw[d_ (by omega),d_ (by omega),show 2*j / 2=j by omega,show 2*j % 2=0 by omega]
theorem Te{t:Nat->Nat->Int}{n k j i:Nat}(h:j<k)(a:k<=n)(hi:i<2):rv .u64 (kP (Bv t n k)) (2*j+i)=rv .u64 (t j) i:=by
 show Value.int .u64 (Bv t n k ((2*j+i) / 2) ((2*j+i) % 2))=Value.int .u64 (t j i);unfold Bv; rw[d_ (by omega),d_ (by omega),show(2*j+i) / 2=j by omega,show(2*j+i) % 2=i by omega]
theorem yt{t:Nat->Nat->Int}{n k j:Nat}(e:k=j+1)(_hk:k<=n) : ∀ p,p<(n+1)*2->bI (rv .u64 (kP (Bv t n k))) (2*k) 2 (rv .u64 (t j)) p=rv .u64 (kP (Bv t n j)) p:=fun p b=>by
 unfold bI;by_cases h:2*k<=p/\p<2*k+2
 ·rw[d_ h];show Value.int .u64 (t j (p-2*k))=Value.int .u64 (Bv t n j (p / 2) (p % 2));unfold Bv; rw[b_ (by omega),show p / 2-1=j by omega,show p-2*k=p % 2 by omega]
 ·rw[b_ h];show Value.int .u64 (Bv t n k (p / 2) (p % 2))=Value.int .u64 (Bv t n j (p / 2) (p % 2));unfold Bv;by_cases a:p / 2<=j
  ·rw[d_ (by omega),d_ a]
  ·rw[b_ (by omega),b_ a]
theorem sK{t:Nat->Nat->Int}{n k:Nat}{id par:Int}(_hk:k<=n) : ∀ p,p<(n+1)*2->bI (rv .u64 (kP (Bv t n k))) (2*k) 2 (bI (bI (rv .u64 (fun _=>0)) 0 1 (fun _=>aF id)) 1 1 (fun _=>aF par)) p=rv .u64 (kP (oF t k id par)) p:=fun p c=>by
 by_cases h:2*k<=p/\p<2*k+2
 ·rw[bI,d_ h];show _=Value.int .u64 (oF t k id par (p / 2) (p % 2));unfold oF; rw[b_ (by omega),d_ (by omega)];by_cases b:p=2*k
  ·subst b; rw[show 2*k-2*k=0 by omega,d_ (by omega)]; rfl
  ·rw[show p-2*k=1 by omega,b_ (by omega)]; rfl
 ·rw[bI,b_ h];show Value.int .u64 (Bv t n k (p / 2) (p % 2))=Value.int .u64 (oF t k id par (p / 2) (p % 2));unfold Bv oF;by_cases a:p / 2<k
  ·rw[d_ (by omega),d_ (by omega),d_ a]
  ·rw[b_ (by omega),b_ a,b_ (by omega)]
def Cy(t:Nat->Nat->Int)(tn:Nat)(x:Int):Prop := ∀ i,i<4->0<=bE t tn (bA t tn i x)
theorem Ka{t:Nat->Nat->Int}{tn K:Nat}{x:Int}(h : ∀ i,i<K->0<=bE t tn (bA t tn i x))(a:4<=K):Cy t tn x:=fun i b=>h i (by omega)
theorem DN{t:Nat->Nat->Int}{tn K:Nat}{x:Int}(h:bE t tn (bA t tn K x)<0)(a:K<4) : ¬ Cy t tn x:=fun b=>by have:=b K a; omega
open Classical in
noncomputable def jv(t:Nat->Nat->Int)(tn:Nat)(id par:Int):Int:=if id=0 then 1 else if 0<=bE t tn id then 14 else if par≠0/\bE t tn par<0 then 9 else if 32<=tn\/Cy t tn par then 6 else 0
theorem NS{t:Nat->Nat->Int}{n k j:Nat}{id:Int}(e:k=j+1)(h : ∀ i,k<=i->i<n->id<t i 0)(c:id<t j 0) : ∀ i,j<=i->i<n->id<t i 0:=fun i d b=>by
 by_cases a:i=j
 ·subst a; exact c
 ·exact h i (by omega) b
end Rt
set_option maxRecDepth 10000 in
theorem afo(B:Nat)(tb:Nat)(ta:Option Addr)(tn tc:Nat)(t:Nat->Nat->Int)(id par:Int)(D:Nat)(w:World)(P:aS w tb 1 (fun _ => .slice ta tn tc) 123)(X:Fx.Own w B 128 2 (.slice ta tn tc) tn (rv .u64 (kP t)))(hne:(Value.slice ta tn tc).ownBlock≠some tb)(hB:B<=w.heap.size)(Q:tn<=1000)(hD:bE t tn (bA t tn D par)<0)(hD2:D<=1000) :
 Calls Tryz.prog 107 #[(pt tb),aF id,aF par] w fun e w'=>e = .returned (au (jv t tn id par))/\jO (fun k=>k=tb\/(Value.slice ta tn tc).ownBlock=some k) w w'/\((jv t tn id par≠0/\aS w' tb 1 (fun _ => .slice ta tn tc) 123/\Fx.Own w' B 128 2 (.slice ta tn tc) tn (rv .u64 (kP t)))\/(jv t tn id par=0 /\ ∃ g cap,aS w' tb 1 (fun _=>bL g (tn+1) cap) 123/\Fx.Own w' B 128 2 (bL g (tn+1) cap) (tn+1) (rv .u64 (kP (oF t (down (fun i=>decide (id<t i 0)) tn) id par)))/\(Value.slice (some ⟨g,0,none⟩) (tn+1) cap).ownBlock≠some tb)):=by
 have lp:tb<w.heap.size:=P.lt;refine Kent Tryz.func107 89 ?_;refine ay<|av (au 0)<|aD<|Ws<|ay<|av (aF id) ?_;by_cases q:id=0
 ·refine Lv aH (eZ q)<|aD<|aO<|ay<|av (au 1)<|aD<|Wr<|sR<|aK (au 1) ?_;have c:jv t tn id par=1:=by unfold jv; rw[d_ q]
  exact⟨pz c.symm,(uo (fun k=>k=tb\/(Value.slice ta tn tc).ownBlock=some k) w),.inl ⟨by rw[c]; decide,P,X⟩⟩
 refine Lv aG (fM q)<|aD<|aL<|Wk<|sN<|Ws<|ay<|av (pt tb)<|av (aF id) ?_;by_cases p:(decide (0<=bE t tn id))=true
 ·refine eB (NR tb ta tn tc t id _ (tC P X Q)) aH (by rw[p]) ?_;intro w1 hb1;have s1:=Sb hb1;have⟨m1,m2⟩:=fC hb1 P X;have b1:=(uo (fun k=>k=tb\/(Value.slice ta tn tc).ownBlock=some k) w).then s1 (.inr (uo (fun k=>k=tb\/(Value.slice ta tn tc).ownBlock=some k) w).size);refine aD<|aO<|ay<|av (au 14)<|aD<|Wr<|sR<|aK (au 14) ?_;have c:jv t tn id par=14:=by unfold jv; rw[b_ q,d_ (h_ p)]
  exact⟨pz c.symm,b1,.inl ⟨by rw[c]; decide,m1,m2⟩⟩
 rw[S_]at p;refine eB (NR tb ta tn tc t id _ (tC P X Q)) aG (by rw[p]) ?_;intro w2 hb2;have s2:=Sb hb2;have⟨E,L⟩:=fC hb2 P X;have F:=(uo (fun k=>k=tb\/(Value.slice ta tn tc).ownBlock=some k) w).then s2 (.inr (uo (fun k=>k=tb\/(Value.slice ta tn tc).ownBlock=some k) w).size);refine aD<|aL<|Wk<|sN<|Ws<|ay<|av (aF par) ?_;by_cases G:par=0
 ·refine Lv aG (kr G)<|av aG<|dB<|dB<|dB<|dB<|av aG<|aD<|aL<|Wk<|sN<|Ws<|ay<|av (pt tb)<|av (pt tb)<|av (pt tb)<|Lv (.slice ta (tn) (tc)) (aN E.aI 0)<|av (au tn) ?_;by_cases T:32<=(tn:Int)
  ·refine Lv aH (ko T)<|av aH<|dB<|dB<|dB<|dB<|dB<|av aH<|aD<|aO<|ay<|av (au 6)<|aD<|Wr<|sR<|aK (au 6) ?_;have c:jv t tn id par=6:=(by unfold jv; rw[b_ q,b_ (j_ p),b_ (fun h=>h.1 G),d_ (.inl (by omega))]);exact⟨pz c.symm,F,.inl ⟨by rw[c]; decide,E,L⟩⟩
  refine Lv aG (jU T)<|av aG<|av (pt tb)<|av (aF par)<|lS (IB tb ta tn tc t par D _ (tC E L Q) hD hD2) ?_;rintro e w3 ⟨K,vv,Y,hown,rA,W,hb3⟩;obtain⟨a1,n,rfl⟩:=hown.val;refine⟨.slice a1 K n,Y,?_⟩;clear Y hown;have s3:=Sb hb3;have⟨m5,m6⟩:=fC hb3 E L;have b3:=F.then s3 (.inr F.size);refine av (au K) ?_;by_cases U:4<=(K:Int)
  ·refine Lv aH (ko U)<|av aH<|aD<|aO<|ay<|av (au 6)<|aD<|Wr<|sR<|aK (au 6) ?_;have c:jv t tn id par=6:=(by unfold jv; rw[b_ q,b_ (j_ p),b_ (fun h=>h.1 G),d_ (.inr (Ka rA (by omega)))]);exact⟨pz c.symm,b3,.inl ⟨by rw[c]; decide,m5,m6⟩⟩
  refine Lv aG (jU U)<|av aG<|aD<|aL<|Wk<|sN<|ay<|av (pt tb)<|av (pt tb)<|av (pt tb)<|Lv (.slice ta (tn) (tc)) (aN m5.aI 0)<|av (au tn)<|av (au tn)<|aD<|ay<|av (pt tb)<|av (pt tb)<|av (pt tb)<|av (pt tb)<|Lv (.slice ta (tn) (tc)) (aN m5.aI 0)<|av (.agg (aC 2 (rv .u64 (fun _=>0))))<|yN (vs := [(0,.agg (aC 2 (rv .u64 (fun _=>0))))]) (s:=2) (zc:=rv .u64 (fun _=>0)) (y:=bI (fun j=>(rv .u64 (fun _=>0)) (j % 2)) (0*2) 2 (rv .u64 (fun _=>0))) (by rfl) rfl rfl Tryz.underlying121 (by kernel_rfl) (by rfl) (by rfl) (by kernel_rfl) (by rw[bF (off:=0*2) (s:=2) (y:=rv .u64 (fun _=>0)) rfl (bJ _ _) (by rfl)]; rfl) rfl fun g1 w4 mD m7 s4 z1 => ?_;have⟨m8,m9⟩:=fC s4.old m5 m6;have b4:=b3.then s4 (.inr b3.size);have uG:=jI mD b3.size;have J9:=cO mD m5.lt;have afp:(.slice ta tn tc:Value).ownBlock≠some g1:=by rw[mD]; exact m6.jT (z_ _)
  have wO:=m7.lt;refine zh (B:=B) (s:=2) (bytes:=16) (k:=tn) (m:=1) (v := .slice ta tn tc) (by rfl) rfl rfl rfl Tryz.underlying121 (by kernel_rfl) (by kernel_rfl) rfl rfl m9 m7.aI (fun j Z=>by rcases j with _|_|j <;> first|rfl|omega) (by omega) (by omega) (by omega) (m_ hB b4.size) fun d n w5 ho1 hg1 vU hlt1 => ?_
  have m11:aS w5 tb 1 (fun _ => .slice ta tn tc) 123:=m8.grown hg1 hne;have afq:tb≠d:=fun e=>vU.elim (fun x=>hne (by rw[x,e])) (fun x=>by have:=m8.lt; omega);have m10:Fx.Own w5 B 128 2 (bL d (tn+1) n) (tn+1) (rv .u64 (kP (Bv t tn tn))):=ho1.congr (xJ t tn);have b5:jO (fun k=>k=tb\/(Value.slice ta tn tc).ownBlock=some k) w w5:=Fx.jO.grow b4 hg1 (fun k e => .inl (.inr e));have abp:(fun k=>k=tb\/(Value.slice ta tn tc).ownBlock=some k) d\/w.heap.size<=d:=vU.elim (fun e => .inl (.inr e)) (fun e => .inr (by rw[e]; exact b4.size));refine av (pt tb)<|av (pt tb)<|jm m11 0 (bL d (tn+1) n) fun w6 m12 s5 z2 => ?_;have m13:aS w6 tb 1 (fun _=>bL d (tn+1) n) 123:=dM m12;have m14:=m10.aak s5 (by omega);have b6:=b5.then s5 (.inl (.inl rfl));refine aD<|Ws<|Wb<|Wo (fun f M => ∃ k:Nat,k<=tn/\(∀ i,k<=i->i<tn->id<t i 0)/\f 0=(pt tb)/\f 1=aF id/\f 2=aF par/\f 7=au (k:Int)/\aS M tb 1 (fun _=>bL d (tn+1) n) 123/\Fx.Own M B 128 2 (bL d (tn+1) n) (tn+1) (rv .u64 (kP (Bv t tn k)))/\jO (fun k=>k=tb\/(Value.slice ta tn tc).ownBlock=some k) w M) (fun f _=>(intOf (f 7)).toNat) ⟨tn,by omega,(fun i r N=>L_ r (by omega)),(by rfl),Fx.ic,Fx.ic,Fx.ic,m13,m14,b6⟩ ?_;rintro f1 w7 ⟨k,hk,J,r,N,h3,A,R,m16,b7⟩;refine Ws<|ay<|aX A ?_;by_cases V:0<(k:Int)
  ·obtain⟨j,H⟩ : ∃ j,k=j+1:=⟨k-1,by omega⟩;refine Lv aH (mK V)<|av aH<|aX r<|av (pt tb)<|av (pt tb)<|Lv (bL d (tn+1) n) (aN R.aI 0)<|aX A<|Lv (au j) gu<|Lv (pf d (2*j)) (dh 2)<|av (pf d (2*j))<|Lv (aF (t j 0)) (aN m16.aI (2*j) (zk (by omega) (by omega) (by omega)))<|aX N ?_;by_cases u:id<(t j 0)
   ·refine Lv aH (mK u)<|av aH<|aD<|aO<|Wk<|sN<|Wb<|Ws ?_;refine Wt 14 (by kernel_rfl) (by kernel_rfl) fun qI dY iF => ?_;have s6:Stp w7.heap.size w7 qI:=Sb dY;have⟨m17,m18⟩:=fC dY R m16;have b8:=b7.then s6 (.inr b7.size);refine qo (pt tb) (Ra r)<|Ei (pt tb)<|Ei (pt tb)<|qo (bL d (tn+1) n) (aN m17.aI 0)<|qo (au k) (Ra A)<|qo (pt tb) (Ra r)<|Ei (pt tb)<|Ei (pt tb)<|qo (bL d (tn+1) n) (aN m17.aI 0)<|qo (au k) (Ra A)<|qo (au j) gu<|qo (pf d (2*j)) (dh 2)<|qo (.agg (aC 2 (rv .u64 (t j)))) (gI m18.aI (2*j) (fun i hi=>Te (by omega) (by omega) hi))<|qo (pf d (2*k)) (dh 2)<|Fx.St.nil ?_;refine zI m18 (2*k) fun w8 m19 s7 z3 => ?_;have m20:=m17.cZ s7 (by omega);have b9:=b8.then s7 abp;have m21:Fx.Own w8 B 128 2 (bL d (tn+1) n) (tn+1) (rv .u64 (kP (Bv t tn j))):=m19.congr (yt H (by omega));refine aD<|Wl<|aX A<|Lv (au j) gu<|av (au j)<|Ln<|bQ<|gT ⟨j,by omega,(NS H J u),r,(N.trans Fx.ic),(h3.trans Fx.ic),Fx.ic,m20,m21,b9⟩ ?_;show(intOf (au j)).toNat<_;simp only[A,intOf]; omega
   refine Lv aG (mM u)<|av aG<|aD<|aL<|Wx<|cu<|gJ<|cB<|sN<|ay<|aX r<|av (pt tb)<|av (pt tb)<|Lv (bL d (tn+1) n) (aN R.aI 0)<|aX A<|aX N<|aX h3<|av (.agg (aC 2 (bI (bI (rv .u64 (fun _=>0)) 0 1 (fun _=>aF id)) 1 1 (fun _=>aF par))))<|Lv (pf d (2*k)) (dh 2)<|zI m16 (2*k) (h1:=(fun j Z=>by rcases j with _|_|j <;> first|rfl|omega)) fun w9 m22 s8 z4 => ?_
   have m23:=R.cZ s8 (by omega);have b10:=b7.then s8 abp;have m24:Fx.Own w9 B 128 2 (bL d (tn+1) n) (tn+1) (rv .u64 (kP (oF t k id par))):=m22.congr (sK (by omega));refine aD<|ay<|av (au 0)<|aD<|Wr<|aK (au 0) ?_;have c:jv t tn id par=0:=(by unfold jv; rw[b_ q,b_ (j_ p),b_ (fun h=>h.1 G),b_ (fun h=>h.elim (fun h=>by omega) (DN W (by omega)))]);have I:k=down (fun i=>decide (id<t i 0)) tn:=Fx.oL hk (fun i a b=>f_ (J i a b)) (.inr (fun j e=>by have x:j=_:=Nat.succ.inj (e.symm.trans H); subst x; exact g_ u));exact⟨pz c.symm,b10,.inr ⟨c,d,n,m23,by rw[<- I]; exact m24,fun e=>afq (B_ e).symm⟩⟩
  refine Lv aG (mM V)<|av aG<|dB<|dB<|dB<|dB<|dB<|dB<|dB<|dB<|dB<|dB<|dB<|av aG<|aD<|aL<|Wx<|cu<|gJ<|cB<|sN<|ay<|aX r<|av (pt tb)<|av (pt tb)<|Lv (bL d (tn+1) n) (aN R.aI 0)<|aX A<|aX N<|aX h3<|av (.agg (aC 2 (bI (bI (rv .u64 (fun _=>0)) 0 1 (fun _=>aF id)) 1 1 (fun _=>aF par))))<|Lv (pf d (2*k)) (dh 2)<|zI m16 (2*k) (h1:=(fun j Z=>by rcases j with _|_|j <;> first|rfl|omega)) fun sQ ni s9 z5 => ?_
  have nZ:=R.cZ s9 (by omega);have b11:=b7.then s9 abp;have oz:Fx.Own sQ B 128 2 (bL d (tn+1) n) (tn+1) (rv .u64 (kP (oF t k id par))):=ni.congr (sK (by omega));refine aD<|ay<|av (au 0)<|aD<|Wr<|aK (au 0) ?_;have c:jv t tn id par=0:=by unfold jv; rw[b_ q,b_ (j_ p),b_ (fun h=>h.1 G),b_ (fun h=>h.elim (fun h=>by omega) (DN W (by omega)))]
  have I:k=down (fun i=>decide (id<t i 0)) tn:=Fx.oL hk (fun i a b=>f_ (J i a b)) (.inl (by omega));exact⟨pz c.symm,b11,.inr ⟨c,d,n,nZ,by rw[<- I]; exact oz,fun e=>afq (B_ e).symm⟩⟩
 refine Lv aH (nE G)<|av aH<|av (pt tb)<|av (aF par) ?_;by_cases z:(decide (0<=bE t tn par))=true
 ·refine eB (NR tb ta tn tc t par _ (tC E L Q)) aH (by rw[z]) ?_;intro FP hb4;have s10:=Sb hb4;have⟨og,oC⟩:=fC hb4 E L;have b12:=F.then s10 (.inr F.size);refine av aG<|av aG<|aD<|aL<|Wk<|sN<|Ws<|ay<|av (pt tb)<|av (pt tb)<|av (pt tb)<|Lv (.slice ta (tn) (tc)) (aN og.aI 0)<|av (au tn) ?_;by_cases T:32<=(tn:Int)
  ·refine Lv aH (ko T)<|av aH<|dB<|dB<|dB<|dB<|dB<|av aH<|aD<|aO<|ay<|av (au 6)<|aD<|Wr<|sR<|aK (au 6) ?_;have c:jv t tn id par=6:=(by unfold jv; rw[b_ q,b_ (j_ p),b_ (fun h=>by have:=h_ z; omega),d_ (.inl (by omega))]);exact⟨pz c.symm,b12,.inl ⟨by rw[c]; decide,og,oC⟩⟩
  refine Lv aG (jU T)<|av aG<|av (pt tb)<|av (aF par)<|lS (IB tb ta tn tc t par D _ (tC og oC Q) hD hD2) ?_;rintro e Ag ⟨K,vv,Y,hown,rA,W,hb5⟩;obtain⟨a1,n,rfl⟩:=hown.val;refine⟨.slice a1 K n,Y,?_⟩;clear Y hown;have s11:=Sb hb5;have⟨pE,mE⟩:=fC hb5 og oC;have b13:=b12.then s11 (.inr b12.size);refine av (au K) ?_;by_cases U:4<=(K:Int)
  ·refine Lv aH (ko U)<|av aH<|aD<|aO<|ay<|av (au 6)<|aD<|Wr<|sR<|aK (au 6) ?_;have c:jv t tn id par=6:=(by unfold jv; rw[b_ q,b_ (j_ p),b_ (fun h=>by have:=h_ z; omega),d_ (.inr (Ka rA (by omega)))]);exact⟨pz c.symm,b13,.inl ⟨by rw[c]; decide,pE,mE⟩⟩
  refine Lv aG (jU U)<|av aG<|aD<|aL<|Wk<|sN<|ay<|av (pt tb)<|av (pt tb)<|av (pt tb)<|Lv (.slice ta (tn) (tc)) (aN pE.aI 0)<|av (au tn)<|av (au tn)<|aD<|ay<|av (pt tb)<|av (pt tb)<|av (pt tb)<|av (pt tb)<|Lv (.slice ta (tn) (tc)) (aN pE.aI 0)<|av (.agg (aC 2 (rv .u64 (fun _=>0))))<|yN (vs := [(0,.agg (aC 2 (rv .u64 (fun _=>0))))]) (s:=2) (zc:=rv .u64 (fun _=>0)) (y:=bI (fun j=>(rv .u64 (fun _=>0)) (j % 2)) (0*2) 2 (rv .u64 (fun _=>0))) (by rfl) rfl rfl Tryz.underlying121 (by kernel_rfl) (by rfl) (by rfl) (by kernel_rfl) (by rw[bF (off:=0*2) (s:=2) (y:=rv .u64 (fun _=>0)) rfl (bJ _ _) (by rfl)]; rfl) rfl fun g3 FZ zN m32 s12 z6 => ?_;have⟨qh,oN⟩:=fC s12.old pE mE;have b14:=b13.then s12 (.inr b13.size);have Eo:=jI zN b13.size;have akd:=cO zN pE.lt;have ake:(.slice ta tn tc:Value).ownBlock≠some g3:=by rw[zN]; exact mE.jT (z_ _)
  have Ma:=m32.lt;refine zh (B:=B) (s:=2) (bytes:=16) (k:=tn) (m:=1) (v := .slice ta tn tc) (by rfl) rfl rfl rfl Tryz.underlying121 (by kernel_rfl) (by kernel_rfl) rfl rfl oN m32.aI (fun j Z=>by rcases j with _|_|j <;> first|rfl|omega) (by omega) (by omega) (by omega) (m_ hB b14.size) fun l o Gt ho2 hg2 Ml hlt2 => ?_
  have qx:aS Gt tb 1 (fun _ => .slice ta tn tc) 123:=qh.grown hg2 hne;have afr:tb≠l:=fun e=>Ml.elim (fun x=>hne (by rw[x,e])) (fun x=>by have:=qh.lt; omega);have pW:Fx.Own Gt B 128 2 (bL l (tn+1) o) (tn+1) (rv .u64 (kP (Bv t tn tn))):=ho2.congr (xJ t tn);have b15:jO (fun k=>k=tb\/(Value.slice ta tn tc).ownBlock=some k) w Gt:=Fx.jO.grow b14 hg2 (fun k e => .inl (.inr e));have abq:(fun k=>k=tb\/(Value.slice ta tn tc).ownBlock=some k) l\/w.heap.size<=l:=Ml.elim (fun e => .inl (.inr e)) (fun e => .inr (by rw[e]; exact b14.size));refine av (pt tb)<|av (pt tb)<|jm qx 0 (bL l (tn+1) o) fun L9 rW s13 z7 => ?_;have qy:aS L9 tb 1 (fun _=>bL l (tn+1) o) 123:=dM rW;have pF:=pW.aak s13 (by omega);have b16:=b15.then s13 (.inl (.inl rfl));refine aD<|Ws<|Wb<|Wo (fun f M => ∃ k:Nat,k<=tn/\(∀ i,k<=i->i<tn->id<t i 0)/\f 0=(pt tb)/\f 1=aF id/\f 2=aF par/\f 7=au (k:Int)/\aS M tb 1 (fun _=>bL l (tn+1) o) 123/\Fx.Own M B 128 2 (bL l (tn+1) o) (tn+1) (rv .u64 (kP (Bv t tn k)))/\jO (fun k=>k=tb\/(Value.slice ta tn tc).ownBlock=some k) w M) (fun f _=>(intOf (f 7)).toNat) ⟨tn,by omega,(fun i r N=>L_ r (by omega)),(by rfl),Fx.ic,Fx.ic,Fx.ic,qy,pF,b16⟩ ?_;rintro f2 w16 ⟨k,hk,J,O,h6,h7,C,S,nk,b17⟩;refine Ws<|ay<|aX C ?_;by_cases V:0<(k:Int)
  ·obtain⟨j,H⟩ : ∃ j,k=j+1:=⟨k-1,by omega⟩;refine Lv aH (mK V)<|av aH<|aX O<|av (pt tb)<|av (pt tb)<|Lv (bL l (tn+1) o) (aN S.aI 0)<|aX C<|Lv (au j) gu<|Lv (pf l (2*j)) (dh 2)<|av (pf l (2*j))<|Lv (aF (t j 0)) (aN nk.aI (2*j) (zk (by omega) (by omega) (by omega)))<|aX h6 ?_;by_cases u:id<(t j 0)
   ·refine Lv aH (mK u)<|av aH<|aD<|aO<|Wk<|sN<|Wb<|Ws ?_;refine Wt 14 (by kernel_rfl) (by kernel_rfl) fun Cu fV nH => ?_;have Dl:Stp w16.heap.size w16 Cu:=Sb fV;have⟨mV,nu⟩:=fC fV S nk;have b18:=b17.then Dl (.inr b17.size);refine qo (pt tb) (Ra O)<|Ei (pt tb)<|Ei (pt tb)<|qo (bL l (tn+1) o) (aN mV.aI 0)<|qo (au k) (Ra C)<|qo (pt tb) (Ra O)<|Ei (pt tb)<|Ei (pt tb)<|qo (bL l (tn+1) o) (aN mV.aI 0)<|qo (au k) (Ra C)<|qo (au j) gu<|qo (pf l (2*j)) (dh 2)<|qo (.agg (aC 2 (rv .u64 (t j)))) (gI nu.aI (2*j) (fun i hi=>Te (by omega) (by omega) hi))<|qo (pf l (2*k)) (dh 2)<|Fx.St.nil ?_;refine zI nu (2*k) fun RV rX s15 z8 => ?_;have qK:=mV.cZ s15 (by omega);have b19:=b18.then s15 abq;have nU:Fx.Own RV B 128 2 (bL l (tn+1) o) (tn+1) (rv .u64 (kP (Bv t tn j))):=rX.congr (yt H (by omega));refine aD<|Wl<|aX C<|Lv (au j) gu<|av (au j)<|Ln<|bQ<|gT ⟨j,by omega,(NS H J u),O,(h6.trans Fx.ic),(h7.trans Fx.ic),Fx.ic,qK,nU,b19⟩ ?_;show(intOf (au j)).toNat<_;simp only[C,intOf]; omega
   refine Lv aG (mM u)<|av aG<|aD<|aL<|Wx<|cu<|gJ<|cB<|sN<|ay<|aX O<|av (pt tb)<|av (pt tb)<|Lv (bL l (tn+1) o) (aN S.aI 0)<|aX C<|aX h6<|aX h7<|av (.agg (aC 2 (bI (bI (rv .u64 (fun _=>0)) 0 1 (fun _=>aF id)) 1 1 (fun _=>aF par))))<|Lv (pf l (2*k)) (dh 2)<|zI nk (2*k) (h1:=(fun j Z=>by rcases j with _|_|j <;> first|rfl|omega)) fun RX ru s16 z9 => ?_
   have xq:=S.cZ s16 (by omega);have b20:=b17.then s16 abq;have su:Fx.Own RX B 128 2 (bL l (tn+1) o) (tn+1) (rv .u64 (kP (oF t k id par))):=ru.congr (sK (by omega));refine aD<|ay<|av (au 0)<|aD<|Wr<|aK (au 0) ?_;have c:jv t tn id par=0:=(by unfold jv; rw[b_ q,b_ (j_ p),b_ (fun h=>by have:=h_ z; omega),b_ (fun h=>h.elim (fun h=>by omega) (DN W (by omega)))]);have I:k=down (fun i=>decide (id<t i 0)) tn:=Fx.oL hk (fun i a b=>f_ (J i a b)) (.inr (fun j e=>by have x:j=_:=Nat.succ.inj (e.symm.trans H); subst x; exact g_ u));exact⟨pz c.symm,b20,.inr ⟨c,l,o,xq,by rw[<- I]; exact su,fun e=>afr (B_ e).symm⟩⟩
  refine Lv aG (mM V)<|av aG<|dB<|dB<|dB<|dB<|dB<|dB<|dB<|dB<|dB<|dB<|dB<|av aG<|aD<|aL<|Wx<|cu<|gJ<|cB<|sN<|ay<|aX O<|av (pt tb)<|av (pt tb)<|Lv (bL l (tn+1) o) (aN S.aI 0)<|aX C<|aX h6<|aX h7<|av (.agg (aC 2 (bI (bI (rv .u64 (fun _=>0)) 0 1 (fun _=>aF id)) 1 1 (fun _=>aF par))))<|Lv (pf l (2*k)) (dh 2)<|zI nk (2*k) (h1:=(fun j Z=>by rcases j with _|_|j <;> first|rfl|omega)) fun w19 sS Ji z10 => ?_
  have vw:=S.cZ Ji (by omega);have L8:=b17.then Ji abq;have uH:Fx.Own w19 B 128 2 (bL l (tn+1) o) (tn+1) (rv .u64 (kP (oF t k id par))):=sS.congr (sK (by omega));refine aD<|ay<|av (au 0)<|aD<|Wr<|aK (au 0) ?_;have c:jv t tn id par=0:=by unfold jv; rw[b_ q,b_ (j_ p),b_ (fun h=>by have:=h_ z; omega),b_ (fun h=>h.elim (fun h=>by omega) (DN W (by omega)))]
  have I:k=down (fun i=>decide (id<t i 0)) tn:=Fx.oL hk (fun i a b=>f_ (J i a b)) (.inl (by omega));exact⟨pz c.symm,L8,.inr ⟨c,l,o,vw,by rw[<- I]; exact uH,fun e=>afr (B_ e).symm⟩⟩
 rw[S_]at z;refine eB (NR tb ta tn tc t par _ (tC E L Q)) aG (by rw[z]) ?_;intro VT hb6;have Lm:=Sb hb6;have⟨uh,uI⟩:=fC hb6 E L;have Lj:=F.then Lm (.inr F.size);refine av aH<|av aH<|aD<|aO<|ay<|av (au 9)<|aD<|Wr<|sR<|aK (au 9) ?_;have c:jv t tn id par=9:=by unfold jv; rw[b_ q,b_ (j_ p),d_ ⟨G,by have:=j_ z; omega⟩]
 exact⟨pz c.symm,Lj,.inl ⟨by rw[c]; decide,uh,uI⟩⟩
namespace Rt
def jc(o a:Int):Int:=if 1<=o/\o<=6/\1<=a/\a<1099511627776 then 1099511627776*o+a else 0
end Rt
theorem akf(o a:Int)(w:World) :
 Calls Tryz.prog 50 #[au o,aF a] w fun e w'=>e = .returned (aF (jc o a))/\w'=w:=by
 refine Kent Tryz.func50 24 ?_;refine ay<|av (aF 0)<|aD<|Ws<|ay<|av (au o) ?_;by_cases f:o<1
 ·refine Lv aH (gV f)<|av aH<|dB<|dB<|av aH<|av aH<|dB<|dB<|av aH<|av aH<|dB<|dB<|av aH<|aD<|aO<|ay<|av (aF 0)<|aD<|Wr<|sR<|aK (aF 0) ?_;exact⟨K_ (fun q=>Ending.returned (Value.int .u64 q)) (Eq.symm (by unfold jc; rw[b_ (by omega)])),rfl⟩
 refine Lv aG (gW f)<|av aG<|av (au o) ?_;by_cases g:6<o
 ·refine Lv aH (mK g)<|av aH<|av aH<|dB<|dB<|av aH<|av aH<|dB<|dB<|av aH<|aD<|aO<|ay<|av (aF 0)<|aD<|Wr<|sR<|aK (aF 0) ?_;exact⟨K_ (fun q=>Ending.returned (Value.int .u64 q)) (Eq.symm (by unfold jc; rw[b_ (by omega)])),rfl⟩
 refine Lv aG (mM g)<|av aG<|av aG<|av (aF a) ?_;by_cases c:a<1
 ·refine Lv aH (gV c)<|av aH<|av aH<|dB<|dB<|av aH<|aD<|aO<|ay<|av (aF 0)<|aD<|Wr<|sR<|aK (aF 0) ?_;exact⟨K_ (fun q=>Ending.returned (Value.int .u64 q)) (Eq.symm (by unfold jc; rw[b_ (by omega)])),rfl⟩
 refine Lv aG (gW c)<|av aG<|av aG<|av (aF a) ?_;by_cases d:1099511627776<=a
 ·refine Lv aH (ko d)<|av aH<|aD<|aO<|ay<|av (aF 0)<|aD<|Wr<|sR<|aK (aF 0) ?_;exact⟨K_ (fun q=>Ending.returned (Value.int .u64 q)) (Eq.symm (by unfold jc; rw[b_ (by omega)])),rfl⟩
 refine Lv aG (jU d)<|av aG<|aD<|aL<|Wk<|sN<|ay<|av (au o)<|Lv (aF o) (dD rfl rfl (by kernel_rfl) Tryz.underlying28 (jK (by omega) rfl))<|Lv (aF (1099511627776*o)) (Fx.Jv (b:=40) rfl rfl rfl (by decide) (jK (by omega) (by omega)))<|av (aF a)<|Lv (aF (1099511627776*o+a)) eY<|av (aF (1099511627776*o+a))<|aD<|Wr<|aK (aF (1099511627776*o+a)) ?_;exact⟨K_ (fun q=>Ending.returned (Value.int .u64 q)) (Eq.symm (by unfold jc; rw[d_ (by omega)])),rfl⟩
theorem Zt(a:Option Addr)(n cap:Nat)(w:World) :
 Calls Tryz.prog 10 #[.slice a (n) (cap)] w fun e w'=>e = .returned (.bool (decide ((n:Int)<=60)))/\w'=w:=by
 refine Kent Tryz.func10 6 ?_;refine ay<|av aG<|aD<|ay<|av (.slice a (n) (cap))<|av (au n) ?_;by_cases b:(n:Int)<=60
 ·refine Lv aH (nD b)<|av aH<|aD<|Wr<|aK aH ?_;exact⟨gZ (Eq.symm (f_ b)),rfl⟩
 refine Lv aG (nT b)<|av aG<|aD<|Wr<|aK aG ?_;exact⟨gZ (Eq.symm (g_ b)),rfl⟩
section
theorem app0{s:Nat}{x y:Nat->Value}(j:Nat):iB x (0*s) y j=y j:=by unfold iB; rw[Nat.zero_mul,b_ (u_ _)]; rfl
theorem uS(id par:Int)(R:Nat->Int)(j:Nat):(lY id par R j).oneCell'=true:=by unfold lY; split <;> (try split) <;> rfl
theorem Ez(id par:Int)(R:Nat->Int){q p:Nat}(h:q=p+2):lY id par R q=au (R p):=by subst h; unfold lY; rw[b_ (by omega),b_ (by omega),Nat.add_sub_cancel]
theorem tF(x:Nat->Int)(j:Nat):(jf x j).oneCell'=true:=by unfold jf; split <;> (try split) <;> rfl
theorem Xd(m:kX)(j:Nat):(Jk m j).oneCell'=true:=uS _ _ _ _
theorem Xe(m:kX)(j:Nat):(Iy m j).oneCell'=true:=tF _ _
theorem NT(m:DL)(j:Nat):(pX m j).oneCell'=true:=by unfold pX; repeat (first|rfl|split)
def sH(m:kX)(i:Nat):Value := .slice (m.ra i) (m.rn i) (m.rc i)
def wz(w:World)(B k:Nat)(m:kX):Prop :=
 (∀ i,i<k->Fx.Own w B 28 1 (sH m i) (m.rn i) (rv .u64 (m.rq i))) /\ ∀ i j,i<k->j<k->i≠j -> ∀ g,(sH m i).ownBlock=some g->(sH m j).ownBlock≠some g
section
variable {w w':World} {B k:Nat} {m:kX}
theorem wz.up(h:wz w B k m)(a:Below w.heap.size w w'):wz w' B k m:=⟨fun i b=>(h.1 i b).up a,h.2⟩
instance:Rt.Tr w w' (wz w B k m) (wz w' B k m):=⟨fun b h=>h.up b⟩
theorem wz.jN{a:List TypeId}(h:wz w B k m)(c:iP a w w')(d:a.contains 28=false):wz w' B k m:=⟨fun i b=>(h.1 i b).jN c d,h.2⟩
instance {a:List TypeId}:Rt.Tc a w w' (wz w B k m) (wz w' B k m) (!(a.contains 28)):=⟨fun b h e=>h.jN b (by simpa using e)⟩
theorem wz.zero(w:World)(B:Nat)(m:kX):wz w B 0 m:=⟨fun _ h=>L_ h (u_ _),fun _ _ h=>L_ h (u_ _)⟩
theorem wz.fresh(h:wz w B k m){v:Value}(c:v = .slice none 0 0\/v.ownBlock=(Value.slice none 0 0).ownBlock\/v.ownBlock=some w.heap.size) : ∀ i,i<k -> ∀ g,(sH m i).ownBlock=some g->v.ownBlock≠some g:=fun i b g a e=>by
 have d:=((h.1 i b).ge a).2
 rcases c with rfl|e2|e2
 ·cases e
 ·rw[e]at e2; cases e2
 ·rw[e]at e2; have:=B_ e2; omega
theorem wz.snoc{a:kX}(h:wz w B k m)(c : ∀ i,i<k->sH a i=sH m i/\a.rn i=m.rn i/\a.rq i=m.rq i)(s:Fx.Own w B 28 1 (sH a k) (a.rn k) (rv .u64 (a.rq k)))(l : ∀ i,i<k -> ∀ g,(sH m i).ownBlock=some g->(sH a k).ownBlock≠some g):wz w B (k+1) a:=by
 refine⟨fun i t => ?_,fun i j t u n g b => ?_⟩
 ·by_cases e:i=k
  ·subst e; exact s
  obtain⟨p,q,r⟩:=c i (by omega);rw[p,q,r]; exact h.1 i (by omega)
 by_cases o:i=k
 ·subst o;by_cases d:j=i
  ·exact L_ d.symm n
  intro f;rw[(c j (by omega)).1]at f;exact l j (by omega) g f b
 rw[(c i (by omega)).1]at b;by_cases d:j=k
 ·subst d; exact l i (by omega) g b
 rw[(c j (by omega)).1]; exact h.2 i j (by omega) (by omega) n g b
end
structure vF(w:World)(B p:Nat)(m:kX):Prop where
 c:aS w p 27 (mF m) 71
 n:Fx.Own w B 61 56 (.slice m.s.na m.s.nn m.s.nc) m.s.nn (Jk m)
 g:Fx.Own w B 66 5 (.slice m.s.ga m.s.gn m.s.gc) m.s.gn (Iy m)
 tc:aS w m.tb 1 (fun _ => .slice m.ta m.tn m.tc) 123
 t:Fx.Own w B 128 2 (.slice m.ta m.tn m.tc) m.tn (Px m.t)
 r:wz w B 6 m
 pB:B<=p
 tB:B<=m.tb
 bn:m.s.nn<=1000
 bg:m.s.gn<=1000000
 bt:m.tn<=1000
 br : ∀ i,i<6->m.rn i<=1000000
section
variable {w w':World} {B p:Nat} {m:kX}
theorem vF.ldg(h:vF w B p m):Cx w p m where
 c:=h.c.aI
 an:=h.n.arr
 ag:=h.g.arr
 tc:=h.tc.aI
 at2:=h.t.arr
 ar:=fun i a=>(h.r.1 i a).arr
 bn:=by have:=h.bn; omega
 bg:=h.bg
 bt:=by have:=h.bt; omega
 br:=h.br
theorem vF.up(h:vF w B p m)(a:Below w.heap.size w w'):vF w' B p m := { h with c:=h.c.cZ (Sb a) (t_ h.c.lt),n:=h.n.up a,g:=h.g.up a,tc:=h.tc.cZ (Sb a) (t_ h.tc.lt),t:=h.t.up a,r:=h.r.up a }
instance:Rt.Tr w w' (vF w B p m) (vF w' B p m):=⟨fun b h=>h.up b⟩
def F4:List Nat := [71,61,66,123,128,28]
theorem vF.jN{e:List TypeId}(h:vF w B p m)(b:iP e w w')(i:(F4.all fun T => !e.contains T)=true):vF w' B p m:=by
 have a : ∀ d∈F4,e.contains d=false:=fun d f=>by
  have:=List.all_eq_true.1 i d f
  simpa using this
 exact { h with
  c:=h.c.jN b (a _ (by decide)),n:=h.n.jN b (a _ (by decide)),g:=h.g.jN b (a _ (by decide)),tc:=h.tc.jN b (a _ (by decide)),t:=h.t.jN b (a _ (by decide)),r:=h.r.jN b (a _ (by decide)) }
instance {a:List TypeId}:Rt.Tc a w w' (vF w B p m) (vF w' B p m) (F4.all fun T => !a.contains T):=⟨fun b h e=>h.jN b (by simpa using e)⟩
theorem vF.mono{b:Nat}(h:vF w B p m)(a:b<=B):vF w b p m := { h with n:=h.n.mono a,g:=h.g.mono a,t:=h.t.mono a,r:=⟨fun i c=>(h.r.1 i c).mono a,h.r.2⟩,pB:=m_ a h.pB,tB:=m_ a h.tB }
end
def Kc(m:kX)(na:Option Addr)(nc:Nat)(ga:Option Addr)(gc tb:Nat)(ta:Option Addr)(tc:Nat)(ra:Nat->Option Addr)(rc:Nat->Nat)(k:Nat):kX :=
 { m with s := { m.s with na:=na,nc:=nc,ga:=ga,gc:=gc },tb:=tb,ta:=ta,tc:=tc,ra:=fun i=>if i<k then ra i else none,rn:=fun i=>if i<k then m.rn i else 0,rc:=fun i=>if i<k then rc i else 0 }
def aJ{a:Type}(f:Nat->a)(k:Nat)(v:a):Nat->a:=fun i=>if i=k then v else f i
section
variable {m:kX} {na:Option Addr} {nc:Nat} {ga:Option Addr} {gc tb:Nat} {ta:Option Addr} {tc:Nat} {ra:Nat->Option Addr} {rc:Nat->Nat} {k:Nat}
theorem Xf{q:Nat}(h:q=k+21):mF (Kc m na nc ga gc tb ta tc ra rc k) q = .slice none 0 0:=by
 subst h;rw[wu (p:=k) _ rfl];show Value.slice (if k<k then ra k else none) (if k<k then m.rn k else 0) (if k<k then rc k else 0)=_;rw[b_ (Nat.lt_irrefl _),b_ (Nat.lt_irrefl _),b_ (Nat.lt_irrefl _)]
theorem yC{i:Nat}(h:i<k):sH (Kc m na nc ga gc tb ta tc ra rc k) i = .slice (ra i) (m.rn i) (rc i):=by
 show Value.slice (if i<k then ra i else none) (if i<k then m.rn i else 0) (if i<k then rc i else 0)=_;rw[d_ h,d_ h,d_ h]
theorem Tf{a:Option Addr}{c q:Nat}(f:q=k+21):dA (mF (Kc m na nc ga gc tb ta tc ra rc k)) q (.slice a (m.rn k) c)=mF (Kc m na nc ga gc tb ta tc (aJ ra k a) (aJ rc k c) (k+1)):=by
 subst f
 funext p
 unfold dA;by_cases e:p=k+21
 ·subst e; rw[d_ rfl];rw[wu (p:=k) _ rfl];show _=Value.slice (if k<k+1 then aJ ra k a k else none) (if k<k+1 then m.rn k else 0) (if k<k+1 then aJ rc k c k else 0);simp[aJ]
 rw[b_ e];unfold mF;by_cases h:p<20
 ·rw[d_ h,d_ h]; rfl
 rw[b_ h,b_ h];by_cases b:p=20
 ·rw[d_ b,d_ b]; rfl
 rw[b_ b,b_ b];show Value.slice (if p-21<k then ra (p-21)else none) (if p-21<k then m.rn (p-21)else 0) (if p-21<k then rc (p-21)else 0)=Value.slice (if p-21<k+1 then aJ ra k a (p-21)else none) (if p-21<k+1 then m.rn (p-21)else 0) (if p-21<k+1 then aJ rc k c (p-21)else 0);by_cases d:p-21<k
 ·simp[aJ,d,show p-21<k+1 by omega,show ¬ p-21=k by omega]
 simp[d,show ¬ p-21<k+1 by omega]
theorem Xg{w:World}{B:Nat}{a:Option Addr}{c:Nat}(h:wz w B k (Kc m na nc ga gc tb ta tc ra rc k))(e:Fx.Own w B 28 1 (.slice a (m.rn k) c) (m.rn k) (rv .u64 (m.rq k)))
 (f : ∀ i,i<k -> ∀ g,(sH (Kc m na nc ga gc tb ta tc ra rc k) i).ownBlock=some g->(Value.slice a (m.rn k) c).ownBlock≠some g):wz w B (k+1) (Kc m na nc ga gc tb ta tc (aJ ra k a) (aJ rc k c) (k+1)):=by
 have b:sH (Kc m na nc ga gc tb ta tc (aJ ra k a) (aJ rc k c) (k+1)) k = .slice a (m.rn k) c:=by
  rw[yC (by omega)]; unfold aJ; rw[d_ rfl,d_ rfl]
 refine h.snoc (fun i d=>⟨?_,?_,rfl⟩) ?_ ?_
 ·rw[yC (by omega),yC d]; unfold aJ; rw[b_ (by omega),b_ (by omega)]
 ·show(if i<k+1 then m.rn i else 0)=(if i<k then m.rn i else 0);rw[d_ (by omega),d_ d]
 ·rw[b];show Fx.Own w B 28 1 _ (if k<k+1 then m.rn k else 0) _;rw[d_ (by omega)]; exact e
 rw[b]; exact f
end
def atM(m:kX)(na:Option Addr)(nc:Nat)(ga:Option Addr)(gc tb:Nat)(ta:Option Addr)(tc:Nat)(ra:Nat->Option Addr)(rc:Nat->Nat):kX :=
 { m with s := { m.s with na:=na,nc:=nc,ga:=ga,gc:=gc },tb:=tb,ta:=ta,tc:=tc,ra:=ra,rc:=rc }
section
variable {m:kX} {na:Option Addr} {nc:Nat} {ga:Option Addr} {gc tb:Nat} {ta:Option Addr} {tc:Nat} {ra:Nat->Option Addr} {rc:Nat->Nat}
theorem afs : ∀ j,j<27->mF (Kc m na nc ga gc tb ta tc ra rc 6) j=mF (atM m na nc ga gc tb ta tc ra rc) j:=fun j b=>by
 unfold mF;by_cases h:j<20
 ·rw[d_ h,d_ h]; rfl
 ·rw[b_ h,b_ h];by_cases a:j=20
  ·rw[d_ a,d_ a]; rfl
  ·rw[b_ a,b_ a];show Value.slice (if j-21<6 then ra (j-21)else none) (if j-21<6 then m.rn (j-21)else 0) (if j-21<6 then rc (j-21)else 0)=Value.slice (ra (j-21)) (m.rn (j-21)) (rc (j-21));rw[d_ (by omega),d_ (by omega),d_ (by omega)]
theorem Xh{w:World}{B:Nat}(h:wz w B 6 (Kc m na nc ga gc tb ta tc ra rc 6)):wz w B 6 (atM m na nc ga gc tb ta tc ra rc):=by
 refine⟨fun i a => ?_,fun i j a b d g c => ?_⟩
 ·have:=h.1 i a;rw[yC a]at this;have e:(Kc m na nc ga gc tb ta tc ra rc 6).rn i=m.rn i:=by show(if i<6 then m.rn i else 0)=_; rw[d_ a]
  rw[e]at this;exact this
 have:=h.2 i j a b d g;rw[yC a,yC b]at this;exact this c
end
end
set_option maxRecDepth 20000 in
set_option maxHeartbeats 1000000 in
theorem abr(m:kX)(p:Nat)(w:World)(h:Cx w p m)(bn1:m.s.nn<=1000)(bt1:m.tn<=1000) :
 Calls Tryz.prog 53 #[(pt p)] w fun e w' => ∃ p' m',e = .returned (pt p')/\m'.core=m.core/\vF w' w.heap.size p' m'/\Below w.heap.size w w':=by
 have N:=h.c;have lp:p<w.heap.size:=N.lt (by omega);have bn:=h.bn;have bg:=h.bg;have bt:=h.bt;have han:=h.an;have hag:=h.ag;have hat:=h.at2;have htc:=h.tc;have QD:m.tb<w.heap.size:=htc.lt (by omega);refine Kent Tryz.func53 79 ?_;refine ay<|av (.pointer none)<|aD<|ay<|av (pt p)<|av (pt p)<|av (pt p)<|Lv (.agg (aC 20 (pX m.s))) (gI N 0 (fun j hj=>(show mF _ (0+j)=pX _ j by rw[E_]; exact lM _ hj rfl)))<|av (.agg (aC 1 (fun _ => .slice none 0 0)))<|rU fun b w1 mD m1 s1 z1 => ?_;have⟨m2,m3,b1⟩:=ku s1.old N htc (Below.refl w.heap.size w);have uG:=iE mD;have nI:p≠b:=by rw[mD]; exact t_ (N.lt (by omega))
 have Zu:m.tb≠b:=by rw[mD]; exact t_ (htc.lt (by omega))
 have wO:=m1.lt;refine av (.agg (aC 27 (bI (bI (fun o=>if o<12 then .bool false else if o<18 then aF 0 else if o<20 then .slice none 0 0 else if o<21 then .pointer none else .slice none 0 0) 0 20 (pX m.s)) 20 1 (fun _=>(pt b)))))<|Dw (m:=27) (y:=bI (bI (fun o=>if o<12 then .bool false else if o<18 then aF 0 else if o<20 then .slice none 0 0 else if o<21 then .pointer none else .slice none 0 0) 0 20 (pX m.s)) 20 1 (fun _=>(pt b))) (by rfl) rfl rfl (bJ _ _) rfl fun a w2 V m4 s2 z2 => ?_;have⟨m5,m6,m7,b2⟩:=oZ s2.old m2 m3 m1 b1;have sG:=jI V b1.size;have Zv:p≠a:=by rw[V]; exact t_ (m2.lt (by omega))
 have aft:m.tb≠a:=by rw[V]; exact t_ (m3.lt (by omega))
 have Tg:=cO V m1.lt;have Bg:=m4.lt;refine av (pt a)<|aD<|ay<|av (pt a)<|Fx.L.Nr (s:=56) (by rfl) rfl Tryz.underlying50 (by kernel_rfl) rfl fun g3 w3 zN hO1 s3 => ?_;have P:Fx.Own w3 w.heap.size 61 56 (bL g3 0 0) 0 (Jk m):=hO1 _ _ (by rw[zN]; exact b2.size);have⟨m9,m10,m11,m12,S⟩:=vP s3.old m5 m6 m7 m4 b2;refine av (pt p)<|av (pt p)<|av (pt p)<|av (pf p 18)<|Lv (.slice m.s.na (m.s.nn) (m.s.nc)) (aN m9 18)<|Fx.L.Ib (B:=w.heap.size) (s:=56) (bytes:=448) (k:=0) (m:=m.s.nn) (v:=bL g3 0 0) (x:=Jk m) (by rfl) rfl rfl rfl Tryz.underlying50 (by kernel_rfl) (by kernel_rfl) rfl rfl P (han.up S rfl) (fun j _=>Xd m j) (by omega) (by omega) S.size fun vv1 w4 ho1 X vU => ?_;rw[E_]at ho1;obtain⟨C,E,rfl⟩:=ho1.val;have gK:=zi X P;have m14:=m9.grown X (P.not (by omega));have m15:=m10.grown X (P.not (by omega));have⟨m16,m17⟩:=Dc gK m11 m12;have m13:Fx.Own w4 w.heap.size 61 56 (.slice C (m.s.nn) (E)) m.s.nn (Jk m):=(ho1.congr (fun j _=>app0 j));have b4:Below w.heap.size w w4:=zf S X S.size (fun q l=>(P.ge l).1);refine av (pt a)<|av (pt a)<|av (pf a 18)<|jm m17 18 (.slice C (m.s.nn) (E)) fun w5 m18 s4 z3 => ?_;have m19:=m14.cZ s4 (by omega);have m20:=m15.cZ s4 (by omega);have jV:=gY s4 m17.ty;have⟨m21,m22⟩:=Dc jV m16 m13;have b5:=s4.below b4 b4.size (by omega);refine aD<|ay<|av (pt a)<|Fx.L.Nr (s:=5) (by rfl) rfl Tryz.underlying51 (by kernel_rfl) rfl fun g4 w6 LY hO2 s5 => ?_;have O:Fx.Own w6 w.heap.size 66 5 (bL g4 0 0) 0 (Iy m):=hO2 _ _ (by rw[LY]; exact b5.size);have⟨m24,ni,nZ,oz,og,T⟩:=uy s5.old m19 m20 m21 m22 m18 b5;refine av (pt p)<|av (pt p)<|av (pt p)<|av (pf p 19)<|Lv (.slice m.s.ga (m.s.gn) (m.s.gc)) (aN m24 19)<|Fx.L.Ib (B:=w.heap.size) (s:=5) (bytes:=40) (k:=0) (m:=m.s.gn) (v:=bL g4 0 0) (x:=Iy m) (by rfl) rfl rfl rfl Tryz.underlying51 (by kernel_rfl) (by kernel_rfl) rfl rfl O (hag.up T rfl) (fun j _=>Xe m j) (by omega) (by omega) T.size fun vv2 w7 ho2 Y Ml => ?_;rw[E_]at ho2;obtain⟨D,F,rfl⟩:=ho2.val;have tK:=zi Y O;have pE:=m24.grown Y (O.not (by omega));have mE:=ni.grown Y (O.not (by omega));have⟨m32,qh,oN⟩:=FW tK nZ oz og;have oC:Fx.Own w7 w.heap.size 66 5 (.slice D (m.s.gn) (F)) m.s.gn (Iy m):=(ho2.congr (fun j _=>app0 j));have b7:Below w.heap.size w w7:=zf T Y T.size (fun q l=>(O.ge l).1);refine av (pt a)<|av (pt a)<|av (pf a 19)<|jm oN 19 (.slice D (m.s.gn) (F)) fun w8 pW s6 z4 => ?_;have qx:=pE.cZ s6 (by omega);have rW:=mE.cZ s6 (by omega);have zK:=gY s6 oN.ty;have⟨qy,pF,sj⟩:=FW zK m32 qh oC;have b8:=s6.below b7 b7.size (by omega);refine aD<|Ws ?_;refine Ap [0,1,2,4,5,6,11,12,13,3,7,8,9,10,14,15,16,17,18,19,20,21] [0,0,0,1,0,0,0,4,0,0,4,0,0,0,4,0,0,4,2,0,0,3] (iP [128]) vO Fx.iP.trans (fG := [(21,3,[3]),(18,7,[10,9,8,7]),(21,7,[7]),(18,10,[10]),(21,10,[10]),(18,14,[17,16,15,14]),(21,14,[14]),(18,17,[17]),(21,17,[17]),(19,18,[18]),(20,18,[18]),(21,18,[18])]) (by kernel_rfl) (by kernel_rfl) (by kernel_rfl) (by kernel_rfl) (by kernel_rfl) fun I dY iF => ?_;have⟨nk,mV,nu,rX,qK,nU,U⟩:=jo dY qx rW qy pF sj pW b8;refine bf (pt a)<|bf (pt a)<|bf (pf a 20)<|bf (pt a)<|bf (pt a)<|bf (pf a 20)<|bf (pt p)<|bf (pt p)<|bf (pf p 20)<|Rd (v:=(pt b)) (by rfl) (by rfl) (vO _) (fun v1 hv1=>bD (x:=dA (dA (bI (bI (fun o=>if o<12 then .bool false else if o<18 then aF 0 else if o<20 then .slice none 0 0 else if o<21 then .pointer none else .slice none 0 0) 0 20 (pX m.s)) 20 1 (fun _=>(pt b))) 18 (.slice C (m.s.nn) (E))) 19 (.slice D (m.s.gn) (F))) rfl rfl (by kernel_rfl) (nU.jN hv1 (by decide)).aI (i:=20) (by omega) (by omega) (Fx.Al (by omega) (Fx.Al (by omega) (Fx.qc (j:=0) (by omega) (by omega) rfl)))) ?_;refine Rs (pt b) (aN nU.aI 20 (Fx.Al (by omega) (Fx.Al (by omega) (Fx.qc (j:=0) (by omega) (by omega) rfl)))) ?_;refine bf (pt b)<|bf (pt b)<|Rs (.slice none 0 0) (aN nu.aI 0) ?_;refine Rs (pt m.tb) (aN nk 20) ?_;refine bf (pt m.tb)<|bf (pt m.tb)<|Rs (.slice m.ta (m.tn) (m.tc)) (aN mV 0) ?_;refine Ct<|Fx.L.Ib (B:=w.heap.size) (s:=2) (bytes:=16) (k:=0) (m:=m.tn) (v := .slice none 0 0) (x:=Px m.t) (by rfl) rfl rfl rfl Tryz.underlying121 (by kernel_rfl) (by kernel_rfl) rfl rfl (wZ I w.heap.size 128 2 (Px m.t)) (hat.up U rfl) (fun _ _=>rfl) (by omega) (by omega) U.size fun vv3 w9 ho3 A atH => ?_;rw[E_]at ho3
 obtain⟨u,z,rfl⟩:=ho3.val;have yP:=zi A (wZ I w.heap.size 128 2 (Px m.t));have hq1:Below I.heap.size I w9:=⟨A.os,A.tape,A.output,A.size,fun q l=>A.block q l (fun e=>by cases e)⟩
 have xq:=nk.cZ (Sb hq1) (t_ (nk.lt (by omega)));have hq2:Below I.heap.size I w9:=⟨A.os,A.tape,A.output,A.size,fun q l=>A.block q l (fun e=>by cases e)⟩
 have su:=mV.cZ (Sb hq2) (t_ (mV.lt (by omega)));have⟨sS,vw,uH,uh⟩:=JA yP nu rX qK nU;have ru:Fx.Own w9 w.heap.size 128 2 (.slice u (m.tn) (z)) m.tn (Px m.t):=(ho3.congr (fun j _=>app0 j));have b10:Below w.heap.size w w9:=zf U A U.size (fun q l=>((wZ I w.heap.size 128 2 (Px m.t)).ge l).1);refine Ln ⟨yP,?_⟩;refine bf (pt b)<|bf (pt b)<|gF<|jm sS 0 (.slice u (m.tn) (z)) fun sQ uI s8 z5 => ?_;have wR:aS sQ b 1 (fun _ => .slice u (m.tn) (z)) 123:=dM uI;have tL:=xq.cZ s8 (by omega);have rY:=su.cZ s8 (by omega);have yQ:=gY s8 sS.ty;have⟨rz,wS,pG,uJ⟩:=JA yQ vw uH uh ru;have b11:=s8.below b10 b10.size (by omega);refine Ln<|bR<|Ws<|ay<|av (au 0)<|aD<|Wb ?_;have nS:aS sQ a 27 (mF (Kc m C E D F b u z (fun _=>none) (fun _=>0) 0)) 71:=pG.congr (fun j hj=>by rcases j with _|_|_|_|_|_|_|_|_|_|_|_|_|_|_|_|_|_|_|_|_|_|_|_|_|_|_|j <;> first|rfl|omega)
 have sw:=wz.zero sQ w.heap.size (Kc m C E D F b u z (fun _=>none) (fun _=>0) 0);refine Wo (fun f H => ∃ k:Nat,∃ ra:Nat->Option Addr,∃ rc:Nat->Nat,k<=6/\f 0=(pt p)/\f 3=(pt a)/\f 4=au (k:Int)/\iU H p 0 27 (mF m)/\Fx.Own H w.heap.size 61 56 (.slice C (m.s.nn) (E)) m.s.nn (Jk m)/\Fx.Own H w.heap.size 66 5 (.slice D (m.s.gn) (F)) m.s.gn (Iy m)/\Fx.Own H w.heap.size 128 2 (.slice u (m.tn) (z)) m.tn (Px m.t)/\aS H b 1 (fun _ => .slice u (m.tn) (z)) 123/\aS H a 27 (mF (Kc m C E D F b u z ra rc k)) 71/\wz H w.heap.size k (Kc m C E D F b u z ra rc k)/\Below w.heap.size w H) (fun f _=>(6-(intOf (f 4)).toNat)) ⟨0,(fun _=>none),(fun _=>0),by omega,(by rfl),(by rfl),Fx.ic,tL,rz,wS,uJ,wR,nS,sw,b11⟩ ?_;rintro f1 FP ⟨k,ra,rc,hk,h1,W,J,m64,vV,vE,vW,vX,qz,sD,b12⟩;refine Ws<|ay<|aX J ?_;by_cases c57:(k:Int)<6
 ·refine Lv aH (gV c57)<|aD<|aO<|Wk<|sN<|Ws<|Wb ?_;have brk:=h.br k (by omega);have sU:=N.below b12 lp;refine Ap [0,1,2,3,4,5,6,8,9,10,11,12,15,16,7,13,14,17,18] [0,0,0,0,0,0,0,4,0,0,0,0,0,4,2,0,0,0,3] (iP [28]) vO Fx.iP.trans (fG := [(14,7,[7]),(18,7,[7]),(14,13,[13]),(18,13,[13]),(17,14,[14]),(18,14,[14])]) (by kernel_rfl) (by kernel_rfl) (by kernel_rfl) (by kernel_rfl) (by kernel_rfl) fun G fV nH => ?_;have⟨sF,sV,xu,uK,wT,wU,xw,wV,R⟩:=Bn fV m64 vV vE vW vX qz sD sU b12;refine bW W<|bW J<|bW W<|bW J<|bf (pt a)<|bf (pf a 21)<|Rp (pf a (k+21)) (fun _=>jE 6 1)<|bW h1<|bW J<|bf (pt p)<|bf (pf p 21)<|Rp (pf p (k+21)) (fun _=>jE 6 1)<|bf (pt a)<|bf (pf a 21)<|Rs (.slice none 0 0) (aN wU.aI (k+21) (Xf (by omega))) ?_;refine Rs (.slice (m.ra k) (m.rn k) (m.rc k)) (aN sF (k+21) (wu _ (by omega))) ?_;refine Ct<|Fx.L.Ib (B:=w.heap.size) (s:=1) (bytes:=8) (k:=0) (m:=(m.rn k)) (v := .slice none 0 0) (x:=rv .u64 (m.rq k)) (by rfl) rfl rfl rfl Tryz.underlying63 (by kernel_rfl) (by kernel_rfl) rfl rfl (wZ G w.heap.size 28 1 (rv .u64 (m.rq k))) ((h.ar k (by omega)).up R rfl) (fun _ _=>rfl) (by omega) (by omega) R.size fun vv4 Q ho4 d aki => ?_;rw[E_]at ho4;obtain⟨K,M,rfl⟩:=ho4.val;have Az:=zi d (wZ G w.heap.size 28 1 (rv .u64 (m.rq k)));have hq3:Below G.heap.size G Q:=⟨d.os,d.tape,d.output,d.size,fun q l=>d.block q l (fun e=>by cases e)⟩
  have uL:=sF.cZ (Sb hq3) (t_ (sF.lt (by omega)));have⟨wW,yR,xA,zu,zL⟩:=qX Az sV xu uK wT wU;have hq4:Below G.heap.size G Q:=⟨d.os,d.tape,d.output,d.size,fun q l=>d.block q l (fun e=>by cases e)⟩
  have zw:=xw.up hq4;have hq5:Below G.heap.size G Q:=⟨d.os,d.tape,d.output,d.size,fun q l=>d.block q l (fun e=>by cases e)⟩
  have yS:=wV.cZ (Sb hq5) (t_ (wV.lt (by omega)));have vY:Fx.Own Q w.heap.size 28 1 (.slice K (m.rn k) (M)) (m.rn k) (rv .u64 (m.rq k)):=(ho4.congr (fun j _=>app0 j));have b14:Below w.heap.size w Q:=zf R d R.size (fun q l=>((wZ G w.heap.size 28 1 (rv .u64 (m.rq k))).ge l).1);have hf1:=xw.fresh aki;refine Ln ⟨Az,?_⟩;refine Rp (pf a (k+21)) (fun _=>jE 6 1)<|gF<|jm zL (k+21) (.slice K (m.rn k) (M)) fun FZ yT Z z6 => ?_;have zM:=uL.cZ Z (by omega);have EA:=gY Z zL.ty;have⟨Dm,Bz,AA,Bh,yU⟩:=qX EA wW yR xA zu zw;have DR:=yS.cZ Z (by omega);have CB:=lJ EA vY;have b15:=Z.below b14 b14.size (by omega);refine Ln<|Rn<|bQ<|sN<|Wl<|aX J<|Lv (au ((k:Int)+1)) eY<|av (au ((k:Int)+1))<|Ln ?_;have DT:aS FZ a 27 (mF (Kc m C E D F b u z (aJ ra k K) (aJ rc k M) (k+1))) 71:=yT.to (Tf (by omega));have EB:wz FZ w.heap.size (k+1) (Kc m C E D F b u z (aJ ra k K) (aJ rc k M) (k+1)):=Xg yU CB hf1
  skip
  refine gT ⟨k+1,(aJ ra k K),(aJ rc k M),by omega,h1,W,Fx.ic,zM,Dm,Bz,AA,Bh,DT,EB,b15⟩ ?_;show(6-(intOf (au ((k:Int)+1))).toNat)<_;simp only[J,intOf]; omega
 refine Lv aG (gW c57)<|aD<|aL<|Wx<|cu<|gJ<|cB<|sN<|ay<|aX W<|av (pt a)<|aD<|Wr<|aK (pt a) ?_;have ek:k=6:=by omega
 subst ek;exact⟨a,atM m C E D F b u z ra rc,rfl,rfl,{ c:=qz.congr afs,n:=vV,g:=vE,tc:=vX,t:=vW,r:=Xh sD,pB:=sG,tB:=uG,bn:=bn1,bg:=bg,bt:=bt1,br:=h.br },b12⟩
namespace Rt
def nM(id:Nat->Int)(o:Int):Nat->Nat
 | 0=>0
 | n+1=>nM id o n+if id n / 1099511627776=o then 1 else 0
theorem Ti{id:Nat->Int}{o:Int}{c k:Nat}(h:c=nM id o k)(e:id k / 1099511627776=o):c+1=nM id o (k+1):=by unfold nM; rw[d_ e,h]
theorem Xi{id:Nat->Int}{o:Int}{c k:Nat}(h:c=nM id o k)(e : ¬ id k / 1099511627776=o):c=nM id o (k+1):=by unfold nM; rw[b_ e,h]; rfl
noncomputable def jX(L:fP)(v:EvM):Int:=if 5<=nM L.id v.o L.nn\/140737488355328<v.aU then 6 else jv L.t L.tn (jc v.o v.seq) v.node
def rH(f:Nat->Int)(n:Nat)(x:Int):Nat:=down (fun i=>decide (x<f i)) n
def qj(L:fP)(v:EvM):fP :=
 { L with nn:=L.nn+1,id:=cK L.id (rH L.id L.nn (jc v.o v.seq)) (jc v.o v.seq),par:=cK L.par (rH L.id L.nn (jc v.o v.seq)) v.node,
          R:=cK L.R (rH L.id L.nn (jc v.o v.seq)) (upd (fun _=>0) (v.o-1).toNat v.aU),
          tn:=L.tn+1,t:=oF L.t (down (fun i=>decide (jc v.o v.seq<L.t i 0)) L.tn) (jc v.o v.seq) v.node }
theorem Tj{id par:Int}(j:Nat):bI (bI (fun c=>if c<2 then aF 0 else au 0) 0 1 (fun _=>aF id)) 1 1 (fun _=>aF par) j=lY id par (fun _=>0) j:=by
 unfold bI lY;by_cases a:j=0
 ·subst a; rfl
 by_cases b:j=1
 ·subst b; rfl
 rw[b_ (by omega),b_ (by omega),b_ a,b_ b]; show(if j<2 then _ else _)=_; rw[b_ (by omega)]
theorem NU{id par:Int}{R:Nat->Int}{a q:Nat}{x:Int}(d:q=a+2):dA (lY id par R) q (au x)=lY id par (upd R a x):=by
 subst d
 funext p
 unfold dA lY upd;by_cases h:p=a+2
 ·subst h; rw[d_ rfl,b_ (by omega),b_ (by omega),d_ (by omega)]
 rw[b_ h];by_cases b:p=0
 ·rw[d_ b,d_ b]
 by_cases c:p=1
 ·rw[b_ b,d_ c,b_ b,d_ c]
 rw[b_ b,b_ c,b_ b,b_ c,b_ (by omega)]
theorem NV{id par:Nat->Int}{R:Nat->Nat->Int}{k:Nat}{a b:Int}{c:Nat->Int}:Fx.Ie (fun d=>lY (id d) (par d) (R d)) k (lY a b c)=fun d=>lY (cK id k a d) (cK par k b d) (cK R k c d):=by
 funext i
 unfold Fx.Ie cK;by_cases h:i<k
 ·simp only[d_ h]
 by_cases e:i=k
 ·simp only[b_ h,d_ e]
 simp only[b_ h,b_ e]
theorem GD(m:kX)(a:Option Addr)(n c:Nat):dA (mF m) 18 (.slice a n c)=mF { m with s := { m.s with na:=a,nn:=n,nc:=c } }:=by
 funext p
 unfold dA mF;by_cases h:p=18
 ·subst h; rfl
 rw[b_ h];by_cases e:p<20
 ·rw[d_ e,d_ e]; unfold pX;by_cases b:p<6
  ·rw[d_ b,d_ b]
  by_cases d:p<12
  ·rw[b_ b,d_ d,b_ b,d_ d]
  by_cases f:p<18
  ·rw[b_ b,b_ d,d_ f,b_ b,b_ d,d_ f]
  rw[b_ b,b_ d,b_ f,b_ h,b_ b,b_ d,b_ f,b_ h]
 rw[b_ e,b_ e]
theorem yD{s:Nat}{z y:Nat->Value}(hy : ∀ j,(y j).oneCell'=true) : ∀ j,j<1*s->(bI z (0*s) s y j).oneCell'=true:=fun j a=>by
 unfold bI; rw[d_ (by omega)]; exact hy _
theorem Tk{f:Nat->Int}{n k j:Nat}{x:Int}(e:k=j+1)(h : ∀ i,k<=i->i<n->x<f i)(c:x<f j) : ∀ i,j<=i->i<n->x<f i:=fun i d b=>by
 by_cases a:i=j
 ·subst a; exact c
 ·exact h i (by omega) b
end Rt
theorem Rt.Ke{t:Nat->Nat->Int}{tn:Nat}{id par:Int}(h:jv t tn id par=0):tn+1<=33:=by
 unfold jv at h;split at h; · cases h
 split at h; · cases h
 split at h; · cases h
 split at h; · cases h
 rename_i h4
 rcases Nat.lt_or_ge tn 32 with h5|h5
 ·omega
 exact L_ (Or.inl h5) h4
set_option maxRecDepth 20000 in
set_option maxHeartbeats 2000000 in
theorem Xj(m:kX)(B p a D:Nat)(v:EvM)(w:World)(C:vF w B p m)(u:B<=w.heap.size)(ha:a<6)(ho:v.o=(a:Int)+1)(bnn:m.s.nn<=900)(hD:bE m.t m.tn (bA m.t m.tn D v.node)<0)(hD2:D<=1000) :
 Calls Tryz.prog 78 #[(pt p),.agg (aC 14 (bS v))] w fun e w'=>e = .returned (au (jX m.core v))/\Below B w w'/\(jX m.core v=0 -> ∃ m',m'.core=qj m.core v/\vF w' B p m'):=by
 have Tm:=C.c;have hLn:=C.n;have hLg:=C.g;have Tn:=C.tc;have Tp:=C.t;have hLr:=C.r;have Tq:=C.pB;have Dp:=C.tB;have bn:=C.bn;have bg:=C.bg;have bt:=C.bt;have lpp:p<w.heap.size:=Tm.lt;have QD:m.tb<w.heap.size:=Tn.lt;refine Kent Tryz.func78 132 ?_;refine ay<|rU fun I w1 mD m1 s1 z1 => ?_;have⟨m2,m3,m4,m5,m6,m7⟩:=uy s1.old Tm hLn hLg Tn Tp hLr;have b1:=eH s1.old (Below.refl B w) u;have uG:=jI mD (Below.refl B w).size;have⟨nI,wY⟩:=xM mD Tm.lt Tn.lt;have wO:=m1.lt;refine av (au 0)<|aD<|ay<|av (au 0)<|aD<|Ws<|ay<|av (au 0)<|aD<|Wb<|Wo (fun f z => ∃ k:Nat,∃ G:Nat,k<=m.s.nn/\G<=k/\G=nM m.id v.o k/\f 0=(pt p)/\f 3=(pt I)/\f 5=au (G:Int)/\f 6=au (k:Int)/\aS z p 27 (mF m) 71/\Fx.Own z B 61 56 (.slice m.s.na (m.s.nn) (m.s.nc)) m.s.nn (Jk m)/\Fx.Own z B 66 5 (.slice m.s.ga (m.s.gn) (m.s.gc)) m.s.gn (Iy m)/\aS z m.tb 1 (fun _ => .slice m.ta m.tn m.tc) 123/\Fx.Own z B 128 2 (.slice m.ta (m.tn) (m.tc)) m.tn (Px m.t)/\wz z B 6 m/\aS z I 14 (bS v) 32/\Below B w z) (fun f _=>(m.s.nn-(intOf (f 6)).toNat)) ⟨0,0,by omega,by omega,rfl,(by rfl),(by rfl),Fx.ic,Fx.ic,m2,m3,m4,m5,m6,m7,m1,b1⟩ ?_;rintro f1 O ⟨k,G,hk,hcl,aa,J,K,h3,Y,m8,m9,m10,m11,m12,m13,W,b2⟩;refine Ws<|ay<|aX Y<|aX J<|av (pt p)<|av (pt p)<|av (pf p 18)<|Lv (.slice m.s.na (m.s.nn) (m.s.nc)) (aN m8.aI 18)<|av (au m.s.nn) ?_;by_cases c18:(k:Int)<(m.s.nn:Int)
 ·refine Lv aH (gV c18)<|aD<|aO<|Wk<|sN<|Ws<|Wb<|Ws ?_;refine xL<|dX J<|aT (pt p)<|aT (pt p)<|aT (pf p 18)<|Qv (.slice m.s.na (m.s.nn) (m.s.nc)) (fun F E=>aN (m8.aI.dr E) 18)<|dX Y ?_;obtain⟨EC,eq1⟩:=m9.addr (by omega);have m15:Fx.Own O B 61 56 (bL EC m.s.nn m.s.nc) m.s.nn (Jk m):=m9.dL (K_ (fun q=>Value.slice q m.s.nn m.s.nc) eq1);refine Qv (pf EC (56*k)) (fun F E=>dh 56 (hx:=(rfl.trans (K_ (fun q=>Value.slice q (m.s.nn) (m.s.nc)) eq1))))<|aT (pf EC (56*k))<|Qv (aF (m.id k)) (fun F E=>aN (m15.aI.dr E) (56*k) (Fx.dW (k:=k) (j:=0) (by omega) (by omega) rfl))<|Qv (aF ((m.id k) / 1099511627776)) (fun F E=>Fx.Y7 (b:=40) (q:=1099511627776) rfl rfl rfl (by decide) (by decide))<|Qv (pt I) (fun F E=>iV K 0)<|Qv (au v.o) (fun F E=>aN (W.aI.dr E) 0)<|Qv (aF v.o) (fun F E=>dD rfl rfl (by kernel_rfl) Tryz.underlying28 (jK (by omega) rfl)) ?_;by_cases c34:((m.id k) / 1099511627776)=v.o
  ·refine Qv aH (fun F E=>eZ c34)<|Qn ?_;rintro _ ⟨qd,rfl⟩;obtain⟨Cw,oG⟩ : ∃ F,F=World.drewN O qd:=⟨_,rfl⟩;rw[<- oG];have s2:Stp O.heap.size O Cw:=(by rw[oG]; exact Sb (jl O qd));have⟨m16,m17,m18,m19,m20,m21,m22⟩:=jo s2.old m8 m10 m11 m12 m13 W m15;have b3:=eH s2.old b2 u;clear oG;refine sN<|aO<|Wl<|aX h3<|Lv (au ((G:Int)+1)) eY<|av (au ((G:Int)+1))<|Ln<|bQ<|sN<|Wl<|aX Y<|Lv (au ((k:Int)+1)) eY<|av (au ((k:Int)+1))<|Ln ?_;have m23:Fx.Own Cw B 61 56 (.slice m.s.na (m.s.nn) (m.s.nc)) m.s.nn (Jk m):=m22.dL (K_ (fun q=>Value.slice q m.s.nn m.s.nc) eq1.symm);refine gT ⟨k+1,G+1,by omega,by omega,(Ti aa c34),J,K,Fx.ic,Fx.ic,m16,m23,m17,m18,m19,m20,m21,b3⟩ ?_;show(m.s.nn-(intOf (au ((k:Int)+1))).toNat)<_;simp only[Y,intOf]; omega
  refine Qv aG (fun F E=>fM c34)<|Qn ?_;rintro _ ⟨qd,rfl⟩;obtain⟨wq2,rJ⟩ : ∃ F,F=World.drewN O qd:=⟨_,rfl⟩;rw[<- rJ];have s3:Stp O.heap.size O wq2:=by rw[rJ]; exact Sb (jl O qd)
  have⟨m24,ni,nZ,oz,og,oC,pE⟩:=jo s3.old m8 m10 m11 m12 m13 W m15;have b4:=eH s3.old b2 u;clear rJ;refine sN<|aL<|Wk<|bQ<|sN<|Wl<|aX Y<|Lv (au ((k:Int)+1)) eY<|av (au ((k:Int)+1))<|Ln ?_;have mE:Fx.Own wq2 B 61 56 (.slice m.s.na (m.s.nn) (m.s.nc)) m.s.nn (Jk m):=pE.dL (K_ (fun q=>Value.slice q m.s.nn m.s.nc) eq1.symm);refine gT ⟨k+1,G,by omega,by omega,(Xi aa c34),J,K,(h3.trans Fx.ic),Fx.ic,m24,mE,ni,nZ,oz,og,oC,b4⟩ ?_;show(m.s.nn-(intOf (au ((k:Int)+1))).toNat)<_;simp only[Y,intOf]; omega
 refine Lv aG (gW c18)<|aD<|aL<|Wx<|cu<|gJ<|cB<|sN<|Ws<|ay<|aX h3 ?_;by_cases c38:5<=(G:Int)
 ·refine Lv aH (ko c38)<|av aH<|dB<|dB<|dB<|av aH<|aD<|aO<|ay<|av (au 6)<|aD<|Wr<|sR<|aK (au 6) ?_;have N:k=m.s.nn:=by omega
  subst N;have H:jX m.core v=6:=d_ (.inl (by rw[show nM m.core.id v.o m.core.nn=G from aa.symm]; omega));exact⟨pz H.symm,b2,fun U=>by rw[H]at U; cases U⟩
 refine Lv aG (jU c38)<|av aG<|Lv (pf I 11) (iV K 11)<|Lv (au v.aU) (aN W.aI 11) ?_;by_cases RN:140737488355328<v.aU
 ·refine Lv aH (mK RN)<|av aH<|aD<|aO<|ay<|av (au 6)<|aD<|Wr<|sR<|aK (au 6) ?_;have N:k=m.s.nn:=by omega
  subst N;have H:jX m.core v=6:=d_ (.inr (by omega));exact⟨pz H.symm,b2,fun U=>by rw[H]at U; cases U⟩
 refine Lv aG (mM RN)<|av aG<|aD<|aL<|Wk<|sN<|ay<|Lv (pt I) (iV K 0)<|Lv (au v.o) (aN W.aI 0)<|Lv (pf I 1) (iV K 1)<|Lv (aF v.seq) (aN W.aI 1)<|lU (akf v.o v.seq _) _ rfl<|av (aF (jc v.o v.seq))<|aD<|Ws ?_;refine jS [0,1,2,4,5,3,6,7,8] [0,0,0,4,0,0,4,3,0] [(7,3,[3]),(7,6,[6]),(8,7,[7])] fun qI dY iF => ?_;have⟨m32,qh,oN,pW,qx,rW,qy⟩:=jo dY m8 m9 m10 m11 m12 m13 W;have b5:=eH dY b2 u;refine bW J<|bf (pt p)<|bf (pf p 20)<|bf (aF (jc v.o v.seq))<|Rp (pf I 9) (fun _=>iV K 9)<|Rs (pt m.tb) (aN m32.aI 20) ?_;refine Rs (aF v.node) (aN qy.aI 9) ?_;refine gF<|eB (afo B m.tb m.ta m.tn m.tc m.t (jc v.o v.seq) v.node D _ pW qx (fun e=>Fx.Ty.ne (qx.ty e) pW.ty (by decide) rfl) (m_ u b5.size) bt hD hD2) _ rfl ?_;rintro X ⟨Tt,hcs1⟩;have hc1:iP [123,128] qI X:=Fx.iP.Q9 Tt (by rintro k (rfl|e) <;> first|exact⟨_,pW.ty,by decide⟩|exact⟨_,qx.ty e,by decide⟩)
 have pF:aS X p 27 (mF m) 71:=m32.jN hc1 (by decide);have sj:Fx.Own X B 61 56 (.slice m.s.na (m.s.nn) (m.s.nc)) m.s.nn (Jk m):=qh.jN hc1 (by decide);have nk:Fx.Own X B 66 5 (.slice m.s.ga (m.s.gn) (m.s.gc)) m.s.gn (Iy m):=oN.jN hc1 (by decide);have mV:wz X B 6 m:=rW.jN hc1 (by decide);have nu:aS X I 14 (bS v) 32:=qy.jN hc1 (by decide);have b6:Below B w X:=Fx.jO.below b5 Tt (by rintro k (rfl|e) <;> first|exact Dp|exact(qx.ge e).1) (m_ u b5.size)
 rcases hcs1 with ⟨Q,hT1,hO1⟩|⟨Q,g9,Xk,hT1,hO1,hne1⟩
 ·refine Ln<|bf (au (jv m.t m.tn (jc v.o v.seq) v.node))<|bR<|Ws<|ay<|av (au (jv m.t m.tn (jc v.o v.seq) v.node))<|Lv aH (nE Q)<|aD<|aO<|ay<|av (au (jv m.t m.tn (jc v.o v.seq) v.node))<|av (au (jv m.t m.tn (jc v.o v.seq) v.node))<|aD<|Wr<|sR<|aK (au (jv m.t m.tn (jc v.o v.seq) v.node)) ?_;have N:k=m.s.nn:=by omega
  subst N;have H:jX m.core v=jv m.t m.tn (jc v.o v.seq) v.node:=b_ (fun h=>h.elim (fun h=>by rw[show nM m.core.id v.o m.core.nn=G from aa.symm]at h; omega) (fun h=>by omega));exact⟨pz H.symm,b6,fun U=>L_ (H.symm.trans U) Q⟩
 refine Ln<|bf (au (jv m.t m.tn (jc v.o v.seq) v.node))<|bR<|Ws<|ay<|av (au (jv m.t m.tn (jc v.o v.seq) v.node))<|Lv aG (kr Q)<|aD<|aL<|Wk<|sN<|ay<|av (aF (jc v.o v.seq))<|Lv (pf I 9) (iV K 9)<|Lv (aF v.node) (aN nu.aI 9)<|av (.agg (aC 56 (bI (bI (fun L=>if L<2 then aF 0 else au 0) 0 1 (fun _=>aF (jc v.o v.seq))) 1 1 (fun _=>aF v.node))))<|xg 56 (fun L=>if L<2 then aF 0 else au 0) fun M w4 yA rX s5 z2 => ?_;have⟨qK,nU,ru,xq,su,sS,vw⟩:=jo s5.old pF sj nk mV nu hT1 hO1;have b7:=eH s5.old b6 u;have sG:=jI yA b6.size;have akk:=cO yA pF.lt;have ED:(.slice m.s.na (m.s.nn) (m.s.nc):Value).ownBlock≠some M:=by rw[yA]; exact sj.jT (z_ _)
 have⟨akl,akm,abu⟩:=JC yA nu.lt hT1.lt hO1.lt;have Bg:=rX.lt;refine fH rX 0 (h1:=(bV (bV (fun jq _=>by show((fun L=>if L<2 then aF 0 else au 0:Nat->Value) jq).oneCell'=true; simp only[]; repeat (first|rfl|split)) (fun _ _=>rfl)) (fun _ _=>rfl))) fun w5 uH s6 z3 => ?_
 have uh:aS w5 M 56 (bI (bI (fun L=>if L<2 then aF 0 else au 0) 0 1 (fun _=>aF (jc v.o v.seq))) 1 1 (fun _=>aF v.node)) 61:=aW uH;have gK:=gY s6 rX.ty;have uI:=lJ gK qK;have wR:=nU.cZ s6 ED;have⟨tL,rY,rz,wS,pG⟩:=qX gK ru xq su sS vw;have b8:=s6.below b7 (m_ u b7.size) (by omega);refine aD<|Ws ?_;have uJ:aS w5 M 56 (lY (jc v.o v.seq) v.node (fun _=>0)) 61:=uh.congr (fun j hj=>Tj j);refine Wl<|Lv (pt I) (iV K 0)<|Lv (au v.o) (aN rz.aI 0)<|Lv (au a) gu<|Lv (pf I 11) (iV K 11)<|Lv (au v.aU) (aN rz.aI 11)<|av (pf M 2)<|av (pf M 2)<|Lv (pf M (a+2)) (jE 6 1)<|jm uJ (a+2) (au v.aU) fun w6 nS s7 z4 => ?_;have sw:aS w6 M 56 (lY (jc v.o v.seq) v.node (upd (fun _=>0) a v.aU)) 61:=nS.to (NU (by omega));have jV:=gY s7 uJ.ty;have m64:=lJ jV uI;have vV:=wR.cZ s7 ED;have⟨vE,vW,vX,qz,sD⟩:=qX jV tL rY rz wS pG;have b9:=s7.below b8 (m_ u b8.size) (by omega);refine aD<|Ws ?_;have ek0:k=m.s.nn:=by omega
 obtain⟨cn0,afy,hc38⟩ : ∃ cn0,cn0=nM m.id v.o m.s.nn /\ ¬ (5:Int)<=(cn0:Int):=⟨G,by rw[<- ek0]; exact aa,c38⟩;clear aa hcl ek0;refine Wl<|aX J<|av (pt p)<|av (pt p)<|av (pf p 18)<|Lv (.slice m.s.na (m.s.nn) (m.s.nc)) (aN m64.aI 18)<|av (au m.s.nn)<|av (au m.s.nn)<|aD<|Ws ?_;refine Ap [0,1,2,3,4,5,6,7,8,9,10,11,12] [0,0,0,0,0,1,4,2,2,0,0,0,3] (iP [61]) vO Fx.iP.trans (fG := [(12,5,[5]),(7,6,[6]),(8,6,[7,6]),(12,6,[6]),(8,7,[7]),(9,7,[7]),(10,7,[7]),(11,7,[7]),(12,7,[7]),(9,8,[8]),(10,8,[8]),(11,8,[8]),(12,8,[8])]) (by kernel_rfl) (by kernel_rfl) (by kernel_rfl) (by kernel_rfl) (by kernel_rfl) fun Cu fV nH => ?_;have⟨sU,sF,sV,xu,uK,wT,wU,xw⟩:=lu fV m64 vV vE vW vX qz sD sw;have b10:=eH fV b9 u;refine bW J<|bW J<|bf (pt p)<|bf (pt p)<|bf (pf p 18)<|Rd (v := .slice m.s.na (m.s.nn) (m.s.nc)) (by rfl) (by rfl) (vO _) (fun F E=>bD (x:=mF m) rfl rfl (by kernel_rfl) (sU.jN E (by decide)).aI (i:=18) (by omega) (by omega) rfl) ?_;refine Rs (.agg (aC 56 (lY (jc v.o v.seq) v.node (upd (fun _=>0) a v.aU)))) (gI xw.aI 0) ?_;refine Ct<|yN (vs := [(0,.agg (aC 56 (lY (jc v.o v.seq) v.node (upd (fun _=>0) a v.aU))))]) (s:=56) (zc:=fun L=>if L<2 then aF 0 else au 0) (y:=bI (fun j=>(fun L=>if L<2 then aF 0 else au 0) (j % 56)) (0*56) 56 (lY (jc v.o v.seq) v.node (upd (fun _=>0) a v.aU))) (by rfl) rfl rfl Tryz.underlying50 (by kernel_rfl) (by rfl) (by rfl) (by kernel_rfl) (by rw[bF (off:=0*56) (s:=56) (y:=lY (jc v.o v.seq) v.node (upd (fun _=>0) a v.aU)) rfl (bJ _ _) (by rfl)]; rfl) rfl fun g3 w7 zN wV s9 z5 => ?_;have⟨vY,uL,wW,yR,xA,zu,zL,zw⟩:=lu s9.old sU sF sV xu uK wT wU xw;have b11:=eH s9.old b10 u;have Eo:=jI zN b10.size;have ako:=cO zN sU.lt;have akp:(.slice m.s.na (m.s.nn) (m.s.nc):Value).ownBlock≠some g3:=by rw[zN]; exact sF.jT (z_ _)
 have⟨akq,abv,IC,abw⟩:=aar zN uK.lt wT.lt wU.lt xw.lt;have Ma:=wV.lt;refine Ln ⟨Fx.iP.of_below s9.old,?_⟩;refine Ct<|zh (B:=B) (s:=56) (bytes:=448) (k:=m.s.nn) (m:=1) (v := .slice m.s.na (m.s.nn) (m.s.nc)) (x:=Jk m) (by rfl) rfl rfl rfl Tryz.underlying50 (by kernel_rfl) (by kernel_rfl) rfl rfl uL wV.aI (yD (uS _ _ _)) (by omega) (by omega) (by omega) (m_ u b11.size) fun l A w8 ho1 hg1 vU hlt1 => ?_;have tK:=zi hg1 uL;have⟨yT,zM,Dm,Bz,AA,Bh⟩:=Rc tK vY wW yR xA zu zL;have yU:=zw.grown hg1 ED;have akr:M≠l:=fun e=>vU.elim (fun e2=>ED (by rw[e]; exact e2)) (fun e2=>by have:=zw.lt; omega);have yS:Fx.Own w8 B 61 56 (bL l (m.s.nn+1) A) (m.s.nn+1) (flat 56 (Fx.Jy (fun d=>lY (m.id d) (m.par d) (m.R d)) (lY (jc v.o v.seq) v.node (upd (fun _=>0) a v.aU)) m.s.nn m.s.nn)):=(ho1.congr (fun j hj=>(Fx.xI j hj).trans (bK (fun i V q _=>Fx.xJ i V q) j hj)));have b12:Below B w w8:=zf b11 hg1 (m_ u b11.size) (fun q hq=>(uL.ge hq).1);refine Ln ⟨tK,?_⟩;refine bf (pt p)<|bf (pt p)<|bf (pf p 18)<|gF<|jm yT 18 (bL l (m.s.nn+1) A) fun w9 DR s10 z6 => ?_;have zK:=gY s10 yT.ty;have⟨CB,DT,EB,tN,wB,tO,rM⟩:=Rf zK zM Dm Bz AA Bh yU yS;have b13:=s10.below b12 (m_ u b12.size) (by omega);refine Ln<|bR<|Ws<|Wb<|Wo (fun f z => ∃ k:Nat,k<=m.s.nn/\(∀ i,k<=i->i<m.s.nn->(jc v.o v.seq)<m.id i)/\f 0=(pt p)/\f 7=aF (jc v.o v.seq)/\f 9=(pt M)/\f 10=au (k:Int)/\Fx.Own z B 66 5 (.slice m.s.ga (m.s.gn) (m.s.gc)) m.s.gn (Iy m)/\wz z B 6 m/\aS z I 14 (bS v) 32/\aS z m.tb 1 (fun _=>bL g9 (m.tn+1) Xk) 123/\Fx.Own z B 128 2 (bL g9 (m.tn+1) Xk) (m.tn+1) (rv .u64 (kP (oF m.t (down (fun i=>decide ((jc v.o v.seq)<m.t i 0)) m.tn) (jc v.o v.seq) v.node)))/\aS z M 56 (lY (jc v.o v.seq) v.node (upd (fun _=>0) a v.aU)) 61/\aS z p 27 (dA (mF m) 18 (bL l (m.s.nn+1) A)) 71/\Fx.Own z B 61 56 (bL l (m.s.nn+1) A) (m.s.nn+1) (flat 56 (Fx.Jy (fun d=>lY (m.id d) (m.par d) (m.R d)) (lY (jc v.o v.seq) v.node (upd (fun _=>0) a v.aU)) m.s.nn k))/\Below B w z) (fun f _=>(intOf (f 10)).toNat) ⟨m.s.nn,by omega,(fun i J K=>L_ J (by omega)),J,Fx.ic,(by rfl),Fx.ic,CB,DT,EB,tN,wB,tO,DR,rM,b13⟩ ?_;rintro f2 sQ ⟨k,hk,hgt,Z,h6,h7,P,nV,nN,oH,nW,qL,rO,uT,qM,b14⟩;refine Ws<|ay<|aX P ?_;by_cases c91:0<(k:Int)
 ·obtain⟨j,ej⟩ : ∃ j,k=j+1:=⟨k-1,by omega⟩;refine Lv aH (mK c91)<|av aH<|aX Z<|av (pt p)<|av (pt p)<|av (pf p 18)<|Lv (bL l (m.s.nn+1) A) (aN uT.aI 18 (Fx.kY (by omega)))<|aX P<|Lv (au j) gu<|Lv (pf l (56*j)) (dh 56)<|av (pf l (56*j))<|Lv (aF (m.id j)) (aN qM.aI (56*j) (Fx.dW (k:=j) (j:=0) (by omega) (by omega) ((congrFun (Fx.zk (by omega) (by omega)) 0).trans rfl)))<|aX h6 ?_;by_cases Xl:(jc v.o v.seq)<(m.id j)
  ·refine Lv aH (mK Xl)<|av aH<|aD<|aO<|Wk<|sN<|Wb<|Ws ?_;refine jS [0,1,2,3,5,6,7,8,9,11,12,4,10,13,14,15,16] [0,0,0,0,4,0,0,0,0,0,4,0,0,0,4,0,3] [(16,4,[4]),(16,10,[10]),(16,14,[14])] fun QE lI Av => ?_;have⟨tQ,yV,uU,yX,BA,xC,tT,ql⟩:=lu lI nV nN oH nW qL rO uT qM;have b15:=eH lI b14 u;refine bW Z<|bf (pt p)<|bf (pt p)<|bf (pf p 18)<|bW P<|bW Z<|bf (pt p)<|bf (pt p)<|bf (pf p 18)<|bW P<|Rp (au j) (fun _=>gu)<|Rs (bL l (m.s.nn+1) A) (aN tT.aI 18 (Fx.kY (by omega))) ?_;refine Rs (bL l (m.s.nn+1) A) (aN tT.aI 18 (Fx.kY (by omega))) ?_;refine Rp (pf l (56*j)) (fun _=>dh 56)<|Rs (.agg (aC 56 (lY (m.id j) (m.par j) (m.R j)))) (gI ql.aI (56*j) (fun jq hjq=>(Fx.nA (k:=j) (by omega) hjq).trans (congrFun (Fx.zk (by omega) (by omega)) jq))) ?_;refine Rp (pf l (56*k)) (fun _=>dh 56)<|gF<|zI ql (56*k) (h1:=(fun j _=>uS _ _ _ j)) fun FP xR s12 z7 => ?_;have yP:=gY s12 ql.Jw;have⟨xS,tV,BD,IE,EF⟩:=qX yP tQ yV uU yX BA;have AB:=xC.cZ s12 (by omega);have EG:=lJ yP tT;have b16:=s12.below b15 (m_ u b15.size) ql.blk.1;have F5:Fx.Own FP B 61 56 (bL l (m.s.nn+1) A) (m.s.nn+1) (flat 56 (Fx.Jy (fun d=>lY (m.id d) (m.par d) (m.R d)) (lY (jc v.o v.seq) v.node (upd (fun _=>0) a v.aU)) m.s.nn j)):=xR.congr (fun T S=>(Fx.uw (k:=k) (by omega) T S).trans (bK (fun i V q _=>Fx.yt ej (by omega) i V q) T S));refine Ln<|bR<|Wl<|aX P<|Lv (au j) gu<|av (au j)<|Ln<|bQ<|gT ⟨j,by omega,(Tk ej hgt Xl),Z,(h6.trans Fx.ic),h7,Fx.ic,xS,tV,BD,IE,EF,AB,EG,F5,b16⟩ ?_;show(intOf (au j)).toNat<_;simp only[P,intOf]; omega
  refine Lv aG (mM Xl)<|av aG<|aD<|aL<|Wx<|cu<|gJ<|cB<|sN<|Ws ?_;refine jS [0,1,2,3,5,4,6,7,8] [0,0,0,0,4,0,4,0,3] [(8,4,[4]),(8,6,[6])] fun wt4 qw Gs => ?_;have⟨BF,zQ,Kg,EH,EI,F6,F7⟩:=jo qw nV nN nW qL rO uT qM;have b17:=eH qw b14 u;refine bW Z<|bf (pt p)<|bf (pt p)<|bf (pf p 18)<|bW P<|Rs (bL l (m.s.nn+1) A) (aN F6.aI 18 (Fx.kY (by omega))) ?_;refine Rs (.agg (aC 56 (lY (jc v.o v.seq) v.node (upd (fun _=>0) a v.aU)))) (gI EI.aI 0 (ha:=h7)) ?_;refine Rp (pf l (56*k)) (fun _=>dh 56)<|gF<|zI F7 (56*k) (h1:=(fun j _=>uS _ _ _ j)) fun Ag BG Dl z8 => ?_;have yQ:=gY Dl F7.Jw;have⟨EJ,BH,EK,zR⟩:=JA yQ BF zQ Kg EH;have BI:=EI.cZ Dl (by omega);have AJ:=lJ yQ F6;have b18:=Dl.below b17 (m_ u b17.size) F7.blk.1;have IG:Fx.Own Ag B 61 56 (bL l (m.s.nn+1) A) (m.s.nn+1) (flat 56 (Fx.Ie (fun d=>lY (m.id d) (m.par d) (m.R d)) k (lY (jc v.o v.seq) v.node (upd (fun _=>0) a v.aU)))):=BG.congr (fun T S=>(Fx.uw (k:=k) (by omega) T S).trans (bK (fun i V q _=>Fx.sK (by omega) i V q) T S));refine Ln<|bR<|ay<|av (au 0)<|aD<|Wr<|aK (au 0) ?_;have H:jX m.core v=jv m.t m.tn (jc v.o v.seq) v.node:=b_ (fun h=>h.elim (fun h=>by rw[show nM m.core.id v.o m.core.nn=cn0 from afy.symm]at h; omega) (fun h=>by omega));have N:k=rH m.id m.s.nn (jc v.o v.seq):=Fx.oL hk (fun i a b=>f_ (hgt i a b)) (.inr (fun j2 e=>by rw[show j2=j by omega]; exact g_ Xl));have Tv:Fx.Own Ag B 61 56 (bL l (m.s.nn+1) A) (m.s.nn+1) (flat 56 fun d=>lY (cK m.id k (jc v.o v.seq) d) (cK m.par k v.node d) (cK m.R k (upd (fun _=>0) a v.aU) d)):=by rw[<- NV]; exact IG
  have eR:(upd (fun _=>0) a v.aU)=upd (fun _=>0) (v.o-1).toNat v.aU:=by rw[show(v.o-1).toNat=a by omega]
  have bn9:m.tn+1<=33:=Ke Q;refine⟨pz (Q.symm.trans H.symm),b18,fun _=>⟨{ m with s := { m.s with na:=some ⟨l,0,none⟩,nn:=m.s.nn+1,nc:=A },id:=cK m.id k (jc v.o v.seq),par:=cK m.par k v.node,R:=cK m.R k (upd (fun _=>0) a v.aU),ta:=some ⟨g9,0,none⟩,tn:=m.tn+1,tc:=Xk,t:=oF m.t (down (fun i=>decide ((jc v.o v.seq)<m.t i 0)) m.tn) (jc v.o v.seq) v.node },?_,?_⟩⟩
  ·unfold qj; rw[show rH m.core.id m.core.nn (jc v.o v.seq)=k from N.symm,<- eR]; rfl
  exact { c:=AJ.to (GD m _ _ _),n:=Tv,g:=EJ,tc:=EK,t:=zR,r:=BH,pB:=Tq,tB:=Dp,bn:=(by have:=bnn; show m.s.nn+1<=1000; omega),bg:=bg,bt:=(by show m.tn+1<=1000; omega),br:=C.br }
 refine Lv aG (mM c91)<|av aG<|dB<|dB<|dB<|dB<|dB<|dB<|dB<|dB<|dB<|dB<|dB<|dB<|av aG<|aD<|aL<|Wx<|cu<|gJ<|cB<|sN<|Ws ?_;refine jS [0,1,2,3,5,4,6,7,8] [0,0,0,0,4,0,4,0,3] [(8,4,[4]),(8,6,[6])] fun wt5 zo RQ => ?_;have⟨Tx,Tz,TA,abx,TD,PE,TF⟩:=jo zo nV nN nW qL rO uT qM;have b19:=eH zo b14 u;refine bW Z<|bf (pt p)<|bf (pt p)<|bf (pf p 18)<|bW P<|Rs (bL l (m.s.nn+1) A) (aN PE.aI 18 (Fx.kY (by omega))) ?_;refine Rs (.agg (aC 56 (lY (jc v.o v.seq) v.node (upd (fun _=>0) a v.aU)))) (gI TD.aI 0 (ha:=h7)) ?_;refine Rp (pf l (56*k)) (fun _=>dh 56)<|gF<|zI TF (56*k) (h1:=(fun j _=>uS _ _ _ j)) fun FZ TG s16 z9 => ?_;have Az:=gY s16 TF.Jw;have⟨aby,abz,PG,abA⟩:=JA Az Tx Tz TA abx;have afz:=TD.cZ s16 (by omega);have abB:=lJ Az PE;have b20:=s16.below b19 (m_ u b19.size) TF.blk.1;have abC:Fx.Own FZ B 61 56 (bL l (m.s.nn+1) A) (m.s.nn+1) (flat 56 (Fx.Ie (fun d=>lY (m.id d) (m.par d) (m.R d)) k (lY (jc v.o v.seq) v.node (upd (fun _=>0) a v.aU)))):=TG.congr (fun T S=>(Fx.uw (k:=k) (by omega) T S).trans (bK (fun i V q _=>Fx.sK (by omega) i V q) T S));refine Ln<|bR<|ay<|av (au 0)<|aD<|Wr<|aK (au 0) ?_;have H:jX m.core v=jv m.t m.tn (jc v.o v.seq) v.node:=b_ (fun h=>h.elim (fun h=>by rw[show nM m.core.id v.o m.core.nn=cn0 from afy.symm]at h; omega) (fun h=>by omega));have N:k=rH m.id m.s.nn (jc v.o v.seq):=Fx.oL hk (fun i a b=>f_ (hgt i a b)) (.inl (by omega));have abD:Fx.Own FZ B 61 56 (bL l (m.s.nn+1) A) (m.s.nn+1) (flat 56 fun d=>lY (cK m.id k (jc v.o v.seq) d) (cK m.par k v.node d) (cK m.R k (upd (fun _=>0) a v.aU) d)):=by rw[<- NV]; exact abC
 have eR:(upd (fun _=>0) a v.aU)=upd (fun _=>0) (v.o-1).toNat v.aU:=by rw[show(v.o-1).toNat=a by omega]
 have bn9:m.tn+1<=33:=Ke Q;refine⟨pz (Q.symm.trans H.symm),b20,fun _=>⟨{ m with s := { m.s with na:=some ⟨l,0,none⟩,nn:=m.s.nn+1,nc:=A },id:=cK m.id k (jc v.o v.seq),par:=cK m.par k v.node,R:=cK m.R k (upd (fun _=>0) a v.aU),ta:=some ⟨g9,0,none⟩,tn:=m.tn+1,tc:=Xk,t:=oF m.t (down (fun i=>decide ((jc v.o v.seq)<m.t i 0)) m.tn) (jc v.o v.seq) v.node },?_,?_⟩⟩
 ·unfold qj; rw[show rH m.core.id m.core.nn (jc v.o v.seq)=k from N.symm,<- eR]; rfl
 exact { c:=abB.to (GD m _ _ _),n:=abD,g:=aby,tc:=PG,t:=abA,r:=abz,pB:=Tq,tB:=Dp,bn:=(by have:=bnn; show m.s.nn+1<=1000; omega),bg:=bg,bt:=(by show m.tn+1<=1000; omega),br:=C.br }
namespace Rt
theorem nO(x:Nat->Int)(n:Int)(is:Bool)(a:Int)(off:Nat) :
 ((bU x n is a off).1=zero/\(bU x n is a off).2≠0 /\ ¬ (may x=true/\1<=n/\n<=1125899906842624/\is=true/\a=0/\x off+n<=1125899906842624)) \/
 ((may x=true/\1<=n/\n<=1125899906842624/\is=true/\a=0/\x off+n<=1125899906842624)/\bU x n is a off=(upd x off (x off+n),0)):=by
 unfold bU;by_cases f:may x=true
 ·by_cases c:1<=n
  ·by_cases d:n<=1125899906842624
   ·rw[f,f_ c,f_ d];simp only[Bool.and_self,if_true]
    cases is
    ·left; exact⟨rfl,(by show(10:Int)≠0; decide),fun h=>by cases h.2.2.2.1⟩
    by_cases b:a=0
    ·by_cases e:x off+n<=1125899906842624
     ·right; exact⟨⟨trivial,c,d,rfl,b,e⟩,by rw[d_ rfl,d_ b,d_ e]⟩
     left; rw[d_ rfl,d_ b,b_ e]; exact⟨rfl,by decide,fun h=>e h.2.2.2.2.2⟩
    left; rw[d_ rfl,b_ b]; exact⟨rfl,b,fun h=>b h.2.2.2.2.1⟩
   left; rw[g_ d,H_,b_ (by decide)]; exact⟨rfl,by decide,fun h=>d h.2.2.1⟩
  left; rw[g_ c,H_,Bool.false_and,b_ (by decide)]; exact⟨rfl,by decide,fun h=>c h.2.1⟩
 left; rw[show may x=false by simpa using f,Bool.false_and,Bool.false_and,b_ (by decide)]; exact⟨rfl,by decide,fun h=>by cases h.1⟩
theorem Mq{x:Nat->Int}(h:Pw x){off:Nat}{n:Int}(h1:1<=n)(c:x off+n<=1125899906842624)(a:off<54):Pw (upd x off (x off+n)):=by
 intro p b;unfold upd;split
 ·have:=h off a; omega
 exact h p b
theorem oP{i:Int}(h:gH i=true) : ∃ a:Nat,a<6/\i=(a:Int)+1/\i.toNat-1=a:=by
 have:1<=i/\i<=6:=by unfold gH at h; simpa using h
 exact⟨(i-1).toNat,by omega,by omega,by omega⟩
structure Moved(x y:Nat->Int)(a b:Nat)(n:Int):Prop where
 may:may y=true
 l : ∀ k,k<6->L y k=L x k+(if k=b then n else 0)-(if k=a then n else 0)
 g:oD y=oD x
 u:kH y=kH x
theorem AL{x:Nat->Int}{i j n:Int}(h:(dn x i j n).2=0) : ∃ a b:Nat,a<6/\b<6/\a≠b/\i=(a:Int)+1/\j=(b:Int)+1/\1<=n/\n<=1125899906842624/\n<=L x a/\Moved x (dn x i j n).1 a b n/\(dn x i j n).1=upd x (18+a*6+b) (x (18+a*6+b)+n):=by
 unfold dn at *
 rcases nO x n (gH i&&gH j) (nK x i j n) (kN i j)with ⟨_,f,_⟩|⟨⟨hm,h1,f,hr,he,hx⟩,heq⟩
 ·exact L_ h f
 rw[R_]at hr;obtain⟨a,g,l,D⟩:=oP hr.1;obtain⟨b,m,q,E⟩:=oP hr.2;have s:kN i j=18+a*6+b:=by unfold kN; rw[D,E]
 rw[s]at heq hx;rw[s];have B:a≠b:=by
  intro z;unfold nK at he;rw[d_ (by rw[l,q,z])]at he
  cases he
 have y:n<=L x a:=by
  unfold nK at he;rw[b_ (by omega)]at he;by_cases d:fE x i<n
  ·rw[f_ d]at he; cases he
  ·rw[l,nL hm a g]at d; omega
 obtain⟨e,t,w⟩:=(jy x).1 hm;have d:=abl x a b g m n;have c : ∀ p,p<18->upd x (18+a*6+b) (x (18+a*6+b)+n) p=x p:=fun p I=>fZ _ _ _ _ (by omega);have o:oD (upd x (18+a*6+b) (x (18+a*6+b)+n))=oD x:=by unfold oD G; rw[c 0 (by omega),c 1 (by omega),c 2 (by omega),c 3 (by omega),c 4 (by omega),c 5 (by omega)]
 have A:(bU x n (gH i&&gH j) (nK x i j n) (18+a*6+b)).1=upd x (18+a*6+b) (x (18+a*6+b)+n):=by rw[heq]
 rw[A];refine⟨a,b,g,m,B,l,q,h1,f,y,⟨?_,d,o,?_⟩,rfl⟩
 ·rw[jy];refine⟨Mq e h1 hx (by omega),fun k r => ?_,by rw[o]; exact w⟩;obtain⟨H,u,v⟩:=t k r;refine⟨?_,?_,?_⟩
  ·rw[d k r];split
   ·split <;> omega
   split
   ·rename_i hka; subst hka; omega
   omega
  ·unfold F C at *; rw[c _ (by omega),c _ (by omega)]; exact u
  unfold R at *; rw[fZ _ _ _ _ (by omega)]; exact v
 unfold kH C F; simp only[c _ (show 6+0<18 by omega),c _ (show 6+1<18 by omega),c _ (show 6+2<18 by omega),c _ (show 6+3<18 by omega),c _ (show 6+4<18 by omega),c _ (show 6+5<18 by omega),c _ (show 12+0<18 by omega),c _ (show 12+1<18 by omega),c _ (show 12+2<18 by omega),c _ (show 12+3<18 by omega),c _ (show 12+4<18 by omega),c _ (show 12+5<18 by omega)]
theorem EL(x:Nat->Int)(off:Nat)(c:off<18)(v:Int)(a b:Nat):R (upd x off v) a b=R x a b:=fZ _ _ _ _ (by omega)
theorem TH(x:Nat->Int)(off:Nat)(a:off<18)(v:Int)(k:Nat):L (upd x off v) k=L x k+(G (upd x off v) k-G x k)+(F (upd x off v) k-F x k)-(C (upd x off v) k-C x k):=by
 unfold L;simp only[EL x off a v];omega
theorem afA(x:Nat->Int)(a:Nat)(n:Int)(k:Nat):C (upd x (6+a) (x (6+a)+n)) k=C x k+(if k=a then n else 0):=by
 unfold C upd;by_cases h:k=a
 ·subst h; simp
 rw[b_ (by omega),b_ h]; omega
theorem afB(x:Nat->Int)(a:Nat)(n:Int)(k:Nat):F (upd x (12+a) (x (12+a)+n)) k=F x k+(if k=a then n else 0):=by
 unfold F upd;by_cases h:k=a
 ·subst h; simp
 rw[b_ (by omega),b_ h]; omega
theorem afC(x:Nat->Int)(a:Nat)(n:Int)(k:Nat):G (upd x a (x a+n)) k=G x k+(if k=a then n else 0):=by
 unfold G upd;by_cases h:k=a
 ·subst h; simp
 rw[b_ h,b_ h]; omega
theorem six(a:Nat)(ha:a<6)(n:Int):(if 0=a then n else 0)+(if 1=a then n else 0)+(if 2=a then n else 0)+(if 3=a then n else 0)+(if 4=a then n else 0)+(if 5=a then n else 0)=n:=by
 have:a=0\/a=1\/a=2\/a=3\/a=4\/a=5:=by omega
 rcases this with h|h|h|h|h|h <;> subst h <;> simp
theorem II{x:Nat->Int}{i n:Int}(h:(bC x i n).2=0) : ∃ a:Nat,a<6/\i=(a:Int)+1/\1<=n/\n<=1125899906842624/\n<=L x a/\C x a+n<=1125899906842624/\may (bC x i n).1=true /\
 (∀ k,k<6->L (bC x i n).1 k=L x k-(if k=a then n else 0))/\oD (bC x i n).1=oD x/\kH (bC x i n).1=kH x+n/\(bC x i n).1=upd x (6+a) (x (6+a)+n):=by
 unfold bC at *
 rcases nO x n (gH i) (qA x i n) (6+(i.toNat-1))with ⟨_,j,_⟩|⟨⟨hm,h1,j,hr,he,hx⟩,heq⟩
 ·exact L_ h j
 obtain⟨a,l,o,p⟩:=oP hr;rw[p]at heq hx;rw[p];have t:n<=L x a:=by
  unfold qA at he;by_cases g:fE x i<n
  ·rw[f_ g]at he; cases he
  ·rw[o,nL hm a l]at g; omega
 obtain⟨e,q,s⟩:=(jy x).1 hm;have u:(bU x n (gH i) (qA x i n) (6+a)).1=upd x (6+a) (x (6+a)+n):=by rw[heq]
 rw[u];have b:=afA x a n;have f : ∀ k,k<6->G (upd x (6+a) (x (6+a)+n)) k=G x k:=fun k d=>fZ _ _ _ _ (by omega);have c : ∀ k,k<6->F (upd x (6+a) (x (6+a)+n)) k=F x k:=fun k d=>fZ _ _ _ _ (by omega);have g : ∀ k,k<6->L (upd x (6+a) (x (6+a)+n)) k=L x k-(if k=a then n else 0):=by
  intro k d;rw[TH x (6+a) (by omega),f k d,c k d,b k]; omega
 have m:oD (upd x (6+a) (x (6+a)+n))=oD x:=by unfold oD; rw[f 0 (by omega),f 1 (by omega),f 2 (by omega),f 3 (by omega),f 4 (by omega),f 5 (by omega)]
 refine⟨a,l,o,h1,j,t,hx,?_,g,m,?_,rfl⟩
 ·rw[jy];refine⟨Mq e h1 hx (by omega),fun k d => ?_,by rw[m]; exact s⟩;obtain⟨v,w,r⟩:=q k d;refine⟨?_,?_,?_⟩
  ·rw[g k d];split
   ·rename_i hka; subst hka; omega
   omega
  ·rw[c k d,b k]; split <;> omega
  rw[EL x (6+a) (by omega)]; exact r
 unfold kH;rw[c 0 (by omega),c 1 (by omega),c 2 (by omega),c 3 (by omega),c 4 (by omega),c 5 (by omega),b 0,b 1,b 2,b 3,b 4,b 5];have:=six a l n;omega
theorem IJ{x:Nat->Int}{i n:Int}(h:(bG x i n).2=0) : ∃ a:Nat,a<6/\i=(a:Int)+1/\1<=n/\n<=1125899906842624/\n<=C x a-F x a/\may (bG x i n).1=true /\
 (∀ k,k<6->L (bG x i n).1 k=L x k+(if k=a then n else 0))/\oD (bG x i n).1=oD x/\kH (bG x i n).1=kH x-n/\(bG x i n).1=upd x (12+a) (x (12+a)+n):=by
 unfold bG at *
 rcases nO x n (gH i) (qB x i n) (12+(i.toNat-1))with ⟨_,j,_⟩|⟨⟨hm,h1,j,hr,he,hx⟩,heq⟩
 ·exact L_ h j
 obtain⟨a,m,u,l⟩:=oP hr;rw[l]at heq hx;rw[l];have s:n<=C x a-F x a:=by
  unfold qB at he;rw[l]at he;by_cases g:C x a-F x a<n
  ·rw[f_ g]at he; cases he
  ·omega
 obtain⟨e,p,r⟩:=(jy x).1 hm;have t:(bU x n (gH i) (qB x i n) (12+a)).1=upd x (12+a) (x (12+a)+n):=by rw[heq]
 rw[t];have c:=afB x a n;have f : ∀ k,k<6->G (upd x (12+a) (x (12+a)+n)) k=G x k:=fun k d=>fZ _ _ _ _ (by omega);have b : ∀ k,k<6->C (upd x (12+a) (x (12+a)+n)) k=C x k:=fun k d=>fZ _ _ _ _ (by omega);have g : ∀ k,k<6->L (upd x (12+a) (x (12+a)+n)) k=L x k+(if k=a then n else 0):=by
  intro k d;rw[TH x (12+a) (by omega),f k d,c k,b k d]; omega
 have o:oD (upd x (12+a) (x (12+a)+n))=oD x:=by unfold oD; rw[f 0 (by omega),f 1 (by omega),f 2 (by omega),f 3 (by omega),f 4 (by omega),f 5 (by omega)]
 refine⟨a,m,u,h1,j,s,?_,g,o,?_,rfl⟩
 ·rw[jy];refine⟨Mq e h1 hx (by omega),fun k d => ?_,by rw[o]; exact r⟩;obtain⟨v,w,q⟩:=p k d;refine⟨?_,?_,?_⟩
  ·rw[g k d]; split <;> omega
  ·rw[c k,b k d];split
   ·rename_i hka; subst hka; omega
   omega
  rw[EL x (12+a) (by omega)]; exact q
 unfold kH;rw[b 0 (by omega),b 1 (by omega),b 2 (by omega),b 3 (by omega),b 4 (by omega),b 5 (by omega),c 0,c 1,c 2,c 3,c 4,c 5];have:=six a m n;omega
end Rt
section
namespace Rt
def dw(f:(Nat->Int)->(Nat->Int) × Int)(idx:Nat->Nat)(R:Nat->Nat->Int):Nat->(Nat->Nat->Int) × Int
 | 0=>(R,0)
 | j+1=>if(dw f idx R j).2=0 then(if(f ((dw f idx R j).1 (idx j))).2=0 then(aJ (dw f idx R j).1 (idx j) (f ((dw f idx R j).1 (idx j))).1,0)else((dw f idx R j).1,(f ((dw f idx R j).1 (idx j))).2))else dw f idx R j
section
variable {f:(Nat->Int)->(Nat->Int) × Int} {idx:Nat->Nat} {R Rk:Nat->Nat->Int} {k q:Nat}
theorem EM(h:dw f idx R k=(Rk,0))(e:idx k=q)(a:(f (Rk q)).2=0):dw f idx R (k+1)=(aJ Rk q (f (Rk q)).1,0):=by
 unfold dw; rw[h,d_ rfl,e,d_ a]
theorem GH(h:dw f idx R k=(Rk,0))(e:idx k=q)(a : ¬ (f (Rk q)).2=0):(dw f idx R (k+1)).2=(f (Rk q)).2:=by
 unfold dw; rw[h,d_ rfl,e,b_ a]
theorem zS(a : ¬ (dw f idx R k).2=0) : ∀ n,k<=n->dw f idx R n=dw f idx R k
 | 0,h=>by obtain rfl:k=0:=by omega
           rfl
 | n+1,h=>by
   by_cases e:k=n+1
   ·rw[e]
   ·have:=zS a n (by omega);rw[dw,this,b_ a]
end
def lead(P:Nat->Bool):Nat->Nat
 | 0=>0
 | n+1=>if lead P n=n/\P n=true then n+1 else lead P n
theorem DU(P:Nat->Bool) : ∀ n,lead P n<=n
 | 0=>z_ _
 | n+1=>by
   unfold lead; split
   ·exact z_ _
   ·have:=DU P n; omega
theorem Kh{P:Nat->Bool} : ∀ {n:Nat},(∀ i,i<n->P i=true)->lead P n=n
 | 0,_=>rfl
 | n+1,h=>by unfold lead; rw[d_ ⟨Kh fun i a=>h i (by omega),h n (by omega)⟩]
theorem NW{P:Nat->Bool}{K:Nat}(h1 : ∀ i,i<K->P i=true)(a:P K=false) : ∀ {n:Nat},K<=n->lead P n=K
 | 0,h=>by unfold lead; omega
 | n+1,h=>by
   unfold lead;by_cases e:K=n+1
   ·rw[d_ ⟨Kh fun i d=>h1 i (by omega),h1 n (by omega)⟩]; exact e.symm
   ·rw[NW h1 a (n:=n) (by omega),b_];rintro ⟨c,b⟩;subst c; rw[a]at b; cases b
def bT(t:Nat->Nat->Int)(tn:Nat)(x:Int):Nat:=lead (fun i=>decide (0<=bE t tn (bA t tn i x))) 1000
theorem uV{t:Nat->Nat->Int}{tn K D:Nat}{x:Int}(h1 : ∀ i,i<K->0<=bE t tn (bA t tn i x))(c:bE t tn (bA t tn K x)<0)(d:bE t tn (bA t tn D x)<0)(e:D<=1000):K=bT t tn x:=by
 have a:K<=1000:=by
  rcases Nat.lt_or_ge D K with h|h
  ·have:=h1 D h; omega
  ·omega
 exact(NW (fun i b=>f_ (h1 i b)) (g_ (by omega)) a).symm
end Rt
def fP.node(L:fP)(x:Int):Int:=gU (fun i=>decide (L.id i=x)) L.nn
def fP.grant(L:fP)(o r:Int):Int:=gU (fun i=>decide (L.g i 0=o)&&decide (L.g i 1=r)) L.gn
def fP.kQ(L:fP)(a:Nat)(r:Int):Int:=gU (fun i=>decide (L.rq a i=r)) (L.rn a)
namespace Rt
def nX(L:fP)(x:Int)(i:Nat):Nat:=(L.node (bA L.t L.tn i x)).toNat
def pY(v:EvM):Nat->Int:=fun j=>if j=0 then v.o else if j=1 then v.req else if j=2 then v.node else if j=3 then v.aU else 0
def EN(v:EvM)(x:Nat->Int):Bool:=decide (v.o<x 0) || (decide (x 0=v.o)&&decide (v.req<x 1))
def aP(v:EvM):Nat:=(v.o-1).toNat
def mR(L:fP)(v:EvM):(Nat->Nat->Int) × Int:=dw (fun x=>bC x v.o v.aU) (nX L v.node) L.R (bT L.t L.tn v.node)
def iQ(L:fP)(v:EvM):Int:=if 0<=L.kQ (aP v) v.req then 14 else if bT L.t L.tn v.node=0 then 9 else(mR L v).2
def qm(L:fP)(a:Nat)(r:Int):fP := { L with rn:=aJ L.rn a (L.rn a+1),rq:=aJ L.rq a (aJ (L.rq a) (L.rn a) r) }
def lN(L:fP)(v:EvM):fP :=
 qm { L with R:=(mR L v).1,gn:=L.gn+1,g:=cK L.g (down (fun i=>EN v (L.g i)) L.gn) (pY v) } (aP v) v.req
theorem BJ{n q:Nat}{id par:Nat->Int}{R:Nat->Nat->Int}{r:Nat->Int} : ∀ i,i<n -> ∀ j,j<56->Fx.qH (fun a=>lY (id a) (par a) (R a)) q (bI (lY (id q) (par q) (R q)) 2 54 (rv .i64 r)) i j=lY (id i) (par i) (aJ R q r i) j:=fun i _ j d=>by
 unfold Fx.qH aJ;by_cases h:i=q
 ·subst h;rw[d_ rfl,d_ rfl];unfold bI lY rv;by_cases b:j=0
  ·subst b; rfl
  ·by_cases c:j=1
   ·subst c; rfl
   ·rw[d_ (by omega),b_ b,b_ c]
 ·rw[b_ h,b_ h]
theorem Xm{g:Nat->Nat->Int}{k:Nat}{x:Nat->Int}:Fx.Ie (fun a=>jf (g a)) k (jf x)=fun a=>jf (cK g k x a):=by
 funext i
 unfold Fx.Ie cK;by_cases h:i<k
 ·simp only[d_ h]
 by_cases b:i=k
 ·simp only[b_ h,d_ b]
 simp only[b_ h,b_ b]
theorem Mr(m:kX)(a:Option Addr)(n c:Nat):dA (mF m) 19 (.slice a n c)=mF { m with s := { m.s with ga:=a,gn:=n,gc:=c } }:=by
 funext p
 unfold dA mF;by_cases h:p=19
 ·subst h; rfl
 rw[b_ h];by_cases e:p<20
 ·rw[d_ e,d_ e]; unfold pX;by_cases b:p<6
  ·rw[d_ b,d_ b]
  by_cases d:p<12
  ·rw[b_ b,d_ d,b_ b,d_ d]
  by_cases f:p<18
  ·rw[b_ b,b_ d,d_ f,b_ b,b_ d,d_ f]
  rw[b_ b,b_ d,b_ f,d_ (by omega),b_ b,b_ d,b_ f,d_ (by omega)]
 rw[b_ e,b_ e]
theorem Ki(m:kX){i q:Nat}(f:q=i+21)(a:Option Addr)(n c:Nat):dA (mF m) q (.slice a n c)=mF { m with ra:=aJ m.ra i a,rn:=aJ m.rn i n,rc:=aJ m.rc i c }:=by
 subst f
 funext p
 unfold dA mF;by_cases h:p=i+21
 ·subst h;rw[d_ rfl,b_ (by omega),b_ (by omega),Nat.add_sub_cancel];simp[aJ]
 rw[b_ h];by_cases b:p<20
 ·rw[d_ b,d_ b]
 rw[b_ b,b_ b];by_cases d:p=20
 ·rw[d_ d,d_ d]
 rw[b_ d,b_ d];have e : ¬ p-21=i:=by omega
 simp[aJ,e]
theorem wz.app{w w':World}{B a g cap:Nat}{r:Int}{m d:kX}(h:wz w B 6 m)(_ha:a<6)(h1:d.ra=aJ m.ra a (some ⟨g,0,none⟩))(l:d.rn=aJ m.rn a (m.rn a+1))(t:d.rc=aJ m.rc a cap)(u:d.rq=aJ m.rq a (aJ (m.rq a) (m.rn a) r))
 (z:Fx.Own w' B 28 1 (bL g (m.rn a+1) cap) (m.rn a+1) (rv .u64 (aJ (m.rq a) (m.rn a) r))) (A:w.grownBy w' (sH m a).ownBlock) (C:(sH m a).ownBlock=some g\/g=w.heap.size):wz w' B 6 d:=by
 have k : ∀ i,i≠a->sH d i=sH m i:=fun i c=>by unfold sH; rw[h1,l,t]; simp[aJ,c]
 have n:sH d a=bL g (m.rn a+1) cap:=by unfold sH; rw[h1,l,t]; simp[aJ]
 have y : ∀ i,i<6->i≠a -> ∀ q,(sH m i).ownBlock=some q->q≠g:=fun i c D q b e=>by
  subst e
  rcases C with f|f
  ·exact h.2 i a c _ha D q b f
  ·have:=((h.1 i c).ge b).2; omega
 refine⟨fun i c => ?_,fun i j c v p q b => ?_⟩
 ·by_cases e:i=a
  ·subst e; rw[n,l,u]; simp only[aJ,if_true]; exact z
  rw[k i e,l,u];simp only[aJ,b_ e];refine World.ownsRow.kept (h.1 i c) A ?_;by_cases x:(sH m i).ownBlock=none
  ·exact .inl x
  right;intro f
  cases b:(sH m i).ownBlock with
  | none=>exact x b
  | some q=>rw[b]at f; exact h.2 i a c _ha e q b f.symm
 by_cases e:i=a
 ·subst e;rw[n]at b;rw[k j (fun e=>p e.symm)];intro o;exact y j v (fun e=>p e.symm) q o (B_ b).symm
 rw[k i e]at b;by_cases s:j=a
 ·subst s; rw[n]; intro o; exact y i c e q b (B_ o).symm
 rw[k j s]; exact h.2 i j c v p q b
end Rt
end
def Jl(a:World)(l:List (Nat × (Nat->Int)))(w':World):Prop:=(∀ p∈l,w'.heap[p.1]? = some (.cells (aR .i64 54 p.2) 59 (0,0)))/\Below a.heap.size a w'
theorem Jl.up{b w w':World}{l:List (Nat × (Nat->Int))}(h:Jl b l w)(a:Below w.heap.size w w'):Jl b l w':=⟨fun p c=>Q0 (h.1 p c) a,Jg h.2 a⟩
instance {a w w':World} {l:List (Nat × (Nat->Int))}:Rt.Tr w w' (Jl a l w) (Jl a l w'):=⟨fun b h=>h.up b⟩
theorem Jl.drew{a w:World}{l:List (Nat × (Nat->Int))}(h:Jl a l w):Jl a l w.drew:=⟨h.1,bN h.2 1⟩
theorem Jl.drop{a w:World}{p:Nat × (Nat->Int)}{l:List (Nat × (Nat->Int))}(h:Jl a (p::l) w):Jl a l w:=⟨fun q b=>h.1 q (by simp[b]),h.2⟩
theorem Jl.row{b w:World}{l:List (Nat × (Nat->Int))}(h:Jl b l w)(g:Nat)(x:Nat->Int)(a:(g,x)∈l):w.heap[g]? = some (.cells (aR .i64 54 x) 59 (0,0)):=h.1 (g,x) a
theorem Jl.add{b w:World}{l:List (Nat × (Nat->Int))}(h:Jl b l w){g:Nat}{x:Nat->Int}(c:w.heap[g]? = some (.cells (aR .i64 54 x) 59 (0,0))):Jl b ((g,x)::l) w :=
 ⟨fun p a=>by
  rcases List.mem_cons.1 a with rfl|a
  ·exact c
  ·exact h.1 p a,h.2⟩
theorem Jl.start(w:World)(x:Nat->Int):Jl w [(w.heap.size,x)] (w.alloc (.cells (aR .i64 54 x) 59)):=⟨fun p a=>by
 obtain rfl:p=(w.heap.size,x):=by simpa using a
 exact heap_alloc_new w _,(Below.refl _ _).alloc (z_ _) _⟩
namespace Rt
def uW(x:Nat->Int)(k:Nat):Nat->Int
 | 0=>G x k-C x k+F x k
 | j+1=>uW x k j+R x j k-R x k j
theorem abE(x:Nat->Int)(k:Nat):uW x k 6=L x k:=by simp only[uW,L]; omega
theorem NY{x:Nat->Int}(h:Pw x)(k:Nat)(d:k<6) : ∀ j:Nat,j<=6 -> -(1125899906842624*((j:Int)+1))<=uW x k j/\uW x k j<=1125899906842624*((j:Int)+2)
 | 0,_=>by
   have a:=h k (by omega); have b:=h (6+k) (by omega); have c:=h (12+k) (by omega);simp only[uW,G,C,F]; omega
 | j+1,hj=>by
   have:=NY h k d j (by omega);have a:=h (18+j*6+k) (by omega); have b:=h (18+k*6+j) (by omega);simp only[uW,R]; omega
end Rt
theorem mY(n:Int)(w:World) :
 Calls Tryz.prog 113 #[au n] w fun e w'=>e = .returned (.bool (zJ n))/\w'=w:=by
 refine Kent Tryz.func113 9 ?_;refine ay<|av aG<|aD<|ay<|av (au n) ?_;by_cases a:0<=n
 ·refine Lv aH (ko a)<|av aH<|av (au n) ?_;by_cases b:n<=1125899906842624
  ·refine Lv aH (nD b)<|av aH<|av aH<|aD<|Wr<|aK aH ?_;exact⟨gZ (by simp only[zJ]; first|(symm; simp; omega)|(symm; simp; done)),rfl⟩
  refine Lv aG (nT b)<|av aG<|av aG<|aD<|Wr<|aK aG ?_;exact⟨gZ (by simp only[zJ]; first|(symm; simp; omega)|(symm; simp; done)),rfl⟩
 refine Lv aG (jU a)<|av aG<|dB<|dB<|av aG<|av aG<|aD<|Wr<|aK aG ?_;exact⟨gZ (by simp only[zJ]; first|(symm; simp; omega)|(symm; simp; done)),rfl⟩
theorem yE(n:Int)(w:World) :
 Calls Tryz.prog 83 #[au n] w fun e w'=>e = .returned (.bool (gH n))/\w'=w:=by
 refine Kent Tryz.func83 9 ?_;refine ay<|av aG<|aD<|ay<|av (au n) ?_;by_cases a:1<=n
 ·refine Lv aH (ko a)<|av aH<|av (au n) ?_;by_cases b:n<=6
  ·refine Lv aH (nD b)<|av aH<|av aH<|aD<|Wr<|aK aH ?_;exact⟨gZ (by simp only[gH]; first|(symm; simp; omega)|(symm; simp; done)),rfl⟩
  refine Lv aG (nT b)<|av aG<|av aG<|aD<|Wr<|aK aG ?_;exact⟨gZ (by simp only[gH]; first|(symm; simp; omega)|(symm; simp; done)),rfl⟩
 refine Lv aG (jU a)<|av aG<|dB<|dB<|av aG<|av aG<|aD<|Wr<|aK aG ?_;exact⟨gZ (by simp only[gH]; first|(symm; simp; omega)|(symm; simp; done)),rfl⟩
theorem Rt.PK(x:Nat->Int)(k j:Nat):uW x k (j+1)=uW x k j+x (18+j*6+k)-x (18+k*6+j):=rfl
theorem Rt.PL(x:Nat->Int)(k:Nat):uW x k 0=x k-x (6+k)+x (12+k):=rfl
theorem EO(x:Nat->Int)(k:Nat)(w:World)(E:k<6)(d:Pw x) :
 Calls Tryz.prog 84 #[.agg (aC 54 (rv .i64 x)),au ((k:Int)+1)] w fun e w'=>e = .returned (au (L x k))/\Below w.heap.size w w':=by
 have B:uW x k 6=L x k:=abE x k;have A:=fun j=>NY d k E j;have S:uW x k 0=x k-x (k+6)+x (k+12):=by rw[PL,Nat.add_comm 6 k,Nat.add_comm 12 k]
 have O:=d k (by omega);have P:=d (k+6) (by omega);have Q:=d (k+12) (by omega);refine Kent Tryz.func84 44 ?_;refine ay<|rU fun c l D h H X => ?_;have s:=bH H.old (Below.refl w.heap.size w);have U:=iE D;have W:=h.lt;refine av (au 0)<|aD<|ay<|av (au ((k:Int)+1))<|Lv (au k) gu<|av (au k)<|aD<|Ws ?_;refine xL<|aT (au k)<|aT (pt c)<|Qv (pf c k) (fun b a=>jE 6 1)<|Qv (au (x k)) (fun b a=>aN (h.aI.dr a) k)<|aT (au k)<|aT (pf c 6)<|Qv (pf c (k+6)) (fun b a=>jE 6 1)<|Qv (au (x (k+6))) (fun b a=>aN (h.aI.dr a) (k+6))<|Qv (au ((x k)-(x (k+6)))) (fun b a=>gu)<|aT (au k)<|aT (pf c 12)<|Qv (pf c (k+12)) (fun b a=>jE 6 1)<|Qv (au (x (k+12))) (fun b a=>aN (h.aI.dr a) (k+12))<|Qv (au (((x k)-(x (k+6)))+(x (k+12)))) (fun b a=>eY)<|aT (au (((x k)-(x (k+6)))+(x (k+12))))<|Qn ?_;rintro _ ⟨i,rfl⟩;obtain⟨K,n⟩ : ∃ b,b=World.drewN l i:=⟨_,rfl⟩;rw[<- n];have I:Stp l.heap.size l K:=by rw[n]; exact Sb (jl l i)
 have⟨F,t⟩:=fC I.old h s;clear n;refine sN<|Ws<|ay<|av (au 0)<|aD<|Wb<|Wo (fun f z => ∃ j:Nat,j<=6/\f 2=(pt c)/\f 5=au (k:Int)/\f 6=au (uW x k j)/\f 7=au (j:Int)/\aS z c 54 (rv .i64 x) 59/\Below w.heap.size w z) (fun f _=>(6-(intOf (f 7)).toNat)) ⟨0,by omega,(by rfl),Fx.ic,Fx.ic,Fx.ic,F,t⟩ ?_;rintro R m ⟨j,V,p,q,y,g,r,u⟩;have T:=A j (by omega);have N:uW x k (j+1)=uW x k j+x (6*j+k+18)-x (j+6*k+18):=by rw[PK,show 18+j*6+k=6*j+k+18 by omega,show 18+k*6+j=j+6*k+18 by omega]
 have s:=d (6*j+k+18);have t:=d (j+6*k+18);refine Ws<|ay<|aX g ?_;by_cases v:(j:Int)<6
 ·refine Lv aH (gV v)<|aD<|aO<|Wk<|sN<|Ws<|Wb ?_;refine xL<|dX y<|dX g<|dX q<|Qv (pf c 18) (fun b a=>iV p 18)<|Qv (pf c (6*j+18)) (fun b a=>jE 6 6)<|Qv (pf c (6*j+k+18)) (fun b a=>jE 6 1)<|Qv (au (x (6*j+k+18))) (fun b a=>aN (r.aI.dr a) (6*j+k+18))<|Qv (au ((uW x k j)+(x (6*j+k+18)))) (fun b a=>eY)<|dX q<|dX g<|Qv (pf c 18) (fun b a=>iV p 18)<|Qv (pf c (6*k+18)) (fun b a=>jE 6 6)<|Qv (pf c (j+6*k+18)) (fun b a=>jE 6 1)<|Qv (au (x (j+6*k+18))) (fun b a=>aN (r.aI.dr a) (j+6*k+18))<|Qv (au (((uW x k j)+(x (6*j+k+18)))-(x (j+6*k+18)))) (fun b a=>gu)<|aT (au (((uW x k j)+(x (6*j+k+18)))-(x (j+6*k+18))))<|Qn ?_;rintro _ ⟨i,rfl⟩;obtain⟨M,o⟩ : ∃ b,b=World.drewN m i:=⟨_,rfl⟩;rw[<- o];have J:Stp m.heap.size m M:=by rw[o]; exact Sb (jl m i)
  have⟨G,C⟩:=fC J.old r u;clear o;refine bQ<|sN<|Wl<|aX g<|Lv (au ((j:Int)+1)) eY<|av (au ((j:Int)+1))<|Ln<|gT ⟨j+1,by omega,p,(q.trans Fx.ic),Fx.ic,Fx.ic,G,C⟩ ?_;show(6-(intOf (au ((j:Int)+1))).toNat)<_;simp only[g,intOf]; omega
 refine Lv aG (gW v)<|aD<|aL<|Wx<|cu<|gJ<|cB<|sN<|ay<|aX y<|av (au (uW x k j))<|aD<|Wr<|aK (au (uW x k j)) ?_;exact⟨pz (by rw[<- B]; exact K_ _ (by omega)),u⟩
namespace Rt
def TI(x:Nat->Int)(i:Nat):Prop:=zJ (x i)=true/\zJ (x (i+6))=true/\zJ (x (i+12))=true/\x (i+12)<=x (i+6)/\x (7*i+18)=0
def EP(x:Nat->Int)(i j:Nat):Prop := ∀ q,q<j->zJ (x (6*i+q+18))=true
def Kj(x:Nat->Int)(i:Nat):Prop := ∀ k,k<i->TI x k/\EP x k 6
def yY(x:Nat->Int):Nat->Int
 | 0=>0
 | i+1=>yY x i+x i
theorem PN(x:Nat->Int):Kj x 0:=fun _ h=>L_ h (by omega)
theorem Ms(x:Nat->Int)(i:Nat):EP x i 0:=fun _ h=>L_ h (by omega)
theorem Mt{x:Nat->Int}{i j:Nat}(h:EP x i j)(a:zJ (x (6*i+j+18))=true):EP x i (j+1):=fun q b=>by
 by_cases e:q=j
 ·subst e; exact a
 ·exact h q (by omega)
theorem PO{x:Nat->Int}{i:Nat}(h:Kj x i)(hr:TI x i)(a:EP x i 6):Kj x (i+1):=fun k b=>by
 by_cases e:k=i
 ·subst e; exact⟨hr,a⟩
 ·exact h k (by omega)
theorem Kk{x:Nat->Int}(h:Kj x 6):Pw x:=fun p d=>by
 by_cases a:p<6
 ·exact zP (h p a).1.1
 ·by_cases b:p<12
  ·have:=zP (h (p-6) (by omega)).1.2.1; rwa [show p-6+6=p by omega]at this
  ·by_cases c:p<18
   ·have:=zP (h (p-12) (by omega)).1.2.2.1; rwa [show p-12+12=p by omega]at this
   ·have:=zP ((h ((p-18) / 6) (by omega)).2 ((p-18) % 6) (by omega)); rwa [show 6*((p-18) / 6)+(p-18) % 6+18=p by omega]at this
theorem NZ{x:Nat->Int} : ∀ {i:Nat},Kj x i->0<=yY x i/\yY x i<=1125899906842624*(i:Int)
 | 0,_=>by simp[yY]
 | i+1,h=>by
   have a:=NZ (i:=i) (fun k c=>h k (by omega));have b:=zP (h i (by omega)).1.1;simp only[yY]; omega
theorem IK{x:Nat->Int}{p:Nat}(a:p<54)(h:zJ (x p)=false):may x=false:=by
 cases hm:may x
 ·rfl
 have:=(jy x).1 hm |>.1 p a;unfold zJ at h; simp at h; omega
theorem afD{x:Nat->Int}{i:Nat}(hi:i<6)(h:x (i+6)<x (i+12)):may x=false:=by
 cases hm:may x
 ·rfl
 have:=((jy x).1 hm |>.2.1 i hi).2.1;unfold F C at this; rw[Nat.add_comm 12 i,Nat.add_comm 6 i]at this; omega
theorem afE{x:Nat->Int}{i:Nat}(hi:i<6)(h : ¬ x (7*i+18)=0):may x=false:=by
 cases hm:may x
 ·rfl
 have:=((jy x).1 hm |>.2.1 i hi).2.2;unfold R at this; rw[show 18+i*6+i=7*i+18 by omega]at this; exact L_ this h
theorem abF{x:Nat->Int}{i:Nat}(hi:i<6)(h:L x i<0):may x=false:=by
 cases hm:may x
 ·rfl
 have:=((jy x).1 hm |>.2.1 i hi).1;omega
theorem TJ{x:Nat->Int}{m:Nat}(h : ∀ k,k<m->0<=L x k)(a:0<=L x m) : ∀ k,k<m+1->0<=L x k:=fun k b=>by
 by_cases e:k=m
 ·rw[e]; exact a
 ·exact h k (by omega)
theorem N7{x:Nat->Int}(ha:Kj x 6)(b : ∀ k,k<6->0<=L x k):may x=decide (yY x 6<=1125899906842624):=by
 have c:yY x 6=oD x:=by simp only[yY,oD,G]; omega
 rw[c,Bool.eq_iff_iff,jy,O_];refine⟨fun h=>h.2.2,fun h=>⟨Kk ha,fun k a=>⟨b k a,?_,?_⟩,h⟩⟩
 ·have:=(ha k a).1.2.2.2.1; unfold F C; rwa [Nat.add_comm 12 k,Nat.add_comm 6 k]
 have:=(ha k a).1.2.2.2.2; unfold R; rwa [show 18+k*6+k=7*k+18 by omega]
end Rt
set_option maxRecDepth 10000 in
set_option maxHeartbeats 1000000 in
theorem TK(x:Nat->Int)(w:World) :
 Calls Tryz.prog 82 #[.agg (aC 54 (rv .i64 x))] w fun e w'=>e = .returned (.bool (may x))/\Below w.heap.size w w':=by
 refine Kent Tryz.func82 81 ?_;refine ay<|rU fun c w1 mD m1 s1 z1 => ?_;have b1:=bH s1.old (Below.refl w.heap.size w);have uG:=iE mD;have wO:=m1.lt;refine av aG<|aD<|ay<|av (au 0)<|aD<|Ws<|ay<|av (au 0)<|aD<|Wb<|Wo (fun f q => ∃ i:Nat,i<=6/\Kj x i/\f 1=(pt c)/\f 3=au (yY x i)/\f 4=au (i:Int)/\aS q c 54 (rv .i64 x) 59/\Below w.heap.size w q) (fun f _=>(6-(intOf (f 4)).toNat)) ⟨0,by omega,PN x,(by rfl),Fx.ic,Fx.ic,m1,b1⟩ ?_;rintro f1 d ⟨i,hi,B,n,h2,l,o,r⟩;have hG:=NZ B;have HG:yY x (i+1)=yY x i+x i:=rfl;refine Ws<|ay<|aX l ?_;by_cases Z:(i:Int)<6
 ·refine Lv aH (gV Z)<|aD<|aO<|Wk<|sN<|Ws<|Wb<|Ws<|Ws ?_;refine xL<|dX l<|Qv (pt c) (fun a b=>iV n 0)<|Qv (pf c i) (fun a b=>jE 6 1)<|Qv (au (x i)) (fun a b=>aN (o.aI.dr b) i) ?_;by_cases s:(zJ (x i))=true
  ·refine pR (fun _ _=>mY (x i) _) aH (by rw[s])<|aT aG<|aT aG<|dX l<|Qv (pf c 6) (fun a b=>iV n 6)<|Qv (pf c (i+6)) (fun a b=>jE 6 1)<|Qv (au (x (i+6))) (fun a b=>aN (o.aI.dr b) (i+6)) ?_;by_cases v:(zJ (x (i+6)))=true
   ·refine pR (fun _ _=>mY (x (i+6)) _) aH (by rw[v])<|aT aG<|aT aG<|aT aG<|dX l<|Qv (pf c 12) (fun a b=>iV n 12)<|Qv (pf c (i+12)) (fun a b=>jE 6 1)<|Qv (au (x (i+12))) (fun a b=>aN (o.aI.dr b) (i+12)) ?_;by_cases y:(zJ (x (i+12)))=true
    ·refine pR (fun _ _=>mY (x (i+12)) _) aH (by rw[y])<|aT aG<|aT aG<|aT aG<|dX l<|Qv (pf c 12) (fun a b=>iV n 12)<|Qv (pf c (i+12)) (fun a b=>jE 6 1)<|Qv (au (x (i+12))) (fun a b=>aN (o.aI.dr b) (i+12))<|dX l<|Qv (pf c 6) (fun a b=>iV n 6)<|Qv (pf c (i+6)) (fun a b=>jE 6 1)<|Qv (au (x (i+6))) (fun a b=>aN (o.aI.dr b) (i+6)) ?_;by_cases H:(x (i+6))<(x (i+12))
     ·refine Qv aH (fun a b=>mK H)<|aT aH<|aT aH<|aQ<|aQ<|aQ<|aQ<|aQ<|aQ<|aQ<|aT aH<|Qn ?_;rintro _ ⟨g,rfl⟩;obtain⟨Cw,K⟩ : ∃ a,a=World.drewN d g:=⟨_,rfl⟩;rw[<- K];have s2:Stp d.heap.size d Cw:=(by rw[K]; exact Sb (jl d g));have b3:=bH s2.old r;clear K;refine sN (aO (ay (av aG (aD (Wr (sR (bM (sR (qb (bM (sR (aK aG (⟨gZ (Eq.symm ?_),b3⟩)))))))))))));exact afD (i:=i) (by omega) H
     refine Qv aG (fun a b=>mM H)<|aT aG<|aT aG<|dX l<|dX l<|Qv (pf c 18) (fun a b=>iV n 18)<|Qv (pf c (6*i+18)) (fun a b=>jE 6 6)<|Qv (pf c (7*i+18)) (fun a b=>jE 6 1)<|Qv (au (x (7*i+18))) (fun a b=>aN (o.aI.dr b) (7*i+18)) ?_;by_cases C:(x (7*i+18))=0
     ·refine Qv aG (fun a b=>kr C)<|aT aG<|Qn ?_;rintro _ ⟨g,rfl⟩;obtain⟨wq2,M⟩ : ∃ a,a=World.drewN d g:=⟨_,rfl⟩;rw[<- M];have s3:Stp d.heap.size d wq2:=(by rw[M]; exact Sb (jl d g));have⟨m4,b4⟩:=fC s3.old o r;clear M;refine sN<|aL<|Wk<|sN<|Ws ?_;have hR:TI x i:=⟨s,v,y,by omega,C⟩;have b15:=zP s;refine Wl<|aX h2<|aX l<|Lv (pt c) (iV n 0)<|Lv (pf c i) (jE 6 1)<|Lv (au (x i)) (aN m4.aI i)<|Lv (au ((yY x i)+(x i))) eY<|av (au ((yY x i)+(x i)))<|aD<|ay<|av (au 0)<|aD<|Wb<|Wo (fun f q => ∃ j:Nat,j<=6/\EP x i j/\f 1=(pt c)/\f 3=au (yY x (i+1))/\f 4=au (i:Int)/\f 5=au (j:Int)/\aS q c 54 (rv .i64 x) 59/\Below w.heap.size w q) (fun f _=>(6-(intOf (f 5)).toNat)) ⟨0,by omega,Ms x i,n,Fx.ic,(l.trans Fx.ic),Fx.ic,m4,b4⟩ ?_;rintro f2 w3 ⟨j,hj,T,R,h5,S,E,U,G⟩;refine Ws<|ay<|aX E ?_;by_cases X:(j:Int)<6
      ·refine Lv aH (gV X)<|aD<|aO<|Wk<|sN<|Ws<|Wb<|ay<|aX S<|aX E<|Lv (pf c 18) (iV R 18)<|Lv (pf c (6*i+18)) (jE 6 6)<|Lv (pf c (6*i+j+18)) (jE 6 1)<|Lv (au (x (6*i+j+18))) (aN U.aI (6*i+j+18)) ?_;by_cases z:(zJ (x (6*i+j+18)))=true
       ·refine lU (mY (x (6*i+j+18)) _) aH (by rw[z])<|av aG<|aD<|aL<|Wk<|bQ<|sN<|Wl<|aX E<|Lv (au ((j:Int)+1)) eY<|av (au ((j:Int)+1))<|Ln<|gT ⟨j+1,by omega,Mt T z,R,(h5.trans Fx.ic),(S.trans Fx.ic),Fx.ic,U,G⟩ ?_;show(6-(intOf (au ((j:Int)+1))).toNat)<_;simp only[E,intOf]; omega
       rw[S_]at z;refine lU (mY (x (6*i+j+18)) _) aG (by rw[z]) (av aH (aD (aO (ay (av aG (aD (Wr (bM (sR (qb (bM (bM (sR (qb (bM (sR (aK aG (⟨gZ (Eq.symm ?_),G⟩))))))))))))))))));exact IK (p:=6*i+j+18) (by omega) z
      refine Lv aG (gW X)<|aD<|aL<|Wx<|cu<|gJ<|cB<|bQ<|sN<|Wl<|aX S<|Lv (au ((i:Int)+1)) eY<|av (au ((i:Int)+1))<|Ln ?_;have A:j=6:=(by omega);have hT6:EP x i 6:=(by rw[A]at T; exact T);refine gT ⟨i+1,by omega,PO B hR hT6,R,(h5.trans Fx.ic),Fx.ic,U,G⟩ ?_;show(6-(intOf (au ((i:Int)+1))).toNat)<_;simp only[l,intOf]; omega
     refine Qv aH (fun a b=>nE C)<|aT aH<|Qn ?_;rintro _ ⟨g,rfl⟩;obtain⟨Jm,N⟩ : ∃ a,a=World.drewN d g:=⟨_,rfl⟩;rw[<- N];have s4:Stp d.heap.size d Jm:=(by rw[N]; exact Sb (jl d g));have b6:=bH s4.old r;clear N;refine sN (aO (ay (av aG (aD (Wr (sR (bM (sR (qb (bM (sR (aK aG (⟨gZ (Eq.symm ?_),b6⟩)))))))))))));exact afE (i:=i) (by omega) C
    rw[S_]at y;refine pR (fun _ _=>mY (x (i+12)) _) aG (by rw[y])<|aT aH<|aT aH<|aT aH<|aQ<|aQ<|aQ<|aQ<|aQ<|aQ<|aQ<|aQ<|aQ<|aT aH<|aT aH<|aQ<|aQ<|aQ<|aQ<|aQ<|aQ<|aQ<|aT aH<|Qn ?_;rintro _ ⟨g,rfl⟩;obtain⟨TL,O⟩ : ∃ a,a=World.drewN d g:=⟨_,rfl⟩;rw[<- O];have s5:Stp d.heap.size d TL:=(by rw[O]; exact Sb (jl d g));have b7:=bH s5.old r;clear O;refine sN (aO (ay (av aG (aD (Wr (sR (bM (sR (qb (bM (sR (aK aG (⟨gZ (Eq.symm ?_),b7⟩)))))))))))));exact IK (p:=i+12) (by omega) y
   rw[S_]at v;refine pR (fun _ _=>mY (x (i+6)) _) aG (by rw[v])<|aT aH<|aT aH<|aT aH<|aQ<|aQ<|aQ<|aQ<|aQ<|aQ<|aT aH<|aT aH<|aQ<|aQ<|aQ<|aQ<|aQ<|aQ<|aQ<|aQ<|aQ<|aT aH<|aT aH<|aQ<|aQ ?_;refine aQ<|aQ<|aQ<|aQ<|aQ<|aT aH<|Qn ?_;rintro _ ⟨g,rfl⟩;obtain⟨wq5,P⟩ : ∃ a,a=World.drewN d g:=⟨_,rfl⟩;rw[<- P];have s6:Stp d.heap.size d wq5:=(by rw[P]; exact Sb (jl d g));have b8:=bH s6.old r;clear P;refine sN (aO (ay (av aG (aD (Wr (sR (bM (sR (qb (bM (sR (aK aG (⟨gZ (Eq.symm ?_),b8⟩)))))))))))));exact IK (p:=i+6) (by omega) v
  rw[S_]at s;refine pR (fun _ _=>mY (x i) _) aG (by rw[s])<|aT aH<|aT aH<|aQ<|aQ<|aQ<|aQ<|aQ<|aQ<|aT aH<|aT aH<|aQ<|aQ<|aQ<|aQ<|aQ<|aQ<|aT aH<|aT aH<|aQ<|aQ<|aQ<|aQ<|aQ<|aQ ?_;refine aQ<|aQ<|aQ<|aT aH<|aT aH<|aQ<|aQ<|aQ<|aQ<|aQ<|aQ<|aQ<|aT aH<|Qn ?_;rintro _ ⟨g,rfl⟩;obtain⟨wq6,Q⟩ : ∃ a,a=World.drewN d g:=⟨_,rfl⟩;rw[<- Q];have s7:Stp d.heap.size d wq6:=by rw[Q]; exact Sb (jl d g)
  have b9:=bH s7.old r;clear Q;refine sN (aO (ay (av aG (aD (Wr (sR (bM (sR (qb (bM (sR (aK aG (⟨gZ (Eq.symm ?_),b9⟩)))))))))))));exact IK (p:=i) (by omega) s
 refine Lv aG (gW Z)<|aD<|aL<|Wx<|cu<|gJ<|cB<|sN<|Ws<|ay<|av (au 1)<|aD<|Wb ?_;have A:i=6:=by omega
 rw[A]at B;have HE:=Kk B;have V:Kj x 6:=B;refine Wo (fun f q => ∃ m:Nat,m<=6/\(∀ k,k<m->0<=L x k)/\f 1=(pt c)/\f 3=au (yY x i)/\f 6=au ((m:Int)+1)/\aS q c 54 (rv .i64 x) 59/\Below w.heap.size w q) (fun f _=>(7-(intOf (f 6)).toNat)) ⟨0,by omega,(fun _ h=>L_ h (by omega)),n,(h2.trans Fx.ic),Fx.ic,o,r⟩ ?_;rintro f3 w4 ⟨m,hm,u,h8,h9,D,m10,F⟩;refine Ws<|ay<|aX D ?_;by_cases Y:((m:Int)+1)<=6
 ·refine Lv aH (nD Y)<|aD<|aO<|Wk<|sN<|Ws<|Wb<|ay<|Lv (.agg (aC 54 (rv .i64 x))) (gI m10.aI 0 (ha:=h8))<|aX D<|eB (EO x m _ (by omega) HE) _ rfl ?_;intro w5 hb1;have⟨m11,W⟩:=fC hb1 m10 F;by_cases I:(L x m)<0
  ·refine Lv aH (gV I) (aD (aO (ay (av aG (aD (Wr (bM (sR (qb (bM (sR (aK aG (⟨gZ (Eq.symm ?_),W⟩)))))))))))));exact abF (i:=m) (by omega) I
  refine Lv aG (gW I)<|aD<|aL<|Wk<|bQ<|sN<|Wl<|aX D<|Lv (au ((m:Int)+2)) eY<|av (au ((m:Int)+2))<|Ln<|gT ⟨m+1,by omega,TJ u (by omega),h8,(h9.trans Fx.ic),Fx.ic,m11,W⟩ ?_;show(7-(intOf (au ((m:Int)+2))).toNat)<_;simp only[D,intOf]; omega
 refine Lv aG (nT Y)<|aD<|aL<|Wx<|cu<|gJ<|cB<|sN<|ay<|aX h9 ?_;by_cases t:(yY x i)<=1125899906842624
 ·refine Lv aH (nD t) (av aH (aD (Wr (aK aH (⟨gZ (Eq.symm ?_),F⟩)))));have J:m=6:=by omega
  rw[J]at u;rw[A]at t;rw[N7 V u]; exact f_ t
 refine Lv aG (nT t) (av aG (aD (Wr (aK aG (⟨gZ (Eq.symm ?_),F⟩)))));have J:m=6:=by omega
 rw[J]at u;rw[A]at t;rw[N7 V u]; exact g_ t
namespace Rt
def eG(x:Nat->Int)(i n:Int):Int:=if may x&&decide (1<=n)&&decide (n<=1125899906842624)then(if gH i then 0 else 10)else 1
end Rt
theorem ER(x:Nat->Int)(i n:Int)(w:World) :
 Calls Tryz.prog 112 #[.agg (aC 54 (rv .i64 x)),au i,au n] w fun e w'=>e = .returned (au (eG x i n))/\Below w.heap.size w w':=by
 refine Kent Tryz.func112 21 ?_;refine ay<|rU fun p s k h o v => ?_;have d:=bH o.old (Below.refl w.heap.size w);have q:=iE k;have r:=h.lt;refine av (au 0)<|aD<|Ws<|ay<|Lv (.agg (aC 54 (rv .i64 x))) (gI h.aI 0) ?_;by_cases a:(may x)=true
 ·refine eB (TK x _) aH (by rw[a]) ?_;intro t l;have c:=bH l d;refine av aG<|av aG<|av (au n) ?_;by_cases f:n<1
  ·refine Lv aH (gV f) (av aH (av aH (dB (dB (av aH (aD (aO (ay (av (au 1) (aD (Wr (sR (aK (au 1) (⟨pz ?_,c⟩))))))))))))));unfold eG; rw[a,g_ (show ¬ 1<=n by omega)]; simp
  refine Lv aG (gW f)<|av aG<|av aG<|av (au n) ?_;by_cases g:1125899906842624<n
  ·refine Lv aH (mK g) (av aH (aD (aO (ay (av (au 1) (aD (Wr (sR (aK (au 1) (⟨pz ?_,c⟩))))))))));unfold eG; rw[a,f_ (show 1<=n by omega),g_ (show ¬ n<=1125899906842624 by omega)]; simp
  refine Lv aG (mM g)<|av aG<|aD<|aL<|Wk<|sN<|Ws<|ay<|av (au i) ?_;by_cases b:(gH i)=true
  ·refine lU (yE i _) aH (by rw[b]) (av aG (aD (aL (Wk (sN (ay (av (au 0) (aD (Wr (aK (au 0) (⟨pz ?_,c⟩)))))))))));unfold eG; rw[a,f_ (show 1<=n by omega),f_ (show n<=1125899906842624 by omega),b]; simp
  rw[S_]at b;refine lU (yE i _) aG (by rw[b]) (av aH (aD (aO (ay (av (au 10) (aD (Wr (sR (aK (au 10) (⟨pz ?_,c⟩))))))))));unfold eG; rw[a,f_ (show 1<=n by omega),f_ (show n<=1125899906842624 by omega),b]; simp
 rw[S_]at a;refine eB (TK x _) aG (by rw[a]) ?_;intro u m;have j:=bH m d;refine av aH (av aH (dB (dB (av aH (av aH (dB (dB (av aH (aD (aO (ay (av (au 1) (aD (Wr (sR (aK (au 1) (⟨pz ?_,j⟩)))))))))))))))));unfold eG; rw[a]; simp
namespace Rt
theorem ES{x:Nat->Int}{i n:Int}(h:eG x i n=0):may x=true/\1<=n/\n<=1125899906842624/\gH i=true:=by
 unfold eG at h;by_cases a:may x=true
 ·by_cases b:1<=n
  ·by_cases c:n<=1125899906842624
   ·rw[a,f_ b,f_ c]at h
    cases h4:gH i
    ·rw[h4]at h; simp at h
    exact⟨a,b,c,rfl⟩
   rw[g_ c]at h; simp at h
  rw[g_ b]at h; simp at h
 rw[show may x=false by simpa using a]at h; simp at h
theorem Kl{x:Nat->Int}{i n b:Int}{off:Nat}(h : ¬ eG x i n=0):bU x n (gH i) b off=(zero,eG x i n):=by
 unfold eG at *;unfold bU;by_cases a:(may x&&decide (1<=n)&&decide (n<=1125899906842624))=true
 ·simp only[d_ a]at *
  cases h4:gH i
  ·simp
  simp[h4]at h
 simp only[b_ a]at *
theorem BK{x:Nat->Int}{n a:Int}{is:Bool}{off:Nat}(h1:may x=true)(b:1<=n)(c:n<=1125899906842624)(d:is=true) :
 bU x n is a off=if a=0 then(if x off+n<=1125899906842624 then(upd x off (x off+n),0)else(zero,6))else(zero,a):=by
 unfold bU; rw[h1,f_ b,f_ c,d]; simp
theorem zT{x:Nat->Int}{n a:Int}{is:Bool}{off:Nat}(h1:may x=true)(b:1<=n)(c:n<=1125899906842624)(d:is=true)(e:a=0)(f:x off+n<=1125899906842624):bU x n is a off=(upd x off (x off+n),0):=by
 rw[BK h1 b c d,d_ e,d_ f]
theorem CF{x:Nat->Int}{n a:Int}{is:Bool}{off:Nat}(h1:may x=true)(b:1<=n)(c:n<=1125899906842624)(d:is=true)(e:a=0)(f : ¬ x off+n<=1125899906842624):bU x n is a off=(zero,6):=by
 rw[BK h1 b c d,d_ e,b_ f]
theorem wC{x:Nat->Int}{n a e:Int}{is:Bool}{off:Nat}(h1:may x=true)(b:1<=n)(c:n<=1125899906842624)(d:is=true)(f:a=e)(g:e≠0):bU x n is a off=(zero,e):=by
 rw[BK h1 b c d,f,b_ g]
theorem PU{x:Nat->Int}{n a:Int}{off:Nat}(h1:may x=true)(b:1<=n)(c:n<=1125899906842624):bU x n false a off=(zero,10):=by
 unfold bU; rw[h1,f_ b,f_ c]; simp
theorem pl(k:Nat):((k:Int)+1).toNat-1=k:=by omega
theorem PV{x:Nat->Int}{i j n:Int}(h : ¬ eG x i n=0):dn x i j n=(zero,eG x i n):=by
 unfold dn;unfold eG at *;unfold bU;by_cases a:(may x&&decide (1<=n)&&decide (n<=1125899906842624))=true
 ·simp only[d_ a]at *
  cases h4:gH i
  ·simp
  simp[h4]at h
 simp only[b_ a]at *
theorem Km(k q:Nat):kN ((k:Int)+1) ((q:Int)+1)=6*k+q+18:=by unfold kN; omega
theorem TM{x:Nat->Int}{k:Nat}(a:may x=true)(b:k<6):x (k+6)<=1125899906842624:=(iw a (k+6) (by omega)).2
end Rt
set_option maxRecDepth 10000 in
theorem Xn(x:Nat->Int)(i n:Int)(w:World) :
 Calls Tryz.prog 109 #[.agg (aC 54 (rv .i64 x)),au i,au n] w fun e w'=>e = .returned (.tuple #[.agg (aC 54 (rv .i64 (bC x i n).1)),au (bC x i n).2])/\Below w.heap.size w w':=by
 refine Kent Tryz.func109 42 ?_;refine ay<|rU fun b w1 Q p s1 z1 => ?_;have u:=bH s1.old (Below.refl w.heap.size w);have uG:=iE Q;have wO:=p.lt;refine xg 54 (rv .i64 (fun _=>0)) fun l w2 z B s2 z2 => ?_;have⟨C,K⟩:=fC s2.old p u;have sG:=jI z u.size;have NI:=cO z p.lt;have Bg:=B.lt;refine av (au 0)<|aD<|ay<|Lv (.agg (aC 54 (rv .i64 x))) (gI C.aI 0)<|av (au i)<|av (au n)<|eB (ER x i n _) _ rfl ?_;intro w3 S;have⟨q,D,m⟩:=ku S C B K;refine av (au (eG x i n))<|aD<|Ws<|ay<|av (au (eG x i n)) ?_;by_cases j:(eG x i n)=0
 ·refine Lv aG (kr j)<|aD<|aL<|Wk<|sN<|Ws<|Ws ?_;obtain⟨a,s,t,h⟩:=ES j;have J:=iw a;obtain⟨k,o,R,_⟩:=oP h;subst R;refine Wl<|av (au n)<|Lv (.agg (aC 54 (rv .i64 x))) (gI q.aI 0)<|av (au ((k:Int)+1))<|eB (EO x k _ (by omega) (iw a)) _ rfl ?_;intro w4 T;have⟨g,r,d⟩:=ku T q D m;by_cases f:(L x k)<n
  ·refine Lv aH (mK f)<|aD<|aO<|ay<|av (.agg (aC 54 (rv .i64 (fun _=>0))))<|fH r 0 fun w5 m8 E z3 => ?_;have m9:aS w5 l 54 (rv .i64 (fun _=>0)) 59:=aW m8;have m10:=g.cZ E (by omega);have M:=E.below d d.size (by omega);refine av (au 11) (aD (Wr (sR (⟨.tuple #[.agg (aC 54 (rv .i64 (fun _=>0))),au 11],gQ Tryz.results109 ⟨_,rfl,aY m9.aI (by kernel_rfl) (by kernel_rfl)⟩ (by exact rfl),?_⟩))));refine⟨?_,M⟩;have c:bC x ((k:Int)+1) n=(zero,11):=by
    unfold bC qA;rw[nL a k o,f_ f];exact wC a s t h rfl (by decide)
   rw[c]
   all_goals rfl
  refine Lv aG (mM f)<|aD<|aL<|Wk<|sN<|Ws<|Ws ?_;have q1:=J (k+6);refine Wl<|av (au ((k:Int)+1))<|Lv (au k) gu<|av (pf b 6)<|Lv (pf b (k+6)) (jE 6 1)<|Lv (au (x (k+6))) (aN g.aI (k+6))<|av (au n)<|Lv (au ((x (k+6))+n)) eY ?_;by_cases y:1125899906842624<((x (k+6))+n)
  ·refine Lv aH (mK y)<|aD<|aO<|ay<|av (.agg (aC 54 (rv .i64 (fun _=>0))))<|fH r 0 fun w6 U F z4 => ?_;have V:aS w6 l 54 (rv .i64 (fun _=>0)) 59:=aW U;have m13:=g.cZ F (by omega);have N:=F.below d d.size (by omega);refine av (au 6) (aD (Wr (sR (⟨.tuple #[.agg (aC 54 (rv .i64 (fun _=>0))),au 6],gQ Tryz.results109 ⟨_,rfl,aY V.aI (by kernel_rfl) (by kernel_rfl)⟩ (by exact rfl),?_⟩))));refine⟨?_,N⟩;have c:bC x ((k:Int)+1) n=(zero,6):=by
    unfold bC qA;rw[nL a k o,g_ f,pl,Nat.add_comm 6 k];exact CF a s t h rfl (by omega)
   rw[c]
   all_goals rfl
  refine Lv aG (mM y)<|aD<|aL<|Wk<|sN<|ay<|av (au ((k:Int)+1))<|Lv (au k) gu<|av (pf b 6)<|Lv (pf b (k+6)) (jE 6 1)<|Lv (au (x (k+6))) (aN g.aI (k+6))<|av (au n)<|Lv (au ((x (k+6))+n)) eY<|av (pf b 6)<|Lv (pf b (k+6)) (jE 6 1)<|jm g (k+6) (au ((x (k+6))+n)) fun w7 W G z5 => ?_;have A:aS w7 b 54 (rv .i64 (upd x (k+6) ((x (k+6))+n))) 59:=W.to (Fx.yj _ _ _ _);have X:=r.cZ G (by omega);have v:=G.below d d.size (by omega);refine aD<|ay<|Lv (.agg (aC 54 (rv .i64 (upd x (k+6) ((x (k+6))+n))))) (gI A.aI 0)<|fH X 0 fun w8 Y H z6 => ?_;have Z:aS w8 l 54 (rv .i64 (upd x (k+6) ((x (k+6))+n))) 59:=aW Y;have m19:=A.cZ H (by omega);have O:=H.below v v.size (by omega);refine av (au 0) (aD (Wr (⟨.tuple #[.agg (aC 54 (rv .i64 (upd x (k+6) ((x (k+6))+n)))),au 0],gQ Tryz.results109 ⟨_,rfl,aY Z.aI (by kernel_rfl) (by kernel_rfl)⟩ (by exact rfl),?_⟩)));refine⟨?_,O⟩;have c:bC x ((k:Int)+1) n=(upd x (k+6) (x (k+6)+n),0):=by
   unfold bC qA;rw[nL a k o,g_ f,pl,Nat.add_comm 6 k];exact zT a s t h rfl (by omega)
  rw[c]
  all_goals rfl
 refine Lv aH (nE j)<|aD<|aO<|ay<|av (.agg (aC 54 (rv .i64 (fun _=>0))))<|av (au (eG x i n))<|fH D 0 fun w9 aa I z7 => ?_;have ab:aS w9 l 54 (rv .i64 (fun _=>0)) 59:=aW aa;have m22:=q.cZ I (by omega);have P:=I.below m m.size (by omega);refine av (au (eG x i n)) (aD (Wr (sR (⟨.tuple #[.agg (aC 54 (rv .i64 (fun _=>0))),au (eG x i n)],gQ Tryz.results109 ⟨_,rfl,aY ab.aI (by kernel_rfl) (by kernel_rfl)⟩ (by exact rfl),?_⟩))));refine⟨?_,P⟩;have c:bC x i n=(zero,eG x i n):=by
  exact Kl j
 rw[c]
 all_goals rfl
set_option maxRecDepth 10000 in
theorem Xo(x:Nat->Int)(i n:Int)(w:World) :
 Calls Tryz.prog 111 #[.agg (aC 54 (rv .i64 x)),au i,au n] w fun e w'=>e = .returned (.tuple #[.agg (aC 54 (rv .i64 (bG x i n).1)),au (bG x i n).2])/\Below w.heap.size w w':=by
 refine Kent Tryz.func111 41 ?_;refine ay<|rU fun c w1 T t s1 z1 => ?_;have y:=bH s1.old (Below.refl w.heap.size w);have uG:=iE T;have wO:=t.lt;refine xg 54 (rv .i64 (fun _=>0)) fun s w2 D H s2 z2 => ?_;have⟨I,P⟩:=fC s2.old t y;have sG:=jI D y.size;have NI:=cO D t.lt;have Bg:=H.lt;refine av (au 0)<|aD<|ay<|Lv (.agg (aC 54 (rv .i64 x))) (gI I.aI 0)<|av (au i)<|av (au n)<|eB (ER x i n _) _ rfl ?_;intro d V;have⟨g,u,l⟩:=ku V I H P;refine av (au (eG x i n))<|aD<|Ws<|ay<|av (au (eG x i n)) ?_;by_cases m:(eG x i n)=0
 ·refine Lv aG (kr m)<|aD<|aL<|Wk<|sN<|Ws<|Ws ?_;obtain⟨j,J,K,p⟩:=ES m;have v:=iw j;obtain⟨k,W,U,_⟩:=oP p;subst U;have q1:=v (k+6);have q2:=v (k+12);refine xL<|aT (au n)<|aT (au ((k:Int)+1))<|Qv (au k) (fun a b=>gu)<|aT (pf c 6)<|Qv (pf c (k+6)) (fun a b=>jE 6 1)<|Qv (au (x (k+6))) (fun a b=>aN (g.aI.dr b) (k+6))<|aT (au ((k:Int)+1))<|Qv (au k) (fun a b=>gu)<|aT (pf c 12)<|Qv (pf c (k+12)) (fun a b=>jE 6 1)<|Qv (au (x (k+12))) (fun a b=>aN (g.aI.dr b) (k+12))<|Qv (au ((x (k+6))-(x (k+12)))) (fun a b=>gu) ?_;by_cases o:((x (k+6))-(x (k+12)))<n
  ·refine Qv aH (fun a b=>mK o)<|Qn ?_;rintro _ ⟨h,rfl⟩;obtain⟨Cw,q⟩ : ∃ a,a=World.drewN d h:=⟨_,rfl⟩;rw[<- q];have s4:Stp d.heap.size d Cw:=(by rw[q]; exact Sb (jl d h));have⟨m6,m7,z⟩:=ku s4.old g u l;clear q;refine sN<|aO<|ay<|av (.agg (aC 54 (rv .i64 (fun _=>0))))<|fH m7 0 fun w4 m8 L z3 => ?_;have m9:aS w4 s 54 (rv .i64 (fun _=>0)) 59:=aW m8;have m10:=m6.cZ L (by omega);have Q:=L.below z z.size (by omega);refine av (au 12) (aD (Wr (sR (⟨.tuple #[.agg (aC 54 (rv .i64 (fun _=>0))),au 12],gQ Tryz.results111 ⟨_,rfl,aY m9.aI (by kernel_rfl) (by kernel_rfl)⟩ (by exact rfl),?_⟩))));refine⟨?_,Q⟩;have f:bG x ((k:Int)+1) n=(zero,12):=by
    unfold bG qB C F;rw[pl,Nat.add_comm 6 k,Nat.add_comm 12 k,f_ o];exact wC j J K p rfl (by decide)
   rw[f]
   all_goals rfl
  refine Qv aG (fun a b=>mM o)<|Qn ?_;rintro _ ⟨h,rfl⟩;obtain⟨wq2,r⟩ : ∃ a,a=World.drewN d h:=⟨_,rfl⟩;rw[<- r];have s6:Stp d.heap.size d wq2:=by rw[r]; exact Sb (jl d h)
  have⟨E,X,A⟩:=ku s6.old g u l;clear r;refine sN<|aL<|Wk<|sN<|ay<|av (au ((k:Int)+1))<|Lv (au k) gu<|av (pf c 12)<|Lv (pf c (k+12)) (jE 6 1)<|Lv (au (x (k+12))) (aN E.aI (k+12))<|av (au n)<|Lv (au ((x (k+12))+n)) eY<|av (pf c 12)<|Lv (pf c (k+12)) (jE 6 1)<|jm E (k+12) (au ((x (k+12))+n)) fun w5 Y M z4 => ?_;have G:aS w5 c 54 (rv .i64 (upd x (k+12) ((x (k+12))+n))) 59:=Y.to (Fx.yj _ _ _ _);have Z:=X.cZ M (by omega);have B:=M.below A A.size (by omega);refine aD<|ay<|Lv (.agg (aC 54 (rv .i64 (upd x (k+12) ((x (k+12))+n))))) (gI G.aI 0)<|fH Z 0 fun w6 aa N z5 => ?_;have ab:aS w6 s 54 (rv .i64 (upd x (k+12) ((x (k+12))+n))) 59:=aW aa;have m18:=G.cZ N (by omega);have R:=N.below B B.size (by omega);refine av (au 0) (aD (Wr (⟨.tuple #[.agg (aC 54 (rv .i64 (upd x (k+12) ((x (k+12))+n)))),au 0],gQ Tryz.results111 ⟨_,rfl,aY ab.aI (by kernel_rfl) (by kernel_rfl)⟩ (by exact rfl),?_⟩)));refine⟨?_,R⟩;have f:bG x ((k:Int)+1) n=(upd x (k+12) (x (k+12)+n),0):=by
   unfold bG qB C F;rw[pl,Nat.add_comm 6 k,Nat.add_comm 12 k,g_ o];exact zT j J K p rfl (by have:=TM j W; omega)
  rw[f]
  all_goals rfl
 refine Lv aH (nE m)<|aD<|aO<|ay<|av (.agg (aC 54 (rv .i64 (fun _=>0))))<|av (au (eG x i n))<|fH u 0 fun w7 ac O z6 => ?_;have ad:aS w7 s 54 (rv .i64 (fun _=>0)) 59:=aW ac;have m21:=g.cZ O (by omega);have S:=O.below l l.size (by omega);refine av (au (eG x i n)) (aD (Wr (sR (⟨.tuple #[.agg (aC 54 (rv .i64 (fun _=>0))),au (eG x i n)],gQ Tryz.results111 ⟨_,rfl,aY ad.aI (by kernel_rfl) (by kernel_rfl)⟩ (by exact rfl),?_⟩))));refine⟨?_,S⟩;have f:bG x i n=(zero,eG x i n):=by
  exact Kl m
 rw[f]
 all_goals rfl
set_option maxRecDepth 10000 in
theorem Xp(x:Nat->Int)(i j n:Int)(w:World) :
 Calls Tryz.prog 81 #[.agg (aC 54 (rv .i64 x)),au i,au j,au n] w fun e w'=>e = .returned (.tuple #[.agg (aC 54 (rv .i64 (dn x i j n).1)),au (dn x i j n).2])/\Below w.heap.size w w':=by
 refine Kent Tryz.func81 59 ?_;refine ay<|rU fun c w1 aa z s1 z1 => ?_;have B:=bH s1.old (Below.refl w.heap.size w);have uG:=iE aa;have wO:=z.lt;refine xg 54 (rv .i64 (fun _=>0)) fun h w2 F H s2 z2 => ?_;have⟨J,W⟩:=fC s2.old z B;have sG:=jI F B.size;have NI:=cO F z.lt;have Bg:=H.lt;refine av (au 0)<|aD<|ay<|Lv (.agg (aC 54 (rv .i64 x))) (gI J.aI 0)<|av (au i)<|av (au n)<|eB (ER x i n _) _ rfl ?_;intro w3 hb1;have⟨p,u,f⟩:=ku hb1 J H W;refine av (au (eG x i n))<|aD<|Ws<|ay<|av (au (eG x i n)) ?_;by_cases t:(eG x i n)=0
 ·refine Lv aG (kr t)<|aD<|aL<|Wk<|sN<|Ws<|Ws ?_;obtain⟨b,r,s,l⟩:=ES t;have S:=iw b;obtain⟨k,y,ei,_⟩:=oP l;subst ei;refine Wl<|av (au j) ?_;by_cases d:(gH j)=true
  ·refine lU (yE j _) aH (by rw[d])<|av aG<|aD<|aL<|Wk<|sN<|Ws<|Ws ?_;obtain⟨q,hq,ej,_⟩:=oP d;subst ej;refine Wl<|av (au ((k:Int)+1))<|av (au ((q:Int)+1)) ?_;by_cases g:((k:Int)+1)=((q:Int)+1)
   ·refine Lv aH (eZ g)<|aD<|aO<|ay<|av (.agg (aC 54 (rv .i64 (fun _=>0))))<|fH u 0 fun w4 m6 O z3 => ?_;have m7:aS w4 h 54 (rv .i64 (fun _=>0)) 59:=aW m6;have m8:=p.cZ O (by omega);have X:=O.below f f.size (by omega);refine av (au 1) (aD (Wr (sR (⟨.tuple #[.agg (aC 54 (rv .i64 (fun _=>0))),au 1],gQ Tryz.results81 ⟨_,rfl,aY m7.aI (by kernel_rfl) (by kernel_rfl)⟩ (by exact rfl),?_⟩))));refine⟨?_,X⟩;have a:dn x ((k:Int)+1) ((q:Int)+1) n=(zero,1):=by
     unfold dn nK;rw[d_ g];exact wC b r s (by rw[l,d]; rfl) rfl (by decide)
    rw[a]
    all_goals rfl
   refine Lv aG (fM g)<|aD<|aL<|Wk<|sN<|Ws<|ay<|av (au n)<|Lv (.agg (aC 54 (rv .i64 x))) (gI p.aI 0)<|av (au ((k:Int)+1))<|eB (EO x k _ (by omega) (iw b)) _ rfl ?_;intro w5 hb2;have⟨v,A,m⟩:=ku hb2 p u f;by_cases o:(L x k)<n
   ·refine Lv aH (mK o)<|aD<|aO<|ay<|av (.agg (aC 54 (rv .i64 (fun _=>0))))<|fH A 0 fun w6 m11 P z4 => ?_;have m12:aS w6 h 54 (rv .i64 (fun _=>0)) 59:=aW m11;have m13:=v.cZ P (by omega);have Y:=P.below m m.size (by omega);refine av (au 11) (aD (Wr (sR (⟨.tuple #[.agg (aC 54 (rv .i64 (fun _=>0))),au 11],gQ Tryz.results81 ⟨_,rfl,aY m12.aI (by kernel_rfl) (by kernel_rfl)⟩ (by exact rfl),?_⟩))));refine⟨?_,Y⟩;have a:dn x ((k:Int)+1) ((q:Int)+1) n=(zero,11):=by
     unfold dn nK;rw[b_ g,nL b k y,f_ o];exact wC b r s (by rw[l,d]; rfl) rfl (by decide)
    rw[a]
    all_goals rfl
   refine Lv aG (mM o)<|aD<|aL<|Wk<|sN<|Ws<|Ws ?_;have q1:=S (6*k+q+18);refine Wl<|av (au ((k:Int)+1))<|Lv (au k) gu<|av (au ((q:Int)+1))<|Lv (au q) gu<|av (pf c 18)<|Lv (pf c (6*k+18)) (jE 6 6)<|Lv (pf c (6*k+q+18)) (jE 6 1)<|Lv (au (x (6*k+q+18))) (aN v.aI (6*k+q+18))<|av (au n)<|Lv (au ((x (6*k+q+18))+n)) eY ?_;by_cases E:1125899906842624<((x (6*k+q+18))+n)
   ·refine Lv aH (mK E)<|aD<|aO<|ay<|av (.agg (aC 54 (rv .i64 (fun _=>0))))<|fH A 0 fun w7 m14 Q z5 => ?_;have m15:aS w7 h 54 (rv .i64 (fun _=>0)) 59:=aW m14;have m16:=v.cZ Q (by omega);have Z:=Q.below m m.size (by omega);refine av (au 6) (aD (Wr (sR (⟨.tuple #[.agg (aC 54 (rv .i64 (fun _=>0))),au 6],gQ Tryz.results81 ⟨_,rfl,aY m15.aI (by kernel_rfl) (by kernel_rfl)⟩ (by exact rfl),?_⟩))));refine⟨?_,Z⟩;have a:dn x ((k:Int)+1) ((q:Int)+1) n=(zero,6):=by
     unfold dn nK;rw[b_ g,nL b k y,g_ o,Km];exact CF b r s (by rw[l,d]; rfl) rfl (by omega)
    rw[a]
    all_goals rfl
   refine Lv aG (mM E)<|aD<|aL<|Wk<|sN<|Ws ?_;refine Wt 13 (by kernel_rfl) (by kernel_rfl) fun qI dY iF => ?_;have⟨G,m18,C⟩:=ku dY v A m;refine Ei (au ((k:Int)+1))<|qo (au k) gu<|Ei (au ((q:Int)+1))<|qo (au q) gu<|Ei (pf c 18)<|qo (pf c (6*k+18)) (jE 6 6)<|qo (pf c (6*k+q+18)) (jE 6 1)<|qo (au (x (6*k+q+18))) (aN G.aI (6*k+q+18))<|Ei (au n)<|qo (au ((x (6*k+q+18))+n)) eY<|Ei (pf c 18)<|qo (pf c (6*k+18)) (jE 6 6)<|qo (pf c (6*k+q+18)) (jE 6 1)<|Fx.St.nil ?_;refine jm G (6*k+q+18) (au ((x (6*k+q+18))+n)) fun w8 m19 R z6 => ?_;have I:aS w8 c 54 (rv .i64 (upd x (6*k+q+18) ((x (6*k+q+18))+n))) 59:=m19.to (Fx.yj _ _ _ _);have m21:=m18.cZ R (by omega);have D:=R.below C C.size (by omega);refine aD<|ay<|Lv (.agg (aC 54 (rv .i64 (upd x (6*k+q+18) ((x (6*k+q+18))+n))))) (gI I.aI 0)<|fH m21 0 fun w9 m22 K z7 => ?_;have m23:aS w9 h 54 (rv .i64 (upd x (6*k+q+18) ((x (6*k+q+18))+n))) 59:=aW m22;have m24:=I.cZ K (by omega);have T:=K.below D D.size (by omega);refine av (au 0) (aD (Wr (⟨.tuple #[.agg (aC 54 (rv .i64 (upd x (6*k+q+18) ((x (6*k+q+18))+n)))),au 0],gQ Tryz.results81 ⟨_,rfl,aY m23.aI (by kernel_rfl) (by kernel_rfl)⟩ (by exact rfl),?_⟩)));refine⟨?_,T⟩;have a:dn x ((k:Int)+1) ((q:Int)+1) n=(upd x (6*k+q+18) (x (6*k+q+18)+n),0):=by
    unfold dn nK;rw[b_ g,nL b k y,g_ o,Km];exact zT b r s (by rw[l,d]; rfl) rfl (by omega)
   rw[a]
   all_goals rfl
  rw[S_]at d;refine lU (yE j _) aG (by rw[d])<|av aH<|aD<|aO<|ay<|av (.agg (aC 54 (rv .i64 (fun _=>0))))<|fH u 0 fun sQ ni M z8 => ?_;have nZ:aS sQ h 54 (rv .i64 (fun _=>0)) 59:=aW ni;have oz:=p.cZ M (by omega);have U:=M.below f f.size (by omega);refine av (au 10) (aD (Wr (sR (⟨.tuple #[.agg (aC 54 (rv .i64 (fun _=>0))),au 10],gQ Tryz.results81 ⟨_,rfl,aY nZ.aI (by kernel_rfl) (by kernel_rfl)⟩ (by exact rfl),?_⟩))));refine⟨?_,U⟩;have a:dn x ((k:Int)+1) j n=(zero,10):=by
   unfold dn;rw[d,H_];exact PU b r s
  rw[a]
  all_goals rfl
 refine Lv aH (nE t)<|aD<|aO<|ay<|av (.agg (aC 54 (rv .i64 (fun _=>0))))<|av (au (eG x i n))<|fH u 0 fun FP og N z9 => ?_;have oC:aS FP h 54 (rv .i64 (fun _=>0)) 59:=aW og;have pE:=p.cZ N (by omega);have V:=N.below f f.size (by omega);refine av (au (eG x i n)) (aD (Wr (sR (⟨.tuple #[.agg (aC 54 (rv .i64 (fun _=>0))),au (eG x i n)],gQ Tryz.results81 ⟨_,rfl,aY oC.aI (by kernel_rfl) (by kernel_rfl)⟩ (by exact rfl),?_⟩))));refine⟨?_,V⟩;have a:dn x i j n=(zero,eG x i n):=by
  exact PV t
 rw[a]
 all_goals rfl
namespace Rt
theorem DV{m:kX}{x:Int}(h:0<=m.node x) : ∃ q:Nat,q<m.s.nn/\gU (fun i=>decide (m.id i=x)) m.s.nn=(q:Int)/\m.id q=x:=by
 rcases jJ (fun i=>decide (m.id i=x)) m.s.nn with ⟨q,b,e,a⟩|⟨e,_⟩
 ·exact⟨q,b,e,h_ a⟩
 unfold kX.node at h; omega
theorem N8{n:Nat}{x:Nat->Int}{r:Int} : ∀ j,j<(n+1)*1->iB (rv .u64 x) (n*1) (bI (fun j=>rv .u64 (fun _=>0) (j % 1)) (0*1) 1 (fun _=>aF r)) j=rv .u64 (aJ x n r) j:=by
 intro j a;unfold iB rv aJ;by_cases h:j<n*1
 ·rw[d_ h,b_ (by omega)]
 rw[b_ h,d_ (by omega)];unfold bI;rw[d_ (by omega)]
theorem Kn{P:Nat->Bool}{n k j:Nat}(e:k=j+1)(h : ∀ i,k<=i->i<n->P i=true)(c:P j=true) : ∀ i,j<=i->i<n->P i=true:=fun i d b=>by
 by_cases a:i=j
 ·subst a; exact c
 ·exact h i (by omega) b
end Rt
theorem AO(m:kX)(p a:Nat)(o r:Int)(w:World)(h:Cx w p m)(ha:a<6)(b:o=(a:Int)+1) :
 Calls Tryz.prog 108 #[(pt p),au o,aF r] w fun e w'=>e = .returned (.bool (decide (0<=m.kQ a r)))/\Below w.heap.size w w':=by
 subst b; exact Xc m p a r w h ha
set_option maxRecDepth 20000 in
set_option maxHeartbeats 2000000 in
theorem Xq(m:kX)(B p a D:Nat)(v:EvM)(w:World)(O:vF w B p m)(G:B<=w.heap.size)(ha:a<6)(ho:v.o=(a:Int)+1)(bgg:m.s.gn<=900000)(Zw : ∀ i,i<6->m.rn i<=900000)(hTN : ∀ x,m.node x=bE m.t m.tn x)(hD:bE m.t m.tn (bA m.t m.tn D v.node)<0)(hD2:D<=1000) :
 Calls Tryz.prog 79 #[(pt p),.agg (aC 14 (bS v))] w fun e w'=>e = .returned (au (iQ m.core v))/\Below B w w'/\(iQ m.core v=0 -> ∃ m',m'.core=lN m.core v/\vF w' B p m'):=by
 have Tm:=O.c;have hLn:=O.n;have hLg:=O.g;have Tn:=O.tc;have Tp:=O.t;have hLr:=O.r;have Tq:=O.pB;have Dp:=O.tB;have bn:=O.bn;have bg:=O.bg;have bt:=O.bt;have lpp:p<w.heap.size:=Tm.lt;have QD:m.tb<w.heap.size:=Tn.lt;refine Kent Tryz.func79 188 ?_;refine ay<|rU fun I w1 mD m1 s1 z1 => ?_;have⟨m2,m3,m4,m5,m6,m7⟩:=uy s1.old Tm hLn hLg Tn Tp hLr;have b1:=eH s1.old (Below.refl B w) G;have uG:=jI mD (Below.refl B w).size;have⟨nI,wY⟩:=xM mD Tm.lt Tn.lt;have wO:=m1.lt;refine av (au 0)<|aD<|Ws<|ay<|av (pt p)<|av (pt I)<|Lv (au v.o) (aN m1.aI 0)<|av (pf I 12)<|Lv (aF v.req) (aN m1.aI 12) ?_;have Mv:Cx w1 p m := { c:=m2.aI,an:=m3.arr,ag:=m4.arr,tc:=m5.aI,at2:=m6.arr,ar:=fun i N=>(m7.1 i N).arr,bn:=(by show m.s.nn<=1000000; omega),bg:=bg,bt:=(by show m.tn<=1000000; omega),br:=O.br };by_cases c17:(decide (0<=m.kQ a v.req))=true
 ·refine eB (AO m p a v.o v.req _ Mv ha ho) aH (by rw[c17]) ?_;intro w2 hb1;have b2:=eH hb1 b1 G;refine aD<|aO<|ay<|av (au 14)<|aD<|Wr<|sR<|aK (au 14) ?_;have eN:aP v=a:=by unfold aP; omega
  have Y:iQ m.core v=14:=by unfold iQ; rw[eN]; exact d_ (h_ c17)
  exact⟨pz Y.symm,b2,fun h0=>by rw[Y]at h0; cases h0⟩
 rw[S_]at c17;refine eB (AO m p a v.o v.req _ Mv ha ho) aG (by rw[c17]) ?_;intro w3 hb2;have⟨m15,m16,m17,m18,m19,m20,m21⟩:=jo hb2 m2 m3 m4 m5 m6 m7 m1;have b3:=eH hb2 b1 G;refine aD<|aL<|Wk<|sN<|Ws ?_;refine jS [0,1,2,4,3,5,6,7] [0,0,0,4,0,4,3,0] [(6,3,[3]),(6,5,[5]),(7,6,[6])] fun qI dY iF => ?_;have⟨m22,m23,m24,ni,nZ,oz,og⟩:=jo dY m15 m16 m17 m18 m19 m20 m21;have b4:=eH dY b3 G;refine bf (pt p)<|bf (pt p)<|bf (pf p 20)<|bf (pf I 9)<|Rs (pt m.tb) (aN m22.aI 20) ?_;refine Rs (aF v.node) (aN og.aI 9) ?_;refine gF<|lS (IB m.tb m.ta m.tn m.tc m.t v.node D _ (tC ni nZ bt) hD hD2) ?_;rintro e w4 ⟨K,vv,he,hown,rA,hK1,hb3⟩;obtain⟨a1,C,rfl⟩:=hown.val;refine⟨.slice a1 K C,he,?_⟩;clear he;have VY:K=bT m.t m.tn v.node:=uV rA hK1 hD hD2;have hKD:K<=1000:=by rw[VY]; exact DU _ _
 have⟨oC,pE,mE,m32,qh,oN,pW⟩:=jo hb3 m22 m23 m24 ni nZ oz og;have b5:=eH hb3 b4 G;refine Ln<|bf (.slice a1 (K) (C))<|bR<|Ws<|ay<|av (.slice a1 (K) (C))<|av (au K) ?_;by_cases c27:(K:Int)=0
 ·refine Lv aH (eZ c27)<|aD<|aO<|ay<|av (au 9)<|aD<|Wr<|sR<|aK (au 9) ?_;have eN:aP v=a:=by unfold aP; omega
  have ne1 : ¬ 0<=m.core.kQ (aP v) v.req:=by rw[eN]; exact j_ c17
  have Y:iQ m.core v=9:=by unfold iQ; rw[b_ ne1]; exact d_ (VY.symm.trans (by omega))
  exact⟨pz Y.symm,b5,fun h0=>by rw[Y]at h0; cases h0⟩
 refine Lv aG (fM c27)<|aD<|aL<|Wk<|sN<|Ws<|ay<|av (au 0)<|aD<|Wb<|Wo (fun f H => ∃ k:Nat,∃ Rk:Nat->Nat->Int,k<=K/\dw (fun x=>bC x v.o v.aU) (nX m.core v.node) m.R k=(Rk,0)/\f 0=(pt p)/\f 3=(pt I)/\f 5 = .slice a1 (K) (C)/\f 6=au (k:Int)/\aS H p 27 (mF m) 71/\Fx.Own H B 66 5 (.slice m.s.ga (m.s.gn) (m.s.gc)) m.s.gn (Iy m)/\aS H m.tb 1 (fun _ => .slice m.ta m.tn m.tc) 123/\Fx.Own H B 128 2 (.slice m.ta (m.tn) (m.tc)) m.tn (Px m.t)/\wz H B 6 m/\aS H I 14 (bS v) 32/\Fx.Own H qI.heap.size 28 1 (.slice a1 (K) (C)) K (rv .u64 (fun i=>bA m.t m.tn i v.node))/\Fx.Own H B 61 56 (.slice m.s.na (m.s.nn) (m.s.nc)) m.s.nn (flat 56 (fun l=>lY (m.id l) (m.par l) (Rk l)))/\Below B w H) (fun f _=>(K-(intOf (f 6)).toNat)) ⟨0,m.R,by omega,rfl,(by rfl),(by rfl),(by rfl),Fx.ic,oC,mE,m32,qh,oN,pW,hown,pE,b5⟩ ?_;rintro f1 w5 ⟨k,Rk,hk,hRk,h1,Q,h3,h4,qx,rW,qy,pF,sj,nk,mV,nu,b6⟩;refine Ws<|ay<|aX h4<|aX h3<|av (au K) ?_;by_cases c31:(k:Int)<(K:Int)
 ·refine Lv aH (gV c31)<|aD<|aO<|Wk<|sN<|Ws<|Wb<|Ws ?_;obtain⟨q,hq,eq0,_⟩:=DV (m:=m) (x:=bA m.t m.tn k v.node) (by rw[hTN]; exact rA k (by omega));have ex1:nX m.core v.node k=q:=by show(gU (fun i=>decide (m.id i=bA m.t m.tn k v.node)) m.s.nn).toNat=q; rw[eq0]; rfl
  refine Wl<|aX h1<|aX h3<|aX h4 ?_;obtain⟨EC,eq1⟩:=mV.addr (by omega);have rX:Fx.Own w5 qI.heap.size 28 1 (bL EC K C) K (rv .u64 (fun i=>bA m.t m.tn i v.node)):=mV.dL (K_ (fun q=>Value.slice q K C) eq1);refine Lv (pf EC k) (dh 1 (hx:=(rfl.trans (K_ (fun q=>Value.slice q (K) (C)) eq1))))<|Lv (aF (bA m.t m.tn k v.node)) (aN rX.aI k) ?_;have qK:Fx.Own w5 qI.heap.size 28 1 (.slice a1 (K) (C)) K (rv .u64 (fun i=>bA m.t m.tn i v.node)):=rX.dL (K_ (fun q=>Value.slice q K C) eq1.symm);have TN:Cx w5 p { m with R:=Rk } := { c:=qx.aI,an:=nu.arr,ag:=rW.arr,tc:=qy.aI,at2:=pF.arr,ar:=fun i N=>(sj.1 i N).arr,bn:=(by show m.s.nn<=1000000; omega),bg:=bg,bt:=(by show m.tn<=1000000; omega),br:=O.br };refine eB ((Iz { m with R:=Rk } p (bA m.t m.tn k v.node) _ TN).mono (fun e w2 Q=>(⟨Q.1.trans (pz eq0),Q.2⟩:e = .returned (au (q:Int))/\_))) _ rfl ?_;intro w6 hb4;have⟨nU,ru,xq,su,sS,vw,uH,uh⟩:=lu hb4 qx rW qy pF sj nk nu qK;have b7:=eH hb4 b6 G;refine av (au q)<|aD<|Ws ?_;obtain⟨V,DW⟩:=uH.addr (by omega);have uI:Fx.Own w6 B 61 56 (bL V m.s.nn m.s.nc) m.s.nn (flat 56 (fun l=>lY (m.id l) (m.par l) (Rk l))):=uH.dL (K_ (fun q=>Value.slice q m.s.nn m.s.nc) DW);refine qW (T:=59) (T':=59) (a := .tmp 8) (v := .tmp 55) (m:=54) (z:=rv .i64 (fun _=>0)) (y:=rv .i64 ((bC (Rk q) v.o v.aU).1)) (u := .agg (aC 54 (rv .i64 ((bC (Rk q) v.o v.aU).1)))) 17 18 (List.replicate 20 (0,2,[],[])) #[(pt p),(pt p),(pt p),(pf p 18),.slice m.s.na (m.s.nn) (m.s.nc),au (q:Int),(pf V (56*q)),(pf V (56*q+2)),.agg (aC 54 (rv .i64 (Rk q))),(pt I),au v.o,(pf I 11),au v.aU,.tuple #[.agg (aC 54 (rv .i64 ((bC (Rk q) v.o v.aU).1))),au ((bC (Rk q) v.o v.aU).2)],.tuple #[.agg (aC 54 (rv .i64 ((bC (Rk q) v.o v.aU).1))),au ((bC (Rk q) v.o v.aU).2)],.agg (aC 54 (rv .i64 ((bC (Rk q) v.o v.aU).1))),au ((bC (Rk q) v.o v.aU).2),undef,undef,au ((bC (Rk q) v.o v.aU).2)] (by kernel_rfl) (by kernel_rfl) (by kernel_rfl) (by kernel_rfl) (by kernel_rfl) (by kernel_rfl) rfl (by kernel_rfl) rfl rfl (by kernel_rfl) (fun Z=>(show ev _ (.tmp 8)=(pt Z)from by kernel_rfl)) (fun Z=>(show ev _ (.tmp 55) = .agg (aC 54 (rv .i64 ((bC (Rk q) v.o v.aU).1)))from by kernel_rfl)) (bJ _ _) (fun _ _=>rfl) (by kernel_rfl) (fun Z => ?_) ?_
  ·refine⟨?_,?_,?_,?_,?_,?_,?_,?_,?_,?_,?_,?_,?_,?_,?_,?_,?_,?_,?_,?_,trivial⟩
   ·exact .inr (.inr (rZ (pt p) fun d b=>fD rfl ((bY (by kernel_rfl)).trans h1)))
   ·exact .inr (.inr pV)
   ·exact .inr (.inr pV)
   ·exact .inr (.inr pV)
   ·exact .inr (.inr (rZ (.slice m.s.na (m.s.nn) (m.s.nc)) fun d b=>bD (x:=mF m) rfl (show ev _ (.tmp 44)=(pf p 18)from by kernel_rfl) (by kernel_rfl) (nU.aI.below b (by have:=nU.lt; omega)) (i:=18) (by omega) (by omega) rfl))
   ·exact .inr (.inr pV)
   ·exact .inr (.inr (rZ (pf V (56*q)) fun d b=>dS rfl ((show ev _ (.tmp 45) = .slice m.s.na (m.s.nn) (m.s.nc)from by kernel_rfl).trans (K_ (fun q=>Value.slice q (m.s.nn) (m.s.nc)) DW)) (show ev _ (.tmp 46)=au (q:Int)from by kernel_rfl) Tryz.underlying50 (s:=56) (by kernel_rfl) (by omega) (by omega) (by omega)))
   ·exact .inr (.inr pV)
   ·exact .inr (.inr (rZ (.agg (aC 54 (rv .i64 (Rk q)))) fun d b=>eX (x:=flat 56 (fun l=>lY (m.id l) (m.par l) (Rk l))) (y:=rv .i64 (Rk q)) rfl (show ev _ (.tmp 48)=(pf V (56*q+2))from by kernel_rfl) (by kernel_rfl) (by kernel_rfl) (uI.aI.below b (by have:=uI.lt; omega)) (i:=56*q+2) (by omega) (by omega) (fun jq hjq=>(Fx.nA (k:=q) (j:=2+jq) (by omega) (by omega)).trans ((fun jq _=>Iw _ _ _ jq) jq hjq))))
   ·exact .inr (.inr (rZ (pt I) fun d b=>fJ rfl ((bY (by kernel_rfl)).trans Q) Tryz.underlying32 rfl (s:=1) (by kernel_rfl) rfl rfl))
   ·exact .inr (.inr (rZ (au v.o) fun d b=>bD (x:=bS v) rfl (show ev _ (.tmp 50)=(pt I)from by kernel_rfl) (by kernel_rfl) (vw.aI.below b (by have:=vw.lt; omega)) (i:=0) (by omega) (by omega) rfl))
   ·exact .inr (.inr (rZ (pf I 11) fun d b=>fJ rfl ((bY (by kernel_rfl)).trans Q) Tryz.underlying32 rfl (s:=1) (by kernel_rfl) rfl (by show _+11=_; omega)))
   ·exact .inr (.inr (rZ (au v.aU) fun d b=>bD (x:=bS v) rfl (show ev _ (.tmp 52)=(pf I 11)from by kernel_rfl) (by kernel_rfl) (vw.aI.below b (by have:=vw.lt; omega)) (i:=11) (by omega) (by omega) rfl))
   ·exact .inr (.inr (Fx.H9 (v := .tuple #[.agg (aC 54 (rv .i64 ((bC (Rk q) v.o v.aU).1))),au ((bC (Rk q) v.o v.aU).2)]) (by kernel_rfl) (by kernel_rfl) (Fx.qbC (fun d b=>rC (args := [.agg (aC 54 (rv .i64 (Rk q))),au v.o,au v.aU]) rfl (Fx.Nn (show ev _ (.tmp 49) = .agg (aC 54 (rv .i64 (Rk q)))from by kernel_rfl) (show ev _ (.tmp 51)=au v.o from by kernel_rfl) (show ev _ (.tmp 53)=au v.aU from by kernel_rfl)) Tryz.func109 rfl rfl) (fun d b=>(Xn (Rk q) v.o v.aU _).mono fun e v2 h=>⟨h.1,h.2⟩))))
   ·exact .inr (.inr pV)
   ·exact .inr (.inr pV)
   ·exact .inr (.inr pV)
   ·exact .inl rfl
   ·exact .inr (.inl rfl)
   exact .inr (.inr pV)
  rintro Z w7 E A sG wR hb5;have ED:p≠Z:=t_ (n_ (nU.lt) sG);have aku:m.tb≠Z:=t_ (n_ (xq.lt) sG);have abu:I≠Z:=t_ (n_ (vw.lt) sG);have akv:V≠Z:=t_ (n_ (uI.lt) sG);have⟨tL,rY,rz,wS,pG,uJ,nS,sw⟩:=lu hb5 nU ru xq su sS vw uh uI;have b8:=eH hb5 b7 G;have sG:w.heap.size<=Z:=m_ b7.size sG;have Bg:=wR.lt;have q1:E 0=(pt p):=by rw[A]; exact(bY (by kernel_rfl)).trans h1
  have q2:E 3=(pt I):=by rw[A]; exact(bY (by kernel_rfl)).trans Q
  have q3:E 5 = .slice a1 (K) (C):=by rw[A]; exact(bY (by kernel_rfl)).trans h3
  have q4:E 6=au (k:Int):=by rw[A]; exact(bY (by kernel_rfl)).trans h4
  have q5:E 28=au (k:Int):=by rw[A]; kernel_rfl
  have q6:E 29 = .slice a1 (K) (C):=by rw[A]; kernel_rfl
  have q7:E 30=au (K:Int):=by rw[A]; kernel_rfl
  have q8:E 31 = .bool true:=by rw[A]; kernel_rfl
  have q9:E 34=(pt p):=by rw[A]; kernel_rfl
  have q10:E 35 = .slice a1 (K) (C):=by rw[A]; kernel_rfl
  have q11:E 36=au (k:Int):=by rw[A]; kernel_rfl
  have q12:E 37=(pf EC k):=by rw[A]; kernel_rfl
  have q13:E 38=aF (bA m.t m.tn k v.node):=by rw[A]; kernel_rfl
  have q14:E 39=au (q:Int):=by rw[A]; kernel_rfl
  have q15:E 7=au (q:Int):=by rw[A]; kernel_rfl
  have q16:E 41=(pt p):=by rw[A]; kernel_rfl
  have q17:E 42=(pt p):=by rw[A]; kernel_rfl
  have q18:E 43=(pt p):=by rw[A]; kernel_rfl
  have q19:E 44=(pf p 18):=by rw[A]; kernel_rfl
  have q20:E 45 = .slice m.s.na (m.s.nn) (m.s.nc):=by rw[A]; kernel_rfl
  have q21:E 46=au (q:Int):=by rw[A]; kernel_rfl
  have q22:E 47=(pf V (56*q)):=by rw[A]; kernel_rfl
  have q23:E 48=(pf V (56*q+2)):=by rw[A]; kernel_rfl
  have q24:E 49 = .agg (aC 54 (rv .i64 (Rk q))):=by rw[A]; kernel_rfl
  have q25:E 50=(pt I):=by rw[A]; kernel_rfl
  have q26:E 51=au v.o:=by rw[A]; kernel_rfl
  have q27:E 52=(pf I 11):=by rw[A]; kernel_rfl
  have q28:E 53=au v.aU:=by rw[A]; kernel_rfl
  have q29:E 54 = .tuple #[.agg (aC 54 (rv .i64 ((bC (Rk q) v.o v.aU).1))),au ((bC (Rk q) v.o v.aU).2)]:=by rw[A]; kernel_rfl
  have q30:E 40 = .tuple #[.agg (aC 54 (rv .i64 ((bC (Rk q) v.o v.aU).1))),au ((bC (Rk q) v.o v.aU).2)]:=by rw[A]; kernel_rfl
  have q31:E 55 = .agg (aC 54 (rv .i64 ((bC (Rk q) v.o v.aU).1))):=by rw[A]; kernel_rfl
  have q32:E 56=au ((bC (Rk q) v.o v.aU).2):=by rw[A]; kernel_rfl
  have q33:E 8=(pt Z):=by rw[A]; kernel_rfl
  have q34:E 9=au ((bC (Rk q) v.o v.aU).2):=by rw[A]; kernel_rfl
  clear A;refine sN<|Ws<|ay<|aX q34 ?_;by_cases c58:((bC (Rk q) v.o v.aU).2)=0
  ·refine Lv aG (kr c58)<|aD<|aL<|Wk<|sN ?_;refine jS [0,1,2,3,5,4,6,7,8,9] [0,0,0,0,4,0,4,0,0,3] [(9,4,[4]),(9,6,[6])] fun Cu fV nH => ?_;have⟨m64,vV,vE,vW,vX,qz,sD,sU,sF⟩:=Bn fV tL rY rz wS pG uJ nS sw wR;have b9:=eH fV b8 G;refine bW q1<|bf (pt p)<|bf (pt p)<|bf (pf p 18)<|bW q15<|Rs (.slice m.s.na (m.s.nn) (m.s.nc)) (aN m64.aI 18) ?_;refine Rs (.agg (aC 54 (rv .i64 ((bC (Rk q) v.o v.aU).1)))) (gI sF.aI 0 (ha:=q33)) ?_;refine Rp (pf V (56*q)) (fun _=>dh 56 (hx:=(rfl.trans (K_ (fun q=>Value.slice q (m.s.nn) (m.s.nc)) DW))))<|bf (pf V (56*q+2))<|gF<|zI sU (56*q+2) fun w8 sV s9 z2 => ?_;have gK:=gY s9 sU.Jw;have⟨xu,uK,wT,wU,xw,wV,vY⟩:=Rf gK m64 vV vE vW vX qz sD;have b10:=s9.below b9 (m_ G b9.size) sU.blk.1;have wW:Fx.Own w8 B 61 56 (bL V m.s.nn m.s.nc) m.s.nn (flat 56 (fun l=>lY (m.id l) (m.par l) (aJ Rk q ((bC (Rk q) v.o v.aU).1) l))):=sV.congr (fun X W=>(Fx.Bl (k:=q) (j:=2) (by omega) (by omega) X W).trans (bK (fun i N j hj=>BJ i N j hj) X W));refine Ln<|Rn<|bQ<|sN<|Wl<|aX q4<|Lv (au ((k:Int)+1)) eY<|av (au ((k:Int)+1))<|Ln ?_;have yR:Fx.Own w8 B 61 56 (.slice m.s.na (m.s.nn) (m.s.nc)) m.s.nn (flat 56 (fun l=>lY (m.id l) (m.par l) (aJ Rk q ((bC (Rk q) v.o v.aU).1) l))):=wW.dL (K_ (fun q=>Value.slice q m.s.nn m.s.nc) DW.symm);refine gT ⟨k+1,(aJ Rk q (bC (Rk q) v.o v.aU).1),by omega,(EM hRk ex1 (by first|exact c58|exact Classical.not_not.1 c58)),q1,q2,q3,Fx.ic,xu,uK,wT,wU,xw,wV,vY,yR,b10⟩ ?_
   show(K-(intOf (au ((k:Int)+1))).toNat)<_;simp only[h4,intOf]; omega
  refine Lv aH (nE c58)<|aD<|aO<|ay<|aX q34<|av (au ((bC (Rk q) v.o v.aU).2))<|aD<|Wr<|sR<|bM<|sR<|qb<|bM<|sR<|aK (au ((bC (Rk q) v.o v.aU).2)) ?_;have eN:aP v=a:=by unfold aP; omega
  have ne1 : ¬ 0<=m.core.kQ (aP v) v.req:=by rw[eN]; exact j_ c17
  have ne2 : ¬ bT m.core.t m.core.tn v.node=0:=fun e=>c27 (by rw[show K=0 from VY.trans e]; rfl);have ew:mR m.core v=dw (fun x=>bC x v.o v.aU) (nX m.core v.node) m.R K:=by unfold mR; rw[show bT m.core.t m.core.tn v.node=K from VY.symm]; rfl
  have Y:iQ m.core v=(bC (Rk q) v.o v.aU).2:=by
   unfold iQ; rw[b_ ne1,b_ ne2,ew];have e1:=GH hRk ex1 c58;rw[zS (k:=k+1) (by rw[e1]; exact c58) K (by omega)]; exact e1
  exact⟨pz Y.symm,b8,fun h0=>L_ (Y.symm.trans h0) c58⟩
 refine Lv aG (gW c31)<|aD<|aL<|Wx<|cu<|gJ<|cB<|sN<|Ws ?_;have hRK:dw (fun x=>bC x v.o v.aU) (nX m.core v.node) m.R K=(Rk,0):=by rw[show K=k by omega]; exact hRk
 refine Wl<|Lv (pt I) (iV Q 0)<|Lv (au v.o) (aN nk.aI 0)<|Lv (pf I 12) (iV Q 12)<|Lv (aF v.req) (aN nk.aI 12)<|Lv (pf I 9) (iV Q 9)<|Lv (aF v.node) (aN nk.aI 9)<|Lv (pf I 11) (iV Q 11)<|Lv (au v.aU) (aN nk.aI 11)<|av (.agg (aC 5 (bI (bI (bI (bI (fun J=>if J<1 then au 0 else if J<3 then aF 0 else if J<4 then au 0 else aF 0) 0 1 (fun _=>au v.o)) 1 1 (fun _=>aF v.req)) 2 1 (fun _=>aF v.node)) 3 1 (fun _=>au v.aU))))<|xg 5 (fun J=>if J<1 then au 0 else if J<3 then aF 0 else if J<4 then au 0 else aF 0) fun U w9 zN xA s10 z3 => ?_;have⟨zu,zL,zw,yS,yT,zM,Bz⟩:=jo s10.old qx rW qy pF sj nk nu;have b11:=eH s10.old b6 G;have Eo:=jI zN b6.size;have abv:=cO zN qx.lt;have IC:(.slice m.s.ga (m.s.gn) (m.s.gc):Value).ownBlock≠some U:=by rw[zN]; exact rW.jT (z_ _)
 have⟨abw,akx⟩:=xM zN qy.lt nk.lt;have Ma:=xA.lt;refine fH xA 0 (h1:=(bV (bV (bV (bV (fun jq _=>by show((fun J=>if J<1 then au 0 else if J<3 then aF 0 else if J<4 then au 0 else aF 0:Nat->Value) jq).oneCell'=true; simp only[]; repeat (first|rfl|split)) (fun _ _=>rfl)) (fun _ _=>rfl)) (fun _ _=>rfl)) (fun _ _=>rfl))) fun sQ AA s11 z4 => ?_
 have Bh:aS sQ U 5 (bI (bI (bI (bI (fun J=>if J<1 then au 0 else if J<3 then aF 0 else if J<4 then au 0 else aF 0) 0 1 (fun _=>au v.o)) 1 1 (fun _=>aF v.req)) 2 1 (fun _=>aF v.node)) 3 1 (fun _=>au v.aU)) 66:=aW AA;have jV:=gY s11 xA.ty;have yU:=lJ jV zu;have DR:=zL.cZ s11 IC;have⟨CB,DT,EB,tN,tO⟩:=qX jV zw yS yT zM Bz;have b12:=s11.below b11 (m_ G b11.size) (by omega);refine aD<|Ws ?_;have rM:aS sQ U 5 (jf (pY v)) 66:=Bh.congr (fun j hj=>by rcases j with _|_|_|_|_|j <;> first|rfl|omega)
 refine Wl<|aX h1<|av (pt p)<|av (pt p)<|av (pf p 19)<|Lv (.slice m.s.ga (m.s.gn) (m.s.gc)) (aN yU.aI 19)<|av (au m.s.gn)<|av (au m.s.gn)<|aD<|Ws ?_;refine Ap [0,1,2,3,4,5,6,7,8,9,10,11,12] [0,0,0,0,0,1,4,2,2,0,0,0,3] (iP [66]) vO Fx.iP.trans (fG := [(12,5,[5]),(7,6,[6]),(8,6,[7,6]),(12,6,[6]),(8,7,[7]),(9,7,[7]),(10,7,[7]),(11,7,[7]),(12,7,[7]),(9,8,[8]),(10,8,[8]),(11,8,[8]),(12,8,[8])]) (by kernel_rfl) (by kernel_rfl) (by kernel_rfl) (by kernel_rfl) (by kernel_rfl) fun QE lI Av => ?_;have⟨nV,nN,oH,nW,qL,rO,uT,qM⟩:=lu lI yU DR CB DT EB tN tO rM;have b13:=eH lI b12 G;refine bW h1<|bW h1<|bf (pt p)<|bf (pt p)<|bf (pf p 19)<|Rd (v := .slice m.s.ga (m.s.gn) (m.s.gc)) (by rfl) (by rfl) (vO _) (fun d b=>bD (x:=mF m) rfl rfl (by kernel_rfl) (nV.jN b (by decide)).aI (i:=19) (by omega) (by omega) rfl) ?_;refine Rs (.agg (aC 5 (jf (pY v)))) (gI qM.aI 0) ?_;refine Ct<|yN (vs := [(0,.agg (aC 5 (jf (pY v))))]) (s:=5) (zc:=fun J=>if J<1 then au 0 else if J<3 then aF 0 else if J<4 then au 0 else aF 0) (y:=bI (fun j=>(fun J=>if J<1 then au 0 else if J<3 then aF 0 else if J<4 then au 0 else aF 0) (j % 5)) (0*5) 5 (jf (pY v))) (by rfl) rfl rfl Tryz.underlying51 (by kernel_rfl) (by rfl) (by rfl) (by kernel_rfl) (by rw[bF (off:=0*5) (s:=5) (y:=jf (pY v)) rfl (bJ _ _) (by rfl)]; rfl) rfl fun g4 FP LY tQ s13 z5 => ?_;have⟨yV,uU,yX,BA,xC,tT,ql,xR⟩:=lu s13.old nV nN oH nW qL rO uT qM;have b14:=eH s13.old b13 G;have VZ:=jI LY b13.size;have Xr:=cO LY nV.lt;have Xt:(.slice m.s.ga (m.s.gn) (m.s.gc):Value).ownBlock≠some g4:=by rw[LY]; exact nN.jT (z_ _)
 have⟨aia,Xu,aib⟩:=JC LY oH.lt rO.lt qM.lt;have TP:=tQ.lt;refine Ln ⟨Fx.iP.of_below s13.old,?_⟩;refine Ct<|zh (B:=B) (s:=5) (bytes:=40) (k:=m.s.gn) (m:=1) (v := .slice m.s.ga (m.s.gn) (m.s.gc)) (x:=Iy m) (by rfl) rfl rfl rfl Tryz.underlying51 (by kernel_rfl) (by kernel_rfl) rfl rfl uU tQ.aI (yD (tF _)) (by omega) (by omega) (by omega) (m_ G b14.size) fun F C Ag ho1 hg1 vU hlt1 => ?_;have tK:=zi hg1 uU;have⟨tV,BD,IE,EF,AB,EG⟩:=Rc tK yV yX BA xC tT ql;have F5:=xR.grown hg1 IC;have aic:U≠F:=fun e=>vU.elim (fun e2=>IC (by rw[e]; exact e2)) (fun e2=>by have:=xR.lt; omega);have xS:Fx.Own Ag B 66 5 (bL F (m.s.gn+1) C) (m.s.gn+1) (flat 5 (Fx.Jy (fun l=>jf (m.g l)) (jf (pY v)) m.s.gn m.s.gn)):=(ho1.congr (fun j hj=>(Fx.xI j hj).trans (bK (fun i N q _=>Fx.xJ i N q) j hj)));have b15:Below B w Ag:=zf b14 hg1 (m_ G b14.size) (fun q hq=>(uU.ge hq).1);refine Ln ⟨tK,?_⟩;refine bf (pt p)<|bf (pt p)<|bf (pf p 19)<|gF<|jm tV 19 (bL F (m.s.gn+1) C) fun FZ BF Dl z6 => ?_;have zK:=gY Dl tV.ty;have⟨zQ,IL,Kg,EH,EI,F6,F7⟩:=Rf zK BD IE EF AB EG F5 xS;have b16:=Dl.below b15 (m_ G b15.size) (by omega);refine Ln<|bR<|Dk (fun f H => ∃ k:Nat,k<=m.s.gn/\k=down (fun i=>EN v (m.g i)) m.s.gn/\f 0=(pt p)/\f 3=(pt I)/\f 10=(pt U)/\f 11=au (k:Int)/\aS H m.tb 1 (fun _ => .slice m.ta m.tn m.tc) 123/\Fx.Own H B 128 2 (.slice m.ta (m.tn) (m.tc)) m.tn (Px m.t)/\wz H B 6 m/\aS H I 14 (bS v) 32/\Fx.Own H B 61 56 (.slice m.s.na (m.s.nn) (m.s.nc)) m.s.nn (flat 56 (fun l=>lY (m.id l) (m.par l) (Rk l)))/\aS H U 5 (jf (pY v)) 66/\aS H p 27 (dA (mF m) 19 (bL F (m.s.gn+1) C)) 71/\Fx.Own H B 66 5 (bL F (m.s.gn+1) C) (m.s.gn+1) (flat 5 (Fx.Jy (fun l=>jf (m.g l)) (jf (pY v)) m.s.gn k))/\Below B w H) ?_ ?_
 ·refine Wb<|Wo (fun f H => ∃ k:Nat,k<=m.s.gn/\(∀ i,k<=i->i<m.s.gn->EN v (m.g i)=true)/\f 0=(pt p)/\f 3=(pt I)/\f 10=(pt U)/\f 11=au (k:Int)/\aS H m.tb 1 (fun _ => .slice m.ta m.tn m.tc) 123/\Fx.Own H B 128 2 (.slice m.ta (m.tn) (m.tc)) m.tn (Px m.t)/\wz H B 6 m/\aS H I 14 (bS v) 32/\Fx.Own H B 61 56 (.slice m.s.na (m.s.nn) (m.s.nc)) m.s.nn (flat 56 (fun l=>lY (m.id l) (m.par l) (Rk l)))/\aS H U 5 (jf (pY v)) 66/\aS H p 27 (dA (mF m) 19 (bL F (m.s.gn+1) C)) 71/\Fx.Own H B 66 5 (bL F (m.s.gn+1) C) (m.s.gn+1) (flat 5 (Fx.Jy (fun l=>jf (m.g l)) (jf (pY v)) m.s.gn k))/\Below B w H) (fun f _=>(intOf (f 11)).toNat) ⟨m.s.gn,by omega,(fun i h1 Q=>L_ h1 (by omega)),h1,Q,(by rfl),Fx.ic,zQ,IL,Kg,EH,EI,F6,BF,F7,b16⟩ ?_;rintro f3 L ⟨k,hk,hgt,S,h6,h7,M,BG,EJ,BH,ET,EK,zR,BI,AJ,b17⟩;refine Ws<|Ws ?_;refine xL<|dX M ?_;by_cases c97:0<(k:Int)
  ·obtain⟨j,ej⟩ : ∃ j,k=j+1:=⟨k-1,by omega⟩;refine Qv aH (fun d b=>mK c97)<|aT aH<|dX S<|aT (pt p)<|aT (pt p)<|aT (pf p 19)<|Qv (bL F (m.s.gn+1) C) (fun d b=>aN (BI.aI.dr b) 19 (Fx.kY (by omega)))<|dX M<|Qv (au j) (fun d b=>gu)<|Qv (pf F (5*j)) (fun d b=>dh 5)<|aT (pf F (5*j))<|Qv (au ((m.g j) 0)) (fun d b=>aN (AJ.aI.dr b) (5*j) (Fx.dW (k:=j) (j:=0) (by omega) (by omega) ((congrFun (Fx.zk (by omega) (by omega)) 0).trans rfl)))<|Qv (pt U) (fun d b=>iV h7 0)<|Qv (au v.o) (fun d b=>aN (zR.aI.dr b) 0) ?_;by_cases TQ:v.o<((m.g j) 0)
   ·refine Qv aH (fun d b=>mK TQ)<|aT aH<|aQ<|aQ<|aQ<|aQ<|aQ<|aQ<|aQ<|aQ<|aQ<|aQ<|aQ<|aQ<|aQ<|aQ<|aQ<|aQ<|aQ<|aQ<|aQ<|aQ<|aQ<|aQ<|aQ ?_;refine aQ<|aQ<|aQ<|aQ<|aQ<|aT aH<|aT aH<|Qn ?_;rintro _ ⟨P,rfl⟩;obtain⟨Cw,oG⟩ : ∃ d,d=World.drewN L P:=⟨_,rfl⟩;rw[<- oG];have s15:Stp L.heap.size L Cw:=(by rw[oG]; exact Sb (jl L P));have⟨IG,Tv,TR,Tx,Tz,abI,TA,abx⟩:=lu s15.old BG EJ BH ET EK zR BI AJ;have b18:=eH s15.old b17 G;clear oG;refine sN<|aO<|Wk<|sN<|Wb<|Ws ?_;refine jS [0,1,2,3,5,6,7,8,9,11,12,4,10,13,14,15,16] [0,0,0,0,4,0,0,0,0,0,4,0,0,0,4,0,3] [(16,4,[4]),(16,10,[10]),(16,14,[14])] fun wt4 qw Gs => ?_;have⟨TD,PE,TF,TG,aby,abz,abJ,PG⟩:=lu qw IG Tv TR Tx Tz abI TA abx;have b19:=eH qw b18 G;refine bW S<|bf (pt p)<|bf (pt p)<|bf (pf p 19)<|bW M<|bW S<|bf (pt p)<|bf (pt p)<|bf (pf p 19)<|bW M<|Rp (au j) (fun _=>gu)<|Rs (bL F (m.s.gn+1) C) (aN abJ.aI 19 (Fx.kY (by omega))) ?_;refine Rs (bL F (m.s.gn+1) C) (aN abJ.aI 19 (Fx.kY (by omega))) ?_;refine Rp (pf F (5*j)) (fun _=>dh 5)<|Rs (.agg (aC 5 (jf (m.g j)))) (gI PG.aI (5*j) (fun jq hjq=>(Fx.nA (k:=j) (by omega) hjq).trans (congrFun (Fx.zk (by omega) (by omega)) jq))) ?_;refine Rp (pf F (5*k)) (fun _=>dh 5)<|gF<|zI PG (5*k) (h1:=(fun j _=>tF _ j)) fun L9 abA Ji z7 => ?_;have yP:=gY Ji PG.Jw;have⟨afz,abB,abC,abD,aky⟩:=qX yP TD PE TF TG aby;have akz:=abz.cZ Ji (by omega);have akA:=lJ yP abJ;have b20:=Ji.below b19 (m_ G b19.size) PG.blk.1;have akB:Fx.Own L9 B 66 5 (bL F (m.s.gn+1) C) (m.s.gn+1) (flat 5 (Fx.Jy (fun l=>jf (m.g l)) (jf (pY v)) m.s.gn j)):=abA.congr (fun X W=>(Fx.uw (k:=k) (by omega) X W).trans (bK (fun i N q _=>Fx.yt ej (by omega) i N q) X W));refine Ln<|bR<|Wl<|aX M<|Lv (au j) gu<|av (au j)<|Ln<|bQ<|gT ⟨j,by omega,(Kn ej hgt (by unfold EN; rw[f_ TQ]; rfl)),S,h6,h7,Fx.ic,afz,abB,abC,abD,aky,akz,akA,akB,b20⟩ ?_;show(intOf (au j)).toNat<_;simp only[M,intOf]; omega
   refine Qv aG (fun d b=>mM TQ)<|aT aG<|dX S<|aT (pt p)<|aT (pt p)<|aT (pf p 19)<|Qv (bL F (m.s.gn+1) C) (fun d b=>aN (BI.aI.dr b) 19 (Fx.kY (by omega)))<|dX M<|Qv (au j) (fun d b=>gu)<|Qv (pf F (5*j)) (fun d b=>dh 5)<|aT (pf F (5*j))<|Qv (au ((m.g j) 0)) (fun d b=>aN (AJ.aI.dr b) (5*j) (Fx.dW (k:=j) (j:=0) (by omega) (by omega) ((congrFun (Fx.zk (by omega) (by omega)) 0).trans rfl)))<|Qv (pt U) (fun d b=>iV h7 0)<|Qv (au v.o) (fun d b=>aN (zR.aI.dr b) 0) ?_;by_cases Xv:((m.g j) 0)=v.o
   ·refine Qv aH (fun d b=>eZ Xv)<|aT aH<|dX S<|aT (pt p)<|aT (pt p)<|aT (pf p 19)<|Qv (bL F (m.s.gn+1) C) (fun d b=>aN (BI.aI.dr b) 19 (Fx.kY (by omega)))<|dX M<|Qv (au j) (fun d b=>gu)<|Qv (pf F (5*j)) (fun d b=>dh 5)<|aT (pf F (5*j+1))<|Qv (aF ((m.g j) 1)) (fun d b=>aN (AJ.aI.dr b) (5*j+1) (Fx.dW (k:=j) (j:=1) (by omega) (by omega) ((congrFun (Fx.zk (by omega) (by omega)) 1).trans rfl)))<|Qv (pf U 1) (fun d b=>iV h7 1)<|Qv (aF v.req) (fun d b=>aN (zR.aI.dr b) 1) ?_;by_cases c139:v.req<((m.g j) 1)
    ·refine Qv aH (fun d b=>mK c139)<|aT aH<|aT aH<|aT aH<|Qn ?_;rintro _ ⟨P,rfl⟩;obtain⟨wq2,rJ⟩ : ∃ d,d=World.drewN L P:=⟨_,rfl⟩;rw[<- rJ];have Lm:Stp L.heap.size L wq2:=(by rw[rJ]; exact Sb (jl L P));have⟨akC,akD,akE,akF,akG,akH,akI,akJ⟩:=lu Lm.old BG EJ BH ET EK zR BI AJ;have L8:=eH Lm.old b17 G;clear rJ;refine sN<|aO<|Wk<|sN<|Wb<|Ws ?_;refine jS [0,1,2,3,5,6,7,8,9,11,12,4,10,13,14,15,16] [0,0,0,0,4,0,0,0,0,0,4,0,0,0,4,0,3] [(16,4,[4]),(16,10,[10]),(16,14,[14])] fun wt5 zo RQ => ?_;have⟨akK,akL,akM,akN,akO,akP,abK,Xw⟩:=lu zo akC akD akE akF akG akH akI akJ;have Lj:=eH zo L8 G;refine bW S<|bf (pt p)<|bf (pt p)<|bf (pf p 19)<|bW M<|bW S<|bf (pt p)<|bf (pt p)<|bf (pf p 19)<|bW M<|Rp (au j) (fun _=>gu)<|Rs (bL F (m.s.gn+1) C) (aN abK.aI 19 (Fx.kY (by omega))) ?_;refine Rs (bL F (m.s.gn+1) C) (aN abK.aI 19 (Fx.kY (by omega))) ?_;refine Rp (pf F (5*j)) (fun _=>dh 5)<|Rs (.agg (aC 5 (jf (m.g j)))) (gI Xw.aI (5*j) (fun jq hjq=>(Fx.nA (k:=j) (by omega) hjq).trans (congrFun (Fx.zk (by omega) (by omega)) jq))) ?_;refine Rp (pf F (5*k)) (fun _=>dh 5)<|gF<|zI Xw (5*k) (h1:=(fun j _=>tF _ j)) fun w16 akQ s20 z8 => ?_;have yQ:=gY s20 Xw.Jw;have⟨akR,akS,akT,akU,akV⟩:=qX yQ akK akL akM akN akO;have akW:=akP.cZ s20 (by omega);have akX:=lJ yQ abK;have WK:=s20.below Lj (m_ G Lj.size) Xw.blk.1;have akY:Fx.Own w16 B 66 5 (bL F (m.s.gn+1) C) (m.s.gn+1) (flat 5 (Fx.Jy (fun l=>jf (m.g l)) (jf (pY v)) m.s.gn j)):=akQ.congr (fun X W=>(Fx.uw (k:=k) (by omega) X W).trans (bK (fun i N q _=>Fx.yt ej (by omega) i N q) X W));refine Ln<|bR<|Wl<|aX M<|Lv (au j) gu<|av (au j)<|Ln<|bQ<|gT ⟨j,by omega,(Kn ej hgt (by unfold EN; rw[f_ Xv,f_ c139]; cases decide (v.o<m.g j 0) <;> rfl)),S,h6,h7,Fx.ic,akR,akS,akT,akU,akV,akW,akX,akY,WK⟩ ?_
     show(intOf (au j)).toNat<_;simp only[M,intOf]; omega
    refine Qv aG (fun d b=>mM c139)<|aT aG<|aT aG<|aT aG<|Qn ?_;rintro _ ⟨P,rfl⟩;obtain⟨Jm,zU⟩ : ∃ d,d=World.drewN L P:=⟨_,rfl⟩;rw[<- zU];have s21:Stp L.heap.size L Jm:=(by rw[zU]; exact Sb (jl L P));have⟨akZ,ala,alb,alc,ald,ale,alf,alg⟩:=lu s21.old BG EJ BH ET EK zR BI AJ;have WL:=eH s21.old b17 G;clear zU;refine sN<|aL<|Wx<|cu<|gJ<|cB ?_;exact xk ⟨k,hk,(Fx.oL hk hgt (.inr (fun j2 e=>by rw[show j2=j by omega]; unfold EN; rw[g_ TQ,g_ c139,H_]; rfl))),S,h6,h7,(M.trans Fx.ic),akZ,ala,alb,alc,ald,ale,alf,alg,WL⟩
   refine Qv aG (fun d b=>fM Xv)<|aT aG<|aQ<|aQ<|aQ<|aQ<|aQ<|aQ<|aQ<|aQ<|aQ<|aQ<|aQ<|aQ<|aQ<|aT aG<|aT aG<|aT aG<|Qn ?_;rintro _ ⟨P,rfl⟩;obtain⟨TL,zV⟩ : ∃ d,d=World.drewN L P:=⟨_,rfl⟩;rw[<- zV];have s22:Stp L.heap.size L TL:=(by rw[zV]; exact Sb (jl L P));have⟨alh,ali,alj,alk,alm,aln,alo,alp⟩:=lu s22.old BG EJ BH ET EK zR BI AJ;have b25:=eH s22.old b17 G;clear zV;refine sN<|aL<|Wx<|cu<|gJ<|cB ?_;exact xk ⟨k,hk,(Fx.oL hk hgt (.inr (fun j2 e=>by rw[show j2=j by omega]; unfold EN; rw[g_ TQ,g_ Xv]; rfl))),S,h6,h7,(M.trans Fx.ic),alh,ali,alj,alk,alm,aln,alo,alp,b25⟩
  refine Qv aG (fun d b=>mM c97)<|aT aG<|aQ<|aQ<|aQ<|aQ<|aQ<|aQ<|aQ<|aQ<|aQ<|aQ<|aQ<|aQ<|aQ<|aQ<|aQ<|aQ<|aQ<|aQ<|aQ<|aQ<|aQ<|aQ<|aQ ?_;refine aQ<|aQ<|aQ<|aQ<|aQ<|aQ<|aQ<|aQ<|aQ<|aQ<|aQ<|aQ<|aQ<|aQ<|aQ<|aQ<|aQ<|aQ<|aQ<|aQ<|aT aG<|Qn ?_;rintro _ ⟨P,rfl⟩;obtain⟨wq5,Mw⟩ : ∃ d,d=World.drewN L P:=⟨_,rfl⟩;rw[<- Mw];have s23:Stp L.heap.size L wq5:=by rw[Mw]; exact Sb (jl L P)
  have⟨alq,alr,als,alu,alv,alx,aly,alz⟩:=lu s23.old BG EJ BH ET EK zR BI AJ;have b26:=eH s23.old b17 G;clear Mw;refine sN<|aL<|Wx<|cu<|gJ<|cB ?_;exact xk ⟨k,hk,(Fx.oL hk hgt (.inl (by omega))),S,h6,h7,(M.trans Fx.ic),alq,alr,als,alu,alv,alx,aly,alz,b26⟩
 rintro f4 RV ⟨k,hk,ek,h9,h10,h11,h12,alA,alB,alC,alD,alE,alF,alG,alH,b27⟩;refine Ws ?_;refine jS [0,1,2,3,5,4,6,7,8] [0,0,0,0,4,0,4,0,3] [(8,4,[4]),(8,6,[6])] fun wt6 JW aeW => ?_;have⟨alI,alJ,alK,alL,alM,afJ,afK,abL⟩:=lu JW alA alB alC alD alE alF alG alH;have b28:=eH JW b27 G;refine bW h9<|bf (pt p)<|bf (pt p)<|bf (pf p 19)<|bW h12<|Rs (bL F (m.s.gn+1) C) (aN afK.aI 19 (Fx.kY (by omega))) ?_;refine Rs (.agg (aC 5 (jf (pY v)))) (gI afJ.aI 0 (ha:=h11)) ?_;refine Rp (pf F (5*k)) (fun _=>dh 5)<|gF<|zI abL (5*k) (h1:=(fun j _=>tF _ j)) fun RX alN Zj z9 => ?_;have Az:=gY Zj abL.Jw;have⟨alO,alP,afL,alQ,alR⟩:=qX Az alI alJ alK alL alM;have alS:=afJ.cZ Zj (by omega);have alT:=lJ Az afK;have b29:=Zj.below b28 (m_ G b28.size) abL.blk.1;have alU:Fx.Own RX B 66 5 (bL F (m.s.gn+1) C) (m.s.gn+1) (flat 5 (Fx.Ie (fun l=>jf (m.g l)) k (jf (pY v)))):=alN.congr (fun X W=>(Fx.uw (k:=k) (by omega) X W).trans (bK (fun i N q _=>Fx.sK (by omega) i N q) X W));refine Ln<|bR<|Ws ?_;have alV:Fx.Own RX B 28 1 (.slice (m.ra a) (m.rn a) (m.rc a)) (m.rn a) (rv .u64 (m.rq a)):=afL.1 a ha;have bra:=O.br a ha;refine Ap [0,1,4,5,8,9,12,16,17,2,3,6,7,10,11,13,14,15,18,19] [0,0,1,0,0,0,1,0,0,0,0,1,0,4,2,2,0,0,0,3] (iP [28]) vO Fx.iP.trans (fG := [(19,2,[2]),(19,6,[6]),(19,11,[11]),(14,13,[13]),(15,13,[14,13]),(19,13,[13]),(15,14,[14]),(18,14,[14]),(19,14,[14]),(18,15,[15]),(19,15,[15])]) (by kernel_rfl) (by kernel_rfl) (by kernel_rfl) (by kernel_rfl) (by kernel_rfl) fun wt7 JX aeY => ?_;have⟨afM,alW,alX,Xx,alY,alZ,abM,afN,afO⟩:=Bn JX alO alP afL alQ alR alS alT alU alV;have b30:=eH JX b29 G;refine bW h9<|Rp (pt I) (fun _=>iV h10 0)<|bW h9<|Rp (pt I) (fun _=>iV h10 0)<|bf (pt p)<|bf (pf p 21)<|Rp (pf I 12) (fun _=>iV h10 12)<|bf (pt p)<|bf (pf p 21)<|Rd (v:=au v.o) (by rfl) (by rfl) (vO _) (fun d b=>bD (x:=bS v) rfl rfl (by kernel_rfl) (Xx.jN b (by decide)).aI (i:=0) (by omega) (by omega) rfl) ?_;refine Rp (au a) (fun _=>gu)<|Rd (v:=au v.o) (by rfl) (by rfl) (vO _) (fun d b=>bD (x:=bS v) rfl rfl (by kernel_rfl) (Xx.jN b (by decide)).aI (i:=0) (by omega) (by omega) rfl) ?_;refine Rp (au a) (fun _=>gu)<|Rp (pf p (a+21)) (fun _=>jE 6 1)<|Rd (v := .slice (m.ra a) (m.rn a) (m.rc a)) (by rfl) (by rfl) (vO _) (fun d b=>bD (x:=dA (mF m) 19 (bL F (m.s.gn+1) C)) rfl rfl (by kernel_rfl) (abM.jN b (by decide)).aI (i:=a+21) (by omega) (by omega) (Fx.Al (by omega) (wu _ (by omega)))) ?_;refine Rs (aF v.req) (aN Xx.aI 12) ?_;refine Ct<|yN (vs := [(0,aF v.req)]) (s:=1) (zc:=rv .u64 (fun _=>0)) (y:=bI (fun j=>(rv .u64 (fun _=>0)) (j % 1)) (0*1) 1 (fun _=>aF v.req)) (by rfl) rfl rfl Tryz.underlying63 (by kernel_rfl) (by rfl) (by rfl) (by kernel_rfl) (by rw[bF (off:=0*1) (s:=1) (y:=fun _=>aF v.req) rfl (cells_one (by rfl)) (by rfl)]; rfl) rfl fun g6 w19 eg6 afP s27 z10 => ?_;have⟨ama,amb,amc,amd,ame,amf,abO⟩:=jo s27.old afM alW alX alY abM afN afO;have b31:=eH s27.old b30 G;have lg6:=jI eg6 b30.size;have⟨aie,aif,aii,aij,aik⟩:=Df eg6 afM.lt Xx.lt alZ.lt abM.lt afN.lt;have ail:(.slice (m.ra a) (m.rn a) (m.rc a):Value).ownBlock≠some g6:=by rw[eg6]; exact afO.jT (z_ _)
 have tg6:=afP.lt;refine Ln ⟨Fx.iP.of_below s27.old,?_⟩;refine Ct<|zh (B:=B) (s:=1) (bytes:=8) (k:=(m.rn a)) (m:=1) (v := .slice (m.ra a) (m.rn a) (m.rc a)) (x:=rv .u64 (m.rq a)) (by rfl) rfl rfl rfl Tryz.underlying63 (by kernel_rfl) (by kernel_rfl) rfl rfl abO afP.aI (yD (fun _=>rfl)) (by omega) (by omega) (by omega) (m_ G b31.size) fun g7 cap2 VT ho2 hg2 Ml hlt2 => ?_;have EA:=zi hg2 abO;have⟨amg,amh,ami,afQ,amj⟩:=qX EA ama amb amd ame amf;have amk:Fx.Own VT B 28 1 (.slice (some ⟨g7,0,none⟩) ((m.rn a)+1) cap2) ((m.rn a)+1) (rv .u64 (aJ (m.rq a) (m.rn a) v.req)):=(ho2.congr (fun j hj=>N8 j hj));have b32:Below B w VT:=zf b31 hg2 (m_ G b31.size) (fun q hq=>(abO.ge hq).1);have aml:wz VT B 6 { m with ra:=aJ m.ra a (some ⟨g7,0,none⟩),rn:=aJ m.rn a (m.rn a+1),rc:=aJ m.rc a cap2,rq:=aJ m.rq a (aJ (m.rq a) (m.rn a) v.req) }:=wz.app amc ha rfl rfl rfl rfl amk hg2 Ml;refine Ln ⟨EA,?_⟩;refine Rp (pf p (a+21)) (fun _=>jE 6 1)<|gF<|jm afQ (a+21) (.slice (some ⟨g7,0,none⟩) ((m.rn a)+1) (cap2)) fun w21 amm s28 z11 => ?_;have abP:=gY s28 afQ.ty;have⟨amn,amo,amq,amr,ams⟩:=qX abP amg amh ami amj aml;have b33:=s28.below b32 (m_ G b32.size) (by omega);refine Ln<|bR<|ay<|av (au 0)<|aD<|Wr<|aK (au 0) ?_;have eN:aP v=a:=by unfold aP; omega
 have ne1 : ¬ 0<=m.core.kQ (aP v) v.req:=by rw[eN]; exact j_ c17
 have ne2 : ¬ bT m.core.t m.core.tn v.node=0:=fun e=>c27 (by rw[show K=0 from VY.trans e]; rfl);have ew:mR m.core v=dw (fun x=>bC x v.o v.aU) (nX m.core v.node) m.R K:=by unfold mR; rw[show bT m.core.t m.core.tn v.node=K from VY.symm]; rfl
 have Y:iQ m.core v=0:=by unfold iQ; rw[b_ ne1,b_ ne2,ew,hRK]
 have eW:mR m.core v=(Rk,0):=ew.trans hRK;have amu:Fx.Own w21 B 66 5 (bL F (m.s.gn+1) C) (m.s.gn+1) (flat 5 fun l=>jf (cK m.g k (pY v) l)):=by rw[<- Xm]; exact amr
 refine⟨pz Y.symm,b33,fun _=>⟨{ m with s := { m.s with ga:=some ⟨F,0,none⟩,gn:=m.s.gn+1,gc:=C },R:=Rk,g:=cK m.g k (pY v),ra:=aJ m.ra a (some ⟨g7,0,none⟩),rn:=aJ m.rn a (m.rn a+1),rc:=aJ m.rc a cap2,rq:=aJ m.rq a (aJ (m.rq a) (m.rn a) v.req) },?_,?_⟩⟩
 ·unfold lN qm; rw[eW,eN]; rw[show down (fun i=>EN v (m.core.g i)) m.core.gn=k from ek.symm]; rfl
 exact { c:=amm.to ((K_ (fun z=>dA z (a+21) _) (Mr m _ _ _)).trans (Ki _ rfl _ _ _)),n:=amq,g:=amu,tc:=amn,t:=amo,r:=ams,pB:=Tq,tB:=Dp,bn:=bn,bg:=(by show m.s.gn+1<=1000000; omega),bt:=bt,br:=(fun i N=>by show aJ m.rn a (m.rn a+1) i<=1000000; have:=Zw i N; have:=Zw a ha; unfold aJ; split <;> omega) }
namespace Rt
def zy(L:fP)(v:EvM):Nat:=(L.grant v.o v.of).toNat
def lQ(L:fP)(v:EvM):(Nat->Nat->Int) × Int:=dw (fun x=>bG x v.o (L.g (zy L v) 3)) (nX L (L.g (zy L v) 2)) L.R (bT L.t L.tn (L.g (zy L v) 2))
def iH(L:fP)(v:EvM):Int:=if 0<=L.kQ (aP v) v.req then 14 else if L.grant v.o v.of<0\/L.g (zy L v) 4≠0 then 12 else(lQ L v).2
def jY(L:fP)(v:EvM):fP:=qm { L with R:=(lQ L v).1,g:=aJ L.g (zy L v) (aJ (L.g (zy L v)) 4 v.req) } (aP v) v.req
theorem TS{m:kX}{o r:Int}(h : ¬ m.grant o r<0) : ∃ q:Nat,q<m.s.gn/\m.grant o r=(q:Int)/\m.g q 0=o/\m.g q 1=r:=by
 rcases jJ (fun i=>decide (m.g i 0=o)&&decide (m.g i 1=r)) m.s.gn with ⟨q,b,e,a⟩|⟨e,_⟩
 ·rw[R_]at a;exact⟨q,b,e,h_ a.1,h_ a.2⟩
 unfold kX.grant at h; omega
theorem PW{n q:Nat}{g:Nat->Nat->Int}{r:Int} : ∀ i,i<n -> ∀ j,j<5->Fx.qH (fun a=>jf (g a)) q (dA (jf (g q)) 4 (aF r)) i j=jf (aJ g q (aJ (g q) 4 r) i) j:=fun i _ j b=>by
 unfold Fx.qH;by_cases h:i=q
 ·subst h;rw[d_ rfl];unfold aJ dA jf;rw[d_ rfl]
  rcases j with _|_|_|_|_|j <;> first|rfl|omega
 ·rw[b_ h]; unfold aJ; rw[b_ h]
end Rt
set_option maxRecDepth 20000 in
set_option maxHeartbeats 2000000 in
theorem Xy(m:kX)(B p a:Nat)(v:EvM)(w:World)(H:vF w B p m)(F:B<=w.heap.size)(ha:a<6)(ho:v.o=(a:Int)+1)(bgg:m.s.gn<=900000)(Zw : ∀ i,i<6->m.rn i<=900000)(hTN : ∀ x,m.node x=bE m.t m.tn x)(hDx : ∀ x,∃ D,D<=1000/\bE m.t m.tn (bA m.t m.tn D x)<0) :
 Calls Tryz.prog 80 #[(pt p),.agg (aC 14 (bS v))] w fun e w'=>e = .returned (au (iH m.core v))/\Below B w w'/\(iH m.core v=0 -> ∃ m',m'.core=jY m.core v/\vF w' B p m'):=by
 have Tm:=H.c;have hLn:=H.n;have hLg:=H.g;have Tn:=H.tc;have Tp:=H.t;have hLr:=H.r;have Tq:=H.pB;have Dp:=H.tB;have bn:=H.bn;have bg:=H.bg;have bt:=H.bt;have lpp:p<w.heap.size:=Tm.lt;have QD:m.tb<w.heap.size:=Tn.lt;refine Kent Tryz.func80 128 ?_;refine ay<|rU fun G w1 mD m1 s1 z1 => ?_;have⟨m2,m3,m4,m5,m6,m7⟩:=uy s1.old Tm hLn hLg Tn Tp hLr;have b1:=eH s1.old (Below.refl B w) F;have uG:=jI mD (Below.refl B w).size;have⟨nI,wY⟩:=xM mD Tm.lt Tn.lt;have wO:=m1.lt;refine av (au 0)<|aD<|Ws<|ay<|av (pt p)<|av (pt G)<|Lv (au v.o) (aN m1.aI 0)<|av (pf G 12)<|Lv (aF v.req) (aN m1.aI 12) ?_;have Mv:Cx w1 p m := { c:=m2.aI,an:=m3.arr,ag:=m4.arr,tc:=m5.aI,at2:=m6.arr,ar:=fun i N=>(m7.1 i N).arr,bn:=(by show m.s.nn<=1000000; omega),bg:=bg,bt:=(by show m.tn<=1000000; omega),br:=H.br };by_cases V:(decide (0<=m.kQ a v.req))=true
 ·refine eB (AO m p a v.o v.req _ Mv ha ho) aH (by rw[V]) ?_;intro w2 hb1;have b2:=eH hb1 b1 F;refine aD<|aO<|ay<|av (au 14)<|aD<|Wr<|sR<|aK (au 14) ?_;have O:aP v=a:=by unfold aP; omega
  have J:iH m.core v=14:=by unfold iH; rw[O]; exact d_ (h_ V)
  exact⟨pz J.symm,b2,fun P=>by rw[J]at P; cases P⟩
 rw[S_]at V;refine eB (AO m p a v.o v.req _ Mv ha ho) aG (by rw[V]) ?_;intro w3 hb2;have⟨m15,m16,m17,m18,m19,m20,m21⟩:=jo hb2 m2 m3 m4 m5 m6 m7 m1;have b3:=eH hb2 b1 F;refine aD<|aL<|Wk<|sN<|ay<|av (pt p)<|av (pt G)<|Lv (au v.o) (aN m21.aI 0)<|av (pf G 13)<|Lv (aF v.of) (aN m21.aI 13) ?_;have TN:Cx w3 p m := { c:=m15.aI,an:=m16.arr,ag:=m17.arr,tc:=m18.aI,at2:=m19.arr,ar:=fun i N=>(m20.1 i N).arr,bn:=(by show m.s.nn<=1000000; omega),bg:=bg,bt:=(by show m.tn<=1000000; omega),br:=H.br };refine eB (Xb m p v.o v.of _ TN) _ rfl ?_;intro w4 hb3;have⟨m22,m23,m24,ni,nZ,oz,og⟩:=jo hb3 m15 m16 m17 m18 m19 m20 m21;have b4:=eH hb3 b3 F;refine av (au (m.grant v.o v.of))<|aD<|Ws<|ay<|av (au (m.grant v.o v.of)) ?_;by_cases ab:(m.grant v.o v.of)<0
 ·refine Lv aH (gV ab)<|av aH<|dB<|dB<|dB<|dB<|dB<|dB<|dB<|dB<|dB<|dB<|av aH<|aD<|aO<|ay<|av (au 12)<|aD<|Wr<|sR<|aK (au 12) ?_;have O:aP v=a:=by unfold aP; omega
  have aa : ¬ 0<=m.core.kQ (aP v) v.req:=by rw[O]; exact j_ V
  have J:iH m.core v=12:=by unfold iH; rw[b_ aa]; exact d_ (.inl ab)
  exact⟨pz J.symm,b4,fun P=>by rw[J]at P; cases P⟩
 obtain⟨b,hkg,ekg,_,_⟩:=TS ab;have ac:zy m.core v=b:=by show(m.grant v.o v.of).toNat=b; rw[ekg]; rfl
 refine Lv aG (gW ab)<|av aG<|av (pt p)<|av (pt p)<|av (pt p)<|av (pf p 19)<|Lv (.slice m.s.ga (m.s.gn) (m.s.gc)) (aN m22.aI 19)<|aX (K_ (Value.int .i64) ekg) ?_;obtain⟨af,eq1⟩:=m24.addr (by omega);have oC:Fx.Own w4 B 66 5 (bL af m.s.gn m.s.gc) m.s.gn (Iy m):=m24.dL (K_ (fun q=>Value.slice q m.s.gn m.s.gc) eq1);refine Lv (pf af (5*b)) (dh 5 (hx:=(rfl.trans (K_ (fun q=>Value.slice q (m.s.gn) (m.s.gc)) eq1))))<|av (pf af (5*b+4))<|Lv (aF ((m.g b) 4)) (aN oC.aI (5*b+4) (Fx.dW (k:=b) (j:=4) (by omega) (by omega) rfl)) ?_;by_cases ae:((m.g b) 4)=0
 ·refine Lv aG (kr ae)<|av aG<|aD<|aL<|Wk<|sN<|Ws ?_;obtain⟨D,hD2,hD⟩:=hDx (m.g b 2);refine jS [0,1,2,4,5,6,7,9,3,8,10,11,12,13,14] [0,0,0,4,0,0,0,0,4,0,0,0,4,3,0] [(13,3,[3]),(13,8,[12,11,10,8]),(13,12,[12]),(14,13,[13])] fun qI dY iF => ?_;have⟨pE,mE,m32,qh,oN,pW,qx⟩:=jo dY m22 m23 ni nZ oz og oC;have b5:=eH dY b4 F;refine bf (pt p)<|bf (pt p)<|bf (pf p 20)<|bf (pt p)<|bf (pt p)<|bf (pt p)<|bf (pf p 19)<|bW (K_ (Value.int .i64) ekg)<|Rs (pt m.tb) (aN pE.aI 20) ?_;refine Rs (.slice m.s.ga (m.s.gn) (m.s.gc)) (aN pE.aI 19) ?_;refine Rp (pf af (5*b)) (fun _=>dh 5 (hx:=(rfl.trans (K_ (fun q=>Value.slice q (m.s.gn) (m.s.gc)) eq1))))<|bf (pf af (5*b+2))<|Rs (aF ((m.g b) 2)) (aN qx.aI (5*b+2) (Fx.dW (k:=b) (j:=2) (by omega) (by omega) rfl)) ?_;refine gF<|lS (IB m.tb m.ta m.tn m.tc m.t (m.g b 2) D _ (tC m32 qh bt) hD hD2) ?_;rintro e w5 ⟨K,vv,he,hown,rA,hK1,hb4⟩;obtain⟨U,E,rfl⟩:=hown.val;refine⟨.slice U K E,he,?_⟩;clear he;have VY:K=bT m.t m.tn (m.g b 2):=uV rA hK1 hD hD2;have hKD:K<=1000:=by rw[VY]; exact DU _ _
  have⟨rW,qy,pF,sj,nk,mV,nu⟩:=jo hb4 pE mE m32 qh oN pW qx;have b6:=eH hb4 b5 F;refine Ln<|bf (.slice U (K) (E))<|bR<|Ws<|ay<|av (au 0)<|aD<|Wb ?_;have rX:Fx.Own w5 B 66 5 (.slice m.s.ga (m.s.gn) (m.s.gc)) m.s.gn (Iy m):=nu.dL (K_ (fun q=>Value.slice q m.s.gn m.s.gc) eq1.symm);refine Wo (fun f S => ∃ k:Nat,∃ Rk:Nat->Nat->Int,k<=K/\dw (fun x=>bG x v.o (m.g b 3)) (nX m.core (m.g b 2)) m.R k=(Rk,0)/\f 0=(pt p)/\f 3=(pt G)/\f 6 = .slice U (K) (E)/\f 7=au (k:Int)/\f 5=au (b:Int)/\aS S p 27 (mF m) 71/\aS S m.tb 1 (fun _ => .slice m.ta m.tn m.tc) 123/\Fx.Own S B 128 2 (.slice m.ta (m.tn) (m.tc)) m.tn (Px m.t)/\wz S B 6 m/\aS S G 14 (bS v) 32/\Fx.Own S B 66 5 (.slice m.s.ga (m.s.gn) (m.s.gc)) m.s.gn (Iy m)/\Fx.Own S qI.heap.size 28 1 (.slice U (K) (E)) K (rv .u64 (fun i=>bA m.t m.tn i (m.g b 2)))/\Fx.Own S B 61 56 (.slice m.s.na (m.s.nn) (m.s.nc)) m.s.nn (flat 56 (fun C=>lY (m.id C) (m.par C) (Rk C)))/\Below B w S) (fun f _=>(K-(intOf (f 7)).toNat)) ⟨0,m.R,by omega,rfl,(by rfl),(by rfl),(by rfl),Fx.ic,((K_ (Value.int .i64) ekg).trans Fx.ic),rW,pF,sj,nk,mV,rX,hown,qy,b6⟩ ?_;rintro f1 w6 ⟨k,Rk,hk,hRk,Y,Q,h3,h4,h5,qK,nU,ru,xq,su,sS,vw,uH,b7⟩;refine Ws<|ay<|aX h4<|aX h3<|av (au K) ?_;by_cases c54:(k:Int)<(K:Int)
  ·refine Lv aH (gV c54)<|aD<|aO<|Wk<|sN<|Ws<|Wb<|Ws ?_;obtain⟨q,hq,eq0,_⟩:=DV (m:=m) (x:=bA m.t m.tn k (m.g b 2)) (by rw[hTN]; exact rA k (by omega));have ex1:nX m.core (m.g b 2) k=q:=(by show(gU (fun i=>decide (m.id i=bA m.t m.tn k (m.g b 2))) m.s.nn).toNat=q; rw[eq0]; rfl);refine Wl<|aX Y<|aX h3<|aX h4 ?_;obtain⟨Lp,DW⟩:=vw.addr (by omega);have uh:Fx.Own w6 qI.heap.size 28 1 (bL Lp K E) K (rv .u64 (fun i=>bA m.t m.tn i (m.g b 2))):=vw.dL (K_ (fun q=>Value.slice q K E) DW);refine Lv (pf Lp k) (dh 1 (hx:=(rfl.trans (K_ (fun q=>Value.slice q (K) (E)) DW))))<|Lv (aF ((fun i=>bA m.t m.tn i (m.g b 2)) k)) (aN uh.aI k) ?_;have uI:Fx.Own w6 qI.heap.size 28 1 (.slice U (K) (E)) K (rv .u64 (fun i=>bA m.t m.tn i (m.g b 2))):=uh.dL (K_ (fun q=>Value.slice q K E) DW.symm);have amv:Cx w6 p { m with R:=Rk } := { c:=qK.aI,an:=uH.arr,ag:=sS.arr,tc:=nU.aI,at2:=ru.arr,ar:=fun i N=>(xq.1 i N).arr,bn:=(by show m.s.nn<=1000000; omega),bg:=bg,bt:=(by show m.tn<=1000000; omega),br:=H.br };refine eB ((Iz { m with R:=Rk } p (bA m.t m.tn k (m.g b 2)) _ amv).mono (fun e w2 Q=>(⟨Q.1.trans (pz eq0),Q.2⟩:e = .returned (au (q:Int))/\_))) _ rfl ?_;intro w7 hb5;have⟨ad,tL,rY,rz,wS,pG,uJ,nS⟩:=lu hb5 qK nU ru xq su sS uH uI;have b8:=eH hb5 b7 F;refine av (au q)<|aD<|Ws ?_;obtain⟨M,Zx⟩:=uJ.addr (by omega);have sw:Fx.Own w7 B 61 56 (bL M m.s.nn m.s.nc) m.s.nn (flat 56 (fun C=>lY (m.id C) (m.par C) (Rk C))):=uJ.dL (K_ (fun q=>Value.slice q m.s.nn m.s.nc) Zx);obtain⟨W,Xz⟩:=pG.addr (by omega);have m64:Fx.Own w7 B 66 5 (bL W m.s.gn m.s.gc) m.s.gn (Iy m):=pG.dL (K_ (fun q=>Value.slice q m.s.gn m.s.gc) Xz);refine qW (T:=59) (T':=59) (a := .tmp 9) (v := .tmp 85) (m:=54) (z:=rv .i64 (fun _=>0)) (y:=rv .i64 ((bG (Rk q) v.o ((m.g b) 3)).1)) (u := .agg (aC 54 (rv .i64 ((bG (Rk q) v.o ((m.g b) 3)).1)))) 24 25 (List.replicate 27 (0,2,[],[])) #[(pt p),(pt p),(pt p),(pf p 18),.slice m.s.na (m.s.nn) (m.s.nc),au (q:Int),(pf M (56*q)),(pf M (56*q+2)),.agg (aC 54 (rv .i64 (Rk q))),(pt G),au v.o,(pt p),(pt p),(pt p),(pf p 19),.slice m.s.ga (m.s.gn) (m.s.gc),au (b:Int),(pf W (5*b)),(pf W (5*b+3)),au ((m.g b) 3),.tuple #[.agg (aC 54 (rv .i64 ((bG (Rk q) v.o ((m.g b) 3)).1))),au ((bG (Rk q) v.o ((m.g b) 3)).2)],.tuple #[.agg (aC 54 (rv .i64 ((bG (Rk q) v.o ((m.g b) 3)).1))),au ((bG (Rk q) v.o ((m.g b) 3)).2)],.agg (aC 54 (rv .i64 ((bG (Rk q) v.o ((m.g b) 3)).1))),au ((bG (Rk q) v.o ((m.g b) 3)).2),undef,undef,au ((bG (Rk q) v.o ((m.g b) 3)).2)] (by kernel_rfl) (by kernel_rfl) (by kernel_rfl) (by kernel_rfl) (by kernel_rfl) (by kernel_rfl) rfl (by kernel_rfl) rfl rfl (by kernel_rfl) (fun L=>(show ev _ (.tmp 9)=(pt L)from by kernel_rfl)) (fun L=>(show ev _ (.tmp 85) = .agg (aC 54 (rv .i64 ((bG (Rk q) v.o ((m.g b) 3)).1)))from by kernel_rfl)) (bJ _ _) (fun _ _=>rfl) (by kernel_rfl) (fun L => ?_) ?_
   ·refine⟨?_,?_,?_,?_,?_,?_,?_,?_,?_,?_,?_,?_,?_,?_,?_,?_,?_,?_,?_,?_,?_,?_,?_,?_,?_,?_,?_,trivial⟩
    ·exact .inr (.inr (rZ (pt p) fun I A=>fD rfl ((bY (by kernel_rfl)).trans Y)))
    ·exact .inr (.inr pV)
    ·exact .inr (.inr pV)
    ·exact .inr (.inr pV)
    ·exact .inr (.inr (rZ (.slice m.s.na (m.s.nn) (m.s.nc)) fun I A=>bD (x:=mF m) rfl (show ev _ (.tmp 67)=(pf p 18)from by kernel_rfl) (by kernel_rfl) (ad.aI.below A (by have:=ad.lt; omega)) (i:=18) (by omega) (by omega) rfl))
    ·exact .inr (.inr pV)
    ·exact .inr (.inr (rZ (pf M (56*q)) fun I A=>dS rfl ((show ev _ (.tmp 68) = .slice m.s.na (m.s.nn) (m.s.nc)from by kernel_rfl).trans (K_ (fun q=>Value.slice q (m.s.nn) (m.s.nc)) Zx)) (show ev _ (.tmp 69)=au (q:Int)from by kernel_rfl) Tryz.underlying50 (s:=56) (by kernel_rfl) (by omega) (by omega) (by omega)))
    ·exact .inr (.inr pV)
    ·exact .inr (.inr (rZ (.agg (aC 54 (rv .i64 (Rk q)))) fun I A=>eX (x:=flat 56 (fun C=>lY (m.id C) (m.par C) (Rk C))) (y:=rv .i64 (Rk q)) rfl (show ev _ (.tmp 71)=(pf M (56*q+2))from by kernel_rfl) (by kernel_rfl) (by kernel_rfl) (sw.aI.below A (by have:=sw.lt; omega)) (i:=56*q+2) (by omega) (by omega) (fun jq hjq=>(Fx.nA (k:=q) (j:=2+jq) (by omega) (by omega)).trans ((fun jq _=>Iw _ _ _ jq) jq hjq))))
    ·exact .inr (.inr (rZ (pt G) fun I A=>fJ rfl ((bY (by kernel_rfl)).trans Q) Tryz.underlying32 rfl (s:=1) (by kernel_rfl) rfl rfl))
    ·exact .inr (.inr (rZ (au v.o) fun I A=>bD (x:=bS v) rfl (show ev _ (.tmp 73)=(pt G)from by kernel_rfl) (by kernel_rfl) (wS.aI.below A (by have:=wS.lt; omega)) (i:=0) (by omega) (by omega) rfl))
    ·exact .inr (.inr (rZ (pt p) fun I A=>fD rfl ((bY (by kernel_rfl)).trans Y)))
    ·exact .inr (.inr pV)
    ·exact .inr (.inr pV)
    ·exact .inr (.inr pV)
    ·exact .inr (.inr (rZ (.slice m.s.ga (m.s.gn) (m.s.gc)) fun I A=>bD (x:=mF m) rfl (show ev _ (.tmp 78)=(pf p 19)from by kernel_rfl) (by kernel_rfl) (ad.aI.below A (by have:=ad.lt; omega)) (i:=19) (by omega) (by omega) rfl))
    ·exact .inr (.inr (rZ (au b) fun I A=>fD rfl ((bY (by kernel_rfl)).trans h5)))
    ·exact .inr (.inr (rZ (pf W (5*b)) fun I A=>dS rfl ((show ev _ (.tmp 79) = .slice m.s.ga (m.s.gn) (m.s.gc)from by kernel_rfl).trans (K_ (fun q=>Value.slice q (m.s.gn) (m.s.gc)) Xz)) (show ev _ (.tmp 80)=au (b:Int)from by kernel_rfl) Tryz.underlying51 (s:=5) (by kernel_rfl) (by omega) (by omega) (by omega)))
    ·exact .inr (.inr pV)
    ·exact .inr (.inr (rZ (au ((m.g b) 3)) fun I A=>bD (x:=Iy m) rfl (show ev _ (.tmp 82)=(pf W (5*b+3))from by kernel_rfl) (by kernel_rfl) (m64.aI.below A (by have:=m64.lt; omega)) (i:=5*b+3) (by omega) (by omega) (Fx.dW (k:=b) (j:=3) (by omega) (by omega) rfl)))
    ·exact .inr (.inr (Fx.H9 (v := .tuple #[.agg (aC 54 (rv .i64 ((bG (Rk q) v.o ((m.g b) 3)).1))),au ((bG (Rk q) v.o ((m.g b) 3)).2)]) (by kernel_rfl) (by kernel_rfl) (Fx.qbC (fun I A=>rC (args := [.agg (aC 54 (rv .i64 (Rk q))),au v.o,au ((m.g b) 3)]) rfl (Fx.Nn (show ev _ (.tmp 72) = .agg (aC 54 (rv .i64 (Rk q)))from by kernel_rfl) (show ev _ (.tmp 74)=au v.o from by kernel_rfl) (show ev _ (.tmp 83)=au ((m.g b) 3)from by kernel_rfl)) Tryz.func111 rfl rfl) (fun I A=>(Xo (Rk q) v.o ((m.g b) 3) _).mono fun e v2 h=>⟨h.1,h.2⟩))))
    ·exact .inr (.inr pV)
    ·exact .inr (.inr pV)
    ·exact .inr (.inr pV)
    ·exact .inl rfl
    ·exact .inr (.inl rfl)
    exact .inr (.inr pV)
   rintro L w8 l d Z vV hb6;have abQ:p≠L:=t_ (n_ (ad.lt) Z);have abR:m.tb≠L:=t_ (n_ (tL.lt) Z);have abS:G≠L:=t_ (n_ (wS.lt) Z);have abT:M≠L:=t_ (n_ (sw.lt) Z);have amw:W≠L:=t_ (n_ (m64.lt) Z);have⟨vE,vW,vX,qz,sD,sU,sF,sV⟩:=lu hb6 ad tL rY rz wS nS sw m64;have b9:=eH hb6 b8 F;have Z:w.heap.size<=L:=m_ b8.size Z;have Bg:=vV.lt;have q1:l 0=(pt p):=(by rw[d]; exact(bY (by kernel_rfl)).trans Y);have q2:l 3=(pt G):=(by rw[d]; exact(bY (by kernel_rfl)).trans Q);have q3:l 6 = .slice U (K) (E):=(by rw[d]; exact(bY (by kernel_rfl)).trans h3);have q4:l 7=au (k:Int):=(by rw[d]; exact(bY (by kernel_rfl)).trans h4);have q5:l 5=au (b:Int):=(by rw[d]; exact(bY (by kernel_rfl)).trans h5);have q6:l 51=au (k:Int):=(by rw[d]; kernel_rfl);have q7:l 52 = .slice U (K) (E):=(by rw[d]; kernel_rfl);have q8:l 53=au (K:Int):=(by rw[d]; kernel_rfl);have q9:l 54 = .bool true:=(by rw[d]; kernel_rfl);have q10:l 57=(pt p):=(by rw[d]; kernel_rfl);have q11:l 58 = .slice U (K) (E):=(by rw[d]; kernel_rfl);have q12:l 59=au (k:Int):=(by rw[d]; kernel_rfl);have q13:l 60=(pf Lp k):=(by rw[d]; kernel_rfl);have q14:l 61=aF ((fun i=>bA m.t m.tn i (m.g b 2)) k):=(by rw[d]; kernel_rfl);have q15:l 62=au (q:Int):=(by rw[d]; kernel_rfl);have q16:l 8=au (q:Int):=(by rw[d]; kernel_rfl);have q17:l 64=(pt p):=(by rw[d]; kernel_rfl);have q18:l 65=(pt p):=(by rw[d]; kernel_rfl);have q19:l 66=(pt p):=(by rw[d]; kernel_rfl);have q20:l 67=(pf p 18):=(by rw[d]; kernel_rfl);have q21:l 68 = .slice m.s.na (m.s.nn) (m.s.nc):=(by rw[d]; kernel_rfl);have q22:l 69=au (q:Int):=(by rw[d]; kernel_rfl);have q23:l 70=(pf M (56*q)):=(by rw[d]; kernel_rfl);have q24:l 71=(pf M (56*q+2)):=(by rw[d]; kernel_rfl);have q25:l 72 = .agg (aC 54 (rv .i64 (Rk q))):=(by rw[d]; kernel_rfl);have q26:l 73=(pt G):=(by rw[d]; kernel_rfl);have q27:l 74=au v.o:=(by rw[d]; kernel_rfl);have q28:l 75=(pt p):=(by rw[d]; kernel_rfl);have q29:l 76=(pt p):=(by rw[d]; kernel_rfl);have q30:l 77=(pt p):=(by rw[d]; kernel_rfl);have q31:l 78=(pf p 19):=(by rw[d]; kernel_rfl);have q32:l 79 = .slice m.s.ga (m.s.gn) (m.s.gc):=(by rw[d]; kernel_rfl);have q33:l 80=au (b:Int):=(by rw[d]; kernel_rfl);have q34:l 81=(pf W (5*b)):=(by rw[d]; kernel_rfl);have q35:l 82=(pf W (5*b+3)):=(by rw[d]; kernel_rfl);have q36:l 83=au ((m.g b) 3):=(by rw[d]; kernel_rfl);have q37:l 84 = .tuple #[.agg (aC 54 (rv .i64 ((bG (Rk q) v.o ((m.g b) 3)).1))),au ((bG (Rk q) v.o ((m.g b) 3)).2)]:=(by rw[d]; kernel_rfl);have q38:l 63 = .tuple #[.agg (aC 54 (rv .i64 ((bG (Rk q) v.o ((m.g b) 3)).1))),au ((bG (Rk q) v.o ((m.g b) 3)).2)]:=(by rw[d]; kernel_rfl);have q39:l 85 = .agg (aC 54 (rv .i64 ((bG (Rk q) v.o ((m.g b) 3)).1))):=(by rw[d]; kernel_rfl);have q40:l 86=au ((bG (Rk q) v.o ((m.g b) 3)).2):=(by rw[d]; kernel_rfl);have q41:l 9=(pt L):=(by rw[d]; kernel_rfl);have q42:l 10=au ((bG (Rk q) v.o ((m.g b) 3)).2):=(by rw[d]; kernel_rfl);clear d;refine sN<|Ws<|ay<|aX q42 ?_;by_cases X:((bG (Rk q) v.o ((m.g b) 3)).2)=0
   ·refine Lv aG (kr X)<|aD<|aL<|Wk<|sN ?_;refine jS [0,1,2,3,5,4,6,7,8,9] [0,0,0,0,4,0,4,0,0,3] [(9,4,[4]),(9,6,[6])] fun Cu fV nH => ?_;have⟨xu,uK,wT,wU,xw,wV,vY,uL,wW⟩:=Bn fV vE vW vX qz sD sU sF sV vV;have b10:=eH fV b9 F;refine bW q1<|bf (pt p)<|bf (pt p)<|bf (pf p 18)<|bW q16<|Rs (.slice m.s.na (m.s.nn) (m.s.nc)) (aN xu.aI 18) ?_;refine Rs (.agg (aC 54 (rv .i64 ((bG (Rk q) v.o ((m.g b) 3)).1)))) (gI wW.aI 0 (ha:=q41)) ?_;refine Rp (pf M (56*q)) (fun _=>dh 56 (hx:=(rfl.trans (K_ (fun q=>Value.slice q (m.s.nn) (m.s.nc)) Zx))))<|bf (pf M (56*q+2))<|gF<|zI vY (56*q+2) fun w9 yR s10 z2 => ?_;have gK:=gY s10 vY.Jw;have⟨xA,zu,zL,zw,yS,yT,zM⟩:=Rf gK xu uK wT wU xw wV uL;have b11:=s10.below b10 (m_ F b10.size) vY.blk.1;have Bz:Fx.Own w9 B 61 56 (bL M m.s.nn m.s.nc) m.s.nn (flat 56 (fun C=>lY (m.id C) (m.par C) (aJ Rk q ((bG (Rk q) v.o ((m.g b) 3)).1) C))):=yR.congr (fun pq hp=>(Fx.Bl (k:=q) (j:=2) (by omega) (by omega) pq hp).trans (bK (fun i N j hj=>BJ i N j hj) pq hp));refine Ln<|Rn<|bQ<|sN<|Wl<|aX q4<|Lv (au ((k:Int)+1)) eY<|av (au ((k:Int)+1))<|Ln ?_;have AA:Fx.Own w9 B 66 5 (.slice m.s.ga (m.s.gn) (m.s.gc)) m.s.gn (Iy m):=zM.dL (K_ (fun q=>Value.slice q m.s.gn m.s.gc) Xz.symm);have Bh:Fx.Own w9 B 61 56 (.slice m.s.na (m.s.nn) (m.s.nc)) m.s.nn (flat 56 (fun C=>lY (m.id C) (m.par C) (aJ Rk q ((bG (Rk q) v.o ((m.g b) 3)).1) C))):=Bz.dL (K_ (fun q=>Value.slice q m.s.nn m.s.nc) Zx.symm);refine gT ⟨k+1,(aJ Rk q (bG (Rk q) v.o (m.g b 3)).1),by omega,(EM hRk ex1 (by first|exact X|exact Classical.not_not.1 X)),q1,q2,q3,Fx.ic,(q5.trans Fx.ic),xA,zu,zL,zw,yS,AA,yT,Bh,b11⟩ ?_
    show(K-(intOf (au ((k:Int)+1))).toNat)<_;simp only[h4,intOf]; omega
   refine Lv aH (nE X)<|aD<|aO<|ay<|aX q42<|av (au ((bG (Rk q) v.o ((m.g b) 3)).2))<|aD<|Wr<|sR<|bM<|sR<|qb<|bM<|sR<|aK (au ((bG (Rk q) v.o ((m.g b) 3)).2)) ?_;have O:aP v=a:=(by unfold aP; omega);have aa : ¬ 0<=m.core.kQ (aP v) v.req:=(by rw[O]; exact j_ V);have ne2 : ¬ (m.core.grant v.o v.of<0\/m.core.g (zy m.core v) 4≠0):=(by rw[ac]; exact fun h=>h.elim ab (fun h=>h ae));have ew:lQ m.core v=dw (fun x=>bG x v.o (m.g b 3)) (nX m.core (m.g b 2)) m.R K:=(by unfold lQ; rw[ac,show bT m.core.t m.core.tn (m.core.g b 2)=K from VY.symm]; rfl);have J:iH m.core v=(bG (Rk q) v.o (m.g b 3)).2:=by
    unfold iH; rw[b_ aa,b_ ne2,ew];have e1:=GH hRk ex1 X;rw[zS (k:=k+1) (by rw[e1]; exact X) K (by omega)]; exact e1
   exact⟨pz J.symm,b9,fun P=>L_ (J.symm.trans P) X⟩
  refine Lv aG (gW c54)<|aD<|aL<|Wx<|cu<|gJ<|cB<|sN<|Ws ?_;have hRK:dw (fun x=>bG x v.o (m.g b 3)) (nX m.core (m.g b 2)) m.R K=(Rk,0):=by rw[show K=k by omega]; exact hRk
  refine jS [0,1,2,3,5,6,4,7,8,9,10] [0,0,0,0,4,0,0,4,0,0,3] [(10,4,[4]),(10,7,[7])] fun QE lI Av => ?_;have⟨yU,DR,CB,DT,EB,tN,tO⟩:=jo lI qK nU ru xq su sS uH;have b12:=eH lI b7 F;refine bW Y<|bf (pt p)<|bf (pt p)<|bf (pf p 19)<|bW h5<|Rp (pf G 12) (fun _=>iV Q 12)<|Rs (.slice m.s.ga (m.s.gn) (m.s.gc)) (aN yU.aI 19) ?_;refine Rs (aF v.req) (aN EB.aI 12) ?_;obtain⟨V4,XA⟩:=tN.addr (by omega);have rM:Fx.Own QE B 66 5 (bL V4 m.s.gn m.s.gc) m.s.gn (Iy m):=tN.dL (K_ (fun q=>Value.slice q m.s.gn m.s.gc) XA);refine Rp (pf V4 (5*b)) (fun _=>dh 5 (hx:=(rfl.trans (K_ (fun q=>Value.slice q (m.s.gn) (m.s.gc)) XA))))<|bf (pf V4 (5*b+4))<|gF<|pU rM (5*b+4) (aF v.req) fun sQ nV s12 z3 => ?_;have jV:=gY s12 rM.Jw;have⟨nN,oH,nW,qL,rO,qM⟩:=Rc jV yU DR CB DT EB tO;have b13:=s12.below b12 (m_ F b12.size) rM.blk.1;have tQ:Fx.Own sQ B 66 5 (bL V4 m.s.gn m.s.gc) m.s.gn (flat 5 (fun C=>jf (aJ m.g b (aJ (m.g b) 4 v.req) C))):=nV.congr (fun pq hp=>(Fx.Gi (k:=b) (j:=4) (by omega) (by omega) pq hp).trans (bK (fun i N j hj=>PW i N j hj) pq hp));refine Ln<|bR<|Ws ?_;have yV:Fx.Own sQ B 66 5 (.slice m.s.ga (m.s.gn) (m.s.gc)) m.s.gn (flat 5 (fun C=>jf (aJ m.g b (aJ (m.g b) 4 v.req) C))):=tQ.dL (K_ (fun q=>Value.slice q m.s.gn m.s.gc) XA.symm);have uU:Fx.Own sQ B 28 1 (.slice (m.ra a) (m.rn a) (m.rc a)) (m.rn a) (rv .u64 (m.rq a)):=qL.1 a ha;have bra:=H.br a ha;refine Ap [0,1,4,5,8,9,12,16,17,2,3,6,7,10,11,13,14,15,18,19] [0,0,1,0,0,0,1,0,0,0,0,1,0,4,2,2,0,0,0,3] (iP [28]) vO Fx.iP.trans (fG := [(19,2,[2]),(19,6,[6]),(19,11,[11]),(14,13,[13]),(15,13,[14,13]),(19,13,[13]),(15,14,[14]),(18,14,[14]),(19,14,[14]),(18,15,[15]),(19,15,[15])]) (by kernel_rfl) (by kernel_rfl) (by kernel_rfl) (by kernel_rfl) (by kernel_rfl) fun wt4 qw Gs => ?_;have⟨yX,BA,xC,tT,ql,xR,xS,tV⟩:=lu qw nN oH nW qL rO qM yV uU;have b14:=eH qw b13 F;refine bW Y<|Rp (pt G) (fun _=>iV Q 0)<|bW Y<|Rp (pt G) (fun _=>iV Q 0)<|bf (pt p)<|bf (pf p 21)<|Rp (pf G 12) (fun _=>iV Q 12)<|bf (pt p)<|bf (pf p 21)<|Rd (v:=au v.o) (by rfl) (by rfl) (vO _) (fun I A=>bD (x:=bS v) rfl rfl (by kernel_rfl) (ql.jN A (by decide)).aI (i:=0) (by omega) (by omega) rfl) ?_;refine Rp (au a) (fun _=>gu)<|Rd (v:=au v.o) (by rfl) (by rfl) (vO _) (fun I A=>bD (x:=bS v) rfl rfl (by kernel_rfl) (ql.jN A (by decide)).aI (i:=0) (by omega) (by omega) rfl) ?_;refine Rp (au a) (fun _=>gu)<|Rp (pf p (a+21)) (fun _=>jE 6 1)<|Rd (v := .slice (m.ra a) (m.rn a) (m.rc a)) (by rfl) (by rfl) (vO _) (fun I A=>bD (x:=mF m) rfl rfl (by kernel_rfl) (yX.jN A (by decide)).aI (i:=a+21) (by omega) (by omega) (wu _ (by omega))) ?_;refine Rs (aF v.req) (aN ql.aI 12) ?_;refine Ct<|yN (vs := [(0,aF v.req)]) (s:=1) (zc:=rv .u64 (fun _=>0)) (y:=bI (fun j=>(rv .u64 (fun _=>0)) (j % 1)) (0*1) 1 (fun _=>aF v.req)) (by rfl) rfl rfl Tryz.underlying63 (by kernel_rfl) (by rfl) (by rfl) (by kernel_rfl) (by rw[bF (off:=0*1) (s:=1) (y:=fun _=>aF v.req) rfl (cells_one (by rfl)) (by rfl)]; rfl) rfl fun g3 FP zN BD Dl z4 => ?_;have⟨IE,EF,AB,EG,BF,zQ,IL⟩:=jo Dl.old yX BA xC tT xR xS tV;have b15:=eH Dl.old b14 F;have Eo:=jI zN b14.size;have⟨aip,aiq,air⟩:=JC zN yX.lt BA.lt ql.lt;have ais:(.slice (m.ra a) (m.rn a) (m.rc a):Value).ownBlock≠some g3:=by rw[zN]; exact tV.jT (z_ _)
  have Ma:=BD.lt;refine Ln ⟨Fx.iP.of_below Dl.old,?_⟩;refine Ct<|zh (B:=B) (s:=1) (bytes:=8) (k:=(m.rn a)) (m:=1) (v := .slice (m.ra a) (m.rn a) (m.rc a)) (x:=rv .u64 (m.rq a)) (by rfl) rfl rfl rfl Tryz.underlying63 (by kernel_rfl) (by kernel_rfl) rfl rfl IL BD.aI (yD (fun _=>rfl)) (by omega) (by omega) (by omega) (m_ F b15.size) fun g4 E Ag ho1 hg1 vU hlt1 => ?_;have tK:=zi hg1 IL;have⟨EH,EI,F6,BG,EJ⟩:=qX tK IE EF AB BF zQ;have Kg:Fx.Own Ag B 28 1 (.slice (some ⟨g4,0,none⟩) ((m.rn a)+1) E) ((m.rn a)+1) (rv .u64 (aJ (m.rq a) (m.rn a) v.req)):=(ho1.congr (fun j hj=>N8 j hj));have b16:Below B w Ag:=zf b15 hg1 (m_ F b15.size) (fun q hq=>(IL.ge hq).1);have BH:wz Ag B 6 { m with ra:=aJ m.ra a (some ⟨g4,0,none⟩),rn:=aJ m.rn a (m.rn a+1),rc:=aJ m.rc a E,rq:=aJ m.rq a (aJ (m.rq a) (m.rn a) v.req) }:=wz.app EG ha rfl rfl rfl rfl Kg hg1 vU;refine Ln ⟨tK,?_⟩;refine Rp (pf p (a+21)) (fun _=>jE 6 1)<|gF<|jm EH (a+21) (.slice (some ⟨g4,0,none⟩) ((m.rn a)+1) (E)) fun FZ ET s15 z5 => ?_;have zK:=gY s15 EH.ty;have⟨EK,zR,AJ,IG,TR⟩:=qX zK EI F6 BG EJ BH;have b17:=s15.below b16 (m_ F b16.size) (by omega);refine Ln<|bR<|ay<|av (au 0)<|aD<|Wr<|aK (au 0) ?_;have O:aP v=a:=by unfold aP; omega
  have aa : ¬ 0<=m.core.kQ (aP v) v.req:=by rw[O]; exact j_ V
  have ne2 : ¬ (m.core.grant v.o v.of<0\/m.core.g (zy m.core v) 4≠0):=by rw[ac]; exact fun h=>h.elim ab (fun h=>h ae)
  have ew:lQ m.core v=dw (fun x=>bG x v.o (m.g b 3)) (nX m.core (m.g b 2)) m.R K:=by unfold lQ; rw[ac,show bT m.core.t m.core.tn (m.core.g b 2)=K from VY.symm]; rfl
  have J:iH m.core v=0:=by unfold iH; rw[b_ aa,b_ ne2,ew,hRK]
  have eW:lQ m.core v=(Rk,0):=ew.trans hRK;refine⟨pz J.symm,b17,fun _=>⟨{ m with s := { m.s with ga:=m.s.ga,gn:=m.s.gn,gc:=m.s.gc },R:=Rk,g:=aJ m.g b (aJ (m.g b) 4 v.req),ra:=aJ m.ra a (some ⟨g4,0,none⟩),rn:=aJ m.rn a (m.rn a+1),rc:=aJ m.rc a E,rq:=aJ m.rq a (aJ (m.rq a) (m.rn a) v.req) },?_,?_⟩⟩
  ·unfold jY qm; rw[eW,O]; rw[ac]; rfl
  exact { c:=ET.to (Ki _ rfl _ _ _),n:=AJ,g:=IG,tc:=EK,t:=zR,r:=TR,pB:=Tq,tB:=Dp,bn:=bn,bg:=(by show m.s.gn<=1000000; omega),bt:=bt,br:=(fun i N=>by show aJ m.rn a (m.rn a+1) i<=1000000; have:=Zw i N; have:=Zw a ha; unfold aJ; split <;> omega) }
 refine Lv aH (nE ae)<|av aH<|aD<|aO<|ay<|av (au 12)<|aD<|Wr<|sR<|aK (au 12) ?_;have O:aP v=a:=by unfold aP; omega
 have aa : ¬ 0<=m.core.kQ (aP v) v.req:=by rw[O]; exact j_ V
 have J:iH m.core v=12:=by unfold iH; rw[b_ aa,ac]; exact d_ (.inr ae)
 exact⟨pz J.symm,b4,fun P=>by rw[J]at P; cases P⟩
namespace Rt
def wD(L:fP)(v:EvM):Int:=if L.node v.node<0 then 9 else if 140737488355328<L.R (L.node v.node).toNat (aP v)+v.aU then 6 else 0
def EU(L:fP)(v:EvM):fP := { L with R:=aJ L.R (L.node v.node).toNat (upd (L.R (L.node v.node).toNat) (aP v) (L.R (L.node v.node).toNat (aP v)+v.aU)) }
def xU(L:fP)(v:EvM):(Nat->Int) × Int:=dn (L.R (L.node v.node).toNat) v.o v.dst v.aU
def oI(L:fP)(v:EvM):Int:=if L.node v.node<0 then 9 else if v.dst<1\/6<v.dst\/L.inn (v.dst-1).toNat=false then 10 else(xU L v).2
def EW(L:fP)(v:EvM):fP := { L with R:=aJ L.R (L.node v.node).toNat (xU L v).1 }
noncomputable def dR(L:fP)(v:EvM):Int :=
 if v.kind=1 then jX L v else if v.kind=2 then wD L v else if v.kind=3 then iQ L v else if v.kind=4 then iH L v else if v.kind=5 then oI L v else 0
def iI(L:fP)(v:EvM):fP :=
 if v.kind=1 then qj L v else if v.kind=2 then EU L v else if v.kind=3 then lN L v else if v.kind=4 then jY L v else if v.kind=5 then EW L v
 else if v.kind=6 then { L with inn:=aJ L.inn (v.dst-1).toNat true } else { L with left:=aJ L.left (aP v) true }
theorem Mx{n q a:Nat}{id par:Nat->Int}{R:Nat->Nat->Int}{x:Int} : ∀ i,i<n -> ∀ j,j<56->Fx.qH (fun b=>lY (id b) (par b) (R b)) q (dA (lY (id q) (par q) (R q)) (a+2) (au x)) i j=lY (id i) (par i) (aJ R q (upd (R q) a x) i) j:=fun i _ j _=>by
 unfold Fx.qH;by_cases h:i=q
 ·subst h; rw[d_ rfl,NU rfl]; unfold aJ; rw[d_ rfl]
 ·rw[b_ h]; unfold aJ; rw[b_ h]
theorem XB(m:kX){i:Nat}(hi:i<6):dA (mF m) i (.bool true)=mF { m with s := { m.s with inn:=aJ m.s.inn i true } }:=by
 funext p
 unfold dA mF;by_cases h:p=i
 ·subst h; rw[d_ rfl,d_ (by omega)]; unfold pX; rw[d_ hi]; simp[aJ]
 rw[b_ h];by_cases a:p<20
 ·rw[d_ a,d_ a]; unfold pX;by_cases b:p<6
  ·rw[d_ b,d_ b]; simp[aJ,h]
  rw[b_ b,b_ b]
 rw[b_ a,b_ a]
theorem TT(m:kX){i q:Nat}(hi:i<6)(d:q=i+6):dA (mF m) q (.bool true)=mF { m with s := { m.s with left:=aJ m.s.left i true } }:=by
 subst d
 funext p
 unfold dA mF;by_cases h:p=i+6
 ·subst h; rw[d_ rfl,d_ (by omega)]; unfold pX; rw[b_ (by omega),d_ (by omega)]; simp[aJ]
 rw[b_ h];by_cases a:p<20
 ·rw[d_ a,d_ a]; unfold pX;by_cases b:p<6
  ·rw[d_ b,d_ b]
  rw[b_ b,b_ b];by_cases c:p<12
  ·rw[d_ c,d_ c]; simp[aJ,show ¬ p-6=i by omega]
  rw[b_ c,b_ c]
 rw[b_ a,b_ a]
theorem PX(m:kX){i q:Nat}(hi:i<6)(e:q=i+12)(x:Int):dA (mF m) q (aF x)=mF { m with s := { m.s with known:=aJ m.s.known i x } }:=by
 subst e
 funext p
 unfold dA mF;by_cases h:p=i+12
 ·subst h; rw[d_ rfl,d_ (by omega)]; unfold pX; rw[b_ (by omega),b_ (by omega),d_ (by omega)]; simp[aJ]
 rw[b_ h];by_cases a:p<20
 ·rw[d_ a,d_ a]; unfold pX;by_cases b:p<6
  ·rw[d_ b,d_ b]
  rw[b_ b,b_ b];by_cases c:p<12
  ·rw[d_ c,d_ c]
  rw[b_ c,b_ c];by_cases d:p<18
  ·rw[d_ d,d_ d]; simp[aJ,show ¬ p-12=i by omega]
  rw[b_ d,b_ d]
 rw[b_ a,b_ a]
theorem iY{v:EvM}(h:bO v=true):1<=v.kind/\v.kind<=7:=by
 unfold bO at h;simp only[R_]at h;have a:=h.2;unfold dJ at a;split at a; · omega
 split at a; · omega
 split at a; · omega
 split at a; · omega
 split at a; · omega
 split at a; · omega
 have:=h_ a; omega
theorem kR{v:EvM}(h:bO v=true)(c:v.kind=2\/v.kind=3\/v.kind=5):1<=v.aU/\v.aU<=1125899906842624:=by
 unfold bO at h;simp only[R_]at h;have a:=h.2;unfold dJ at a;rw[b_ (by omega)]at a;have b:someE v=true->1<=v.aU/\v.aU<=1125899906842624:=fun h=>by unfold someE at h; simpa using h
 split at a; · exact b a
 split at a; · rw[R_]at a; exact b a.1
 rw[b_ (by omega)]at a;split at a; · rw[R_]at a; exact b a.1
 omega
theorem GI{v:EvM}(h:bO v=true)(c:v.kind=6) : ∃ b:Nat,b<6/\v.dst=(b:Int)+1:=by
 unfold bO at h;simp only[R_]at h;have a:=h.2;unfold dJ at a;rw[b_ (by omega),b_ (by omega),b_ (by omega),b_ (by omega),b_ (by omega),d_ c]at a;unfold lK at a;rw[R_]at a;exact fA a.1
end Rt
set_option maxRecDepth 20000 in
set_option maxHeartbeats 2000000 in
theorem abU(m:kX)(B p a:Nat)(v:EvM)(w:World)(S:vF w B p m)(H:B<=w.heap.size)(ha:a<6)(ho:v.o=(a:Int)+1)(bnn:m.s.nn<=900)(bgg:m.s.gn<=900000)(Zw : ∀ i,i<6->m.rn i<=900000)(hTN : ∀ x,m.node x=bE m.t m.tn x)(hDx : ∀ x,∃ D,D<=1000/\bE m.t m.tn (bA m.t m.tn D x)<0)(hv:gy v)(hmay:bO v=true)(hR : ∀ k,k<m.s.nn->may (m.R k)=true) :
 Calls Tryz.prog 54 #[(pt p),.agg (aC 14 (bS v))] w fun e w'=>e = .returned (au (dR m.core v))/\Below B w w'/\(dR m.core v=0 -> ∃ m',m'.core=iI m.core v/\vF w' B p m'):=by
 have Tq:=S.pB;have Dp:=S.tB;have bn:=S.bn;have bg:=S.bg;have bt:=S.bt;have lpp:p<w.heap.size:=S.c.lt;have QD:m.tb<w.heap.size:=S.tc.lt;have hvk:=hv.kind;have hvt:=hv.dst;have hkr:=iY hmay;obtain⟨D,hD2,hD⟩:=hDx v.node;refine Kent Tryz.func54 152 ?_;refine ay<|rU fun I w1 mD W s1 z1 => ?_;have C:=bH s1.old S;have X:=eH s1.old (Below.refl B w) H;have uG:=jI mD (Below.refl B w).size;have wO:=W.lt;refine av (au 0)<|aD<|Ws<|ay<|av (pf I 8)<|Lv (.int .u8 (v.kind)) (aN W.aI 8)<|aD<|Wb<|ay ?_;by_cases F:v.kind=1
 ·refine Lv aH (eZ F)<|av aH<|aD<|aO<|ay<|av (pt p)<|Lv (.agg (aC 14 (bS v))) (gI W.aI 0)<|eB (Xj m B p a D v _ C (m_ H X.size) ha ho bnn hD hD2) _ rfl ?_;rintro w2 ⟨hb1,hr1⟩;have b2:Below B w w2:=X.trans hb1;refine av (au (jX m.core v))<|aD<|Wr<|bM<|sR<|aK (au (jX m.core v)) ?_;have A:dR m.core v=jX m.core v:=by unfold dR; rw[d_ F]
  have ec:iI m.core v=qj m.core v:=by unfold iI; rw[d_ F]
  exact⟨pz A.symm,b2,fun E=>by rw[ec]; exact hr1 (A.symm.trans E)⟩
 refine Lv aG (fM F)<|av aG<|aD<|aL<|ay ?_;by_cases G:v.kind=2
 ·refine Lv aH (eZ G)<|av aH<|aD<|aO<|Ws ?_;have aa:=C.c;have ac:=C.n;have ab:=C.g;have ae:=C.tc;have af:=C.t;have ad:=C.r;refine Wl<|av (pt p)<|av (pf I 9)<|Lv (aF v.node) (aN W.aI 9) ?_;have Mv:Cx w1 p m := { c:=aa.aI,an:=ac.arr,ag:=ab.arr,tc:=ae.aI,at2:=af.arr,ar:=fun i hi=>(ad.1 i hi).arr,bn:=(by show m.s.nn<=1000000; omega),bg:=bg,bt:=(by show m.tn<=1000000; omega),br:=S.br };refine eB (Iz m p v.node _ Mv) _ rfl ?_;intro w3 hb2;have⟨m3,m4,m5,m6,m7,m8,m9⟩:=jo hb2 W aa ac ab ae af ad;have b3:=eH hb2 X H;refine av (au (m.node v.node))<|aD<|Ws<|ay<|av (au (m.node v.node)) ?_;by_cases c23:(m.node v.node)<0
  ·refine Lv aH (gV c23)<|aD<|aO<|ay<|av (au 9)<|aD<|Wr<|sR<|bM<|sR<|aK (au 9) ?_;have P:aP v=a:=(by unfold aP; omega);have A:dR m.core v=9:=(by unfold dR; rw[b_ F,d_ G]; unfold wD; exact d_ c23);exact⟨pz A.symm,b3,fun E=>by rw[A]at E; cases E⟩
  obtain⟨d,hkq,V,_⟩:=DV (m:=m) (x:=v.node) (by omega);have V:m.node v.node=(d:Int):=V;have ekN:(m.core.node v.node).toNat=d:=by show(m.node v.node).toNat=d; rw[V]; rfl
  refine Lv aG (gW c23)<|aD<|aL<|Wk<|sN<|Ws<|Ws ?_;have hRb:=iw (hR d hkq) a (by omega);have hab:=kR hmay (.inl G);refine xL<|aT (pt p)<|aT (pt p)<|aT (pt p)<|aT (pf p 18)<|Qv (.slice m.s.na (m.s.nn) (m.s.nc)) (fun l f=>aN (m4.aI.dr f) 18)<|dX (K_ (Value.int .i64) V)<|aT (pt I)<|Qv (au v.o) (fun l f=>aN (m3.aI.dr f) 0)<|Qv (au a) (fun l f=>gu) ?_;obtain⟨Q,eq1⟩:=m5.addr (by omega);have m10:Fx.Own w3 B 61 56 (bL Q m.s.nn m.s.nc) m.s.nn (Jk m):=m5.dL (K_ (fun q=>Value.slice q m.s.nn m.s.nc) eq1);refine Qv (pf Q (56*d)) (fun l f=>dh 56 (hx:=(rfl.trans (K_ (fun q=>Value.slice q (m.s.nn) (m.s.nc)) eq1))))<|aT (pf Q (56*d+2))<|aT (pf Q (56*d+2))<|Qv (pf Q (a+56*d+2)) (fun l f=>jE 6 1)<|Qv (au ((m.R d) a)) (fun l f=>aN (m10.aI.dr f) (a+56*d+2) (Fx.dW (k:=d) (j:=a+2) (by omega) (by omega) (Ez _ _ _ (by omega))))<|aT (pf I 11)<|Qv (au v.aU) (fun l f=>aN (m3.aI.dr f) 11)<|Qv (au (((m.R d) a)+v.aU)) (fun l f=>eY) ?_;by_cases c41:140737488355328<(((m.R d) a)+v.aU)
  ·refine Qv aH (fun l f=>mK c41)<|Qn ?_;rintro _ ⟨L,rfl⟩;obtain⟨Cw,oG⟩ : ∃ l,l=World.drewN w3 L:=⟨_,rfl⟩;rw[<- oG];have s3:Stp w3.heap.size w3 Cw:=(by rw[oG]; exact Sb (jl w3 L));have b4:=eH s3.old b3 H;clear oG;refine sN<|aO<|ay<|av (au 6)<|aD<|Wr<|sR<|bM<|sR<|aK (au 6) ?_;have P:aP v=a:=(by unfold aP; omega);have A:dR m.core v=6:=(by unfold dR; rw[b_ F,d_ G]; unfold wD; rw[ekN,P,b_ (show ¬ m.core.node v.node<0 from c23)]; exact d_ c41);exact⟨pz A.symm,b4,fun E=>by rw[A]at E; cases E⟩
  refine Qv aG (fun l f=>mM c41)<|Qn ?_;rintro _ ⟨L,rfl⟩;obtain⟨wq2,rJ⟩ : ∃ l,l=World.drewN w3 L:=⟨_,rfl⟩;rw[<- rJ];have s4:Stp w3.heap.size w3 wq2:=by rw[rJ]; exact Sb (jl w3 L)
  have⟨m18,m19,m20,m21,m22,m23,m24⟩:=jo s4.old m3 m4 m6 m7 m8 m9 m10;have b5:=eH s4.old b3 H;clear rJ;refine sN<|aL<|Wk<|sN ?_;refine jS [0,1,2,3,5,6,14,4,9,10,11,17,18,19,7,8,12,13,15,16,20,21] [0,0,0,0,4,0,0,4,0,0,0,0,0,4,0,4,0,0,0,0,0,3] [(21,4,[4]),(21,7,[7]),(21,13,[13]),(21,15,[15])] fun qI dY iF => ?_;have⟨ni,nZ,oz,og,oC,pE,mE⟩:=jo dY m18 m19 m20 m21 m22 m23 m24;have b6:=eH dY b5 H;refine bf (pt p)<|bf (pt p)<|bf (pt p)<|bf (pf p 18)<|bW (K_ (Value.int .i64) V)<|bf (pt I)<|bf (pf I 11)<|Rs (.slice m.s.na (m.s.nn) (m.s.nc)) (aN nZ.aI 18) ?_;refine Rp (pf Q (56*d)) (fun _=>dh 56 (hx:=(rfl.trans (K_ (fun q=>Value.slice q (m.s.nn) (m.s.nc)) eq1))))<|bf (pf Q (56*d+2))<|bf (pf Q (56*d+2))<|Rp (pf Q (56*d)) (fun _=>dh 56 (hx:=(rfl.trans (K_ (fun q=>Value.slice q (m.s.nn) (m.s.nc)) eq1))))<|bf (pf Q (56*d+2))<|bf (pf Q (56*d+2))<|Rs (au v.o) (aN ni.aI 0) ?_;refine Rp (au a) (fun _=>gu)<|Rp (pf Q (a+56*d+2)) (fun _=>jE 6 1)<|Rs (au ((m.R d) a)) (aN mE.aI (a+56*d+2) (Fx.dW (k:=d) (j:=a+2) (by omega) (by omega) (Ez _ _ _ (by omega)))) ?_;refine Rs (au v.aU) (aN ni.aI 11) ?_;refine Rp (au (((m.R d) a)+v.aU)) (fun _=>eY)<|Rp (pf Q (a+56*d+2)) (fun _=>jE 6 1)<|gF<|pU mE (a+56*d+2) (au (((m.R d) a)+v.aU)) fun w4 m32 s6 z2 => ?_;have gK:=gY s6 mE.Jw;have⟨oN,pW,qx,rW,qy⟩:=qX gK nZ oz og oC pE;have b7:=s6.below b6 (m_ H b6.size) mE.blk.1;have pF:Fx.Own w4 B 61 56 (bL Q m.s.nn m.s.nc) m.s.nn (flat 56 (fun O=>lY (m.id O) (m.par O) (aJ m.R d (upd (m.R d) a (((m.R d) a)+v.aU)) O))):=m32.congr (fun pq hp=>(Fx.Gi (k:=d) (j:=a+2) (by omega) (by omega) pq hp).trans (bK (fun i hi j hj=>Mx (a:=a) (x:=((m.R d) a)+v.aU) (q:=d) (id:=m.id) (par:=m.par) (R:=m.R) i hi j hj) pq hp));refine Ln<|Rn<|bQ<|sN<|ay<|av (au 0)<|aD<|Wr<|aK (au 0) ?_;have P:aP v=a:=by unfold aP; omega
  have sj:Fx.Own w4 B 61 56 (.slice m.s.na (m.s.nn) (m.s.nc)) m.s.nn (flat 56 (fun O=>lY (m.id O) (m.par O) (aJ m.R d (upd (m.R d) a (((m.R d) a)+v.aU)) O))):=pF.dL (K_ (fun q=>Value.slice q m.s.nn m.s.nc) eq1.symm);have A:dR m.core v=0:=by unfold dR; rw[b_ F,d_ G]; unfold wD; rw[ekN,P,b_ (show ¬ m.core.node v.node<0 from c23)]; exact b_ c41
  refine⟨pz A.symm,b7,fun _=>⟨{ m with R:=aJ m.R d (upd (m.R d) a (m.R d a+v.aU)) },by symm; unfold iI; rw[b_ F,d_ G]; unfold EU; rw[ekN,P]; rfl,?_⟩⟩;exact { c:=oN,n:=sj,g:=pW,tc:=qx,t:=rW,r:=qy,pB:=Tq,tB:=Dp,bn:=bn,bg:=bg,bt:=bt,br:=S.br }
 refine Lv aG (fM G)<|av aG<|aD<|aL<|ay ?_;by_cases K:v.kind=3
 ·refine Lv aH (eZ K)<|av aH<|aD<|aO<|ay<|av (pt p)<|Lv (.agg (aC 14 (bS v))) (gI W.aI 0)<|eB (Xq m B p a D v _ C (m_ H X.size) ha ho bgg Zw hTN hD hD2) _ rfl ?_;rintro w5 ⟨hb3,hr2⟩;have b8:Below B w w5:=X.trans hb3;refine av (au (iQ m.core v))<|aD<|Wr<|bM<|sR<|aK (au (iQ m.core v)) ?_;have A:dR m.core v=iQ m.core v:=by unfold dR; rw[b_ F,b_ G,d_ K]
  have ec:iI m.core v=lN m.core v:=by unfold iI; rw[b_ F,b_ G,d_ K]
  exact⟨pz A.symm,b8,fun E=>by rw[ec]; exact hr2 (A.symm.trans E)⟩
 refine Lv aG (fM K)<|av aG<|aD<|aL<|ay ?_;by_cases N:v.kind=4
 ·refine Lv aH (eZ N)<|av aH<|aD<|aO<|ay<|av (pt p)<|Lv (.agg (aC 14 (bS v))) (gI W.aI 0)<|eB (Xy m B p a  v _ C (m_ H X.size) ha ho bgg Zw hTN hDx) _ rfl ?_;rintro w6 ⟨hb4,hr3⟩;have J:Below B w w6:=X.trans hb4;refine av (au (iH m.core v))<|aD<|Wr<|bM<|sR<|aK (au (iH m.core v)) ?_;have A:dR m.core v=iH m.core v:=by unfold dR; rw[b_ F,b_ G,b_ K,d_ N]
  have ec:iI m.core v=jY m.core v:=by unfold iI; rw[b_ F,b_ G,b_ K,d_ N]
  exact⟨pz A.symm,J,fun E=>by rw[ec]; exact hr3 (A.symm.trans E)⟩
 refine Lv aG (fM N)<|av aG<|aD<|aL<|ay ?_;by_cases U:v.kind=5
 ·refine Lv aH (eZ U)<|av aH<|aD<|aO<|Ws ?_;have aa:=C.c;have ac:=C.n;have ab:=C.g;have ae:=C.tc;have af:=C.t;have ad:=C.r;refine Wl<|av (pt p)<|av (pf I 9)<|Lv (aF v.node) (aN W.aI 9) ?_;have TN:Cx w1 p m := { c:=aa.aI,an:=ac.arr,ag:=ab.arr,tc:=ae.aI,at2:=af.arr,ar:=fun i hi=>(ad.1 i hi).arr,bn:=(by show m.s.nn<=1000000; omega),bg:=bg,bt:=(by show m.tn<=1000000; omega),br:=S.br };refine eB (Iz m p v.node _ TN) _ rfl ?_;intro M hb5;have⟨nk,mV,nu,rX,qK,nU,ru⟩:=jo hb5 W aa ac ab ae af ad;have b10:=eH hb5 X H;refine av (au (m.node v.node))<|aD<|Ws<|ay<|av (au (m.node v.node)) ?_;by_cases c80:(m.node v.node)<0
  ·refine Lv aH (gV c80)<|aD<|aO<|ay<|av (au 9)<|aD<|Wr<|sR<|bM<|sR<|aK (au 9) ?_;have P:aP v=a:=(by unfold aP; omega);have A:dR m.core v=9:=(by unfold dR; rw[b_ F,b_ G,b_ K,b_ N,d_ U]; unfold oI; exact d_ c80);exact⟨pz A.symm,b10,fun E=>by rw[A]at E; cases E⟩
  obtain⟨d,hkq,V,_⟩:=DV (m:=m) (x:=v.node) (by omega);have V:m.node v.node=(d:Int):=V;have ekN:(m.core.node v.node).toNat=d:=by show(m.node v.node).toNat=d; rw[V]; rfl
  refine Lv aG (gW c80)<|aD<|aL<|Wk<|sN<|Ws<|Ws ?_;refine xL<|aT (pf I 10)<|Qv (au v.dst) (fun l f=>aN (nk.aI.dr f) 10) ?_;by_cases c83:v.dst<1
  ·refine Qv aH (fun l f=>gV c83)<|aT aH<|aQ<|aQ<|aQ<|aT aH<|aT aH<|aQ<|aQ<|aQ<|aQ<|aQ<|aQ<|aQ<|aQ<|aQ<|aQ<|aT aH<|Qn ?_;rintro _ ⟨L,rfl⟩;obtain⟨Jm,zU⟩ : ∃ l,l=World.drewN M L:=⟨_,rfl⟩;rw[<- zU];have s8:Stp M.heap.size M Jm:=(by rw[zU]; exact Sb (jl M L));have b11:=eH s8.old b10 H;clear zU;refine sN<|aO<|ay<|av (au 10)<|aD<|Wr<|sR<|bM<|sR<|aK (au 10) ?_;have P:aP v=a:=(by unfold aP; omega);have A:dR m.core v=10:=(by unfold dR; rw[b_ F,b_ G,b_ K,b_ N,d_ U]; unfold oI; rw[b_ (show ¬ m.core.node v.node<0 from c80)]; exact d_ (.inl c83));exact⟨pz A.symm,b11,fun E=>by rw[A]at E; cases E⟩
  refine Qv aG (fun l f=>gW c83)<|aT aG<|aT (pf I 10)<|Qv (au v.dst) (fun l f=>aN (nk.aI.dr f) 10) ?_;by_cases c87:6<v.dst
  ·refine Qv aH (fun l f=>mK c87)<|aT aH<|aT aH<|aQ<|aQ<|aQ<|aQ<|aQ<|aQ<|aQ<|aQ<|aQ<|aQ<|aT aH<|Qn ?_;rintro _ ⟨L,rfl⟩;obtain⟨TL,zV⟩ : ∃ l,l=World.drewN M L:=⟨_,rfl⟩;rw[<- zV];have s9:Stp M.heap.size M TL:=(by rw[zV]; exact Sb (jl M L));have b12:=eH s9.old b10 H;clear zV;refine sN<|aO<|ay<|av (au 10)<|aD<|Wr<|sR<|bM<|sR<|aK (au 10) ?_;have P:aP v=a:=(by unfold aP; omega);have A:dR m.core v=10:=(by unfold dR; rw[b_ F,b_ G,b_ K,b_ N,d_ U]; unfold oI; rw[b_ (show ¬ m.core.node v.node<0 from c80)]; exact d_ (.inr (.inl c87)));exact⟨pz A.symm,b12,fun E=>by rw[A]at E; cases E⟩
  obtain⟨J,hb9,eb9⟩ : ∃ b:Nat,b<6/\v.dst=(b:Int)+1:=⟨(v.dst-1).toNat,by omega,by omega⟩;refine Qv aG (fun l f=>mM c87)<|aT aG<|aT aG<|aT (pt p)<|aT (pf I 10)<|Qv (au v.dst) (fun l f=>aN (nk.aI.dr f) 10)<|Qv (au J) (fun l f=>gu)<|aT (pt p)<|aT (pt p)<|aT (pt p)<|Qv (pf p J) (fun l f=>jE 6 1) ?_;by_cases c98:(m.s.inn J)=true
  ·refine Qv aH (fun l f=>aN (mV.aI.dr f) J ((lM _ (by omega) (Ew _ (by omega))).trans (K_ Value.bool c98)))<|aT aG<|aT aG<|Qn ?_;rintro _ ⟨L,rfl⟩;obtain⟨wq5,Mw⟩ : ∃ l,l=World.drewN M L:=⟨_,rfl⟩;rw[<- Mw];have s10:Stp M.heap.size M wq5:=(by rw[Mw]; exact Sb (jl M L));have⟨nS,sw,m64,vV,vE,vW,vX⟩:=jo s10.old nk mV nu rX qK nU ru;have b13:=eH s10.old b10 H;clear Mw;refine sN<|aL<|Wk<|sN<|Ws ?_;obtain⟨Z,DW⟩:=m64.addr (by omega);have qz:Fx.Own wq5 B 61 56 (bL Z m.s.nn m.s.nc) m.s.nn (Jk m):=m64.dL (K_ (fun q=>Value.slice q m.s.nn m.s.nc) DW);refine qW (T:=59) (T':=59) (a := .tmp 7) (v := .tmp 118) (m:=54) (z:=rv .i64 (fun _=>0)) (y:=rv .i64 ((dn (m.R d) v.o v.dst v.aU).1)) (u := .agg (aC 54 (rv .i64 ((dn (m.R d) v.o v.dst v.aU).1)))) 19 20 (List.replicate 22 (0,2,[],[])) #[(pt p),(pt p),(pt p),(pf p 18),.slice m.s.na (m.s.nn) (m.s.nc),au (d:Int),(pf Z (56*d)),(pf Z (56*d+2)),.agg (aC 54 (rv .i64 (m.R d))),(pt I),au v.o,(pf I 10),au v.dst,(pf I 11),au v.aU,.tuple #[.agg (aC 54 (rv .i64 ((dn (m.R d) v.o v.dst v.aU).1))),au ((dn (m.R d) v.o v.dst v.aU).2)],.tuple #[.agg (aC 54 (rv .i64 ((dn (m.R d) v.o v.dst v.aU).1))),au ((dn (m.R d) v.o v.dst v.aU).2)],.agg (aC 54 (rv .i64 ((dn (m.R d) v.o v.dst v.aU).1))),au ((dn (m.R d) v.o v.dst v.aU).2),undef,undef,au ((dn (m.R d) v.o v.dst v.aU).2)] (by kernel_rfl) (by kernel_rfl) (by kernel_rfl) (by kernel_rfl) (by kernel_rfl) (by kernel_rfl) rfl (by kernel_rfl) rfl rfl (by kernel_rfl) (fun Y=>(show ev _ (.tmp 7)=(pt Y)from by kernel_rfl)) (fun Y=>(show ev _ (.tmp 118) = .agg (aC 54 (rv .i64 ((dn (m.R d) v.o v.dst v.aU).1)))from by kernel_rfl)) (bJ _ _) (fun _ _=>rfl) (by kernel_rfl) (fun Y => ?_) ?_
   ·refine⟨?_,?_,?_,?_,?_,?_,?_,?_,?_,?_,?_,?_,?_,?_,?_,?_,?_,?_,?_,?_,?_,?_,trivial⟩
    ·exact .inr (.inr pV)
    ·exact .inr (.inr pV)
    ·exact .inr (.inr pV)
    ·exact .inr (.inr pV)
    ·exact .inr (.inr (rZ (.slice m.s.na (m.s.nn) (m.s.nc)) fun l f=>bD (x:=mF m) rfl (show ev _ (.tmp 105)=(pf p 18)from by kernel_rfl) (by kernel_rfl) (sw.aI.below f (by have:=sw.lt; omega)) (i:=18) (by omega) (by omega) rfl))
    ·exact .inr (.inr (rZ (au d) fun l f=>fD rfl ((bY (by kernel_rfl)).trans (K_ (Value.int .i64) V))))
    ·exact .inr (.inr (rZ (pf Z (56*d)) fun l f=>dS rfl ((show ev _ (.tmp 106) = .slice m.s.na (m.s.nn) (m.s.nc)from by kernel_rfl).trans (K_ (fun q=>Value.slice q (m.s.nn) (m.s.nc)) DW)) (show ev _ (.tmp 107)=au (d:Int)from by kernel_rfl) Tryz.underlying50 (s:=56) (by kernel_rfl) (by omega) (by omega) (by omega)))
    ·exact .inr (.inr pV)
    ·exact .inr (.inr (rZ (.agg (aC 54 (rv .i64 (m.R d)))) fun l f=>eX (x:=Jk m) (y:=rv .i64 (m.R d)) rfl (show ev _ (.tmp 109)=(pf Z (56*d+2))from by kernel_rfl) (by kernel_rfl) (by kernel_rfl) (qz.aI.below f (by have:=qz.lt; omega)) (i:=56*d+2) (by omega) (by omega) (fun jq hjq=>(Fx.nA (k:=d) (j:=2+jq) (by omega) (by omega)).trans ((fun jq _=>Iw _ _ _ jq) jq hjq))))
    ·exact .inr (.inr pV)
    ·exact .inr (.inr (rZ (au v.o) fun l f=>bD (x:=bS v) rfl (show ev _ (.tmp 111)=(pt I)from by kernel_rfl) (by kernel_rfl) (nS.aI.below f (by have:=nS.lt; omega)) (i:=0) (by omega) (by omega) rfl))
    ·exact .inr (.inr pV)
    ·exact .inr (.inr (rZ (au v.dst) fun l f=>bD (x:=bS v) rfl (show ev _ (.tmp 113)=(pf I 10)from by kernel_rfl) (by kernel_rfl) (nS.aI.below f (by have:=nS.lt; omega)) (i:=10) (by omega) (by omega) rfl))
    ·exact .inr (.inr pV)
    ·exact .inr (.inr (rZ (au v.aU) fun l f=>bD (x:=bS v) rfl (show ev _ (.tmp 115)=(pf I 11)from by kernel_rfl) (by kernel_rfl) (nS.aI.below f (by have:=nS.lt; omega)) (i:=11) (by omega) (by omega) rfl))
    ·exact .inr (.inr (Fx.H9 (v := .tuple #[.agg (aC 54 (rv .i64 ((dn (m.R d) v.o v.dst v.aU).1))),au ((dn (m.R d) v.o v.dst v.aU).2)]) (by kernel_rfl) (by kernel_rfl) (Fx.qbC (fun l f=>rC (args := [.agg (aC 54 (rv .i64 (m.R d))),au v.o,au v.dst,au v.aU]) rfl (Fx.QO (show ev _ (.tmp 110) = .agg (aC 54 (rv .i64 (m.R d)))from by kernel_rfl) (show ev _ (.tmp 112)=au v.o from by kernel_rfl) (show ev _ (.tmp 114)=au v.dst from by kernel_rfl) (show ev _ (.tmp 116)=au v.aU from by kernel_rfl)) Tryz.func81 rfl rfl) (fun l f=>(Xp (m.R d) v.o v.dst v.aU _).mono fun e v2 h=>⟨h.1,h.2⟩))))
    ·exact .inr (.inr pV)
    ·exact .inr (.inr pV)
    ·exact .inr (.inr pV)
    ·exact .inl rfl
    ·exact .inr (.inl rfl)
    exact .inr (.inr pV)
   rintro Y w8 f1 hf1 sG sD hb6;have amx:I≠Y:=t_ (n_ (nS.lt) sG);have abT:p≠Y:=t_ (n_ (sw.lt) sG);have amy:m.tb≠Y:=t_ (n_ (vE.lt) sG);have amA:Z≠Y:=t_ (n_ (qz.lt) sG);have⟨sF,sV,xu,uK,wT,wU⟩:=uy hb6 sw vV vE vW vX qz;have b14:=eH hb6 b13 H;have sG:w.heap.size<=Y:=m_ b13.size sG;have Bg:=sD.lt;have q1:f1 0=(pt p):=(by rw[hf1]; kernel_rfl);have q2:f1 4=au 0:=(by rw[hf1]; kernel_rfl);have q3:f1 6=au (d:Int):=(by rw[hf1]; exact(bY (by kernel_rfl)).trans (K_ (Value.int .i64) V));have q4:f1 7=(pt Y):=(by rw[hf1]; kernel_rfl);have q5:f1 8=au ((dn (m.R d) v.o v.dst v.aU).2):=(by rw[hf1]; kernel_rfl);clear hf1;refine sN<|Ws<|ay<|aX q5 ?_;by_cases XC:((dn (m.R d) v.o v.dst v.aU).2)=0
   ·refine Lv aG (kr XC)<|aD<|aL<|Wk<|sN ?_;refine jS [0,1,2,3,5,4,6,7,8,9] [0,0,0,0,4,0,4,0,0,3] [(9,4,[4]),(9,6,[6])] fun Cu fV nH => ?_;have⟨wV,vY,uL,wW,yR,xA,zu⟩:=jo fV sF sV xu uK wT wU sD;have b15:=eH fV b14 H;refine bW q1<|bf (pt p)<|bf (pt p)<|bf (pf p 18)<|bW q3<|Rs (.slice m.s.na (m.s.nn) (m.s.nc)) (aN wV.aI 18) ?_;refine Rs (.agg (aC 54 (rv .i64 ((dn (m.R d) v.o v.dst v.aU).1)))) (gI zu.aI 0 (ha:=q4)) ?_;refine Rp (pf Z (56*d)) (fun _=>dh 56 (hx:=(rfl.trans (K_ (fun q=>Value.slice q (m.s.nn) (m.s.nc)) DW))))<|bf (pf Z (56*d+2))<|gF<|zI xA (56*d+2) fun w9 zL s13 z3 => ?_;have jV:=gY s13 xA.Jw;have⟨yS,yT,zM,Dm,Bz⟩:=qX jV wV vY uL wW yR;have b16:=s13.below b15 (m_ H b15.size) xA.blk.1;have Bh:Fx.Own w9 B 61 56 (bL Z m.s.nn m.s.nc) m.s.nn (flat 56 (fun O=>lY (m.id O) (m.par O) (aJ m.R d ((dn (m.R d) v.o v.dst v.aU).1) O))):=zL.congr (fun pq hp=>(Fx.Bl (k:=d) (j:=2) (by omega) (by omega) pq hp).trans (bK (fun i hi j hj=>BJ (r:=(dn (m.R d) v.o v.dst v.aU).1) (q:=d) (id:=m.id) (par:=m.par) (R:=m.R) i hi j hj) pq hp));refine Ln<|Rn<|bQ<|sN<|ay<|av (au 0)<|aD<|Wr<|aK (au 0) ?_;have P:aP v=a:=(by unfold aP; omega);have eto : ¬ (v.dst<1\/6<v.dst\/m.core.inn (v.dst-1).toNat=false):=fun h=>h.elim c83 (fun h=>h.elim c87 (fun h=>by rw[show(v.dst-1).toNat=J by omega]at h; rw[show m.core.inn J=true from c98]at h; cases h))
    have eW:xU m.core v=dn (m.R d) v.o v.dst v.aU:=(by unfold xU; rw[ekN]; rfl);have yU:Fx.Own w9 B 61 56 (.slice m.s.na (m.s.nn) (m.s.nc)) m.s.nn (flat 56 (fun O=>lY (m.id O) (m.par O) (aJ m.R d ((dn (m.R d) v.o v.dst v.aU).1) O))):=Bh.dL (K_ (fun q=>Value.slice q m.s.nn m.s.nc) DW.symm);have A:dR m.core v=0:=(by unfold dR; rw[b_ F,b_ G,b_ K,b_ N,d_ U]; unfold oI; rw[b_ (show ¬ m.core.node v.node<0 from c80),b_ eto,eW]; exact XC);refine⟨pz A.symm,b16,fun _=>⟨{ m with R:=aJ m.R d (dn (m.R d) v.o v.dst v.aU).1 },by symm; unfold iI; rw[b_ F,b_ G,b_ K,b_ N,d_ U]; unfold EW; rw[ekN,eW]; rfl,?_⟩⟩;exact { c:=yS,n:=yU,g:=yT,tc:=zM,t:=Dm,r:=Bz,pB:=Tq,tB:=Dp,bn:=bn,bg:=bg,bt:=bt,br:=S.br }
   refine Lv aH (nE XC)<|aD<|aO<|ay<|aX q5<|av (au ((dn (m.R d) v.o v.dst v.aU).2))<|aD<|Wr<|sR<|bM<|sR<|aK (au ((dn (m.R d) v.o v.dst v.aU).2)) ?_;have P:aP v=a:=(by unfold aP; omega);have eto : ¬ (v.dst<1\/6<v.dst\/m.core.inn (v.dst-1).toNat=false):=fun h=>h.elim c83 (fun h=>h.elim c87 (fun h=>by rw[show(v.dst-1).toNat=J by omega]at h; rw[show m.core.inn J=true from c98]at h; cases h))
   have eW:xU m.core v=dn (m.R d) v.o v.dst v.aU:=(by unfold xU; rw[ekN]; rfl);have A:dR m.core v=(dn (m.R d) v.o v.dst v.aU).2:=(by unfold dR; rw[b_ F,b_ G,b_ K,b_ N,d_ U]; unfold oI; rw[b_ (show ¬ m.core.node v.node<0 from c80),b_ eto,eW]);exact⟨pz A.symm,b14,fun E=>by rw[A]at E; exact L_ E XC⟩
  rw[S_]at c98;refine Qv aG (fun l f=>aN (mV.aI.dr f) J ((lM _ (by omega) (Ew _ (by omega))).trans (K_ Value.bool c98)))<|aT aH<|aT aH<|Qn ?_;rintro _ ⟨L,rfl⟩;obtain⟨wq6,abW⟩ : ∃ l,l=World.drewN M L:=⟨_,rfl⟩;rw[<- abW];have Dl:Stp M.heap.size M wq6:=by rw[abW]; exact Sb (jl M L)
  have b17:=eH Dl.old b10 H;clear abW;refine sN<|aO<|ay<|av (au 10)<|aD<|Wr<|sR<|bM<|sR<|aK (au 10) ?_;have P:aP v=a:=by unfold aP; omega
  have A:dR m.core v=10:=by unfold dR; rw[b_ F,b_ G,b_ K,b_ N,d_ U]; unfold oI; rw[b_ (show ¬ m.core.node v.node<0 from c80)]; exact d_ (.inr (.inr (by rw[show(v.dst-1).toNat=J by omega]; exact c98)))
  exact⟨pz A.symm,b17,fun E=>by rw[A]at E; cases E⟩
 refine Lv aG (fM U)<|av aG<|aD<|aL<|ay ?_;by_cases TU:v.kind=6
 ·refine Lv aH (eZ TU)<|av aH<|aD<|aO ?_;have aa:=C.c;have ac:=C.n;have ab:=C.g;have ae:=C.tc;have af:=C.t;have ad:=C.r;obtain⟨J,hb9,eb9⟩:=GI hmay TU;refine jS [0,1,4,5,6,2,3,7,8] [0,0,4,0,0,0,0,0,3] [(8,2,[2])] fun QE lI Av => ?_;have⟨rM,nV,nN,oH,nW,qL,rO⟩:=jo lI W aa ac ab ae af ad;have b18:=eH lI X H;refine bf (pt p)<|bf (pf I 10)<|bf (pt p)<|bf (pt p)<|bf (pt p)<|Rs (au v.dst) (aN rM.aI 10) ?_;refine Rp (au J) (fun _=>gu)<|Rp (pf p J) (fun _=>jE 6 1)<|gF<|jm nV J aH fun sQ uT s16 z4 => ?_;have tK:=gY s16 nV.ty;have⟨tQ,yV,uU,yX,BA⟩:=qX tK nN oH nW qL rO;have b19:=s16.below b18 (m_ H b18.size) (by omega);refine Ln<|Rn<|bQ<|sN<|ay<|av (au 0)<|aD<|Wr<|aK (au 0) ?_;have P:aP v=a:=by unfold aP; omega
  have A:dR m.core v=0:=by unfold dR; rw[b_ F,b_ G,b_ K,b_ N,b_ U]
  refine⟨pz A.symm,b19,fun _=>⟨{ m with s := { m.s with inn:=aJ m.s.inn J true } },by symm; unfold iI; rw[b_ F,b_ G,b_ K,b_ N,b_ U,d_ TU]; rw[show(v.dst-1).toNat=J by omega]; rfl,?_⟩⟩;exact { c:=uT.to (XB m hb9),n:=tQ,g:=yV,tc:=uU,t:=yX,r:=BA,pB:=Tq,tB:=Dp,bn:=bn,bg:=bg,bt:=bt,br:=S.br }
 refine Lv aG (fM TU)<|av aG<|aD<|aL<|ay<|Lv aH aer<|av aH<|aD<|aO ?_;have aa:=C.c;have ac:=C.n;have ab:=C.g;have ae:=C.tc;have af:=C.t;have ad:=C.r;refine jS [0,1,4,5,6,2,3,7,8] [0,0,4,0,0,0,0,0,3] [(8,2,[2])] fun wt4 qw Gs => ?_;have⟨xC,tT,ql,xR,xS,tV,BD⟩:=jo qw W aa ac ab ae af ad;have b20:=eH qw X H;refine bf (pt p)<|bf (pt I)<|bf (pt p)<|bf (pt p)<|bf (pf p 6)<|Rs (au v.o) (aN xC.aI 0) ?_;refine Rp (au a) (fun _=>gu)<|Rp (pf p (a+6)) (fun _=>jE 6 1)<|gF<|jm tT (a+6) aH fun FP IE Lm z5 => ?_;have zK:=gY Lm tT.ty;have⟨AB,EG,F5,BF,zQ⟩:=qX zK ql xR xS tV BD;have L8:=Lm.below b20 (m_ H b20.size) (by omega);refine Ln<|Rn<|bQ<|sN<|ay<|av (au 0)<|aD<|Wr<|aK (au 0) ?_;have P:aP v=a:=by unfold aP; omega
 have A:dR m.core v=0:=by unfold dR; rw[b_ F,b_ G,b_ K,b_ N,b_ U]
 refine⟨pz A.symm,L8,fun _=>⟨{ m with s := { m.s with left:=aJ m.s.left a true } },by symm; unfold iI; rw[b_ F,b_ G,b_ K,b_ N,b_ U,b_ TU]; rw[P]; rfl,?_⟩⟩;exact { c:=IE.to (TT m ha rfl),n:=AB,g:=EG,tc:=F5,t:=BF,r:=zQ,pB:=Tq,tB:=Dp,bn:=bn,bg:=bg,bt:=bt,br:=S.br }
namespace Rt
structure abX(L:fP)(T:Nat):Prop where
 nn:L.nn<=33
 gn:L.gn<=T
 rn : ∀ i,i<6->L.rn i<=T
 tn : ∀ x,L.node x=bE L.t L.tn x
 dx : ∀ x,∃ D,D<=1000/\bE L.t L.tn (bA L.t L.tn D x)<0
 may : ∀ k,k<L.nn->may (L.R k)=true
 kn:F3 L.known
open Classical in
noncomputable def bP(L:fP)(v:EvM):Int :=
 if bO v=false then 1 else if lX L.known v=true then 14 else if dI L.known v=false then 13 else if L.inn (aP v)=false\/L.left (aP v)=true then 10 else dR L v
def GJ(L:fP)(v:EvM):fP := { L with known:=aJ L.known (aP v) (L.known (aP v)+1) }
open Classical in
noncomputable def aA(L:fP)(v:EvM):fP:=if bP L v=0 then GJ (iI L v) v else L
theorem pJ(L:fP)(v:EvM):(iI L v).known=L.known:=by
 unfold iI;split; · unfold qj; rfl
 split; · unfold EU; rfl
 split; · unfold lN qm; rfl
 split; · unfold jY qm; rfl
 split; · unfold EW; rfl
 split <;> rfl
end Rt
set_option maxRecDepth 20000 in
set_option maxHeartbeats 2000000 in
theorem N9(m:kX)(B p T:Nat)(v:EvM)(w:World)(L:vF w B p m)(z:gy v)(I:abX m.core T)(hT:T<=900000) :
 Calls Tryz.prog 25 #[(pt p),.agg (aC 14 (bS v))] w fun e w' => ∃ p' m',e = .returned (.tuple #[(pt p'),au (bP m.core v)])/\m'.core=aA m.core v/\vF w' B p' m'/\Below w.heap.size w w':=by
 have O:=L.c;have lpp:p<w.heap.size:=O.lt;have hpB:=L.pB;refine Kent Tryz.func25 73 ?_;refine ay<|rU fun g1 w1 mD U s1 z1 => ?_;have⟨F,d,Y⟩:=ku s1.old L O (Below.refl w.heap.size w);have uG:=iE mD;have Zu:=cO mD O.lt;have wO:=U.lt;refine av (.pointer none)<|av (au 0)<|aD<|Ws<|ay<|Lv (.agg (aC 14 (bS v))) (gI U.aI 0) ?_;by_cases l:(bO v)=true
 ·refine eB (Gv v _ z) aH (by rw[l]) ?_;intro w2 hb1;have⟨m4,m5,m6,Z⟩:=oZ hb1 F d U Y;refine av aG<|aD<|aL<|Wk<|sN<|Ws<|Ws ?_;refine mO<|aT (pt p)<|aT (pt p)<|aT (pt p)<|aT (pf p 12)<|Qv (.agg (aC 6 (rv .u64 m.s.known))) (fun W A=>gI (m5.cb A) 12 (fun j S=>lM _ (by omega) (mW _ S (by omega))))<|Qv (.agg (aC 14 (bS v))) (fun W A=>gI (m6.cb A) 0) ?_;by_cases u:(lX m.s.known v)=true
  ·refine yO (fun _ _=>SG m.s.known v _ z) aH (by rw[u])<|Qn ?_;intro WI sP;have⟨m7,b3⟩:=fC sP m4 Z;refine sN<|aO<|ay<|av (pt p)<|av (pt p)<|av (au 14)<|aD<|Wr<|sR<|aK (.tuple #[(pt p),au 14]) ?_;have b:bP m.core v=14:=(by unfold bP; rw[b_ (by rw[l]; decide)]; exact d_ u);have q:aA m.core v=m.core:=(by unfold aA; rw[b_ (by rw[b]; decide)]);exact⟨p,m,by rw[b],q.symm,m7,b3⟩
  rw[S_]at u;refine yO (fun _ _=>SG m.s.known v _ z) aG (by rw[u])<|Qn ?_;intro Zi wP;have⟨m10,m11,m12,b4⟩:=oZ wP m4 m5 m6 Z;refine sN<|aL<|Wk<|sN<|Ws<|Ws ?_;refine mO<|aT (pt p)<|aT (pt p)<|aT (pt p)<|aT (pf p 12)<|Qv (.agg (aC 6 (rv .u64 m.s.known))) (fun W A=>gI (m11.cb A) 12 (fun j S=>lM _ (by omega) (mW _ S (by omega))))<|Qv (.agg (aC 14 (bS v))) (fun W A=>gI (m12.cb A) 0) ?_;by_cases x:(dI m.s.known v)=true
  ·refine yO (fun _ _=>NJ m.s.known v _ z I.kn) aH (by rw[x])<|aT aG<|Qn ?_;intro N wQ;have⟨K,M,m15,G⟩:=oZ wQ m10 m11 m12 b4;refine sN<|aL<|Wk<|sN<|Ws ?_;obtain⟨a,P,ho⟩:=fA (iL l);refine Wl<|av (pt g1)<|Lv (au v.o) (aN m15.aI 0)<|Lv (au a) gu<|av (au a)<|aD<|Ws<|ay<|av (pt p)<|av (au a)<|av (pt p)<|av (pt p)<|av (pt p)<|Lv (pf p a) (jE 6 1) ?_;by_cases C:(m.s.inn a)=true
   ·refine Lv aH (aN M.aI a ((lM _ (by omega) (Ew _ (by omega))).trans (K_ Value.bool C)))<|av aG<|av aG<|av (pt p)<|av (au a)<|av (pt p)<|av (pt p)<|av (pf p 6)<|Lv (pf p (a+6)) (jE 6 1) ?_;by_cases D:(m.s.left a)=true
    ·refine Lv aH (aN M.aI (a+6) ((lM _ (by omega) (J8 _ (by omega) (by omega))).trans (K_ Value.bool D)))<|av aH<|aD<|aO<|ay<|av (pt p)<|av (pt p)<|av (au 10)<|aD<|Wr<|sR<|aK (.tuple #[(pt p),au 10]) ?_;have y:aP v=a:=(by unfold aP; omega);have b:bP m.core v=10:=(by unfold bP; rw[b_ (by rw[l]; decide),b_ (by rw[show lX m.core.known v=false from u]; decide),b_ (by rw[show dI m.core.known v=true from x]; decide),y]; exact d_ (.inr D));have q:aA m.core v=m.core:=(by unfold aA; rw[b_ (by rw[b]; decide)]);exact⟨p,m,by rw[b],q.symm,K,G⟩
    rw[S_]at D;refine Lv aG (aN M.aI (a+6) ((lM _ (by omega) (J8 _ (by omega) (by omega))).trans (K_ Value.bool D)))<|av aG<|aD<|aL<|Wk<|sN<|ay<|av (pt p)<|lS (abr m p _ K.ldg (by have:=I.nn; have e:m.core.nn=m.s.nn:=rfl; omega) K.bt) ?_;rintro e w3 ⟨f,F,J,R,hL2,Q⟩;refine⟨(pt f),J,?_⟩;clear J;have⟨m18,b6⟩:=fC Q m15 G;have E:abX F.core T:=(by rw[R]; exact I);refine av (pt f)<|aD<|Ws ?_;have amC:=hL2;refine Wl<|av (pt f)<|Lv (.agg (aC 14 (bS v))) (gI m18.aI 0)<|lS (abU F N.heap.size f a v _ amC Q.size P ho (by have h9:F.s.nn<=33:=E.nn; omega) (m_ E.gn hT) (fun i hi=>m_ (E.rn i hi) hT) E.tn E.dx z l E.may) ?_;rintro e X ⟨J,hbd,hL3⟩;refine⟨au (dR m.core v),by rw[<- R]; exact J,?_⟩;clear J;rw[R]at hL3;have b8:Below N.heap.size N X:=Q.trans hbd;have b7:Below w.heap.size w X:=b6.trans (hbd.mono (m_ (z_ _) G.size));have m19:vF X B p m:=K.up b8;refine av (au (dR m.core v))<|aD<|Ws<|ay<|av (au (dR m.core v)) ?_;by_cases H:(dR m.core v)=0
    ·refine Lv aG (kr H)<|aD<|aL<|Wk<|sN<|Ws ?_;obtain⟨d,hc3,k⟩:=hL3 H;have hMc:=k.c;have hMn:=k.n;have hMg:=k.g;have hMt:=k.tc;have amE:=k.t;have hMr:=k.r;have ek3:d.s.known=m.s.known:=(by show d.core.known=_; rw[hc3,pJ]; rfl);have hk3:=I.kn a P;have hk3:0<=d.s.known a/\d.s.known a<1099511627776:=(by rw[ek3]; exact hk3);have lp2:=k.pB;have sw1:=G.size;refine jS [0,1,2,3,4,5,8,9,10,6,7,11,12] [0,0,0,0,0,0,4,0,0,0,0,0,3] [(12,6,[6])] fun qI dY iF => ?_;have⟨V,m21,m22,m23,m24,ni,b9⟩:=jo dY hMc hMn hMg hMt amE hMr b7;refine bf (pt f)<|bf (au a)<|bf (pt f)<|bf (pt f)<|bf (pf f 12)<|Rp (pf f (a+12)) (fun _=>jE 6 1)<|bf (pt f)<|bf (pt f)<|bf (pf f 12)<|Rs (aF (d.s.known a)) (aN V.aI (a+12) (lM _ (by omega) (mW _ (by omega) (by omega)))) ?_;refine Rp (aF (d.s.known a+1)) (fun _=>eY)<|Rp (pf f (a+12)) (fun _=>jE 6 1)<|gF<|jm V (a+12) (aF (d.s.known a+1)) fun w5 nZ s8 z2 => ?_;have gK:=gY s8 V.ty;have⟨oz,og,oC,pE,mE⟩:=qX gK m21 m22 m23 m24 ni;have b10:=s8.below b9 b9.size (by omega);refine Ln<|bR<|ay<|av (pt f)<|av (pt f)<|av (au 0)<|aD<|Wr<|aK (.tuple #[(pt f),au 0]) ?_;have y:aP v=a:=(by unfold aP; omega);have b:bP m.core v=0:=by unfold bP; rw[b_ (by rw[l]; decide),b_ (by rw[show lX m.core.known v=false from u]; decide),b_ (by rw[show dI m.core.known v=true from x]; decide),y]; rw[b_ (show ¬ (m.core.inn a=false\/m.core.left a=true)from fun h=>h.elim (fun h=>by rw[show m.core.inn a=true from C]at h; cases h) (fun h=>by rw[show m.core.left a=false from D]at h; cases h))]; exact H
     have hfin:vF w5 N.heap.size f { d with s := { d.s with known:=aJ d.s.known a (d.s.known a+1) } } := { c:=nZ.to (PX d P rfl _),n:=oz,g:=og,tc:=oC,t:=pE,r:=mE,pB:=k.pB,tB:=k.tB,bn:=k.bn,bg:=k.bg,bt:=k.bt,br:=k.br };refine⟨f,{ d with s := { d.s with known:=aJ d.s.known a (d.s.known a+1) } },by rw[b],?_,hfin.mono (by have:=L.pB; have:=lpp; omega),b10⟩;unfold aA; rw[d_ b]; unfold GJ; rw[y,pJ,<- hc3,show m.core.known=d.s.known from ek3.symm]; rfl
    refine Lv aH (nE H)<|aD<|aO<|ay<|av (pt p)<|av (au (dR m.core v))<|av (pt p)<|av (au (dR m.core v))<|aD<|Wr<|sR<|aK (.tuple #[(pt p),au (dR m.core v)]) ?_;have y:aP v=a:=(by unfold aP; omega);have b:bP m.core v=dR m.core v:=by unfold bP; rw[b_ (by rw[l]; decide),b_ (by rw[show lX m.core.known v=false from u]; decide),b_ (by rw[show dI m.core.known v=true from x]; decide),y]; rw[b_ (show ¬ (m.core.inn a=false\/m.core.left a=true)from fun h=>h.elim (fun h=>by rw[show m.core.inn a=true from C]at h; cases h) (fun h=>by rw[show m.core.left a=false from D]at h; cases h))]
    have q:aA m.core v=m.core:=(by unfold aA; rw[b_ (by rw[b]; exact H)]);exact⟨p,m,by rw[b],q.symm,m19,b7⟩
   rw[S_]at C;refine Lv aG (aN M.aI a ((lM _ (by omega) (Ew _ (by omega))).trans (K_ Value.bool C)))<|av aH<|av aH<|dB<|dB<|dB<|dB<|dB<|dB<|dB<|av aH<|aD<|aO<|ay<|av (pt p)<|av (pt p)<|av (au 10)<|aD<|Wr<|sR<|aK (.tuple #[(pt p),au 10]) ?_;have y:aP v=a:=(by unfold aP; omega);have b:bP m.core v=10:=(by unfold bP; rw[b_ (by rw[l]; decide),b_ (by rw[show lX m.core.known v=false from u]; decide),b_ (by rw[show dI m.core.known v=true from x]; decide),y]; exact d_ (.inl C));have q:aA m.core v=m.core:=(by unfold aA; rw[b_ (by rw[b]; decide)]);exact⟨p,m,by rw[b],q.symm,K,G⟩
  rw[S_]at x;refine yO (fun _ _=>NJ m.s.known v _ z I.kn) aG (by rw[x])<|aT aH<|Qn ?_;intro wb4 Aw;have⟨m32,b11⟩:=fC Aw m10 b4;refine sN<|aO<|ay<|av (pt p)<|av (pt p)<|av (au 13)<|aD<|Wr<|sR<|aK (.tuple #[(pt p),au 13]) ?_;have b:bP m.core v=13:=by unfold bP; rw[b_ (by rw[l]; decide),b_ (by rw[show lX m.core.known v=false from u]; decide)]; exact d_ x
  have q:aA m.core v=m.core:=by unfold aA; rw[b_ (by rw[b]; decide)]
  exact⟨p,m,by rw[b],q.symm,m32,b11⟩
 rw[S_]at l;refine eB (Gv v _ z) aG (by rw[l]) ?_;intro w6 hb2;have⟨pW,b12⟩:=fC hb2 F Y;refine av aH<|aD<|aO<|ay<|av (pt p)<|av (pt p)<|av (au 1)<|aD<|Wr<|sR<|aK (.tuple #[(pt p),au 1]) ?_;have b:bP m.core v=1:=by unfold bP; exact d_ l
 have q:aA m.core v=m.core:=by unfold aA; rw[b_ (by rw[b]; decide)]
 exact⟨p,m,by rw[b],q.symm,pW,b12⟩
end Go.Proofs.YtahbiajdgealnaaGreatDoor
