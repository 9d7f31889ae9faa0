/-
  What the proof of the law rests on, part 4: walks of functions, and plain laws; each says its conditions itself.
-/
import Derived.Laws.StructEq
import Derived.Test.YtahbiajdgealnaaGreatDoorZF3
set_option maxHeartbeats 1600000
set_option linter.unusedVariables false
set_option linter.unusedSimpArgs false
namespace Go.Proofs.YtahbiajdgealnaaGreatDoor
open Go.RowKit Rt
open Fx (dY fJ bF dA dO eU Lv sN Ln Ws Qv Wl Rp Wr Sb Wk rC sR Rs Rn Rd Rk Wb Wx Wo Wt qA Qn xI yG DL qN gZ yI uM vX vU yF CO Aw rv aA aQ bI ev cO Stp aU flat dB aX iQ aZ down jT bL bJ cells_one iU bP vK jN iy aY dK bO bQ cu cB gL gF qm gP)
namespace Rt
def BN(t:Nat->Nat->Int)(n k:Nat):Nat->Nat->Int:=fun i=>if i<=k then(if i<n then t i else fun _=>0)else t (i-1)
def oU(t:Nat->Nat->Int)(k:Nat)(id par:Int):Nat->Nat->Int:=fun i=>if i<k then t i else if i=k then(fun j=>if j=0 then id else par)else t (i-1)
theorem tY{w:World}{B tb tn tc:Nat}{ta:Option Addr}{t:Nat->Nat->Int}(b:aQ w tb 1 (fun _ => .slice ta tn tc) 123)(a:Fx.Own w B 128 2 (.slice ta tn tc) tn (rv .u64 (kW t)))(j:tn<=1000):EK w tb ta tn tc t where
 tc:=b.aH
 t:=fun k h=>by
  obtain⟨g,d,e,_,_,_,c⟩:=a.form (by omega);simp only[Value.slice.injEq,true_and]at e;refine⟨g,0,e.1,fun i f => ?_⟩;have:=c (2*k+i) (by omega);rw[H_]at this;rw[H_,this];show some (Value.int .u64 (t ((2*k+i) / 2) ((2*k+i) % 2)))=some (Value.int .u64 (t k i));rw[show(2*k+i) / 2=k by omega,show(2*k+i) % 2=i by omega]
 bt:=by omega
theorem xO(t:Nat->Nat->Int)(n:Nat) : ∀ j,j<(n+1)*2->iy (rv .u64 (kW t)) (n*2) (bI (fun j=>rv .u64 (fun _=>0) (j % 2)) (0*2) 2 (rv .u64 (fun _=>0))) j=rv .u64 (kW (BN t n n)) j:=fun j a=>by
 unfold iy;by_cases h:j<n*2
 ·rw[d_ h];show Value.int .u64 (t (j / 2) (j % 2))=Value.int .u64 (BN t n n (j / 2) (j % 2));unfold BN; rw[d_ (by omega),d_ (by omega)]
 ·rw[b_ h];unfold bI; rw[d_ (by omega)];show Value.int .u64 0=Value.int .u64 (BN t n n (j / 2) (j % 2));unfold BN; rw[d_ (by omega),b_ (by omega)]
theorem zo{t:Nat->Nat->Int}{n k j p:Nat}(a:p=2*j)(h:j<k)(b:k<=n):rv .u64 (kW (BN t n k)) p=aD (t j 0):=by
 subst a;show Value.int .u64 (BN t n k (2*j / 2) (2*j % 2))=_;unfold BN; rw[d_ (by omega),d_ (by omega),show 2*j / 2=j by omega,show 2*j % 2=0 by omega]
theorem Uj{t:Nat->Nat->Int}{n k j i:Nat}(h:j<k)(a:k<=n)(hi:i<2):rv .u64 (kW (BN t n k)) (2*j+i)=rv .u64 (t j) i:=by
 show Value.int .u64 (BN t n k ((2*j+i) / 2) ((2*j+i) % 2))=Value.int .u64 (t j i);unfold BN; rw[d_ (by omega),d_ (by omega),show(2*j+i) / 2=j by omega,show(2*j+i) % 2=i by omega]
theorem yJ{t:Nat->Nat->Int}{n k j:Nat}(e:k=j+1)(_hk:k<=n) : ∀ p,p<(n+1)*2->bI (rv .u64 (kW (BN t n k))) (2*k) 2 (rv .u64 (t j)) p=rv .u64 (kW (BN t n j)) p:=fun p b=>by
 unfold bI;by_cases h:2*k<=p/\p<2*k+2
 ·rw[d_ h];show Value.int .u64 (t j (p-2*k))=Value.int .u64 (BN t n j (p / 2) (p % 2));unfold BN; rw[b_ (by omega),show p / 2-1=j by omega,show p-2*k=p % 2 by omega]
 ·rw[b_ h];show Value.int .u64 (BN t n k (p / 2) (p % 2))=Value.int .u64 (BN t n j (p / 2) (p % 2));unfold BN;by_cases a:p / 2<=j
  ·rw[d_ (by omega),d_ a]
  ·rw[b_ (by omega),b_ a]
theorem tN{t:Nat->Nat->Int}{n k:Nat}{id par:Int}(_hk:k<=n) : ∀ p,p<(n+1)*2->bI (rv .u64 (kW (BN t n k))) (2*k) 2 (bI (bI (rv .u64 (fun _=>0)) 0 1 (fun _=>aD id)) 1 1 (fun _=>aD par)) p=rv .u64 (kW (oU t k id par)) p:=fun p c=>by
 by_cases h:2*k<=p/\p<2*k+2
 ·rw[bI,d_ h];show _=Value.int .u64 (oU t k id par (p / 2) (p % 2));unfold oU; rw[b_ (by omega),d_ (by omega)];by_cases b:p=2*k
  ·subst b; rw[show 2*k-2*k=0 by omega,d_ (by omega)]; rfl
  ·rw[show p-2*k=1 by omega,b_ (by omega)]; rfl
 ·rw[bI,b_ h];show Value.int .u64 (BN t n k (p / 2) (p % 2))=Value.int .u64 (oU t k id par (p / 2) (p % 2));unfold BN oU;by_cases a:p / 2<k
  ·rw[d_ (by omega),d_ (by omega),d_ a]
  ·rw[b_ (by omega),b_ a,b_ (by omega)]
def CU(t:Nat->Nat->Int)(tn:Nat)(x:Int):Prop := ∀ i,i<4->0<=bE t tn (bD t tn i x)
theorem KE{t:Nat->Nat->Int}{tn K:Nat}{x:Int}(h : ∀ i,i<K->0<=bE t tn (bD t tn i x))(a:4<=K):CU t tn x:=fun i b=>h i (by omega)
theorem D5{t:Nat->Nat->Int}{tn K:Nat}{x:Int}(h:bE t tn (bD t tn K x)<0)(a:K<4) : ¬ CU t tn x:=fun b=>by have:=b K a; omega
open Classical in
noncomputable def jA(t:Nat->Nat->Int)(tn:Nat)(id par:Int):Int:=if id=0 then 1 else if 0<=bE t tn id then 14 else if par≠0/\bE t tn par<0 then 9 else if 32<=tn\/CU t tn par then 6 else 0
theorem OE{t:Nat->Nat->Int}{n k j:Nat}{id:Int}(e:k=j+1)(h : ∀ i,k<=i->i<n->id<t i 0)(c:id<t j 0) : ∀ i,j<=i->i<n->id<t i 0:=fun i d b=>by
 by_cases a:i=j
 ·subst a; exact c
 ·exact h i (by omega) b
end Rt
set_option maxRecDepth 10000 in
theorem agD(B:Nat)(tb:Nat)(ta:Option Addr)(tn tc:Nat)(t:Nat->Nat->Int)(id par:Int)(D:Nat)(w:World)(P:aQ w tb 1 (fun _ => .slice ta tn tc) 123)(X:Fx.Own w B 128 2 (.slice ta tn tc) tn (rv .u64 (kW t)))(hne:(Value.slice ta tn tc).ownBlock≠some tb)(hB:B<=w.heap.size)(Q:tn<=1000)(hD:bE t tn (bD t tn D par)<0)(hD2:D<=1000) :
 Calls Tryz.prog 107 #[(pt tb),aD id,aD par] w fun e w'=>e = .returned (au (jA t tn id par))/\jT (fun k=>k=tb\/(Value.slice ta tn tc).ownBlock=some k) w w'/\((jA t tn id par≠0/\aQ w' tb 1 (fun _ => .slice ta tn tc) 123/\Fx.Own w' B 128 2 (.slice ta tn tc) tn (rv .u64 (kW t)))\/(jA t tn id par=0 /\ ∃ g cap,aQ w' tb 1 (fun _=>bM g (tn+1) cap) 123/\Fx.Own w' B 128 2 (bM g (tn+1) cap) (tn+1) (rv .u64 (kW (oU t (down (fun i=>decide (id<t i 0)) tn) id par)))/\(Value.slice (some ⟨g,0,none⟩) (tn+1) cap).ownBlock≠some tb)):=by
 have lp:tb<w.heap.size:=P.lt;refine Kent Tryz.func107 89 ?_;refine ay<|av (au 0)<|aC<|Ws<|ay<|av (aD id) ?_;by_cases q:id=0
 ·refine Lv aG (fu q)<|aC<|aN<|ay<|av (au 1)<|aC<|Wr<|sR<|aJ (au 1) ?_;have c:jA t tn id par=1:=by unfold jA; rw[d_ q]
  exact⟨oO c.symm,(uM (fun k=>k=tb\/(Value.slice ta tn tc).ownBlock=some k) w),.inl ⟨by rw[c]; decide,P,X⟩⟩
 refine Lv aF (fQ q)<|aC<|aK<|Wk<|sN<|Ws<|ay<|av (pt tb)<|av (aD id) ?_;by_cases p:(decide (0<=bE t tn id))=true
 ·refine dZ (OD tb ta tn tc t id _ (tY P X Q)) aG (by rw[p]) ?_;intro w1 hb1;have s1:=Sb hb1;have⟨m1,m2⟩:=fD hb1 P X;have b1:=(uM (fun k=>k=tb\/(Value.slice ta tn tc).ownBlock=some k) w).then s1 (.inr (uM (fun k=>k=tb\/(Value.slice ta tn tc).ownBlock=some k) w).size);refine aC<|aN<|ay<|av (au 14)<|aC<|Wr<|sR<|aJ (au 14) ?_;have c:jA t tn id par=14:=by unfold jA; rw[b_ q,d_ (h_ p)]
  exact⟨oO c.symm,b1,.inl ⟨by rw[c]; decide,m1,m2⟩⟩
 rw[U_]at p;refine dZ (OD tb ta tn tc t id _ (tY P X Q)) aF (by rw[p]) ?_;intro w2 hb2;have s2:=Sb hb2;have⟨E,L⟩:=fD hb2 P X;have F:=(uM (fun k=>k=tb\/(Value.slice ta tn tc).ownBlock=some k) w).then s2 (.inr (uM (fun k=>k=tb\/(Value.slice ta tn tc).ownBlock=some k) w).size);refine aC<|aK<|Wk<|sN<|Ws<|ay<|av (aD par) ?_;by_cases G:par=0
 ·refine Lv aF (jP G)<|av aF<|bX<|bX<|bX<|bX<|av aF<|aC<|aK<|Wk<|sN<|Ws<|ay<|av (pt tb)<|av (pt tb)<|av (pt tb)<|Lv (.slice ta (tn) (tc)) (aL E.aH 0)<|av (au tn) ?_;by_cases T:32<=(tn:Int)
  ·refine Lv aG (ku T)<|av aG<|bX<|bX<|bX<|bX<|bX<|av aG<|aC<|aN<|ay<|av (au 6)<|aC<|Wr<|sR<|aJ (au 6) ?_;have c:jA t tn id par=6:=(by unfold jA; rw[b_ q,b_ (j_ p),b_ (fun h=>h.1 G),d_ (.inl (by omega))]);exact⟨oO c.symm,F,.inl ⟨by rw[c]; decide,E,L⟩⟩
  refine Lv aF (jU T)<|av aF<|av (pt tb)<|av (aD par)<|mE (Ja tb ta tn tc t par D _ (tY E L Q) hD hD2) ?_;rintro e w3 ⟨K,vv,Y,hown,sD,W,hb3⟩;obtain⟨a1,n,rfl⟩:=hown.val;refine⟨.slice a1 K n,Y,?_⟩;clear Y hown;have s3:=Sb hb3;have⟨m5,m6⟩:=fD hb3 E L;have b3:=F.then s3 (.inr F.size);refine av (au K) ?_;by_cases U:4<=(K:Int)
  ·refine Lv aG (ku U)<|av aG<|aC<|aN<|ay<|av (au 6)<|aC<|Wr<|sR<|aJ (au 6) ?_;have c:jA t tn id par=6:=(by unfold jA; rw[b_ q,b_ (j_ p),b_ (fun h=>h.1 G),d_ (.inr (KE sD (by omega)))]);exact⟨oO c.symm,b3,.inl ⟨by rw[c]; decide,m5,m6⟩⟩
  refine Lv aF (jU U)<|av aF<|aC<|aK<|Wk<|sN<|ay<|av (pt tb)<|av (pt tb)<|av (pt tb)<|Lv (.slice ta (tn) (tc)) (aL m5.aH 0)<|av (au tn)<|av (au tn)<|aC<|ay<|av (pt tb)<|av (pt tb)<|av (pt tb)<|av (pt tb)<|Lv (.slice ta (tn) (tc)) (aL m5.aH 0)<|av (.agg (aA 2 (rv .u64 (fun _=>0))))<|xI (vs := [(0,.agg (aA 2 (rv .u64 (fun _=>0))))]) (s:=2) (zc:=rv .u64 (fun _=>0)) (y:=bI (fun j=>(rv .u64 (fun _=>0)) (j % 2)) (0*2) 2 (rv .u64 (fun _=>0))) (by rfl) rfl rfl Tryz.underlying121 (by kernel_rfl) (by rfl) (by rfl) (by kernel_rfl) (by rw[aZ (off:=0*2) (s:=2) (y:=rv .u64 (fun _=>0)) rfl (bJ _ _) (by rfl)]; rfl) rfl fun g1 w4 lK m7 s4 z1 => ?_;have⟨m8,m9⟩:=fD s4.old m5 m6;have b4:=b3.then s4 (.inr b3.size);have sU:=iV lK b3.size;have KD:=bZ lK m5.lt;have agE:(.slice ta tn tc:Value).ownBlock≠some g1:=by rw[lK]; exact m6.jm (A_ _)
  have uq:=m7.lt;refine yG (B:=B) (s:=2) (bytes:=16) (k:=tn) (m:=1) (v := .slice ta tn tc) (by rfl) rfl rfl rfl Tryz.underlying121 (by kernel_rfl) (by kernel_rfl) rfl rfl m9 m7.aH (fun j Z=>by rcases j with _|_|j <;> first|rfl|omega) (by omega) (by omega) (by omega) (m_ hB b4.size) fun d n w5 ho1 hg1 sS hlt1 => ?_
  have m11:aQ w5 tb 1 (fun _ => .slice ta tn tc) 123:=m8.grown hg1 hne;have agF:tb≠d:=fun e=>sS.elim (fun x=>hne (by rw[x,e])) (fun x=>by have:=m8.lt; omega);have m10:Fx.Own w5 B 128 2 (bM d (tn+1) n) (tn+1) (rv .u64 (kW (BN t tn tn))):=ho1.congr (xO t tn);have b5:jT (fun k=>k=tb\/(Value.slice ta tn tc).ownBlock=some k) w w5:=Fx.jT.grow b4 hg1 (fun k e => .inl (.inr e));have aco:(fun k=>k=tb\/(Value.slice ta tn tc).ownBlock=some k) d\/w.heap.size<=d:=sS.elim (fun e => .inl (.inr e)) (fun e => .inr (by rw[e]; exact b4.size));refine av (pt tb)<|av (pt tb)<|jd m11 0 (bM d (tn+1) n) fun w6 m12 s5 z2 => ?_;have m13:aQ w6 tb 1 (fun _=>bM d (tn+1) n) 123:=dK m12;have m14:=m10.abd s5 (by omega);have b6:=b5.then s5 (.inl (.inl rfl));refine aC<|Ws<|Wb<|Wo (fun f M => ∃ k:Nat,k<=tn/\(∀ i,k<=i->i<tn->id<t i 0)/\f 0=(pt tb)/\f 1=aD id/\f 2=aD par/\f 7=au (k:Int)/\aQ M tb 1 (fun _=>bM d (tn+1) n) 123/\Fx.Own M B 128 2 (bM d (tn+1) n) (tn+1) (rv .u64 (kW (BN t tn k)))/\jT (fun k=>k=tb\/(Value.slice ta tn tc).ownBlock=some k) w M) (fun f _=>(intOf (f 7)).toNat) ⟨tn,by omega,(fun i r N=>N_ r (by omega)),(by rfl),Fx.ic,Fx.ic,Fx.ic,m13,m14,b6⟩ ?_;rintro f1 w7 ⟨k,hk,J,r,N,h3,A,R,m16,b7⟩;refine Ws<|ay<|aT A ?_;by_cases V:0<(k:Int)
  ·obtain⟨j,H⟩ : ∃ j,k=j+1:=⟨k-1,by omega⟩;refine Lv aG (mW V)<|av aG<|aT r<|av (pt tb)<|av (pt tb)<|Lv (bM d (tn+1) n) (aL R.aH 0)<|aT A<|Lv (au j) gH<|Lv (pf d (2*j)) (dh 2)<|av (pf d (2*j))<|Lv (aD (t j 0)) (aL m16.aH (2*j) (zo (by omega) (by omega) (by omega)))<|aT N ?_;by_cases u:id<(t j 0)
   ·refine Lv aG (mW u)<|av aG<|aC<|aN<|Wk<|sN<|Wb<|Ws ?_;refine Wt 14 (by kernel_rfl) (by kernel_rfl) fun pQ dR iG => ?_;have s6:Stp w7.heap.size w7 pQ:=Sb dR;have⟨m17,m18⟩:=fD dR R m16;have b8:=b7.then s6 (.inr b7.size);refine qN (pt tb) (R7 r)<|Es (pt tb)<|Es (pt tb)<|qN (bM d (tn+1) n) (aL m17.aH 0)<|qN (au k) (R7 A)<|qN (pt tb) (R7 r)<|Es (pt tb)<|Es (pt tb)<|qN (bM d (tn+1) n) (aL m17.aH 0)<|qN (au k) (R7 A)<|qN (au j) gH<|qN (pf d (2*j)) (dh 2)<|qN (.agg (aA 2 (rv .u64 (t j)))) (fP m18.aH (2*j) (fun i hi=>Uj (by omega) (by omega) hi))<|qN (pf d (2*k)) (dh 2)<|Fx.St.nil ?_;refine zJ m18 (2*k) fun w8 m19 s7 z3 => ?_;have m20:=m17.cZ s7 (by omega);have b9:=b8.then s7 aco;have m21:Fx.Own w8 B 128 2 (bM d (tn+1) n) (tn+1) (rv .u64 (kW (BN t tn j))):=m19.congr (yJ H (by omega));refine aC<|Wl<|aT A<|Lv (au j) gH<|av (au j)<|Ln<|bQ<|gF ⟨j,by omega,(OE H J u),r,(N.trans Fx.ic),(h3.trans Fx.ic),Fx.ic,m20,m21,b9⟩ ?_;show(intOf (au j)).toNat<_;simp only[A,intOf]; omega
   refine Lv aF (mX u)<|av aF<|aC<|aK<|Wx<|cu<|gL<|cB<|sN<|ay<|aT r<|av (pt tb)<|av (pt tb)<|Lv (bM d (tn+1) n) (aL R.aH 0)<|aT A<|aT N<|aT h3<|av (.agg (aA 2 (bI (bI (rv .u64 (fun _=>0)) 0 1 (fun _=>aD id)) 1 1 (fun _=>aD par))))<|Lv (pf d (2*k)) (dh 2)<|zJ m16 (2*k) (h1:=(fun j Z=>by rcases j with _|_|j <;> first|rfl|omega)) fun w9 m22 s8 z4 => ?_
   have m23:=R.cZ s8 (by omega);have b10:=b7.then s8 aco;have m24:Fx.Own w9 B 128 2 (bM d (tn+1) n) (tn+1) (rv .u64 (kW (oU t k id par))):=m22.congr (tN (by omega));refine aC<|ay<|av (au 0)<|aC<|Wr<|aJ (au 0) ?_;have c:jA t tn id par=0:=(by unfold jA; rw[b_ q,b_ (j_ p),b_ (fun h=>h.1 G),b_ (fun h=>h.elim (fun h=>by omega) (D5 W (by omega)))]);have I:k=down (fun i=>decide (id<t i 0)) tn:=Fx.pF hk (fun i a b=>f_ (J i a b)) (.inr (fun j e=>by have x:j=_:=Nat.succ.inj (e.symm.trans H); subst x; exact g_ u));exact⟨oO c.symm,b10,.inr ⟨c,d,n,m23,by rw[<- I]; exact m24,fun e=>agF (C_ e).symm⟩⟩
  refine Lv aF (mX V)<|av aF<|bX<|bX<|bX<|bX<|bX<|bX<|bX<|bX<|bX<|bX<|bX<|av aF<|aC<|aK<|Wx<|cu<|gL<|cB<|sN<|ay<|aT r<|av (pt tb)<|av (pt tb)<|Lv (bM d (tn+1) n) (aL R.aH 0)<|aT A<|aT N<|aT h3<|av (.agg (aA 2 (bI (bI (rv .u64 (fun _=>0)) 0 1 (fun _=>aD id)) 1 1 (fun _=>aD par))))<|Lv (pf d (2*k)) (dh 2)<|zJ m16 (2*k) (h1:=(fun j Z=>by rcases j with _|_|j <;> first|rfl|omega)) fun sV nk s9 z5 => ?_
  have og:=R.cZ s9 (by omega);have b11:=b7.then s9 aco;have oh:Fx.Own sV B 128 2 (bM d (tn+1) n) (tn+1) (rv .u64 (kW (oU t k id par))):=nk.congr (tN (by omega));refine aC<|ay<|av (au 0)<|aC<|Wr<|aJ (au 0) ?_;have c:jA t tn id par=0:=by unfold jA; rw[b_ q,b_ (j_ p),b_ (fun h=>h.1 G),b_ (fun h=>h.elim (fun h=>by omega) (D5 W (by omega)))]
  have I:k=down (fun i=>decide (id<t i 0)) tn:=Fx.pF hk (fun i a b=>f_ (J i a b)) (.inl (by omega));exact⟨oO c.symm,b11,.inr ⟨c,d,n,og,by rw[<- I]; exact oh,fun e=>agF (C_ e).symm⟩⟩
 refine Lv aG (mY G)<|av aG<|av (pt tb)<|av (aD par) ?_;by_cases z:(decide (0<=bE t tn par))=true
 ·refine dZ (OD tb ta tn tc t par _ (tY E L Q)) aG (by rw[z]) ?_;intro EC hb4;have s10:=Sb hb4;have⟨om,nI⟩:=fD hb4 E L;have b12:=F.then s10 (.inr F.size);refine av aF<|av aF<|aC<|aK<|Wk<|sN<|Ws<|ay<|av (pt tb)<|av (pt tb)<|av (pt tb)<|Lv (.slice ta (tn) (tc)) (aL om.aH 0)<|av (au tn) ?_;by_cases T:32<=(tn:Int)
  ·refine Lv aG (ku T)<|av aG<|bX<|bX<|bX<|bX<|bX<|av aG<|aC<|aN<|ay<|av (au 6)<|aC<|Wr<|sR<|aJ (au 6) ?_;have c:jA t tn id par=6:=(by unfold jA; rw[b_ q,b_ (j_ p),b_ (fun h=>by have:=h_ z; omega),d_ (.inl (by omega))]);exact⟨oO c.symm,b12,.inl ⟨by rw[c]; decide,om,nI⟩⟩
  refine Lv aF (jU T)<|av aF<|av (pt tb)<|av (aD par)<|mE (Ja tb ta tn tc t par D _ (tY om nI Q) hD hD2) ?_;rintro e zL ⟨K,vv,Y,hown,sD,W,hb5⟩;obtain⟨a1,n,rfl⟩:=hown.val;refine⟨.slice a1 K n,Y,?_⟩;clear Y hown;have s11:=Sb hb5;have⟨oF,lX⟩:=fD hb5 om nI;have b13:=b12.then s11 (.inr b12.size);refine av (au K) ?_;by_cases U:4<=(K:Int)
  ·refine Lv aG (ku U)<|av aG<|aC<|aN<|ay<|av (au 6)<|aC<|Wr<|sR<|aJ (au 6) ?_;have c:jA t tn id par=6:=(by unfold jA; rw[b_ q,b_ (j_ p),b_ (fun h=>by have:=h_ z; omega),d_ (.inr (KE sD (by omega)))]);exact⟨oO c.symm,b13,.inl ⟨by rw[c]; decide,oF,lX⟩⟩
  refine Lv aF (jU U)<|av aF<|aC<|aK<|Wk<|sN<|ay<|av (pt tb)<|av (pt tb)<|av (pt tb)<|Lv (.slice ta (tn) (tc)) (aL oF.aH 0)<|av (au tn)<|av (au tn)<|aC<|ay<|av (pt tb)<|av (pt tb)<|av (pt tb)<|av (pt tb)<|Lv (.slice ta (tn) (tc)) (aL oF.aH 0)<|av (.agg (aA 2 (rv .u64 (fun _=>0))))<|xI (vs := [(0,.agg (aA 2 (rv .u64 (fun _=>0))))]) (s:=2) (zc:=rv .u64 (fun _=>0)) (y:=bI (fun j=>(rv .u64 (fun _=>0)) (j % 2)) (0*2) 2 (rv .u64 (fun _=>0))) (by rfl) rfl rfl Tryz.underlying121 (by kernel_rfl) (by rfl) (by rfl) (by kernel_rfl) (by rw[aZ (off:=0*2) (s:=2) (y:=rv .u64 (fun _=>0)) rfl (bJ _ _) (by rfl)]; rfl) rfl fun g3 DV zP m32 s12 z6 => ?_;have⟨pR,nQ⟩:=fD s12.old oF lX;have b14:=b13.then s12 (.inr b13.size);have za:=iV zP b13.size;have alF:=bZ zP oF.lt;have alG:(.slice ta tn tc:Value).ownBlock≠some g3:=by rw[zP]; exact lX.jm (A_ _)
  have I4:=m32.lt;refine yG (B:=B) (s:=2) (bytes:=16) (k:=tn) (m:=1) (v := .slice ta tn tc) (by rfl) rfl rfl rfl Tryz.underlying121 (by kernel_rfl) (by kernel_rfl) rfl rfl nQ m32.aH (fun j Z=>by rcases j with _|_|j <;> first|rfl|omega) (by omega) (by omega) (by omega) (m_ hB b14.size) fun l o Du ho2 hg2 MW hlt2 => ?_
  have pU:aQ Du tb 1 (fun _ => .slice ta tn tc) 123:=pR.grown hg2 hne;have agG:tb≠l:=fun e=>MW.elim (fun x=>hne (by rw[x,e])) (fun x=>by have:=pR.lt; omega);have oq:Fx.Own Du B 128 2 (bM l (tn+1) o) (tn+1) (rv .u64 (kW (BN t tn tn))):=ho2.congr (xO t tn);have b15:jT (fun k=>k=tb\/(Value.slice ta tn tc).ownBlock=some k) w Du:=Fx.jT.grow b14 hg2 (fun k e => .inl (.inr e));have acp:(fun k=>k=tb\/(Value.slice ta tn tc).ownBlock=some k) l\/w.heap.size<=l:=MW.elim (fun e => .inl (.inr e)) (fun e => .inr (by rw[e]; exact b14.size));refine av (pt tb)<|av (pt tb)<|jd pU 0 (bM l (tn+1) o) fun Ow qQ s13 z7 => ?_;have qR:aQ Ow tb 1 (fun _=>bM l (tn+1) o) 123:=dK qQ;have oP:=oq.abd s13 (by omega);have b16:=b15.then s13 (.inl (.inl rfl));refine aC<|Ws<|Wb<|Wo (fun f M => ∃ k:Nat,k<=tn/\(∀ i,k<=i->i<tn->id<t i 0)/\f 0=(pt tb)/\f 1=aD id/\f 2=aD par/\f 7=au (k:Int)/\aQ M tb 1 (fun _=>bM l (tn+1) o) 123/\Fx.Own M B 128 2 (bM l (tn+1) o) (tn+1) (rv .u64 (kW (BN t tn k)))/\jT (fun k=>k=tb\/(Value.slice ta tn tc).ownBlock=some k) w M) (fun f _=>(intOf (f 7)).toNat) ⟨tn,by omega,(fun i r N=>N_ r (by omega)),(by rfl),Fx.ic,Fx.ic,Fx.ic,qR,oP,b16⟩ ?_;rintro f2 w16 ⟨k,hk,J,O,h6,h7,C,S,nJ,b17⟩;refine Ws<|ay<|aT C ?_;by_cases V:0<(k:Int)
  ·obtain⟨j,H⟩ : ∃ j,k=j+1:=⟨k-1,by omega⟩;refine Lv aG (mW V)<|av aG<|aT O<|av (pt tb)<|av (pt tb)<|Lv (bM l (tn+1) o) (aL S.aH 0)<|aT C<|Lv (au j) gH<|Lv (pf l (2*j)) (dh 2)<|av (pf l (2*j))<|Lv (aD (t j 0)) (aL nJ.aH (2*j) (zo (by omega) (by omega) (by omega)))<|aT h6 ?_;by_cases u:id<(t j 0)
   ·refine Lv aG (mW u)<|av aG<|aC<|aN<|Wk<|sN<|Wb<|Ws ?_;refine Wt 14 (by kernel_rfl) (by kernel_rfl) fun CP gJ nO => ?_;have BJ:Stp w16.heap.size w16 CP:=Sb gJ;have⟨mO,nK⟩:=fD gJ S nJ;have b18:=b17.then BJ (.inr b17.size);refine qN (pt tb) (R7 O)<|Es (pt tb)<|Es (pt tb)<|qN (bM l (tn+1) o) (aL mO.aH 0)<|qN (au k) (R7 C)<|qN (pt tb) (R7 O)<|Es (pt tb)<|Es (pt tb)<|qN (bM l (tn+1) o) (aL mO.aH 0)<|qN (au k) (R7 C)<|qN (au j) gH<|qN (pf l (2*j)) (dh 2)<|qN (.agg (aA 2 (rv .u64 (t j)))) (fP nK.aH (2*j) (fun i hi=>Uj (by omega) (by omega) hi))<|qN (pf l (2*k)) (dh 2)<|Fx.St.nil ?_;refine zJ nK (2*k) fun GN sZ s15 z8 => ?_;have rR:=mO.cZ s15 (by omega);have b19:=b18.then s15 acp;have nR:Fx.Own GN B 128 2 (bM l (tn+1) o) (tn+1) (rv .u64 (kW (BN t tn j))):=sZ.congr (yJ H (by omega));refine aC<|Wl<|aT C<|Lv (au j) gH<|av (au j)<|Ln<|bQ<|gF ⟨j,by omega,(OE H J u),O,(h6.trans Fx.ic),(h7.trans Fx.ic),Fx.ic,rR,nR,b19⟩ ?_;show(intOf (au j)).toNat<_;simp only[C,intOf]; omega
   refine Lv aF (mX u)<|av aF<|aC<|aK<|Wx<|cu<|gL<|cB<|sN<|ay<|aT O<|av (pt tb)<|av (pt tb)<|Lv (bM l (tn+1) o) (aL S.aH 0)<|aT C<|aT h6<|aT h7<|av (.agg (aA 2 (bI (bI (rv .u64 (fun _=>0)) 0 1 (fun _=>aD id)) 1 1 (fun _=>aD par))))<|Lv (pf l (2*k)) (dh 2)<|zJ nJ (2*k) (h1:=(fun j Z=>by rcases j with _|_|j <;> first|rfl|omega)) fun Td sw s16 z9 => ?_
   have vL:=S.cZ s16 (by omega);have b20:=b17.then s16 acp;have rA:Fx.Own Td B 128 2 (bM l (tn+1) o) (tn+1) (rv .u64 (kW (oU t k id par))):=sw.congr (tN (by omega));refine aC<|ay<|av (au 0)<|aC<|Wr<|aJ (au 0) ?_;have c:jA t tn id par=0:=(by unfold jA; rw[b_ q,b_ (j_ p),b_ (fun h=>by have:=h_ z; omega),b_ (fun h=>h.elim (fun h=>by omega) (D5 W (by omega)))]);have I:k=down (fun i=>decide (id<t i 0)) tn:=Fx.pF hk (fun i a b=>f_ (J i a b)) (.inr (fun j e=>by have x:j=_:=Nat.succ.inj (e.symm.trans H); subst x; exact g_ u));exact⟨oO c.symm,b20,.inr ⟨c,l,o,vL,by rw[<- I]; exact rA,fun e=>agG (C_ e).symm⟩⟩
  refine Lv aF (mX V)<|av aF<|bX<|bX<|bX<|bX<|bX<|bX<|bX<|bX<|bX<|bX<|bX<|av aF<|aC<|aK<|Wx<|cu<|gL<|cB<|sN<|ay<|aT O<|av (pt tb)<|av (pt tb)<|Lv (bM l (tn+1) o) (aL S.aH 0)<|aT C<|aT h6<|aT h7<|av (.agg (aA 2 (bI (bI (rv .u64 (fun _=>0)) 0 1 (fun _=>aD id)) 1 1 (fun _=>aD par))))<|Lv (pf l (2*k)) (dh 2)<|zJ nJ (2*k) (h1:=(fun j Z=>by rcases j with _|_|j <;> first|rfl|omega)) fun Qd qU JK z10 => ?_
  have uU:=S.cZ JK (by omega);have L9:=b17.then JK acp;have tV:Fx.Own Qd B 128 2 (bM l (tn+1) o) (tn+1) (rv .u64 (kW (oU t k id par))):=qU.congr (tN (by omega));refine aC<|ay<|av (au 0)<|aC<|Wr<|aJ (au 0) ?_;have c:jA t tn id par=0:=by unfold jA; rw[b_ q,b_ (j_ p),b_ (fun h=>by have:=h_ z; omega),b_ (fun h=>h.elim (fun h=>by omega) (D5 W (by omega)))]
  have I:k=down (fun i=>decide (id<t i 0)) tn:=Fx.pF hk (fun i a b=>f_ (J i a b)) (.inl (by omega));exact⟨oO c.symm,L9,.inr ⟨c,l,o,uU,by rw[<- I]; exact tV,fun e=>agG (C_ e).symm⟩⟩
 rw[U_]at z;refine dZ (OD tb ta tn tc t par _ (tY E L Q)) aF (by rw[z]) ?_;intro Tg hb6;have Md:=Sb hb6;have⟨rD,rE⟩:=fD hb6 E L;have Ma:=F.then Md (.inr F.size);refine av aG<|av aG<|aC<|aN<|ay<|av (au 9)<|aC<|Wr<|sR<|aJ (au 9) ?_;have c:jA t tn id par=9:=by unfold jA; rw[b_ q,b_ (j_ p),d_ ⟨G,by have:=j_ z; omega⟩]
 exact⟨oO c.symm,Ma,.inl ⟨by rw[c]; decide,rD,rE⟩⟩
namespace Rt
def jk(o a:Int):Int:=if 1<=o/\o<=6/\1<=a/\a<1099511627776 then 1099511627776*o+a else 0
end Rt
theorem alH(o a:Int)(w:World) :
 Calls Tryz.prog 50 #[au o,aD a] w fun e w'=>e = .returned (aD (jk o a))/\w'=w:=by
 refine Kent Tryz.func50 24 ?_;refine ay<|av (aD 0)<|aC<|Ws<|ay<|av (au o) ?_;by_cases f:o<1
 ·refine Lv aG (gu f)<|av aG<|bX<|bX<|av aG<|av aG<|bX<|bX<|av aG<|av aG<|bX<|bX<|av aG<|aC<|aN<|ay<|av (aD 0)<|aC<|Wr<|sR<|aJ (aD 0) ?_;exact⟨M_ (fun q=>Ending.returned (Value.int .u64 q)) (Eq.symm (by unfold jk; rw[b_ (by omega)])),rfl⟩
 refine Lv aF (gy f)<|av aF<|av (au o) ?_;by_cases g:6<o
 ·refine Lv aG (mW g)<|av aG<|av aG<|bX<|bX<|av aG<|av aG<|bX<|bX<|av aG<|aC<|aN<|ay<|av (aD 0)<|aC<|Wr<|sR<|aJ (aD 0) ?_;exact⟨M_ (fun q=>Ending.returned (Value.int .u64 q)) (Eq.symm (by unfold jk; rw[b_ (by omega)])),rfl⟩
 refine Lv aF (mX g)<|av aF<|av aF<|av (aD a) ?_;by_cases c:a<1
 ·refine Lv aG (gu c)<|av aG<|av aG<|bX<|bX<|av aG<|aC<|aN<|ay<|av (aD 0)<|aC<|Wr<|sR<|aJ (aD 0) ?_;exact⟨M_ (fun q=>Ending.returned (Value.int .u64 q)) (Eq.symm (by unfold jk; rw[b_ (by omega)])),rfl⟩
 refine Lv aF (gy c)<|av aF<|av aF<|av (aD a) ?_;by_cases d:1099511627776<=a
 ·refine Lv aG (ku d)<|av aG<|aC<|aN<|ay<|av (aD 0)<|aC<|Wr<|sR<|aJ (aD 0) ?_;exact⟨M_ (fun q=>Ending.returned (Value.int .u64 q)) (Eq.symm (by unfold jk; rw[b_ (by omega)])),rfl⟩
 refine Lv aF (jU d)<|av aF<|aC<|aK<|Wk<|sN<|ay<|av (au o)<|Lv (aD o) (dA rfl rfl (by kernel_rfl) Tryz.underlying28 (jN (by omega) rfl))<|Lv (aD (1099511627776*o)) (Fx.JZ (b:=40) rfl rfl rfl (by decide) (jN (by omega) (by omega)))<|av (aD a)<|Lv (aD (1099511627776*o+a)) eO<|av (aD (1099511627776*o+a))<|aC<|Wr<|aJ (aD (1099511627776*o+a)) ?_;exact⟨M_ (fun q=>Ending.returned (Value.int .u64 q)) (Eq.symm (by unfold jk; rw[d_ (by omega)])),rfl⟩
theorem aal(a:Option Addr)(n cap:Nat)(w:World) :
 Calls Tryz.prog 10 #[.slice a (n) (cap)] w fun e w'=>e = .returned (.bool (decide ((n:Int)<=60)))/\w'=w:=by
 refine Kent Tryz.func10 6 ?_;refine ay<|av aF<|aC<|ay<|av (.slice a (n) (cap))<|av (au n) ?_;by_cases b:(n:Int)<=60
 ·refine Lv aG (nE b)<|av aG<|aC<|Wr<|aJ aG ?_;exact⟨iB (Eq.symm (f_ b)),rfl⟩
 refine Lv aF (nM b)<|av aF<|aC<|Wr<|aJ aF ?_;exact⟨iB (Eq.symm (g_ b)),rfl⟩
section
theorem app0{s:Nat}{x y:Nat->Value}(j:Nat):iy x (0*s) y j=y j:=by unfold iy; rw[Nat.zero_mul,b_ (z_ _)]; rfl
theorem uZ(id par:Int)(R:Nat->Int)(j:Nat):(ji id par R j).oneCell'=true:=by unfold ji; split <;> (try split) <;> rfl
theorem Uk(id par:Int)(R:Nat->Int){q p:Nat}(h:q=p+2):ji id par R q=au (R p):=by subst h; unfold ji; rw[b_ (by omega),b_ (by omega),Nat.add_sub_cancel]
theorem tZ(x:Nat->Int)(j:Nat):(iE x j).oneCell'=true:=by unfold iE; split <;> (try split) <;> rfl
theorem Ya(m:lS)(j:Nat):(JM m j).oneCell'=true:=uZ _ _ _ _
theorem Yb(m:lS)(j:Nat):(I8 m j).oneCell'=true:=tZ _ _
theorem OG(m:Al)(j:Nat):(jZ m j).oneCell'=true:=by unfold jZ; repeat (first|rfl|split)
def tH(m:lS)(i:Nat):Value := .slice (m.ra i) (m.rn i) (m.rc i)
def wK(w:World)(B k:Nat)(m:lS):Prop :=
 (∀ i,i<k->Fx.Own w B 28 1 (tH m i) (m.rn i) (rv .u64 (m.rq i))) /\ ∀ i j,i<k->j<k->i≠j -> ∀ g,(tH m i).ownBlock=some g->(tH m j).ownBlock≠some g
section
variable {w w':World} {B k:Nat} {m:lS}
theorem wK.up(h:wK w B k m)(a:Below w.heap.size w w'):wK w' B k m:=⟨fun i b=>(h.1 i b).up a,h.2⟩
instance:Rt.Tr w w' (wK w B k m) (wK w' B k m):=⟨fun b h=>h.up b⟩
theorem wK.kM{a:List TypeId}(h:wK w B k m)(c:iU a w w')(d:a.contains 28=false):wK w' B k m:=⟨fun i b=>(h.1 i b).kM c d,h.2⟩
instance {a:List TypeId}:Rt.Tc a w w' (wK w B k m) (wK w' B k m) (!(a.contains 28)):=⟨fun b h e=>h.kM b (by simpa using e)⟩
theorem wK.zero(w:World)(B:Nat)(m:lS):wK w B 0 m:=⟨fun _ h=>N_ h (z_ _),fun _ _ h=>N_ h (z_ _)⟩
theorem wK.fresh(h:wK w B k m){v:Value}(c:v = .slice none 0 0\/v.ownBlock=(Value.slice none 0 0).ownBlock\/v.ownBlock=some w.heap.size) : ∀ i,i<k -> ∀ g,(tH m i).ownBlock=some g->v.ownBlock≠some g:=fun i b g a e=>by
 have d:=((h.1 i b).ge a).2
 rcases c with rfl|e2|e2
 ·cases e
 ·rw[e]at e2; cases e2
 ·rw[e]at e2; have:=C_ e2; omega
theorem wK.snoc{a:lS}(h:wK w B k m)(c : ∀ i,i<k->tH a i=tH m i/\a.rn i=m.rn i/\a.rq i=m.rq i)(s:Fx.Own w B 28 1 (tH a k) (a.rn k) (rv .u64 (a.rq k)))(l : ∀ i,i<k -> ∀ g,(tH m i).ownBlock=some g->(tH a k).ownBlock≠some g):wK w B (k+1) a:=by
 refine⟨fun i t => ?_,fun i j t u n g b => ?_⟩
 ·by_cases e:i=k
  ·subst e; exact s
  obtain⟨p,q,r⟩:=c i (by omega);rw[p,q,r]; exact h.1 i (by omega)
 by_cases o:i=k
 ·subst o;by_cases d:j=i
  ·exact N_ d.symm n
  intro f;rw[(c j (by omega)).1]at f;exact l j (by omega) g f b
 rw[(c i (by omega)).1]at b;by_cases d:j=k
 ·subst d; exact l i (by omega) g b
 rw[(c j (by omega)).1]; exact h.2 i j (by omega) (by omega) n g b
end
structure vP(w:World)(B p:Nat)(m:lS):Prop where
 c:aQ w p 27 (mQ m) 71
 n:Fx.Own w B 61 56 (.slice m.s.na m.s.nn m.s.nc) m.s.nn (JM m)
 g:Fx.Own w B 66 5 (.slice m.s.ga m.s.gn m.s.gc) m.s.gn (I8 m)
 tc:aQ w m.tb 1 (fun _ => .slice m.ta m.tn m.tc) 123
 t:Fx.Own w B 128 2 (.slice m.ta m.tn m.tc) m.tn (Qp m.t)
 r:wK w B 6 m
 pB:B<=p
 tB:B<=m.tb
 bn:m.s.nn<=1000
 bg:m.s.gn<=1000000
 bt:m.tn<=1000
 br : ∀ i,i<6->m.rn i<=1000000
section
variable {w w':World} {B p:Nat} {m:lS}
theorem vP.ldg(h:vP w B p m):CS w p m where
 c:=h.c.aH
 an:=h.n.arr
 ag:=h.g.arr
 tc:=h.tc.aH
 at2:=h.t.arr
 ar:=fun i a=>(h.r.1 i a).arr
 bn:=by have:=h.bn; omega
 bg:=h.bg
 bt:=by have:=h.bt; omega
 br:=h.br
theorem vP.up(h:vP w B p m)(a:Below w.heap.size w w'):vP w' B p m := { h with c:=h.c.cZ (Sb a) (u_ h.c.lt),n:=h.n.up a,g:=h.g.up a,tc:=h.tc.cZ (Sb a) (u_ h.tc.lt),t:=h.t.up a,r:=h.r.up a }
instance:Rt.Tr w w' (vP w B p m) (vP w' B p m):=⟨fun b h=>h.up b⟩
def KF:List Nat := [71,61,66,123,128,28]
theorem vP.kM{e:List TypeId}(h:vP w B p m)(b:iU e w w')(i:(KF.all fun T => !e.contains T)=true):vP w' B p m:=by
 have a : ∀ d∈KF,e.contains d=false:=fun d f=>by
  have:=List.all_eq_true.1 i d f
  simpa using this
 exact { h with
  c:=h.c.kM b (a _ (by decide)),n:=h.n.kM b (a _ (by decide)),g:=h.g.kM b (a _ (by decide)),tc:=h.tc.kM b (a _ (by decide)),t:=h.t.kM b (a _ (by decide)),r:=h.r.kM b (a _ (by decide)) }
instance {a:List TypeId}:Rt.Tc a w w' (vP w B p m) (vP w' B p m) (KF.all fun T => !a.contains T):=⟨fun b h e=>h.kM b (by simpa using e)⟩
theorem vP.mono{b:Nat}(h:vP w B p m)(a:b<=B):vP w b p m := { h with n:=h.n.mono a,g:=h.g.mono a,t:=h.t.mono a,r:=⟨fun i c=>(h.r.1 i c).mono a,h.r.2⟩,pB:=m_ a h.pB,tB:=m_ a h.tB }
end
def KG(m:lS)(na:Option Addr)(nc:Nat)(ga:Option Addr)(gc tb:Nat)(ta:Option Addr)(tc:Nat)(ra:Nat->Option Addr)(rc:Nat->Nat)(k:Nat):lS :=
 { m with s := { m.s with na:=na,nc:=nc,ga:=ga,gc:=gc },tb:=tb,ta:=ta,tc:=tc,ra:=fun i=>if i<k then ra i else none,rn:=fun i=>if i<k then m.rn i else 0,rc:=fun i=>if i<k then rc i else 0 }
def aI{a:Type}(f:Nat->a)(k:Nat)(v:a):Nat->a:=fun i=>if i=k then v else f i
section
variable {m:lS} {na:Option Addr} {nc:Nat} {ga:Option Addr} {gc tb:Nat} {ta:Option Addr} {tc:Nat} {ra:Nat->Option Addr} {rc:Nat->Nat} {k:Nat}
theorem Yc{q:Nat}(h:q=k+21):mQ (KG m na nc ga gc tb ta tc ra rc k) q = .slice none 0 0:=by
 subst h;rw[wJ (p:=k) _ rfl];show Value.slice (if k<k then ra k else none) (if k<k then m.rn k else 0) (if k<k then rc k else 0)=_;rw[b_ (Nat.lt_irrefl _),b_ (Nat.lt_irrefl _),b_ (Nat.lt_irrefl _)]
theorem yQ{i:Nat}(h:i<k):tH (KG m na nc ga gc tb ta tc ra rc k) i = .slice (ra i) (m.rn i) (rc i):=by
 show Value.slice (if i<k then ra i else none) (if i<k then m.rn i else 0) (if i<k then rc i else 0)=_;rw[d_ h,d_ h,d_ h]
theorem Ul{a:Option Addr}{c q:Nat}(f:q=k+21):dB (mQ (KG m na nc ga gc tb ta tc ra rc k)) q (.slice a (m.rn k) c)=mQ (KG m na nc ga gc tb ta tc (aI ra k a) (aI rc k c) (k+1)):=by
 subst f
 funext p
 unfold dB;by_cases e:p=k+21
 ·subst e; rw[d_ rfl];rw[wJ (p:=k) _ rfl];show _=Value.slice (if k<k+1 then aI ra k a k else none) (if k<k+1 then m.rn k else 0) (if k<k+1 then aI rc k c k else 0);simp[aI]
 rw[b_ e];unfold mQ;by_cases h:p<20
 ·rw[d_ h,d_ h]; rfl
 rw[b_ h,b_ h];by_cases b:p=20
 ·rw[d_ b,d_ b]; rfl
 rw[b_ b,b_ b];show Value.slice (if p-21<k then ra (p-21)else none) (if p-21<k then m.rn (p-21)else 0) (if p-21<k then rc (p-21)else 0)=Value.slice (if p-21<k+1 then aI ra k a (p-21)else none) (if p-21<k+1 then m.rn (p-21)else 0) (if p-21<k+1 then aI rc k c (p-21)else 0);by_cases d:p-21<k
 ·simp[aI,d,show p-21<k+1 by omega,show ¬ p-21=k by omega]
 simp[d,show ¬ p-21<k+1 by omega]
theorem Yd{w:World}{B:Nat}{a:Option Addr}{c:Nat}(h:wK w B k (KG m na nc ga gc tb ta tc ra rc k))(e:Fx.Own w B 28 1 (.slice a (m.rn k) c) (m.rn k) (rv .u64 (m.rq k)))
 (f : ∀ i,i<k -> ∀ g,(tH (KG m na nc ga gc tb ta tc ra rc k) i).ownBlock=some g->(Value.slice a (m.rn k) c).ownBlock≠some g):wK w B (k+1) (KG m na nc ga gc tb ta tc (aI ra k a) (aI rc k c) (k+1)):=by
 have b:tH (KG m na nc ga gc tb ta tc (aI ra k a) (aI rc k c) (k+1)) k = .slice a (m.rn k) c:=by
  rw[yQ (by omega)]; unfold aI; rw[d_ rfl,d_ rfl]
 refine h.snoc (fun i d=>⟨?_,?_,rfl⟩) ?_ ?_
 ·rw[yQ (by omega),yQ d]; unfold aI; rw[b_ (by omega),b_ (by omega)]
 ·show(if i<k+1 then m.rn i else 0)=(if i<k then m.rn i else 0);rw[d_ (by omega),d_ d]
 ·rw[b];show Fx.Own w B 28 1 _ (if k<k+1 then m.rn k else 0) _;rw[d_ (by omega)]; exact e
 rw[b]; exact f
end
def atM(m:lS)(na:Option Addr)(nc:Nat)(ga:Option Addr)(gc tb:Nat)(ta:Option Addr)(tc:Nat)(ra:Nat->Option Addr)(rc:Nat->Nat):lS :=
 { m with s := { m.s with na:=na,nc:=nc,ga:=ga,gc:=gc },tb:=tb,ta:=ta,tc:=tc,ra:=ra,rc:=rc }
section
variable {m:lS} {na:Option Addr} {nc:Nat} {ga:Option Addr} {gc tb:Nat} {ta:Option Addr} {tc:Nat} {ra:Nat->Option Addr} {rc:Nat->Nat}
theorem agH : ∀ j,j<27->mQ (KG m na nc ga gc tb ta tc ra rc 6) j=mQ (atM m na nc ga gc tb ta tc ra rc) j:=fun j b=>by
 unfold mQ;by_cases h:j<20
 ·rw[d_ h,d_ h]; rfl
 ·rw[b_ h,b_ h];by_cases a:j=20
  ·rw[d_ a,d_ a]; rfl
  ·rw[b_ a,b_ a];show Value.slice (if j-21<6 then ra (j-21)else none) (if j-21<6 then m.rn (j-21)else 0) (if j-21<6 then rc (j-21)else 0)=Value.slice (ra (j-21)) (m.rn (j-21)) (rc (j-21));rw[d_ (by omega),d_ (by omega),d_ (by omega)]
theorem Ye{w:World}{B:Nat}(h:wK w B 6 (KG m na nc ga gc tb ta tc ra rc 6)):wK w B 6 (atM m na nc ga gc tb ta tc ra rc):=by
 refine⟨fun i a => ?_,fun i j a b d g c => ?_⟩
 ·have:=h.1 i a;rw[yQ a]at this;have e:(KG m na nc ga gc tb ta tc ra rc 6).rn i=m.rn i:=by show(if i<6 then m.rn i else 0)=_; rw[d_ a]
  rw[e]at this;exact this
 have:=h.2 i j a b d g;rw[yQ a,yQ b]at this;exact this c
end
end
set_option maxRecDepth 20000 in
set_option maxHeartbeats 1000000 in
theorem acr(m:lS)(p:Nat)(w:World)(h:CS w p m)(bn1:m.s.nn<=1000)(bt1:m.tn<=1000) :
 Calls Tryz.prog 53 #[(pt p)] w fun e w' => ∃ p' m',e = .returned (pt p')/\m'.core=m.core/\vP w' w.heap.size p' m'/\Below w.heap.size w w':=by
 have N:=h.c;have lp:p<w.heap.size:=N.lt (by omega);have bn:=h.bn;have bg:=h.bg;have bt:=h.bt;have han:=h.an;have hag:=h.ag;have hat:=h.at2;have htc:=h.tc;have Ru:m.tb<w.heap.size:=htc.lt (by omega);refine Kent Tryz.func53 79 ?_;refine ay<|av (.pointer none)<|aC<|ay<|av (pt p)<|av (pt p)<|av (pt p)<|Lv (.agg (aA 20 (jZ m.s))) (fP N 0 (fun j hj=>(show mQ _ (0+j)=jZ _ j by rw[H_]; exact lZ _ hj rfl)))<|av (.agg (aA 1 (fun _ => .slice none 0 0)))<|qD fun b w1 lK m1 s1 z1 => ?_;have⟨m2,m3,b1⟩:=jw s1.old N htc (Below.refl w.heap.size w);have sU:=ig lK;have nP:p≠b:=by rw[lK]; exact u_ (N.lt (by omega))
 have aam:m.tb≠b:=by rw[lK]; exact u_ (htc.lt (by omega))
 have uq:=m1.lt;refine av (.agg (aA 27 (bI (bI (fun o=>if o<12 then .bool false else if o<18 then aD 0 else if o<20 then .slice none 0 0 else if o<21 then .pointer none else .slice none 0 0) 0 20 (jZ m.s)) 20 1 (fun _=>(pt b)))))<|DL (m:=27) (y:=bI (bI (fun o=>if o<12 then .bool false else if o<18 then aD 0 else if o<20 then .slice none 0 0 else if o<21 then .pointer none else .slice none 0 0) 0 20 (jZ m.s)) 20 1 (fun _=>(pt b))) (by rfl) rfl rfl (bJ _ _) rfl fun a w2 V m4 s2 z2 => ?_;have⟨m5,m6,m7,b2⟩:=kR s2.old m2 m3 m1 b1;have pV:=iV V b1.size;have Um:p≠a:=by rw[V]; exact u_ (m2.lt (by omega))
 have agI:m.tb≠a:=by rw[V]; exact u_ (m3.lt (by omega))
 have KH:=bZ V m1.lt;have zy:=m4.lt;refine av (pt a)<|aC<|ay<|av (pt a)<|Fx.L.Oe (s:=56) (by rfl) rfl Tryz.underlying50 (by kernel_rfl) rfl fun g3 w3 zP hO1 s3 => ?_;have P:Fx.Own w3 w.heap.size 61 56 (bM g3 0 0) 0 (JM m):=hO1 _ _ (by rw[zP]; exact b2.size);have⟨m9,m10,m11,m12,S⟩:=uj s3.old m5 m6 m7 m4 b2;refine av (pt p)<|av (pt p)<|av (pt p)<|av (pf p 18)<|Lv (.slice m.s.na (m.s.nn) (m.s.nc)) (aL m9 18)<|Fx.L.IG (B:=w.heap.size) (s:=56) (bytes:=448) (k:=0) (m:=m.s.nn) (v:=bM g3 0 0) (x:=JM m) (by rfl) rfl rfl rfl Tryz.underlying50 (by kernel_rfl) (by kernel_rfl) rfl rfl P (han.up S rfl) (fun j _=>Ya m j) (by omega) (by omega) S.size fun vv1 w4 ho1 X sS => ?_;rw[H_]at ho1;obtain⟨C,E,rfl⟩:=ho1.val;have fV:=yI X P;have m14:=m9.grown X (P.not (by omega));have m15:=m10.grown X (P.not (by omega));have⟨m16,m17⟩:=xS fV m11 m12;have m13:Fx.Own w4 w.heap.size 61 56 (.slice C (m.s.nn) (E)) m.s.nn (JM m):=(ho1.congr (fun j _=>app0 j));have b4:Below w.heap.size w w4:=yF S X S.size (fun q l=>(P.ge l).1);refine av (pt a)<|av (pt a)<|av (pf a 18)<|jd m17 18 (.slice C (m.s.nn) (E)) fun w5 m18 s4 z3 => ?_;have m19:=m14.cZ s4 (by omega);have m20:=m15.cZ s4 (by omega);have jJ:=gZ s4 m17.ty;have⟨m21,m22⟩:=xS jJ m16 m13;have b5:=s4.below b4 b4.size (by omega);refine aC<|ay<|av (pt a)<|Fx.L.Oe (s:=5) (by rfl) rfl Tryz.underlying51 (by kernel_rfl) rfl fun g4 w6 MI hO2 s5 => ?_;have O:Fx.Own w6 w.heap.size 66 5 (bM g4 0 0) 0 (I8 m):=hO2 _ _ (by rw[MI]; exact b5.size);have⟨m24,nk,og,oh,om,T⟩:=um s5.old m19 m20 m21 m22 m18 b5;refine av (pt p)<|av (pt p)<|av (pt p)<|av (pf p 19)<|Lv (.slice m.s.ga (m.s.gn) (m.s.gc)) (aL m24 19)<|Fx.L.IG (B:=w.heap.size) (s:=5) (bytes:=40) (k:=0) (m:=m.s.gn) (v:=bM g4 0 0) (x:=I8 m) (by rfl) rfl rfl rfl Tryz.underlying51 (by kernel_rfl) (by kernel_rfl) rfl rfl O (hag.up T rfl) (fun j _=>Yb m j) (by omega) (by omega) T.size fun vv2 w7 ho2 Y MW => ?_;rw[H_]at ho2;obtain⟨D,F,rfl⟩:=ho2.val;have qE:=yI Y O;have oF:=m24.grown Y (O.not (by omega));have lX:=nk.grown Y (O.not (by omega));have⟨m32,pR,nQ⟩:=Dp qE og oh om;have nI:Fx.Own w7 w.heap.size 66 5 (.slice D (m.s.gn) (F)) m.s.gn (I8 m):=(ho2.congr (fun j _=>app0 j));have b7:Below w.heap.size w w7:=yF T Y T.size (fun q l=>(O.ge l).1);refine av (pt a)<|av (pt a)<|av (pf a 19)<|jd nQ 19 (.slice D (m.s.gn) (F)) fun w8 oq s6 z4 => ?_;have pU:=oF.cZ s6 (by omega);have qQ:=lX.cZ s6 (by omega);have wz:=gZ s6 nQ.ty;have⟨qR,oP,rQ⟩:=Dp wz m32 pR nI;have b8:=s6.below b7 b7.size (by omega);refine aC<|Ws ?_;refine Aw [0,1,2,4,5,6,11,12,13,3,7,8,9,10,14,15,16,17,18,19,20,21] [0,0,0,1,0,0,0,4,0,0,4,0,0,0,4,0,0,4,2,0,0,3] (iU [128]) vX Fx.iU.trans (fM := [(21,3,[3]),(18,7,[10,9,8,7]),(21,7,[7]),(18,10,[10]),(21,10,[10]),(18,14,[17,16,15,14]),(21,14,[14]),(18,17,[17]),(21,17,[17]),(19,18,[18]),(20,18,[18]),(21,18,[18])]) (by kernel_rfl) (by kernel_rfl) (by kernel_rfl) (by kernel_rfl) (by kernel_rfl) fun I dR iG => ?_;have⟨nJ,mO,nK,sZ,rR,nR,U⟩:=jQ dR pU qQ qR oP rQ oq b8;refine bf (pt a)<|bf (pt a)<|bf (pf a 20)<|bf (pt a)<|bf (pt a)<|bf (pf a 20)<|bf (pt p)<|bf (pt p)<|bf (pf p 20)<|Rd (v:=(pt b)) (by rfl) (by rfl) (vX _) (fun v1 hv1=>bF (x:=dB (dB (bI (bI (fun o=>if o<12 then .bool false else if o<18 then aD 0 else if o<20 then .slice none 0 0 else if o<21 then .pointer none else .slice none 0 0) 0 20 (jZ m.s)) 20 1 (fun _=>(pt b))) 18 (.slice C (m.s.nn) (E))) 19 (.slice D (m.s.gn) (F))) rfl rfl (by kernel_rfl) (nR.kM hv1 (by decide)).aH (i:=20) (by omega) (by omega) (Fx.Ar (by omega) (Fx.Ar (by omega) (Fx.qz (j:=0) (by omega) (by omega) rfl)))) ?_;refine Rs (pt b) (aL nR.aH 20 (Fx.Ar (by omega) (Fx.Ar (by omega) (Fx.qz (j:=0) (by omega) (by omega) rfl)))) ?_;refine bf (pt b)<|bf (pt b)<|Rs (.slice none 0 0) (aL nK.aH 0) ?_;refine Rs (pt m.tb) (aL nJ 20) ?_;refine bf (pt m.tb)<|bf (pt m.tb)<|Rs (.slice m.ta (m.tn) (m.tc)) (aL mO 0) ?_;refine BA<|Fx.L.IG (B:=w.heap.size) (s:=2) (bytes:=16) (k:=0) (m:=m.tn) (v := .slice none 0 0) (x:=Qp m.t) (by rfl) rfl rfl rfl Tryz.underlying121 (by kernel_rfl) (by kernel_rfl) rfl rfl (vU I w.heap.size 128 2 (Qp m.t)) (hat.up U rfl) (fun _ _=>rfl) (by omega) (by omega) U.size fun vv3 w9 ho3 A avL => ?_;rw[H_]at ho3
 obtain⟨u,z,rfl⟩:=ho3.val;have xC:=yI A (vU I w.heap.size 128 2 (Qp m.t));have hq1:Below I.heap.size I w9:=⟨A.os,A.tape,A.output,A.size,fun q l=>A.block q l (fun e=>by cases e)⟩
 have vL:=nJ.cZ (Sb hq1) (u_ (nJ.lt (by omega)));have hq2:Below I.heap.size I w9:=⟨A.os,A.tape,A.output,A.size,fun q l=>A.block q l (fun e=>by cases e)⟩
 have rA:=mO.cZ (Sb hq2) (u_ (mO.lt (by omega)));have⟨qU,uU,tV,rD⟩:=MC xC nK sZ rR nR;have sw:Fx.Own w9 w.heap.size 128 2 (.slice u (m.tn) (z)) m.tn (Qp m.t):=(ho3.congr (fun j _=>app0 j));have b10:Below w.heap.size w w9:=yF U A U.size (fun q l=>((vU I w.heap.size 128 2 (Qp m.t)).ge l).1);refine Ln ⟨xC,?_⟩;refine bf (pt b)<|bf (pt b)<|gQ<|jd qU 0 (.slice u (m.tn) (z)) fun sV rE s8 z5 => ?_;have tu:aQ sV b 1 (fun _ => .slice u (m.tn) (z)) 123:=dK rE;have qV:=vL.cZ s8 (by omega);have qw:=rA.cZ s8 (by omega);have ze:=gZ s8 qU.ty;have⟨qx,xD,qF,vM⟩:=MC ze uU tV rD sw;have b11:=s8.below b10 b10.size (by omega);refine Ln<|bS<|Ws<|ay<|av (au 0)<|aC<|Wb ?_;have oo:aQ sV a 27 (mQ (KG m C E D F b u z (fun _=>none) (fun _=>0) 0)) 71:=qF.congr (fun j hj=>by rcases j with _|_|_|_|_|_|_|_|_|_|_|_|_|_|_|_|_|_|_|_|_|_|_|_|_|_|_|j <;> first|rfl|omega)
 have tC:=wK.zero sV w.heap.size (KG m C E D F b u z (fun _=>none) (fun _=>0) 0);refine Wo (fun f H => ∃ k:Nat,∃ ra:Nat->Option Addr,∃ rc:Nat->Nat,k<=6/\f 0=(pt p)/\f 3=(pt a)/\f 4=au (k:Int)/\iQ H p 0 27 (mQ m)/\Fx.Own H w.heap.size 61 56 (.slice C (m.s.nn) (E)) m.s.nn (JM m)/\Fx.Own H w.heap.size 66 5 (.slice D (m.s.gn) (F)) m.s.gn (I8 m)/\Fx.Own H w.heap.size 128 2 (.slice u (m.tn) (z)) m.tn (Qp m.t)/\aQ H b 1 (fun _ => .slice u (m.tn) (z)) 123/\aQ H a 27 (mQ (KG m C E D F b u z ra rc k)) 71/\wK H w.heap.size k (KG m C E D F b u z ra rc k)/\Below w.heap.size w H) (fun f _=>(6-(intOf (f 4)).toNat)) ⟨0,(fun _=>none),(fun _=>0),by omega,(by rfl),(by rfl),Fx.ic,qV,qx,xD,vM,tu,oo,tC,b11⟩ ?_;rintro f1 EC ⟨k,ra,rc,hk,h1,W,J,m64,wB,vN,wC,wD,tF,uI,b12⟩;refine Ws<|ay<|aT J ?_;by_cases c57:(k:Int)<6
 ·refine Lv aG (gu c57)<|aC<|aN<|Wk<|sN<|Ws<|Wb ?_;have brk:=h.br k (by omega);have uV:=N.below b12 lp;refine Aw [0,1,2,3,4,5,6,8,9,10,11,12,15,16,7,13,14,17,18] [0,0,0,0,0,0,0,4,0,0,0,0,0,4,2,0,0,0,3] (iU [28]) vX Fx.iU.trans (fM := [(14,7,[7]),(18,7,[7]),(14,13,[13]),(18,13,[13]),(17,14,[14]),(18,14,[14])]) (by kernel_rfl) (by kernel_rfl) (by kernel_rfl) (by kernel_rfl) (by kernel_rfl) fun G gJ nO => ?_;have⟨xq,vO,yN,uW,xE,xW,xX,xu,R⟩:=BD gJ m64 wB vN wC wD tF uI uV b12;refine bW W<|bW J<|bW W<|bW J<|bf (pt a)<|bf (pf a 21)<|Rp (pf a (k+21)) (fun _=>jC 6 1)<|bW h1<|bW J<|bf (pt p)<|bf (pf p 21)<|Rp (pf p (k+21)) (fun _=>jC 6 1)<|bf (pt a)<|bf (pf a 21)<|Rs (.slice none 0 0) (aL xW.aH (k+21) (Yc (by omega))) ?_;refine Rs (.slice (m.ra k) (m.rn k) (m.rc k)) (aL xq (k+21) (wJ _ (by omega))) ?_;refine BA<|Fx.L.IG (B:=w.heap.size) (s:=1) (bytes:=8) (k:=0) (m:=(m.rn k)) (v := .slice none 0 0) (x:=rv .u64 (m.rq k)) (by rfl) rfl rfl rfl Tryz.underlying63 (by kernel_rfl) (by kernel_rfl) rfl rfl (vU G w.heap.size 28 1 (rv .u64 (m.rq k))) ((h.ar k (by omega)).up R rfl) (fun _ _=>rfl) (by omega) (by omega) R.size fun vv4 Q ho4 d alJ => ?_;rw[H_]at ho4;obtain⟨K,M,rfl⟩:=ho4.val;have AV:=yI d (vU G w.heap.size 28 1 (rv .u64 (m.rq k)));have hq3:Below G.heap.size G Q:=⟨d.os,d.tape,d.output,d.size,fun q l=>d.block q l (fun e=>by cases e)⟩
  have wE:=xq.cZ (Sb hq3) (u_ (xq.lt (by omega)));have⟨xY,zM,xZ,AO,AP⟩:=sj AV vO yN uW xE xW;have hq4:Below G.heap.size G Q:=⟨d.os,d.tape,d.output,d.size,fun q l=>d.block q l (fun e=>by cases e)⟩
  have Aj:=xX.up hq4;have hq5:Below G.heap.size G Q:=⟨d.os,d.tape,d.output,d.size,fun q l=>d.block q l (fun e=>by cases e)⟩
  have zN:=xu.cZ (Sb hq5) (u_ (xu.lt (by omega)));have xG:Fx.Own Q w.heap.size 28 1 (.slice K (m.rn k) (M)) (m.rn k) (rv .u64 (m.rq k)):=(ho4.congr (fun j _=>app0 j));have b14:Below w.heap.size w Q:=yF R d R.size (fun q l=>((vU G w.heap.size 28 1 (rv .u64 (m.rq k))).ge l).1);have hf1:=xX.fresh alJ;refine Ln ⟨AV,?_⟩;refine Rp (pf a (k+21)) (fun _=>jC 6 1)<|gQ<|jd AP (k+21) (.slice K (m.rn k) (M)) fun DV zO Z z6 => ?_;have AQ:=wE.cZ Z (by omega);have EL:=gZ Z AP.ty;have⟨ED,Dy,BO,CV,zS⟩:=sj EL xY zM xZ AO Aj;have F5:=zN.cZ Z (by omega);have D6:=kF EL xG;have b15:=Z.below b14 b14.size (by omega);refine Ln<|Rn<|bQ<|sN<|Wl<|aT J<|Lv (au ((k:Int)+1)) eO<|av (au ((k:Int)+1))<|Ln ?_;have F6:aQ DV a 27 (mQ (KG m C E D F b u z (aI ra k K) (aI rc k M) (k+1))) 71:=zO.to (Ul (by omega));have Gf:wK DV w.heap.size (k+1) (KG m C E D F b u z (aI ra k K) (aI rc k M) (k+1)):=Yd zS D6 hf1
  skip
  refine gF ⟨k+1,(aI ra k K),(aI rc k M),by omega,h1,W,Fx.ic,AQ,ED,Dy,BO,CV,F6,Gf,b15⟩ ?_;show(6-(intOf (au ((k:Int)+1))).toNat)<_;simp only[J,intOf]; omega
 refine Lv aF (gy c57)<|aC<|aK<|Wx<|cu<|gL<|cB<|sN<|ay<|aT W<|av (pt a)<|aC<|Wr<|aJ (pt a) ?_;have ek:k=6:=by omega
 subst ek;exact⟨a,atM m C E D F b u z ra rc,rfl,rfl,{ c:=tF.congr agH,n:=wB,g:=vN,tc:=wD,t:=wC,r:=Ye uI,pB:=pV,tB:=sU,bn:=bn1,bg:=bg,bt:=bt1,br:=h.br },b12⟩
namespace Rt
def nV(id:Nat->Int)(o:Int):Nat->Nat
 | 0=>0
 | n+1=>nV id o n+if id n / 1099511627776=o then 1 else 0
theorem Un{id:Nat->Int}{o:Int}{c k:Nat}(h:c=nV id o k)(e:id k / 1099511627776=o):c+1=nV id o (k+1):=by unfold nV; rw[d_ e,h]
theorem Yf{id:Nat->Int}{o:Int}{c k:Nat}(h:c=nV id o k)(e : ¬ id k / 1099511627776=o):c=nV id o (k+1):=by unfold nV; rw[b_ e,h]; rfl
noncomputable def kI(L:fZ)(v:EvM):Int:=if 5<=nV L.id v.o L.nn\/140737488355328<v.aS then 6 else jA L.t L.tn (jk v.o v.seq) v.node
def sI(f:Nat->Int)(n:Nat)(x:Int):Nat:=down (fun i=>decide (x<f i)) n
def qI(L:fZ)(v:EvM):fZ :=
 { L with nn:=L.nn+1,id:=cO L.id (sI L.id L.nn (jk v.o v.seq)) (jk v.o v.seq),par:=cO L.par (sI L.id L.nn (jk v.o v.seq)) v.node,
          R:=cO L.R (sI L.id L.nn (jk v.o v.seq)) (upd (fun _=>0) (v.o-1).toNat v.aS),
          tn:=L.tn+1,t:=oU L.t (down (fun i=>decide (jk v.o v.seq<L.t i 0)) L.tn) (jk v.o v.seq) v.node }
theorem Uo{id par:Int}(j:Nat):bI (bI (fun c=>if c<2 then aD 0 else au 0) 0 1 (fun _=>aD id)) 1 1 (fun _=>aD par) j=ji id par (fun _=>0) j:=by
 unfold bI ji;by_cases a:j=0
 ·subst a; rfl
 by_cases b:j=1
 ·subst b; rfl
 rw[b_ (by omega),b_ (by omega),b_ a,b_ b]; show(if j<2 then _ else _)=_; rw[b_ (by omega)]
theorem OH{id par:Int}{R:Nat->Int}{a q:Nat}{x:Int}(d:q=a+2):dB (ji id par R) q (au x)=ji id par (upd R a x):=by
 subst d
 funext p
 unfold dB ji upd;by_cases h:p=a+2
 ·subst h; rw[d_ rfl,b_ (by omega),b_ (by omega),d_ (by omega)]
 rw[b_ h];by_cases b:p=0
 ·rw[d_ b,d_ b]
 by_cases c:p=1
 ·rw[b_ b,d_ c,b_ b,d_ c]
 rw[b_ b,b_ c,b_ b,b_ c,b_ (by omega)]
theorem OI{id par:Nat->Int}{R:Nat->Nat->Int}{k:Nat}{a b:Int}{c:Nat->Int}:Fx.IJ (fun d=>ji (id d) (par d) (R d)) k (ji a b c)=fun d=>ji (cO id k a d) (cO par k b d) (cO R k c d):=by
 funext i
 unfold Fx.IJ cO;by_cases h:i<k
 ·simp only[d_ h]
 by_cases e:i=k
 ·simp only[b_ h,d_ e]
 simp only[b_ h,b_ e]
theorem G6(m:lS)(a:Option Addr)(n c:Nat):dB (mQ m) 18 (.slice a n c)=mQ { m with s := { m.s with na:=a,nn:=n,nc:=c } }:=by
 funext p
 unfold dB mQ;by_cases h:p=18
 ·subst h; rfl
 rw[b_ h];by_cases e:p<20
 ·rw[d_ e,d_ e]; unfold jZ;by_cases b:p<6
  ·rw[d_ b,d_ b]
  by_cases d:p<12
  ·rw[b_ b,d_ d,b_ b,d_ d]
  by_cases f:p<18
  ·rw[b_ b,b_ d,d_ f,b_ b,b_ d,d_ f]
  rw[b_ b,b_ d,b_ f,b_ h,b_ b,b_ d,b_ f,b_ h]
 rw[b_ e,b_ e]
theorem wL{s:Nat}{z y:Nat->Value}(hy : ∀ j,(y j).oneCell'=true) : ∀ j,j<1*s->(bI z (0*s) s y j).oneCell'=true:=fun j a=>by
 unfold bI; rw[d_ (by omega)]; exact hy _
theorem Uq{f:Nat->Int}{n k j:Nat}{x:Int}(e:k=j+1)(h : ∀ i,k<=i->i<n->x<f i)(c:x<f j) : ∀ i,j<=i->i<n->x<f i:=fun i d b=>by
 by_cases a:i=j
 ·subst a; exact c
 ·exact h i (by omega) b
end Rt
theorem Rt.KI{t:Nat->Nat->Int}{tn:Nat}{id par:Int}(h:jA t tn id par=0):tn+1<=33:=by
 unfold jA at h;split at h; · cases h
 split at h; · cases h
 split at h; · cases h
 split at h; · cases h
 rename_i h4
 rcases Nat.lt_or_ge tn 32 with h5|h5
 ·omega
 exact N_ (Or.inl h5) h4
set_option maxRecDepth 20000 in
set_option maxHeartbeats 2000000 in
theorem Yg(m:lS)(B p a D:Nat)(v:EvM)(w:World)(C:vP w B p m)(u:B<=w.heap.size)(ha:a<6)(ho:v.o=(a:Int)+1)(bnn:m.s.nn<=900)(hD:bE m.t m.tn (bD m.t m.tn D v.node)<0)(hD2:D<=1000) :
 Calls Tryz.prog 78 #[(pt p),.agg (aA 14 (bU v))] w fun e w'=>e = .returned (au (kI m.core v))/\Below B w w'/\(kI m.core v=0 -> ∃ m',m'.core=qI m.core v/\vP w' B p m'):=by
 have Ur:=C.c;have hLn:=C.n;have hLg:=C.g;have Ut:=C.tc;have Uu:=C.t;have hLr:=C.r;have Uv:=C.pB;have Dz:=C.tB;have bn:=C.bn;have bg:=C.bg;have bt:=C.bt;have lpp:p<w.heap.size:=Ur.lt;have Ru:m.tb<w.heap.size:=Ut.lt;refine Kent Tryz.func78 132 ?_;refine ay<|qD fun I w1 lK m1 s1 z1 => ?_;have⟨m2,m3,m4,m5,m6,m7⟩:=um s1.old Ur hLn hLg Ut Uu hLr;have b1:=eZ s1.old (Below.refl B w) u;have sU:=iV lK (Below.refl B w).size;have⟨nP,xB⟩:=vY lK Ur.lt Ut.lt;have uq:=m1.lt;refine av (au 0)<|aC<|ay<|av (au 0)<|aC<|Ws<|ay<|av (au 0)<|aC<|Wb<|Wo (fun f z => ∃ k:Nat,∃ G:Nat,k<=m.s.nn/\G<=k/\G=nV m.id v.o k/\f 0=(pt p)/\f 3=(pt I)/\f 5=au (G:Int)/\f 6=au (k:Int)/\aQ z p 27 (mQ m) 71/\Fx.Own z B 61 56 (.slice m.s.na (m.s.nn) (m.s.nc)) m.s.nn (JM m)/\Fx.Own z B 66 5 (.slice m.s.ga (m.s.gn) (m.s.gc)) m.s.gn (I8 m)/\aQ z m.tb 1 (fun _ => .slice m.ta m.tn m.tc) 123/\Fx.Own z B 128 2 (.slice m.ta (m.tn) (m.tc)) m.tn (Qp m.t)/\wK z B 6 m/\aQ z I 14 (bU v) 32/\Below B w z) (fun f _=>(m.s.nn-(intOf (f 6)).toNat)) ⟨0,0,by omega,by omega,rfl,(by rfl),(by rfl),Fx.ic,Fx.ic,m2,m3,m4,m5,m6,m7,m1,b1⟩ ?_;rintro f1 O ⟨k,G,hk,hcl,aa,J,K,h3,Y,m8,m9,m10,m11,m12,m13,W,b2⟩;refine Ws<|ay<|aT Y<|aT J<|av (pt p)<|av (pt p)<|av (pf p 18)<|Lv (.slice m.s.na (m.s.nn) (m.s.nc)) (aL m8.aH 18)<|av (au m.s.nn) ?_;by_cases c18:(k:Int)<(m.s.nn:Int)
 ·refine Lv aG (gu c18)<|aC<|aN<|Wk<|sN<|Ws<|Wb<|Ws ?_;refine xR<|eG J<|aW (pt p)<|aW (pt p)<|aW (pf p 18)<|Qv (.slice m.s.na (m.s.nn) (m.s.nc)) (fun F E=>aL (m8.aH.dr E) 18)<|eG Y ?_;obtain⟨Am,eq1⟩:=m9.addr (by omega);have m15:Fx.Own O B 61 56 (bM Am m.s.nn m.s.nc) m.s.nn (JM m):=m9.dL (M_ (fun q=>Value.slice q m.s.nn m.s.nc) eq1);refine Qv (pf Am (56*k)) (fun F E=>dh 56 (hx:=(rfl.trans (M_ (fun q=>Value.slice q (m.s.nn) (m.s.nc)) eq1))))<|aW (pf Am (56*k))<|Qv (aD (m.id k)) (fun F E=>aL (m15.aH.dr E) (56*k) (Fx.fO (k:=k) (j:=0) (by omega) (by omega) rfl))<|Qv (aD ((m.id k) / 1099511627776)) (fun F E=>Fx.ZP (b:=40) (q:=1099511627776) rfl rfl rfl (by decide) (by decide))<|Qv (pt I) (fun F E=>je K 0)<|Qv (au v.o) (fun F E=>aL (W.aH.dr E) 0)<|Qv (aD v.o) (fun F E=>dA rfl rfl (by kernel_rfl) Tryz.underlying28 (jN (by omega) rfl)) ?_;by_cases c34:((m.id k) / 1099511627776)=v.o
  ·refine Qv aG (fun F E=>fu c34)<|Qn ?_;rintro _ ⟨qd,rfl⟩;obtain⟨Dv,oV⟩ : ∃ F,F=World.drewN O qd:=⟨_,rfl⟩;rw[<- oV];have s2:Stp O.heap.size O Dv:=(by rw[oV]; exact Sb (jM O qd));have⟨m16,m17,m18,m19,m20,m21,m22⟩:=jQ s2.old m8 m10 m11 m12 m13 W m15;have b3:=eZ s2.old b2 u;clear oV;refine sN<|aN<|Wl<|aT h3<|Lv (au ((G:Int)+1)) eO<|av (au ((G:Int)+1))<|Ln<|bQ<|sN<|Wl<|aT Y<|Lv (au ((k:Int)+1)) eO<|av (au ((k:Int)+1))<|Ln ?_;have m23:Fx.Own Dv B 61 56 (.slice m.s.na (m.s.nn) (m.s.nc)) m.s.nn (JM m):=m22.dL (M_ (fun q=>Value.slice q m.s.nn m.s.nc) eq1.symm);refine gF ⟨k+1,G+1,by omega,by omega,(Un aa c34),J,K,Fx.ic,Fx.ic,m16,m23,m17,m18,m19,m20,m21,b3⟩ ?_;show(m.s.nn-(intOf (au ((k:Int)+1))).toNat)<_;simp only[Y,intOf]; omega
  refine Qv aF (fun F E=>fQ c34)<|Qn ?_;rintro _ ⟨qd,rfl⟩;obtain⟨wq2,sJ⟩ : ∃ F,F=World.drewN O qd:=⟨_,rfl⟩;rw[<- sJ];have s3:Stp O.heap.size O wq2:=by rw[sJ]; exact Sb (jM O qd)
  have⟨m24,nk,og,oh,om,nI,oF⟩:=jQ s3.old m8 m10 m11 m12 m13 W m15;have b4:=eZ s3.old b2 u;clear sJ;refine sN<|aK<|Wk<|bQ<|sN<|Wl<|aT Y<|Lv (au ((k:Int)+1)) eO<|av (au ((k:Int)+1))<|Ln ?_;have lX:Fx.Own wq2 B 61 56 (.slice m.s.na (m.s.nn) (m.s.nc)) m.s.nn (JM m):=oF.dL (M_ (fun q=>Value.slice q m.s.nn m.s.nc) eq1.symm);refine gF ⟨k+1,G,by omega,by omega,(Yf aa c34),J,K,(h3.trans Fx.ic),Fx.ic,m24,lX,nk,og,oh,om,nI,b4⟩ ?_;show(m.s.nn-(intOf (au ((k:Int)+1))).toNat)<_;simp only[Y,intOf]; omega
 refine Lv aF (gy c18)<|aC<|aK<|Wx<|cu<|gL<|cB<|sN<|Ws<|ay<|aT h3 ?_;by_cases c38:5<=(G:Int)
 ·refine Lv aG (ku c38)<|av aG<|bX<|bX<|bX<|av aG<|aC<|aN<|ay<|av (au 6)<|aC<|Wr<|sR<|aJ (au 6) ?_;have N:k=m.s.nn:=by omega
  subst N;have H:kI m.core v=6:=d_ (.inl (by rw[show nV m.core.id v.o m.core.nn=G from aa.symm]; omega));exact⟨oO H.symm,b2,fun U=>by rw[H]at U; cases U⟩
 refine Lv aF (jU c38)<|av aF<|Lv (pf I 11) (je K 11)<|Lv (au v.aS) (aL W.aH 11) ?_;by_cases SN:140737488355328<v.aS
 ·refine Lv aG (mW SN)<|av aG<|aC<|aN<|ay<|av (au 6)<|aC<|Wr<|sR<|aJ (au 6) ?_;have N:k=m.s.nn:=by omega
  subst N;have H:kI m.core v=6:=d_ (.inr (by omega));exact⟨oO H.symm,b2,fun U=>by rw[H]at U; cases U⟩
 refine Lv aF (mX SN)<|av aF<|aC<|aK<|Wk<|sN<|ay<|Lv (pt I) (je K 0)<|Lv (au v.o) (aL W.aH 0)<|Lv (pf I 1) (je K 1)<|Lv (aD v.seq) (aL W.aH 1)<|mF (alH v.o v.seq _) _ rfl<|av (aD (jk v.o v.seq))<|aC<|Ws ?_;refine jV [0,1,2,4,5,3,6,7,8] [0,0,0,4,0,0,4,3,0] [(7,3,[3]),(7,6,[6]),(8,7,[7])] fun pQ dR iG => ?_;have⟨m32,pR,nQ,oq,pU,qQ,qR⟩:=jQ dR m8 m9 m10 m11 m12 m13 W;have b5:=eZ dR b2 u;refine bW J<|bf (pt p)<|bf (pf p 20)<|bf (aD (jk v.o v.seq))<|Rp (pf I 9) (fun _=>je K 9)<|Rs (pt m.tb) (aL m32.aH 20) ?_;refine Rs (aD v.node) (aL qR.aH 9) ?_;refine gQ<|dZ (agD B m.tb m.ta m.tn m.tc m.t (jk v.o v.seq) v.node D _ oq pU (fun e=>Fx.Ty.ne (pU.ty e) oq.ty (by decide) rfl) (m_ u b5.size) bt hD hD2) _ rfl ?_;rintro X ⟨agN,hcs1⟩;have hc1:iU [123,128] pQ X:=Fx.iU.R6 agN (by rintro k (rfl|e) <;> first|exact⟨_,oq.ty,by decide⟩|exact⟨_,pU.ty e,by decide⟩)
 have oP:aQ X p 27 (mQ m) 71:=m32.kM hc1 (by decide);have rQ:Fx.Own X B 61 56 (.slice m.s.na (m.s.nn) (m.s.nc)) m.s.nn (JM m):=pR.kM hc1 (by decide);have nJ:Fx.Own X B 66 5 (.slice m.s.ga (m.s.gn) (m.s.gc)) m.s.gn (I8 m):=nQ.kM hc1 (by decide);have mO:wK X B 6 m:=qQ.kM hc1 (by decide);have nK:aQ X I 14 (bU v) 32:=qR.kM hc1 (by decide);have b6:Below B w X:=Fx.jT.below b5 agN (by rintro k (rfl|e) <;> first|exact Dz|exact(pU.ge e).1) (m_ u b5.size)
 rcases hcs1 with ⟨Q,hT1,hO1⟩|⟨Q,g9,Yh,hT1,hO1,hne1⟩
 ·refine Ln<|bf (au (jA m.t m.tn (jk v.o v.seq) v.node))<|bS<|Ws<|ay<|av (au (jA m.t m.tn (jk v.o v.seq) v.node))<|Lv aG (mY Q)<|aC<|aN<|ay<|av (au (jA m.t m.tn (jk v.o v.seq) v.node))<|av (au (jA m.t m.tn (jk v.o v.seq) v.node))<|aC<|Wr<|sR<|aJ (au (jA m.t m.tn (jk v.o v.seq) v.node)) ?_;have N:k=m.s.nn:=by omega
  subst N;have H:kI m.core v=jA m.t m.tn (jk v.o v.seq) v.node:=b_ (fun h=>h.elim (fun h=>by rw[show nV m.core.id v.o m.core.nn=G from aa.symm]at h; omega) (fun h=>by omega));exact⟨oO H.symm,b6,fun U=>N_ (H.symm.trans U) Q⟩
 refine Ln<|bf (au (jA m.t m.tn (jk v.o v.seq) v.node))<|bS<|Ws<|ay<|av (au (jA m.t m.tn (jk v.o v.seq) v.node))<|Lv aF (jP Q)<|aC<|aK<|Wk<|sN<|ay<|av (aD (jk v.o v.seq))<|Lv (pf I 9) (je K 9)<|Lv (aD v.node) (aL nK.aH 9)<|av (.agg (aA 56 (bI (bI (fun L=>if L<2 then aD 0 else au 0) 0 1 (fun _=>aD (jk v.o v.seq))) 1 1 (fun _=>aD v.node))))<|uh 56 (fun L=>if L<2 then aD 0 else au 0) fun M w4 Ak sZ s5 z2 => ?_;have⟨rR,nR,sw,vL,rA,qU,uU⟩:=jQ s5.old oP rQ nJ mO nK hT1 hO1;have b7:=eZ s5.old b6 u;have pV:=iV Ak b6.size;have alL:=bZ Ak oP.lt;have EM:(.slice m.s.na (m.s.nn) (m.s.nc):Value).ownBlock≠some M:=by rw[Ak]; exact rQ.jm (A_ _)
 have⟨alM,alN,acu⟩:=IQ Ak nK.lt hT1.lt hO1.lt;have zy:=sZ.lt;refine fA sZ 0 (h1:=(bP (bP (fun jq _=>by show((fun L=>if L<2 then aD 0 else au 0:Nat->Value) jq).oneCell'=true; simp only[]; repeat (first|rfl|split)) (fun _ _=>rfl)) (fun _ _=>rfl))) fun w5 tV s6 z3 => ?_
 have rD:aQ w5 M 56 (bI (bI (fun L=>if L<2 then aD 0 else au 0) 0 1 (fun _=>aD (jk v.o v.seq))) 1 1 (fun _=>aD v.node)) 61:=aU tV;have fV:=gZ s6 sZ.ty;have rE:=kF fV rR;have tu:=nR.cZ s6 EM;have⟨qV,qw,qx,xD,qF⟩:=sj fV sw vL rA qU uU;have b8:=s6.below b7 (m_ u b7.size) (by omega);refine aC<|Ws ?_;have vM:aQ w5 M 56 (ji (jk v.o v.seq) v.node (fun _=>0)) 61:=rD.congr (fun j hj=>Uo j);refine Wl<|Lv (pt I) (je K 0)<|Lv (au v.o) (aL qx.aH 0)<|Lv (au a) gH<|Lv (pf I 11) (je K 11)<|Lv (au v.aS) (aL qx.aH 11)<|av (pf M 2)<|av (pf M 2)<|Lv (pf M (a+2)) (jC 6 1)<|jd vM (a+2) (au v.aS) fun w6 oo s7 z4 => ?_;have tC:aQ w6 M 56 (ji (jk v.o v.seq) v.node (upd (fun _=>0) a v.aS)) 61:=oo.to (OH (by omega));have jJ:=gZ s7 vM.ty;have m64:=kF jJ rE;have wB:=tu.cZ s7 EM;have⟨vN,wC,wD,tF,uI⟩:=sj jJ qV qw qx xD qF;have b9:=s7.below b8 (m_ u b8.size) (by omega);refine aC<|Ws ?_;have ek0:k=m.s.nn:=by omega
 obtain⟨cn0,agP,hc38⟩ : ∃ cn0,cn0=nV m.id v.o m.s.nn /\ ¬ (5:Int)<=(cn0:Int):=⟨G,by rw[<- ek0]; exact aa,c38⟩;clear aa hcl ek0;refine Wl<|aT J<|av (pt p)<|av (pt p)<|av (pf p 18)<|Lv (.slice m.s.na (m.s.nn) (m.s.nc)) (aL m64.aH 18)<|av (au m.s.nn)<|av (au m.s.nn)<|aC<|Ws ?_;refine Aw [0,1,2,3,4,5,6,7,8,9,10,11,12] [0,0,0,0,0,1,4,2,2,0,0,0,3] (iU [61]) vX Fx.iU.trans (fM := [(12,5,[5]),(7,6,[6]),(8,6,[7,6]),(12,6,[6]),(8,7,[7]),(9,7,[7]),(10,7,[7]),(11,7,[7]),(12,7,[7]),(9,8,[8]),(10,8,[8]),(11,8,[8]),(12,8,[8])]) (by kernel_rfl) (by kernel_rfl) (by kernel_rfl) (by kernel_rfl) (by kernel_rfl) fun CP gJ nO => ?_;have⟨uV,xq,vO,yN,uW,xE,xW,xX⟩:=ng gJ m64 wB vN wC wD tF uI tC;have b10:=eZ gJ b9 u;refine bW J<|bW J<|bf (pt p)<|bf (pt p)<|bf (pf p 18)<|Rd (v := .slice m.s.na (m.s.nn) (m.s.nc)) (by rfl) (by rfl) (vX _) (fun F E=>bF (x:=mQ m) rfl rfl (by kernel_rfl) (uV.kM E (by decide)).aH (i:=18) (by omega) (by omega) rfl) ?_;refine Rs (.agg (aA 56 (ji (jk v.o v.seq) v.node (upd (fun _=>0) a v.aS)))) (fP xX.aH 0) ?_;refine BA<|xI (vs := [(0,.agg (aA 56 (ji (jk v.o v.seq) v.node (upd (fun _=>0) a v.aS))))]) (s:=56) (zc:=fun L=>if L<2 then aD 0 else au 0) (y:=bI (fun j=>(fun L=>if L<2 then aD 0 else au 0) (j % 56)) (0*56) 56 (ji (jk v.o v.seq) v.node (upd (fun _=>0) a v.aS))) (by rfl) rfl rfl Tryz.underlying50 (by kernel_rfl) (by rfl) (by rfl) (by kernel_rfl) (by rw[aZ (off:=0*56) (s:=56) (y:=ji (jk v.o v.seq) v.node (upd (fun _=>0) a v.aS)) rfl (bJ _ _) (by rfl)]; rfl) rfl fun g3 w7 zP xu s9 z5 => ?_;have⟨xG,wE,xY,zM,xZ,AO,AP,Aj⟩:=ng s9.old uV xq vO yN uW xE xW xX;have b11:=eZ s9.old b10 u;have za:=iV zP b10.size;have alP:=bZ zP uV.lt;have alQ:(.slice m.s.na (m.s.nn) (m.s.nc):Value).ownBlock≠some g3:=by rw[zP]; exact xq.jm (A_ _)
 have⟨alR,acv,Jb,acw⟩:=XF zP uW.lt xE.lt xW.lt xX.lt;have I4:=xu.lt;refine Ln ⟨Fx.iU.of_below s9.old,?_⟩;refine BA<|yG (B:=B) (s:=56) (bytes:=448) (k:=m.s.nn) (m:=1) (v := .slice m.s.na (m.s.nn) (m.s.nc)) (x:=JM m) (by rfl) rfl rfl rfl Tryz.underlying50 (by kernel_rfl) (by kernel_rfl) rfl rfl wE xu.aH (wL (uZ _ _ _)) (by omega) (by omega) (by omega) (m_ u b11.size) fun l A w8 ho1 hg1 sS hlt1 => ?_;have qE:=yI hg1 wE;have⟨zO,AQ,ED,Dy,BO,CV⟩:=R9 qE xG xY zM xZ AO AP;have zS:=Aj.grown hg1 EM;have alS:M≠l:=fun e=>sS.elim (fun e2=>EM (by rw[e]; exact e2)) (fun e2=>by have:=Aj.lt; omega);have zN:Fx.Own w8 B 61 56 (bM l (m.s.nn+1) A) (m.s.nn+1) (flat 56 (Fx.J3 (fun d=>ji (m.id d) (m.par d) (m.R d)) (ji (jk v.o v.seq) v.node (upd (fun _=>0) a v.aS)) m.s.nn m.s.nn)):=(ho1.congr (fun j hj=>(Fx.uO j hj).trans (bL (fun i V q _=>Fx.xO i V q) j hj)));have b12:Below B w w8:=yF b11 hg1 (m_ u b11.size) (fun q hq=>(wE.ge hq).1);refine Ln ⟨qE,?_⟩;refine bf (pt p)<|bf (pt p)<|bf (pf p 18)<|gQ<|jd zO 18 (bM l (m.s.nn+1) A) fun w9 F5 s10 z6 => ?_;have wz:=gZ s10 zO.ty;have⟨D6,F6,Gf,wM,yg,wN,uw⟩:=Sc wz AQ ED Dy BO CV zS zN;have b13:=s10.below b12 (m_ u b12.size) (by omega);refine Ln<|bS<|Ws<|Wb<|Wo (fun f z => ∃ k:Nat,k<=m.s.nn/\(∀ i,k<=i->i<m.s.nn->(jk v.o v.seq)<m.id i)/\f 0=(pt p)/\f 7=aD (jk v.o v.seq)/\f 9=(pt M)/\f 10=au (k:Int)/\Fx.Own z B 66 5 (.slice m.s.ga (m.s.gn) (m.s.gc)) m.s.gn (I8 m)/\wK z B 6 m/\aQ z I 14 (bU v) 32/\aQ z m.tb 1 (fun _=>bM g9 (m.tn+1) Yh) 123/\Fx.Own z B 128 2 (bM g9 (m.tn+1) Yh) (m.tn+1) (rv .u64 (kW (oU m.t (down (fun i=>decide ((jk v.o v.seq)<m.t i 0)) m.tn) (jk v.o v.seq) v.node)))/\aQ z M 56 (ji (jk v.o v.seq) v.node (upd (fun _=>0) a v.aS)) 61/\aQ z p 27 (dB (mQ m) 18 (bM l (m.s.nn+1) A)) 71/\Fx.Own z B 61 56 (bM l (m.s.nn+1) A) (m.s.nn+1) (flat 56 (Fx.J3 (fun d=>ji (m.id d) (m.par d) (m.R d)) (ji (jk v.o v.seq) v.node (upd (fun _=>0) a v.aS)) m.s.nn k))/\Below B w z) (fun f _=>(intOf (f 10)).toNat) ⟨m.s.nn,by omega,(fun i J K=>N_ J (by omega)),J,Fx.ic,(by rfl),Fx.ic,D6,F6,Gf,wM,yg,wN,F5,uw,b13⟩ ?_;rintro f2 sV ⟨k,hk,hgt,Z,h6,h7,P,pY,oZ,qJ,qb,rG,sK,vg,rH,b14⟩;refine Ws<|ay<|aT P ?_;by_cases c91:0<(k:Int)
 ·obtain⟨j,ej⟩ : ∃ j,k=j+1:=⟨k-1,by omega⟩;refine Lv aG (mW c91)<|av aG<|aT Z<|av (pt p)<|av (pt p)<|av (pf p 18)<|Lv (bM l (m.s.nn+1) A) (aL vg.aH 18 (Fx.lM (by omega)))<|aT P<|Lv (au j) gH<|Lv (pf l (56*j)) (dh 56)<|av (pf l (56*j))<|Lv (aD (m.id j)) (aL rH.aH (56*j) (Fx.fO (k:=j) (j:=0) (by omega) (by omega) ((congrFun (Fx.zo (by omega) (by omega)) 0).trans rfl)))<|aT h6 ?_;by_cases Yi:(jk v.o v.seq)<(m.id j)
  ·refine Lv aG (mW Yi)<|av aG<|aC<|aN<|Wk<|sN<|Wb<|Ws ?_;refine jV [0,1,2,3,5,6,7,8,9,11,12,4,10,13,14,15,16] [0,0,0,0,4,0,0,0,0,0,4,0,0,0,4,0,3] [(16,4,[4]),(16,10,[10]),(16,14,[14])] fun Rv lW AJ => ?_;have⟨uy,zf,vk,zh,BP,xH,uz,qK⟩:=ng lW pY oZ qJ qb rG sK vg rH;have b15:=eZ lW b14 u;refine bW Z<|bf (pt p)<|bf (pt p)<|bf (pf p 18)<|bW P<|bW Z<|bf (pt p)<|bf (pt p)<|bf (pf p 18)<|bW P<|Rp (au j) (fun _=>gH)<|Rs (bM l (m.s.nn+1) A) (aL uz.aH 18 (Fx.lM (by omega))) ?_;refine Rs (bM l (m.s.nn+1) A) (aL uz.aH 18 (Fx.lM (by omega))) ?_;refine Rp (pf l (56*j)) (fun _=>dh 56)<|Rs (.agg (aA 56 (ji (m.id j) (m.par j) (m.R j)))) (fP qK.aH (56*j) (fun jq hjq=>(Fx.jB (k:=j) (by omega) hjq).trans (congrFun (Fx.zo (by omega) (by omega)) jq))) ?_;refine Rp (pf l (56*k)) (fun _=>dh 56)<|gQ<|zJ qK (56*k) (h1:=(fun j _=>uZ _ _ _ j)) fun EC yh s12 z7 => ?_;have xC:=gZ s12 qK.J2;have⟨yj,uD,BQ,Jc,EN⟩:=sj xC uy zf vk zh BP;have AX:=xH.cZ s12 (by omega);have EO:=kF xC uz;have b16:=s12.below b15 (m_ u b15.size) qK.blk.1;have Gg:Fx.Own EC B 61 56 (bM l (m.s.nn+1) A) (m.s.nn+1) (flat 56 (Fx.J3 (fun d=>ji (m.id d) (m.par d) (m.R d)) (ji (jk v.o v.seq) v.node (upd (fun _=>0) a v.aS)) m.s.nn j)):=yh.congr (fun T S=>(Fx.uP (k:=k) (by omega) T S).trans (bL (fun i V q _=>Fx.yJ ej (by omega) i V q) T S));refine Ln<|bS<|Wl<|aT P<|Lv (au j) gH<|av (au j)<|Ln<|bQ<|gF ⟨j,by omega,(Uq ej hgt Yi),Z,(h6.trans Fx.ic),h7,Fx.ic,yj,uD,BQ,Jc,EN,AX,EO,Gg,b16⟩ ?_;show(intOf (au j)).toNat<_;simp only[P,intOf]; omega
  refine Lv aF (mX Yi)<|av aF<|aC<|aK<|Wx<|cu<|gL<|cB<|sN<|Ws ?_;refine jV [0,1,2,3,5,4,6,7,8] [0,0,0,0,4,0,4,0,3] [(8,4,[4]),(8,6,[6])] fun wt4 qP GL => ?_;have⟨BR,zT,KJ,EP,ER,Gi,Gj⟩:=jQ qP pY oZ qb rG sK vg rH;have b17:=eZ qP b14 u;refine bW Z<|bf (pt p)<|bf (pt p)<|bf (pf p 18)<|bW P<|Rs (bM l (m.s.nn+1) A) (aL Gi.aH 18 (Fx.lM (by omega))) ?_;refine Rs (.agg (aA 56 (ji (jk v.o v.seq) v.node (upd (fun _=>0) a v.aS)))) (fP ER.aH 0 (ha:=h7)) ?_;refine Rp (pf l (56*k)) (fun _=>dh 56)<|gQ<|zJ Gj (56*k) (h1:=(fun j _=>uZ _ _ _ j)) fun zL BS BJ z8 => ?_;have ze:=gZ BJ Gj.J2;have⟨ES,BU,ET,zU⟩:=MC ze BR zT KJ EP;have BX:=ER.cZ BJ (by omega);have AY:=kF ze Gi;have b18:=BJ.below b17 (m_ u b17.size) Gj.blk.1;have Jd:Fx.Own zL B 61 56 (bM l (m.s.nn+1) A) (m.s.nn+1) (flat 56 (Fx.IJ (fun d=>ji (m.id d) (m.par d) (m.R d)) k (ji (jk v.o v.seq) v.node (upd (fun _=>0) a v.aS)))):=BS.congr (fun T S=>(Fx.uP (k:=k) (by omega) T S).trans (bL (fun i V q _=>Fx.tN (by omega) i V q) T S));refine Ln<|bS<|ay<|av (au 0)<|aC<|Wr<|aJ (au 0) ?_;have H:kI m.core v=jA m.t m.tn (jk v.o v.seq) v.node:=b_ (fun h=>h.elim (fun h=>by rw[show nV m.core.id v.o m.core.nn=cn0 from agP.symm]at h; omega) (fun h=>by omega));have N:k=sI m.id m.s.nn (jk v.o v.seq):=Fx.pF hk (fun i a b=>f_ (hgt i a b)) (.inr (fun j2 e=>by rw[show j2=j by omega]; exact g_ Yi));have Uw:Fx.Own zL B 61 56 (bM l (m.s.nn+1) A) (m.s.nn+1) (flat 56 fun d=>ji (cO m.id k (jk v.o v.seq) d) (cO m.par k v.node d) (cO m.R k (upd (fun _=>0) a v.aS) d)):=by rw[<- OI]; exact Jd
  have eR:(upd (fun _=>0) a v.aS)=upd (fun _=>0) (v.o-1).toNat v.aS:=by rw[show(v.o-1).toNat=a by omega]
  have bn9:m.tn+1<=33:=KI Q;refine⟨oO (Q.symm.trans H.symm),b18,fun _=>⟨{ m with s := { m.s with na:=some ⟨l,0,none⟩,nn:=m.s.nn+1,nc:=A },id:=cO m.id k (jk v.o v.seq),par:=cO m.par k v.node,R:=cO m.R k (upd (fun _=>0) a v.aS),ta:=some ⟨g9,0,none⟩,tn:=m.tn+1,tc:=Yh,t:=oU m.t (down (fun i=>decide ((jk v.o v.seq)<m.t i 0)) m.tn) (jk v.o v.seq) v.node },?_,?_⟩⟩
  ·unfold qI; rw[show sI m.core.id m.core.nn (jk v.o v.seq)=k from N.symm,<- eR]; rfl
  exact { c:=AY.to (G6 m _ _ _),n:=Uw,g:=ES,tc:=ET,t:=zU,r:=BU,pB:=Uv,tB:=Dz,bn:=(by have:=bnn; show m.s.nn+1<=1000; omega),bg:=bg,bt:=(by show m.tn+1<=1000; omega),br:=C.br }
 refine Lv aF (mX c91)<|av aF<|bX<|bX<|bX<|bX<|bX<|bX<|bX<|bX<|bX<|bX<|bX<|bX<|av aF<|aC<|aK<|Wx<|cu<|gL<|cB<|sN<|Ws ?_;refine jV [0,1,2,3,5,4,6,7,8] [0,0,0,0,4,0,4,0,3] [(8,4,[4]),(8,6,[6])] fun wt5 zx SY => ?_;have⟨Ux,Uy,Uz,acy,UA,Qx,UC⟩:=jQ zx pY oZ qb rG sK vg rH;have b19:=eZ zx b14 u;refine bW Z<|bf (pt p)<|bf (pt p)<|bf (pf p 18)<|bW P<|Rs (bM l (m.s.nn+1) A) (aL Qx.aH 18 (Fx.lM (by omega))) ?_;refine Rs (.agg (aA 56 (ji (jk v.o v.seq) v.node (upd (fun _=>0) a v.aS)))) (fP UA.aH 0 (ha:=h7)) ?_;refine Rp (pf l (56*k)) (fun _=>dh 56)<|gQ<|zJ UC (56*k) (h1:=(fun j _=>uZ _ _ _ j)) fun DV UD s16 z9 => ?_;have AV:=gZ s16 UC.J2;have⟨acz,acA,Qy,acB⟩:=MC AV Ux Uy Uz acy;have agQ:=UA.cZ s16 (by omega);have acC:=kF AV Qx;have b20:=s16.below b19 (m_ u b19.size) UC.blk.1;have acD:Fx.Own DV B 61 56 (bM l (m.s.nn+1) A) (m.s.nn+1) (flat 56 (Fx.IJ (fun d=>ji (m.id d) (m.par d) (m.R d)) k (ji (jk v.o v.seq) v.node (upd (fun _=>0) a v.aS)))):=UD.congr (fun T S=>(Fx.uP (k:=k) (by omega) T S).trans (bL (fun i V q _=>Fx.tN (by omega) i V q) T S));refine Ln<|bS<|ay<|av (au 0)<|aC<|Wr<|aJ (au 0) ?_;have H:kI m.core v=jA m.t m.tn (jk v.o v.seq) v.node:=b_ (fun h=>h.elim (fun h=>by rw[show nV m.core.id v.o m.core.nn=cn0 from agP.symm]at h; omega) (fun h=>by omega));have N:k=sI m.id m.s.nn (jk v.o v.seq):=Fx.pF hk (fun i a b=>f_ (hgt i a b)) (.inl (by omega));have acE:Fx.Own DV B 61 56 (bM l (m.s.nn+1) A) (m.s.nn+1) (flat 56 fun d=>ji (cO m.id k (jk v.o v.seq) d) (cO m.par k v.node d) (cO m.R k (upd (fun _=>0) a v.aS) d)):=by rw[<- OI]; exact acD
 have eR:(upd (fun _=>0) a v.aS)=upd (fun _=>0) (v.o-1).toNat v.aS:=by rw[show(v.o-1).toNat=a by omega]
 have bn9:m.tn+1<=33:=KI Q;refine⟨oO (Q.symm.trans H.symm),b20,fun _=>⟨{ m with s := { m.s with na:=some ⟨l,0,none⟩,nn:=m.s.nn+1,nc:=A },id:=cO m.id k (jk v.o v.seq),par:=cO m.par k v.node,R:=cO m.R k (upd (fun _=>0) a v.aS),ta:=some ⟨g9,0,none⟩,tn:=m.tn+1,tc:=Yh,t:=oU m.t (down (fun i=>decide ((jk v.o v.seq)<m.t i 0)) m.tn) (jk v.o v.seq) v.node },?_,?_⟩⟩
 ·unfold qI; rw[show sI m.core.id m.core.nn (jk v.o v.seq)=k from N.symm,<- eR]; rfl
 exact { c:=acC.to (G6 m _ _ _),n:=acE,g:=acz,tc:=Qy,t:=acB,r:=acA,pB:=Uv,tB:=Dz,bn:=(by have:=bnn; show m.s.nn+1<=1000; omega),bg:=bg,bt:=(by show m.tn+1<=1000; omega),br:=C.br }
namespace Rt
theorem nW(x:Nat->Int)(n:Int)(is:Bool)(a:Int)(off:Nat) :
 ((bT x n is a off).1=zero/\(bT x n is a off).2≠0 /\ ¬ (may x=true/\1<=n/\n<=1125899906842624/\is=true/\a=0/\x off+n<=1125899906842624)) \/
 ((may x=true/\1<=n/\n<=1125899906842624/\is=true/\a=0/\x off+n<=1125899906842624)/\bT x n is a off=(upd x off (x off+n),0)):=by
 unfold bT;by_cases f:may x=true
 ·by_cases c:1<=n
  ·by_cases d:n<=1125899906842624
   ·rw[f,f_ c,f_ d];simp only[Bool.and_self,if_true]
    cases is
    ·left; exact⟨rfl,(by show(10:Int)≠0; decide),fun h=>by cases h.2.2.2.1⟩
    by_cases b:a=0
    ·by_cases e:x off+n<=1125899906842624
     ·right; exact⟨⟨trivial,c,d,rfl,b,e⟩,by rw[d_ rfl,d_ b,d_ e]⟩
     left; rw[d_ rfl,d_ b,b_ e]; exact⟨rfl,by decide,fun h=>e h.2.2.2.2.2⟩
    left; rw[d_ rfl,b_ b]; exact⟨rfl,b,fun h=>b h.2.2.2.2.1⟩
   left; rw[g_ d,J_,b_ (by decide)]; exact⟨rfl,by decide,fun h=>d h.2.2.1⟩
  left; rw[g_ c,J_,Bool.false_and,b_ (by decide)]; exact⟨rfl,by decide,fun h=>c h.2.1⟩
 left; rw[show may x=false by simpa using f,Bool.false_and,Bool.false_and,b_ (by decide)]; exact⟨rfl,by decide,fun h=>by cases h.1⟩
theorem MX{x:Nat->Int}(h:Qo x){off:Nat}{n:Int}(h1:1<=n)(c:x off+n<=1125899906842624)(a:off<54):Qo (upd x off (x off+n)):=by
 intro p b;unfold upd;split
 ·have:=h off a; omega
 exact h p b
theorem rJ{i:Int}(h:gV i=true) : ∃ a:Nat,a<6/\i=(a:Int)+1/\i.toNat-1=a:=by
 have:1<=i/\i<=6:=by unfold gV at h; simpa using h
 exact⟨(i-1).toNat,by omega,by omega,by omega⟩
structure Moved(x y:Nat->Int)(a b:Nat)(n:Int):Prop where
 may:may y=true
 l : ∀ k,k<6->L y k=L x k+(if k=b then n else 0)-(if k=a then n else 0)
 g:ou y=ou x
 u:lQ y=lQ x
theorem AZ{x:Nat->Int}{i j n:Int}(h:(dn x i j n).2=0) : ∃ a b:Nat,a<6/\b<6/\a≠b/\i=(a:Int)+1/\j=(b:Int)+1/\1<=n/\n<=1125899906842624/\n<=L x a/\Moved x (dn x i j n).1 a b n/\(dn x i j n).1=upd x (18+a*6+b) (x (18+a*6+b)+n):=by
 unfold dn at *
 rcases nW x n (gV i&&gV j) (nU x i j n) (kV i j)with ⟨_,f,_⟩|⟨⟨hm,h1,f,hr,he,hx⟩,heq⟩
 ·exact N_ h f
 rw[T_]at hr;obtain⟨a,g,l,D⟩:=rJ hr.1;obtain⟨b,m,q,E⟩:=rJ hr.2;have s:kV i j=18+a*6+b:=by unfold kV; rw[D,E]
 rw[s]at heq hx;rw[s];have B:a≠b:=by
  intro z;unfold nU at he;rw[d_ (by rw[l,q,z])]at he
  cases he
 have y:n<=L x a:=by
  unfold nU at he;rw[b_ (by omega)]at he;by_cases d:fT x i<n
  ·rw[f_ d]at he; cases he
  ·rw[l,mJ hm a g]at d; omega
 obtain⟨e,t,w⟩:=(jS x).1 hm;have d:=aci x a b g m n;have c : ∀ p,p<18->upd x (18+a*6+b) (x (18+a*6+b)+n) p=x p:=fun p I=>gM _ _ _ _ (by omega);have o:ou (upd x (18+a*6+b) (x (18+a*6+b)+n))=ou x:=by unfold ou G; rw[c 0 (by omega),c 1 (by omega),c 2 (by omega),c 3 (by omega),c 4 (by omega),c 5 (by omega)]
 have A:(bT x n (gV i&&gV j) (nU x i j n) (18+a*6+b)).1=upd x (18+a*6+b) (x (18+a*6+b)+n):=by rw[heq]
 rw[A];refine⟨a,b,g,m,B,l,q,h1,f,y,⟨?_,d,o,?_⟩,rfl⟩
 ·rw[jS];refine⟨MX e h1 hx (by omega),fun k r => ?_,by rw[o]; exact w⟩;obtain⟨H,u,v⟩:=t k r;refine⟨?_,?_,?_⟩
  ·rw[d k r];split
   ·split <;> omega
   split
   ·rename_i hka; subst hka; omega
   omega
  ·unfold F C at *; rw[c _ (by omega),c _ (by omega)]; exact u
  unfold R at *; rw[gM _ _ _ _ (by omega)]; exact v
 unfold lQ C F; simp only[c _ (show 6+0<18 by omega),c _ (show 6+1<18 by omega),c _ (show 6+2<18 by omega),c _ (show 6+3<18 by omega),c _ (show 6+4<18 by omega),c _ (show 6+5<18 by omega),c _ (show 12+0<18 by omega),c _ (show 12+1<18 by omega),c _ (show 12+2<18 by omega),c _ (show 12+3<18 by omega),c _ (show 12+4<18 by omega),c _ (show 12+5<18 by omega)]
theorem EU(x:Nat->Int)(off:Nat)(c:off<18)(v:Int)(a b:Nat):R (upd x off v) a b=R x a b:=gM _ _ _ _ (by omega)
theorem UE(x:Nat->Int)(off:Nat)(a:off<18)(v:Int)(k:Nat):L (upd x off v) k=L x k+(G (upd x off v) k-G x k)+(F (upd x off v) k-F x k)-(C (upd x off v) k-C x k):=by
 unfold L;simp only[EU x off a v];omega
theorem agR(x:Nat->Int)(a:Nat)(n:Int)(k:Nat):C (upd x (6+a) (x (6+a)+n)) k=C x k+(if k=a then n else 0):=by
 unfold C upd;by_cases h:k=a
 ·subst h; simp
 rw[b_ (by omega),b_ h]; omega
theorem agS(x:Nat->Int)(a:Nat)(n:Int)(k:Nat):F (upd x (12+a) (x (12+a)+n)) k=F x k+(if k=a then n else 0):=by
 unfold F upd;by_cases h:k=a
 ·subst h; simp
 rw[b_ (by omega),b_ h]; omega
theorem agT(x:Nat->Int)(a:Nat)(n:Int)(k:Nat):G (upd x a (x a+n)) k=G x k+(if k=a then n else 0):=by
 unfold G upd;by_cases h:k=a
 ·subst h; simp
 rw[b_ h,b_ h]; omega
theorem six(a:Nat)(ha:a<6)(n:Int):(if 0=a then n else 0)+(if 1=a then n else 0)+(if 2=a then n else 0)+(if 3=a then n else 0)+(if 4=a then n else 0)+(if 5=a then n else 0)=n:=by
 have:a=0\/a=1\/a=2\/a=3\/a=4\/a=5:=by omega
 rcases this with h|h|h|h|h|h <;> subst h <;> simp
theorem Je{x:Nat->Int}{i n:Int}(h:(bC x i n).2=0) : ∃ a:Nat,a<6/\i=(a:Int)+1/\1<=n/\n<=1125899906842624/\n<=L x a/\C x a+n<=1125899906842624/\may (bC x i n).1=true /\
 (∀ k,k<6->L (bC x i n).1 k=L x k-(if k=a then n else 0))/\ou (bC x i n).1=ou x/\lQ (bC x i n).1=lQ x+n/\(bC x i n).1=upd x (6+a) (x (6+a)+n):=by
 unfold bC at *
 rcases nW x n (gV i) (pX x i n) (6+(i.toNat-1))with ⟨_,j,_⟩|⟨⟨hm,h1,j,hr,he,hx⟩,heq⟩
 ·exact N_ h j
 obtain⟨a,l,o,p⟩:=rJ hr;rw[p]at heq hx;rw[p];have t:n<=L x a:=by
  unfold pX at he;by_cases g:fT x i<n
  ·rw[f_ g]at he; cases he
  ·rw[o,mJ hm a l]at g; omega
 obtain⟨e,q,s⟩:=(jS x).1 hm;have u:(bT x n (gV i) (pX x i n) (6+a)).1=upd x (6+a) (x (6+a)+n):=by rw[heq]
 rw[u];have b:=agR x a n;have f : ∀ k,k<6->G (upd x (6+a) (x (6+a)+n)) k=G x k:=fun k d=>gM _ _ _ _ (by omega);have c : ∀ k,k<6->F (upd x (6+a) (x (6+a)+n)) k=F x k:=fun k d=>gM _ _ _ _ (by omega);have g : ∀ k,k<6->L (upd x (6+a) (x (6+a)+n)) k=L x k-(if k=a then n else 0):=by
  intro k d;rw[UE x (6+a) (by omega),f k d,c k d,b k]; omega
 have m:ou (upd x (6+a) (x (6+a)+n))=ou x:=by unfold ou; rw[f 0 (by omega),f 1 (by omega),f 2 (by omega),f 3 (by omega),f 4 (by omega),f 5 (by omega)]
 refine⟨a,l,o,h1,j,t,hx,?_,g,m,?_,rfl⟩
 ·rw[jS];refine⟨MX e h1 hx (by omega),fun k d => ?_,by rw[m]; exact s⟩;obtain⟨v,w,r⟩:=q k d;refine⟨?_,?_,?_⟩
  ·rw[g k d];split
   ·rename_i hka; subst hka; omega
   omega
  ·rw[c k d,b k]; split <;> omega
  rw[EU x (6+a) (by omega)]; exact r
 unfold lQ;rw[c 0 (by omega),c 1 (by omega),c 2 (by omega),c 3 (by omega),c 4 (by omega),c 5 (by omega),b 0,b 1,b 2,b 3,b 4,b 5];have:=six a l n;omega
theorem Jf{x:Nat->Int}{i n:Int}(h:(bG x i n).2=0) : ∃ a:Nat,a<6/\i=(a:Int)+1/\1<=n/\n<=1125899906842624/\n<=C x a-F x a/\may (bG x i n).1=true /\
 (∀ k,k<6->L (bG x i n).1 k=L x k+(if k=a then n else 0))/\ou (bG x i n).1=ou x/\lQ (bG x i n).1=lQ x-n/\(bG x i n).1=upd x (12+a) (x (12+a)+n):=by
 unfold bG at *
 rcases nW x n (gV i) (qW x i n) (12+(i.toNat-1))with ⟨_,j,_⟩|⟨⟨hm,h1,j,hr,he,hx⟩,heq⟩
 ·exact N_ h j
 obtain⟨a,m,u,l⟩:=rJ hr;rw[l]at heq hx;rw[l];have s:n<=C x a-F x a:=by
  unfold qW at he;rw[l]at he;by_cases g:C x a-F x a<n
  ·rw[f_ g]at he; cases he
  ·omega
 obtain⟨e,p,r⟩:=(jS x).1 hm;have t:(bT x n (gV i) (qW x i n) (12+a)).1=upd x (12+a) (x (12+a)+n):=by rw[heq]
 rw[t];have c:=agS x a n;have f : ∀ k,k<6->G (upd x (12+a) (x (12+a)+n)) k=G x k:=fun k d=>gM _ _ _ _ (by omega);have b : ∀ k,k<6->C (upd x (12+a) (x (12+a)+n)) k=C x k:=fun k d=>gM _ _ _ _ (by omega);have g : ∀ k,k<6->L (upd x (12+a) (x (12+a)+n)) k=L x k+(if k=a then n else 0):=by
  intro k d;rw[UE x (12+a) (by omega),f k d,c k,b k d]; omega
 have o:ou (upd x (12+a) (x (12+a)+n))=ou x:=by unfold ou; rw[f 0 (by omega),f 1 (by omega),f 2 (by omega),f 3 (by omega),f 4 (by omega),f 5 (by omega)]
 refine⟨a,m,u,h1,j,s,?_,g,o,?_,rfl⟩
 ·rw[jS];refine⟨MX e h1 hx (by omega),fun k d => ?_,by rw[o]; exact r⟩;obtain⟨v,w,q⟩:=p k d;refine⟨?_,?_,?_⟩
  ·rw[g k d]; split <;> omega
  ·rw[c k,b k d];split
   ·rename_i hka; subst hka; omega
   omega
  rw[EU x (12+a) (by omega)]; exact q
 unfold lQ;rw[b 0 (by omega),b 1 (by omega),b 2 (by omega),b 3 (by omega),b 4 (by omega),b 5 (by omega),c 0,c 1,c 2,c 3,c 4,c 5];have:=six a m n;omega
end Rt
section
namespace Rt
def dw(f:(Nat->Int)->(Nat->Int) × Int)(idx:Nat->Nat)(R:Nat->Nat->Int):Nat->(Nat->Nat->Int) × Int
 | 0=>(R,0)
 | j+1=>if(dw f idx R j).2=0 then(if(f ((dw f idx R j).1 (idx j))).2=0 then(aI (dw f idx R j).1 (idx j) (f ((dw f idx R j).1 (idx j))).1,0)else((dw f idx R j).1,(f ((dw f idx R j).1 (idx j))).2))else dw f idx R j
section
variable {f:(Nat->Int)->(Nat->Int) × Int} {idx:Nat->Nat} {R Rk:Nat->Nat->Int} {k q:Nat}
theorem EW(h:dw f idx R k=(Rk,0))(e:idx k=q)(a:(f (Rk q)).2=0):dw f idx R (k+1)=(aI Rk q (f (Rk q)).1,0):=by
 unfold dw; rw[h,d_ rfl,e,d_ a]
theorem G7(h:dw f idx R k=(Rk,0))(e:idx k=q)(a : ¬ (f (Rk q)).2=0):(dw f idx R (k+1)).2=(f (Rk q)).2:=by
 unfold dw; rw[h,d_ rfl,e,b_ a]
theorem zV(a : ¬ (dw f idx R k).2=0) : ∀ n,k<=n->dw f idx R n=dw f idx R k
 | 0,h=>by obtain rfl:k=0:=by omega
           rfl
 | n+1,h=>by
   by_cases e:k=n+1
   ·rw[e]
   ·have:=zV a n (by omega);rw[dw,this,b_ a]
end
def lead(P:Nat->Bool):Nat->Nat
 | 0=>0
 | n+1=>if lead P n=n/\P n=true then n+1 else lead P n
theorem D7(P:Nat->Bool) : ∀ n,lead P n<=n
 | 0=>A_ _
 | n+1=>by
   unfold lead; split
   ·exact A_ _
   ·have:=D7 P n; omega
theorem EX{P:Nat->Bool} : ∀ {n:Nat},(∀ i,i<n->P i=true)->lead P n=n
 | 0,_=>rfl
 | n+1,h=>by unfold lead; rw[d_ ⟨EX fun i a=>h i (by omega),h n (by omega)⟩]
theorem Jg{P:Nat->Bool}{K:Nat}(h1 : ∀ i,i<K->P i=true)(a:P K=false) : ∀ {n:Nat},K<=n->lead P n=K
 | 0,h=>by unfold lead; omega
 | n+1,h=>by
   unfold lead;by_cases e:K=n+1
   ·rw[d_ ⟨EX fun i d=>h1 i (by omega),h1 n (by omega)⟩]; exact e.symm
   ·rw[Jg h1 a (n:=n) (by omega),b_];rintro ⟨c,b⟩;subst c; rw[a]at b; cases b
def eP(t:Nat->Nat->Int)(tn:Nat)(x:Int):Nat:=lead (fun i=>decide (0<=bE t tn (bD t tn i x))) 1000
theorem sM{t:Nat->Nat->Int}{tn K D:Nat}{x:Int}(h1 : ∀ i,i<K->0<=bE t tn (bD t tn i x))(c:bE t tn (bD t tn K x)<0)(d:bE t tn (bD t tn D x)<0)(e:D<=1000):K=eP t tn x:=by
 have a:K<=1000:=by
  rcases Nat.lt_or_ge D K with h|h
  ·have:=h1 D h; omega
  ·omega
 exact(Jg (fun i b=>f_ (h1 i b)) (g_ (by omega)) a).symm
end Rt
def fZ.node(L:fZ)(x:Int):Int:=gX (fun i=>decide (L.id i=x)) L.nn
def fZ.grant(L:fZ)(o r:Int):Int:=gX (fun i=>decide (L.g i 0=o)&&decide (L.g i 1=r)) L.gn
def fZ.kY(L:fZ)(a:Nat)(r:Int):Int:=gX (fun i=>decide (L.rq a i=r)) (L.rn a)
namespace Rt
def ow(L:fZ)(x:Int)(i:Nat):Nat:=(L.node (bD L.t L.tn i x)).toNat
def qy(v:EvM):Nat->Int:=fun j=>if j=0 then v.o else if j=1 then v.req else if j=2 then v.node else if j=3 then v.aS else 0
def EY(v:EvM)(x:Nat->Int):Bool:=decide (v.o<x 0) || (decide (x 0=v.o)&&decide (v.req<x 1))
def aO(v:EvM):Nat:=(v.o-1).toNat
def ny(L:fZ)(v:EvM):(Nat->Nat->Int) × Int:=dw (fun x=>bC x v.o v.aS) (ow L v.node) L.R (eP L.t L.tn v.node)
def iW(L:fZ)(v:EvM):Int:=if 0<=L.kY (aO v) v.req then 14 else if eP L.t L.tn v.node=0 then 9 else(ny L v).2
def qL(L:fZ)(a:Nat)(r:Int):fZ := { L with rn:=aI L.rn a (L.rn a+1),rq:=aI L.rq a (aI (L.rq a) (L.rn a) r) }
def mh(L:fZ)(v:EvM):fZ :=
 qL { L with R:=(ny L v).1,gn:=L.gn+1,g:=cO L.g (down (fun i=>EY v (L.g i)) L.gn) (qy v) } (aO v) v.req
theorem BZ{n q:Nat}{id par:Nat->Int}{R:Nat->Nat->Int}{r:Nat->Int} : ∀ i,i<n -> ∀ j,j<56->Fx.qC (fun a=>ji (id a) (par a) (R a)) q (bI (ji (id q) (par q) (R q)) 2 54 (rv .i64 r)) i j=ji (id i) (par i) (aI R q r i) j:=fun i _ j d=>by
 unfold Fx.qC aI;by_cases h:i=q
 ·subst h;rw[d_ rfl,d_ rfl];unfold bI ji rv;by_cases b:j=0
  ·subst b; rfl
  ·by_cases c:j=1
   ·subst c; rfl
   ·rw[d_ (by omega),b_ b,b_ c]
 ·rw[b_ h,b_ h]
theorem Yj{g:Nat->Nat->Int}{k:Nat}{x:Nat->Int}:Fx.IJ (fun a=>iE (g a)) k (iE x)=fun a=>iE (cO g k x a):=by
 funext i
 unfold Fx.IJ cO;by_cases h:i<k
 ·simp only[d_ h]
 by_cases b:i=k
 ·simp only[b_ h,d_ b]
 simp only[b_ h,b_ b]
theorem MZ(m:lS)(a:Option Addr)(n c:Nat):dB (mQ m) 19 (.slice a n c)=mQ { m with s := { m.s with ga:=a,gn:=n,gc:=c } }:=by
 funext p
 unfold dB mQ;by_cases h:p=19
 ·subst h; rfl
 rw[b_ h];by_cases e:p<20
 ·rw[d_ e,d_ e]; unfold jZ;by_cases b:p<6
  ·rw[d_ b,d_ b]
  by_cases d:p<12
  ·rw[b_ b,d_ d,b_ b,d_ d]
  by_cases f:p<18
  ·rw[b_ b,b_ d,d_ f,b_ b,b_ d,d_ f]
  rw[b_ b,b_ d,b_ f,d_ (by omega),b_ b,b_ d,b_ f,d_ (by omega)]
 rw[b_ e,b_ e]
theorem KL(m:lS){i q:Nat}(f:q=i+21)(a:Option Addr)(n c:Nat):dB (mQ m) q (.slice a n c)=mQ { m with ra:=aI m.ra i a,rn:=aI m.rn i n,rc:=aI m.rc i c }:=by
 subst f
 funext p
 unfold dB mQ;by_cases h:p=i+21
 ·subst h;rw[d_ rfl,b_ (by omega),b_ (by omega),Nat.add_sub_cancel];simp[aI]
 rw[b_ h];by_cases b:p<20
 ·rw[d_ b,d_ b]
 rw[b_ b,b_ b];by_cases d:p=20
 ·rw[d_ d,d_ d]
 rw[b_ d,b_ d];have e : ¬ p-21=i:=by omega
 simp[aI,e]
theorem wK.app{w w':World}{B a g cap:Nat}{r:Int}{m d:lS}(h:wK w B 6 m)(_ha:a<6)(h1:d.ra=aI m.ra a (some ⟨g,0,none⟩))(l:d.rn=aI m.rn a (m.rn a+1))(t:d.rc=aI m.rc a cap)(u:d.rq=aI m.rq a (aI (m.rq a) (m.rn a) r))
 (z:Fx.Own w' B 28 1 (bM g (m.rn a+1) cap) (m.rn a+1) (rv .u64 (aI (m.rq a) (m.rn a) r))) (A:w.grownBy w' (tH m a).ownBlock) (C:(tH m a).ownBlock=some g\/g=w.heap.size):wK w' B 6 d:=by
 have k : ∀ i,i≠a->tH d i=tH m i:=fun i c=>by unfold tH; rw[h1,l,t]; simp[aI,c]
 have n:tH d a=bM g (m.rn a+1) cap:=by unfold tH; rw[h1,l,t]; simp[aI]
 have y : ∀ i,i<6->i≠a -> ∀ q,(tH m i).ownBlock=some q->q≠g:=fun i c D q b e=>by
  subst e
  rcases C with f|f
  ·exact h.2 i a c _ha D q b f
  ·have:=((h.1 i c).ge b).2; omega
 refine⟨fun i c => ?_,fun i j c v p q b => ?_⟩
 ·by_cases e:i=a
  ·subst e; rw[n,l,u]; simp only[aI,if_true]; exact z
  rw[k i e,l,u];simp only[aI,b_ e];refine World.ownsRow.kept (h.1 i c) A ?_;by_cases x:(tH m i).ownBlock=none
  ·exact .inl x
  right;intro f
  cases b:(tH m i).ownBlock with
  | none=>exact x b
  | some q=>rw[b]at f; exact h.2 i a c _ha e q b f.symm
 by_cases e:i=a
 ·subst e;rw[n]at b;rw[k j (fun e=>p e.symm)];intro o;exact y j v (fun e=>p e.symm) q o (C_ b).symm
 rw[k i e]at b;by_cases s:j=a
 ·subst s; rw[n]; intro o; exact y i c e q b (C_ o).symm
 rw[k j s]; exact h.2 i j c v p q b
end Rt
end
def JN(a:World)(l:List (Nat × (Nat->Int)))(w':World):Prop:=(∀ p∈l,w'.heap[p.1]? = some (.cells (aR .i64 54 p.2) 59 (0,0)))/\Below a.heap.size a w'
theorem JN.up{b w w':World}{l:List (Nat × (Nat->Int))}(h:JN b l w)(a:Below w.heap.size w w'):JN b l w':=⟨fun p c=>RX (h.1 p c) a,Iw h.2 a⟩
instance {a w w':World} {l:List (Nat × (Nat->Int))}:Rt.Tr w w' (JN a l w) (JN a l w'):=⟨fun b h=>h.up b⟩
theorem JN.drew{a w:World}{l:List (Nat × (Nat->Int))}(h:JN a l w):JN a l w.drew:=⟨h.1,bN h.2 1⟩
theorem JN.drop{a w:World}{p:Nat × (Nat->Int)}{l:List (Nat × (Nat->Int))}(h:JN a (p::l) w):JN a l w:=⟨fun q b=>h.1 q (by simp[b]),h.2⟩
theorem JN.row{b w:World}{l:List (Nat × (Nat->Int))}(h:JN b l w)(g:Nat)(x:Nat->Int)(a:(g,x)∈l):w.heap[g]? = some (.cells (aR .i64 54 x) 59 (0,0)):=h.1 (g,x) a
theorem JN.add{b w:World}{l:List (Nat × (Nat->Int))}(h:JN b l w){g:Nat}{x:Nat->Int}(c:w.heap[g]? = some (.cells (aR .i64 54 x) 59 (0,0))):JN b ((g,x)::l) w :=
 ⟨fun p a=>by
  rcases List.mem_cons.1 a with rfl|a
  ·exact c
  ·exact h.1 p a,h.2⟩
theorem JN.start(w:World)(x:Nat->Int):JN w [(w.heap.size,x)] (w.alloc (.cells (aR .i64 54 x) 59)):=⟨fun p a=>by
 obtain rfl:p=(w.heap.size,x):=by simpa using a
 exact heap_alloc_new w _,(Below.refl _ _).alloc (A_ _) _⟩
namespace Rt
def vo(x:Nat->Int)(k:Nat):Nat->Int
 | 0=>G x k-C x k+F x k
 | j+1=>vo x k j+R x j k-R x k j
theorem acF(x:Nat->Int)(k:Nat):vo x k 6=L x k:=by simp only[vo,L]; omega
theorem OJ{x:Nat->Int}(h:Qo x)(k:Nat)(d:k<6) : ∀ j:Nat,j<=6 -> -(1125899906842624*((j:Int)+1))<=vo x k j/\vo x k j<=1125899906842624*((j:Int)+2)
 | 0,_=>by
   have a:=h k (by omega); have b:=h (6+k) (by omega); have c:=h (12+k) (by omega);simp only[vo,G,C,F]; omega
 | j+1,hj=>by
   have:=OJ h k d j (by omega);have a:=h (18+j*6+k) (by omega); have b:=h (18+k*6+j) (by omega);simp only[vo,R]; omega
end Rt
theorem nD(n:Int)(w:World) :
 Calls Tryz.prog 113 #[au n] w fun e w'=>e = .returned (.bool (zK n))/\w'=w:=by
 refine Kent Tryz.func113 9 ?_;refine ay<|av aF<|aC<|ay<|av (au n) ?_;by_cases a:0<=n
 ·refine Lv aG (ku a)<|av aG<|av (au n) ?_;by_cases b:n<=1125899906842624
  ·refine Lv aG (nE b)<|av aG<|av aG<|aC<|Wr<|aJ aG ?_;exact⟨iB (by simp only[zK]; first|(symm; simp; omega)|(symm; simp; done)),rfl⟩
  refine Lv aF (nM b)<|av aF<|av aF<|aC<|Wr<|aJ aF ?_;exact⟨iB (by simp only[zK]; first|(symm; simp; omega)|(symm; simp; done)),rfl⟩
 refine Lv aF (jU a)<|av aF<|bX<|bX<|av aF<|av aF<|aC<|Wr<|aJ aF ?_;exact⟨iB (by simp only[zK]; first|(symm; simp; omega)|(symm; simp; done)),rfl⟩
theorem yR(n:Int)(w:World) :
 Calls Tryz.prog 83 #[au n] w fun e w'=>e = .returned (.bool (gV n))/\w'=w:=by
 refine Kent Tryz.func83 9 ?_;refine ay<|av aF<|aC<|ay<|av (au n) ?_;by_cases a:1<=n
 ·refine Lv aG (ku a)<|av aG<|av (au n) ?_;by_cases b:n<=6
  ·refine Lv aG (nE b)<|av aG<|av aG<|aC<|Wr<|aJ aG ?_;exact⟨iB (by simp only[gV]; first|(symm; simp; omega)|(symm; simp; done)),rfl⟩
  refine Lv aF (nM b)<|av aF<|av aF<|aC<|Wr<|aJ aF ?_;exact⟨iB (by simp only[gV]; first|(symm; simp; omega)|(symm; simp; done)),rfl⟩
 refine Lv aF (jU a)<|av aF<|bX<|bX<|av aF<|av aF<|aC<|Wr<|aJ aF ?_;exact⟨iB (by simp only[gV]; first|(symm; simp; omega)|(symm; simp; done)),rfl⟩
theorem Rt.Qz(x:Nat->Int)(k j:Nat):vo x k (j+1)=vo x k j+x (18+j*6+k)-x (18+k*6+j):=rfl
theorem Rt.QA(x:Nat->Int)(k:Nat):vo x k 0=x k-x (6+k)+x (12+k):=rfl
theorem EZ(x:Nat->Int)(k:Nat)(w:World)(E:k<6)(d:Qo x) :
 Calls Tryz.prog 84 #[.agg (aA 54 (rv .i64 x)),au ((k:Int)+1)] w fun e w'=>e = .returned (au (L x k))/\Below w.heap.size w w':=by
 have B:vo x k 6=L x k:=acF x k;have A:=fun j=>OJ d k E j;have S:vo x k 0=x k-x (k+6)+x (k+12):=by rw[QA,Nat.add_comm 6 k,Nat.add_comm 12 k]
 have O:=d k (by omega);have P:=d (k+6) (by omega);have Q:=d (k+12) (by omega);refine Kent Tryz.func84 44 ?_;refine ay<|qD fun c l D h H X => ?_;have s:=bH H.old (Below.refl w.heap.size w);have U:=ig D;have W:=h.lt;refine av (au 0)<|aC<|ay<|av (au ((k:Int)+1))<|Lv (au k) gH<|av (au k)<|aC<|Ws ?_;refine xR<|aW (au k)<|aW (pt c)<|Qv (pf c k) (fun b a=>jC 6 1)<|Qv (au (x k)) (fun b a=>aL (h.aH.dr a) k)<|aW (au k)<|aW (pf c 6)<|Qv (pf c (k+6)) (fun b a=>jC 6 1)<|Qv (au (x (k+6))) (fun b a=>aL (h.aH.dr a) (k+6))<|Qv (au ((x k)-(x (k+6)))) (fun b a=>gH)<|aW (au k)<|aW (pf c 12)<|Qv (pf c (k+12)) (fun b a=>jC 6 1)<|Qv (au (x (k+12))) (fun b a=>aL (h.aH.dr a) (k+12))<|Qv (au (((x k)-(x (k+6)))+(x (k+12)))) (fun b a=>eO)<|aW (au (((x k)-(x (k+6)))+(x (k+12))))<|Qn ?_;rintro _ ⟨i,rfl⟩;obtain⟨K,n⟩ : ∃ b,b=World.drewN l i:=⟨_,rfl⟩;rw[<- n];have I:Stp l.heap.size l K:=by rw[n]; exact Sb (jM l i)
 have⟨F,t⟩:=fD I.old h s;clear n;refine sN<|Ws<|ay<|av (au 0)<|aC<|Wb<|Wo (fun f z => ∃ j:Nat,j<=6/\f 2=(pt c)/\f 5=au (k:Int)/\f 6=au (vo x k j)/\f 7=au (j:Int)/\aQ z c 54 (rv .i64 x) 59/\Below w.heap.size w z) (fun f _=>(6-(intOf (f 7)).toNat)) ⟨0,by omega,(by rfl),Fx.ic,Fx.ic,Fx.ic,F,t⟩ ?_;rintro R m ⟨j,V,p,q,y,g,r,u⟩;have T:=A j (by omega);have N:vo x k (j+1)=vo x k j+x (6*j+k+18)-x (j+6*k+18):=by rw[Qz,show 18+j*6+k=6*j+k+18 by omega,show 18+k*6+j=j+6*k+18 by omega]
 have s:=d (6*j+k+18);have t:=d (j+6*k+18);refine Ws<|ay<|aT g ?_;by_cases v:(j:Int)<6
 ·refine Lv aG (gu v)<|aC<|aN<|Wk<|sN<|Ws<|Wb ?_;refine xR<|eG y<|eG g<|eG q<|Qv (pf c 18) (fun b a=>je p 18)<|Qv (pf c (6*j+18)) (fun b a=>jC 6 6)<|Qv (pf c (6*j+k+18)) (fun b a=>jC 6 1)<|Qv (au (x (6*j+k+18))) (fun b a=>aL (r.aH.dr a) (6*j+k+18))<|Qv (au ((vo x k j)+(x (6*j+k+18)))) (fun b a=>eO)<|eG q<|eG g<|Qv (pf c 18) (fun b a=>je p 18)<|Qv (pf c (6*k+18)) (fun b a=>jC 6 6)<|Qv (pf c (j+6*k+18)) (fun b a=>jC 6 1)<|Qv (au (x (j+6*k+18))) (fun b a=>aL (r.aH.dr a) (j+6*k+18))<|Qv (au (((vo x k j)+(x (6*j+k+18)))-(x (j+6*k+18)))) (fun b a=>gH)<|aW (au (((vo x k j)+(x (6*j+k+18)))-(x (j+6*k+18))))<|Qn ?_;rintro _ ⟨i,rfl⟩;obtain⟨M,o⟩ : ∃ b,b=World.drewN m i:=⟨_,rfl⟩;rw[<- o];have J:Stp m.heap.size m M:=by rw[o]; exact Sb (jM m i)
  have⟨G,C⟩:=fD J.old r u;clear o;refine bQ<|sN<|Wl<|aT g<|Lv (au ((j:Int)+1)) eO<|av (au ((j:Int)+1))<|Ln<|gF ⟨j+1,by omega,p,(q.trans Fx.ic),Fx.ic,Fx.ic,G,C⟩ ?_;show(6-(intOf (au ((j:Int)+1))).toNat)<_;simp only[g,intOf]; omega
 refine Lv aF (gy v)<|aC<|aK<|Wx<|cu<|gL<|cB<|sN<|ay<|aT y<|av (au (vo x k j))<|aC<|Wr<|aJ (au (vo x k j)) ?_;exact⟨oO (by rw[<- B]; exact M_ _ (by omega)),u⟩
namespace Rt
def UF(x:Nat->Int)(i:Nat):Prop:=zK (x i)=true/\zK (x (i+6))=true/\zK (x (i+12))=true/\x (i+12)<=x (i+6)/\x (7*i+18)=0
def E5(x:Nat->Int)(i j:Nat):Prop := ∀ q,q<j->zK (x (6*i+q+18))=true
def KM(x:Nat->Int)(i:Nat):Prop := ∀ k,k<i->UF x k/\E5 x k 6
def zi(x:Nat->Int):Nat->Int
 | 0=>0
 | i+1=>zi x i+x i
theorem QC(x:Nat->Int):KM x 0:=fun _ h=>N_ h (by omega)
theorem M4(x:Nat->Int)(i:Nat):E5 x i 0:=fun _ h=>N_ h (by omega)
theorem M5{x:Nat->Int}{i j:Nat}(h:E5 x i j)(a:zK (x (6*i+j+18))=true):E5 x i (j+1):=fun q b=>by
 by_cases e:q=j
 ·subst e; exact a
 ·exact h q (by omega)
theorem QD{x:Nat->Int}{i:Nat}(h:KM x i)(hr:UF x i)(a:E5 x i 6):KM x (i+1):=fun k b=>by
 by_cases e:k=i
 ·subst e; exact⟨hr,a⟩
 ·exact h k (by omega)
theorem KN{x:Nat->Int}(h:KM x 6):Qo x:=fun p d=>by
 by_cases a:p<6
 ·exact zQ (h p a).1.1
 ·by_cases b:p<12
  ·have:=zQ (h (p-6) (by omega)).1.2.1; rwa [show p-6+6=p by omega]at this
  ·by_cases c:p<18
   ·have:=zQ (h (p-12) (by omega)).1.2.2.1; rwa [show p-12+12=p by omega]at this
   ·have:=zQ ((h ((p-18) / 6) (by omega)).2 ((p-18) % 6) (by omega)); rwa [show 6*((p-18) / 6)+(p-18) % 6+18=p by omega]at this
theorem OL{x:Nat->Int} : ∀ {i:Nat},KM x i->0<=zi x i/\zi x i<=1125899906842624*(i:Int)
 | 0,_=>by simp[zi]
 | i+1,h=>by
   have a:=OL (i:=i) (fun k c=>h k (by omega));have b:=zQ (h i (by omega)).1.1;simp only[zi]; omega
theorem Jh{x:Nat->Int}{p:Nat}(a:p<54)(h:zK (x p)=false):may x=false:=by
 cases hm:may x
 ·rfl
 have:=(jS x).1 hm |>.1 p a;unfold zK at h; simp at h; omega
theorem agU{x:Nat->Int}{i:Nat}(hi:i<6)(h:x (i+6)<x (i+12)):may x=false:=by
 cases hm:may x
 ·rfl
 have:=((jS x).1 hm |>.2.1 i hi).2.1;unfold F C at this; rw[Nat.add_comm 12 i,Nat.add_comm 6 i]at this; omega
theorem agV{x:Nat->Int}{i:Nat}(hi:i<6)(h : ¬ x (7*i+18)=0):may x=false:=by
 cases hm:may x
 ·rfl
 have:=((jS x).1 hm |>.2.1 i hi).2.2;unfold R at this; rw[show 18+i*6+i=7*i+18 by omega]at this; exact N_ this h
theorem acG{x:Nat->Int}{i:Nat}(hi:i<6)(h:L x i<0):may x=false:=by
 cases hm:may x
 ·rfl
 have:=((jS x).1 hm |>.2.1 i hi).1;omega
theorem UG{x:Nat->Int}{m:Nat}(h : ∀ k,k<m->0<=L x k)(a:0<=L x m) : ∀ k,k<m+1->0<=L x k:=fun k b=>by
 by_cases e:k=m
 ·rw[e]; exact a
 ·exact h k (by omega)
theorem OM{x:Nat->Int}(ha:KM x 6)(b : ∀ k,k<6->0<=L x k):may x=decide (zi x 6<=1125899906842624):=by
 have c:zi x 6=ou x:=by simp only[zi,ou,G]; omega
 rw[c,Bool.eq_iff_iff,jS,Q_];refine⟨fun h=>h.2.2,fun h=>⟨KN ha,fun k a=>⟨b k a,?_,?_⟩,h⟩⟩
 ·have:=(ha k a).1.2.2.2.1; unfold F C; rwa [Nat.add_comm 12 k,Nat.add_comm 6 k]
 have:=(ha k a).1.2.2.2.2; unfold R; rwa [show 18+k*6+k=7*k+18 by omega]
end Rt
set_option maxRecDepth 10000 in
set_option maxHeartbeats 1000000 in
theorem UH(x:Nat->Int)(w:World) :
 Calls Tryz.prog 82 #[.agg (aA 54 (rv .i64 x))] w fun e w'=>e = .returned (.bool (may x))/\Below w.heap.size w w':=by
 refine Kent Tryz.func82 81 ?_;refine ay<|qD fun c w1 lK m1 s1 z1 => ?_;have b1:=bH s1.old (Below.refl w.heap.size w);have sU:=ig lK;have uq:=m1.lt;refine av aF<|aC<|ay<|av (au 0)<|aC<|Ws<|ay<|av (au 0)<|aC<|Wb<|Wo (fun f q => ∃ i:Nat,i<=6/\KM x i/\f 1=(pt c)/\f 3=au (zi x i)/\f 4=au (i:Int)/\aQ q c 54 (rv .i64 x) 59/\Below w.heap.size w q) (fun f _=>(6-(intOf (f 4)).toNat)) ⟨0,by omega,QC x,(by rfl),Fx.ic,Fx.ic,m1,b1⟩ ?_;rintro f1 d ⟨i,hi,B,n,h2,l,o,r⟩;have hG:=OL B;have HG:zi x (i+1)=zi x i+x i:=rfl;refine Ws<|ay<|aT l ?_;by_cases Z:(i:Int)<6
 ·refine Lv aG (gu Z)<|aC<|aN<|Wk<|sN<|Ws<|Wb<|Ws<|Ws ?_;refine xR<|eG l<|Qv (pt c) (fun a b=>je n 0)<|Qv (pf c i) (fun a b=>jC 6 1)<|Qv (au (x i)) (fun a b=>aL (o.aH.dr b) i) ?_;by_cases s:(zK (x i))=true
  ·refine qo (fun _ _=>nD (x i) _) aG (by rw[s])<|aW aF<|aW aF<|eG l<|Qv (pf c 6) (fun a b=>je n 6)<|Qv (pf c (i+6)) (fun a b=>jC 6 1)<|Qv (au (x (i+6))) (fun a b=>aL (o.aH.dr b) (i+6)) ?_;by_cases v:(zK (x (i+6)))=true
   ·refine qo (fun _ _=>nD (x (i+6)) _) aG (by rw[v])<|aW aF<|aW aF<|aW aF<|eG l<|Qv (pf c 12) (fun a b=>je n 12)<|Qv (pf c (i+12)) (fun a b=>jC 6 1)<|Qv (au (x (i+12))) (fun a b=>aL (o.aH.dr b) (i+12)) ?_;by_cases y:(zK (x (i+12)))=true
    ·refine qo (fun _ _=>nD (x (i+12)) _) aG (by rw[y])<|aW aF<|aW aF<|aW aF<|eG l<|Qv (pf c 12) (fun a b=>je n 12)<|Qv (pf c (i+12)) (fun a b=>jC 6 1)<|Qv (au (x (i+12))) (fun a b=>aL (o.aH.dr b) (i+12))<|eG l<|Qv (pf c 6) (fun a b=>je n 6)<|Qv (pf c (i+6)) (fun a b=>jC 6 1)<|Qv (au (x (i+6))) (fun a b=>aL (o.aH.dr b) (i+6)) ?_;by_cases H:(x (i+6))<(x (i+12))
     ·refine Qv aG (fun a b=>mW H)<|aW aG<|aW aG<|aP<|aP<|aP<|aP<|aP<|aP<|aP<|aW aG<|Qn ?_;rintro _ ⟨g,rfl⟩;obtain⟨Dv,K⟩ : ∃ a,a=World.drewN d g:=⟨_,rfl⟩;rw[<- K];have s2:Stp d.heap.size d Dv:=(by rw[K]; exact Sb (jM d g));have b3:=bH s2.old r;clear K;refine sN (aN (ay (av aF (aC (Wr (sR (bO (sR (qm (bO (sR (aJ aF (⟨iB (Eq.symm ?_),b3⟩)))))))))))));exact agU (i:=i) (by omega) H
     refine Qv aF (fun a b=>mX H)<|aW aF<|aW aF<|eG l<|eG l<|Qv (pf c 18) (fun a b=>je n 18)<|Qv (pf c (6*i+18)) (fun a b=>jC 6 6)<|Qv (pf c (7*i+18)) (fun a b=>jC 6 1)<|Qv (au (x (7*i+18))) (fun a b=>aL (o.aH.dr b) (7*i+18)) ?_;by_cases C:(x (7*i+18))=0
     ·refine Qv aF (fun a b=>jP C)<|aW aF<|Qn ?_;rintro _ ⟨g,rfl⟩;obtain⟨wq2,M⟩ : ∃ a,a=World.drewN d g:=⟨_,rfl⟩;rw[<- M];have s3:Stp d.heap.size d wq2:=(by rw[M]; exact Sb (jM d g));have⟨m4,b4⟩:=fD s3.old o r;clear M;refine sN<|aK<|Wk<|sN<|Ws ?_;have hR:UF x i:=⟨s,v,y,by omega,C⟩;have b15:=zQ s;refine Wl<|aT h2<|aT l<|Lv (pt c) (je n 0)<|Lv (pf c i) (jC 6 1)<|Lv (au (x i)) (aL m4.aH i)<|Lv (au ((zi x i)+(x i))) eO<|av (au ((zi x i)+(x i)))<|aC<|ay<|av (au 0)<|aC<|Wb<|Wo (fun f q => ∃ j:Nat,j<=6/\E5 x i j/\f 1=(pt c)/\f 3=au (zi x (i+1))/\f 4=au (i:Int)/\f 5=au (j:Int)/\aQ q c 54 (rv .i64 x) 59/\Below w.heap.size w q) (fun f _=>(6-(intOf (f 5)).toNat)) ⟨0,by omega,M4 x i,n,Fx.ic,(l.trans Fx.ic),Fx.ic,m4,b4⟩ ?_;rintro f2 w3 ⟨j,hj,T,R,h5,S,E,U,G⟩;refine Ws<|ay<|aT E ?_;by_cases X:(j:Int)<6
      ·refine Lv aG (gu X)<|aC<|aN<|Wk<|sN<|Ws<|Wb<|ay<|aT S<|aT E<|Lv (pf c 18) (je R 18)<|Lv (pf c (6*i+18)) (jC 6 6)<|Lv (pf c (6*i+j+18)) (jC 6 1)<|Lv (au (x (6*i+j+18))) (aL U.aH (6*i+j+18)) ?_;by_cases z:(zK (x (6*i+j+18)))=true
       ·refine mF (nD (x (6*i+j+18)) _) aG (by rw[z])<|av aF<|aC<|aK<|Wk<|bQ<|sN<|Wl<|aT E<|Lv (au ((j:Int)+1)) eO<|av (au ((j:Int)+1))<|Ln<|gF ⟨j+1,by omega,M5 T z,R,(h5.trans Fx.ic),(S.trans Fx.ic),Fx.ic,U,G⟩ ?_;show(6-(intOf (au ((j:Int)+1))).toNat)<_;simp only[E,intOf]; omega
       rw[U_]at z;refine mF (nD (x (6*i+j+18)) _) aF (by rw[z]) (av aG (aC (aN (ay (av aF (aC (Wr (bO (sR (qm (bO (bO (sR (qm (bO (sR (aJ aF (⟨iB (Eq.symm ?_),G⟩))))))))))))))))));exact Jh (p:=6*i+j+18) (by omega) z
      refine Lv aF (gy X)<|aC<|aK<|Wx<|cu<|gL<|cB<|bQ<|sN<|Wl<|aT S<|Lv (au ((i:Int)+1)) eO<|av (au ((i:Int)+1))<|Ln ?_;have A:j=6:=(by omega);have hT6:E5 x i 6:=(by rw[A]at T; exact T);refine gF ⟨i+1,by omega,QD B hR hT6,R,(h5.trans Fx.ic),Fx.ic,U,G⟩ ?_;show(6-(intOf (au ((i:Int)+1))).toNat)<_;simp only[l,intOf]; omega
     refine Qv aG (fun a b=>mY C)<|aW aG<|Qn ?_;rintro _ ⟨g,rfl⟩;obtain⟨wq3,N⟩ : ∃ a,a=World.drewN d g:=⟨_,rfl⟩;rw[<- N];have s4:Stp d.heap.size d wq3:=(by rw[N]; exact Sb (jM d g));have b6:=bH s4.old r;clear N;refine sN (aN (ay (av aF (aC (Wr (sR (bO (sR (qm (bO (sR (aJ aF (⟨iB (Eq.symm ?_),b6⟩)))))))))))));exact agV (i:=i) (by omega) C
    rw[U_]at y;refine qo (fun _ _=>nD (x (i+12)) _) aF (by rw[y])<|aW aG<|aW aG<|aW aG<|aP<|aP<|aP<|aP<|aP<|aP<|aP<|aP<|aP<|aW aG<|aW aG<|aP<|aP<|aP<|aP<|aP<|aP<|aP<|aW aG<|Qn ?_;rintro _ ⟨g,rfl⟩;obtain⟨wq4,O⟩ : ∃ a,a=World.drewN d g:=⟨_,rfl⟩;rw[<- O];have s5:Stp d.heap.size d wq4:=(by rw[O]; exact Sb (jM d g));have b7:=bH s5.old r;clear O;refine sN (aN (ay (av aF (aC (Wr (sR (bO (sR (qm (bO (sR (aJ aF (⟨iB (Eq.symm ?_),b7⟩)))))))))))));exact Jh (p:=i+12) (by omega) y
   rw[U_]at v;refine qo (fun _ _=>nD (x (i+6)) _) aF (by rw[v])<|aW aG<|aW aG<|aW aG<|aP<|aP<|aP<|aP<|aP<|aP<|aW aG<|aW aG<|aP<|aP<|aP<|aP<|aP<|aP<|aP<|aP<|aP<|aW aG<|aW aG<|aP<|aP ?_;refine aP<|aP<|aP<|aP<|aP<|aW aG<|Qn ?_;rintro _ ⟨g,rfl⟩;obtain⟨wq5,P⟩ : ∃ a,a=World.drewN d g:=⟨_,rfl⟩;rw[<- P];have s6:Stp d.heap.size d wq5:=(by rw[P]; exact Sb (jM d g));have b8:=bH s6.old r;clear P;refine sN (aN (ay (av aF (aC (Wr (sR (bO (sR (qm (bO (sR (aJ aF (⟨iB (Eq.symm ?_),b8⟩)))))))))))));exact Jh (p:=i+6) (by omega) v
  rw[U_]at s;refine qo (fun _ _=>nD (x i) _) aF (by rw[s])<|aW aG<|aW aG<|aP<|aP<|aP<|aP<|aP<|aP<|aW aG<|aW aG<|aP<|aP<|aP<|aP<|aP<|aP<|aW aG<|aW aG<|aP<|aP<|aP<|aP<|aP<|aP ?_;refine aP<|aP<|aP<|aW aG<|aW aG<|aP<|aP<|aP<|aP<|aP<|aP<|aP<|aW aG<|Qn ?_;rintro _ ⟨g,rfl⟩;obtain⟨wq6,Q⟩ : ∃ a,a=World.drewN d g:=⟨_,rfl⟩;rw[<- Q];have s7:Stp d.heap.size d wq6:=by rw[Q]; exact Sb (jM d g)
  have b9:=bH s7.old r;clear Q;refine sN (aN (ay (av aF (aC (Wr (sR (bO (sR (qm (bO (sR (aJ aF (⟨iB (Eq.symm ?_),b9⟩)))))))))))));exact Jh (p:=i) (by omega) s
 refine Lv aF (gy Z)<|aC<|aK<|Wx<|cu<|gL<|cB<|sN<|Ws<|ay<|av (au 1)<|aC<|Wb ?_;have A:i=6:=by omega
 rw[A]at B;have HE:=KN B;have V:KM x 6:=B;refine Wo (fun f q => ∃ m:Nat,m<=6/\(∀ k,k<m->0<=L x k)/\f 1=(pt c)/\f 3=au (zi x i)/\f 6=au ((m:Int)+1)/\aQ q c 54 (rv .i64 x) 59/\Below w.heap.size w q) (fun f _=>(7-(intOf (f 6)).toNat)) ⟨0,by omega,(fun _ h=>N_ h (by omega)),n,(h2.trans Fx.ic),Fx.ic,o,r⟩ ?_;rintro f3 w4 ⟨m,hm,u,h8,h9,D,m10,F⟩;refine Ws<|ay<|aT D ?_;by_cases Y:((m:Int)+1)<=6
 ·refine Lv aG (nE Y)<|aC<|aN<|Wk<|sN<|Ws<|Wb<|ay<|Lv (.agg (aA 54 (rv .i64 x))) (fP m10.aH 0 (ha:=h8))<|aT D<|dZ (EZ x m _ (by omega) HE) _ rfl ?_;intro w5 hb1;have⟨m11,W⟩:=fD hb1 m10 F;by_cases I:(L x m)<0
  ·refine Lv aG (gu I) (aC (aN (ay (av aF (aC (Wr (bO (sR (qm (bO (sR (aJ aF (⟨iB (Eq.symm ?_),W⟩)))))))))))));exact acG (i:=m) (by omega) I
  refine Lv aF (gy I)<|aC<|aK<|Wk<|bQ<|sN<|Wl<|aT D<|Lv (au ((m:Int)+2)) eO<|av (au ((m:Int)+2))<|Ln<|gF ⟨m+1,by omega,UG u (by omega),h8,(h9.trans Fx.ic),Fx.ic,m11,W⟩ ?_;show(7-(intOf (au ((m:Int)+2))).toNat)<_;simp only[D,intOf]; omega
 refine Lv aF (nM Y)<|aC<|aK<|Wx<|cu<|gL<|cB<|sN<|ay<|aT h9 ?_;by_cases t:(zi x i)<=1125899906842624
 ·refine Lv aG (nE t) (av aG (aC (Wr (aJ aG (⟨iB (Eq.symm ?_),F⟩)))));have J:m=6:=by omega
  rw[J]at u;rw[A]at t;rw[OM V u]; exact f_ t
 refine Lv aF (nM t) (av aF (aC (Wr (aJ aF (⟨iB (Eq.symm ?_),F⟩)))));have J:m=6:=by omega
 rw[J]at u;rw[A]at t;rw[OM V u]; exact g_ t
namespace Rt
def eY(x:Nat->Int)(i n:Int):Int:=if may x&&decide (1<=n)&&decide (n<=1125899906842624)then(if gV i then 0 else 10)else 1
end Rt
theorem E8(x:Nat->Int)(i n:Int)(w:World) :
 Calls Tryz.prog 112 #[.agg (aA 54 (rv .i64 x)),au i,au n] w fun e w'=>e = .returned (au (eY x i n))/\Below w.heap.size w w':=by
 refine Kent Tryz.func112 21 ?_;refine ay<|qD fun p s k h o v => ?_;have d:=bH o.old (Below.refl w.heap.size w);have q:=ig k;have r:=h.lt;refine av (au 0)<|aC<|Ws<|ay<|Lv (.agg (aA 54 (rv .i64 x))) (fP h.aH 0) ?_;by_cases a:(may x)=true
 ·refine dZ (UH x _) aG (by rw[a]) ?_;intro t l;have c:=bH l d;refine av aF<|av aF<|av (au n) ?_;by_cases f:n<1
  ·refine Lv aG (gu f) (av aG (av aG (bX (bX (av aG (aC (aN (ay (av (au 1) (aC (Wr (sR (aJ (au 1) (⟨oO ?_,c⟩))))))))))))));unfold eY; rw[a,g_ (show ¬ 1<=n by omega)]; simp
  refine Lv aF (gy f)<|av aF<|av aF<|av (au n) ?_;by_cases g:1125899906842624<n
  ·refine Lv aG (mW g) (av aG (aC (aN (ay (av (au 1) (aC (Wr (sR (aJ (au 1) (⟨oO ?_,c⟩))))))))));unfold eY; rw[a,f_ (show 1<=n by omega),g_ (show ¬ n<=1125899906842624 by omega)]; simp
  refine Lv aF (mX g)<|av aF<|aC<|aK<|Wk<|sN<|Ws<|ay<|av (au i) ?_;by_cases b:(gV i)=true
  ·refine mF (yR i _) aG (by rw[b]) (av aF (aC (aK (Wk (sN (ay (av (au 0) (aC (Wr (aJ (au 0) (⟨oO ?_,c⟩)))))))))));unfold eY; rw[a,f_ (show 1<=n by omega),f_ (show n<=1125899906842624 by omega),b]; simp
  rw[U_]at b;refine mF (yR i _) aF (by rw[b]) (av aG (aC (aN (ay (av (au 10) (aC (Wr (sR (aJ (au 10) (⟨oO ?_,c⟩))))))))));unfold eY; rw[a,f_ (show 1<=n by omega),f_ (show n<=1125899906842624 by omega),b]; simp
 rw[U_]at a;refine dZ (UH x _) aF (by rw[a]) ?_;intro u m;have j:=bH m d;refine av aG (av aG (bX (bX (av aG (av aG (bX (bX (av aG (aC (aN (ay (av (au 1) (aC (Wr (sR (aJ (au 1) (⟨oO ?_,j⟩)))))))))))))))));unfold eY; rw[a]; simp
namespace Rt
theorem E9{x:Nat->Int}{i n:Int}(h:eY x i n=0):may x=true/\1<=n/\n<=1125899906842624/\gV i=true:=by
 unfold eY at h;by_cases a:may x=true
 ·by_cases b:1<=n
  ·by_cases c:n<=1125899906842624
   ·rw[a,f_ b,f_ c]at h
    cases h4:gV i
    ·rw[h4]at h; simp at h
    exact⟨a,b,c,rfl⟩
   rw[g_ c]at h; simp at h
  rw[g_ b]at h; simp at h
 rw[show may x=false by simpa using a]at h; simp at h
theorem KO{x:Nat->Int}{i n b:Int}{off:Nat}(h : ¬ eY x i n=0):bT x n (gV i) b off=(zero,eY x i n):=by
 unfold eY at *;unfold bT;by_cases a:(may x&&decide (1<=n)&&decide (n<=1125899906842624))=true
 ·simp only[d_ a]at *
  cases h4:gV i
  ·simp
  simp[h4]at h
 simp only[b_ a]at *
theorem Ca{x:Nat->Int}{n a:Int}{is:Bool}{off:Nat}(h1:may x=true)(b:1<=n)(c:n<=1125899906842624)(d:is=true) :
 bT x n is a off=if a=0 then(if x off+n<=1125899906842624 then(upd x off (x off+n),0)else(zero,6))else(zero,a):=by
 unfold bT; rw[h1,f_ b,f_ c,d]; simp
theorem zW{x:Nat->Int}{n a:Int}{is:Bool}{off:Nat}(h1:may x=true)(b:1<=n)(c:n<=1125899906842624)(d:is=true)(e:a=0)(f:x off+n<=1125899906842624):bT x n is a off=(upd x off (x off+n),0):=by
 rw[Ca h1 b c d,d_ e,d_ f]
theorem CW{x:Nat->Int}{n a:Int}{is:Bool}{off:Nat}(h1:may x=true)(b:1<=n)(c:n<=1125899906842624)(d:is=true)(e:a=0)(f : ¬ x off+n<=1125899906842624):bT x n is a off=(zero,6):=by
 rw[Ca h1 b c d,d_ e,b_ f]
theorem wO{x:Nat->Int}{n a e:Int}{is:Bool}{off:Nat}(h1:may x=true)(b:1<=n)(c:n<=1125899906842624)(d:is=true)(f:a=e)(g:e≠0):bT x n is a off=(zero,e):=by
 rw[Ca h1 b c d,f,b_ g]
theorem QF{x:Nat->Int}{n a:Int}{off:Nat}(h1:may x=true)(b:1<=n)(c:n<=1125899906842624):bT x n false a off=(zero,10):=by
 unfold bT; rw[h1,f_ b,f_ c]; simp
theorem pl(k:Nat):((k:Int)+1).toNat-1=k:=by omega
theorem QG{x:Nat->Int}{i j n:Int}(h : ¬ eY x i n=0):dn x i j n=(zero,eY x i n):=by
 unfold dn;unfold eY at *;unfold bT;by_cases a:(may x&&decide (1<=n)&&decide (n<=1125899906842624))=true
 ·simp only[d_ a]at *
  cases h4:gV i
  ·simp
  simp[h4]at h
 simp only[b_ a]at *
theorem KP(k q:Nat):kV ((k:Int)+1) ((q:Int)+1)=6*k+q+18:=by unfold kV; omega
theorem UJ{x:Nat->Int}{k:Nat}(a:may x=true)(b:k<6):x (k+6)<=1125899906842624:=(mP a (k+6) (by omega)).2
end Rt
set_option maxRecDepth 10000 in
theorem Yk(x:Nat->Int)(i n:Int)(w:World) :
 Calls Tryz.prog 109 #[.agg (aA 54 (rv .i64 x)),au i,au n] w fun e w'=>e = .returned (.tuple #[.agg (aA 54 (rv .i64 (bC x i n).1)),au (bC x i n).2])/\Below w.heap.size w w':=by
 refine Kent Tryz.func109 42 ?_;refine ay<|qD fun b w1 Q p s1 z1 => ?_;have u:=bH s1.old (Below.refl w.heap.size w);have sU:=ig Q;have uq:=p.lt;refine uh 54 (rv .i64 (fun _=>0)) fun l w2 z B s2 z2 => ?_;have⟨C,K⟩:=fD s2.old p u;have pV:=iV z u.size;have Kt:=bZ z p.lt;have zy:=B.lt;refine av (au 0)<|aC<|ay<|Lv (.agg (aA 54 (rv .i64 x))) (fP C.aH 0)<|av (au i)<|av (au n)<|dZ (E8 x i n _) _ rfl ?_;intro w3 S;have⟨q,D,m⟩:=jw S C B K;refine av (au (eY x i n))<|aC<|Ws<|ay<|av (au (eY x i n)) ?_;by_cases j:(eY x i n)=0
 ·refine Lv aF (jP j)<|aC<|aK<|Wk<|sN<|Ws<|Ws ?_;obtain⟨a,s,t,h⟩:=E9 j;have J:=mP a;obtain⟨k,o,R,_⟩:=rJ h;subst R;refine Wl<|av (au n)<|Lv (.agg (aA 54 (rv .i64 x))) (fP q.aH 0)<|av (au ((k:Int)+1))<|dZ (EZ x k _ (by omega) (mP a)) _ rfl ?_;intro w4 T;have⟨g,r,d⟩:=jw T q D m;by_cases f:(L x k)<n
  ·refine Lv aG (mW f)<|aC<|aN<|ay<|av (.agg (aA 54 (rv .i64 (fun _=>0))))<|fA r 0 fun w5 m8 E z3 => ?_;have m9:aQ w5 l 54 (rv .i64 (fun _=>0)) 59:=aU m8;have m10:=g.cZ E (by omega);have M:=E.below d d.size (by omega);refine av (au 11) (aC (Wr (sR (⟨.tuple #[.agg (aA 54 (rv .i64 (fun _=>0))),au 11],gP Tryz.results109 ⟨_,rfl,aX m9.aH (by kernel_rfl) (by kernel_rfl)⟩ (by exact rfl),?_⟩))));refine⟨?_,M⟩;have c:bC x ((k:Int)+1) n=(zero,11):=by
    unfold bC pX;rw[mJ a k o,f_ f];exact wO a s t h rfl (by decide)
   rw[c]
   all_goals rfl
  refine Lv aF (mX f)<|aC<|aK<|Wk<|sN<|Ws<|Ws ?_;have q1:=J (k+6);refine Wl<|av (au ((k:Int)+1))<|Lv (au k) gH<|av (pf b 6)<|Lv (pf b (k+6)) (jC 6 1)<|Lv (au (x (k+6))) (aL g.aH (k+6))<|av (au n)<|Lv (au ((x (k+6))+n)) eO ?_;by_cases y:1125899906842624<((x (k+6))+n)
  ·refine Lv aG (mW y)<|aC<|aN<|ay<|av (.agg (aA 54 (rv .i64 (fun _=>0))))<|fA r 0 fun w6 U F z4 => ?_;have V:aQ w6 l 54 (rv .i64 (fun _=>0)) 59:=aU U;have m13:=g.cZ F (by omega);have N:=F.below d d.size (by omega);refine av (au 6) (aC (Wr (sR (⟨.tuple #[.agg (aA 54 (rv .i64 (fun _=>0))),au 6],gP Tryz.results109 ⟨_,rfl,aX V.aH (by kernel_rfl) (by kernel_rfl)⟩ (by exact rfl),?_⟩))));refine⟨?_,N⟩;have c:bC x ((k:Int)+1) n=(zero,6):=by
    unfold bC pX;rw[mJ a k o,g_ f,pl,Nat.add_comm 6 k];exact CW a s t h rfl (by omega)
   rw[c]
   all_goals rfl
  refine Lv aF (mX y)<|aC<|aK<|Wk<|sN<|ay<|av (au ((k:Int)+1))<|Lv (au k) gH<|av (pf b 6)<|Lv (pf b (k+6)) (jC 6 1)<|Lv (au (x (k+6))) (aL g.aH (k+6))<|av (au n)<|Lv (au ((x (k+6))+n)) eO<|av (pf b 6)<|Lv (pf b (k+6)) (jC 6 1)<|jd g (k+6) (au ((x (k+6))+n)) fun w7 W G z5 => ?_;have A:aQ w7 b 54 (rv .i64 (upd x (k+6) ((x (k+6))+n))) 59:=W.to (Fx.tK _ _ _ _);have X:=r.cZ G (by omega);have v:=G.below d d.size (by omega);refine aC<|ay<|Lv (.agg (aA 54 (rv .i64 (upd x (k+6) ((x (k+6))+n))))) (fP A.aH 0)<|fA X 0 fun w8 Y H z6 => ?_;have Z:aQ w8 l 54 (rv .i64 (upd x (k+6) ((x (k+6))+n))) 59:=aU Y;have m19:=A.cZ H (by omega);have O:=H.below v v.size (by omega);refine av (au 0) (aC (Wr (⟨.tuple #[.agg (aA 54 (rv .i64 (upd x (k+6) ((x (k+6))+n)))),au 0],gP Tryz.results109 ⟨_,rfl,aX Z.aH (by kernel_rfl) (by kernel_rfl)⟩ (by exact rfl),?_⟩)));refine⟨?_,O⟩;have c:bC x ((k:Int)+1) n=(upd x (k+6) (x (k+6)+n),0):=by
   unfold bC pX;rw[mJ a k o,g_ f,pl,Nat.add_comm 6 k];exact zW a s t h rfl (by omega)
  rw[c]
  all_goals rfl
 refine Lv aG (mY j)<|aC<|aN<|ay<|av (.agg (aA 54 (rv .i64 (fun _=>0))))<|av (au (eY x i n))<|fA D 0 fun w9 aa I z7 => ?_;have ab:aQ w9 l 54 (rv .i64 (fun _=>0)) 59:=aU aa;have m22:=q.cZ I (by omega);have P:=I.below m m.size (by omega);refine av (au (eY x i n)) (aC (Wr (sR (⟨.tuple #[.agg (aA 54 (rv .i64 (fun _=>0))),au (eY x i n)],gP Tryz.results109 ⟨_,rfl,aX ab.aH (by kernel_rfl) (by kernel_rfl)⟩ (by exact rfl),?_⟩))));refine⟨?_,P⟩;have c:bC x i n=(zero,eY x i n):=by
  exact KO j
 rw[c]
 all_goals rfl
set_option maxRecDepth 10000 in
theorem Yl(x:Nat->Int)(i n:Int)(w:World) :
 Calls Tryz.prog 111 #[.agg (aA 54 (rv .i64 x)),au i,au n] w fun e w'=>e = .returned (.tuple #[.agg (aA 54 (rv .i64 (bG x i n).1)),au (bG x i n).2])/\Below w.heap.size w w':=by
 refine Kent Tryz.func111 41 ?_;refine ay<|qD fun c w1 T t s1 z1 => ?_;have y:=bH s1.old (Below.refl w.heap.size w);have sU:=ig T;have uq:=t.lt;refine uh 54 (rv .i64 (fun _=>0)) fun s w2 D H s2 z2 => ?_;have⟨I,P⟩:=fD s2.old t y;have pV:=iV D y.size;have Kt:=bZ D t.lt;have zy:=H.lt;refine av (au 0)<|aC<|ay<|Lv (.agg (aA 54 (rv .i64 x))) (fP I.aH 0)<|av (au i)<|av (au n)<|dZ (E8 x i n _) _ rfl ?_;intro d V;have⟨g,u,l⟩:=jw V I H P;refine av (au (eY x i n))<|aC<|Ws<|ay<|av (au (eY x i n)) ?_;by_cases m:(eY x i n)=0
 ·refine Lv aF (jP m)<|aC<|aK<|Wk<|sN<|Ws<|Ws ?_;obtain⟨j,J,K,p⟩:=E9 m;have v:=mP j;obtain⟨k,W,U,_⟩:=rJ p;subst U;have q1:=v (k+6);have q2:=v (k+12);refine xR<|aW (au n)<|aW (au ((k:Int)+1))<|Qv (au k) (fun a b=>gH)<|aW (pf c 6)<|Qv (pf c (k+6)) (fun a b=>jC 6 1)<|Qv (au (x (k+6))) (fun a b=>aL (g.aH.dr b) (k+6))<|aW (au ((k:Int)+1))<|Qv (au k) (fun a b=>gH)<|aW (pf c 12)<|Qv (pf c (k+12)) (fun a b=>jC 6 1)<|Qv (au (x (k+12))) (fun a b=>aL (g.aH.dr b) (k+12))<|Qv (au ((x (k+6))-(x (k+12)))) (fun a b=>gH) ?_;by_cases o:((x (k+6))-(x (k+12)))<n
  ·refine Qv aG (fun a b=>mW o)<|Qn ?_;rintro _ ⟨h,rfl⟩;obtain⟨Dv,q⟩ : ∃ a,a=World.drewN d h:=⟨_,rfl⟩;rw[<- q];have s4:Stp d.heap.size d Dv:=(by rw[q]; exact Sb (jM d h));have⟨m6,m7,z⟩:=jw s4.old g u l;clear q;refine sN<|aN<|ay<|av (.agg (aA 54 (rv .i64 (fun _=>0))))<|fA m7 0 fun w4 m8 L z3 => ?_;have m9:aQ w4 s 54 (rv .i64 (fun _=>0)) 59:=aU m8;have m10:=m6.cZ L (by omega);have Q:=L.below z z.size (by omega);refine av (au 12) (aC (Wr (sR (⟨.tuple #[.agg (aA 54 (rv .i64 (fun _=>0))),au 12],gP Tryz.results111 ⟨_,rfl,aX m9.aH (by kernel_rfl) (by kernel_rfl)⟩ (by exact rfl),?_⟩))));refine⟨?_,Q⟩;have f:bG x ((k:Int)+1) n=(zero,12):=by
    unfold bG qW C F;rw[pl,Nat.add_comm 6 k,Nat.add_comm 12 k,f_ o];exact wO j J K p rfl (by decide)
   rw[f]
   all_goals rfl
  refine Qv aF (fun a b=>mX o)<|Qn ?_;rintro _ ⟨h,rfl⟩;obtain⟨wq2,r⟩ : ∃ a,a=World.drewN d h:=⟨_,rfl⟩;rw[<- r];have s6:Stp d.heap.size d wq2:=by rw[r]; exact Sb (jM d h)
  have⟨E,X,A⟩:=jw s6.old g u l;clear r;refine sN<|aK<|Wk<|sN<|ay<|av (au ((k:Int)+1))<|Lv (au k) gH<|av (pf c 12)<|Lv (pf c (k+12)) (jC 6 1)<|Lv (au (x (k+12))) (aL E.aH (k+12))<|av (au n)<|Lv (au ((x (k+12))+n)) eO<|av (pf c 12)<|Lv (pf c (k+12)) (jC 6 1)<|jd E (k+12) (au ((x (k+12))+n)) fun w5 Y M z4 => ?_;have G:aQ w5 c 54 (rv .i64 (upd x (k+12) ((x (k+12))+n))) 59:=Y.to (Fx.tK _ _ _ _);have Z:=X.cZ M (by omega);have B:=M.below A A.size (by omega);refine aC<|ay<|Lv (.agg (aA 54 (rv .i64 (upd x (k+12) ((x (k+12))+n))))) (fP G.aH 0)<|fA Z 0 fun w6 aa N z5 => ?_;have ab:aQ w6 s 54 (rv .i64 (upd x (k+12) ((x (k+12))+n))) 59:=aU aa;have m18:=G.cZ N (by omega);have R:=N.below B B.size (by omega);refine av (au 0) (aC (Wr (⟨.tuple #[.agg (aA 54 (rv .i64 (upd x (k+12) ((x (k+12))+n)))),au 0],gP Tryz.results111 ⟨_,rfl,aX ab.aH (by kernel_rfl) (by kernel_rfl)⟩ (by exact rfl),?_⟩)));refine⟨?_,R⟩;have f:bG x ((k:Int)+1) n=(upd x (k+12) (x (k+12)+n),0):=by
   unfold bG qW C F;rw[pl,Nat.add_comm 6 k,Nat.add_comm 12 k,g_ o];exact zW j J K p rfl (by have:=UJ j W; omega)
  rw[f]
  all_goals rfl
 refine Lv aG (mY m)<|aC<|aN<|ay<|av (.agg (aA 54 (rv .i64 (fun _=>0))))<|av (au (eY x i n))<|fA u 0 fun w7 ac O z6 => ?_;have ad:aQ w7 s 54 (rv .i64 (fun _=>0)) 59:=aU ac;have m21:=g.cZ O (by omega);have S:=O.below l l.size (by omega);refine av (au (eY x i n)) (aC (Wr (sR (⟨.tuple #[.agg (aA 54 (rv .i64 (fun _=>0))),au (eY x i n)],gP Tryz.results111 ⟨_,rfl,aX ad.aH (by kernel_rfl) (by kernel_rfl)⟩ (by exact rfl),?_⟩))));refine⟨?_,S⟩;have f:bG x i n=(zero,eY x i n):=by
  exact KO m
 rw[f]
 all_goals rfl
set_option maxRecDepth 10000 in
theorem Ym(x:Nat->Int)(i j n:Int)(w:World) :
 Calls Tryz.prog 81 #[.agg (aA 54 (rv .i64 x)),au i,au j,au n] w fun e w'=>e = .returned (.tuple #[.agg (aA 54 (rv .i64 (dn x i j n).1)),au (dn x i j n).2])/\Below w.heap.size w w':=by
 refine Kent Tryz.func81 59 ?_;refine ay<|qD fun c w1 aa z s1 z1 => ?_;have B:=bH s1.old (Below.refl w.heap.size w);have sU:=ig aa;have uq:=z.lt;refine uh 54 (rv .i64 (fun _=>0)) fun h w2 F H s2 z2 => ?_;have⟨J,W⟩:=fD s2.old z B;have pV:=iV F B.size;have Kt:=bZ F z.lt;have zy:=H.lt;refine av (au 0)<|aC<|ay<|Lv (.agg (aA 54 (rv .i64 x))) (fP J.aH 0)<|av (au i)<|av (au n)<|dZ (E8 x i n _) _ rfl ?_;intro w3 hb1;have⟨p,u,f⟩:=jw hb1 J H W;refine av (au (eY x i n))<|aC<|Ws<|ay<|av (au (eY x i n)) ?_;by_cases t:(eY x i n)=0
 ·refine Lv aF (jP t)<|aC<|aK<|Wk<|sN<|Ws<|Ws ?_;obtain⟨b,r,s,l⟩:=E9 t;have S:=mP b;obtain⟨k,y,ei,_⟩:=rJ l;subst ei;refine Wl<|av (au j) ?_;by_cases d:(gV j)=true
  ·refine mF (yR j _) aG (by rw[d])<|av aF<|aC<|aK<|Wk<|sN<|Ws<|Ws ?_;obtain⟨q,hq,ej,_⟩:=rJ d;subst ej;refine Wl<|av (au ((k:Int)+1))<|av (au ((q:Int)+1)) ?_;by_cases g:((k:Int)+1)=((q:Int)+1)
   ·refine Lv aG (fu g)<|aC<|aN<|ay<|av (.agg (aA 54 (rv .i64 (fun _=>0))))<|fA u 0 fun w4 m6 O z3 => ?_;have m7:aQ w4 h 54 (rv .i64 (fun _=>0)) 59:=aU m6;have m8:=p.cZ O (by omega);have X:=O.below f f.size (by omega);refine av (au 1) (aC (Wr (sR (⟨.tuple #[.agg (aA 54 (rv .i64 (fun _=>0))),au 1],gP Tryz.results81 ⟨_,rfl,aX m7.aH (by kernel_rfl) (by kernel_rfl)⟩ (by exact rfl),?_⟩))));refine⟨?_,X⟩;have a:dn x ((k:Int)+1) ((q:Int)+1) n=(zero,1):=by
     unfold dn nU;rw[d_ g];exact wO b r s (by rw[l,d]; rfl) rfl (by decide)
    rw[a]
    all_goals rfl
   refine Lv aF (fQ g)<|aC<|aK<|Wk<|sN<|Ws<|ay<|av (au n)<|Lv (.agg (aA 54 (rv .i64 x))) (fP p.aH 0)<|av (au ((k:Int)+1))<|dZ (EZ x k _ (by omega) (mP b)) _ rfl ?_;intro w5 hb2;have⟨v,A,m⟩:=jw hb2 p u f;by_cases o:(L x k)<n
   ·refine Lv aG (mW o)<|aC<|aN<|ay<|av (.agg (aA 54 (rv .i64 (fun _=>0))))<|fA A 0 fun w6 m11 P z4 => ?_;have m12:aQ w6 h 54 (rv .i64 (fun _=>0)) 59:=aU m11;have m13:=v.cZ P (by omega);have Y:=P.below m m.size (by omega);refine av (au 11) (aC (Wr (sR (⟨.tuple #[.agg (aA 54 (rv .i64 (fun _=>0))),au 11],gP Tryz.results81 ⟨_,rfl,aX m12.aH (by kernel_rfl) (by kernel_rfl)⟩ (by exact rfl),?_⟩))));refine⟨?_,Y⟩;have a:dn x ((k:Int)+1) ((q:Int)+1) n=(zero,11):=by
     unfold dn nU;rw[b_ g,mJ b k y,f_ o];exact wO b r s (by rw[l,d]; rfl) rfl (by decide)
    rw[a]
    all_goals rfl
   refine Lv aF (mX o)<|aC<|aK<|Wk<|sN<|Ws<|Ws ?_;have q1:=S (6*k+q+18);refine Wl<|av (au ((k:Int)+1))<|Lv (au k) gH<|av (au ((q:Int)+1))<|Lv (au q) gH<|av (pf c 18)<|Lv (pf c (6*k+18)) (jC 6 6)<|Lv (pf c (6*k+q+18)) (jC 6 1)<|Lv (au (x (6*k+q+18))) (aL v.aH (6*k+q+18))<|av (au n)<|Lv (au ((x (6*k+q+18))+n)) eO ?_;by_cases E:1125899906842624<((x (6*k+q+18))+n)
   ·refine Lv aG (mW E)<|aC<|aN<|ay<|av (.agg (aA 54 (rv .i64 (fun _=>0))))<|fA A 0 fun w7 m14 Q z5 => ?_;have m15:aQ w7 h 54 (rv .i64 (fun _=>0)) 59:=aU m14;have m16:=v.cZ Q (by omega);have Z:=Q.below m m.size (by omega);refine av (au 6) (aC (Wr (sR (⟨.tuple #[.agg (aA 54 (rv .i64 (fun _=>0))),au 6],gP Tryz.results81 ⟨_,rfl,aX m15.aH (by kernel_rfl) (by kernel_rfl)⟩ (by exact rfl),?_⟩))));refine⟨?_,Z⟩;have a:dn x ((k:Int)+1) ((q:Int)+1) n=(zero,6):=by
     unfold dn nU;rw[b_ g,mJ b k y,g_ o,KP];exact CW b r s (by rw[l,d]; rfl) rfl (by omega)
    rw[a]
    all_goals rfl
   refine Lv aF (mX E)<|aC<|aK<|Wk<|sN<|Ws ?_;refine Wt 13 (by kernel_rfl) (by kernel_rfl) fun pQ dR iG => ?_;have⟨G,m18,C⟩:=jw dR v A m;refine Es (au ((k:Int)+1))<|qN (au k) gH<|Es (au ((q:Int)+1))<|qN (au q) gH<|Es (pf c 18)<|qN (pf c (6*k+18)) (jC 6 6)<|qN (pf c (6*k+q+18)) (jC 6 1)<|qN (au (x (6*k+q+18))) (aL G.aH (6*k+q+18))<|Es (au n)<|qN (au ((x (6*k+q+18))+n)) eO<|Es (pf c 18)<|qN (pf c (6*k+18)) (jC 6 6)<|qN (pf c (6*k+q+18)) (jC 6 1)<|Fx.St.nil ?_;refine jd G (6*k+q+18) (au ((x (6*k+q+18))+n)) fun w8 m19 R z6 => ?_;have I:aQ w8 c 54 (rv .i64 (upd x (6*k+q+18) ((x (6*k+q+18))+n))) 59:=m19.to (Fx.tK _ _ _ _);have m21:=m18.cZ R (by omega);have D:=R.below C C.size (by omega);refine aC<|ay<|Lv (.agg (aA 54 (rv .i64 (upd x (6*k+q+18) ((x (6*k+q+18))+n))))) (fP I.aH 0)<|fA m21 0 fun w9 m22 K z7 => ?_;have m23:aQ w9 h 54 (rv .i64 (upd x (6*k+q+18) ((x (6*k+q+18))+n))) 59:=aU m22;have m24:=I.cZ K (by omega);have T:=K.below D D.size (by omega);refine av (au 0) (aC (Wr (⟨.tuple #[.agg (aA 54 (rv .i64 (upd x (6*k+q+18) ((x (6*k+q+18))+n)))),au 0],gP Tryz.results81 ⟨_,rfl,aX m23.aH (by kernel_rfl) (by kernel_rfl)⟩ (by exact rfl),?_⟩)));refine⟨?_,T⟩;have a:dn x ((k:Int)+1) ((q:Int)+1) n=(upd x (6*k+q+18) (x (6*k+q+18)+n),0):=by
    unfold dn nU;rw[b_ g,mJ b k y,g_ o,KP];exact zW b r s (by rw[l,d]; rfl) rfl (by omega)
   rw[a]
   all_goals rfl
  rw[U_]at d;refine mF (yR j _) aF (by rw[d])<|av aG<|aC<|aN<|ay<|av (.agg (aA 54 (rv .i64 (fun _=>0))))<|fA u 0 fun sV nk M z8 => ?_;have og:aQ sV h 54 (rv .i64 (fun _=>0)) 59:=aU nk;have oh:=p.cZ M (by omega);have U:=M.below f f.size (by omega);refine av (au 10) (aC (Wr (sR (⟨.tuple #[.agg (aA 54 (rv .i64 (fun _=>0))),au 10],gP Tryz.results81 ⟨_,rfl,aX og.aH (by kernel_rfl) (by kernel_rfl)⟩ (by exact rfl),?_⟩))));refine⟨?_,U⟩;have a:dn x ((k:Int)+1) j n=(zero,10):=by
   unfold dn;rw[d,J_];exact QF b r s
  rw[a]
  all_goals rfl
 refine Lv aG (mY t)<|aC<|aN<|ay<|av (.agg (aA 54 (rv .i64 (fun _=>0))))<|av (au (eY x i n))<|fA u 0 fun EC om N z9 => ?_;have nI:aQ EC h 54 (rv .i64 (fun _=>0)) 59:=aU om;have oF:=p.cZ N (by omega);have V:=N.below f f.size (by omega);refine av (au (eY x i n)) (aC (Wr (sR (⟨.tuple #[.agg (aA 54 (rv .i64 (fun _=>0))),au (eY x i n)],gP Tryz.results81 ⟨_,rfl,aX nI.aH (by kernel_rfl) (by kernel_rfl)⟩ (by exact rfl),?_⟩))));refine⟨?_,V⟩;have a:dn x i j n=(zero,eY x i n):=by
  exact QG t
 rw[a]
 all_goals rfl
namespace Rt
theorem D8{m:lS}{x:Int}(h:0<=m.node x) : ∃ q:Nat,q<m.s.nn/\gX (fun i=>decide (m.id i=x)) m.s.nn=(q:Int)/\m.id q=x:=by
 rcases jg (fun i=>decide (m.id i=x)) m.s.nn with ⟨q,b,e,a⟩|⟨e,_⟩
 ·exact⟨q,b,e,h_ a⟩
 unfold lS.node at h; omega
theorem OO{n:Nat}{x:Nat->Int}{r:Int} : ∀ j,j<(n+1)*1->iy (rv .u64 x) (n*1) (bI (fun j=>rv .u64 (fun _=>0) (j % 1)) (0*1) 1 (fun _=>aD r)) j=rv .u64 (aI x n r) j:=by
 intro j a;unfold iy rv aI;by_cases h:j<n*1
 ·rw[d_ h,b_ (by omega)]
 rw[b_ h,d_ (by omega)];unfold bI;rw[d_ (by omega)]
theorem KQ{P:Nat->Bool}{n k j:Nat}(e:k=j+1)(h : ∀ i,k<=i->i<n->P i=true)(c:P j=true) : ∀ i,j<=i->i<n->P i=true:=fun i d b=>by
 by_cases a:i=j
 ·subst a; exact c
 ·exact h i (by omega) b
end Rt
theorem A8(m:lS)(p a:Nat)(o r:Int)(w:World)(h:CS w p m)(ha:a<6)(b:o=(a:Int)+1) :
 Calls Tryz.prog 108 #[(pt p),au o,aD r] w fun e w'=>e = .returned (.bool (decide (0<=m.kY a r)))/\Below w.heap.size w w':=by
 subst b; exact X9 m p a r w h ha
set_option maxRecDepth 20000 in
set_option maxHeartbeats 2000000 in
theorem Yn(m:lS)(B p a D:Nat)(v:EvM)(w:World)(O:vP w B p m)(G:B<=w.heap.size)(ha:a<6)(ho:v.o=(a:Int)+1)(bgg:m.s.gn<=900000)(brr : ∀ i,i<6->m.rn i<=900000)(hTN : ∀ x,m.node x=bE m.t m.tn x)(hD:bE m.t m.tn (bD m.t m.tn D v.node)<0)(hD2:D<=1000) :
 Calls Tryz.prog 79 #[(pt p),.agg (aA 14 (bU v))] w fun e w'=>e = .returned (au (iW m.core v))/\Below B w w'/\(iW m.core v=0 -> ∃ m',m'.core=mh m.core v/\vP w' B p m'):=by
 have Ur:=O.c;have hLn:=O.n;have hLg:=O.g;have Ut:=O.tc;have Uu:=O.t;have hLr:=O.r;have Uv:=O.pB;have Dz:=O.tB;have bn:=O.bn;have bg:=O.bg;have bt:=O.bt;have lpp:p<w.heap.size:=Ur.lt;have Ru:m.tb<w.heap.size:=Ut.lt;refine Kent Tryz.func79 188 ?_;refine ay<|qD fun I w1 lK m1 s1 z1 => ?_;have⟨m2,m3,m4,m5,m6,m7⟩:=um s1.old Ur hLn hLg Ut Uu hLr;have b1:=eZ s1.old (Below.refl B w) G;have sU:=iV lK (Below.refl B w).size;have⟨nP,xB⟩:=vY lK Ur.lt Ut.lt;have uq:=m1.lt;refine av (au 0)<|aC<|Ws<|ay<|av (pt p)<|av (pt I)<|Lv (au v.o) (aL m1.aH 0)<|av (pf I 12)<|Lv (aD v.req) (aL m1.aH 12) ?_;have M6:CS w1 p m := { c:=m2.aH,an:=m3.arr,ag:=m4.arr,tc:=m5.aH,at2:=m6.arr,ar:=fun i N=>(m7.1 i N).arr,bn:=(by show m.s.nn<=1000000; omega),bg:=bg,bt:=(by show m.tn<=1000000; omega),br:=O.br };by_cases c17:(decide (0<=m.kY a v.req))=true
 ·refine dZ (A8 m p a v.o v.req _ M6 ha ho) aG (by rw[c17]) ?_;intro w2 hb1;have b2:=eZ hb1 b1 G;refine aC<|aN<|ay<|av (au 14)<|aC<|Wr<|sR<|aJ (au 14) ?_;have eN:aO v=a:=by unfold aO; omega
  have Y:iW m.core v=14:=by unfold iW; rw[eN]; exact d_ (h_ c17)
  exact⟨oO Y.symm,b2,fun h0=>by rw[Y]at h0; cases h0⟩
 rw[U_]at c17;refine dZ (A8 m p a v.o v.req _ M6 ha ho) aF (by rw[c17]) ?_;intro w3 hb2;have⟨m15,m16,m17,m18,m19,m20,m21⟩:=jQ hb2 m2 m3 m4 m5 m6 m7 m1;have b3:=eZ hb2 b1 G;refine aC<|aK<|Wk<|sN<|Ws ?_;refine jV [0,1,2,4,3,5,6,7] [0,0,0,4,0,4,3,0] [(6,3,[3]),(6,5,[5]),(7,6,[6])] fun pQ dR iG => ?_;have⟨m22,m23,m24,nk,og,oh,om⟩:=jQ dR m15 m16 m17 m18 m19 m20 m21;have b4:=eZ dR b3 G;refine bf (pt p)<|bf (pt p)<|bf (pf p 20)<|bf (pf I 9)<|Rs (pt m.tb) (aL m22.aH 20) ?_;refine Rs (aD v.node) (aL om.aH 9) ?_;refine gQ<|mE (Ja m.tb m.ta m.tn m.tc m.t v.node D _ (tY nk og bt) hD hD2) ?_;rintro e w4 ⟨K,vv,he,hown,sD,hK1,hb3⟩;obtain⟨a1,C,rfl⟩:=hown.val;refine⟨.slice a1 K C,he,?_⟩;clear he;have Xn:K=eP m.t m.tn v.node:=sM sD hK1 hD hD2;have hKD:K<=1000:=by rw[Xn]; exact D7 _ _
 have⟨nI,oF,lX,m32,pR,nQ,oq⟩:=jQ hb3 m22 m23 m24 nk og oh om;have b5:=eZ hb3 b4 G;refine Ln<|bf (.slice a1 (K) (C))<|bS<|Ws<|ay<|av (.slice a1 (K) (C))<|av (au K) ?_;by_cases c27:(K:Int)=0
 ·refine Lv aG (fu c27)<|aC<|aN<|ay<|av (au 9)<|aC<|Wr<|sR<|aJ (au 9) ?_;have eN:aO v=a:=by unfold aO; omega
  have ne1 : ¬ 0<=m.core.kY (aO v) v.req:=by rw[eN]; exact j_ c17
  have Y:iW m.core v=9:=by unfold iW; rw[b_ ne1]; exact d_ (Xn.symm.trans (by omega))
  exact⟨oO Y.symm,b5,fun h0=>by rw[Y]at h0; cases h0⟩
 refine Lv aF (fQ c27)<|aC<|aK<|Wk<|sN<|Ws<|ay<|av (au 0)<|aC<|Wb<|Wo (fun f H => ∃ k:Nat,∃ Rk:Nat->Nat->Int,k<=K/\dw (fun x=>bC x v.o v.aS) (ow m.core v.node) m.R k=(Rk,0)/\f 0=(pt p)/\f 3=(pt I)/\f 5 = .slice a1 (K) (C)/\f 6=au (k:Int)/\aQ H p 27 (mQ m) 71/\Fx.Own H B 66 5 (.slice m.s.ga (m.s.gn) (m.s.gc)) m.s.gn (I8 m)/\aQ H m.tb 1 (fun _ => .slice m.ta m.tn m.tc) 123/\Fx.Own H B 128 2 (.slice m.ta (m.tn) (m.tc)) m.tn (Qp m.t)/\wK H B 6 m/\aQ H I 14 (bU v) 32/\Fx.Own H pQ.heap.size 28 1 (.slice a1 (K) (C)) K (rv .u64 (fun i=>bD m.t m.tn i v.node))/\Fx.Own H B 61 56 (.slice m.s.na (m.s.nn) (m.s.nc)) m.s.nn (flat 56 (fun l=>ji (m.id l) (m.par l) (Rk l)))/\Below B w H) (fun f _=>(K-(intOf (f 6)).toNat)) ⟨0,m.R,by omega,rfl,(by rfl),(by rfl),(by rfl),Fx.ic,nI,lX,m32,pR,nQ,oq,hown,oF,b5⟩ ?_;rintro f1 w5 ⟨k,Rk,hk,hRk,h1,Q,h3,h4,pU,qQ,qR,oP,rQ,nJ,mO,nK,b6⟩;refine Ws<|ay<|aT h4<|aT h3<|av (au K) ?_;by_cases c31:(k:Int)<(K:Int)
 ·refine Lv aG (gu c31)<|aC<|aN<|Wk<|sN<|Ws<|Wb<|Ws ?_;obtain⟨q,hq,eq0,_⟩:=D8 (m:=m) (x:=bD m.t m.tn k v.node) (by rw[hTN]; exact sD k (by omega));have ex1:ow m.core v.node k=q:=by show(gX (fun i=>decide (m.id i=bD m.t m.tn k v.node)) m.s.nn).toNat=q; rw[eq0]; rfl
  refine Wl<|aT h1<|aT h3<|aT h4 ?_;obtain⟨Am,eq1⟩:=mO.addr (by omega);have sZ:Fx.Own w5 pQ.heap.size 28 1 (bM Am K C) K (rv .u64 (fun i=>bD m.t m.tn i v.node)):=mO.dL (M_ (fun q=>Value.slice q K C) eq1);refine Lv (pf Am k) (dh 1 (hx:=(rfl.trans (M_ (fun q=>Value.slice q (K) (C)) eq1))))<|Lv (aD (bD m.t m.tn k v.node)) (aL sZ.aH k) ?_;have rR:Fx.Own w5 pQ.heap.size 28 1 (.slice a1 (K) (C)) K (rv .u64 (fun i=>bD m.t m.tn i v.node)):=sZ.dL (M_ (fun q=>Value.slice q K C) eq1.symm);have UK:CS w5 p { m with R:=Rk } := { c:=pU.aH,an:=nK.arr,ag:=qQ.arr,tc:=qR.aH,at2:=oP.arr,ar:=fun i N=>(rQ.1 i N).arr,bn:=(by show m.s.nn<=1000000; omega),bg:=bg,bt:=(by show m.tn<=1000000; omega),br:=O.br };refine dZ ((I9 { m with R:=Rk } p (bD m.t m.tn k v.node) _ UK).mono (fun e w2 Q=>(⟨Q.1.trans (oO eq0),Q.2⟩:e = .returned (au (q:Int))/\_))) _ rfl ?_;intro w6 hb4;have⟨nR,sw,vL,rA,qU,uU,tV,rD⟩:=ng hb4 pU qQ qR oP rQ nJ nK rR;have b7:=eZ hb4 b6 G;refine av (au q)<|aC<|Ws ?_;obtain⟨V,Ji⟩:=tV.addr (by omega);have rE:Fx.Own w6 B 61 56 (bM V m.s.nn m.s.nc) m.s.nn (flat 56 (fun l=>ji (m.id l) (m.par l) (Rk l))):=tV.dL (M_ (fun q=>Value.slice q m.s.nn m.s.nc) Ji);refine qA (T:=59) (T':=59) (a := .tmp 8) (v := .tmp 55) (m:=54) (z:=rv .i64 (fun _=>0)) (y:=rv .i64 ((bC (Rk q) v.o v.aS).1)) (u := .agg (aA 54 (rv .i64 ((bC (Rk q) v.o v.aS).1)))) 17 18 (List.replicate 20 (0,2,[],[])) #[(pt p),(pt p),(pt p),(pf p 18),.slice m.s.na (m.s.nn) (m.s.nc),au (q:Int),(pf V (56*q)),(pf V (56*q+2)),.agg (aA 54 (rv .i64 (Rk q))),(pt I),au v.o,(pf I 11),au v.aS,.tuple #[.agg (aA 54 (rv .i64 ((bC (Rk q) v.o v.aS).1))),au ((bC (Rk q) v.o v.aS).2)],.tuple #[.agg (aA 54 (rv .i64 ((bC (Rk q) v.o v.aS).1))),au ((bC (Rk q) v.o v.aS).2)],.agg (aA 54 (rv .i64 ((bC (Rk q) v.o v.aS).1))),au ((bC (Rk q) v.o v.aS).2),undef,undef,au ((bC (Rk q) v.o v.aS).2)] (by kernel_rfl) (by kernel_rfl) (by kernel_rfl) (by kernel_rfl) (by kernel_rfl) (by kernel_rfl) rfl (by kernel_rfl) rfl rfl (by kernel_rfl) (fun Z=>(show ev _ (.tmp 8)=(pt Z)from by kernel_rfl)) (fun Z=>(show ev _ (.tmp 55) = .agg (aA 54 (rv .i64 ((bC (Rk q) v.o v.aS).1)))from by kernel_rfl)) (bJ _ _) (fun _ _=>rfl) (by kernel_rfl) (fun Z => ?_) ?_
  ·refine⟨?_,?_,?_,?_,?_,?_,?_,?_,?_,?_,?_,?_,?_,?_,?_,?_,?_,?_,?_,?_,trivial⟩
   ·exact .inr (.inr (nC (pt p) fun d b=>dY rfl ((aY (by kernel_rfl)).trans h1)))
   ·exact .inr (.inr oD)
   ·exact .inr (.inr oD)
   ·exact .inr (.inr oD)
   ·exact .inr (.inr (nC (.slice m.s.na (m.s.nn) (m.s.nc)) fun d b=>bF (x:=mQ m) rfl (show ev _ (.tmp 44)=(pf p 18)from by kernel_rfl) (by kernel_rfl) (nR.aH.below b (by have:=nR.lt; omega)) (i:=18) (by omega) (by omega) rfl))
   ·exact .inr (.inr oD)
   ·exact .inr (.inr (nC (pf V (56*q)) fun d b=>dO rfl ((show ev _ (.tmp 45) = .slice m.s.na (m.s.nn) (m.s.nc)from by kernel_rfl).trans (M_ (fun q=>Value.slice q (m.s.nn) (m.s.nc)) Ji)) (show ev _ (.tmp 46)=au (q:Int)from by kernel_rfl) Tryz.underlying50 (s:=56) (by kernel_rfl) (by omega) (by omega) (by omega)))
   ·exact .inr (.inr oD)
   ·exact .inr (.inr (nC (.agg (aA 54 (rv .i64 (Rk q)))) fun d b=>eU (x:=flat 56 (fun l=>ji (m.id l) (m.par l) (Rk l))) (y:=rv .i64 (Rk q)) rfl (show ev _ (.tmp 48)=(pf V (56*q+2))from by kernel_rfl) (by kernel_rfl) (by kernel_rfl) (rE.aH.below b (by have:=rE.lt; omega)) (i:=56*q+2) (by omega) (by omega) (fun jq hjq=>(Fx.jB (k:=q) (j:=2+jq) (by omega) (by omega)).trans ((fun jq _=>DZ _ _ _ jq) jq hjq))))
   ·exact .inr (.inr (nC (pt I) fun d b=>fJ rfl ((aY (by kernel_rfl)).trans Q) Tryz.underlying32 rfl (s:=1) (by kernel_rfl) rfl rfl))
   ·exact .inr (.inr (nC (au v.o) fun d b=>bF (x:=bU v) rfl (show ev _ (.tmp 50)=(pt I)from by kernel_rfl) (by kernel_rfl) (uU.aH.below b (by have:=uU.lt; omega)) (i:=0) (by omega) (by omega) rfl))
   ·exact .inr (.inr (nC (pf I 11) fun d b=>fJ rfl ((aY (by kernel_rfl)).trans Q) Tryz.underlying32 rfl (s:=1) (by kernel_rfl) rfl (by show _+11=_; omega)))
   ·exact .inr (.inr (nC (au v.aS) fun d b=>bF (x:=bU v) rfl (show ev _ (.tmp 52)=(pf I 11)from by kernel_rfl) (by kernel_rfl) (uU.aH.below b (by have:=uU.lt; omega)) (i:=11) (by omega) (by omega) rfl))
   ·exact .inr (.inr (Fx.Ep (v := .tuple #[.agg (aA 54 (rv .i64 ((bC (Rk q) v.o v.aS).1))),au ((bC (Rk q) v.o v.aS).2)]) (by kernel_rfl) (by kernel_rfl) (Fx.qbC (fun d b=>rC (args := [.agg (aA 54 (rv .i64 (Rk q))),au v.o,au v.aS]) rfl (Fx.Ob (show ev _ (.tmp 49) = .agg (aA 54 (rv .i64 (Rk q)))from by kernel_rfl) (show ev _ (.tmp 51)=au v.o from by kernel_rfl) (show ev _ (.tmp 53)=au v.aS from by kernel_rfl)) Tryz.func109 rfl rfl) (fun d b=>(Yk (Rk q) v.o v.aS _).mono fun e v2 h=>⟨h.1,h.2⟩))))
   ·exact .inr (.inr oD)
   ·exact .inr (.inr oD)
   ·exact .inr (.inr oD)
   ·exact .inl rfl
   ·exact .inr (.inl rfl)
   exact .inr (.inr oD)
  rintro Z w7 E A pV tu hb5;have EM:p≠Z:=u_ (n_ (nR.lt) pV);have alV:m.tb≠Z:=u_ (n_ (vL.lt) pV);have acu:I≠Z:=u_ (n_ (uU.lt) pV);have alW:V≠Z:=u_ (n_ (rE.lt) pV);have⟨qV,qw,qx,xD,qF,vM,oo,tC⟩:=ng hb5 nR sw vL rA qU uU rD rE;have b8:=eZ hb5 b7 G;have pV:w.heap.size<=Z:=m_ b7.size pV;have zy:=tu.lt;have q1:E 0=(pt p):=by rw[A]; exact(aY (by kernel_rfl)).trans h1
  have q2:E 3=(pt I):=by rw[A]; exact(aY (by kernel_rfl)).trans Q
  have q3:E 5 = .slice a1 (K) (C):=by rw[A]; exact(aY (by kernel_rfl)).trans h3
  have q4:E 6=au (k:Int):=by rw[A]; exact(aY (by kernel_rfl)).trans h4
  have q5:E 28=au (k:Int):=by rw[A]; kernel_rfl
  have q6:E 29 = .slice a1 (K) (C):=by rw[A]; kernel_rfl
  have q7:E 30=au (K:Int):=by rw[A]; kernel_rfl
  have q8:E 31 = .bool true:=by rw[A]; kernel_rfl
  have q9:E 34=(pt p):=by rw[A]; kernel_rfl
  have q10:E 35 = .slice a1 (K) (C):=by rw[A]; kernel_rfl
  have q11:E 36=au (k:Int):=by rw[A]; kernel_rfl
  have q12:E 37=(pf Am k):=by rw[A]; kernel_rfl
  have q13:E 38=aD (bD m.t m.tn k v.node):=by rw[A]; kernel_rfl
  have q14:E 39=au (q:Int):=by rw[A]; kernel_rfl
  have q15:E 7=au (q:Int):=by rw[A]; kernel_rfl
  have q16:E 41=(pt p):=by rw[A]; kernel_rfl
  have q17:E 42=(pt p):=by rw[A]; kernel_rfl
  have q18:E 43=(pt p):=by rw[A]; kernel_rfl
  have q19:E 44=(pf p 18):=by rw[A]; kernel_rfl
  have q20:E 45 = .slice m.s.na (m.s.nn) (m.s.nc):=by rw[A]; kernel_rfl
  have q21:E 46=au (q:Int):=by rw[A]; kernel_rfl
  have q22:E 47=(pf V (56*q)):=by rw[A]; kernel_rfl
  have q23:E 48=(pf V (56*q+2)):=by rw[A]; kernel_rfl
  have q24:E 49 = .agg (aA 54 (rv .i64 (Rk q))):=by rw[A]; kernel_rfl
  have UL:E 50=(pt I):=by rw[A]; kernel_rfl
  have UM:E 51=au v.o:=by rw[A]; kernel_rfl
  have UN:E 52=(pf I 11):=by rw[A]; kernel_rfl
  have UO:E 53=au v.aS:=by rw[A]; kernel_rfl
  have UQ:E 54 = .tuple #[.agg (aA 54 (rv .i64 ((bC (Rk q) v.o v.aS).1))),au ((bC (Rk q) v.o v.aS).2)]:=by rw[A]; kernel_rfl
  have UR:E 40 = .tuple #[.agg (aA 54 (rv .i64 ((bC (Rk q) v.o v.aS).1))),au ((bC (Rk q) v.o v.aS).2)]:=by rw[A]; kernel_rfl
  have M7:E 55 = .agg (aA 54 (rv .i64 ((bC (Rk q) v.o v.aS).1))):=by rw[A]; kernel_rfl
  have q32:E 56=au ((bC (Rk q) v.o v.aS).2):=by rw[A]; kernel_rfl
  have Rw:E 8=(pt Z):=by rw[A]; kernel_rfl
  have QH:E 9=au ((bC (Rk q) v.o v.aS).2):=by rw[A]; kernel_rfl
  clear A;refine sN<|Ws<|ay<|aT QH ?_;by_cases c58:((bC (Rk q) v.o v.aS).2)=0
  ·refine Lv aF (jP c58)<|aC<|aK<|Wk<|sN ?_;refine jV [0,1,2,3,5,4,6,7,8,9] [0,0,0,0,4,0,4,0,0,3] [(9,4,[4]),(9,6,[6])] fun CP gJ nO => ?_;have⟨m64,wB,vN,wC,wD,tF,uI,uV,xq⟩:=BD gJ qV qw qx xD qF vM oo tC tu;have b9:=eZ gJ b8 G;refine bW q1<|bf (pt p)<|bf (pt p)<|bf (pf p 18)<|bW q15<|Rs (.slice m.s.na (m.s.nn) (m.s.nc)) (aL m64.aH 18) ?_;refine Rs (.agg (aA 54 (rv .i64 ((bC (Rk q) v.o v.aS).1)))) (fP xq.aH 0 (ha:=Rw)) ?_;refine Rp (pf V (56*q)) (fun _=>dh 56 (hx:=(rfl.trans (M_ (fun q=>Value.slice q (m.s.nn) (m.s.nc)) Ji))))<|bf (pf V (56*q+2))<|gQ<|zJ uV (56*q+2) fun w8 vO s9 z2 => ?_;have fV:=gZ s9 uV.J2;have⟨yN,uW,xE,xW,xX,xu,xG⟩:=Sc fV m64 wB vN wC wD tF uI;have b10:=s9.below b9 (m_ G b9.size) uV.blk.1;have xY:Fx.Own w8 B 61 56 (bM V m.s.nn m.s.nc) m.s.nn (flat 56 (fun l=>ji (m.id l) (m.par l) (aI Rk q ((bC (Rk q) v.o v.aS).1) l))):=vO.congr (fun X W=>(Fx.Bz (k:=q) (j:=2) (by omega) (by omega) X W).trans (bL (fun i N j hj=>BZ i N j hj) X W));refine Ln<|Rn<|bQ<|sN<|Wl<|aT q4<|Lv (au ((k:Int)+1)) eO<|av (au ((k:Int)+1))<|Ln ?_;have zM:Fx.Own w8 B 61 56 (.slice m.s.na (m.s.nn) (m.s.nc)) m.s.nn (flat 56 (fun l=>ji (m.id l) (m.par l) (aI Rk q ((bC (Rk q) v.o v.aS).1) l))):=xY.dL (M_ (fun q=>Value.slice q m.s.nn m.s.nc) Ji.symm);refine gF ⟨k+1,(aI Rk q (bC (Rk q) v.o v.aS).1),by omega,(EW hRk ex1 (by first|exact c58|exact Classical.not_not.1 c58)),q1,q2,q3,Fx.ic,yN,uW,xE,xW,xX,xu,xG,zM,b10⟩ ?_
   show(K-(intOf (au ((k:Int)+1))).toNat)<_;simp only[h4,intOf]; omega
  refine Lv aG (mY c58)<|aC<|aN<|ay<|aT QH<|av (au ((bC (Rk q) v.o v.aS).2))<|aC<|Wr<|sR<|bO<|sR<|qm<|bO<|sR<|aJ (au ((bC (Rk q) v.o v.aS).2)) ?_;have eN:aO v=a:=by unfold aO; omega
  have ne1 : ¬ 0<=m.core.kY (aO v) v.req:=by rw[eN]; exact j_ c17
  have ne2 : ¬ eP m.core.t m.core.tn v.node=0:=fun e=>c27 (by rw[show K=0 from Xn.trans e]; rfl);have ew:ny m.core v=dw (fun x=>bC x v.o v.aS) (ow m.core v.node) m.R K:=by unfold ny; rw[show eP m.core.t m.core.tn v.node=K from Xn.symm]; rfl
  have Y:iW m.core v=(bC (Rk q) v.o v.aS).2:=by
   unfold iW; rw[b_ ne1,b_ ne2,ew];have e1:=G7 hRk ex1 c58;rw[zV (k:=k+1) (by rw[e1]; exact c58) K (by omega)]; exact e1
  exact⟨oO Y.symm,b8,fun h0=>N_ (Y.symm.trans h0) c58⟩
 refine Lv aF (gy c31)<|aC<|aK<|Wx<|cu<|gL<|cB<|sN<|Ws ?_;have hRK:dw (fun x=>bC x v.o v.aS) (ow m.core v.node) m.R K=(Rk,0):=by rw[show K=k by omega]; exact hRk
 refine Wl<|Lv (pt I) (je Q 0)<|Lv (au v.o) (aL nJ.aH 0)<|Lv (pf I 12) (je Q 12)<|Lv (aD v.req) (aL nJ.aH 12)<|Lv (pf I 9) (je Q 9)<|Lv (aD v.node) (aL nJ.aH 9)<|Lv (pf I 11) (je Q 11)<|Lv (au v.aS) (aL nJ.aH 11)<|av (.agg (aA 5 (bI (bI (bI (bI (fun J=>if J<1 then au 0 else if J<3 then aD 0 else if J<4 then au 0 else aD 0) 0 1 (fun _=>au v.o)) 1 1 (fun _=>aD v.req)) 2 1 (fun _=>aD v.node)) 3 1 (fun _=>au v.aS))))<|uh 5 (fun J=>if J<1 then au 0 else if J<3 then aD 0 else if J<4 then au 0 else aD 0) fun U w9 zP xZ s10 z3 => ?_;have⟨AO,AP,Aj,zN,zO,AQ,Dy⟩:=jQ s10.old pU qQ qR oP rQ nJ nK;have b11:=eZ s10.old b6 G;have za:=iV zP b6.size;have acv:=bZ zP pU.lt;have Jb:(.slice m.s.ga (m.s.gn) (m.s.gc):Value).ownBlock≠some U:=by rw[zP]; exact qQ.jm (A_ _)
 have⟨acw,alY⟩:=vY zP qR.lt nJ.lt;have I4:=xZ.lt;refine fA xZ 0 (h1:=(bP (bP (bP (bP (fun jq _=>by show((fun J=>if J<1 then au 0 else if J<3 then aD 0 else if J<4 then au 0 else aD 0:Nat->Value) jq).oneCell'=true; simp only[]; repeat (first|rfl|split)) (fun _ _=>rfl)) (fun _ _=>rfl)) (fun _ _=>rfl)) (fun _ _=>rfl))) fun sV BO s11 z4 => ?_
 have CV:aQ sV U 5 (bI (bI (bI (bI (fun J=>if J<1 then au 0 else if J<3 then aD 0 else if J<4 then au 0 else aD 0) 0 1 (fun _=>au v.o)) 1 1 (fun _=>aD v.req)) 2 1 (fun _=>aD v.node)) 3 1 (fun _=>au v.aS)) 66:=aU BO;have jJ:=gZ s11 xZ.ty;have zS:=kF jJ AO;have F5:=AP.cZ s11 Jb;have⟨D6,F6,Gf,wM,wN⟩:=sj jJ Aj zN zO AQ Dy;have b12:=s11.below b11 (m_ G b11.size) (by omega);refine aC<|Ws ?_;have uw:aQ sV U 5 (iE (qy v)) 66:=CV.congr (fun j hj=>by rcases j with _|_|_|_|_|j <;> first|rfl|omega)
 refine Wl<|aT h1<|av (pt p)<|av (pt p)<|av (pf p 19)<|Lv (.slice m.s.ga (m.s.gn) (m.s.gc)) (aL zS.aH 19)<|av (au m.s.gn)<|av (au m.s.gn)<|aC<|Ws ?_;refine Aw [0,1,2,3,4,5,6,7,8,9,10,11,12] [0,0,0,0,0,1,4,2,2,0,0,0,3] (iU [66]) vX Fx.iU.trans (fM := [(12,5,[5]),(7,6,[6]),(8,6,[7,6]),(12,6,[6]),(8,7,[7]),(9,7,[7]),(10,7,[7]),(11,7,[7]),(12,7,[7]),(9,8,[8]),(10,8,[8]),(11,8,[8]),(12,8,[8])]) (by kernel_rfl) (by kernel_rfl) (by kernel_rfl) (by kernel_rfl) (by kernel_rfl) fun Rv lW AJ => ?_;have⟨pY,oZ,qJ,qb,rG,sK,vg,rH⟩:=ng lW zS F5 D6 F6 Gf wM wN uw;have b13:=eZ lW b12 G;refine bW h1<|bW h1<|bf (pt p)<|bf (pt p)<|bf (pf p 19)<|Rd (v := .slice m.s.ga (m.s.gn) (m.s.gc)) (by rfl) (by rfl) (vX _) (fun d b=>bF (x:=mQ m) rfl rfl (by kernel_rfl) (pY.kM b (by decide)).aH (i:=19) (by omega) (by omega) rfl) ?_;refine Rs (.agg (aA 5 (iE (qy v)))) (fP rH.aH 0) ?_;refine BA<|xI (vs := [(0,.agg (aA 5 (iE (qy v))))]) (s:=5) (zc:=fun J=>if J<1 then au 0 else if J<3 then aD 0 else if J<4 then au 0 else aD 0) (y:=bI (fun j=>(fun J=>if J<1 then au 0 else if J<3 then aD 0 else if J<4 then au 0 else aD 0) (j % 5)) (0*5) 5 (iE (qy v))) (by rfl) rfl rfl Tryz.underlying51 (by kernel_rfl) (by rfl) (by rfl) (by kernel_rfl) (by rw[aZ (off:=0*5) (s:=5) (y:=iE (qy v)) rfl (bJ _ _) (by rfl)]; rfl) rfl fun g4 EC MI uy s13 z5 => ?_;have⟨zf,vk,zh,BP,xH,uz,qK,yh⟩:=ng s13.old pY oZ qJ qb rG sK vg rH;have b14:=eZ s13.old b13 G;have UU:=iV MI b13.size;have Yo:=bZ MI pY.lt;have Yp:(.slice m.s.ga (m.s.gn) (m.s.gc):Value).ownBlock≠some g4:=by rw[MI]; exact oZ.jm (A_ _)
 have⟨ajA,Yq,ajB⟩:=IQ MI qJ.lt sK.lt rH.lt;have Rx:=uy.lt;refine Ln ⟨Fx.iU.of_below s13.old,?_⟩;refine BA<|yG (B:=B) (s:=5) (bytes:=40) (k:=m.s.gn) (m:=1) (v := .slice m.s.ga (m.s.gn) (m.s.gc)) (x:=I8 m) (by rfl) rfl rfl rfl Tryz.underlying51 (by kernel_rfl) (by kernel_rfl) rfl rfl vk uy.aH (wL (tZ _)) (by omega) (by omega) (by omega) (m_ G b14.size) fun F C zL ho1 hg1 sS hlt1 => ?_;have qE:=yI hg1 vk;have⟨uD,BQ,Jc,EN,AX,EO⟩:=R9 qE zf zh BP xH uz qK;have Gg:=yh.grown hg1 Jb;have ajC:U≠F:=fun e=>sS.elim (fun e2=>Jb (by rw[e]; exact e2)) (fun e2=>by have:=yh.lt; omega);have yj:Fx.Own zL B 66 5 (bM F (m.s.gn+1) C) (m.s.gn+1) (flat 5 (Fx.J3 (fun l=>iE (m.g l)) (iE (qy v)) m.s.gn m.s.gn)):=(ho1.congr (fun j hj=>(Fx.uO j hj).trans (bL (fun i N q _=>Fx.xO i N q) j hj)));have b15:Below B w zL:=yF b14 hg1 (m_ G b14.size) (fun q hq=>(vk.ge hq).1);refine Ln ⟨qE,?_⟩;refine bf (pt p)<|bf (pt p)<|bf (pf p 19)<|gQ<|jd uD 19 (bM F (m.s.gn+1) C) fun DV BR BJ z6 => ?_;have wz:=gZ BJ uD.ty;have⟨zT,Jj,KJ,EP,ER,Gi,Gj⟩:=Sc wz BQ Jc EN AX EO Gg yj;have b16:=BJ.below b15 (m_ G b15.size) (by omega);refine Ln<|bS<|CO (fun f H => ∃ k:Nat,k<=m.s.gn/\k=down (fun i=>EY v (m.g i)) m.s.gn/\f 0=(pt p)/\f 3=(pt I)/\f 10=(pt U)/\f 11=au (k:Int)/\aQ H m.tb 1 (fun _ => .slice m.ta m.tn m.tc) 123/\Fx.Own H B 128 2 (.slice m.ta (m.tn) (m.tc)) m.tn (Qp m.t)/\wK H B 6 m/\aQ H I 14 (bU v) 32/\Fx.Own H B 61 56 (.slice m.s.na (m.s.nn) (m.s.nc)) m.s.nn (flat 56 (fun l=>ji (m.id l) (m.par l) (Rk l)))/\aQ H U 5 (iE (qy v)) 66/\aQ H p 27 (dB (mQ m) 19 (bM F (m.s.gn+1) C)) 71/\Fx.Own H B 66 5 (bM F (m.s.gn+1) C) (m.s.gn+1) (flat 5 (Fx.J3 (fun l=>iE (m.g l)) (iE (qy v)) m.s.gn k))/\Below B w H) ?_ ?_
 ·refine Wb<|Wo (fun f H => ∃ k:Nat,k<=m.s.gn/\(∀ i,k<=i->i<m.s.gn->EY v (m.g i)=true)/\f 0=(pt p)/\f 3=(pt I)/\f 10=(pt U)/\f 11=au (k:Int)/\aQ H m.tb 1 (fun _ => .slice m.ta m.tn m.tc) 123/\Fx.Own H B 128 2 (.slice m.ta (m.tn) (m.tc)) m.tn (Qp m.t)/\wK H B 6 m/\aQ H I 14 (bU v) 32/\Fx.Own H B 61 56 (.slice m.s.na (m.s.nn) (m.s.nc)) m.s.nn (flat 56 (fun l=>ji (m.id l) (m.par l) (Rk l)))/\aQ H U 5 (iE (qy v)) 66/\aQ H p 27 (dB (mQ m) 19 (bM F (m.s.gn+1) C)) 71/\Fx.Own H B 66 5 (bM F (m.s.gn+1) C) (m.s.gn+1) (flat 5 (Fx.J3 (fun l=>iE (m.g l)) (iE (qy v)) m.s.gn k))/\Below B w H) (fun f _=>(intOf (f 11)).toNat) ⟨m.s.gn,by omega,(fun i h1 Q=>N_ h1 (by omega)),h1,Q,(by rfl),Fx.ic,zT,Jj,KJ,EP,ER,Gi,BR,Gj,b16⟩ ?_;rintro f3 L ⟨k,hk,hgt,S,h6,h7,M,BS,ES,BU,Fa,ET,zU,BX,AY,b17⟩;refine Ws<|Ws ?_;refine xR<|eG M ?_;by_cases c97:0<(k:Int)
  ·obtain⟨j,ej⟩ : ∃ j,k=j+1:=⟨k-1,by omega⟩;refine Qv aG (fun d b=>mW c97)<|aW aG<|eG S<|aW (pt p)<|aW (pt p)<|aW (pf p 19)<|Qv (bM F (m.s.gn+1) C) (fun d b=>aL (BX.aH.dr b) 19 (Fx.lM (by omega)))<|eG M<|Qv (au j) (fun d b=>gH)<|Qv (pf F (5*j)) (fun d b=>dh 5)<|aW (pf F (5*j))<|Qv (au ((m.g j) 0)) (fun d b=>aL (AY.aH.dr b) (5*j) (Fx.fO (k:=j) (j:=0) (by omega) (by omega) ((congrFun (Fx.zo (by omega) (by omega)) 0).trans rfl)))<|Qv (pt U) (fun d b=>je h7 0)<|Qv (au v.o) (fun d b=>aL (zU.aH.dr b) 0) ?_;by_cases UW:v.o<((m.g j) 0)
   ·refine Qv aG (fun d b=>mW UW)<|aW aG<|aP<|aP<|aP<|aP<|aP<|aP<|aP<|aP<|aP<|aP<|aP<|aP<|aP<|aP<|aP<|aP<|aP<|aP<|aP<|aP<|aP<|aP<|aP ?_;refine aP<|aP<|aP<|aP<|aP<|aW aG<|aW aG<|Qn ?_;rintro _ ⟨P,rfl⟩;obtain⟨Dv,oV⟩ : ∃ d,d=World.drewN L P:=⟨_,rfl⟩;rw[<- oV];have s15:Stp L.heap.size L Dv:=(by rw[oV]; exact Sb (jM L P));have⟨Jd,Uw,UY,Ux,Uy,acK,Uz,acy⟩:=ng s15.old BS ES BU Fa ET zU BX AY;have b18:=eZ s15.old b17 G;clear oV;refine sN<|aN<|Wk<|sN<|Wb<|Ws ?_;refine jV [0,1,2,3,5,6,7,8,9,11,12,4,10,13,14,15,16] [0,0,0,0,4,0,0,0,0,0,4,0,0,0,4,0,3] [(16,4,[4]),(16,10,[10]),(16,14,[14])] fun wt4 qP GL => ?_;have⟨UA,Qx,UC,UD,acz,acA,acL,Qy⟩:=ng qP Jd Uw UY Ux Uy acK Uz acy;have b19:=eZ qP b18 G;refine bW S<|bf (pt p)<|bf (pt p)<|bf (pf p 19)<|bW M<|bW S<|bf (pt p)<|bf (pt p)<|bf (pf p 19)<|bW M<|Rp (au j) (fun _=>gH)<|Rs (bM F (m.s.gn+1) C) (aL acL.aH 19 (Fx.lM (by omega))) ?_;refine Rs (bM F (m.s.gn+1) C) (aL acL.aH 19 (Fx.lM (by omega))) ?_;refine Rp (pf F (5*j)) (fun _=>dh 5)<|Rs (.agg (aA 5 (iE (m.g j)))) (fP Qy.aH (5*j) (fun jq hjq=>(Fx.jB (k:=j) (by omega) hjq).trans (congrFun (Fx.zo (by omega) (by omega)) jq))) ?_;refine Rp (pf F (5*k)) (fun _=>dh 5)<|gQ<|zJ Qy (5*k) (h1:=(fun j _=>tZ _ j)) fun Ow acB JK z7 => ?_;have xC:=gZ JK Qy.J2;have⟨agQ,acC,acD,acE,alZ⟩:=sj xC UA Qx UC UD acz;have ama:=acA.cZ JK (by omega);have amb:=kF xC acL;have b20:=JK.below b19 (m_ G b19.size) Qy.blk.1;have amc:Fx.Own Ow B 66 5 (bM F (m.s.gn+1) C) (m.s.gn+1) (flat 5 (Fx.J3 (fun l=>iE (m.g l)) (iE (qy v)) m.s.gn j)):=acB.congr (fun X W=>(Fx.uP (k:=k) (by omega) X W).trans (bL (fun i N q _=>Fx.yJ ej (by omega) i N q) X W));refine Ln<|bS<|Wl<|aT M<|Lv (au j) gH<|av (au j)<|Ln<|bQ<|gF ⟨j,by omega,(KQ ej hgt (by unfold EY; rw[f_ UW]; rfl)),S,h6,h7,Fx.ic,agQ,acC,acD,acE,alZ,ama,amb,amc,b20⟩ ?_;show(intOf (au j)).toNat<_;simp only[M,intOf]; omega
   refine Qv aF (fun d b=>mX UW)<|aW aF<|eG S<|aW (pt p)<|aW (pt p)<|aW (pf p 19)<|Qv (bM F (m.s.gn+1) C) (fun d b=>aL (BX.aH.dr b) 19 (Fx.lM (by omega)))<|eG M<|Qv (au j) (fun d b=>gH)<|Qv (pf F (5*j)) (fun d b=>dh 5)<|aW (pf F (5*j))<|Qv (au ((m.g j) 0)) (fun d b=>aL (AY.aH.dr b) (5*j) (Fx.fO (k:=j) (j:=0) (by omega) (by omega) ((congrFun (Fx.zo (by omega) (by omega)) 0).trans rfl)))<|Qv (pt U) (fun d b=>je h7 0)<|Qv (au v.o) (fun d b=>aL (zU.aH.dr b) 0) ?_;by_cases M8:((m.g j) 0)=v.o
   ·refine Qv aG (fun d b=>fu M8)<|aW aG<|eG S<|aW (pt p)<|aW (pt p)<|aW (pf p 19)<|Qv (bM F (m.s.gn+1) C) (fun d b=>aL (BX.aH.dr b) 19 (Fx.lM (by omega)))<|eG M<|Qv (au j) (fun d b=>gH)<|Qv (pf F (5*j)) (fun d b=>dh 5)<|aW (pf F (5*j+1))<|Qv (aD ((m.g j) 1)) (fun d b=>aL (AY.aH.dr b) (5*j+1) (Fx.fO (k:=j) (j:=1) (by omega) (by omega) ((congrFun (Fx.zo (by omega) (by omega)) 1).trans rfl)))<|Qv (pf U 1) (fun d b=>je h7 1)<|Qv (aD v.req) (fun d b=>aL (zU.aH.dr b) 1) ?_;by_cases c139:v.req<((m.g j) 1)
    ·refine Qv aG (fun d b=>mW c139)<|aW aG<|aW aG<|aW aG<|Qn ?_;rintro _ ⟨P,rfl⟩;obtain⟨wq2,sJ⟩ : ∃ d,d=World.drewN L P:=⟨_,rfl⟩;rw[<- sJ];have Md:Stp L.heap.size L wq2:=(by rw[sJ]; exact Sb (jM L P));have⟨amd,ame,amf,amg,amh,ami,amj,amk⟩:=ng Md.old BS ES BU Fa ET zU BX AY;have L9:=eZ Md.old b17 G;clear sJ;refine sN<|aN<|Wk<|sN<|Wb<|Ws ?_;refine jV [0,1,2,3,5,6,7,8,9,11,12,4,10,13,14,15,16] [0,0,0,0,4,0,0,0,0,0,4,0,0,0,4,0,3] [(16,4,[4]),(16,10,[10]),(16,14,[14])] fun wt5 zx SY => ?_;have⟨aml,amm,amn,amo,amq,amr,acM,Yr⟩:=ng zx amd ame amf amg amh ami amj amk;have Ma:=eZ zx L9 G;refine bW S<|bf (pt p)<|bf (pt p)<|bf (pf p 19)<|bW M<|bW S<|bf (pt p)<|bf (pt p)<|bf (pf p 19)<|bW M<|Rp (au j) (fun _=>gH)<|Rs (bM F (m.s.gn+1) C) (aL acM.aH 19 (Fx.lM (by omega))) ?_;refine Rs (bM F (m.s.gn+1) C) (aL acM.aH 19 (Fx.lM (by omega))) ?_;refine Rp (pf F (5*j)) (fun _=>dh 5)<|Rs (.agg (aA 5 (iE (m.g j)))) (fP Yr.aH (5*j) (fun jq hjq=>(Fx.jB (k:=j) (by omega) hjq).trans (congrFun (Fx.zo (by omega) (by omega)) jq))) ?_;refine Rp (pf F (5*k)) (fun _=>dh 5)<|gQ<|zJ Yr (5*k) (h1:=(fun j _=>tZ _ j)) fun w16 ams s20 z8 => ?_;have ze:=gZ s20 Yr.J2;have⟨amu,amv,amw,amx,amy⟩:=sj ze aml amm amn amo amq;have amA:=amr.cZ s20 (by omega);have amB:=kF ze acM;have SS:=s20.below Ma (m_ G Ma.size) Yr.blk.1;have amC:Fx.Own w16 B 66 5 (bM F (m.s.gn+1) C) (m.s.gn+1) (flat 5 (Fx.J3 (fun l=>iE (m.g l)) (iE (qy v)) m.s.gn j)):=ams.congr (fun X W=>(Fx.uP (k:=k) (by omega) X W).trans (bL (fun i N q _=>Fx.yJ ej (by omega) i N q) X W));refine Ln<|bS<|Wl<|aT M<|Lv (au j) gH<|av (au j)<|Ln<|bQ<|gF ⟨j,by omega,(KQ ej hgt (by unfold EY; rw[f_ M8,f_ c139]; cases decide (v.o<m.g j 0) <;> rfl)),S,h6,h7,Fx.ic,amu,amv,amw,amx,amy,amA,amB,amC,SS⟩ ?_
     show(intOf (au j)).toNat<_;simp only[M,intOf]; omega
    refine Qv aF (fun d b=>mX c139)<|aW aF<|aW aF<|aW aF<|Qn ?_;rintro _ ⟨P,rfl⟩;obtain⟨wq3,Fb⟩ : ∃ d,d=World.drewN L P:=⟨_,rfl⟩;rw[<- Fb];have s21:Stp L.heap.size L wq3:=(by rw[Fb]; exact Sb (jM L P));have⟨amD,amE,amF,amG,amH,amI,amJ,amK⟩:=ng s21.old BS ES BU Fa ET zU BX AY;have SV:=eZ s21.old b17 G;clear Fb;refine sN<|aK<|Wx<|cu<|gL<|cB ?_;exact vK ⟨k,hk,(Fx.pF hk hgt (.inr (fun j2 e=>by rw[show j2=j by omega]; unfold EY; rw[g_ UW,g_ c139,J_]; rfl))),S,h6,h7,(M.trans Fx.ic),amD,amE,amF,amG,amH,amI,amJ,amK,SV⟩
   refine Qv aF (fun d b=>fQ M8)<|aW aF<|aP<|aP<|aP<|aP<|aP<|aP<|aP<|aP<|aP<|aP<|aP<|aP<|aP<|aW aF<|aW aF<|aW aF<|Qn ?_;rintro _ ⟨P,rfl⟩;obtain⟨wq4,Fe⟩ : ∃ d,d=World.drewN L P:=⟨_,rfl⟩;rw[<- Fe];have s22:Stp L.heap.size L wq4:=(by rw[Fe]; exact Sb (jM L P));have⟨amL,amM,amN,amO,amP,amQ,amR,amS⟩:=ng s22.old BS ES BU Fa ET zU BX AY;have b25:=eZ s22.old b17 G;clear Fe;refine sN<|aK<|Wx<|cu<|gL<|cB ?_;exact vK ⟨k,hk,(Fx.pF hk hgt (.inr (fun j2 e=>by rw[show j2=j by omega]; unfold EY; rw[g_ UW,g_ M8]; rfl))),S,h6,h7,(M.trans Fx.ic),amL,amM,amN,amO,amP,amQ,amR,amS,b25⟩
  refine Qv aF (fun d b=>mX c97)<|aW aF<|aP<|aP<|aP<|aP<|aP<|aP<|aP<|aP<|aP<|aP<|aP<|aP<|aP<|aP<|aP<|aP<|aP<|aP<|aP<|aP<|aP<|aP<|aP ?_;refine aP<|aP<|aP<|aP<|aP<|aP<|aP<|aP<|aP<|aP<|aP<|aP<|aP<|aP<|aP<|aP<|aP<|aP<|aP<|aP<|aW aF<|Qn ?_;rintro _ ⟨P,rfl⟩;obtain⟨wq5,M9⟩ : ∃ d,d=World.drewN L P:=⟨_,rfl⟩;rw[<- M9];have s23:Stp L.heap.size L wq5:=by rw[M9]; exact Sb (jM L P)
  have⟨amT,amU,amV,amW,amX,amY,amZ,ana⟩:=ng s23.old BS ES BU Fa ET zU BX AY;have b26:=eZ s23.old b17 G;clear M9;refine sN<|aK<|Wx<|cu<|gL<|cB ?_;exact vK ⟨k,hk,(Fx.pF hk hgt (.inl (by omega))),S,h6,h7,(M.trans Fx.ic),amT,amU,amV,amW,amX,amY,amZ,ana,b26⟩
 rintro f4 GN ⟨k,hk,ek,h9,h10,h11,h12,anb,anc,ane,anf,ang,anh,ani,anj,b27⟩;refine Ws ?_;refine jV [0,1,2,3,5,4,6,7,8] [0,0,0,0,4,0,4,0,3] [(8,4,[4]),(8,6,[6])] fun wt6 Kn agl => ?_;have⟨ank,anl,anm,ano,anp,ahb,ahc,acN⟩:=ng Kn anb anc ane anf ang anh ani anj;have b28:=eZ Kn b27 G;refine bW h9<|bf (pt p)<|bf (pt p)<|bf (pf p 19)<|bW h12<|Rs (bM F (m.s.gn+1) C) (aL ahc.aH 19 (Fx.lM (by omega))) ?_;refine Rs (.agg (aA 5 (iE (qy v)))) (fP ahb.aH 0 (ha:=h11)) ?_;refine Rp (pf F (5*k)) (fun _=>dh 5)<|gQ<|zJ acN (5*k) (h1:=(fun j _=>tZ _ j)) fun Td anq Z8 z9 => ?_;have AV:=gZ Z8 acN.J2;have⟨anr,ant,ahd,anu,anv⟩:=sj AV ank anl anm ano anp;have anw:=ahb.cZ Z8 (by omega);have anx:=kF AV ahc;have b29:=Z8.below b28 (m_ G b28.size) acN.blk.1;have anz:Fx.Own Td B 66 5 (bM F (m.s.gn+1) C) (m.s.gn+1) (flat 5 (Fx.IJ (fun l=>iE (m.g l)) k (iE (qy v)))):=anq.congr (fun X W=>(Fx.uP (k:=k) (by omega) X W).trans (bL (fun i N q _=>Fx.tN (by omega) i N q) X W));refine Ln<|bS<|Ws ?_;have anA:Fx.Own Td B 28 1 (.slice (m.ra a) (m.rn a) (m.rc a)) (m.rn a) (rv .u64 (m.rq a)):=ahd.1 a ha;have bra:=O.br a ha;refine Aw [0,1,4,5,8,9,12,16,17,2,3,6,7,10,11,13,14,15,18,19] [0,0,1,0,0,0,1,0,0,0,0,1,0,4,2,2,0,0,0,3] (iU [28]) vX Fx.iU.trans (fM := [(19,2,[2]),(19,6,[6]),(19,11,[11]),(14,13,[13]),(15,13,[14,13]),(19,13,[13]),(15,14,[14]),(18,14,[14]),(19,14,[14]),(18,15,[15]),(19,15,[15])]) (by kernel_rfl) (by kernel_rfl) (by kernel_rfl) (by kernel_rfl) (by kernel_rfl) fun wt7 Ko agn => ?_;have⟨ahe,anB,anC,Yt,anD,anE,acO,ahf,ahg⟩:=BD Ko anr ant ahd anu anv anw anx anz anA;have b30:=eZ Ko b29 G;refine bW h9<|Rp (pt I) (fun _=>je h10 0)<|bW h9<|Rp (pt I) (fun _=>je h10 0)<|bf (pt p)<|bf (pf p 21)<|Rp (pf I 12) (fun _=>je h10 12)<|bf (pt p)<|bf (pf p 21)<|Rd (v:=au v.o) (by rfl) (by rfl) (vX _) (fun d b=>bF (x:=bU v) rfl rfl (by kernel_rfl) (Yt.kM b (by decide)).aH (i:=0) (by omega) (by omega) rfl) ?_;refine Rp (au a) (fun _=>gH)<|Rd (v:=au v.o) (by rfl) (by rfl) (vX _) (fun d b=>bF (x:=bU v) rfl rfl (by kernel_rfl) (Yt.kM b (by decide)).aH (i:=0) (by omega) (by omega) rfl) ?_;refine Rp (au a) (fun _=>gH)<|Rp (pf p (a+21)) (fun _=>jC 6 1)<|Rd (v := .slice (m.ra a) (m.rn a) (m.rc a)) (by rfl) (by rfl) (vX _) (fun d b=>bF (x:=dB (mQ m) 19 (bM F (m.s.gn+1) C)) rfl rfl (by kernel_rfl) (acO.kM b (by decide)).aH (i:=a+21) (by omega) (by omega) (Fx.Ar (by omega) (wJ _ (by omega)))) ?_;refine Rs (aD v.req) (aL Yt.aH 12) ?_;refine BA<|xI (vs := [(0,aD v.req)]) (s:=1) (zc:=rv .u64 (fun _=>0)) (y:=bI (fun j=>(rv .u64 (fun _=>0)) (j % 1)) (0*1) 1 (fun _=>aD v.req)) (by rfl) rfl rfl Tryz.underlying63 (by kernel_rfl) (by rfl) (by rfl) (by kernel_rfl) (by rw[aZ (off:=0*1) (s:=1) (y:=fun _=>aD v.req) rfl (cells_one (by rfl)) (by rfl)]; rfl) rfl fun g6 Qd eg6 ahh s27 z10 => ?_;have⟨anF,anG,anH,anI,anJ,anK,acQ⟩:=jQ s27.old ahe anB anC anD acO ahf ahg;have b31:=eZ s27.old b30 G;have lg6:=iV eg6 b30.size;have⟨ajD,ajE,ajF,ajG,ajH⟩:=Dq eg6 ahe.lt Yt.lt anE.lt acO.lt ahf.lt;have ajI:(.slice (m.ra a) (m.rn a) (m.rc a):Value).ownBlock≠some g6:=by rw[eg6]; exact ahg.jm (A_ _)
 have tg6:=ahh.lt;refine Ln ⟨Fx.iU.of_below s27.old,?_⟩;refine BA<|yG (B:=B) (s:=1) (bytes:=8) (k:=(m.rn a)) (m:=1) (v := .slice (m.ra a) (m.rn a) (m.rc a)) (x:=rv .u64 (m.rq a)) (by rfl) rfl rfl rfl Tryz.underlying63 (by kernel_rfl) (by kernel_rfl) rfl rfl acQ ahh.aH (wL (fun _=>rfl)) (by omega) (by omega) (by omega) (m_ G b31.size) fun g7 cap2 Tg ho2 hg2 MW hlt2 => ?_;have EL:=yI hg2 acQ;have⟨anL,anM,anN,ahi,anO⟩:=sj EL anF anG anI anJ anK;have anP:Fx.Own Tg B 28 1 (.slice (some ⟨g7,0,none⟩) ((m.rn a)+1) cap2) ((m.rn a)+1) (rv .u64 (aI (m.rq a) (m.rn a) v.req)):=(ho2.congr (fun j hj=>OO j hj));have b32:Below B w Tg:=yF b31 hg2 (m_ G b31.size) (fun q hq=>(acQ.ge hq).1);have anQ:wK Tg B 6 { m with ra:=aI m.ra a (some ⟨g7,0,none⟩),rn:=aI m.rn a (m.rn a+1),rc:=aI m.rc a cap2,rq:=aI m.rq a (aI (m.rq a) (m.rn a) v.req) }:=wK.app anH ha rfl rfl rfl rfl anP hg2 MW;refine Ln ⟨EL,?_⟩;refine Rp (pf p (a+21)) (fun _=>jC 6 1)<|gQ<|jd ahi (a+21) (.slice (some ⟨g7,0,none⟩) ((m.rn a)+1) (cap2)) fun w21 anR s28 z11 => ?_;have acR:=gZ s28 ahi.ty;have⟨anS,anT,anU,anV,anW⟩:=sj acR anL anM anN anO anQ;have b33:=s28.below b32 (m_ G b32.size) (by omega);refine Ln<|bS<|ay<|av (au 0)<|aC<|Wr<|aJ (au 0) ?_;have eN:aO v=a:=by unfold aO; omega
 have ne1 : ¬ 0<=m.core.kY (aO v) v.req:=by rw[eN]; exact j_ c17
 have ne2 : ¬ eP m.core.t m.core.tn v.node=0:=fun e=>c27 (by rw[show K=0 from Xn.trans e]; rfl);have ew:ny m.core v=dw (fun x=>bC x v.o v.aS) (ow m.core v.node) m.R K:=by unfold ny; rw[show eP m.core.t m.core.tn v.node=K from Xn.symm]; rfl
 have Y:iW m.core v=0:=by unfold iW; rw[b_ ne1,b_ ne2,ew,hRK]
 have eW:ny m.core v=(Rk,0):=ew.trans hRK;have anX:Fx.Own w21 B 66 5 (bM F (m.s.gn+1) C) (m.s.gn+1) (flat 5 fun l=>iE (cO m.g k (qy v) l)):=by rw[<- Yj]; exact anV
 refine⟨oO Y.symm,b33,fun _=>⟨{ m with s := { m.s with ga:=some ⟨F,0,none⟩,gn:=m.s.gn+1,gc:=C },R:=Rk,g:=cO m.g k (qy v),ra:=aI m.ra a (some ⟨g7,0,none⟩),rn:=aI m.rn a (m.rn a+1),rc:=aI m.rc a cap2,rq:=aI m.rq a (aI (m.rq a) (m.rn a) v.req) },?_,?_⟩⟩
 ·unfold mh qL; rw[eW,eN]; rw[show down (fun i=>EY v (m.core.g i)) m.core.gn=k from ek.symm]; rfl
 exact { c:=anR.to ((M_ (fun z=>dB z (a+21) _) (MZ m _ _ _)).trans (KL _ rfl _ _ _)),n:=anU,g:=anX,tc:=anS,t:=anT,r:=anW,pB:=Uv,tB:=Dz,bn:=bn,bg:=(by show m.s.gn+1<=1000000; omega),bt:=bt,br:=(fun i N=>by show aI m.rn a (m.rn a+1) i<=1000000; have:=brr i N; have:=brr a ha; unfold aI; split <;> omega) }
namespace Rt
def zB(L:fZ)(v:EvM):Nat:=(L.grant v.o v.of).toNat
def mo(L:fZ)(v:EvM):(Nat->Nat->Int) × Int:=dw (fun x=>bG x v.o (L.g (zB L v) 3)) (ow L (L.g (zB L v) 2)) L.R (eP L.t L.tn (L.g (zB L v) 2))
def iM(L:fZ)(v:EvM):Int:=if 0<=L.kY (aO v) v.req then 14 else if L.grant v.o v.of<0\/L.g (zB L v) 4≠0 then 12 else(mo L v).2
def kJ(L:fZ)(v:EvM):fZ:=qL { L with R:=(mo L v).1,g:=aI L.g (zB L v) (aI (L.g (zB L v)) 4 v.req) } (aO v) v.req
theorem UZ{m:lS}{o r:Int}(h : ¬ m.grant o r<0) : ∃ q:Nat,q<m.s.gn/\m.grant o r=(q:Int)/\m.g q 0=o/\m.g q 1=r:=by
 rcases jg (fun i=>decide (m.g i 0=o)&&decide (m.g i 1=r)) m.s.gn with ⟨q,b,e,a⟩|⟨e,_⟩
 ·rw[T_]at a;exact⟨q,b,e,h_ a.1,h_ a.2⟩
 unfold lS.grant at h; omega
theorem QI{n q:Nat}{g:Nat->Nat->Int}{r:Int} : ∀ i,i<n -> ∀ j,j<5->Fx.qC (fun a=>iE (g a)) q (dB (iE (g q)) 4 (aD r)) i j=iE (aI g q (aI (g q) 4 r) i) j:=fun i _ j b=>by
 unfold Fx.qC;by_cases h:i=q
 ·subst h;rw[d_ rfl];unfold aI dB iE;rw[d_ rfl]
  rcases j with _|_|_|_|_|j <;> first|rfl|omega
 ·rw[b_ h]; unfold aI; rw[b_ h]
end Rt
set_option maxRecDepth 20000 in
set_option maxHeartbeats 2000000 in
theorem Yu(m:lS)(B p a:Nat)(v:EvM)(w:World)(H:vP w B p m)(F:B<=w.heap.size)(ha:a<6)(ho:v.o=(a:Int)+1)(bgg:m.s.gn<=900000)(brr : ∀ i,i<6->m.rn i<=900000)(hTN : ∀ x,m.node x=bE m.t m.tn x)(hDx : ∀ x,∃ D,D<=1000/\bE m.t m.tn (bD m.t m.tn D x)<0) :
 Calls Tryz.prog 80 #[(pt p),.agg (aA 14 (bU v))] w fun e w'=>e = .returned (au (iM m.core v))/\Below B w w'/\(iM m.core v=0 -> ∃ m',m'.core=kJ m.core v/\vP w' B p m'):=by
 have Ur:=H.c;have hLn:=H.n;have hLg:=H.g;have Ut:=H.tc;have Uu:=H.t;have hLr:=H.r;have Uv:=H.pB;have Dz:=H.tB;have bn:=H.bn;have bg:=H.bg;have bt:=H.bt;have lpp:p<w.heap.size:=Ur.lt;have Ru:m.tb<w.heap.size:=Ut.lt;refine Kent Tryz.func80 128 ?_;refine ay<|qD fun G w1 lK m1 s1 z1 => ?_;have⟨m2,m3,m4,m5,m6,m7⟩:=um s1.old Ur hLn hLg Ut Uu hLr;have b1:=eZ s1.old (Below.refl B w) F;have sU:=iV lK (Below.refl B w).size;have⟨nP,xB⟩:=vY lK Ur.lt Ut.lt;have uq:=m1.lt;refine av (au 0)<|aC<|Ws<|ay<|av (pt p)<|av (pt G)<|Lv (au v.o) (aL m1.aH 0)<|av (pf G 12)<|Lv (aD v.req) (aL m1.aH 12) ?_;have M6:CS w1 p m := { c:=m2.aH,an:=m3.arr,ag:=m4.arr,tc:=m5.aH,at2:=m6.arr,ar:=fun i N=>(m7.1 i N).arr,bn:=(by show m.s.nn<=1000000; omega),bg:=bg,bt:=(by show m.tn<=1000000; omega),br:=H.br };by_cases V:(decide (0<=m.kY a v.req))=true
 ·refine dZ (A8 m p a v.o v.req _ M6 ha ho) aG (by rw[V]) ?_;intro w2 hb1;have b2:=eZ hb1 b1 F;refine aC<|aN<|ay<|av (au 14)<|aC<|Wr<|sR<|aJ (au 14) ?_;have O:aO v=a:=by unfold aO; omega
  have J:iM m.core v=14:=by unfold iM; rw[O]; exact d_ (h_ V)
  exact⟨oO J.symm,b2,fun P=>by rw[J]at P; cases P⟩
 rw[U_]at V;refine dZ (A8 m p a v.o v.req _ M6 ha ho) aF (by rw[V]) ?_;intro w3 hb2;have⟨m15,m16,m17,m18,m19,m20,m21⟩:=jQ hb2 m2 m3 m4 m5 m6 m7 m1;have b3:=eZ hb2 b1 F;refine aC<|aK<|Wk<|sN<|ay<|av (pt p)<|av (pt G)<|Lv (au v.o) (aL m21.aH 0)<|av (pf G 13)<|Lv (aD v.of) (aL m21.aH 13) ?_;have UK:CS w3 p m := { c:=m15.aH,an:=m16.arr,ag:=m17.arr,tc:=m18.aH,at2:=m19.arr,ar:=fun i N=>(m20.1 i N).arr,bn:=(by show m.s.nn<=1000000; omega),bg:=bg,bt:=(by show m.tn<=1000000; omega),br:=H.br };refine dZ (X8 m p v.o v.of _ UK) _ rfl ?_;intro w4 hb3;have⟨m22,m23,m24,nk,og,oh,om⟩:=jQ hb3 m15 m16 m17 m18 m19 m20 m21;have b4:=eZ hb3 b3 F;refine av (au (m.grant v.o v.of))<|aC<|Ws<|ay<|av (au (m.grant v.o v.of)) ?_;by_cases ab:(m.grant v.o v.of)<0
 ·refine Lv aG (gu ab)<|av aG<|bX<|bX<|bX<|bX<|bX<|bX<|bX<|bX<|bX<|bX<|av aG<|aC<|aN<|ay<|av (au 12)<|aC<|Wr<|sR<|aJ (au 12) ?_;have O:aO v=a:=by unfold aO; omega
  have aa : ¬ 0<=m.core.kY (aO v) v.req:=by rw[O]; exact j_ V
  have J:iM m.core v=12:=by unfold iM; rw[b_ aa]; exact d_ (.inl ab)
  exact⟨oO J.symm,b4,fun P=>by rw[J]at P; cases P⟩
 obtain⟨b,hkg,ekg,_,_⟩:=UZ ab;have ac:zB m.core v=b:=by show(m.grant v.o v.of).toNat=b; rw[ekg]; rfl
 refine Lv aF (gy ab)<|av aF<|av (pt p)<|av (pt p)<|av (pt p)<|av (pf p 19)<|Lv (.slice m.s.ga (m.s.gn) (m.s.gc)) (aL m22.aH 19)<|aT (M_ (Value.int .i64) ekg) ?_;obtain⟨af,eq1⟩:=m24.addr (by omega);have nI:Fx.Own w4 B 66 5 (bM af m.s.gn m.s.gc) m.s.gn (I8 m):=m24.dL (M_ (fun q=>Value.slice q m.s.gn m.s.gc) eq1);refine Lv (pf af (5*b)) (dh 5 (hx:=(rfl.trans (M_ (fun q=>Value.slice q (m.s.gn) (m.s.gc)) eq1))))<|av (pf af (5*b+4))<|Lv (aD ((m.g b) 4)) (aL nI.aH (5*b+4) (Fx.fO (k:=b) (j:=4) (by omega) (by omega) rfl)) ?_;by_cases ae:((m.g b) 4)=0
 ·refine Lv aF (jP ae)<|av aF<|aC<|aK<|Wk<|sN<|Ws ?_;obtain⟨D,hD2,hD⟩:=hDx (m.g b 2);refine jV [0,1,2,4,5,6,7,9,3,8,10,11,12,13,14] [0,0,0,4,0,0,0,0,4,0,0,0,4,3,0] [(13,3,[3]),(13,8,[12,11,10,8]),(13,12,[12]),(14,13,[13])] fun pQ dR iG => ?_;have⟨oF,lX,m32,pR,nQ,oq,pU⟩:=jQ dR m22 m23 nk og oh om nI;have b5:=eZ dR b4 F;refine bf (pt p)<|bf (pt p)<|bf (pf p 20)<|bf (pt p)<|bf (pt p)<|bf (pt p)<|bf (pf p 19)<|bW (M_ (Value.int .i64) ekg)<|Rs (pt m.tb) (aL oF.aH 20) ?_;refine Rs (.slice m.s.ga (m.s.gn) (m.s.gc)) (aL oF.aH 19) ?_;refine Rp (pf af (5*b)) (fun _=>dh 5 (hx:=(rfl.trans (M_ (fun q=>Value.slice q (m.s.gn) (m.s.gc)) eq1))))<|bf (pf af (5*b+2))<|Rs (aD ((m.g b) 2)) (aL pU.aH (5*b+2) (Fx.fO (k:=b) (j:=2) (by omega) (by omega) rfl)) ?_;refine gQ<|mE (Ja m.tb m.ta m.tn m.tc m.t (m.g b 2) D _ (tY m32 pR bt) hD hD2) ?_;rintro e w5 ⟨K,vv,he,hown,sD,hK1,hb4⟩;obtain⟨U,E,rfl⟩:=hown.val;refine⟨.slice U K E,he,?_⟩;clear he;have Xn:K=eP m.t m.tn (m.g b 2):=sM sD hK1 hD hD2;have hKD:K<=1000:=by rw[Xn]; exact D7 _ _
  have⟨qQ,qR,oP,rQ,nJ,mO,nK⟩:=jQ hb4 oF lX m32 pR nQ oq pU;have b6:=eZ hb4 b5 F;refine Ln<|bf (.slice U (K) (E))<|bS<|Ws<|ay<|av (au 0)<|aC<|Wb ?_;have sZ:Fx.Own w5 B 66 5 (.slice m.s.ga (m.s.gn) (m.s.gc)) m.s.gn (I8 m):=nK.dL (M_ (fun q=>Value.slice q m.s.gn m.s.gc) eq1.symm);refine Wo (fun f S => ∃ k:Nat,∃ Rk:Nat->Nat->Int,k<=K/\dw (fun x=>bG x v.o (m.g b 3)) (ow m.core (m.g b 2)) m.R k=(Rk,0)/\f 0=(pt p)/\f 3=(pt G)/\f 6 = .slice U (K) (E)/\f 7=au (k:Int)/\f 5=au (b:Int)/\aQ S p 27 (mQ m) 71/\aQ S m.tb 1 (fun _ => .slice m.ta m.tn m.tc) 123/\Fx.Own S B 128 2 (.slice m.ta (m.tn) (m.tc)) m.tn (Qp m.t)/\wK S B 6 m/\aQ S G 14 (bU v) 32/\Fx.Own S B 66 5 (.slice m.s.ga (m.s.gn) (m.s.gc)) m.s.gn (I8 m)/\Fx.Own S pQ.heap.size 28 1 (.slice U (K) (E)) K (rv .u64 (fun i=>bD m.t m.tn i (m.g b 2)))/\Fx.Own S B 61 56 (.slice m.s.na (m.s.nn) (m.s.nc)) m.s.nn (flat 56 (fun C=>ji (m.id C) (m.par C) (Rk C)))/\Below B w S) (fun f _=>(K-(intOf (f 7)).toNat)) ⟨0,m.R,by omega,rfl,(by rfl),(by rfl),(by rfl),Fx.ic,((M_ (Value.int .i64) ekg).trans Fx.ic),qQ,oP,rQ,nJ,mO,sZ,hown,qR,b6⟩ ?_;rintro f1 w6 ⟨k,Rk,hk,hRk,Y,Q,h3,h4,h5,rR,nR,sw,vL,rA,qU,uU,tV,b7⟩;refine Ws<|ay<|aT h4<|aT h3<|av (au K) ?_;by_cases c54:(k:Int)<(K:Int)
  ·refine Lv aG (gu c54)<|aC<|aN<|Wk<|sN<|Ws<|Wb<|Ws ?_;obtain⟨q,hq,eq0,_⟩:=D8 (m:=m) (x:=bD m.t m.tn k (m.g b 2)) (by rw[hTN]; exact sD k (by omega));have ex1:ow m.core (m.g b 2) k=q:=(by show(gX (fun i=>decide (m.id i=bD m.t m.tn k (m.g b 2))) m.s.nn).toNat=q; rw[eq0]; rfl);refine Wl<|aT Y<|aT h3<|aT h4 ?_;obtain⟨JO,Ji⟩:=uU.addr (by omega);have rD:Fx.Own w6 pQ.heap.size 28 1 (bM JO K E) K (rv .u64 (fun i=>bD m.t m.tn i (m.g b 2))):=uU.dL (M_ (fun q=>Value.slice q K E) Ji);refine Lv (pf JO k) (dh 1 (hx:=(rfl.trans (M_ (fun q=>Value.slice q (K) (E)) Ji))))<|Lv (aD ((fun i=>bD m.t m.tn i (m.g b 2)) k)) (aL rD.aH k) ?_;have rE:Fx.Own w6 pQ.heap.size 28 1 (.slice U (K) (E)) K (rv .u64 (fun i=>bD m.t m.tn i (m.g b 2))):=rD.dL (M_ (fun q=>Value.slice q K E) Ji.symm);have anY:CS w6 p { m with R:=Rk } := { c:=rR.aH,an:=tV.arr,ag:=qU.arr,tc:=nR.aH,at2:=sw.arr,ar:=fun i N=>(vL.1 i N).arr,bn:=(by show m.s.nn<=1000000; omega),bg:=bg,bt:=(by show m.tn<=1000000; omega),br:=H.br };refine dZ ((I9 { m with R:=Rk } p (bD m.t m.tn k (m.g b 2)) _ anY).mono (fun e w2 Q=>(⟨Q.1.trans (oO eq0),Q.2⟩:e = .returned (au (q:Int))/\_))) _ rfl ?_;intro w7 hb5;have⟨ad,qV,qw,qx,xD,qF,vM,oo⟩:=ng hb5 rR nR sw vL rA qU tV rE;have b8:=eZ hb5 b7 F;refine av (au q)<|aC<|Ws ?_;obtain⟨M,eq3⟩:=vM.addr (by omega);have tC:Fx.Own w7 B 61 56 (bM M m.s.nn m.s.nc) m.s.nn (flat 56 (fun C=>ji (m.id C) (m.par C) (Rk C))):=vM.dL (M_ (fun q=>Value.slice q m.s.nn m.s.nc) eq3);obtain⟨W,Na⟩:=qF.addr (by omega);have m64:Fx.Own w7 B 66 5 (bM W m.s.gn m.s.gc) m.s.gn (I8 m):=qF.dL (M_ (fun q=>Value.slice q m.s.gn m.s.gc) Na);refine qA (T:=59) (T':=59) (a := .tmp 9) (v := .tmp 85) (m:=54) (z:=rv .i64 (fun _=>0)) (y:=rv .i64 ((bG (Rk q) v.o ((m.g b) 3)).1)) (u := .agg (aA 54 (rv .i64 ((bG (Rk q) v.o ((m.g b) 3)).1)))) 24 25 (List.replicate 27 (0,2,[],[])) #[(pt p),(pt p),(pt p),(pf p 18),.slice m.s.na (m.s.nn) (m.s.nc),au (q:Int),(pf M (56*q)),(pf M (56*q+2)),.agg (aA 54 (rv .i64 (Rk q))),(pt G),au v.o,(pt p),(pt p),(pt p),(pf p 19),.slice m.s.ga (m.s.gn) (m.s.gc),au (b:Int),(pf W (5*b)),(pf W (5*b+3)),au ((m.g b) 3),.tuple #[.agg (aA 54 (rv .i64 ((bG (Rk q) v.o ((m.g b) 3)).1))),au ((bG (Rk q) v.o ((m.g b) 3)).2)],.tuple #[.agg (aA 54 (rv .i64 ((bG (Rk q) v.o ((m.g b) 3)).1))),au ((bG (Rk q) v.o ((m.g b) 3)).2)],.agg (aA 54 (rv .i64 ((bG (Rk q) v.o ((m.g b) 3)).1))),au ((bG (Rk q) v.o ((m.g b) 3)).2),undef,undef,au ((bG (Rk q) v.o ((m.g b) 3)).2)] (by kernel_rfl) (by kernel_rfl) (by kernel_rfl) (by kernel_rfl) (by kernel_rfl) (by kernel_rfl) rfl (by kernel_rfl) rfl rfl (by kernel_rfl) (fun L=>(show ev _ (.tmp 9)=(pt L)from by kernel_rfl)) (fun L=>(show ev _ (.tmp 85) = .agg (aA 54 (rv .i64 ((bG (Rk q) v.o ((m.g b) 3)).1)))from by kernel_rfl)) (bJ _ _) (fun _ _=>rfl) (by kernel_rfl) (fun L => ?_) ?_
   ·refine⟨?_,?_,?_,?_,?_,?_,?_,?_,?_,?_,?_,?_,?_,?_,?_,?_,?_,?_,?_,?_,?_,?_,?_,?_,?_,?_,?_,trivial⟩
    ·exact .inr (.inr (nC (pt p) fun I A=>dY rfl ((aY (by kernel_rfl)).trans Y)))
    ·exact .inr (.inr oD)
    ·exact .inr (.inr oD)
    ·exact .inr (.inr oD)
    ·exact .inr (.inr (nC (.slice m.s.na (m.s.nn) (m.s.nc)) fun I A=>bF (x:=mQ m) rfl (show ev _ (.tmp 67)=(pf p 18)from by kernel_rfl) (by kernel_rfl) (ad.aH.below A (by have:=ad.lt; omega)) (i:=18) (by omega) (by omega) rfl))
    ·exact .inr (.inr oD)
    ·exact .inr (.inr (nC (pf M (56*q)) fun I A=>dO rfl ((show ev _ (.tmp 68) = .slice m.s.na (m.s.nn) (m.s.nc)from by kernel_rfl).trans (M_ (fun q=>Value.slice q (m.s.nn) (m.s.nc)) eq3)) (show ev _ (.tmp 69)=au (q:Int)from by kernel_rfl) Tryz.underlying50 (s:=56) (by kernel_rfl) (by omega) (by omega) (by omega)))
    ·exact .inr (.inr oD)
    ·exact .inr (.inr (nC (.agg (aA 54 (rv .i64 (Rk q)))) fun I A=>eU (x:=flat 56 (fun C=>ji (m.id C) (m.par C) (Rk C))) (y:=rv .i64 (Rk q)) rfl (show ev _ (.tmp 71)=(pf M (56*q+2))from by kernel_rfl) (by kernel_rfl) (by kernel_rfl) (tC.aH.below A (by have:=tC.lt; omega)) (i:=56*q+2) (by omega) (by omega) (fun jq hjq=>(Fx.jB (k:=q) (j:=2+jq) (by omega) (by omega)).trans ((fun jq _=>DZ _ _ _ jq) jq hjq))))
    ·exact .inr (.inr (nC (pt G) fun I A=>fJ rfl ((aY (by kernel_rfl)).trans Q) Tryz.underlying32 rfl (s:=1) (by kernel_rfl) rfl rfl))
    ·exact .inr (.inr (nC (au v.o) fun I A=>bF (x:=bU v) rfl (show ev _ (.tmp 73)=(pt G)from by kernel_rfl) (by kernel_rfl) (xD.aH.below A (by have:=xD.lt; omega)) (i:=0) (by omega) (by omega) rfl))
    ·exact .inr (.inr (nC (pt p) fun I A=>dY rfl ((aY (by kernel_rfl)).trans Y)))
    ·exact .inr (.inr oD)
    ·exact .inr (.inr oD)
    ·exact .inr (.inr oD)
    ·exact .inr (.inr (nC (.slice m.s.ga (m.s.gn) (m.s.gc)) fun I A=>bF (x:=mQ m) rfl (show ev _ (.tmp 78)=(pf p 19)from by kernel_rfl) (by kernel_rfl) (ad.aH.below A (by have:=ad.lt; omega)) (i:=19) (by omega) (by omega) rfl))
    ·exact .inr (.inr (nC (au b) fun I A=>dY rfl ((aY (by kernel_rfl)).trans h5)))
    ·exact .inr (.inr (nC (pf W (5*b)) fun I A=>dO rfl ((show ev _ (.tmp 79) = .slice m.s.ga (m.s.gn) (m.s.gc)from by kernel_rfl).trans (M_ (fun q=>Value.slice q (m.s.gn) (m.s.gc)) Na)) (show ev _ (.tmp 80)=au (b:Int)from by kernel_rfl) Tryz.underlying51 (s:=5) (by kernel_rfl) (by omega) (by omega) (by omega)))
    ·exact .inr (.inr oD)
    ·exact .inr (.inr (nC (au ((m.g b) 3)) fun I A=>bF (x:=I8 m) rfl (show ev _ (.tmp 82)=(pf W (5*b+3))from by kernel_rfl) (by kernel_rfl) (m64.aH.below A (by have:=m64.lt; omega)) (i:=5*b+3) (by omega) (by omega) (Fx.fO (k:=b) (j:=3) (by omega) (by omega) rfl)))
    ·exact .inr (.inr (Fx.Ep (v := .tuple #[.agg (aA 54 (rv .i64 ((bG (Rk q) v.o ((m.g b) 3)).1))),au ((bG (Rk q) v.o ((m.g b) 3)).2)]) (by kernel_rfl) (by kernel_rfl) (Fx.qbC (fun I A=>rC (args := [.agg (aA 54 (rv .i64 (Rk q))),au v.o,au ((m.g b) 3)]) rfl (Fx.Ob (show ev _ (.tmp 72) = .agg (aA 54 (rv .i64 (Rk q)))from by kernel_rfl) (show ev _ (.tmp 74)=au v.o from by kernel_rfl) (show ev _ (.tmp 83)=au ((m.g b) 3)from by kernel_rfl)) Tryz.func111 rfl rfl) (fun I A=>(Yl (Rk q) v.o ((m.g b) 3) _).mono fun e v2 h=>⟨h.1,h.2⟩))))
    ·exact .inr (.inr oD)
    ·exact .inr (.inr oD)
    ·exact .inr (.inr oD)
    ·exact .inl rfl
    ·exact .inr (.inl rfl)
    exact .inr (.inr oD)
   rintro L w8 l d Z wB hb6;have acT:p≠L:=u_ (n_ (ad.lt) Z);have acU:m.tb≠L:=u_ (n_ (qV.lt) Z);have acV:G≠L:=u_ (n_ (xD.lt) Z);have acW:M≠L:=u_ (n_ (tC.lt) Z);have anZ:W≠L:=u_ (n_ (m64.lt) Z);have⟨vN,wC,wD,tF,uI,uV,xq,vO⟩:=ng hb6 ad qV qw qx xD oo tC m64;have b9:=eZ hb6 b8 F;have Z:w.heap.size<=L:=m_ b8.size Z;have zy:=wB.lt;have q1:l 0=(pt p):=(by rw[d]; exact(aY (by kernel_rfl)).trans Y);have q2:l 3=(pt G):=(by rw[d]; exact(aY (by kernel_rfl)).trans Q);have q3:l 6 = .slice U (K) (E):=(by rw[d]; exact(aY (by kernel_rfl)).trans h3);have q4:l 7=au (k:Int):=(by rw[d]; exact(aY (by kernel_rfl)).trans h4);have q5:l 5=au (b:Int):=(by rw[d]; exact(aY (by kernel_rfl)).trans h5);have q6:l 51=au (k:Int):=(by rw[d]; kernel_rfl);have q7:l 52 = .slice U (K) (E):=(by rw[d]; kernel_rfl);have q8:l 53=au (K:Int):=(by rw[d]; kernel_rfl);have q9:l 54 = .bool true:=(by rw[d]; kernel_rfl);have q10:l 57=(pt p):=(by rw[d]; kernel_rfl);have q11:l 58 = .slice U (K) (E):=(by rw[d]; kernel_rfl);have q12:l 59=au (k:Int):=(by rw[d]; kernel_rfl);have q13:l 60=(pf JO k):=(by rw[d]; kernel_rfl);have q14:l 61=aD ((fun i=>bD m.t m.tn i (m.g b 2)) k):=(by rw[d]; kernel_rfl);have q15:l 62=au (q:Int):=(by rw[d]; kernel_rfl);have q16:l 8=au (q:Int):=(by rw[d]; kernel_rfl);have q17:l 64=(pt p):=(by rw[d]; kernel_rfl);have q18:l 65=(pt p):=(by rw[d]; kernel_rfl);have q19:l 66=(pt p):=(by rw[d]; kernel_rfl);have q20:l 67=(pf p 18):=(by rw[d]; kernel_rfl);have q21:l 68 = .slice m.s.na (m.s.nn) (m.s.nc):=(by rw[d]; kernel_rfl);have q22:l 69=au (q:Int):=(by rw[d]; kernel_rfl);have q23:l 70=(pf M (56*q)):=(by rw[d]; kernel_rfl);have q24:l 71=(pf M (56*q+2)):=(by rw[d]; kernel_rfl);have UL:l 72 = .agg (aA 54 (rv .i64 (Rk q))):=(by rw[d]; kernel_rfl);have UM:l 73=(pt G):=(by rw[d]; kernel_rfl);have UN:l 74=au v.o:=(by rw[d]; kernel_rfl);have UO:l 75=(pt p):=(by rw[d]; kernel_rfl);have UQ:l 76=(pt p):=(by rw[d]; kernel_rfl);have UR:l 77=(pt p):=(by rw[d]; kernel_rfl);have M7:l 78=(pf p 19):=(by rw[d]; kernel_rfl);have q32:l 79 = .slice m.s.ga (m.s.gn) (m.s.gc):=(by rw[d]; kernel_rfl);have Rw:l 80=au (b:Int):=(by rw[d]; kernel_rfl);have QH:l 81=(pf W (5*b)):=(by rw[d]; kernel_rfl);have q35:l 82=(pf W (5*b+3)):=(by rw[d]; kernel_rfl);have q36:l 83=au ((m.g b) 3):=(by rw[d]; kernel_rfl);have Xo:l 84 = .tuple #[.agg (aA 54 (rv .i64 ((bG (Rk q) v.o ((m.g b) 3)).1))),au ((bG (Rk q) v.o ((m.g b) 3)).2)]:=(by rw[d]; kernel_rfl);have q38:l 63 = .tuple #[.agg (aA 54 (rv .i64 ((bG (Rk q) v.o ((m.g b) 3)).1))),au ((bG (Rk q) v.o ((m.g b) 3)).2)]:=(by rw[d]; kernel_rfl);have q39:l 85 = .agg (aA 54 (rv .i64 ((bG (Rk q) v.o ((m.g b) 3)).1))):=(by rw[d]; kernel_rfl);have q40:l 86=au ((bG (Rk q) v.o ((m.g b) 3)).2):=(by rw[d]; kernel_rfl);have q41:l 9=(pt L):=(by rw[d]; kernel_rfl);have q42:l 10=au ((bG (Rk q) v.o ((m.g b) 3)).2):=(by rw[d]; kernel_rfl);clear d;refine sN<|Ws<|ay<|aT q42 ?_;by_cases X:((bG (Rk q) v.o ((m.g b) 3)).2)=0
   ·refine Lv aF (jP X)<|aC<|aK<|Wk<|sN ?_;refine jV [0,1,2,3,5,4,6,7,8,9] [0,0,0,0,4,0,4,0,0,3] [(9,4,[4]),(9,6,[6])] fun CP gJ nO => ?_;have⟨yN,uW,xE,xW,xX,xu,xG,wE,xY⟩:=BD gJ vN wC wD tF uI uV xq vO wB;have b10:=eZ gJ b9 F;refine bW q1<|bf (pt p)<|bf (pt p)<|bf (pf p 18)<|bW q16<|Rs (.slice m.s.na (m.s.nn) (m.s.nc)) (aL yN.aH 18) ?_;refine Rs (.agg (aA 54 (rv .i64 ((bG (Rk q) v.o ((m.g b) 3)).1)))) (fP xY.aH 0 (ha:=q41)) ?_;refine Rp (pf M (56*q)) (fun _=>dh 56 (hx:=(rfl.trans (M_ (fun q=>Value.slice q (m.s.nn) (m.s.nc)) eq3))))<|bf (pf M (56*q+2))<|gQ<|zJ xG (56*q+2) fun w9 zM s10 z2 => ?_;have fV:=gZ s10 xG.J2;have⟨xZ,AO,AP,Aj,zN,zO,AQ⟩:=Sc fV yN uW xE xW xX xu wE;have b11:=s10.below b10 (m_ F b10.size) xG.blk.1;have Dy:Fx.Own w9 B 61 56 (bM M m.s.nn m.s.nc) m.s.nn (flat 56 (fun C=>ji (m.id C) (m.par C) (aI Rk q ((bG (Rk q) v.o ((m.g b) 3)).1) C))):=zM.congr (fun pq hp=>(Fx.Bz (k:=q) (j:=2) (by omega) (by omega) pq hp).trans (bL (fun i N j hj=>BZ i N j hj) pq hp));refine Ln<|Rn<|bQ<|sN<|Wl<|aT q4<|Lv (au ((k:Int)+1)) eO<|av (au ((k:Int)+1))<|Ln ?_;have BO:Fx.Own w9 B 66 5 (.slice m.s.ga (m.s.gn) (m.s.gc)) m.s.gn (I8 m):=AQ.dL (M_ (fun q=>Value.slice q m.s.gn m.s.gc) Na.symm);have CV:Fx.Own w9 B 61 56 (.slice m.s.na (m.s.nn) (m.s.nc)) m.s.nn (flat 56 (fun C=>ji (m.id C) (m.par C) (aI Rk q ((bG (Rk q) v.o ((m.g b) 3)).1) C))):=Dy.dL (M_ (fun q=>Value.slice q m.s.nn m.s.nc) eq3.symm);refine gF ⟨k+1,(aI Rk q (bG (Rk q) v.o (m.g b 3)).1),by omega,(EW hRk ex1 (by first|exact X|exact Classical.not_not.1 X)),q1,q2,q3,Fx.ic,(q5.trans Fx.ic),xZ,AO,AP,Aj,zN,BO,zO,CV,b11⟩ ?_
    show(K-(intOf (au ((k:Int)+1))).toNat)<_;simp only[h4,intOf]; omega
   refine Lv aG (mY X)<|aC<|aN<|ay<|aT q42<|av (au ((bG (Rk q) v.o ((m.g b) 3)).2))<|aC<|Wr<|sR<|bO<|sR<|qm<|bO<|sR<|aJ (au ((bG (Rk q) v.o ((m.g b) 3)).2)) ?_;have O:aO v=a:=(by unfold aO; omega);have aa : ¬ 0<=m.core.kY (aO v) v.req:=(by rw[O]; exact j_ V);have ne2 : ¬ (m.core.grant v.o v.of<0\/m.core.g (zB m.core v) 4≠0):=(by rw[ac]; exact fun h=>h.elim ab (fun h=>h ae));have ew:mo m.core v=dw (fun x=>bG x v.o (m.g b 3)) (ow m.core (m.g b 2)) m.R K:=(by unfold mo; rw[ac,show eP m.core.t m.core.tn (m.core.g b 2)=K from Xn.symm]; rfl);have J:iM m.core v=(bG (Rk q) v.o (m.g b 3)).2:=by
    unfold iM; rw[b_ aa,b_ ne2,ew];have e1:=G7 hRk ex1 X;rw[zV (k:=k+1) (by rw[e1]; exact X) K (by omega)]; exact e1
   exact⟨oO J.symm,b9,fun P=>N_ (J.symm.trans P) X⟩
  refine Lv aF (gy c54)<|aC<|aK<|Wx<|cu<|gL<|cB<|sN<|Ws ?_;have hRK:dw (fun x=>bG x v.o (m.g b 3)) (ow m.core (m.g b 2)) m.R K=(Rk,0):=by rw[show K=k by omega]; exact hRk
  refine jV [0,1,2,3,5,6,4,7,8,9,10] [0,0,0,0,4,0,0,4,0,0,3] [(10,4,[4]),(10,7,[7])] fun Rv lW AJ => ?_;have⟨zS,F5,D6,F6,Gf,wM,wN⟩:=jQ lW rR nR sw vL rA qU tV;have b12:=eZ lW b7 F;refine bW Y<|bf (pt p)<|bf (pt p)<|bf (pf p 19)<|bW h5<|Rp (pf G 12) (fun _=>je Q 12)<|Rs (.slice m.s.ga (m.s.gn) (m.s.gc)) (aL zS.aH 19) ?_;refine Rs (aD v.req) (aL Gf.aH 12) ?_;obtain⟨gq5,eq5⟩:=wM.addr (by omega);have uw:Fx.Own Rv B 66 5 (bM gq5 m.s.gn m.s.gc) m.s.gn (I8 m):=wM.dL (M_ (fun q=>Value.slice q m.s.gn m.s.gc) eq5);refine Rp (pf gq5 (5*b)) (fun _=>dh 5 (hx:=(rfl.trans (M_ (fun q=>Value.slice q (m.s.gn) (m.s.gc)) eq5))))<|bf (pf gq5 (5*b+4))<|gQ<|qp uw (5*b+4) (aD v.req) fun sV pY s12 z3 => ?_;have jJ:=gZ s12 uw.J2;have⟨oZ,qJ,qb,rG,sK,rH⟩:=R9 jJ zS F5 D6 F6 Gf wN;have b13:=s12.below b12 (m_ F b12.size) uw.blk.1;have uy:Fx.Own sV B 66 5 (bM gq5 m.s.gn m.s.gc) m.s.gn (flat 5 (fun C=>iE (aI m.g b (aI (m.g b) 4 v.req) C))):=pY.congr (fun pq hp=>(Fx.Gx (k:=b) (j:=4) (by omega) (by omega) pq hp).trans (bL (fun i N j hj=>QI i N j hj) pq hp));refine Ln<|bS<|Ws ?_;have zf:Fx.Own sV B 66 5 (.slice m.s.ga (m.s.gn) (m.s.gc)) m.s.gn (flat 5 (fun C=>iE (aI m.g b (aI (m.g b) 4 v.req) C))):=uy.dL (M_ (fun q=>Value.slice q m.s.gn m.s.gc) eq5.symm);have vk:Fx.Own sV B 28 1 (.slice (m.ra a) (m.rn a) (m.rc a)) (m.rn a) (rv .u64 (m.rq a)):=rG.1 a ha;have bra:=H.br a ha;refine Aw [0,1,4,5,8,9,12,16,17,2,3,6,7,10,11,13,14,15,18,19] [0,0,1,0,0,0,1,0,0,0,0,1,0,4,2,2,0,0,0,3] (iU [28]) vX Fx.iU.trans (fM := [(19,2,[2]),(19,6,[6]),(19,11,[11]),(14,13,[13]),(15,13,[14,13]),(19,13,[13]),(15,14,[14]),(18,14,[14]),(19,14,[14]),(18,15,[15]),(19,15,[15])]) (by kernel_rfl) (by kernel_rfl) (by kernel_rfl) (by kernel_rfl) (by kernel_rfl) fun wt4 qP GL => ?_;have⟨zh,BP,xH,uz,qK,yh,yj,uD⟩:=ng qP oZ qJ qb rG sK rH zf vk;have b14:=eZ qP b13 F;refine bW Y<|Rp (pt G) (fun _=>je Q 0)<|bW Y<|Rp (pt G) (fun _=>je Q 0)<|bf (pt p)<|bf (pf p 21)<|Rp (pf G 12) (fun _=>je Q 12)<|bf (pt p)<|bf (pf p 21)<|Rd (v:=au v.o) (by rfl) (by rfl) (vX _) (fun I A=>bF (x:=bU v) rfl rfl (by kernel_rfl) (qK.kM A (by decide)).aH (i:=0) (by omega) (by omega) rfl) ?_;refine Rp (au a) (fun _=>gH)<|Rd (v:=au v.o) (by rfl) (by rfl) (vX _) (fun I A=>bF (x:=bU v) rfl rfl (by kernel_rfl) (qK.kM A (by decide)).aH (i:=0) (by omega) (by omega) rfl) ?_;refine Rp (au a) (fun _=>gH)<|Rp (pf p (a+21)) (fun _=>jC 6 1)<|Rd (v := .slice (m.ra a) (m.rn a) (m.rc a)) (by rfl) (by rfl) (vX _) (fun I A=>bF (x:=mQ m) rfl rfl (by kernel_rfl) (zh.kM A (by decide)).aH (i:=a+21) (by omega) (by omega) (wJ _ (by omega))) ?_;refine Rs (aD v.req) (aL qK.aH 12) ?_;refine BA<|xI (vs := [(0,aD v.req)]) (s:=1) (zc:=rv .u64 (fun _=>0)) (y:=bI (fun j=>(rv .u64 (fun _=>0)) (j % 1)) (0*1) 1 (fun _=>aD v.req)) (by rfl) rfl rfl Tryz.underlying63 (by kernel_rfl) (by rfl) (by rfl) (by kernel_rfl) (by rw[aZ (off:=0*1) (s:=1) (y:=fun _=>aD v.req) rfl (cells_one (by rfl)) (by rfl)]; rfl) rfl fun g3 EC zP BQ BJ z4 => ?_;have⟨Jc,EN,AX,EO,BR,zT,Jj⟩:=jQ BJ.old zh BP xH uz yh yj uD;have b15:=eZ BJ.old b14 F;have za:=iV zP b14.size;have⟨ajN,ajO,ajP⟩:=IQ zP zh.lt BP.lt qK.lt;have ajQ:(.slice (m.ra a) (m.rn a) (m.rc a):Value).ownBlock≠some g3:=by rw[zP]; exact uD.jm (A_ _)
  have I4:=BQ.lt;refine Ln ⟨Fx.iU.of_below BJ.old,?_⟩;refine BA<|yG (B:=B) (s:=1) (bytes:=8) (k:=(m.rn a)) (m:=1) (v := .slice (m.ra a) (m.rn a) (m.rc a)) (x:=rv .u64 (m.rq a)) (by rfl) rfl rfl rfl Tryz.underlying63 (by kernel_rfl) (by kernel_rfl) rfl rfl Jj BQ.aH (wL (fun _=>rfl)) (by omega) (by omega) (by omega) (m_ F b15.size) fun g4 E zL ho1 hg1 sS hlt1 => ?_;have qE:=yI hg1 Jj;have⟨EP,ER,Gi,BS,ES⟩:=sj qE Jc EN AX BR zT;have KJ:Fx.Own zL B 28 1 (.slice (some ⟨g4,0,none⟩) ((m.rn a)+1) E) ((m.rn a)+1) (rv .u64 (aI (m.rq a) (m.rn a) v.req)):=(ho1.congr (fun j hj=>OO j hj));have b16:Below B w zL:=yF b15 hg1 (m_ F b15.size) (fun q hq=>(Jj.ge hq).1);have BU:wK zL B 6 { m with ra:=aI m.ra a (some ⟨g4,0,none⟩),rn:=aI m.rn a (m.rn a+1),rc:=aI m.rc a E,rq:=aI m.rq a (aI (m.rq a) (m.rn a) v.req) }:=wK.app EO ha rfl rfl rfl rfl KJ hg1 sS;refine Ln ⟨qE,?_⟩;refine Rp (pf p (a+21)) (fun _=>jC 6 1)<|gQ<|jd EP (a+21) (.slice (some ⟨g4,0,none⟩) ((m.rn a)+1) (E)) fun DV Fa s15 z5 => ?_;have wz:=gZ s15 EP.ty;have⟨ET,zU,AY,Jd,UY⟩:=sj wz ER Gi BS ES BU;have b17:=s15.below b16 (m_ F b16.size) (by omega);refine Ln<|bS<|ay<|av (au 0)<|aC<|Wr<|aJ (au 0) ?_;have O:aO v=a:=by unfold aO; omega
  have aa : ¬ 0<=m.core.kY (aO v) v.req:=by rw[O]; exact j_ V
  have ne2 : ¬ (m.core.grant v.o v.of<0\/m.core.g (zB m.core v) 4≠0):=by rw[ac]; exact fun h=>h.elim ab (fun h=>h ae)
  have ew:mo m.core v=dw (fun x=>bG x v.o (m.g b 3)) (ow m.core (m.g b 2)) m.R K:=by unfold mo; rw[ac,show eP m.core.t m.core.tn (m.core.g b 2)=K from Xn.symm]; rfl
  have J:iM m.core v=0:=by unfold iM; rw[b_ aa,b_ ne2,ew,hRK]
  have eW:mo m.core v=(Rk,0):=ew.trans hRK;refine⟨oO J.symm,b17,fun _=>⟨{ m with s := { m.s with ga:=m.s.ga,gn:=m.s.gn,gc:=m.s.gc },R:=Rk,g:=aI m.g b (aI (m.g b) 4 v.req),ra:=aI m.ra a (some ⟨g4,0,none⟩),rn:=aI m.rn a (m.rn a+1),rc:=aI m.rc a E,rq:=aI m.rq a (aI (m.rq a) (m.rn a) v.req) },?_,?_⟩⟩
  ·unfold kJ qL; rw[eW,O]; rw[ac]; rfl
  exact { c:=Fa.to (KL _ rfl _ _ _),n:=AY,g:=Jd,tc:=ET,t:=zU,r:=UY,pB:=Uv,tB:=Dz,bn:=bn,bg:=(by show m.s.gn<=1000000; omega),bt:=bt,br:=(fun i N=>by show aI m.rn a (m.rn a+1) i<=1000000; have:=brr i N; have:=brr a ha; unfold aI; split <;> omega) }
 refine Lv aG (mY ae)<|av aG<|aC<|aN<|ay<|av (au 12)<|aC<|Wr<|sR<|aJ (au 12) ?_;have O:aO v=a:=by unfold aO; omega
 have aa : ¬ 0<=m.core.kY (aO v) v.req:=by rw[O]; exact j_ V
 have J:iM m.core v=12:=by unfold iM; rw[b_ aa,ac]; exact d_ (.inr ae)
 exact⟨oO J.symm,b4,fun P=>by rw[J]at P; cases P⟩
namespace Rt
def wP(L:fZ)(v:EvM):Int:=if L.node v.node<0 then 9 else if 140737488355328<L.R (L.node v.node).toNat (aO v)+v.aS then 6 else 0
def Fg(L:fZ)(v:EvM):fZ := { L with R:=aI L.R (L.node v.node).toNat (upd (L.R (L.node v.node).toNat) (aO v) (L.R (L.node v.node).toNat (aO v)+v.aS)) }
def yt(L:fZ)(v:EvM):(Nat->Int) × Int:=dn (L.R (L.node v.node).toNat) v.o v.dst v.aS
def pz(L:fZ)(v:EvM):Int:=if L.node v.node<0 then 9 else if v.dst<1\/6<v.dst\/L.inn (v.dst-1).toNat=false then 10 else(yt L v).2
def Fh(L:fZ)(v:EvM):fZ := { L with R:=aI L.R (L.node v.node).toNat (yt L v).1 }
noncomputable def dS(L:fZ)(v:EvM):Int :=
 if v.kind=1 then kI L v else if v.kind=2 then wP L v else if v.kind=3 then iW L v else if v.kind=4 then iM L v else if v.kind=5 then pz L v else 0
def iN(L:fZ)(v:EvM):fZ :=
 if v.kind=1 then qI L v else if v.kind=2 then Fg L v else if v.kind=3 then mh L v else if v.kind=4 then kJ L v else if v.kind=5 then Fh L v
 else if v.kind=6 then { L with inn:=aI L.inn (v.dst-1).toNat true } else { L with left:=aI L.left (aO v) true }
theorem Nb{n q a:Nat}{id par:Nat->Int}{R:Nat->Nat->Int}{x:Int} : ∀ i,i<n -> ∀ j,j<56->Fx.qC (fun b=>ji (id b) (par b) (R b)) q (dB (ji (id q) (par q) (R q)) (a+2) (au x)) i j=ji (id i) (par i) (aI R q (upd (R q) a x) i) j:=fun i _ j _=>by
 unfold Fx.qC;by_cases h:i=q
 ·subst h; rw[d_ rfl,OH rfl]; unfold aI; rw[d_ rfl]
 ·rw[b_ h]; unfold aI; rw[b_ h]
theorem Yv(m:lS){i:Nat}(hi:i<6):dB (mQ m) i (.bool true)=mQ { m with s := { m.s with inn:=aI m.s.inn i true } }:=by
 funext p
 unfold dB mQ;by_cases h:p=i
 ·subst h; rw[d_ rfl,d_ (by omega)]; unfold jZ; rw[d_ hi]; simp[aI]
 rw[b_ h];by_cases a:p<20
 ·rw[d_ a,d_ a]; unfold jZ;by_cases b:p<6
  ·rw[d_ b,d_ b]; simp[aI,h]
  rw[b_ b,b_ b]
 rw[b_ a,b_ a]
theorem U0(m:lS){i q:Nat}(hi:i<6)(d:q=i+6):dB (mQ m) q (.bool true)=mQ { m with s := { m.s with left:=aI m.s.left i true } }:=by
 subst d
 funext p
 unfold dB mQ;by_cases h:p=i+6
 ·subst h; rw[d_ rfl,d_ (by omega)]; unfold jZ; rw[b_ (by omega),d_ (by omega)]; simp[aI]
 rw[b_ h];by_cases a:p<20
 ·rw[d_ a,d_ a]; unfold jZ;by_cases b:p<6
  ·rw[d_ b,d_ b]
  rw[b_ b,b_ b];by_cases c:p<12
  ·rw[d_ c,d_ c]; simp[aI,show ¬ p-6=i by omega]
  rw[b_ c,b_ c]
 rw[b_ a,b_ a]
theorem QJ(m:lS){i q:Nat}(hi:i<6)(e:q=i+12)(x:Int):dB (mQ m) q (aD x)=mQ { m with s := { m.s with known:=aI m.s.known i x } }:=by
 subst e
 funext p
 unfold dB mQ;by_cases h:p=i+12
 ·subst h; rw[d_ rfl,d_ (by omega)]; unfold jZ; rw[b_ (by omega),b_ (by omega),d_ (by omega)]; simp[aI]
 rw[b_ h];by_cases a:p<20
 ·rw[d_ a,d_ a]; unfold jZ;by_cases b:p<6
  ·rw[d_ b,d_ b]
  rw[b_ b,b_ b];by_cases c:p<12
  ·rw[d_ c,d_ c]
  rw[b_ c,b_ c];by_cases d:p<18
  ·rw[d_ d,d_ d]; simp[aI,show ¬ p-12=i by omega]
  rw[b_ d,b_ d]
 rw[b_ a,b_ a]
theorem jh{v:EvM}(h:bR v=true):1<=v.kind/\v.kind<=7:=by
 unfold bR at h;simp only[T_]at h;have a:=h.2;unfold dF at a;split at a; · omega
 split at a; · omega
 split at a; · omega
 split at a; · omega
 split at a; · omega
 split at a; · omega
 have:=h_ a; omega
theorem kZ{v:EvM}(h:bR v=true)(c:v.kind=2\/v.kind=3\/v.kind=5):1<=v.aS/\v.aS<=1125899906842624:=by
 unfold bR at h;simp only[T_]at h;have a:=h.2;unfold dF at a;rw[b_ (by omega)]at a;have b:someE v=true->1<=v.aS/\v.aS<=1125899906842624:=fun h=>by unfold someE at h; simpa using h
 split at a; · exact b a
 split at a; · rw[T_]at a; exact b a.1
 rw[b_ (by omega)]at a;split at a; · rw[T_]at a; exact b a.1
 omega
theorem G8{v:EvM}(h:bR v=true)(c:v.kind=6) : ∃ b:Nat,b<6/\v.dst=(b:Int)+1:=by
 unfold bR at h;simp only[T_]at h;have a:=h.2;unfold dF at a;rw[b_ (by omega),b_ (by omega),b_ (by omega),b_ (by omega),b_ (by omega),d_ c]at a;unfold lY at a;rw[T_]at a;exact fH a.1
end Rt
set_option maxRecDepth 20000 in
set_option maxHeartbeats 2000000 in
theorem acX(m:lS)(B p a:Nat)(v:EvM)(w:World)(S:vP w B p m)(H:B<=w.heap.size)(ha:a<6)(ho:v.o=(a:Int)+1)(bnn:m.s.nn<=900)(bgg:m.s.gn<=900000)(brr : ∀ i,i<6->m.rn i<=900000)(hTN : ∀ x,m.node x=bE m.t m.tn x)(hDx : ∀ x,∃ D,D<=1000/\bE m.t m.tn (bD m.t m.tn D x)<0)(hv:gU v)(hmay:bR v=true)(hR : ∀ k,k<m.s.nn->may (m.R k)=true) :
 Calls Tryz.prog 54 #[(pt p),.agg (aA 14 (bU v))] w fun e w'=>e = .returned (au (dS m.core v))/\Below B w w'/\(dS m.core v=0 -> ∃ m',m'.core=iN m.core v/\vP w' B p m'):=by
 have Uv:=S.pB;have Dz:=S.tB;have bn:=S.bn;have bg:=S.bg;have bt:=S.bt;have lpp:p<w.heap.size:=S.c.lt;have Ru:m.tb<w.heap.size:=S.tc.lt;have hvk:=hv.kind;have hvt:=hv.dst;have hkr:=jh hmay;obtain⟨D,hD2,hD⟩:=hDx v.node;refine Kent Tryz.func54 152 ?_;refine ay<|qD fun I w1 lK W s1 z1 => ?_;have C:=bH s1.old S;have X:=eZ s1.old (Below.refl B w) H;have sU:=iV lK (Below.refl B w).size;have uq:=W.lt;refine av (au 0)<|aC<|Ws<|ay<|av (pf I 8)<|Lv (.int .u8 (v.kind)) (aL W.aH 8)<|aC<|Wb<|ay ?_;by_cases F:v.kind=1
 ·refine Lv aG (fu F)<|av aG<|aC<|aN<|ay<|av (pt p)<|Lv (.agg (aA 14 (bU v))) (fP W.aH 0)<|dZ (Yg m B p a D v _ C (m_ H X.size) ha ho bnn hD hD2) _ rfl ?_;rintro w2 ⟨hb1,hr1⟩;have b2:Below B w w2:=X.trans hb1;refine av (au (kI m.core v))<|aC<|Wr<|bO<|sR<|aJ (au (kI m.core v)) ?_;have A:dS m.core v=kI m.core v:=by unfold dS; rw[d_ F]
  have ec:iN m.core v=qI m.core v:=by unfold iN; rw[d_ F]
  exact⟨oO A.symm,b2,fun E=>by rw[ec]; exact hr1 (A.symm.trans E)⟩
 refine Lv aF (fQ F)<|av aF<|aC<|aK<|ay ?_;by_cases G:v.kind=2
 ·refine Lv aG (fu G)<|av aG<|aC<|aN<|Ws ?_;have aa:=C.c;have ac:=C.n;have ab:=C.g;have ae:=C.tc;have af:=C.t;have ad:=C.r;refine Wl<|av (pt p)<|av (pf I 9)<|Lv (aD v.node) (aL W.aH 9) ?_;have M6:CS w1 p m := { c:=aa.aH,an:=ac.arr,ag:=ab.arr,tc:=ae.aH,at2:=af.arr,ar:=fun i hi=>(ad.1 i hi).arr,bn:=(by show m.s.nn<=1000000; omega),bg:=bg,bt:=(by show m.tn<=1000000; omega),br:=S.br };refine dZ (I9 m p v.node _ M6) _ rfl ?_;intro w3 hb2;have⟨m3,m4,m5,m6,m7,m8,m9⟩:=jQ hb2 W aa ac ab ae af ad;have b3:=eZ hb2 X H;refine av (au (m.node v.node))<|aC<|Ws<|ay<|av (au (m.node v.node)) ?_;by_cases c23:(m.node v.node)<0
  ·refine Lv aG (gu c23)<|aC<|aN<|ay<|av (au 9)<|aC<|Wr<|sR<|bO<|sR<|aJ (au 9) ?_;have P:aO v=a:=(by unfold aO; omega);have A:dS m.core v=9:=(by unfold dS; rw[b_ F,d_ G]; unfold wP; exact d_ c23);exact⟨oO A.symm,b3,fun E=>by rw[A]at E; cases E⟩
  obtain⟨d,hkq,V,_⟩:=D8 (m:=m) (x:=v.node) (by omega);have V:m.node v.node=(d:Int):=V;have ekN:(m.core.node v.node).toNat=d:=by show(m.node v.node).toNat=d; rw[V]; rfl
  refine Lv aF (gy c23)<|aC<|aK<|Wk<|sN<|Ws<|Ws ?_;have hRb:=mP (hR d hkq) a (by omega);have hab:=kZ hmay (.inl G);refine xR<|aW (pt p)<|aW (pt p)<|aW (pt p)<|aW (pf p 18)<|Qv (.slice m.s.na (m.s.nn) (m.s.nc)) (fun l f=>aL (m4.aH.dr f) 18)<|eG (M_ (Value.int .i64) V)<|aW (pt I)<|Qv (au v.o) (fun l f=>aL (m3.aH.dr f) 0)<|Qv (au a) (fun l f=>gH) ?_;obtain⟨Q,eq1⟩:=m5.addr (by omega);have m10:Fx.Own w3 B 61 56 (bM Q m.s.nn m.s.nc) m.s.nn (JM m):=m5.dL (M_ (fun q=>Value.slice q m.s.nn m.s.nc) eq1);refine Qv (pf Q (56*d)) (fun l f=>dh 56 (hx:=(rfl.trans (M_ (fun q=>Value.slice q (m.s.nn) (m.s.nc)) eq1))))<|aW (pf Q (56*d+2))<|aW (pf Q (56*d+2))<|Qv (pf Q (a+56*d+2)) (fun l f=>jC 6 1)<|Qv (au ((m.R d) a)) (fun l f=>aL (m10.aH.dr f) (a+56*d+2) (Fx.fO (k:=d) (j:=a+2) (by omega) (by omega) (Uk _ _ _ (by omega))))<|aW (pf I 11)<|Qv (au v.aS) (fun l f=>aL (m3.aH.dr f) 11)<|Qv (au (((m.R d) a)+v.aS)) (fun l f=>eO) ?_;by_cases c41:140737488355328<(((m.R d) a)+v.aS)
  ·refine Qv aG (fun l f=>mW c41)<|Qn ?_;rintro _ ⟨L,rfl⟩;obtain⟨Dv,oV⟩ : ∃ l,l=World.drewN w3 L:=⟨_,rfl⟩;rw[<- oV];have s3:Stp w3.heap.size w3 Dv:=(by rw[oV]; exact Sb (jM w3 L));have b4:=eZ s3.old b3 H;clear oV;refine sN<|aN<|ay<|av (au 6)<|aC<|Wr<|sR<|bO<|sR<|aJ (au 6) ?_;have P:aO v=a:=(by unfold aO; omega);have A:dS m.core v=6:=(by unfold dS; rw[b_ F,d_ G]; unfold wP; rw[ekN,P,b_ (show ¬ m.core.node v.node<0 from c23)]; exact d_ c41);exact⟨oO A.symm,b4,fun E=>by rw[A]at E; cases E⟩
  refine Qv aF (fun l f=>mX c41)<|Qn ?_;rintro _ ⟨L,rfl⟩;obtain⟨wq2,sJ⟩ : ∃ l,l=World.drewN w3 L:=⟨_,rfl⟩;rw[<- sJ];have s4:Stp w3.heap.size w3 wq2:=by rw[sJ]; exact Sb (jM w3 L)
  have⟨m18,m19,m20,m21,m22,m23,m24⟩:=jQ s4.old m3 m4 m6 m7 m8 m9 m10;have b5:=eZ s4.old b3 H;clear sJ;refine sN<|aK<|Wk<|sN ?_;refine jV [0,1,2,3,5,6,14,4,9,10,11,17,18,19,7,8,12,13,15,16,20,21] [0,0,0,0,4,0,0,4,0,0,0,0,0,4,0,4,0,0,0,0,0,3] [(21,4,[4]),(21,7,[7]),(21,13,[13]),(21,15,[15])] fun pQ dR iG => ?_;have⟨nk,og,oh,om,nI,oF,lX⟩:=jQ dR m18 m19 m20 m21 m22 m23 m24;have b6:=eZ dR b5 H;refine bf (pt p)<|bf (pt p)<|bf (pt p)<|bf (pf p 18)<|bW (M_ (Value.int .i64) V)<|bf (pt I)<|bf (pf I 11)<|Rs (.slice m.s.na (m.s.nn) (m.s.nc)) (aL og.aH 18) ?_;refine Rp (pf Q (56*d)) (fun _=>dh 56 (hx:=(rfl.trans (M_ (fun q=>Value.slice q (m.s.nn) (m.s.nc)) eq1))))<|bf (pf Q (56*d+2))<|bf (pf Q (56*d+2))<|Rp (pf Q (56*d)) (fun _=>dh 56 (hx:=(rfl.trans (M_ (fun q=>Value.slice q (m.s.nn) (m.s.nc)) eq1))))<|bf (pf Q (56*d+2))<|bf (pf Q (56*d+2))<|Rs (au v.o) (aL nk.aH 0) ?_;refine Rp (au a) (fun _=>gH)<|Rp (pf Q (a+56*d+2)) (fun _=>jC 6 1)<|Rs (au ((m.R d) a)) (aL lX.aH (a+56*d+2) (Fx.fO (k:=d) (j:=a+2) (by omega) (by omega) (Uk _ _ _ (by omega)))) ?_;refine Rs (au v.aS) (aL nk.aH 11) ?_;refine Rp (au (((m.R d) a)+v.aS)) (fun _=>eO)<|Rp (pf Q (a+56*d+2)) (fun _=>jC 6 1)<|gQ<|qp lX (a+56*d+2) (au (((m.R d) a)+v.aS)) fun w4 m32 s6 z2 => ?_;have fV:=gZ s6 lX.J2;have⟨nQ,oq,pU,qQ,qR⟩:=sj fV og oh om nI oF;have b7:=s6.below b6 (m_ H b6.size) lX.blk.1;have oP:Fx.Own w4 B 61 56 (bM Q m.s.nn m.s.nc) m.s.nn (flat 56 (fun O=>ji (m.id O) (m.par O) (aI m.R d (upd (m.R d) a (((m.R d) a)+v.aS)) O))):=m32.congr (fun pq hp=>(Fx.Gx (k:=d) (j:=a+2) (by omega) (by omega) pq hp).trans (bL (fun i hi j hj=>Nb (a:=a) (x:=((m.R d) a)+v.aS) (q:=d) (id:=m.id) (par:=m.par) (R:=m.R) i hi j hj) pq hp));refine Ln<|Rn<|bQ<|sN<|ay<|av (au 0)<|aC<|Wr<|aJ (au 0) ?_;have P:aO v=a:=by unfold aO; omega
  have rQ:Fx.Own w4 B 61 56 (.slice m.s.na (m.s.nn) (m.s.nc)) m.s.nn (flat 56 (fun O=>ji (m.id O) (m.par O) (aI m.R d (upd (m.R d) a (((m.R d) a)+v.aS)) O))):=oP.dL (M_ (fun q=>Value.slice q m.s.nn m.s.nc) eq1.symm);have A:dS m.core v=0:=by unfold dS; rw[b_ F,d_ G]; unfold wP; rw[ekN,P,b_ (show ¬ m.core.node v.node<0 from c23)]; exact b_ c41
  refine⟨oO A.symm,b7,fun _=>⟨{ m with R:=aI m.R d (upd (m.R d) a (m.R d a+v.aS)) },by symm; unfold iN; rw[b_ F,d_ G]; unfold Fg; rw[ekN,P]; rfl,?_⟩⟩;exact { c:=nQ,n:=rQ,g:=oq,tc:=pU,t:=qQ,r:=qR,pB:=Uv,tB:=Dz,bn:=bn,bg:=bg,bt:=bt,br:=S.br }
 refine Lv aF (fQ G)<|av aF<|aC<|aK<|ay ?_;by_cases K:v.kind=3
 ·refine Lv aG (fu K)<|av aG<|aC<|aN<|ay<|av (pt p)<|Lv (.agg (aA 14 (bU v))) (fP W.aH 0)<|dZ (Yn m B p a D v _ C (m_ H X.size) ha ho bgg brr hTN hD hD2) _ rfl ?_;rintro w5 ⟨hb3,hr2⟩;have b8:Below B w w5:=X.trans hb3;refine av (au (iW m.core v))<|aC<|Wr<|bO<|sR<|aJ (au (iW m.core v)) ?_;have A:dS m.core v=iW m.core v:=by unfold dS; rw[b_ F,b_ G,d_ K]
  have ec:iN m.core v=mh m.core v:=by unfold iN; rw[b_ F,b_ G,d_ K]
  exact⟨oO A.symm,b8,fun E=>by rw[ec]; exact hr2 (A.symm.trans E)⟩
 refine Lv aF (fQ K)<|av aF<|aC<|aK<|ay ?_;by_cases N:v.kind=4
 ·refine Lv aG (fu N)<|av aG<|aC<|aN<|ay<|av (pt p)<|Lv (.agg (aA 14 (bU v))) (fP W.aH 0)<|dZ (Yu m B p a  v _ C (m_ H X.size) ha ho bgg brr hTN hDx) _ rfl ?_;rintro w6 ⟨hb4,hr3⟩;have J:Below B w w6:=X.trans hb4;refine av (au (iM m.core v))<|aC<|Wr<|bO<|sR<|aJ (au (iM m.core v)) ?_;have A:dS m.core v=iM m.core v:=by unfold dS; rw[b_ F,b_ G,b_ K,d_ N]
  have ec:iN m.core v=kJ m.core v:=by unfold iN; rw[b_ F,b_ G,b_ K,d_ N]
  exact⟨oO A.symm,J,fun E=>by rw[ec]; exact hr3 (A.symm.trans E)⟩
 refine Lv aF (fQ N)<|av aF<|aC<|aK<|ay ?_;by_cases U:v.kind=5
 ·refine Lv aG (fu U)<|av aG<|aC<|aN<|Ws ?_;have aa:=C.c;have ac:=C.n;have ab:=C.g;have ae:=C.tc;have af:=C.t;have ad:=C.r;refine Wl<|av (pt p)<|av (pf I 9)<|Lv (aD v.node) (aL W.aH 9) ?_;have UK:CS w1 p m := { c:=aa.aH,an:=ac.arr,ag:=ab.arr,tc:=ae.aH,at2:=af.arr,ar:=fun i hi=>(ad.1 i hi).arr,bn:=(by show m.s.nn<=1000000; omega),bg:=bg,bt:=(by show m.tn<=1000000; omega),br:=S.br };refine dZ (I9 m p v.node _ UK) _ rfl ?_;intro M hb5;have⟨nJ,mO,nK,sZ,rR,nR,sw⟩:=jQ hb5 W aa ac ab ae af ad;have b10:=eZ hb5 X H;refine av (au (m.node v.node))<|aC<|Ws<|ay<|av (au (m.node v.node)) ?_;by_cases c80:(m.node v.node)<0
  ·refine Lv aG (gu c80)<|aC<|aN<|ay<|av (au 9)<|aC<|Wr<|sR<|bO<|sR<|aJ (au 9) ?_;have P:aO v=a:=(by unfold aO; omega);have A:dS m.core v=9:=(by unfold dS; rw[b_ F,b_ G,b_ K,b_ N,d_ U]; unfold pz; exact d_ c80);exact⟨oO A.symm,b10,fun E=>by rw[A]at E; cases E⟩
  obtain⟨d,hkq,V,_⟩:=D8 (m:=m) (x:=v.node) (by omega);have V:m.node v.node=(d:Int):=V;have ekN:(m.core.node v.node).toNat=d:=by show(m.node v.node).toNat=d; rw[V]; rfl
  refine Lv aF (gy c80)<|aC<|aK<|Wk<|sN<|Ws<|Ws ?_;refine xR<|aW (pf I 10)<|Qv (au v.dst) (fun l f=>aL (nJ.aH.dr f) 10) ?_;by_cases c83:v.dst<1
  ·refine Qv aG (fun l f=>gu c83)<|aW aG<|aP<|aP<|aP<|aW aG<|aW aG<|aP<|aP<|aP<|aP<|aP<|aP<|aP<|aP<|aP<|aP<|aW aG<|Qn ?_;rintro _ ⟨L,rfl⟩;obtain⟨wq3,Fb⟩ : ∃ l,l=World.drewN M L:=⟨_,rfl⟩;rw[<- Fb];have s8:Stp M.heap.size M wq3:=(by rw[Fb]; exact Sb (jM M L));have b11:=eZ s8.old b10 H;clear Fb;refine sN<|aN<|ay<|av (au 10)<|aC<|Wr<|sR<|bO<|sR<|aJ (au 10) ?_;have P:aO v=a:=(by unfold aO; omega);have A:dS m.core v=10:=(by unfold dS; rw[b_ F,b_ G,b_ K,b_ N,d_ U]; unfold pz; rw[b_ (show ¬ m.core.node v.node<0 from c80)]; exact d_ (.inl c83));exact⟨oO A.symm,b11,fun E=>by rw[A]at E; cases E⟩
  refine Qv aF (fun l f=>gy c83)<|aW aF<|aW (pf I 10)<|Qv (au v.dst) (fun l f=>aL (nJ.aH.dr f) 10) ?_;by_cases c87:6<v.dst
  ·refine Qv aG (fun l f=>mW c87)<|aW aG<|aW aG<|aP<|aP<|aP<|aP<|aP<|aP<|aP<|aP<|aP<|aP<|aW aG<|Qn ?_;rintro _ ⟨L,rfl⟩;obtain⟨wq4,Fe⟩ : ∃ l,l=World.drewN M L:=⟨_,rfl⟩;rw[<- Fe];have s9:Stp M.heap.size M wq4:=(by rw[Fe]; exact Sb (jM M L));have b12:=eZ s9.old b10 H;clear Fe;refine sN<|aN<|ay<|av (au 10)<|aC<|Wr<|sR<|bO<|sR<|aJ (au 10) ?_;have P:aO v=a:=(by unfold aO; omega);have A:dS m.core v=10:=(by unfold dS; rw[b_ F,b_ G,b_ K,b_ N,d_ U]; unfold pz; rw[b_ (show ¬ m.core.node v.node<0 from c80)]; exact d_ (.inr (.inl c87)));exact⟨oO A.symm,b12,fun E=>by rw[A]at E; cases E⟩
  obtain⟨J,hb9,eb9⟩ : ∃ b:Nat,b<6/\v.dst=(b:Int)+1:=⟨(v.dst-1).toNat,by omega,by omega⟩;refine Qv aF (fun l f=>mX c87)<|aW aF<|aW aF<|aW (pt p)<|aW (pf I 10)<|Qv (au v.dst) (fun l f=>aL (nJ.aH.dr f) 10)<|Qv (au J) (fun l f=>gH)<|aW (pt p)<|aW (pt p)<|aW (pt p)<|Qv (pf p J) (fun l f=>jC 6 1) ?_;by_cases c98:(m.s.inn J)=true
  ·refine Qv aG (fun l f=>aL (mO.aH.dr f) J ((lZ _ (by omega) (EJ _ (by omega))).trans (M_ Value.bool c98)))<|aW aF<|aW aF<|Qn ?_;rintro _ ⟨L,rfl⟩;obtain⟨wq5,M9⟩ : ∃ l,l=World.drewN M L:=⟨_,rfl⟩;rw[<- M9];have s10:Stp M.heap.size M wq5:=(by rw[M9]; exact Sb (jM M L));have⟨oo,tC,m64,wB,vN,wC,wD⟩:=jQ s10.old nJ mO nK sZ rR nR sw;have b13:=eZ s10.old b10 H;clear M9;refine sN<|aK<|Wk<|sN<|Ws ?_;obtain⟨Z,Ji⟩:=m64.addr (by omega);have tF:Fx.Own wq5 B 61 56 (bM Z m.s.nn m.s.nc) m.s.nn (JM m):=m64.dL (M_ (fun q=>Value.slice q m.s.nn m.s.nc) Ji);refine qA (T:=59) (T':=59) (a := .tmp 7) (v := .tmp 118) (m:=54) (z:=rv .i64 (fun _=>0)) (y:=rv .i64 ((dn (m.R d) v.o v.dst v.aS).1)) (u := .agg (aA 54 (rv .i64 ((dn (m.R d) v.o v.dst v.aS).1)))) 19 20 (List.replicate 22 (0,2,[],[])) #[(pt p),(pt p),(pt p),(pf p 18),.slice m.s.na (m.s.nn) (m.s.nc),au (d:Int),(pf Z (56*d)),(pf Z (56*d+2)),.agg (aA 54 (rv .i64 (m.R d))),(pt I),au v.o,(pf I 10),au v.dst,(pf I 11),au v.aS,.tuple #[.agg (aA 54 (rv .i64 ((dn (m.R d) v.o v.dst v.aS).1))),au ((dn (m.R d) v.o v.dst v.aS).2)],.tuple #[.agg (aA 54 (rv .i64 ((dn (m.R d) v.o v.dst v.aS).1))),au ((dn (m.R d) v.o v.dst v.aS).2)],.agg (aA 54 (rv .i64 ((dn (m.R d) v.o v.dst v.aS).1))),au ((dn (m.R d) v.o v.dst v.aS).2),undef,undef,au ((dn (m.R d) v.o v.dst v.aS).2)] (by kernel_rfl) (by kernel_rfl) (by kernel_rfl) (by kernel_rfl) (by kernel_rfl) (by kernel_rfl) rfl (by kernel_rfl) rfl rfl (by kernel_rfl) (fun Y=>(show ev _ (.tmp 7)=(pt Y)from by kernel_rfl)) (fun Y=>(show ev _ (.tmp 118) = .agg (aA 54 (rv .i64 ((dn (m.R d) v.o v.dst v.aS).1)))from by kernel_rfl)) (bJ _ _) (fun _ _=>rfl) (by kernel_rfl) (fun Y => ?_) ?_
   ·refine⟨?_,?_,?_,?_,?_,?_,?_,?_,?_,?_,?_,?_,?_,?_,?_,?_,?_,?_,?_,?_,?_,?_,trivial⟩
    ·exact .inr (.inr oD)
    ·exact .inr (.inr oD)
    ·exact .inr (.inr oD)
    ·exact .inr (.inr oD)
    ·exact .inr (.inr (nC (.slice m.s.na (m.s.nn) (m.s.nc)) fun l f=>bF (x:=mQ m) rfl (show ev _ (.tmp 105)=(pf p 18)from by kernel_rfl) (by kernel_rfl) (tC.aH.below f (by have:=tC.lt; omega)) (i:=18) (by omega) (by omega) rfl))
    ·exact .inr (.inr (nC (au d) fun l f=>dY rfl ((aY (by kernel_rfl)).trans (M_ (Value.int .i64) V))))
    ·exact .inr (.inr (nC (pf Z (56*d)) fun l f=>dO rfl ((show ev _ (.tmp 106) = .slice m.s.na (m.s.nn) (m.s.nc)from by kernel_rfl).trans (M_ (fun q=>Value.slice q (m.s.nn) (m.s.nc)) Ji)) (show ev _ (.tmp 107)=au (d:Int)from by kernel_rfl) Tryz.underlying50 (s:=56) (by kernel_rfl) (by omega) (by omega) (by omega)))
    ·exact .inr (.inr oD)
    ·exact .inr (.inr (nC (.agg (aA 54 (rv .i64 (m.R d)))) fun l f=>eU (x:=JM m) (y:=rv .i64 (m.R d)) rfl (show ev _ (.tmp 109)=(pf Z (56*d+2))from by kernel_rfl) (by kernel_rfl) (by kernel_rfl) (tF.aH.below f (by have:=tF.lt; omega)) (i:=56*d+2) (by omega) (by omega) (fun jq hjq=>(Fx.jB (k:=d) (j:=2+jq) (by omega) (by omega)).trans ((fun jq _=>DZ _ _ _ jq) jq hjq))))
    ·exact .inr (.inr oD)
    ·exact .inr (.inr (nC (au v.o) fun l f=>bF (x:=bU v) rfl (show ev _ (.tmp 111)=(pt I)from by kernel_rfl) (by kernel_rfl) (oo.aH.below f (by have:=oo.lt; omega)) (i:=0) (by omega) (by omega) rfl))
    ·exact .inr (.inr oD)
    ·exact .inr (.inr (nC (au v.dst) fun l f=>bF (x:=bU v) rfl (show ev _ (.tmp 113)=(pf I 10)from by kernel_rfl) (by kernel_rfl) (oo.aH.below f (by have:=oo.lt; omega)) (i:=10) (by omega) (by omega) rfl))
    ·exact .inr (.inr oD)
    ·exact .inr (.inr (nC (au v.aS) fun l f=>bF (x:=bU v) rfl (show ev _ (.tmp 115)=(pf I 11)from by kernel_rfl) (by kernel_rfl) (oo.aH.below f (by have:=oo.lt; omega)) (i:=11) (by omega) (by omega) rfl))
    ·exact .inr (.inr (Fx.Ep (v := .tuple #[.agg (aA 54 (rv .i64 ((dn (m.R d) v.o v.dst v.aS).1))),au ((dn (m.R d) v.o v.dst v.aS).2)]) (by kernel_rfl) (by kernel_rfl) (Fx.qbC (fun l f=>rC (args := [.agg (aA 54 (rv .i64 (m.R d))),au v.o,au v.dst,au v.aS]) rfl (Fx.RH (show ev _ (.tmp 110) = .agg (aA 54 (rv .i64 (m.R d)))from by kernel_rfl) (show ev _ (.tmp 112)=au v.o from by kernel_rfl) (show ev _ (.tmp 114)=au v.dst from by kernel_rfl) (show ev _ (.tmp 116)=au v.aS from by kernel_rfl)) Tryz.func81 rfl rfl) (fun l f=>(Ym (m.R d) v.o v.dst v.aS _).mono fun e v2 h=>⟨h.1,h.2⟩))))
    ·exact .inr (.inr oD)
    ·exact .inr (.inr oD)
    ·exact .inr (.inr oD)
    ·exact .inl rfl
    ·exact .inr (.inl rfl)
    exact .inr (.inr oD)
   rintro Y w8 f1 hf1 pV uI hb6;have aob:I≠Y:=u_ (n_ (oo.lt) pV);have acW:p≠Y:=u_ (n_ (tC.lt) pV);have aoc:m.tb≠Y:=u_ (n_ (vN.lt) pV);have aod:Z≠Y:=u_ (n_ (tF.lt) pV);have⟨xq,vO,yN,uW,xE,xW⟩:=um hb6 tC wB vN wC wD tF;have b14:=eZ hb6 b13 H;have pV:w.heap.size<=Y:=m_ b13.size pV;have zy:=uI.lt;have q1:f1 0=(pt p):=(by rw[hf1]; kernel_rfl);have q2:f1 4=au 0:=(by rw[hf1]; kernel_rfl);have q3:f1 6=au (d:Int):=(by rw[hf1]; exact(aY (by kernel_rfl)).trans (M_ (Value.int .i64) V));have q4:f1 7=(pt Y):=(by rw[hf1]; kernel_rfl);have q5:f1 8=au ((dn (m.R d) v.o v.dst v.aS).2):=(by rw[hf1]; kernel_rfl);clear hf1;refine sN<|Ws<|ay<|aT q5 ?_;by_cases Yw:((dn (m.R d) v.o v.dst v.aS).2)=0
   ·refine Lv aF (jP Yw)<|aC<|aK<|Wk<|sN ?_;refine jV [0,1,2,3,5,4,6,7,8,9] [0,0,0,0,4,0,4,0,0,3] [(9,4,[4]),(9,6,[6])] fun CP gJ nO => ?_;have⟨xu,xG,wE,xY,zM,xZ,AO⟩:=jQ gJ xq vO yN uW xE xW uI;have b15:=eZ gJ b14 H;refine bW q1<|bf (pt p)<|bf (pt p)<|bf (pf p 18)<|bW q3<|Rs (.slice m.s.na (m.s.nn) (m.s.nc)) (aL xu.aH 18) ?_;refine Rs (.agg (aA 54 (rv .i64 ((dn (m.R d) v.o v.dst v.aS).1)))) (fP AO.aH 0 (ha:=q4)) ?_;refine Rp (pf Z (56*d)) (fun _=>dh 56 (hx:=(rfl.trans (M_ (fun q=>Value.slice q (m.s.nn) (m.s.nc)) Ji))))<|bf (pf Z (56*d+2))<|gQ<|zJ xZ (56*d+2) fun w9 AP s13 z3 => ?_;have jJ:=gZ s13 xZ.J2;have⟨zN,zO,AQ,ED,Dy⟩:=sj jJ xu xG wE xY zM;have b16:=s13.below b15 (m_ H b15.size) xZ.blk.1;have CV:Fx.Own w9 B 61 56 (bM Z m.s.nn m.s.nc) m.s.nn (flat 56 (fun O=>ji (m.id O) (m.par O) (aI m.R d ((dn (m.R d) v.o v.dst v.aS).1) O))):=AP.congr (fun pq hp=>(Fx.Bz (k:=d) (j:=2) (by omega) (by omega) pq hp).trans (bL (fun i hi j hj=>BZ (r:=(dn (m.R d) v.o v.dst v.aS).1) (q:=d) (id:=m.id) (par:=m.par) (R:=m.R) i hi j hj) pq hp));refine Ln<|Rn<|bQ<|sN<|ay<|av (au 0)<|aC<|Wr<|aJ (au 0) ?_;have P:aO v=a:=(by unfold aO; omega);have eto : ¬ (v.dst<1\/6<v.dst\/m.core.inn (v.dst-1).toNat=false):=fun h=>h.elim c83 (fun h=>h.elim c87 (fun h=>by rw[show(v.dst-1).toNat=J by omega]at h; rw[show m.core.inn J=true from c98]at h; cases h))
    have eW:yt m.core v=dn (m.R d) v.o v.dst v.aS:=(by unfold yt; rw[ekN]; rfl);have zS:Fx.Own w9 B 61 56 (.slice m.s.na (m.s.nn) (m.s.nc)) m.s.nn (flat 56 (fun O=>ji (m.id O) (m.par O) (aI m.R d ((dn (m.R d) v.o v.dst v.aS).1) O))):=CV.dL (M_ (fun q=>Value.slice q m.s.nn m.s.nc) Ji.symm);have A:dS m.core v=0:=(by unfold dS; rw[b_ F,b_ G,b_ K,b_ N,d_ U]; unfold pz; rw[b_ (show ¬ m.core.node v.node<0 from c80),b_ eto,eW]; exact Yw);refine⟨oO A.symm,b16,fun _=>⟨{ m with R:=aI m.R d (dn (m.R d) v.o v.dst v.aS).1 },by symm; unfold iN; rw[b_ F,b_ G,b_ K,b_ N,d_ U]; unfold Fh; rw[ekN,eW]; rfl,?_⟩⟩;exact { c:=zN,n:=zS,g:=zO,tc:=AQ,t:=ED,r:=Dy,pB:=Uv,tB:=Dz,bn:=bn,bg:=bg,bt:=bt,br:=S.br }
   refine Lv aG (mY Yw)<|aC<|aN<|ay<|aT q5<|av (au ((dn (m.R d) v.o v.dst v.aS).2))<|aC<|Wr<|sR<|bO<|sR<|aJ (au ((dn (m.R d) v.o v.dst v.aS).2)) ?_;have P:aO v=a:=(by unfold aO; omega);have eto : ¬ (v.dst<1\/6<v.dst\/m.core.inn (v.dst-1).toNat=false):=fun h=>h.elim c83 (fun h=>h.elim c87 (fun h=>by rw[show(v.dst-1).toNat=J by omega]at h; rw[show m.core.inn J=true from c98]at h; cases h))
   have eW:yt m.core v=dn (m.R d) v.o v.dst v.aS:=(by unfold yt; rw[ekN]; rfl);have A:dS m.core v=(dn (m.R d) v.o v.dst v.aS).2:=(by unfold dS; rw[b_ F,b_ G,b_ K,b_ N,d_ U]; unfold pz; rw[b_ (show ¬ m.core.node v.node<0 from c80),b_ eto,eW]);exact⟨oO A.symm,b14,fun E=>by rw[A]at E; exact N_ E Yw⟩
  rw[U_]at c98;refine Qv aF (fun l f=>aL (mO.aH.dr f) J ((lZ _ (by omega) (EJ _ (by omega))).trans (M_ Value.bool c98)))<|aW aG<|aW aG<|Qn ?_;rintro _ ⟨L,rfl⟩;obtain⟨wq6,acZ⟩ : ∃ l,l=World.drewN M L:=⟨_,rfl⟩;rw[<- acZ];have BJ:Stp M.heap.size M wq6:=by rw[acZ]; exact Sb (jM M L)
  have b17:=eZ BJ.old b10 H;clear acZ;refine sN<|aN<|ay<|av (au 10)<|aC<|Wr<|sR<|bO<|sR<|aJ (au 10) ?_;have P:aO v=a:=by unfold aO; omega
  have A:dS m.core v=10:=by unfold dS; rw[b_ F,b_ G,b_ K,b_ N,d_ U]; unfold pz; rw[b_ (show ¬ m.core.node v.node<0 from c80)]; exact d_ (.inr (.inr (by rw[show(v.dst-1).toNat=J by omega]; exact c98)))
  exact⟨oO A.symm,b17,fun E=>by rw[A]at E; cases E⟩
 refine Lv aF (fQ U)<|av aF<|aC<|aK<|ay ?_;by_cases U1:v.kind=6
 ·refine Lv aG (fu U1)<|av aG<|aC<|aN ?_;have aa:=C.c;have ac:=C.n;have ab:=C.g;have ae:=C.tc;have af:=C.t;have ad:=C.r;obtain⟨J,hb9,eb9⟩:=G8 hmay U1;refine jV [0,1,4,5,6,2,3,7,8] [0,0,4,0,0,0,0,0,3] [(8,2,[2])] fun Rv lW AJ => ?_;have⟨uw,pY,oZ,qJ,qb,rG,sK⟩:=jQ lW W aa ac ab ae af ad;have b18:=eZ lW X H;refine bf (pt p)<|bf (pf I 10)<|bf (pt p)<|bf (pt p)<|bf (pt p)<|Rs (au v.dst) (aL uw.aH 10) ?_;refine Rp (au J) (fun _=>gH)<|Rp (pf p J) (fun _=>jC 6 1)<|gQ<|jd pY J aG fun sV vg s16 z4 => ?_;have qE:=gZ s16 pY.ty;have⟨uy,zf,vk,zh,BP⟩:=sj qE oZ qJ qb rG sK;have b19:=s16.below b18 (m_ H b18.size) (by omega);refine Ln<|Rn<|bQ<|sN<|ay<|av (au 0)<|aC<|Wr<|aJ (au 0) ?_;have P:aO v=a:=by unfold aO; omega
  have A:dS m.core v=0:=by unfold dS; rw[b_ F,b_ G,b_ K,b_ N,b_ U]
  refine⟨oO A.symm,b19,fun _=>⟨{ m with s := { m.s with inn:=aI m.s.inn J true } },by symm; unfold iN; rw[b_ F,b_ G,b_ K,b_ N,b_ U,d_ U1]; rw[show(v.dst-1).toNat=J by omega]; rfl,?_⟩⟩;exact { c:=vg.to (Yv m hb9),n:=uy,g:=zf,tc:=vk,t:=zh,r:=BP,pB:=Uv,tB:=Dz,bn:=bn,bg:=bg,bt:=bt,br:=S.br }
 refine Lv aF (fQ U1)<|av aF<|aC<|aK<|ay<|Lv aG afH<|av aG<|aC<|aN ?_;have aa:=C.c;have ac:=C.n;have ab:=C.g;have ae:=C.tc;have af:=C.t;have ad:=C.r;refine jV [0,1,4,5,6,2,3,7,8] [0,0,4,0,0,0,0,0,3] [(8,2,[2])] fun wt4 qP GL => ?_;have⟨xH,uz,qK,yh,yj,uD,BQ⟩:=jQ qP W aa ac ab ae af ad;have b20:=eZ qP X H;refine bf (pt p)<|bf (pt I)<|bf (pt p)<|bf (pt p)<|bf (pf p 6)<|Rs (au v.o) (aL xH.aH 0) ?_;refine Rp (au a) (fun _=>gH)<|Rp (pf p (a+6)) (fun _=>jC 6 1)<|gQ<|jd uz (a+6) aG fun EC Jc Md z5 => ?_;have wz:=gZ Md uz.ty;have⟨AX,EO,Gg,BR,zT⟩:=sj wz qK yh yj uD BQ;have L9:=Md.below b20 (m_ H b20.size) (by omega);refine Ln<|Rn<|bQ<|sN<|ay<|av (au 0)<|aC<|Wr<|aJ (au 0) ?_;have P:aO v=a:=by unfold aO; omega
 have A:dS m.core v=0:=by unfold dS; rw[b_ F,b_ G,b_ K,b_ N,b_ U]
 refine⟨oO A.symm,L9,fun _=>⟨{ m with s := { m.s with left:=aI m.s.left a true } },by symm; unfold iN; rw[b_ F,b_ G,b_ K,b_ N,b_ U,b_ U1]; rw[P]; rfl,?_⟩⟩;exact { c:=Jc.to (U0 m ha rfl),n:=AX,g:=EO,tc:=Gg,t:=BR,r:=zT,pB:=Uv,tB:=Dz,bn:=bn,bg:=bg,bt:=bt,br:=S.br }
namespace Rt
structure ada(L:fZ)(T:Nat):Prop where
 nn:L.nn<=33
 gn:L.gn<=T
 rn : ∀ i,i<6->L.rn i<=T
 tn : ∀ x,L.node x=bE L.t L.tn x
 dx : ∀ x,∃ D,D<=1000/\bE L.t L.tn (bD L.t L.tn D x)<0
 may : ∀ k,k<L.nn->may (L.R k)=true
 kn:Gd L.known
open Classical in
noncomputable def bK(L:fZ)(v:EvM):Int :=
 if bR v=false then 1 else if mI L.known v=true then 14 else if dD L.known v=false then 13 else if L.inn (aO v)=false\/L.left (aO v)=true then 10 else dS L v
def G9(L:fZ)(v:EvM):fZ := { L with known:=aI L.known (aO v) (L.known (aO v)+1) }
open Classical in
noncomputable def dN(L:fZ)(v:EvM):fZ:=if bK L v=0 then G9 (iN L v) v else L
theorem qc(L:fZ)(v:EvM):(iN L v).known=L.known:=by
 unfold iN;split; · unfold qI; rfl
 split; · unfold Fg; rfl
 split; · unfold mh qL; rfl
 split; · unfold kJ qL; rfl
 split; · unfold Fh; rfl
 split <;> rfl
end Rt
set_option maxRecDepth 20000 in
set_option maxHeartbeats 2000000 in
theorem OP(m:lS)(B p T:Nat)(v:EvM)(w:World)(L:vP w B p m)(z:gU v)(I:ada m.core T)(hT:T<=900000) :
 Calls Tryz.prog 25 #[(pt p),.agg (aA 14 (bU v))] w fun e w' => ∃ p' m',e = .returned (.tuple #[(pt p'),au (bK m.core v)])/\m'.core=dN m.core v/\vP w' B p' m'/\Below w.heap.size w w':=by
 have O:=L.c;have lpp:p<w.heap.size:=O.lt;have hpB:=L.pB;refine Kent Tryz.func25 73 ?_;refine ay<|qD fun g1 w1 lK U s1 z1 => ?_;have⟨F,d,Y⟩:=jw s1.old L O (Below.refl w.heap.size w);have sU:=ig lK;have aam:=bZ lK O.lt;have uq:=U.lt;refine av (.pointer none)<|av (au 0)<|aC<|Ws<|ay<|Lv (.agg (aA 14 (bU v))) (fP U.aH 0) ?_;by_cases l:(bR v)=true
 ·refine dZ (GR v _ z) aG (by rw[l]) ?_;intro w2 hb1;have⟨m4,m5,m6,Z⟩:=kR hb1 F d U Y;refine av aF<|aC<|aK<|Wk<|sN<|Ws<|Ws ?_;refine mZ<|aW (pt p)<|aW (pt p)<|aW (pt p)<|aW (pf p 12)<|Qv (.agg (aA 6 (rv .u64 m.s.known))) (fun W A=>fP (m5.cb A) 12 (fun j S=>lZ _ (by omega) (kr _ S (by omega))))<|Qv (.agg (aA 14 (bU v))) (fun W A=>fP (m6.cb A) 0) ?_;by_cases u:(mI m.s.known v)=true
  ·refine yY (fun _ _=>TS m.s.known v _ z) aG (by rw[u])<|Qn ?_;intro XO tT;have⟨m7,b3⟩:=fD tT m4 Z;refine sN<|aN<|ay<|av (pt p)<|av (pt p)<|av (au 14)<|aC<|Wr<|sR<|aJ (.tuple #[(pt p),au 14]) ?_;have b:bK m.core v=14:=(by unfold bK; rw[b_ (by rw[l]; decide)]; exact d_ u);have q:dN m.core v=m.core:=(by unfold dN; rw[b_ (by rw[b]; decide)]);exact⟨p,m,by rw[b],q.symm,m7,b3⟩
  rw[U_]at u;refine yY (fun _ _=>TS m.s.known v _ z) aF (by rw[u])<|Qn ?_;intro Z7 xg;have⟨m10,m11,m12,b4⟩:=kR xg m4 m5 m6 Z;refine sN<|aK<|Wk<|sN<|Ws<|Ws ?_;refine mZ<|aW (pt p)<|aW (pt p)<|aW (pt p)<|aW (pf p 12)<|Qv (.agg (aA 6 (rv .u64 m.s.known))) (fun W A=>fP (m11.cb A) 12 (fun j S=>lZ _ (by omega) (kr _ S (by omega))))<|Qv (.agg (aA 14 (bU v))) (fun W A=>fP (m12.cb A) 0) ?_;by_cases x:(dD m.s.known v)=true
  ·refine yY (fun _ _=>Oy m.s.known v _ z I.kn) aG (by rw[x])<|aW aF<|Qn ?_;intro N xk;have⟨K,M,m15,G⟩:=kR xk m10 m11 m12 b4;refine sN<|aK<|Wk<|sN<|Ws ?_;obtain⟨a,P,ho⟩:=fH (iP l);refine Wl<|av (pt g1)<|Lv (au v.o) (aL m15.aH 0)<|Lv (au a) gH<|av (au a)<|aC<|Ws<|ay<|av (pt p)<|av (au a)<|av (pt p)<|av (pt p)<|av (pt p)<|Lv (pf p a) (jC 6 1) ?_;by_cases C:(m.s.inn a)=true
   ·refine Lv aG (aL M.aH a ((lZ _ (by omega) (EJ _ (by omega))).trans (M_ Value.bool C)))<|av aF<|av aF<|av (pt p)<|av (au a)<|av (pt p)<|av (pt p)<|av (pf p 6)<|Lv (pf p (a+6)) (jC 6 1) ?_;by_cases D:(m.s.left a)=true
    ·refine Lv aG (aL M.aH (a+6) ((lZ _ (by omega) (KC _ (by omega) (by omega))).trans (M_ Value.bool D)))<|av aG<|aC<|aN<|ay<|av (pt p)<|av (pt p)<|av (au 10)<|aC<|Wr<|sR<|aJ (.tuple #[(pt p),au 10]) ?_;have y:aO v=a:=(by unfold aO; omega);have b:bK m.core v=10:=(by unfold bK; rw[b_ (by rw[l]; decide),b_ (by rw[show mI m.core.known v=false from u]; decide),b_ (by rw[show dD m.core.known v=true from x]; decide),y]; exact d_ (.inr D));have q:dN m.core v=m.core:=(by unfold dN; rw[b_ (by rw[b]; decide)]);exact⟨p,m,by rw[b],q.symm,K,G⟩
    rw[U_]at D;refine Lv aF (aL M.aH (a+6) ((lZ _ (by omega) (KC _ (by omega) (by omega))).trans (M_ Value.bool D)))<|av aF<|aC<|aK<|Wk<|sN<|ay<|av (pt p)<|mE (acr m p _ K.ldg (by have:=I.nn; have e:m.core.nn=m.s.nn:=rfl; omega) K.bt) ?_;rintro e w3 ⟨f,F,J,R,hL2,Q⟩;refine⟨(pt f),J,?_⟩;clear J;have⟨m18,b6⟩:=fD Q m15 G;have E:ada F.core T:=(by rw[R]; exact I);refine av (pt f)<|aC<|Ws ?_;have aof:=hL2;refine Wl<|av (pt f)<|Lv (.agg (aA 14 (bU v))) (fP m18.aH 0)<|mE (acX F N.heap.size f a v _ aof Q.size P ho (by have h9:F.s.nn<=33:=E.nn; omega) (m_ E.gn hT) (fun i hi=>m_ (E.rn i hi) hT) E.tn E.dx z l E.may) ?_;rintro e X ⟨J,hbd,hL3⟩;refine⟨au (dS m.core v),by rw[<- R]; exact J,?_⟩;clear J;rw[R]at hL3;have b8:Below N.heap.size N X:=Q.trans hbd;have b7:Below w.heap.size w X:=b6.trans (hbd.mono (m_ (A_ _) G.size));have m19:vP X B p m:=K.up b8;refine av (au (dS m.core v))<|aC<|Ws<|ay<|av (au (dS m.core v)) ?_;by_cases H:(dS m.core v)=0
    ·refine Lv aF (jP H)<|aC<|aK<|Wk<|sN<|Ws ?_;obtain⟨d,hc3,k⟩:=hL3 H;have hMc:=k.c;have hMn:=k.n;have hMg:=k.g;have hMt:=k.tc;have aog:=k.t;have hMr:=k.r;have ek3:d.s.known=m.s.known:=(by show d.core.known=_; rw[hc3,qc]; rfl);have hk3:=I.kn a P;have hk3:0<=d.s.known a/\d.s.known a<1099511627776:=(by rw[ek3]; exact hk3);have lp2:=k.pB;have sw1:=G.size;refine jV [0,1,2,3,4,5,8,9,10,6,7,11,12] [0,0,0,0,0,0,4,0,0,0,0,0,3] [(12,6,[6])] fun pQ dR iG => ?_;have⟨V,m21,m22,m23,m24,nk,b9⟩:=jQ dR hMc hMn hMg hMt aog hMr b7;refine bf (pt f)<|bf (au a)<|bf (pt f)<|bf (pt f)<|bf (pf f 12)<|Rp (pf f (a+12)) (fun _=>jC 6 1)<|bf (pt f)<|bf (pt f)<|bf (pf f 12)<|Rs (aD (d.s.known a)) (aL V.aH (a+12) (lZ _ (by omega) (kr _ (by omega) (by omega)))) ?_;refine Rp (aD (d.s.known a+1)) (fun _=>eO)<|Rp (pf f (a+12)) (fun _=>jC 6 1)<|gQ<|jd V (a+12) (aD (d.s.known a+1)) fun w5 og s8 z2 => ?_;have fV:=gZ s8 V.ty;have⟨oh,om,nI,oF,lX⟩:=sj fV m21 m22 m23 m24 nk;have b10:=s8.below b9 b9.size (by omega);refine Ln<|bS<|ay<|av (pt f)<|av (pt f)<|av (au 0)<|aC<|Wr<|aJ (.tuple #[(pt f),au 0]) ?_;have y:aO v=a:=(by unfold aO; omega);have b:bK m.core v=0:=by unfold bK; rw[b_ (by rw[l]; decide),b_ (by rw[show mI m.core.known v=false from u]; decide),b_ (by rw[show dD m.core.known v=true from x]; decide),y]; rw[b_ (show ¬ (m.core.inn a=false\/m.core.left a=true)from fun h=>h.elim (fun h=>by rw[show m.core.inn a=true from C]at h; cases h) (fun h=>by rw[show m.core.left a=false from D]at h; cases h))]; exact H
     have hfin:vP w5 N.heap.size f { d with s := { d.s with known:=aI d.s.known a (d.s.known a+1) } } := { c:=og.to (QJ d P rfl _),n:=oh,g:=om,tc:=nI,t:=oF,r:=lX,pB:=k.pB,tB:=k.tB,bn:=k.bn,bg:=k.bg,bt:=k.bt,br:=k.br };refine⟨f,{ d with s := { d.s with known:=aI d.s.known a (d.s.known a+1) } },by rw[b],?_,hfin.mono (by have:=L.pB; have:=lpp; omega),b10⟩;unfold dN; rw[d_ b]; unfold G9; rw[y,qc,<- hc3,show m.core.known=d.s.known from ek3.symm]; rfl
    refine Lv aG (mY H)<|aC<|aN<|ay<|av (pt p)<|av (au (dS m.core v))<|av (pt p)<|av (au (dS m.core v))<|aC<|Wr<|sR<|aJ (.tuple #[(pt p),au (dS m.core v)]) ?_;have y:aO v=a:=(by unfold aO; omega);have b:bK m.core v=dS m.core v:=by unfold bK; rw[b_ (by rw[l]; decide),b_ (by rw[show mI m.core.known v=false from u]; decide),b_ (by rw[show dD m.core.known v=true from x]; decide),y]; rw[b_ (show ¬ (m.core.inn a=false\/m.core.left a=true)from fun h=>h.elim (fun h=>by rw[show m.core.inn a=true from C]at h; cases h) (fun h=>by rw[show m.core.left a=false from D]at h; cases h))]
    have q:dN m.core v=m.core:=(by unfold dN; rw[b_ (by rw[b]; exact H)]);exact⟨p,m,by rw[b],q.symm,m19,b7⟩
   rw[U_]at C;refine Lv aF (aL M.aH a ((lZ _ (by omega) (EJ _ (by omega))).trans (M_ Value.bool C)))<|av aG<|av aG<|bX<|bX<|bX<|bX<|bX<|bX<|bX<|av aG<|aC<|aN<|ay<|av (pt p)<|av (pt p)<|av (au 10)<|aC<|Wr<|sR<|aJ (.tuple #[(pt p),au 10]) ?_;have y:aO v=a:=(by unfold aO; omega);have b:bK m.core v=10:=(by unfold bK; rw[b_ (by rw[l]; decide),b_ (by rw[show mI m.core.known v=false from u]; decide),b_ (by rw[show dD m.core.known v=true from x]; decide),y]; exact d_ (.inl C));have q:dN m.core v=m.core:=(by unfold dN; rw[b_ (by rw[b]; decide)]);exact⟨p,m,by rw[b],q.symm,K,G⟩
  rw[U_]at x;refine yY (fun _ _=>Oy m.s.known v _ z I.kn) aF (by rw[x])<|aW aG<|Qn ?_;intro wb4 AL;have⟨m32,b11⟩:=fD AL m10 b4;refine sN<|aN<|ay<|av (pt p)<|av (pt p)<|av (au 13)<|aC<|Wr<|sR<|aJ (.tuple #[(pt p),au 13]) ?_;have b:bK m.core v=13:=by unfold bK; rw[b_ (by rw[l]; decide),b_ (by rw[show mI m.core.known v=false from u]; decide)]; exact d_ x
  have q:dN m.core v=m.core:=by unfold dN; rw[b_ (by rw[b]; decide)]
  exact⟨p,m,by rw[b],q.symm,m32,b11⟩
 rw[U_]at l;refine dZ (GR v _ z) aF (by rw[l]) ?_;intro w6 hb2;have⟨oq,b12⟩:=fD hb2 F Y;refine av aG<|aC<|aN<|ay<|av (pt p)<|av (pt p)<|av (au 1)<|aC<|Wr<|sR<|aJ (.tuple #[(pt p),au 1]) ?_;have b:bK m.core v=1:=by unfold bK; exact d_ l
 have q:dN m.core v=m.core:=by unfold dN; rw[b_ (by rw[b]; decide)]
 exact⟨p,m,by rw[b],q.symm,oq,b12⟩
end Go.Proofs.YtahbiajdgealnaaGreatDoor
