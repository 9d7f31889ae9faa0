/-
  What the proof of the law rests on, part 4: walks of functions, and plain laws; each says its conditions itself.
-/
import Derived.Test.YtcbedgfikejkoaaDoorRows
import Derived.OrdersIn
import Derived.Test.YtcbedgfikejkoaaDoorZA3
set_option maxHeartbeats 1600000
set_option linter.unusedVariables false
set_option linter.unusedSimpArgs false
namespace Go.Proofs.YtcbedgfikejkoaaDoor
open Go.RowKit Rt
open Fx (eT dI eY bf eX eU eG dM eZ gW dO gX eP gH gY Lv sN Ln Ws Qv Wl Rp Wc Qs Wr Sb Lk Wk rC rV sR Rs Rn Rd Rk Wb Wx Wo yE Wt pJ Qn zQ tL yt zG wT zT zR iB zV jC nY rR zW yu zU yF yx rv aA aL bE aI ev bT Stp bV aO flat fH Mp dK aT fq gF bA down fM iW jk kU bQ bD cells_one jD aX pV unseen jl iQ cu bX dA cZ dh iE iT qL gI)
theorem xV{ks:List (Option IntKind)}{x y:Nat->Value}(h:Fx.Kd ks y)(e : ∀ j,j<ks.length->x j=y j):Fx.Kd ks x:=fun i a=>by rw[e i a]; exact h i a
namespace Rt
theorem Ej{v:EvM}(h:jQ v):jQ (Mr v):=by
 have z:je 0:=⟨by decide,by decide⟩
 have y:uz 0:=⟨by decide,by decide⟩
 exact⟨h.o,h.seq,h.deps,h.kind,z,y,y,z,z⟩
theorem El{v:EvM}(h:jQ v):jQ (kP v):=by
 have z:je 0:=⟨by decide,by decide⟩
 have y:uz 0:=⟨by decide,by decide⟩
 unfold kP
 split
 ·exact⟨h.o,h.seq,h.deps,h.kind,z,h.dst,y,h.req,h.of⟩
 split
 ·exact⟨h.o,h.seq,h.deps,h.kind,z,h.dst,y,h.req,h.of⟩
 split
 ·exact⟨h.o,h.seq,h.deps,h.kind,z,h.dst,y,z,h.of⟩
 split
 ·exact⟨h.o,h.seq,h.deps,h.kind,h.node,h.dst,h.bM,z,z⟩
 split
 ·exact⟨h.o,h.seq,h.deps,h.kind,z,y,y,h.req,h.of⟩
 split
 ·exact⟨h.o,h.seq,h.deps,h.kind,h.node,y,h.bM,h.req,h.of⟩
 exact h
end Rt
set_option maxHeartbeats 2000000 in
theorem Bc(v:EvM)(w:World)(G:jQ v) :
 Calls Tryd.prog 41 #[.agg (aA 14 (dF v))] w fun e w'=>e = .returned (.bool (bZ v))/\Below w.heap.size w w':=by
 refine Kent Tryd.func41 55 ?_
 refine ay<|rG fun g w1 oI t s1 z1 => ?_
 have B:=aR s1.old (Below.refl w.heap.size w)
 have wY:=gK oI
 have xK:=t.lt
 refine av aF<|aD<|Ws<|Ws ?_
 -- region 1 draws
 refine kV<|bC ((pt g))<|Qv (au v.o) (fun f d=>aP (t.cb d) 0) ?_
 by_cases l:(iY v.o)=true
 ·obtain⟨a,ha,ea⟩:=dV l
  refine mK (fun _ _=>uK v.o _) aG (by rw[l])<|bC aF<|bC aF<|bC ((pf g 1))<|Qv (aC v.seq) (fun f d=>aP (t.cb d) 1) ?_
  by_cases N:v.seq<1
  ·refine Qv aG (fun f d=>mD N)<|bC aG<|bC aG<|aU<|aU<|aU<|bC aG<|bC aG<|aU<|aU<|aU<|aU<|aU<|aU<|aU<|aU<|aU<|aU<|bC aG<|Qn ?_
   intro VI sj
   have⟨k,U⟩:=gU sj t B
   refine sN<|aQ<|ay<|av aF<|aD<|Wr<|sR<|aM aF ?_
   have k:decide (1<=v.seq)=false:=decide_eq_false (by omega)
   exact⟨lN (Eq.symm (by unfold bZ; rw[l,k]; try rfl)),U⟩
  refine Qv aF (fun f d=>mE N)<|bC aF<|bC aF<|bC ((pf g 1))<|Qv (aC v.seq) (fun f d=>aP (t.cb d) 1) ?_
  by_cases O:1099511627776<=v.seq
  ·refine Qv aG (fun f d=>pO O)<|bC aG<|bC aG<|aU<|aU<|aU<|aU<|aU<|aU<|aU<|aU<|aU<|aU<|bC aG<|Qn ?_
   intro VJ su
   have⟨m,V⟩:=gU su t B
   refine sN<|aQ<|ay<|av aF<|aD<|Wr<|sR<|aM aF ?_
   have k:decide (1<=v.seq)=true:=decide_eq_true (by omega)
   have m:decide (v.seq<1099511627776)=false:=decide_eq_false (by omega)
   exact⟨lN (Eq.symm (by unfold bZ; rw[l,k,m]; try rfl)),V⟩
  refine Qv aF (fun f d=>oz O)<|bC aF<|bC aF<|bC ((pt g))<|Qv (au v.o) (fun f d=>aP (t.cb d) 0)<|Qv (au a) (fun f d=>jc)<|bC ((pf g 2))<|Qv ((pf g (a+2))) (fun f d=>xH 6 1)<|Qv (aC (v.deps a)) (fun f d=>aP (t.cb d) (a+2) (nQ _ (by omega) (by omega)))<|bC ((pf g 1))<|Qv (aC v.seq) (fun f d=>aP (t.cb d) 1)<|Qv (aC (v.seq-1)) (fun f d=>jc) ?_
  by_cases y:(v.deps a)=(v.seq-1)
  ·refine Qv aF (fun f d=>ng y)<|bC aF<|Qn ?_
   intro VK sw
   have⟨q,W⟩:=gU sw t B
   refine sN<|aN<|Wk<|sN<|Ws<|ay<|av ((pf g 2))<|Lv (.slice (some ⟨g,2,none⟩) (6) (6)) (Fx.F3 rfl rfl Tryd.underlying31 (s:=1) (by kernel_rfl))<|fC (Wq v.deps g 2 _ (fun j x=>by have Q:=q.aK (2+j) (by omega); rw[Nat.zero_add]at Q; rw[Q,nQ v (p:=2+j) (j:=j) (by omega) x]; rfl)) _ rfl ?_
   intro w2 hb1
   have⟨r,I⟩:=gU hb1 q W
   by_cases A:1099511627776<=(F5 v.deps 5)
   ·refine Lv aG (pO A)<|aD<|aQ<|ay<|av aF<|aD<|Wr<|sR<|aM aF ?_
    have k:decide (1<=v.seq)=true:=decide_eq_true (by omega)
    have m:decide (v.seq<1099511627776)=true:=decide_eq_true (by omega)
    have q:decide (v.deps (v.o-1).toNat=v.seq-1)=true:=decide_eq_true (by rw[show(v.o-1).toNat=a by omega]; exact y)
    have r:=TF A
    exact⟨lN (Eq.symm (by unfold bZ; rw[l,k,m,q,r]; try rfl)),I⟩
   refine Lv aF (oz A)<|aD<|aN<|Wk<|sN<|ay<|Lv (.agg (aA 14 (dF v))) (jh r.aK 0)<|av (.agg (aA 14 (bE (fun c=>if c<1 then au 0 else if c<8 then aC 0 else if c<9 then .int .u8 (0)else if c<10 then aC 0 else if c<12 then au 0 else aC 0) 0 14 (dF v))))<|rG fun z w3 P u s6 z2 => ?_
   have⟨C,Z⟩:=gU s6.old r I
   have zN:=iC P I.size
   have Rf:=bS P r.lt
   have Cg:=u.lt
   refine av ((pt z))<|aD<|Ws ?_
   have L:aL w3 z 14 (dF v) 124:=u.congr (fun j x=>by rcases j with _|_|_|_|_|_|_|_|_|_|_|_|_|_|j <;> first|rfl|omega)
   -- region 6 draws
   refine yx [0,1,2,3,4,5,7,9,11,13,6,8,10,12,14,15,16,17,18] [0,3,0,0,0,0,4,0,4,0,4,0,4,0,4,0,0,0,0] (Fx.rJ [124]) Fx.rJ.refl Fx.rJ.trans (dY := [(2,1,[1]),(3,1,[2,1]),(4,1,[2,1]),(5,1,[2,1]),(7,1,[2,1]),(9,1,[2,1]),(11,1,[2,1]),(13,1,[2,1]),(6,1,[2,1]),(8,1,[2,1]),(10,1,[2,1]),(12,1,[2,1]),(14,1,[2,1]),(15,1,[2,1]),(16,1,[2,1]),(17,1,[2,1]),(18,1,[1])]) (by kernel_rfl) (by kernel_rfl) (by kernel_rfl) (by kernel_rfl) (by kernel_rfl) fun rZ gy iF => ?_
   have⟨m9,m10,M⟩:=kM gy C L Z
   refine aW ((pt z))<|gG<|ko (TG v z _ m10) ?_
   rintro e w4 ⟨b,v',E,R,S,F,hkv⟩
   have H:=m9.eH S (by omega)
   have J:=S.below M M.size (by omega)
   cases b
   ·refine⟨.bool false,E,?_⟩
    clear E
    refine Ln<|aW aF<|Rk (by rfl)<|Rk (by rfl)<|Rk (by rfl)<|Rk (by rfl)<|Rk (by rfl)<|Rk (by rfl)<|Rk (by rfl)<|Rk (by rfl)<|Rk (by rfl)<|Rk (by rfl)<|Rk (by rfl)<|Rk (by rfl)<|Rk (by rfl)<|Rk (by rfl)<|aW aF<|aW aF<|bG<|Wr<|aM aF ?_
    have k:decide (1<=v.seq)=true:=decide_eq_true (by omega)
    have m:decide (v.seq<1099511627776)=true:=decide_eq_true (by omega)
    have q:decide (v.deps (v.o-1).toNat=v.seq-1)=true:=decide_eq_true (by rw[show(v.o-1).toNat=a by omega]; exact y)
    have r:=Cy A
    have u:sH v=true->iH v=false:=fun h=>by rw[wL h,<- F]
    have C:(sH v&&iH v)=false:=by cases h:sH v with|false=>rfl|true=>exact u h
    have L:(true&&true&&true&&true&&true&&sH v&&iH v)=false:=C
    exact⟨lN (Eq.symm (by unfold bZ; rw[l,k,m,q,r,L]; try rfl)),J⟩
   refine⟨.bool true,E,?_⟩
   clear E
   rw[hkv rfl]at R
   refine Ln<|aW aG<|aW ((pt z))<|aW ((pt z))<|aW ((pt z))<|aW ((pt g))<|aW ((pf g 1))<|aW ((pf g 2))<|aW ((pf g 8))<|Rs (.agg (aA 14 (dF (kP v)))) (jh R.aK 0) ?_
   refine Rs (au v.o) (aP H.aK 0) ?_
   refine Rs (aC v.seq) (aP H.aK 1) ?_
   refine Rs (.agg (aA 6 (rv .u64 v.deps))) (jh H.aK 2 (fun j x=>nQ _ (by omega) x)) ?_
   refine Rs (.int .u8 (v.kind)) (aP H.aK 8) ?_
   refine aW (.agg (aA 14 (bE (bE (bE (bE (fun c=>if c<1 then au 0 else if c<8 then aC 0 else if c<9 then .int .u8 (0)else if c<10 then aC 0 else if c<12 then au 0 else aC 0) 0 1 (fun _=>au v.o)) 1 1 (fun _=>aC v.seq)) 2 6 (rv .u64 v.deps)) 8 1 (fun _ => .int .u8 (v.kind))))) ?_
   by_cases D : ∀ i,i<14->(dF (kP v)) i=(bE (bE (bE (bE (fun c=>if c<1 then au 0 else if c<8 then aC 0 else if c<9 then .int .u8 (0)else if c<10 then aC 0 else if c<12 then au 0 else aC 0) 0 1 (fun _=>au v.o)) 1 1 (fun _=>aC v.seq)) 2 6 (rv .u64 v.deps)) 8 1 (fun _ => .int .u8 (v.kind))) i
   ·refine Rp aG (fun f=>Fx.vk (n:=14) (ks := [(some .i64),(some .u64),(some .u64),(some .u64),(some .u64),(some .u64),(some .u64),(some .u64),(some .u8),(some .u64),(some .i64),(some .i64),(some .u64),(some .u64)]) (X:=dF (kP v)) (Y:=bE (bE (bE (bE (fun c=>if c<1 then au 0 else if c<8 then aC 0 else if c<9 then .int .u8 (0)else if c<10 then aC 0 else if c<12 then au 0 else aC 0) 0 1 (fun _=>au v.o)) 1 1 (fun _=>aC v.seq)) 2 6 (rv .u64 v.deps)) 8 1 (fun _ => .int .u8 (v.kind))) 12 true rfl rfl rfl (Fx.Oh D) (wG (El G)) (xV (wG (Ej G)) (fun j x=>by rcases j with _|_|_|_|_|_|_|_|_|_|_|_|_|_|j <;> first|rfl|exact absurd x (by simp))) rfl (by kernel_rfl) (by kernel_rfl) (by kernel_rfl) (by kernel_rfl) (by kernel_rfl))<|aW aG<|aW aG<|bG<|Wr<|aM aG ?_
    have k:decide (1<=v.seq)=true:=decide_eq_true (by omega)
    have m:decide (v.seq<1099511627776)=true:=decide_eq_true (by omega)
    have q:decide (v.deps (v.o-1).toNat=v.seq-1)=true:=decide_eq_true (by rw[show(v.o-1).toNat=a by omega]; exact y)
    have r:=Cy A
    have u:=(Bb F.symm).1 (fun i K=>(D i K).trans (by rcases i with _|_|_|_|_|_|_|_|_|_|_|_|_|_|i <;> first|rfl|omega))
    have C:=(wL u).trans F.symm
    exact⟨lN (Eq.symm (by unfold bZ; rw[l,k,m,q,r,u,C]; try rfl)),J⟩
   refine Rp aF (fun f=>Fx.vk (n:=14) (ks := [(some .i64),(some .u64),(some .u64),(some .u64),(some .u64),(some .u64),(some .u64),(some .u64),(some .u8),(some .u64),(some .i64),(some .i64),(some .u64),(some .u64)]) (X:=dF (kP v)) (Y:=bE (bE (bE (bE (fun c=>if c<1 then au 0 else if c<8 then aC 0 else if c<9 then .int .u8 (0)else if c<10 then aC 0 else if c<12 then au 0 else aC 0) 0 1 (fun _=>au v.o)) 1 1 (fun _=>aC v.seq)) 2 6 (rv .u64 v.deps)) 8 1 (fun _ => .int .u8 (v.kind))) 12 false rfl rfl rfl (Fx.nob D) (wG (El G)) (xV (wG (Ej G)) (fun j x=>by rcases j with _|_|_|_|_|_|_|_|_|_|_|_|_|_|j <;> first|rfl|exact absurd x (by simp))) rfl (by kernel_rfl) (by kernel_rfl) (by kernel_rfl) (by kernel_rfl) (by kernel_rfl))<|aW aF<|aW aF<|bG<|Wr<|aM aF ?_
   have k:decide (1<=v.seq)=true:=decide_eq_true (by omega)
   have m:decide (v.seq<1099511627776)=true:=decide_eq_true (by omega)
   have q:decide (v.deps (v.o-1).toNat=v.seq-1)=true:=decide_eq_true (by rw[show(v.o-1).toNat=a by omega]; exact y)
   have r:=Cy A
   have u:sH v=false:=Bool.eq_false_iff.2 (fun h=>D (fun i K=>((Bb F.symm).2 h i K).trans (by rcases i with _|_|_|_|_|_|_|_|_|_|_|_|_|_|i <;> first|rfl|omega)))
   exact⟨lN (Eq.symm (by unfold bZ; rw[l,k,m,q,r,u]; try rfl)),J⟩
  refine Qv aG (fun f d=>qg y)<|bC aG<|Qn ?_
  intro YI yK
  have b9:=aR yK B
  refine sN<|aQ<|ay<|av aF<|aD<|Wr<|sR<|aM aF ?_
  have k:decide (1<=v.seq)=true:=decide_eq_true (by omega)
  have m:decide (v.seq<1099511627776)=true:=decide_eq_true (by omega)
  have q:decide (v.deps (v.o-1).toNat=v.seq-1)=false:=decide_eq_false (by rw[show(v.o-1).toNat=a by omega]; exact y)
  exact⟨lN (Eq.symm (by unfold bZ; rw[l,k,m,q]; try rfl)),b9⟩
 rw[Bool.not_eq_true]at l
 refine mK (fun _ _=>uK v.o _) aF (by rw[l])<|bC aG<|bC aG<|aU<|aU<|aU<|bC aG<|bC aG<|aU<|aU<|aU<|bC aG<|bC aG<|aU<|aU<|aU<|aU<|aU<|aU<|aU<|aU<|aU<|aU<|bC aG<|Qn ?_
 intro YJ yL
 have T:=aR yL B
 refine sN<|aQ<|ay<|av aF<|aD<|Wr<|sR<|aM aF ?_
 exact⟨lN (Eq.symm (by unfold bZ; rw[l]; try rfl)),T⟩
namespace Rt
def nD(a b:Int):Int:=if b>a then b else a
def vx(X:Nat->Nat->Int):Nat->Value:=fun p=>aC (X (p / 6) (p % 6))
theorem Mv(X:Nat->Nat->Int){i p j:Nat}(a:p=6*i)(b:j<6):vx X (p+j)=rv .u64 (X i) j:=by
 subst a
 show Value.int .u64 (X ((6*i+j) / 6) ((6*i+j) % 6))=aC (X i j)
 rw[show(6*i+j) / 6=i by omega,show(6*i+j) % 6=j by omega]
def sI(c:Int->Int->Int)(X:Nat->Nat->Int):Nat->Nat->Int
 | 0=>X 0
 | k+1=>fun p=>c (sI c X k p) (X (k+1) p)
def Ib(c:Int->Int->Int)(X:Nat->Nat->Int):Nat->Nat->Int
 | 0=>fun _=>0
 | k+1=>sI c X k
def XO(w:World)(a:Option Addr)(n cap:Nat)(X:Nat->Nat->Int):Prop:=0<n->n<=cap /\ ∃ b c,a=some ⟨b,c,none⟩/\gF w b c (6*n) (vx X)
def qE(x:Nat->Int)(k:Nat):Nat->Int:=fun p=>if p<k then x p else 0
theorem F6(x:Nat->Int)(k:Nat):upd (qE x k) k (x k)=qE x (k+1):=by
 funext p; unfold upd qE
 by_cases h:p=k
 ·subst h; rw[if_pos rfl,if_pos (by omega)]
 rw[if_neg h]
 by_cases a:p<k
 ·rw[if_pos a,if_pos (by omega)]
 rw[if_neg a,if_neg (by omega)]
theorem JE(x:Nat->Int):aA 6 (rv .u64 (qE x 6))=aA 6 (rv .u64 x):=Fx.fE fun p a=>congrArg (Value.int .u64) (by unfold qE; rw[if_pos a])
end Rt
-- F7.region is not in this seat
theorem Wu(a b:Int)(w:World) :
 Calls Tryd.prog 83 #[aC a,aC b] w fun e w'=>e = .returned (aC (nD a b))/\w'=w:=by
 refine Kent Tryd.func83 8 ?_
 refine ay<|av (aC 0)<|aD<|ay<|av (aC a)<|av (aC b)<|Lv (aC (nD a b)) (Fx.QD rfl rfl rfl)<|av (aC (nD a b))<|aD<|Wr<|aM (aC (nD a b)) ?_
 exact⟨rfl,rfl⟩
theorem Mw(x y:Nat->Int)(d go c q:Nat)(w:World)(l:q<6)(j:aL w d 1 (fun _ => .func (.func 83) #[] #[]) 147)(f:aL w go 6 (rv .u64 x) 31)(k:aL w c 6 (rv .u64 y) 31) :
 Calls Tryd.prog 88 #[au ((q:Int)),(pt d),(pt go),(pt c)] w fun e w'=>e = .returned (aC (nD (x q) (y q)))/\Below w.heap.size w w':=by
 refine Kent Tryd.func88 14 ?_
 refine ay<|av (aC 0)<|aD<|Ws ?_
 -- region 1 draws
 refine kV<|Qv (.func (.func 83) #[] #[]) (fun b a=>aP (j.cb a) 0)<|bC (au q)<|Qv ((pf go q)) (fun b a=>xH 6 1)<|Qv (aC (x q)) (fun b a=>aP (f.cb a) q)<|bC (au q)<|Qv ((pf c q)) (fun b a=>xH 6 1)<|Qv (aC (y q)) (fun b a=>aP (k.cb a) q)<|zQ (v:=aC (nD (x q) (y q))) (by rfl) (fun b a=>Fx.tZ (args := [aC (x q),aC (y q)]) rfl rfl rfl (all := #[aC (x q),aC (y q)]) rfl Tryd.func83 rfl rfl) rfl (fun b a=>(Wu (x q) (y q) _).mono fun e v2 h=>⟨h.1,by rw[h.2]; exact a⟩) ?_
 refine bC (aC (nD (x q) (y q)))<|Qn ?_
 intro n i
 have⟨m,g⟩:=gU i f (Below.refl w.heap.size w)
 refine sN<|Wr<|aM (aC (nD (x q) (y q))) ?_
 exact⟨rfl,g⟩
theorem F8(x y:Nat->Int)(b go c:Nat)(w:World)(z:aL w b 1 (fun _ => .func (.func 83) #[] #[]) 147)(B:aL w go 6 (rv .u64 x) 31)(C:aL w c 6 (rv .u64 y) 31) :
 Calls Tryd.prog 87 #[.func (.func 88) #[] #[(pt b),(pt go),(pt c)]] w fun e w'=>e = .returned (.agg (aA 6 (rv .u64 (fun p=>nD (x p) (y p)))))/\Below w.heap.size w w':=by
 refine Kent Tryd.func87 14 ?_
 refine ay<|wT (m:=6) (y:=rv .u64 (fun _=>0)) (by rfl) rfl (by kernel_rfl) rfl fun a w1 u D Z z1 => ?_
 have⟨T,W,X,E⟩:=jH Z.old z B C (Below.refl w.heap.size w)
 have wY:=gK u
 have⟨mO,Wv,qF⟩:=BQ u z.lt B.lt C.lt
 have xK:=D.lt
 refine aD<|Ws<|ay<|av (au 0)<|aD<|Wb ?_
 have Y:aL w1 a 6 (rv .u64 (qE (fun p=>nD (x p) (y p)) 0)) 31:=D
 refine Wo (fun f h => ∃ k:Nat,k<=6/\f 0 = .func (.func 88) #[] #[(pt b),(pt go),(pt c)]/\f 2=(pt a)/\f 4=au ((k:Int))/\aL h b 1 (fun _ => .func (.func 83) #[] #[]) 147/\aL h go 6 (rv .u64 x) 31/\aL h c 6 (rv .u64 y) 31/\aL h a 6 (rv .u64 (qE (fun p=>nD (x p) (y p)) k)) 31/\Below w.heap.size w h) (fun f _=>(6-(intOf (f 4)).toNat)) ⟨0,by omega,(by rfl),(by rfl),Fx.ic,T,W,X,Y,E⟩ ?_
 rintro f1 w2 ⟨k,hk,v,d,g,n,o,q,r,l⟩
 refine ay ?_
 by_cases t:(k:Int)<6
 ·refine Lv aG (mD t (hx:=g))<|aD<|Ws<|aQ<|Wk<|sN<|Ws<|Wb<|ay<|aZ g<|av (au k)<|aD<|Wl<|av (au k)<|aZ v<|av (au k)<|tL (by rfl) (Fx.tZ (args := [au ((k:Int))]) rfl rfl rfl (all := #[au ((k:Int)),(pt b),(pt go),(pt c)]) rfl Tryd.func88 rfl rfl) rfl<|(Mw x y b go c k _ (by omega) n o q).mono ?_
  rintro e w3 ⟨A,I⟩
  refine⟨aC (nD (x k) (y k)),by rw[A],?_⟩
  clear A
  have⟨J,K,L,M,s⟩:=mF I n o q r l
  refine Lv ((pf a k)) (xH 6 1 (hx:=d))<|nk M k (aC (nD (x k) (y k))) fun w4 N i z2 => ?_
  have O:aL w4 a 6 (rv .u64 (upd (qE (fun p=>nD (x p) (y p)) k) k (nD (x k) (y k)))) 31:=N.to (Fx.Bz _ _ _ _)
  have P:=J.eH i (by omega)
  have Q:=K.eH i (by omega)
  have R:=L.eH i (by omega)
  have F:=i.below s s.size (by omega)
  refine Ln<|dA<|sN<|Wl<|Lv (au ((k:Int)+1)) (gV (hx:=g))<|av (au ((k:Int)+1))<|Ln ?_
  have S:=O.to (congrArg (rv .u64) (F6 (fun p=>nD (x p) (y p)) k))
  refine iT ⟨k+1,by omega,v,d,Fx.ic,P,Q,R,S,F⟩ ?_
  show(6-(intOf ((au ((k:Int)+1)))).toNat)<_
  simp only[g,intOf]; omega
 refine Lv aF (mE t (hx:=g))<|aD<|Ws<|aN<|Wx<|cZ<|iE<|dh<|sN<|ay<|Lv (.agg (aA 6 (rv .u64 (qE (fun p=>nD (x p) (y p)) k)))) (jh r.aK 0 (ha:=d))<|fI r 0 (ha:=d) fun w5 U j z3 => ?_
 have V:aL w5 a 6 (rv .u64 (qE (fun p=>nD (x p) (y p)) k)) 31:=aO U
 have m22:=n.eH j (by omega)
 have m23:=o.eH j (by omega)
 have m24:=q.eH j (by omega)
 have G:=j.below l l.size (by omega)
 refine aD (Wr (⟨.agg (aA 6 (rv .u64 (qE (fun p=>nD (x p) (y p)) k))),rV Tryd.results87 ⟨_,d,aT V.aK (by kernel_rfl) (by kernel_rfl)⟩,?_⟩))
 have H:k=6:=by omega
 exact⟨by rw[H,JE],G⟩
namespace Rt
def V2(x y:Nat->Int):Nat->Nat->Int
 | 0=>x
 | 1=>y
 | _=>fun _=>0
end Rt
theorem Em(a:Option Addr)(cap:Nat)(w:World) :
 Calls Tryd.prog 82 #[.slice a (0) (cap),.func (.func 83) #[] #[]] w fun e w'=>e = .returned (.agg (aA 6 (rv .u64 (fun _=>0))))/\Below w.heap.size w w':=by
 refine Kent Tryd.func82 26 ?_
 refine ay<|pQ (.func (.func 83) #[] #[]) fun t C j b p E => ?_
 have c:=aR p.old (Below.refl w.heap.size w)
 have u:=gK j
 have A:=b.lt
 refine ni 6 (rv .u64 (fun _=>0)) fun k D f g q F => ?_
 have⟨l,d⟩:=gU q.old b c
 have v:=iC f c.size
 have z:=bS f b.lt
 have B:=g.lt
 refine aD<|Ws<|ay<|av (.slice a (0) (cap))<|av (au 0)<|Lv aG (gT rfl)<|aD<|aQ<|ay<|Lv (.agg (aA 6 (rv .u64 (fun _=>0)))) (Fx.Fp (vs := []) (s:=1) (m:=6) (x:=rv .u64 (fun _=>0)) rfl rfl Tryd.underlying31 (by kernel_rfl) (by kernel_rfl) (by rfl))<|fI g 0 fun r n h G => ?_
 have o:aL r k 6 (rv .u64 (fun _=>0)) 31:=aO n
 have y:=l.eH h (by omega)
 have i:=h.below d d.size (by omega)
 refine aD (Wr (sR (⟨.agg (aA 6 (rv .u64 (fun _=>0))),rV Tryd.results82 ⟨_,rfl,aT o.aK (by kernel_rfl) (by kernel_rfl)⟩,?_⟩)))
 exact⟨rfl,i⟩
theorem En(b off m cap:Nat)(X:Nat->Nat->Int)(w:World)(hcap:m+1<=cap)(hm:m<=1000000)(hx:gF w b off (6*(m+1)) (vx X)) :
 Calls Tryd.prog 82 #[.slice (some ⟨b,off,none⟩) (m+1) (cap),.func (.func 83) #[] #[]] w fun e w'=>e = .returned (.agg (aA 6 (rv .u64 (sI nD X m))))/\Below w.heap.size w w':=by
 have lb:=hx.lt (by omega)
 refine Kent Tryd.func82 26 ?_
 refine ay<|pQ (.func (.func 83) #[] #[]) fun c w1 Q F s1 z1 => ?_
 have⟨T,K⟩:=gU s1.old hx (Below.refl w.heap.size w)
 have wY:=gK Q
 have mO:b≠c:=by rw[Q]; exact Nat.ne_of_lt (hx.lt (by omega))
 have xK:=F.lt
 refine ni 6 (rv .u64 (fun _=>0)) fun r w2 z I s2 z2 => ?_
 have⟨J,Z,L⟩:=kM s2.old T F K
 have zN:=iC z K.size
 have Ww:b≠r:=by rw[z]; exact Nat.ne_of_lt (T.lt (by omega))
 have Ic:=bS z F.lt
 have Cg:=I.lt
 refine aD<|Ws<|ay<|av (.slice (some ⟨b,off,none⟩) (m+1) (cap))<|av (au ((m+1:Nat):Int))<|Lv aF Vq<|aD<|aN<|Wk<|sN<|ay<|av (.slice (some ⟨b,off,none⟩) (m+1) (cap))<|Lv ((pf b off)) (dz 6)<|Lv (.agg (aA 6 (rv .u64 (X 0)))) (jh J 0 (fun j E=>Mv _ (i:=0) (p:=0) (by omega) E))<|ni 6 (rv .u64 (fun _=>0)) fun a w3 A m6 s3 z3 => ?_
 have⟨m7,m8,m9,M⟩:=jH s3.old J Z I L
 have G6:=iC A L.size
 have acY:b≠a:=by rw[A]; exact Nat.ne_of_lt (J.lt (by omega))
 have⟨Mx,MB⟩:=rH A Z.lt I.lt
 have Ie:=m6.lt
 refine fI m6 0 fun w4 m10 x z4 => ?_
 have m11:aL w4 a 6 (rv .u64 (X 0)) 31:=aO m10
 have m12:=m7.eH x (by omega)
 have m13:=m8.eH x (by omega)
 have m14:=m9.eH x (by omega)
 have b4:=x.below M M.size (by omega)
 refine aD<|Ws<|ay<|av (.slice (some ⟨b,off,none⟩) (m+1) (cap))<|Lv (.slice (if cap=1 then some ⟨b,off,none⟩else some ⟨b,off+6,none⟩) (m) (cap-1)) (Fx.sO (j:=1) (b:=b) (off:=off) (len:=m+1) (cap:=cap) (s:=6) rfl rfl rfl Tryd.underlying145 (by kernel_rfl) (by omega) rfl rfl rfl)<|av (au m)<|av (au 0)<|aD<|Wb ?_
 have m15:aL w4 a 6 (rv .u64 (sI nD X 0)) 31:=m11
 refine Wo (fun f n => ∃ k:Nat,k<=m/\f 3=(pt c)/\f 4=(pt r)/\f 5=(pt a)/\f 16 = .slice (if cap=1 then some ⟨b,off,none⟩else some ⟨b,off+6,none⟩) (m) (cap-1)/\f 17=au ((m:Int))/\f 18=au ((k:Int))/\gF n b off (6*(m+1)) (vx X)/\aL n c 1 (fun _ => .func (.func 83) #[] #[]) 147/\aL n r 6 (rv .u64 (fun _=>0)) 31/\aL n a 6 (rv .u64 (sI nD X k)) 31/\Below w.heap.size w n) (fun f _=>(m-(intOf (f 18)).toNat)) ⟨0,by omega,(by rfl),(by rfl),(by rfl),(by rfl),Fx.ic,Fx.ic,m12,m13,m14,m15,b4⟩ ?_
 rintro f1 w5 ⟨k,hk,R,C,t,S,D,g,u,G,H,v,o⟩
 refine ay ?_
 by_cases P:(k:Int)<(m:Int)
 ·refine Lv aG (mD P (hx:=g) (hy:=D))<|aD<|Ws<|aQ<|Wk<|sN<|Ws<|Wb<|ay<|Lv ((pf b (6*k+off+6))) (dz 6 (hx:=(S.trans (congrArg (fun q=>Value.slice q (m) (cap-1)) (if_neg (by omega))))) (hi:=g))<|Lv (.agg (aA 6 (rv .u64 (X (k+1))))) (jh u (6*k+6) (fun j E=>Mv _ (i:=k+1) (p:=6*k+6) (by omega) E))<|ni 6 (rv .u64 (fun _=>0)) fun d w6 B U s5 z5 => ?_
  have⟨m21,m22,m23,m24,N⟩:=mF s5.old u G H v o
  have J2:=iC B o.size
  have Zj:b≠d:=by rw[B]; exact Nat.ne_of_lt (u.lt (by omega))
  have⟨Zk,Zl,Zm⟩:=BQ B G.lt H.lt v.lt
  have JG:=U.lt
  refine fI U 0 fun w7 sD h z6 => ?_
  have V:aL w7 d 6 (rv .u64 (X (k+1))) 31:=aO sD
  have sQ:=m21.eH h (by omega)
  have W:=m22.eH h (by omega)
  have tQ:=m23.eH h (by omega)
  have Y:=m24.eH h (by omega)
  have b7:=h.below N N.size (by omega)
  refine aD<|Wl<|Lv (.func (.func 88) #[] #[(pt c),(pt a),(pt d)]) (Fx.iV (us := []) (vs := [(pt c),(pt a),(pt d)]) rfl rfl (Fx.Qq R t rfl))<|fC (F8 (sI nD X k) (X (k+1)) c a d _ W Y V) _ rfl ?_
  intro w8 hb1
  have⟨mP,m32,oK,nZ,qP,O⟩:=vv hb1 sQ W tQ Y V b7
  refine fI nZ 0 (ha:=t) fun w9 qQ l z7 => ?_
  have vG:aL w9 a 6 (rv .u64 (fun p=>nD ((sI nD X k) p) ((X (k+1)) p))) 31:=aO qQ
  have uo:=mP.eH l (by omega)
  have qR:=m32.eH l (by omega)
  have wC:=oK.eH l (by omega)
  have qU:=qP.eH l (by omega)
  have b9:=l.below O O.size (by omega)
  refine Ln<|dA<|sN<|Wl<|Lv (au ((k:Int)+1)) (gV (hx:=g))<|av (au ((k:Int)+1))<|Ln<|iT ⟨k+1,by omega,R,C,t,S,(D.trans Fx.ic),Fx.ic,uo,qR,wC,vG,b9⟩ ?_
  show(m-(intOf ((au ((k:Int)+1)))).toNat)<_
  simp only[g,intOf]; omega
 refine Lv aF (mE P (hx:=g) (hy:=D))<|aD<|Ws<|aN<|Wx<|cZ<|iE<|dh<|sN<|ay<|Lv (.agg (aA 6 (rv .u64 (sI nD X k)))) (jh v.aK 0 (ha:=t))<|fI H 0 (ha:=C) fun zI vH y z8 => ?_
 have qV:aL zI r 6 (rv .u64 (sI nD X k)) 31:=aO vH
 have rO:=u.eH y (by omega)
 have uq:=G.eH y (by omega)
 have sF:=v.eH y (by omega)
 have b10:=y.below o o.size (by omega)
 refine aD (Wr (⟨.agg (aA 6 (rv .u64 (sI nD X k))),rV Tryd.results82 ⟨_,C,aT qV.aK (by kernel_rfl) (by kernel_rfl)⟩,?_⟩))
 have ek:k=m:=by omega
 exact⟨by rw[ek],b10⟩
theorem F9(a:Option Addr)(n cap:Nat)(X:Nat->Nat->Int)(w:World)(g:n<=1000000)(h:XO w a n cap X) :
 Calls Tryd.prog 82 #[.slice a n cap,.func (.func 83) #[] #[]] w fun e w'=>e = .returned (.agg (aA 6 (rv .u64 (Ib nD X n))))/\Below w.heap.size w w':=by
 cases n with
 | zero=>exact Em a cap w
 | succ m=>obtain⟨c,b,f,rfl,d⟩:=h (by omega); exact En b f m cap X w c (by omega) d
theorem TH{w w':World}{a:Option Addr}{n cap:Nat}{X:Nat->Nat->Int}(h:XO w a n cap X)(f:Below w.heap.size w w'):XO w' a n cap X:=fun d=>by
 obtain⟨g,b,i,e,c⟩:=h d
 exact⟨g,b,i,e,c.below f (c.lt (by omega))⟩
theorem TI(a:Option Addr)(n cap:Nat)(X:Nat->Nat->Int)(w:World)(k:n<=1000000)(h:XO w a n cap X) :
 Calls Tryd.prog 71 #[.slice a (n) (cap)] w fun e w'=>e = .returned (.agg (aA 6 (rv .u64 (Ib nD X n))))/\Below w.heap.size w w':=by
 refine Kent Tryd.func71 5 ?_
 refine ay<|wT (m:=6) (y:=rv .u64 (fun _=>0)) (by rfl) rfl (by kernel_rfl) rfl fun i v g d q z => ?_
 have b:=aR q.old (Below.refl w.heap.size w)
 have t:=gK g
 have u:=d.lt
 refine aD<|ay<|av (.slice a (n) (cap))<|fC (F9 a n cap X _ k (TH h b)) _ rfl ?_
 intro x j
 have⟨l,c⟩:=gU j d b
 refine fI l 0 fun s o r A => ?_
 have p:aL s i 6 (rv .u64 (Ib nD X n)) 31:=aO o
 have f:=r.below c c.size (by omega)
 refine aD (Wr (⟨.agg (aA 6 (rv .u64 (Ib nD X n))),rV Tryd.results71 ⟨_,rfl,aT p.aK (by kernel_rfl) (by kernel_rfl)⟩,?_⟩))
 exact⟨rfl,f⟩
namespace Rt
theorem Wy(x y:Nat->Int):bE (bE (fun j=>rv .u64 (fun _=>0) (j % 6)) (0*6) 6 (rv .u64 x)) (1*6) 6 (rv .u64 y)=vx (V2 x y):=by
 funext p
 unfold bE
 by_cases b:1*6<=p/\p<1*6+6
 ·rw[if_pos b]
  show _=Value.int .u64 (V2 x y (p / 6) (p % 6))
  rw[show p / 6=1 by omega,show p-1*6=p % 6 by omega]; rfl
 rw[if_neg b]
 by_cases a:0*6<=p/\p<0*6+6
 ·rw[if_pos a]
  show _=Value.int .u64 (V2 x y (p / 6) (p % 6))
  rw[show p / 6=0 by omega,show p-0*6=p % 6 by omega]; rfl
 rw[if_neg a]
 show _=Value.int .u64 (V2 x y (p / 6) (p % 6))
 obtain⟨q,c⟩ : ∃ q,p / 6=q+2:=⟨p / 6-2,by omega⟩
 rw[c]; rfl
end Rt
-- F7.New is not in this seat
-- (*F7.Wz).Of is not in this seat
-- (*F7.Wz).Told is not in this seat
namespace Rt
def hasB(K:Nat->Int)(o a:Int):Bool:=iY o&&decide (0<a)&&decide (a<=K (o-1).toNat)
theorem Bd{a b:Nat->Int}:AL a b=true <-> ∀ i,i<6->rv .u64 (fun p=>nD (a p) (b p)) i=rv .u64 b i:=by
 unfold AL
 rw[List.all_eq_true]
 have e : ∀ i,rv .u64 (fun p=>nD (a p) (b p)) i=rv .u64 b i<->a i<=b i:=fun i=>by
  show Value.int .u64 (nD (a i) (b i))=aC (b i)<->_
  simp only[Value.int.injEq,true_and]; unfold nD; split <;> omega
 constructor
 ·intro h i c; have:=h i (List.mem_range.2 c); rw[e]; exact of_decide_eq_true this
 intro h i c; have:=h i (List.mem_range.1 c); rw[e]at this; exact decide_eq_true this
def Kr(K:Nat->Int):Prop := ∀ i,i<6->je (K i)
theorem Kr.kd{K:Nat->Int}(h:Kr K):Fx.Kd (List.replicate 6 (some .u64)) (rv .u64 K):=Fx.Kk fun i a=>Fx.nK (h i a)
theorem Kr.mx{K L:Nat->Int}(h:Kr K)(b:Kr L):Kr (fun p=>nD (K p) (L p)):=fun i a=>by
 have c:=h i a; have d:=b i a; show je (nD (K i) (L i)); unfold nD; split <;> assumption
end Rt
theorem OY{w:World}{g:Nat}{T:TypeId}{x:Nat->Value}(D K:Nat->Int)(h:aL w g (2*6) x T)(e:x=vx (V2 D K)) :
 Calls Tryd.prog 71 #[bJ g 2 2] w fun e w'=>e = .returned (.agg (aA 6 (rv .u64 fun p=>nD (D p) (K p))))/\Below w.heap.size w w' :=
 TI (some ⟨g,0,none⟩) 2 2 (V2 D K) w (by omega) (fun _=>⟨Nat.le_refl _,g,0,rfl,(h.to e).aK⟩)
theorem CB(n:Int)(w:World) :
 Calls Tryd.prog 40 #[au n] w fun e w'=>e = .returned (.bool (iY n))/\w'=w:=by
 refine Kent Tryd.func40 9 ?_
 refine ay<|av aF<|aD<|ay<|av (au n) ?_
 by_cases a:1<=n
 ·refine Lv aG (pO a)<|av aG<|av (au n) ?_
  by_cases b:n<=6
  ·refine Lv aG (pK b)<|av aG<|av aG<|aD<|Wr<|aM aG ?_
   exact⟨lN (by simp only[iY]; first|(symm; simp; omega)|(symm; simp; done)),rfl⟩
  refine Lv aF (qd b)<|av aF<|av aF<|aD<|Wr<|aM aF ?_
  exact⟨lN (by simp only[iY]; first|(symm; simp; omega)|(symm; simp; done)),rfl⟩
 refine Lv aF (oz a)<|av aF<|dL<|dL<|av aF<|av aF<|aD<|Wr<|aM aF ?_
 exact⟨lN (by simp only[iY]; first|(symm; simp; omega)|(symm; simp; done)),rfl⟩
theorem Rh(K:Nat->Int)(o q:Int)(w:World) :
 Calls Tryd.prog 59 #[.agg (aA 6 (rv .u64 K)),au o,aC q] w fun e w'=>e = .returned (.bool (hasB K o q))/\Below w.heap.size w w':=by
 refine Kent Tryd.func59 21 ?_
 refine ay<|rG fun k s j i l t => ?_
 have f:=aR l.old (Below.refl w.heap.size w)
 have p:=gK j
 have r:=i.lt
 refine av aF<|aD<|ay<|av (au o) ?_
 by_cases b:(iY o)=true
 ·obtain⟨a,n,m⟩:=dV b
  refine lJ (CB o _) aG (by rw[b])<|av aG<|av (aC q) ?_
  by_cases c:0<q
  ·refine Lv aG (zX c)<|av aG<|av aG<|av (au o)<|Lv (au a) jc<|Lv ((pf k a)) (xH 6 1)<|Lv (aC (K a)) (aP i.aK a)<|av (aC q) ?_
   by_cases g:q<=(K a)
   ·refine Lv aG (pO g)<|av aG<|av aG<|aD<|Wr<|aM aG ?_
    have d:decide (0<q)=true:=decide_eq_true c
    have h:decide (q<=K (o-1).toNat)=true:=decide_eq_true (by rw[show(o-1).toNat=a by omega]; exact g)
    exact⟨lN (Eq.symm (by unfold hasB; rw[b,d,h]; try rfl)),f⟩
   refine Lv aF (oz g)<|av aF<|av aF<|aD<|Wr<|aM aF ?_
   have d:decide (0<q)=true:=decide_eq_true c
   have h:decide (q<=K (o-1).toNat)=false:=decide_eq_false (by rw[show(o-1).toNat=a by omega]; exact g)
   exact⟨lN (Eq.symm (by unfold hasB; rw[b,d,h]; try rfl)),f⟩
  refine Lv aF (zY c)<|av aF<|av aF<|dL<|dL<|dL<|dL<|dL<|dL<|av aF<|av aF<|aD<|Wr<|aM aF ?_
  have d:decide (0<q)=false:=decide_eq_false c
  exact⟨lN (Eq.symm (by unfold hasB; rw[b,d]; try rfl)),f⟩
 rw[Bool.not_eq_true]at b
 refine lJ (CB o _) aF (by rw[b])<|av aF<|dL<|dL<|av aF<|av aF<|dL<|dL<|dL<|dL<|dL<|dL<|av aF<|av aF<|aD<|Wr<|aM aF ?_
 exact⟨lN (Eq.symm (by unfold hasB; rw[b]; try rfl)),f⟩
theorem MC(D K:Nat->Int)(w:World)(o:Kr D)(b:Kr K) :
 Calls Tryd.prog 60 #[.agg (aA 6 (rv .u64 D)),.agg (aA 6 (rv .u64 K))] w fun e w'=>e = .returned (.bool (AL D K))/\Below w.heap.size w w':=by
 refine Kent Tryd.func60 11 ?_
 refine ay<|rG fun M w1 E d I z1 => ?_
 have f:=aR I.old (Below.refl w.heap.size w)
 have Q:=gK E
 have W:=d.lt
 refine rG fun N w2 l r J z2 => ?_
 have⟨H,B⟩:=gU J.old d f
 have R:=iC l f.size
 have T:=bS l d.lt
 have Z:=r.lt
 refine av aF<|aD<|Ws ?_
 -- region 1 draws
 refine jP [0,1,4,2,3,5,6] [4,4,2,2,1,0,0] [(2,0,[0]),(3,0,[2,0]),(2,1,[1]),(3,1,[2,1]),(3,2,[2]),(5,2,[3,2]),(6,2,[2]),(5,3,[3]),(6,3,[3])] fun rZ F P => ?_
 have⟨t,c,g⟩:=kM F H r B
 refine Rs (.agg (aA 6 (rv .u64 D))) (jh t.aK 0) ?_
 refine Rs (.agg (aA 6 (rv .u64 K))) (jh c.aK 0) ?_
 refine Rd (v := .agg (aA 6 (rv .u64 K))) (by rfl) (by rfl) (nY _) (fun A G=>dO (x:=rv .u64 K) (y:=rv .u64 K) rfl rfl (by kernel_rfl) (by kernel_rfl) (c.aK.below G (by have:=c.lt; omega)) (i:=0) (by omega) (by omega) (fun j _=>by rw[Nat.zero_add])) ?_
 refine BN<|yt (vs := [(0,.agg (aA 6 (rv .u64 D))),(1,.agg (aA 6 (rv .u64 K)))]) (s:=6) (zc:=rv .u64 (fun _=>0)) (y:=bE (bE (fun j=>(rv .u64 (fun _=>0)) (j % 6)) (0*6) 6 (rv .u64 D)) (1*6) 6 (rv .u64 K)) (by rfl) rfl rfl Tryd.underlying145 (by kernel_rfl) (by rfl) (by rfl) (by kernel_rfl) (by rw[bA (off:=0*6) (s:=6) (y:=rv .u64 D) rfl (bD _ _) (by rfl)]; rw[bA (off:=1*6) (s:=6) (y:=rv .u64 K) rfl (bD _ _) (by rfl)]; rfl) rfl fun O w3 m u z z3 => ?_
 have C:=aR z.old g
 have S:=iC m g.size
 have⟨U,V⟩:=rH m t.lt c.lt
 have aa:=u.lt
 refine Ln ⟨z.old,?_⟩
 refine BN<|fC (OY D K u (Wy D K)) _ rfl ?_
 intro w4 q
 have L:=Sb q
 have k:=aR q C
 refine Ln ⟨L.old,?_⟩
 by_cases a : ∀ i,i<6->(rv .u64 (fun p=>nD (D p) (K p))) i=(rv .u64 K) i
 ·refine Rp aG (fun A=>Fx.vk (n:=6) (ks:=List.replicate 6 (some .u64)) (X:=rv .u64 (fun p=>nD (D p) (K p))) (Y:=rv .u64 K) 12 true rfl rfl rfl (Fx.Oh a) (o.mx b).kd b.kd rfl (by kernel_rfl) (by kernel_rfl) (by kernel_rfl) (by kernel_rfl) (by kernel_rfl))<|aW aG<|bG<|Wr<|aM aG ?_
  exact⟨lN (Eq.symm (Bd.2 a)),k⟩
 refine Rp aF (fun A=>Fx.vk (n:=6) (ks:=List.replicate 6 (some .u64)) (X:=rv .u64 (fun p=>nD (D p) (K p))) (Y:=rv .u64 K) 12 false rfl rfl rfl (Fx.nob a) (o.mx b).kd b.kd rfl (by kernel_rfl) (by kernel_rfl) (by kernel_rfl) (by kernel_rfl) (by kernel_rfl))<|aW aF<|bG<|Wr<|aM aF ?_
 exact⟨lN (Eq.symm (Bool.eq_false_iff.2 (fun h=>a (Bd.1 h)))),k⟩
theorem Rt.Eo{K:Nat->Int}{v:EvM}(h:bZ v=true):wH K v=hasB K v.o v.seq:=by
 have a:=iI h; have b:=(xL h).1
 unfold wH hasB; rw[h,a,show decide (0<v.seq)=true from decide_eq_true (by omega)]; rfl
theorem ME(K:Nat->Int)(v:EvM)(w:World)(k:jQ v) :
 Calls Tryd.prog 42 #[.agg (aA 6 (rv .u64 K)),.agg (aA 14 (dF v))] w fun e w'=>e = .returned (.bool (wH K v))/\Below w.heap.size w w':=by
 refine Kent Tryd.func42 15 ?_
 refine ay<|rG fun B H q c z O => ?_
 have f:=aR z.old (Below.refl w.heap.size w)
 have C:=gK q
 have F:=c.lt
 refine rG fun j I i d A P => ?_
 have⟨x,g⟩:=gU A.old c f
 have D:=iC i f.size
 have E:=bS i c.lt
 have G:=d.lt
 refine av aF<|aD<|ay<|Lv (.agg (aA 14 (dF v))) (jh d.aK 0) ?_
 by_cases a:(bZ v)=true
 ·refine fC (Bc v _ k) aG (by rw[a]) ?_
  intro J r
  have⟨y,l,h⟩:=kM r x d g
  refine av aG<|Lv (.agg (aA 6 (rv .u64 K))) (jh y.aK 0)<|av ((pt j))<|Lv (au v.o) (aP l.aK 0)<|av ((pf j 1))<|Lv (aC v.seq) (aP l.aK 1) ?_
  by_cases b:(hasB K v.o v.seq)=true
  ·refine fC (Rh K v.o v.seq _) aG (by rw[b]) ?_
   intro L s
   have m:=aR s h
   refine av aG<|av aG<|aD<|Wr<|aM aG ?_
   exact⟨lN (Eq.symm ((Eo a).trans b)),m⟩
  rw[Bool.not_eq_true]at b
  refine fC (Rh K v.o v.seq _) aF (by rw[b]) ?_
  intro M t
  have n:=aR t h
  refine av aF<|av aF<|aD<|Wr<|aM aF ?_
  exact⟨lN (Eq.symm ((Eo a).trans b)),n⟩
 rw[Bool.not_eq_true]at a
 refine fC (Bc v _ k) aF (by rw[a]) ?_
 intro N u
 have p:=aR u g
 refine av aF<|dL<|dL<|dL<|dL<|dL<|dL<|av aF<|av aF<|aD<|Wr<|aM aF ?_
 exact⟨lN (Eq.symm (by unfold wH; rw[a]; rfl)),p⟩
theorem Ig(K:Nat->Int)(v:EvM)(w:World)(i:jQ v)(q:Kr K) :
 Calls Tryd.prog 43 #[.agg (aA 6 (rv .u64 K)),.agg (aA 14 (dF v))] w fun e w'=>e = .returned (.bool (gN K v))/\Below w.heap.size w w':=by
 refine Kent Tryd.func43 24 ?_
 refine ay<|rG fun z Q y l F W => ?_
 have m:=aR F.old (Below.refl w.heap.size w)
 have L:=gK y
 have O:=l.lt
 refine rG fun k R p c G X => ?_
 have⟨r,h⟩:=gU G.old l m
 have M:=iC p m.size
 have N:=bS p l.lt
 have P:=c.lt
 refine av aF<|aD<|Ws ?_
 -- region 1 draws
 refine kV<|Qv (.agg (aA 14 (dF v))) (fun d b=>jh (c.cb b) 0) ?_
 by_cases f:(bZ v)=true
 ·obtain⟨a,I,H⟩:=dV (iI f)
  have J:=xL f
  refine Ot (fun _ _=>Bc v _ i) aG (by rw[f])<|bC aG<|bC ((pt k))<|Qv (au v.o) (fun d b=>aP (c.cb b) 0)<|Qv (au a) (fun d b=>jc)<|Qv ((pf z a)) (fun d b=>xH 6 1)<|Qv (aC (K a)) (fun d b=>aP (r.cb b) a)<|bC ((pf k 1))<|Qv (aC v.seq) (fun d b=>aP (c.cb b) 1)<|Qv (aC (v.seq-1)) (fun d b=>jc) ?_
  by_cases n:(K a)=(v.seq-1)
  ·refine Qv aG (fun d b=>gT n)<|bC aG<|bC aG<|bC ((pf k 2))<|Qv (.agg (aA 6 (rv .u64 v.deps))) (fun d b=>jh (c.cb b) 2 (fun j E=>nQ _ (by omega) E))<|Qv (.agg (aA 6 (rv .u64 K))) (fun d b=>jh (r.cb b) 0) ?_
   by_cases g:(AL v.deps K)=true
   ·refine Ot (fun _ _=>MC v.deps K _ i.deps q) aG (by rw[g])<|bC aG<|bC aG<|Qn ?_
    intro S A
    have s:=aR A h
    refine sN<|Wr<|aM aG ?_
    have c:decide (v.seq=K (v.o-1).toNat+1)=true:=decide_eq_true (by rw[show(v.o-1).toNat=a by omega]; omega)
    exact⟨lN (Eq.symm (by unfold gN; rw[f,c,g]; try rfl)),s⟩
   rw[Bool.not_eq_true]at g
   refine Ot (fun _ _=>MC v.deps K _ i.deps q) aF (by rw[g])<|bC aF<|bC aF<|Qn ?_
   intro T B
   have t:=aR B h
   refine sN<|Wr<|aM aF ?_
   have c:decide (v.seq=K (v.o-1).toNat+1)=true:=decide_eq_true (by rw[show(v.o-1).toNat=a by omega]; omega)
   exact⟨lN (Eq.symm (by unfold gN; rw[f,c,g]; try rfl)),t⟩
  refine Qv aF (fun d b=>jm n)<|bC aF<|bC aF<|aU<|aU<|aU<|aU<|bC aF<|bC aF<|Qn ?_
  intro U C
  have u:=aR C h
  refine sN<|Wr<|aM aF ?_
  have c:decide (v.seq=K (v.o-1).toNat+1)=false:=decide_eq_false (by rw[show(v.o-1).toNat=a by omega]; omega)
  exact⟨lN (Eq.symm (by unfold gN; rw[f,c]; try rfl)),u⟩
 rw[Bool.not_eq_true]at f
 refine Ot (fun _ _=>Bc v _ i) aF (by rw[f])<|bC aF<|aU<|aU<|aU<|aU<|aU<|aU<|aU<|aU<|aU<|bC aF<|bC aF<|aU<|aU<|aU<|aU<|bC aF<|bC aF<|Qn ?_
 intro V D
 have x:=aR D h
 refine sN<|Wr<|aM aF ?_
 exact⟨lN (Eq.symm (by unfold gN; rw[f]; try rfl)),x⟩
set_option maxRecDepth 20000
namespace Rt
def jM(m:dB)(v:EvM):Int:=if m.T.has v.node=false then 9 else if 140737488355328<m.R (m.idx v.node) (bB v)+v.bM then 6 else 0
def xC(m:dB)(k:Int)(r:Nat->Int):dB := { m with R:=aI m.R (m.idx k) r }
def tu(m:dB)(v:EvM):dB:=xC m v.node (upd (m.R (m.idx v.node)) (bB v) (m.R (m.idx v.node) (bB v)+v.bM))
def oU(m:dB)(v:EvM):(Nat->Int) × Int:=gD (m.R (m.idx v.node)) v.o v.dst v.bM
def jX(m:dB)(v:EvM):Int:=if m.T.has v.node=false then 9 else if m.inn (v.dst-1).toNat=false then 10 else(oU m v).2
def Ep(m:dB)(v:EvM):dB:=xC m v.node (oU m v).1
def Er(m:dB)(v:EvM):dB := { m with inn:=aY m.inn (v.dst-1).toNat true }
def ze(m:dB)(v:EvM):dB := { m with left:=aY m.left (bB v) true }
theorem xW{R:Nat->Nat->Int}{j:Nat}{r:Nat->Int} : ∀ n x w b,Mp w b n x (aI (oQ R) j (.agg (aA 54 (rv .i64 r))))->Mp w b n x (oQ (aI R j r)):=fun n x w b h=>h.nM fun i _=>⟨rfl,by unfold oQ aI; split <;> rfl⟩
end Rt
theorem Ah:Fx.oG Tryd.prog 70:=⟨by kernel_rfl,by kernel_rfl,by kernel_rfl⟩
theorem MF(m:dB)(d B:Nat)(w:World)(h:iR w B d m)(v:EvM)(Z:bZ v=true)(b:Nat)(E:b<6)(Y:v.dst=(b:Int)+1)(j:Nat)(i:Nat)(n:aL w j 1 (fun _=>(pt d)) 25)(l:aL w i 14 (dF v) 33) :
 Calls Tryd.prog 129 #[(pt j),(pt i)] w fun e w'=>e = .returned (.tuple #[])/\iR w' B d (Er m v)/\iW (za m d) w w':=by
 have y:=h.c
 have D:=h.t
 have A:=h.p
 have C:=h.r
 have z:=h.g
 have x:=h.a
 have f:=h.ne
 have lC:=h.c.lt
 have lT:=h.t.lt
 have lP:=h.p.lt
 have lR:=h.r.lt
 have lG:=h.g.lt
 have lA:=h.a.lt
 have QK:=n.lt
 have Ri:=l.lt
 have F:(v.dst-1).toNat=b:=by omega
 refine Kent Tryd.func129 9 ?_
 -- region 0 draws
 refine jP [1,0,4,5,2,3,6,7] [4,0,4,0,0,0,0,3] [(7,0,[0]),(7,2,[2])] fun X k aa => ?_
 have V:Stp w.heap.size w X:=Sb k
 have⟨o,N,O,P,Q,R,S,T⟩:=zZ k y D A C z x n l
 have s:=(rR (za m d) w).then V (.inr (rR (za m d) w).size)
 refine aW ((pf i 10))<|Rs ((pt d)) (aP S.aK 0) ?_
 refine aW ((pt d))<|aW ((pt d))<|Rs (au v.dst) (aP T.aK 10) ?_
 refine Rp (au b) (fun _=>jc)<|Rp ((pf d b)) (fun _=>xH 6 1)<|gG<|nk o b aG fun W U q z1 => ?_
 have H:aL W d 29 (nW { m with inn:=aY m.inn b true }) 59:=U.to (Mj E _)
 have G:=iB q o.ty
 have⟨I,J,K,L,M⟩:=Ky G N O P Q R
 have u:=s.then q (.inl (.inl rfl))
 refine Ln (Rn (⟨.tuple #[],fM Tryd.results129,?_⟩))
 unfold Er; rw[F]
 exact⟨rfl,{ c:=H,t:=I,p:=J,r:=K,g:=L,a:=M,ne:=⟨f.mp,f.mr,f.mg,f.ma,f.pr,f.pg,f.pa,f.rg,f.ra,f.ga⟩,lB:=h.lB,pB:=h.pB,rB:=h.rB,gB:=h.gB,aB:=h.aB },u⟩
theorem JH(m:dB)(b B:Nat)(w:World)(h:iR w B b m)(v:EvM)(I:bZ v=true)(j:Nat)(f:Nat)(n:aL w j 1 (fun _=>(pt b)) 25)(l:aL w f 14 (dF v) 33) :
 Calls Tryd.prog 130 #[(pt j),(pt f)] w fun e w'=>e = .returned (.tuple #[])/\iR w' B b (ze m v)/\iW (za m b) w w':=by
 have z:=h.c
 have E:=h.t
 have C:=h.p
 have D:=h.r
 have A:=h.g
 have y:=h.a
 have d:=h.ne
 have lC:=h.c.lt
 have lT:=h.t.lt
 have lP:=h.p.lt
 have lR:=h.r.lt
 have lG:=h.g.lt
 have lA:=h.a.lt
 have QK:=n.lt
 have Ri:=l.lt
 obtain⟨a,F,ho⟩ : ∃ a:Nat,a<6/\v.o=(a:Int)+1:=dV (iI I)
 have H:bB v=a:=by unfold bB; omega
 refine Kent Tryd.func130 9 ?_
 -- region 0 draws
 refine jP [1,0,4,5,2,3,6,7] [4,0,4,0,0,0,0,3] [(7,0,[0]),(7,2,[2])] fun Z k iF => ?_
 have X:Stp w.heap.size w Z:=Sb k
 have⟨q,P,Q,R,S,T,U,V⟩:=zZ k z E C D A y n l
 have u:=(rR (za m b) w).then X (.inr (rR (za m b) w).size)
 refine aW ((pt f))<|Rs ((pt b)) (aP U.aK 0) ?_
 refine aW ((pt b))<|aW ((pf b 6))<|Rs (au v.o) (aP V.aK 0) ?_
 refine Rp (au a) (fun _=>jc)<|Rp ((pf b (a+6))) (fun _=>xH 6 1)<|gG<|nk q (a+6) aG fun Y W s z1 => ?_
 have J:aL Y b 29 (nW { m with left:=aY m.left a true }) 59:=W.to (Ml (i:=a) F (by omega) _)
 have G:=iB s q.ty
 have⟨K,L,M,N,O⟩:=Ky G P Q R S T
 have x:=u.then s (.inl (.inl rfl))
 refine Ln (Rn (⟨.tuple #[],fM Tryd.results130,?_⟩))
 unfold ze; rw[H]
 exact⟨rfl,{ c:=J,t:=K,p:=L,r:=M,g:=N,a:=O,ne:=⟨d.mp,d.mr,d.mg,d.ma,d.pr,d.pg,d.pa,d.rg,d.ra,d.ga⟩,lB:=h.lB,pB:=h.pB,rB:=h.rB,gB:=h.gB,aB:=h.aB },x⟩
theorem JI(m:dB)(d B:Nat)(w:World)(h:iR w B d m)(v:EvM)(hv:bZ v=true)(Q:m.T.has v.node=true)(r:Nat->Int)(l:Nat)(k:Nat)(i:Nat)(hr:aL w l 54 (rv .i64 (r)) 66)(u:aL w k 1 (fun _=>(pt d)) 25)(q:aL w i 14 (dF v) 33) :
 Calls Tryd.prog 119 #[(pt l),(pt k),(pt i)] w fun e w'=>e = .returned (.tuple #[])/\iR w' B d (xC m v.node r)/\iW (za m d) w w':=by
 have K:=h.c
 have P:=h.t
 have N:=h.p
 have O:=h.r
 have M:=h.g
 have J:=h.a
 have b:=h.ne
 have lC:=h.c.lt
 have lT:=h.t.lt
 have lP:=h.p.lt
 have lR:=h.r.lt
 have lG:=h.g.lt
 have lA:=h.a.lt
 have lgr:=hr.lt
 have QK:=u.lt
 have Ri:=q.lt
 obtain⟨y,s,j⟩:=eF Q
 have I:m.idx v.node=y:=ji h.t.inv.inj s j
 refine Kent Tryd.func119 10 ?_
 -- region 0 draws
 refine jP [4,0,1,2,3,5,6,7] [4,0,0,4,0,4,4,3] [(7,0,[0]),(7,3,[3]),(7,5,[5]),(7,6,[6])] fun rZ o iF => ?_
 have s1:Stp w.heap.size w rZ:=Sb o
 have⟨z,m2,m3,A,m5,m6,C,D,E⟩:=BP o K P N O M J hr u q
 have G:=(rR (za m d) w).then s1 (.inr (rR (za m d) w).size)
 refine aW ((pf i 9))<|Rs ((pt d)) (aP D.aK 0) ?_
 refine aW ((pt d))<|aW ((pf d 20))<|Rs (.map (some m.rb)) (aP z.aK 20) ?_
 refine Rs (aC v.node) (aP E.aK 9) ?_
 refine Rs (.agg (aA 54 (rv .i64 (r)))) (jh C.aK 0) ?_
 refine gG<|Fx.L.Sk (by rfl) rfl rfl rfl rfl rfl A Tryd.underlying54 Tryd.underlying29 s j fun w1 S F z1 => ?_
 have f:=A.wB F
 have U:=z.cB f
 have V:=m2.cB f (b.mr)
 have W:=m3.cB f (b.pr)
 have X:=m5.cB f ((Ne.symm b.rg))
 have Y:=m6.cB f ((Ne.symm b.ra))
 have m16:=C.cB f
 have m17:=D.cB f
 have m18:=E.cB f
 have H:=G.then F (.inl (.inr (.inr (.inr (.inl rfl)))))
 have Z:Mp w1 m.rb m.T.n m.T.x (oQ (aI m.R y (r))):=xW _ _ _ _ S
 refine Ln (Rn (⟨.tuple #[],fM Tryd.results119,?_⟩))
 unfold xC; rw[I]
 exact⟨rfl,{ c:=U,t:=V,p:=W,r:=Z,g:=X,a:=Y,ne:=⟨b.mp,b.mr,b.mg,b.ma,b.pr,b.pg,b.pa,b.rg,b.ra,b.ga⟩,lB:=h.lB,pB:=h.pB,rB:=h.rB,gB:=h.gB,aB:=h.aB },H⟩
theorem MG(m:dB)(d B:Nat)(w:World)(h:iR w B d m)(v:EvM)(hv:bZ v=true)(Q:m.T.has v.node=true)(r:Nat->Int)(l:Nat)(k:Nat)(i:Nat)(hr:aL w l 54 (rv .i64 (r)) 66)(u:aL w k 1 (fun _=>(pt d)) 25)(q:aL w i 14 (dF v) 33) :
 Calls Tryd.prog 128 #[(pt l),(pt k),(pt i)] w fun e w'=>e = .returned (.tuple #[])/\iR w' B d (xC m v.node r)/\iW (za m d) w w':=by
 have K:=h.c
 have P:=h.t
 have N:=h.p
 have O:=h.r
 have M:=h.g
 have J:=h.a
 have b:=h.ne
 have lC:=h.c.lt
 have lT:=h.t.lt
 have lP:=h.p.lt
 have lR:=h.r.lt
 have lG:=h.g.lt
 have lA:=h.a.lt
 have lgr:=hr.lt
 have QK:=u.lt
 have Ri:=q.lt
 obtain⟨y,s,j⟩:=eF Q
 have I:m.idx v.node=y:=ji h.t.inv.inj s j
 refine Kent Tryd.func128 10 ?_
 -- region 0 draws
 refine jP [4,0,1,2,3,5,6,7] [4,0,0,4,0,4,4,3] [(7,0,[0]),(7,3,[3]),(7,5,[5]),(7,6,[6])] fun rZ o iF => ?_
 have s1:Stp w.heap.size w rZ:=Sb o
 have⟨z,m2,m3,A,m5,m6,C,D,E⟩:=BP o K P N O M J hr u q
 have G:=(rR (za m d) w).then s1 (.inr (rR (za m d) w).size)
 refine aW ((pf i 9))<|Rs ((pt d)) (aP D.aK 0) ?_
 refine aW ((pt d))<|aW ((pf d 20))<|Rs (.map (some m.rb)) (aP z.aK 20) ?_
 refine Rs (aC v.node) (aP E.aK 9) ?_
 refine Rs (.agg (aA 54 (rv .i64 (r)))) (jh C.aK 0) ?_
 refine gG<|Fx.L.Sk (by rfl) rfl rfl rfl rfl rfl A Tryd.underlying54 Tryd.underlying29 s j fun w1 S F z1 => ?_
 have f:=A.wB F
 have U:=z.cB f
 have V:=m2.cB f (b.mr)
 have W:=m3.cB f (b.pr)
 have X:=m5.cB f ((Ne.symm b.rg))
 have Y:=m6.cB f ((Ne.symm b.ra))
 have m16:=C.cB f
 have m17:=D.cB f
 have m18:=E.cB f
 have H:=G.then F (.inl (.inr (.inr (.inr (.inl rfl)))))
 have Z:Mp w1 m.rb m.T.n m.T.x (oQ (aI m.R y (r))):=xW _ _ _ _ S
 refine Ln (Rn (⟨.tuple #[],fM Tryd.results128,?_⟩))
 unfold xC; rw[I]
 exact⟨rfl,{ c:=U,t:=V,p:=W,r:=Z,g:=X,a:=Y,ne:=⟨b.mp,b.mr,b.mg,b.ma,b.pr,b.pg,b.pa,b.rg,b.ra,b.ga⟩,lB:=h.lB,pB:=h.pB,rB:=h.rB,gB:=h.gB,aB:=h.aB },H⟩
set_option maxRecDepth 20000
namespace Rt
theorem Ih{v:EvM}(h:bZ v=true)(c:v.kind=5) : ∃ b:Nat,b<6/\v.dst=(b:Int)+1:=by
 unfold bZ at h
 simp only[Bool.and_eq_true]at h
 have a:=h.2
 unfold iH at a
 rw[if_neg (by omega),if_neg (by omega),if_neg (by omega),if_neg (by omega),if_pos c]at a
 unfold yP at a
 simp only[Bool.and_eq_true]at a
 exact dV a.2.1
end Rt
theorem TJ(x:Nat->Int)(i j n:Int)(w:World)(hi:1<=i/\i<=6)(a:1<=j/\j<=6) :
 Calls Tryd.prog 127 #[.agg (aA 54 (rv .i64 x)),au i,au j,au n] w fun e w'=>e = .returned (.tuple #[.agg (aA 54 (rv .i64 (gD x i j n).1)),au (gD x i j n).2])/\Below w.heap.size w w' :=
 LV x i j n w (by omega) (by omega)
theorem TK(x:Nat->Int)(i n:Int)(w:World)(hi:1<=i/\i<=6) :
 Calls Tryd.prog 122 #[.agg (aA 54 (rv .i64 x)),au i,au n] w fun e w'=>e = .returned (.tuple #[.agg (aA 54 (rv .i64 (bL x i n).1)),au (bL x i n).2])/\Below w.heap.size w w' :=
 LM x i n w (by omega)
theorem TL(x:Nat->Int)(i n:Int)(w:World)(hi:1<=i/\i<=6) :
 Calls Tryd.prog 125 #[.agg (aA 54 (rv .i64 x)),au i,au n] w fun e w'=>e = .returned (.tuple #[.agg (aA 54 (rv .i64 (bO x i n).1)),au (bO x i n).2])/\Below w.heap.size w w' :=
 LU x i n w (by omega)
theorem MH(m:dB)(k B:Nat)(w:World)(h:iR w B k m)(v:EvM)(O:bZ v=true)(hkd:v.kind=2)(hRb : ∀ i,i<m.T.n -> ∀ p,p<54->0<=m.R i p/\m.R i p<=1125899906842624) :
 Calls Tryd.prog 109 #[(pt k),.agg (aA 14 (dF v))] w fun e w'=>JZ w B k m (tu m v) (jM m v) e w':=by
 have hC:=h.c
 have hT:=h.t
 have hP:=h.p
 have hR:=h.r
 have hG:=h.g
 have hA:=h.a
 have hN:=h.ne
 have lC:=h.c.lt
 have lT:=h.t.lt
 have lP:=h.p.lt
 have lR:=h.r.lt
 have lG:=h.g.lt
 have lA:=h.a.lt
 obtain⟨a,ha,ho⟩ : ∃ a:Nat,a<6/\v.o=(a:Int)+1:=dV (iI O)
 have N:bB v=a:=by unfold bB; omega
 refine Kent Tryd.func109 39 ?_
 refine ay<|pQ ((pt k)) fun q w1 oI P s1 z1 => ?_
 have⟨m2,m4,m5,m6,m7,X⟩:=vv s1.old hC hP hR hG hA (Below.refl w.heap.size w)
 have wY:=gK oI
 have⟨mO,qF,uL,uM,uN⟩:=ug oI hC.lt hP.lt hR.lt hG.lt hA.lt
 have xK:=P.lt
 refine rG fun f w2 wM m8 s2 z2 => ?_
 have⟨m9,m11,m12,m13,m14,m15,b2⟩:=BO s2.old m2 m4 m5 m6 m7 P X
 have zN:=iC wM X.size
 have⟨Ii,CF,CG,zf,zh,vK⟩:=BR wM m2.lt m4.lt m5.lt m6.lt m7.lt P.lt
 have Cg:=m8.lt
 refine av (.nilFunc)<|av (au 0)<|aD<|Ws ?_
 -- region 1 draws
 refine jP [4,0,1,2,3,5,6,7,8,9,10,11,12] [1,0,0,1,0,1,1,0,0,0,2,3,0] [(11,0,[0]),(11,3,[3]),(11,5,[5]),(11,6,[6]),(11,10,[10]),(12,10,[10]),(12,11,[11])] fun rZ gy iF => ?_
 have⟨F,m18,G,m20,m21,u,y,A⟩:=zZ gy m9 m11 m12 m13 m14 m15 m8 b2
 refine aW ((pf f 9))<|Rd (v:=(pt k)) (by rfl) (by rfl) (nY _) (fun H j=>bf (x:=fun _=>(pt k)) rfl rfl (by kernel_rfl) (u.aK.below j (by have:=u.lt; omega)) (i:=0) (by omega) (by omega) rfl) ?_
 refine aW ((pt k))<|aW ((pf k 20))<|Rd (v := .map (some m.rb)) (by rfl) (by rfl) (nY _) (fun H j=>bf (x:=nW m) rfl rfl (by kernel_rfl) (F.aK.below j (by have:=F.lt; omega)) (i:=20) (by omega) (by omega) rfl) ?_
 refine Rd (v:=aC v.node) (by rfl) (by rfl) (nY _) (fun H j=>bf (x:=dF v) rfl rfl (by kernel_rfl) (y.aK.below j (by have:=y.lt; omega)) (i:=9) (by omega) (by omega) rfl) ?_
 rcases Fx.lM m.T.x m.T.n v.node with ⟨b,E,K⟩|gu
 ·refine Rd (v := .tuple #[.agg (aA 54 (rv .i64 (m.R b))),.bool true]) (by rfl) (by rfl) (nY _) (fun H j=>Fx.yD (z := .agg (aA 54 (rv .i64 (fun _=>0)))) rfl rfl rfl (G.up j) Tryd.underlying54 Tryd.underlying29 (by kernel_rfl) E K rfl) ?_
  refine aW (.tuple #[.agg (aA 54 (rv .i64 (m.R b))),.bool true])<|aW (.agg (aA 54 (rv .i64 (m.R b))))<|aW aG<|BN<|ni 54 (rv .i64 (fun _=>0)) fun d w3 Bf Q s4 z3 => ?_
  have⟨mP,m32,Y⟩:=kM s4.old u y A
  have G6:=iC Bf A.size
  have⟨Ga,CJ,Gb,MI,MJ,TM,TN⟩:=Fu Bf F.lt m18.lt G.lt m20.lt m21.lt u.lt y.lt
  have Ie:=Q.lt
  refine Ln ⟨s4.old,?_⟩
  refine gG<|fI Q 0 fun w4 oK s5 z4 => ?_
  have nZ:aL w4 d 54 (rv .i64 (m.R b)) 66:=aO oK
  have iD:=iB s5 Q.ty
  have⟨qU,vH⟩:=Dq iD mP m32
  have b5:=s5.below Y Y.size (by omega)
  refine Ln<|aW aG<|bG<|Ws<|ay<|av aG<|av aF<|aD<|aN<|Wk<|sN<|Ws<|Ws ?_
  have L:m.idx v.node=b:=ji h.t.inv.inj E K
  have s:m.T.has v.node=true:=gL E K
  have q1:=hRb b E a (by omega)
  have q2:=sV O (.inl hkd)
  -- region 4 draws
  refine jP [0,3,6,9,1,2,4,5,7,8,10,11] [0,4,0,0,0,4,0,4,0,0,0,3] [(11,1,[1]),(11,5,[5]),(11,7,[7])] fun C9 jJ nO => ?_
  have⟨vI,S,U,Z⟩:=jH jJ qU vH nZ b5
  refine aW ((pt f))<|aW ((pt d))<|aW ((pf f 11))<|aW ((pt d))<|Rs (au v.o) (aP S.aK 0) ?_
  refine Rp (au a) (fun _=>jc)<|Rp ((pf d a)) (fun _=>xH 6 1)<|Rs (au ((m.R b) a)) (aP U.aK a) ?_
  refine Rs (au v.bM) (aP S.aK 11) ?_
  refine Rp (au (((m.R b) a)+v.bM)) (fun _=>gV)<|Rp ((pf d a)) (fun _=>xH 6 1)<|gG<|nk U a (au (((m.R b) a)+v.bM)) fun w5 wE s7 z5 => ?_
  have V:aL w5 d 54 (rv .i64 (upd (m.R b) a (((m.R b) a)+v.bM))) 66:=wE.to (Fx.Bz _ _ _ _)
  have mH:=iB s7 U.ty
  have⟨pX,W⟩:=Dq mH vI S
  have I:=s7.below Z Z.size (by omega)
  refine Ln<|bG<|ay<|av ((pt f))<|Lv (au v.o) (aP W.aK 0)<|Lv (au a) jc<|av ((pt d))<|Lv ((pf d a)) (xH 6 1)<|Lv (au ((upd (m.R b) a (((m.R b) a)+v.bM)) a)) (aP V.aK a) ?_
  by_cases C:140737488355328<((upd (m.R b) a (((m.R b) a)+v.bM)) a)
  ·refine Lv aG (zX C)<|aD<|aQ<|ay<|av (.nilFunc)<|av (au 6)<|aD<|Wr<|sR<|aM (.tuple #[.nilFunc,au 6]) ?_
   have l:jM m v=6:=by unfold jM; rw[if_neg (by rw[s]; decide)]; exact if_pos (by rw[L,N]; simpa [upd] using C)
   exact⟨⟨.nilFunc,0,#[],by rw[l],rfl,fun J=>absurd (l.symm.trans J) (by first|decide|omega|assumption)⟩,I⟩
  refine Lv aF (zY C)<|aD<|aN<|Wk<|sN<|ay<|Lv (.func (.func 119) #[] #[(pt d),(pt q),(pt f)]) (Fx.iV (us := []) (vs := [(pt d),(pt q),(pt f)]) rfl rfl rfl)<|av (.func (.func 119) #[] #[(pt d),(pt q),(pt f)])<|av (au 0)<|aD<|Wr<|aM (.tuple #[.func (.func 119) #[] #[(pt d),(pt q),(pt f)],au 0]) ?_
  have em:tu m v=xC m v.node (upd (m.R b) a (m.R b a+v.bM)):=by unfold tu; rw[L,N]
  rw[em]
  have l:jM m v=0:=by unfold jM; rw[if_neg (by rw[s]; decide)]; exact if_neg (by rw[L,N]; simpa [upd] using C)
  exact⟨⟨_,119,#[(pt d),(pt q),(pt f)],by rw[l],rfl,fun _=>⟨rfl,⟨_,_,Tryd.func119,rfl,rfl⟩,fun w2 D=>(JI m k B w2 ((h.up I).up D) v O s _ _ _ _ (V.eH (Sb D) (Nat.ne_of_lt V.lt)) (pX.eH (Sb D) (Nat.ne_of_lt pX.lt)) (W.eH (Sb D) (Nat.ne_of_lt W.lt))).mono fun _ _ M=>⟨M.1,M.2.1,M.2.2.mono fun _ s => .inl s⟩⟩⟩,I⟩
 refine Rd (v := .tuple #[.agg (aA 54 (rv .i64 (fun _=>0))),.bool false]) (by rfl) (by rfl) (nY _) (fun H j=>Fx.yC (z := .agg (aA 54 (rv .i64 (fun _=>0)))) rfl rfl rfl (G.up j) Tryd.underlying54 Tryd.underlying29 (by kernel_rfl) gu) ?_
 refine aW (.tuple #[.agg (aA 54 (rv .i64 (fun _=>0))),.bool false])<|aW (.agg (aA 54 (rv .i64 (fun _=>0))))<|aW aF<|BN<|ni 54 (rv .i64 (fun _=>0)) fun g4 w6 DC qW s8 z6 => ?_
 have b8:=aR s8.old A
 have J2:=iC DC A.size
 have⟨Zn,Zo,TP,TQ,TR,TS,TT⟩:=Fu DC F.lt m18.lt G.lt m20.lt m21.lt u.lt y.lt
 have JG:=qW.lt
 refine Ln ⟨s8.old,?_⟩
 refine gG<|fI qW 0 fun w7 xq s9 z7 => ?_
 have Ae:aL w7 g4 54 (rv .i64 (fun _=>0)) 66:=aO xq
 have b9:=s9.below b8 b8.size (by omega)
 refine Ln<|aW aF<|bG<|Ws<|ay<|av aF<|av aG<|aD<|aQ<|ay<|av (.nilFunc)<|av (au 9)<|aD<|Wr<|sR<|aM (.tuple #[.nilFunc,au 9]) ?_
 have l:jM m v=9:=by unfold jM; exact if_pos (qM gu)
 exact⟨⟨.nilFunc,0,#[],by rw[l],rfl,fun J=>absurd (l.symm.trans J) (by first|decide|omega|assumption)⟩,b9⟩
theorem OZ(m:dB)(f B:Nat)(w:World)(h:iR w B f m)(v:EvM)(S:bZ v=true)(hkd:v.kind=5) :
 Calls Tryd.prog 112 #[(pt f),.agg (aA 14 (dF v))] w fun e w'=>JZ w B f m (Ep m v) (jX m v) e w':=by
 have hC:=h.c
 have hT:=h.t
 have hP:=h.p
 have hR:=h.r
 have hG:=h.g
 have hA:=h.a
 have hN:=h.ne
 have lC:=h.c.lt
 have lT:=h.t.lt
 have lP:=h.p.lt
 have lR:=h.r.lt
 have lG:=h.g.lt
 have lA:=h.a.lt
 obtain⟨a,ha,ho⟩ : ∃ a:Nat,a<6/\v.o=(a:Int)+1:=dV (iI S)
 have hra:bB v=a:=by unfold bB; omega
 obtain⟨b,hb,hd⟩:=Ih S hkd
 have O:(v.dst-1).toNat=b:=by omega
 refine Kent Tryd.func112 47 ?_
 refine ay<|pQ ((pt f)) fun A w1 oI U s1 z1 => ?_
 have⟨m2,m4,m5,m6,m7,W⟩:=vv s1.old hC hP hR hG hA (Below.refl w.heap.size w)
 have wY:=gK oI
 have⟨mO,qF,uL,uM,uN⟩:=ug oI hC.lt hP.lt hR.lt hG.lt hA.lt
 have xK:=U.lt
 refine rG fun j w2 wM m8 s2 z2 => ?_
 have⟨m9,m11,m12,m13,m14,m15,b2⟩:=BO s2.old m2 m4 m5 m6 m7 U W
 have zN:=iC wM W.size
 have⟨Ii,CF,CG,zf,zh,vK⟩:=BR wM m2.lt m4.lt m5.lt m6.lt m7.lt U.lt
 have Cg:=m8.lt
 refine av (.nilFunc)<|av (au 0)<|aD<|Ws ?_
 -- region 1 draws
 refine jP [4,0,1,2,3,5,6,7,8,9,10,11,12] [1,0,0,1,0,1,1,0,0,0,2,3,0] [(11,0,[0]),(11,3,[3]),(11,5,[5]),(11,6,[6]),(11,10,[10]),(12,10,[10]),(12,11,[11])] fun rZ gy iF => ?_
 have⟨C,m18,J,m20,m21,D,E,G⟩:=zZ gy m9 m11 m12 m13 m14 m15 m8 b2
 refine aW ((pf j 9))<|Rd (v:=(pt f)) (by rfl) (by rfl) (nY _) (fun K l=>bf (x:=fun _=>(pt f)) rfl rfl (by kernel_rfl) (D.aK.below l (by have:=D.lt; omega)) (i:=0) (by omega) (by omega) rfl) ?_
 refine aW ((pt f))<|aW ((pf f 20))<|Rd (v := .map (some m.rb)) (by rfl) (by rfl) (nY _) (fun K l=>bf (x:=nW m) rfl rfl (by kernel_rfl) (C.aK.below l (by have:=C.lt; omega)) (i:=20) (by omega) (by omega) rfl) ?_
 refine Rd (v:=aC v.node) (by rfl) (by rfl) (nY _) (fun K l=>bf (x:=dF v) rfl rfl (by kernel_rfl) (E.aK.below l (by have:=E.lt; omega)) (i:=9) (by omega) (by omega) rfl) ?_
 rcases Fx.lM m.T.x m.T.n v.node with ⟨d,Q,N⟩|gu
 ·refine Rd (v := .tuple #[.agg (aA 54 (rv .i64 (m.R d))),.bool true]) (by rfl) (by rfl) (nY _) (fun K l=>Fx.yD (z := .agg (aA 54 (rv .i64 (fun _=>0)))) rfl rfl rfl (J.up l) Tryd.underlying54 Tryd.underlying29 (by kernel_rfl) Q N rfl) ?_
  refine aW (.tuple #[.agg (aA 54 (rv .i64 (m.R d))),.bool true])<|aW (.agg (aA 54 (rv .i64 (m.R d))))<|aW aG<|BN<|ni 54 (rv .i64 (fun _=>0)) fun q w3 Bf V s4 z3 => ?_
  have⟨sD,mP,m32,X⟩:=jH s4.old C D E G
  have G6:=iC Bf G.size
  have⟨Ga,CJ,Gb,MI,MJ,TM,TN⟩:=Fu Bf C.lt m18.lt J.lt m20.lt m21.lt D.lt E.lt
  have Ie:=V.lt
  refine Ln ⟨s4.old,?_⟩
  refine gG<|fI V 0 fun w4 oK s5 z4 => ?_
  have nZ:aL w4 q 54 (rv .i64 (m.R d)) 66:=aO oK
  have iD:=iB s5 V.ty
  have⟨qP,qU,vH⟩:=Dr iD sD mP m32
  have b5:=s5.below X X.size (by omega)
  refine Ln<|aW aG<|bG<|Ws<|Wb<|ay<|av aG<|av aF<|av aF<|aD<|aN<|Ws ?_
  have ex:m.idx v.node=d:=ji h.t.inv.inj Q N
  have u:m.T.has v.node=true:=gL Q N
  -- region 4 draws
  refine jP [1,0,4,5,2,3,6,7,8,9] [4,0,4,0,0,0,0,4,0,0] [] fun C9 jJ nO => ?_
  have⟨qV,vI,F,wZ,Y⟩:=mF jJ qP qU vH nZ b5
  refine aW ((pf j 10))<|Rs ((pt f)) (aP vI.aK 0) ?_
  refine aW ((pt f))<|aW ((pt f))<|Rs (au v.dst) (aP F.aK 10) ?_
  refine Rp (au b) (fun _=>jc)<|Rp ((pf f b)) (fun _=>xH 6 1) ?_
  by_cases s:(m.inn b)=true
  ·refine Rs aG (aP qV.aK b ((vS (by omega)).trans (congrArg Value.bool s))) ?_
   refine aW aF<|aW aF<|bG<|aN<|Wk<|dA<|sN<|ay<|Lv (.agg (aA 54 (rv .i64 (m.R d)))) (jh wZ.aK 0)<|av ((pt j))<|Lv (au v.o) (aP F.aK 0)<|av ((pf j 10))<|Lv (au v.dst) (aP F.aK 10)<|av ((pf j 11))<|Lv (au v.bM) (aP F.aK 11)<|fC (TJ (m.R d) v.o v.dst v.bM _ (by omega) (by omega)) _ rfl ?_
   intro w5 hb1
   have⟨uZ,zJ,pX,Z⟩:=jH hb1 vI F wZ Y
   refine av (.tuple #[.agg (aA 54 (rv .i64 ((gD (m.R d) v.o v.dst v.bM).1))),au ((gD (m.R d) v.o v.dst v.bM).2)])<|av (.agg (aA 54 (rv .i64 ((gD (m.R d) v.o v.dst v.bM).1))))<|av (au ((gD (m.R d) v.o v.dst v.bM).2))<|fI pX 0 fun w6 xg s8 z5 => ?_
   have qW:aL w6 q 54 (rv .i64 ((gD (m.R d) v.o v.dst v.bM).1)) 66:=aO xg
   have mH:=iB s8 pX.ty
   have⟨xk,AJ⟩:=Dq mH uZ zJ
   have L:=s8.below Z Z.size (by omega)
   refine av (au ((gD (m.R d) v.o v.dst v.bM).2))<|aD<|Ws<|ay<|av (au ((gD (m.R d) v.o v.dst v.bM).2)) ?_
   by_cases M:((gD (m.R d) v.o v.dst v.bM).2)=0
   ·refine Lv aF (ng M)<|aD<|aN<|Wk<|sN<|ay<|Lv (.func (.func 128) #[] #[(pt q),(pt A),(pt j)]) (Fx.iV (us := []) (vs := [(pt q),(pt A),(pt j)]) rfl rfl rfl)<|av (.func (.func 128) #[] #[(pt q),(pt A),(pt j)])<|av (au 0)<|aD<|Wr<|aM (.tuple #[.func (.func 128) #[] #[(pt q),(pt A),(pt j)],au 0]) ?_
    have H:oU m v=gD (m.R d) v.o v.dst v.bM:=by unfold oU; rw[ex]
    show JZ w B f m (xC m v.node (oU m v).1) _ _ _
    rw[H]
    have k:jX m v=0:=by unfold jX; rw[if_neg (by rw[u]; decide),if_neg (by rw[O,s]; decide),H]; exact M
    exact⟨⟨_,128,#[(pt q),(pt A),(pt j)],by rw[k],rfl,fun _=>⟨rfl,⟨_,_,Tryd.func128,rfl,rfl⟩,fun w2 I=>(MG m f B w2 ((h.up L).up I) v S u _ _ _ _ (qW.eH (Sb I) (Nat.ne_of_lt qW.lt)) (xk.eH (Sb I) (Nat.ne_of_lt xk.lt)) (AJ.eH (Sb I) (Nat.ne_of_lt AJ.lt))).mono fun _ _ P=>⟨P.1,P.2.1,P.2.2.mono fun _ u => .inl u⟩⟩⟩,L⟩
   refine Lv aG (qg M)<|aD<|aQ<|ay<|av (au ((gD (m.R d) v.o v.dst v.bM).2))<|av (.nilFunc)<|av (au ((gD (m.R d) v.o v.dst v.bM).2))<|aD<|Wr<|sR<|aM (.tuple #[.nilFunc,au ((gD (m.R d) v.o v.dst v.bM).2)]) ?_
   have H:oU m v=gD (m.R d) v.o v.dst v.bM:=by unfold oU; rw[ex]
   have k:jX m v=(gD (m.R d) v.o v.dst v.bM).2:=by unfold jX; rw[if_neg (by rw[u]; decide),if_neg (by rw[O,s]; decide),H]
   exact⟨⟨.nilFunc,0,#[],by rw[k],rfl,fun y=>absurd (k.symm.trans y) (by first|decide|omega|assumption)⟩,L⟩
  rw[Bool.not_eq_true]at s
  refine Rs aF (aP qV.aK b ((vS (by omega)).trans (congrArg Value.bool s))) ?_
  refine aW aG<|aW aG<|bG<|aQ<|ay<|av (.nilFunc)<|av (au 10)<|aD<|Wr<|bX<|sR<|aM (.tuple #[.nilFunc,au 10]) ?_
  have k:jX m v=10:=by unfold jX; rw[if_neg (by rw[u]; decide)]; exact if_pos (by rw[O]; exact s)
  exact⟨⟨.nilFunc,0,#[],by rw[k],rfl,fun y=>absurd (k.symm.trans y) (by first|decide|omega|assumption)⟩,Y⟩
 refine Rd (v := .tuple #[.agg (aA 54 (rv .i64 (fun _=>0))),.bool false]) (by rfl) (by rfl) (nY _) (fun K l=>Fx.yC (z := .agg (aA 54 (rv .i64 (fun _=>0)))) rfl rfl rfl (J.up l) Tryd.underlying54 Tryd.underlying29 (by kernel_rfl) gu) ?_
 refine aW (.tuple #[.agg (aA 54 (rv .i64 (fun _=>0))),.bool false])<|aW (.agg (aA 54 (rv .i64 (fun _=>0))))<|aW aF<|BN<|ni 54 (rv .i64 (fun _=>0)) fun g4 w7 DC xq s9 z6 => ?_
 have b9:=aR s9.old G
 have J2:=iC DC G.size
 have⟨TU,Zp,TV,Zq,TW,TY,T9⟩:=Fu DC C.lt m18.lt J.lt m20.lt m21.lt D.lt E.lt
 have JG:=xq.lt
 refine Ln ⟨s9.old,?_⟩
 refine gG<|fI xq 0 fun w8 Af s10 z7 => ?_
 have zM:aL w8 g4 54 (rv .i64 (fun _=>0)) 66:=aO Af
 have b10:=s10.below b9 b9.size (by omega)
 refine Ln<|aW aF<|bG<|Ws<|Wb<|ay<|av aF<|av aG<|av aG<|aD<|aQ<|ay<|av (.nilFunc)<|av (au 9)<|aD<|Wr<|bX<|sR<|aM (.tuple #[.nilFunc,au 9]) ?_
 have k:jX m v=9:=by unfold jX; exact if_pos (qM gu)
 exact⟨⟨.nilFunc,0,#[],by rw[k],rfl,fun y=>absurd (k.symm.trans y) (by first|decide|omega|assumption)⟩,b10⟩
theorem O1(m:dB)(i B:Nat)(w:World)(h:iR w B i m)(v:EvM)(J:bZ v=true)(b:Nat)(G:b<6)(H:v.dst=(b:Int)+1) :
 Calls Tryd.prog 113 #[(pt i),.agg (aA 14 (dF v))] w fun e w'=>JZ w B i m (Er m v) (0) e w':=by
 have y:=h.c
 have S:=h.t
 have A:=h.p
 have C:=h.r
 have z:=h.g
 have x:=h.a
 have R:=h.ne
 have U:=h.c.lt
 have Y:=h.t.lt
 have W:=h.p.lt
 have X:=h.r.lt
 have V:=h.g.lt
 have T:=h.a.lt
 refine Kent Tryd.func113 7 ?_
 refine ay<|pQ ((pt i)) fun d w1 s l P z1 => ?_
 have⟨K,L,M,N,O,o⟩:=vv P.old y A C z x (Below.refl w.heap.size w)
 have Z:=gK s
 have⟨ab,ac,ad,ae,af⟩:=ug s y.lt A.lt C.lt z.lt x.lt
 have am:=l.lt
 refine rG fun f E u n Q z2 => ?_
 have⟨D,q⟩:=gU Q.old l o
 have aa:=iC u o.size
 have⟨al,ag,ah,ai,aj,ak⟩:=BR u K.lt L.lt M.lt N.lt O.lt l.lt
 have an:=n.lt
 refine av (.nilFunc)<|av (au 0)<|aD<|ay<|Lv (.func (.func 129) #[] #[(pt d),(pt f)]) (Fx.iV (us := []) (vs := [(pt d),(pt f)]) rfl rfl rfl)<|av (.func (.func 129) #[] #[(pt d),(pt f)])<|av (au 0)<|aD<|Wr<|aM (.tuple #[.func (.func 129) #[] #[(pt d),(pt f)],au 0]) ?_
 have F:(0:Int)=0:=rfl
 exact⟨⟨_,129,#[(pt d),(pt f)],by rw[F],rfl,fun _=>⟨rfl,⟨_,_,Tryd.func129,rfl,rfl⟩,fun E j=>(MF m i B E ((h.up q).up j) v J b G H _ _ (D.eH (Sb j) (Nat.ne_of_lt D.lt)) (n.eH (Sb j) (Nat.ne_of_lt n.lt))).mono fun _ _ k=>⟨k.1,k.2.1,k.2.2.mono fun _ I => .inl I⟩⟩⟩,q⟩
theorem MK(m:dB)(f B:Nat)(w:World)(h:iR w B f m)(v:EvM)(G:bZ v=true) :
 Calls Tryd.prog 114 #[(pt f),.agg (aA 14 (dF v))] w fun e w'=>JZ w B f m (ze m v) (0) e w':=by
 have x:=h.c
 have P:=h.t
 have z:=h.p
 have A:=h.r
 have y:=h.g
 have u:=h.a
 have O:=h.ne
 have R:=h.c.lt
 have V:=h.t.lt
 have T:=h.p.lt
 have U:=h.r.lt
 have S:=h.g.lt
 have Q:=h.a.lt
 refine Kent Tryd.func114 7 ?_
 refine ay<|pQ ((pt f)) fun b w1 q k M z1 => ?_
 have⟨H,I,J,K,L,n⟩:=vv M.old x z A y u (Below.refl w.heap.size w)
 have W:=gK q
 have⟨Y,Z,aa,ab,ac⟩:=ug q x.lt z.lt A.lt y.lt u.lt
 have aj:=k.lt
 refine rG fun d D s l N z2 => ?_
 have⟨C,o⟩:=gU N.old k n
 have X:=iC s n.size
 have⟨ai,ad,ae,af,ag,ah⟩:=BR s H.lt I.lt J.lt K.lt L.lt k.lt
 have ak:=l.lt
 refine av (.nilFunc)<|av (au 0)<|aD<|ay<|Lv (.func (.func 130) #[] #[(pt b),(pt d)]) (Fx.iV (us := []) (vs := [(pt b),(pt d)]) rfl rfl rfl)<|av (.func (.func 130) #[] #[(pt b),(pt d)])<|av (au 0)<|aD<|Wr<|aM (.tuple #[.func (.func 130) #[] #[(pt b),(pt d)],au 0]) ?_
 have E:(0:Int)=0:=rfl
 exact⟨⟨_,130,#[(pt b),(pt d)],by rw[E],rfl,fun _=>⟨rfl,⟨_,_,Tryd.func130,rfl,rfl⟩,fun D i=>(JH m f B D ((h.up o).up i) v G _ _ (C.eH (Sb i) (Nat.ne_of_lt C.lt)) (l.eH (Sb i) (Nat.ne_of_lt l.lt))).mono fun _ _ j=>⟨j.1,j.2.1,j.2.2.mono fun _ F => .inl F⟩⟩⟩,o⟩
section
open Rt
set_option maxRecDepth 10000
-- qZ.Same is not in this seat
theorem Zr(o q:Nat)(w:World)(a:1<=o/\o<=6)(c:1<=q/\q<1099511627776) :
 Calls Tryd.prog 115 #[au ((o:Int)),aC ((q:Int))] w fun e w'=>e = .returned (aC (1099511627776*(o:Int)+(q:Int)))/\w'=w:=by
 refine Kent Tryd.func115 24 ?_
 refine ay<|av (aC 0)<|aD<|Ws<|ay<|av (au o)<|Lv aF Dp<|av aF<|av (au o)<|Lv aF rU<|av aF<|av aF<|av (aC q)<|Lv aF Dp<|av aF<|av aF<|av (aC q)<|Lv aF Aq<|av aF<|aD<|aN<|Wk<|sN<|ay<|av (au o)<|Lv (aC o) (eG rfl rfl (by kernel_rfl) Tryd.underlying29 (jl (by omega) rfl))<|Lv (aC (1099511627776*(o:Int))) (Fx.GN (b:=40) rfl rfl rfl (by decide) (jl (by omega) (by omega)))<|av (aC q)<|Lv (aC (1099511627776*(o:Int)+(q:Int))) (Fx.Tn rfl rfl rfl (by omega) (by omega))<|av (aC (1099511627776*(o:Int)+(q:Int)))<|aD<|Wr<|aM (aC (1099511627776*(o:Int)+(q:Int))) ?_
 exact⟨rfl,rfl⟩
end
end Go.Proofs.YtcbedgfikejkoaaDoor
namespace Go.Proofs.YtcbedgfikejkoaaDoor
open Go.RowKit Go
set_option linter.unusedVariables false
namespace Rt
theorem vT : ∀(n m:Nat) (f:Nat->Nat),(∀ i,i<m->f i<n)->(∀ i j,i<m->j<m->f i=f j->i=j)->m<=n
 | 0,m,f,h1,_=>by
   rcases Nat.eq_zero_or_pos m with h|h
   ·omega
   ·have:=h1 0 h; omega
 | n+1,m,f,h1,h2=>by
   rcases Nat.eq_zero_or_pos m with h|h
   ·omega
   by_cases d : ∃ a,a<m/\f a=n
   ·obtain⟨a,b,e⟩:=d
    have:=vT n (m-1) (fun j=>f (if j=a then m-1 else j)) (fun j o=>by
     have g:=h1 (if j=a then m-1 else j) (by split <;> omega)
     have k:f (if j=a then m-1 else j)≠n:=fun c=>by
      have:=h2 _ a (by split <;> omega) b (c.trans e.symm)
      split at this <;> omega
     show f _<n
     omega) (fun i j l p c=>by
     have:=h2 _ _ (by split <;> omega) (by split <;> omega) c
     split at this <;> split at this <;> omega)
    omega
   ·have:=vT n m f (fun i b=>by
     have:=h1 i b
     have:f i≠n:=fun e=>d ⟨i,b,e⟩
     omega) h2
    omega
section
variable {T U:cO} {id pa k:Int} {i:Nat}
theorem cO.xX(h:T.err id pa=0):T.add id pa=T.put id pa:=if_pos h
theorem cO.Ua(h : ¬ T.err id pa=0):T.add id pa=T:=if_neg h
theorem cO.uO(hi:i<T.n):T.has (T.x i)=true:=gL hi rfl
theorem cO.Es(h:T.ok)(hi:i<T.n):T.par (T.x i)=T.p i:=uh h.inj hi rfl
theorem cO.step(h:T.ok)(a:T.has k=true):T.path k=k::T.path (T.par k):=by
 have b:fZ T.x T.p T.n 3 (T.par k):=h.stop k a
 show(if dn T.x T.n k=true then k::gM T.x T.p T.n 3 (T.par k)else [])=_
 rw[if_pos (show dn T.x T.n k=true from a),<- (BX b (show 3<=4 by omega)).1]; rfl
theorem cO.Ub(h:T.ok)(hi:i<T.n):T.path (T.x i)=T.x i::T.path (T.p i):=by rw[cO.step h (cO.uO hi),cO.Es h hi]
theorem cO.uP:(T.path k).length<=4:=qN
theorem cO.Uc(h:T.ok):T.path 0 = []:=vE.VA h 4
theorem nP.zero(T:cO):nP cO.zero T:=⟨fun _ h=>(nomatch h),fun _ h=>(nomatch h)⟩
theorem nP.path(b:T.ok)(a:U.ok)(h:nP U T) : ∀(d:Nat) (k:Int),(k=0\/U.has k=true)->gM U.x U.p U.n d k=gM T.x T.p T.n d k
 | 0,_,_=>rfl
 | d+1,k,hk=>by
   rcases hk with rfl|hk
   ·rw[iX (vE.Sv a),iX (vE.Sv b)]
   ·unfold gM
    have c:dn U.x U.n k=true:=hk
    have e:dn T.x T.n k=true:=h.has k hk
    have f:fF U.x U.p U.n k=fF T.x T.p T.n k:=h.par k hk
    rw[if_pos c,if_pos e,<- f,nP.path b a h d]
    exact vE.up a hk
theorem nP.lt(s:U.ok)(h:nP U T)(hi:i<T.n)(m:U.has (T.x i)=false):U.n<T.n:=by
 have p : ∀ j,∃ q,j<U.n->q<T.n/\T.x q=U.x j:=fun j=>by
  by_cases g:j<U.n
  ·obtain⟨q,c,d⟩:=eF (h.has _ (cO.uO g))
   exact⟨q,fun _=>⟨c,d⟩⟩
  ·exact⟨0,fun h=>absurd h g⟩
 obtain⟨f,k⟩:=Classical.axiomOfChoice p
 have:=vT T.n (U.n+1) (fun j=>if j=U.n then i else f j) (fun j g=>by
  show(if j=U.n then i else f j)<T.n
  split
  ·exact hi
  ·exact(k j (by omega)).1) (fun a b t u e=>by
  have o : ∀ j,j<U.n->f j≠i:=fun j g e=>by
   have c:=(k j g).2
   rw[e]at c
   rw[c,cO.uO g]at m; cases m
  have e:(if a=U.n then i else f a)=(if b=U.n then i else f b):=e
  by_cases c:a=U.n
  ·by_cases d:b=U.n
   ·omega
   ·rw[if_pos c,if_neg d]at e; exact absurd e.symm (o b (by omega))
  ·by_cases d:b=U.n
   ·rw[if_neg c,if_pos d]at e; exact absurd e (o a (by omega))
   ·rw[if_neg c,if_neg d]at e
    have l:=(k a (by omega)).2
    have r:=(k b (by omega)).2
    rw[e]at l
    exact s.inj a b (by omega) (by omega) (l.symm.trans r))
 omega
theorem nP.add(d:T.ok)(g:U.ok)(h:nP U T)(hi:i<T.n)(j:T.p i=0\/U.has (T.p i)=true) :
 nP (U.add (T.x i) (T.p i)) T/\(U.add (T.x i) (T.p i)).has (T.x i)=true /\ ∀ k,U.has k=true->(U.add (T.x i) (T.p i)).has k=true:=by
 cases hh:U.has (T.x i)with
 | true =>
   have e:U.add (T.x i) (T.p i)=U:=by
    refine cO.Ua fun m => ?_
    have:=(FB m).2.1
    rw[show dn U.x U.n (T.x i)=U.has (T.x i)from rfl,hh]at this; cases this
   rw[e]; exact⟨h,hh,fun _ h=>h⟩
 | false =>
   have s:=(d.pos i hi).1
   have q:=nP.lt g h hi hh
   have r:=d.small
   have l:U.err (T.x i) (T.p i)=0:=by
    unfold cO.err mG
    rw[if_neg (by omega),if_neg (by rw[show dn U.x U.n (T.x i)=U.has (T.x i)from rfl,hh]; decide),if_neg,if_neg]
    ·rintro (b|b)
     ·omega
     ·have f:=nP.path d g h 4 (T.p i) j
      rw[f]at b
      have c:=cO.Ub d hi
      have o:(T.path (T.x i)).length<=4:=cO.uP
      rw[c,List.length_cons]at o
      have b:4<=(T.path (T.p i)).length:=b
      omega
    ·rintro ⟨b,f⟩
     rcases j with c|c
     ·exact b c
     ·rw[show dn U.x U.n (T.p i)=U.has (T.p i)from rfl,c]at f; cases f
   rw[cO.xX l]
   refine⟨⟨fun k a => ?_,fun k a => ?_⟩,?_,fun k a => ?_⟩
   ·rw[cO.iG,Bool.or_eq_true]at a
    rcases a with a|a
    ·exact h.has k a
    ·rw[<- of_decide_eq_true a]; exact cO.uO hi
   ·rw[cO.iG,Bool.or_eq_true]at a
    rw[cO.oJ]
    split
    ·rename_i e; subst e; exact(cO.Es d hi).symm
    ·rename_i e
     rcases a with a|a
     ·exact h.par k a
     ·exact absurd (of_decide_eq_true a) e
   ·rw[cO.iG,decide_eq_true rfl,Bool.or_true]
   ·rw[cO.iG,a,Bool.true_or]
structure Et(T U:cO)(r k:Nat):Prop where
 sub:nP U T
 fst : ∀ j,j<r->j<T.n->U.has (T.x j)=true
 Zt:k<=r->r<T.n->U.has (T.x r)=true
theorem Et.start(T:cO) : ∀ {r:Nat},r=0->Et T cO.zero r T.n:=fun e=>⟨nP.zero T,fun j h=>by omega,fun a b=>by omega⟩
theorem Et.add{r k:Nat}(f:T.ok)(g:U.ok)(h:Et T U r k)(m:0<k)(o:k<=T.n)(l:T.p (k-1)=0\/U.has (T.p (k-1))=true):Et T (U.add (T.x (k-1)) (T.p (k-1))) r (k-1):=by
 obtain⟨c,d,b⟩:=nP.add f g h.sub (show k-1<T.n by omega) l
 refine⟨c,fun j i a=>b _ (h.fst j i a),fun q a => ?_⟩
 by_cases e:k<=r
 ·exact b _ (h.Zt e a)
 obtain rfl:r=k-1:=by omega
 exact d
theorem Et.skip{r k:Nat}(b:T.ok)(h:Et T U r k)(f:0<k)(g:k<=T.n)(d : ¬ T.p (k-1)=0)(a:U.has (T.p (k-1))=false):Et T U r (k-1):=by
 refine⟨h.sub,h.fst,fun j c => ?_⟩
 by_cases e:k<=r
 ·exact h.Zt e c
 obtain rfl:r=k-1:=by omega
 rcases b.par (k-1) (by omega)with h1|⟨i,hi,h1⟩
 ·exact absurd h1 d
 rw[<- h1,h.fst i hi (by omega)]at a; cases a
theorem Et.next{r:Nat}(h:Et T U r 0):Et T U (r+1) T.n :=
 ⟨h.sub,fun j d a=>by
  by_cases e:j=r
  ·subst e; exact h.Zt (Nat.zero_le _) a
  ·exact h.fst j (by omega) a,fun b c=>by omega⟩
theorem Et.all{r k:Nat}(h:Et T U r k)(hr:T.n<=r) : ∀ k,T.has k=true->U.has k=true:=fun k b=>by
 obtain⟨j,a,rfl⟩:=eF b
 exact h.fst j (by omega) a
theorem Et.path{r k:Nat}(h:Et T U r k)(hr:T.n<=r)(q:Int):U.path q=T.path q:=h.sub.same (h.all hr) q
theorem Et.list{r k:Nat}(h:Et T U r k)(hr:T.n<=r){l m:List Int}(a:l.Pairwise (· < ·) /\ ∀ k,k∈l<->T.has k=true)(b:m.Pairwise (· < ·) /\ ∀ k,k∈m<->U.has k=true):m=l :=
 qO b.1 a.1 fun k=>(b.2 k).trans (Iff.trans ⟨h.sub.has k,h.all hr k⟩ (a.2 k).symm)
end
def J3(l:List Int)(v:Int)(n:Nat)(b:Bool):Prop:=b=true <-> ∃ j,j<n/\j<l.length/\l.getD j 0=v
theorem J3.zero(l:List Int)(v:Int):J3 l v 0 false:=⟨fun h=>(nomatch h),fun⟨j,h,_⟩=>absurd h (Nat.not_lt_zero _)⟩
theorem J3.keep{l:List Int}{v:Int}{n:Nat}(h:J3 l v n true):J3 l v (n+1) true:=⟨fun _=>by obtain⟨j,b,a⟩:=h.1 rfl; exact⟨j,by omega,a⟩,fun _=>rfl⟩
theorem J3.yes{l:List Int}{v:Int}{n:Nat}(a:n<l.length)(e:l.getD n 0=v):J3 l v (n+1) true:=⟨fun _=>⟨n,by omega,a,e⟩,fun _=>rfl⟩
theorem J3.no{l:List Int}{v:Int}{n:Nat}(h:J3 l v n false)(e : ¬ l.getD n 0=v):J3 l v (n+1) false:=⟨fun h=>(nomatch h),fun⟨j,d,c,a⟩=>by
 by_cases b:j=n
 ·subst b; exact absurd a e
 ·exact h.2 ⟨j,by omega,c,a⟩⟩
theorem J3.mem{l:List Int}{v:Int}{n:Nat}{b:Bool}(h:J3 l v n b)(i:l.length<=n):b=true<->v∈l:=by
 constructor
 ·intro f
  obtain⟨j,_,c,d⟩:=h.1 f
  exact nN c d
 intro g
 obtain⟨j,a,e⟩:=List.getElem_of_mem g
 refine h.2 ⟨j,by omega,a,?_⟩
 rw[List.getD_eq_getElem?_getD,List.getElem?_eq_getElem a]; exact e
end Rt
end Go.Proofs.YtcbedgfikejkoaaDoor
namespace Go.Proofs.YtcbedgfikejkoaaDoor
open Go.RowKit Go
set_option linter.unusedVariables false
namespace Rt
def O4(x:Nat->Int)(v:Int)(j aq:Nat):Prop:=(aq=0 /\ ∀ q,q<j->x q≠v)\/(0<aq/\aq<=j/\x (aq-1)=v)
section
variable {x:Nat->Int} {v:Int} {j aq:Nat}
theorem O4.zero:O4 x v 0 0 := .inl ⟨rfl,fun _ h=>absurd h (Nat.not_lt_zero _)⟩
theorem O4.yes(e:x j=v):O4 x v (j+1) (j+1) := .inr ⟨by omega,by omega,e⟩
theorem O4.no(h:O4 x v j aq)(e : ¬ x j=v):O4 x v (j+1) aq:=by
 rcases h with ⟨a,b⟩|⟨a,b,h3⟩
 ·refine .inl ⟨a,fun q d => ?_⟩
  by_cases c:q=j
  ·subst c; exact e
  exact b q (by omega)
 exact .inr ⟨a,by omega,h3⟩
end
section
variable {x p:Nat->Int} {n:Nat}
theorem lu : ∀ {d:Nat} {v:Int},fZ x p n d v -> ∀ k,k<(gM x p n d v).length->dn x n ((gM x p n d v).getD k 0)=true /\
 (k+1<(gM x p n d v).length->(gM x p n d v).getD (k+1) 0=fF x p n ((gM x p n d v).getD k 0))/\(k+1=(gM x p n d v).length->dn x n (fF x p n ((gM x p n d v).getD k 0))=false)
 | 0,v,h,k,hk=>absurd hk (Nat.not_lt_zero _)
 | d+1,v,h,k,hk=>by
   cases hv:dn x n v with
   | false=>rw[iX hv]at hk; exact absurd hk (Nat.not_lt_zero _)
   | true =>
     have e:gM x p n (d+1) v=v::gM x p n d (fF x p n v):=by show(if _ then _ else _)=_; rw[if_pos hv]
     have c:fZ x p n d (fF x p n v):=h hv
     have i := @lu d (fF x p n v) c
     have g:0<(gM x p n d (fF x p n v)).length->(gM x p n d (fF x p n v)).getD 0 0=fF x p n v:=fun a=>by
      cases d with
      | zero=>exact absurd a (Nat.not_lt_zero _)
      | succ d =>
        unfold gM at a ⊢
        split at a
        ·rename_i hq; rw[if_pos hq]; rfl
        ·exact absurd a (Nat.not_lt_zero _)
     rw[e]at hk ⊢
     rw[List.length_cons]at hk ⊢
     cases k with
     | zero =>
       rw[List.getD_cons_zero,List.getD_cons_succ]
       refine⟨hv,fun b=>g (by omega),fun b => ?_⟩
       cases hq:dn x n (fF x p n v)with
       | false=>rfl
       | true =>
         obtain⟨j,_,_,f⟩:=Av c hq
         rw[f,List.length_cons]at b; omega
     | succ k =>
       rw[List.getD_cons_succ,List.getD_cons_succ]
       have:=i k (by omega)
       exact⟨this.1,fun b=>this.2.1 (by omega),fun b=>this.2.2 (by omega)⟩
end
section
variable {T:cO} {id pa k v:Int} {i j aq:Nat} {pl:List Int}
theorem O4.get(h:O4 T.x v T.n aq)(d:T.has v=true):0<aq/\aq-1<T.n/\T.x (aq-1)=v:=by
 rcases h with ⟨a,b⟩|⟨a,b,h3⟩
 ·obtain⟨q,c,e⟩:=eF d
  exact absurd e (b q c)
 exact⟨a,by omega,h3⟩
theorem cO.Gc(h:T.ok)(e:pl=T.path v){q:Nat}(a:q<pl.length):T.has (pl.getD q 0)=true:=by
 subst e; exact(lu (h.stop v) q a).1
theorem cO.O5(h:T.ok)(e:pl=T.path v){q:Nat}(b:q+1<pl.length)(ha:aq-1<T.n)(hx:T.x (aq-1)=pl.getD q 0):T.p (aq-1)=pl.getD (q+1) 0:=by
 subst e
 have:=(lu (h.stop v) q (Nat.lt_of_succ_lt b)).2.1 b
 have a:=cO.Es h ha
 rw[hx]at a
 exact a.symm.trans this.symm
theorem cO.O6(h:T.ok)(e:pl=T.path v){q:Nat}(c:q+1=pl.length)(ha:aq-1<T.n)(hx:T.x (aq-1)=pl.getD q 0):T.p (aq-1)=0:=by
 subst e
 have a:=(lu (h.stop v) q (Nat.lt_of_succ_le (Nat.le_of_eq c))).2.2 c
 have b:=cO.Es h ha
 rw[hx]at b
 rw[show fF T.x T.p T.n ((gM T.x T.p T.n 4 v).getD q 0)=T.p (aq-1)from b]at a
 rcases h.par _ ha with h4|⟨i,hi,h4⟩
 ·exact h4
 rw[<- h4,gL (by omega) rfl]at a; cases a
theorem cO.Ud(d : ¬ id=0)(e:pa=0\/T.has pa=true):T.err id pa=if T.has id=true then 14 else if 32<=T.n\/4<=(T.path pa).length then 6 else 0:=by
 show mG T.x T.p T.n id pa=_
 unfold mG
 rw[if_neg d]
 have c : ¬ (¬ pa=0/\dn T.x T.n pa=false):=by
  rintro ⟨b,a⟩
  rcases e with h3|h3
  ·exact b h3
  ·rw[show dn T.x T.n pa=T.has pa from rfl,h3]at a; cases a
 rw[if_neg c]; rfl
end
def Rj(v1 v2:Value):Prop := ∀ g,v1.ownBlock=some g->v2.ownBlock≠some g
section
variable {w w':World} {v v2:Value} {B s n g m c:Nat} {E:TypeId} {x:Nat->Value}
theorem Rj.symm(h:Rj v v2):Rj v2 v:=fun g a b=>h g b a
theorem Rj.nil:Rj (.slice none 0 0) v:=fun g h=>nomatch h
theorem Rj.app(h:Rj v v2)(b:Fx.Own w B E s v n x)(d:v2.ownBlock=some g\/g=w.heap.size):Rj v (bJ g m c):=fun q a e=>by
 have e:some g=some q:=e
 obtain rfl:=Option.some.inj e
 rcases d with h1|h1
 ·exact h _ a h1
 ·have:=(b.ge a).2; omega
end
end Rt
end Go.Proofs.YtcbedgfikejkoaaDoor
namespace Go.Proofs.YtcbedgfikejkoaaDoor
open Go.RowKit Go
set_option linter.unusedVariables false
namespace Rt
def zO(n:Nat):Nat->List Nat
 | 0 => []
 | j+1=>zO n j ++ [n-1-j]
theorem Ij(n:Nat) : ∀ j,(zO n j).length=j
 | 0=>rfl
 | j+1=>by unfold zO; rw[List.length_append,Ij n j]; rfl
def EZ(T:cO)(l:List Int)(a:List Nat):cO:=a.foldl (fun U x=>U.add (l.getD x 0) (T.par (l.getD x 0))) cO.zero
theorem zi(T:cO)(l:List Int)(a:List Nat)(x:Nat):EZ T l (a ++ [x])=(EZ T l a).add (l.getD x 0) (T.par (l.getD x 0)):=by unfold EZ; rw[List.foldl_append]; rfl
def iM(l ll:List Int)(U:cO):Nat->cO
 | 0=>U
 | i+1=>if ll.getD i 0∈l then iM l ll U i else(iM l ll U i).add (ll.getD i 0) 0
section
variable {T U:cO} {l ll:List Int} {id pa k v:Int} {i j n:Nat}
theorem has_lt(t:U.ok)(h : ∀ k,U.has k=true->T.has k=true)(hx:T.has v=true)(o:U.has v=false):U.n<T.n:=by
 obtain⟨i,u,rfl⟩:=eF hx
 have r : ∀ j,∃ q,j<U.n->q<T.n/\T.x q=U.x j:=fun j=>by
  by_cases g:j<U.n
  ·obtain⟨q,c,d⟩:=eF (h _ (cO.uO g))
   exact⟨q,fun _=>⟨c,d⟩⟩
  ·exact⟨0,fun h=>absurd h g⟩
 obtain⟨f,l⟩:=Classical.axiomOfChoice r
 have:=vT T.n (U.n+1) (fun j=>if j=U.n then i else f j) (fun j g=>by
  show(if j=U.n then i else f j)<T.n
  split
  ·exact u
  ·exact(l j (by omega)).1) (fun a b w y e=>by
  have p : ∀ j,j<U.n->f j≠i:=fun j g e=>by
   have c:=(l j g).2
   rw[e]at c
   rw[c,cO.uO g]at o; cases o
  have e:(if a=U.n then i else f a)=(if b=U.n then i else f b):=e
  by_cases c:a=U.n
  ·by_cases d:b=U.n
   ·omega
   ·rw[if_pos c,if_neg d]at e; exact absurd e.symm (p b (by omega))
  ·by_cases d:b=U.n
   ·rw[if_neg c,if_pos d]at e; exact absurd e (p a (by omega))
   ·rw[if_neg c,if_neg d]at e
    have m:=(l a (by omega)).2
    have s:=(l b (by omega)).2
    rw[e]at m
    exact t.inj a b (by omega) (by omega) (m.symm.trans s))
 omega
theorem ML(p:U.ok)(h : ∀ k,U.has k=true->T.has k=true):U.n<=T.n:=by
 have l : ∀ j,∃ q,j<U.n->q<T.n/\T.x q=U.x j:=fun j=>by
  by_cases i:j<U.n
  ·obtain⟨q,m,o⟩:=eF (h _ (cO.uO i))
   exact⟨q,fun _=>⟨m,o⟩⟩
  ·exact⟨0,fun h=>absurd h i⟩
 obtain⟨f,c⟩:=Classical.axiomOfChoice l
 exact vT T.n U.n f (fun q r=>(c q r).1) fun a b d g e=>p.inj a b d g (by rw[<- (c a d).2,<- (c b g).2,e])
structure BwI(T U:cO)(l:List Int)(j:Nat):Prop where
 ok:U.ok
 sub:nP U T
 has : ∀ x,l.length-j<=x->x<l.length->U.has (l.getD x 0)=true
 only : ∀ k,U.has k=true->k∈l
theorem MN(a:T.ok)(hi:i<T.n):0<=T.x i/\T.x i<=18446744073709551615:=by have:=a.pos i hi; omega
theorem O7(U:cO)(id pa k:Int)(h:(U.add id pa).has k=true):U.has k=true\/k=id:=by
 unfold cO.add at h
 split at h
 ·rw[cO.iG,Bool.or_eq_true]at h
  rcases h with h|h
  ·exact .inl h
  exact .inr (of_decide_eq_true h).symm
 exact .inl h
theorem MO(a:T.ok)(e:l=T.path pa) : ∀ j,j<=l.length->BwI T (EZ T l (zO l.length j)) l j
 | 0,_=>⟨vE.zero _ _,nP.zero T,fun x g c=>by omega,fun k h=>nomatch h⟩
 | j+1,hj=>by
   have d:=MO a e j (by omega)
   have m:l.length-1-j<l.length:=by omega
   have t:T.has (l.getD (l.length-1-j) 0)=true:=cO.Gc a e m
   obtain⟨i,f,b⟩:=eF t
   have n:T.par (l.getD (l.length-1-j) 0)=T.p i:=by rw[<- b]; exact cO.Es a f
   show BwI T (EZ T l (zO l.length j ++ [l.length-1-j])) l (j+1)
   rw[zi,n,<- b]
   have s:T.p i=0\/(EZ T l (zO l.length j)).has (T.p i)=true:=by
    by_cases r:l.length-1-j+1=l.length
    ·exact .inl (cO.O6 (aq:=i+1) a e r f b)
    ·have c:=cO.O5 (aq:=i+1) a e (show l.length-1-j+1<l.length by omega) f b
     have c:T.p i=l.getD (l.length-1-j+1) 0:=c
     right
     rw[c]
     exact d.has _ (by omega) (by omega)
   obtain⟨u,v,w⟩:=nP.add a d.ok d.sub f s
   refine⟨cO.Ch d.ok (MN a f),u,fun x g c => ?_,fun k q => ?_⟩
   ·by_cases o:x=l.length-1-j
    ·rw[o,<- b]; exact v
    ·exact w _ (d.has x (by omega) c)
   ·rcases O7 _ _ _ _ q with g|rfl
    ·exact d.only k g
    ·rw[b]
     rw[List.getD_eq_getElem?_getD,List.getElem?_eq_getElem m]; exact List.getElem_mem m
structure Zu(T U:cO)(l ll:List Int)(i:Nat):Prop where
 ok:U.ok
 sub : ∀ k,U.has k=true->T.has k=true
 par : ∀ k,k∈l->U.has k=true/\U.par k=T.par k
 has : ∀ q,q<i->q<ll.length->U.has (ll.getD q 0)=true
 only : ∀ k,U.has k=true->k∈l \/ ∃ q,q<i/\q<ll.length/\ll.getD q 0=k
theorem Ue(d:ll.Pairwise (· < ·)){a b:Nat}(ha:a<ll.length)(c:b<ll.length)(e:ll.getD a 0=ll.getD b 0):a=b:=by
 rw[List.getD_eq_getElem?_getD,List.getD_eq_getElem?_getD,List.getElem?_eq_getElem ha,List.getElem?_eq_getElem c]at e
 have e:ll[a]=ll[b]:=e
 rcases Nat.lt_trichotomy a b with h1|h1|h1
 ·have:=List.pairwise_iff_getElem.1 d a b ha c h1; omega
 ·exact h1
 have:=List.pairwise_iff_getElem.1 d b a c ha h1; omega
theorem MP(d:T.ok)(g:ll.Pairwise (· < ·) /\ ∀ k,k∈ll<->T.has k=true)(n:Zu T U l ll 0) : ∀ i,i<=ll.length->Zu T (iM l ll U i) l ll i
 | 0,_=>n
 | i+1,hi=>by
   have b:=MP d g n i (by omega)
   unfold iM
   have s:ll.getD i 0∈ll:=by rw[List.getD_eq_getElem?_getD,List.getElem?_eq_getElem (by omega)]; exact List.getElem_mem _
   have f:=(g.2 _).1 s
   by_cases c:ll.getD i 0∈l
   ·rw[if_pos c]
    refine⟨b.ok,b.sub,b.par,fun q v h => ?_,fun k a => ?_⟩
    ·by_cases e:q=i
     ·rw[e]; exact(b.par _ c).1
     ·exact b.has q (by omega) h
    ·rcases b.only k a with h1|⟨q,h1,h2,h3⟩
     ·exact .inl h1
     ·exact .inr ⟨q,by omega,h2,h3⟩
   ·rw[if_neg c]
    obtain⟨z,r,m⟩:=eF f
    have o:=MN d r
    rw[m]at o
    have u:=d.pos z r
    rw[m]at u
    have p:(iM l ll U i).has (ll.getD i 0)=false:=by
     cases hh:(iM l ll U i).has (ll.getD i 0)with
     | false=>rfl
     | true =>
       rcases b.only _ hh with h1|⟨q,h1,h2,h3⟩
       ·exact absurd h1 c
       ·have:=Ue g.1 h2 (by omega) h3; omega
    have w:=has_lt b.ok b.sub f p
    have x:=d.small
    have j:(iM l ll U i).err (ll.getD i 0) 0=0:=by
     rw[cO.Ud (by omega) (.inl rfl),if_neg (by rw[p]; decide),if_neg]
     rw[cO.Uc b.ok]
     rintro (h1|h1)
     ·omega
     ·simp at h1
    rw[cO.xX j]
    have t : ∀ k,k∈l -> ¬ ll.getD i 0=k:=fun k a e=>c (e ▸ a)
    refine⟨by have:=cO.Ch (pa:=0) b.ok o; rwa [cO.xX j]at this,fun k a => ?_,fun k a => ?_,fun q v h => ?_,fun k a => ?_⟩
    ·rw[cO.iG,Bool.or_eq_true]at a
     rcases a with a|a
     ·exact b.sub k a
     ·rw[<- of_decide_eq_true a]; exact f
    ·rw[cO.iG,cO.oJ,if_neg (t k a),(b.par k a).1,Bool.true_or]
     exact⟨rfl,(b.par k a).2⟩
    ·rw[cO.iG]
     by_cases e:q=i
     ·rw[e,decide_eq_true rfl,Bool.or_true]
     ·rw[b.has q (by omega) h,Bool.true_or]
    ·rw[cO.iG,Bool.or_eq_true]at a
     rcases a with a|a
     ·rcases b.only k a with h1|⟨q,h1,h2,h3⟩
      ·exact .inl h1
      ·exact .inr ⟨q,by omega,h2,h3⟩
     ·exact .inr ⟨i,by omega,by omega,of_decide_eq_true a⟩
theorem Bg(c : ∀ k,U.has k=T.has k) : ∀(d:Nat) (k:Int),(∀ q,q∈gM T.x T.p T.n d k->U.par q=T.par q)->gM U.x U.p U.n d k=gM T.x T.p T.n d k
 | 0,_,_=>rfl
 | d+1,k,h=>by
   have a:dn U.x U.n k=dn T.x T.n k:=c k
   cases hk:dn T.x T.n k with
   | false=>rw[iX hk,iX (a.trans hk)]
   | true =>
     have b:gM T.x T.p T.n (d+1) k=k::gM T.x T.p T.n d (fF T.x T.p T.n k):=by show(if _ then _ else _)=_; rw[if_pos hk]
     have e:gM U.x U.p U.n (d+1) k=k::gM U.x U.p U.n d (fF U.x U.p U.n k):=by show(if _ then _ else _)=_; rw[if_pos (a.trans hk)]
     rw[b]at h
     have f:fF U.x U.p U.n k=fF T.x T.p T.n k:=h k (List.mem_cons_self ..)
     rw[b,e,f,Bg c d _ fun q g=>h q (List.mem_cons_of_mem _ g)]
theorem O8(i:T.ok)(e:l=T.path pa)(m:ll.Pairwise (· < ·) /\ ∀ k,k∈ll<->T.has k=true):(iM l ll (EZ T l (zO l.length l.length)) ll.length).err id pa=T.err id pa:=by
 have d:=MO i e l.length (Nat.le_refl _)
 have t : ∀ k,k∈l -> ∃ x,x<l.length/\l.getD x 0=k:=fun k a=>by
  obtain⟨x,h,r⟩:=List.getElem_of_mem a
  exact⟨x,h,by rw[List.getD_eq_getElem?_getD,List.getElem?_eq_getElem h]; exact r⟩
 have s:Zu T (EZ T l (zO l.length l.length)) l ll 0:=⟨d.ok,d.sub.has,fun k a=>by
  obtain⟨x,h,rfl⟩:=t k a
  have:=d.has x (by omega) h
  exact⟨this,d.sub.par _ this⟩,fun q b=>by omega,fun k a => .inl (d.only k a)⟩
 have c:=MP i m s ll.length (Nat.le_refl _)
 generalize iM l ll (EZ T l (zO l.length l.length)) ll.length=V at c
 have g : ∀ k,V.has k=T.has k:=fun k=>by
  cases f:T.has k with
  | false =>
    cases j:V.has k with
    | false=>rfl
    | true=>rw[c.sub k j]at f; cases f
  | true =>
    obtain⟨q,b,o⟩:=List.getElem_of_mem ((m.2 k).2 f)
    have:=c.has q b b
    rw[List.getD_eq_getElem?_getD,List.getElem?_eq_getElem b]at this
    rw[<- o]; exact this
 have u:V.n=T.n:=by
  have f:=ML c.ok c.sub
  have j:=ML i (fun k a=>by rw[g]; exact a : ∀ k,T.has k=true->V.has k=true)
  omega
 have v:V.path pa=T.path pa:=Bg g 4 pa fun q b=>(c.par q (by rw[e]; exact b)).2
 show mG V.x V.p V.n id pa=mG T.x T.p T.n id pa
 unfold mG
 have w:gM V.x V.p V.n 4 pa=gM T.x T.p T.n 4 pa:=v
 rw[show dn V.x V.n id=dn T.x T.n id from g id,show dn V.x V.n pa=dn T.x T.n pa from g pa,w,u]
end
end Rt
end Go.Proofs.YtcbedgfikejkoaaDoor
namespace Go.Proofs.YtcbedgfikejkoaaDoor
open Go.RowKit Go
set_option linter.unusedVariables false
namespace Fx
abbrev qG:=Exit->(Nat->Value)->List Deferred->World->Prop
def MQ(n:Nat)(Q:qG):Exit->Act->World->Prop:=fun e a w => ∃ f,tO a n f/\Q e f a.defers w
def W0(ro:Option Nat)(m:Nat)(P:Program)(n:Nat)(c:Code)(Q:qG)(f:Nat->Value)(ds:List Deferred)(w:World):Prop := ∀ a,tO a n f->a.defers=ds->c.wpIn (FR ro) m P (MQ n Q) a w
def MR(ro:Option Nat)(m:Nat)(P:Program)(n:Nat)(y:Code)(Q:qG):qG:=fun e f ds w=>match e with | .normal=>W0 ro m P n y Q f ds w|e=>Q e f ds w
def uQ(id:Nat)(Q:qG):qG:=fun e f ds w=>match e with | .exit id'=>if id'=id then Q .normal f ds w else Q (.exit id') f ds w|e=>Q e f ds w
def Gd(I:(Nat->Value)->World->Prop)(b:(Nat->Value)->World->Nat)(k:Nat)(ds:List Deferred)(Q:qG):qG:=fun e f a w=>match e with | .normal=>a=ds/\I f w/\b f w<k|e=>Q e f a w
section
variable {ro:Option Nat} {m:Nat} {ds:List Deferred} {P:Program} {n:Nat} {Q:qG} {f:Nat->Value} {w:World}
theorem W0.seq{x y:Code}(h:W0 ro m P n x (MR ro m P n y Q) f ds w):W0 ro m P n (.seq x y) Q f ds w:=fun a i j =>
 wpIn_seq (wpIn_mono (h a i j) fun e d w' b=>by
  obtain⟨g,c,b⟩:=b
  cases e <;> first|exact b d c rfl|exact⟨g,c,b⟩)
theorem W0.skip(h:Q .normal f ds w):W0 ro m P n .skip Q f ds w:=fun _ a b=>wpIn_skip ⟨f,a,b ▸ h⟩
theorem W0.ret(h:Q .ret f ds w):W0 ro m P n .ret Q f ds w:=fun _ a b=>wpIn_ret ⟨f,a,b ▸ h⟩
theorem W0.exit{id:Nat}(h:Q (.exit id) f ds w):W0 ro m P n (.exit id) Q f ds w:=fun _ a b=>wpIn_exit ⟨f,a,b ▸ h⟩
theorem W0.block{id:Nat}{c:Code}(h:W0 ro m P n c (uQ id Q) f ds w):W0 ro m P n (.block id c) Q f ds w:=fun a i j =>
 wpIn_block (wpIn_mono (h a i j) fun e k w' b=>by
  obtain⟨d,g,b⟩:=b
  cases e <;> first
   | exact⟨d,g,b⟩
   | (simp only[uQ]at b; simp only[Exit.inBlock]; split at b <;> rename_i hid <;> simp only[hid,if_true,if_false] <;> exact⟨d,g,b⟩))
theorem W0.cond{c:Operand}{x y:Code}{b:Bool}(h:ev f c = .bool b)(j:b=true->W0 ro m P n x Q f ds w)(i:b=false->W0 ro m P n y Q f ds w):W0 ro m P n (.cond c x y) Q f ds w:=fun a d g =>
 wpIn_cond_split (t:=b) (by rw[d.ev]; exact h) (fun e=>j e a d g) (fun e=>i e a d g)
theorem W0.loop{c:Code}(I:(Nat->Value)->World->Prop)(k:(Nat->Value)->World->Nat)(r:I f w)(hr : ∀ f w,I f w->W0 ro m P n c (Gd I k (k f w) ds Q) f ds w):W0 ro m P n (.loop c) Q f ds w:=fun a s h =>
 wpIn_loop (fun a w => ∃ f,tO a n f/\a.defers=ds/\I f w) (fun a w=>k (fun i=>a.tmps.getD i undef) w) ⟨f,s,h,r⟩ (fun a w g=>by
  obtain⟨f,l,h,g⟩:=g
  have e:(fun i=>a.tmps.getD i undef)=f:=funext l.get
  refine wpIn_mono (hr f w g a l h)<|fun p o w' b => ?_
  obtain⟨d,j,b⟩:=b
  cases p <;> first
   | exact⟨d,j,b⟩
   | (have q:(fun i=>o.tmps.getD i undef)=d:=funext j.get
      exact⟨⟨d,j,b.1,b.2.1⟩,by rw[e,q]; exact b.2.2⟩))
theorem W0.list{id:Nat}{ops:List Oper}(h:L P n ops.toArray (fun e f w=>Q e f ds w) ops f w)(k:ops.all iq=true:=by rfl):W0 ro m P n (.region id ops.toArray false) Q f ds w:=fun a i j =>
 Au i h k fun e l w' ⟨b,c,d,g⟩=>⟨b,c,by rw[d,j]; exact g⟩
theorem kQ{y:Code}(h:W0 ro m P n y Q f ds w):MR ro m P n y Q .normal f ds w:=h
theorem WA{id:Nat}{y:Code}(h:Q (.exit id) f ds w):MR ro m P n y Q (.exit id) f ds w:=h
theorem Eu{id:Nat}(h:Q .normal f ds w):uQ id Q .normal f ds w:=h
theorem WB{id:Nat}(h:Q .normal f ds w):uQ id Q (.exit id) f ds w:=by simp only[uQ,if_true]; exact h
theorem Zv{I:(Nat->Value)->World->Prop}{a:(Nat->Value)->World->Nat}{k id:Nat}(h:Q (.exit id) f ds w):Gd I a k ds Q (.exit id) f ds w:=h
theorem WC{I:(Nat->Value)->World->Prop}{a:(Nat->Value)->World->Nat}{k:Nat}(h:I f w)(b:a f w<k):Gd I a k ds Q .normal f ds w:=⟨rfl,h,b⟩
def Rl(P:Program)(m:Nat)(b:Func)(R:Ending->World->Prop):qG:=fun e f ds w => ∀ a,tO a b.ntmps f->a.defers=ds->bodyPostM (FR none) m P b R e a w
theorem Uf{g:FuncId}{b:Func}{c:Code}{args:Array Value}{R:Ending->World->Prop}(m:Nat)(k:P.funcs[g]? = some b)(j:b.body=some c)(f:b.ntmps=n)(ha:Nat.ble args.size n=true)(h:W0 none m P n c (Rl P m b R) (start args) [] w):Calls P g args w R:=by
 have q:args.size<=n:=Nat.le_of_ble_eq_true ha
 refine(callsIn_wide (n:=m)).1 (callsIn_of_wp_marks (F:=FR none) k j trivial ?_ rfl)
 refine wpIn_mono (h _ ⟨?_,?_⟩ rfl) fun e a w' ⟨p,l,o⟩=>o a (by rw[f]; exact l) rfl
 ·simp[f]; omega
 intro i
 simp only[start,Array.getD_eq_getD_getElem?,Array.getElem?_append,Array.getElem?_replicate]
 by_cases d:i<args.size
 ·simp[d]
 rw[if_neg d]
 split
 ·rw[Array.getElem?_eq_none (by omega)]; rfl
 rw[Array.getElem?_eq_none (by omega)]
theorem leaveD{b:Func}{R:Ending->World->Prop}{D:Nat}{v:Value}(c:w.heap[D]? = some (.deferred (some [])))(h:(tX b f).run P (w.putObj D (.deferred none)) = .ok v (w.putObj D (.deferred none)))(d:R (.returned v) (w.putObj D (.deferred none))) :
 Rl P m b R .ret f [{ target := .collected D,args := #[] }] w:=fun a e g=>leave1 e g c h d
variable {ops:List Oper} {cs:List Nat} {S:World->World->Prop}
theorem R.WE(T:iU n ops=true)(hsel:Region.noSelect ops.toArray=true)(aa:ops.all iq=true)(hS : ∀ w,S w w)(hT : ∀ a b c,S a b->S b c->S a c){dY:List (Nat × Nat × List Nat)} : ∀(k:Nat) (u:List Nat) (p:Array Bool) (a:Act) (f:Nat->Value) (w:World),u.length=k->p.size=ops.length->CZ ops.toArray .any p ->
 (∀ i,i∈u<->i<ops.length/\p.getD i false=false)->u.Nodup->(u.Pairwise fun i j=>kL ops cs dY i j=true)->tO a n f->a.defers=ds->R P n ops cs S (fun e f w=>Q e f ds w) u f w->wpAnyIn (FR ro) m P .any ops.toArray (MQ n Q) k p a w:=by
 intro k
 induction k with
 | zero =>
   intro u p a f w F ac J x G H A L h
   have:u = []:=List.eq_nil_of_length_eq_zero F
   subst this
   refine⟨?_,f,A,by rw[L]; exact h⟩
   rw[List.eq_nil_iff_forall_not_mem]
   intro j E
   obtain⟨z,s,_,_⟩:=dN E
   exact absurd ((x j).2 ⟨s,z⟩) (by simp)
 | succ k ih =>
   intro u p a f w F ac J x G H A L h
   refine⟨fun hr => ?_,fun j E => ?_⟩
   ·cases u with
    | nil=>simp at F
    | cons r Yv =>
      exfalso
      obtain⟨z,s⟩:=(x r).1 (List.mem_cons_self ..)
      have:r∈Region.ready .any ops.toArray p:=by
       refine mem_ready.2 ⟨getD_in (by omega) s,opAt ops r,by unfold opAt; rw[List.getElem?_toArray,List.getD_eq_getElem?_getD,List.getElem?_eq_getElem z]; rfl,fun e M C => ?_⟩
       have B:bR (opAt ops r) e.on=true:=by
        unfold bR; rw[Array.any_eq_true']; exact⟨e,M,by rw[C,Nat.beq_refl]; rfl⟩
       have hlt:=(dJ T z).2.2.2 e.on B
       cases hle:p.getD e.on false with
       | true=>rfl
       | false =>
         have g:=(x e.on).2 ⟨by omega,hle⟩
         rcases List.mem_cons.1 g with e1|e1
         ·omega
         ·have o:=(List.pairwise_cons.1 H).1 _ e1
          unfold kL at o
          rw[B]at o; simp at o
      rw[hr]at this; simp at this
   ·obtain⟨z,s,W,X⟩:=dN E
    have hjm:=(x j).2 ⟨s,z⟩
    obtain⟨t,y,rfl⟩:=List.append_of_mem hjm
    have C:=bubble (P:=P) (cs:=cs) (S:=S) (Q:=fun e f w=>Q e f ds w) T hsel hS hT s (l:=y) t (fun i N=>by
     obtain⟨h5,Y⟩:=(x i).1 (List.mem_append_left _ N)
     have O:i≠j:=fun e=>by
      subst e
      exact(List.nodup_append.1 G).2.2 i N i (List.mem_cons_self ..) rfl
     have o:kL ops cs dY i j=true:=(List.pairwise_append.1 H).2.2 i N j (List.mem_cons_self ..)
     unfold kL at o
     rw[Bool.and_eq_true,Bool.or_eq_true]at o
     have R9:bR (opAt ops j) i=false:=by
      cases hq:bR (opAt ops j) i with
      | false=>rfl
      | true=>have:=X i hq; rw[Y]at this; cases this
     refine⟨h5,O,R9,by simpa using o.1,?_⟩
     rcases o.2 with o|o
     ·rw[Bool.and_eq_true,Bool.or_eq_true]at o
      refine⟨o.1,?_⟩
      rcases o.2 with q|q
      ·rw[Bool.or_eq_true]at q
       exact q.elim (fun q => .inl (Nat.eq_of_beq_eq_true q)) (fun q => .inr (.inl q))
      ·rw[Bool.and_eq_true]at q
       exact .inr (.inr ⟨Nat.eq_of_beq_eq_true q.1,Nat.eq_of_beq_eq_true q.2⟩)
     ·exfalso
      rw[List.any_eq_true]at o
      obtain⟨c,_,Z⟩:=o
      rw[Bool.and_eq_true,Bool.and_eq_true]at Z
      obtain⟨m,g⟩:=fQ Z.2
      cases m with
      | zero=>unfold reach at g; simp at g; exact O g.symm
      | succ m =>
        unfold reach at g
        rw[Bool.or_eq_true]at g
        rcases g with g|g
        ·simp at g; exact O g.symm
        ·rw[W]at g
         simp only at g
         rw[Array.any_eq_true']at g
         obtain⟨e,M,g⟩:=g
         rw[Bool.and_eq_true]at g
         have B:bR (opAt ops j) e.on=true:=by
          unfold bR; rw[Array.any_eq_true']; exact⟨e,M,by rw[g.1,Nat.beq_refl]; rfl⟩
         have:=J.reach _ _ g.2 (X e.on B)
         rw[Y]at this; cases this) f w h
    have hperm:(t++y).length=k:=by simp at F ⊢; omega
    have hnd':(t++y).Nodup:=by
     refine G.sublist ?_
     exact List.Sublist.append_left (List.sublist_cons_self ..) t
    have Sc:(t++y).Pairwise fun i j=>kL ops cs dY i j=true:=H.sublist (List.Sublist.append_left (List.sublist_cons_self ..) t)
    have hmem' : ∀ i,i∈t++y<->i<ops.length/\(p.setIfInBounds j true).getD i false=false:=fun i=>by
     by_cases e:j=i
     ·subst e
      rw[set_self (by omega)]
      constructor
      ·intro g
       exfalso
       have D:=List.nodup_append.1 G
       rcases List.mem_append.1 g with q|q
       ·exact D.2.2 j q j (List.mem_cons_self ..) rfl
       ·exact(List.nodup_cons.1 D.2.1).1 q
      ·intro q; cases q.2
     ·rw[iA e,<- x i]
      simp only[List.mem_append,List.mem_cons]
      constructor
      ·rintro (q|q)
       ·exact .inl q
       ·exact .inr (.inr q)
      ·rintro (q|q|q)
       ·exact .inl q
       ·exact absurd q.symm e
       ·exact .inr q
    have U : ∀(v:Value) (w':World),R P n ops cs S (fun e f w=>Q e f ds w) (t++y) (put f (opAt ops j).dst v) w'->wpAnyIn (FR ro) m P .any ops.toArray (MQ n Q) k (p.setIfInBounds j true) (a.put (opAt ops j).dst v) w':=fun v w' hR =>
     ih (t++y) _ _ _ w' hperm (by simp[ac]) (J.set E) hmem' hnd' Sc (A.put (by
      cases D:(opAt ops j).dst with
      | none=>rfl
      | some d=>have:=((dJ T s).1 d D).2; simpa [inn,Nat.blt_eq] using this) v) (by rw[put_defers]; exact L) hR
    have ab:iq (opAt ops j)=true:=by
     rw[List.all_eq_true]at aa
     refine aa _ ?_
     unfold opAt
     rw[List.getD_eq_getElem?_getD,List.getElem?_eq_getElem s]
     exact List.getElem_mem s
    unfold wpOpIn
    rw[W]
    simp only
    rw[A.yf]
    unfold R at C
    rcases C with ⟨I,V⟩|⟨I,⟨V,v,q3,q4⟩|⟨V,q3⟩⟩
    ·rw[if_neg (by rw[I]; decide)]; exact⟨fun _ _=>trivial,U _ _ V⟩
    ·rw[if_pos I]
     refine Out.wpIn (K:=fun v' w'=>v'=v/\w'=w) A ab (.inl ⟨v,w,q3 w (.inr (.inr rfl)),rfl,rfl⟩) ?_
     rintro v' w' ⟨rfl,rfl⟩
     exact U _ _ q4
    ·rw[if_pos I]
     exact Out.wpIn A ab q3 fun v w' hk=>U v w' hk.2
theorem W0.WG{f:Nat->Value}{w:World}{id:Nat}(l:List Nat)(cs:List Nat)(S:World->World->Prop)(o : ∀ w,S w w)(p : ∀ a b c,S a b->S b c->S a c)(dY:List (Nat × Nat × List Nat))(x:P.follows .mixedOrders=true)(z:iU n ops=true)(B:Region.noSelect ops.toArray=true)(g:sP ops l=true)(A:oq ops cs dY l=true)
 (h : ∀ j,Below w.heap.size w j->j.heap.size=w.heap.size->R P n ops cs S (fun e f w=>Q e f ds w) l f j) (y:ops.all iq=true:=by rfl):W0 ro m P n (.region id ops.toArray true) Q f ds w:=fun a q r=>by
 refine wpIn_region_any x ?_
 unfold sP at g
 rw[Bool.and_eq_true,Bool.and_eq_true,Bool.and_eq_true,List.all_eq_true,List.all_eq_true]at g
 obtain⟨⟨⟨C,D⟩,p3⟩,p4⟩:=g
 have v:=Nat.eq_of_beq_eq_true C
 have E:l.Nodup:=of_decide_eq_true p3
 have:=R.WE (ro:=ro) (m:=m) (ds:=ds) (P:=P) (Q:=Q) (dY:=dY) z B y o p ops.length l (Array.replicate ops.length false) a f { w with drawn:=w.drawn+1 } v (by simp) (CZ.start _ _ _) (fun i=>by
  have s : ∀ i,(Array.replicate ops.length false).getD i false=false:=fun i=>getD_replicate_false _ _
  constructor
  ·intro d; exact⟨by simpa [Nat.blt_eq] using D i d,s i⟩
  ·intro d
   obtain⟨k,t,u⟩:=List.any_eq_true.1 (p4 i (by simpa using d.1))
   rw[Nat.eq_of_beq_eq_true u]; exact t) E (ou A) q r (h { w with drawn:=w.drawn+1 } (Below.refl _ _).drew rfl)
 simpa using this
end
end Fx
namespace Rm
def Ik{b:Type}(J:b->World->Prop):Prop := ∀ s W a,J s W->W.grownBy a none->J s a
def Ug{d:Type}(F:Fence)(n:Nat)(P:Program)(g:Nat)(lb:Array Value)(j:d->Array Value)(i:World->World->Prop)(S:List d->Prop)(N:Nat)(h:World->Prop):Prop :=
 ∀(l:Nat) (J:List d->World->Prop) (W:World),h W->Ik J ->
  (∀ c x b,J c b->c.length<N->YieldAt F (n-1) P l (j x) b fun e a=>e = .returned (.bool true)/\J (c ++ [x]) a/\i b a) ->
  J [] W ->
  CallsIn F n P g (#[.func (.yield l) #[] #[]]++lb) W fun e a=>(∃ v,e = .returned v) /\ ∃ f,S f/\J f a
def Gf{c:Type}(B:Nat)(I:c->World->Prop):Prop :=
 ∀ s W a b,I s W->W.grownBy a b->(∀ r,b=some r->B<=r /\ ∃ o:Obj,W.heap[r]? = some o/\o.isCells=false)->I s a
variable {F:Fence} {n:Nat} {P:Program}
theorem Gf.putObj{a:Type}{B:Nat}{I:a->World->Prop}(h:Gf B I){s:a}{W:World}{l:Nat}{o:Obj}(o':Obj)(f:I s W)(b:B<=l)(c:W.heap[l]? = some o)(d:o.isCells=false):I s (W.putObj l o') :=
 h s W _ (some l) f (grownBy_putObj' W l o') (fun r e=>by cases e; exact⟨b,o,c,d⟩)
theorem Gf.alloc{a:Type}{B:Nat}{I:a->World->Prop}(h:Gf B I){s:a}{W:World}(o:Obj)(b:I s W):I s (W.alloc o) :=
 h s W _ none b (World.grownBy_alloc W o none) (fun r e=>by cases e)
def KeepsFrom(B:Nat)(W a:World):Prop:=W.heap.size<=a.heap.size /\ ∀ k,B<=k->k<W.heap.size->a.heap[k]? = W.heap[k]?
def WH{a:Type}(B:Nat)(b:World->World->Prop)(I:List a->World->Prop)(c:List a)(W:World):Exit->Act->World->Prop
 | .normal,_,W'=>KeepsFrom B W W'/\b W W'/\I c W'
 | _,_,_=>False
theorem xD{α:Type}{g:Operand}{ps:Array Tmp}{assign body:Code}{Q:Exit->Act->World->Prop}{a:Act}{w:World}
 (hro:F.round=none) (h1:1<=n) {gf:Nat} {lb:Array Value} (hg:a.eval g = .func (.func gf) #[] lb) (hFg:F.fn gf) (eg : ∀ args w,(callFunc gf args).run P w = .ok (.enter gf args) w)
 {encs:α->Array Value} {Kp:World->World->Prop} {S:List α->Prop} {N:Nat} {Ip:World->Prop} (hseq:Ug F (n-1) P gf lb encs Kp S N Ip)
 (YB:Ip w) (Fw : ∀ W o,w.heap.size<=W.heap.size->Ip W->Ip (W.alloc o))
 (hKt : ∀ {A B C:World},Kp A B->Kp B C->Kp A C) (hKb : ∀(W:World) (l:Nat) (o o':Obj),w.heap.size<=l->W.heap[l]? = some o->o.isCells=false->Kp W (W.putObj l o')) (hps : ∀ x,(encs x).size=ps.size)
 (I:List α->World->Prop) (hI:Gf w.heap.size I) (h0:I [] w) (A₁:α->Act->Prop)
 (hassign : ∀(l:Nat) (x:α) (W:World),assign.wpIn (F.inRound l) (n-1-1) P (Exit.then (fun a' W'=>A₁ x a'/\W'=W) (fun _ _ _=>False)) { tmps:=(ps.zip (encs x)).foldl (fun t (p,v)=>t.setIfInBounds p v) a.tmps,defers := [] } W)
 (hbody : ∀(l:Nat) (pre:List α) (x:α) (W:World) (a':Act),A₁ x a'->I pre W->pre.length<N->w.heap.size<=W.heap.size->body.wpIn (F.inRound l) (n-1-1) P (WH w.heap.size Kp I (pre ++ [x]) W) a' W)
 (hdone : ∀(D:Nat) (xs:List α) (W:World),w.heap.size<=D->S xs->I xs W->W.heap[D]? = some (.deferred (some []))->Q .normal { a with defers := { target := .collected D,args := #[] }::a.defers } W) :
 (Code.rangeFunc g ps assign body).wpIn F n P Q a w:=by
 refine wpIn_rangeFunc ?_
 intro fn hfn
 rw[hro]
 obtain⟨rec,hrec⟩ : ∃ rec:LoopState->Option Code->Loop,rec=fun st pe => { state:=st,pending:=pe,fn,tmps:=a.tmps,params:=ps,assign,body,defers:=w.heap.size }:=⟨_,rfl⟩
 obtain⟨W1,hW1⟩ : ∃ W1,(w.alloc (.deferred (some []))).alloc (.loop (rec .ready none))=W1:=⟨_,rfl⟩
 have hL1:W1.heap[w.heap.size+1]? = some (.loop (rec .ready none)):=by
  rw[<- hW1]; have:=World.alloc_heap_new (w.alloc (.deferred (some []))) (.loop (rec .ready none)); rwa [World.size_alloc]at this
 have hK1:W1.heap[w.heap.size]? = some (.deferred (some [])):=by
  rw[<- hW1]; exact(Below.heap_alloc _ _ _ (by simp)).trans (World.alloc_heap_new w _)
 have hI1:I [] W1:=by rw[<- hW1]; exact hI.alloc _ (hI.alloc _ h0)
 have hp1:Ip W1:=by rw[<- hW1]; exact Fw _ _ (by simp) (Fw _ _ (Nat.le_refl _) YB)
 refine⟨w.heap.size+1,[{ target := .collected w.heap.size,args := #[] }],W1,{ target := .fn (.func gf) lb,args := #[.func (.yield (w.heap.size+1)) #[] #[]] },W1,gf,
  #[.func (.yield (w.heap.size+1)) #[] #[]]++lb,W1,?_,?_,?_,?_,fun _=>h1,?_⟩
 ·rw[<- hW1,hrec]; exact run_enterLoop_outer _ _ _ _ _
 ·simp only[resolve,hg]
  simp[go_sem]
 ·intro f' hf'; simp[Target.leads]at hf'; subst hf'; exact hFg
 ·simp[invoke,go_sem,eg]
 refine(hseq (w.heap.size+1)
  (fun pre W=>I pre W/\W.heap[w.heap.size+1]? = some (.loop (rec .ready none))/\W.heap[w.heap.size]? = some (.deferred (some [])))
  W1 hp1
  (fun s A B hs hg'=>⟨hI s A B none hs.1 hg' (fun r e=>nomatch e),(hg'.block _ (Array.getElem?_eq_some_iff.1 hs.2.1).1 (fun e=>nomatch e)).trans hs.2.1,(hg'.block _ (Array.getElem?_eq_some_iff.1 hs.2.2).1 (fun e=>nomatch e)).trans hs.2.2⟩)
  ?_ ⟨hI1,hL1,hK1⟩).mono ?_
 ·-- one round
  rintro pre x W ⟨hi,hl,hk⟩ hlen
  have hlt:w.heap.size+1<W.heap.size:=(Array.getElem?_eq_some_iff.1 hl).1
  have hy:=run_yield (P:=P) (args:=encs x) hl (by rw[hrec]; exact hps x)
  rw[hrec]at hy
  refine⟨fn,_,assign,body,hy,roundIn_of_wpIn hfn (wpIn_mono (hassign _ x W) ?_)⟩
  rintro e1 a1 w1 hq1
  cases e1 with
  | exit id=>exact hq1.elim
  | goto t=>exact hq1.elim
  | ret=>exact hq1.elim
  | panic ch=>exact hq1.elim
  | outgrown=>exact hq1.elim
  | normal =>
  obtain⟨hA1,ew⟩:=hq1
  rw[ew]
  refine⟨_,run_beginRound hl (by rw[hrec]),?_⟩
  have hl2:(W.putObj (w.heap.size+1) (.loop { rec .ready none with state := .busy })).heap[w.heap.size+1]? = some (.loop { rec .ready none with state := .busy }):=World.putObj_heap_same hlt
  have hk2:(W.putObj (w.heap.size+1) (.loop { rec .ready none with state := .busy })).heap[w.heap.size]? = some (.deferred (some [])):=(World.putObj_heap_other (by omega)).trans hk
  have hw2:Kp W (W.putObj (w.heap.size+1) (.loop { rec .ready none with state := .busy })):=hKb _ _ _ _ (by omega) hl rfl
  refine wpIn_mono (hbody _ pre x _ a1 hA1 (hI.putObj _ hi (by omega) hl rfl) hlen (by simp; omega)) ?_
  rintro e a3 W3 hp
  cases e with
  | normal =>
    obtain⟨hk3,hkp3,hi3⟩:=hp
    have hl3:=(hk3.2 _ (by omega) (Array.getElem?_eq_some_iff.1 hl2).1).trans hl2
    have Zw:=(hk3.2 _ (by omega) (Array.getElem?_eq_some_iff.1 hk2).1).trans hk2
    have hr:=run_endRound (P:=P) none hl3
    rw[hrec]at hr hl3
    refine⟨_,_,hr,rfl,⟨hI.putObj _ hi3 (by omega) hl3 rfl,?_,(World.putObj_heap_other (by omega)).trans Zw⟩,hKt (hKt hw2 hkp3) (hKb _ _ _ _ (by omega) hl3 rfl)⟩
    rw[hrec]; exact World.putObj_heap_same (Array.getElem?_eq_some_iff.1 hl3).1
  | ret=>exact hp.elim
  | exit id=>exact hp.elim
  | goto t=>exact hp.elim
  | panic ch=>exact hp.elim
  | outgrown=>exact hp.elim
 rintro e W2 ⟨⟨v,rfl⟩,xs,hS,hi,hl,hk⟩
 exact⟨none,_,by have:=run_endLoop (P:=P) hl (by rw[hrec]; simp); rw[hrec]at this; exact this,hdone _ xs _ (Nat.le_refl _) hS (hI.putObj _ hi (by omega) hl rfl) ((World.putObj_heap_other (by omega)).trans hk)⟩
end Rm
namespace Fx
theorem Ev{a:Act}{n p q:Nat}{u v:Value}{f:Nat->Value}(h:tO a n f)(c:p<n)(g:q<n):tO { tmps:=(#[p,q].zip #[u,v]).foldl (fun t (p,v)=>t.setIfInBounds p v) a.tmps,defers := [] } n (put (put f (some p) u) (some q) v):=by
 have b:=(h.put (d:=some p) (by simpa [inn,Nat.blt_eq] using c) u).put (d:=some q) (by simpa [inn,Nat.blt_eq] using g) v
 have e:(#[p,q].zip #[u,v]).foldl (fun t (p,v)=>t.setIfInBounds p v) a.tmps=((a.put (some p) u).put (some q) v).tmps:=by simp[Array.zip,Act.put]
 rw[e]; exact⟨b.size,b.get⟩
theorem W0.Uh{P:Program}{n m:Nat}{Q:qG}{f:Nat->Value}{ds:List Deferred}{w:World}{c:Type}{g:Operand}{p q:Tmp}{E G:Code}{gf:Nat}{lb:Array Value}(h1:1<=m)(hg:ev f g = .func (.func gf) #[] lb)(J : ∀ z w,(callFunc gf z).run P w = .ok (.enter gf z) w)
 {eu Zx:c->Value} {d:World->World->Prop} {S:List c->Prop} {N:Nat} {s:World->Prop} (hseq:Rm.Ug (FR none) (m-1) P gf lb (fun x => #[eu x,Zx x]) d S N s)
 (R:s w) (T : ∀ W o,w.heap.size<=W.heap.size->s W->s (W.alloc o)) (V : ∀ {A B C:World},d A B->d B C->d A C) (U : ∀(W:World) (l:Nat) (o o':Obj),w.heap.size<=l->W.heap[l]? = some o->o.isCells=false->d W (W.putObj l o')) (hp:p<n) (hq:q<n)
 (I:List c->World->Prop) (O:Rm.Gf w.heap.size I) (L:I [] w) (A:c->(Nat->Value)->Prop)
 (X : ∀(l:Nat) (x:c) (W:World),W0 (some l) (m-1-1) P n E (fun e b H h=>e = .normal/\H = []/\A x b/\h=W) (put (put f (some p) (eu x)) (some q) (Zx x)) [] W)
 (Y : ∀(l:Nat) (r:List c) (x:c) (W:World) (b:Nat->Value),A x b->I r W->r.length<N->w.heap.size<=W.heap.size->W0 (some l) (m-1-1) P n G (fun e K H h=>e = .normal/\Rm.KeepsFrom w.heap.size W h/\d W h/\I (r ++ [x]) h) b [] W)
 (aa : ∀(D:Nat) (u:List c) (W:World),w.heap.size<=D->S u->I u W->W.heap[D]? = some (.deferred (some []))->Q .normal f ({ target := .collected D,args := #[] }::ds) W):W0 none m P n (.rangeFunc g #[p,q] E G) Q f ds w:=fun a t Z=>by
 refine Rm.xD (F:=FR none) rfl h1 (by rw[t.ev]; exact hg) trivial J hseq R T V U (fun _=>rfl) I O L (fun x i => ∃ b,tO i n b/\i.defers = []/\A x b) ?_ ?_ ?_
 ·intro l x W
  refine wpIn_mono (X l x W _ (Ev t hp hq) rfl) ?_
  rintro e i w' ⟨b,y,rfl,j,k,rfl⟩
  exact⟨⟨b,y,j,k⟩,rfl⟩
 ·rintro l r x W i ⟨b,y,j,k⟩ hi hl hs
  refine wpIn_mono (Y l r x W b k hi hl hs i y j) ?_
  rintro e a'' w' ⟨K,afX,rfl,v⟩
  exact v
 ·intro D u W j k v M
  refine⟨f,⟨t.size,t.get⟩,?_⟩
  show Q .normal f (_::a.defers) W
  rw[Z]; exact aa D u W j k v M
end Fx
end Go.Proofs.YtcbedgfikejkoaaDoor
namespace Go.Proofs.YtcbedgfikejkoaaDoor
open Go.RowKit Rt
open Fx (eT dI eY bf eX eU eG dM eZ gW dO gX eP gH gY Lv sN Ln Ws Qv Wl Rp Wc Qs Wr Sb Lk Wk rC rV sR Rs Rn Rd Rk Wb Wx Wo yE Wt pJ Qn zQ tL yt zG wT zT zR iB zV jC nY rR zW yu zU yF yx rv aA aL bE aI ev bT Stp bV aO flat fH Mp dK aT fq gF bA down fM iW jk kU bQ bD cells_one jD aX pV unseen jl iQ cu bX dA cZ dh iE iT qL gI)
set_option maxRecDepth 20000
namespace Rt
structure Il(sb:Nat)(v:Value)(W W':World):Prop where
 size:W.heap.size<=W'.heap.size
 b:W'.heap[sb]? = W.heap[sb]?
 g : ∀ g,v.ownBlock=some g->W'.heap[g]? = W.heap[g]?
theorem Il.trans{a:Nat}{v:Value}{A B C:World}(h:Il a v A B)(k:Il a v B C):Il a v A C:=⟨Nat.le_trans h.size k.size,k.b.trans h.b,fun g c=>(k.g g c).trans (h.g g c)⟩
theorem Il.put{a B:Nat}{v:Value}(e:a<B)(c : ∀ g,v.ownBlock=some g->g<B)(W:World)(l:Nat)(o o':Obj)(d:B<=l):Il a v W (W.putObj l o'):=⟨by simp,World.putObj_heap_other (by omega),fun g b=>World.putObj_heap_other (by have:=c g b; omega)⟩
theorem Il.vB{a b:Nat}{v:Value}{W c:World}(h:Stp b W c)(h1:a<W.heap.size)(f:a≠b)(e : ∀ g,v.ownBlock=some g->g<W.heap.size/\g≠b):Il a v W c:=⟨h.size,h.block a h1 f,fun g d=>h.block g (e g d).1 (e g d).2⟩
theorem Ui{q n c s:Nat}{a:Option Addr}{x:Nat->Value}{W d:World}(l:kU W a n s x)(r:0<s)(k:Il q (.slice a n c) W d):kU d a n s x:=fun h=>by
 obtain⟨b,p,e,m⟩:=l h
 refine⟨b,p,e,fun i o => ?_⟩
 have f:=m i o
 have j:=k.g b (by rw[e]; rfl)
 unfold World.cell? at f ⊢
 rw[j]; exact f
def XP(b:Nat)(a:Option Addr)(n c:Nat)(l:List Int)(W:World):Prop:=aL W b 1 (fun _ => .slice a n c) 61/\kU W a n 1 (pW l)
theorem XP.alloc{f n c:Nat}{a:Option Addr}{l:List Int}{W:World}(h:XP f a n c l W)(o:Obj):XP f a n c l (W.alloc o) :=
 ⟨(Below.heap_alloc W o f h.1.lt).trans h.1,fun g=>by
   obtain⟨b,p,e,k⟩:=h.2 g
   refine⟨b,p,e,fun i m => ?_⟩
   have d:=k i m
   have j:=Below.heap_alloc W o b (block_lt_of_cell d)
   unfold World.cell? at d ⊢
   rw[j]; exact d⟩
theorem MS{h f B:Nat}{c:World}{F:List Nat->cO}(h1:h<c.heap.size)(j:f<c.heap.size):Rm.Gf c.heap.size (fun(n:List Nat) W=>lQ W B h f (F n)/\Stp f c W):=fun s W i o a b m=>by
 have g : ∀ k,k<c.heap.size->i.heap[k]? = W.heap[k]? := fun k d=>b.block k (Nat.lt_of_lt_of_le d a.2.size) fun e=>by
  have:=(m k e.symm).1; omega
 exact⟨lQ.keep a.1 (g h h1) (g f j),⟨b.os.trans a.2.os,b.tape.trans a.2.tape,b.output.trans a.2.output,Nat.le_trans a.2.size b.size,fun k d l=>(g k d).trans (a.2.block k d l)⟩⟩
theorem O9{w:World}{B E s n b m:Nat}{v:Value}{x:Nat->Value}{k:Nat->Int}{y:Nat->Value}(a:Fx.Own w B E s v n x)(d:Mp w b m k y){g:Nat}(c:v.ownBlock=some g):g<w.heap.size/\g≠b:=⟨(a.ge c).2,fun e=>d.lK (by rw[<- e]; exact a.ty c)⟩
theorem Uj{T:cO}{k:Int}(h : ∀ i,i<T.n->T.x i≠k):T.par k=0:=by
 have : ∀ n,(∀ i,i<n->T.x i≠k)->fF T.x T.p n k=0:=fun n=>by
  induction n with
  | zero=>exact fun _=>rfl
  | succ n ih=>exact fun h=>by unfold fF; rw[if_neg (h n (by omega))]; exact ih fun i a=>h i (by omega)
 exact this _ h
structure JB(J:List Nat->World->Prop)(pre:List Nat)(w:World):Prop where
 ab:Rm.Ik J
 j:J pre w
end Rt
theorem Zy(a:Option Addr)(n c:Nat)(w:World) :
 Calls Tryd.prog 132 #[.slice a (n) (c)] w fun e w' => ∃ d,e = .returned (.func (.func 144) #[] #[(pt d)])/\w.heap.size<=d/\aL w' d 1 (fun _ => .slice a n c) 61/\Below w.heap.size w w':=by
 refine Kent Tryd.func132 4 ?_
 refine ay<|pQ (.slice a (n) (c)) fun b l h f j m => ?_
 have g:=aR j.old (Below.refl w.heap.size w)
 have i:=gK h
 have k:=f.lt
 refine av (.nilFunc)<|aD<|ay<|Lv (.func (.func 144) #[] #[(pt b)]) (Fx.iV (us := []) (vs := [(pt b)]) rfl rfl rfl)<|av (.func (.func 144) #[] #[(pt b)])<|aD<|Wr<|aM (.func (.func 144) #[] #[(pt b)]) ?_
 exact⟨b,rfl,i,f,g⟩
theorem WI(J:List Nat->World->Prop)(h d c:Nat)(a:Option Addr)(l:List Int)(w:World)(o:aL w d 1 (fun _ => .slice a (l.length) (c)) 61)(I:kU w a l.length 1 (pW l))(n:JB J [] w)(U:l.length<=1000)
 (L : ∀ r x m,J r m->r.length<l.length->Go.YieldAt (Fx.FR none) 1 Tryd.prog h #[au (x:Nat),aC (l.getD x 0)] m fun e y=>e = .returned (.bool true)/\J (r ++ [x]) y/\Il d (.slice a l.length c) m y) :
  Calls Tryd.prog 144 #[.func (.yield h) #[] #[],(pt d)] w fun e w'=>(∃ v,e = .returned v) /\ ∃ F,F=zO l.length l.length/\J F w':=by
 have V:=o.lt
 have n:JB J (zO l.length (l.length-l.length)) w:=by rw[Nat.sub_self]; exact n
 refine Kent Tryd.func144 19 ?_
 refine ay<|Lv (.slice a (l.length) (c)) (aP o.aK 0)<|av (au l.length)<|Lv (au ((l.length:Int)-1)) jc<|av (au ((l.length:Int)-1))<|aD<|Wb<|Wo (fun f u => ∃ k:Nat,k<=l.length/\f 0 = .func (.yield h) #[] #[]/\f 1=(pt d)/\f 3=au ((k:Int)-1)/\aL u d 1 (fun _ => .slice a (l.length) (c)) 61/\kU u a l.length 1 (pW l)/\JB J (zO l.length (l.length-k)) u) (fun f _=>(intOf (f 3)+1).toNat) ⟨l.length,(Nat.le_refl _),(by rfl),(by rfl),Fx.ic,o,I,n⟩ ?_
 rintro S X ⟨k,T,A,B,g,D,E,p⟩
 refine Ws<|ay<|aZ g ?_
 by_cases z:0<=((k:Int)-1)
 ·refine Lv aG (pO z)<|aD<|aQ<|Wk<|sN<|Ws<|Wb<|Ws<|Fx.W.QJ 2<|Fx.Ly.v (.func (.yield h) #[] #[]) (eT rfl A) ?_
  refine Fx.Ly.v (au ((k:Int)-1)) (eT rfl g) ?_
  refine Fx.Ly.v (.slice a (l.length) (c)) (bf (x:=fun _ => .slice a (l.length) (c)) rfl B (by kernel_rfl) D.aK (i:=0) (by omega) (by omega) rfl) ?_
  refine Fx.Ly.v (au ((k:Int)-1)) (eT rfl g) ?_
  obtain⟨G,Q,H,M⟩:=E (by omega)
  refine Fx.Ly.v ((pf G (k+Q-1))) (dM rfl (rfl.trans (congrArg (fun q=>Value.slice q (l.length) (c)) H)) rfl Tryd.underlying61 (s:=1) (by kernel_rfl) (by omega) (by omega) (by omega)) ?_
  refine Fx.Ly.v (aC (l.getD (k-1) 0)) (bf (x:=pW l) rfl rfl (by kernel_rfl) M (i:=k-1) (by omega) (by omega) rfl) ?_
  refine Fx.Ly.yield (l:=h) (args := [au ((k:Int)-1),aC (l.getD (k-1) 0)]) rfl rfl rfl (Fx.args2 rfl rfl) rfl (by have:=L (zO l.length (l.length-k)) (k-1) _ p.j (by rw[Ij]; omega); rw[show(((k-1:Nat)):Int)=(k:Int)-1 by omega]at this; exact this) ?_
  rintro R t ⟨rfl,K,C⟩
  refine⟨.bool true,rfl,?_⟩
  have N:aL t d 1 (fun _ => .slice a (l.length) (c)) 61:=C.b.trans D
  have O:kU t a l.length 1 (pW l):=Ui E (by decide) C
  have P:JB J (zO l.length (l.length-(k-1))) t:=⟨p.ab,by rw[show l.length-(k-1)=(l.length-k)+1 by omega]; unfold zO; rw[show l.length-1-(l.length-k)=k-1 by omega]; exact K⟩
  refine Fx.Ly.v (.bool false) (Fx.Kg rfl rfl) ?_
  refine Fx.Ly.nil ?_
  refine sN<|aN<|Wk<|dA<|sN<|Wl<|aZ g<|Lv (au ((k:Int)-2)) jc<|av (au ((k:Int)-2))<|Ln<|iT ⟨k-1,(by omega),A,B,Fx.ic,N,O,P⟩ ?_
  show(intOf ((au ((k:Int)-2)))+1).toNat<_
  simp only[g,intOf]; omega
 refine Lv aF (oz z) (aD (aN (Wx (cZ (iE (dh (⟨.tuple #[],fM Tryd.results144,?_⟩)))))))
 exact⟨⟨_,rfl⟩,_,rfl,by have:=p.j; rw[show l.length-k=l.length by omega]at this; exact this⟩
theorem Uk(b c:Nat)(a:Option Addr)(l:List Int)(i:l.length<=1000) :
 Rm.Ug (Fx.FR none) 2 Tryd.prog 144 #[(pt b)] (fun x:Nat => #[au (x:Int),aC (l.getD x 0)]) (Il b (.slice a l.length c)) (fun k=>k=zO l.length l.length) l.length (XP b a l.length c l) :=
 fun j J W ⟨h,e⟩ g f d=>callsIn_wide.2 (WI J j b c a l W h e ⟨g,d⟩ i f)
namespace Rt
theorem Im{l:List Int}{T:cO}(b:T.ok)(h : ∀ k,k∈l->T.has k=true)(x:Nat):0<=l.getD x 0/\l.getD x 0<=18446744073709551615:=by
 by_cases a:x<l.length
 ·have d:l.getD x 0∈l:=by rw[List.getD_eq_getElem?_getD,List.getElem?_eq_getElem a]; exact List.getElem_mem a
  obtain⟨i,c,e⟩:=eF (h _ d)
  rw[<- e]; exact MN b c
 rw[List.getD_eq_getElem?_getD,List.getElem?_eq_none (by omega)]; decide
theorem Io{l:List Int}{T:cO}{pa:Int}(a:T.ok)(e:l=T.path pa)(x:Nat):0<=l.getD x 0/\l.getD x 0<=18446744073709551615:=Im a (fun k d=>by
 obtain⟨i,b,c⟩:=List.getElem_of_mem d
 have:=cO.Gc a e b
 rw[List.getD_eq_getElem?_getD,List.getElem?_eq_getElem b]at this
 rw[<- c]; exact this) x
theorem Pb{l:List Int}{T:cO}(a:T.ok)(h : ∀ k,k∈l<->T.has k=true)(x:Nat):0<=l.getD x 0/\l.getD x 0<=18446744073709551615:=Im a (fun k b=>(h k).1 b) x
end Rt
theorem Ul(m:dB)(u B:Nat)(w:World)(h:iR w B u m)(id pa:Int)(hid:0<=id/\id<=18446744073709551615) :
 Calls Tryd.prog 116 #[(pt u),aC id,aC pa] w fun e w'=>e = .returned (au (m.T.err id pa))/\Below w.heap.size w w':=by
 have hC:=h.c
 have hT:=h.t
 have hP:=h.p
 have hR:=h.r
 have hG:=h.g
 have hA:=h.a
 have hN:=h.ne
 have lC:=h.c.lt
 have lT:=h.t.lt
 have lP:=h.p.lt
 have lR:=h.r.lt
 have lG:=h.g.lt
 have lA:=h.a.lt
 refine Fx.Uf 3 Tryd.func116 rfl (n:=55) rfl (by rfl) ?_
 refine Fx.W0.seq<|Fx.W0.list<|pQ ((pt u)) fun g1 w1 oI m1 s1 z1 => ?_
 have⟨m2,m3,m4,m5,m6,m7,b1⟩:=BO s1.old hC hT hP hR hG hA (Below.refl w.heap.size w)
 have wY:=gK oI
 have⟨mO,qF,uL,uM,uN⟩:=ug oI hC.lt hP.lt hR.lt hG.lt hA.lt
 have xK:=m1.lt
 refine av (au 0)<|Ln<|Fx.kQ<|Fx.W0.seq<|Fx.W0.list<|ko (Q6 _) ?_
 rintro e9 w2 ⟨y,j,v,hg1,m8,hb1⟩
 refine⟨_,v,?_⟩
 clear v
 have nem.ada:m.mb≠j:=Nat.ne_of_lt (Nat.lt_of_lt_of_le m3.lt hg1)
 have⟨m9,m10,m11,m12,m13,m14,m15,b2⟩:=zZ hb1 m2 m3 m4 m5 m6 m7 m1 b1
 have m16:lQ w2 (w.heap.size) y j cO.zero:=m8.weak b1.size
 clear m8 hg1
 refine ni 1 (fun _ => .pointer none) fun M w3 wM m17 s3 z2 => ?_
 have⟨m18,m19,m24,sD,b3⟩:=mF s3.old m9 m10 m15 m16 b2
 have zN:=iC wM b2.size
 have⟨Um,Zz,ZA,ZB,ZC,ZE⟩:=BR wM m9.lt m11.lt m12.lt m13.lt m14.lt m15.lt
 have Cg:=m17.lt
 refine nk m17 0 ((pt y)) fun w4 rM s4 z3 => ?_
 have sQ:aL w4 M 1 (fun _=>(pt y)) 51:=cu rM
 have iD:=iB s4 m17.ty
 have⟨uX,tQ,nZ,qP⟩:=Kw iD m18 m19 m24 sD
 have b4:=s4.below b3 b3.size (by omega)
 refine Ln<|Fx.kQ<|Fx.W0.seq<|Fx.W0.list<|Lv ((pt u)) (aP nZ.aK 0)<|av ((pt u))<|av ((pf u 18))<|Lv ((pt m.tp)) (aP uX.aK 18)<|av (aC pa)<|ko (FI pa tQ) ?_
 rintro e9 w5 ⟨G,H,v,qQ,hb2⟩
 refine⟨_,v,?_⟩
 clear v
 have⟨qV,rO,uq,b5⟩:=jH hb2 nZ qP sQ b4
 obtain⟨l,K⟩ : ∃ q,q=cO.path m.T pa:=⟨_,rfl⟩
 rw[<- K]at qQ ⊢
 have hl4:l.length<=4:=by rw[K]; exact cO.uP
 refine av (.slice G (l.length) (H))<|Ln<|Fx.kQ<|Fx.W0.seq<|Fx.W0.seq<|Fx.W0.list<|av (.slice G (l.length) (H))<|ko (Zy G l.length H _) ?_
 rintro e9 w6 ⟨sb1,v,hg2,sF,hb3⟩
 refine⟨_,v,?_⟩
 clear v
 have⟨vJ,F,wF,uy,V⟩:=mF hb3 qV rO uq qQ b5
 refine Ln<|Fx.kQ<|Fx.W0.block ?_
 have WJ:g1≠j:=F.map.ne vJ.ty
 have afY:=vJ.lt
 have WK:M≠j:=F.map.ne wF.ty
 have afZ:=wF.lt
 have Ro:sb1≠j:=F.map.ne sF.ty
 have WL:=sF.lt
 have hgm:=F.gm
 have ZF:=F.lt
 have ltt:=F.blk.lt
 have L : ∀ g,(.slice G (l.length) (H):Value).ownBlock=some g->g<w6.heap.size/\g≠j:=fun g A=>O9 uy F.map A
 refine Fx.W0.Uh (gf:=144) (lb := #[(pt sb1)]) (eu:=fun x:Nat=>au (x:Int)) (Zx:=fun x=>aC (l.getD x 0)) (by decide) rfl (fun args w=>iy Tryd.func144 (by kernel_rfl) rfl args w) (Uk sb1 H G l (by omega)) ⟨sF,Fx.Tp uy⟩ (fun W o _ hi=>hi.alloc o) (fun h k=>h.trans k) (fun W l o o' K _ _=>Il.put WL (fun g A=>(L g A).1) W l o o' K) (by decide) (by decide) (fun xs W=>lQ W (w.heap.size) y j (EZ m.T l xs)/\Stp j w6 W) (MS ltt ZF) ⟨F,jC _ _⟩ (fun x f=>f 3=(pt g1)/\f 7=(pt M)/\f 10=aC (l.getD x 0)) ?_ ?_ ?_
 ·intro ly x W
  exact Fx.W0.list (Lv (aC (l.getD x 0)) (dI rfl rfl) (Ln ⟨rfl,rfl,⟨rfl,rfl,rfl⟩,rfl⟩))
 ·rintro ly pre x W f9 ⟨q3,q7,q10⟩ ⟨Vz,s⟩ hpl hWs
  have I:Below w.heap.size w W:=s.below V V.size hgm
  have E:=h.up I
  have XQ:=E.p
  have N:=E.c
  have O:=E.t
  have R:=vJ.eH s WJ
  have WO:=R.lt
  have S:=wF.eH s WK
  have WQ:=S.lt
  have lWm:j<W.heap.size:=Nat.lt_of_lt_of_le ZF s.size
  have ZG:w6.heap.size<=W.heap.size:=s.size
  have lCW:=N.lt
  have lPW:=XQ.lt
  have lTW:=O.lt
  have lh0:=h.t.lt
  have lh1:=h.p.lt
  refine Fx.W0.block ?_
  -- region 5 draws
  refine Fx.W0.WG [1,6,0,2,3,4,5,7,8] [4,0,4,0,0,4,0,4,3] Fx.Mk nY Fx.Mk.trans (dY := [(8,0,[0]),(8,2,[7,5,4,3,2]),(8,5,[7,5]),(8,7,[7])]) (by kernel_rfl) (by kernel_rfl) (by kernel_rfl) (by kernel_rfl) (by kernel_rfl) fun rZ gy iF => ?_
  have s7:Stp W.heap.size W rZ:=Sb gy
  have⟨sG,uZ,zJ,pX,xg,qW⟩:=vv gy N XQ O R S Vz
  have b7:=(jC j W).then s7 (.inr (jC j W).size)
  refine bK q10<|bK q10<|Rs ((pt y)) (aP xg.aK 0 (ha:=q7)) ?_
  refine Rs ((pt u)) (aP pX.aK 0 (ha:=q3)) ?_
  refine aW ((pt u))<|aW ((pf u 19))<|Rs (.map (some m.pb)) (aP sG.aK 19) ?_
  rcases Fx.lM m.T.x m.T.n (l.getD x 0)with ⟨MU,wN,wO⟩|gu
  ·refine Rs (aC (m.T.p MU)) (Fx.oD (z:=aC 0) rfl rfl rfl uZ Tryd.underlying53 Tryd.underlying29 (by rfl) wN wO rfl) ?_
   refine gG<|fC (DX (l.getD x 0) (m.T.p MU) qW (Io h.t.inv K x)) _ rfl ?_
   rintro w7 ⟨zK,s8⟩
   have P:=qW.wB s8
   have m64:=sG.cB P
   have Cb:=uZ.cB P (by omega)
   have Cc:=zJ.cB P (by omega)
   have yN:=pX.cB P
   have AB:=xg.cB P
   have X:=b7.then s8 (.inl rfl)
   refine Ln<|Rn<|Fx.Eu ?_
   have ep:m.T.par (l.getD x 0)=m.T.p MU:=uh E.t.inv.inj wN wO
   refine⟨rfl,⟨X.size,fun q hq hq2=>X.block q hq2 (by omega)⟩,Il.vB X (by omega) Ro (fun g A=>⟨Nat.lt_of_lt_of_le (L g A).1 ZG,(L g A).2⟩),?_,s.then X (.inl rfl)⟩
   rw[zi,ep]; exact zK
  refine Rs (aC 0) (Fx.GY (z:=aC 0) rfl rfl rfl uZ Tryd.underlying53 Tryd.underlying29 (by rfl) gu) ?_
  refine gG<|fC (DX (l.getD x 0) 0 qW (Io h.t.inv K x)) _ rfl ?_
  rintro w8 ⟨xk,s9⟩
  have Q:=qW.wB s9
  have AJ:=sG.cB Q
  have xq:=uZ.cB Q (by omega)
  have Ae:=zJ.cB Q (by omega)
  have yO:=pX.cB Q
  have FD:=xg.cB Q
  have Y:=b7.then s9 (.inl rfl)
  refine Ln<|Rn<|Fx.Eu ?_
  have ep:m.T.par (l.getD x 0)=0:=Uj gu
  refine⟨rfl,⟨Y.size,fun q hq hq2=>Y.block q hq2 (by omega)⟩,Il.vB Y (by omega) Ro (fun g A=>⟨Nat.lt_of_lt_of_le (L g A).1 ZG,(L g A).2⟩),?_,s.then Y (.inl rfl)⟩
  rw[zi,ep]; exact xk
 rintro D xs W hD rfl ⟨Vz,s⟩ hK
 have I:Below w.heap.size w W:=s.below V V.size hgm
 have E:=h.up I
 have XQ:=E.p
 have N:=E.c
 have O:=E.t
 have R:=vJ.eH s WJ
 have WO:=R.lt
 have S:=wF.eH s WK
 have WQ:=S.lt
 have lWm:j<W.heap.size:=Nat.lt_of_lt_of_le ZF s.size
 have ZG:w6.heap.size<=W.heap.size:=s.size
 have lCW:=N.lt
 have lPW:=XQ.lt
 have lTW:=O.lt
 have lh0:=h.t.lt
 have lh1:=h.p.lt
 have lDW:=(Array.getElem?_eq_some_iff.1 hK).1
 have oW:=uy.eH s (fun e=>(L _ e).2 rfl)
 refine Fx.Eu<|Fx.kQ<|Fx.W0.seq<|Fx.W0.seq<|Fx.W0.list<|Lv ((pt u)) (aP R.aK 0) ?_
 refine av ((pt u))<|av ((pf u 18))<|Lv ((pt m.tp)) (aP N.aK 18)<|ko (LC O) ?_
 rintro e9 w9 ⟨Rq,C,d,v,zL,hq1,WR,hb4⟩
 refine⟨_,v,?_⟩
 clear v
 have s10:=Sb hb4
 have⟨Af,zM,Ce⟩:=kM hb4 S Vz oW
 have b10:=(jC j W).then s10 (.inr (jC j W).size)
 refine av (au d.length)<|av (au 0)<|Ln<|Fx.kQ<|Fx.W0.block<|Fx.W0.loop (fun f U => ∃ i:Nat,i<=d.length/\f 1=aC id/\f 2=aC pa/\f 7=(pt M)/\f 8 = .slice G (l.length) (H)/\f 37 = .slice Rq (d.length) (C)/\f 38=au ((d.length:Int))/\f 39=au ((i:Int))/\aL U M 1 (fun _=>(pt y)) 51/\lQ U (w.heap.size) y j (iM l d (EZ m.T l (zO l.length l.length)) i)/\Fx.Own U W.heap.size 29 1 (.slice Rq (d.length) (C)) d.length (pW d)/\Fx.Own U w4.heap.size 29 1 (.slice G (l.length) (H)) l.length (pW l)/\Stp j W U) (fun f _=>((d.length:Int)-intOf (f 39)).toNat) ⟨0,(by omega),Fx.ic,Fx.ic,(by rfl),(by rfl),(by rfl),Fx.ic,Fx.ic,Af,zM,zL,Ce,b10⟩ ?_
 rintro f1 zI ⟨i,hi,h1,h2,h3,h4,h5,h6,J,FH,Hl,Jh,JY,b11⟩
 refine Fx.W0.seq<|Fx.W0.list ?_
 by_cases c40:(i:Int)<(d.length:Int)
 ·refine Lv aG (mD c40 (hx:=J) (hy:=h6)) (Ln (Fx.kQ (Fx.W0.seq (Fx.W0.cond (b:=true) rfl (fun _=>Fx.W0.skip (Fx.kQ (Fx.W0.seq (Fx.W0.block (Fx.W0.seq (Fx.W0.list ?_)))))) (fun h=>nomatch h)))))
  obtain⟨MV,aa⟩:=Jh.addr (by omega)
  have EX:Fx.Own zI W.heap.size 29 1 (bJ MV d.length C) d.length (pW d):=Jh.qc (congrArg (fun q=>Value.slice q d.length C) aa)
  refine Lv ((pf MV i)) (dz 1 (hx:=(h5.trans (congrArg (fun q=>Value.slice q (d.length) (C)) aa))) (hi:=J))<|Lv (aC (d.getD i 0)) (aP EX.aK i)<|av (aC (d.getD i 0))<|Ln<|Fx.kQ<|Fx.W0.seq<|Fx.W0.list<|aZ h4<|av (aC (d.getD i 0))<|fC (YH l (d.getD i 0) _ _ _ _ JY (by omega)) (ax := #[.slice G (l.length) (H),aC (d.getD i 0)]) _ rfl ?_
  intro N7 hb5
  have s11:=Sb hb5
  have⟨Ho,Ji,Hq,J4⟩:=jH hb5 FH Hl JY EX
  have b12:=b11.then s11 (.inr b11.size)
  by_cases Z:d.getD i 0∈l
  ·skip
   refine Lv aF (Fx.Kg rfl (congrArg Value.bool (decide_eq_true Z)))<|Ln<|Fx.kQ<|Fx.W0.cond (b:=false) rfl (fun h=>nomatch h)<|fun _=>Fx.W0.skip<|Fx.Eu<|Fx.kQ<|Fx.W0.list<|Lv (au ((i:Int)+1)) (gV (hx:=J))<|av (au ((i:Int)+1))<|Ln ?_
   have MW:Fx.Own N7 W.heap.size 29 1 (.slice Rq (d.length) (C)) d.length (pW d):=J4.qc (congrArg (fun q=>Value.slice q d.length C) aa.symm)
   have JJ:lQ N7 (w.heap.size) y j (iM l d (EZ m.T l (zO l.length l.length)) (i+1)):=by unfold iM; rw[if_pos Z]; exact Ji
   skip
   refine Fx.WC ⟨i+1,(by omega),(h1.trans Fx.ic),(h2.trans Fx.ic),h3,h4,h5,(h6.trans Fx.ic),Fx.ic,Ho,JJ,MW,Hq,b12⟩ ?_
   show((d.length:Int)-intOf ((au ((i:Int)+1)))).toNat<_
   simp only[J,intOf]; omega
  skip
  refine Lv aG (Fx.RO rfl (congrArg Value.bool (decide_eq_false Z))) (Ln (Fx.kQ (Fx.W0.cond (b:=true) rfl (fun _=>Fx.W0.list (Lv ((pt y)) (aP Ho.aK 0 (ha:=h3)) ?_)) (fun h=>nomatch h))))
  refine av (aC (d.getD i 0))<|fC (DX (d.getD i 0) 0 Ji (Pb h.t.inv hq1.2 i)) _ rfl ?_
  rintro N8 ⟨J5,s12⟩
  have Un:=Ji.wB s12
  have Gg:=Ho.cB Un
  have MX:=Hq.cB Un
  have J6:=J4.cB Un
  have b13:=b12.then s12 (.inl rfl)
  refine Ln<|Fx.Eu<|Fx.kQ<|Fx.W0.list<|Lv (au ((i:Int)+1)) (gV (hx:=J))<|av (au ((i:Int)+1))<|Ln ?_
  have Pf:Fx.Own N8 W.heap.size 29 1 (.slice Rq (d.length) (C)) d.length (pW d):=J6.qc (congrArg (fun q=>Value.slice q d.length C) aa.symm)
  have Ob:lQ N8 (w.heap.size) y j (iM l d (EZ m.T l (zO l.length l.length)) (i+1)):=by unfold iM; rw[if_neg Z]; exact J5
  skip
  refine Fx.WC ⟨i+1,(by omega),(h1.trans Fx.ic),(h2.trans Fx.ic),h3,h4,h5,(h6.trans Fx.ic),Fx.ic,Gg,Ob,Pf,MX,b13⟩ ?_
  show((d.length:Int)-intOf ((au ((i:Int)+1)))).toNat<_
  simp only[J,intOf]; omega
 refine Lv aF (mE c40 (hx:=J) (hy:=h6))<|Ln<|Fx.kQ<|Fx.W0.seq<|Fx.W0.cond (b:=false) rfl (fun h=>nomatch h)<|fun _=>Fx.W0.exit<|Fx.WA<|Fx.Zv<|Fx.WB<|Fx.kQ<|Fx.W0.seq ?_
 have hil:i=d.length:=by omega
 refine Fx.W0.list<|Lv ((pt y)) (aP FH.aK 0 (ha:=h3)) ?_
 refine aZ h1<|aZ h2<|fC (DX id pa Hl hid) _ rfl ?_
 rintro SX ⟨Ew,s13⟩
 have Uo:=Hl.wB s13
 have zk:=FH.cB Uo
 have CK:=Jh.cB Uo
 have CO:=JY.cB Uo
 have b14:=b11.then s13 (.inl rfl)
 refine av (au (cO.err (iM l d (EZ m.T l (zO l.length l.length)) i) id pa))<|Ln<|Fx.kQ<|Fx.W0.ret ?_
 have hKD:=(b14.block D lDW (by omega)).trans hK
 have eD:cO.err (iM l d (EZ m.T l (zO l.length l.length)) d.length) id pa=m.T.err id pa:=O8 h.t.inv K hq1
 refine Fx.leaveD hKD (rV Tryd.results116 (show Fx.Fh Tryd.prog _ _ (.tmp 6) (au (cO.err (iM l d (EZ m.T l (zO l.length l.length)) i) id pa))from rfl)) ⟨by rw[hil,eD],?_⟩
 exact(b14.below I I.size hgm).grown (grownBy_putObj' _ D _) (b14.below I I.size hgm).size fun r e=>by cases e; omega
end Go.Proofs.YtcbedgfikejkoaaDoor
namespace Go.Proofs.YtcbedgfikejkoaaDoor
open Go.RowKit
set_option linter.unusedVariables false
namespace Fx
abbrev JK:=List (Nat × List Nat)
def Bh(ops:List Oper)(a:List Nat)(b:Bool)(i:Nat)(l:JK):Bool:=l.all fun x=>match a[x.1]? with|some e => !Nat.beq i e&&(if b then qb ops i x.2 e else qb ops e x.2 i)|none=>false
def Gi(ops:List Oper)(a:List Nat)(c b:List JK):Bool:=(List.range ops.length).all fun i=>Bh ops a true i (c.getD i [])&&Bh ops a false i (b.getD i [])
def kK(a:List Nat)(b:Array Bool)(j:Nat):Bool:=match a[j]? with|some e=>b.getD e false|none=>false
def MZ(m:Nat->Bool)(j:Nat):Nat->Bool:=fun q=>bif Nat.beq q j then true else m q
section
variable {P:Program} {n:Nat} {Q:Post} {f:Nat->Value} {w:World} {ops:List Oper}
theorem JL{i e:Nat}{p:List Nat}{b:Array Bool}(hr:i∈Region.ready .any ops.toArray b)(j:CZ ops.toArray .any b)(d:i≠e)(h:qb ops i p e=true):b.getD e false=true:=by
 obtain⟨m,n,l,g⟩:=dN hr
 obtain⟨f,h⟩:=fQ h
 cases f with
 | zero=>unfold reach at h; exact absurd (by simpa using h) d
 | succ f =>
   unfold reach at h
   rw[Bool.or_eq_true]at h
   rcases h with h|h
   ·exact absurd (by simpa using h) d
   ·rw[l]at h
    simp only at h
    rw[Array.any_eq_true']at h
    obtain⟨c,k,a⟩:=h
    rw[Bool.and_eq_true]at a
    refine j.reach _ _ a.2<|g c.on ?_
    unfold bR
    rw[Array.any_eq_true']
    exact⟨c,k,by rw[a.1,Nat.beq_refl]; rfl⟩
theorem W.masks{id:Nat}(o:List Nat)(V Z:List JK)(y:Gh->Nat->Value)(S:(Nat->Bool)->Gh->World->Prop)(hm:P.follows .mixedOrders=true)(T:iU n ops=true)(hsel:Region.noSelect ops.toArray=true)(M0:Gi ops o V Z=true)
 (hes:o.all (fun e=>Nat.blt e ops.length&&(match (opAt ops e).guard with|none=>true|_=>false))=true) (hnd:o.Nodup) (r0:Gh)
 (h0 : ∀ C,Below w.heap.size w C->C.heap.size=w.heap.size->S (fun _=>false) r0 C)
 (I : ∀ i,i<ops.length->o.contains i=false -> ∀ r m w,(∀ x∈V.getD i [],m x.1=true)->(∀ x∈Z.getD i [],m x.1=false)->S m r w->if Region.wanted (opAt ops i) (yf ops.toArray (full ops f (y r)))then Oper.quietUpon P (S m r) w (y r i) ((execOp (ev (full ops f (y r))) (opAt ops i)).run P w)else y r i=undef)
 (H : ∀ j i,o[j]? = some i -> ∀ r m w (a:Act) (K:Act->World->Prop),(∀ x∈V.getD i [],m x.1=true)->(∀ x∈Z.getD i [],m x.1=false)->m j=false->S m r w->(∀ x∈(opAt ops i).op.operands,a.eval x=ev (full ops f (y r)) x)->(∀ p w',S (MZ m j) (kR r j p) w'->K (a.put (opAt ops i).dst (y (kR r j p) i)) w')->(opAt ops i).wp P a w K (lift n Q))
 (hd : ∀ i,i<ops.length -> ∀ j r p,(∀ x∈V.getD i [],x.1≠j)->o[j]? ≠ some i->j<o.length->y (kR r j p) i=y r i)
 (h : ∀ r m w',(∀ j,j<o.length->m j=true)->S m r w'->Q .normal (full ops f (y r)) w'):W P n (.region id ops.toArray true) Q f w:=fun a L=>by
 refine wp_region_any hm ?_
 have Y : ∀ i,i<ops.length->Bh ops o true i (V.getD i [])=true/\Bh ops o false i (Z.getD i [])=true:=fun i t=>by
  unfold Gi at M0
  rw[List.all_eq_true]at M0
  have:=M0 i (by simpa using t)
  rwa [Bool.and_eq_true]at this
 have hpr : ∀ i,i<ops.length -> ∀ x∈V.getD i [],∃ e,o[x.1]? = some e/\i≠e/\qb ops i x.2 e=true:=fun i t x F=>by
  have c:=(Y i t).1
  unfold Bh at c
  rw[List.all_eq_true]at c
  have c:=c x F
  cases H:o[x.1]? with
  | none=>rw[H]at c; cases c
  | some e =>
    rw[H]at c
    simp only[if_true,Bool.and_eq_true]at c
    exact⟨e,rfl,fun q=>by subst q; rw[Nat.beq_refl]at c; exact absurd c.1 (by simp),c.2⟩
 have hpo : ∀ i,i<ops.length -> ∀ x∈Z.getD i [],∃ e,o[x.1]? = some e/\qb ops e x.2 i=true:=fun i t x F=>by
  have c:=(Y i t).2
  unfold Bh at c
  rw[List.all_eq_true]at c
  have c:=c x F
  cases H:o[x.1]? with
  | none=>rw[H]at c; cases c
  | some e =>
    rw[H]at c
    simp only[Bool.and_eq_true]at c
    exact⟨e,rfl,by simpa using c.2⟩
 have Km : ∀ k i,o[k]? = some i->i<ops.length/\(opAt ops i).guard=none:=fun k i hk=>by
  rw[List.all_eq_true]at hes
  have:=hes i (List.mem_of_getElem? hk)
  rw[Bool.and_eq_true]at this
  refine⟨by simpa [Nat.blt_eq] using this.1,?_⟩
  cases hg:(opAt ops i).guard with
  | none=>rfl
  | some _=>rw[hg]at this; exact absurd this.2 (by simp)
 have key : ∀(N:Nat) (b:Array Bool) (a:Act) (C:World) (r:Gh),b.size=ops.length->CZ ops.toArray .any b->Fr a n (over ops f (y r) b)->S (kK o b) r C ->
  (∀ M:List Nat,M=(List.range ops.length).filter (fun i => !b.getD i false)->M.length=N)->wpAny P .any ops.toArray (lift n Q) N b a C:=by
  intro N
  induction N with
  | zero =>
    intro b a C r U wU L O X
    have R : ∀ i,i<ops.length->b.getD i false=true:=fun i t=>by
     have c:=List.eq_nil_of_length_eq_zero (X _ rfl)
     cases I:b.getD i false
     ·have:i∈(List.range ops.length).filter (fun i => !b.getD i false):=by simp only[List.mem_filter,List.mem_range]; exact⟨t,by rw[I]; rfl⟩
      rw[c]at this; cases this
     ·rfl
    have hnone:Region.ready .any ops.toArray b = []:=by
     cases I:Region.ready .any ops.toArray b with
     | nil=>rfl
     | cons i l =>
       have E:i∈Region.ready .any ops.toArray b:=by rw[I]; exact List.mem_cons_self
       obtain⟨c,D,_,_⟩:=dN E
       rw[R i D]at c; cases c
    refine⟨hnone,full ops f (y r),?_,h r _ C (fun j A => ?_) O⟩
    ·have:over ops f (y r) b=full ops f (y r):=by
      funext s
      unfold over full
      cases Y:writer ops s with
      | none=>rfl
      | some i=>simp only; rw[if_pos (R i (jw Y).2)]
     exact this ▸ L
    ·unfold kK
     rw[List.getElem?_eq_getElem A]
     exact R _ (Km j _ (List.getElem?_eq_getElem A)).1
  | succ N ih =>
    intro b a C r U wU L O X
    have hcount : ∀ i,i∈Region.ready .any ops.toArray b -> ∀ M:List Nat,M=(List.range ops.length).filter (fun j => !(b.setIfInBounds i true).getD j false)->M.length=N:=by
     intro i E M RV
     obtain⟨c,D,_,_⟩:=dN E
     subst RV
     have e:(List.range ops.length).filter (fun j => !(b.setIfInBounds i true).getD j false)=((List.range ops.length).filter (fun i => !b.getD i false)).erase i:=by
      rw[List.Nodup.erase_eq_filter (List.Nodup.sublist List.filter_sublist List.nodup_range),List.filter_filter]
      apply List.filter_congr
      intro j A
      by_cases e:i=j
      ·subst e; rw[set_self (by rw[U]; exact D)]; simp
      ·rw[iA e]
       have:(j != i)=true:=by simp; exact fun q=>e q.symm
       rw[this,Bool.true_and]
     rw[e,List.length_erase_of_mem (by simp only[List.mem_filter,List.mem_range]; exact⟨D,by rw[c]; rfl⟩),X _ rfl]
     rfl
    refine⟨fun hnone => ?_,fun i E => ?_⟩
    ·exfalso
     have hlen:=X _ rfl
     exact(by
      have : ∃ i,i∈Region.ready .any ops.toArray b:=by
       obtain⟨q,I⟩ : ∃ q,q∈(List.range ops.length).filter (fun i => !b.getD i false):=by
        cases hfe:(List.range ops.length).filter (fun i => !b.getD i false)with
        | nil=>rw[hfe]at hlen; cases hlen
        | cons q l=>exact⟨q,List.mem_cons_self⟩
       have Fj : ∀ m q,q<=m->q<ops.length->b.getD q false=false -> ∃ i,i<ops.length/\b.getD i false=false /\ ∀ j,j<i->b.getD j false=true:=by
        intro m
        induction m with
        | zero=>intro q hm B hq2; exact⟨q,B,hq2,fun j A=>by omega⟩
        | succ m Yq =>
          intro q hm B hq2
          by_cases R : ∀ j,j<q->b.getD j false=true
          ·exact⟨q,B,hq2,R⟩
          ·obtain⟨j,A⟩:=Classical.not_forall.1 R
           obtain⟨hj1,hj2⟩:=Classical.not_imp.1 A
           exact Yq j (by omega) (by omega) (by simpa using hj2)
       simp only[List.mem_filter,List.mem_range]at I
       obtain⟨i,t,hi1,hi2⟩:=Fj q q (Nat.le_refl _) I.1 (by simpa using I.2)
       refine⟨i,mem_ready.2 ⟨getD_in (by rw[U]; exact t) hi1,opAt ops i,?_,fun e H hb=>hi2 e.on ((dJ T t).2.2.2 e.on ?_)⟩⟩
       ·unfold opAt; rw[List.getElem?_toArray,List.getD_eq_getElem?_getD,List.getElem?_eq_getElem t]; rfl
       ·unfold bR; rw[Array.any_eq_true']; exact⟨e,H,by rw[hb,Nat.beq_refl]; rfl⟩
      obtain⟨i,t⟩:=this
      rw[hnone]at t; cases t)
    ·obtain⟨c,t,hop,R⟩:=dN E
     have hsz':(b.setIfInBounds i true).size=ops.length:=by simpa using U
     have Dl:=wU.set E
     have hev:=GK (f:=f) T (v:=y r) E
     have hae : ∀ x∈(opAt ops i).op.operands,a.eval x=ev (full ops f (y r)) x:=fun x F=>by rw[L.ev]; exact hev x F
     have hex:execOp a.eval (opAt ops i)=execOp (ev (full ops f (y r))) (opAt ops i):=execOp_congr _ (Region.noSelect_spec hsel i _ · · hop) hae
     have hwant:Region.wanted (opAt ops i) (yielded ops.toArray a.tmps)=Region.wanted (opAt ops i) (yf ops.toArray (full ops f (y r))):=by rw[L.yf]; exact wu T E
     have hpre : ∀ x∈V.getD i [],kK o b x.1=true:=fun x F=>by
      obtain⟨e,D,h3,G⟩:=hpr i t x F
      unfold kK
      rw[D]; exact JL E wU h3 G
     have hpost : ∀ x∈Z.getD i [],kK o b x.1=false:=fun x F=>by
      obtain⟨e,D,G⟩:=hpo i t x F
      unfold kK
      rw[D]
      cases hle:b.getD e false with
      | false=>exact hle
      | true =>
        obtain⟨mm,G⟩:=fQ G
        have:=wU.reach _ _ G hle
        rw[c]at this; cases this
     unfold wpOp
     simp only[hop]
     rw[hwant]
     by_cases hne:o.contains i=true
     ·have hmem:i∈o:=by simpa using hne
      obtain⟨j,A⟩:=List.getElem?_of_mem hmem
      have hg:=(Km j i A).2
      have hjl:j<o.length:=(List.getElem?_eq_some_iff.1 A).1
      rw[if_pos (by unfold Region.wanted; rw[hg])]
      refine .inl<|H j i A r _ C a _ hpre hpost (by unfold kK; rw[A]; exact c) O hae fun p w' hS' => ?_
      have hsame:over ops f (y r) b=over ops f (y (kR r j p)) b:=by
       funext s
       unfold over
       cases Y:writer ops s with
       | none=>rfl
       | some q =>
         simp only
         cases hlq:b.getD q false
         ·rfl
         ·simp only[if_true]
          have hqi:=(jw Y).2
          refine(hd q hqi j r p (fun x F e => ?_) (fun e => ?_) hjl).symm
          ·obtain⟨J,D,h3,G⟩:=hpr q hqi x F
           obtain⟨mm,G⟩:=fQ G
           have h5:=wU.reach _ _ G hlq
           rw[e,A]at D
           rw[<- Option.some.inj D,c]at h5; cases h5
          ·rw[A]at e
           rw[<- Option.some.inj e,c]at hlq; cases hlq
      refine ih _ _ _ (kR r j p) hsz' Dl ?_ ?_ (hcount i E)
      ·have:=(hsame ▸ L).put (d:=(opAt ops i).dst) (by
        cases hd:(opAt ops i).dst with
        | none=>rfl
        | some d=>simp[inn,Nat.blt_eq,((dJ T t).1 d hd).2]) (y (kR r j p) i)
       rwa [uf T U t]at this
      ·have e:kK o (b.setIfInBounds i true)=MZ (kK o b) j:=by
        funext q
        unfold MZ
        cases hb:Nat.beq q j with
        | true =>
          have:=Nat.eq_of_beq_eq_true hb
          subst this
          unfold kK
          rw[A]; exact set_self (by rw[U]; exact t)
        | false =>
          have hqj:q≠j:=fun z=>by rw[z,Nat.beq_refl]at hb; cases hb
          unfold kK
          cases hqe:o[q]? with
          | none=>rfl
          | some J =>
            have:i≠J:=fun z=>by
             subst z
             have h9:=List.getElem?_eq_some_iff.1 hqe
             have h10:=List.getElem?_eq_some_iff.1 A
             exact hqj ((List.getElem_inj hnd).1 (h9.2.trans h10.2.symm))
            exact iA this
       rw[e]; exact hS'
     ·have hne':o.contains i=false:=by simpa using hne
      have B:=I i t hne' r _ C hpre hpost O
      have hfin : ∀ w',S (kK o b) r w'->wpAny P .any ops.toArray (lift n Q) N (b.setIfInBounds i true) (a.put (opAt ops i).dst (y r i)) w':=fun w' hS'=>by
       refine ih _ _ _ r hsz' Dl ?_ ?_ (hcount i E)
       ·have:=L.put (d:=(opAt ops i).dst) (by
         cases hd:(opAt ops i).dst with
         | none=>rfl
         | some d=>simp[inn,Nat.blt_eq,((dJ T t).1 d hd).2]) (y r i)
        rwa [uf T U t]at this
       ·have e:kK o (b.setIfInBounds i true)=kK o b:=by
         funext q
         unfold kK
         cases hqe:o[q]? with
         | none=>rfl
         | some J =>
           have:i≠J:=fun z=>by subst z; exact absurd (show o.contains i=true by simpa using List.mem_of_getElem? hqe) hne
           exact iA this
        rw[e]; exact hS'
      by_cases hwt:Region.wanted (opAt ops i) (yf ops.toArray (full ops f (y r)))=true
      ·rw[if_pos hwt]at B ⊢
       refine .inl ?_
       unfold Oper.wp
       rw[hex]
       generalize (execOp (ev (full ops f (y r))) (opAt ops i)).run P C=res at B
       cases res with
       | ok nx w' =>
         cases nx <;> simp only[Oper.quietUpon]at B <;> simp only[Oper.upon]
         case value u=>obtain⟨e1,J⟩:=B; subst e1 J; exact hfin _ O
         case skip=>obtain⟨e1,J⟩:=B; subst e1; rw[<- J]; exact hfin _ O
         case enter g args =>
          obtain⟨e1,hc⟩:=B
          subst e1
          exact hc.mono fun e w'' ⟨he',hw''⟩=>by subst he'; exact hfin _ hw''
       | halt x w'=>simp only[Oper.quietUpon]at B
      ·rw[if_neg hwt]at B ⊢
       rw[<- B]
       exact hfin _ O
 have hrep : ∀ i,(Array.replicate ops.toArray.size false).getD i false=false:=fun i=>by
  rw[Array.getD_eq_getD_getElem?]
  by_cases t:i<ops.length
  ·simp[t]
  ·simp[t]
 have hstart:over ops f (y r0) (Array.replicate ops.toArray.size false)=f:=by
  funext s
  unfold over
  cases writer ops s with
  | none=>rfl
  | some i=>simp only; rw[hrep]; simp
 have hdn:kK o (Array.replicate ops.toArray.size false)=fun _=>false:=by
  funext j
  unfold kK
  cases o[j]? with
  | none=>rfl
  | some e=>exact hrep e
 have:=key ops.toArray.size (Array.replicate ops.toArray.size false) a { w with drawn:=w.drawn+1 } r0 (by simp) (CZ.start _ _ _) (by rw[hstart]; exact L) (by rw[hdn]; exact h0 _ (Below.refl _ _).drew rfl) (fun M X=>by
  subst X
  rw[List.filter_eq_self.2 (fun i _=>by rw[hrep]; rfl)]
  simp)
 simpa using this
theorem dw{r:Gh}{k j:Nat}{p:Nat × Nat}(h:j≠k):kR r k p j=r j:=by
 unfold kR
 have:Nat.beq j k=false:=by
  cases hq:Nat.beq j k
  ·rfl
  ·exact absurd (Nat.eq_of_beq_eq_true hq) h
 rw[this]; rfl
theorem Ey{o:Oper}{ρ:Operand->Value}{T:TypeId}{m:Nat}{z:Nat->Value}(d:o.op = .alloc T)(e:((P.info? T).bind (·.zero)).map (·.cells)=some (aA m z))(a:World) : ∃ b,(execOp ρ o).run P a = .ok (.value (.pointer (some ⟨a.heap.size,0,none⟩))) b/\aL b a.heap.size m z T/\Stp a.heap.size a b:=by
 obtain⟨i,f,g⟩:=Option.map_eq_some_iff.1 e
 obtain⟨j,c,h⟩:=Option.bind_eq_some_iff.1 f
 refine⟨a.alloc (.cells i.cells T),?_,?_,Stp.alloc _ _⟩
 ·unfold execOp
  simp[d,Instr.alloc,zeroValue,typeInfo,c,h,newVar,newRow]
 show(a.alloc _).heap[a.heap.size]? = _
 rw[alloc_at,if_pos rfl,g]
theorem Ez{o:Oper}{ρ:Operand->Value}{T d:TypeId}{a v:Operand}{m g:Nat}{x y:Nat->Value}{u:Value}(B:o.op = .store d a v)(n:(P.info? d).map (·.size)=some m)(p:ρ a = .pointer (some ⟨g,0,none⟩))(r:ρ v=u)(E:u.cells=aA m y)(h1 : ∀ j,j<m->(y j).oneCell'=true){b:World}(z:aL b g m x T) : ∃ e,(execOp ρ o).run P b = .ok .skip e/\aL e g m y T/\Stp g b e:=by
 have i:b.heap[g]? = some (.cells (aA m x) T (0,0)):=z
 have t:(aA m y).all (·.oneCell')=true:=by
  rw[Array.all_eq_true_iff_forall_mem]
  intro q C
  obtain⟨j,k,A⟩:=Array.getElem_of_mem C
  have l:j<m:=by simpa [aV] using k
  have f:=dP y l
  rw[Array.getElem?_eq_getElem k,A]at f
  rw[Option.some.inj f]; exact h1 j l
 have D:(storeVar d ⟨g,0,none⟩ u).run P b = .ok () (b.setRow g (aA m y)):=by
  have h:=run_storeCells_at (P:=P) g 0 T (aA m y).toList 0 (aA m x) b i (by simp[aV]) (fun q c=>(Array.all_eq_true_iff_forall_mem.1 t) q (by simpa using c))
  have s:((aA m x).toList.take (0+0)++(aA m y).toList++(aA m x).toList.drop (0+0+(aA m y).toList.length)).toArray=aA m y:=by
   rw[List.drop_eq_nil_of_le (by simp[aV])]; simp
  rw[s]at h
  cases c:P.info? d with
  | none=>simp[c]at n
  | some ti =>
    have F:ti.size=m:=by simp[c]at n; omega
    simp only[storeVar,sizeOf,typeInfo,Sem.run_bind,run_program,c,E,aV,F,ne_eq,not_true_eq_false,if_false,Result.andThen_ok,Sem.run_pure,h]
 obtain⟨G,H,I⟩:=sM (w:=b) (cs:=aA m y) i
 refine⟨_,?_,H,G⟩
 unfold execOp
 simp only[B,p,r,Instr.storeAt,Instr.sureAddr,Sem.run_bind,Sem.run_pure,Result.andThen_ok,D]
def vU(c d:Nat)(vs:Array Value)(a b:Nat):Nat->Value:=fun i=>bif Nat.beq i c then .pointer (some ⟨a,0,none⟩)else bif Nat.beq i d then .pointer (some ⟨b,0,none⟩)else vs.getD i undef
def CP(ops:List Oper)(f:Nat->Value)(c d:Nat)(vs:Array Value)(a b:Nat):Nat->Value:=full ops f (vU c d vs a b)
structure Pg(w:World)(m1 m2:Nat)(z1 y1 z2 y2:Nat->Value)(T1 T2:TypeId)(m:Nat->Bool)(r:Gh)(v:World):Prop where
 b:Below w.heap.size w v
 a:m 0=true->w.heap.size<=(r 0).1/\aL v (r 0).1 m1 (if m 2=true then y1 else z1) T1
 c:m 1=true->w.heap.size<=(r 1).1/\aL v (r 1).1 m2 (if m 3=true then y2 else z2) T2
 ne:m 0=true->m 1=true->(r 0).1≠(r 1).1
theorem Pg.up{m1 m2:Nat}{z1 y1 z2 y2:Nat->Value}{T1 T2:TypeId}{m:Nat->Bool}{r:Gh}{v e:World}(h:Pg w m1 m2 z1 y1 z2 y2 T1 T2 m r v)(d:Below v.heap.size v e):Pg w m1 m2 z1 y1 z2 y2 T1 T2 m r e :=
 ⟨Di h.b d,fun q=>⟨(h.a q).1,(h.a q).2.eH (Sb d) (Nat.ne_of_lt (h.a q).2.lt)⟩,fun q=>⟨(h.c q).1,(h.c q).2.eH (Sb d) (Nat.ne_of_lt (h.c q).2.lt)⟩,h.ne⟩
def Gj(P:Program)(a:Nat->Value)(ops:Array Oper)(w:World)(b:List Nat)(vs:Array Value):List Oper->Nat->Prop
 | [],_=>True
 | o::l,i=>(b.contains i=true\/(if Region.wanted o (yf ops a)then QB P (ev a) o w (vs.getD i undef)else vs.getD i undef=undef))/\Gj P a ops w b vs l (i+1)
theorem Bj{a:Nat->Value}{c:Array Oper}{b:List Nat}{vs:Array Value} : ∀ {l:List Oper} {k:Nat},Gj P a c w b vs l k -> ∀ i,i<l.length->(b.contains (k+i)=true\/(if Region.wanted (opAt l i) (yf c a)then QB P (ev a) (opAt l i) w (vs.getD (k+i) undef)else vs.getD (k+i) undef=undef))
 | [],_,_,i,hi=>absurd hi (by simp)
 | o::l,k,h,0,_=>h.1
 | o::l,k,h,i+1,hi=>by
   have:=Bj h.2 i (by simpa using hi)
   rwa [show k+1+i=k+(i+1) by omega]at this
theorem zl{i j:Nat}(h:i≠j):Nat.beq i j=false:=by
 cases hq:Nat.beq i j
 ·rfl
 exact absurd (Nat.eq_of_beq_eq_true hq) h
def vV(l:JK)(j:Nat):Bool:=l.any fun x=>Nat.beq x.1 j
theorem oV{l:JK}{j:Nat}(h:vV l j=true) : ∃ x∈l,x.1=j:=by
 unfold vV at h
 rw[List.any_eq_true]at h
 obtain⟨x,a,b⟩:=h
 exact⟨x,a,Nat.eq_of_beq_eq_true b⟩
theorem Ai{id:Nat}{T1 T2 XR T2':TypeId}{a1 v1 a2 v2:Operand}{m1 m2:Nat}{z1 y1 z2 y2:Nat->Value}{u1 u2:Value}(k l y z:Nat)(N M:List JK)(vs:Array Value)(hm:P.follows .mixedOrders=true)(hok:iU n ops=true)(hsel:Region.noSelect ops.toArray=true)(M0:Gi ops [k,l,y,z] N M=true)
 (hes : [k,l,y,z].all (fun e=>Nat.blt e ops.length&&(match (opAt ops e).guard with|none=>true|_=>false))=true) (hnd:decide [k,l,y,z].Nodup=true)
 (hw1:vV (N.getD y []) 0=true) (hw2:vV (N.getD z []) 1=true) (hw3:vV (M.getD k []) 2=true) (hw4:vV (M.getD l []) 3=true)
 (o1:(opAt ops k).op = .alloc T1) (o2:(opAt ops l).op = .alloc T2) (n1:((P.info? T1).bind (·.zero)).map (·.cells)=some (aA m1 z1)) (n2:((P.info? T2).bind (·.zero)).map (·.cells)=some (aA m2 z2))
 (U:(opAt ops y).op = .store XR a1 v1) (V:(opAt ops z).op = .store T2' a2 v2) (X:(opAt ops y).dst=none) (Y:(opAt ops z).dst=none) (e1:(P.info? XR).map (·.size)=some m1) (e2:(P.info? T2').map (·.size)=some m2)
 (ha1 : ∀ o s,ev (CP ops f k l vs o s) a1 = .pointer (some ⟨o,0,none⟩)) (ha2 : ∀ o s,ev (CP ops f k l vs o s) a2 = .pointer (some ⟨s,0,none⟩)) (hv1 : ∀ o s,ev (CP ops f k l vs o s) v1=u1) (hv2 : ∀ o s,ev (CP ops f k l vs o s) v2=u2)
 (hu1:u1.cells=aA m1 y1) (hu2:u2.cells=aA m2 y2) (h11 : ∀ j,j<m1->(y1 j).oneCell'=true) (h12 : ∀ j,j<m2->(y2 j).oneCell'=true)
 (hq : ∀ o s,Gj P (CP ops f k l vs o s) ops.toArray w [k,l,y,z] vs ops 0)
 (h : ∀ o s w' Z,Z=CP ops f k l vs o s->w.heap.size<=o->w.heap.size<=s->o≠s->aL w' o m1 y1 T1->aL w' s m2 y2 T2->Below w.heap.size w w'->Q .normal Z w'):W P n (.region id ops.toArray true) Q f w:=by
 have hn:=of_decide_eq_true hnd
 simp only[List.nodup_cons,List.mem_cons,List.not_mem_nil,or_false,not_or]at hn
 obtain⟨⟨x12,x1s,x1t⟩,⟨x2s,x2t⟩,xst,_⟩:=hn
 refine W.masks [k,l,y,z] N M (fun r=>vU k l vs (r 0).1 (r 1).1) (Pg w m1 m2 z1 y1 z2 y2 T1 T2) hm hok hsel M0 hes (of_decide_eq_true hnd) (fun _=>(0,0)) (fun w1 A _=>⟨A,fun h=>(nomatch h),fun h=>(nomatch h),fun h=>(nomatch h)⟩) ?_ ?_ ?_ ?_
 ·intro i hi T r m v _ _ d
  rcases Bj (hq (r 0).1 (r 1).1) i hi with h2|h2
  ·rw[Nat.zero_add]at h2; rw[h2]at T; cases T
  rw[Nat.zero_add]at h2
  have hni':i≠k/\i≠l/\i≠y/\i≠z:=by simpa using T
  have H:vU k l vs (r 0).1 (r 1).1 i=vs.getD i undef:=by unfold vU; rw[zl hni'.1,zl hni'.2.1]; rfl
  show if Region.wanted (opAt ops i) (yf ops.toArray (CP ops f k l vs (r 0).1 (r 1).1))then Oper.quietUpon P _ v (vU k l vs (r 0).1 (r 1).1 i) ((execOp (ev (CP ops f k l vs (r 0).1 (r 1).1)) (opAt ops i)).run P v)else vU k l vs (r 0).1 (r 1).1 i=undef
  rw[H]
  by_cases hw:Region.wanted (opAt ops i) (yf ops.toArray (CP ops f k l vs (r 0).1 (r 1).1))=true
  ·rw[if_pos hw]at h2 ⊢
   rcases h2 v d.b with h3|⟨g,args,h3,h4⟩
   ·rw[h3]; exact⟨rfl,rfl⟩
   rw[h3]; exact⟨rfl,h4.mono fun e w2 ⟨he,hb2⟩=>⟨he,d.up hb2⟩⟩
  rw[if_neg hw]at h2 ⊢; exact h2
 ·intro j i t r m v a K hpr hpo hmj d B J
  match j,t with
  | 0,t =>
    obtain rfl:k=i:=by simpa using t
    obtain⟨v2,E,A,u⟩:=Ey (ρ:=a.eval) o1 n1 v
    unfold Oper.wp
    rw[E]
    obtain⟨x,C,D⟩:=oV hw3
    have hm2:m 2=false:=by rw[<- D]; exact hpo x C
    have:=J (v.heap.size,0) v2 ⟨Di d.b u.old,fun _=>by
     rw[jU]
     exact⟨d.b.size,by show aL v2 v.heap.size m1 (if m 2=true then y1 else z1) T1; rw[hm2]; exact A⟩,fun q=>by
     have q:m 1=true:=q
     rw[dw (by decide)]
     exact⟨(d.c q).1,(d.c q).2.eH u (Nat.ne_of_lt (d.c q).2.lt)⟩,fun _ q=>by
     have q:m 1=true:=q
     rw[jU,dw (by decide)]
     exact Nat.ne_of_gt (d.c q).2.lt⟩
    have H:vU k l vs (kR r 0 (v.heap.size,0) 0).1 (kR r 0 (v.heap.size,0) 1).1 k = .pointer (some ⟨v.heap.size,0,none⟩):=by unfold vU; rw[Nat.beq_refl,jU]; rfl
    rw[H]at this
    exact this
  | 1,t =>
    obtain rfl:l=i:=by simpa using t
    obtain⟨v2,E,A,u⟩:=Ey (ρ:=a.eval) o2 n2 v
    unfold Oper.wp
    rw[E]
    obtain⟨x,C,D⟩:=oV hw4
    have YL:m 3=false:=by rw[<- D]; exact hpo x C
    have:=J (v.heap.size,0) v2 ⟨Di d.b u.old,fun q=>by
     have q:m 0=true:=q
     rw[dw (by decide)]
     exact⟨(d.a q).1,(d.a q).2.eH u (Nat.ne_of_lt (d.a q).2.lt)⟩,fun _=>by
     rw[jU]
     exact⟨d.b.size,by show aL v2 v.heap.size m2 (if m 3=true then y2 else z2) T2; rw[YL]; exact A⟩,fun q _=>by
     have q:m 0=true:=q
     rw[jU,dw (by decide)]
     exact Nat.ne_of_lt (d.a q).2.lt⟩
    have H:vU k l vs (kR r 1 (v.heap.size,0) 0).1 (kR r 1 (v.heap.size,0) 1).1 l = .pointer (some ⟨v.heap.size,0,none⟩):=by unfold vU; rw[zl (fun e=>x12 e.symm),Nat.beq_refl,jU]; rfl
    rw[H]at this
    exact this
  | 2,t =>
    obtain rfl:y=i:=by simpa using t
    obtain⟨x,C,D⟩:=oV hw1
    have F:m 0=true:=by rw[<- D]; exact hpr x C
    have O:a.eval a1 = .pointer (some ⟨(r 0).1,0,none⟩):=(B a1 (by rw[U]; simp[Op.operands])).trans (ha1 (r 0).1 (r 1).1)
    have R:a.eval v1=u1:=(B v1 (by rw[U]; simp[Op.operands])).trans (hv1 (r 0).1 (r 1).1)
    obtain⟨I,E,A,u⟩:=Ez U e1 O R hu1 h11 (d.a F).2
    unfold Oper.wp
    rw[E]
    show K (a.put (opAt ops y).dst undef) _
    rw[X]
    have:=J (0,0) I ⟨u.below d.b d.b.size (d.a F).1,fun _=>by
     rw[dw (by decide)]
     exact⟨(d.a F).1,by show aL I (r 0).1 m1 (if MZ m 2 2=true then y1 else z1) T1; exact A⟩,fun q=>by
     have q:m 1=true:=q
     rw[dw (by decide)]
     exact⟨(d.c q).1,(d.c q).2.eH u (fun e=>d.ne F q e.symm)⟩,fun _ q=>by
     have q:m 1=true:=q
     rw[dw (by decide),dw (by decide)]
     exact d.ne F q⟩
    rw[X]at this
    exact this
  | 3,t =>
    obtain rfl:z=i:=by simpa using t
    obtain⟨x,C,D⟩:=oV hw2
    have G:m 1=true:=by rw[<- D]; exact hpr x C
    have O:a.eval a2 = .pointer (some ⟨(r 1).1,0,none⟩):=(B a2 (by rw[V]; simp[Op.operands])).trans (ha2 (r 0).1 (r 1).1)
    have R:a.eval v2=u2:=(B v2 (by rw[V]; simp[Op.operands])).trans (hv2 (r 0).1 (r 1).1)
    obtain⟨I,E,A,u⟩:=Ez V e2 O R hu2 h12 (d.c G).2
    unfold Oper.wp
    rw[E]
    show K (a.put (opAt ops z).dst undef) _
    rw[Y]
    have:=J (0,0) I ⟨u.below d.b d.b.size (d.c G).1,fun q=>by
     have q:m 0=true:=q
     rw[dw (by decide)]
     exact⟨(d.a q).1,(d.a q).2.eH u (d.ne q G)⟩,fun _=>by
     rw[dw (by decide)]
     exact⟨(d.c G).1,by show aL I (r 1).1 m2 (if MZ m 3 3=true then y2 else z2) T2; exact A⟩,fun q _=>by
     have q:m 0=true:=q
     rw[dw (by decide),dw (by decide)]
     exact d.ne q G⟩
    rw[Y]at this
    exact this
  | j+4,t=>simp at t
 ·intro i hi j r p C hne hjl
  have t:j=0\/j=1\/j=2\/j=3:=by simp at hjl; omega
  show vU k l vs (kR r j p 0).1 (kR r j p 1).1 i=vU k l vs (r 0).1 (r 1).1 i
  unfold vU
  rcases t with rfl|rfl|rfl|rfl
  ·have:i≠k:=fun e=>hne (by rw[e]; rfl)
   rw[zl this]; simp only[cond_false]; rw[dw (by decide)]
  ·have:i≠l:=fun e=>hne (by rw[e]; rfl)
   rw[zl this]; simp only[cond_false]; rw[dw (by decide)]
  ·rw[dw (by decide),dw (by decide)]
  rw[dw (by decide),dw (by decide)]
 intro r m w' L d
 have m0:=L 0 (by simp); have m1':=L 1 (by simp); have m2':=L 2 (by simp); have m3:=L 3 (by simp)
 have B:=d.a m0; have S:=d.c m1'
 rw[m2']at B; rw[m3]at S
 exact h (r 0).1 (r 1).1 w' _ rfl B.1 S.1 (d.ne m0 m1') B.2 S.2 d.b
end
end Fx
end Go.Proofs.YtcbedgfikejkoaaDoor
namespace Go.Proofs.YtcbedgfikejkoaaDoor
open Go.RowKit Rt
open Fx (eT dI eY bf eX eU eG dM eZ gW dO gX eP gH gY Lv sN Ln Ws Qv Wl Rp Wc Qs Wr Sb Lk Wk rC rV sR Rs Rn Rd Rk Wb Wx Wo yE Wt pJ Ai Qn zQ tL yt zG wT zT zR iB zV jC nY rR zW yu zU yF yx rv aA aL bE aI ev bT Stp bV aO flat fH Mp dK aT fq gF bA down fM iW jk kU bQ bD cells_one jD aX pV unseen jl iQ cu bX dA cZ dh iE iT qL gI)
set_option maxRecDepth 20000
namespace Rt
def mo(v:EvM):Int:=1099511627776*v.o+v.seq
def jN(m:dB)(v:EvM):Int:=if 5<=m.own (bB v)\/140737488355328<v.bM then 6 else m.T.err (mo v) v.node
def Bl(m:dB)(v:EvM):dB := { m with T:=m.T.put (mo v) v.node,R:=aI m.R m.T.n (upd (fun _=>0) (bB v) v.bM),own:=aY m.own (bB v) (m.own (bB v)+1) }
theorem M4{T:cO}{pa:Int}{id:Int}{w:World}{b n:Nat}{x:Nat->Int}(h:Mp w b n x (aI (xw T) T.n (aC pa))):Mp w b n x (xw (T.put id pa)):=h.nM fun i _=>⟨rfl,by show aI (xw T) T.n _ i=aC (aI T.p T.n pa i); unfold aI xw; split <;> rfl⟩
theorem Ph{R:Nat->Nat->Int}{j n b:Nat}{r:Nat->Int}{x:Nat->Int}{w:World}(h:Mp w b n x (aI (oQ R) j (.agg (aA 54 (rv .i64 r))))):Mp w b n x (oQ (aI R j r)):=xW _ _ _ _ h
end Rt
theorem WS(o q:Int)(w:World)(a:1<=o/\o<=6)(b:1<=q/\q<1099511627776):Calls Tryd.prog 115 #[au o,aC q] w fun e w'=>e = .returned (aC (1099511627776*o+q))/\w'=w:=by
 have h:=Zr o.toNat q.toNat w (by omega) (by omega)
 rw[show((o.toNat:Nat):Int)=o by omega,show((q.toNat:Nat):Int)=q by omega]at h
 exact h
theorem M5(m:dB)(b B:Nat)(w:World)(h:iR w B b m)(v:EvM)(hv:bZ v=true)(J:m.T.err (mo v) v.node=0)(a:Nat)(ha:a<6)(hra:bB v=a)(hob:0<=m.own a/\m.own a<=1000)(hid:0<=mo v/\mo v<=18446744073709551615)(I:Nat)(G:Nat)(l:Nat)(H:Nat)(S:aL w I 1 (fun _=>(pt b)) 25)(hi:aL w G 1 (fun _=>aC (mo v)) 29)(P:aL w l 14 (dF v) 33)(Q:aL w H 1 (fun _=>au (a:Int)) 3) :
 Calls Tryd.prog 117 #[(pt I),(pt G),(pt l),(pt H)] w fun e w'=>e = .returned (.tuple #[])/\iR w' B b (Bl m v)/\iW (za m b) w w':=by
 have hC:=h.c
 have hT:=h.t
 have hP:=h.p
 have hR:=h.r
 have hG:=h.g
 have hA:=h.a
 have d:=h.ne
 have lC:=h.c.lt
 have lT:=h.t.lt
 have lP:=h.p.lt
 have lR:=h.r.lt
 have lG:=h.g.lt
 have lA:=h.a.lt
 have QK:=S.lt
 have lgi:=hi.lt
 have Ri:=P.lt
 have lgk:=Q.lt
 have U : ∀ i,i<m.T.n->m.T.x i≠mo v:=fun i hi e=>by have:=(FB J).2.1; rw[gL hi e]at this; cases this
 refine Kent Tryd.func117 42 ?_
 refine Ws ?_
 -- region 0 draws
 refine jP [5,0,1,2,3,4,6,7] [4,0,0,4,4,0,4,3] [(7,0,[3,2,1,0]),(7,3,[3]),(7,4,[4]),(7,6,[6])] fun rZ K iF => ?_
 have s1:Stp w.heap.size w rZ:=Sb K
 have⟨W,m2,m3,m4,m5,m6,m7,m8,m9,m10⟩:=nL K hC hT hP hR hG hA S hi P Q
 have b1:=(rR (za m b) w).then s1 (.inr (rR (za m b) w).size)
 refine aW ((pf l 9))<|Rs ((pt b)) (aP m7.aK 0) ?_
 refine aW ((pt b))<|aW ((pf b 18))<|Rs ((pt m.tp)) (aP W.aK 18) ?_
 refine Rs (aC (mo v)) (aP m8.aK 0) ?_
 refine Rs (aC v.node) (aP m9.aK 9) ?_
 refine gG<|fC (DX (mo v) v.node m2 hid) _ rfl ?_
 rintro y ⟨m11,s2⟩
 have j:=m2.wB s2
 have m12:=W.cB j
 have m13:=m3.cB j ((Ne.symm d.mp))
 have m14:=m4.cB j ((Ne.symm d.mr))
 have m15:=m5.cB j ((Ne.symm d.mg))
 have m16:=m6.cB j ((Ne.symm d.ma))
 have m17:=m7.cB j
 have m18:=m8.cB j
 have m19:=m9.cB j
 have m20:=m10.cB j
 have C:=b1.then s2 (.inl (.inr (.inl rfl)))
 have m21:lQ y B m.tp m.mb (m.T.put (mo v) v.node):=by rw[<- cO.xX J]; exact m11
 refine Ln<|bG<|Ws ?_
 -- region 1 draws
 refine jP [5,0,1,2,3,4,6,7] [4,0,0,4,4,0,4,3] [(7,0,[0]),(7,3,[3]),(7,4,[4]),(7,6,[6])] fun C9 M nO => ?_
 have s3:Stp y.heap.size y C9:=Sb M
 have⟨m22,m23,m24,sD,rM,sQ,uX,tQ,uY,mP⟩:=nL M m12 m13 m14 m15 m16 m17 m18 m19 m20 m21
 have b3:=C.then s3 (.inr C.size)
 refine aW ((pf l 9))<|Rs ((pt b)) (aP sQ.aK 0) ?_
 refine aW ((pt b))<|aW ((pf b 19))<|Rs (.map (some m.pb)) (aP m22.aK 19) ?_
 refine Rs (aC (mo v)) (aP uX.aK 0) ?_
 refine Rs (aC v.node) (aP tQ.aK 9) ?_
 refine gG<|Fx.L.I9 (by rfl) rfl rfl rfl rfl rfl m23 Tryd.underlying53 Tryd.underlying29 U fun z m32 s4 z1 => ?_
 have k:=m23.wB s4
 have oK:=m22.cB k
 have nZ:=m24.cB k ((Ne.symm d.pr))
 have qP:=sD.cB k ((Ne.symm d.pg))
 have qQ:=rM.cB k ((Ne.symm d.pa))
 have vG:=sQ.cB k
 have uo:=uX.cB k
 have qR:=tQ.cB k
 have wC:=uY.cB k
 have qU:=mP.cB k (d.mp)
 have D:=b3.then s4 (.inl (.inr (.inr (.inl rfl))))
 have vH:Mp z m.pb ((m.T.put (mo v) v.node).n) ((m.T.put (mo v) v.node).x) (xw (m.T.put (mo v) v.node)):=M4 m32
 refine Ln<|bG<|Ws ?_
 -- region 2 draws
 refine jP [0,2,3,7,8,1,4,5,6,9,10] [4,4,0,0,0,4,0,0,0,0,3] [(10,0,[0]),(10,1,[1]),(10,5,[5])] fun VL N G7 => ?_
 have s5:Stp z.heap.size z VL:=Sb N
 have⟨s,rO,uq,sF,wD,Ac,vI,uw,wZ,wE⟩:=nL N oK nZ qP qQ vG uo qR wC qU vH
 have b5:=D.then s5 (.inr D.size)
 refine Rs ((pt b)) (aP wD.aK 0) ?_
 refine aW ((pt b))<|aW ((pf b 21))<|aW ((pt b))<|aW ((pf b 21))<|Rs (au a) (aP uw.aK 0) ?_
 refine Rp ((pf b (a+21))) (fun _=>xH 6 1)<|Rs (au (m.own a)) (aP s.aK (a+21) (Cv (p:=a) (by omega) (by omega))) ?_
 refine Rp (au ((m.own a)+1)) (fun _=>gV)<|Rp ((pf b (a+21))) (fun _=>xH 6 1)<|gG<|nk s (a+21) (au ((m.own a)+1)) fun w3 vJ s6 z2 => ?_
 have Ad:aL w3 b 29 (nW { m with own:=aY m.own a (m.own a+1) }) 59:=vJ.to (OX ha (by omega) _)
 have iD:=iB s6 s.ty
 have⟨wF,uy,sG,uZ,zJ,pX,xg,qW,zK⟩:=Si iD rO uq sF wD Ac vI uw wZ wE
 have q:=b5.then s6 (.inl (.inl rfl))
 refine Ln<|bG<|ay<|av (.agg (aA 54 (rv .i64 (fun _=>0))))<|ni 54 (rv .i64 (fun _=>0)) fun o w4 F u s7 z3 => ?_
 have⟨Cb,Cc,yN,AB,xk,AJ,xq,Ae,yO,FD⟩:=nL s7.old wF uy sG uZ zJ pX xg qW zK Ad
 have b7:=q.then s7 (.inr q.size)
 have V:=iC F q.size
 have⟨ZH,ZI,ZJ,ZK,ZL,ZM,ZN,ZO,ZP⟩:=Ov F wF.lt uy.lt sG.lt uZ.lt zJ.lt pX.lt xg.lt zK.lt Ad.lt
 have xK:=u.lt
 refine fI u 0 fun w5 zL s8 z4 => ?_
 have DV:aL w5 o 54 (rv .i64 (fun _=>0)) 66:=aO zL
 have mH:=iB s8 u.ty
 have⟨FE,EW,Da,Af,zM,Ce,FH,Hl,Jh,JY⟩:=GX mH Cb Cc yN AB xk AJ xq Ae yO FD
 have b8:=b7.then s8 (.inr V)
 refine aD<|ay<|Lv (au a) (aP FH.aK 0)<|av ((pf l 11))<|Lv (au v.bM) (aP Ce.aK 11)<|av ((pt o))<|Lv ((pf o a)) (xH 6 1)<|nk DV a (au v.bM) fun A EX s9 z5 => ?_
 have Ho:aL A o 54 (rv .i64 (upd (fun _=>0) a v.bM)) 66:=EX.to (Fx.Bz _ _ _ _)
 have yJ:=iB s9 DV.ty
 have⟨Ji,Hq,J4,MW,JJ,J5,Gg,MX,J6,Pf⟩:=GX yJ FE EW Da Af zM Ce FH Hl Jh JY
 have E:=b8.then s9 (.inr V)
 refine aD ?_
 -- region 5 draws
 refine jP [0,1,2,3,4,5,6] [4,0,0,4,4,4,3] [(6,0,[0]),(6,3,[3]),(6,4,[4]),(6,5,[5])] fun YR O QU => ?_
 have s10:Stp A.heap.size A YR:=Sb O
 have⟨Ob,Ew,zk,X,Y,EA,zm,zn,zo,Z,aa⟩:=yB O Ji Hq J4 MW JJ J5 Gg MX J6 Pf Ho
 have b10:=E.then s10 (.inr E.size)
 refine Rs ((pt b)) (aP X.aK 0) ?_
 refine aW ((pt b))<|aW ((pf b 20))<|Rs (.map (some m.rb)) (aP Z.aK 20) ?_
 refine Rs (aC (mo v)) (aP Y.aK 0) ?_
 refine Rs (.agg (aA 54 (rv .i64 (upd (fun _=>0) a v.bM)))) (jh aa.aK 0) ?_
 refine gG<|Fx.L.I9 (by rfl) rfl rfl rfl rfl rfl Ob Tryd.underlying54 Tryd.underlying29 U fun w7 Gl s11 z6 => ?_
 have f:=Ob.wB s11
 have CQ:=Ew.cB f ((Ne.symm d.rg))
 have Gm:=zk.cB f ((Ne.symm d.ra))
 have Pj:=X.cB f
 have Pk:=Y.cB f
 have Pm:=EA.cB f
 have WT:=zm.cB f
 have M6:=zn.cB f (d.mr)
 have M7:=zo.cB f (d.pr)
 have CS:=Z.cB f
 have M8:=aa.cB f
 have b11:=b10.then s11 (.inl (.inr (.inr (.inr (.inl rfl)))))
 have M9:Mp w7 m.rb ((m.T.put (mo v) v.node).n) ((m.T.put (mo v) v.node).x) (oQ (aI m.R m.T.n (upd (fun _=>0) a v.bM))):=Ph Gl
 refine Ln (Rn (⟨.tuple #[],fM Tryd.results117,?_⟩))
 unfold Bl; rw[hra]
 exact⟨rfl,{ c:=CS,t:=M6,p:=M7,r:=M9,g:=CQ,a:=Gm,ne:=⟨d.mp,d.mr,d.mg,d.ma,d.pr,d.pg,d.pa,d.rg,d.ra,d.ga⟩,lB:=h.lB,pB:=h.pB,rB:=h.rB,gB:=h.gB,aB:=h.aB },b11⟩
theorem Pn(m:dB)(j B:Nat)(w:World)(h:iR w B j m)(v:EvM)(L:bZ v=true)(ab : ∀ a,a<6->0<=m.own a/\m.own a<=1000) :
 Calls Tryd.prog 108 #[(pt j),.agg (aA 14 (dF v))] w fun e w'=>JZ w B j m (Bl m v) (jN m v) e w':=by
 have Z:=h.c
 have hT:=h.t
 have hP:=h.p
 have hR:=h.r
 have hG:=h.g
 have hA:=h.a
 have hN:=h.ne
 have lC:=h.c.lt
 have lT:=h.t.lt
 have lP:=h.p.lt
 have lR:=h.r.lt
 have lG:=h.g.lt
 have lA:=h.a.lt
 obtain⟨a,J,ho⟩ : ∃ a:Nat,a<6/\v.o=(a:Int)+1:=dV (iI L)
 have z:bB v=a:=by unfold bB; omega
 have hbd:=lW L
 have aa:0<=mo v/\mo v<=18446744073709551615:=by unfold mo; omega
 have hoa:=ab a J
 refine Kent Tryd.func108 38 ?_
 refine ay<|pQ ((pt j)) fun n w1 X M s1 z1 => ?_
 have⟨m2,U⟩:=gU s1.old Z (Below.refl w.heap.size w)
 have wY:=gK X
 have mO:=bS X Z.lt
 have xK:=M.lt
 refine rG fun b w2 Y l s2 z2 => ?_
 have⟨P,Q,H⟩:=kM s2.old m2 M U
 have zN:=iC Y U.size
 have⟨Ww,Ic⟩:=rH Y m2.lt M.lt
 have Cg:=l.lt
 refine av (.nilFunc)<|av (au 0)<|aD<|Ws ?_
 -- region 1 draws
 refine Ai (T1:=29) (T2:=3) (XR:=29) (T2':=3) (a1 := .tmp 6) (v1 := .tmp 13) (a2 := .tmp 7) (v2 := .tmp 16) (m1:=1) (m2:=1) (z1:=rv .u64 (fun _=>0)) (y1:=fun _=>aC (mo v)) (z2:=rv .i64 (fun _=>0)) (y2:=fun _=>au ((a:Int))) (u1:=aC (mo v)) (u2:=au ((a:Int))) 8 9 10 11 [[],[],[],[],[],[],[],[],[],[],[(0,[8]),(1,[9])],[(0,[8]),(1,[9]),(2,[10])]] [[(2,[0]),(3,[0])],[(2,[1]),(3,[1])],[(2,[2]),(3,[2])],[(2,[3]),(3,[3])],[(2,[4]),(3,[4])],[(3,[5])],[(3,[6])],[(3,[7])],[(2,[8]),(3,[8])],[(2,[9]),(3,[9])],[(3,[10])],[]] #[(pt b),au v.o,(pf b 1),aC v.seq,aC (mo v),(pt b),au v.o,au ((a:Int)),undef,undef,undef,undef] (by kernel_rfl) (by kernel_rfl) (by kernel_rfl) (by kernel_rfl) (by kernel_rfl) (by kernel_rfl) (by kernel_rfl) (by kernel_rfl) (by kernel_rfl) (by kernel_rfl) rfl rfl (by kernel_rfl) (by kernel_rfl) rfl rfl rfl rfl (by kernel_rfl) (by kernel_rfl) (fun d f=>(show ev _ (.tmp 6)=(pt d)from by kernel_rfl)) (fun d f=>(show ev _ (.tmp 7)=(pt f)from by kernel_rfl)) (fun d f=>(show ev _ (.tmp 13)=aC (mo v)from by kernel_rfl)) (fun d f=>(show ev _ (.tmp 16)=au ((a:Int))from by kernel_rfl)) (cells_one (by rfl)) (cells_one (by rfl)) (fun _ _=>rfl) (fun _ _=>rfl) (fun d f => ?_) ?_
 ·refine⟨?_,?_,?_,?_,?_,?_,?_,?_,?_,?_,?_,?_,trivial⟩
  ·exact .inr Sd
  ·exact .inr (NZ (au v.o) fun D q=>bf (x:=dF v) rfl (show ev _ (.tmp 9)=(pt b)from by kernel_rfl) (by kernel_rfl) (l.aK.below q (by have:=l.lt; omega)) (i:=0) (by omega) (by omega) rfl)
  ·exact .inr Sd
  ·exact .inr (NZ (aC v.seq) fun D q=>bf (x:=dF v) rfl (show ev _ (.tmp 11)=(pf b 1)from by kernel_rfl) (by kernel_rfl) (l.aK.below q (by have:=l.lt; omega)) (i:=1) (by omega) (by omega) rfl)
  ·exact .inr (Fx.R3 (v:=aC (mo v)) (by kernel_rfl) (by kernel_rfl) (Fx.qbC (fun D q=>rC (args := [au v.o,aC v.seq]) rfl (Fx.args2 (show ev _ (.tmp 10)=au v.o from by kernel_rfl) (show ev _ (.tmp 12)=aC v.seq from by kernel_rfl)) Tryd.func115 rfl rfl) (fun D q=>(WS v.o v.seq _ (by omega) (by omega)).mono fun e v2 h=>⟨h.1,(by rw[h.2]; exact Below.refl _ _)⟩)))
  ·exact .inr Sd
  ·exact .inr (NZ (au v.o) fun D q=>bf (x:=dF v) rfl (show ev _ (.tmp 14)=(pt b)from by kernel_rfl) (by kernel_rfl) (l.aK.below q (by have:=l.lt; omega)) (i:=0) (by omega) (by omega) rfl)
  ·exact .inr (NZ (au a) fun D q=>Fx.Qw rfl (show ev _ (.tmp 15)=au v.o from by kernel_rfl) (show ev _ (.const (au 1))=au 1 from by kernel_rfl) Fx.io)
  ·exact .inl rfl
  ·exact .inl rfl
  ·exact .inl rfl
  exact .inl rfl
 rintro d f w3 G y A C ne1 m6 m7 hb1
 have adf:j≠d:=Nat.ne_of_lt (Nat.lt_of_lt_of_le (P.lt) A)
 have WU:n≠d:=Nat.ne_of_lt (Nat.lt_of_lt_of_le (Q.lt) A)
 have adg:b≠d:=Nat.ne_of_lt (Nat.lt_of_lt_of_le (l.lt) A)
 have adh:j≠f:=Nat.ne_of_lt (Nat.lt_of_lt_of_le (P.lt) C)
 have adi:n≠f:=Nat.ne_of_lt (Nat.lt_of_lt_of_le (Q.lt) C)
 have adj:b≠f:=Nat.ne_of_lt (Nat.lt_of_lt_of_le (l.lt) C)
 have⟨m8,m9,m10,b3⟩:=jH hb1 P Q l H
 have A:w.heap.size<=d:=Nat.le_trans H.size A
 have Ie:=m6.lt
 have C:w.heap.size<=f:=Nat.le_trans H.size C
 have JG:=m7.lt
 have R:G 2=(pt n):=by rw[y]; kernel_rfl
 have S:G 3=(pt b):=by rw[y]; kernel_rfl
 have q5:G 6=(pt d):=by rw[y]; kernel_rfl
 have q6:G 7=(pt f):=by rw[y]; kernel_rfl
 clear y
 refine sN<|Ws<|Ws ?_
 -- region 2 draws
 refine jP [0,2,3,1,4,5,6,7,8,9,10,11] [4,4,0,0,0,4,0,0,0,4,0,0] [] fun rZ gy iF => ?_
 have⟨m11,N,O,ac,ad,E⟩:=vv gy m8 m9 m10 m6 m7 b3
 refine Rs ((pt j)) (aP N.aK 0 (ha:=R)) ?_
 refine aW ((pt j))<|aW ((pf j 21))<|Rs (au a) (aP ad.aK 0 (ha:=q6)) ?_
 refine Rp ((pf j (a+21))) (fun _=>xH 6 1)<|Rs (au (m.own a)) (aP m11.aK (a+21) (Cv (p:=a) (by omega) (by omega))) ?_
 by_cases V:5<=(m.own a)
 ·refine Rp aG (fun _=>pO V)<|aW aG<|Rk (by rfl)<|Rk (by rfl)<|Rk (by rfl)<|aW aG<|bG<|aQ<|ay<|av (.nilFunc)<|av (au 6)<|aD<|Wr<|sR<|aM (.tuple #[.nilFunc,au 6]) ?_
  have k:jN m v=6:=by unfold jN; rw[z]; exact if_pos (.inl (by omega))
  exact⟨⟨.nilFunc,0,#[],by rw[k],rfl,fun u=>absurd (k.symm.trans u) (by first|decide|omega|assumption)⟩,E⟩
 refine Rp aF (fun _=>oz V)<|aW aF<|Rp ((pf b 11)) (fun _=>C8 S 11)<|Rs (au v.bM) (aP O.aK 11) ?_
 by_cases W:140737488355328<v.bM
 ·refine Rp aG (fun _=>zX W)<|aW aG<|bG<|aQ<|ay<|av (.nilFunc)<|av (au 6)<|aD<|Wr<|sR<|aM (.tuple #[.nilFunc,au 6]) ?_
  have k:jN m v=6:=by unfold jN; rw[z]; exact if_pos (.inr (by omega))
  exact⟨⟨.nilFunc,0,#[],by rw[k],rfl,fun u=>absurd (k.symm.trans u) (by first|decide|omega|assumption)⟩,E⟩
 refine Rp aF (fun _=>zY W)<|aW aF<|bG<|aN<|Wk<|sN<|Ws<|ay<|Lv ((pt j)) (aP N.aK 0 (ha:=R))<|Lv (aC (mo v)) (aP ac.aK 0 (ha:=q5))<|Lv ((pf b 9)) (C8 S 9)<|Lv (aC v.node) (aP O.aK 9)<|fC (Ul m j B _ (h.up E) (mo v) v.node aa) _ rfl ?_
 intro w4 s
 have⟨ae,af,ag,m20,I⟩:=mF s N O ac ad E
 refine av (au (m.T.err (mo v) v.node))<|aD<|ay<|av (au (m.T.err (mo v) v.node)) ?_
 by_cases F:(m.T.err (mo v) v.node)=0
 ·refine Lv aF (ng F)<|aD<|aN<|Wk<|sN<|ay<|Lv (.func (.func 117) #[] #[(pt n),(pt d),(pt b),(pt f)]) (Fx.iV (us := []) (vs := [(pt n),(pt d),(pt b),(pt f)]) rfl rfl (Fx.Qr R q5 S q6))<|av (.func (.func 117) #[] #[(pt n),(pt d),(pt b),(pt f)])<|av (au 0)<|aD<|Wr<|aM (.tuple #[.func (.func 117) #[] #[(pt n),(pt d),(pt b),(pt f)],au 0]) ?_
  have k:jN m v=0:=by unfold jN; rw[z,if_neg (by omega)]; exact F
  exact⟨⟨_,117,#[(pt n),(pt d),(pt b),(pt f)],by rw[k],rfl,fun _=>⟨rfl,⟨_,_,Tryd.func117,rfl,rfl⟩,fun w2 s=>(M5 m j B w2 ((h.up I).up s) v L F a J z (ab a J) aa _ _ _ _ (ae.eH (Sb s) (Nat.ne_of_lt ae.lt)) (ag.eH (Sb s) (Nat.ne_of_lt ag.lt)) (af.eH (Sb s) (Nat.ne_of_lt af.lt)) (m20.eH (Sb s) (Nat.ne_of_lt m20.lt))).mono fun _ _ K=>⟨K.1,K.2.1,K.2.2.mono fun _ hk => .inl hk⟩⟩⟩,I⟩
 refine Lv aG (qg F)<|aD<|aQ<|ay<|av (au (m.T.err (mo v) v.node))<|av (.nilFunc)<|av (au (m.T.err (mo v) v.node))<|aD<|Wr<|sR<|aM (.tuple #[.nilFunc,au (m.T.err (mo v) v.node)]) ?_
 have k:jN m v=m.T.err (mo v) v.node:=by unfold jN; rw[z,if_neg (by omega)]
 exact⟨⟨.nilFunc,0,#[],by rw[k],rfl,fun u=>absurd (k.symm.trans u) (by first|decide|omega|assumption)⟩,I⟩
end Go.Proofs.YtcbedgfikejkoaaDoor
namespace Go.Proofs.YtcbedgfikejkoaaDoor
open Go.RowKit Go
set_option linter.unusedVariables false
namespace Rt
section
variable {x p:Nat->Int} {n d e:Nat} {k v:Int}
theorem CU : ∀ {d:Nat} {v:Int},fZ x p n d v -> ∀ k,k∈gM x p n d v->(gM x p n d k).length<=(gM x p n d v).length
 | 0,v,h,k,hk=>by cases hk
 | d+1,v,h,k,hk=>by
   cases hv:dn x n v with
   | false=>rw[iX hv]at hk; cases hk
   | true =>
     have e:gM x p n (d+1) v=v::gM x p n d (fF x p n v):=by show(if _ then _ else _)=_; rw[if_pos hv]
     have a:fZ x p n d (fF x p n v):=h hv
     rw[e]at hk
     rcases List.mem_cons.1 hk with rfl|hk
     ·exact Nat.le_refl _
     ·have b:=CU a k hk
      have c:fZ x p n d k:=by
       refine um (d:=d) ?_ (Nat.le_trans b qN)
       exact zu a k hk
      have f:=(BX c (Nat.le_succ d)).1
      rw[f,e,List.length_cons]; omega
where zu : ∀ {d:Nat} {v:Int},fZ x p n d v -> ∀ k,k∈gM x p n d v->fZ x p n d k
 | 0,v,h,k,hk=>by cases hk
 | d+1,v,h,k,hk=>by
   cases hv:dn x n v with
   | false=>rw[iX hv]at hk; cases hk
   | true =>
     have e:gM x p n (d+1) v=v::gM x p n d (fF x p n v):=by show(if _ then _ else _)=_; rw[if_pos hv]
     have hs:fZ x p n d (fF x p n v):=h hv
     rw[e]at hk
     rcases List.mem_cons.1 hk with rfl|hk
     ·exact h
     ·exact(BX (zu hs k hk) (Nat.le_succ d)).2
theorem Bn : ∀ {d:Nat} {v:Int},fZ x p n d v->(gM x p n d v).Nodup
 | 0,v,h=>List.nodup_nil
 | d+1,v,h=>by
   cases hv:dn x n v with
   | false=>rw[iX hv]; exact List.nodup_nil
   | true =>
     have e:gM x p n (d+1) v=v::gM x p n d (fF x p n v):=by show(if _ then _ else _)=_; rw[if_pos hv]
     have a:fZ x p n d (fF x p n v):=h hv
     rw[e,List.nodup_cons]
     refine⟨fun c => ?_,Bn a⟩
     have f:=CU a v c
     have b:=(BX (CU.zu a v c) (Nat.le_succ d)).1
     rw[e]at b
     rw[<- b,List.length_cons]at f
     omega
end
section
variable {T:cO} {l:List Int} {k:Int}
theorem cO.tC(h:T.ok)(k:Int):(T.path k).Nodup:=Bn (h.stop k)
theorem cO.uR(h:T.ok)(e:l=T.path k) : ∀ v,v∈l->T.has v=true:=fun v c=>by
 obtain⟨i,a,b⟩:=List.getElem_of_mem c
 have:=cO.Gc h e a
 rw[List.getD_eq_getElem?_getD,List.getElem?_eq_getElem a]at this
 rw[<- b]; exact this
theorem vW(h:l.Nodup){i j:Nat}(hi:i<l.length)(a:j<l.length)(e:l.getD i 0=l.getD j 0):i=j:=by
 rw[List.getD_eq_getElem?_getD,List.getD_eq_getElem?_getD,List.getElem?_eq_getElem hi,List.getElem?_eq_getElem a]at e
 exact(List.getElem_inj h).1 e
end
def iZ(f:(Nat->Int)->(Nat->Int) × Int)(r:Nat->Nat->Int):Nat->Int
 | 0=>0
 | i+1=>if iZ f r i=0 then(f (r i)).2 else iZ f r i
section
variable {f:(Nat->Int)->(Nat->Int) × Int} {r:Nat->Nat->Int} {i n:Nat}
theorem Bo(h:iZ f r i=0)(a:(f (r i)).2=0):iZ f r (i+1)=0:=by unfold iZ; rw[if_pos h,a]
theorem tF(h:iZ f r i=0)(a : ¬ (f (r i)).2=0) : ∀ n,i<n->iZ f r n=(f (r i)).2
 | 0,hn=>absurd hn (Nat.not_lt_zero _)
 | n+1,hn=>by
   unfold iZ
   by_cases e:i=n
   ·subst e; rw[if_pos h]
   ·rw[tF h a n (by omega),if_neg a]
end
def wP(m:dB)(k:Int):Nat->Int:=m.R (m.idx k)
def bU(m:dB)(f:(Nat->Int)->(Nat->Int) × Int)(l:List Int):Int:=iZ f (fun i=>wP m (l.getD i 0)) l.length
open Classical in
noncomputable def lX(m:dB)(f:(Nat->Int)->(Nat->Int) × Int)(l:List Int):dB := { m with R:=fun i=>if m.T.x i∈l then(f (m.R i)).1 else m.R i }
def wQ(l:List Int)(S:Nat->Bool)(v:Int):Nat->Bool
 | 0=>false
 | n+1=>wQ l S v n || (S n&&decide (l.getD n 0=v))
theorem lD{l:List Int}{S:Nat->Bool}{v:Int} : ∀ {n:Nat},wQ l S v n=true <-> ∃ q,q<n/\S q=true/\l.getD q 0=v
 | 0=>⟨fun h=>(nomatch h),fun⟨q,h,_⟩=>absurd h (Nat.not_lt_zero _)⟩
 | n+1=>by
   unfold wQ
   rw[Bool.or_eq_true,lD,Bool.and_eq_true,decide_eq_true_iff]
   constructor
   ·rintro (⟨q,c,a,b⟩|⟨c,a⟩)
    ·exact⟨q,by omega,a,b⟩
    ·exact⟨n,by omega,c,a⟩
   ·rintro ⟨q,c,a,b⟩
    by_cases e:q=n
    ·subst e; exact .inr ⟨a,b⟩
    ·exact .inl ⟨q,by omega,a,b⟩
def qH(m:dB)(f:(Nat->Int)->(Nat->Int) × Int)(l:List Int)(S:Nat->Bool):Nat->Nat->Int:=fun i=>if wQ l S (m.T.x i) l.length=true then(f (m.R i)).1 else m.R i
theorem Gn(m:dB)(f:(Nat->Int)->(Nat->Int) × Int)(l:List Int):qH m f l (fun _=>false)=m.R:=by
 funext i
 unfold qH
 rw[if_neg]
 rw[lD]
 rintro ⟨q,_,h,_⟩; cases h
theorem JM{m:dB}(o:m.T.ok){f:(Nat->Int)->(Nat->Int) × Int}{l:List Int}{S:Nat->Bool}{q j:Nat}(t:q<l.length)(s:j<m.T.n)(g:m.T.x j=l.getD q 0) : ∀ i,i<m.T.n->Fx.aI (qH m f l S) j (f (m.R j)).1 i=qH m f l (Fx.aI S q true) i:=fun i p=>by
 unfold Fx.aI
 by_cases e:i=j
 ·subst e
  rw[if_pos rfl]
  unfold qH
  rw[if_pos]
  rw[lD]
  exact⟨q,t,by show(if q=q then true else S q)=true; rw[if_pos rfl],g.symm⟩
 ·rw[if_neg e]
  unfold qH
  have:wQ l S (m.T.x i) l.length=true<->wQ l (fun i=>if i=q then true else S i) (m.T.x i) l.length=true:=by
   rw[lD,lD]
   constructor
   ·rintro ⟨r,d,a,b⟩
    exact⟨r,d,by show(if r=q then true else S r)=true; split <;> first|rfl|exact a,b⟩
   ·rintro ⟨r,d,a,b⟩
    by_cases k:r=q
    ·subst k
     exact absurd (o.inj i j p s (by rw[g,<- b])) e
    ·exact⟨r,d,by have a:(if r=q then true else S r)=true:=a; rw[if_neg k]at a; exact a,b⟩
  by_cases c:wQ l S (m.T.x i) l.length=true
  ·rw[if_pos c,if_pos (this.1 c)]
  ·rw[if_neg c,if_neg (fun h=>c (this.2 h))]
theorem Na{m:dB}{f:(Nat->Int)->(Nat->Int) × Int}{l:List Int}{S:Nat->Bool}(h : ∀ q,q<l.length->S q=true):qH m f l S=(lX m f l).R:=by
 funext i
 show _=if m.T.x i∈l then(f (m.R i)).1 else m.R i
 unfold qH
 have:wQ l S (m.T.x i) l.length=true<->m.T.x i∈l:=by
  rw[lD]
  constructor
  ·rintro ⟨q,b,_,d⟩
   rw[<- d,List.getD_eq_getElem?_getD,List.getElem?_eq_getElem b]; exact List.getElem_mem b
  ·intro g
   obtain⟨q,a,e⟩:=List.getElem_of_mem g
   exact⟨q,a,h q a,by rw[List.getD_eq_getElem?_getD,List.getElem?_eq_getElem a]; exact e⟩
 by_cases c:m.T.x i∈l
 ·rw[if_pos (this.2 c),if_pos c]
 rw[if_neg (fun h=>c (this.1 h)),if_neg c]
def lY(m:dB)(f:(Nat->Int)->(Nat->Int) × Int)(l:List Int):Nat->Value:=fun q => .agg (Fx.aA 54 (Fx.rv .i64 (f (wP m (l.getD q 0))).1))
theorem Bp{m:dB}{f:(Nat->Int)->(Nat->Int) × Int}{l:List Int}{w:World}{b i:Nat}{r:Nat->Int}(h:Fx.Mp w b (i+1) (Fx.aI (fun q=>l.getD q 0) i (l.getD i 0)) (Fx.aI (lY m f l) i (.agg (Fx.aA 54 (Fx.rv .i64 r)))))(e:r=(f (wP m (l.getD i 0))).1):Fx.Mp w b (i+1) (fun q=>l.getD q 0) (lY m f l):=h.nM fun q a=>by
 unfold Fx.aI
 by_cases c:q=i
 ·subst c; rw[if_pos rfl,if_pos rfl,e]; exact⟨rfl,rfl⟩
 ·rw[if_neg c,if_neg c]; exact⟨rfl,rfl⟩
end Rt
end Go.Proofs.YtcbedgfikejkoaaDoor
namespace Go.Proofs.YtcbedgfikejkoaaDoor
open Go.RowKit Rt
open Fx (eT dI eY bf eX eU eG dM eZ gW dO gX eP gH gY Lv sN Ln Ws Qv Wl Rp Wc Qs Wr Sb Lk Wk rC rV sR Rs Rn Rd Rk Wb Wx Wo yE Wt pJ Ai Qn zQ tL yt zG wT zT zR iB zV jC nY rR zW yu zU yF yx rv aA aL bE aI ev bT Stp bV aO flat fH Mp dK aT fq gF bA down fM iW jk kU bQ bD cells_one jD aX pV unseen jl iQ cu bX dA cZ dh iE iT qL gI)
set_option maxRecDepth 20000
set_option linter.unusedVariables false
theorem Nb(x:Nat->Int)(v:EvM)(a:Nat)(w:World)(E:1<=v.o/\v.o<=6)(b:aL w a 14 (dF v) 33) :
 Calls Tryd.prog 121 #[.agg (aA 54 (rv .i64 x)),(pt a)] w fun e w'=>e = .returned ((.tuple #[.agg (aA 54 (rv .i64 (bL x v.o v.bM).1)),au (bL x v.o v.bM).2]))/\Below w.heap.size w w':=by
 have H:=b.lt
 refine Kent Tryd.func121 13 ?_
 refine ay<|rG fun D P i c A S => ?_
 have⟨k,g⟩:=gU A.old b (Below.refl w.heap.size w)
 have F:=gK i
 have K:=bS i b.lt
 have N:=c.lt
 refine ni 54 (rv .i64 (fun _=>0)) fun q Q j l B T => ?_
 have⟨d,m,n⟩:=kM B.old k c g
 have G:=iC j g.size
 have⟨L,M⟩:=rH j k.lt c.lt
 have O:=l.lt
 refine av (au 0)<|aD<|ay<|Lv (.agg (aA 54 (rv .i64 x))) (jh m.aK 0)<|av ((pt a))<|Lv (au v.o) (aP d.aK 0)<|av ((pf a 11))<|Lv (au v.bM) (aP d.aK 11)<|fC (TK (x) v.o v.bM _ (by omega)) _ rfl ?_
 intro R r
 have⟨t,u,y,h⟩:=jH r d m l n
 refine av (.agg (aA 54 (rv .i64 ((bL (x) v.o v.bM).1))))<|av (au ((bL (x) v.o v.bM).2))<|fI y 0 fun C z f U => ?_
 have s:aL C q 54 (rv .i64 ((bL (x) v.o v.bM).1)) 66:=aO z
 have I:=t.eH f (by omega)
 have J:=u.eH f (by omega)
 have p:=f.below h h.size (by omega)
 refine av (au ((bL (x) v.o v.bM).2)) (aD (Wr (⟨.tuple #[.agg (aA 54 (rv .i64 ((bL (x) v.o v.bM).1))),au ((bL (x) v.o v.bM).2)],gI Tryd.results121 ⟨_,rfl,aT s.aK (by kernel_rfl) (by kernel_rfl)⟩ (by exact rfl),?_⟩)))
 exact⟨rfl,p⟩
theorem Nc(x:Nat->Int)(v:EvM)(g:Nat->Int)(b c:Nat)(w:World)(K:1<=v.o/\v.o<=6)(d:aL w b 14 (dF v) 33)(f:aL w c 5 (jE g) 72) :
 Calls Tryd.prog 124 #[.agg (aA 54 (rv .i64 x)),(pt b),(pt c)] w fun e w'=>e = .returned ((.tuple #[.agg (aA 54 (rv .i64 (bO x v.o (g 3)).1)),au (bO x v.o (g 3)).2]))/\Below w.heap.size w w':=by
 have N:=d.lt
 have O:=f.lt
 refine Kent Tryd.func124 14 ?_
 refine ay<|rG fun J Z k h G z1 => ?_
 have⟨m,n,i⟩:=kM G.old d f (Below.refl w.heap.size w)
 have L:=gK k
 have⟨S,T⟩:=rH k d.lt f.lt
 have X:=h.lt
 refine ni 54 (rv .i64 (fun _=>0)) fun y w2 l p H z2 => ?_
 have⟨q,r,s,t⟩:=jH H.old m n h i
 have M:=iC l i.size
 have⟨U,V,W⟩:=BQ l m.lt n.lt h.lt
 have Y:=p.lt
 refine av (au 0)<|aD<|ay<|Lv (.agg (aA 54 (rv .i64 x))) (jh s.aK 0)<|av ((pt b))<|Lv (au v.o) (aP q.aK 0)<|av ((pf c 3))<|Lv (au (g 3)) (aP r.aK 3)<|fC (TL (x) v.o (g 3) _ (by omega)) _ rfl ?_
 intro w3 z
 have⟨E,F,A,B,j⟩:=mF z q r s p t
 refine av (.agg (aA 54 (rv .i64 ((bO (x) v.o (g 3)).1))))<|av (au ((bO (x) v.o (g 3)).2))<|fI B 0 fun I C a z3 => ?_
 have D:aL I y 54 (rv .i64 ((bO (x) v.o (g 3)).1)) 66:=aO C
 have P:=E.eH a (by omega)
 have Q:=F.eH a (by omega)
 have R:=A.eH a (by omega)
 have u:=a.below j j.size (by omega)
 refine av (au ((bO (x) v.o (g 3)).2)) (aD (Wr (⟨.tuple #[.agg (aA 54 (rv .i64 ((bO (x) v.o (g 3)).1))),au ((bO (x) v.o (g 3)).2)],gI Tryd.results124 ⟨_,rfl,aT D.aK (by kernel_rfl) (by kernel_rfl)⟩ (by exact rfl),?_⟩)))
 exact⟨rfl,u⟩
theorem EB(m:dB)(j B:Nat)(w:World)(h:iR w B j m)(o:(Nat->Int)->(Nat->Int) × Int)(l:List Int)(s:Nat)(hgM:m.rb≠s/\m.mb≠s/\m.pb≠s/\m.gb≠s/\m.ab≠s)(hlh : ∀ k,k∈l->m.T.has k=true)(I:Mp w s l.length (fun q=>l.getD q 0) (lY m o l))(z:Nat)(A:Nat)(H:aL w z 1 (fun _ => .map (some s)) 54)(Z:aL w A 1 (fun _=>(pt j)) 25) :
 Calls Tryd.prog 134 #[(pt z),(pt A)] w fun e w'=>e = .returned (.tuple #[])/\iR w' B j (lX m o l)/\iW (za m j) w w':=by
 have hC:=h.c
 have hT:=h.t
 have hP:=h.p
 have hR:=h.r
 have hG:=h.g
 have hA:=h.a
 have b:=h.ne
 have lC:=h.c.lt
 have lT:=h.t.lt
 have lP:=h.p.lt
 have lR:=h.r.lt
 have lG:=h.g.lt
 have lA:=h.a.lt
 have lg8:=H.lt
 have QK:=Z.lt
 have lF:=I.lt
 obtain⟨hg1,hg2,hg3,hg4,hg5⟩:=hgM
 refine Kent Tryd.func134 17 ?_
 refine ay<|Lv (.map (some s)) (aP H.aK 0)<|Fx.L.range (by rfl) rfl rfl rfl I Tryd.underlying54 fun F w1 oI m1 s1 z1 => ?_
 have⟨m2,m3,m4,m5,m6,m7,m8,m9,m10⟩:=BP s1.old hC hT hP hR hG hA I H Z
 have b1:=(rR (za m j) w).then s1 (.inr (rR (za m j) w).size)
 have wY:w.heap.size<=F:=by rw[oI]; exact(rR (za m j) w).size
 have xK:=m1.lt
 refine aD<|Wb ?_
 have m11:Mp w1 m.rb m.T.n m.T.x (oQ (qH m o l (fun _=>false))):=by rw[Gn]; exact m5
 refine yE (fun kE f v => ∃ S:Nat->Bool,∃ K:Nat,K=unseen S l.length/\K=kE/\f 0=(pt z)/\f 1=(pt A)/\f 5=(pt F)/\aL v j 29 (nW m) 59/\lQ v B m.tp m.mb m.T/\Mp v m.pb m.T.n m.T.x (xw m.T)/\fq v m.gb m.gn (fun i=>m.g i 0) (fun i=>m.g i 1) (nC m.g)/\fq v m.ab m.an m.ao m.ar xA/\Mp v s l.length (fun q=>l.getD q 0) (lY m o l)/\aL v z 1 (fun _ => .map (some s)) 54/\aL v A 1 (fun _=>(pt j)) 25/\Mp v m.rb m.T.n m.T.x (oQ (qH m o l S))/\Fx.It v F s l.length S/\iW (za m j) w v) (unseen (fun _=>false) l.length) ⟨(fun _=>false),(unseen (fun _=>false) l.length),rfl,rfl,(by rfl),(by rfl),(by rfl),m2,m3,m4,m6,m7,m8,m9,m10,m11,m1,b1⟩ ?_
 rintro kE f1 w2 ⟨S,K,hkk,hkE,W,X,G,m12,m13,m14,m15,m16,m17,m18,m19,m20,M,Q⟩
 refine ay<|Fx.L.next (by rfl) rfl rfl G m17 M (fun DW => ?_)<|fun d w3 C hS1 m22 Vf s2 z2 => ?_
 ·skip
  refine av aF (aD (Ws (aN (Wx (cZ (iE (dh (⟨.tuple #[],fM Tryd.results134,?_⟩))))))))
  have m23:Mp w2 m.rb m.T.n m.T.x (oQ (lX m o l).R):=by rw[<- Na DW]; exact m20
  exact⟨rfl,{ c:=m12,t:=m13,p:=m14,r:=m23,g:=m15,a:=m16,ne:=⟨b.mp,b.mr,b.mg,b.ma,b.pr,b.pg,b.pa,b.rg,b.ra,b.ga⟩,lB:=h.lB,pB:=h.pB,rB:=h.rB,gB:=h.gB,aB:=h.aB },Q⟩
 skip
 have y:=M.wB s2
 have m24:=m12.cB y
 have sD:=m13.cB y (by omega)
 have rM:=m14.cB y (by omega)
 have sQ:=m15.cB y (by omega)
 have uX:=m16.cB y (by omega)
 have N:=m17.cB y (M.rb.symm)
 have uY:=m18.cB y
 have mP:=m19.cB y
 have m32:=m20.cB y (by omega)
 have D:=Q.then s2 (.inr wY)
 refine av aG<|aD<|Ws<|aQ<|Wk<|sN<|Wb<|ay<|Lv (.tuple #[aC (l.getD d 0),.agg (aA 54 (rv .i64 ((o (wP m (l.getD d 0))).1)))]) (Fx.GZ (key:=fun q=>l.getD q 0) (val:=lY m o l) (i:=d) rfl G N Vf C)<|av (aC (l.getD d 0))<|av (.agg (aA 54 (rv .i64 ((o (wP m (l.getD d 0))).1))))<|ni 54 (rv .i64 (fun _=>0)) fun g2 w4 V O s3 z3 => ?_
 have⟨nZ,qP,qQ,vG,uo,qR,wC,qU,vH,qV,rO⟩:=yB s3.old m24 sD rM sQ uX N uY mP m32 Vf m22
 have b4:=D.then s3 (.inr D.size)
 have zN:=iC V D.size
 have⟨ZQ,ZR,ZT,ZU,ZV,ZW,ZX,ZY⟩:=Ou V m24.lt rM.lt sQ.lt uX.lt N.lt uY.lt mP.lt m32.lt
 have Cg:=O.lt
 refine av (aC (l.getD d 0))<|fI O 0 fun P uq s4 z4 => ?_
 have sF:aL P g2 54 (rv .i64 ((o (wP m (l.getD d 0))).1)) 66:=aO uq
 have iD:=iB s4 O.ty
 have⟨wD,Ac,vI,uw,wZ,wE,vJ,Ad,wF,uy,sG⟩:=QH iD nZ qP qQ vG uo qR wC qU vH qV rO
 have U:=b4.then s4 (.inr zN)
 refine aD ?_
 obtain⟨jz,J,E⟩:=eF (hlh _ (nN C rfl))
 have Z0:wP m (l.getD d 0)=m.R jz:=by unfold wP dB.idx; rw[ji h.t.inv.inj J E]
 -- region 3 draws
 refine jP [4,0,1,2,3,5,6] [4,0,0,4,0,4,3] [(6,0,[0]),(6,3,[3]),(6,5,[5])] fun rZ Y iF => ?_
 have s5:Stp P.heap.size P rZ:=Sb Y
 have⟨uZ,zJ,pX,xg,qW,zK,m64,Cb,Cc,yN,AB,xk⟩:=GV Y wD Ac vI uw wZ wE vJ Ad wF uy sG sF
 have b6:=U.then s5 (.inr U.size)
 refine aW (aC (l.getD d 0))<|Rs ((pt j)) (aP Cb.aK 0 (ha:=X)) ?_
 refine aW ((pt j))<|aW ((pf j 20))<|Rs (.map (some m.rb)) (aP uZ.aK 20) ?_
 refine Rs (.agg (aA 54 (rv .i64 ((o (wP m (l.getD d 0))).1)))) (jh xk.aK 0) ?_
 refine gG<|Fx.L.Sk (by rfl) rfl rfl rfl rfl rfl Cc Tryd.underlying54 Tryd.underlying29 J E fun w6 AJ s6 z5 => ?_
 have u:=Cc.wB s6
 have xq:=uZ.cB u
 have Ae:=zJ.cB u (b.mr)
 have yO:=pX.cB u (b.pr)
 have FD:=xg.cB u ((Ne.symm b.rg))
 have zL:=qW.cB u ((Ne.symm b.ra))
 have DV:=zK.cB u (by omega)
 have FE:=m64.cB u
 have EW:=Cb.cB u
 have Da:=yN.cB u (by omega) (by omega)
 have Af:=AB.cB u (by omega) (by omega)
 have zM:=xk.cB u
 have b7:=b6.then s6 (.inl (.inr (.inr (.inr (.inl rfl)))))
 have Ce:Mp w6 m.rb m.T.n m.T.x (oQ (qH m o l (aI S d true))):=by have q9:=xW _ _ _ _ AJ; rw[Z0]at q9; exact q9.nM fun i hi=>⟨rfl,by unfold oQ; rw[JM h.t.inv C J E i hi]⟩
 refine Ln (Rn (dA (iT ⟨unseen (aI S d true) l.length,(by have W:=Fx.jV hS1 l.length C; omega),(aI S d true),(unseen (aI S d true) l.length),rfl,rfl,W,X,G,xq,Ae,yO,FD,zL,DV,FE,EW,Ce,Af,b7⟩ (by decide))))
theorem Nf(m:dB)(j B:Nat)(w:World)(h:iR w B j m)(C:Int)(v:EvM)(ho:1<=v.o/\v.o<=6)(E:Nat)(u:aL w E 14 (dF v) 33) :
 Calls Tryd.prog 120 #[(pt j),aC C,.func (.func 121) #[] #[(pt E)]] w fun e w'=>JZ w B j m (lX m (fun x=>bL x v.o v.bM) (m.T.path C)) (bU m (fun x=>bL x v.o v.bM) (m.T.path C)) e w':=by
 have hC:=h.c
 have hT:=h.t
 have hP:=h.p
 have hR:=h.r
 have hG:=h.g
 have hA:=h.a
 have hN:=h.ne
 have lC:=h.c.lt
 have lT:=h.t.lt
 have lP:=h.p.lt
 have lR:=h.r.lt
 have lG:=h.g.lt
 have lA:=h.a.lt
 have Ri:=u.lt
 refine Kent Tryd.func120 44 ?_
 refine ay<|pQ ((pt j)) fun A w1 oI Y s1 z1 => ?_
 have⟨m2,m3,m4,m5,m6,m7,m8,b1⟩:=zZ s1.old hC hT hP hR hG hA u (Below.refl w.heap.size w)
 have wY:=gK oI
 have⟨mO,qF,uL,uM,uN,Ng⟩:=BR oI hC.lt hP.lt hR.lt hG.lt hA.lt u.lt
 have xK:=Y.lt
 refine av (.nilFunc)<|av (au 0)<|aD<|ay<|Fx.L.Dt (by rfl) rfl rfl fun d w2 wM m9 s2 z2 => ?_
 have⟨m10,m11,m12,m13,m14,m15,m16,m17,b2⟩:=BP s2.old m2 m3 m4 m5 m6 m7 m8 Y b1
 have zN:=iC wM b1.size
 have⟨Z4,CG,zf,zh,vK,LA,LB⟩:=Fu wM m2.lt m4.lt m5.lt m6.lt m7.lt m8.lt Y.lt
 have Cg:=m9.lt
 refine ni 1 (fun _ => .map none) fun y w3 Bf Z s3 z3 => ?_
 have⟨m19,m20,m21,m22,m23,m24,sD,rM,sQ,b3⟩:=nL s3.old m10 m11 m12 m13 m14 m15 m16 m17 m9 b2
 have G6:=iC Bf b2.size
 have⟨Uq,Nh,Ur,Ni,Nj,Ga,Ut,CJ⟩:=Ou Bf m10.lt m12.lt m13.lt m14.lt m15.lt m16.lt m17.lt m9.lt
 have Ie:=Z.lt
 refine nk Z 0 (.map (some d)) fun O uX s4 z4 => ?_
 have tQ:aL O y 1 (fun _ => .map (some d)) 54:=cu uX
 have iD:=iB s4 Z.ty
 have⟨uY,mP,m32,oK,nZ,qP,qQ,vG,uo⟩:=Si iD m19 m20 m21 m22 m23 m24 sD rM sQ
 have b4:=s4.below b3 b3.size (by omega)
 refine aD<|Ws<|ay<|Lv ((pt j)) (aP vG.aK 0)<|av ((pt j))<|av ((pf j 18))<|Lv ((pt m.tp)) (aP uY.aK 18)<|av (aC C)<|ko (FI C mP) ?_
 rintro e9 w5 ⟨QL,D,u,qR,hb1⟩
 refine⟨_,u,?_⟩
 clear u
 have⟨wC,qU,vH,qV,rO,uq,sF,wD,Ac,vI,b5⟩:=yB hb1 uY mP m32 oK nZ qP qQ vG uo tQ b4
 obtain⟨l,H⟩ : ∃ q,q=cO.path m.T C:=⟨_,rfl⟩
 rw[<- H]at qR ⊢
 have hl4:l.length<=4:=by rw[H]; exact cO.uP
 refine av (au l.length)<|av (au 0)<|aD<|Wb ?_
 have uw:Mp w5 d 0 (fun q=>l.getD q 0) (lY m (fun x=>bL x v.o v.bM) l):=Ac.nM fun i hi=>absurd hi (Nat.not_lt_zero _)
 refine Wo (fun f k => ∃ i:Nat,i<=l.length/\iZ (fun x=>bL x v.o v.bM) (fun i=>wP m (l.getD i 0)) i=0/\f 2 = .func (.func 121) #[] #[(pt E)]/\f 3=(pt A)/\f 8=(pt y)/\f 19 = .slice QL (l.length) (D)/\f 20=au ((l.length:Int))/\f 21=au ((i:Int))/\aL k j 29 (nW m) 59/\lQ k B m.tp m.mb m.T/\Mp k m.pb m.T.n m.T.x (xw m.T)/\Mp k m.rb m.T.n m.T.x (oQ m.R)/\fq k m.gb m.gn (fun i=>m.g i 0) (fun i=>m.g i 1) (nC m.g)/\fq k m.ab m.an m.ao m.ar xA/\aL k E 14 (dF v) 33/\aL k A 1 (fun _=>(pt j)) 25/\aL k y 1 (fun _ => .map (some d)) 54/\Fx.Own k O.heap.size 29 1 (.slice QL (l.length) (D)) l.length (pW l)/\Mp k d i (fun q=>l.getD q 0) (lY m (fun x=>bL x v.o v.bM) l)/\Below w.heap.size w k) (fun f _=>((l.length:Int)-intOf (f 21)).toNat) ⟨0,(by omega),rfl,(by rfl),(by rfl),(by rfl),(by rfl),Fx.ic,Fx.ic,wC,qU,vH,qV,rO,uq,sF,wD,vI,qR,uw,b5⟩ ?_
 rintro f1 w6 ⟨i,hi,K,h1,U,V,h4,W,G,wZ,wE,vJ,Ad,wF,uy,sG,N,aa,pX,ac,P⟩
 refine ay ?_
 by_cases WV:(i:Int)<(l.length:Int)
 ·refine Lv aG (mD WV (hx:=G) (hy:=W))<|aD<|Ws<|aQ<|Wk<|sN<|Ws<|Wb<|ay ?_
  obtain⟨MV,S⟩:=pX.addr (by omega)
  have qW:Fx.Own w6 O.heap.size 29 1 (bJ MV l.length D) l.length (pW l):=pX.qc (congrArg (fun q=>Value.slice q l.length D) S)
  refine Lv ((pf MV i)) (dz 1 (hx:=(h4.trans (congrArg (fun q=>Value.slice q (l.length) (D)) S))) (hi:=G))<|Lv (aC (l.getD i 0)) (aP qW.aK i)<|av (aC (l.getD i 0))<|aD<|Ws ?_
  obtain⟨b,hjz,WW⟩:=eF (cO.uR h.t.inv H _ (nN (show i<l.length by omega) rfl))
  have J:wP m (l.getD i 0)=m.R b:=by unfold wP dB.idx; rw[ji h.t.inv.inj hjz WW]
  refine Wl<|aZ h1<|Lv ((pt j)) (aP N.aK 0 (ha:=U))<|av ((pt j))<|av ((pf j 20))<|Lv (.map (some m.rb)) (aP wZ.aK 20)<|av (aC (l.getD i 0))<|Lv (.agg (aA 54 (rv .i64 (m.R b)))) (Fx.oD (z := .agg (aA 54 (rv .i64 (fun _=>0)))) rfl rfl rfl Ad Tryd.underlying54 Tryd.underlying29 (by kernel_rfl) hjz WW rfl)<|tL (by rfl) (Fx.tZ (args := [.agg (aA 54 (rv .i64 (m.R b)))]) rfl rfl rfl (all := #[.agg (aA 54 (rv .i64 (m.R b))),(pt E)]) rfl Tryd.func121 rfl rfl) rfl<|(Nb (m.R b) v E _ ho sG).mono ?_
  rintro e w7 ⟨u,F⟩
  refine⟨.tuple #[.agg (aA 54 (rv .i64 ((bL (m.R b) v.o v.bM).1))),au ((bL (m.R b) v.o v.bM).2)],by rw[u],?_⟩
  clear u
  have⟨zK,m64,Cb,Cc,yN,AB,xk,AJ,xq,Ae,yO,b7⟩:=GV F wZ wE vJ Ad wF uy sG N aa ac qW P
  refine av (.tuple #[.agg (aA 54 (rv .i64 ((bL (m.R b) v.o v.bM).1))),au ((bL (m.R b) v.o v.bM).2)])<|av (.agg (aA 54 (rv .i64 ((bL (m.R b) v.o v.bM).1))))<|av (au ((bL (m.R b) v.o v.bM).2))<|ni 54 (rv .i64 (fun _=>0)) fun g4 w8 DC ad s7 z5 => ?_
  have⟨zL,DV,FE,EW,Da,Af,zM,Ce,FH,Hl,Jh,b8⟩:=GV s7.old zK m64 Cb Cc yN AB xk AJ xq Ae yO b7
  have J2:=iC DC b7.size
  have⟨TV,TW,TY,T9,Z5,Z6,Uu,Z7,Uv,Uw⟩:=QI DC zK.lt Cb.lt Cc.lt yN.lt AB.lt xk.lt AJ.lt xq.lt Ae.lt yO.lt
  have JG:=ad.lt
  refine fI ad 0 fun w9 JY s8 z6 => ?_
  have EX:aL w9 g4 54 (rv .i64 ((bL (m.R b) v.o v.bM).1)) 66:=aO JY
  have mH:=iB s8 ad.ty
  have⟨Ho,Ji,Hq,J4,MW,JJ,J5,Gg,MX,J6,Pf⟩:=QH mH zL DV FE EW Da Af zM Ce FH Hl Jh
  have Q:=s8.below b8 b8.size (by omega)
  refine av (au ((bL (m.R b) v.o v.bM).2))<|aD<|Ws<|ay<|av (au ((bL (m.R b) v.o v.bM).2)) ?_
  by_cases I:((bL (m.R b) v.o v.bM).2)=0
  ·refine Lv aF (ng I)<|aD<|aN<|Wk<|sN ?_
   have hnd:l.Nodup:=by rw[H]; exact cO.tC h.t.inv C
   have hny : ∀ q,q<i->(fun q=>l.getD q 0) q≠l.getD i 0:=fun q hq e=>by have:=vW hnd (show q<l.length by omega) (show i<l.length by omega) e; omega
   refine Wl<|Lv (.map (some d)) (aP MX.aK 0 (ha:=V))<|av (aC (l.getD i 0))<|Lv (.agg (aA 54 (rv .i64 ((bL (m.R b) v.o v.bM).1)))) (jh EX.aK 0)<|Fx.L.I9 (by rfl) rfl rfl rfl rfl rfl J6 Tryd.underlying54 Tryd.underlying29 hny fun zI Ob s9 z7 => ?_
   have s:=J6.wB s9
   have Ew:=Ho.cB s
   have zk:=Ji.cB s (by omega)
   have CK:=Hq.cB s (by omega)
   have CO:=J4.cB s (by omega)
   have EA:=MW.cB s (by omega)
   have zm:=JJ.cB s (by omega)
   have zn:=J5.cB s
   have zo:=Gg.cB s
   have EC:=MX.cB s
   have JN:=Pf.cB s
   have Gl:=EX.cB s
   have b10:=s9.below Q Q.size (by omega)
   have CQ:Mp zI d (i+1) (fun q=>l.getD q 0) (lY m (fun x=>bL x v.o v.bM) l):=Bp Ob (by rw[J])
   refine Ln<|dA<|sN<|Wl<|Lv (au ((i:Int)+1)) (gV (hx:=G))<|av (au ((i:Int)+1))<|Ln ?_
   have Gm:Fx.Own zI O.heap.size 29 1 (.slice QL (l.length) (D)) l.length (pW l):=JN.qc (congrArg (fun q=>Value.slice q l.length D) S.symm)
   refine iT ⟨i+1,(by omega),(Bo K (by rw[J]; exact I)),h1,U,V,h4,(W.trans Fx.ic),Fx.ic,Ew,zk,CK,CO,EA,zm,zn,zo,EC,Gm,CQ,b10⟩ ?_
   show((l.length:Int)-intOf ((au ((i:Int)+1)))).toNat<_
   simp only[G,intOf]; omega
  refine Lv aG (qg I)<|aD<|aQ<|ay<|av (au ((bL (m.R b) v.o v.bM).2))<|av (.nilFunc)<|av (au ((bL (m.R b) v.o v.bM).2))<|aD<|Wr<|sR<|bX<|sR<|qL<|bX<|sR<|aM (.tuple #[.nilFunc,au ((bL (m.R b) v.o v.bM).2)]) ?_
  have M:bU m (fun x=>bL x v.o v.bM) l=(bL (m.R b) v.o v.bM).2:=by unfold bU; rw[tF K (by rw[J]; exact I) _ (by omega),J]
  exact⟨⟨.nilFunc,0,#[],by rw[M],rfl,fun e0=>absurd (M.symm.trans e0) (by first|decide|omega|assumption)⟩,Q⟩
 refine Lv aF (mE WV (hx:=G) (hy:=W))<|aD<|Ws<|aN<|Wx<|cZ<|iE<|dh<|sN<|ay<|Lv (.func (.func 134) #[] #[(pt y),(pt A)]) (Fx.iV (us := []) (vs := [(pt y),(pt A)]) rfl rfl (Fx.args2 V U))<|av (.func (.func 134) #[] #[(pt y),(pt A)])<|av (au 0)<|aD<|Wr<|aM (.tuple #[.func (.func 134) #[] #[(pt y),(pt A)],au 0]) ?_
 have hil:i=l.length:=by omega
 rw[hil]at ac K
 have hgm:m.rb≠d/\m.mb≠d/\m.pb≠d/\m.gb≠d/\m.ab≠d:=⟨by omega,by omega,by omega,by omega,by omega⟩
 have M:bU m (fun x=>bL x v.o v.bM) l=0:=K
 exact⟨⟨_,134,#[(pt y),(pt A)],by rw[M],rfl,fun _=>⟨rfl,⟨_,_,Tryd.func134,rfl,rfl⟩,fun w2 F=>(EB m j B w2 ((h.up P).up F) (fun x=>bL x v.o v.bM) l d hgm (cO.uR h.t.inv H) (ac.up F) _ _ (aa.eH (Sb F) (Nat.ne_of_lt aa.lt)) (N.eH (Sb F) (Nat.ne_of_lt N.lt))).mono fun _ _ X=>⟨X.1,X.2.1,X.2.2.mono fun _ hk => .inl hk⟩⟩⟩,P⟩
theorem Nk(m:dB)(j B:Nat)(w:World)(h:iR w B j m)(C:Int)(v:EvM)(g:Nat->Int)(ho:1<=v.o/\v.o<=6)(E F:Nat)(u:aL w E 14 (dF v) 33)(Z:aL w F 5 (jE g) 72) :
 Calls Tryd.prog 120 #[(pt j),aC C,.func (.func 124) #[] #[(pt E),(pt F)]] w fun e w'=>JZ w B j m (lX m (fun x=>bO x v.o (g 3)) (m.T.path C)) (bU m (fun x=>bO x v.o (g 3)) (m.T.path C)) e w':=by
 have hC:=h.c
 have hT:=h.t
 have hP:=h.p
 have hR:=h.r
 have hG:=h.g
 have hA:=h.a
 have hN:=h.ne
 have lC:=h.c.lt
 have lT:=h.t.lt
 have lP:=h.p.lt
 have lR:=h.r.lt
 have lG:=h.g.lt
 have lA:=h.a.lt
 have Ri:=u.lt
 have lgg:=Z.lt
 refine Kent Tryd.func120 44 ?_
 refine ay<|pQ ((pt j)) fun A w1 oI m1 s1 z1 => ?_
 have⟨m2,m3,m4,m5,m6,m7,m8,m9,b1⟩:=BP s1.old hC hT hP hR hG hA u Z (Below.refl w.heap.size w)
 have wY:=gK oI
 have⟨mO,qF,uL,uM,uN,Ng,adk⟩:=Fu oI hC.lt hP.lt hR.lt hG.lt hA.lt u.lt Z.lt
 have xK:=m1.lt
 refine av (.nilFunc)<|av (au 0)<|aD<|ay<|Fx.L.Dt (by rfl) rfl rfl fun d w2 wM m10 s2 z2 => ?_
 have⟨m11,m12,m13,m14,m15,m16,m17,m18,m19,b2⟩:=nL s2.old m2 m3 m4 m5 m6 m7 m8 m9 m1 b1
 have zN:=iC wM b1.size
 have⟨CF,zf,zh,vK,LA,LB,Um,Z8⟩:=Ou wM m2.lt m4.lt m5.lt m6.lt m7.lt m8.lt m9.lt m1.lt
 have Cg:=m10.lt
 refine ni 1 (fun _ => .map none) fun y w3 Bf m20 s3 z3 => ?_
 have⟨m21,m22,m23,m24,sD,rM,sQ,uX,tQ,uY,b3⟩:=yB s3.old m11 m12 m13 m14 m15 m16 m17 m18 m19 m10 b2
 have G6:=iC Bf b2.size
 have⟨Nh,Ni,Nj,Ga,Ut,CJ,Gb,MI,MJ⟩:=Ov Bf m11.lt m13.lt m14.lt m15.lt m16.lt m17.lt m18.lt m19.lt m10.lt
 have Ie:=m20.lt
 refine nk m20 0 (.map (some d)) fun P mP s4 z4 => ?_
 have m32:aL P y 1 (fun _ => .map (some d)) 54:=cu mP
 have iD:=iB s4 m20.ty
 have⟨oK,nZ,qP,qQ,vG,uo,qR,wC,qU,vH⟩:=GX iD m21 m22 m23 m24 sD rM sQ uX tQ uY
 have b4:=s4.below b3 b3.size (by omega)
 refine aD<|Ws<|ay<|Lv ((pt j)) (aP qU.aK 0)<|av ((pt j))<|av ((pf j 18))<|Lv ((pt m.tp)) (aP oK.aK 18)<|av (aC C)<|ko (FI C nZ) ?_
 rintro e9 w5 ⟨QL,D,u,qV,hb1⟩
 refine⟨_,u,?_⟩
 clear u
 have⟨rO,uq,sF,wD,Ac,vI,uw,wZ,wE,vJ,Ad,b5⟩:=GV hb1 oK nZ qP qQ vG uo qR wC qU vH m32 b4
 obtain⟨l,I⟩ : ∃ q,q=cO.path m.T C:=⟨_,rfl⟩
 rw[<- I]at qV ⊢
 have hl4:l.length<=4:=by rw[I]; exact cO.uP
 refine av (au l.length)<|av (au 0)<|aD<|Wb ?_
 have wF:Mp w5 d 0 (fun q=>l.getD q 0) (lY m (fun x=>bO x v.o (g 3)) l):=vJ.nM fun i hi=>absurd hi (Nat.not_lt_zero _)
 refine Wo (fun f k => ∃ i:Nat,i<=l.length/\iZ (fun x=>bO x v.o (g 3)) (fun i=>wP m (l.getD i 0)) i=0/\f 2 = .func (.func 124) #[] #[(pt E),(pt F)]/\f 3=(pt A)/\f 8=(pt y)/\f 19 = .slice QL (l.length) (D)/\f 20=au ((l.length:Int))/\f 21=au ((i:Int))/\aL k j 29 (nW m) 59/\lQ k B m.tp m.mb m.T/\Mp k m.pb m.T.n m.T.x (xw m.T)/\Mp k m.rb m.T.n m.T.x (oQ m.R)/\fq k m.gb m.gn (fun i=>m.g i 0) (fun i=>m.g i 1) (nC m.g)/\fq k m.ab m.an m.ao m.ar xA/\aL k E 14 (dF v) 33/\aL k F 5 (jE g) 72/\aL k A 1 (fun _=>(pt j)) 25/\aL k y 1 (fun _ => .map (some d)) 54/\Fx.Own k P.heap.size 29 1 (.slice QL (l.length) (D)) l.length (pW l)/\Mp k d i (fun q=>l.getD q 0) (lY m (fun x=>bO x v.o (g 3)) l)/\Below w.heap.size w k) (fun f _=>((l.length:Int)-intOf (f 21)).toNat) ⟨0,(by omega),rfl,(by rfl),(by rfl),(by rfl),(by rfl),Fx.ic,Fx.ic,rO,uq,sF,wD,Ac,vI,uw,wZ,wE,Ad,qV,wF,b5⟩ ?_
 rintro f1 w6 ⟨i,hi,M,h1,V,W,h4,X,H,uy,sG,uZ,zJ,pX,xg,qW,zK,O,Cb,Cc,yN,Q⟩
 refine ay ?_
 by_cases WV:(i:Int)<(l.length:Int)
 ·refine Lv aG (mD WV (hx:=H) (hy:=X))<|aD<|Ws<|aQ<|Wk<|sN<|Ws<|Wb<|ay ?_
  obtain⟨MV,U⟩:=Cc.addr (by omega)
  have AB:Fx.Own w6 P.heap.size 29 1 (bJ MV l.length D) l.length (pW l):=Cc.qc (congrArg (fun q=>Value.slice q l.length D) U)
  refine Lv ((pf MV i)) (dz 1 (hx:=(h4.trans (congrArg (fun q=>Value.slice q (l.length) (D)) U))) (hi:=H))<|Lv (aC (l.getD i 0)) (aP AB.aK i)<|av (aC (l.getD i 0))<|aD<|Ws ?_
  obtain⟨b,hjz,WW⟩:=eF (cO.uR h.t.inv I _ (nN (show i<l.length by omega) rfl))
  have K:wP m (l.getD i 0)=m.R b:=by unfold wP dB.idx; rw[ji h.t.inv.inj hjz WW]
  refine Wl<|aZ h1<|Lv ((pt j)) (aP O.aK 0 (ha:=V))<|av ((pt j))<|av ((pf j 20))<|Lv (.map (some m.rb)) (aP uy.aK 20)<|av (aC (l.getD i 0))<|Lv (.agg (aA 54 (rv .i64 (m.R b)))) (Fx.oD (z := .agg (aA 54 (rv .i64 (fun _=>0)))) rfl rfl rfl zJ Tryd.underlying54 Tryd.underlying29 (by kernel_rfl) hjz WW rfl)<|tL (by rfl) (Fx.tZ (args := [.agg (aA 54 (rv .i64 (m.R b)))]) rfl rfl rfl (all := #[.agg (aA 54 (rv .i64 (m.R b))),(pt E),(pt F)]) rfl Tryd.func124 rfl rfl) rfl<|(Nc (m.R b) v g E F _ ho qW zK).mono ?_
  rintro e w7 ⟨u,G⟩
  refine⟨.tuple #[.agg (aA 54 (rv .i64 ((bO (m.R b) v.o (g 3)).1))),au ((bO (m.R b) v.o (g 3)).2)],by rw[u],?_⟩
  clear u
  have⟨xk,AJ,xq,Ae,yO,FD,zL,DV,FE,EW,Da,Af,b7⟩:=QG G uy sG uZ zJ pX xg qW zK O Cb yN AB Q
  refine av (.tuple #[.agg (aA 54 (rv .i64 ((bO (m.R b) v.o (g 3)).1))),au ((bO (m.R b) v.o (g 3)).2)])<|av (.agg (aA 54 (rv .i64 ((bO (m.R b) v.o (g 3)).1))))<|av (au ((bO (m.R b) v.o (g 3)).2))<|ni 54 (rv .i64 (fun _=>0)) fun g4 w8 DC zM s7 z5 => ?_
  have⟨Ce,FH,Hl,Jh,JY,EX,Ho,Ji,Hq,J4,MW,JJ,b8⟩:=QG s7.old xk AJ xq Ae yO FD zL DV FE EW Da Af b7
  have J2:=iC DC b7.size
  have⟨Uu,Uv,Uw,Z9,aac,aad,aae,aaf,aag,aah,aai⟩:=Vs DC xk.lt xq.lt Ae.lt yO.lt FD.lt zL.lt DV.lt FE.lt EW.lt Da.lt Af.lt
  have JG:=zM.lt
  refine fI zM 0 fun w9 J5 s8 z6 => ?_
  have Gg:aL w9 g4 54 (rv .i64 ((bO (m.R b) v.o (g 3)).1)) 66:=aO J5
  have mH:=iB s8 zM.ty
  have⟨MX,J6,Pf,Ob,Ew,zk,CK,CO,EA,zm,zn,zo⟩:=Vr mH Ce FH Hl Jh JY EX Ho Ji Hq J4 MW JJ
  have S:=s8.below b8 b8.size (by omega)
  refine av (au ((bO (m.R b) v.o (g 3)).2))<|aD<|Ws<|ay<|av (au ((bO (m.R b) v.o (g 3)).2)) ?_
  by_cases J:((bO (m.R b) v.o (g 3)).2)=0
  ·refine Lv aF (ng J)<|aD<|aN<|Wk<|sN ?_
   have hnd:l.Nodup:=by rw[I]; exact cO.tC h.t.inv C
   have hny : ∀ q,q<i->(fun q=>l.getD q 0) q≠l.getD i 0:=fun q hq e=>by have:=vW hnd (show q<l.length by omega) (show i<l.length by omega) e; omega
   refine Wl<|Lv (.map (some d)) (aP zm.aK 0 (ha:=W))<|av (aC (l.getD i 0))<|Lv (.agg (aA 54 (rv .i64 ((bO (m.R b) v.o (g 3)).1)))) (jh Gg.aK 0)<|Fx.L.I9 (by rfl) rfl rfl rfl rfl rfl zn Tryd.underlying54 Tryd.underlying29 hny fun zI EC s9 z7 => ?_
   have s:=zn.wB s9
   have JN:=MX.cB s
   have Gl:=J6.cB s (by omega)
   have CQ:=Pf.cB s (by omega)
   have Gm:=Ob.cB s (by omega)
   have Pj:=Ew.cB s (by omega)
   have Pk:=zk.cB s (by omega)
   have Pm:=CK.cB s
   have WT:=CO.cB s
   have M6:=EA.cB s
   have M7:=zm.cB s
   have CS:=zo.cB s
   have M8:=Gg.cB s
   have b10:=s9.below S S.size (by omega)
   have M9:Mp zI d (i+1) (fun q=>l.getD q 0) (lY m (fun x=>bO x v.o (g 3)) l):=Bp EC (by rw[K])
   refine Ln<|dA<|sN<|Wl<|Lv (au ((i:Int)+1)) (gV (hx:=H))<|av (au ((i:Int)+1))<|Ln ?_
   have Nl:Fx.Own zI P.heap.size 29 1 (.slice QL (l.length) (D)) l.length (pW l):=CS.qc (congrArg (fun q=>Value.slice q l.length D) U.symm)
   refine iT ⟨i+1,(by omega),(Bo M (by rw[K]; exact J)),h1,V,W,h4,(X.trans Fx.ic),Fx.ic,JN,Gl,CQ,Gm,Pj,Pk,Pm,WT,M6,M7,Nl,M9,b10⟩ ?_
   show((l.length:Int)-intOf ((au ((i:Int)+1)))).toNat<_
   simp only[H,intOf]; omega
  refine Lv aG (qg J)<|aD<|aQ<|ay<|av (au ((bO (m.R b) v.o (g 3)).2))<|av (.nilFunc)<|av (au ((bO (m.R b) v.o (g 3)).2))<|aD<|Wr<|sR<|bX<|sR<|qL<|bX<|sR<|aM (.tuple #[.nilFunc,au ((bO (m.R b) v.o (g 3)).2)]) ?_
  have N:bU m (fun x=>bO x v.o (g 3)) l=(bO (m.R b) v.o (g 3)).2:=by unfold bU; rw[tF M (by rw[K]; exact J) _ (by omega),K]
  exact⟨⟨.nilFunc,0,#[],by rw[N],rfl,fun e0=>absurd (N.symm.trans e0) (by first|decide|omega|assumption)⟩,S⟩
 refine Lv aF (mE WV (hx:=H) (hy:=X))<|aD<|Ws<|aN<|Wx<|cZ<|iE<|dh<|sN<|ay<|Lv (.func (.func 134) #[] #[(pt y),(pt A)]) (Fx.iV (us := []) (vs := [(pt y),(pt A)]) rfl rfl (Fx.args2 W V))<|av (.func (.func 134) #[] #[(pt y),(pt A)])<|av (au 0)<|aD<|Wr<|aM (.tuple #[.func (.func 134) #[] #[(pt y),(pt A)],au 0]) ?_
 have hil:i=l.length:=by omega
 rw[hil]at yN M
 have hgm:m.rb≠d/\m.mb≠d/\m.pb≠d/\m.gb≠d/\m.ab≠d:=⟨by omega,by omega,by omega,by omega,by omega⟩
 have N:bU m (fun x=>bO x v.o (g 3)) l=0:=M
 exact⟨⟨_,134,#[(pt y),(pt A)],by rw[N],rfl,fun _=>⟨rfl,⟨_,_,Tryd.func134,rfl,rfl⟩,fun w2 G=>(EB m j B w2 ((h.up Q).up G) (fun x=>bO x v.o (g 3)) l d hgm (cO.uR h.t.inv I) (yN.up G) _ _ (Cb.eH (Sb G) (Nat.ne_of_lt Cb.lt)) (O.eH (Sb G) (Nat.ne_of_lt O.lt))).mono fun _ _ Y=>⟨Y.1,Y.2.1,Y.2.2.mono fun _ hk => .inl hk⟩⟩⟩,Q⟩
section
set_option maxRecDepth 20000
set_option linter.unusedVariables false
namespace Rt
def Aj(k1 k2:Nat->Int):Nat->Int->Int->Bool
 | 0,_,_=>false
 | n+1,a,b=>(decide (k1 n=a)&&decide (k2 n=b)) || Aj k1 k2 n a b
def Po(k1 k2:Nat->Int):Nat->Int->Int->Nat
 | 0,_,_=>0
 | n+1,a,b=>if k1 n=a/\k2 n=b then n else Po k1 k2 n a b
section
variable {k1 k2:Nat->Int} {a b:Int}
theorem lZ : ∀ {n:Nat},Aj k1 k2 n a b=true <-> ∃ j,j<n/\k1 j=a/\k2 j=b
 | 0=>⟨fun h=>(nomatch h),fun⟨j,h,_⟩=>absurd h (Nat.not_lt_zero _)⟩
 | n+1=>by
   unfold Aj
   rw[Bool.or_eq_true,Bool.and_eq_true,decide_eq_true_iff,decide_eq_true_iff,lZ]
   constructor
   ·rintro (⟨f,c⟩|⟨j,f,c,d⟩)
    ·exact⟨n,by omega,f,c⟩
    ·exact⟨j,by omega,c,d⟩
   ·rintro ⟨j,f,c,d⟩
    by_cases e:j=n
    ·subst e; exact .inl ⟨c,d⟩
    ·exact .inr ⟨j,by omega,c,d⟩
theorem uS{n j:Nat}(e:j<n)(c:k1 j=a)(d:k2 j=b):Aj k1 k2 n a b=true:=lZ.2 ⟨j,e,c,d⟩
theorem mW{n:Nat}(h : ∀ i,i<n -> ¬ (k1 i=a/\k2 i=b)):Aj k1 k2 n a b=false:=by
 cases e:Aj k1 k2 n a b with
 | false=>rfl
 | true=>obtain⟨j,f,c,d⟩:=lZ.1 e; exact absurd ⟨c,d⟩ (h j f)
theorem uT{j:Nat} : ∀ {n:Nat},(∀ p q,p<n->q<n->k1 p=k1 q->k2 p=k2 q->p=q)->j<n->k1 j=a->k2 j=b->Po k1 k2 n a b=j
 | 0,_,h,_,_=>absurd h (Nat.not_lt_zero _)
 | n+1,hi,hj,e1,e2=>by
   unfold Po
   by_cases c:k1 n=a/\k2 n=b
   ·rw[if_pos c]; exact hi n j (by omega) hj (c.1.trans e1.symm) (c.2.trans e2.symm)
   ·rw[if_neg c]
    refine uT (fun p q d f=>hi p q (by omega) (by omega)) ?_ e1 e2
    by_cases e:j=n
    ·subst e; exact absurd ⟨e1,e2⟩ c
    ·omega
end
theorem xY{v:EvM}(h:bZ v=true)(a:jQ v):Fx.wV v.o v.req/\Fx.wV v.o v.of:=by
 have d:=lW h
 have b:=a.req
 have c:=a.of
 unfold je at b c
 exact⟨⟨by omega,by omega⟩,⟨by omega,by omega⟩⟩
theorem Pp{w:World}{b k n:Nat}{g:Nat->Nat->Int}{o r:Int}{y:Nat->Value}(h:fq w b k (aI (fun i=>g i 0) n o) (aI (fun i=>g i 1) n r) (aI (nC g) n (.agg (aA 5 y))))(x:Nat->Int)(e0:x 0=o)(a:x 1=r)(d : ∀ j,j<5->y j=jE x j) :
 fq w b k (fun i=>aI g n x i 0) (fun i=>aI g n x i 1) (nC (aI g n x)):=h.nM fun i _=>by
 unfold aI nC
 by_cases c:i=n
 ·subst c
  refine⟨?_,?_,?_⟩
  ·show(if i=i then o else g i 0)=(if i=i then x else g i) 0
   rw[if_pos rfl,if_pos rfl,e0]
  ·show(if i=i then r else g i 1)=(if i=i then x else g i) 1
   rw[if_pos rfl,if_pos rfl,a]
  ·show(if i=i then Value.agg (aA 5 y)else _)=Value.agg (aA 5 (jE (if i=i then x else g i)))
   rw[if_pos rfl,if_pos rfl,Fx.fE d]
 ·refine⟨?_,?_,?_⟩
  ·show(if i=n then o else g i 0)=(if i=n then x else g i) 0
   rw[if_neg c,if_neg c]
  ·show(if i=n then r else g i 1)=(if i=n then x else g i) 1
   rw[if_neg c,if_neg c]
  ·show(if i=n then Value.agg (aA 5 y)else Value.agg (aA 5 (jE (g i))))=Value.agg (aA 5 (jE (if i=n then x else g i)))
   rw[if_neg c,if_neg c]
theorem Pq{w:World}{b n j:Nat}{g:Nat->Nat->Int}{x:Nat->Int}(h:fq w b n (fun i=>g i 0) (fun i=>g i 1) (aI (nC g) j (.agg (aA 5 (jE x)))))(e0:x 0=g j 0)(a:x 1=g j 1) :
 fq w b n (fun i=>aI g j x i 0) (fun i=>aI g j x i 1) (nC (aI g j x)):=h.nM fun i _=>by
 unfold aI nC
 show g i 0=(if i=j then x else g i) 0/\g i 1=(if i=j then x else g i) 1/\_=Value.agg (aA 5 (jE (if i=j then x else g i)))
 by_cases c:i=j
 ·subst c; rw[if_pos rfl,if_pos rfl]; exact⟨e0.symm,a.symm,rfl⟩
 ·rw[if_neg c,if_neg c]; exact⟨rfl,rfl,rfl⟩
theorem Iq{w:World}{b k n:Nat}{o r:Nat->Int}{x y:Int}(h:fq w b k (aI o n x) (aI r n y) (aI xA n (.bool true))):fq w b k (aI o n x) (aI r n y) xA:=h.nM fun i _=>⟨rfl,rfl,by unfold aI xA; split <;> rfl⟩
theorem WX(x:Nat->Int)(r:Int):fH (jE x) 4 (aC r)=jE (upd x 4 r):=by
 funext p
 unfold fH
 by_cases c:p=4
 ·subst c; rw[if_pos rfl]; rfl
 rw[if_neg c]; unfold jE upd
 by_cases a:p=0
 ·rw[if_pos a,if_pos a]; rfl
 rw[if_neg a,if_neg a]
 by_cases b:p=3
 ·rw[if_pos b,if_pos b]; rfl
 rw[if_neg b,if_neg b,if_neg c]
def zP(a b:Int):Nat->Value:=fun p=>if p=0 then au a else aC b
def Nn(m:dB)(a:Nat->Nat->Int)(v:EvM):dB := { m with R:=a,an:=m.an+1,ao:=aI m.ao m.an v.o,ar:=aI m.ar m.an v.req,gn:=m.gn+1,g:=aI m.g m.gn (vM v) }
def Ir(m:dB)(a:Nat->Nat->Int)(v:EvM)(j:Nat):dB := { m with R:=a,an:=m.an+1,ao:=aI m.ao m.an v.o,ar:=aI m.ar m.an v.req,g:=aI m.g j (upd (m.g j) 4 v.req) }
structure Bw(w0 w:World):Prop where
 b:Below w0.heap.size w0 w
theorem Bw.up{a w w':World}(h:Bw a w)(c:Below w.heap.size w w'):Bw a w':=⟨Di h.b c⟩
instance {a w w':World}:Rt.Tr w w' (Bw a w) (Bw a w'):=⟨fun b h=>h.up b⟩
end Rt
theorem Ux{y:Nat->Value}{a b:Int}(c:y 0=au a)(h1:y 1=aC b){w:World}{g:Nat}(h:aL w g 2 y 70):aL w g 2 (zP a b) 70:=h.congr fun j d=>by
 rcases(show j=0\/j=1 by omega)with rfl|rfl
 ·exact c
 ·exact h1
structure LtT(gl gq ge b:Nat):Prop where
 gl:gl<b
 gq:gq<b
 ge:ge<b
structure LtF(gl gq ge gg go b:Nat):Prop where
 gl:gl<b
 gq:gq<b
 ge:ge<b
 gg:gg<b
 go:go<b
theorem Np(m:dB)(l B:Nat)(w:World)(h:iR w B l m)(v:EvM)(hv:bZ v=true)(hwf:jQ v)(I:Nat->Nat->Int)(D J G:Nat)(Uy:J<=D)(cap:Array Value)(U:Mq w B l m { m with R:=I } D (.func (.func G) #[] cap) G cap)(S:Nat)(K:Nat)(M:Nat)(A:Nat)(Y:aL w S 1 (fun _ => .func (.func G) #[] cap) 89)(hl:aL w K 1 (fun _=>(pt l)) 25)(hq:aL w M 2 (zP v.o v.req) 70)(E:aL w A 14 (dF v) 33)(N:LtT K M A D)(hnz : ∀ i,i<m.an -> ¬ (m.ao i=v.o/\m.ar i=v.req))(hny : ∀ i,i<m.gn -> ¬ ((fun i=>m.g i 0) i=v.o/\(fun i=>m.g i 1) i=v.req)) :
 Calls Tryd.prog 123 #[(pt S),(pt K),(pt M),(pt A)] w fun e w'=>e = .returned (.tuple #[])/\iR w' B l (Nn m I v)/\iW (JD m l J) w w':=by
 have hC:=h.c
 have hT:=h.t
 have hP:=h.p
 have hR:=h.r
 have hG:=h.g
 have hA:=h.a
 have d:=h.ne
 have lC:=h.c.lt
 have lT:=h.t.lt
 have lP:=h.p.lt
 have lR:=h.r.lt
 have lG:=h.g.lt
 have lA:=h.a.lt
 have lgd:=Y.lt
 have QK:=hl.lt
 have lgq:=hq.lt
 have Ri:=E.lt
 have Z:=xY hv hwf
 refine Kent Tryd.func123 25 ?_
 refine ay<|Lv (.func (.func G) #[] cap) (aP Y.aK 0)<|tL (by rfl) (Fx.H9 (args := []) rfl rfl rfl (by simp) U.f) rfl<|(U.s _ (Below.refl _ _)).mono ?_
 rintro e9 z ⟨E,C,H⟩
 refine⟨_,E,?_⟩
 clear E
 have V:=H.mono (S':=JD m l J) fun k hk=>hk.imp id (Nat.le_trans Uy)
 have m1:aL z l 29 (nW m) 59:=C.c
 have lm1:=m1.lt
 have m2:lQ z B m.tp m.mb m.T:=C.t
 have lm2:=m2.lt
 have m3:Mp z m.pb m.T.n m.T.x (xw m.T):=C.p
 have lm3:=m3.lt
 have m4:Mp z m.rb m.T.n m.T.x (oQ (I)):=C.r
 have lm4:=m4.lt
 have m5:fq z m.gb m.gn (fun i=>m.g i 0) (fun i=>m.g i 1) (nC m.g):=C.g
 have lm5:=m5.lt
 have m6:fq z m.ab m.an m.ao m.ar xA:=C.a
 have lm6:=m6.lt
 have m7:=h.Cw hl (by decide) H N.gl
 have lm7:=m7.lt
 have m8:=h.Cw hq (by decide) H N.gq
 have lm8:=m8.lt
 have m9:=h.Cw E (by decide) H N.ge
 have lm9:=m9.lt
 refine aD<|Ws ?_
 -- region 1 draws
 refine jP [0,1,2,3,4,5] [4,0,0,4,4,3] [(5,0,[0]),(5,3,[3]),(5,4,[4])] fun rZ W iF => ?_
 have s1:Stp z.heap.size z rZ:=Sb W
 have⟨m10,m11,m12,m13,m14,m15,m16,m17,m18⟩:=BP W m1 m2 m3 m4 m5 m6 m7 m8 m9
 have D:=V.then s1 (.inr V.size)
 refine Rs ((pt l)) (aP m16.aK 0) ?_
 refine aW ((pt l))<|aW ((pf l 28))<|Rs (.map (some m.ab)) (aP m10.aK 28) ?_
 refine Rs (.agg (aA 2 (zP v.o v.req))) (jh m17.aK 0) ?_
 refine gG<|Fx.L.KD (by rfl) rfl rfl rfl ((show ev _ _ = .agg (aA 2 (zP v.o v.req))from rfl).trans (Fx.rY (y:=zP v.o v.req) (a:=v.o) (b:=v.req) rfl rfl)) Z.1 rfl m15 Tryd.underlying56 Ah hnz fun O m19 s2 z1 => ?_
 have q:=m15.wB s2
 have m20:=m10.cB q
 have m21:=m11.cB q (d.ma)
 have m22:=m12.cB q (d.pa)
 have m23:=m13.cB q (d.ra)
 have m24:=m14.cB q (d.ga)
 have sD:=m16.cB q
 have rM:=m17.cB q
 have sQ:=m18.cB q
 have Q:=D.then s2 (.inl (.inl (.inr (.inr (.inr (.inr (.inr rfl)))))))
 have uX:fq O m.ab (m.an+1) (aI m.ao m.an v.o) (aI m.ar m.an v.req) xA:=Iq m19
 refine Ln<|bG ?_
 -- region 2 draws
 refine jP [5,7,9,11,0,1,2,3,4,6,8,10,12,13,14] [4,0,0,4,4,0,4,0,4,0,4,0,4,0,3] [(14,0,[0]),(14,3,[3]),(14,4,[4]),(14,6,[6]),(14,8,[8]),(14,10,[10]),(14,12,[12])] fun C9 X nO => ?_
 have s3:Stp O.heap.size O C9:=Sb X
 have⟨tQ,uY,mP,m32,oK,nZ,qP,F,vG⟩:=BP X m20 m21 m22 m23 m24 sD rM sQ uX
 have b3:=Q.then s3 (.inr Q.size)
 refine aW ((pt A))<|aW ((pf A 12))<|aW ((pf A 9))<|aW ((pf A 11))<|Rs ((pt l)) (aP nZ.aK 0) ?_
 refine aW ((pt l))<|aW ((pf l 27))<|Rs (.map (some m.gb)) (aP tQ.aK 27) ?_
 refine Rs (.agg (aA 2 (zP v.o v.req))) (jh qP.aK 0) ?_
 refine Rs (au v.o) (aP F.aK 0) ?_
 refine Rs (aC v.req) (aP F.aK 12) ?_
 refine Rs (aC v.node) (aP F.aK 9) ?_
 refine Rs (au v.bM) (aP F.aK 11) ?_
 refine aW (.agg (aA 5 (bE (bE (bE (bE (fun P=>if P<1 then au 0 else if P<3 then aC 0 else if P<4 then au 0 else aC 0) 0 1 (fun _=>au v.o)) 1 1 (fun _=>aC v.req)) 2 1 (fun _=>aC v.node)) 3 1 (fun _=>au v.bM))))<|gG<|Fx.L.KD (by rfl) rfl rfl rfl ((show ev _ _ = .agg (aA 2 (zP v.o v.req))from rfl).trans (Fx.rY (y:=zP v.o v.req) (a:=v.o) (b:=v.req) rfl rfl)) Z.1 rfl oK Tryd.underlying55 Ah hny fun w3 uo s4 z2 => ?_
 have u:=oK.wB s4
 have qR:=tQ.cB u
 have wC:=uY.cB u (d.mg)
 have qU:=mP.cB u (d.pg)
 have vH:=m32.cB u (d.rg)
 have qV:=nZ.cB u
 have rO:=qP.cB u
 have uq:=F.cB u
 have sF:=vG.cB u ((Ne.symm d.ga))
 have b4:=b3.then s4 (.inl (.inl (.inr (.inr (.inr (.inr (.inl rfl)))))))
 have wD:fq w3 m.gb (m.gn+1) (fun i=>aI m.g m.gn (vM v) i 0) (fun i=>aI m.g m.gn (vM v) i 1) (nC (aI m.g m.gn (vM v))):=Pp uo (vM v) rfl rfl (by intro j hj; rcases(show j=0\/j=1\/j=2\/j=3\/j=4 by omega)with rfl|rfl|rfl|rfl|rfl <;> rfl)
 refine Ln (Rn (⟨.tuple #[],fM Tryd.results123,?_⟩))
 unfold Nn
 exact⟨rfl,{ c:=qR,t:=wC,p:=qU,r:=vH,g:=wD,a:=sF,ne:=⟨d.mp,d.mr,d.mg,d.ma,d.pr,d.pg,d.pa,d.rg,d.ra,d.ga⟩,lB:=h.lB,pB:=h.pB,rB:=h.rB,gB:=h.gB,aB:=h.aB },b4⟩
theorem Nq(m:dB)(l B:Nat)(w:World)(h:iR w B l m)(v:EvM)(hv:bZ v=true)(hwf:jQ v)(K:Nat->Nat->Int)(E H I:Nat)(Uy:H<=E)(cap:Array Value)(S:Mq w B l m { m with R:=K } E (.func (.func I) #[] cap) I cap)(j:Nat)(Q:Nat)(M:Nat)(N:Nat)(J:Nat)(A:Nat)(go:Nat)(X:aL w Q 1 (fun _ => .func (.func I) #[] cap) 89)(hl:aL w M 1 (fun _=>(pt l)) 25)(hq:aL w N 2 (zP v.o v.req) 70)(F:aL w J 14 (dF v) 33)(Y:aL w A 5 (jE (m.g j)) 72)(hof:aL w go 2 (zP v.o v.of) 70)(hgg:H<=A)(G:LtF M N J A go E)(hnz : ∀ i,i<m.an -> ¬ (m.ao i=v.o/\m.ar i=v.req))(Z:j<m.gn)(ejy:(fun i=>m.g i 0) j=v.o)(fjy:(fun i=>m.g i 1) j=v.of) :
 Calls Tryd.prog 126 #[(pt Q),(pt M),(pt N),(pt J),(pt A),(pt go)] w fun e w'=>e = .returned (.tuple #[])/\iR w' B l (Ir m K v j)/\iW (JD m l H) w w':=by
 have hC:=h.c
 have hT:=h.t
 have hP:=h.p
 have hR:=h.r
 have hG:=h.g
 have hA:=h.a
 have d:=h.ne
 have lC:=h.c.lt
 have lT:=h.t.lt
 have lP:=h.p.lt
 have lR:=h.r.lt
 have lG:=h.g.lt
 have lA:=h.a.lt
 have lgd:=X.lt
 have QK:=hl.lt
 have lgq:=hq.lt
 have Ri:=F.lt
 have lgg:=Y.lt
 have lgo:=hof.lt
 have aa:=xY hv hwf
 have agH:=Z
 refine Kent Tryd.func126 22 ?_
 refine ay<|Lv (.func (.func I) #[] cap) (aP X.aK 0)<|tL (by rfl) (Fx.H9 (args := []) rfl rfl rfl (by simp) S.f) rfl<|(S.s _ (Below.refl _ _)).mono ?_
 rintro e9 z ⟨F,D,C⟩
 refine⟨_,F,?_⟩
 clear F
 have U:=C.mono (S':=JD m l H) fun k hk=>hk.imp id (Nat.le_trans Uy)
 have m1:aL z l 29 (nW m) 59:=D.c
 have lm1:=m1.lt
 have m2:lQ z B m.tp m.mb m.T:=D.t
 have lm2:=m2.lt
 have m3:Mp z m.pb m.T.n m.T.x (xw m.T):=D.p
 have lm3:=m3.lt
 have m4:Mp z m.rb m.T.n m.T.x (oQ (K)):=D.r
 have lm4:=m4.lt
 have m5:fq z m.gb m.gn (fun i=>m.g i 0) (fun i=>m.g i 1) (nC m.g):=D.g
 have lm5:=m5.lt
 have m6:fq z m.ab m.an m.ao m.ar xA:=D.a
 have lm6:=m6.lt
 have m7:=h.Cw hl (by decide) C G.gl
 have lm7:=m7.lt
 have m8:=h.Cw hq (by decide) C G.gq
 have lm8:=m8.lt
 have m9:=h.Cw F (by decide) C G.ge
 have lm9:=m9.lt
 have m10:=h.Cw Y (by decide) C G.gg
 have agI:=m10.lt
 have m11:=h.Cw hof (by decide) C G.go
 have agJ:=m11.lt
 refine aD<|Ws ?_
 -- region 1 draws
 refine jP [0,1,2,3,4,5] [4,0,0,4,4,3] [(5,0,[0]),(5,3,[3]),(5,4,[4])] fun rZ V iF => ?_
 have s1:Stp z.heap.size z rZ:=Sb V
 have⟨m12,m13,m14,m15,m16,m17,m18,m19,m20,m21,m22⟩:=yB V m1 m2 m3 m4 m5 m6 m7 m8 m9 m10 m11
 have E:=U.then s1 (.inr U.size)
 refine Rs ((pt l)) (aP m18.aK 0) ?_
 refine aW ((pt l))<|aW ((pf l 28))<|Rs (.map (some m.ab)) (aP m12.aK 28) ?_
 refine Rs (.agg (aA 2 (zP v.o v.req))) (jh m19.aK 0) ?_
 refine gG<|Fx.L.KD (by rfl) rfl rfl rfl ((show ev _ _ = .agg (aA 2 (zP v.o v.req))from rfl).trans (Fx.rY (y:=zP v.o v.req) (a:=v.o) (b:=v.req) rfl rfl)) aa.1 rfl m17 Tryd.underlying56 Ah hnz fun w2 m23 s2 z1 => ?_
 have q:=m17.wB s2
 have m24:=m12.cB q
 have sD:=m13.cB q (d.ma)
 have rM:=m14.cB q (d.pa)
 have sQ:=m15.cB q (d.ra)
 have uX:=m16.cB q (d.ga)
 have tQ:=m18.cB q
 have uY:=m19.cB q
 have mP:=m20.cB q
 have m32:=m21.cB q
 have oK:=m22.cB q
 have b2:=E.then s2 (.inl (.inl (.inr (.inr (.inr (.inr (.inr rfl)))))))
 have nZ:fq w2 m.ab (m.an+1) (aI m.ao m.an v.o) (aI m.ar m.an v.req) xA:=Iq m23
 refine Ln<|bG<|ay<|av ((pf J 12))<|Lv (aC v.req) (aP mP.aK 12)<|av ((pf A 4))<|nk m32 4 (aC v.req) fun O qP s3 z2 => ?_
 have qQ:aL O A 5 (jE (upd (m.g j) 4 v.req)) 72:=qP.to (WX _ _)
 have iD:=iB s3 m32.ty
 have⟨vG,uo,qR,wC,qU,vH,qV,rO,uq,sF⟩:=GX iD m24 sD rM sQ uX tQ uY mP oK nZ
 have P:=b2.then s3 (.inl (.inr hgg))
 refine aD ?_
 -- region 3 draws
 refine jP [0,1,2,3,4,5,6] [4,0,0,4,4,4,3] [(6,0,[0]),(6,3,[3]),(6,4,[4]),(6,5,[5])] fun C9 W nO => ?_
 have s4:Stp O.heap.size O C9:=Sb W
 have⟨wD,Ac,vI,uw,wZ,wE,vJ,Ad,wF,uy,sG⟩:=yB W vG uo qR wC qU vH qV rO uq sF qQ
 have b4:=P.then s4 (.inr P.size)
 refine Rs ((pt l)) (aP wE.aK 0) ?_
 refine aW ((pt l))<|aW ((pf l 27))<|Rs (.map (some m.gb)) (aP wD.aK 27) ?_
 refine Rs (.agg (aA 2 (zP v.o v.of))) (jh wF.aK 0) ?_
 refine Rs (.agg (aA 5 (jE (upd (m.g j) 4 v.req)))) (jh sG.aK 0) ?_
 refine gG<|Fx.L.Vt (by rfl) rfl rfl rfl ((show ev _ _ = .agg (aA 2 (zP v.o v.of))from rfl).trans (Fx.rY (y:=zP v.o v.of) (a:=v.o) (b:=v.of) rfl rfl)) aa.2 rfl wZ Tryd.underlying55 Ah Z ejy fjy fun w4 uZ s5 z3 => ?_
 have u:=wZ.wB s5
 have zJ:=wD.cB u
 have pX:=Ac.cB u (d.mg)
 have xg:=vI.cB u (d.pg)
 have qW:=uw.cB u (d.rg)
 have zK:=wE.cB u
 have m64:=vJ.cB u
 have Cb:=Ad.cB u
 have Cc:=wF.cB u
 have yN:=uy.cB u ((Ne.symm d.ga))
 have AB:=sG.cB u
 have b5:=b4.then s5 (.inl (.inl (.inr (.inr (.inr (.inr (.inl rfl)))))))
 have xk:fq w4 m.gb m.gn (fun i=>aI m.g j (upd (m.g j) 4 v.req) i 0) (fun i=>aI m.g j (upd (m.g j) 4 v.req) i 1) (nC (aI m.g j (upd (m.g j) 4 v.req))):=Pq uZ rfl rfl
 refine Ln (Rn (⟨.tuple #[],fM Tryd.results126,?_⟩))
 unfold Ir
 exact⟨rfl,{ c:=zJ,t:=pX,p:=xg,r:=qW,g:=xk,a:=yN,ne:=⟨d.mp,d.mr,d.mg,d.ma,d.pr,d.pg,d.pa,d.rg,d.ra,d.ga⟩,lB:=h.lB,pB:=h.pB,rB:=h.rB,gB:=h.gB,aB:=h.aB },b5⟩
end
end Go.Proofs.YtcbedgfikejkoaaDoor
