/-
  What the proof of the law rests on, part 4: walks of functions, and plain laws; each says its conditions itself.
-/
import Derived.Test.YtcbedgfikejkoaaDoorRows
import Derived.OrdersIn
import Derived.Test.YtcbedgfikejkoaaDoorZB3
set_option maxHeartbeats 1600000
set_option linter.unusedVariables false
set_option linter.unusedSimpArgs false
namespace Go.Proofs.YtcbedgfikejkoaaDoor
open Go.RowKit Rt
open Fx (eU dJ fu bf fq eZ dS dM fA gQ dH gT eP gD gU Lv sN Ln Ws Qv Wl Rp Wc Qs Wr Sb Lk Wk rC rV sR Rs Rn Rd Rk Wb Wx Wo yT Wt pE Qn AX uo xL yB xJ AZ AY gG yR jM nT tC A8 yA yP xQ yQ rv aA aL bC aI ev bT Stp bU aM flat fH Mp dL aV fC gI aX down fM iU ji jv bG bA cells_one jO aY nE unseen jk iT cu bW cB bY bZ iB iG qP gV)
theorem qg{ks:List (Option IntKind)}{x y:Nat->Value}(h:Fx.Kd ks y)(e : ∀ j,j<ks.length->x j=y j):Fx.Kd ks x:=fun i a=>by rw[e i a]; exact h i a
namespace Rt
theorem Fj{v:EvM}(h:jR v):jR (NG v):=by
 have z:gN 0:=⟨by decide,by decide⟩
 have y:nV 0:=⟨by decide,by decide⟩
 exact⟨h.o,h.seq,h.deps,h.kind,z,y,y,z,z⟩
theorem Fp{v:EvM}(h:jR v):jR (lN v):=by
 have z:gN 0:=⟨by decide,by decide⟩
 have y:nV 0:=⟨by decide,by decide⟩
 unfold lN
 split
 ·exact⟨h.o,h.seq,h.deps,h.kind,z,h.dst,y,h.req,h.of⟩
 split
 ·exact⟨h.o,h.seq,h.deps,h.kind,z,h.dst,y,h.req,h.of⟩
 split
 ·exact⟨h.o,h.seq,h.deps,h.kind,z,h.dst,y,z,h.of⟩
 split
 ·exact⟨h.o,h.seq,h.deps,h.kind,h.node,h.dst,h.bH,z,z⟩
 split
 ·exact⟨h.o,h.seq,h.deps,h.kind,z,y,y,h.req,h.of⟩
 split
 ·exact⟨h.o,h.seq,h.deps,h.kind,h.node,y,h.bH,h.req,h.of⟩
 exact h
end Rt
set_option maxHeartbeats 2000000 in
theorem Co(v:EvM)(w:World)(G:jR v) :
 Calls Tryd.prog 41 #[.agg (aA 14 (dz v))] w fun e w'=>e = .returned (.bool (cZ v))/\Below w.heap.size w w':=by
 refine Kent Tryd.func41 55 ?_
 refine ay<|sG fun g w1 nk t s1 z1 => ?_
 have B:=aR s1.old (Below.refl w.heap.size w)
 have wF:=gY nk
 have wQ:=t.lt
 refine av aF<|aD<|Ws<|Ws ?_
 -- region 1 draws
 refine lU<|bE ((pt g))<|Qv (au v.o) (fun f d=>aP (t.cb d) 0) ?_
 by_cases l:(jo v.o)=true
 ·obtain⟨a,ha,ea⟩:=dZ l
  refine nD (fun _ _=>vT v.o _) aG (by rw[l])<|bE aF<|bE aF<|bE ((pf g 1))<|Qv (aC v.seq) (fun f d=>aP (t.cb d) 1) ?_
  by_cases N:v.seq<1
  ·refine Qv aG (fun f d=>jU N)<|bE aG<|bE aG<|aW<|aW<|aW<|bE aG<|bE aG<|aW<|aW<|aW<|aW<|aW<|aW<|aW<|aW<|aW<|aW<|bE aG<|Qn ?_
   intro XM tY
   have⟨k,U⟩:=iA tY t B
   refine sN<|aQ<|ay<|av aF<|aD<|Wr<|sR<|aN aF ?_
   have k:decide (1<=v.seq)=false:=decide_eq_false (by omega)
   exact⟨mK (Eq.symm (by unfold cZ; rw[l,k]; try rfl)),U⟩
  refine Qv aF (fun f d=>jV N)<|bE aF<|bE aF<|bE ((pf g 1))<|Qv (aC v.seq) (fun f d=>aP (t.cb d) 1) ?_
  by_cases O:1099511627776<=v.seq
  ·refine Qv aG (fun f d=>qD O)<|bE aG<|bE aG<|aW<|aW<|aW<|aW<|aW<|aW<|aW<|aW<|aW<|aW<|bE aG<|Qn ?_
   intro XO tZ
   have⟨m,V⟩:=iA tZ t B
   refine sN<|aQ<|ay<|av aF<|aD<|Wr<|sR<|aN aF ?_
   have k:decide (1<=v.seq)=true:=decide_eq_true (by omega)
   have m:decide (v.seq<1099511627776)=false:=decide_eq_false (by omega)
   exact⟨mK (Eq.symm (by unfold cZ; rw[l,k,m]; try rfl)),V⟩
  refine Qv aF (fun f d=>pJ O)<|bE aF<|bE aF<|bE ((pt g))<|Qv (au v.o) (fun f d=>aP (t.cb d) 0)<|Qv (au a) (fun f d=>jw)<|bE ((pf g 2))<|Qv ((pf g (a+2))) (fun f d=>yS 6 1)<|Qv (aC (v.deps a)) (fun f d=>aP (t.cb d) (a+2) (oH _ (by omega) (by omega)))<|bE ((pf g 1))<|Qv (aC v.seq) (fun f d=>aP (t.cb d) 1)<|Qv (aC (v.seq-1)) (fun f d=>jw) ?_
  by_cases y:(v.deps a)=(v.seq-1)
  ·refine Qv aF (fun f d=>kW y)<|bE aF<|Qn ?_
   intro XP uf
   have⟨q,W⟩:=iA uf t B
   refine sN<|aK<|Wk<|sN<|Ws<|ay<|av ((pf g 2))<|Lv (.slice (some ⟨g,2,none⟩) (6) (6)) (Fx.Hf rfl rfl Tryd.underlying31 (s:=1) (by kernel_rfl))<|fB (Yq v.deps g 2 _ (fun j x=>by have Q:=q.aJ (2+j) (by omega); rw[Nat.zero_add]at Q; rw[Q,oH v (p:=2+j) (j:=j) (by omega) x]; rfl)) _ rfl ?_
   intro w2 hb1
   have⟨r,I⟩:=iA hb1 q W
   by_cases A:1099511627776<=(Hl v.deps 5)
   ·refine Lv aG (qD A)<|aD<|aQ<|ay<|av aF<|aD<|Wr<|sR<|aN aF ?_
    have k:decide (1<=v.seq)=true:=decide_eq_true (by omega)
    have m:decide (v.seq<1099511627776)=true:=decide_eq_true (by omega)
    have q:decide (v.deps (v.o-1).toNat=v.seq-1)=true:=decide_eq_true (by rw[show(v.o-1).toNat=a by omega]; exact y)
    have r:=UQ A
    exact⟨mK (Eq.symm (by unfold cZ; rw[l,k,m,q,r]; try rfl)),I⟩
   refine Lv aF (pJ A)<|aD<|aK<|Wk<|sN<|ay<|Lv (.agg (aA 14 (dz v))) (gW r.aJ 0)<|av (.agg (aA 14 (bC (fun c=>if c<1 then au 0 else if c<8 then aC 0 else if c<9 then .int .u8 (0)else if c<10 then aC 0 else if c<12 then au 0 else aC 0) 0 14 (dz v))))<|sG fun z w3 P u s6 z2 => ?_
   have⟨C,Z⟩:=iA s6.old r I
   have yH:=gM P I.size
   have NJ:=bR P r.lt
   have Ba:=u.lt
   refine av ((pt z))<|aD<|Ws ?_
   have L:aL w3 z 14 (dz v) 124:=u.congr (fun j x=>by rcases j with _|_|_|_|_|_|_|_|_|_|_|_|_|_|j <;> first|rfl|omega)
   -- region 6 draws
   refine yQ [0,1,2,3,4,5,7,9,11,13,6,8,10,12,14,15,16,17,18] [0,3,0,0,0,0,4,0,4,0,4,0,4,0,4,0,0,0,0] (Fx.tF [124]) Fx.tF.refl Fx.tF.trans (eO := [(2,1,[1]),(3,1,[2,1]),(4,1,[2,1]),(5,1,[2,1]),(7,1,[2,1]),(9,1,[2,1]),(11,1,[2,1]),(13,1,[2,1]),(6,1,[2,1]),(8,1,[2,1]),(10,1,[2,1]),(12,1,[2,1]),(14,1,[2,1]),(15,1,[2,1]),(16,1,[2,1]),(17,1,[2,1]),(18,1,[1])]) (by kernel_rfl) (by kernel_rfl) (by kernel_rfl) (by kernel_rfl) (by kernel_rfl) fun qY fO iC => ?_
   have⟨m9,m10,M⟩:=jI fO C L Z
   refine aU ((pt z))<|gP<|jy (UR v z _ m10) ?_
   rintro e w4 ⟨b,v',E,R,S,F,hkv⟩
   have H:=m9.eG S (by omega)
   have J:=S.below M M.size (by omega)
   cases b
   ·refine⟨.bool false,E,?_⟩
    clear E
    refine Ln<|aU aF<|Rk (by rfl)<|Rk (by rfl)<|Rk (by rfl)<|Rk (by rfl)<|Rk (by rfl)<|Rk (by rfl)<|Rk (by rfl)<|Rk (by rfl)<|Rk (by rfl)<|Rk (by rfl)<|Rk (by rfl)<|Rk (by rfl)<|Rk (by rfl)<|Rk (by rfl)<|aU aF<|aU aF<|bF<|Wr<|aN aF ?_
    have k:decide (1<=v.seq)=true:=decide_eq_true (by omega)
    have m:decide (v.seq<1099511627776)=true:=decide_eq_true (by omega)
    have q:decide (v.deps (v.o-1).toNat=v.seq-1)=true:=decide_eq_true (by rw[show(v.o-1).toNat=a by omega]; exact y)
    have r:=DJ A
    have u:uj v=true->iP v=false:=fun h=>by rw[xZ h,<- F]
    have C:(uj v&&iP v)=false:=by cases h:uj v with|false=>rfl|true=>exact u h
    have L:(true&&true&&true&&true&&true&&uj v&&iP v)=false:=C
    exact⟨mK (Eq.symm (by unfold cZ; rw[l,k,m,q,r,L]; try rfl)),J⟩
   refine⟨.bool true,E,?_⟩
   clear E
   rw[hkv rfl]at R
   refine Ln<|aU aG<|aU ((pt z))<|aU ((pt z))<|aU ((pt z))<|aU ((pt g))<|aU ((pf g 1))<|aU ((pf g 2))<|aU ((pf g 8))<|Rs (.agg (aA 14 (dz (lN v)))) (gW R.aJ 0) ?_
   refine Rs (au v.o) (aP H.aJ 0) ?_
   refine Rs (aC v.seq) (aP H.aJ 1) ?_
   refine Rs (.agg (aA 6 (rv .u64 v.deps))) (gW H.aJ 2 (fun j x=>oH _ (by omega) x)) ?_
   refine Rs (.int .u8 (v.kind)) (aP H.aJ 8) ?_
   refine aU (.agg (aA 14 (bC (bC (bC (bC (fun c=>if c<1 then au 0 else if c<8 then aC 0 else if c<9 then .int .u8 (0)else if c<10 then aC 0 else if c<12 then au 0 else aC 0) 0 1 (fun _=>au v.o)) 1 1 (fun _=>aC v.seq)) 2 6 (rv .u64 v.deps)) 8 1 (fun _ => .int .u8 (v.kind))))) ?_
   by_cases D : ∀ i,i<14->(dz (lN v)) i=(bC (bC (bC (bC (fun c=>if c<1 then au 0 else if c<8 then aC 0 else if c<9 then .int .u8 (0)else if c<10 then aC 0 else if c<12 then au 0 else aC 0) 0 1 (fun _=>au v.o)) 1 1 (fun _=>aC v.seq)) 2 6 (rv .u64 v.deps)) 8 1 (fun _ => .int .u8 (v.kind))) i
   ·refine Rp aG (fun f=>Fx.wK (n:=14) (ks := [(some .i64),(some .u64),(some .u64),(some .u64),(some .u64),(some .u64),(some .u64),(some .u64),(some .u8),(some .u64),(some .i64),(some .i64),(some .u64),(some .u64)]) (X:=dz (lN v)) (Y:=bC (bC (bC (bC (fun c=>if c<1 then au 0 else if c<8 then aC 0 else if c<9 then .int .u8 (0)else if c<10 then aC 0 else if c<12 then au 0 else aC 0) 0 1 (fun _=>au v.o)) 1 1 (fun _=>aC v.seq)) 2 6 (rv .u64 v.deps)) 8 1 (fun _ => .int .u8 (v.kind))) 12 true rfl rfl rfl (Fx.zA D) (nJ (Fp G)) (qg (nJ (Fj G)) (fun j x=>by rcases j with _|_|_|_|_|_|_|_|_|_|_|_|_|_|j <;> first|rfl|exact absurd x (by simp))) rfl (by kernel_rfl) (by kernel_rfl) (by kernel_rfl) (by kernel_rfl) (by kernel_rfl))<|aU aG<|aU aG<|bF<|Wr<|aN aG ?_
    have k:decide (1<=v.seq)=true:=decide_eq_true (by omega)
    have m:decide (v.seq<1099511627776)=true:=decide_eq_true (by omega)
    have q:decide (v.deps (v.o-1).toNat=v.seq-1)=true:=decide_eq_true (by rw[show(v.o-1).toNat=a by omega]; exact y)
    have r:=DJ A
    have u:=(Cn F.symm).1 (fun i K=>(D i K).trans (by rcases i with _|_|_|_|_|_|_|_|_|_|_|_|_|_|i <;> first|rfl|omega))
    have C:=(xZ u).trans F.symm
    exact⟨mK (Eq.symm (by unfold cZ; rw[l,k,m,q,r,u,C]; try rfl)),J⟩
   refine Rp aF (fun f=>Fx.wK (n:=14) (ks := [(some .i64),(some .u64),(some .u64),(some .u64),(some .u64),(some .u64),(some .u64),(some .u64),(some .u8),(some .u64),(some .i64),(some .i64),(some .u64),(some .u64)]) (X:=dz (lN v)) (Y:=bC (bC (bC (bC (fun c=>if c<1 then au 0 else if c<8 then aC 0 else if c<9 then .int .u8 (0)else if c<10 then aC 0 else if c<12 then au 0 else aC 0) 0 1 (fun _=>au v.o)) 1 1 (fun _=>aC v.seq)) 2 6 (rv .u64 v.deps)) 8 1 (fun _ => .int .u8 (v.kind))) 12 false rfl rfl rfl (Fx.nob D) (nJ (Fp G)) (qg (nJ (Fj G)) (fun j x=>by rcases j with _|_|_|_|_|_|_|_|_|_|_|_|_|_|j <;> first|rfl|exact absurd x (by simp))) rfl (by kernel_rfl) (by kernel_rfl) (by kernel_rfl) (by kernel_rfl) (by kernel_rfl))<|aU aF<|aU aF<|bF<|Wr<|aN aF ?_
   have k:decide (1<=v.seq)=true:=decide_eq_true (by omega)
   have m:decide (v.seq<1099511627776)=true:=decide_eq_true (by omega)
   have q:decide (v.deps (v.o-1).toNat=v.seq-1)=true:=decide_eq_true (by rw[show(v.o-1).toNat=a by omega]; exact y)
   have r:=DJ A
   have u:uj v=false:=Bool.eq_false_iff.2 (fun h=>D (fun i K=>((Cn F.symm).2 h i K).trans (by rcases i with _|_|_|_|_|_|_|_|_|_|_|_|_|_|i <;> first|rfl|omega)))
   exact⟨mK (Eq.symm (by unfold cZ; rw[l,k,m,q,r,u]; try rfl)),J⟩
  refine Qv aG (fun f d=>qV y)<|bE aG<|Qn ?_
  intro wb4 zO
  have b9:=aR zO B
  refine sN<|aQ<|ay<|av aF<|aD<|Wr<|sR<|aN aF ?_
  have k:decide (1<=v.seq)=true:=decide_eq_true (by omega)
  have m:decide (v.seq<1099511627776)=true:=decide_eq_true (by omega)
  have q:decide (v.deps (v.o-1).toNat=v.seq-1)=false:=decide_eq_false (by rw[show(v.o-1).toNat=a by omega]; exact y)
  exact⟨mK (Eq.symm (by unfold cZ; rw[l,k,m,q]; try rfl)),b9⟩
 rw[Bool.not_eq_true]at l
 refine nD (fun _ _=>vT v.o _) aF (by rw[l])<|bE aG<|bE aG<|aW<|aW<|aW<|bE aG<|bE aG<|aW<|aW<|aW<|bE aG<|bE aG<|aW<|aW<|aW<|aW<|aW<|aW<|aW<|aW<|aW<|aW<|bE aG<|Qn ?_
 intro wb5 zP
 have T:=aR zP B
 refine sN<|aQ<|ay<|av aF<|aD<|Wr<|sR<|aN aF ?_
 exact⟨mK (Eq.symm (by unfold cZ; rw[l]; try rfl)),T⟩
namespace Rt
def nZ(a b:Int):Int:=if b>a then b else a
def vx(X:Nat->Nat->Int):Nat->Value:=fun p=>aC (X (p / 6) (p % 6))
theorem NK(X:Nat->Nat->Int){i p j:Nat}(a:p=6*i)(b:j<6):vx X (p+j)=rv .u64 (X i) j:=by
 subst a
 show Value.int .u64 (X ((6*i+j) / 6) ((6*i+j) % 6))=aC (X i j)
 rw[show(6*i+j) / 6=i by omega,show(6*i+j) % 6=j by omega]
def um(c:Int->Int->Int)(X:Nat->Nat->Int):Nat->Nat->Int
 | 0=>X 0
 | k+1=>fun p=>c (um c X k p) (X (k+1) p)
def Jq(c:Int->Int->Int)(X:Nat->Nat->Int):Nat->Nat->Int
 | 0=>fun _=>0
 | k+1=>um c X k
def Vcs(w:World)(a:Option Addr)(n cap:Nat)(X:Nat->Nat->Int):Prop:=0<n->n<=cap /\ ∃ b c,a=some ⟨b,c,none⟩/\gI w b c (6*n) (vx X)
def rW(x:Nat->Int)(k:Nat):Nat->Int:=fun p=>if p<k then x p else 0
theorem Ho(x:Nat->Int)(k:Nat):upd (rW x k) k (x k)=rW x (k+1):=by
 funext p; unfold upd rW
 by_cases h:p=k
 ·subst h; rw[if_pos rfl,if_pos (by omega)]
 rw[if_neg h]
 by_cases a:p<k
 ·rw[if_pos a,if_pos (by omega)]
 rw[if_neg a,if_neg (by omega)]
theorem KM(x:Nat->Int):aA 6 (rv .u64 (rW x 6))=aA 6 (rv .u64 x):=Fx.gF fun p a=>congrArg (Value.int .u64) (by unfold rW; rw[if_pos a])
end Rt
-- Hq.region is not in this seat
theorem Yr(a b:Int)(w:World) :
 Calls Tryd.prog 83 #[aC a,aC b] w fun e w'=>e = .returned (aC (nZ a b))/\w'=w:=by
 refine Kent Tryd.func83 8 ?_
 refine ay<|av (aC 0)<|aD<|ay<|av (aC a)<|av (aC b)<|Lv (aC (nZ a b)) (Fx.RO rfl rfl rfl)<|av (aC (nZ a b))<|aD<|Wr<|aN (aC (nZ a b)) ?_
 exact⟨rfl,rfl⟩
theorem NM(x y:Nat->Int)(d go c q:Nat)(w:World)(l:q<6)(j:aL w d 1 (fun _ => .func (.func 83) #[] #[]) 147)(f:aL w go 6 (rv .u64 x) 31)(k:aL w c 6 (rv .u64 y) 31) :
 Calls Tryd.prog 88 #[au ((q:Int)),(pt d),(pt go),(pt c)] w fun e w'=>e = .returned (aC (nZ (x q) (y q)))/\Below w.heap.size w w':=by
 refine Kent Tryd.func88 14 ?_
 refine ay<|av (aC 0)<|aD<|Ws ?_
 -- region 1 draws
 refine lU<|Qv (.func (.func 83) #[] #[]) (fun b a=>aP (j.cb a) 0)<|bE (au q)<|Qv ((pf go q)) (fun b a=>yS 6 1)<|Qv (aC (x q)) (fun b a=>aP (f.cb a) q)<|bE (au q)<|Qv ((pf c q)) (fun b a=>yS 6 1)<|Qv (aC (y q)) (fun b a=>aP (k.cb a) q)<|AX (v:=aC (nZ (x q) (y q))) (by rfl) (fun b a=>Fx.vg (args := [aC (x q),aC (y q)]) rfl rfl rfl (all := #[aC (x q),aC (y q)]) rfl Tryd.func83 rfl rfl) rfl (fun b a=>(Yr (x q) (y q) _).mono fun e v2 h=>⟨h.1,by rw[h.2]; exact a⟩) ?_
 refine bE (aC (nZ (x q) (y q)))<|Qn ?_
 intro n i
 have⟨m,g⟩:=iA i f (Below.refl w.heap.size w)
 refine sN<|Wr<|aN (aC (nZ (x q) (y q))) ?_
 exact⟨rfl,g⟩
theorem Hr(x y:Nat->Int)(b go c:Nat)(w:World)(z:aL w b 1 (fun _ => .func (.func 83) #[] #[]) 147)(B:aL w go 6 (rv .u64 x) 31)(C:aL w c 6 (rv .u64 y) 31) :
 Calls Tryd.prog 87 #[.func (.func 88) #[] #[(pt b),(pt go),(pt c)]] w fun e w'=>e = .returned (.agg (aA 6 (rv .u64 (fun p=>nZ (x p) (y p)))))/\Below w.heap.size w w':=by
 refine Kent Tryd.func87 14 ?_
 refine ay<|xJ (m:=6) (y:=rv .u64 (fun _=>0)) (by rfl) rfl (by kernel_rfl) rfl fun a w1 u D Z z1 => ?_
 have⟨T,W,X,E⟩:=iH Z.old z B C (Below.refl w.heap.size w)
 have wF:=gY u
 have⟨nH,Yt,rY⟩:=Bf u z.lt B.lt C.lt
 have wQ:=D.lt
 refine aD<|Ws<|ay<|av (au 0)<|aD<|Wb ?_
 have Y:aL w1 a 6 (rv .u64 (rW (fun p=>nZ (x p) (y p)) 0)) 31:=D
 refine Wo (fun f h => ∃ k:Nat,k<=6/\f 0 = .func (.func 88) #[] #[(pt b),(pt go),(pt c)]/\f 2=(pt a)/\f 4=au ((k:Int))/\aL h b 1 (fun _ => .func (.func 83) #[] #[]) 147/\aL h go 6 (rv .u64 x) 31/\aL h c 6 (rv .u64 y) 31/\aL h a 6 (rv .u64 (rW (fun p=>nZ (x p) (y p)) k)) 31/\Below w.heap.size w h) (fun f _=>(6-(intOf (f 4)).toNat)) ⟨0,by omega,(by rfl),(by rfl),Fx.ic,T,W,X,Y,E⟩ ?_
 rintro f1 w2 ⟨k,hk,v,d,g,n,o,q,r,l⟩
 refine ay ?_
 by_cases t:(k:Int)<6
 ·refine Lv aG (jU t (hx:=g))<|aD<|Ws<|aQ<|Wk<|sN<|Ws<|Wb<|ay<|aS g<|av (au k)<|aD<|Wl<|av (au k)<|aS v<|av (au k)<|uo (by rfl) (Fx.vg (args := [au ((k:Int))]) rfl rfl rfl (all := #[au ((k:Int)),(pt b),(pt go),(pt c)]) rfl Tryd.func88 rfl rfl) rfl<|(NM x y b go c k _ (by omega) n o q).mono ?_
  rintro e w3 ⟨A,I⟩
  refine⟨aC (nZ (x k) (y k)),by rw[A],?_⟩
  clear A
  have⟨J,K,L,M,s⟩:=lV I n o q r l
  refine Lv ((pf a k)) (yS 6 1 (hx:=d))<|mZ M k (aC (nZ (x k) (y k))) fun w4 N i z2 => ?_
  have O:aL w4 a 6 (rv .u64 (upd (rW (fun p=>nZ (x p) (y p)) k) k (nZ (x k) (y k)))) 31:=N.to (Fx.CQ _ _ _ _)
  have P:=J.eG i (by omega)
  have Q:=K.eG i (by omega)
  have R:=L.eG i (by omega)
  have F:=i.below s s.size (by omega)
  refine Ln<|cB<|sN<|Wl<|Lv (au ((k:Int)+1)) (fZ (hx:=g))<|av (au ((k:Int)+1))<|Ln ?_
  have S:=O.to (congrArg (rv .u64) (Ho (fun p=>nZ (x p) (y p)) k))
  refine iG ⟨k+1,by omega,v,d,Fx.ic,P,Q,R,S,F⟩ ?_
  show(6-(intOf ((au ((k:Int)+1)))).toNat)<_
  simp only[g,intOf]; omega
 refine Lv aF (jV t (hx:=g))<|aD<|Ws<|aK<|Wx<|bY<|iB<|bZ<|sN<|ay<|Lv (.agg (aA 6 (rv .u64 (rW (fun p=>nZ (x p) (y p)) k)))) (gW r.aJ 0 (ha:=d))<|eX r 0 (ha:=d) fun w5 U j z3 => ?_
 have V:aL w5 a 6 (rv .u64 (rW (fun p=>nZ (x p) (y p)) k)) 31:=aM U
 have m22:=n.eG j (by omega)
 have m23:=o.eG j (by omega)
 have m24:=q.eG j (by omega)
 have G:=j.below l l.size (by omega)
 refine aD (Wr (⟨.agg (aA 6 (rv .u64 (rW (fun p=>nZ (x p) (y p)) k))),rV Tryd.results87 ⟨_,d,aV V.aJ (by kernel_rfl) (by kernel_rfl)⟩,?_⟩))
 have H:k=6:=by omega
 exact⟨by rw[H,KM],G⟩
namespace Rt
def V2(x y:Nat->Int):Nat->Nat->Int
 | 0=>x
 | 1=>y
 | _=>fun _=>0
end Rt
theorem Fq(a:Option Addr)(cap:Nat)(w:World) :
 Calls Tryd.prog 82 #[.slice a (0) (cap),.func (.func 83) #[] #[]] w fun e w'=>e = .returned (.agg (aA 6 (rv .u64 (fun _=>0))))/\Below w.heap.size w w':=by
 refine Kent Tryd.func82 26 ?_
 refine ay<|qE (.func (.func 83) #[] #[]) fun t C j b p E => ?_
 have c:=aR p.old (Below.refl w.heap.size w)
 have u:=gY j
 have A:=b.lt
 refine lM 6 (rv .u64 (fun _=>0)) fun k D f g q F => ?_
 have⟨l,d⟩:=iA q.old b c
 have v:=gM f c.size
 have z:=bR f b.lt
 have B:=g.lt
 refine aD<|Ws<|ay<|av (.slice a (0) (cap))<|av (au 0)<|Lv aG (gH rfl)<|aD<|aQ<|ay<|Lv (.agg (aA 6 (rv .u64 (fun _=>0)))) (Fx.Gr (vs := []) (s:=1) (m:=6) (x:=rv .u64 (fun _=>0)) rfl rfl Tryd.underlying31 (by kernel_rfl) (by kernel_rfl) (by rfl))<|eX g 0 fun r n h G => ?_
 have o:aL r k 6 (rv .u64 (fun _=>0)) 31:=aM n
 have y:=l.eG h (by omega)
 have i:=h.below d d.size (by omega)
 refine aD (Wr (sR (⟨.agg (aA 6 (rv .u64 (fun _=>0))),rV Tryd.results82 ⟨_,rfl,aV o.aJ (by kernel_rfl) (by kernel_rfl)⟩,?_⟩)))
 exact⟨rfl,i⟩
theorem Fu(b off m cap:Nat)(X:Nat->Nat->Int)(w:World)(hcap:m+1<=cap)(hm:m<=1000000)(hx:gI w b off (6*(m+1)) (vx X)) :
 Calls Tryd.prog 82 #[.slice (some ⟨b,off,none⟩) (m+1) (cap),.func (.func 83) #[] #[]] w fun e w'=>e = .returned (.agg (aA 6 (rv .u64 (um nZ X m))))/\Below w.heap.size w w':=by
 have lb:=hx.lt (by omega)
 refine Kent Tryd.func82 26 ?_
 refine ay<|qE (.func (.func 83) #[] #[]) fun c w1 Q F s1 z1 => ?_
 have⟨T,K⟩:=iA s1.old hx (Below.refl w.heap.size w)
 have wF:=gY Q
 have nH:b≠c:=by rw[Q]; exact Nat.ne_of_lt (hx.lt (by omega))
 have wQ:=F.lt
 refine lM 6 (rv .u64 (fun _=>0)) fun r w2 z I s2 z2 => ?_
 have⟨J,Z,L⟩:=jI s2.old T F K
 have yH:=gM z K.size
 have Yu:b≠r:=by rw[z]; exact Nat.ne_of_lt (T.lt (by omega))
 have Jr:=bR z F.lt
 have Ba:=I.lt
 refine aD<|Ws<|ay<|av (.slice (some ⟨b,off,none⟩) (m+1) (cap))<|av (au ((m+1:Nat):Int))<|Lv aF Xv<|aD<|aK<|Wk<|sN<|ay<|av (.slice (some ⟨b,off,none⟩) (m+1) (cap))<|Lv ((pf b off)) (dw 6)<|Lv (.agg (aA 6 (rv .u64 (X 0)))) (gW J 0 (fun j E=>NK _ (i:=0) (p:=0) (by omega) E))<|lM 6 (rv .u64 (fun _=>0)) fun a w3 A m6 s3 z3 => ?_
 have⟨m7,m8,m9,M⟩:=iH s3.old J Z I L
 have EB:=gM A L.size
 have afR:b≠a:=by rw[A]; exact Nat.ne_of_lt (J.lt (by omega))
 have⟨NP,NQ⟩:=ow A Z.lt I.lt
 have Ga:=m6.lt
 refine eX m6 0 fun w4 m10 x z4 => ?_
 have m11:aL w4 a 6 (rv .u64 (X 0)) 31:=aM m10
 have m12:=m7.eG x (by omega)
 have m13:=m8.eG x (by omega)
 have m14:=m9.eG x (by omega)
 have b4:=x.below M M.size (by omega)
 refine aD<|Ws<|ay<|av (.slice (some ⟨b,off,none⟩) (m+1) (cap))<|Lv (.slice (if cap=1 then some ⟨b,off,none⟩else some ⟨b,off+6,none⟩) (m) (cap-1)) (Fx.uy (j:=1) (b:=b) (off:=off) (len:=m+1) (cap:=cap) (s:=6) rfl rfl rfl Tryd.underlying145 (by kernel_rfl) (by omega) rfl rfl rfl)<|av (au m)<|av (au 0)<|aD<|Wb ?_
 have m15:aL w4 a 6 (rv .u64 (um nZ X 0)) 31:=m11
 refine Wo (fun f n => ∃ k:Nat,k<=m/\f 3=(pt c)/\f 4=(pt r)/\f 5=(pt a)/\f 16 = .slice (if cap=1 then some ⟨b,off,none⟩else some ⟨b,off+6,none⟩) (m) (cap-1)/\f 17=au ((m:Int))/\f 18=au ((k:Int))/\gI n b off (6*(m+1)) (vx X)/\aL n c 1 (fun _ => .func (.func 83) #[] #[]) 147/\aL n r 6 (rv .u64 (fun _=>0)) 31/\aL n a 6 (rv .u64 (um nZ X k)) 31/\Below w.heap.size w n) (fun f _=>(m-(intOf (f 18)).toNat)) ⟨0,by omega,(by rfl),(by rfl),(by rfl),(by rfl),Fx.ic,Fx.ic,m12,m13,m14,m15,b4⟩ ?_
 rintro f1 w5 ⟨k,hk,R,C,t,S,D,g,u,G,H,v,o⟩
 refine ay ?_
 by_cases P:(k:Int)<(m:Int)
 ·refine Lv aG (jU P (hx:=g) (hy:=D))<|aD<|Ws<|aQ<|Wk<|sN<|Ws<|Wb<|ay<|Lv ((pf b (6*k+off+6))) (dw 6 (hx:=(S.trans (congrArg (fun q=>Value.slice q (m) (cap-1)) (if_neg (by omega))))) (hi:=g))<|Lv (.agg (aA 6 (rv .u64 (X (k+1))))) (gW u (6*k+6) (fun j E=>NK _ (i:=k+1) (p:=6*k+6) (by omega) E))<|lM 6 (rv .u64 (fun _=>0)) fun d w6 B U s5 z5 => ?_
  have⟨m21,m22,m23,m24,N⟩:=lV s5.old u G H v o
  have KN:=gM B o.size
  have abS:b≠d:=by rw[B]; exact Nat.ne_of_lt (u.lt (by omega))
  have⟨abT,abU,abV⟩:=Bf B G.lt H.lt v.lt
  have Js:=U.lt
  refine eX U 0 fun w7 qK h z6 => ?_
  have V:aL w7 d 6 (rv .u64 (X (k+1))) 31:=aM qK
  have qx:=m21.eG h (by omega)
  have W:=m22.eG h (by omega)
  have qZ:=m23.eG h (by omega)
  have Y:=m24.eG h (by omega)
  have b7:=h.below N N.size (by omega)
  refine aD<|Wl<|Lv (.func (.func 88) #[] #[(pt c),(pt a),(pt d)]) (Fx.jl (us := []) (vs := [(pt c),(pt a),(pt d)]) rfl rfl (Fx.RB R t rfl))<|fB (Hr (um nZ X k) (X (k+1)) c a d _ W Y V) _ rfl ?_
  intro w8 hb1
  have⟨lJ,m32,oD,nI,qM,O⟩:=vw hb1 qx W qZ Y V b7
  refine eX nI 0 (ha:=t) fun w9 pV l z7 => ?_
  have uD:aL w9 a 6 (rv .u64 (fun p=>nZ ((um nZ X k) p) ((X (k+1)) p))) 31:=aM pV
  have qF:=lJ.eG l (by omega)
  have sM:=m32.eG l (by omega)
  have ug:=oD.eG l (by omega)
  have pW:=qM.eG l (by omega)
  have b9:=l.below O O.size (by omega)
  refine Ln<|cB<|sN<|Wl<|Lv (au ((k:Int)+1)) (fZ (hx:=g))<|av (au ((k:Int)+1))<|Ln<|iG ⟨k+1,by omega,R,C,t,S,(D.trans Fx.ic),Fx.ic,qF,sM,ug,uD,b9⟩ ?_
  show(m-(intOf ((au ((k:Int)+1)))).toNat)<_
  simp only[g,intOf]; omega
 refine Lv aF (jV P (hx:=g) (hy:=D))<|aD<|Ws<|aK<|Wx<|bY<|iB<|bZ<|sN<|ay<|Lv (.agg (aA 6 (rv .u64 (um nZ X k)))) (gW v.aJ 0 (ha:=t))<|eX H 0 (ha:=C) fun zR uE y z8 => ?_
 have qN:aL zR r 6 (rv .u64 (um nZ X k)) 31:=aM uE
 have ru:=u.eG y (by omega)
 have vH:=G.eG y (by omega)
 have sO:=v.eG y (by omega)
 have b10:=y.below o o.size (by omega)
 refine aD (Wr (⟨.agg (aA 6 (rv .u64 (um nZ X k))),rV Tryd.results82 ⟨_,C,aV qN.aJ (by kernel_rfl) (by kernel_rfl)⟩,?_⟩))
 have ek:k=m:=by omega
 exact⟨by rw[ek],b10⟩
theorem Ht(a:Option Addr)(n cap:Nat)(X:Nat->Nat->Int)(w:World)(g:n<=1000000)(h:Vcs w a n cap X) :
 Calls Tryd.prog 82 #[.slice a n cap,.func (.func 83) #[] #[]] w fun e w'=>e = .returned (.agg (aA 6 (rv .u64 (Jq nZ X n))))/\Below w.heap.size w w':=by
 cases n with
 | zero=>exact Fq a cap w
 | succ m=>obtain⟨c,b,f,rfl,d⟩:=h (by omega); exact Fu b f m cap X w c (by omega) d
theorem UU{w w':World}{a:Option Addr}{n cap:Nat}{X:Nat->Nat->Int}(h:Vcs w a n cap X)(f:Below w.heap.size w w'):Vcs w' a n cap X:=fun d=>by
 obtain⟨g,b,i,e,c⟩:=h d
 exact⟨g,b,i,e,c.below f (c.lt (by omega))⟩
theorem UW(a:Option Addr)(n cap:Nat)(X:Nat->Nat->Int)(w:World)(k:n<=1000000)(h:Vcs w a n cap X) :
 Calls Tryd.prog 71 #[.slice a (n) (cap)] w fun e w'=>e = .returned (.agg (aA 6 (rv .u64 (Jq nZ X n))))/\Below w.heap.size w w':=by
 refine Kent Tryd.func71 5 ?_
 refine ay<|xJ (m:=6) (y:=rv .u64 (fun _=>0)) (by rfl) rfl (by kernel_rfl) rfl fun i v g d q z => ?_
 have b:=aR q.old (Below.refl w.heap.size w)
 have t:=gY g
 have u:=d.lt
 refine aD<|ay<|av (.slice a (n) (cap))<|fB (Ht a n cap X _ k (UU h b)) _ rfl ?_
 intro x j
 have⟨l,c⟩:=iA j d b
 refine eX l 0 fun s o r A => ?_
 have p:aL s i 6 (rv .u64 (Jq nZ X n)) 31:=aM o
 have f:=r.below c c.size (by omega)
 refine aD (Wr (⟨.agg (aA 6 (rv .u64 (Jq nZ X n))),rV Tryd.results71 ⟨_,rfl,aV p.aJ (by kernel_rfl) (by kernel_rfl)⟩,?_⟩))
 exact⟨rfl,f⟩
namespace Rt
theorem Yv(x y:Nat->Int):bC (bC (fun j=>rv .u64 (fun _=>0) (j % 6)) (0*6) 6 (rv .u64 x)) (1*6) 6 (rv .u64 y)=vx (V2 x y):=by
 funext p
 unfold bC
 by_cases b:1*6<=p/\p<1*6+6
 ·rw[if_pos b]
  show _=Value.int .u64 (V2 x y (p / 6) (p % 6))
  rw[show p / 6=1 by omega,show p-1*6=p % 6 by omega]; rfl
 rw[if_neg b]
 by_cases a:0*6<=p/\p<0*6+6
 ·rw[if_pos a]
  show _=Value.int .u64 (V2 x y (p / 6) (p % 6))
  rw[show p / 6=0 by omega,show p-0*6=p % 6 by omega]; rfl
 rw[if_neg a]
 show _=Value.int .u64 (V2 x y (p / 6) (p % 6))
 obtain⟨q,c⟩ : ∃ q,p / 6=q+2:=⟨p / 6-2,by omega⟩
 rw[c]; rfl
end Rt
-- Hq.New is not in this seat
-- (*Hq.Yw).Of is not in this seat
-- (*Hq.Yw).Told is not in this seat
namespace Rt
def hasB(K:Nat->Int)(o a:Int):Bool:=jo o&&decide (0<a)&&decide (a<=K (o-1).toNat)
theorem Cq{a b:Nat->Int}:BZ a b=true <-> ∀ i,i<6->rv .u64 (fun p=>nZ (a p) (b p)) i=rv .u64 b i:=by
 unfold BZ
 rw[List.all_eq_true]
 have e : ∀ i,rv .u64 (fun p=>nZ (a p) (b p)) i=rv .u64 b i<->a i<=b i:=fun i=>by
  show Value.int .u64 (nZ (a i) (b i))=aC (b i)<->_
  simp only[Value.int.injEq,true_and]; unfold nZ; split <;> omega
 constructor
 ·intro h i c; have:=h i (List.mem_range.2 c); rw[e]; exact of_decide_eq_true this
 intro h i c; have:=h i (List.mem_range.1 c); rw[e]at this; exact decide_eq_true this
def Kr(K:Nat->Int):Prop := ∀ i,i<6->gN (K i)
theorem Kr.kd{K:Nat->Int}(h:Kr K):Fx.Kd (List.replicate 6 (some .u64)) (rv .u64 K):=Fx.Em fun i a=>Fx.nC (h i a)
theorem Kr.mx{K L:Nat->Int}(h:Kr K)(b:Kr L):Kr (fun p=>nZ (K p) (L p)):=fun i a=>by
 have c:=h i a; have d:=b i a; show gN (nZ (K i) (L i)); unfold nZ; split <;> assumption
end Rt
theorem Qg{w:World}{g:Nat}{T:TypeId}{x:Nat->Value}(D K:Nat->Int)(h:aL w g (2*6) x T)(e:x=vx (V2 D K)) :
 Calls Tryd.prog 71 #[bJ g 2 2] w fun e w'=>e = .returned (.agg (aA 6 (rv .u64 fun p=>nZ (D p) (K p))))/\Below w.heap.size w w' :=
 UW (some ⟨g,0,none⟩) 2 2 (V2 D K) w (by omega) (fun _=>⟨Nat.le_refl _,g,0,rfl,(h.to e).aJ⟩)
theorem DK(n:Int)(w:World) :
 Calls Tryd.prog 40 #[au n] w fun e w'=>e = .returned (.bool (jo n))/\w'=w:=by
 refine Kent Tryd.func40 9 ?_
 refine ay<|av aF<|aD<|ay<|av (au n) ?_
 by_cases a:1<=n
 ·refine Lv aG (qD a)<|av aG<|av (au n) ?_
  by_cases b:n<=6
  ·refine Lv aG (qC b)<|av aG<|av aG<|aD<|Wr<|aN aG ?_
   exact⟨mK (by simp only[jo]; first|(symm; simp; omega)|(symm; simp; done)),rfl⟩
  refine Lv aF (qU b)<|av aF<|av aF<|aD<|Wr<|aN aF ?_
  exact⟨mK (by simp only[jo]; first|(symm; simp; omega)|(symm; simp; done)),rfl⟩
 refine Lv aF (pJ a)<|av aF<|cO<|cO<|av aF<|av aF<|aD<|Wr<|aN aF ?_
 exact⟨mK (by simp only[jo]; first|(symm; simp; omega)|(symm; simp; done)),rfl⟩
theorem Sz(K:Nat->Int)(o q:Int)(w:World) :
 Calls Tryd.prog 59 #[.agg (aA 6 (rv .u64 K)),au o,aC q] w fun e w'=>e = .returned (.bool (hasB K o q))/\Below w.heap.size w w':=by
 refine Kent Tryd.func59 21 ?_
 refine ay<|sG fun k s j i l t => ?_
 have f:=aR l.old (Below.refl w.heap.size w)
 have p:=gY j
 have r:=i.lt
 refine av aF<|aD<|ay<|av (au o) ?_
 by_cases b:(jo o)=true
 ·obtain⟨a,n,m⟩:=dZ b
  refine mH (DK o _) aG (by rw[b])<|av aG<|av (aC q) ?_
  by_cases c:0<q
  ·refine Lv aG (vo c)<|av aG<|av aG<|av (au o)<|Lv (au a) jw<|Lv ((pf k a)) (yS 6 1)<|Lv (aC (K a)) (aP i.aJ a)<|av (aC q) ?_
   by_cases g:q<=(K a)
   ·refine Lv aG (qD g)<|av aG<|av aG<|aD<|Wr<|aN aG ?_
    have d:decide (0<q)=true:=decide_eq_true c
    have h:decide (q<=K (o-1).toNat)=true:=decide_eq_true (by rw[show(o-1).toNat=a by omega]; exact g)
    exact⟨mK (Eq.symm (by unfold hasB; rw[b,d,h]; try rfl)),f⟩
   refine Lv aF (pJ g)<|av aF<|av aF<|aD<|Wr<|aN aF ?_
   have d:decide (0<q)=true:=decide_eq_true c
   have h:decide (q<=K (o-1).toNat)=false:=decide_eq_false (by rw[show(o-1).toNat=a by omega]; exact g)
   exact⟨mK (Eq.symm (by unfold hasB; rw[b,d,h]; try rfl)),f⟩
  refine Lv aF (vv c)<|av aF<|av aF<|cO<|cO<|cO<|cO<|cO<|cO<|av aF<|av aF<|aD<|Wr<|aN aF ?_
  have d:decide (0<q)=false:=decide_eq_false c
  exact⟨mK (Eq.symm (by unfold hasB; rw[b,d]; try rfl)),f⟩
 rw[Bool.not_eq_true]at b
 refine mH (DK o _) aF (by rw[b])<|av aF<|cO<|cO<|av aF<|av aF<|cO<|cO<|cO<|cO<|cO<|cO<|av aF<|av aF<|aD<|Wr<|aN aF ?_
 exact⟨mK (Eq.symm (by unfold hasB; rw[b]; try rfl)),f⟩
theorem NR(D K:Nat->Int)(w:World)(o:Kr D)(b:Kr K) :
 Calls Tryd.prog 60 #[.agg (aA 6 (rv .u64 D)),.agg (aA 6 (rv .u64 K))] w fun e w'=>e = .returned (.bool (BZ D K))/\Below w.heap.size w w':=by
 refine Kent Tryd.func60 11 ?_
 refine ay<|sG fun M w1 E d I z1 => ?_
 have f:=aR I.old (Below.refl w.heap.size w)
 have Q:=gY E
 have W:=d.lt
 refine sG fun N w2 l r J z2 => ?_
 have⟨H,B⟩:=iA J.old d f
 have R:=gM l f.size
 have T:=bR l d.lt
 have Z:=r.lt
 refine av aF<|aD<|Ws ?_
 -- region 1 draws
 refine jS [0,1,4,2,3,5,6] [4,4,2,2,1,0,0] [(2,0,[0]),(3,0,[2,0]),(2,1,[1]),(3,1,[2,1]),(3,2,[2]),(5,2,[3,2]),(6,2,[2]),(5,3,[3]),(6,3,[3])] fun qY F P => ?_
 have⟨t,c,g⟩:=jI F H r B
 refine Rs (.agg (aA 6 (rv .u64 D))) (gW t.aJ 0) ?_
 refine Rs (.agg (aA 6 (rv .u64 K))) (gW c.aJ 0) ?_
 refine Rd (v := .agg (aA 6 (rv .u64 K))) (by rfl) (by rfl) (nT _) (fun A G=>dH (x:=rv .u64 K) (y:=rv .u64 K) rfl rfl (by kernel_rfl) (by kernel_rfl) (c.aJ.below G (by have:=c.lt; omega)) (i:=0) (by omega) (by omega) (fun j _=>by rw[Nat.zero_add])) ?_
 refine zG<|xL (vs := [(0,.agg (aA 6 (rv .u64 D))),(1,.agg (aA 6 (rv .u64 K)))]) (s:=6) (zc:=rv .u64 (fun _=>0)) (y:=bC (bC (fun j=>(rv .u64 (fun _=>0)) (j % 6)) (0*6) 6 (rv .u64 D)) (1*6) 6 (rv .u64 K)) (by rfl) rfl rfl Tryd.underlying145 (by kernel_rfl) (by rfl) (by rfl) (by kernel_rfl) (by rw[aX (off:=0*6) (s:=6) (y:=rv .u64 D) rfl (bA _ _) (by rfl)]; rw[aX (off:=1*6) (s:=6) (y:=rv .u64 K) rfl (bA _ _) (by rfl)]; rfl) rfl fun O w3 m u z z3 => ?_
 have C:=aR z.old g
 have S:=gM m g.size
 have⟨U,V⟩:=ow m t.lt c.lt
 have aa:=u.lt
 refine Ln ⟨z.old,?_⟩
 refine zG<|fB (Qg D K u (Yv D K)) _ rfl ?_
 intro w4 q
 have L:=Sb q
 have k:=aR q C
 refine Ln ⟨L.old,?_⟩
 by_cases a : ∀ i,i<6->(rv .u64 (fun p=>nZ (D p) (K p))) i=(rv .u64 K) i
 ·refine Rp aG (fun A=>Fx.wK (n:=6) (ks:=List.replicate 6 (some .u64)) (X:=rv .u64 (fun p=>nZ (D p) (K p))) (Y:=rv .u64 K) 12 true rfl rfl rfl (Fx.zA a) (o.mx b).kd b.kd rfl (by kernel_rfl) (by kernel_rfl) (by kernel_rfl) (by kernel_rfl) (by kernel_rfl))<|aU aG<|bF<|Wr<|aN aG ?_
  exact⟨mK (Eq.symm (Cq.2 a)),k⟩
 refine Rp aF (fun A=>Fx.wK (n:=6) (ks:=List.replicate 6 (some .u64)) (X:=rv .u64 (fun p=>nZ (D p) (K p))) (Y:=rv .u64 K) 12 false rfl rfl rfl (Fx.nob a) (o.mx b).kd b.kd rfl (by kernel_rfl) (by kernel_rfl) (by kernel_rfl) (by kernel_rfl) (by kernel_rfl))<|aU aF<|bF<|Wr<|aN aF ?_
 exact⟨mK (Eq.symm (Bool.eq_false_iff.2 (fun h=>a (Cq.1 h)))),k⟩
theorem Rt.Fv{K:Nat->Int}{v:EvM}(h:cZ v=true):xW K v=hasB K v.o v.seq:=by
 have a:=iQ h; have b:=(yY h).1
 unfold xW hasB; rw[h,a,show decide (0<v.seq)=true from decide_eq_true (by omega)]; rfl
theorem NS(K:Nat->Int)(v:EvM)(w:World)(k:jR v) :
 Calls Tryd.prog 42 #[.agg (aA 6 (rv .u64 K)),.agg (aA 14 (dz v))] w fun e w'=>e = .returned (.bool (xW K v))/\Below w.heap.size w w':=by
 refine Kent Tryd.func42 15 ?_
 refine ay<|sG fun B H q c z O => ?_
 have f:=aR z.old (Below.refl w.heap.size w)
 have C:=gY q
 have F:=c.lt
 refine sG fun j I i d A P => ?_
 have⟨x,g⟩:=iA A.old c f
 have D:=gM i f.size
 have E:=bR i c.lt
 have G:=d.lt
 refine av aF<|aD<|ay<|Lv (.agg (aA 14 (dz v))) (gW d.aJ 0) ?_
 by_cases a:(cZ v)=true
 ·refine fB (Co v _ k) aG (by rw[a]) ?_
  intro J r
  have⟨y,l,h⟩:=jI r x d g
  refine av aG<|Lv (.agg (aA 6 (rv .u64 K))) (gW y.aJ 0)<|av ((pt j))<|Lv (au v.o) (aP l.aJ 0)<|av ((pf j 1))<|Lv (aC v.seq) (aP l.aJ 1) ?_
  by_cases b:(hasB K v.o v.seq)=true
  ·refine fB (Sz K v.o v.seq _) aG (by rw[b]) ?_
   intro L s
   have m:=aR s h
   refine av aG<|av aG<|aD<|Wr<|aN aG ?_
   exact⟨mK (Eq.symm ((Fv a).trans b)),m⟩
  rw[Bool.not_eq_true]at b
  refine fB (Sz K v.o v.seq _) aF (by rw[b]) ?_
  intro M t
  have n:=aR t h
  refine av aF<|av aF<|aD<|Wr<|aN aF ?_
  exact⟨mK (Eq.symm ((Fv a).trans b)),n⟩
 rw[Bool.not_eq_true]at a
 refine fB (Co v _ k) aF (by rw[a]) ?_
 intro N u
 have p:=aR u g
 refine av aF<|cO<|cO<|cO<|cO<|cO<|cO<|av aF<|av aF<|aD<|Wr<|aN aF ?_
 exact⟨mK (Eq.symm (by unfold xW; rw[a]; rfl)),p⟩
theorem Jt(K:Nat->Int)(v:EvM)(w:World)(i:jR v)(q:Kr K) :
 Calls Tryd.prog 43 #[.agg (aA 6 (rv .u64 K)),.agg (aA 14 (dz v))] w fun e w'=>e = .returned (.bool (iw K v))/\Below w.heap.size w w':=by
 refine Kent Tryd.func43 24 ?_
 refine ay<|sG fun z Q y l F W => ?_
 have m:=aR F.old (Below.refl w.heap.size w)
 have L:=gY y
 have O:=l.lt
 refine sG fun k R p c G X => ?_
 have⟨r,h⟩:=iA G.old l m
 have M:=gM p m.size
 have N:=bR p l.lt
 have P:=c.lt
 refine av aF<|aD<|Ws ?_
 -- region 1 draws
 refine lU<|Qv (.agg (aA 14 (dz v))) (fun d b=>gW (c.cb b) 0) ?_
 by_cases f:(cZ v)=true
 ·obtain⟨a,I,H⟩:=dZ (iQ f)
  have J:=yY f
  refine PD (fun _ _=>Co v _ i) aG (by rw[f])<|bE aG<|bE ((pt k))<|Qv (au v.o) (fun d b=>aP (c.cb b) 0)<|Qv (au a) (fun d b=>jw)<|Qv ((pf z a)) (fun d b=>yS 6 1)<|Qv (aC (K a)) (fun d b=>aP (r.cb b) a)<|bE ((pf k 1))<|Qv (aC v.seq) (fun d b=>aP (c.cb b) 1)<|Qv (aC (v.seq-1)) (fun d b=>jw) ?_
  by_cases n:(K a)=(v.seq-1)
  ·refine Qv aG (fun d b=>gH n)<|bE aG<|bE aG<|bE ((pf k 2))<|Qv (.agg (aA 6 (rv .u64 v.deps))) (fun d b=>gW (c.cb b) 2 (fun j E=>oH _ (by omega) E))<|Qv (.agg (aA 6 (rv .u64 K))) (fun d b=>gW (r.cb b) 0) ?_
   by_cases g:(BZ v.deps K)=true
   ·refine PD (fun _ _=>NR v.deps K _ i.deps q) aG (by rw[g])<|bE aG<|bE aG<|Qn ?_
    intro S A
    have s:=aR A h
    refine sN<|Wr<|aN aG ?_
    have c:decide (v.seq=K (v.o-1).toNat+1)=true:=decide_eq_true (by rw[show(v.o-1).toNat=a by omega]; omega)
    exact⟨mK (Eq.symm (by unfold iw; rw[f,c,g]; try rfl)),s⟩
   rw[Bool.not_eq_true]at g
   refine PD (fun _ _=>NR v.deps K _ i.deps q) aF (by rw[g])<|bE aF<|bE aF<|Qn ?_
   intro T B
   have t:=aR B h
   refine sN<|Wr<|aN aF ?_
   have c:decide (v.seq=K (v.o-1).toNat+1)=true:=decide_eq_true (by rw[show(v.o-1).toNat=a by omega]; omega)
   exact⟨mK (Eq.symm (by unfold iw; rw[f,c,g]; try rfl)),t⟩
  refine Qv aF (fun d b=>iW n)<|bE aF<|bE aF<|aW<|aW<|aW<|aW<|bE aF<|bE aF<|Qn ?_
  intro U C
  have u:=aR C h
  refine sN<|Wr<|aN aF ?_
  have c:decide (v.seq=K (v.o-1).toNat+1)=false:=decide_eq_false (by rw[show(v.o-1).toNat=a by omega]; omega)
  exact⟨mK (Eq.symm (by unfold iw; rw[f,c]; try rfl)),u⟩
 rw[Bool.not_eq_true]at f
 refine PD (fun _ _=>Co v _ i) aF (by rw[f])<|bE aF<|aW<|aW<|aW<|aW<|aW<|aW<|aW<|aW<|aW<|bE aF<|bE aF<|aW<|aW<|aW<|aW<|bE aF<|bE aF<|Qn ?_
 intro V D
 have x:=aR D h
 refine sN<|Wr<|aN aF ?_
 exact⟨mK (Eq.symm (by unfold iw; rw[f]; try rfl)),x⟩
set_option maxRecDepth 20000
namespace Rt
def kg(m:dG)(v:EvM):Int:=if m.T.has v.node=false then 9 else if 140737488355328<m.R (m.idx v.node) (bD v)+v.bH then 6 else 0
def yM(m:dG)(k:Int)(r:Nat->Int):dG := { m with R:=aI m.R (m.idx k) r }
def uL(m:dG)(v:EvM):dG:=yM m v.node (upd (m.R (m.idx v.node)) (bD v) (m.R (m.idx v.node) (bD v)+v.bH))
def qh(m:dG)(v:EvM):(Nat->Int) × Int:=gL (m.R (m.idx v.node)) v.o v.dst v.bH
def kM(m:dG)(v:EvM):Int:=if m.T.has v.node=false then 9 else if m.inn (v.dst-1).toNat=false then 10 else(qh m v).2
def Fw(m:dG)(v:EvM):dG:=yM m v.node (qh m v).1
def Fy(m:dG)(v:EvM):dG := { m with inn:=bB m.inn (v.dst-1).toNat true }
def Ai(m:dG)(v:EvM):dG := { m with left:=bB m.left (bD v) true }
theorem zl{R:Nat->Nat->Int}{j:Nat}{r:Nat->Int} : ∀ n x w b,Mp w b n x (aI (qd R) j (.agg (aA 54 (rv .i64 r))))->Mp w b n x (qd (aI R j r)):=fun n x w b h=>h.ni fun i _=>⟨rfl,by unfold qd aI; split <;> rfl⟩
end Rt
theorem Bv:Fx.pQ Tryd.prog 70:=⟨by kernel_rfl,by kernel_rfl,by kernel_rfl⟩
theorem NT(m:dG)(d B:Nat)(w:World)(h:je w B d m)(v:EvM)(Z:cZ v=true)(b:Nat)(E:b<6)(Y:v.dst=(b:Int)+1)(j:Nat)(i:Nat)(n:aL w j 1 (fun _=>(pt d)) 25)(l:aL w i 14 (dz v) 33) :
 Calls Tryd.prog 129 #[(pt j),(pt i)] w fun e w'=>e = .returned (.tuple #[])/\je w' B d (Fy m v)/\iU (Ah m d) w w':=by
 have y:=h.c
 have D:=h.t
 have A:=h.p
 have C:=h.r
 have z:=h.g
 have x:=h.a
 have f:=h.ne
 have lC:=h.c.lt
 have lT:=h.t.lt
 have lP:=h.p.lt
 have lR:=h.r.lt
 have lG:=h.g.lt
 have lA:=h.a.lt
 have RY:=n.lt
 have SA:=l.lt
 have F:(v.dst-1).toNat=b:=by omega
 refine Kent Tryd.func129 9 ?_
 -- region 0 draws
 refine jS [1,0,4,5,2,3,6,7] [4,0,4,0,0,0,0,3] [(7,0,[0]),(7,2,[2])] fun X k aa => ?_
 have V:Stp w.heap.size w X:=Sb k
 have⟨o,N,O,P,Q,R,S,T⟩:=Bd k y D A C z x n l
 have s:=(tC (Ah m d) w).then V (.inr (tC (Ah m d) w).size)
 refine aU ((pf i 10))<|Rs ((pt d)) (aP S.aJ 0) ?_
 refine aU ((pt d))<|aU ((pt d))<|Rs (au v.dst) (aP T.aJ 10) ?_
 refine Rp (au b) (fun _=>jw)<|Rp ((pf d b)) (fun _=>yS 6 1)<|gP<|mZ o b aG fun W U q z1 => ?_
 have H:aL W d 29 (oO { m with inn:=bB m.inn b true }) 59:=U.to (Nz E _)
 have G:=gG q o.ty
 have⟨I,J,K,L,M⟩:=LH G N O P Q R
 have u:=s.then q (.inl (.inl rfl))
 refine Ln (Rn (⟨.tuple #[],fM Tryd.results129,?_⟩))
 unfold Fy; rw[F]
 exact⟨rfl,{ c:=H,t:=I,p:=J,r:=K,g:=L,a:=M,ne:=⟨f.mp,f.mr,f.mg,f.ma,f.pr,f.pg,f.pa,f.rg,f.ra,f.ga⟩,lB:=h.lB,pB:=h.pB,rB:=h.rB,gB:=h.gB,aB:=h.aB },u⟩
theorem KO(m:dG)(b B:Nat)(w:World)(h:je w B b m)(v:EvM)(I:cZ v=true)(j:Nat)(f:Nat)(n:aL w j 1 (fun _=>(pt b)) 25)(l:aL w f 14 (dz v) 33) :
 Calls Tryd.prog 130 #[(pt j),(pt f)] w fun e w'=>e = .returned (.tuple #[])/\je w' B b (Ai m v)/\iU (Ah m b) w w':=by
 have z:=h.c
 have E:=h.t
 have C:=h.p
 have D:=h.r
 have A:=h.g
 have y:=h.a
 have d:=h.ne
 have lC:=h.c.lt
 have lT:=h.t.lt
 have lP:=h.p.lt
 have lR:=h.r.lt
 have lG:=h.g.lt
 have lA:=h.a.lt
 have RY:=n.lt
 have SA:=l.lt
 obtain⟨a,F,ho⟩ : ∃ a:Nat,a<6/\v.o=(a:Int)+1:=dZ (iQ I)
 have H:bD v=a:=by unfold bD; omega
 refine Kent Tryd.func130 9 ?_
 -- region 0 draws
 refine jS [1,0,4,5,2,3,6,7] [4,0,4,0,0,0,0,3] [(7,0,[0]),(7,2,[2])] fun Z k iC => ?_
 have X:Stp w.heap.size w Z:=Sb k
 have⟨q,P,Q,R,S,T,U,V⟩:=Bd k z E C D A y n l
 have u:=(tC (Ah m b) w).then X (.inr (tC (Ah m b) w).size)
 refine aU ((pt f))<|Rs ((pt b)) (aP U.aJ 0) ?_
 refine aU ((pt b))<|aU ((pf b 6))<|Rs (au v.o) (aP V.aJ 0) ?_
 refine Rp (au a) (fun _=>jw)<|Rp ((pf b (a+6))) (fun _=>yS 6 1)<|gP<|mZ q (a+6) aG fun Y W s z1 => ?_
 have J:aL Y b 29 (oO { m with left:=bB m.left a true }) 59:=W.to (NC (i:=a) F (by omega) _)
 have G:=gG s q.ty
 have⟨K,L,M,N,O⟩:=LH G P Q R S T
 have x:=u.then s (.inl (.inl rfl))
 refine Ln (Rn (⟨.tuple #[],fM Tryd.results130,?_⟩))
 unfold Ai; rw[H]
 exact⟨rfl,{ c:=J,t:=K,p:=L,r:=M,g:=N,a:=O,ne:=⟨d.mp,d.mr,d.mg,d.ma,d.pr,d.pg,d.pa,d.rg,d.ra,d.ga⟩,lB:=h.lB,pB:=h.pB,rB:=h.rB,gB:=h.gB,aB:=h.aB },x⟩
theorem KP(m:dG)(d B:Nat)(w:World)(h:je w B d m)(v:EvM)(hv:cZ v=true)(Q:m.T.has v.node=true)(r:Nat->Int)(l:Nat)(k:Nat)(i:Nat)(hr:aL w l 54 (rv .i64 (r)) 66)(u:aL w k 1 (fun _=>(pt d)) 25)(q:aL w i 14 (dz v) 33) :
 Calls Tryd.prog 119 #[(pt l),(pt k),(pt i)] w fun e w'=>e = .returned (.tuple #[])/\je w' B d (yM m v.node r)/\iU (Ah m d) w w':=by
 have K:=h.c
 have P:=h.t
 have N:=h.p
 have O:=h.r
 have M:=h.g
 have J:=h.a
 have b:=h.ne
 have lC:=h.c.lt
 have lT:=h.t.lt
 have lP:=h.p.lt
 have lR:=h.r.lt
 have lG:=h.g.lt
 have lA:=h.a.lt
 have lgr:=hr.lt
 have RY:=u.lt
 have SA:=q.lt
 obtain⟨y,s,j⟩:=eT Q
 have I:m.idx v.node=y:=jH h.t.inv.inj s j
 refine Kent Tryd.func119 10 ?_
 -- region 0 draws
 refine jS [4,0,1,2,3,5,6,7] [4,0,0,4,0,4,4,3] [(7,0,[0]),(7,3,[3]),(7,5,[5]),(7,6,[6])] fun qY o iC => ?_
 have s1:Stp w.heap.size w qY:=Sb o
 have⟨z,m2,m3,A,m5,m6,C,D,E⟩:=Db o K P N O M J hr u q
 have G:=(tC (Ah m d) w).then s1 (.inr (tC (Ah m d) w).size)
 refine aU ((pf i 9))<|Rs ((pt d)) (aP D.aJ 0) ?_
 refine aU ((pt d))<|aU ((pf d 20))<|Rs (.map (some m.rb)) (aP z.aJ 20) ?_
 refine Rs (aC v.node) (aP E.aJ 9) ?_
 refine Rs (.agg (aA 54 (rv .i64 (r)))) (gW C.aJ 0) ?_
 refine gP<|Fx.L.TR (by rfl) rfl rfl rfl rfl rfl A Tryd.underlying54 Tryd.underlying29 s j fun w1 S F z1 => ?_
 have f:=A.xP F
 have U:=z.dh f
 have V:=m2.dh f (b.mr)
 have W:=m3.dh f (b.pr)
 have X:=m5.dh f ((Ne.symm b.rg))
 have Y:=m6.dh f ((Ne.symm b.ra))
 have m16:=C.dh f
 have m17:=D.dh f
 have m18:=E.dh f
 have H:=G.then F (.inl (.inr (.inr (.inr (.inl rfl)))))
 have Z:Mp w1 m.rb m.T.n m.T.x (qd (aI m.R y (r))):=zl _ _ _ _ S
 refine Ln (Rn (⟨.tuple #[],fM Tryd.results119,?_⟩))
 unfold yM; rw[I]
 exact⟨rfl,{ c:=U,t:=V,p:=W,r:=Z,g:=X,a:=Y,ne:=⟨b.mp,b.mr,b.mg,b.ma,b.pr,b.pg,b.pa,b.rg,b.ra,b.ga⟩,lB:=h.lB,pB:=h.pB,rB:=h.rB,gB:=h.gB,aB:=h.aB },H⟩
theorem NU(m:dG)(d B:Nat)(w:World)(h:je w B d m)(v:EvM)(hv:cZ v=true)(Q:m.T.has v.node=true)(r:Nat->Int)(l:Nat)(k:Nat)(i:Nat)(hr:aL w l 54 (rv .i64 (r)) 66)(u:aL w k 1 (fun _=>(pt d)) 25)(q:aL w i 14 (dz v) 33) :
 Calls Tryd.prog 128 #[(pt l),(pt k),(pt i)] w fun e w'=>e = .returned (.tuple #[])/\je w' B d (yM m v.node r)/\iU (Ah m d) w w':=by
 have K:=h.c
 have P:=h.t
 have N:=h.p
 have O:=h.r
 have M:=h.g
 have J:=h.a
 have b:=h.ne
 have lC:=h.c.lt
 have lT:=h.t.lt
 have lP:=h.p.lt
 have lR:=h.r.lt
 have lG:=h.g.lt
 have lA:=h.a.lt
 have lgr:=hr.lt
 have RY:=u.lt
 have SA:=q.lt
 obtain⟨y,s,j⟩:=eT Q
 have I:m.idx v.node=y:=jH h.t.inv.inj s j
 refine Kent Tryd.func128 10 ?_
 -- region 0 draws
 refine jS [4,0,1,2,3,5,6,7] [4,0,0,4,0,4,4,3] [(7,0,[0]),(7,3,[3]),(7,5,[5]),(7,6,[6])] fun qY o iC => ?_
 have s1:Stp w.heap.size w qY:=Sb o
 have⟨z,m2,m3,A,m5,m6,C,D,E⟩:=Db o K P N O M J hr u q
 have G:=(tC (Ah m d) w).then s1 (.inr (tC (Ah m d) w).size)
 refine aU ((pf i 9))<|Rs ((pt d)) (aP D.aJ 0) ?_
 refine aU ((pt d))<|aU ((pf d 20))<|Rs (.map (some m.rb)) (aP z.aJ 20) ?_
 refine Rs (aC v.node) (aP E.aJ 9) ?_
 refine Rs (.agg (aA 54 (rv .i64 (r)))) (gW C.aJ 0) ?_
 refine gP<|Fx.L.TR (by rfl) rfl rfl rfl rfl rfl A Tryd.underlying54 Tryd.underlying29 s j fun w1 S F z1 => ?_
 have f:=A.xP F
 have U:=z.dh f
 have V:=m2.dh f (b.mr)
 have W:=m3.dh f (b.pr)
 have X:=m5.dh f ((Ne.symm b.rg))
 have Y:=m6.dh f ((Ne.symm b.ra))
 have m16:=C.dh f
 have m17:=D.dh f
 have m18:=E.dh f
 have H:=G.then F (.inl (.inr (.inr (.inr (.inl rfl)))))
 have Z:Mp w1 m.rb m.T.n m.T.x (qd (aI m.R y (r))):=zl _ _ _ _ S
 refine Ln (Rn (⟨.tuple #[],fM Tryd.results128,?_⟩))
 unfold yM; rw[I]
 exact⟨rfl,{ c:=U,t:=V,p:=W,r:=Z,g:=X,a:=Y,ne:=⟨b.mp,b.mr,b.mg,b.ma,b.pr,b.pg,b.pa,b.rg,b.ra,b.ga⟩,lB:=h.lB,pB:=h.pB,rB:=h.rB,gB:=h.gB,aB:=h.aB },H⟩
set_option maxRecDepth 20000
namespace Rt
theorem Ju{v:EvM}(h:cZ v=true)(c:v.kind=5) : ∃ b:Nat,b<6/\v.dst=(b:Int)+1:=by
 unfold cZ at h
 simp only[Bool.and_eq_true]at h
 have a:=h.2
 unfold iP at a
 rw[if_neg (by omega),if_neg (by omega),if_neg (by omega),if_neg (by omega),if_pos c]at a
 unfold zW at a
 simp only[Bool.and_eq_true]at a
 exact dZ a.2.1
end Rt
theorem UY(x:Nat->Int)(i j n:Int)(w:World)(hi:1<=i/\i<=6)(a:1<=j/\j<=6) :
 Calls Tryd.prog 127 #[.agg (aA 54 (rv .i64 x)),au i,au j,au n] w fun e w'=>e = .returned (.tuple #[.agg (aA 54 (rv .i64 (gL x i j n).1)),au (gL x i j n).2])/\Below w.heap.size w w' :=
 Nc x i j n w (by omega) (by omega)
theorem UZ(x:Nat->Int)(i n:Int)(w:World)(hi:1<=i/\i<=6) :
 Calls Tryd.prog 122 #[.agg (aA 54 (rv .i64 x)),au i,au n] w fun e w'=>e = .returned (.tuple #[.agg (aA 54 (rv .i64 (bO x i n).1)),au (bO x i n).2])/\Below w.heap.size w w' :=
 M8 x i n w (by omega)
theorem U0(x:Nat->Int)(i n:Int)(w:World)(hi:1<=i/\i<=6) :
 Calls Tryd.prog 125 #[.agg (aA 54 (rv .i64 x)),au i,au n] w fun e w'=>e = .returned (.tuple #[.agg (aA 54 (rv .i64 (bP x i n).1)),au (bP x i n).2])/\Below w.heap.size w w' :=
 Nb x i n w (by omega)
theorem NV(m:dG)(k B:Nat)(w:World)(h:je w B k m)(v:EvM)(O:cZ v=true)(hkd:v.kind=2)(hRb : ∀ i,i<m.T.n -> ∀ p,p<54->0<=m.R i p/\m.R i p<=1125899906842624) :
 Calls Tryd.prog 109 #[(pt k),.agg (aA 14 (dz v))] w fun e w'=>Lb w B k m (uL m v) (kg m v) e w':=by
 have hC:=h.c
 have hT:=h.t
 have hP:=h.p
 have hR:=h.r
 have hG:=h.g
 have hA:=h.a
 have hN:=h.ne
 have lC:=h.c.lt
 have lT:=h.t.lt
 have lP:=h.p.lt
 have lR:=h.r.lt
 have lG:=h.g.lt
 have lA:=h.a.lt
 obtain⟨a,ha,ho⟩ : ∃ a:Nat,a<6/\v.o=(a:Int)+1:=dZ (iQ O)
 have N:bD v=a:=by unfold bD; omega
 refine Kent Tryd.func109 39 ?_
 refine ay<|qE ((pt k)) fun q w1 nk P s1 z1 => ?_
 have⟨m2,m4,m5,m6,m7,X⟩:=vw s1.old hC hP hR hG hA (Below.refl w.heap.size w)
 have wF:=gY nk
 have⟨nH,rY,vU,vV,vW⟩:=vB nk hC.lt hP.lt hR.lt hG.lt hA.lt
 have wQ:=P.lt
 refine sG fun f w2 uW m8 s2 z2 => ?_
 have⟨m9,m11,m12,m13,m14,m15,b2⟩:=Da s2.old m2 m4 m5 m6 m7 P X
 have yH:=gM uW X.size
 have⟨Jv,DL,DN,Aj,og,uF⟩:=Dc uW m2.lt m4.lt m5.lt m6.lt m7.lt P.lt
 have Ba:=m8.lt
 refine av (.nilFunc)<|av (au 0)<|aD<|Ws ?_
 -- region 1 draws
 refine jS [4,0,1,2,3,5,6,7,8,9,10,11,12] [1,0,0,1,0,1,1,0,0,0,2,3,0] [(11,0,[0]),(11,3,[3]),(11,5,[5]),(11,6,[6]),(11,10,[10]),(12,10,[10]),(12,11,[11])] fun qY fO iC => ?_
 have⟨F,m18,G,m20,m21,u,y,A⟩:=Bd fO m9 m11 m12 m13 m14 m15 m8 b2
 refine aU ((pf f 9))<|Rd (v:=(pt k)) (by rfl) (by rfl) (nT _) (fun H j=>bf (x:=fun _=>(pt k)) rfl rfl (by kernel_rfl) (u.aJ.below j (by have:=u.lt; omega)) (i:=0) (by omega) (by omega) rfl) ?_
 refine aU ((pt k))<|aU ((pf k 20))<|Rd (v := .map (some m.rb)) (by rfl) (by rfl) (nT _) (fun H j=>bf (x:=oO m) rfl rfl (by kernel_rfl) (F.aJ.below j (by have:=F.lt; omega)) (i:=20) (by omega) (by omega) rfl) ?_
 refine Rd (v:=aC v.node) (by rfl) (by rfl) (nT _) (fun H j=>bf (x:=dz v) rfl rfl (by kernel_rfl) (y.aJ.below j (by have:=y.lt; omega)) (i:=9) (by omega) (by omega) rfl) ?_
 rcases Fx.mJ m.T.x m.T.n v.node with ⟨b,E,K⟩|gK
 ·refine Rd (v := .tuple #[.agg (aA 54 (rv .i64 (m.R b))),.bool true]) (by rfl) (by rfl) (nT _) (fun H j=>Fx.zK (z := .agg (aA 54 (rv .i64 (fun _=>0)))) rfl rfl rfl (G.up j) Tryd.underlying54 Tryd.underlying29 (by kernel_rfl) E K rfl) ?_
  refine aU (.tuple #[.agg (aA 54 (rv .i64 (m.R b))),.bool true])<|aU (.agg (aA 54 (rv .i64 (m.R b))))<|aU aG<|zG<|lM 54 (rv .i64 (fun _=>0)) fun d w3 Ak Q s4 z3 => ?_
  have⟨lJ,m32,Y⟩:=jI s4.old u y A
  have EB:=gM Ak A.size
  have⟨Hu,DR,Hw,NW,NY,U1,U2⟩:=Gu Ak F.lt m18.lt G.lt m20.lt m21.lt u.lt y.lt
  have Ga:=Q.lt
  refine Ln ⟨s4.old,?_⟩
  refine gP<|eX Q 0 fun w4 oD s5 z4 => ?_
  have nI:aL w4 d 54 (rv .i64 (m.R b)) 66:=aM oD
  have iq:=gG s5 Q.ty
  have⟨pW,uE⟩:=Es iq lJ m32
  have b5:=s5.below Y Y.size (by omega)
  refine Ln<|aU aG<|bF<|Ws<|ay<|av aG<|av aF<|aD<|aK<|Wk<|sN<|Ws<|Ws ?_
  have L:m.idx v.node=b:=jH h.t.inv.inj E K
  have s:m.T.has v.node=true:=gZ E K
  have q1:=hRb b E a (by omega)
  have q2:=uI O (.inl hkd)
  -- region 4 draws
  refine jS [0,3,6,9,1,2,4,5,7,8,10,11] [0,4,0,0,0,4,0,4,0,0,0,3] [(11,1,[1]),(11,5,[5]),(11,7,[7])] fun D9 jX oC => ?_
  have⟨wS,S,U,Z⟩:=iH jX pW uE nI b5
  refine aU ((pt f))<|aU ((pt d))<|aU ((pf f 11))<|aU ((pt d))<|Rs (au v.o) (aP S.aJ 0) ?_
  refine Rp (au a) (fun _=>jw)<|Rp ((pf d a)) (fun _=>yS 6 1)<|Rs (au ((m.R b) a)) (aP U.aJ a) ?_
  refine Rs (au v.bH) (aP S.aJ 11) ?_
  refine Rp (au (((m.R b) a)+v.bH)) (fun _=>fZ)<|Rp ((pf d a)) (fun _=>yS 6 1)<|gP<|mZ U a (au (((m.R b) a)+v.bH)) fun w5 wG s7 z5 => ?_
  have V:aL w5 d 54 (rv .i64 (upd (m.R b) a (((m.R b) a)+v.bH))) 66:=wG.to (Fx.CQ _ _ _ _)
  have kX:=gG s7 U.ty
  have⟨oF,W⟩:=Es kX wS S
  have I:=s7.below Z Z.size (by omega)
  refine Ln<|bF<|ay<|av ((pt f))<|Lv (au v.o) (aP W.aJ 0)<|Lv (au a) jw<|av ((pt d))<|Lv ((pf d a)) (yS 6 1)<|Lv (au ((upd (m.R b) a (((m.R b) a)+v.bH)) a)) (aP V.aJ a) ?_
  by_cases C:140737488355328<((upd (m.R b) a (((m.R b) a)+v.bH)) a)
  ·refine Lv aG (vo C)<|aD<|aQ<|ay<|av (.nilFunc)<|av (au 6)<|aD<|Wr<|sR<|aN (.tuple #[.nilFunc,au 6]) ?_
   have l:kg m v=6:=by unfold kg; rw[if_neg (by rw[s]; decide)]; exact if_pos (by rw[L,N]; simpa [upd] using C)
   exact⟨⟨.nilFunc,0,#[],by rw[l],rfl,fun J=>absurd (l.symm.trans J) (by first|decide|omega|assumption)⟩,I⟩
  refine Lv aF (vv C)<|aD<|aK<|Wk<|sN<|ay<|Lv (.func (.func 119) #[] #[(pt d),(pt q),(pt f)]) (Fx.jl (us := []) (vs := [(pt d),(pt q),(pt f)]) rfl rfl rfl)<|av (.func (.func 119) #[] #[(pt d),(pt q),(pt f)])<|av (au 0)<|aD<|Wr<|aN (.tuple #[.func (.func 119) #[] #[(pt d),(pt q),(pt f)],au 0]) ?_
  have em:uL m v=yM m v.node (upd (m.R b) a (m.R b a+v.bH)):=by unfold uL; rw[L,N]
  rw[em]
  have l:kg m v=0:=by unfold kg; rw[if_neg (by rw[s]; decide)]; exact if_neg (by rw[L,N]; simpa [upd] using C)
  exact⟨⟨_,119,#[(pt d),(pt q),(pt f)],by rw[l],rfl,fun _=>⟨rfl,⟨_,_,Tryd.func119,rfl,rfl⟩,fun w2 D=>(KP m k B w2 ((h.up I).up D) v O s _ _ _ _ (V.eG (Sb D) (Nat.ne_of_lt V.lt)) (oF.eG (Sb D) (Nat.ne_of_lt oF.lt)) (W.eG (Sb D) (Nat.ne_of_lt W.lt))).mono fun _ _ M=>⟨M.1,M.2.1,M.2.2.mono fun _ s => .inl s⟩⟩⟩,I⟩
 refine Rd (v := .tuple #[.agg (aA 54 (rv .i64 (fun _=>0))),.bool false]) (by rfl) (by rfl) (nT _) (fun H j=>Fx.zJ (z := .agg (aA 54 (rv .i64 (fun _=>0)))) rfl rfl rfl (G.up j) Tryd.underlying54 Tryd.underlying29 (by kernel_rfl) gK) ?_
 refine aU (.tuple #[.agg (aA 54 (rv .i64 (fun _=>0))),.bool false])<|aU (.agg (aA 54 (rv .i64 (fun _=>0))))<|aU aF<|zG<|lM 54 (rv .i64 (fun _=>0)) fun g4 w6 Bj qy s8 z6 => ?_
 have b8:=aR s8.old A
 have KN:=gM Bj A.size
 have⟨abW,abX,U3,U4,U5,U6,U7⟩:=Gu Bj F.lt m18.lt G.lt m20.lt m21.lt u.lt y.lt
 have Js:=qy.lt
 refine Ln ⟨s8.old,?_⟩
 refine gP<|eX qy 0 fun w7 wT s9 z7 => ?_
 have zU:aL w7 g4 54 (rv .i64 (fun _=>0)) 66:=aM wT
 have b9:=s9.below b8 b8.size (by omega)
 refine Ln<|aU aF<|bF<|Ws<|ay<|av aF<|av aG<|aD<|aQ<|ay<|av (.nilFunc)<|av (au 9)<|aD<|Wr<|sR<|aN (.tuple #[.nilFunc,au 9]) ?_
 have l:kg m v=9:=by unfold kg; exact if_pos (sI gK)
 exact⟨⟨.nilFunc,0,#[],by rw[l],rfl,fun J=>absurd (l.symm.trans J) (by first|decide|omega|assumption)⟩,b9⟩
theorem Qh(m:dG)(f B:Nat)(w:World)(h:je w B f m)(v:EvM)(S:cZ v=true)(hkd:v.kind=5) :
 Calls Tryd.prog 112 #[(pt f),.agg (aA 14 (dz v))] w fun e w'=>Lb w B f m (Fw m v) (kM m v) e w':=by
 have hC:=h.c
 have hT:=h.t
 have hP:=h.p
 have hR:=h.r
 have hG:=h.g
 have hA:=h.a
 have hN:=h.ne
 have lC:=h.c.lt
 have lT:=h.t.lt
 have lP:=h.p.lt
 have lR:=h.r.lt
 have lG:=h.g.lt
 have lA:=h.a.lt
 obtain⟨a,ha,ho⟩ : ∃ a:Nat,a<6/\v.o=(a:Int)+1:=dZ (iQ S)
 have hra:bD v=a:=by unfold bD; omega
 obtain⟨b,hb,hd⟩:=Ju S hkd
 have O:(v.dst-1).toNat=b:=by omega
 refine Kent Tryd.func112 47 ?_
 refine ay<|qE ((pt f)) fun A w1 nk U s1 z1 => ?_
 have⟨m2,m4,m5,m6,m7,W⟩:=vw s1.old hC hP hR hG hA (Below.refl w.heap.size w)
 have wF:=gY nk
 have⟨nH,rY,vU,vV,vW⟩:=vB nk hC.lt hP.lt hR.lt hG.lt hA.lt
 have wQ:=U.lt
 refine sG fun j w2 uW m8 s2 z2 => ?_
 have⟨m9,m11,m12,m13,m14,m15,b2⟩:=Da s2.old m2 m4 m5 m6 m7 U W
 have yH:=gM uW W.size
 have⟨Jv,DL,DN,Aj,og,uF⟩:=Dc uW m2.lt m4.lt m5.lt m6.lt m7.lt U.lt
 have Ba:=m8.lt
 refine av (.nilFunc)<|av (au 0)<|aD<|Ws ?_
 -- region 1 draws
 refine jS [4,0,1,2,3,5,6,7,8,9,10,11,12] [1,0,0,1,0,1,1,0,0,0,2,3,0] [(11,0,[0]),(11,3,[3]),(11,5,[5]),(11,6,[6]),(11,10,[10]),(12,10,[10]),(12,11,[11])] fun qY fO iC => ?_
 have⟨C,m18,J,m20,m21,D,E,G⟩:=Bd fO m9 m11 m12 m13 m14 m15 m8 b2
 refine aU ((pf j 9))<|Rd (v:=(pt f)) (by rfl) (by rfl) (nT _) (fun K l=>bf (x:=fun _=>(pt f)) rfl rfl (by kernel_rfl) (D.aJ.below l (by have:=D.lt; omega)) (i:=0) (by omega) (by omega) rfl) ?_
 refine aU ((pt f))<|aU ((pf f 20))<|Rd (v := .map (some m.rb)) (by rfl) (by rfl) (nT _) (fun K l=>bf (x:=oO m) rfl rfl (by kernel_rfl) (C.aJ.below l (by have:=C.lt; omega)) (i:=20) (by omega) (by omega) rfl) ?_
 refine Rd (v:=aC v.node) (by rfl) (by rfl) (nT _) (fun K l=>bf (x:=dz v) rfl rfl (by kernel_rfl) (E.aJ.below l (by have:=E.lt; omega)) (i:=9) (by omega) (by omega) rfl) ?_
 rcases Fx.mJ m.T.x m.T.n v.node with ⟨d,Q,N⟩|gK
 ·refine Rd (v := .tuple #[.agg (aA 54 (rv .i64 (m.R d))),.bool true]) (by rfl) (by rfl) (nT _) (fun K l=>Fx.zK (z := .agg (aA 54 (rv .i64 (fun _=>0)))) rfl rfl rfl (J.up l) Tryd.underlying54 Tryd.underlying29 (by kernel_rfl) Q N rfl) ?_
  refine aU (.tuple #[.agg (aA 54 (rv .i64 (m.R d))),.bool true])<|aU (.agg (aA 54 (rv .i64 (m.R d))))<|aU aG<|zG<|lM 54 (rv .i64 (fun _=>0)) fun q w3 Ak V s4 z3 => ?_
  have⟨qK,lJ,m32,X⟩:=iH s4.old C D E G
  have EB:=gM Ak G.size
  have⟨Hu,DR,Hw,NW,NY,U1,U2⟩:=Gu Ak C.lt m18.lt J.lt m20.lt m21.lt D.lt E.lt
  have Ga:=V.lt
  refine Ln ⟨s4.old,?_⟩
  refine gP<|eX V 0 fun w4 oD s5 z4 => ?_
  have nI:aL w4 q 54 (rv .i64 (m.R d)) 66:=aM oD
  have iq:=gG s5 V.ty
  have⟨qM,pW,uE⟩:=zI iq qK lJ m32
  have b5:=s5.below X X.size (by omega)
  refine Ln<|aU aG<|bF<|Ws<|Wb<|ay<|av aG<|av aF<|av aF<|aD<|aK<|Ws ?_
  have ex:m.idx v.node=d:=jH h.t.inv.inj Q N
  have u:m.T.has v.node=true:=gZ Q N
  -- region 4 draws
  refine jS [1,0,4,5,2,3,6,7,8,9] [4,0,4,0,0,0,0,4,0,0] [] fun D9 jX oC => ?_
  have⟨qN,wS,F,vI,Y⟩:=lV jX qM pW uE nI b5
  refine aU ((pf j 10))<|Rs ((pt f)) (aP wS.aJ 0) ?_
  refine aU ((pt f))<|aU ((pt f))<|Rs (au v.dst) (aP F.aJ 10) ?_
  refine Rp (au b) (fun _=>jw)<|Rp ((pf f b)) (fun _=>yS 6 1) ?_
  by_cases s:(m.inn b)=true
  ·refine Rs aG (aP qN.aJ b ((xk (by omega)).trans (congrArg Value.bool s))) ?_
   refine aU aF<|aU aF<|bF<|aK<|Wk<|cB<|sN<|ay<|Lv (.agg (aA 54 (rv .i64 (m.R d)))) (gW vI.aJ 0)<|av ((pt j))<|Lv (au v.o) (aP F.aJ 0)<|av ((pf j 10))<|Lv (au v.dst) (aP F.aJ 10)<|av ((pf j 11))<|Lv (au v.bH) (aP F.aJ 11)<|fB (UY (m.R d) v.o v.dst v.bH _ (by omega) (by omega)) _ rfl ?_
   intro w5 hb1
   have⟨wI,xS,oF,Z⟩:=iH hb1 wS F vI Y
   refine av (.tuple #[.agg (aA 54 (rv .i64 ((gL (m.R d) v.o v.dst v.bH).1))),au ((gL (m.R d) v.o v.dst v.bH).2)])<|av (.agg (aA 54 (rv .i64 ((gL (m.R d) v.o v.dst v.bH).1))))<|av (au ((gL (m.R d) v.o v.dst v.bH).2))<|eX oF 0 fun w6 uV s8 z5 => ?_
   have qy:aL w6 q 54 (rv .i64 ((gL (m.R d) v.o v.dst v.bH).1)) 66:=aM uV
   have kX:=gG s8 oF.ty
   have⟨vL,Br⟩:=Es kX wI xS
   have L:=s8.below Z Z.size (by omega)
   refine av (au ((gL (m.R d) v.o v.dst v.bH).2))<|aD<|Ws<|ay<|av (au ((gL (m.R d) v.o v.dst v.bH).2)) ?_
   by_cases M:((gL (m.R d) v.o v.dst v.bH).2)=0
   ·refine Lv aF (kW M)<|aD<|aK<|Wk<|sN<|ay<|Lv (.func (.func 128) #[] #[(pt q),(pt A),(pt j)]) (Fx.jl (us := []) (vs := [(pt q),(pt A),(pt j)]) rfl rfl rfl)<|av (.func (.func 128) #[] #[(pt q),(pt A),(pt j)])<|av (au 0)<|aD<|Wr<|aN (.tuple #[.func (.func 128) #[] #[(pt q),(pt A),(pt j)],au 0]) ?_
    have H:qh m v=gL (m.R d) v.o v.dst v.bH:=by unfold qh; rw[ex]
    show Lb w B f m (yM m v.node (qh m v).1) _ _ _
    rw[H]
    have k:kM m v=0:=by unfold kM; rw[if_neg (by rw[u]; decide),if_neg (by rw[O,s]; decide),H]; exact M
    exact⟨⟨_,128,#[(pt q),(pt A),(pt j)],by rw[k],rfl,fun _=>⟨rfl,⟨_,_,Tryd.func128,rfl,rfl⟩,fun w2 I=>(NU m f B w2 ((h.up L).up I) v S u _ _ _ _ (qy.eG (Sb I) (Nat.ne_of_lt qy.lt)) (vL.eG (Sb I) (Nat.ne_of_lt vL.lt)) (Br.eG (Sb I) (Nat.ne_of_lt Br.lt))).mono fun _ _ P=>⟨P.1,P.2.1,P.2.2.mono fun _ u => .inl u⟩⟩⟩,L⟩
   refine Lv aG (qV M)<|aD<|aQ<|ay<|av (au ((gL (m.R d) v.o v.dst v.bH).2))<|av (.nilFunc)<|av (au ((gL (m.R d) v.o v.dst v.bH).2))<|aD<|Wr<|sR<|aN (.tuple #[.nilFunc,au ((gL (m.R d) v.o v.dst v.bH).2)]) ?_
   have H:qh m v=gL (m.R d) v.o v.dst v.bH:=by unfold qh; rw[ex]
   have k:kM m v=(gL (m.R d) v.o v.dst v.bH).2:=by unfold kM; rw[if_neg (by rw[u]; decide),if_neg (by rw[O,s]; decide),H]
   exact⟨⟨.nilFunc,0,#[],by rw[k],rfl,fun y=>absurd (k.symm.trans y) (by first|decide|omega|assumption)⟩,L⟩
  rw[Bool.not_eq_true]at s
  refine Rs aF (aP qN.aJ b ((xk (by omega)).trans (congrArg Value.bool s))) ?_
  refine aU aG<|aU aG<|bF<|aQ<|ay<|av (.nilFunc)<|av (au 10)<|aD<|Wr<|bW<|sR<|aN (.tuple #[.nilFunc,au 10]) ?_
  have k:kM m v=10:=by unfold kM; rw[if_neg (by rw[u]; decide)]; exact if_pos (by rw[O]; exact s)
  exact⟨⟨.nilFunc,0,#[],by rw[k],rfl,fun y=>absurd (k.symm.trans y) (by first|decide|omega|assumption)⟩,Y⟩
 refine Rd (v := .tuple #[.agg (aA 54 (rv .i64 (fun _=>0))),.bool false]) (by rfl) (by rfl) (nT _) (fun K l=>Fx.zJ (z := .agg (aA 54 (rv .i64 (fun _=>0)))) rfl rfl rfl (J.up l) Tryd.underlying54 Tryd.underlying29 (by kernel_rfl) gK) ?_
 refine aU (.tuple #[.agg (aA 54 (rv .i64 (fun _=>0))),.bool false])<|aU (.agg (aA 54 (rv .i64 (fun _=>0))))<|aU aF<|zG<|lM 54 (rv .i64 (fun _=>0)) fun g4 w7 Bj wT s9 z6 => ?_
 have b9:=aR s9.old G
 have KN:=gM Bj G.size
 have⟨U8,abY,U9,abZ,Va,Vb,Vd⟩:=Gu Bj C.lt m18.lt J.lt m20.lt m21.lt D.lt E.lt
 have Js:=wT.lt
 refine Ln ⟨s9.old,?_⟩
 refine gP<|eX wT 0 fun w8 zV s10 z7 => ?_
 have yX:aL w8 g4 54 (rv .i64 (fun _=>0)) 66:=aM zV
 have b10:=s10.below b9 b9.size (by omega)
 refine Ln<|aU aF<|bF<|Ws<|Wb<|ay<|av aF<|av aG<|av aG<|aD<|aQ<|ay<|av (.nilFunc)<|av (au 9)<|aD<|Wr<|bW<|sR<|aN (.tuple #[.nilFunc,au 9]) ?_
 have k:kM m v=9:=by unfold kM; exact if_pos (sI gK)
 exact⟨⟨.nilFunc,0,#[],by rw[k],rfl,fun y=>absurd (k.symm.trans y) (by first|decide|omega|assumption)⟩,b10⟩
theorem Qi(m:dG)(i B:Nat)(w:World)(h:je w B i m)(v:EvM)(J:cZ v=true)(b:Nat)(G:b<6)(H:v.dst=(b:Int)+1) :
 Calls Tryd.prog 113 #[(pt i),.agg (aA 14 (dz v))] w fun e w'=>Lb w B i m (Fy m v) (0) e w':=by
 have y:=h.c
 have S:=h.t
 have A:=h.p
 have C:=h.r
 have z:=h.g
 have x:=h.a
 have R:=h.ne
 have U:=h.c.lt
 have Y:=h.t.lt
 have W:=h.p.lt
 have X:=h.r.lt
 have V:=h.g.lt
 have T:=h.a.lt
 refine Kent Tryd.func113 7 ?_
 refine ay<|qE ((pt i)) fun d w1 s l P z1 => ?_
 have⟨K,L,M,N,O,o⟩:=vw P.old y A C z x (Below.refl w.heap.size w)
 have Z:=gY s
 have⟨ab,ac,ad,ae,af⟩:=vB s y.lt A.lt C.lt z.lt x.lt
 have am:=l.lt
 refine sG fun f E u n Q z2 => ?_
 have⟨D,q⟩:=iA Q.old l o
 have aa:=gM u o.size
 have⟨al,ag,ah,ai,aj,ak⟩:=Dc u K.lt L.lt M.lt N.lt O.lt l.lt
 have an:=n.lt
 refine av (.nilFunc)<|av (au 0)<|aD<|ay<|Lv (.func (.func 129) #[] #[(pt d),(pt f)]) (Fx.jl (us := []) (vs := [(pt d),(pt f)]) rfl rfl rfl)<|av (.func (.func 129) #[] #[(pt d),(pt f)])<|av (au 0)<|aD<|Wr<|aN (.tuple #[.func (.func 129) #[] #[(pt d),(pt f)],au 0]) ?_
 have F:(0:Int)=0:=rfl
 exact⟨⟨_,129,#[(pt d),(pt f)],by rw[F],rfl,fun _=>⟨rfl,⟨_,_,Tryd.func129,rfl,rfl⟩,fun E j=>(NT m i B E ((h.up q).up j) v J b G H _ _ (D.eG (Sb j) (Nat.ne_of_lt D.lt)) (n.eG (Sb j) (Nat.ne_of_lt n.lt))).mono fun _ _ k=>⟨k.1,k.2.1,k.2.2.mono fun _ I => .inl I⟩⟩⟩,q⟩
theorem NZ(m:dG)(f B:Nat)(w:World)(h:je w B f m)(v:EvM)(G:cZ v=true) :
 Calls Tryd.prog 114 #[(pt f),.agg (aA 14 (dz v))] w fun e w'=>Lb w B f m (Ai m v) (0) e w':=by
 have x:=h.c
 have P:=h.t
 have z:=h.p
 have A:=h.r
 have y:=h.g
 have u:=h.a
 have O:=h.ne
 have R:=h.c.lt
 have V:=h.t.lt
 have T:=h.p.lt
 have U:=h.r.lt
 have S:=h.g.lt
 have Q:=h.a.lt
 refine Kent Tryd.func114 7 ?_
 refine ay<|qE ((pt f)) fun b w1 q k M z1 => ?_
 have⟨H,I,J,K,L,n⟩:=vw M.old x z A y u (Below.refl w.heap.size w)
 have W:=gY q
 have⟨Y,Z,aa,ab,ac⟩:=vB q x.lt z.lt A.lt y.lt u.lt
 have aj:=k.lt
 refine sG fun d D s l N z2 => ?_
 have⟨C,o⟩:=iA N.old k n
 have X:=gM s n.size
 have⟨ai,ad,ae,af,ag,ah⟩:=Dc s H.lt I.lt J.lt K.lt L.lt k.lt
 have ak:=l.lt
 refine av (.nilFunc)<|av (au 0)<|aD<|ay<|Lv (.func (.func 130) #[] #[(pt b),(pt d)]) (Fx.jl (us := []) (vs := [(pt b),(pt d)]) rfl rfl rfl)<|av (.func (.func 130) #[] #[(pt b),(pt d)])<|av (au 0)<|aD<|Wr<|aN (.tuple #[.func (.func 130) #[] #[(pt b),(pt d)],au 0]) ?_
 have E:(0:Int)=0:=rfl
 exact⟨⟨_,130,#[(pt b),(pt d)],by rw[E],rfl,fun _=>⟨rfl,⟨_,_,Tryd.func130,rfl,rfl⟩,fun D i=>(KO m f B D ((h.up o).up i) v G _ _ (C.eG (Sb i) (Nat.ne_of_lt C.lt)) (l.eG (Sb i) (Nat.ne_of_lt l.lt))).mono fun _ _ j=>⟨j.1,j.2.1,j.2.2.mono fun _ F => .inl F⟩⟩⟩,o⟩
section
open Rt
set_option maxRecDepth 10000
-- sU.Same is not in this seat
theorem acd(o q:Nat)(w:World)(a:1<=o/\o<=6)(c:1<=q/\q<1099511627776) :
 Calls Tryd.prog 115 #[au ((o:Int)),aC ((q:Int))] w fun e w'=>e = .returned (aC (1099511627776*(o:Int)+(q:Int)))/\w'=w:=by
 refine Kent Tryd.func115 24 ?_
 refine ay<|av (aC 0)<|aD<|Ws<|ay<|av (au o)<|Lv aF Er<|av aF<|av (au o)<|Lv aF tQ<|av aF<|av aF<|av (aC q)<|Lv aF Er<|av aF<|av aF<|av (aC q)<|Lv aF BK<|av aF<|aD<|aK<|Wk<|sN<|ay<|av (au o)<|Lv (aC o) (dS rfl rfl (by kernel_rfl) Tryd.underlying29 (jk (by omega) rfl))<|Lv (aC (1099511627776*(o:Int))) (Fx.IL (b:=40) rfl rfl rfl (by decide) (jk (by omega) (by omega)))<|av (aC q)<|Lv (aC (1099511627776*(o:Int)+(q:Int))) (Fx.UD rfl rfl rfl (by omega) (by omega))<|av (aC (1099511627776*(o:Int)+(q:Int)))<|aD<|Wr<|aN (aC (1099511627776*(o:Int)+(q:Int))) ?_
 exact⟨rfl,rfl⟩
end
end Go.Proofs.YtcbedgfikejkoaaDoor
namespace Go.Proofs.YtcbedgfikejkoaaDoor
open Go.RowKit Go
set_option linter.unusedVariables false
namespace Rt
theorem xq : ∀(n m:Nat) (f:Nat->Nat),(∀ i,i<m->f i<n)->(∀ i j,i<m->j<m->f i=f j->i=j)->m<=n
 | 0,m,f,h1,_=>by
   rcases Nat.eq_zero_or_pos m with h|h
   ·omega
   ·have:=h1 0 h; omega
 | n+1,m,f,h1,h2=>by
   rcases Nat.eq_zero_or_pos m with h|h
   ·omega
   by_cases d : ∃ a,a<m/\f a=n
   ·obtain⟨a,b,e⟩:=d
    have:=xq n (m-1) (fun j=>f (if j=a then m-1 else j)) (fun j o=>by
     have g:=h1 (if j=a then m-1 else j) (by split <;> omega)
     have k:f (if j=a then m-1 else j)≠n:=fun c=>by
      have:=h2 _ a (by split <;> omega) b (c.trans e.symm)
      split at this <;> omega
     show f _<n
     omega) (fun i j l p c=>by
     have:=h2 _ _ (by split <;> omega) (by split <;> omega) c
     split at this <;> split at this <;> omega)
    omega
   ·have:=xq n m f (fun i b=>by
     have:=h1 i b
     have:f i≠n:=fun e=>d ⟨i,b,e⟩
     omega) h2
    omega
section
variable {T U:dB} {id pa k:Int} {i:Nat}
theorem dB.zm(h:T.err id pa=0):T.add id pa=T.put id pa:=if_pos h
theorem dB.Ve(h : ¬ T.err id pa=0):T.add id pa=T:=if_neg h
theorem dB.vX(hi:i<T.n):T.has (T.x i)=true:=gZ hi rfl
theorem dB.Fz(h:T.ok)(hi:i<T.n):T.par (T.x i)=T.p i:=vE h.inj hi rfl
theorem dB.step(h:T.ok)(a:T.has k=true):T.path k=k::T.path (T.par k):=by
 have b:gJ T.x T.p T.n 3 (T.par k):=h.stop k a
 show(if dD T.x T.n k=true then k::ig T.x T.p T.n 3 (T.par k)else [])=_
 rw[if_pos (show dD T.x T.n k=true from a),<- (Di b (show 3<=4 by omega)).1]; rfl
theorem dB.Vf(h:T.ok)(hi:i<T.n):T.path (T.x i)=T.x i::T.path (T.p i):=by rw[dB.step h (dB.vX hi),dB.Fz h hi]
theorem dB.vY:(T.path k).length<=4:=sJ
theorem dB.Vg(h:T.ok):T.path 0 = []:=wO.XF h 4
theorem oG.zero(T:dB):oG dB.zero T:=⟨fun _ h=>(nomatch h),fun _ h=>(nomatch h)⟩
theorem oG.path(b:T.ok)(a:U.ok)(h:oG U T) : ∀(d:Nat) (k:Int),(k=0\/U.has k=true)->ig U.x U.p U.n d k=ig T.x T.p T.n d k
 | 0,_,_=>rfl
 | d+1,k,hk=>by
   rcases hk with rfl|hk
   ·rw[jm (wO.TW a),jm (wO.TW b)]
   ·unfold ig
    have c:dD U.x U.n k=true:=hk
    have e:dD T.x T.n k=true:=h.has k hk
    have f:fI U.x U.p U.n k=fI T.x T.p T.n k:=h.par k hk
    rw[if_pos c,if_pos e,<- f,oG.path b a h d]
    exact wO.up a hk
theorem oG.lt(s:U.ok)(h:oG U T)(hi:i<T.n)(m:U.has (T.x i)=false):U.n<T.n:=by
 have p : ∀ j,∃ q,j<U.n->q<T.n/\T.x q=U.x j:=fun j=>by
  by_cases g:j<U.n
  ·obtain⟨q,c,d⟩:=eT (h.has _ (dB.vX g))
   exact⟨q,fun _=>⟨c,d⟩⟩
  ·exact⟨0,fun h=>absurd h g⟩
 obtain⟨f,k⟩:=Classical.axiomOfChoice p
 have:=xq T.n (U.n+1) (fun j=>if j=U.n then i else f j) (fun j g=>by
  show(if j=U.n then i else f j)<T.n
  split
  ·exact hi
  ·exact(k j (by omega)).1) (fun a b t u e=>by
  have o : ∀ j,j<U.n->f j≠i:=fun j g e=>by
   have c:=(k j g).2
   rw[e]at c
   rw[c,dB.vX g]at m; cases m
  have e:(if a=U.n then i else f a)=(if b=U.n then i else f b):=e
  by_cases c:a=U.n
  ·by_cases d:b=U.n
   ·omega
   ·rw[if_pos c,if_neg d]at e; exact absurd e.symm (o b (by omega))
  ·by_cases d:b=U.n
   ·rw[if_neg c,if_pos d]at e; exact absurd e (o a (by omega))
   ·rw[if_neg c,if_neg d]at e
    have l:=(k a (by omega)).2
    have r:=(k b (by omega)).2
    rw[e]at l
    exact s.inj a b (by omega) (by omega) (l.symm.trans r))
 omega
theorem oG.add(d:T.ok)(g:U.ok)(h:oG U T)(hi:i<T.n)(j:T.p i=0\/U.has (T.p i)=true) :
 oG (U.add (T.x i) (T.p i)) T/\(U.add (T.x i) (T.p i)).has (T.x i)=true /\ ∀ k,U.has k=true->(U.add (T.x i) (T.p i)).has k=true:=by
 cases hh:U.has (T.x i)with
 | true =>
   have e:U.add (T.x i) (T.p i)=U:=by
    refine dB.Ve fun m => ?_
    have:=(Gz m).2.1
    rw[show dD U.x U.n (T.x i)=U.has (T.x i)from rfl,hh]at this; cases this
   rw[e]; exact⟨h,hh,fun _ h=>h⟩
 | false =>
   have s:=(d.pos i hi).1
   have q:=oG.lt g h hi hh
   have r:=d.small
   have l:U.err (T.x i) (T.p i)=0:=by
    unfold dB.err nu
    rw[if_neg (by omega),if_neg (by rw[show dD U.x U.n (T.x i)=U.has (T.x i)from rfl,hh]; decide),if_neg,if_neg]
    ·rintro (b|b)
     ·omega
     ·have f:=oG.path d g h 4 (T.p i) j
      rw[f]at b
      have c:=dB.Vf d hi
      have o:(T.path (T.x i)).length<=4:=dB.vY
      rw[c,List.length_cons]at o
      have b:4<=(T.path (T.p i)).length:=b
      omega
    ·rintro ⟨b,f⟩
     rcases j with c|c
     ·exact b c
     ·rw[show dD U.x U.n (T.p i)=U.has (T.p i)from rfl,c]at f; cases f
   rw[dB.zm l]
   refine⟨⟨fun k a => ?_,fun k a => ?_⟩,?_,fun k a => ?_⟩
   ·rw[dB.iO,Bool.or_eq_true]at a
    rcases a with a|a
    ·exact h.has k a
    ·rw[<- of_decide_eq_true a]; exact dB.vX hi
   ·rw[dB.iO,Bool.or_eq_true]at a
    rw[dB.pU]
    split
    ·rename_i e; subst e; exact(dB.Fz d hi).symm
    ·rename_i e
     rcases a with a|a
     ·exact h.par k a
     ·exact absurd (of_decide_eq_true a) e
   ·rw[dB.iO,decide_eq_true rfl,Bool.or_true]
   ·rw[dB.iO,a,Bool.true_or]
structure FB(T U:dB)(r k:Nat):Prop where
 sub:oG U T
 fst : ∀ j,j<r->j<T.n->U.has (T.x j)=true
 nxt:k<=r->r<T.n->U.has (T.x r)=true
theorem FB.start(T:dB) : ∀ {r:Nat},r=0->FB T dB.zero r T.n:=fun e=>⟨oG.zero T,fun j h=>by omega,fun a b=>by omega⟩
theorem FB.add{r k:Nat}(f:T.ok)(g:U.ok)(h:FB T U r k)(m:0<k)(o:k<=T.n)(l:T.p (k-1)=0\/U.has (T.p (k-1))=true):FB T (U.add (T.x (k-1)) (T.p (k-1))) r (k-1):=by
 obtain⟨c,d,b⟩:=oG.add f g h.sub (show k-1<T.n by omega) l
 refine⟨c,fun j i a=>b _ (h.fst j i a),fun q a => ?_⟩
 by_cases e:k<=r
 ·exact b _ (h.nxt e a)
 obtain rfl:r=k-1:=by omega
 exact d
theorem FB.skip{r k:Nat}(b:T.ok)(h:FB T U r k)(f:0<k)(g:k<=T.n)(d : ¬ T.p (k-1)=0)(a:U.has (T.p (k-1))=false):FB T U r (k-1):=by
 refine⟨h.sub,h.fst,fun j c => ?_⟩
 by_cases e:k<=r
 ·exact h.nxt e c
 obtain rfl:r=k-1:=by omega
 rcases b.par (k-1) (by omega)with h1|⟨i,hi,h1⟩
 ·exact absurd h1 d
 rw[<- h1,h.fst i hi (by omega)]at a; cases a
theorem FB.next{r:Nat}(h:FB T U r 0):FB T U (r+1) T.n :=
 ⟨h.sub,fun j d a=>by
  by_cases e:j=r
  ·subst e; exact h.nxt (Nat.zero_le _) a
  ·exact h.fst j (by omega) a,fun b c=>by omega⟩
theorem FB.all{r k:Nat}(h:FB T U r k)(hr:T.n<=r) : ∀ k,T.has k=true->U.has k=true:=fun k b=>by
 obtain⟨j,a,rfl⟩:=eT b
 exact h.fst j (by omega) a
theorem FB.path{r k:Nat}(h:FB T U r k)(hr:T.n<=r)(q:Int):U.path q=T.path q:=h.sub.same (h.all hr) q
theorem FB.list{r k:Nat}(h:FB T U r k)(hr:T.n<=r){l m:List Int}(a:l.Pairwise (· < ·) /\ ∀ k,k∈l<->T.has k=true)(b:m.Pairwise (· < ·) /\ ∀ k,k∈m<->U.has k=true):m=l :=
 sK b.1 a.1 fun k=>(b.2 k).trans (Iff.trans ⟨h.sub.has k,h.all hr k⟩ (a.2 k).symm)
end
def Lc(l:List Int)(v:Int)(n:Nat)(b:Bool):Prop:=b=true <-> ∃ j,j<n/\j<l.length/\l.getD j 0=v
theorem Lc.zero(l:List Int)(v:Int):Lc l v 0 false:=⟨fun h=>(nomatch h),fun⟨j,h,_⟩=>absurd h (Nat.not_lt_zero _)⟩
theorem Lc.keep{l:List Int}{v:Int}{n:Nat}(h:Lc l v n true):Lc l v (n+1) true:=⟨fun _=>by obtain⟨j,b,a⟩:=h.1 rfl; exact⟨j,by omega,a⟩,fun _=>rfl⟩
theorem Lc.yes{l:List Int}{v:Int}{n:Nat}(a:n<l.length)(e:l.getD n 0=v):Lc l v (n+1) true:=⟨fun _=>⟨n,by omega,a,e⟩,fun _=>rfl⟩
theorem Lc.no{l:List Int}{v:Int}{n:Nat}(h:Lc l v n false)(e : ¬ l.getD n 0=v):Lc l v (n+1) false:=⟨fun h=>(nomatch h),fun⟨j,d,c,a⟩=>by
 by_cases b:j=n
 ·subst b; exact absurd a e
 ·exact h.2 ⟨j,by omega,c,a⟩⟩
theorem Lc.mem{l:List Int}{v:Int}{n:Nat}{b:Bool}(h:Lc l v n b)(i:l.length<=n):b=true<->v∈l:=by
 constructor
 ·intro f
  obtain⟨j,_,c,d⟩:=h.1 f
  exact oz c d
 intro g
 obtain⟨j,a,e⟩:=List.getElem_of_mem g
 refine h.2 ⟨j,by omega,a,?_⟩
 rw[List.getD_eq_getElem?_getD,List.getElem?_eq_getElem a]; exact e
end Rt
end Go.Proofs.YtcbedgfikejkoaaDoor
namespace Go.Proofs.YtcbedgfikejkoaaDoor
open Go.RowKit Go
set_option linter.unusedVariables false
namespace Rt
def Qj(x:Nat->Int)(v:Int)(j aq:Nat):Prop:=(aq=0 /\ ∀ q,q<j->x q≠v)\/(0<aq/\aq<=j/\x (aq-1)=v)
section
variable {x:Nat->Int} {v:Int} {j aq:Nat}
theorem Qj.zero:Qj x v 0 0 := .inl ⟨rfl,fun _ h=>absurd h (Nat.not_lt_zero _)⟩
theorem Qj.yes(e:x j=v):Qj x v (j+1) (j+1) := .inr ⟨by omega,by omega,e⟩
theorem Qj.no(h:Qj x v j aq)(e : ¬ x j=v):Qj x v (j+1) aq:=by
 rcases h with ⟨a,b⟩|⟨a,b,h3⟩
 ·refine .inl ⟨a,fun q d => ?_⟩
  by_cases c:q=j
  ·subst c; exact e
  exact b q (by omega)
 exact .inr ⟨a,by omega,h3⟩
end
section
variable {x p:Nat->Int} {n:Nat}
theorem mo : ∀ {d:Nat} {v:Int},gJ x p n d v -> ∀ k,k<(ig x p n d v).length->dD x n ((ig x p n d v).getD k 0)=true /\
 (k+1<(ig x p n d v).length->(ig x p n d v).getD (k+1) 0=fI x p n ((ig x p n d v).getD k 0))/\(k+1=(ig x p n d v).length->dD x n (fI x p n ((ig x p n d v).getD k 0))=false)
 | 0,v,h,k,hk=>absurd hk (Nat.not_lt_zero _)
 | d+1,v,h,k,hk=>by
   cases hv:dD x n v with
   | false=>rw[jm hv]at hk; exact absurd hk (Nat.not_lt_zero _)
   | true =>
     have e:ig x p n (d+1) v=v::ig x p n d (fI x p n v):=by show(if _ then _ else _)=_; rw[if_pos hv]
     have c:gJ x p n d (fI x p n v):=h hv
     have i := @mo d (fI x p n v) c
     have g:0<(ig x p n d (fI x p n v)).length->(ig x p n d (fI x p n v)).getD 0 0=fI x p n v:=fun a=>by
      cases d with
      | zero=>exact absurd a (Nat.not_lt_zero _)
      | succ d =>
        unfold ig at a ⊢
        split at a
        ·rename_i hq; rw[if_pos hq]; rfl
        ·exact absurd a (Nat.not_lt_zero _)
     rw[e]at hk ⊢
     rw[List.length_cons]at hk ⊢
     cases k with
     | zero =>
       rw[List.getD_cons_zero,List.getD_cons_succ]
       refine⟨hv,fun b=>g (by omega),fun b => ?_⟩
       cases hq:dD x n (fI x p n v)with
       | false=>rfl
       | true =>
         obtain⟨j,_,_,f⟩:=BN c hq
         rw[f,List.length_cons]at b; omega
     | succ k =>
       rw[List.getD_cons_succ,List.getD_cons_succ]
       have:=i k (by omega)
       exact⟨this.1,fun b=>this.2.1 (by omega),fun b=>this.2.2 (by omega)⟩
end
section
variable {T:dB} {id pa k v:Int} {i j aq:Nat} {pl:List Int}
theorem Qj.get(h:Qj T.x v T.n aq)(d:T.has v=true):0<aq/\aq-1<T.n/\T.x (aq-1)=v:=by
 rcases h with ⟨a,b⟩|⟨a,b,h3⟩
 ·obtain⟨q,c,e⟩:=eT d
  exact absurd e (b q c)
 exact⟨a,by omega,h3⟩
theorem dB.Hy(h:T.ok)(e:pl=T.path v){q:Nat}(a:q<pl.length):T.has (pl.getD q 0)=true:=by
 subst e; exact(mo (h.stop v) q a).1
theorem dB.Qk(h:T.ok)(e:pl=T.path v){q:Nat}(b:q+1<pl.length)(ha:aq-1<T.n)(hx:T.x (aq-1)=pl.getD q 0):T.p (aq-1)=pl.getD (q+1) 0:=by
 subst e
 have:=(mo (h.stop v) q (Nat.lt_of_succ_lt b)).2.1 b
 have a:=dB.Fz h ha
 rw[hx]at a
 exact a.symm.trans this.symm
theorem dB.Ql(h:T.ok)(e:pl=T.path v){q:Nat}(c:q+1=pl.length)(ha:aq-1<T.n)(hx:T.x (aq-1)=pl.getD q 0):T.p (aq-1)=0:=by
 subst e
 have a:=(mo (h.stop v) q (Nat.lt_of_succ_le (Nat.le_of_eq c))).2.2 c
 have b:=dB.Fz h ha
 rw[hx]at b
 rw[show fI T.x T.p T.n ((ig T.x T.p T.n 4 v).getD q 0)=T.p (aq-1)from b]at a
 rcases h.par _ ha with h4|⟨i,hi,h4⟩
 ·exact h4
 rw[<- h4,gZ (by omega) rfl]at a; cases a
theorem dB.Vh(d : ¬ id=0)(e:pa=0\/T.has pa=true):T.err id pa=if T.has id=true then 14 else if 32<=T.n\/4<=(T.path pa).length then 6 else 0:=by
 show nu T.x T.p T.n id pa=_
 unfold nu
 rw[if_neg d]
 have c : ¬ (¬ pa=0/\dD T.x T.n pa=false):=by
  rintro ⟨b,a⟩
  rcases e with h3|h3
  ·exact b h3
  ·rw[show dD T.x T.n pa=T.has pa from rfl,h3]at a; cases a
 rw[if_neg c]; rfl
end
def SB(v1 v2:Value):Prop := ∀ g,v1.ownBlock=some g->v2.ownBlock≠some g
section
variable {w w':World} {v v2:Value} {B s n g m c:Nat} {E:TypeId} {x:Nat->Value}
theorem SB.symm(h:SB v v2):SB v2 v:=fun g a b=>h g b a
theorem SB.nil:SB (.slice none 0 0) v:=fun g h=>nomatch h
theorem SB.app(h:SB v v2)(b:Fx.Own w B E s v n x)(d:v2.ownBlock=some g\/g=w.heap.size):SB v (bJ g m c):=fun q a e=>by
 have e:some g=some q:=e
 obtain rfl:=Option.some.inj e
 rcases d with h1|h1
 ·exact h _ a h1
 ·have:=(b.ge a).2; omega
end
end Rt
end Go.Proofs.YtcbedgfikejkoaaDoor
namespace Go.Proofs.YtcbedgfikejkoaaDoor
open Go.RowKit Go
set_option linter.unusedVariables false
namespace Rt
def Bb(n:Nat):Nat->List Nat
 | 0 => []
 | j+1=>Bb n j ++ [n-1-j]
theorem Jw(n:Nat) : ∀ j,(Bb n j).length=j
 | 0=>rfl
 | j+1=>by unfold Bb; rw[List.length_append,Jw n j]; rfl
def Gb(T:dB)(l:List Int)(a:List Nat):dB:=a.foldl (fun U x=>U.add (l.getD x 0) (T.par (l.getD x 0))) dB.zero
theorem Al(T:dB)(l:List Int)(a:List Nat)(x:Nat):Gb T l (a ++ [x])=(Gb T l a).add (l.getD x 0) (T.par (l.getD x 0)):=by unfold Gb; rw[List.foldl_append]; rfl
def iY(l ll:List Int)(U:dB):Nat->dB
 | 0=>U
 | i+1=>if ll.getD i 0∈l then iY l ll U i else(iY l ll U i).add (ll.getD i 0) 0
section
variable {T U:dB} {l ll:List Int} {id pa k v:Int} {i j n:Nat}
theorem has_lt(t:U.ok)(h : ∀ k,U.has k=true->T.has k=true)(hx:T.has v=true)(o:U.has v=false):U.n<T.n:=by
 obtain⟨i,u,rfl⟩:=eT hx
 have r : ∀ j,∃ q,j<U.n->q<T.n/\T.x q=U.x j:=fun j=>by
  by_cases g:j<U.n
  ·obtain⟨q,c,d⟩:=eT (h _ (dB.vX g))
   exact⟨q,fun _=>⟨c,d⟩⟩
  ·exact⟨0,fun h=>absurd h g⟩
 obtain⟨f,l⟩:=Classical.axiomOfChoice r
 have:=xq T.n (U.n+1) (fun j=>if j=U.n then i else f j) (fun j g=>by
  show(if j=U.n then i else f j)<T.n
  split
  ·exact u
  ·exact(l j (by omega)).1) (fun a b w y e=>by
  have p : ∀ j,j<U.n->f j≠i:=fun j g e=>by
   have c:=(l j g).2
   rw[e]at c
   rw[c,dB.vX g]at o; cases o
  have e:(if a=U.n then i else f a)=(if b=U.n then i else f b):=e
  by_cases c:a=U.n
  ·by_cases d:b=U.n
   ·omega
   ·rw[if_pos c,if_neg d]at e; exact absurd e.symm (p b (by omega))
  ·by_cases d:b=U.n
   ·rw[if_neg c,if_pos d]at e; exact absurd e (p a (by omega))
   ·rw[if_neg c,if_neg d]at e
    have m:=(l a (by omega)).2
    have s:=(l b (by omega)).2
    rw[e]at m
    exact t.inj a b (by omega) (by omega) (m.symm.trans s))
 omega
theorem N7(p:U.ok)(h : ∀ k,U.has k=true->T.has k=true):U.n<=T.n:=by
 have l : ∀ j,∃ q,j<U.n->q<T.n/\T.x q=U.x j:=fun j=>by
  by_cases i:j<U.n
  ·obtain⟨q,m,o⟩:=eT (h _ (dB.vX i))
   exact⟨q,fun _=>⟨m,o⟩⟩
  ·exact⟨0,fun h=>absurd h i⟩
 obtain⟨f,c⟩:=Classical.axiomOfChoice l
 exact xq T.n U.n f (fun q r=>(c q r).1) fun a b d g e=>p.inj a b d g (by rw[<- (c a d).2,<- (c b g).2,e])
structure BwI(T U:dB)(l:List Int)(j:Nat):Prop where
 ok:U.ok
 sub:oG U T
 has : ∀ x,l.length-j<=x->x<l.length->U.has (l.getD x 0)=true
 only : ∀ k,U.has k=true->k∈l
theorem N8(a:T.ok)(hi:i<T.n):0<=T.x i/\T.x i<=18446744073709551615:=by have:=a.pos i hi; omega
theorem Qm(U:dB)(id pa k:Int)(h:(U.add id pa).has k=true):U.has k=true\/k=id:=by
 unfold dB.add at h
 split at h
 ·rw[dB.iO,Bool.or_eq_true]at h
  rcases h with h|h
  ·exact .inl h
  exact .inr (of_decide_eq_true h).symm
 exact .inl h
theorem N9(a:T.ok)(e:l=T.path pa) : ∀ j,j<=l.length->BwI T (Gb T l (Bb l.length j)) l j
 | 0,_=>⟨wO.zero _ _,oG.zero T,fun x g c=>by omega,fun k h=>nomatch h⟩
 | j+1,hj=>by
   have d:=N9 a e j (by omega)
   have m:l.length-1-j<l.length:=by omega
   have t:T.has (l.getD (l.length-1-j) 0)=true:=dB.Hy a e m
   obtain⟨i,f,b⟩:=eT t
   have n:T.par (l.getD (l.length-1-j) 0)=T.p i:=by rw[<- b]; exact dB.Fz a f
   show BwI T (Gb T l (Bb l.length j ++ [l.length-1-j])) l (j+1)
   rw[Al,n,<- b]
   have s:T.p i=0\/(Gb T l (Bb l.length j)).has (T.p i)=true:=by
    by_cases r:l.length-1-j+1=l.length
    ·exact .inl (dB.Ql (aq:=i+1) a e r f b)
    ·have c:=dB.Qk (aq:=i+1) a e (show l.length-1-j+1<l.length by omega) f b
     have c:T.p i=l.getD (l.length-1-j+1) 0:=c
     right
     rw[c]
     exact d.has _ (by omega) (by omega)
   obtain⟨u,v,w⟩:=oG.add a d.ok d.sub f s
   refine⟨dB.Dm d.ok (N8 a f),u,fun x g c => ?_,fun k q => ?_⟩
   ·by_cases o:x=l.length-1-j
    ·rw[o,<- b]; exact v
    ·exact w _ (d.has x (by omega) c)
   ·rcases Qm _ _ _ _ q with g|rfl
    ·exact d.only k g
    ·rw[b]
     rw[List.getD_eq_getElem?_getD,List.getElem?_eq_getElem m]; exact List.getElem_mem m
structure RtI(T U:dB)(l ll:List Int)(i:Nat):Prop where
 ok:U.ok
 sub : ∀ k,U.has k=true->T.has k=true
 par : ∀ k,k∈l->U.has k=true/\U.par k=T.par k
 has : ∀ q,q<i->q<ll.length->U.has (ll.getD q 0)=true
 only : ∀ k,U.has k=true->k∈l \/ ∃ q,q<i/\q<ll.length/\ll.getD q 0=k
theorem Vi(d:ll.Pairwise (· < ·)){a b:Nat}(ha:a<ll.length)(c:b<ll.length)(e:ll.getD a 0=ll.getD b 0):a=b:=by
 rw[List.getD_eq_getElem?_getD,List.getD_eq_getElem?_getD,List.getElem?_eq_getElem ha,List.getElem?_eq_getElem c]at e
 have e:ll[a]=ll[b]:=e
 rcases Nat.lt_trichotomy a b with h1|h1|h1
 ·have:=List.pairwise_iff_getElem.1 d a b ha c h1; omega
 ·exact h1
 have:=List.pairwise_iff_getElem.1 d b a c ha h1; omega
theorem Oa(d:T.ok)(g:ll.Pairwise (· < ·) /\ ∀ k,k∈ll<->T.has k=true)(n:RtI T U l ll 0) : ∀ i,i<=ll.length->RtI T (iY l ll U i) l ll i
 | 0,_=>n
 | i+1,hi=>by
   have b:=Oa d g n i (by omega)
   unfold iY
   have s:ll.getD i 0∈ll:=by rw[List.getD_eq_getElem?_getD,List.getElem?_eq_getElem (by omega)]; exact List.getElem_mem _
   have f:=(g.2 _).1 s
   by_cases c:ll.getD i 0∈l
   ·rw[if_pos c]
    refine⟨b.ok,b.sub,b.par,fun q v h => ?_,fun k a => ?_⟩
    ·by_cases e:q=i
     ·rw[e]; exact(b.par _ c).1
     ·exact b.has q (by omega) h
    ·rcases b.only k a with h1|⟨q,h1,h2,h3⟩
     ·exact .inl h1
     ·exact .inr ⟨q,by omega,h2,h3⟩
   ·rw[if_neg c]
    obtain⟨z,r,m⟩:=eT f
    have o:=N8 d r
    rw[m]at o
    have u:=d.pos z r
    rw[m]at u
    have p:(iY l ll U i).has (ll.getD i 0)=false:=by
     cases hh:(iY l ll U i).has (ll.getD i 0)with
     | false=>rfl
     | true =>
       rcases b.only _ hh with h1|⟨q,h1,h2,h3⟩
       ·exact absurd h1 c
       ·have:=Vi g.1 h2 (by omega) h3; omega
    have w:=has_lt b.ok b.sub f p
    have x:=d.small
    have j:(iY l ll U i).err (ll.getD i 0) 0=0:=by
     rw[dB.Vh (by omega) (.inl rfl),if_neg (by rw[p]; decide),if_neg]
     rw[dB.Vg b.ok]
     rintro (h1|h1)
     ·omega
     ·simp at h1
    rw[dB.zm j]
    have t : ∀ k,k∈l -> ¬ ll.getD i 0=k:=fun k a e=>c (e ▸ a)
    refine⟨by have:=dB.Dm (pa:=0) b.ok o; rwa [dB.zm j]at this,fun k a => ?_,fun k a => ?_,fun q v h => ?_,fun k a => ?_⟩
    ·rw[dB.iO,Bool.or_eq_true]at a
     rcases a with a|a
     ·exact b.sub k a
     ·rw[<- of_decide_eq_true a]; exact f
    ·rw[dB.iO,dB.pU,if_neg (t k a),(b.par k a).1,Bool.true_or]
     exact⟨rfl,(b.par k a).2⟩
    ·rw[dB.iO]
     by_cases e:q=i
     ·rw[e,decide_eq_true rfl,Bool.or_true]
     ·rw[b.has q (by omega) h,Bool.true_or]
    ·rw[dB.iO,Bool.or_eq_true]at a
     rcases a with a|a
     ·rcases b.only k a with h1|⟨q,h1,h2,h3⟩
      ·exact .inl h1
      ·exact .inr ⟨q,by omega,h2,h3⟩
     ·exact .inr ⟨i,by omega,by omega,of_decide_eq_true a⟩
theorem Cr(c : ∀ k,U.has k=T.has k) : ∀(d:Nat) (k:Int),(∀ q,q∈ig T.x T.p T.n d k->U.par q=T.par q)->ig U.x U.p U.n d k=ig T.x T.p T.n d k
 | 0,_,_=>rfl
 | d+1,k,h=>by
   have a:dD U.x U.n k=dD T.x T.n k:=c k
   cases hk:dD T.x T.n k with
   | false=>rw[jm hk,jm (a.trans hk)]
   | true =>
     have b:ig T.x T.p T.n (d+1) k=k::ig T.x T.p T.n d (fI T.x T.p T.n k):=by show(if _ then _ else _)=_; rw[if_pos hk]
     have e:ig U.x U.p U.n (d+1) k=k::ig U.x U.p U.n d (fI U.x U.p U.n k):=by show(if _ then _ else _)=_; rw[if_pos (a.trans hk)]
     rw[b]at h
     have f:fI U.x U.p U.n k=fI T.x T.p T.n k:=h k (List.mem_cons_self ..)
     rw[b,e,f,Cr c d _ fun q g=>h q (List.mem_cons_of_mem _ g)]
theorem Qo(i:T.ok)(e:l=T.path pa)(m:ll.Pairwise (· < ·) /\ ∀ k,k∈ll<->T.has k=true):(iY l ll (Gb T l (Bb l.length l.length)) ll.length).err id pa=T.err id pa:=by
 have d:=N9 i e l.length (Nat.le_refl _)
 have t : ∀ k,k∈l -> ∃ x,x<l.length/\l.getD x 0=k:=fun k a=>by
  obtain⟨x,h,r⟩:=List.getElem_of_mem a
  exact⟨x,h,by rw[List.getD_eq_getElem?_getD,List.getElem?_eq_getElem h]; exact r⟩
 have s:RtI T (Gb T l (Bb l.length l.length)) l ll 0:=⟨d.ok,d.sub.has,fun k a=>by
  obtain⟨x,h,rfl⟩:=t k a
  have:=d.has x (by omega) h
  exact⟨this,d.sub.par _ this⟩,fun q b=>by omega,fun k a => .inl (d.only k a)⟩
 have c:=Oa i m s ll.length (Nat.le_refl _)
 generalize iY l ll (Gb T l (Bb l.length l.length)) ll.length=V at c
 have g : ∀ k,V.has k=T.has k:=fun k=>by
  cases f:T.has k with
  | false =>
    cases j:V.has k with
    | false=>rfl
    | true=>rw[c.sub k j]at f; cases f
  | true =>
    obtain⟨q,b,o⟩:=List.getElem_of_mem ((m.2 k).2 f)
    have:=c.has q b b
    rw[List.getD_eq_getElem?_getD,List.getElem?_eq_getElem b]at this
    rw[<- o]; exact this
 have u:V.n=T.n:=by
  have f:=N7 c.ok c.sub
  have j:=N7 i (fun k a=>by rw[g]; exact a : ∀ k,T.has k=true->V.has k=true)
  omega
 have v:V.path pa=T.path pa:=Cr g 4 pa fun q b=>(c.par q (by rw[e]; exact b)).2
 show nu V.x V.p V.n id pa=nu T.x T.p T.n id pa
 unfold nu
 have w:ig V.x V.p V.n 4 pa=ig T.x T.p T.n 4 pa:=v
 rw[show dD V.x V.n id=dD T.x T.n id from g id,show dD V.x V.n pa=dD T.x T.n pa from g pa,w,u]
end
end Rt
end Go.Proofs.YtcbedgfikejkoaaDoor
namespace Go.Proofs.YtcbedgfikejkoaaDoor
open Go.RowKit Go
set_option linter.unusedVariables false
namespace Fx
abbrev rZ:=Exit->(Nat->Value)->List Deferred->World->Prop
def Ob(n:Nat)(Q:rZ):Exit->Act->World->Prop:=fun e a w => ∃ f,uT a n f/\Q e f a.defers w
def W0(ro:Option Nat)(m:Nat)(P:Program)(n:Nat)(c:Code)(Q:rZ)(f:Nat->Value)(ds:List Deferred)(w:World):Prop := ∀ a,uT a n f->a.defers=ds->c.wpIn (FR ro) m P (Ob n Q) a w
def Oc(ro:Option Nat)(m:Nat)(P:Program)(n:Nat)(y:Code)(Q:rZ):rZ:=fun e f ds w=>match e with | .normal=>W0 ro m P n y Q f ds w|e=>Q e f ds w
def vZ(id:Nat)(Q:rZ):rZ:=fun e f ds w=>match e with | .exit id'=>if id'=id then Q .normal f ds w else Q (.exit id') f ds w|e=>Q e f ds w
def HY(I:(Nat->Value)->World->Prop)(b:(Nat->Value)->World->Nat)(k:Nat)(ds:List Deferred)(Q:rZ):rZ:=fun e f a w=>match e with | .normal=>a=ds/\I f w/\b f w<k|e=>Q e f a w
section
variable {ro:Option Nat} {m:Nat} {ds:List Deferred} {P:Program} {n:Nat} {Q:rZ} {f:Nat->Value} {w:World}
theorem W0.seq{x y:Code}(h:W0 ro m P n x (Oc ro m P n y Q) f ds w):W0 ro m P n (.seq x y) Q f ds w:=fun a i j =>
 wpIn_seq (wpIn_mono (h a i j) fun e d w' b=>by
  obtain⟨g,c,b⟩:=b
  cases e <;> first|exact b d c rfl|exact⟨g,c,b⟩)
theorem W0.skip(h:Q .normal f ds w):W0 ro m P n .skip Q f ds w:=fun _ a b=>wpIn_skip ⟨f,a,b ▸ h⟩
theorem W0.ret(h:Q .ret f ds w):W0 ro m P n .ret Q f ds w:=fun _ a b=>wpIn_ret ⟨f,a,b ▸ h⟩
theorem W0.exit{id:Nat}(h:Q (.exit id) f ds w):W0 ro m P n (.exit id) Q f ds w:=fun _ a b=>wpIn_exit ⟨f,a,b ▸ h⟩
theorem W0.block{id:Nat}{c:Code}(h:W0 ro m P n c (vZ id Q) f ds w):W0 ro m P n (.block id c) Q f ds w:=fun a i j =>
 wpIn_block (wpIn_mono (h a i j) fun e k w' b=>by
  obtain⟨d,g,b⟩:=b
  cases e <;> first
   | exact⟨d,g,b⟩
   | (simp only[vZ]at b; simp only[Exit.inBlock]; split at b <;> rename_i hid <;> simp only[hid,if_true,if_false] <;> exact⟨d,g,b⟩))
theorem W0.cond{c:Operand}{x y:Code}{b:Bool}(h:ev f c = .bool b)(j:b=true->W0 ro m P n x Q f ds w)(i:b=false->W0 ro m P n y Q f ds w):W0 ro m P n (.cond c x y) Q f ds w:=fun a d g =>
 wpIn_cond_split (t:=b) (by rw[d.ev]; exact h) (fun e=>j e a d g) (fun e=>i e a d g)
theorem W0.loop{c:Code}(I:(Nat->Value)->World->Prop)(k:(Nat->Value)->World->Nat)(r:I f w)(hr : ∀ f w,I f w->W0 ro m P n c (HY I k (k f w) ds Q) f ds w):W0 ro m P n (.loop c) Q f ds w:=fun a s h =>
 wpIn_loop (fun a w => ∃ f,uT a n f/\a.defers=ds/\I f w) (fun a w=>k (fun i=>a.tmps.getD i undef) w) ⟨f,s,h,r⟩ (fun a w g=>by
  obtain⟨f,l,h,g⟩:=g
  have e:(fun i=>a.tmps.getD i undef)=f:=funext l.get
  refine wpIn_mono (hr f w g a l h)<|fun p o w' b => ?_
  obtain⟨d,j,b⟩:=b
  cases p <;> first
   | exact⟨d,j,b⟩
   | (have q:(fun i=>o.tmps.getD i undef)=d:=funext j.get
      exact⟨⟨d,j,b.1,b.2.1⟩,by rw[e,q]; exact b.2.2⟩))
theorem W0.list{id:Nat}{ops:List Oper}(h:L P n ops.toArray (fun e f w=>Q e f ds w) ops f w)(k:ops.all iI=true:=by rfl):W0 ro m P n (.region id ops.toArray false) Q f ds w:=fun a i j =>
 BM i h k fun e l w' ⟨b,c,d,g⟩=>⟨b,c,by rw[d,j]; exact g⟩
theorem lQ{y:Code}(h:W0 ro m P n y Q f ds w):Oc ro m P n y Q .normal f ds w:=h
theorem Yx{id:Nat}{y:Code}(h:Q (.exit id) f ds w):Oc ro m P n y Q (.exit id) f ds w:=h
theorem FC{id:Nat}(h:Q .normal f ds w):vZ id Q .normal f ds w:=h
theorem Yy{id:Nat}(h:Q .normal f ds w):vZ id Q (.exit id) f ds w:=by simp only[vZ,if_true]; exact h
theorem acg{I:(Nat->Value)->World->Prop}{a:(Nat->Value)->World->Nat}{k id:Nat}(h:Q (.exit id) f ds w):HY I a k ds Q (.exit id) f ds w:=h
theorem Yz{I:(Nat->Value)->World->Prop}{a:(Nat->Value)->World->Nat}{k:Nat}(h:I f w)(b:a f w<k):HY I a k ds Q .normal f ds w:=⟨rfl,h,b⟩
def SC(P:Program)(m:Nat)(b:Func)(R:Ending->World->Prop):rZ:=fun e f ds w => ∀ a,uT a b.ntmps f->a.defers=ds->bodyPostM (FR none) m P b R e a w
theorem Vj{g:FuncId}{b:Func}{c:Code}{args:Array Value}{R:Ending->World->Prop}(m:Nat)(k:P.funcs[g]? = some b)(j:b.body=some c)(f:b.ntmps=n)(ha:Nat.ble args.size n=true)(h:W0 none m P n c (SC P m b R) (start args) [] w):Calls P g args w R:=by
 have q:args.size<=n:=Nat.le_of_ble_eq_true ha
 refine(callsIn_wide (n:=m)).1 (callsIn_of_wp_marks (F:=FR none) k j trivial ?_ rfl)
 refine wpIn_mono (h _ ⟨?_,?_⟩ rfl) fun e a w' ⟨p,l,o⟩=>o a (by rw[f]; exact l) rfl
 ·simp[f]; omega
 intro i
 simp only[start,Array.getD_eq_getD_getElem?,Array.getElem?_append,Array.getElem?_replicate]
 by_cases d:i<args.size
 ·simp[d]
 rw[if_neg d]
 split
 ·rw[Array.getElem?_eq_none (by omega)]; rfl
 rw[Array.getElem?_eq_none (by omega)]
theorem leaveD{b:Func}{R:Ending->World->Prop}{D:Nat}{v:Value}(c:w.heap[D]? = some (.deferred (some [])))(h:(uY b f).run P (w.putObj D (.deferred none)) = .ok v (w.putObj D (.deferred none)))(d:R (.returned v) (w.putObj D (.deferred none))) :
 SC P m b R .ret f [{ target := .collected D,args := #[] }] w:=fun a e g=>leave1 e g c h d
variable {ops:List Oper} {cs:List Nat} {S:World->World->Prop}
theorem R.YA(T:jh n ops=true)(hsel:Region.noSelect ops.toArray=true)(aa:ops.all iI=true)(hS : ∀ w,S w w)(hT : ∀ a b c,S a b->S b c->S a c){eO:List (Nat × Nat × List Nat)} : ∀(k:Nat) (u:List Nat) (p:Array Bool) (a:Act) (f:Nat->Value) (w:World),u.length=k->p.size=ops.length->D8 ops.toArray .any p ->
 (∀ i,i∈u<->i<ops.length/\p.getD i false=false)->u.Nodup->(u.Pairwise fun i j=>lI ops cs eO i j=true)->uT a n f->a.defers=ds->R P n ops cs S (fun e f w=>Q e f ds w) u f w->wpAnyIn (FR ro) m P .any ops.toArray (Ob n Q) k p a w:=by
 intro k
 induction k with
 | zero =>
   intro u p a f w F ac J x G H A L h
   have:u = []:=List.eq_nil_of_length_eq_zero F
   subst this
   refine⟨?_,f,A,by rw[L]; exact h⟩
   rw[List.eq_nil_iff_forall_not_mem]
   intro j E
   obtain⟨z,s,_,_⟩:=dP E
   exact absurd ((x j).2 ⟨s,z⟩) (by simp)
 | succ k ih =>
   intro u p a f w F ac J x G H A L h
   refine⟨fun hr => ?_,fun j E => ?_⟩
   ·cases u with
    | nil=>simp at F
    | cons r aaQ =>
      exfalso
      obtain⟨z,s⟩:=(x r).1 (List.mem_cons_self ..)
      have:r∈Region.ready .any ops.toArray p:=by
       refine mem_ready.2 ⟨getD_in (by omega) s,opAt ops r,by unfold opAt; rw[List.getElem?_toArray,List.getD_eq_getElem?_getD,List.getElem?_eq_getElem z]; rfl,fun e M C => ?_⟩
       have B:bS (opAt ops r) e.on=true:=by
        unfold bS; rw[Array.any_eq_true']; exact⟨e,M,by rw[C,Nat.beq_refl]; rfl⟩
       have hlt:=(dN T z).2.2.2 e.on B
       cases hle:p.getD e.on false with
       | true=>rfl
       | false =>
         have g:=(x e.on).2 ⟨by omega,hle⟩
         rcases List.mem_cons.1 g with e1|e1
         ·omega
         ·have o:=(List.pairwise_cons.1 H).1 _ e1
          unfold lI at o
          rw[B]at o; simp at o
      rw[hr]at this; simp at this
   ·obtain⟨z,s,W,X⟩:=dP E
    have hjm:=(x j).2 ⟨s,z⟩
    obtain⟨t,y,rfl⟩:=List.append_of_mem hjm
    have C:=bubble (P:=P) (cs:=cs) (S:=S) (Q:=fun e f w=>Q e f ds w) T hsel hS hT s (l:=y) t (fun i N=>by
     obtain⟨h5,Y⟩:=(x i).1 (List.mem_append_left _ N)
     have O:i≠j:=fun e=>by
      subst e
      exact(List.nodup_append.1 G).2.2 i N i (List.mem_cons_self ..) rfl
     have o:lI ops cs eO i j=true:=(List.pairwise_append.1 H).2.2 i N j (List.mem_cons_self ..)
     unfold lI at o
     rw[Bool.and_eq_true,Bool.or_eq_true]at o
     have TJ:bS (opAt ops j) i=false:=by
      cases hq:bS (opAt ops j) i with
      | false=>rfl
      | true=>have:=X i hq; rw[Y]at this; cases this
     refine⟨h5,O,TJ,by simpa using o.1,?_⟩
     rcases o.2 with o|o
     ·rw[Bool.and_eq_true,Bool.or_eq_true]at o
      refine⟨o.1,?_⟩
      rcases o.2 with q|q
      ·rw[Bool.or_eq_true]at q
       exact q.elim (fun q => .inl (Nat.eq_of_beq_eq_true q)) (fun q => .inr (.inl q))
      ·rw[Bool.and_eq_true]at q
       exact .inr (.inr ⟨Nat.eq_of_beq_eq_true q.1,Nat.eq_of_beq_eq_true q.2⟩)
     ·exfalso
      rw[List.any_eq_true]at o
      obtain⟨c,_,Z⟩:=o
      rw[Bool.and_eq_true,Bool.and_eq_true]at Z
      obtain⟨m,g⟩:=fV Z.2
      cases m with
      | zero=>unfold reach at g; simp at g; exact O g.symm
      | succ m =>
        unfold reach at g
        rw[Bool.or_eq_true]at g
        rcases g with g|g
        ·simp at g; exact O g.symm
        ·rw[W]at g
         simp only at g
         rw[Array.any_eq_true']at g
         obtain⟨e,M,g⟩:=g
         rw[Bool.and_eq_true]at g
         have B:bS (opAt ops j) e.on=true:=by
          unfold bS; rw[Array.any_eq_true']; exact⟨e,M,by rw[g.1,Nat.beq_refl]; rfl⟩
         have:=J.reach _ _ g.2 (X e.on B)
         rw[Y]at this; cases this) f w h
    have hperm:(t++y).length=k:=by simp at F ⊢; omega
    have hnd':(t++y).Nodup:=by
     refine G.sublist ?_
     exact List.Sublist.append_left (List.sublist_cons_self ..) t
    have TK:(t++y).Pairwise fun i j=>lI ops cs eO i j=true:=H.sublist (List.Sublist.append_left (List.sublist_cons_self ..) t)
    have hmem' : ∀ i,i∈t++y<->i<ops.length/\(p.setIfInBounds j true).getD i false=false:=fun i=>by
     by_cases e:j=i
     ·subst e
      rw[set_self (by omega)]
      constructor
      ·intro g
       exfalso
       have D:=List.nodup_append.1 G
       rcases List.mem_append.1 g with q|q
       ·exact D.2.2 j q j (List.mem_cons_self ..) rfl
       ·exact(List.nodup_cons.1 D.2.1).1 q
      ·intro q; cases q.2
     ·rw[iL e,<- x i]
      simp only[List.mem_append,List.mem_cons]
      constructor
      ·rintro (q|q)
       ·exact .inl q
       ·exact .inr (.inr q)
      ·rintro (q|q|q)
       ·exact .inl q
       ·exact absurd q.symm e
       ·exact .inr q
    have U : ∀(v:Value) (w':World),R P n ops cs S (fun e f w=>Q e f ds w) (t++y) (put f (opAt ops j).dst v) w'->wpAnyIn (FR ro) m P .any ops.toArray (Ob n Q) k (p.setIfInBounds j true) (a.put (opAt ops j).dst v) w':=fun v w' hR =>
     ih (t++y) _ _ _ w' hperm (by simp[ac]) (J.set E) hmem' hnd' TK (A.put (by
      cases D:(opAt ops j).dst with
      | none=>rfl
      | some d=>have:=((dN T s).1 d D).2; simpa [inn,Nat.blt_eq] using this) v) (by rw[put_defers]; exact L) hR
    have ab:iI (opAt ops j)=true:=by
     rw[List.all_eq_true]at aa
     refine aa _ ?_
     unfold opAt
     rw[List.getD_eq_getElem?_getD,List.getElem?_eq_getElem s]
     exact List.getElem_mem s
    unfold wpOpIn
    rw[W]
    simp only
    rw[A.yf]
    unfold R at C
    rcases C with ⟨I,V⟩|⟨I,⟨V,v,q3,q4⟩|⟨V,q3⟩⟩
    ·rw[if_neg (by rw[I]; decide)]; exact⟨fun _ _=>trivial,U _ _ V⟩
    ·rw[if_pos I]
     refine Out.wpIn (K:=fun v' w'=>v'=v/\w'=w) A ab (.inl ⟨v,w,q3 w (.inr (.inr rfl)),rfl,rfl⟩) ?_
     rintro v' w' ⟨rfl,rfl⟩
     exact U _ _ q4
    ·rw[if_pos I]
     exact Out.wpIn A ab q3 fun v w' hk=>U v w' hk.2
theorem W0.YB{f:Nat->Value}{w:World}{id:Nat}(l:List Nat)(cs:List Nat)(S:World->World->Prop)(o : ∀ w,S w w)(p : ∀ a b c,S a b->S b c->S a c)(eO:List (Nat × Nat × List Nat))(x:P.follows .mixedOrders=true)(z:jh n ops=true)(B:Region.noSelect ops.toArray=true)(g:uz ops l=true)(A:pF ops cs eO l=true)
 (h : ∀ j,Below w.heap.size w j->j.heap.size=w.heap.size->R P n ops cs S (fun e f w=>Q e f ds w) l f j) (y:ops.all iI=true:=by rfl):W0 ro m P n (.region id ops.toArray true) Q f ds w:=fun a q r=>by
 refine wpIn_region_any x ?_
 unfold uz at g
 rw[Bool.and_eq_true,Bool.and_eq_true,Bool.and_eq_true,List.all_eq_true,List.all_eq_true]at g
 obtain⟨⟨⟨C,D⟩,p3⟩,p4⟩:=g
 have v:=Nat.eq_of_beq_eq_true C
 have E:l.Nodup:=of_decide_eq_true p3
 have:=R.YA (ro:=ro) (m:=m) (ds:=ds) (P:=P) (Q:=Q) (eO:=eO) z B y o p ops.length l (Array.replicate ops.length false) a f { w with drawn:=w.drawn+1 } v (by simp) (D8.start _ _ _) (fun i=>by
  have s : ∀ i,(Array.replicate ops.length false).getD i false=false:=fun i=>getD_replicate_false _ _
  constructor
  ·intro d; exact⟨by simpa [Nat.blt_eq] using D i d,s i⟩
  ·intro d
   obtain⟨k,t,u⟩:=List.any_eq_true.1 (p4 i (by simpa using d.1))
   rw[Nat.eq_of_beq_eq_true u]; exact t) E (pG A) q r (h { w with drawn:=w.drawn+1 } (Below.refl _ _).drew rfl)
 simpa using this
end
end Fx
namespace SE
def Jy{b:Type}(J:b->World->Prop):Prop := ∀ s W a,J s W->W.grownBy a none->J s a
def Vk{d:Type}(F:Fence)(n:Nat)(P:Program)(g:Nat)(lb:Array Value)(j:d->Array Value)(i:World->World->Prop)(S:List d->Prop)(N:Nat)(h:World->Prop):Prop :=
 ∀(l:Nat) (J:List d->World->Prop) (W:World),h W->Jy J ->
  (∀ c x b,J c b->c.length<N->YieldAt F (n-1) P l (j x) b fun e a=>e = .returned (.bool true)/\J (c ++ [x]) a/\i b a) ->
  J [] W ->
  CallsIn F n P g (#[.func (.yield l) #[] #[]]++lb) W fun e a=>(∃ v,e = .returned v) /\ ∃ f,S f/\J f a
def HZ{c:Type}(B:Nat)(I:c->World->Prop):Prop :=
 ∀ s W a b,I s W->W.grownBy a b->(∀ r,b=some r->B<=r /\ ∃ o:Obj,W.heap[r]? = some o/\o.isCells=false)->I s a
variable {F:Fence} {n:Nat} {P:Program}
theorem HZ.putObj{a:Type}{B:Nat}{I:a->World->Prop}(h:HZ B I){s:a}{W:World}{l:Nat}{o:Obj}(o':Obj)(f:I s W)(b:B<=l)(c:W.heap[l]? = some o)(d:o.isCells=false):I s (W.putObj l o') :=
 h s W _ (some l) f (grownBy_putObj' W l o') (fun r e=>by cases e; exact⟨b,o,c,d⟩)
theorem HZ.alloc{a:Type}{B:Nat}{I:a->World->Prop}(h:HZ B I){s:a}{W:World}(o:Obj)(b:I s W):I s (W.alloc o) :=
 h s W _ none b (World.grownBy_alloc W o none) (fun r e=>by cases e)
def KeepsFrom(B:Nat)(W a:World):Prop:=W.heap.size<=a.heap.size /\ ∀ k,B<=k->k<W.heap.size->a.heap[k]? = W.heap[k]?
def YC{a:Type}(B:Nat)(b:World->World->Prop)(I:List a->World->Prop)(c:List a)(W:World):Exit->Act->World->Prop
 | .normal,_,W'=>KeepsFrom B W W'/\b W W'/\I c W'
 | _,_,_=>False
theorem yN{α:Type}{g:Operand}{ps:Array Tmp}{assign body:Code}{Q:Exit->Act->World->Prop}{a:Act}{w:World}
 (hro:F.round=none) (h1:1<=n) {gf:Nat} {lb:Array Value} (hg:a.eval g = .func (.func gf) #[] lb) (hFg:F.fn gf) (eg : ∀ args w,(callFunc gf args).run P w = .ok (.enter gf args) w)
 {encs:α->Array Value} {Kp:World->World->Prop} {S:List α->Prop} {N:Nat} {Ip:World->Prop} (hseq:Vk F (n-1) P gf lb encs Kp S N Ip)
 (hIp:Ip w) (Gw : ∀ W o,w.heap.size<=W.heap.size->Ip W->Ip (W.alloc o))
 (hKt : ∀ {A B C:World},Kp A B->Kp B C->Kp A C) (hKb : ∀(W:World) (l:Nat) (o o':Obj),w.heap.size<=l->W.heap[l]? = some o->o.isCells=false->Kp W (W.putObj l o')) (hps : ∀ x,(encs x).size=ps.size)
 (I:List α->World->Prop) (hI:HZ w.heap.size I) (h0:I [] w) (A₁:α->Act->Prop)
 (hassign : ∀(l:Nat) (x:α) (W:World),assign.wpIn (F.inRound l) (n-1-1) P (Exit.then (fun a' W'=>A₁ x a'/\W'=W) (fun _ _ _=>False)) { tmps:=(ps.zip (encs x)).foldl (fun t (p,v)=>t.setIfInBounds p v) a.tmps,defers := [] } W)
 (hbody : ∀(l:Nat) (pre:List α) (x:α) (W:World) (a':Act),A₁ x a'->I pre W->pre.length<N->w.heap.size<=W.heap.size->body.wpIn (F.inRound l) (n-1-1) P (YC w.heap.size Kp I (pre ++ [x]) W) a' W)
 (hdone : ∀(D:Nat) (xs:List α) (W:World),w.heap.size<=D->S xs->I xs W->W.heap[D]? = some (.deferred (some []))->Q .normal { a with defers := { target := .collected D,args := #[] }::a.defers } W) :
 (Code.rangeFunc g ps assign body).wpIn F n P Q a w:=by
 refine wpIn_rangeFunc ?_
 intro fn hfn
 rw[hro]
 obtain⟨rec,hrec⟩ : ∃ rec:LoopState->Option Code->Loop,rec=fun st pe => { state:=st,pending:=pe,fn,tmps:=a.tmps,params:=ps,assign,body,defers:=w.heap.size }:=⟨_,rfl⟩
 obtain⟨W1,hW1⟩ : ∃ W1,(w.alloc (.deferred (some []))).alloc (.loop (rec .ready none))=W1:=⟨_,rfl⟩
 have hL1:W1.heap[w.heap.size+1]? = some (.loop (rec .ready none)):=by
  rw[<- hW1]; have:=World.alloc_heap_new (w.alloc (.deferred (some []))) (.loop (rec .ready none)); rwa [World.size_alloc]at this
 have hK1:W1.heap[w.heap.size]? = some (.deferred (some [])):=by
  rw[<- hW1]; exact(Below.heap_alloc _ _ _ (by simp)).trans (World.alloc_heap_new w _)
 have hI1:I [] W1:=by rw[<- hW1]; exact hI.alloc _ (hI.alloc _ h0)
 have hp1:Ip W1:=by rw[<- hW1]; exact Gw _ _ (by simp) (Gw _ _ (Nat.le_refl _) hIp)
 refine⟨w.heap.size+1,[{ target := .collected w.heap.size,args := #[] }],W1,{ target := .fn (.func gf) lb,args := #[.func (.yield (w.heap.size+1)) #[] #[]] },W1,gf,
  #[.func (.yield (w.heap.size+1)) #[] #[]]++lb,W1,?_,?_,?_,?_,fun _=>h1,?_⟩
 ·rw[<- hW1,hrec]; exact run_enterLoop_outer _ _ _ _ _
 ·simp only[resolve,hg]
  simp[go_sem]
 ·intro f' hf'; simp[Target.leads]at hf'; subst hf'; exact hFg
 ·simp[invoke,go_sem,eg]
 refine(hseq (w.heap.size+1)
  (fun pre W=>I pre W/\W.heap[w.heap.size+1]? = some (.loop (rec .ready none))/\W.heap[w.heap.size]? = some (.deferred (some [])))
  W1 hp1
  (fun s A B hs hg'=>⟨hI s A B none hs.1 hg' (fun r e=>nomatch e),(hg'.block _ (Array.getElem?_eq_some_iff.1 hs.2.1).1 (fun e=>nomatch e)).trans hs.2.1,(hg'.block _ (Array.getElem?_eq_some_iff.1 hs.2.2).1 (fun e=>nomatch e)).trans hs.2.2⟩)
  ?_ ⟨hI1,hL1,hK1⟩).mono ?_
 ·-- one round
  rintro pre x W ⟨hi,hl,hk⟩ hlen
  have hlt:w.heap.size+1<W.heap.size:=(Array.getElem?_eq_some_iff.1 hl).1
  have hy:=run_yield (P:=P) (args:=encs x) hl (by rw[hrec]; exact hps x)
  rw[hrec]at hy
  refine⟨fn,_,assign,body,hy,roundIn_of_wpIn hfn (wpIn_mono (hassign _ x W) ?_)⟩
  rintro e1 a1 w1 hq1
  cases e1 with
  | exit id=>exact hq1.elim
  | goto t=>exact hq1.elim
  | ret=>exact hq1.elim
  | panic ch=>exact hq1.elim
  | outgrown=>exact hq1.elim
  | normal =>
  obtain⟨hA1,ew⟩:=hq1
  rw[ew]
  refine⟨_,run_beginRound hl (by rw[hrec]),?_⟩
  have hl2:(W.putObj (w.heap.size+1) (.loop { rec .ready none with state := .busy })).heap[w.heap.size+1]? = some (.loop { rec .ready none with state := .busy }):=World.putObj_heap_same hlt
  have hk2:(W.putObj (w.heap.size+1) (.loop { rec .ready none with state := .busy })).heap[w.heap.size]? = some (.deferred (some [])):=(World.putObj_heap_other (by omega)).trans hk
  have hw2:Kp W (W.putObj (w.heap.size+1) (.loop { rec .ready none with state := .busy })):=hKb _ _ _ _ (by omega) hl rfl
  refine wpIn_mono (hbody _ pre x _ a1 hA1 (hI.putObj _ hi (by omega) hl rfl) hlen (by simp; omega)) ?_
  rintro e a3 W3 hp
  cases e with
  | normal =>
    obtain⟨hk3,hkp3,hi3⟩:=hp
    have hl3:=(hk3.2 _ (by omega) (Array.getElem?_eq_some_iff.1 hl2).1).trans hl2
    have ach:=(hk3.2 _ (by omega) (Array.getElem?_eq_some_iff.1 hk2).1).trans hk2
    have hr:=run_endRound (P:=P) none hl3
    rw[hrec]at hr hl3
    refine⟨_,_,hr,rfl,⟨hI.putObj _ hi3 (by omega) hl3 rfl,?_,(World.putObj_heap_other (by omega)).trans ach⟩,hKt (hKt hw2 hkp3) (hKb _ _ _ _ (by omega) hl3 rfl)⟩
    rw[hrec]; exact World.putObj_heap_same (Array.getElem?_eq_some_iff.1 hl3).1
  | ret=>exact hp.elim
  | exit id=>exact hp.elim
  | goto t=>exact hp.elim
  | panic ch=>exact hp.elim
  | outgrown=>exact hp.elim
 rintro e W2 ⟨⟨v,rfl⟩,xs,hS,hi,hl,hk⟩
 exact⟨none,_,by have:=run_endLoop (P:=P) hl (by rw[hrec]; simp); rw[hrec]at this; exact this,hdone _ xs _ (Nat.le_refl _) hS (hI.putObj _ hi (by omega) hl rfl) ((World.putObj_heap_other (by omega)).trans hk)⟩
end SE
namespace Fx
theorem FD{a:Act}{n p q:Nat}{u v:Value}{f:Nat->Value}(h:uT a n f)(c:p<n)(g:q<n):uT { tmps:=(#[p,q].zip #[u,v]).foldl (fun t (p,v)=>t.setIfInBounds p v) a.tmps,defers := [] } n (put (put f (some p) u) (some q) v):=by
 have b:=(h.put (d:=some p) (by simpa [inn,Nat.blt_eq] using c) u).put (d:=some q) (by simpa [inn,Nat.blt_eq] using g) v
 have e:(#[p,q].zip #[u,v]).foldl (fun t (p,v)=>t.setIfInBounds p v) a.tmps=((a.put (some p) u).put (some q) v).tmps:=by simp[Array.zip,Act.put]
 rw[e]; exact⟨b.size,b.get⟩
theorem W0.Vl{P:Program}{n m:Nat}{Q:rZ}{f:Nat->Value}{ds:List Deferred}{w:World}{c:Type}{g:Operand}{p q:Tmp}{E G:Code}{gf:Nat}{lb:Array Value}(h1:1<=m)(hg:ev f g = .func (.func gf) #[] lb)(J : ∀ z w,(callFunc gf z).run P w = .ok (.enter gf z) w)
 {eu ev2:c->Value} {d:World->World->Prop} {S:List c->Prop} {N:Nat} {s:World->Prop} (hseq:SE.Vk (FR none) (m-1) P gf lb (fun x => #[eu x,ev2 x]) d S N s)
 (R:s w) (T : ∀ W o,w.heap.size<=W.heap.size->s W->s (W.alloc o)) (V : ∀ {A B C:World},d A B->d B C->d A C) (U : ∀(W:World) (l:Nat) (o o':Obj),w.heap.size<=l->W.heap[l]? = some o->o.isCells=false->d W (W.putObj l o')) (hp:p<n) (hq:q<n)
 (I:List c->World->Prop) (O:SE.HZ w.heap.size I) (L:I [] w) (A:c->(Nat->Value)->Prop)
 (X : ∀(l:Nat) (x:c) (W:World),W0 (some l) (m-1-1) P n E (fun e b H h=>e = .normal/\H = []/\A x b/\h=W) (put (put f (some p) (eu x)) (some q) (ev2 x)) [] W)
 (Y : ∀(l:Nat) (r:List c) (x:c) (W:World) (b:Nat->Value),A x b->I r W->r.length<N->w.heap.size<=W.heap.size->W0 (some l) (m-1-1) P n G (fun e K H h=>e = .normal/\SE.KeepsFrom w.heap.size W h/\d W h/\I (r ++ [x]) h) b [] W)
 (aa : ∀(D:Nat) (u:List c) (W:World),w.heap.size<=D->S u->I u W->W.heap[D]? = some (.deferred (some []))->Q .normal f ({ target := .collected D,args := #[] }::ds) W):W0 none m P n (.rangeFunc g #[p,q] E G) Q f ds w:=fun a t Z=>by
 refine SE.yN (F:=FR none) rfl h1 (by rw[t.ev]; exact hg) trivial J hseq R T V U (fun _=>rfl) I O L (fun x i => ∃ b,uT i n b/\i.defers = []/\A x b) ?_ ?_ ?_
 ·intro l x W
  refine wpIn_mono (X l x W _ (FD t hp hq) rfl) ?_
  rintro e i w' ⟨b,y,rfl,j,k,rfl⟩
  exact⟨⟨b,y,j,k⟩,rfl⟩
 ·rintro l r x W i ⟨b,y,j,k⟩ hi hl hs
  refine wpIn_mono (Y l r x W b k hi hl hs i y j) ?_
  rintro e a'' w' ⟨K,aiX,rfl,v⟩
  exact v
 ·intro D u W j k v M
  refine⟨f,⟨t.size,t.get⟩,?_⟩
  show Q .normal f (_::a.defers) W
  rw[Z]; exact aa D u W j k v M
end Fx
end Go.Proofs.YtcbedgfikejkoaaDoor
namespace Go.Proofs.YtcbedgfikejkoaaDoor
open Go.RowKit Rt
open Fx (eU dJ fu bf fq eZ dS dM fA gQ dH gT eP gD gU Lv sN Ln Ws Qv Wl Rp Wc Qs Wr Sb Lk Wk rC rV sR Rs Rn Rd Rk Wb Wx Wo yT Wt pE Qn AX uo xL yB xJ AZ AY gG yR jM nT tC A8 yA yP xQ yQ rv aA aL bC aI ev bT Stp bU aM flat fH Mp dL aV fC gI aX down fM iU ji jv bG bA cells_one jO aY nE unseen jk iT cu bW cB bY bZ iB iG qP gV)
set_option maxRecDepth 20000
namespace Rt
structure Jz(sb:Nat)(v:Value)(W W':World):Prop where
 size:W.heap.size<=W'.heap.size
 b:W'.heap[sb]? = W.heap[sb]?
 g : ∀ g,v.ownBlock=some g->W'.heap[g]? = W.heap[g]?
theorem Jz.trans{a:Nat}{v:Value}{A B C:World}(h:Jz a v A B)(k:Jz a v B C):Jz a v A C:=⟨Nat.le_trans h.size k.size,k.b.trans h.b,fun g c=>(k.g g c).trans (h.g g c)⟩
theorem Jz.put{a B:Nat}{v:Value}(e:a<B)(c : ∀ g,v.ownBlock=some g->g<B)(W:World)(l:Nat)(o o':Obj)(d:B<=l):Jz a v W (W.putObj l o'):=⟨by simp,World.putObj_heap_other (by omega),fun g b=>World.putObj_heap_other (by have:=c g b; omega)⟩
theorem Jz.wN{a b:Nat}{v:Value}{W c:World}(h:Stp b W c)(h1:a<W.heap.size)(f:a≠b)(e : ∀ g,v.ownBlock=some g->g<W.heap.size/\g≠b):Jz a v W c:=⟨h.size,h.block a h1 f,fun g d=>h.block g (e g d).1 (e g d).2⟩
theorem Vm{q n c s:Nat}{a:Option Addr}{x:Nat->Value}{W d:World}(l:jv W a n s x)(r:0<s)(k:Jz q (.slice a n c) W d):jv d a n s x:=fun h=>by
 obtain⟨b,p,e,m⟩:=l h
 refine⟨b,p,e,fun i o => ?_⟩
 have f:=m i o
 have j:=k.g b (by rw[e]; rfl)
 unfold World.cell? at f ⊢
 rw[j]; exact f
def BwP(b:Nat)(a:Option Addr)(n c:Nat)(l:List Int)(W:World):Prop:=aL W b 1 (fun _ => .slice a n c) 61/\jv W a n 1 (qJ l)
theorem BwP.alloc{f n c:Nat}{a:Option Addr}{l:List Int}{W:World}(h:BwP f a n c l W)(o:Obj):BwP f a n c l (W.alloc o) :=
 ⟨(Below.heap_alloc W o f h.1.lt).trans h.1,fun g=>by
   obtain⟨b,p,e,k⟩:=h.2 g
   refine⟨b,p,e,fun i m => ?_⟩
   have d:=k i m
   have j:=Below.heap_alloc W o b (block_lt_of_cell d)
   unfold World.cell? at d ⊢
   rw[j]; exact d⟩
theorem Od{h f B:Nat}{c:World}{F:List Nat->dB}(h1:h<c.heap.size)(j:f<c.heap.size):SE.HZ c.heap.size (fun(n:List Nat) W=>mM W B h f (F n)/\Stp f c W):=fun s W i o a b m=>by
 have g : ∀ k,k<c.heap.size->i.heap[k]? = W.heap[k]? := fun k d=>b.block k (Nat.lt_of_lt_of_le d a.2.size) fun e=>by
  have:=(m k e.symm).1; omega
 exact⟨mM.keep a.1 (g h h1) (g f j),⟨b.os.trans a.2.os,b.tape.trans a.2.tape,b.output.trans a.2.output,Nat.le_trans a.2.size b.size,fun k d l=>(g k d).trans (a.2.block k d l)⟩⟩
theorem Qp{w:World}{B E s n b m:Nat}{v:Value}{x:Nat->Value}{k:Nat->Int}{y:Nat->Value}(a:Fx.Own w B E s v n x)(d:Mp w b m k y){g:Nat}(c:v.ownBlock=some g):g<w.heap.size/\g≠b:=⟨(a.ge c).2,fun e=>d.mI (by rw[<- e]; exact a.ty c)⟩
theorem Vn{T:dB}{k:Int}(h : ∀ i,i<T.n->T.x i≠k):T.par k=0:=by
 have : ∀ n,(∀ i,i<n->T.x i≠k)->fI T.x T.p n k=0:=fun n=>by
  induction n with
  | zero=>exact fun _=>rfl
  | succ n ih=>exact fun h=>by unfold fI; rw[if_neg (h n (by omega))]; exact ih fun i a=>h i (by omega)
 exact this _ h
structure JB(J:List Nat->World->Prop)(pre:List Nat)(w:World):Prop where
 ab:SE.Jy J
 j:J pre w
end Rt
theorem acj(a:Option Addr)(n c:Nat)(w:World) :
 Calls Tryd.prog 132 #[.slice a (n) (c)] w fun e w' => ∃ d,e = .returned (.func (.func 144) #[] #[(pt d)])/\w.heap.size<=d/\aL w' d 1 (fun _ => .slice a n c) 61/\Below w.heap.size w w':=by
 refine Kent Tryd.func132 4 ?_
 refine ay<|qE (.slice a (n) (c)) fun b l h f j m => ?_
 have g:=aR j.old (Below.refl w.heap.size w)
 have i:=gY h
 have k:=f.lt
 refine av (.nilFunc)<|aD<|ay<|Lv (.func (.func 144) #[] #[(pt b)]) (Fx.jl (us := []) (vs := [(pt b)]) rfl rfl rfl)<|av (.func (.func 144) #[] #[(pt b)])<|aD<|Wr<|aN (.func (.func 144) #[] #[(pt b)]) ?_
 exact⟨b,rfl,i,f,g⟩
theorem YD(J:List Nat->World->Prop)(h d c:Nat)(a:Option Addr)(l:List Int)(w:World)(o:aL w d 1 (fun _ => .slice a (l.length) (c)) 61)(I:jv w a l.length 1 (qJ l))(n:JB J [] w)(U:l.length<=1000)
 (L : ∀ r x m,J r m->r.length<l.length->Go.YieldAt (Fx.FR none) 1 Tryd.prog h #[au (x:Nat),aC (l.getD x 0)] m fun e y=>e = .returned (.bool true)/\J (r ++ [x]) y/\Jz d (.slice a l.length c) m y) :
  Calls Tryd.prog 144 #[.func (.yield h) #[] #[],(pt d)] w fun e w'=>(∃ v,e = .returned v) /\ ∃ F,F=Bb l.length l.length/\J F w':=by
 have V:=o.lt
 have n:JB J (Bb l.length (l.length-l.length)) w:=by rw[Nat.sub_self]; exact n
 refine Kent Tryd.func144 19 ?_
 refine ay<|Lv (.slice a (l.length) (c)) (aP o.aJ 0)<|av (au l.length)<|Lv (au ((l.length:Int)-1)) jw<|av (au ((l.length:Int)-1))<|aD<|Wb<|Wo (fun f u => ∃ k:Nat,k<=l.length/\f 0 = .func (.yield h) #[] #[]/\f 1=(pt d)/\f 3=au ((k:Int)-1)/\aL u d 1 (fun _ => .slice a (l.length) (c)) 61/\jv u a l.length 1 (qJ l)/\JB J (Bb l.length (l.length-k)) u) (fun f _=>(intOf (f 3)+1).toNat) ⟨l.length,(Nat.le_refl _),(by rfl),(by rfl),Fx.ic,o,I,n⟩ ?_
 rintro S X ⟨k,T,A,B,g,D,E,p⟩
 refine Ws<|ay<|aS g ?_
 by_cases z:0<=((k:Int)-1)
 ·refine Lv aG (qD z)<|aD<|aQ<|Wk<|sN<|Ws<|Wb<|Ws<|Fx.W.RX 2<|Fx.Ly.v (.func (.yield h) #[] #[]) (eU rfl A) ?_
  refine Fx.Ly.v (au ((k:Int)-1)) (eU rfl g) ?_
  refine Fx.Ly.v (.slice a (l.length) (c)) (bf (x:=fun _ => .slice a (l.length) (c)) rfl B (by kernel_rfl) D.aJ (i:=0) (by omega) (by omega) rfl) ?_
  refine Fx.Ly.v (au ((k:Int)-1)) (eU rfl g) ?_
  obtain⟨G,Q,H,M⟩:=E (by omega)
  refine Fx.Ly.v ((pf G (k+Q-1))) (dM rfl (rfl.trans (congrArg (fun q=>Value.slice q (l.length) (c)) H)) rfl Tryd.underlying61 (s:=1) (by kernel_rfl) (by omega) (by omega) (by omega)) ?_
  refine Fx.Ly.v (aC (l.getD (k-1) 0)) (bf (x:=qJ l) rfl rfl (by kernel_rfl) M (i:=k-1) (by omega) (by omega) rfl) ?_
  refine Fx.Ly.yield (l:=h) (args := [au ((k:Int)-1),aC (l.getD (k-1) 0)]) rfl rfl rfl (Fx.args2 rfl rfl) rfl (by have:=L (Bb l.length (l.length-k)) (k-1) _ p.j (by rw[Jw]; omega); rw[show(((k-1:Nat)):Int)=(k:Int)-1 by omega]at this; exact this) ?_
  rintro R t ⟨rfl,K,C⟩
  refine⟨.bool true,rfl,?_⟩
  have N:aL t d 1 (fun _ => .slice a (l.length) (c)) 61:=C.b.trans D
  have O:jv t a l.length 1 (qJ l):=Vm E (by decide) C
  have P:JB J (Bb l.length (l.length-(k-1))) t:=⟨p.ab,by rw[show l.length-(k-1)=(l.length-k)+1 by omega]; unfold Bb; rw[show l.length-1-(l.length-k)=k-1 by omega]; exact K⟩
  refine Fx.Ly.v (.bool false) (Fx.Ll rfl rfl) ?_
  refine Fx.Ly.nil ?_
  refine sN<|aK<|Wk<|cB<|sN<|Wl<|aS g<|Lv (au ((k:Int)-2)) jw<|av (au ((k:Int)-2))<|Ln<|iG ⟨k-1,(by omega),A,B,Fx.ic,N,O,P⟩ ?_
  show(intOf ((au ((k:Int)-2)))+1).toNat<_
  simp only[g,intOf]; omega
 refine Lv aF (pJ z) (aD (aK (Wx (bY (iB (bZ (⟨.tuple #[],fM Tryd.results144,?_⟩)))))))
 exact⟨⟨_,rfl⟩,_,rfl,by have:=p.j; rw[show l.length-k=l.length by omega]at this; exact this⟩
theorem Vo(b c:Nat)(a:Option Addr)(l:List Int)(i:l.length<=1000) :
 SE.Vk (Fx.FR none) 2 Tryd.prog 144 #[(pt b)] (fun x:Nat => #[au (x:Int),aC (l.getD x 0)]) (Jz b (.slice a l.length c)) (fun k=>k=Bb l.length l.length) l.length (BwP b a l.length c l) :=
 fun j J W ⟨h,e⟩ g f d=>callsIn_wide.2 (YD J j b c a l W h e ⟨g,d⟩ i f)
namespace Rt
theorem JA{l:List Int}{T:dB}(b:T.ok)(h : ∀ k,k∈l->T.has k=true)(x:Nat):0<=l.getD x 0/\l.getD x 0<=18446744073709551615:=by
 by_cases a:x<l.length
 ·have d:l.getD x 0∈l:=by rw[List.getD_eq_getElem?_getD,List.getElem?_eq_getElem a]; exact List.getElem_mem a
  obtain⟨i,c,e⟩:=eT (h _ d)
  rw[<- e]; exact N8 b c
 rw[List.getD_eq_getElem?_getD,List.getElem?_eq_none (by omega)]; decide
theorem JC{l:List Int}{T:dB}{pa:Int}(a:T.ok)(e:l=T.path pa)(x:Nat):0<=l.getD x 0/\l.getD x 0<=18446744073709551615:=JA a (fun k d=>by
 obtain⟨i,b,c⟩:=List.getElem_of_mem d
 have:=dB.Hy a e b
 rw[List.getD_eq_getElem?_getD,List.getElem?_eq_getElem b]at this
 rw[<- c]; exact this) x
theorem Qq{l:List Int}{T:dB}(a:T.ok)(h : ∀ k,k∈l<->T.has k=true)(x:Nat):0<=l.getD x 0/\l.getD x 0<=18446744073709551615:=JA a (fun k b=>(h k).1 b) x
end Rt
theorem Vp(m:dG)(u B:Nat)(w:World)(h:je w B u m)(id pa:Int)(hid:0<=id/\id<=18446744073709551615) :
 Calls Tryd.prog 116 #[(pt u),aC id,aC pa] w fun e w'=>e = .returned (au (m.T.err id pa))/\Below w.heap.size w w':=by
 have hC:=h.c
 have hT:=h.t
 have hP:=h.p
 have hR:=h.r
 have hG:=h.g
 have hA:=h.a
 have hN:=h.ne
 have lC:=h.c.lt
 have lT:=h.t.lt
 have lP:=h.p.lt
 have lR:=h.r.lt
 have lG:=h.g.lt
 have lA:=h.a.lt
 refine Fx.Vj 3 Tryd.func116 rfl (n:=55) rfl (by rfl) ?_
 refine Fx.W0.seq<|Fx.W0.list<|qE ((pt u)) fun g1 w1 nk m1 s1 z1 => ?_
 have⟨m2,m3,m4,m5,m6,m7,b1⟩:=Da s1.old hC hT hP hR hG hA (Below.refl w.heap.size w)
 have wF:=gY nk
 have⟨nH,rY,vU,vV,vW⟩:=vB nk hC.lt hP.lt hR.lt hG.lt hA.lt
 have wQ:=m1.lt
 refine av (au 0)<|Ln<|Fx.lQ<|Fx.W0.seq<|Fx.W0.list<|jy (Sn _) ?_
 rintro e9 w2 ⟨y,j,v,hg1,m8,hb1⟩
 refine⟨_,v,?_⟩
 clear v
 have nem.afT:m.mb≠j:=Nat.ne_of_lt (Nat.lt_of_lt_of_le m3.lt hg1)
 have⟨m9,m10,m11,m12,m13,m14,m15,b2⟩:=Bd hb1 m2 m3 m4 m5 m6 m7 m1 b1
 have m16:mM w2 (w.heap.size) y j dB.zero:=m8.weak b1.size
 clear m8 hg1
 refine lM 1 (fun _ => .pointer none) fun M w3 uW m17 s3 z2 => ?_
 have⟨m18,m19,m24,qK,b3⟩:=lV s3.old m9 m10 m15 m16 b2
 have yH:=gM uW b2.size
 have⟨Vq,acn,aco,acp,acr,acs⟩:=Dc uW m9.lt m11.lt m12.lt m13.lt m14.lt m15.lt
 have Ba:=m17.lt
 refine mZ m17 0 ((pt y)) fun w4 qL s4 z3 => ?_
 have qx:aL w4 M 1 (fun _=>(pt y)) 51:=cu qL
 have iq:=gG s4 m17.ty
 have⟨uU,qZ,nI,qM⟩:=Gt iq m18 m19 m24 qK
 have b4:=s4.below b3 b3.size (by omega)
 refine Ln<|Fx.lQ<|Fx.W0.seq<|Fx.W0.list<|Lv ((pt u)) (aP nI.aJ 0)<|av ((pt u))<|av ((pf u 18))<|Lv ((pt m.tp)) (aP uU.aJ 18)<|av (aC pa)<|jy (GL pa qZ) ?_
 rintro e9 w5 ⟨G,H,v,pV,hb2⟩
 refine⟨_,v,?_⟩
 clear v
 have⟨qN,ru,vH,b5⟩:=iH hb2 nI qM qx b4
 obtain⟨l,K⟩ : ∃ q,q=dB.path m.T pa:=⟨_,rfl⟩
 rw[<- K]at pV ⊢
 have hl4:l.length<=4:=by rw[K]; exact dB.vY
 refine av (.slice G (l.length) (H))<|Ln<|Fx.lQ<|Fx.W0.seq<|Fx.W0.seq<|Fx.W0.list<|av (.slice G (l.length) (H))<|jy (acj G l.length H _) ?_
 rintro e9 w6 ⟨sb1,v,hg2,sO,hb3⟩
 refine⟨_,v,?_⟩
 clear v
 have⟨vJ,F,wH,vK,V⟩:=lV hb3 qN ru vH pV b5
 refine Ln<|Fx.lQ<|Fx.W0.block ?_
 have YE:g1≠j:=F.map.ne vJ.ty
 have aiY:=vJ.lt
 have YF:M≠j:=F.map.ne wH.ty
 have aiZ:=wH.lt
 have SF:sb1≠j:=F.map.ne sO.ty
 have YG:=sO.lt
 have hgm:=F.gm
 have ltm:=F.lt
 have ltt:=F.blk.lt
 have L : ∀ g,(.slice G (l.length) (H):Value).ownBlock=some g->g<w6.heap.size/\g≠j:=fun g A=>Qp vK F.map A
 refine Fx.W0.Vl (gf:=144) (lb := #[(pt sb1)]) (eu:=fun x:Nat=>au (x:Int)) (ev2:=fun x=>aC (l.getD x 0)) (by decide) rfl (fun args w=>iK Tryd.func144 (by kernel_rfl) rfl args w) (Vo sb1 H G l (by omega)) ⟨sO,Fx.UE vK⟩ (fun W o _ hi=>hi.alloc o) (fun h k=>h.trans k) (fun W l o o' K _ _=>Jz.put YG (fun g A=>(L g A).1) W l o o' K) (by decide) (by decide) (fun xs W=>mM W (w.heap.size) y j (Gb m.T l xs)/\Stp j w6 W) (Od ltt ltm) ⟨F,jM _ _⟩ (fun x f=>f 3=(pt g1)/\f 7=(pt M)/\f 10=aC (l.getD x 0)) ?_ ?_ ?_
 ·intro ly x W
  exact Fx.W0.list (Lv (aC (l.getD x 0)) (dJ rfl rfl) (Ln ⟨rfl,rfl,⟨rfl,rfl,rfl⟩,rfl⟩))
 ·rintro ly pre x W f9 ⟨q3,q7,q10⟩ ⟨XE,s⟩ hpl hWs
  have I:Below w.heap.size w W:=s.below V V.size hgm
  have E:=h.up I
  have hPW:=E.p
  have N:=E.c
  have O:=E.t
  have R:=vJ.eG s YE
  have YH:=R.lt
  have S:=wH.eG s YF
  have YI:=S.lt
  have lWm:j<W.heap.size:=Nat.lt_of_lt_of_le ltm s.size
  have lWt:w6.heap.size<=W.heap.size:=s.size
  have lCW:=N.lt
  have lPW:=hPW.lt
  have lTW:=O.lt
  have lh0:=h.t.lt
  have lh1:=h.p.lt
  refine Fx.W0.block ?_
  -- region 5 draws
  refine Fx.W0.YB [1,6,0,2,3,4,5,7,8] [4,0,4,0,0,4,0,4,3] Fx.Mk nT Fx.Mk.trans (eO := [(8,0,[0]),(8,2,[7,5,4,3,2]),(8,5,[7,5]),(8,7,[7])]) (by kernel_rfl) (by kernel_rfl) (by kernel_rfl) (by kernel_rfl) (by kernel_rfl) fun qY fO iC => ?_
  have s7:Stp W.heap.size W qY:=Sb fO
  have⟨sP,wI,xS,oF,uV,qy⟩:=vw fO N hPW O R S XE
  have b7:=(jM j W).then s7 (.inr (jM j W).size)
  refine bM q10<|bM q10<|Rs ((pt y)) (aP uV.aJ 0 (ha:=q7)) ?_
  refine Rs ((pt u)) (aP oF.aJ 0 (ha:=q3)) ?_
  refine aU ((pt u))<|aU ((pf u 19))<|Rs (.map (some m.pb)) (aP sP.aJ 19) ?_
  rcases Fx.mJ m.T.x m.T.n (l.getD x 0)with ⟨Oe,yc,yg⟩|gK
  ·refine Rs (aC (m.T.p Oe)) (Fx.pK (z:=aC 0) rfl rfl rfl wI Tryd.underlying53 Tryd.underlying29 (by rfl) yc yg rfl) ?_
   refine gP<|fB (EO (l.getD x 0) (m.T.p Oe) qy (JC h.t.inv K x)) _ rfl ?_
   rintro w7 ⟨xU,s8⟩
   have P:=qy.xP s8
   have m64:=sP.dh P
   have Bp:=wI.dh P (by omega)
   have Bq:=xS.dh P (by omega)
   have yF:=oF.dh P
   have zT:=uV.dh P
   have X:=b7.then s8 (.inl rfl)
   refine Ln<|Rn<|Fx.FC ?_
   have ep:m.T.par (l.getD x 0)=m.T.p Oe:=vE E.t.inv.inj yc yg
   refine⟨rfl,⟨X.size,fun q hq hq2=>X.block q hq2 (by omega)⟩,Jz.wN X (by omega) SF (fun g A=>⟨Nat.lt_of_lt_of_le (L g A).1 lWt,(L g A).2⟩),?_,s.then X (.inl rfl)⟩
   rw[Al,ep]; exact xU
  refine Rs (aC 0) (Fx.IY (z:=aC 0) rfl rfl rfl wI Tryd.underlying53 Tryd.underlying29 (by rfl) gK) ?_
  refine gP<|fB (EO (l.getD x 0) 0 qy (JC h.t.inv K x)) _ rfl ?_
  rintro w8 ⟨vL,s9⟩
  have Q:=qy.xP s9
  have Br:=sP.dh Q
  have wT:=wI.dh Q (by omega)
  have zU:=xS.dh Q (by omega)
  have yG:=oF.dh Q
  have EM:=uV.dh Q
  have Y:=b7.then s9 (.inl rfl)
  refine Ln<|Rn<|Fx.FC ?_
  have ep:m.T.par (l.getD x 0)=0:=Vn gK
  refine⟨rfl,⟨Y.size,fun q hq hq2=>Y.block q hq2 (by omega)⟩,Jz.wN Y (by omega) SF (fun g A=>⟨Nat.lt_of_lt_of_le (L g A).1 lWt,(L g A).2⟩),?_,s.then Y (.inl rfl)⟩
  rw[Al,ep]; exact vL
 rintro D xs W hD rfl ⟨XE,s⟩ hK
 have I:Below w.heap.size w W:=s.below V V.size hgm
 have E:=h.up I
 have hPW:=E.p
 have N:=E.c
 have O:=E.t
 have R:=vJ.eG s YE
 have YH:=R.lt
 have S:=wH.eG s YF
 have YI:=S.lt
 have lWm:j<W.heap.size:=Nat.lt_of_lt_of_le ltm s.size
 have lWt:w6.heap.size<=W.heap.size:=s.size
 have lCW:=N.lt
 have lPW:=hPW.lt
 have lTW:=O.lt
 have lh0:=h.t.lt
 have lh1:=h.p.lt
 have lDW:=(Array.getElem?_eq_some_iff.1 hK).1
 have oW:=vK.eG s (fun e=>(L _ e).2 rfl)
 refine Fx.FC<|Fx.lQ<|Fx.W0.seq<|Fx.W0.seq<|Fx.W0.list<|Lv ((pt u)) (aP R.aJ 0) ?_
 refine av ((pt u))<|av ((pf u 18))<|Lv ((pt m.tp)) (aP N.aJ 18)<|jy (MZ O) ?_
 rintro e9 w9 ⟨SG,C,d,v,xV,hq1,YJ,hb4⟩
 refine⟨_,v,?_⟩
 clear v
 have s10:=Sb hb4
 have⟨zV,yX,Bt⟩:=jI hb4 S XE oW
 have b10:=(jM j W).then s10 (.inr (jM j W).size)
 refine av (au d.length)<|av (au 0)<|Ln<|Fx.lQ<|Fx.W0.block<|Fx.W0.loop (fun f U => ∃ i:Nat,i<=d.length/\f 1=aC id/\f 2=aC pa/\f 7=(pt M)/\f 8 = .slice G (l.length) (H)/\f 37 = .slice SG (d.length) (C)/\f 38=au ((d.length:Int))/\f 39=au ((i:Int))/\aL U M 1 (fun _=>(pt y)) 51/\mM U (w.heap.size) y j (iY l d (Gb m.T l (Bb l.length l.length)) i)/\Fx.Own U W.heap.size 29 1 (.slice SG (d.length) (C)) d.length (qJ d)/\Fx.Own U w4.heap.size 29 1 (.slice G (l.length) (H)) l.length (qJ l)/\Stp j W U) (fun f _=>((d.length:Int)-intOf (f 39)).toNat) ⟨0,(by omega),Fx.ic,Fx.ic,(by rfl),(by rfl),(by rfl),Fx.ic,Fx.ic,zV,yX,xV,Bt,b10⟩ ?_
 rintro f1 zR ⟨i,hi,h1,h2,h3,h4,h5,h6,J,Dl,F6,GJ,Jc,b11⟩
 refine Fx.W0.seq<|Fx.W0.list ?_
 by_cases c40:(i:Int)<(d.length:Int)
 ·refine Lv aG (jU c40 (hx:=J) (hy:=h6)) (Ln (Fx.lQ (Fx.W0.seq (Fx.W0.cond (b:=true) rfl (fun _=>Fx.W0.skip (Fx.lQ (Fx.W0.seq (Fx.W0.block (Fx.W0.seq (Fx.W0.list ?_)))))) (fun h=>nomatch h)))))
  obtain⟨JD,aa⟩:=GJ.addr (by omega)
  have BX:Fx.Own zR W.heap.size 29 1 (bJ JD d.length C) d.length (qJ d):=GJ.mG (congrArg (fun q=>Value.slice q d.length C) aa)
  refine Lv ((pf JD i)) (dw 1 (hx:=(h5.trans (congrArg (fun q=>Value.slice q (d.length) (C)) aa))) (hi:=J))<|Lv (aC (d.getD i 0)) (aP BX.aJ i)<|av (aC (d.getD i 0))<|Ln<|Fx.lQ<|Fx.W0.seq<|Fx.W0.list<|aS h4<|av (aC (d.getD i 0))<|fB (abd l (d.getD i 0) _ _ _ _ Jc (by omega)) (ax := #[.slice G (l.length) (H),aC (d.getD i 0)]) _ rfl ?_
  intro Kn hb5
  have s11:=Sb hb5
  have⟨F7,GK,F8,JE⟩:=iH hb5 Dl F6 Jc BX
  have b12:=b11.then s11 (.inr b11.size)
  by_cases Z:d.getD i 0∈l
  ·skip
   refine Lv aF (Fx.Ll rfl (congrArg Value.bool (decide_eq_true Z)))<|Ln<|Fx.lQ<|Fx.W0.cond (b:=false) rfl (fun h=>nomatch h)<|fun _=>Fx.W0.skip<|Fx.FC<|Fx.lQ<|Fx.W0.list<|Lv (au ((i:Int)+1)) (fZ (hx:=J))<|av (au ((i:Int)+1))<|Ln ?_
   have KQ:Fx.Own Kn W.heap.size 29 1 (.slice SG (d.length) (C)) d.length (qJ d):=JE.mG (congrArg (fun q=>Value.slice q d.length C) aa.symm)
   have Gc:mM Kn (w.heap.size) y j (iY l d (Gb m.T l (Bb l.length l.length)) (i+1)):=by unfold iY; rw[if_pos Z]; exact GK
   skip
   refine Fx.Yz ⟨i+1,(by omega),(h1.trans Fx.ic),(h2.trans Fx.ic),h3,h4,h5,(h6.trans Fx.ic),Fx.ic,F7,Gc,KQ,F8,b12⟩ ?_
   show((d.length:Int)-intOf ((au ((i:Int)+1)))).toNat<_
   simp only[J,intOf]; omega
  skip
  refine Lv aG (Fx.Tn rfl (congrArg Value.bool (decide_eq_false Z))) (Ln (Fx.lQ (Fx.W0.cond (b:=true) rfl (fun _=>Fx.W0.list (Lv ((pt y)) (aP F7.aJ 0 (ha:=h3)) ?_)) (fun h=>nomatch h))))
  refine av (aC (d.getD i 0))<|fB (EO (d.getD i 0) 0 GK (Qq h.t.inv hq1.2 i)) _ rfl ?_
  rintro La ⟨H6,s12⟩
  have Vr:=GK.xP s12
  have FE:=F7.dh Vr
  have JG:=F8.dh Vr
  have Gd:=JE.dh Vr
  have b13:=b12.then s12 (.inl rfl)
  refine Ln<|Fx.FC<|Fx.lQ<|Fx.W0.list<|Lv (au ((i:Int)+1)) (fZ (hx:=J))<|av (au ((i:Int)+1))<|Ln ?_
  have Og:Fx.Own La W.heap.size 29 1 (.slice SG (d.length) (C)) d.length (qJ d):=Gd.mG (congrArg (fun q=>Value.slice q d.length C) aa.symm)
  have Ld:mM La (w.heap.size) y j (iY l d (Gb m.T l (Bb l.length l.length)) (i+1)):=by unfold iY; rw[if_neg Z]; exact H6
  skip
  refine Fx.Yz ⟨i+1,(by omega),(h1.trans Fx.ic),(h2.trans Fx.ic),h3,h4,h5,(h6.trans Fx.ic),Fx.ic,FE,Ld,Og,JG,b13⟩ ?_
  show((d.length:Int)-intOf ((au ((i:Int)+1)))).toNat<_
  simp only[J,intOf]; omega
 refine Lv aF (jV c40 (hx:=J) (hy:=h6))<|Ln<|Fx.lQ<|Fx.W0.seq<|Fx.W0.cond (b:=false) rfl (fun h=>nomatch h)<|fun _=>Fx.W0.exit<|Fx.Yx<|Fx.acg<|Fx.Yy<|Fx.lQ<|Fx.W0.seq ?_
 have hil:i=d.length:=by omega
 refine Fx.W0.list<|Lv ((pt y)) (aP Dl.aJ 0 (ha:=h3)) ?_
 refine aS h1<|aS h2<|fB (EO id pa F6 hid) _ rfl ?_
 rintro Sc ⟨Bz,s13⟩
 have Vs:=F6.xP s13
 have xu:=Dl.dh Vs
 have Am:=GJ.dh Vs
 have Ao:=Jc.dh Vs
 have b14:=b11.then s13 (.inl rfl)
 refine av (au (dB.err (iY l d (Gb m.T l (Bb l.length l.length)) i) id pa))<|Ln<|Fx.lQ<|Fx.W0.ret ?_
 have hKD:=(b14.block D lDW (by omega)).trans hK
 have eD:dB.err (iY l d (Gb m.T l (Bb l.length l.length)) d.length) id pa=m.T.err id pa:=Qo h.t.inv K hq1
 refine Fx.leaveD hKD (rV Tryd.results116 (show Fx.Gp Tryd.prog _ _ (.tmp 6) (au (dB.err (iY l d (Gb m.T l (Bb l.length l.length)) i) id pa))from rfl)) ⟨by rw[hil,eD],?_⟩
 exact(b14.below I I.size hgm).grown (grownBy_putObj' _ D _) (b14.below I I.size hgm).size fun r e=>by cases e; omega
end Go.Proofs.YtcbedgfikejkoaaDoor
namespace Go.Proofs.YtcbedgfikejkoaaDoor
open Go.RowKit
set_option linter.unusedVariables false
namespace Fx
abbrev KR:=List (Nat × List Nat)
def Ct(ops:List Oper)(a:List Nat)(b:Bool)(i:Nat)(l:KR):Bool:=l.all fun x=>match a[x.1]? with|some e => !Nat.beq i e&&(if b then qR ops i x.2 e else qR ops e x.2 i)|none=>false
def H7(ops:List Oper)(a:List Nat)(c b:List KR):Bool:=(List.range ops.length).all fun i=>Ct ops a true i (c.getD i [])&&Ct ops a false i (b.getD i [])
def lu(a:List Nat)(b:Array Bool)(j:Nat):Bool:=match a[j]? with|some e=>b.getD e false|none=>false
def Oh(m:Nat->Bool)(j:Nat):Nat->Bool:=fun q=>bif Nat.beq q j then true else m q
section
variable {P:Program} {n:Nat} {Q:Post} {f:Nat->Value} {w:World} {ops:List Oper}
theorem KS{i e:Nat}{p:List Nat}{b:Array Bool}(hr:i∈Region.ready .any ops.toArray b)(j:D8 ops.toArray .any b)(d:i≠e)(h:qR ops i p e=true):b.getD e false=true:=by
 obtain⟨m,n,l,g⟩:=dP hr
 obtain⟨f,h⟩:=fV h
 cases f with
 | zero=>unfold reach at h; exact absurd (by simpa using h) d
 | succ f =>
   unfold reach at h
   rw[Bool.or_eq_true]at h
   rcases h with h|h
   ·exact absurd (by simpa using h) d
   ·rw[l]at h
    simp only at h
    rw[Array.any_eq_true']at h
    obtain⟨c,k,a⟩:=h
    rw[Bool.and_eq_true]at a
    refine j.reach _ _ a.2<|g c.on ?_
    unfold bS
    rw[Array.any_eq_true']
    exact⟨c,k,by rw[a.1,Nat.beq_refl]; rfl⟩
theorem W.masks{id:Nat}(o:List Nat)(V Z:List KR)(y:Gh->Nat->Value)(S:(Nat->Bool)->Gh->World->Prop)(hm:P.follows .mixedOrders=true)(T:jh n ops=true)(hsel:Region.noSelect ops.toArray=true)(Oi:H7 ops o V Z=true)
 (hes:o.all (fun e=>Nat.blt e ops.length&&(match (opAt ops e).guard with|none=>true|_=>false))=true) (hnd:o.Nodup) (r0:Gh)
 (h0 : ∀ C,Below w.heap.size w C->C.heap.size=w.heap.size->S (fun _=>false) r0 C)
 (I : ∀ i,i<ops.length->o.contains i=false -> ∀ r m w,(∀ x∈V.getD i [],m x.1=true)->(∀ x∈Z.getD i [],m x.1=false)->S m r w->if Region.wanted (opAt ops i) (yf ops.toArray (full ops f (y r)))then Oper.quietUpon P (S m r) w (y r i) ((execOp (ev (full ops f (y r))) (opAt ops i)).run P w)else y r i=undef)
 (H : ∀ j i,o[j]? = some i -> ∀ r m w (a:Act) (K:Act->World->Prop),(∀ x∈V.getD i [],m x.1=true)->(∀ x∈Z.getD i [],m x.1=false)->m j=false->S m r w->(∀ x∈(opAt ops i).op.operands,a.eval x=ev (full ops f (y r)) x)->(∀ p w',S (Oh m j) (lS r j p) w'->K (a.put (opAt ops i).dst (y (lS r j p) i)) w')->(opAt ops i).wp P a w K (lift n Q))
 (hd : ∀ i,i<ops.length -> ∀ j r p,(∀ x∈V.getD i [],x.1≠j)->o[j]? ≠ some i->j<o.length->y (lS r j p) i=y r i)
 (h : ∀ r m w',(∀ j,j<o.length->m j=true)->S m r w'->Q .normal (full ops f (y r)) w'):W P n (.region id ops.toArray true) Q f w:=fun a L=>by
 refine wp_region_any hm ?_
 have Y : ∀ i,i<ops.length->Ct ops o true i (V.getD i [])=true/\Ct ops o false i (Z.getD i [])=true:=fun i t=>by
  unfold H7 at Oi
  rw[List.all_eq_true]at Oi
  have:=Oi i (by simpa using t)
  rwa [Bool.and_eq_true]at this
 have hpr : ∀ i,i<ops.length -> ∀ x∈V.getD i [],∃ e,o[x.1]? = some e/\i≠e/\qR ops i x.2 e=true:=fun i t x F=>by
  have c:=(Y i t).1
  unfold Ct at c
  rw[List.all_eq_true]at c
  have c:=c x F
  cases H:o[x.1]? with
  | none=>rw[H]at c; cases c
  | some e =>
    rw[H]at c
    simp only[if_true,Bool.and_eq_true]at c
    exact⟨e,rfl,fun q=>by subst q; rw[Nat.beq_refl]at c; exact absurd c.1 (by simp),c.2⟩
 have hpo : ∀ i,i<ops.length -> ∀ x∈Z.getD i [],∃ e,o[x.1]? = some e/\qR ops e x.2 i=true:=fun i t x F=>by
  have c:=(Y i t).2
  unfold Ct at c
  rw[List.all_eq_true]at c
  have c:=c x F
  cases H:o[x.1]? with
  | none=>rw[H]at c; cases c
  | some e =>
    rw[H]at c
    simp only[Bool.and_eq_true]at c
    exact⟨e,rfl,by simpa using c.2⟩
 have LA : ∀ k i,o[k]? = some i->i<ops.length/\(opAt ops i).guard=none:=fun k i hk=>by
  rw[List.all_eq_true]at hes
  have:=hes i (List.mem_of_getElem? hk)
  rw[Bool.and_eq_true]at this
  refine⟨by simpa [Nat.blt_eq] using this.1,?_⟩
  cases hg:(opAt ops i).guard with
  | none=>rfl
  | some _=>rw[hg]at this; exact absurd this.2 (by simp)
 have key : ∀(N:Nat) (b:Array Bool) (a:Act) (C:World) (r:Gh),b.size=ops.length->D8 ops.toArray .any b->Fr a n (over ops f (y r) b)->S (lu o b) r C ->
  (∀ M:List Nat,M=(List.range ops.length).filter (fun i => !b.getD i false)->M.length=N)->wpAny P .any ops.toArray (lift n Q) N b a C:=by
  intro N
  induction N with
  | zero =>
    intro b a C r U yx L O X
    have R : ∀ i,i<ops.length->b.getD i false=true:=fun i t=>by
     have c:=List.eq_nil_of_length_eq_zero (X _ rfl)
     cases I:b.getD i false
     ·have:i∈(List.range ops.length).filter (fun i => !b.getD i false):=by simp only[List.mem_filter,List.mem_range]; exact⟨t,by rw[I]; rfl⟩
      rw[c]at this; cases this
     ·rfl
    have hnone:Region.ready .any ops.toArray b = []:=by
     cases I:Region.ready .any ops.toArray b with
     | nil=>rfl
     | cons i l =>
       have E:i∈Region.ready .any ops.toArray b:=by rw[I]; exact List.mem_cons_self
       obtain⟨c,D,_,_⟩:=dP E
       rw[R i D]at c; cases c
    refine⟨hnone,full ops f (y r),?_,h r _ C (fun j A => ?_) O⟩
    ·have:over ops f (y r) b=full ops f (y r):=by
      funext s
      unfold over full
      cases Y:writer ops s with
      | none=>rfl
      | some i=>simp only; rw[if_pos (R i (jN Y).2)]
     exact this ▸ L
    ·unfold lu
     rw[List.getElem?_eq_getElem A]
     exact R _ (LA j _ (List.getElem?_eq_getElem A)).1
  | succ N ih =>
    intro b a C r U yx L O X
    have hcount : ∀ i,i∈Region.ready .any ops.toArray b -> ∀ M:List Nat,M=(List.range ops.length).filter (fun j => !(b.setIfInBounds i true).getD j false)->M.length=N:=by
     intro i E M Tv
     obtain⟨c,D,_,_⟩:=dP E
     subst Tv
     have e:(List.range ops.length).filter (fun j => !(b.setIfInBounds i true).getD j false)=((List.range ops.length).filter (fun i => !b.getD i false)).erase i:=by
      rw[List.Nodup.erase_eq_filter (List.Nodup.sublist List.filter_sublist List.nodup_range),List.filter_filter]
      apply List.filter_congr
      intro j A
      by_cases e:i=j
      ·subst e; rw[set_self (by rw[U]; exact D)]; simp
      ·rw[iL e]
       have:(j != i)=true:=by simp; exact fun q=>e q.symm
       rw[this,Bool.true_and]
     rw[e,List.length_erase_of_mem (by simp only[List.mem_filter,List.mem_range]; exact⟨D,by rw[c]; rfl⟩),X _ rfl]
     rfl
    refine⟨fun hnone => ?_,fun i E => ?_⟩
    ·exfalso
     have hlen:=X _ rfl
     exact(by
      have : ∃ i,i∈Region.ready .any ops.toArray b:=by
       obtain⟨q,I⟩ : ∃ q,q∈(List.range ops.length).filter (fun i => !b.getD i false):=by
        cases hfe:(List.range ops.length).filter (fun i => !b.getD i false)with
        | nil=>rw[hfe]at hlen; cases hlen
        | cons q l=>exact⟨q,List.mem_cons_self⟩
       have Gq : ∀ m q,q<=m->q<ops.length->b.getD q false=false -> ∃ i,i<ops.length/\b.getD i false=false /\ ∀ j,j<i->b.getD j false=true:=by
        intro m
        induction m with
        | zero=>intro q hm B hq2; exact⟨q,B,hq2,fun j A=>by omega⟩
        | succ m ihm =>
          intro q hm B hq2
          by_cases R : ∀ j,j<q->b.getD j false=true
          ·exact⟨q,B,hq2,R⟩
          ·obtain⟨j,A⟩:=Classical.not_forall.1 R
           obtain⟨hj1,hj2⟩:=Classical.not_imp.1 A
           exact ihm j (by omega) (by omega) (by simpa using hj2)
       simp only[List.mem_filter,List.mem_range]at I
       obtain⟨i,t,hi1,hi2⟩:=Gq q q (Nat.le_refl _) I.1 (by simpa using I.2)
       refine⟨i,mem_ready.2 ⟨getD_in (by rw[U]; exact t) hi1,opAt ops i,?_,fun e H hb=>hi2 e.on ((dN T t).2.2.2 e.on ?_)⟩⟩
       ·unfold opAt; rw[List.getElem?_toArray,List.getD_eq_getElem?_getD,List.getElem?_eq_getElem t]; rfl
       ·unfold bS; rw[Array.any_eq_true']; exact⟨e,H,by rw[hb,Nat.beq_refl]; rfl⟩
      obtain⟨i,t⟩:=this
      rw[hnone]at t; cases t)
    ·obtain⟨c,t,hop,R⟩:=dP E
     have hsz':(b.setIfInBounds i true).size=ops.length:=by simpa using U
     have Eo:=yx.set E
     have hev:=IJ (f:=f) T (v:=y r) E
     have hae : ∀ x∈(opAt ops i).op.operands,a.eval x=ev (full ops f (y r)) x:=fun x F=>by rw[L.ev]; exact hev x F
     have hex:execOp a.eval (opAt ops i)=execOp (ev (full ops f (y r))) (opAt ops i):=execOp_congr _ (Region.noSelect_spec hsel i _ · · hop) hae
     have hwant:Region.wanted (opAt ops i) (yielded ops.toArray a.tmps)=Region.wanted (opAt ops i) (yf ops.toArray (full ops f (y r))):=by rw[L.yf]; exact xK T E
     have hpre : ∀ x∈V.getD i [],lu o b x.1=true:=fun x F=>by
      obtain⟨e,D,h3,G⟩:=hpr i t x F
      unfold lu
      rw[D]; exact KS E yx h3 G
     have hpost : ∀ x∈Z.getD i [],lu o b x.1=false:=fun x F=>by
      obtain⟨e,D,G⟩:=hpo i t x F
      unfold lu
      rw[D]
      cases hle:b.getD e false with
      | false=>exact hle
      | true =>
        obtain⟨mm,G⟩:=fV G
        have:=yx.reach _ _ G hle
        rw[c]at this; cases this
     unfold wpOp
     simp only[hop]
     rw[hwant]
     by_cases hne:o.contains i=true
     ·have hmem:i∈o:=by simpa using hne
      obtain⟨j,A⟩:=List.getElem?_of_mem hmem
      have hg:=(LA j i A).2
      have hjl:j<o.length:=(List.getElem?_eq_some_iff.1 A).1
      rw[if_pos (by unfold Region.wanted; rw[hg])]
      refine .inl<|H j i A r _ C a _ hpre hpost (by unfold lu; rw[A]; exact c) O hae fun p w' hS' => ?_
      have hsame:over ops f (y r) b=over ops f (y (lS r j p)) b:=by
       funext s
       unfold over
       cases Y:writer ops s with
       | none=>rfl
       | some q =>
         simp only
         cases hlq:b.getD q false
         ·rfl
         ·simp only[if_true]
          have hqi:=(jN Y).2
          refine(hd q hqi j r p (fun x F e => ?_) (fun e => ?_) hjl).symm
          ·obtain⟨J,D,h3,G⟩:=hpr q hqi x F
           obtain⟨mm,G⟩:=fV G
           have h5:=yx.reach _ _ G hlq
           rw[e,A]at D
           rw[<- Option.some.inj D,c]at h5; cases h5
          ·rw[A]at e
           rw[<- Option.some.inj e,c]at hlq; cases hlq
      refine ih _ _ _ (lS r j p) hsz' Eo ?_ ?_ (hcount i E)
      ·have:=(hsame ▸ L).put (d:=(opAt ops i).dst) (by
        cases hd:(opAt ops i).dst with
        | none=>rfl
        | some d=>simp[inn,Nat.blt_eq,((dN T t).1 d hd).2]) (y (lS r j p) i)
       rwa [vk T U t]at this
      ·have e:lu o (b.setIfInBounds i true)=Oh (lu o b) j:=by
        funext q
        unfold Oh
        cases hb:Nat.beq q j with
        | true =>
          have:=Nat.eq_of_beq_eq_true hb
          subst this
          unfold lu
          rw[A]; exact set_self (by rw[U]; exact t)
        | false =>
          have hqj:q≠j:=fun z=>by rw[z,Nat.beq_refl]at hb; cases hb
          unfold lu
          cases hqe:o[q]? with
          | none=>rfl
          | some J =>
            have:i≠J:=fun z=>by
             subst z
             have h9:=List.getElem?_eq_some_iff.1 hqe
             have h10:=List.getElem?_eq_some_iff.1 A
             exact hqj ((List.getElem_inj hnd).1 (h9.2.trans h10.2.symm))
            exact iL this
       rw[e]; exact hS'
     ·have hne':o.contains i=false:=by simpa using hne
      have B:=I i t hne' r _ C hpre hpost O
      have hfin : ∀ w',S (lu o b) r w'->wpAny P .any ops.toArray (lift n Q) N (b.setIfInBounds i true) (a.put (opAt ops i).dst (y r i)) w':=fun w' hS'=>by
       refine ih _ _ _ r hsz' Eo ?_ ?_ (hcount i E)
       ·have:=L.put (d:=(opAt ops i).dst) (by
         cases hd:(opAt ops i).dst with
         | none=>rfl
         | some d=>simp[inn,Nat.blt_eq,((dN T t).1 d hd).2]) (y r i)
        rwa [vk T U t]at this
       ·have e:lu o (b.setIfInBounds i true)=lu o b:=by
         funext q
         unfold lu
         cases hqe:o[q]? with
         | none=>rfl
         | some J =>
           have:i≠J:=fun z=>by subst z; exact absurd (show o.contains i=true by simpa using List.mem_of_getElem? hqe) hne
           exact iL this
        rw[e]; exact hS'
      by_cases hwt:Region.wanted (opAt ops i) (yf ops.toArray (full ops f (y r)))=true
      ·rw[if_pos hwt]at B ⊢
       refine .inl ?_
       unfold Oper.wp
       rw[hex]
       generalize (execOp (ev (full ops f (y r))) (opAt ops i)).run P C=res at B
       cases res with
       | ok nx w' =>
         cases nx <;> simp only[Oper.quietUpon]at B <;> simp only[Oper.upon]
         case value u=>obtain⟨e1,J⟩:=B; subst e1 J; exact hfin _ O
         case skip=>obtain⟨e1,J⟩:=B; subst e1; rw[<- J]; exact hfin _ O
         case enter g args =>
          obtain⟨e1,hc⟩:=B
          subst e1
          exact hc.mono fun e w'' ⟨he',hw''⟩=>by subst he'; exact hfin _ hw''
       | halt x w'=>simp only[Oper.quietUpon]at B
      ·rw[if_neg hwt]at B ⊢
       rw[<- B]
       exact hfin _ O
 have hrep : ∀ i,(Array.replicate ops.toArray.size false).getD i false=false:=fun i=>by
  rw[Array.getD_eq_getD_getElem?]
  by_cases t:i<ops.length
  ·simp[t]
  ·simp[t]
 have hstart:over ops f (y r0) (Array.replicate ops.toArray.size false)=f:=by
  funext s
  unfold over
  cases writer ops s with
  | none=>rfl
  | some i=>simp only; rw[hrep]; simp
 have hdn:lu o (Array.replicate ops.toArray.size false)=fun _=>false:=by
  funext j
  unfold lu
  cases o[j]? with
  | none=>rfl
  | some e=>exact hrep e
 have:=key ops.toArray.size (Array.replicate ops.toArray.size false) a { w with drawn:=w.drawn+1 } r0 (by simp) (D8.start _ _ _) (by rw[hstart]; exact L) (by rw[hdn]; exact h0 _ (Below.refl _ _).drew rfl) (fun M X=>by
  subst X
  rw[List.filter_eq_self.2 (fun i _=>by rw[hrep]; rfl)]
  simp)
 simpa using this
theorem dF{r:Gh}{k j:Nat}{p:Nat × Nat}(h:j≠k):lS r k p j=r j:=by
 unfold lS
 have:Nat.beq j k=false:=by
  cases hq:Nat.beq j k
  ·rfl
  ·exact absurd (Nat.eq_of_beq_eq_true hq) h
 rw[this]; rfl
theorem FH{o:Oper}{ρ:Operand->Value}{T:TypeId}{m:Nat}{z:Nat->Value}(d:o.op = .alloc T)(e:((P.info? T).bind (·.zero)).map (·.cells)=some (aA m z))(a:World) : ∃ b,(execOp ρ o).run P a = .ok (.value (.pointer (some ⟨a.heap.size,0,none⟩))) b/\aL b a.heap.size m z T/\Stp a.heap.size a b:=by
 obtain⟨i,f,g⟩:=Option.map_eq_some_iff.1 e
 obtain⟨j,c,h⟩:=Option.bind_eq_some_iff.1 f
 refine⟨a.alloc (.cells i.cells T),?_,?_,Stp.alloc _ _⟩
 ·unfold execOp
  simp[d,Instr.alloc,zeroValue,typeInfo,c,h,newVar,newRow]
 show(a.alloc _).heap[a.heap.size]? = _
 rw[alloc_at,if_pos rfl,g]
theorem FI{o:Oper}{ρ:Operand->Value}{T d:TypeId}{a v:Operand}{m g:Nat}{x y:Nat->Value}{u:Value}(B:o.op = .store d a v)(n:(P.info? d).map (·.size)=some m)(p:ρ a = .pointer (some ⟨g,0,none⟩))(r:ρ v=u)(E:u.cells=aA m y)(h1 : ∀ j,j<m->(y j).oneCell'=true){b:World}(z:aL b g m x T) : ∃ e,(execOp ρ o).run P b = .ok .skip e/\aL e g m y T/\Stp g b e:=by
 have i:b.heap[g]? = some (.cells (aA m x) T (0,0)):=z
 have t:(aA m y).all (·.oneCell')=true:=by
  rw[Array.all_eq_true_iff_forall_mem]
  intro q C
  obtain⟨j,k,A⟩:=Array.getElem_of_mem C
  have l:j<m:=by simpa [aZ] using k
  have f:=dX y l
  rw[Array.getElem?_eq_getElem k,A]at f
  rw[Option.some.inj f]; exact h1 j l
 have D:(storeVar d ⟨g,0,none⟩ u).run P b = .ok () (b.setRow g (aA m y)):=by
  have h:=run_storeCells_at (P:=P) g 0 T (aA m y).toList 0 (aA m x) b i (by simp[aZ]) (fun q c=>(Array.all_eq_true_iff_forall_mem.1 t) q (by simpa using c))
  have s:((aA m x).toList.take (0+0)++(aA m y).toList++(aA m x).toList.drop (0+0+(aA m y).toList.length)).toArray=aA m y:=by
   rw[List.drop_eq_nil_of_le (by simp[aZ])]; simp
  rw[s]at h
  cases c:P.info? d with
  | none=>simp[c]at n
  | some ti =>
    have F:ti.size=m:=by simp[c]at n; omega
    simp only[storeVar,sizeOf,typeInfo,Sem.run_bind,run_program,c,E,aZ,F,ne_eq,not_true_eq_false,if_false,Result.andThen_ok,Sem.run_pure,h]
 obtain⟨G,H,I⟩:=uq (w:=b) (cs:=aA m y) i
 refine⟨_,?_,H,G⟩
 unfold execOp
 simp only[B,p,r,Instr.storeAt,Instr.sureAddr,Sem.run_bind,Sem.run_pure,Result.andThen_ok,D]
def xw(c d:Nat)(vs:Array Value)(a b:Nat):Nat->Value:=fun i=>bif Nat.beq i c then .pointer (some ⟨a,0,none⟩)else bif Nat.beq i d then .pointer (some ⟨b,0,none⟩)else vs.getD i undef
def DT(ops:List Oper)(f:Nat->Value)(c d:Nat)(vs:Array Value)(a b:Nat):Nat->Value:=full ops f (xw c d vs a b)
structure Qr(w:World)(m1 m2:Nat)(z1 y1 z2 y2:Nat->Value)(T1 T2:TypeId)(m:Nat->Bool)(r:Gh)(v:World):Prop where
 b:Below w.heap.size w v
 a:m 0=true->w.heap.size<=(r 0).1/\aL v (r 0).1 m1 (if m 2=true then y1 else z1) T1
 c:m 1=true->w.heap.size<=(r 1).1/\aL v (r 1).1 m2 (if m 3=true then y2 else z2) T2
 ne:m 0=true->m 1=true->(r 0).1≠(r 1).1
theorem Qr.up{m1 m2:Nat}{z1 y1 z2 y2:Nat->Value}{T1 T2:TypeId}{m:Nat->Bool}{r:Gh}{v e:World}(h:Qr w m1 m2 z1 y1 z2 y2 T1 T2 m r v)(d:Below v.heap.size v e):Qr w m1 m2 z1 y1 z2 y2 T1 T2 m r e :=
 ⟨Ei h.b d,fun q=>⟨(h.a q).1,(h.a q).2.eG (Sb d) (Nat.ne_of_lt (h.a q).2.lt)⟩,fun q=>⟨(h.c q).1,(h.c q).2.eG (Sb d) (Nat.ne_of_lt (h.c q).2.lt)⟩,h.ne⟩
def H8(P:Program)(a:Nat->Value)(ops:Array Oper)(w:World)(b:List Nat)(vs:Array Value):List Oper->Nat->Prop
 | [],_=>True
 | o::l,i=>(b.contains i=true\/(if Region.wanted o (yf ops a)then QB P (ev a) o w (vs.getD i undef)else vs.getD i undef=undef))/\H8 P a ops w b vs l (i+1)
theorem Cu{a:Nat->Value}{c:Array Oper}{b:List Nat}{vs:Array Value} : ∀ {l:List Oper} {k:Nat},H8 P a c w b vs l k -> ∀ i,i<l.length->(b.contains (k+i)=true\/(if Region.wanted (opAt l i) (yf c a)then QB P (ev a) (opAt l i) w (vs.getD (k+i) undef)else vs.getD (k+i) undef=undef))
 | [],_,_,i,hi=>absurd hi (by simp)
 | o::l,k,h,0,_=>h.1
 | o::l,k,h,i+1,hi=>by
   have:=Cu h.2 i (by simpa using hi)
   rwa [show k+1+i=k+(i+1) by omega]at this
theorem Ap{i j:Nat}(h:i≠j):Nat.beq i j=false:=by
 cases hq:Nat.beq i j
 ·rfl
 exact absurd (Nat.eq_of_beq_eq_true hq) h
def xA(l:KR)(j:Nat):Bool:=l.any fun x=>Nat.beq x.1 j
theorem qj{l:KR}{j:Nat}(h:xA l j=true) : ∃ x∈l,x.1=j:=by
 unfold xA at h
 rw[List.any_eq_true]at h
 obtain⟨x,a,b⟩:=h
 exact⟨x,a,Nat.eq_of_beq_eq_true b⟩
theorem Aq{id:Nat}{T1 T2 T1' T2':TypeId}{a1 v1 a2 v2:Operand}{m1 m2:Nat}{z1 y1 z2 y2:Nat->Value}{u1 u2:Value}(k l y z:Nat)(N M:List KR)(vs:Array Value)(hm:P.follows .mixedOrders=true)(hok:jh n ops=true)(hsel:Region.noSelect ops.toArray=true)(Oi:H7 ops [k,l,y,z] N M=true)
 (hes : [k,l,y,z].all (fun e=>Nat.blt e ops.length&&(match (opAt ops e).guard with|none=>true|_=>false))=true) (hnd:decide [k,l,y,z].Nodup=true)
 (hw1:xA (N.getD y []) 0=true) (hw2:xA (N.getD z []) 1=true) (hw3:xA (M.getD k []) 2=true) (hw4:xA (M.getD l []) 3=true)
 (o1:(opAt ops k).op = .alloc T1) (o2:(opAt ops l).op = .alloc T2) (n1:((P.info? T1).bind (·.zero)).map (·.cells)=some (aA m1 z1)) (n2:((P.info? T2).bind (·.zero)).map (·.cells)=some (aA m2 z2))
 (U:(opAt ops y).op = .store T1' a1 v1) (V:(opAt ops z).op = .store T2' a2 v2) (X:(opAt ops y).dst=none) (Y:(opAt ops z).dst=none) (e1:(P.info? T1').map (·.size)=some m1) (e2:(P.info? T2').map (·.size)=some m2)
 (ha1 : ∀ o s,ev (DT ops f k l vs o s) a1 = .pointer (some ⟨o,0,none⟩)) (ha2 : ∀ o s,ev (DT ops f k l vs o s) a2 = .pointer (some ⟨s,0,none⟩)) (hv1 : ∀ o s,ev (DT ops f k l vs o s) v1=u1) (hv2 : ∀ o s,ev (DT ops f k l vs o s) v2=u2)
 (hu1:u1.cells=aA m1 y1) (hu2:u2.cells=aA m2 y2) (h11 : ∀ j,j<m1->(y1 j).oneCell'=true) (h12 : ∀ j,j<m2->(y2 j).oneCell'=true)
 (hq : ∀ o s,H8 P (DT ops f k l vs o s) ops.toArray w [k,l,y,z] vs ops 0)
 (h : ∀ o s w' Z,Z=DT ops f k l vs o s->w.heap.size<=o->w.heap.size<=s->o≠s->aL w' o m1 y1 T1->aL w' s m2 y2 T2->Below w.heap.size w w'->Q .normal Z w'):W P n (.region id ops.toArray true) Q f w:=by
 have hn:=of_decide_eq_true hnd
 simp only[List.nodup_cons,List.mem_cons,List.not_mem_nil,or_false,not_or]at hn
 obtain⟨⟨x12,x1s,x1t⟩,⟨x2s,x2t⟩,xst,_⟩:=hn
 refine W.masks [k,l,y,z] N M (fun r=>xw k l vs (r 0).1 (r 1).1) (Qr w m1 m2 z1 y1 z2 y2 T1 T2) hm hok hsel Oi hes (of_decide_eq_true hnd) (fun _=>(0,0)) (fun w1 A _=>⟨A,fun h=>(nomatch h),fun h=>(nomatch h),fun h=>(nomatch h)⟩) ?_ ?_ ?_ ?_
 ·intro i hi T r m v _ _ d
  rcases Cu (hq (r 0).1 (r 1).1) i hi with h2|h2
  ·rw[Nat.zero_add]at h2; rw[h2]at T; cases T
  rw[Nat.zero_add]at h2
  have hni':i≠k/\i≠l/\i≠y/\i≠z:=by simpa using T
  have H:xw k l vs (r 0).1 (r 1).1 i=vs.getD i undef:=by unfold xw; rw[Ap hni'.1,Ap hni'.2.1]; rfl
  show if Region.wanted (opAt ops i) (yf ops.toArray (DT ops f k l vs (r 0).1 (r 1).1))then Oper.quietUpon P _ v (xw k l vs (r 0).1 (r 1).1 i) ((execOp (ev (DT ops f k l vs (r 0).1 (r 1).1)) (opAt ops i)).run P v)else xw k l vs (r 0).1 (r 1).1 i=undef
  rw[H]
  by_cases hw:Region.wanted (opAt ops i) (yf ops.toArray (DT ops f k l vs (r 0).1 (r 1).1))=true
  ·rw[if_pos hw]at h2 ⊢
   rcases h2 v d.b with h3|⟨g,args,h3,h4⟩
   ·rw[h3]; exact⟨rfl,rfl⟩
   rw[h3]; exact⟨rfl,h4.mono fun e w2 ⟨he,hb2⟩=>⟨he,d.up hb2⟩⟩
  rw[if_neg hw]at h2 ⊢; exact h2
 ·intro j i t r m v a K hpr hpo hmj d B J
  match j,t with
  | 0,t =>
    obtain rfl:k=i:=by simpa using t
    obtain⟨v2,E,A,u⟩:=FH (ρ:=a.eval) o1 n1 v
    unfold Oper.wp
    rw[E]
    obtain⟨x,C,D⟩:=qj hw3
    have hm2:m 2=false:=by rw[<- D]; exact hpo x C
    have:=J (v.heap.size,0) v2 ⟨Ei d.b u.old,fun _=>by
     rw[kI]
     exact⟨d.b.size,by show aL v2 v.heap.size m1 (if m 2=true then y1 else z1) T1; rw[hm2]; exact A⟩,fun q=>by
     have q:m 1=true:=q
     rw[dF (by decide)]
     exact⟨(d.c q).1,(d.c q).2.eG u (Nat.ne_of_lt (d.c q).2.lt)⟩,fun _ q=>by
     have q:m 1=true:=q
     rw[kI,dF (by decide)]
     exact Nat.ne_of_gt (d.c q).2.lt⟩
    have H:xw k l vs (lS r 0 (v.heap.size,0) 0).1 (lS r 0 (v.heap.size,0) 1).1 k = .pointer (some ⟨v.heap.size,0,none⟩):=by unfold xw; rw[Nat.beq_refl,kI]; rfl
    rw[H]at this
    exact this
  | 1,t =>
    obtain rfl:l=i:=by simpa using t
    obtain⟨v2,E,A,u⟩:=FH (ρ:=a.eval) o2 n2 v
    unfold Oper.wp
    rw[E]
    obtain⟨x,C,D⟩:=qj hw4
    have hm3:m 3=false:=by rw[<- D]; exact hpo x C
    have:=J (v.heap.size,0) v2 ⟨Ei d.b u.old,fun q=>by
     have q:m 0=true:=q
     rw[dF (by decide)]
     exact⟨(d.a q).1,(d.a q).2.eG u (Nat.ne_of_lt (d.a q).2.lt)⟩,fun _=>by
     rw[kI]
     exact⟨d.b.size,by show aL v2 v.heap.size m2 (if m 3=true then y2 else z2) T2; rw[hm3]; exact A⟩,fun q _=>by
     have q:m 0=true:=q
     rw[kI,dF (by decide)]
     exact Nat.ne_of_lt (d.a q).2.lt⟩
    have H:xw k l vs (lS r 1 (v.heap.size,0) 0).1 (lS r 1 (v.heap.size,0) 1).1 l = .pointer (some ⟨v.heap.size,0,none⟩):=by unfold xw; rw[Ap (fun e=>x12 e.symm),Nat.beq_refl,kI]; rfl
    rw[H]at this
    exact this
  | 2,t =>
    obtain rfl:y=i:=by simpa using t
    obtain⟨x,C,D⟩:=qj hw1
    have F:m 0=true:=by rw[<- D]; exact hpr x C
    have O:a.eval a1 = .pointer (some ⟨(r 0).1,0,none⟩):=(B a1 (by rw[U]; simp[Op.operands])).trans (ha1 (r 0).1 (r 1).1)
    have R:a.eval v1=u1:=(B v1 (by rw[U]; simp[Op.operands])).trans (hv1 (r 0).1 (r 1).1)
    obtain⟨I,E,A,u⟩:=FI U e1 O R hu1 h11 (d.a F).2
    unfold Oper.wp
    rw[E]
    show K (a.put (opAt ops y).dst undef) _
    rw[X]
    have:=J (0,0) I ⟨u.below d.b d.b.size (d.a F).1,fun _=>by
     rw[dF (by decide)]
     exact⟨(d.a F).1,by show aL I (r 0).1 m1 (if Oh m 2 2=true then y1 else z1) T1; exact A⟩,fun q=>by
     have q:m 1=true:=q
     rw[dF (by decide)]
     exact⟨(d.c q).1,(d.c q).2.eG u (fun e=>d.ne F q e.symm)⟩,fun _ q=>by
     have q:m 1=true:=q
     rw[dF (by decide),dF (by decide)]
     exact d.ne F q⟩
    rw[X]at this
    exact this
  | 3,t =>
    obtain rfl:z=i:=by simpa using t
    obtain⟨x,C,D⟩:=qj hw2
    have G:m 1=true:=by rw[<- D]; exact hpr x C
    have O:a.eval a2 = .pointer (some ⟨(r 1).1,0,none⟩):=(B a2 (by rw[V]; simp[Op.operands])).trans (ha2 (r 0).1 (r 1).1)
    have R:a.eval v2=u2:=(B v2 (by rw[V]; simp[Op.operands])).trans (hv2 (r 0).1 (r 1).1)
    obtain⟨I,E,A,u⟩:=FI V e2 O R hu2 h12 (d.c G).2
    unfold Oper.wp
    rw[E]
    show K (a.put (opAt ops z).dst undef) _
    rw[Y]
    have:=J (0,0) I ⟨u.below d.b d.b.size (d.c G).1,fun q=>by
     have q:m 0=true:=q
     rw[dF (by decide)]
     exact⟨(d.a q).1,(d.a q).2.eG u (d.ne q G)⟩,fun _=>by
     rw[dF (by decide)]
     exact⟨(d.c G).1,by show aL I (r 1).1 m2 (if Oh m 3 3=true then y2 else z2) T2; exact A⟩,fun q _=>by
     have q:m 0=true:=q
     rw[dF (by decide),dF (by decide)]
     exact d.ne q G⟩
    rw[Y]at this
    exact this
  | j+4,t=>simp at t
 ·intro i hi j r p C hne hjl
  have t:j=0\/j=1\/j=2\/j=3:=by simp at hjl; omega
  show xw k l vs (lS r j p 0).1 (lS r j p 1).1 i=xw k l vs (r 0).1 (r 1).1 i
  unfold xw
  rcases t with rfl|rfl|rfl|rfl
  ·have:i≠k:=fun e=>hne (by rw[e]; rfl)
   rw[Ap this]; simp only[cond_false]; rw[dF (by decide)]
  ·have:i≠l:=fun e=>hne (by rw[e]; rfl)
   rw[Ap this]; simp only[cond_false]; rw[dF (by decide)]
  ·rw[dF (by decide),dF (by decide)]
  rw[dF (by decide),dF (by decide)]
 intro r m w' L d
 have m0:=L 0 (by simp); have m1':=L 1 (by simp); have m2':=L 2 (by simp); have m3:=L 3 (by simp)
 have B:=d.a m0; have S:=d.c m1'
 rw[m2']at B; rw[m3]at S
 exact h (r 0).1 (r 1).1 w' _ rfl B.1 S.1 (d.ne m0 m1') B.2 S.2 d.b
end
end Fx
end Go.Proofs.YtcbedgfikejkoaaDoor
namespace Go.Proofs.YtcbedgfikejkoaaDoor
open Go.RowKit Rt
open Fx (eU dJ fu bf fq eZ dS dM fA gQ dH gT eP gD gU Lv sN Ln Ws Qv Wl Rp Wc Qs Wr Sb Lk Wk rC rV sR Rs Rn Rd Rk Wb Wx Wo yT Wt pE Aq Qn AX uo xL yB xJ AZ AY gG yR jM nT tC A8 yA yP xQ yQ rv aA aL bC aI ev bT Stp bU aM flat fH Mp dL aV fC gI aX down fM iU ji jv bG bA cells_one jO aY nE unseen jk iT cu bW cB bY bZ iB iG qP gV)
set_option maxRecDepth 20000
namespace Rt
def ng(v:EvM):Int:=1099511627776*v.o+v.seq
def ko(m:dG)(v:EvM):Int:=if 5<=m.own (bD v)\/140737488355328<v.bH then 6 else m.T.err (ng v) v.node
def Cv(m:dG)(v:EvM):dG := { m with T:=m.T.put (ng v) v.node,R:=aI m.R m.T.n (upd (fun _=>0) (bD v) v.bH),own:=bB m.own (bD v) (m.own (bD v)+1) }
theorem Oj{T:dB}{pa:Int}{id:Int}{w:World}{b n:Nat}{x:Nat->Int}(h:Mp w b n x (aI (yJ T) T.n (aC pa))):Mp w b n x (yJ (T.put id pa)):=h.ni fun i _=>⟨rfl,by show aI (yJ T) T.n _ i=aC (aI T.p T.n pa i); unfold aI yJ; split <;> rfl⟩
theorem Qu{R:Nat->Nat->Int}{j n b:Nat}{r:Nat->Int}{x:Nat->Int}{w:World}(h:Mp w b n x (aI (qd R) j (.agg (aA 54 (rv .i64 r))))):Mp w b n x (qd (aI R j r)):=zl _ _ _ _ h
end Rt
theorem YK(o q:Int)(w:World)(a:1<=o/\o<=6)(b:1<=q/\q<1099511627776):Calls Tryd.prog 115 #[au o,aC q] w fun e w'=>e = .returned (aC (1099511627776*o+q))/\w'=w:=by
 have h:=acd o.toNat q.toNat w (by omega) (by omega)
 rw[show((o.toNat:Nat):Int)=o by omega,show((q.toNat:Nat):Int)=q by omega]at h
 exact h
theorem Ol(m:dG)(b B:Nat)(w:World)(h:je w B b m)(v:EvM)(hv:cZ v=true)(J:m.T.err (ng v) v.node=0)(a:Nat)(ha:a<6)(hra:bD v=a)(hob:0<=m.own a/\m.own a<=1000)(hid:0<=ng v/\ng v<=18446744073709551615)(I:Nat)(G:Nat)(l:Nat)(H:Nat)(S:aL w I 1 (fun _=>(pt b)) 25)(hi:aL w G 1 (fun _=>aC (ng v)) 29)(P:aL w l 14 (dz v) 33)(Q:aL w H 1 (fun _=>au (a:Int)) 3) :
 Calls Tryd.prog 117 #[(pt I),(pt G),(pt l),(pt H)] w fun e w'=>e = .returned (.tuple #[])/\je w' B b (Cv m v)/\iU (Ah m b) w w':=by
 have hC:=h.c
 have hT:=h.t
 have hP:=h.p
 have hR:=h.r
 have hG:=h.g
 have hA:=h.a
 have d:=h.ne
 have lC:=h.c.lt
 have lT:=h.t.lt
 have lP:=h.p.lt
 have lR:=h.r.lt
 have lG:=h.g.lt
 have lA:=h.a.lt
 have RY:=S.lt
 have lgi:=hi.lt
 have SA:=P.lt
 have lgk:=Q.lt
 have U : ∀ i,i<m.T.n->m.T.x i≠ng v:=fun i hi e=>by have:=(Gz J).2.1; rw[gZ hi e]at this; cases this
 refine Kent Tryd.func117 42 ?_
 refine Ws ?_
 -- region 0 draws
 refine jS [5,0,1,2,3,4,6,7] [4,0,0,4,4,0,4,3] [(7,0,[3,2,1,0]),(7,3,[3]),(7,4,[4]),(7,6,[6])] fun qY K iC => ?_
 have s1:Stp w.heap.size w qY:=Sb K
 have⟨W,m2,m3,m4,m5,m6,m7,m8,m9,m10⟩:=ou K hC hT hP hR hG hA S hi P Q
 have b1:=(tC (Ah m b) w).then s1 (.inr (tC (Ah m b) w).size)
 refine aU ((pf l 9))<|Rs ((pt b)) (aP m7.aJ 0) ?_
 refine aU ((pt b))<|aU ((pf b 18))<|Rs ((pt m.tp)) (aP W.aJ 18) ?_
 refine Rs (aC (ng v)) (aP m8.aJ 0) ?_
 refine Rs (aC v.node) (aP m9.aJ 9) ?_
 refine gP<|fB (EO (ng v) v.node m2 hid) _ rfl ?_
 rintro y ⟨m11,s2⟩
 have j:=m2.xP s2
 have m12:=W.dh j
 have m13:=m3.dh j ((Ne.symm d.mp))
 have m14:=m4.dh j ((Ne.symm d.mr))
 have m15:=m5.dh j ((Ne.symm d.mg))
 have m16:=m6.dh j ((Ne.symm d.ma))
 have m17:=m7.dh j
 have m18:=m8.dh j
 have m19:=m9.dh j
 have m20:=m10.dh j
 have C:=b1.then s2 (.inl (.inr (.inl rfl)))
 have m21:mM y B m.tp m.mb (m.T.put (ng v) v.node):=by rw[<- dB.zm J]; exact m11
 refine Ln<|bF<|Ws ?_
 -- region 1 draws
 refine jS [5,0,1,2,3,4,6,7] [4,0,0,4,4,0,4,3] [(7,0,[0]),(7,3,[3]),(7,4,[4]),(7,6,[6])] fun D9 M oC => ?_
 have s3:Stp y.heap.size y D9:=Sb M
 have⟨m22,m23,m24,qK,qL,qx,uU,qZ,tH,lJ⟩:=ou M m12 m13 m14 m15 m16 m17 m18 m19 m20 m21
 have b3:=C.then s3 (.inr C.size)
 refine aU ((pf l 9))<|Rs ((pt b)) (aP qx.aJ 0) ?_
 refine aU ((pt b))<|aU ((pf b 19))<|Rs (.map (some m.pb)) (aP m22.aJ 19) ?_
 refine Rs (aC (ng v)) (aP uU.aJ 0) ?_
 refine Rs (aC v.node) (aP qZ.aJ 9) ?_
 refine gP<|Fx.L.Kg (by rfl) rfl rfl rfl rfl rfl m23 Tryd.underlying53 Tryd.underlying29 U fun z m32 s4 z1 => ?_
 have k:=m23.xP s4
 have oD:=m22.dh k
 have nI:=m24.dh k ((Ne.symm d.pr))
 have qM:=qK.dh k ((Ne.symm d.pg))
 have pV:=qL.dh k ((Ne.symm d.pa))
 have uD:=qx.dh k
 have qF:=uU.dh k
 have sM:=qZ.dh k
 have ug:=tH.dh k
 have pW:=lJ.dh k (d.mp)
 have D:=b3.then s4 (.inl (.inr (.inr (.inl rfl))))
 have uE:Mp z m.pb ((m.T.put (ng v) v.node).n) ((m.T.put (ng v) v.node).x) (yJ (m.T.put (ng v) v.node)):=Oj m32
 refine Ln<|bF<|Ws ?_
 -- region 2 draws
 refine jS [0,2,3,7,8,1,4,5,6,9,10] [4,4,0,0,0,4,0,0,0,0,3] [(10,0,[0]),(10,1,[1]),(10,5,[5])] fun XQ N I5 => ?_
 have s5:Stp z.heap.size z XQ:=Sb N
 have⟨s,ru,vH,sO,xR,zS,wS,uh,vI,wG⟩:=ou N oD nI qM pV uD qF sM ug pW uE
 have b5:=D.then s5 (.inr D.size)
 refine Rs ((pt b)) (aP xR.aJ 0) ?_
 refine aU ((pt b))<|aU ((pf b 21))<|aU ((pt b))<|aU ((pf b 21))<|Rs (au a) (aP uh.aJ 0) ?_
 refine Rp ((pf b (a+21))) (fun _=>yS 6 1)<|Rs (au (m.own a)) (aP s.aJ (a+21) (DC (p:=a) (by omega) (by omega))) ?_
 refine Rp (au ((m.own a)+1)) (fun _=>fZ)<|Rp ((pf b (a+21))) (fun _=>yS 6 1)<|gP<|mZ s (a+21) (au ((m.own a)+1)) fun w3 vJ s6 z2 => ?_
 have Bo:aL w3 b 29 (oO { m with own:=bB m.own a (m.own a+1) }) 59:=vJ.to (Qf ha (by omega) _)
 have iq:=gG s6 s.ty
 have⟨wH,vK,sP,wI,xS,oF,uV,qy,xU⟩:=TP iq ru vH sO xR zS wS uh vI wG
 have q:=b5.then s6 (.inl (.inl rfl))
 refine Ln<|bF<|ay<|av (.agg (aA 54 (rv .i64 (fun _=>0))))<|lM 54 (rv .i64 (fun _=>0)) fun o w4 F u s7 z3 => ?_
 have⟨Bp,Bq,yF,zT,vL,Br,wT,zU,yG,EM⟩:=ou s7.old wH vK sP wI xS oF uV qy xU Bo
 have b7:=q.then s7 (.inr q.size)
 have V:=gM F q.size
 have⟨acw,acy,acz,acA,acB,acC,acD,acE,acF⟩:=PG F wH.lt vK.lt sP.lt wI.lt xS.lt oF.lt uV.lt xU.lt Bo.lt
 have wQ:=u.lt
 refine eX u 0 fun w5 xV s8 z4 => ?_
 have BS:aL w5 o 54 (rv .i64 (fun _=>0)) 66:=aM xV
 have kX:=gG s8 u.ty
 have⟨Ea,BU,A9,zV,yX,Bt,Dl,F6,GJ,Jc⟩:=IX kX Bp Bq yF zT vL Br wT zU yG EM
 have b8:=b7.then s8 (.inr V)
 refine aD<|ay<|Lv (au a) (aP Dl.aJ 0)<|av ((pf l 11))<|Lv (au v.bH) (aP Bt.aJ 11)<|av ((pt o))<|Lv ((pf o a)) (yS 6 1)<|mZ BS a (au v.bH) fun A BX s9 z5 => ?_
 have F7:aL A o 54 (rv .i64 (upd (fun _=>0) a v.bH)) 66:=BX.to (Fx.CQ _ _ _ _)
 have wR:=gG s9 BS.ty
 have⟨GK,F8,JE,KQ,Gc,H6,FE,JG,Gd,Og⟩:=IX wR Ea BU A9 zV yX Bt Dl F6 GJ Jc
 have E:=b8.then s9 (.inr V)
 refine aD ?_
 -- region 5 draws
 refine jS [0,1,2,3,4,5,6] [4,0,0,4,4,4,3] [(6,0,[0]),(6,3,[3]),(6,4,[4]),(6,5,[5])] fun wt4 O R9 => ?_
 have s10:Stp A.heap.size A wt4:=Sb O
 have⟨Ld,Bz,xu,X,Y,BA,uM,wh,xB,Z,aa⟩:=zH O GK F8 JE KQ Gc H6 FE JG Gd Og F7
 have b10:=E.then s10 (.inr E.size)
 refine Rs ((pt b)) (aP X.aJ 0) ?_
 refine aU ((pt b))<|aU ((pf b 20))<|Rs (.map (some m.rb)) (aP Z.aJ 20) ?_
 refine Rs (aC (ng v)) (aP Y.aJ 0) ?_
 refine Rs (.agg (aA 54 (rv .i64 (upd (fun _=>0) a v.bH)))) (gW aa.aJ 0) ?_
 refine gP<|Fx.L.Kg (by rfl) rfl rfl rfl rfl rfl Ld Tryd.underlying54 Tryd.underlying29 U fun w7 DU s11 z6 => ?_
 have f:=Ld.xP s11
 have xC:=Bz.dh f ((Ne.symm d.rg))
 have Ar:=xu.dh f ((Ne.symm d.ra))
 have KT:=X.dh f
 have Qw:=Y.dh f
 have KU:=BA.dh f
 have Qx:=uM.dh f
 have H9:=wh.dh f (d.mr)
 have Ia:=xB.dh f (d.pr)
 have Au:=Z.dh f
 have Ib:=aa.dh f
 have b11:=b10.then s11 (.inl (.inr (.inr (.inr (.inl rfl)))))
 have Om:Mp w7 m.rb ((m.T.put (ng v) v.node).n) ((m.T.put (ng v) v.node).x) (qd (aI m.R m.T.n (upd (fun _=>0) a v.bH))):=Qu DU
 refine Ln (Rn (⟨.tuple #[],fM Tryd.results117,?_⟩))
 unfold Cv; rw[hra]
 exact⟨rfl,{ c:=Au,t:=H9,p:=Ia,r:=Om,g:=xC,a:=Ar,ne:=⟨d.mp,d.mr,d.mg,d.ma,d.pr,d.pg,d.pa,d.rg,d.ra,d.ga⟩,lB:=h.lB,pB:=h.pB,rB:=h.rB,gB:=h.gB,aB:=h.aB },b11⟩
theorem Qy(m:dG)(j B:Nat)(w:World)(h:je w B j m)(v:EvM)(L:cZ v=true)(ab : ∀ a,a<6->0<=m.own a/\m.own a<=1000) :
 Calls Tryd.prog 108 #[(pt j),.agg (aA 14 (dz v))] w fun e w'=>Lb w B j m (Cv m v) (ko m v) e w':=by
 have Z:=h.c
 have hT:=h.t
 have hP:=h.p
 have hR:=h.r
 have hG:=h.g
 have hA:=h.a
 have hN:=h.ne
 have lC:=h.c.lt
 have lT:=h.t.lt
 have lP:=h.p.lt
 have lR:=h.r.lt
 have lG:=h.g.lt
 have lA:=h.a.lt
 obtain⟨a,J,ho⟩ : ∃ a:Nat,a<6/\v.o=(a:Int)+1:=dZ (iQ L)
 have z:bD v=a:=by unfold bD; omega
 have hbd:=mR L
 have aa:0<=ng v/\ng v<=18446744073709551615:=by unfold ng; omega
 have hoa:=ab a J
 refine Kent Tryd.func108 38 ?_
 refine ay<|qE ((pt j)) fun n w1 X M s1 z1 => ?_
 have⟨m2,U⟩:=iA s1.old Z (Below.refl w.heap.size w)
 have wF:=gY X
 have nH:=bR X Z.lt
 have wQ:=M.lt
 refine sG fun b w2 Y l s2 z2 => ?_
 have⟨P,Q,H⟩:=jI s2.old m2 M U
 have yH:=gM Y U.size
 have⟨Yu,Jr⟩:=ow Y m2.lt M.lt
 have Ba:=l.lt
 refine av (.nilFunc)<|av (au 0)<|aD<|Ws ?_
 -- region 1 draws
 refine Aq (T1:=29) (T2:=3) (T1':=29) (T2':=3) (a1 := .tmp 6) (v1 := .tmp 13) (a2 := .tmp 7) (v2 := .tmp 16) (m1:=1) (m2:=1) (z1:=rv .u64 (fun _=>0)) (y1:=fun _=>aC (ng v)) (z2:=rv .i64 (fun _=>0)) (y2:=fun _=>au ((a:Int))) (u1:=aC (ng v)) (u2:=au ((a:Int))) 8 9 10 11 [[],[],[],[],[],[],[],[],[],[],[(0,[8]),(1,[9])],[(0,[8]),(1,[9]),(2,[10])]] [[(2,[0]),(3,[0])],[(2,[1]),(3,[1])],[(2,[2]),(3,[2])],[(2,[3]),(3,[3])],[(2,[4]),(3,[4])],[(3,[5])],[(3,[6])],[(3,[7])],[(2,[8]),(3,[8])],[(2,[9]),(3,[9])],[(3,[10])],[]] #[(pt b),au v.o,(pf b 1),aC v.seq,aC (ng v),(pt b),au v.o,au ((a:Int)),undef,undef,undef,undef] (by kernel_rfl) (by kernel_rfl) (by kernel_rfl) (by kernel_rfl) (by kernel_rfl) (by kernel_rfl) (by kernel_rfl) (by kernel_rfl) (by kernel_rfl) (by kernel_rfl) rfl rfl (by kernel_rfl) (by kernel_rfl) rfl rfl rfl rfl (by kernel_rfl) (by kernel_rfl) (fun d f=>(show ev _ (.tmp 6)=(pt d)from by kernel_rfl)) (fun d f=>(show ev _ (.tmp 7)=(pt f)from by kernel_rfl)) (fun d f=>(show ev _ (.tmp 13)=aC (ng v)from by kernel_rfl)) (fun d f=>(show ev _ (.tmp 16)=au ((a:Int))from by kernel_rfl)) (cells_one (by rfl)) (cells_one (by rfl)) (fun _ _=>rfl) (fun _ _=>rfl) (fun d f => ?_) ?_
 ·refine⟨?_,?_,?_,?_,?_,?_,?_,?_,?_,?_,?_,?_,trivial⟩
  ·exact .inr TM
  ·exact .inr (Pk (au v.o) fun D q=>bf (x:=dz v) rfl (show ev _ (.tmp 9)=(pt b)from by kernel_rfl) (by kernel_rfl) (l.aJ.below q (by have:=l.lt; omega)) (i:=0) (by omega) (by omega) rfl)
  ·exact .inr TM
  ·exact .inr (Pk (aC v.seq) fun D q=>bf (x:=dz v) rfl (show ev _ (.tmp 11)=(pf b 1)from by kernel_rfl) (by kernel_rfl) (l.aJ.below q (by have:=l.lt; omega)) (i:=1) (by omega) (by omega) rfl)
  ·exact .inr (Fx.TA (v:=aC (ng v)) (by kernel_rfl) (by kernel_rfl) (Fx.qbC (fun D q=>rC (args := [au v.o,aC v.seq]) rfl (Fx.args2 (show ev _ (.tmp 10)=au v.o from by kernel_rfl) (show ev _ (.tmp 12)=aC v.seq from by kernel_rfl)) Tryd.func115 rfl rfl) (fun D q=>(YK v.o v.seq _ (by omega) (by omega)).mono fun e v2 h=>⟨h.1,(by rw[h.2]; exact Below.refl _ _)⟩)))
  ·exact .inr TM
  ·exact .inr (Pk (au v.o) fun D q=>bf (x:=dz v) rfl (show ev _ (.tmp 14)=(pt b)from by kernel_rfl) (by kernel_rfl) (l.aJ.below q (by have:=l.lt; omega)) (i:=0) (by omega) (by omega) rfl)
  ·exact .inr (Pk (au a) fun D q=>Fx.RF rfl (show ev _ (.tmp 15)=au v.o from by kernel_rfl) (show ev _ (.const (au 1))=au 1 from by kernel_rfl) Fx.io)
  ·exact .inl rfl
  ·exact .inl rfl
  ·exact .inl rfl
  exact .inl rfl
 rintro d f w3 G y A C ne1 m6 m7 hb1
 have afW:j≠d:=Nat.ne_of_lt (Nat.lt_of_lt_of_le (P.lt) A)
 have YL:n≠d:=Nat.ne_of_lt (Nat.lt_of_lt_of_le (Q.lt) A)
 have afX:b≠d:=Nat.ne_of_lt (Nat.lt_of_lt_of_le (l.lt) A)
 have afY:j≠f:=Nat.ne_of_lt (Nat.lt_of_lt_of_le (P.lt) C)
 have afZ:n≠f:=Nat.ne_of_lt (Nat.lt_of_lt_of_le (Q.lt) C)
 have aga:b≠f:=Nat.ne_of_lt (Nat.lt_of_lt_of_le (l.lt) C)
 have⟨m8,m9,m10,b3⟩:=iH hb1 P Q l H
 have A:w.heap.size<=d:=Nat.le_trans H.size A
 have Ga:=m6.lt
 have C:w.heap.size<=f:=Nat.le_trans H.size C
 have Js:=m7.lt
 have R:G 2=(pt n):=by rw[y]; kernel_rfl
 have S:G 3=(pt b):=by rw[y]; kernel_rfl
 have q5:G 6=(pt d):=by rw[y]; kernel_rfl
 have q6:G 7=(pt f):=by rw[y]; kernel_rfl
 clear y
 refine sN<|Ws<|Ws ?_
 -- region 2 draws
 refine jS [0,2,3,1,4,5,6,7,8,9,10,11] [4,4,0,0,0,4,0,0,0,4,0,0] [] fun qY fO iC => ?_
 have⟨m11,N,O,ac,ad,E⟩:=vw fO m8 m9 m10 m6 m7 b3
 refine Rs ((pt j)) (aP N.aJ 0 (ha:=R)) ?_
 refine aU ((pt j))<|aU ((pf j 21))<|Rs (au a) (aP ad.aJ 0 (ha:=q6)) ?_
 refine Rp ((pf j (a+21))) (fun _=>yS 6 1)<|Rs (au (m.own a)) (aP m11.aJ (a+21) (DC (p:=a) (by omega) (by omega))) ?_
 by_cases V:5<=(m.own a)
 ·refine Rp aG (fun _=>qD V)<|aU aG<|Rk (by rfl)<|Rk (by rfl)<|Rk (by rfl)<|aU aG<|bF<|aQ<|ay<|av (.nilFunc)<|av (au 6)<|aD<|Wr<|sR<|aN (.tuple #[.nilFunc,au 6]) ?_
  have k:ko m v=6:=by unfold ko; rw[z]; exact if_pos (.inl (by omega))
  exact⟨⟨.nilFunc,0,#[],by rw[k],rfl,fun u=>absurd (k.symm.trans u) (by first|decide|omega|assumption)⟩,E⟩
 refine Rp aF (fun _=>pJ V)<|aU aF<|Rp ((pf b 11)) (fun _=>xO S 11)<|Rs (au v.bH) (aP O.aJ 11) ?_
 by_cases W:140737488355328<v.bH
 ·refine Rp aG (fun _=>vo W)<|aU aG<|bF<|aQ<|ay<|av (.nilFunc)<|av (au 6)<|aD<|Wr<|sR<|aN (.tuple #[.nilFunc,au 6]) ?_
  have k:ko m v=6:=by unfold ko; rw[z]; exact if_pos (.inr (by omega))
  exact⟨⟨.nilFunc,0,#[],by rw[k],rfl,fun u=>absurd (k.symm.trans u) (by first|decide|omega|assumption)⟩,E⟩
 refine Rp aF (fun _=>vv W)<|aU aF<|bF<|aK<|Wk<|sN<|Ws<|ay<|Lv ((pt j)) (aP N.aJ 0 (ha:=R))<|Lv (aC (ng v)) (aP ac.aJ 0 (ha:=q5))<|Lv ((pf b 9)) (xO S 9)<|Lv (aC v.node) (aP O.aJ 9)<|fB (Vp m j B _ (h.up E) (ng v) v.node aa) _ rfl ?_
 intro w4 s
 have⟨ae,af,ag,m20,I⟩:=lV s N O ac ad E
 refine av (au (m.T.err (ng v) v.node))<|aD<|ay<|av (au (m.T.err (ng v) v.node)) ?_
 by_cases F:(m.T.err (ng v) v.node)=0
 ·refine Lv aF (kW F)<|aD<|aK<|Wk<|sN<|ay<|Lv (.func (.func 117) #[] #[(pt n),(pt d),(pt b),(pt f)]) (Fx.jl (us := []) (vs := [(pt n),(pt d),(pt b),(pt f)]) rfl rfl (Fx.RD R q5 S q6))<|av (.func (.func 117) #[] #[(pt n),(pt d),(pt b),(pt f)])<|av (au 0)<|aD<|Wr<|aN (.tuple #[.func (.func 117) #[] #[(pt n),(pt d),(pt b),(pt f)],au 0]) ?_
  have k:ko m v=0:=by unfold ko; rw[z,if_neg (by omega)]; exact F
  exact⟨⟨_,117,#[(pt n),(pt d),(pt b),(pt f)],by rw[k],rfl,fun _=>⟨rfl,⟨_,_,Tryd.func117,rfl,rfl⟩,fun w2 s=>(Ol m j B w2 ((h.up I).up s) v L F a J z (ab a J) aa _ _ _ _ (ae.eG (Sb s) (Nat.ne_of_lt ae.lt)) (ag.eG (Sb s) (Nat.ne_of_lt ag.lt)) (af.eG (Sb s) (Nat.ne_of_lt af.lt)) (m20.eG (Sb s) (Nat.ne_of_lt m20.lt))).mono fun _ _ K=>⟨K.1,K.2.1,K.2.2.mono fun _ hk => .inl hk⟩⟩⟩,I⟩
 refine Lv aG (qV F)<|aD<|aQ<|ay<|av (au (m.T.err (ng v) v.node))<|av (.nilFunc)<|av (au (m.T.err (ng v) v.node))<|aD<|Wr<|sR<|aN (.tuple #[.nilFunc,au (m.T.err (ng v) v.node)]) ?_
 have k:ko m v=m.T.err (ng v) v.node:=by unfold ko; rw[z,if_neg (by omega)]
 exact⟨⟨.nilFunc,0,#[],by rw[k],rfl,fun u=>absurd (k.symm.trans u) (by first|decide|omega|assumption)⟩,I⟩
end Go.Proofs.YtcbedgfikejkoaaDoor
namespace Go.Proofs.YtcbedgfikejkoaaDoor
open Go.RowKit Go
set_option linter.unusedVariables false
namespace Rt
section
variable {x p:Nat->Int} {n d e:Nat} {k v:Int}
theorem DV : ∀ {d:Nat} {v:Int},gJ x p n d v -> ∀ k,k∈ig x p n d v->(ig x p n d k).length<=(ig x p n d v).length
 | 0,v,h,k,hk=>by cases hk
 | d+1,v,h,k,hk=>by
   cases hv:dD x n v with
   | false=>rw[jm hv]at hk; cases hk
   | true =>
     have e:ig x p n (d+1) v=v::ig x p n d (fI x p n v):=by show(if _ then _ else _)=_; rw[if_pos hv]
     have a:gJ x p n d (fI x p n v):=h hv
     rw[e]at hk
     rcases List.mem_cons.1 hk with rfl|hk
     ·exact Nat.le_refl _
     ·have b:=DV a k hk
      have c:gJ x p n d k:=by
       refine vG (d:=d) ?_ (Nat.le_trans b sJ)
       exact Av a k hk
      have f:=(Di c (Nat.le_succ d)).1
      rw[f,e,List.length_cons]; omega
where Av : ∀ {d:Nat} {v:Int},gJ x p n d v -> ∀ k,k∈ig x p n d v->gJ x p n d k
 | 0,v,h,k,hk=>by cases hk
 | d+1,v,h,k,hk=>by
   cases hv:dD x n v with
   | false=>rw[jm hv]at hk; cases hk
   | true =>
     have e:ig x p n (d+1) v=v::ig x p n d (fI x p n v):=by show(if _ then _ else _)=_; rw[if_pos hv]
     have hs:gJ x p n d (fI x p n v):=h hv
     rw[e]at hk
     rcases List.mem_cons.1 hk with rfl|hk
     ·exact h
     ·exact(Di (Av hs k hk) (Nat.le_succ d)).2
theorem Cw : ∀ {d:Nat} {v:Int},gJ x p n d v->(ig x p n d v).Nodup
 | 0,v,h=>List.nodup_nil
 | d+1,v,h=>by
   cases hv:dD x n v with
   | false=>rw[jm hv]; exact List.nodup_nil
   | true =>
     have e:ig x p n (d+1) v=v::ig x p n d (fI x p n v):=by show(if _ then _ else _)=_; rw[if_pos hv]
     have a:gJ x p n d (fI x p n v):=h hv
     rw[e,List.nodup_cons]
     refine⟨fun c => ?_,Cw a⟩
     have f:=DV a v c
     have b:=(Di (DV.Av a v c) (Nat.le_succ d)).1
     rw[e]at b
     rw[<- b,List.length_cons]at f
     omega
end
section
variable {T:dB} {l:List Int} {k:Int}
theorem dB.uN(h:T.ok)(k:Int):(T.path k).Nodup:=Cw (h.stop k)
theorem dB.wm(h:T.ok)(e:l=T.path k) : ∀ v,v∈l->T.has v=true:=fun v c=>by
 obtain⟨i,a,b⟩:=List.getElem_of_mem c
 have:=dB.Hy h e a
 rw[List.getD_eq_getElem?_getD,List.getElem?_eq_getElem a]at this
 rw[<- b]; exact this
theorem xD(h:l.Nodup){i j:Nat}(hi:i<l.length)(a:j<l.length)(e:l.getD i 0=l.getD j 0):i=j:=by
 rw[List.getD_eq_getElem?_getD,List.getD_eq_getElem?_getD,List.getElem?_eq_getElem hi,List.getElem?_eq_getElem a]at e
 exact(List.getElem_inj h).1 e
end
def jr(f:(Nat->Int)->(Nat->Int) × Int)(r:Nat->Nat->Int):Nat->Int
 | 0=>0
 | i+1=>if jr f r i=0 then(f (r i)).2 else jr f r i
section
variable {f:(Nat->Int)->(Nat->Int) × Int} {r:Nat->Nat->Int} {i n:Nat}
theorem Cx(h:jr f r i=0)(a:(f (r i)).2=0):jr f r (i+1)=0:=by unfold jr; rw[if_pos h,a]
theorem uO(h:jr f r i=0)(a : ¬ (f (r i)).2=0) : ∀ n,i<n->jr f r n=(f (r i)).2
 | 0,hn=>absurd hn (Nat.not_lt_zero _)
 | n+1,hn=>by
   unfold jr
   by_cases e:i=n
   ·subst e; rw[if_pos h]
   ·rw[uO h a n (by omega),if_neg a]
end
def yh(m:dG)(k:Int):Nat->Int:=m.R (m.idx k)
def bV(m:dG)(f:(Nat->Int)->(Nat->Int) × Int)(l:List Int):Int:=jr f (fun i=>yh m (l.getD i 0)) l.length
open Classical in
noncomputable def mU(m:dG)(f:(Nat->Int)->(Nat->Int) × Int)(l:List Int):dG := { m with R:=fun i=>if m.T.x i∈l then(f (m.R i)).1 else m.R i }
def yj(l:List Int)(S:Nat->Bool)(v:Int):Nat->Bool
 | 0=>false
 | n+1=>yj l S v n || (S n&&decide (l.getD n 0=v))
theorem mD{l:List Int}{S:Nat->Bool}{v:Int} : ∀ {n:Nat},yj l S v n=true <-> ∃ q,q<n/\S q=true/\l.getD q 0=v
 | 0=>⟨fun h=>(nomatch h),fun⟨q,h,_⟩=>absurd h (Nat.not_lt_zero _)⟩
 | n+1=>by
   unfold yj
   rw[Bool.or_eq_true,mD,Bool.and_eq_true,decide_eq_true_iff]
   constructor
   ·rintro (⟨q,c,a,b⟩|⟨c,a⟩)
    ·exact⟨q,by omega,a,b⟩
    ·exact⟨n,by omega,c,a⟩
   ·rintro ⟨q,c,a,b⟩
    by_cases e:q=n
    ·subst e; exact .inr ⟨a,b⟩
    ·exact .inl ⟨q,by omega,a,b⟩
def sj(m:dG)(f:(Nat->Int)->(Nat->Int) × Int)(l:List Int)(S:Nat->Bool):Nat->Nat->Int:=fun i=>if yj l S (m.T.x i) l.length=true then(f (m.R i)).1 else m.R i
theorem Ic(m:dG)(f:(Nat->Int)->(Nat->Int) × Int)(l:List Int):sj m f l (fun _=>false)=m.R:=by
 funext i
 unfold sj
 rw[if_neg]
 rw[mD]
 rintro ⟨q,_,h,_⟩; cases h
theorem KV{m:dG}(o:m.T.ok){f:(Nat->Int)->(Nat->Int) × Int}{l:List Int}{S:Nat->Bool}{q j:Nat}(t:q<l.length)(s:j<m.T.n)(g:m.T.x j=l.getD q 0) : ∀ i,i<m.T.n->Fx.aI (sj m f l S) j (f (m.R j)).1 i=sj m f l (Fx.aI S q true) i:=fun i p=>by
 unfold Fx.aI
 by_cases e:i=j
 ·subst e
  rw[if_pos rfl]
  unfold sj
  rw[if_pos]
  rw[mD]
  exact⟨q,t,by show(if q=q then true else S q)=true; rw[if_pos rfl],g.symm⟩
 ·rw[if_neg e]
  unfold sj
  have:yj l S (m.T.x i) l.length=true<->yj l (fun i=>if i=q then true else S i) (m.T.x i) l.length=true:=by
   rw[mD,mD]
   constructor
   ·rintro ⟨r,d,a,b⟩
    exact⟨r,d,by show(if r=q then true else S r)=true; split <;> first|rfl|exact a,b⟩
   ·rintro ⟨r,d,a,b⟩
    by_cases k:r=q
    ·subst k
     exact absurd (o.inj i j p s (by rw[g,<- b])) e
    ·exact⟨r,d,by have a:(if r=q then true else S r)=true:=a; rw[if_neg k]at a; exact a,b⟩
  by_cases c:yj l S (m.T.x i) l.length=true
  ·rw[if_pos c,if_pos (this.1 c)]
  ·rw[if_neg c,if_neg (fun h=>c (this.2 h))]
theorem Oo{m:dG}{f:(Nat->Int)->(Nat->Int) × Int}{l:List Int}{S:Nat->Bool}(h : ∀ q,q<l.length->S q=true):sj m f l S=(mU m f l).R:=by
 funext i
 show _=if m.T.x i∈l then(f (m.R i)).1 else m.R i
 unfold sj
 have:yj l S (m.T.x i) l.length=true<->m.T.x i∈l:=by
  rw[mD]
  constructor
  ·rintro ⟨q,b,_,d⟩
   rw[<- d,List.getD_eq_getElem?_getD,List.getElem?_eq_getElem b]; exact List.getElem_mem b
  ·intro g
   obtain⟨q,a,e⟩:=List.getElem_of_mem g
   exact⟨q,a,h q a,by rw[List.getD_eq_getElem?_getD,List.getElem?_eq_getElem a]; exact e⟩
 by_cases c:m.T.x i∈l
 ·rw[if_pos (this.2 c),if_pos c]
 rw[if_neg (fun h=>c (this.1 h)),if_neg c]
def mV(m:dG)(f:(Nat->Int)->(Nat->Int) × Int)(l:List Int):Nat->Value:=fun q => .agg (Fx.aA 54 (Fx.rv .i64 (f (yh m (l.getD q 0))).1))
theorem Cy{m:dG}{f:(Nat->Int)->(Nat->Int) × Int}{l:List Int}{w:World}{b i:Nat}{r:Nat->Int}(h:Fx.Mp w b (i+1) (Fx.aI (fun q=>l.getD q 0) i (l.getD i 0)) (Fx.aI (mV m f l) i (.agg (Fx.aA 54 (Fx.rv .i64 r)))))(e:r=(f (yh m (l.getD i 0))).1):Fx.Mp w b (i+1) (fun q=>l.getD q 0) (mV m f l):=h.ni fun q a=>by
 unfold Fx.aI
 by_cases c:q=i
 ·subst c; rw[if_pos rfl,if_pos rfl,e]; exact⟨rfl,rfl⟩
 ·rw[if_neg c,if_neg c]; exact⟨rfl,rfl⟩
end Rt
end Go.Proofs.YtcbedgfikejkoaaDoor
namespace Go.Proofs.YtcbedgfikejkoaaDoor
open Go.RowKit Rt
open Fx (eU dJ fu bf fq eZ dS dM fA gQ dH gT eP gD gU Lv sN Ln Ws Qv Wl Rp Wc Qs Wr Sb Lk Wk rC rV sR Rs Rn Rd Rk Wb Wx Wo yT Wt pE Aq Qn AX uo xL yB xJ AZ AY gG yR jM nT tC A8 yA yP xQ yQ rv aA aL bC aI ev bT Stp bU aM flat fH Mp dL aV fC gI aX down fM iU ji jv bG bA cells_one jO aY nE unseen jk iT cu bW cB bY bZ iB iG qP gV)
set_option maxRecDepth 20000
set_option linter.unusedVariables false
theorem Oq(x:Nat->Int)(v:EvM)(a:Nat)(w:World)(E:1<=v.o/\v.o<=6)(b:aL w a 14 (dz v) 33) :
 Calls Tryd.prog 121 #[.agg (aA 54 (rv .i64 x)),(pt a)] w fun e w'=>e = .returned ((.tuple #[.agg (aA 54 (rv .i64 (bO x v.o v.bH).1)),au (bO x v.o v.bH).2]))/\Below w.heap.size w w':=by
 have H:=b.lt
 refine Kent Tryd.func121 13 ?_
 refine ay<|sG fun D P i c A S => ?_
 have⟨k,g⟩:=iA A.old b (Below.refl w.heap.size w)
 have F:=gY i
 have K:=bR i b.lt
 have N:=c.lt
 refine lM 54 (rv .i64 (fun _=>0)) fun q Q j l B T => ?_
 have⟨d,m,n⟩:=jI B.old k c g
 have G:=gM j g.size
 have⟨L,M⟩:=ow j k.lt c.lt
 have O:=l.lt
 refine av (au 0)<|aD<|ay<|Lv (.agg (aA 54 (rv .i64 x))) (gW m.aJ 0)<|av ((pt a))<|Lv (au v.o) (aP d.aJ 0)<|av ((pf a 11))<|Lv (au v.bH) (aP d.aJ 11)<|fB (UZ (x) v.o v.bH _ (by omega)) _ rfl ?_
 intro R r
 have⟨t,u,y,h⟩:=iH r d m l n
 refine av (.agg (aA 54 (rv .i64 ((bO (x) v.o v.bH).1))))<|av (au ((bO (x) v.o v.bH).2))<|eX y 0 fun C z f U => ?_
 have s:aL C q 54 (rv .i64 ((bO (x) v.o v.bH).1)) 66:=aM z
 have I:=t.eG f (by omega)
 have J:=u.eG f (by omega)
 have p:=f.below h h.size (by omega)
 refine av (au ((bO (x) v.o v.bH).2)) (aD (Wr (⟨.tuple #[.agg (aA 54 (rv .i64 ((bO (x) v.o v.bH).1))),au ((bO (x) v.o v.bH).2)],gV Tryd.results121 ⟨_,rfl,aV s.aJ (by kernel_rfl) (by kernel_rfl)⟩ (by exact rfl),?_⟩)))
 exact⟨rfl,p⟩
theorem Ot(x:Nat->Int)(v:EvM)(g:Nat->Int)(b c:Nat)(w:World)(K:1<=v.o/\v.o<=6)(d:aL w b 14 (dz v) 33)(f:aL w c 5 (jP g) 72) :
 Calls Tryd.prog 124 #[.agg (aA 54 (rv .i64 x)),(pt b),(pt c)] w fun e w'=>e = .returned ((.tuple #[.agg (aA 54 (rv .i64 (bP x v.o (g 3)).1)),au (bP x v.o (g 3)).2]))/\Below w.heap.size w w':=by
 have N:=d.lt
 have O:=f.lt
 refine Kent Tryd.func124 14 ?_
 refine ay<|sG fun J Z k h G z1 => ?_
 have⟨m,n,i⟩:=jI G.old d f (Below.refl w.heap.size w)
 have L:=gY k
 have⟨S,T⟩:=ow k d.lt f.lt
 have X:=h.lt
 refine lM 54 (rv .i64 (fun _=>0)) fun y w2 l p H z2 => ?_
 have⟨q,r,s,t⟩:=iH H.old m n h i
 have M:=gM l i.size
 have⟨U,V,W⟩:=Bf l m.lt n.lt h.lt
 have Y:=p.lt
 refine av (au 0)<|aD<|ay<|Lv (.agg (aA 54 (rv .i64 x))) (gW s.aJ 0)<|av ((pt b))<|Lv (au v.o) (aP q.aJ 0)<|av ((pf c 3))<|Lv (au (g 3)) (aP r.aJ 3)<|fB (U0 (x) v.o (g 3) _ (by omega)) _ rfl ?_
 intro w3 z
 have⟨E,F,A,B,j⟩:=lV z q r s p t
 refine av (.agg (aA 54 (rv .i64 ((bP (x) v.o (g 3)).1))))<|av (au ((bP (x) v.o (g 3)).2))<|eX B 0 fun I C a z3 => ?_
 have D:aL I y 54 (rv .i64 ((bP (x) v.o (g 3)).1)) 66:=aM C
 have P:=E.eG a (by omega)
 have Q:=F.eG a (by omega)
 have R:=A.eG a (by omega)
 have u:=a.below j j.size (by omega)
 refine av (au ((bP (x) v.o (g 3)).2)) (aD (Wr (⟨.tuple #[.agg (aA 54 (rv .i64 ((bP (x) v.o (g 3)).1))),au ((bP (x) v.o (g 3)).2)],gV Tryd.results124 ⟨_,rfl,aV D.aJ (by kernel_rfl) (by kernel_rfl)⟩ (by exact rfl),?_⟩)))
 exact⟨rfl,u⟩
theorem FJ(m:dG)(j B:Nat)(w:World)(h:je w B j m)(o:(Nat->Int)->(Nat->Int) × Int)(l:List Int)(s:Nat)(hgM:m.rb≠s/\m.mb≠s/\m.pb≠s/\m.gb≠s/\m.ab≠s)(hlh : ∀ k,k∈l->m.T.has k=true)(I:Mp w s l.length (fun q=>l.getD q 0) (mV m o l))(z:Nat)(A:Nat)(H:aL w z 1 (fun _ => .map (some s)) 54)(Z:aL w A 1 (fun _=>(pt j)) 25) :
 Calls Tryd.prog 134 #[(pt z),(pt A)] w fun e w'=>e = .returned (.tuple #[])/\je w' B j (mU m o l)/\iU (Ah m j) w w':=by
 have hC:=h.c
 have hT:=h.t
 have hP:=h.p
 have hR:=h.r
 have hG:=h.g
 have hA:=h.a
 have b:=h.ne
 have lC:=h.c.lt
 have lT:=h.t.lt
 have lP:=h.p.lt
 have lR:=h.r.lt
 have lG:=h.g.lt
 have lA:=h.a.lt
 have lg8:=H.lt
 have RY:=Z.lt
 have lF:=I.lt
 obtain⟨hg1,hg2,hg3,hg4,hg5⟩:=hgM
 refine Kent Tryd.func134 17 ?_
 refine ay<|Lv (.map (some s)) (aP H.aJ 0)<|Fx.L.range (by rfl) rfl rfl rfl I Tryd.underlying54 fun F w1 nk m1 s1 z1 => ?_
 have⟨m2,m3,m4,m5,m6,m7,m8,m9,m10⟩:=Db s1.old hC hT hP hR hG hA I H Z
 have b1:=(tC (Ah m j) w).then s1 (.inr (tC (Ah m j) w).size)
 have wF:w.heap.size<=F:=by rw[nk]; exact(tC (Ah m j) w).size
 have wQ:=m1.lt
 refine aD<|Wb ?_
 have m11:Mp w1 m.rb m.T.n m.T.x (qd (sj m o l (fun _=>false))):=by rw[Ic]; exact m5
 refine yT (fun kE f v => ∃ S:Nat->Bool,∃ K:Nat,K=unseen S l.length/\K=kE/\f 0=(pt z)/\f 1=(pt A)/\f 5=(pt F)/\aL v j 29 (oO m) 59/\mM v B m.tp m.mb m.T/\Mp v m.pb m.T.n m.T.x (yJ m.T)/\fC v m.gb m.gn (fun i=>m.g i 0) (fun i=>m.g i 1) (nY m.g)/\fC v m.ab m.an m.ao m.ar yK/\Mp v s l.length (fun q=>l.getD q 0) (mV m o l)/\aL v z 1 (fun _ => .map (some s)) 54/\aL v A 1 (fun _=>(pt j)) 25/\Mp v m.rb m.T.n m.T.x (qd (sj m o l S))/\Fx.It v F s l.length S/\iU (Ah m j) w v) (unseen (fun _=>false) l.length) ⟨(fun _=>false),(unseen (fun _=>false) l.length),rfl,rfl,(by rfl),(by rfl),(by rfl),m2,m3,m4,m6,m7,m8,m9,m10,m11,m1,b1⟩ ?_
 rintro kE f1 w2 ⟨S,K,hkk,hkE,W,X,G,m12,m13,m14,m15,m16,m17,m18,m19,m20,M,Q⟩
 refine ay<|Fx.L.next (by rfl) rfl rfl G m17 M (fun EN => ?_)<|fun d w3 C hS1 m22 Xc s2 z2 => ?_
 ·skip
  refine av aF (aD (Ws (aK (Wx (bY (iB (bZ (⟨.tuple #[],fM Tryd.results134,?_⟩))))))))
  have m23:Mp w2 m.rb m.T.n m.T.x (qd (mU m o l).R):=by rw[<- Oo EN]; exact m20
  exact⟨rfl,{ c:=m12,t:=m13,p:=m14,r:=m23,g:=m15,a:=m16,ne:=⟨b.mp,b.mr,b.mg,b.ma,b.pr,b.pg,b.pa,b.rg,b.ra,b.ga⟩,lB:=h.lB,pB:=h.pB,rB:=h.rB,gB:=h.gB,aB:=h.aB },Q⟩
 skip
 have y:=M.xP s2
 have m24:=m12.dh y
 have qK:=m13.dh y (by omega)
 have qL:=m14.dh y (by omega)
 have qx:=m15.dh y (by omega)
 have uU:=m16.dh y (by omega)
 have N:=m17.dh y (M.rb.symm)
 have tH:=m18.dh y
 have lJ:=m19.dh y
 have m32:=m20.dh y (by omega)
 have D:=Q.then s2 (.inr wF)
 refine av aG<|aD<|Ws<|aQ<|Wk<|sN<|Wb<|ay<|Lv (.tuple #[aC (l.getD d 0),.agg (aA 54 (rv .i64 ((o (yh m (l.getD d 0))).1)))]) (Fx.IZ (key:=fun q=>l.getD q 0) (val:=mV m o l) (i:=d) rfl G N Xc C)<|av (aC (l.getD d 0))<|av (.agg (aA 54 (rv .i64 ((o (yh m (l.getD d 0))).1))))<|lM 54 (rv .i64 (fun _=>0)) fun g2 w4 V O s3 z3 => ?_
 have⟨nI,qM,pV,uD,qF,sM,ug,pW,uE,qN,ru⟩:=zH s3.old m24 qK qL qx uU N tH lJ m32 Xc m22
 have b4:=D.then s3 (.inr D.size)
 have yH:=gM V D.size
 have⟨acG,acH,acI,acJ,acK,acL,acM,acN⟩:=PE V m24.lt qL.lt qx.lt uU.lt N.lt tH.lt lJ.lt m32.lt
 have Ba:=O.lt
 refine av (aC (l.getD d 0))<|eX O 0 fun P vH s4 z4 => ?_
 have sO:aL P g2 54 (rv .i64 ((o (yh m (l.getD d 0))).1)) 66:=aM vH
 have iq:=gG s4 O.ty
 have⟨xR,zS,wS,uh,vI,wG,vJ,Bo,wH,vK,sP⟩:=RU iq nI qM pV uD qF sM ug pW uE qN ru
 have U:=b4.then s4 (.inr yH)
 refine aD ?_
 obtain⟨jz,J,E⟩:=eT (hlh _ (oz C rfl))
 have ejx:yh m (l.getD d 0)=m.R jz:=by unfold yh dG.idx; rw[jH h.t.inv.inj J E]
 -- region 3 draws
 refine jS [4,0,1,2,3,5,6] [4,0,0,4,0,4,3] [(6,0,[0]),(6,3,[3]),(6,5,[5])] fun qY Y iC => ?_
 have s5:Stp P.heap.size P qY:=Sb Y
 have⟨wI,xS,oF,uV,qy,xU,m64,Bp,Bq,yF,zT,vL⟩:=IW Y xR zS wS uh vI wG vJ Bo wH vK sP sO
 have b6:=U.then s5 (.inr U.size)
 refine aU (aC (l.getD d 0))<|Rs ((pt j)) (aP Bp.aJ 0 (ha:=X)) ?_
 refine aU ((pt j))<|aU ((pf j 20))<|Rs (.map (some m.rb)) (aP wI.aJ 20) ?_
 refine Rs (.agg (aA 54 (rv .i64 ((o (yh m (l.getD d 0))).1)))) (gW vL.aJ 0) ?_
 refine gP<|Fx.L.TR (by rfl) rfl rfl rfl rfl rfl Bq Tryd.underlying54 Tryd.underlying29 J E fun w6 Br s6 z5 => ?_
 have u:=Bq.xP s6
 have wT:=wI.dh u
 have zU:=xS.dh u (b.mr)
 have yG:=oF.dh u (b.pr)
 have EM:=uV.dh u ((Ne.symm b.rg))
 have xV:=qy.dh u ((Ne.symm b.ra))
 have BS:=xU.dh u (by omega)
 have Ea:=m64.dh u
 have BU:=Bp.dh u
 have A9:=yF.dh u (by omega) (by omega)
 have zV:=zT.dh u (by omega) (by omega)
 have yX:=vL.dh u
 have b7:=b6.then s6 (.inl (.inr (.inr (.inr (.inl rfl)))))
 have Bt:Mp w6 m.rb m.T.n m.T.x (qd (sj m o l (aI S d true))):=by have q9:=zl _ _ _ _ Br; rw[ejx]at q9; exact q9.ni fun i hi=>⟨rfl,by unfold qd; rw[KV h.t.inv C J E i hi]⟩
 refine Ln (Rn (cB (iG ⟨unseen (aI S d true) l.length,(by have W:=Fx.kK hS1 l.length C; omega),(aI S d true),(unseen (aI S d true) l.length),rfl,rfl,W,X,G,wT,zU,yG,EM,xV,BS,Ea,BU,Bt,zV,b7⟩ (by decide))))
theorem Ou(m:dG)(j B:Nat)(w:World)(h:je w B j m)(C:Int)(v:EvM)(ho:1<=v.o/\v.o<=6)(E:Nat)(u:aL w E 14 (dz v) 33) :
 Calls Tryd.prog 120 #[(pt j),aC C,.func (.func 121) #[] #[(pt E)]] w fun e w'=>Lb w B j m (mU m (fun x=>bO x v.o v.bH) (m.T.path C)) (bV m (fun x=>bO x v.o v.bH) (m.T.path C)) e w':=by
 have hC:=h.c
 have hT:=h.t
 have hP:=h.p
 have hR:=h.r
 have hG:=h.g
 have hA:=h.a
 have hN:=h.ne
 have lC:=h.c.lt
 have lT:=h.t.lt
 have lP:=h.p.lt
 have lR:=h.r.lt
 have lG:=h.g.lt
 have lA:=h.a.lt
 have SA:=u.lt
 refine Kent Tryd.func120 44 ?_
 refine ay<|qE ((pt j)) fun A w1 nk Y s1 z1 => ?_
 have⟨m2,m3,m4,m5,m6,m7,m8,b1⟩:=Bd s1.old hC hT hP hR hG hA u (Below.refl w.heap.size w)
 have wF:=gY nk
 have⟨nH,rY,vU,vV,vW,Ov⟩:=Dc nk hC.lt hP.lt hR.lt hG.lt hA.lt u.lt
 have wQ:=Y.lt
 refine av (.nilFunc)<|av (au 0)<|aD<|ay<|Fx.L.Et (by rfl) rfl rfl fun d w2 uW m9 s2 z2 => ?_
 have⟨m10,m11,m12,m13,m14,m15,m16,m17,b2⟩:=Db s2.old m2 m3 m4 m5 m6 m7 m8 Y b1
 have yH:=gM uW b1.size
 have⟨acP,DN,Aj,og,uF,MW,MX⟩:=Gu uW m2.lt m4.lt m5.lt m6.lt m7.lt m8.lt Y.lt
 have Ba:=m9.lt
 refine lM 1 (fun _ => .map none) fun y w3 Ak Z s3 z3 => ?_
 have⟨m19,m20,m21,m22,m23,m24,qK,qL,qx,b3⟩:=ou s3.old m10 m11 m12 m13 m14 m15 m16 m17 m9 b2
 have EB:=gM Ak b2.size
 have⟨Vt,Ow,Vu,Ox,Oy,Hu,Vv,DR⟩:=PE Ak m10.lt m12.lt m13.lt m14.lt m15.lt m16.lt m17.lt m9.lt
 have Ga:=Z.lt
 refine mZ Z 0 (.map (some d)) fun O uU s4 z4 => ?_
 have qZ:aL O y 1 (fun _ => .map (some d)) 54:=cu uU
 have iq:=gG s4 Z.ty
 have⟨tH,lJ,m32,oD,nI,qM,pV,uD,qF⟩:=TP iq m19 m20 m21 m22 m23 m24 qK qL qx
 have b4:=s4.below b3 b3.size (by omega)
 refine aD<|Ws<|ay<|Lv ((pt j)) (aP uD.aJ 0)<|av ((pt j))<|av ((pf j 18))<|Lv ((pt m.tp)) (aP tH.aJ 18)<|av (aC C)<|jy (GL C lJ) ?_
 rintro e9 w5 ⟨RZ,D,u,sM,hb1⟩
 refine⟨_,u,?_⟩
 clear u
 have⟨ug,pW,uE,qN,ru,vH,sO,xR,zS,wS,b5⟩:=zH hb1 tH lJ m32 oD nI qM pV uD qF qZ b4
 obtain⟨l,H⟩ : ∃ q,q=dB.path m.T C:=⟨_,rfl⟩
 rw[<- H]at sM ⊢
 have hl4:l.length<=4:=by rw[H]; exact dB.vY
 refine av (au l.length)<|av (au 0)<|aD<|Wb ?_
 have uh:Mp w5 d 0 (fun q=>l.getD q 0) (mV m (fun x=>bO x v.o v.bH) l):=zS.ni fun i hi=>absurd hi (Nat.not_lt_zero _)
 refine Wo (fun f k => ∃ i:Nat,i<=l.length/\jr (fun x=>bO x v.o v.bH) (fun i=>yh m (l.getD i 0)) i=0/\f 2 = .func (.func 121) #[] #[(pt E)]/\f 3=(pt A)/\f 8=(pt y)/\f 19 = .slice RZ (l.length) (D)/\f 20=au ((l.length:Int))/\f 21=au ((i:Int))/\aL k j 29 (oO m) 59/\mM k B m.tp m.mb m.T/\Mp k m.pb m.T.n m.T.x (yJ m.T)/\Mp k m.rb m.T.n m.T.x (qd m.R)/\fC k m.gb m.gn (fun i=>m.g i 0) (fun i=>m.g i 1) (nY m.g)/\fC k m.ab m.an m.ao m.ar yK/\aL k E 14 (dz v) 33/\aL k A 1 (fun _=>(pt j)) 25/\aL k y 1 (fun _ => .map (some d)) 54/\Fx.Own k O.heap.size 29 1 (.slice RZ (l.length) (D)) l.length (qJ l)/\Mp k d i (fun q=>l.getD q 0) (mV m (fun x=>bO x v.o v.bH) l)/\Below w.heap.size w k) (fun f _=>((l.length:Int)-intOf (f 21)).toNat) ⟨0,(by omega),rfl,(by rfl),(by rfl),(by rfl),(by rfl),Fx.ic,Fx.ic,ug,pW,uE,qN,ru,vH,sO,xR,wS,sM,uh,b5⟩ ?_
 rintro f1 w6 ⟨i,hi,K,h1,U,V,h4,W,G,vI,wG,vJ,Bo,wH,vK,sP,N,aa,oF,ac,P⟩
 refine ay ?_
 by_cases YM:(i:Int)<(l.length:Int)
 ·refine Lv aG (jU YM (hx:=G) (hy:=W))<|aD<|Ws<|aQ<|Wk<|sN<|Ws<|Wb<|ay ?_
  obtain⟨JD,S⟩:=oF.addr (by omega)
  have qy:Fx.Own w6 O.heap.size 29 1 (bJ JD l.length D) l.length (qJ l):=oF.mG (congrArg (fun q=>Value.slice q l.length D) S)
  refine Lv ((pf JD i)) (dw 1 (hx:=(h4.trans (congrArg (fun q=>Value.slice q (l.length) (D)) S))) (hi:=G))<|Lv (aC (l.getD i 0)) (aP qy.aJ i)<|av (aC (l.getD i 0))<|aD<|Ws ?_
  obtain⟨b,hjz,YN⟩:=eT (dB.wm h.t.inv H _ (oz (show i<l.length by omega) rfl))
  have J:yh m (l.getD i 0)=m.R b:=by unfold yh dG.idx; rw[jH h.t.inv.inj hjz YN]
  refine Wl<|aS h1<|Lv ((pt j)) (aP N.aJ 0 (ha:=U))<|av ((pt j))<|av ((pf j 20))<|Lv (.map (some m.rb)) (aP vI.aJ 20)<|av (aC (l.getD i 0))<|Lv (.agg (aA 54 (rv .i64 (m.R b)))) (Fx.pK (z := .agg (aA 54 (rv .i64 (fun _=>0)))) rfl rfl rfl Bo Tryd.underlying54 Tryd.underlying29 (by kernel_rfl) hjz YN rfl)<|uo (by rfl) (Fx.vg (args := [.agg (aA 54 (rv .i64 (m.R b)))]) rfl rfl rfl (all := #[.agg (aA 54 (rv .i64 (m.R b))),(pt E)]) rfl Tryd.func121 rfl rfl) rfl<|(Oq (m.R b) v E _ ho sP).mono ?_
  rintro e w7 ⟨u,F⟩
  refine⟨.tuple #[.agg (aA 54 (rv .i64 ((bO (m.R b) v.o v.bH).1))),au ((bO (m.R b) v.o v.bH).2)],by rw[u],?_⟩
  clear u
  have⟨xU,m64,Bp,Bq,yF,zT,vL,Br,wT,zU,yG,b7⟩:=IW F vI wG vJ Bo wH vK sP N aa ac qy P
  refine av (.tuple #[.agg (aA 54 (rv .i64 ((bO (m.R b) v.o v.bH).1))),au ((bO (m.R b) v.o v.bH).2)])<|av (.agg (aA 54 (rv .i64 ((bO (m.R b) v.o v.bH).1))))<|av (au ((bO (m.R b) v.o v.bH).2))<|lM 54 (rv .i64 (fun _=>0)) fun g4 w8 Bj ad s7 z5 => ?_
  have⟨xV,BS,Ea,BU,A9,zV,yX,Bt,Dl,F6,GJ,b8⟩:=IW s7.old xU m64 Bp Bq yF zT vL Br wT zU yG b7
  have KN:=gM Bj b7.size
  have⟨U9,Va,Vb,Vd,acQ,acR,Vw,acS,Vx,Vy⟩:=RV Bj xU.lt Bp.lt Bq.lt yF.lt zT.lt vL.lt Br.lt wT.lt zU.lt yG.lt
  have Js:=ad.lt
  refine eX ad 0 fun w9 Jc s8 z6 => ?_
  have BX:aL w9 g4 54 (rv .i64 ((bO (m.R b) v.o v.bH).1)) 66:=aM Jc
  have kX:=gG s8 ad.ty
  have⟨F7,GK,F8,JE,KQ,Gc,H6,FE,JG,Gd,Og⟩:=RU kX xV BS Ea BU A9 zV yX Bt Dl F6 GJ
  have Q:=s8.below b8 b8.size (by omega)
  refine av (au ((bO (m.R b) v.o v.bH).2))<|aD<|Ws<|ay<|av (au ((bO (m.R b) v.o v.bH).2)) ?_
  by_cases I:((bO (m.R b) v.o v.bH).2)=0
  ·refine Lv aF (kW I)<|aD<|aK<|Wk<|sN ?_
   have hnd:l.Nodup:=by rw[H]; exact dB.uN h.t.inv C
   have hny : ∀ q,q<i->(fun q=>l.getD q 0) q≠l.getD i 0:=fun q hq e=>by have:=xD hnd (show q<l.length by omega) (show i<l.length by omega) e; omega
   refine Wl<|Lv (.map (some d)) (aP JG.aJ 0 (ha:=V))<|av (aC (l.getD i 0))<|Lv (.agg (aA 54 (rv .i64 ((bO (m.R b) v.o v.bH).1)))) (gW BX.aJ 0)<|Fx.L.Kg (by rfl) rfl rfl rfl rfl rfl Gd Tryd.underlying54 Tryd.underlying29 hny fun zR Ld s9 z7 => ?_
   have s:=Gd.xP s9
   have Bz:=F7.dh s
   have xu:=GK.dh s (by omega)
   have Am:=F8.dh s (by omega)
   have Ao:=JE.dh s (by omega)
   have BA:=KQ.dh s (by omega)
   have uM:=Gc.dh s (by omega)
   have wh:=H6.dh s
   have xB:=FE.dh s
   have Aw:=JG.dh s
   have DW:=Og.dh s
   have DU:=BX.dh s
   have b10:=s9.below Q Q.size (by omega)
   have xC:Mp zR d (i+1) (fun q=>l.getD q 0) (mV m (fun x=>bO x v.o v.bH) l):=Cy Ld (by rw[J])
   refine Ln<|cB<|sN<|Wl<|Lv (au ((i:Int)+1)) (fZ (hx:=G))<|av (au ((i:Int)+1))<|Ln ?_
   have Ar:Fx.Own zR O.heap.size 29 1 (.slice RZ (l.length) (D)) l.length (qJ l):=DW.mG (congrArg (fun q=>Value.slice q l.length D) S.symm)
   refine iG ⟨i+1,(by omega),(Cx K (by rw[J]; exact I)),h1,U,V,h4,(W.trans Fx.ic),Fx.ic,Bz,xu,Am,Ao,BA,uM,wh,xB,Aw,Ar,xC,b10⟩ ?_
   show((l.length:Int)-intOf ((au ((i:Int)+1)))).toNat<_
   simp only[G,intOf]; omega
  refine Lv aG (qV I)<|aD<|aQ<|ay<|av (au ((bO (m.R b) v.o v.bH).2))<|av (.nilFunc)<|av (au ((bO (m.R b) v.o v.bH).2))<|aD<|Wr<|sR<|bW<|sR<|qP<|bW<|sR<|aN (.tuple #[.nilFunc,au ((bO (m.R b) v.o v.bH).2)]) ?_
  have M:bV m (fun x=>bO x v.o v.bH) l=(bO (m.R b) v.o v.bH).2:=by unfold bV; rw[uO K (by rw[J]; exact I) _ (by omega),J]
  exact⟨⟨.nilFunc,0,#[],by rw[M],rfl,fun e0=>absurd (M.symm.trans e0) (by first|decide|omega|assumption)⟩,Q⟩
 refine Lv aF (jV YM (hx:=G) (hy:=W))<|aD<|Ws<|aK<|Wx<|bY<|iB<|bZ<|sN<|ay<|Lv (.func (.func 134) #[] #[(pt y),(pt A)]) (Fx.jl (us := []) (vs := [(pt y),(pt A)]) rfl rfl (Fx.args2 V U))<|av (.func (.func 134) #[] #[(pt y),(pt A)])<|av (au 0)<|aD<|Wr<|aN (.tuple #[.func (.func 134) #[] #[(pt y),(pt A)],au 0]) ?_
 have hil:i=l.length:=by omega
 rw[hil]at ac K
 have hgm:m.rb≠d/\m.mb≠d/\m.pb≠d/\m.gb≠d/\m.ab≠d:=⟨by omega,by omega,by omega,by omega,by omega⟩
 have M:bV m (fun x=>bO x v.o v.bH) l=0:=K
 exact⟨⟨_,134,#[(pt y),(pt A)],by rw[M],rfl,fun _=>⟨rfl,⟨_,_,Tryd.func134,rfl,rfl⟩,fun w2 F=>(FJ m j B w2 ((h.up P).up F) (fun x=>bO x v.o v.bH) l d hgm (dB.wm h.t.inv H) (ac.up F) _ _ (aa.eG (Sb F) (Nat.ne_of_lt aa.lt)) (N.eG (Sb F) (Nat.ne_of_lt N.lt))).mono fun _ _ X=>⟨X.1,X.2.1,X.2.2.mono fun _ hk => .inl hk⟩⟩⟩,P⟩
theorem Oz(m:dG)(j B:Nat)(w:World)(h:je w B j m)(C:Int)(v:EvM)(g:Nat->Int)(ho:1<=v.o/\v.o<=6)(E F:Nat)(u:aL w E 14 (dz v) 33)(Z:aL w F 5 (jP g) 72) :
 Calls Tryd.prog 120 #[(pt j),aC C,.func (.func 124) #[] #[(pt E),(pt F)]] w fun e w'=>Lb w B j m (mU m (fun x=>bP x v.o (g 3)) (m.T.path C)) (bV m (fun x=>bP x v.o (g 3)) (m.T.path C)) e w':=by
 have hC:=h.c
 have hT:=h.t
 have hP:=h.p
 have hR:=h.r
 have hG:=h.g
 have hA:=h.a
 have hN:=h.ne
 have lC:=h.c.lt
 have lT:=h.t.lt
 have lP:=h.p.lt
 have lR:=h.r.lt
 have lG:=h.g.lt
 have lA:=h.a.lt
 have SA:=u.lt
 have lgg:=Z.lt
 refine Kent Tryd.func120 44 ?_
 refine ay<|qE ((pt j)) fun A w1 nk m1 s1 z1 => ?_
 have⟨m2,m3,m4,m5,m6,m7,m8,m9,b1⟩:=Db s1.old hC hT hP hR hG hA u Z (Below.refl w.heap.size w)
 have wF:=gY nk
 have⟨nH,rY,vU,vV,vW,Ov,agb⟩:=Gu nk hC.lt hP.lt hR.lt hG.lt hA.lt u.lt Z.lt
 have wQ:=m1.lt
 refine av (.nilFunc)<|av (au 0)<|aD<|ay<|Fx.L.Et (by rfl) rfl rfl fun d w2 uW m10 s2 z2 => ?_
 have⟨m11,m12,m13,m14,m15,m16,m17,m18,m19,b2⟩:=ou s2.old m2 m3 m4 m5 m6 m7 m8 m9 m1 b1
 have yH:=gM uW b1.size
 have⟨DL,Aj,og,uF,MW,MX,Vq,acT⟩:=PE uW m2.lt m4.lt m5.lt m6.lt m7.lt m8.lt m9.lt m1.lt
 have Ba:=m10.lt
 refine lM 1 (fun _ => .map none) fun y w3 Ak m20 s3 z3 => ?_
 have⟨m21,m22,m23,m24,qK,qL,qx,uU,qZ,tH,b3⟩:=zH s3.old m11 m12 m13 m14 m15 m16 m17 m18 m19 m10 b2
 have EB:=gM Ak b2.size
 have⟨Ow,Ox,Oy,Hu,Vv,DR,Hw,NW,NY⟩:=PG Ak m11.lt m13.lt m14.lt m15.lt m16.lt m17.lt m18.lt m19.lt m10.lt
 have Ga:=m20.lt
 refine mZ m20 0 (.map (some d)) fun P lJ s4 z4 => ?_
 have m32:aL P y 1 (fun _ => .map (some d)) 54:=cu lJ
 have iq:=gG s4 m20.ty
 have⟨oD,nI,qM,pV,uD,qF,sM,ug,pW,uE⟩:=IX iq m21 m22 m23 m24 qK qL qx uU qZ tH
 have b4:=s4.below b3 b3.size (by omega)
 refine aD<|Ws<|ay<|Lv ((pt j)) (aP pW.aJ 0)<|av ((pt j))<|av ((pf j 18))<|Lv ((pt m.tp)) (aP oD.aJ 18)<|av (aC C)<|jy (GL C nI) ?_
 rintro e9 w5 ⟨RZ,D,u,qN,hb1⟩
 refine⟨_,u,?_⟩
 clear u
 have⟨ru,vH,sO,xR,zS,wS,uh,vI,wG,vJ,Bo,b5⟩:=IW hb1 oD nI qM pV uD qF sM ug pW uE m32 b4
 obtain⟨l,I⟩ : ∃ q,q=dB.path m.T C:=⟨_,rfl⟩
 rw[<- I]at qN ⊢
 have hl4:l.length<=4:=by rw[I]; exact dB.vY
 refine av (au l.length)<|av (au 0)<|aD<|Wb ?_
 have wH:Mp w5 d 0 (fun q=>l.getD q 0) (mV m (fun x=>bP x v.o (g 3)) l):=vJ.ni fun i hi=>absurd hi (Nat.not_lt_zero _)
 refine Wo (fun f k => ∃ i:Nat,i<=l.length/\jr (fun x=>bP x v.o (g 3)) (fun i=>yh m (l.getD i 0)) i=0/\f 2 = .func (.func 124) #[] #[(pt E),(pt F)]/\f 3=(pt A)/\f 8=(pt y)/\f 19 = .slice RZ (l.length) (D)/\f 20=au ((l.length:Int))/\f 21=au ((i:Int))/\aL k j 29 (oO m) 59/\mM k B m.tp m.mb m.T/\Mp k m.pb m.T.n m.T.x (yJ m.T)/\Mp k m.rb m.T.n m.T.x (qd m.R)/\fC k m.gb m.gn (fun i=>m.g i 0) (fun i=>m.g i 1) (nY m.g)/\fC k m.ab m.an m.ao m.ar yK/\aL k E 14 (dz v) 33/\aL k F 5 (jP g) 72/\aL k A 1 (fun _=>(pt j)) 25/\aL k y 1 (fun _ => .map (some d)) 54/\Fx.Own k P.heap.size 29 1 (.slice RZ (l.length) (D)) l.length (qJ l)/\Mp k d i (fun q=>l.getD q 0) (mV m (fun x=>bP x v.o (g 3)) l)/\Below w.heap.size w k) (fun f _=>((l.length:Int)-intOf (f 21)).toNat) ⟨0,(by omega),rfl,(by rfl),(by rfl),(by rfl),(by rfl),Fx.ic,Fx.ic,ru,vH,sO,xR,zS,wS,uh,vI,wG,Bo,qN,wH,b5⟩ ?_
 rintro f1 w6 ⟨i,hi,M,h1,V,W,h4,X,H,vK,sP,wI,xS,oF,uV,qy,xU,O,Bp,Bq,yF,Q⟩
 refine ay ?_
 by_cases YM:(i:Int)<(l.length:Int)
 ·refine Lv aG (jU YM (hx:=H) (hy:=X))<|aD<|Ws<|aQ<|Wk<|sN<|Ws<|Wb<|ay ?_
  obtain⟨JD,U⟩:=Bq.addr (by omega)
  have zT:Fx.Own w6 P.heap.size 29 1 (bJ JD l.length D) l.length (qJ l):=Bq.mG (congrArg (fun q=>Value.slice q l.length D) U)
  refine Lv ((pf JD i)) (dw 1 (hx:=(h4.trans (congrArg (fun q=>Value.slice q (l.length) (D)) U))) (hi:=H))<|Lv (aC (l.getD i 0)) (aP zT.aJ i)<|av (aC (l.getD i 0))<|aD<|Ws ?_
  obtain⟨b,hjz,YN⟩:=eT (dB.wm h.t.inv I _ (oz (show i<l.length by omega) rfl))
  have K:yh m (l.getD i 0)=m.R b:=by unfold yh dG.idx; rw[jH h.t.inv.inj hjz YN]
  refine Wl<|aS h1<|Lv ((pt j)) (aP O.aJ 0 (ha:=V))<|av ((pt j))<|av ((pf j 20))<|Lv (.map (some m.rb)) (aP vK.aJ 20)<|av (aC (l.getD i 0))<|Lv (.agg (aA 54 (rv .i64 (m.R b)))) (Fx.pK (z := .agg (aA 54 (rv .i64 (fun _=>0)))) rfl rfl rfl xS Tryd.underlying54 Tryd.underlying29 (by kernel_rfl) hjz YN rfl)<|uo (by rfl) (Fx.vg (args := [.agg (aA 54 (rv .i64 (m.R b)))]) rfl rfl rfl (all := #[.agg (aA 54 (rv .i64 (m.R b))),(pt E),(pt F)]) rfl Tryd.func124 rfl rfl) rfl<|(Ot (m.R b) v g E F _ ho qy xU).mono ?_
  rintro e w7 ⟨u,G⟩
  refine⟨.tuple #[.agg (aA 54 (rv .i64 ((bP (m.R b) v.o (g 3)).1))),au ((bP (m.R b) v.o (g 3)).2)],by rw[u],?_⟩
  clear u
  have⟨vL,Br,wT,zU,yG,EM,xV,BS,Ea,BU,A9,zV,b7⟩:=RS G vK sP wI xS oF uV qy xU O Bp yF zT Q
  refine av (.tuple #[.agg (aA 54 (rv .i64 ((bP (m.R b) v.o (g 3)).1))),au ((bP (m.R b) v.o (g 3)).2)])<|av (.agg (aA 54 (rv .i64 ((bP (m.R b) v.o (g 3)).1))))<|av (au ((bP (m.R b) v.o (g 3)).2))<|lM 54 (rv .i64 (fun _=>0)) fun g4 w8 Bj yX s7 z5 => ?_
  have⟨Bt,Dl,F6,GJ,Jc,BX,F7,GK,F8,JE,KQ,Gc,b8⟩:=RS s7.old vL Br wT zU yG EM xV BS Ea BU A9 zV b7
  have KN:=gM Bj b7.size
  have⟨Vw,Vx,Vy,acU,acV,acW,acX,acY,acZ,ada,adb⟩:=Xx Bj vL.lt wT.lt zU.lt yG.lt EM.lt xV.lt BS.lt Ea.lt BU.lt A9.lt zV.lt
  have Js:=yX.lt
  refine eX yX 0 fun w9 H6 s8 z6 => ?_
  have FE:aL w9 g4 54 (rv .i64 ((bP (m.R b) v.o (g 3)).1)) 66:=aM H6
  have kX:=gG s8 yX.ty
  have⟨JG,Gd,Og,Ld,Bz,xu,Am,Ao,BA,uM,wh,xB⟩:=Xw kX Bt Dl F6 GJ Jc BX F7 GK F8 JE KQ Gc
  have S:=s8.below b8 b8.size (by omega)
  refine av (au ((bP (m.R b) v.o (g 3)).2))<|aD<|Ws<|ay<|av (au ((bP (m.R b) v.o (g 3)).2)) ?_
  by_cases J:((bP (m.R b) v.o (g 3)).2)=0
  ·refine Lv aF (kW J)<|aD<|aK<|Wk<|sN ?_
   have hnd:l.Nodup:=by rw[I]; exact dB.uN h.t.inv C
   have hny : ∀ q,q<i->(fun q=>l.getD q 0) q≠l.getD i 0:=fun q hq e=>by have:=xD hnd (show q<l.length by omega) (show i<l.length by omega) e; omega
   refine Wl<|Lv (.map (some d)) (aP uM.aJ 0 (ha:=W))<|av (aC (l.getD i 0))<|Lv (.agg (aA 54 (rv .i64 ((bP (m.R b) v.o (g 3)).1)))) (gW FE.aJ 0)<|Fx.L.Kg (by rfl) rfl rfl rfl rfl rfl wh Tryd.underlying54 Tryd.underlying29 hny fun zR Aw s9 z7 => ?_
   have s:=wh.xP s9
   have DW:=JG.dh s
   have DU:=Gd.dh s (by omega)
   have xC:=Og.dh s (by omega)
   have Ar:=Ld.dh s (by omega)
   have KT:=Bz.dh s (by omega)
   have Qw:=xu.dh s (by omega)
   have KU:=Am.dh s
   have Qx:=Ao.dh s
   have H9:=BA.dh s
   have Ia:=uM.dh s
   have Au:=xB.dh s
   have Ib:=FE.dh s
   have b10:=s9.below S S.size (by omega)
   have Om:Mp zR d (i+1) (fun q=>l.getD q 0) (mV m (fun x=>bP x v.o (g 3)) l):=Cy Aw (by rw[K])
   refine Ln<|cB<|sN<|Wl<|Lv (au ((i:Int)+1)) (fZ (hx:=H))<|av (au ((i:Int)+1))<|Ln ?_
   have Ie:Fx.Own zR P.heap.size 29 1 (.slice RZ (l.length) (D)) l.length (qJ l):=Au.mG (congrArg (fun q=>Value.slice q l.length D) U.symm)
   refine iG ⟨i+1,(by omega),(Cx M (by rw[K]; exact J)),h1,V,W,h4,(X.trans Fx.ic),Fx.ic,DW,DU,xC,Ar,KT,Qw,KU,Qx,H9,Ia,Ie,Om,b10⟩ ?_
   show((l.length:Int)-intOf ((au ((i:Int)+1)))).toNat<_
   simp only[H,intOf]; omega
  refine Lv aG (qV J)<|aD<|aQ<|ay<|av (au ((bP (m.R b) v.o (g 3)).2))<|av (.nilFunc)<|av (au ((bP (m.R b) v.o (g 3)).2))<|aD<|Wr<|sR<|bW<|sR<|qP<|bW<|sR<|aN (.tuple #[.nilFunc,au ((bP (m.R b) v.o (g 3)).2)]) ?_
  have N:bV m (fun x=>bP x v.o (g 3)) l=(bP (m.R b) v.o (g 3)).2:=by unfold bV; rw[uO M (by rw[K]; exact J) _ (by omega),K]
  exact⟨⟨.nilFunc,0,#[],by rw[N],rfl,fun e0=>absurd (N.symm.trans e0) (by first|decide|omega|assumption)⟩,S⟩
 refine Lv aF (jV YM (hx:=H) (hy:=X))<|aD<|Ws<|aK<|Wx<|bY<|iB<|bZ<|sN<|ay<|Lv (.func (.func 134) #[] #[(pt y),(pt A)]) (Fx.jl (us := []) (vs := [(pt y),(pt A)]) rfl rfl (Fx.args2 W V))<|av (.func (.func 134) #[] #[(pt y),(pt A)])<|av (au 0)<|aD<|Wr<|aN (.tuple #[.func (.func 134) #[] #[(pt y),(pt A)],au 0]) ?_
 have hil:i=l.length:=by omega
 rw[hil]at yF M
 have hgm:m.rb≠d/\m.mb≠d/\m.pb≠d/\m.gb≠d/\m.ab≠d:=⟨by omega,by omega,by omega,by omega,by omega⟩
 have N:bV m (fun x=>bP x v.o (g 3)) l=0:=M
 exact⟨⟨_,134,#[(pt y),(pt A)],by rw[N],rfl,fun _=>⟨rfl,⟨_,_,Tryd.func134,rfl,rfl⟩,fun w2 G=>(FJ m j B w2 ((h.up Q).up G) (fun x=>bP x v.o (g 3)) l d hgm (dB.wm h.t.inv I) (yF.up G) _ _ (Bp.eG (Sb G) (Nat.ne_of_lt Bp.lt)) (O.eG (Sb G) (Nat.ne_of_lt O.lt))).mono fun _ _ Y=>⟨Y.1,Y.2.1,Y.2.2.mono fun _ hk => .inl hk⟩⟩⟩,Q⟩
section
set_option maxRecDepth 20000
set_option linter.unusedVariables false
namespace Rt
def BD(k1 k2:Nat->Int):Nat->Int->Int->Bool
 | 0,_,_=>false
 | n+1,a,b=>(decide (k1 n=a)&&decide (k2 n=b)) || BD k1 k2 n a b
def Qz(k1 k2:Nat->Int):Nat->Int->Int->Nat
 | 0,_,_=>0
 | n+1,a,b=>if k1 n=a/\k2 n=b then n else Qz k1 k2 n a b
section
variable {k1 k2:Nat->Int} {a b:Int}
theorem mW : ∀ {n:Nat},BD k1 k2 n a b=true <-> ∃ j,j<n/\k1 j=a/\k2 j=b
 | 0=>⟨fun h=>(nomatch h),fun⟨j,h,_⟩=>absurd h (Nat.not_lt_zero _)⟩
 | n+1=>by
   unfold BD
   rw[Bool.or_eq_true,Bool.and_eq_true,decide_eq_true_iff,decide_eq_true_iff,mW]
   constructor
   ·rintro (⟨f,c⟩|⟨j,f,c,d⟩)
    ·exact⟨n,by omega,f,c⟩
    ·exact⟨j,by omega,c,d⟩
   ·rintro ⟨j,f,c,d⟩
    by_cases e:j=n
    ·subst e; exact .inl ⟨c,d⟩
    ·exact .inr ⟨j,by omega,c,d⟩
theorem wo{n j:Nat}(e:j<n)(c:k1 j=a)(d:k2 j=b):BD k1 k2 n a b=true:=mW.2 ⟨j,e,c,d⟩
theorem nO{n:Nat}(h : ∀ i,i<n -> ¬ (k1 i=a/\k2 i=b)):BD k1 k2 n a b=false:=by
 cases e:BD k1 k2 n a b with
 | false=>rfl
 | true=>obtain⟨j,f,c,d⟩:=mW.1 e; exact absurd ⟨c,d⟩ (h j f)
theorem wu{j:Nat} : ∀ {n:Nat},(∀ p q,p<n->q<n->k1 p=k1 q->k2 p=k2 q->p=q)->j<n->k1 j=a->k2 j=b->Qz k1 k2 n a b=j
 | 0,_,h,_,_=>absurd h (Nat.not_lt_zero _)
 | n+1,hi,hj,e1,e2=>by
   unfold Qz
   by_cases c:k1 n=a/\k2 n=b
   ·rw[if_pos c]; exact hi n j (by omega) hj (c.1.trans e1.symm) (c.2.trans e2.symm)
   ·rw[if_neg c]
    refine wu (fun p q d f=>hi p q (by omega) (by omega)) ?_ e1 e2
    by_cases e:j=n
    ·subst e; exact absurd ⟨e1,e2⟩ c
    ·omega
end
theorem zn{v:EvM}(h:cZ v=true)(a:jR v):Fx.yC v.o v.req/\Fx.yC v.o v.of:=by
 have d:=mR h
 have b:=a.req
 have c:=a.of
 unfold gN at b c
 exact⟨⟨by omega,by omega⟩,⟨by omega,by omega⟩⟩
theorem QA{w:World}{b k n:Nat}{g:Nat->Nat->Int}{o r:Int}{y:Nat->Value}(h:fC w b k (aI (fun i=>g i 0) n o) (aI (fun i=>g i 1) n r) (aI (nY g) n (.agg (aA 5 y))))(x:Nat->Int)(e0:x 0=o)(a:x 1=r)(d : ∀ j,j<5->y j=jP x j) :
 fC w b k (fun i=>aI g n x i 0) (fun i=>aI g n x i 1) (nY (aI g n x)):=h.ni fun i _=>by
 unfold aI nY
 by_cases c:i=n
 ·subst c
  refine⟨?_,?_,?_⟩
  ·show(if i=i then o else g i 0)=(if i=i then x else g i) 0
   rw[if_pos rfl,if_pos rfl,e0]
  ·show(if i=i then r else g i 1)=(if i=i then x else g i) 1
   rw[if_pos rfl,if_pos rfl,a]
  ·show(if i=i then Value.agg (aA 5 y)else _)=Value.agg (aA 5 (jP (if i=i then x else g i)))
   rw[if_pos rfl,if_pos rfl,Fx.gF d]
 ·refine⟨?_,?_,?_⟩
  ·show(if i=n then o else g i 0)=(if i=n then x else g i) 0
   rw[if_neg c,if_neg c]
  ·show(if i=n then r else g i 1)=(if i=n then x else g i) 1
   rw[if_neg c,if_neg c]
  ·show(if i=n then Value.agg (aA 5 y)else Value.agg (aA 5 (jP (g i))))=Value.agg (aA 5 (jP (if i=n then x else g i)))
   rw[if_neg c,if_neg c]
theorem QC{w:World}{b n j:Nat}{g:Nat->Nat->Int}{x:Nat->Int}(h:fC w b n (fun i=>g i 0) (fun i=>g i 1) (aI (nY g) j (.agg (aA 5 (jP x)))))(e0:x 0=g j 0)(a:x 1=g j 1) :
 fC w b n (fun i=>aI g j x i 0) (fun i=>aI g j x i 1) (nY (aI g j x)):=h.ni fun i _=>by
 unfold aI nY
 show g i 0=(if i=j then x else g i) 0/\g i 1=(if i=j then x else g i) 1/\_=Value.agg (aA 5 (jP (if i=j then x else g i)))
 by_cases c:i=j
 ·subst c; rw[if_pos rfl,if_pos rfl]; exact⟨e0.symm,a.symm,rfl⟩
 ·rw[if_neg c,if_neg c]; exact⟨rfl,rfl,rfl⟩
theorem JH{w:World}{b k n:Nat}{o r:Nat->Int}{x y:Int}(h:fC w b k (aI o n x) (aI r n y) (aI yK n (.bool true))):fC w b k (aI o n x) (aI r n y) yK:=h.ni fun i _=>⟨rfl,rfl,by unfold aI yK; split <;> rfl⟩
theorem YO(x:Nat->Int)(r:Int):fH (jP x) 4 (aC r)=jP (upd x 4 r):=by
 funext p
 unfold fH
 by_cases c:p=4
 ·subst c; rw[if_pos rfl]; rfl
 rw[if_neg c]; unfold jP upd
 by_cases a:p=0
 ·rw[if_pos a,if_pos a]; rfl
 rw[if_neg a,if_neg a]
 by_cases b:p=3
 ·rw[if_pos b,if_pos b]; rfl
 rw[if_neg b,if_neg b,if_neg c]
def Bc(a b:Int):Nat->Value:=fun p=>if p=0 then au a else aC b
def OA(m:dG)(a:Nat->Nat->Int)(v:EvM):dG := { m with R:=a,an:=m.an+1,ao:=aI m.ao m.an v.o,ar:=aI m.ar m.an v.req,gn:=m.gn+1,g:=aI m.g m.gn (wV v) }
def JI(m:dG)(a:Nat->Nat->Int)(v:EvM)(j:Nat):dG := { m with R:=a,an:=m.an+1,ao:=aI m.ao m.an v.o,ar:=aI m.ar m.an v.req,g:=aI m.g j (upd (m.g j) 4 v.req) }
structure Bw(w0 w:World):Prop where
 b:Below w0.heap.size w0 w
theorem Bw.up{a w w':World}(h:Bw a w)(c:Below w.heap.size w w'):Bw a w':=⟨Ei h.b c⟩
instance {a w w':World}:Rt.Tr w w' (Bw a w) (Bw a w'):=⟨fun b h=>h.up b⟩
end Rt
theorem Vz{y:Nat->Value}{a b:Int}(c:y 0=au a)(h1:y 1=aC b){w:World}{g:Nat}(h:aL w g 2 y 70):aL w g 2 (Bc a b) 70:=h.congr fun j d=>by
 rcases(show j=0\/j=1 by omega)with rfl|rfl
 ·exact c
 ·exact h1
structure LtT(gl gq ge b:Nat):Prop where
 gl:gl<b
 gq:gq<b
 ge:ge<b
structure LtF(gl gq ge gg go b:Nat):Prop where
 gl:gl<b
 gq:gq<b
 ge:ge<b
 gg:gg<b
 go:go<b
theorem OB(m:dG)(l B:Nat)(w:World)(h:je w B l m)(v:EvM)(hv:cZ v=true)(hwf:jR v)(I:Nat->Nat->Int)(D J G:Nat)(VA:J<=D)(cap:Array Value)(U:ND w B l m { m with R:=I } D (.func (.func G) #[] cap) G cap)(S:Nat)(K:Nat)(M:Nat)(A:Nat)(Y:aL w S 1 (fun _ => .func (.func G) #[] cap) 89)(hl:aL w K 1 (fun _=>(pt l)) 25)(hq:aL w M 2 (Bc v.o v.req) 70)(E:aL w A 14 (dz v) 33)(N:LtT K M A D)(hnz : ∀ i,i<m.an -> ¬ (m.ao i=v.o/\m.ar i=v.req))(hny : ∀ i,i<m.gn -> ¬ ((fun i=>m.g i 0) i=v.o/\(fun i=>m.g i 1) i=v.req)) :
 Calls Tryd.prog 123 #[(pt S),(pt K),(pt M),(pt A)] w fun e w'=>e = .returned (.tuple #[])/\je w' B l (OA m I v)/\iU (He m l J) w w':=by
 have hC:=h.c
 have hT:=h.t
 have hP:=h.p
 have hR:=h.r
 have hG:=h.g
 have hA:=h.a
 have d:=h.ne
 have lC:=h.c.lt
 have lT:=h.t.lt
 have lP:=h.p.lt
 have lR:=h.r.lt
 have lG:=h.g.lt
 have lA:=h.a.lt
 have lgd:=Y.lt
 have RY:=hl.lt
 have lgq:=hq.lt
 have SA:=E.lt
 have Z:=zn hv hwf
 refine Kent Tryd.func123 25 ?_
 refine ay<|Lv (.func (.func G) #[] cap) (aP Y.aJ 0)<|uo (by rfl) (Fx.Jo (args := []) rfl rfl rfl (by simp) U.f) rfl<|(U.s _ (Below.refl _ _)).mono ?_
 rintro e9 z ⟨E,C,H⟩
 refine⟨_,E,?_⟩
 clear E
 have V:=H.mono (S':=He m l J) fun k hk=>hk.imp id (Nat.le_trans VA)
 have m1:aL z l 29 (oO m) 59:=C.c
 have lm1:=m1.lt
 have m2:mM z B m.tp m.mb m.T:=C.t
 have lm2:=m2.lt
 have m3:Mp z m.pb m.T.n m.T.x (yJ m.T):=C.p
 have lm3:=m3.lt
 have m4:Mp z m.rb m.T.n m.T.x (qd (I)):=C.r
 have lm4:=m4.lt
 have m5:fC z m.gb m.gn (fun i=>m.g i 0) (fun i=>m.g i 1) (nY m.g):=C.g
 have lm5:=m5.lt
 have m6:fC z m.ab m.an m.ao m.ar yK:=C.a
 have lm6:=m6.lt
 have m7:=h.DF hl (by decide) H N.gl
 have lm7:=m7.lt
 have m8:=h.DF hq (by decide) H N.gq
 have lm8:=m8.lt
 have m9:=h.DF E (by decide) H N.ge
 have lm9:=m9.lt
 refine aD<|Ws ?_
 -- region 1 draws
 refine jS [0,1,2,3,4,5] [4,0,0,4,4,3] [(5,0,[0]),(5,3,[3]),(5,4,[4])] fun qY W iC => ?_
 have s1:Stp z.heap.size z qY:=Sb W
 have⟨m10,m11,m12,m13,m14,m15,m16,m17,m18⟩:=Db W m1 m2 m3 m4 m5 m6 m7 m8 m9
 have D:=V.then s1 (.inr V.size)
 refine Rs ((pt l)) (aP m16.aJ 0) ?_
 refine aU ((pt l))<|aU ((pf l 28))<|Rs (.map (some m.ab)) (aP m10.aJ 28) ?_
 refine Rs (.agg (aA 2 (Bc v.o v.req))) (gW m17.aJ 0) ?_
 refine gP<|Fx.L.LP (by rfl) rfl rfl rfl ((show ev _ _ = .agg (aA 2 (Bc v.o v.req))from rfl).trans (Fx.tX (y:=Bc v.o v.req) (a:=v.o) (b:=v.req) rfl rfl)) Z.1 rfl m15 Tryd.underlying56 Bv hnz fun O m19 s2 z1 => ?_
 have q:=m15.xP s2
 have m20:=m10.dh q
 have m21:=m11.dh q (d.ma)
 have m22:=m12.dh q (d.pa)
 have m23:=m13.dh q (d.ra)
 have m24:=m14.dh q (d.ga)
 have qK:=m16.dh q
 have qL:=m17.dh q
 have qx:=m18.dh q
 have Q:=D.then s2 (.inl (.inl (.inr (.inr (.inr (.inr (.inr rfl)))))))
 have uU:fC O m.ab (m.an+1) (aI m.ao m.an v.o) (aI m.ar m.an v.req) yK:=JH m19
 refine Ln<|bF ?_
 -- region 2 draws
 refine jS [5,7,9,11,0,1,2,3,4,6,8,10,12,13,14] [4,0,0,4,4,0,4,0,4,0,4,0,4,0,3] [(14,0,[0]),(14,3,[3]),(14,4,[4]),(14,6,[6]),(14,8,[8]),(14,10,[10]),(14,12,[12])] fun D9 X oC => ?_
 have s3:Stp O.heap.size O D9:=Sb X
 have⟨qZ,tH,lJ,m32,oD,nI,qM,F,uD⟩:=Db X m20 m21 m22 m23 m24 qK qL qx uU
 have b3:=Q.then s3 (.inr Q.size)
 refine aU ((pt A))<|aU ((pf A 12))<|aU ((pf A 9))<|aU ((pf A 11))<|Rs ((pt l)) (aP nI.aJ 0) ?_
 refine aU ((pt l))<|aU ((pf l 27))<|Rs (.map (some m.gb)) (aP qZ.aJ 27) ?_
 refine Rs (.agg (aA 2 (Bc v.o v.req))) (gW qM.aJ 0) ?_
 refine Rs (au v.o) (aP F.aJ 0) ?_
 refine Rs (aC v.req) (aP F.aJ 12) ?_
 refine Rs (aC v.node) (aP F.aJ 9) ?_
 refine Rs (au v.bH) (aP F.aJ 11) ?_
 refine aU (.agg (aA 5 (bC (bC (bC (bC (fun P=>if P<1 then au 0 else if P<3 then aC 0 else if P<4 then au 0 else aC 0) 0 1 (fun _=>au v.o)) 1 1 (fun _=>aC v.req)) 2 1 (fun _=>aC v.node)) 3 1 (fun _=>au v.bH))))<|gP<|Fx.L.LP (by rfl) rfl rfl rfl ((show ev _ _ = .agg (aA 2 (Bc v.o v.req))from rfl).trans (Fx.tX (y:=Bc v.o v.req) (a:=v.o) (b:=v.req) rfl rfl)) Z.1 rfl oD Tryd.underlying55 Bv hny fun w3 qF s4 z2 => ?_
 have u:=oD.xP s4
 have sM:=qZ.dh u
 have ug:=tH.dh u (d.mg)
 have pW:=lJ.dh u (d.pg)
 have uE:=m32.dh u (d.rg)
 have qN:=nI.dh u
 have ru:=qM.dh u
 have vH:=F.dh u
 have sO:=uD.dh u ((Ne.symm d.ga))
 have b4:=b3.then s4 (.inl (.inl (.inr (.inr (.inr (.inr (.inl rfl)))))))
 have xR:fC w3 m.gb (m.gn+1) (fun i=>aI m.g m.gn (wV v) i 0) (fun i=>aI m.g m.gn (wV v) i 1) (nY (aI m.g m.gn (wV v))):=QA qF (wV v) rfl rfl (by intro j hj; rcases(show j=0\/j=1\/j=2\/j=3\/j=4 by omega)with rfl|rfl|rfl|rfl|rfl <;> rfl)
 refine Ln (Rn (⟨.tuple #[],fM Tryd.results123,?_⟩))
 unfold OA
 exact⟨rfl,{ c:=sM,t:=ug,p:=pW,r:=uE,g:=xR,a:=sO,ne:=⟨d.mp,d.mr,d.mg,d.ma,d.pr,d.pg,d.pa,d.rg,d.ra,d.ga⟩,lB:=h.lB,pB:=h.pB,rB:=h.rB,gB:=h.gB,aB:=h.aB },b4⟩
theorem OC(m:dG)(l B:Nat)(w:World)(h:je w B l m)(v:EvM)(hv:cZ v=true)(hwf:jR v)(K:Nat->Nat->Int)(E H I:Nat)(VA:H<=E)(cap:Array Value)(S:ND w B l m { m with R:=K } E (.func (.func I) #[] cap) I cap)(j:Nat)(Q:Nat)(M:Nat)(N:Nat)(J:Nat)(A:Nat)(go:Nat)(X:aL w Q 1 (fun _ => .func (.func I) #[] cap) 89)(hl:aL w M 1 (fun _=>(pt l)) 25)(hq:aL w N 2 (Bc v.o v.req) 70)(F:aL w J 14 (dz v) 33)(Y:aL w A 5 (jP (m.g j)) 72)(hof:aL w go 2 (Bc v.o v.of) 70)(hgg:H<=A)(G:LtF M N J A go E)(hnz : ∀ i,i<m.an -> ¬ (m.ao i=v.o/\m.ar i=v.req))(Z:j<m.gn)(ejy:(fun i=>m.g i 0) j=v.o)(fjy:(fun i=>m.g i 1) j=v.of) :
 Calls Tryd.prog 126 #[(pt Q),(pt M),(pt N),(pt J),(pt A),(pt go)] w fun e w'=>e = .returned (.tuple #[])/\je w' B l (JI m K v j)/\iU (He m l H) w w':=by
 have hC:=h.c
 have hT:=h.t
 have hP:=h.p
 have hR:=h.r
 have hG:=h.g
 have hA:=h.a
 have d:=h.ne
 have lC:=h.c.lt
 have lT:=h.t.lt
 have lP:=h.p.lt
 have lR:=h.r.lt
 have lG:=h.g.lt
 have lA:=h.a.lt
 have lgd:=X.lt
 have RY:=hl.lt
 have lgq:=hq.lt
 have SA:=F.lt
 have lgg:=Y.lt
 have lgo:=hof.lt
 have aa:=zn hv hwf
 have ajD:=Z
 refine Kent Tryd.func126 22 ?_
 refine ay<|Lv (.func (.func I) #[] cap) (aP X.aJ 0)<|uo (by rfl) (Fx.Jo (args := []) rfl rfl rfl (by simp) S.f) rfl<|(S.s _ (Below.refl _ _)).mono ?_
 rintro e9 z ⟨F,D,C⟩
 refine⟨_,F,?_⟩
 clear F
 have U:=C.mono (S':=He m l H) fun k hk=>hk.imp id (Nat.le_trans VA)
 have m1:aL z l 29 (oO m) 59:=D.c
 have lm1:=m1.lt
 have m2:mM z B m.tp m.mb m.T:=D.t
 have lm2:=m2.lt
 have m3:Mp z m.pb m.T.n m.T.x (yJ m.T):=D.p
 have lm3:=m3.lt
 have m4:Mp z m.rb m.T.n m.T.x (qd (K)):=D.r
 have lm4:=m4.lt
 have m5:fC z m.gb m.gn (fun i=>m.g i 0) (fun i=>m.g i 1) (nY m.g):=D.g
 have lm5:=m5.lt
 have m6:fC z m.ab m.an m.ao m.ar yK:=D.a
 have lm6:=m6.lt
 have m7:=h.DF hl (by decide) C G.gl
 have lm7:=m7.lt
 have m8:=h.DF hq (by decide) C G.gq
 have lm8:=m8.lt
 have m9:=h.DF F (by decide) C G.ge
 have lm9:=m9.lt
 have m10:=h.DF Y (by decide) C G.gg
 have ajE:=m10.lt
 have m11:=h.DF hof (by decide) C G.go
 have ajF:=m11.lt
 refine aD<|Ws ?_
 -- region 1 draws
 refine jS [0,1,2,3,4,5] [4,0,0,4,4,3] [(5,0,[0]),(5,3,[3]),(5,4,[4])] fun qY V iC => ?_
 have s1:Stp z.heap.size z qY:=Sb V
 have⟨m12,m13,m14,m15,m16,m17,m18,m19,m20,m21,m22⟩:=zH V m1 m2 m3 m4 m5 m6 m7 m8 m9 m10 m11
 have E:=U.then s1 (.inr U.size)
 refine Rs ((pt l)) (aP m18.aJ 0) ?_
 refine aU ((pt l))<|aU ((pf l 28))<|Rs (.map (some m.ab)) (aP m12.aJ 28) ?_
 refine Rs (.agg (aA 2 (Bc v.o v.req))) (gW m19.aJ 0) ?_
 refine gP<|Fx.L.LP (by rfl) rfl rfl rfl ((show ev _ _ = .agg (aA 2 (Bc v.o v.req))from rfl).trans (Fx.tX (y:=Bc v.o v.req) (a:=v.o) (b:=v.req) rfl rfl)) aa.1 rfl m17 Tryd.underlying56 Bv hnz fun w2 m23 s2 z1 => ?_
 have q:=m17.xP s2
 have m24:=m12.dh q
 have qK:=m13.dh q (d.ma)
 have qL:=m14.dh q (d.pa)
 have qx:=m15.dh q (d.ra)
 have uU:=m16.dh q (d.ga)
 have qZ:=m18.dh q
 have tH:=m19.dh q
 have lJ:=m20.dh q
 have m32:=m21.dh q
 have oD:=m22.dh q
 have b2:=E.then s2 (.inl (.inl (.inr (.inr (.inr (.inr (.inr rfl)))))))
 have nI:fC w2 m.ab (m.an+1) (aI m.ao m.an v.o) (aI m.ar m.an v.req) yK:=JH m23
 refine Ln<|bF<|ay<|av ((pf J 12))<|Lv (aC v.req) (aP lJ.aJ 12)<|av ((pf A 4))<|mZ m32 4 (aC v.req) fun O qM s3 z2 => ?_
 have pV:aL O A 5 (jP (upd (m.g j) 4 v.req)) 72:=qM.to (YO _ _)
 have iq:=gG s3 m32.ty
 have⟨uD,qF,sM,ug,pW,uE,qN,ru,vH,sO⟩:=IX iq m24 qK qL qx uU qZ tH lJ oD nI
 have P:=b2.then s3 (.inl (.inr hgg))
 refine aD ?_
 -- region 3 draws
 refine jS [0,1,2,3,4,5,6] [4,0,0,4,4,4,3] [(6,0,[0]),(6,3,[3]),(6,4,[4]),(6,5,[5])] fun D9 W oC => ?_
 have s4:Stp O.heap.size O D9:=Sb W
 have⟨xR,zS,wS,uh,vI,wG,vJ,Bo,wH,vK,sP⟩:=zH W uD qF sM ug pW uE qN ru vH sO pV
 have b4:=P.then s4 (.inr P.size)
 refine Rs ((pt l)) (aP wG.aJ 0) ?_
 refine aU ((pt l))<|aU ((pf l 27))<|Rs (.map (some m.gb)) (aP xR.aJ 27) ?_
 refine Rs (.agg (aA 2 (Bc v.o v.of))) (gW wH.aJ 0) ?_
 refine Rs (.agg (aA 5 (jP (upd (m.g j) 4 v.req)))) (gW sP.aJ 0) ?_
 refine gP<|Fx.L.Xy (by rfl) rfl rfl rfl ((show ev _ _ = .agg (aA 2 (Bc v.o v.of))from rfl).trans (Fx.tX (y:=Bc v.o v.of) (a:=v.o) (b:=v.of) rfl rfl)) aa.2 rfl vI Tryd.underlying55 Bv Z ejy fjy fun w4 wI s5 z3 => ?_
 have u:=vI.xP s5
 have xS:=xR.dh u
 have oF:=zS.dh u (d.mg)
 have uV:=wS.dh u (d.pg)
 have qy:=uh.dh u (d.rg)
 have xU:=wG.dh u
 have m64:=vJ.dh u
 have Bp:=Bo.dh u
 have Bq:=wH.dh u
 have yF:=vK.dh u ((Ne.symm d.ga))
 have zT:=sP.dh u
 have b5:=b4.then s5 (.inl (.inl (.inr (.inr (.inr (.inr (.inl rfl)))))))
 have vL:fC w4 m.gb m.gn (fun i=>aI m.g j (upd (m.g j) 4 v.req) i 0) (fun i=>aI m.g j (upd (m.g j) 4 v.req) i 1) (nY (aI m.g j (upd (m.g j) 4 v.req))):=QC wI rfl rfl
 refine Ln (Rn (⟨.tuple #[],fM Tryd.results126,?_⟩))
 unfold JI
 exact⟨rfl,{ c:=xS,t:=oF,p:=uV,r:=qy,g:=vL,a:=yF,ne:=⟨d.mp,d.mr,d.mg,d.ma,d.pr,d.pg,d.pa,d.rg,d.ra,d.ga⟩,lB:=h.lB,pB:=h.pB,rB:=h.rB,gB:=h.gB,aB:=h.aB },b5⟩
end
end Go.Proofs.YtcbedgfikejkoaaDoor
