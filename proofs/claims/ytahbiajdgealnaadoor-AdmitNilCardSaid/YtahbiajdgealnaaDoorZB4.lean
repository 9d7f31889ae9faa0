/-
  What the proof of the law rests on, part 4: walks of functions, and plain laws; each says its conditions itself.
-/
import Derived.Test.YtahbiajdgealnaaDoorRows
import Derived.OrdersIn
import Derived.Test.YtahbiajdgealnaaDoorZB3
set_option maxHeartbeats 1600000
set_option linter.unusedVariables false
set_option linter.unusedSimpArgs false
namespace Go.Proofs.YtahbiajdgealnaaDoor
open Go.RowKit Rt
open Fx (eY dN fJ bC fI fH eO dS fK iq dY iw fq gT iy Lv sN Ln Ws Qv Wl Rp Wc Qs Wr Sb Lk Wk rC rV sR Rs Rn Rd Rk Wb Wx Wo Ab Wt qM Qn Ba uY Bc BF yw Bb DL jw Dt jl qh rQ DX Bd Dr BU Bf rv aC aK dn aH ev bQ Stp bS aS flat gu Mp dH bB fC gF bO down fG iR jr kZ dG bY cells_one jm bP xV unseen jv jE cO bU dA cZ dh gX iP rA iD)
theorem AP{ks:List (Option IntKind)}{x y:Nat->Value}(h:Fx.Kd ks y)(e : ∀ j,j<ks.length->x j=y j):Fx.Kd ks x:=fun i a=>by rw[e i a]; exact h i a
namespace Rt
theorem CK{v:EvM}(h:jc v):jc (Kt v):=by
 have z:iG 0:=⟨by decide,by decide⟩
 have y:sj 0:=⟨by decide,by decide⟩
 exact⟨h.o,h.seq,h.deps,h.kind,z,y,y,z,z⟩
theorem CO{v:EvM}(h:jc v):jc (jU v):=by
 have z:iG 0:=⟨by decide,by decide⟩
 have y:sj 0:=⟨by decide,by decide⟩
 unfold jU
 split
 ·exact⟨h.o,h.seq,h.deps,h.kind,z,h.dst,y,h.req,h.of⟩
 split
 ·exact⟨h.o,h.seq,h.deps,h.kind,z,h.dst,y,h.req,h.of⟩
 split
 ·exact⟨h.o,h.seq,h.deps,h.kind,z,h.dst,y,z,h.of⟩
 split
 ·exact⟨h.o,h.seq,h.deps,h.kind,h.node,h.dst,h.bI,z,z⟩
 split
 ·exact⟨h.o,h.seq,h.deps,h.kind,z,y,y,h.req,h.of⟩
 split
 ·exact⟨h.o,h.seq,h.deps,h.kind,h.node,y,h.bI,h.req,h.of⟩
 exact h
end Rt
set_option maxHeartbeats 2000000 in
theorem zw(v:EvM)(w:World)(G:jc v) :
 Calls Tryd.prog 44 #[.agg (aC 14 (dJ v))] w fun e w'=>e = .returned (.bool (bX v))/\Below w.heap.size w w':=by
 refine Kent Tryd.func44 55 ?_
 refine ay<|rR fun g w1 rF t s1 z1 => ?_
 have B:=aQ s1.old (Below.refl w.heap.size w)
 have xW:=gP rF
 have yC:=t.lt
 refine av aF<|aD<|Ws<|Ws ?_
 -- region 1 draws
 refine jX<|aZ ((pt g))<|Qv (au v.o) (fun f d=>aP (t.cb d) 0) ?_
 by_cases l:(iW v.o)=true
 ·obtain⟨a,ha,ea⟩:=dO l
  refine lu (fun _ _=>sH v.o _) aI (by rw[l])<|aZ aF<|aZ aF<|aZ ((pf g 1))<|Qv (aA v.seq) (fun f d=>aP (t.cb d) 1) ?_
  by_cases N:v.seq<1
  ·refine Qv aI (fun f d=>nV N)<|aZ aI<|aZ aI<|aU<|aU<|aU<|aZ aI<|aZ aI<|aU<|aU<|aU<|aU<|aU<|aU<|aU<|aU<|aU<|aU<|aZ aI<|Qn ?_
   intro Tv qB
   have⟨k,U⟩:=fV qB t B
   refine sN<|aT<|ay<|av aF<|aD<|Wr<|sR<|aL aF ?_
   have k:decide (1<=v.seq)=false:=decide_eq_false (by omega)
   exact⟨lX (Eq.symm (by unfold bX; rw[l,k]; try rfl)),U⟩
  refine Qv aF (fun f d=>nW N)<|aZ aF<|aZ aF<|aZ ((pf g 1))<|Qv (aA v.seq) (fun f d=>aP (t.cb d) 1) ?_
  by_cases O:1099511627776<=v.seq
  ·refine Qv aI (fun f d=>nY O)<|aZ aI<|aZ aI<|aU<|aU<|aU<|aU<|aU<|aU<|aU<|aU<|aU<|aU<|aZ aI<|Qn ?_
   intro Tw qC
   have⟨m,V⟩:=fV qC t B
   refine sN<|aT<|ay<|av aF<|aD<|Wr<|sR<|aL aF ?_
   have k:decide (1<=v.seq)=true:=decide_eq_true (by omega)
   have m:decide (v.seq<1099511627776)=false:=decide_eq_false (by omega)
   exact⟨lX (Eq.symm (by unfold bX; rw[l,k,m]; try rfl)),V⟩
  refine Qv aF (fun f d=>nu O)<|aZ aF<|aZ aF<|aZ ((pt g))<|Qv (au v.o) (fun f d=>aP (t.cb d) 0)<|Qv (au a) (fun f d=>iC)<|aZ ((pf g 2))<|Qv ((pf g (a+2))) (fun f d=>vK 6 1)<|Qv (aA (v.deps a)) (fun f d=>aP (t.cb d) (a+2) (mM _ (by omega) (by omega)))<|aZ ((pf g 1))<|Qv (aA v.seq) (fun f d=>aP (t.cb d) 1)<|Qv (aA (v.seq-1)) (fun f d=>iC) ?_
  by_cases y:(v.deps a)=(v.seq-1)
  ·refine Qv aF (fun f d=>qP y)<|aZ aF<|Qn ?_
   intro Tx qD
   have⟨q,W⟩:=fV qD t B
   refine sN<|aN<|Wk<|sN<|Ws<|ay<|av ((pf g 2))<|Lv (.slice (some ⟨g,2,none⟩) (6) (6)) (Fx.Ey rfl rfl Tryd.underlying26 (s:=1) (by kernel_rfl))<|eG (Ue v.deps g 2 _ (fun j x=>by have Q:=q.aM (2+j) (by omega); rw[Nat.zero_add]at Q; rw[Q,mM v (p:=2+j) (j:=j) (by omega) x]; rfl)) _ rfl ?_
   intro w2 hb1
   have⟨r,I⟩:=fV hb1 q W
   by_cases A:1099511627776<=(EA v.deps 5)
   ·refine Lv aI (nY A)<|aD<|aT<|ay<|av aF<|aD<|Wr<|sR<|aL aF ?_
    have k:decide (1<=v.seq)=true:=decide_eq_true (by omega)
    have m:decide (v.seq<1099511627776)=true:=decide_eq_true (by omega)
    have q:decide (v.deps (v.o-1).toNat=v.seq-1)=true:=decide_eq_true (by rw[show(v.o-1).toNat=a by omega]; exact y)
    have r:=QL A
    exact⟨lX (Eq.symm (by unfold bX; rw[l,k,m,q,r]; try rfl)),I⟩
   refine Lv aF (nu A)<|aD<|aN<|Wk<|sN<|ay<|Lv (.agg (aC 14 (dJ v))) (kg r.aM 0)<|av (.agg (aC 14 (dn (fun c=>if c<1 then au 0 else if c<8 then aA 0 else if c<9 then .int .u8 (0)else if c<10 then aA 0 else if c<12 then au 0 else aA 0) 0 14 (dJ v))))<|rR fun z w3 P u s6 z2 => ?_
   have⟨C,Z⟩:=fV s6.old r I
   have Bo:=iT P I.size
   have OG:=bR P r.lt
   have Dy:=u.lt
   refine av ((pt z))<|aD<|Ws ?_
   have L:aK w3 z 14 (dJ v) 139:=u.congr (fun j x=>by rcases j with _|_|_|_|_|_|_|_|_|_|_|_|_|_|j <;> first|rfl|omega)
   -- region 6 draws
   refine Bf [0,1,2,3,4,5,7,9,11,13,6,8,10,12,14,15,16,17,18] [0,3,0,0,0,0,4,0,4,0,4,0,4,0,4,0,0,0,0] (Fx.rU [139]) Fx.rU.refl Fx.rU.trans (fA := [(2,1,[1]),(3,1,[2,1]),(4,1,[2,1]),(5,1,[2,1]),(7,1,[2,1]),(9,1,[2,1]),(11,1,[2,1]),(13,1,[2,1]),(6,1,[2,1]),(8,1,[2,1]),(10,1,[2,1]),(12,1,[2,1]),(14,1,[2,1]),(15,1,[2,1]),(16,1,[2,1]),(17,1,[2,1]),(18,1,[1])]) (by kernel_rfl) (by kernel_rfl) (by kernel_rfl) (by kernel_rfl) (by kernel_rfl) fun rE gL ig => ?_
   have⟨m9,m10,M⟩:=kI gL C L Z
   refine aY ((pt z))<|fU<|jT (QM v z _ m10) ?_
   rintro e w4 ⟨b,v',E,R,S,F,hkv⟩
   have H:=m9.dX S (by omega)
   have J:=S.below M M.size (by omega)
   cases b
   ·refine⟨.bool false,E,?_⟩
    clear E
    refine Ln<|aY aF<|Rk (by rfl)<|Rk (by rfl)<|Rk (by rfl)<|Rk (by rfl)<|Rk (by rfl)<|Rk (by rfl)<|Rk (by rfl)<|Rk (by rfl)<|Rk (by rfl)<|Rk (by rfl)<|Rk (by rfl)<|Rk (by rfl)<|Rk (by rfl)<|Rk (by rfl)<|aY aF<|aY aF<|bD<|Wr<|aL aF ?_
    have k:decide (1<=v.seq)=true:=decide_eq_true (by omega)
    have m:decide (v.seq<1099511627776)=true:=decide_eq_true (by omega)
    have q:decide (v.deps (v.o-1).toNat=v.seq-1)=true:=decide_eq_true (by rw[show(v.o-1).toNat=a by omega]; exact y)
    have r:=AO A
    have u:qH v=true->iJ v=false:=fun h=>by rw[uO h,<- F]
    have C:(qH v&&iJ v)=false:=by cases h:qH v with|false=>rfl|true=>exact u h
    have L:(true&&true&&true&&true&&true&&qH v&&iJ v)=false:=C
    exact⟨lX (Eq.symm (by unfold bX; rw[l,k,m,q,r,L]; try rfl)),J⟩
   refine⟨.bool true,E,?_⟩
   clear E
   rw[hkv rfl]at R
   refine Ln<|aY aI<|aY ((pt z))<|aY ((pt z))<|aY ((pt z))<|aY ((pt g))<|aY ((pf g 1))<|aY ((pf g 2))<|aY ((pf g 8))<|Rs (.agg (aC 14 (dJ (jU v)))) (kg R.aM 0) ?_
   refine Rs (au v.o) (aP H.aM 0) ?_
   refine Rs (aA v.seq) (aP H.aM 1) ?_
   refine Rs (.agg (aC 6 (rv .u64 v.deps))) (kg H.aM 2 (fun j x=>mM _ (by omega) x)) ?_
   refine Rs (.int .u8 (v.kind)) (aP H.aM 8) ?_
   refine aY (.agg (aC 14 (dn (dn (dn (dn (fun c=>if c<1 then au 0 else if c<8 then aA 0 else if c<9 then .int .u8 (0)else if c<10 then aA 0 else if c<12 then au 0 else aA 0) 0 1 (fun _=>au v.o)) 1 1 (fun _=>aA v.seq)) 2 6 (rv .u64 v.deps)) 8 1 (fun _ => .int .u8 (v.kind))))) ?_
   by_cases D : ∀ i,i<14->(dJ (jU v)) i=(dn (dn (dn (dn (fun c=>if c<1 then au 0 else if c<8 then aA 0 else if c<9 then .int .u8 (0)else if c<10 then aA 0 else if c<12 then au 0 else aA 0) 0 1 (fun _=>au v.o)) 1 1 (fun _=>aA v.seq)) 2 6 (rv .u64 v.deps)) 8 1 (fun _ => .int .u8 (v.kind))) i
   ·refine Rp aI (fun f=>Fx.wB (n:=14) (ks := [(some .i64),(some .u64),(some .u64),(some .u64),(some .u64),(some .u64),(some .u64),(some .u64),(some .u8),(some .u64),(some .i64),(some .i64),(some .u64),(some .u64)]) (X:=dJ (jU v)) (Y:=dn (dn (dn (dn (fun c=>if c<1 then au 0 else if c<8 then aA 0 else if c<9 then .int .u8 (0)else if c<10 then aA 0 else if c<12 then au 0 else aA 0) 0 1 (fun _=>au v.o)) 1 1 (fun _=>aA v.seq)) 2 6 (rv .u64 v.deps)) 8 1 (fun _ => .int .u8 (v.kind))) 12 true rfl rfl rfl (Fx.Pm D) (za (CO G)) (AP (za (CK G)) (fun j x=>by rcases j with _|_|_|_|_|_|_|_|_|_|_|_|_|_|j <;> first|rfl|exact absurd x (by simp))) rfl (by kernel_rfl) (by kernel_rfl) (by kernel_rfl) (by kernel_rfl) (by kernel_rfl))<|aY aI<|aY aI<|bD<|Wr<|aL aI ?_
    have k:decide (1<=v.seq)=true:=decide_eq_true (by omega)
    have m:decide (v.seq<1099511627776)=true:=decide_eq_true (by omega)
    have q:decide (v.deps (v.o-1).toNat=v.seq-1)=true:=decide_eq_true (by rw[show(v.o-1).toNat=a by omega]; exact y)
    have r:=AO A
    have u:=(zu F.symm).1 (fun i K=>(D i K).trans (by rcases i with _|_|_|_|_|_|_|_|_|_|_|_|_|_|i <;> first|rfl|omega))
    have C:=(uO u).trans F.symm
    exact⟨lX (Eq.symm (by unfold bX; rw[l,k,m,q,r,u,C]; try rfl)),J⟩
   refine Rp aF (fun f=>Fx.wB (n:=14) (ks := [(some .i64),(some .u64),(some .u64),(some .u64),(some .u64),(some .u64),(some .u64),(some .u64),(some .u8),(some .u64),(some .i64),(some .i64),(some .u64),(some .u64)]) (X:=dJ (jU v)) (Y:=dn (dn (dn (dn (fun c=>if c<1 then au 0 else if c<8 then aA 0 else if c<9 then .int .u8 (0)else if c<10 then aA 0 else if c<12 then au 0 else aA 0) 0 1 (fun _=>au v.o)) 1 1 (fun _=>aA v.seq)) 2 6 (rv .u64 v.deps)) 8 1 (fun _ => .int .u8 (v.kind))) 12 false rfl rfl rfl (Fx.Y1 D) (za (CO G)) (AP (za (CK G)) (fun j x=>by rcases j with _|_|_|_|_|_|_|_|_|_|_|_|_|_|j <;> first|rfl|exact absurd x (by simp))) rfl (by kernel_rfl) (by kernel_rfl) (by kernel_rfl) (by kernel_rfl) (by kernel_rfl))<|aY aF<|aY aF<|bD<|Wr<|aL aF ?_
   have k:decide (1<=v.seq)=true:=decide_eq_true (by omega)
   have m:decide (v.seq<1099511627776)=true:=decide_eq_true (by omega)
   have q:decide (v.deps (v.o-1).toNat=v.seq-1)=true:=decide_eq_true (by rw[show(v.o-1).toNat=a by omega]; exact y)
   have r:=AO A
   have u:qH v=false:=Bool.eq_false_iff.2 (fun h=>D (fun i K=>((zu F.symm).2 h i K).trans (by rcases i with _|_|_|_|_|_|_|_|_|_|_|_|_|_|i <;> first|rfl|omega)))
   exact⟨lX (Eq.symm (by unfold bX; rw[l,k,m,q,r,u]; try rfl)),J⟩
  refine Qv aI (fun f d=>tu y)<|aZ aI<|Qn ?_
  intro V6 wO
  have b9:=aQ wO B
  refine sN<|aT<|ay<|av aF<|aD<|Wr<|sR<|aL aF ?_
  have k:decide (1<=v.seq)=true:=decide_eq_true (by omega)
  have m:decide (v.seq<1099511627776)=true:=decide_eq_true (by omega)
  have q:decide (v.deps (v.o-1).toNat=v.seq-1)=false:=decide_eq_false (by rw[show(v.o-1).toNat=a by omega]; exact y)
  exact⟨lX (Eq.symm (by unfold bX; rw[l,k,m,q]; try rfl)),b9⟩
 rw[Bool.not_eq_true]at l
 refine lu (fun _ _=>sH v.o _) aF (by rw[l])<|aZ aI<|aZ aI<|aU<|aU<|aU<|aZ aI<|aZ aI<|aU<|aU<|aU<|aZ aI<|aZ aI<|aU<|aU<|aU<|aU<|aU<|aU<|aU<|aU<|aU<|aU<|aZ aI<|Qn ?_
 intro V7 wP
 have T:=aQ wP B
 refine sN<|aT<|ay<|av aF<|aD<|Wr<|sR<|aL aF ?_
 exact⟨lX (Eq.symm (by unfold bX; rw[l]; try rfl)),T⟩
namespace Rt
def mh(a b:Int):Int:=if b>a then b else a
def vx(X:Nat->Nat->Int):Nat->Value:=fun p=>aA (X (p / 6) (p % 6))
theorem Kw(X:Nat->Nat->Int){i p j:Nat}(a:p=6*i)(b:j<6):vx X (p+j)=rv .u64 (X i) j:=by
 subst a
 show Value.int .u64 (X ((6*i+j) / 6) ((6*i+j) % 6))=aA (X i j)
 rw[show(6*i+j) / 6=i by omega,show(6*i+j) % 6=j by omega]
def qJ(c:Int->Int->Int)(X:Nat->Nat->Int):Nat->Nat->Int
 | 0=>X 0
 | k+1=>fun p=>c (qJ c X k p) (X (k+1) p)
def FZ(c:Int->Int->Int)(X:Nat->Nat->Int):Nat->Nat->Int
 | 0=>fun _=>0
 | k+1=>qJ c X k
def Vp(w:World)(a:Option Addr)(n cap:Nat)(X:Nat->Nat->Int):Prop:=0<n->n<=cap /\ ∃ b c,a=some ⟨b,c,none⟩/\gF w b c (6*n) (vx X)
def pF(x:Nat->Int)(k:Nat):Nat->Int:=fun p=>if p<k then x p else 0
theorem EB(x:Nat->Int)(k:Nat):upd (pF x k) k (x k)=pF x (k+1):=by
 funext p; unfold upd pF
 by_cases h:p=k
 ·subst h; rw[if_pos rfl,if_pos (by omega)]
 rw[if_neg h]
 by_cases a:p<k
 ·rw[if_pos a,if_pos (by omega)]
 rw[if_neg a,if_neg (by omega)]
theorem Hr(x:Nat->Int):aC 6 (rv .u64 (pF x 6))=aC 6 (rv .u64 x):=Fx.fZ fun p a=>congrArg (Value.int .u64) (by unfold pF; rw[if_pos a])
end Rt
-- EC.region is not in this seat
theorem Uf(a b:Int)(w:World) :
 Calls Tryd.prog 109 #[aA a,aA b] w fun e w'=>e = .returned (aA (mh a b))/\w'=w:=by
 refine Kent Tryd.func109 8 ?_
 refine ay<|av (aA 0)<|aD<|ay<|av (aA a)<|av (aA b)<|Lv (aA (mh a b)) (Fx.N8 rfl rfl rfl)<|av (aA (mh a b))<|aD<|Wr<|aL (aA (mh a b)) ?_
 exact⟨rfl,rfl⟩
theorem Ky(x y:Nat->Int)(d go c q:Nat)(w:World)(l:q<6)(j:aK w d 1 (fun _ => .func (.func 109) #[] #[]) 175)(f:aK w go 6 (rv .u64 x) 26)(k:aK w c 6 (rv .u64 y) 26) :
 Calls Tryd.prog 122 #[au ((q:Int)),(pt d),(pt go),(pt c)] w fun e w'=>e = .returned (aA (mh (x q) (y q)))/\Below w.heap.size w w':=by
 refine Kent Tryd.func122 14 ?_
 refine ay<|av (aA 0)<|aD<|Ws ?_
 -- region 1 draws
 refine jX<|Qv (.func (.func 109) #[] #[]) (fun b a=>aP (j.cb a) 0)<|aZ (au q)<|Qv ((pf go q)) (fun b a=>vK 6 1)<|Qv (aA (x q)) (fun b a=>aP (f.cb a) q)<|aZ (au q)<|Qv ((pf c q)) (fun b a=>vK 6 1)<|Qv (aA (y q)) (fun b a=>aP (k.cb a) q)<|Ba (v:=aA (mh (x q) (y q))) (by rfl) (fun b a=>Fx.wz (args := [aA (x q),aA (y q)]) rfl rfl rfl (all := #[aA (x q),aA (y q)]) rfl Tryd.func109 rfl rfl) rfl (fun b a=>(Uf (x q) (y q) _).mono fun e v2 h=>⟨h.1,by rw[h.2]; exact a⟩) ?_
 refine aZ (aA (mh (x q) (y q)))<|Qn ?_
 intro n i
 have⟨m,g⟩:=fV i f (Below.refl w.heap.size w)
 refine sN<|Wr<|aL (aA (mh (x q) (y q))) ?_
 exact⟨rfl,g⟩
theorem ED(x y:Nat->Int)(b go c:Nat)(w:World)(z:aK w b 1 (fun _ => .func (.func 109) #[] #[]) 175)(B:aK w go 6 (rv .u64 x) 26)(C:aK w c 6 (rv .u64 y) 26) :
 Calls Tryd.prog 121 #[.func (.func 122) #[] #[(pt b),(pt go),(pt c)]] w fun e w'=>e = .returned (.agg (aC 6 (rv .u64 (fun p=>mh (x p) (y p)))))/\Below w.heap.size w w':=by
 refine Kent Tryd.func121 14 ?_
 refine ay<|yw (m:=6) (y:=rv .u64 (fun _=>0)) (by rfl) rfl (by kernel_rfl) rfl fun a w1 u D Z z1 => ?_
 have⟨T,W,X,E⟩:=jY Z.old z B C (Below.refl w.heap.size w)
 have xW:=gP u
 have⟨mJ,Ug,qK⟩:=DZ u z.lt B.lt C.lt
 have yC:=D.lt
 refine aD<|Ws<|ay<|av (au 0)<|aD<|Wb ?_
 have Y:aK w1 a 6 (rv .u64 (pF (fun p=>mh (x p) (y p)) 0)) 26:=D
 refine Wo (fun f h => ∃ k:Nat,k<=6/\f 0 = .func (.func 122) #[] #[(pt b),(pt go),(pt c)]/\f 2=(pt a)/\f 4=au ((k:Int))/\aK h b 1 (fun _ => .func (.func 109) #[] #[]) 175/\aK h go 6 (rv .u64 x) 26/\aK h c 6 (rv .u64 y) 26/\aK h a 6 (rv .u64 (pF (fun p=>mh (x p) (y p)) k)) 26/\Below w.heap.size w h) (fun f _=>(6-(intOf (f 4)).toNat)) ⟨0,by omega,(by rfl),(by rfl),Fx.ic,T,W,X,Y,E⟩ ?_
 rintro f1 w2 ⟨k,hk,v,d,g,n,o,q,r,l⟩
 refine ay ?_
 by_cases t:(k:Int)<6
 ·refine Lv aI (nV t (hx:=g))<|aD<|Ws<|aT<|Wk<|sN<|Ws<|Wb<|ay<|aX g<|av (au k)<|aD<|Wl<|av (au k)<|aX v<|av (au k)<|uY (by rfl) (Fx.wz (args := [au ((k:Int))]) rfl rfl rfl (all := #[au ((k:Int)),(pt b),(pt go),(pt c)]) rfl Tryd.func122 rfl rfl) rfl<|(Ky x y b go c k _ (by omega) n o q).mono ?_
  rintro e w3 ⟨A,I⟩
  refine⟨aA (mh (x k) (y k)),by rw[A],?_⟩
  clear A
  have⟨J,K,L,M,s⟩:=ql I n o q r l
  refine Lv ((pf a k)) (vK 6 1 (hx:=d))<|mX M k (aA (mh (x k) (y k))) fun w4 N i z2 => ?_
  have O:aK w4 a 6 (rv .u64 (upd (pF (fun p=>mh (x p) (y p)) k) k (mh (x k) (y k)))) 26:=N.to (Fx.zP _ _ _ _)
  have P:=J.dX i (by omega)
  have Q:=K.dX i (by omega)
  have R:=L.dX i (by omega)
  have F:=i.below s s.size (by omega)
  refine Ln<|dA<|sN<|Wl<|Lv (au ((k:Int)+1)) (gD (hx:=g))<|av (au ((k:Int)+1))<|Ln ?_
  have S:=O.to (congrArg (rv .u64) (EB (fun p=>mh (x p) (y p)) k))
  refine iP ⟨k+1,by omega,v,d,Fx.ic,P,Q,R,S,F⟩ ?_
  show(6-(intOf ((au ((k:Int)+1)))).toNat)<_
  simp only[g,intOf]; omega
 refine Lv aF (nW t (hx:=g))<|aD<|Ws<|aN<|Wx<|cZ<|gX<|dh<|sN<|ay<|Lv (.agg (aC 6 (rv .u64 (pF (fun p=>mh (x p) (y p)) k)))) (kg r.aM 0 (ha:=d))<|gU r 0 (ha:=d) fun w5 U j z3 => ?_
 have V:aK w5 a 6 (rv .u64 (pF (fun p=>mh (x p) (y p)) k)) 26:=aS U
 have m22:=n.dX j (by omega)
 have m23:=o.dX j (by omega)
 have m24:=q.dX j (by omega)
 have G:=j.below l l.size (by omega)
 refine aD (Wr (⟨.agg (aC 6 (rv .u64 (pF (fun p=>mh (x p) (y p)) k))),rV Tryd.results121 ⟨_,d,bB V.aM (by kernel_rfl) (by kernel_rfl)⟩,?_⟩))
 have H:k=6:=by omega
 exact⟨by rw[H,Hr],G⟩
namespace Rt
def V2(x y:Nat->Int):Nat->Nat->Int
 | 0=>x
 | 1=>y
 | _=>fun _=>0
end Rt
theorem CP(a:Option Addr)(cap:Nat)(w:World) :
 Calls Tryd.prog 108 #[.slice a (0) (cap),.func (.func 109) #[] #[]] w fun e w'=>e = .returned (.agg (aC 6 (rv .u64 (fun _=>0))))/\Below w.heap.size w w':=by
 refine Kent Tryd.func108 26 ?_
 refine ay<|nZ (.func (.func 109) #[] #[]) fun t C j b p E => ?_
 have c:=aQ p.old (Below.refl w.heap.size w)
 have u:=gP j
 have A:=b.lt
 refine oo 6 (rv .u64 (fun _=>0)) fun k D f g q F => ?_
 have⟨l,d⟩:=fV q.old b c
 have v:=iT f c.size
 have z:=bR f b.lt
 have B:=g.lt
 refine aD<|Ws<|ay<|av (.slice a (0) (cap))<|av (au 0)<|Lv aI (iV rfl)<|aD<|aT<|ay<|Lv (.agg (aC 6 (rv .u64 (fun _=>0)))) (Fx.DV (vs := []) (s:=1) (m:=6) (x:=rv .u64 (fun _=>0)) rfl rfl Tryd.underlying26 (by kernel_rfl) (by kernel_rfl) (by rfl))<|gU g 0 fun r n h G => ?_
 have o:aK r k 6 (rv .u64 (fun _=>0)) 26:=aS n
 have y:=l.dX h (by omega)
 have i:=h.below d d.size (by omega)
 refine aD (Wr (sR (⟨.agg (aC 6 (rv .u64 (fun _=>0))),rV Tryd.results108 ⟨_,rfl,bB o.aM (by kernel_rfl) (by kernel_rfl)⟩,?_⟩)))
 exact⟨rfl,i⟩
theorem CQ(b off m cap:Nat)(X:Nat->Nat->Int)(w:World)(hcap:m+1<=cap)(hm:m<=1000000)(hx:gF w b off (6*(m+1)) (vx X)) :
 Calls Tryd.prog 108 #[.slice (some ⟨b,off,none⟩) (m+1) (cap),.func (.func 109) #[] #[]] w fun e w'=>e = .returned (.agg (aC 6 (rv .u64 (qJ mh X m))))/\Below w.heap.size w w':=by
 have lb:=hx.lt (by omega)
 refine Kent Tryd.func108 26 ?_
 refine ay<|nZ (.func (.func 109) #[] #[]) fun c w1 Q F s1 z1 => ?_
 have⟨T,K⟩:=fV s1.old hx (Below.refl w.heap.size w)
 have xW:=gP Q
 have mJ:b≠c:=by rw[Q]; exact Nat.ne_of_lt (hx.lt (by omega))
 have yC:=F.lt
 refine oo 6 (rv .u64 (fun _=>0)) fun r w2 z I s2 z2 => ?_
 have⟨J,Z,L⟩:=kI s2.old T F K
 have Bo:=iT z K.size
 have Uh:b≠r:=by rw[z]; exact Nat.ne_of_lt (T.lt (by omega))
 have Kz:=bR z F.lt
 have Dy:=I.lt
 refine aD<|Ws<|ay<|av (.slice (some ⟨b,off,none⟩) (m+1) (cap))<|av (au ((m+1:Nat):Int))<|Lv aF SS<|aD<|aN<|Wk<|sN<|ay<|av (.slice (some ⟨b,off,none⟩) (m+1) (cap))<|Lv ((pf b off)) (cK 6)<|Lv (.agg (aC 6 (rv .u64 (X 0)))) (kg J 0 (fun j E=>Kw _ (i:=0) (p:=0) (by omega) E))<|oo 6 (rv .u64 (fun _=>0)) fun a w3 A m6 s3 z3 => ?_
 have⟨m7,m8,m9,M⟩:=jY s3.old J Z I L
 have I6:=iT A L.size
 have ZW:b≠a:=by rw[A]; exact Nat.ne_of_lt (J.lt (by omega))
 have⟨KA,KC⟩:=yx A Z.lt I.lt
 have KD:=m6.lt
 refine gU m6 0 fun w4 m10 x z4 => ?_
 have m11:aK w4 a 6 (rv .u64 (X 0)) 26:=aS m10
 have m12:=m7.dX x (by omega)
 have m13:=m8.dX x (by omega)
 have m14:=m9.dX x (by omega)
 have b4:=x.below M M.size (by omega)
 refine aD<|Ws<|ay<|av (.slice (some ⟨b,off,none⟩) (m+1) (cap))<|Lv (.slice (if cap=1 then some ⟨b,off,none⟩else some ⟨b,off+6,none⟩) (m) (cap-1)) (Fx.qN (j:=1) (b:=b) (off:=off) (len:=m+1) (cap:=cap) (s:=6) rfl rfl rfl Tryd.underlying173 (by kernel_rfl) (by omega) rfl rfl rfl)<|av (au m)<|av (au 0)<|aD<|Wb ?_
 have m15:aK w4 a 6 (rv .u64 (qJ mh X 0)) 26:=m11
 refine Wo (fun f n => ∃ k:Nat,k<=m/\f 3=(pt c)/\f 4=(pt r)/\f 5=(pt a)/\f 16 = .slice (if cap=1 then some ⟨b,off,none⟩else some ⟨b,off+6,none⟩) (m) (cap-1)/\f 17=au ((m:Int))/\f 18=au ((k:Int))/\gF n b off (6*(m+1)) (vx X)/\aK n c 1 (fun _ => .func (.func 109) #[] #[]) 175/\aK n r 6 (rv .u64 (fun _=>0)) 26/\aK n a 6 (rv .u64 (qJ mh X k)) 26/\Below w.heap.size w n) (fun f _=>(m-(intOf (f 18)).toNat)) ⟨0,by omega,(by rfl),(by rfl),(by rfl),(by rfl),Fx.ic,Fx.ic,m12,m13,m14,m15,b4⟩ ?_
 rintro f1 w5 ⟨k,hk,R,C,t,S,D,g,u,G,H,v,o⟩
 refine ay ?_
 by_cases P:(k:Int)<(m:Int)
 ·refine Lv aI (nV P (hx:=g) (hy:=D))<|aD<|Ws<|aT<|Wk<|sN<|Ws<|Wb<|ay<|Lv ((pf b (6*k+off+6))) (cK 6 (hx:=(S.trans (congrArg (fun q=>Value.slice q (m) (cap-1)) (if_neg (by omega))))) (hi:=g))<|Lv (.agg (aC 6 (rv .u64 (X (k+1))))) (kg u (6*k+6) (fun j E=>Kw _ (i:=k+1) (p:=6*k+6) (by omega) E))<|oo 6 (rv .u64 (fun _=>0)) fun d w6 B U s5 z5 => ?_
  have⟨m21,m22,m23,m24,N⟩:=ql s5.old u G H v o
  have MX:=iT B o.size
  have Xb:b≠d:=by rw[B]; exact Nat.ne_of_lt (u.lt (by omega))
  have⟨Xc,Xd,Xe⟩:=DZ B G.lt H.lt v.lt
  have L8:=U.lt
  refine gU U 0 fun w7 rG h z6 => ?_
  have V:aK w7 d 6 (rv .u64 (X (k+1))) 26:=aS rG
  have tL:=m21.dX h (by omega)
  have W:=m22.dX h (by omega)
  have wR:=m23.dX h (by omega)
  have Y:=m24.dX h (by omega)
  have b7:=h.below N N.size (by omega)
  refine aD<|Wl<|Lv (.func (.func 122) #[] #[(pt c),(pt a),(pt d)]) (Fx.iK (us := []) (vs := [(pt c),(pt a),(pt d)]) rfl rfl (Fx.NR R t rfl))<|eG (ED (qJ mh X k) (X (k+1)) c a d _ W Y V) _ rfl ?_
  intro w8 hb1
  have⟨oq,m32,qE,ou,sU,O⟩:=wG hb1 tL W wR Y V b7
  refine gU ou 0 (ha:=t) fun w9 uH l z7 => ?_
  have Ag:aK w9 a 6 (rv .u64 (fun p=>mh ((qJ mh X k) p) ((X (k+1)) p))) 26:=aS uH
  have wS:=oq.dX l (by omega)
  have tN:=m32.dX l (by omega)
  have yV:=qE.dX l (by omega)
  have tO:=sU.dX l (by omega)
  have b9:=l.below O O.size (by omega)
  refine Ln<|dA<|sN<|Wl<|Lv (au ((k:Int)+1)) (gD (hx:=g))<|av (au ((k:Int)+1))<|Ln<|iP ⟨k+1,by omega,R,C,t,S,(D.trans Fx.ic),Fx.ic,wS,tN,yV,Ag,b9⟩ ?_
  show(m-(intOf ((au ((k:Int)+1)))).toNat)<_
  simp only[g,intOf]; omega
 refine Lv aF (nW P (hx:=g) (hy:=D))<|aD<|Ws<|aN<|Wx<|cZ<|gX<|dh<|sN<|ay<|Lv (.agg (aC 6 (rv .u64 (qJ mh X k)))) (kg v.aM 0 (ha:=t))<|gU H 0 (ha:=C) fun Bg xX y z8 => ?_
 have sV:aK Bg r 6 (rv .u64 (qJ mh X k)) 26:=aS xX
 have uI:=u.dX y (by omega)
 have wT:=G.dX y (by omega)
 have uJ:=v.dX y (by omega)
 have b10:=y.below o o.size (by omega)
 refine aD (Wr (⟨.agg (aC 6 (rv .u64 (qJ mh X k))),rV Tryd.results108 ⟨_,C,bB sV.aM (by kernel_rfl) (by kernel_rfl)⟩,?_⟩))
 have ek:k=m:=by omega
 exact⟨by rw[ek],b10⟩
theorem EF(a:Option Addr)(n cap:Nat)(X:Nat->Nat->Int)(w:World)(g:n<=1000000)(h:Vp w a n cap X) :
 Calls Tryd.prog 108 #[.slice a n cap,.func (.func 109) #[] #[]] w fun e w'=>e = .returned (.agg (aC 6 (rv .u64 (FZ mh X n))))/\Below w.heap.size w w':=by
 cases n with
 | zero=>exact CP a cap w
 | succ m=>obtain⟨c,b,f,rfl,d⟩:=h (by omega); exact CQ b f m cap X w c (by omega) d
theorem QN{w w':World}{a:Option Addr}{n cap:Nat}{X:Nat->Nat->Int}(h:Vp w a n cap X)(f:Below w.heap.size w w'):Vp w' a n cap X:=fun d=>by
 obtain⟨g,b,i,e,c⟩:=h d
 exact⟨g,b,i,e,c.below f (c.lt (by omega))⟩
theorem QO(a:Option Addr)(n cap:Nat)(X:Nat->Nat->Int)(w:World)(k:n<=1000000)(h:Vp w a n cap X) :
 Calls Tryd.prog 98 #[.slice a (n) (cap)] w fun e w'=>e = .returned (.agg (aC 6 (rv .u64 (FZ mh X n))))/\Below w.heap.size w w':=by
 refine Kent Tryd.func98 5 ?_
 refine ay<|yw (m:=6) (y:=rv .u64 (fun _=>0)) (by rfl) rfl (by kernel_rfl) rfl fun i v g d q z => ?_
 have b:=aQ q.old (Below.refl w.heap.size w)
 have t:=gP g
 have u:=d.lt
 refine aD<|ay<|av (.slice a (n) (cap))<|eG (EF a n cap X _ k (QN h b)) _ rfl ?_
 intro x j
 have⟨l,c⟩:=fV j d b
 refine gU l 0 fun s o r A => ?_
 have p:aK s i 6 (rv .u64 (FZ mh X n)) 26:=aS o
 have f:=r.below c c.size (by omega)
 refine aD (Wr (⟨.agg (aC 6 (rv .u64 (FZ mh X n))),rV Tryd.results98 ⟨_,rfl,bB p.aM (by kernel_rfl) (by kernel_rfl)⟩,?_⟩))
 exact⟨rfl,f⟩
namespace Rt
theorem Ui(x y:Nat->Int):dn (dn (fun j=>rv .u64 (fun _=>0) (j % 6)) (0*6) 6 (rv .u64 x)) (1*6) 6 (rv .u64 y)=vx (V2 x y):=by
 funext p
 unfold dn
 by_cases b:1*6<=p/\p<1*6+6
 ·rw[if_pos b]
  show _=Value.int .u64 (V2 x y (p / 6) (p % 6))
  rw[show p / 6=1 by omega,show p-1*6=p % 6 by omega]; rfl
 rw[if_neg b]
 by_cases a:0*6<=p/\p<0*6+6
 ·rw[if_pos a]
  show _=Value.int .u64 (V2 x y (p / 6) (p % 6))
  rw[show p / 6=0 by omega,show p-0*6=p % 6 by omega]; rfl
 rw[if_neg a]
 show _=Value.int .u64 (V2 x y (p / 6) (p % 6))
 obtain⟨q,c⟩ : ∃ q,p / 6=q+2:=⟨p / 6-2,by omega⟩
 rw[c]; rfl
end Rt
-- EC.New is not in this seat
-- (*EC.Uj).Of is not in this seat
-- (*EC.Uj).Told is not in this seat
namespace Rt
def hasB(K:Nat->Int)(o a:Int):Bool:=iW o&&decide (0<a)&&decide (a<=K (o-1).toNat)
theorem zx{a b:Nat->Int}:ze a b=true <-> ∀ i,i<6->rv .u64 (fun p=>mh (a p) (b p)) i=rv .u64 b i:=by
 unfold ze
 rw[List.all_eq_true]
 have e : ∀ i,rv .u64 (fun p=>mh (a p) (b p)) i=rv .u64 b i<->a i<=b i:=fun i=>by
  show Value.int .u64 (mh (a i) (b i))=aA (b i)<->_
  simp only[Value.int.injEq,true_and]; unfold mh; split <;> omega
 constructor
 ·intro h i c; have:=h i (List.mem_range.2 c); rw[e]; exact of_decide_eq_true this
 intro h i c; have:=h i (List.mem_range.1 c); rw[e]at this; exact decide_eq_true this
def Kr(K:Nat->Int):Prop := ∀ i,i<6->iG (K i)
theorem Kr.kd{K:Nat->Int}(h:Kr K):Fx.Kd (List.replicate 6 (some .u64)) (rv .u64 K):=Fx.Iu fun i a=>Fx.mG (h i a)
theorem Kr.mx{K L:Nat->Int}(h:Kr K)(b:Kr L):Kr (fun p=>mh (K p) (L p)):=fun i a=>by
 have c:=h i a; have d:=b i a; show iG (mh (K i) (L i)); unfold mh; split <;> assumption
end Rt
theorem MZ{w:World}{g:Nat}{T:TypeId}{x:Nat->Value}(D K:Nat->Int)(h:aK w g (2*6) x T)(e:x=vx (V2 D K)) :
 Calls Tryd.prog 98 #[bH g 2 2] w fun e w'=>e = .returned (.agg (aC 6 (rv .u64 fun p=>mh (D p) (K p))))/\Below w.heap.size w w' :=
 QO (some ⟨g,0,none⟩) 2 2 (V2 D K) w (by omega) (fun _=>⟨Nat.le_refl _,g,0,rfl,(h.to e).aM⟩)
theorem AQ(n:Int)(w:World) :
 Calls Tryd.prog 38 #[au n] w fun e w'=>e = .returned (.bool (iW n))/\w'=w:=by
 refine Kent Tryd.func38 9 ?_
 refine ay<|av aF<|aD<|ay<|av (au n) ?_
 by_cases a:1<=n
 ·refine Lv aI (nY a)<|av aI<|av (au n) ?_
  by_cases b:n<=6
  ·refine Lv aI (nX b)<|av aI<|av aI<|aD<|Wr<|aL aI ?_
   exact⟨lX (by simp only[iW]; first|(symm; simp; omega)|(symm; simp; done)),rfl⟩
  refine Lv aF (oF b)<|av aF<|av aF<|aD<|Wr<|aL aF ?_
  exact⟨lX (by simp only[iW]; first|(symm; simp; omega)|(symm; simp; done)),rfl⟩
 refine Lv aF (nu a)<|av aF<|jP<|jP<|av aF<|av aF<|aD<|Wr<|aL aF ?_
 exact⟨lX (by simp only[iW]; first|(symm; simp; omega)|(symm; simp; done)),rfl⟩
theorem OH(K:Nat->Int)(o q:Int)(w:World) :
 Calls Tryd.prog 68 #[.agg (aC 6 (rv .u64 K)),au o,aA q] w fun e w'=>e = .returned (.bool (hasB K o q))/\Below w.heap.size w w':=by
 refine Kent Tryd.func68 21 ?_
 refine ay<|rR fun k s j i l t => ?_
 have f:=aQ l.old (Below.refl w.heap.size w)
 have p:=gP j
 have r:=i.lt
 refine av aF<|aD<|ay<|av (au o) ?_
 by_cases b:(iW o)=true
 ·obtain⟨a,n,m⟩:=dO b
  refine qj (AQ o _) aI (by rw[b])<|av aI<|av (aA q) ?_
  by_cases c:0<q
  ·refine Lv aI (BH c)<|av aI<|av aI<|av (au o)<|Lv (au a) iC<|Lv ((pf k a)) (vK 6 1)<|Lv (aA (K a)) (aP i.aM a)<|av (aA q) ?_
   by_cases g:q<=(K a)
   ·refine Lv aI (nY g)<|av aI<|av aI<|aD<|Wr<|aL aI ?_
    have d:decide (0<q)=true:=decide_eq_true c
    have h:decide (q<=K (o-1).toNat)=true:=decide_eq_true (by rw[show(o-1).toNat=a by omega]; exact g)
    exact⟨lX (Eq.symm (by unfold hasB; rw[b,d,h]; try rfl)),f⟩
   refine Lv aF (nu g)<|av aF<|av aF<|aD<|Wr<|aL aF ?_
   have d:decide (0<q)=true:=decide_eq_true c
   have h:decide (q<=K (o-1).toNat)=false:=decide_eq_false (by rw[show(o-1).toNat=a by omega]; exact g)
   exact⟨lX (Eq.symm (by unfold hasB; rw[b,d,h]; try rfl)),f⟩
  refine Lv aF (BI c)<|av aF<|av aF<|jP<|jP<|jP<|jP<|jP<|jP<|av aF<|av aF<|aD<|Wr<|aL aF ?_
  have d:decide (0<q)=false:=decide_eq_false c
  exact⟨lX (Eq.symm (by unfold hasB; rw[b,d]; try rfl)),f⟩
 rw[Bool.not_eq_true]at b
 refine qj (AQ o _) aF (by rw[b])<|av aF<|jP<|jP<|av aF<|av aF<|jP<|jP<|jP<|jP<|jP<|jP<|av aF<|av aF<|aD<|Wr<|aL aF ?_
 exact⟨lX (Eq.symm (by unfold hasB; rw[b]; try rfl)),f⟩
theorem KE(D K:Nat->Int)(w:World)(o:Kr D)(b:Kr K) :
 Calls Tryd.prog 69 #[.agg (aC 6 (rv .u64 D)),.agg (aC 6 (rv .u64 K))] w fun e w'=>e = .returned (.bool (ze D K))/\Below w.heap.size w w':=by
 refine Kent Tryd.func69 11 ?_
 refine ay<|rR fun M w1 E d I z1 => ?_
 have f:=aQ I.old (Below.refl w.heap.size w)
 have Q:=gP E
 have W:=d.lt
 refine rR fun N w2 l r J z2 => ?_
 have⟨H,B⟩:=fV J.old d f
 have R:=iT l f.size
 have T:=bR l d.lt
 have Z:=r.lt
 refine av aF<|aD<|Ws ?_
 -- region 1 draws
 refine jy [0,1,4,2,3,5,6] [4,4,2,2,1,0,0] [(2,0,[0]),(3,0,[2,0]),(2,1,[1]),(3,1,[2,1]),(3,2,[2]),(5,2,[3,2]),(6,2,[2]),(5,3,[3]),(6,3,[3])] fun rE F P => ?_
 have⟨t,c,g⟩:=kI F H r B
 refine Rs (.agg (aC 6 (rv .u64 D))) (kg t.aM 0) ?_
 refine Rs (.agg (aC 6 (rv .u64 K))) (kg c.aM 0) ?_
 refine Rd (v := .agg (aC 6 (rv .u64 K))) (by rfl) (by rfl) (qh _) (fun A G=>dY (x:=rv .u64 K) (y:=rv .u64 K) rfl rfl (by kernel_rfl) (by kernel_rfl) (c.aM.below G (by have:=c.lt; omega)) (i:=0) (by omega) (by omega) (fun j _=>by rw[Nat.zero_add])) ?_
 refine IG<|Bc (vs := [(0,.agg (aC 6 (rv .u64 D))),(1,.agg (aC 6 (rv .u64 K)))]) (s:=6) (zc:=rv .u64 (fun _=>0)) (y:=dn (dn (fun j=>(rv .u64 (fun _=>0)) (j % 6)) (0*6) 6 (rv .u64 D)) (1*6) 6 (rv .u64 K)) (by rfl) rfl rfl Tryd.underlying173 (by kernel_rfl) (by rfl) (by rfl) (by kernel_rfl) (by rw[bO (off:=0*6) (s:=6) (y:=rv .u64 D) rfl (bY _ _) (by rfl)]; rw[bO (off:=1*6) (s:=6) (y:=rv .u64 K) rfl (bY _ _) (by rfl)]; rfl) rfl fun O w3 m u z z3 => ?_
 have C:=aQ z.old g
 have S:=iT m g.size
 have⟨U,V⟩:=yx m t.lt c.lt
 have aa:=u.lt
 refine Ln ⟨z.old,?_⟩
 refine IG<|eG (MZ D K u (Ui D K)) _ rfl ?_
 intro w4 q
 have L:=Sb q
 have k:=aQ q C
 refine Ln ⟨L.old,?_⟩
 by_cases a : ∀ i,i<6->(rv .u64 (fun p=>mh (D p) (K p))) i=(rv .u64 K) i
 ·refine Rp aI (fun A=>Fx.wB (n:=6) (ks:=List.replicate 6 (some .u64)) (X:=rv .u64 (fun p=>mh (D p) (K p))) (Y:=rv .u64 K) 12 true rfl rfl rfl (Fx.Pm a) (o.mx b).kd b.kd rfl (by kernel_rfl) (by kernel_rfl) (by kernel_rfl) (by kernel_rfl) (by kernel_rfl))<|aY aI<|bD<|Wr<|aL aI ?_
  exact⟨lX (Eq.symm (zx.2 a)),k⟩
 refine Rp aF (fun A=>Fx.wB (n:=6) (ks:=List.replicate 6 (some .u64)) (X:=rv .u64 (fun p=>mh (D p) (K p))) (Y:=rv .u64 K) 12 false rfl rfl rfl (Fx.Y1 a) (o.mx b).kd b.kd rfl (by kernel_rfl) (by kernel_rfl) (by kernel_rfl) (by kernel_rfl) (by kernel_rfl))<|aY aF<|bD<|Wr<|aL aF ?_
 exact⟨lX (Eq.symm (Bool.eq_false_iff.2 (fun h=>a (zx.1 h)))),k⟩
theorem Rt.CS{K:Nat->Int}{v:EvM}(h:bX v=true):uK K v=hasB K v.o v.seq:=by
 have a:=gN h; have b:=(vQ h).1
 unfold uK hasB; rw[h,a,show decide (0<v.seq)=true from decide_eq_true (by omega)]; rfl
theorem KF(K:Nat->Int)(v:EvM)(w:World)(k:jc v) :
 Calls Tryd.prog 45 #[.agg (aC 6 (rv .u64 K)),.agg (aC 14 (dJ v))] w fun e w'=>e = .returned (.bool (uK K v))/\Below w.heap.size w w':=by
 refine Kent Tryd.func45 15 ?_
 refine ay<|rR fun B H q c z O => ?_
 have f:=aQ z.old (Below.refl w.heap.size w)
 have C:=gP q
 have F:=c.lt
 refine rR fun j I i d A P => ?_
 have⟨x,g⟩:=fV A.old c f
 have D:=iT i f.size
 have E:=bR i c.lt
 have G:=d.lt
 refine av aF<|aD<|ay<|Lv (.agg (aC 14 (dJ v))) (kg d.aM 0) ?_
 by_cases a:(bX v)=true
 ·refine eG (zw v _ k) aI (by rw[a]) ?_
  intro J r
  have⟨y,l,h⟩:=kI r x d g
  refine av aI<|Lv (.agg (aC 6 (rv .u64 K))) (kg y.aM 0)<|av ((pt j))<|Lv (au v.o) (aP l.aM 0)<|av ((pf j 1))<|Lv (aA v.seq) (aP l.aM 1) ?_
  by_cases b:(hasB K v.o v.seq)=true
  ·refine eG (OH K v.o v.seq _) aI (by rw[b]) ?_
   intro L s
   have m:=aQ s h
   refine av aI<|av aI<|aD<|Wr<|aL aI ?_
   exact⟨lX (Eq.symm ((CS a).trans b)),m⟩
  rw[Bool.not_eq_true]at b
  refine eG (OH K v.o v.seq _) aF (by rw[b]) ?_
  intro M t
  have n:=aQ t h
  refine av aF<|av aF<|aD<|Wr<|aL aF ?_
  exact⟨lX (Eq.symm ((CS a).trans b)),n⟩
 rw[Bool.not_eq_true]at a
 refine eG (zw v _ k) aF (by rw[a]) ?_
 intro N u
 have p:=aQ u g
 refine av aF<|jP<|jP<|jP<|jP<|jP<|jP<|av aF<|av aF<|aD<|Wr<|aL aF ?_
 exact⟨lX (Eq.symm (by unfold uK; rw[a]; rfl)),p⟩
theorem F3(K:Nat->Int)(v:EvM)(w:World)(i:jc v)(q:Kr K) :
 Calls Tryd.prog 46 #[.agg (aC 6 (rv .u64 K)),.agg (aC 14 (dJ v))] w fun e w'=>e = .returned (.bool (fQ K v))/\Below w.heap.size w w':=by
 refine Kent Tryd.func46 24 ?_
 refine ay<|rR fun z Q y l F W => ?_
 have m:=aQ F.old (Below.refl w.heap.size w)
 have L:=gP y
 have O:=l.lt
 refine rR fun k R p c G X => ?_
 have⟨r,h⟩:=fV G.old l m
 have M:=iT p m.size
 have N:=bR p l.lt
 have P:=c.lt
 refine av aF<|aD<|Ws ?_
 -- region 1 draws
 refine jX<|Qv (.agg (aC 14 (dJ v))) (fun d b=>kg (c.cb b) 0) ?_
 by_cases f:(bX v)=true
 ·obtain⟨a,I,H⟩:=dO (gN f)
  have J:=vQ f
  refine Mq (fun _ _=>zw v _ i) aI (by rw[f])<|aZ aI<|aZ ((pt k))<|Qv (au v.o) (fun d b=>aP (c.cb b) 0)<|Qv (au a) (fun d b=>iC)<|Qv ((pf z a)) (fun d b=>vK 6 1)<|Qv (aA (K a)) (fun d b=>aP (r.cb b) a)<|aZ ((pf k 1))<|Qv (aA v.seq) (fun d b=>aP (c.cb b) 1)<|Qv (aA (v.seq-1)) (fun d b=>iC) ?_
  by_cases n:(K a)=(v.seq-1)
  ·refine Qv aI (fun d b=>iV n)<|aZ aI<|aZ aI<|aZ ((pf k 2))<|Qv (.agg (aC 6 (rv .u64 v.deps))) (fun d b=>kg (c.cb b) 2 (fun j E=>mM _ (by omega) E))<|Qv (.agg (aC 6 (rv .u64 K))) (fun d b=>kg (r.cb b) 0) ?_
   by_cases g:(ze v.deps K)=true
   ·refine Mq (fun _ _=>KE v.deps K _ i.deps q) aI (by rw[g])<|aZ aI<|aZ aI<|Qn ?_
    intro S A
    have s:=aQ A h
    refine sN<|Wr<|aL aI ?_
    have c:decide (v.seq=K (v.o-1).toNat+1)=true:=decide_eq_true (by rw[show(v.o-1).toNat=a by omega]; omega)
    exact⟨lX (Eq.symm (by unfold fQ; rw[f,c,g]; try rfl)),s⟩
   rw[Bool.not_eq_true]at g
   refine Mq (fun _ _=>KE v.deps K _ i.deps q) aF (by rw[g])<|aZ aF<|aZ aF<|Qn ?_
   intro T B
   have t:=aQ B h
   refine sN<|Wr<|aL aF ?_
   have c:decide (v.seq=K (v.o-1).toNat+1)=true:=decide_eq_true (by rw[show(v.o-1).toNat=a by omega]; omega)
   exact⟨lX (Eq.symm (by unfold fQ; rw[f,c,g]; try rfl)),t⟩
  refine Qv aF (fun d b=>mH n)<|aZ aF<|aZ aF<|aU<|aU<|aU<|aU<|aZ aF<|aZ aF<|Qn ?_
  intro U C
  have u:=aQ C h
  refine sN<|Wr<|aL aF ?_
  have c:decide (v.seq=K (v.o-1).toNat+1)=false:=decide_eq_false (by rw[show(v.o-1).toNat=a by omega]; omega)
  exact⟨lX (Eq.symm (by unfold fQ; rw[f,c]; try rfl)),u⟩
 rw[Bool.not_eq_true]at f
 refine Mq (fun _ _=>zw v _ i) aF (by rw[f])<|aZ aF<|aU<|aU<|aU<|aU<|aU<|aU<|aU<|aU<|aU<|aZ aF<|aZ aF<|aU<|aU<|aU<|aU<|aZ aF<|aZ aF<|Qn ?_
 intro V D
 have x:=aQ D h
 refine sN<|Wr<|aL aF ?_
 exact⟨lX (Eq.symm (by unfold fQ; rw[f]; try rfl)),x⟩
set_option maxRecDepth 20000
namespace Rt
def jh(m:dz)(v:EvM):Int:=if m.T.has v.node=false then 9 else if 140737488355328<m.R (m.idx v.node) (bA v)+v.bI then 6 else 0
def vG(m:dz)(k:Int)(r:Nat->Int):dz := { m with R:=aH m.R (m.idx k) r }
def qY(m:dz)(v:EvM):dz:=vG m v.node (upd (m.R (m.idx v.node)) (bA v) (m.R (m.idx v.node) (bA v)+v.bI))
def nK(m:dz)(v:EvM):(Nat->Int) × Int:=fF (m.R (m.idx v.node)) v.o v.dst v.bI
def jG(m:dz)(v:EvM):Int:=if m.T.has v.node=false then 9 else if m.inn (v.dst-1).toNat=false then 10 else(nK m v).2
def CU(m:dz)(v:EvM):dz:=vG m v.node (nK m v).1
def CV(m:dz)(v:EvM):dz := { m with inn:=aV m.inn (v.dst-1).toNat true }
def xH(m:dz)(v:EvM):dz := { m with left:=aV m.left (bA v) true }
theorem vY{R:Nat->Nat->Int}{j:Nat}{r:Nat->Int} : ∀ n x w b,Mp w b n x (aH (om R) j (.agg (aC 54 (rv .i64 r))))->Mp w b n x (om (aH R j r)):=fun n x w b h=>h.mI fun i _=>⟨rfl,by unfold om aH; split <;> rfl⟩
end Rt
theorem yH:Fx.nA Tryd.prog 102:=⟨by kernel_rfl,by kernel_rfl,by kernel_rfl⟩
theorem KG(m:dz)(d B:Nat)(w:World)(h:gZ w B d m)(v:EvM)(Z:bX v=true)(b:Nat)(E:b<6)(Y:v.dst=(b:Int)+1)(j:Nat)(i:Nat)(n:aK w j 1 (fun _=>(pt d)) 44)(l:aK w i 14 (dJ v) 28) :
 Calls Tryd.prog 166 #[(pt j),(pt i)] w fun e w'=>e = .returned (.tuple #[])/\gZ w' B d (CV m v)/\iR (xG m d) w w':=by
 have y:=h.c
 have D:=h.t
 have A:=h.p
 have C:=h.r
 have z:=h.g
 have x:=h.a
 have f:=h.ne
 have lC:=h.c.lt
 have lT:=h.t.lt
 have lP:=h.p.lt
 have lR:=h.r.lt
 have lG:=h.g.lt
 have lA:=h.a.lt
 have Og:=n.lt
 have OI:=l.lt
 have F:(v.dst-1).toNat=b:=by omega
 refine Kent Tryd.func166 9 ?_
 -- region 0 draws
 refine jy [1,0,4,5,2,3,6,7] [4,0,4,0,0,0,0,3] [(7,0,[0]),(7,2,[2])] fun X k aa => ?_
 have V:Stp w.heap.size w X:=Sb k
 have⟨o,N,O,P,Q,R,S,T⟩:=BK k y D A C z x n l
 have s:=(rQ (xG m d) w).then V (.inr (rQ (xG m d) w).size)
 refine aY ((pf i 10))<|Rs ((pt d)) (aP S.aM 0) ?_
 refine aY ((pt d))<|aY ((pt d))<|Rs (au v.dst) (aP T.aM 10) ?_
 refine Rp (au b) (fun _=>iC)<|Rp ((pf d b)) (fun _=>vK 6 1)<|fU<|mX o b aI fun W U q z1 => ?_
 have H:aK W d 29 (mY { m with inn:=aV m.inn b true }) 93:=U.to (Km E _)
 have G:=jw q o.ty
 have⟨I,J,K,L,M⟩:=II G N O P Q R
 have u:=s.then q (.inl (.inl rfl))
 refine Ln (Rn (⟨.tuple #[],fG Tryd.results166,?_⟩))
 unfold CV; rw[F]
 exact⟨rfl,{ c:=H,t:=I,p:=J,r:=K,g:=L,a:=M,ne:=⟨f.mp,f.mr,f.mg,f.ma,f.pr,f.pg,f.pa,f.rg,f.ra,f.ga⟩,lB:=h.lB,pB:=h.pB,rB:=h.rB,gB:=h.gB,aB:=h.aB },u⟩
theorem Ht(m:dz)(b B:Nat)(w:World)(h:gZ w B b m)(v:EvM)(I:bX v=true)(j:Nat)(f:Nat)(n:aK w j 1 (fun _=>(pt b)) 44)(l:aK w f 14 (dJ v) 28) :
 Calls Tryd.prog 167 #[(pt j),(pt f)] w fun e w'=>e = .returned (.tuple #[])/\gZ w' B b (xH m v)/\iR (xG m b) w w':=by
 have z:=h.c
 have E:=h.t
 have C:=h.p
 have D:=h.r
 have A:=h.g
 have y:=h.a
 have d:=h.ne
 have lC:=h.c.lt
 have lT:=h.t.lt
 have lP:=h.p.lt
 have lR:=h.r.lt
 have lG:=h.g.lt
 have lA:=h.a.lt
 have Og:=n.lt
 have OI:=l.lt
 obtain⟨a,F,ho⟩ : ∃ a:Nat,a<6/\v.o=(a:Int)+1:=dO (gN I)
 have H:bA v=a:=by unfold bA; omega
 refine Kent Tryd.func167 9 ?_
 -- region 0 draws
 refine jy [1,0,4,5,2,3,6,7] [4,0,4,0,0,0,0,3] [(7,0,[0]),(7,2,[2])] fun Z k ig => ?_
 have X:Stp w.heap.size w Z:=Sb k
 have⟨q,P,Q,R,S,T,U,V⟩:=BK k z E C D A y n l
 have u:=(rQ (xG m b) w).then X (.inr (rQ (xG m b) w).size)
 refine aY ((pt f))<|Rs ((pt b)) (aP U.aM 0) ?_
 refine aY ((pt b))<|aY ((pf b 6))<|Rs (au v.o) (aP V.aM 0) ?_
 refine Rp (au a) (fun _=>iC)<|Rp ((pf b (a+6))) (fun _=>vK 6 1)<|fU<|mX q (a+6) aI fun Y W s z1 => ?_
 have J:aK Y b 29 (mY { m with left:=aV m.left a true }) 93:=W.to (Kn (i:=a) F (by omega) _)
 have G:=jw s q.ty
 have⟨K,L,M,N,O⟩:=II G P Q R S T
 have x:=u.then s (.inl (.inl rfl))
 refine Ln (Rn (⟨.tuple #[],fG Tryd.results167,?_⟩))
 unfold xH; rw[H]
 exact⟨rfl,{ c:=J,t:=K,p:=L,r:=M,g:=N,a:=O,ne:=⟨d.mp,d.mr,d.mg,d.ma,d.pr,d.pg,d.pa,d.rg,d.ra,d.ga⟩,lB:=h.lB,pB:=h.pB,rB:=h.rB,gB:=h.gB,aB:=h.aB },x⟩
theorem Hu(m:dz)(d B:Nat)(w:World)(h:gZ w B d m)(v:EvM)(hv:bX v=true)(Q:m.T.has v.node=true)(r:Nat->Int)(l:Nat)(k:Nat)(i:Nat)(hr:aK w l 54 (rv .i64 (r)) 82)(u:aK w k 1 (fun _=>(pt d)) 44)(q:aK w i 14 (dJ v) 28) :
 Calls Tryd.prog 156 #[(pt l),(pt k),(pt i)] w fun e w'=>e = .returned (.tuple #[])/\gZ w' B d (vG m v.node r)/\iR (xG m d) w w':=by
 have K:=h.c
 have P:=h.t
 have N:=h.p
 have O:=h.r
 have M:=h.g
 have J:=h.a
 have b:=h.ne
 have lC:=h.c.lt
 have lT:=h.t.lt
 have lP:=h.p.lt
 have lR:=h.r.lt
 have lG:=h.g.lt
 have lA:=h.a.lt
 have lgr:=hr.lt
 have Og:=u.lt
 have OI:=q.lt
 obtain⟨y,s,j⟩:=dV Q
 have I:m.idx v.node=y:=jg h.t.inv.inj s j
 refine Kent Tryd.func156 10 ?_
 -- region 0 draws
 refine jy [4,0,1,2,3,5,6,7] [4,0,0,4,0,4,4,3] [(7,0,[0]),(7,3,[3]),(7,5,[5]),(7,6,[6])] fun rE o ig => ?_
 have s1:Stp w.heap.size w rE:=Sb o
 have⟨z,m2,m3,A,m5,m6,C,D,E⟩:=zZ o K P N O M J hr u q
 have G:=(rQ (xG m d) w).then s1 (.inr (rQ (xG m d) w).size)
 refine aY ((pf i 9))<|Rs ((pt d)) (aP D.aM 0) ?_
 refine aY ((pt d))<|aY ((pf d 20))<|Rs (.map (some m.rb)) (aP z.aM 20) ?_
 refine Rs (aA v.node) (aP E.aM 9) ?_
 refine Rs (.agg (aC 54 (rv .i64 (r)))) (kg C.aM 0) ?_
 refine fU<|Fx.L.PW (by rfl) rfl rfl rfl rfl rfl A Tryd.underlying88 Tryd.underlying22 s j fun w1 S F z1 => ?_
 have f:=A.uG F
 have U:=z.bV f
 have V:=m2.bV f (b.mr)
 have W:=m3.bV f (b.pr)
 have X:=m5.bV f ((Ne.symm b.rg))
 have Y:=m6.bV f ((Ne.symm b.ra))
 have m16:=C.bV f
 have m17:=D.bV f
 have m18:=E.bV f
 have H:=G.then F (.inl (.inr (.inr (.inr (.inl rfl)))))
 have Z:Mp w1 m.rb m.T.n m.T.x (om (aH m.R y (r))):=vY _ _ _ _ S
 refine Ln (Rn (⟨.tuple #[],fG Tryd.results156,?_⟩))
 unfold vG; rw[I]
 exact⟨rfl,{ c:=U,t:=V,p:=W,r:=Z,g:=X,a:=Y,ne:=⟨b.mp,b.mr,b.mg,b.ma,b.pr,b.pg,b.pa,b.rg,b.ra,b.ga⟩,lB:=h.lB,pB:=h.pB,rB:=h.rB,gB:=h.gB,aB:=h.aB },H⟩
theorem KH(m:dz)(d B:Nat)(w:World)(h:gZ w B d m)(v:EvM)(hv:bX v=true)(Q:m.T.has v.node=true)(r:Nat->Int)(l:Nat)(k:Nat)(i:Nat)(hr:aK w l 54 (rv .i64 (r)) 82)(u:aK w k 1 (fun _=>(pt d)) 44)(q:aK w i 14 (dJ v) 28) :
 Calls Tryd.prog 165 #[(pt l),(pt k),(pt i)] w fun e w'=>e = .returned (.tuple #[])/\gZ w' B d (vG m v.node r)/\iR (xG m d) w w':=by
 have K:=h.c
 have P:=h.t
 have N:=h.p
 have O:=h.r
 have M:=h.g
 have J:=h.a
 have b:=h.ne
 have lC:=h.c.lt
 have lT:=h.t.lt
 have lP:=h.p.lt
 have lR:=h.r.lt
 have lG:=h.g.lt
 have lA:=h.a.lt
 have lgr:=hr.lt
 have Og:=u.lt
 have OI:=q.lt
 obtain⟨y,s,j⟩:=dV Q
 have I:m.idx v.node=y:=jg h.t.inv.inj s j
 refine Kent Tryd.func165 10 ?_
 -- region 0 draws
 refine jy [4,0,1,2,3,5,6,7] [4,0,0,4,0,4,4,3] [(7,0,[0]),(7,3,[3]),(7,5,[5]),(7,6,[6])] fun rE o ig => ?_
 have s1:Stp w.heap.size w rE:=Sb o
 have⟨z,m2,m3,A,m5,m6,C,D,E⟩:=zZ o K P N O M J hr u q
 have G:=(rQ (xG m d) w).then s1 (.inr (rQ (xG m d) w).size)
 refine aY ((pf i 9))<|Rs ((pt d)) (aP D.aM 0) ?_
 refine aY ((pt d))<|aY ((pf d 20))<|Rs (.map (some m.rb)) (aP z.aM 20) ?_
 refine Rs (aA v.node) (aP E.aM 9) ?_
 refine Rs (.agg (aC 54 (rv .i64 (r)))) (kg C.aM 0) ?_
 refine fU<|Fx.L.PW (by rfl) rfl rfl rfl rfl rfl A Tryd.underlying88 Tryd.underlying22 s j fun w1 S F z1 => ?_
 have f:=A.uG F
 have U:=z.bV f
 have V:=m2.bV f (b.mr)
 have W:=m3.bV f (b.pr)
 have X:=m5.bV f ((Ne.symm b.rg))
 have Y:=m6.bV f ((Ne.symm b.ra))
 have m16:=C.bV f
 have m17:=D.bV f
 have m18:=E.bV f
 have H:=G.then F (.inl (.inr (.inr (.inr (.inl rfl)))))
 have Z:Mp w1 m.rb m.T.n m.T.x (om (aH m.R y (r))):=vY _ _ _ _ S
 refine Ln (Rn (⟨.tuple #[],fG Tryd.results165,?_⟩))
 unfold vG; rw[I]
 exact⟨rfl,{ c:=U,t:=V,p:=W,r:=Z,g:=X,a:=Y,ne:=⟨b.mp,b.mr,b.mg,b.ma,b.pr,b.pg,b.pa,b.rg,b.ra,b.ga⟩,lB:=h.lB,pB:=h.pB,rB:=h.rB,gB:=h.gB,aB:=h.aB },H⟩
set_option maxRecDepth 20000
namespace Rt
theorem F4{v:EvM}(h:bX v=true)(c:v.kind=5) : ∃ b:Nat,b<6/\v.dst=(b:Int)+1:=by
 unfold bX at h
 simp only[Bool.and_eq_true]at h
 have a:=h.2
 unfold iJ at a
 rw[if_neg (by omega),if_neg (by omega),if_neg (by omega),if_neg (by omega),if_pos c]at a
 unfold wX at a
 simp only[Bool.and_eq_true]at a
 exact dO a.2.1
end Rt
theorem QS(x:Nat->Int)(i j n:Int)(w:World)(hi:1<=i/\i<=6)(a:1<=j/\j<=6) :
 Calls Tryd.prog 164 #[.agg (aC 54 (rv .i64 x)),au i,au j,au n] w fun e w'=>e = .returned (.tuple #[.agg (aC 54 (rv .i64 (fF x i j n).1)),au (fF x i j n).2])/\Below w.heap.size w w' :=
 J3 x i j n w (by omega) (by omega)
theorem QT(x:Nat->Int)(i n:Int)(w:World)(hi:1<=i/\i<=6) :
 Calls Tryd.prog 159 #[.agg (aC 54 (rv .i64 x)),au i,au n] w fun e w'=>e = .returned (.tuple #[.agg (aC 54 (rv .i64 (bK x i n).1)),au (bK x i n).2])/\Below w.heap.size w w' :=
 JX x i n w (by omega)
theorem QU(x:Nat->Int)(i n:Int)(w:World)(hi:1<=i/\i<=6) :
 Calls Tryd.prog 162 #[.agg (aC 54 (rv .i64 x)),au i,au n] w fun e w'=>e = .returned (.tuple #[.agg (aC 54 (rv .i64 (bF x i n).1)),au (bF x i n).2])/\Below w.heap.size w w' :=
 J2 x i n w (by omega)
theorem KI(m:dz)(k B:Nat)(w:World)(h:gZ w B k m)(v:EvM)(O:bX v=true)(hkd:v.kind=2)(hRb : ∀ i,i<m.T.n -> ∀ p,p<54->0<=m.R i p/\m.R i p<=1125899906842624) :
 Calls Tryd.prog 146 #[(pt k),.agg (aC 14 (dJ v))] w fun e w'=>Ie w B k m (qY m v) (jh m v) e w':=by
 have hC:=h.c
 have hT:=h.t
 have hP:=h.p
 have hR:=h.r
 have hG:=h.g
 have hA:=h.a
 have hN:=h.ne
 have lC:=h.c.lt
 have lT:=h.t.lt
 have lP:=h.p.lt
 have lR:=h.r.lt
 have lG:=h.g.lt
 have lA:=h.a.lt
 obtain⟨a,ha,ho⟩ : ∃ a:Nat,a<6/\v.o=(a:Int)+1:=dO (gN O)
 have N:bA v=a:=by unfold bA; omega
 refine Kent Tryd.func146 39 ?_
 refine ay<|nZ ((pt k)) fun q w1 rF P s1 z1 => ?_
 have⟨m2,m4,m5,m6,m7,X⟩:=wG s1.old hC hP hR hG hA (Below.refl w.heap.size w)
 have xW:=gP rF
 have⟨mJ,qK,uP,uQ,uR⟩:=tC rF hC.lt hP.lt hR.lt hG.lt hA.lt
 have yC:=P.lt
 refine rR fun f w2 zy m8 s2 z2 => ?_
 have⟨m9,m11,m12,m13,m14,m15,b2⟩:=DY s2.old m2 m4 m5 m6 m7 P X
 have Bo:=iT zy X.size
 have⟨F5,xI,AU,xJ,xK,tQ⟩:=BL zy m2.lt m4.lt m5.lt m6.lt m7.lt P.lt
 have Dy:=m8.lt
 refine av (.nilFunc)<|av (au 0)<|aD<|Ws ?_
 -- region 1 draws
 refine jy [4,0,1,2,3,5,6,7,8,9,10,11,12] [1,0,0,1,0,1,1,0,0,0,2,3,0] [(11,0,[0]),(11,3,[3]),(11,5,[5]),(11,6,[6]),(11,10,[10]),(12,10,[10]),(12,11,[11])] fun rE gL ig => ?_
 have⟨F,m18,G,m20,m21,u,y,A⟩:=BK gL m9 m11 m12 m13 m14 m15 m8 b2
 refine aY ((pf f 9))<|Rd (v:=(pt k)) (by rfl) (by rfl) (qh _) (fun H j=>bC (x:=fun _=>(pt k)) rfl rfl (by kernel_rfl) (u.aM.below j (by have:=u.lt; omega)) (i:=0) (by omega) (by omega) rfl) ?_
 refine aY ((pt k))<|aY ((pf k 20))<|Rd (v := .map (some m.rb)) (by rfl) (by rfl) (qh _) (fun H j=>bC (x:=mY m) rfl rfl (by kernel_rfl) (F.aM.below j (by have:=F.lt; omega)) (i:=20) (by omega) (by omega) rfl) ?_
 refine Rd (v:=aA v.node) (by rfl) (by rfl) (qh _) (fun H j=>bC (x:=dJ v) rfl rfl (by kernel_rfl) (y.aM.below j (by have:=y.lt; omega)) (i:=9) (by omega) (by omega) rfl) ?_
 rcases Fx.kL m.T.x m.T.n v.node with ⟨b,E,K⟩|fE
 ·refine Rd (v := .tuple #[.agg (aC 54 (rv .i64 (m.R b))),.bool true]) (by rfl) (by rfl) (qh _) (fun H j=>Fx.wJ (z := .agg (aC 54 (rv .i64 (fun _=>0)))) rfl rfl rfl (G.up j) Tryd.underlying88 Tryd.underlying22 (by kernel_rfl) E K rfl) ?_
  refine aY (.tuple #[.agg (aC 54 (rv .i64 (m.R b))),.bool true])<|aY (.agg (aC 54 (rv .i64 (m.R b))))<|aY aI<|IG<|oo 54 (rv .i64 (fun _=>0)) fun d w3 F6 Q s4 z3 => ?_
  have⟨oq,m32,Y⟩:=kI s4.old u y A
  have I6:=iT F6 A.size
  have⟨EG,EH,KJ,KL,KM,QV,QW⟩:=D5 F6 F.lt m18.lt G.lt m20.lt m21.lt u.lt y.lt
  have KD:=Q.lt
  refine Ln ⟨s4.old,?_⟩
  refine fU<|gU Q 0 fun w4 qE s5 z4 => ?_
  have ou:aK w4 d 54 (rv .i64 (m.R b)) 82:=aS qE
  have iZ:=jw s5 Q.ty
  have⟨tO,xX⟩:=PS iZ oq m32
  have b5:=s5.below Y Y.size (by omega)
  refine Ln<|aY aI<|bD<|Ws<|ay<|av aI<|av aF<|aD<|aN<|Wk<|sN<|Ws<|Ws ?_
  have L:m.idx v.node=b:=jg h.t.inv.inj E K
  have s:m.T.has v.node=true:=fO E K
  have q1:=hRb b E a (by omega)
  have q2:=qU O (.inl hkd)
  -- region 4 draws
  refine jy [0,3,6,9,1,2,4,5,7,8,10,11] [0,4,0,0,0,4,0,4,0,0,0,3] [(11,1,[1]),(11,5,[5]),(11,7,[7])] fun Dv kM oK => ?_
  have⟨xY,S,U,Z⟩:=jY kM tO xX ou b5
  refine aY ((pt f))<|aY ((pt d))<|aY ((pf f 11))<|aY ((pt d))<|Rs (au v.o) (aP S.aM 0) ?_
  refine Rp (au a) (fun _=>iC)<|Rp ((pf d a)) (fun _=>vK 6 1)<|Rs (au ((m.R b) a)) (aP U.aM a) ?_
  refine Rs (au v.bI) (aP S.aM 11) ?_
  refine Rp (au (((m.R b) a)+v.bI)) (fun _=>gD)<|Rp ((pf d a)) (fun _=>vK 6 1)<|fU<|mX U a (au (((m.R b) a)+v.bI)) fun w5 Ah s7 z5 => ?_
  have V:aK w5 d 54 (rv .i64 (upd (m.R b) a (((m.R b) a)+v.bI))) 82:=Ah.to (Fx.zP _ _ _ _)
  have oL:=jw s7 U.ty
  have⟨qF,W⟩:=PS oL xY S
  have I:=s7.below Z Z.size (by omega)
  refine Ln<|bD<|ay<|av ((pt f))<|Lv (au v.o) (aP W.aM 0)<|Lv (au a) iC<|av ((pt d))<|Lv ((pf d a)) (vK 6 1)<|Lv (au ((upd (m.R b) a (((m.R b) a)+v.bI)) a)) (aP V.aM a) ?_
  by_cases C:140737488355328<((upd (m.R b) a (((m.R b) a)+v.bI)) a)
  ·refine Lv aI (BH C)<|aD<|aT<|ay<|av (.nilFunc)<|av (au 6)<|aD<|Wr<|sR<|aL (.tuple #[.nilFunc,au 6]) ?_
   have l:jh m v=6:=by unfold jh; rw[if_neg (by rw[s]; decide)]; exact if_pos (by rw[L,N]; simpa [upd] using C)
   exact⟨⟨.nilFunc,0,#[],by rw[l],rfl,fun J=>absurd (l.symm.trans J) (by first|decide|omega|assumption)⟩,I⟩
  refine Lv aF (BI C)<|aD<|aN<|Wk<|sN<|ay<|Lv (.func (.func 156) #[] #[(pt d),(pt q),(pt f)]) (Fx.iK (us := []) (vs := [(pt d),(pt q),(pt f)]) rfl rfl rfl)<|av (.func (.func 156) #[] #[(pt d),(pt q),(pt f)])<|av (au 0)<|aD<|Wr<|aL (.tuple #[.func (.func 156) #[] #[(pt d),(pt q),(pt f)],au 0]) ?_
  have em:qY m v=vG m v.node (upd (m.R b) a (m.R b a+v.bI)):=by unfold qY; rw[L,N]
  rw[em]
  have l:jh m v=0:=by unfold jh; rw[if_neg (by rw[s]; decide)]; exact if_neg (by rw[L,N]; simpa [upd] using C)
  exact⟨⟨_,156,#[(pt d),(pt q),(pt f)],by rw[l],rfl,fun _=>⟨rfl,⟨_,_,Tryd.func156,rfl,rfl⟩,fun w2 D=>(Hu m k B w2 ((h.up I).up D) v O s _ _ _ _ (V.dX (Sb D) (Nat.ne_of_lt V.lt)) (qF.dX (Sb D) (Nat.ne_of_lt qF.lt)) (W.dX (Sb D) (Nat.ne_of_lt W.lt))).mono fun _ _ M=>⟨M.1,M.2.1,M.2.2.mono fun _ s => .inl s⟩⟩⟩,I⟩
 refine Rd (v := .tuple #[.agg (aC 54 (rv .i64 (fun _=>0))),.bool false]) (by rfl) (by rfl) (qh _) (fun H j=>Fx.wI (z := .agg (aC 54 (rv .i64 (fun _=>0)))) rfl rfl rfl (G.up j) Tryd.underlying88 Tryd.underlying22 (by kernel_rfl) fE) ?_
 refine aY (.tuple #[.agg (aC 54 (rv .i64 (fun _=>0))),.bool false])<|aY (.agg (aC 54 (rv .i64 (fun _=>0))))<|aY aF<|IG<|oo 54 (rv .i64 (fun _=>0)) fun g4 w6 Ia qG s8 z6 => ?_
 have b8:=aQ s8.old A
 have MX:=iT Ia A.size
 have⟨Xf,Xg,QX,QY,QZ,Q0,Q5⟩:=D5 Ia F.lt m18.lt G.lt m20.lt m21.lt u.lt y.lt
 have L8:=qG.lt
 refine Ln ⟨s8.old,?_⟩
 refine fU<|gU qG 0 fun w7 wW s9 z7 => ?_
 have Ai:aK w7 g4 54 (rv .i64 (fun _=>0)) 82:=aS wW
 have b9:=s9.below b8 b8.size (by omega)
 refine Ln<|aY aF<|bD<|Ws<|ay<|av aF<|av aI<|aD<|aT<|ay<|av (.nilFunc)<|av (au 9)<|aD<|Wr<|sR<|aL (.tuple #[.nilFunc,au 9]) ?_
 have l:jh m v=9:=by unfold jh; exact if_pos (pR fE)
 exact⟨⟨.nilFunc,0,#[],by rw[l],rfl,fun J=>absurd (l.symm.trans J) (by first|decide|omega|assumption)⟩,b9⟩
theorem M0(m:dz)(f B:Nat)(w:World)(h:gZ w B f m)(v:EvM)(S:bX v=true)(hkd:v.kind=5) :
 Calls Tryd.prog 149 #[(pt f),.agg (aC 14 (dJ v))] w fun e w'=>Ie w B f m (CU m v) (jG m v) e w':=by
 have hC:=h.c
 have hT:=h.t
 have hP:=h.p
 have hR:=h.r
 have hG:=h.g
 have hA:=h.a
 have hN:=h.ne
 have lC:=h.c.lt
 have lT:=h.t.lt
 have lP:=h.p.lt
 have lR:=h.r.lt
 have lG:=h.g.lt
 have lA:=h.a.lt
 obtain⟨a,ha,ho⟩ : ∃ a:Nat,a<6/\v.o=(a:Int)+1:=dO (gN S)
 have hra:bA v=a:=by unfold bA; omega
 obtain⟨b,hb,hd⟩:=F4 S hkd
 have O:(v.dst-1).toNat=b:=by omega
 refine Kent Tryd.func149 47 ?_
 refine ay<|nZ ((pt f)) fun A w1 rF U s1 z1 => ?_
 have⟨m2,m4,m5,m6,m7,W⟩:=wG s1.old hC hP hR hG hA (Below.refl w.heap.size w)
 have xW:=gP rF
 have⟨mJ,qK,uP,uQ,uR⟩:=tC rF hC.lt hP.lt hR.lt hG.lt hA.lt
 have yC:=U.lt
 refine rR fun j w2 zy m8 s2 z2 => ?_
 have⟨m9,m11,m12,m13,m14,m15,b2⟩:=DY s2.old m2 m4 m5 m6 m7 U W
 have Bo:=iT zy W.size
 have⟨F5,xI,AU,xJ,xK,tQ⟩:=BL zy m2.lt m4.lt m5.lt m6.lt m7.lt U.lt
 have Dy:=m8.lt
 refine av (.nilFunc)<|av (au 0)<|aD<|Ws ?_
 -- region 1 draws
 refine jy [4,0,1,2,3,5,6,7,8,9,10,11,12] [1,0,0,1,0,1,1,0,0,0,2,3,0] [(11,0,[0]),(11,3,[3]),(11,5,[5]),(11,6,[6]),(11,10,[10]),(12,10,[10]),(12,11,[11])] fun rE gL ig => ?_
 have⟨C,m18,J,m20,m21,D,E,G⟩:=BK gL m9 m11 m12 m13 m14 m15 m8 b2
 refine aY ((pf j 9))<|Rd (v:=(pt f)) (by rfl) (by rfl) (qh _) (fun K l=>bC (x:=fun _=>(pt f)) rfl rfl (by kernel_rfl) (D.aM.below l (by have:=D.lt; omega)) (i:=0) (by omega) (by omega) rfl) ?_
 refine aY ((pt f))<|aY ((pf f 20))<|Rd (v := .map (some m.rb)) (by rfl) (by rfl) (qh _) (fun K l=>bC (x:=mY m) rfl rfl (by kernel_rfl) (C.aM.below l (by have:=C.lt; omega)) (i:=20) (by omega) (by omega) rfl) ?_
 refine Rd (v:=aA v.node) (by rfl) (by rfl) (qh _) (fun K l=>bC (x:=dJ v) rfl rfl (by kernel_rfl) (E.aM.below l (by have:=E.lt; omega)) (i:=9) (by omega) (by omega) rfl) ?_
 rcases Fx.kL m.T.x m.T.n v.node with ⟨d,Q,N⟩|fE
 ·refine Rd (v := .tuple #[.agg (aC 54 (rv .i64 (m.R d))),.bool true]) (by rfl) (by rfl) (qh _) (fun K l=>Fx.wJ (z := .agg (aC 54 (rv .i64 (fun _=>0)))) rfl rfl rfl (J.up l) Tryd.underlying88 Tryd.underlying22 (by kernel_rfl) Q N rfl) ?_
  refine aY (.tuple #[.agg (aC 54 (rv .i64 (m.R d))),.bool true])<|aY (.agg (aC 54 (rv .i64 (m.R d))))<|aY aI<|IG<|oo 54 (rv .i64 (fun _=>0)) fun q w3 F6 V s4 z3 => ?_
  have⟨rG,oq,m32,X⟩:=jY s4.old C D E G
  have I6:=iT F6 G.size
  have⟨EG,EH,KJ,KL,KM,QV,QW⟩:=D5 F6 C.lt m18.lt J.lt m20.lt m21.lt D.lt E.lt
  have KD:=V.lt
  refine Ln ⟨s4.old,?_⟩
  refine fU<|gU V 0 fun w4 qE s5 z4 => ?_
  have ou:aK w4 q 54 (rv .i64 (m.R d)) 82:=aS qE
  have iZ:=jw s5 V.ty
  have⟨sU,tO,xX⟩:=Gy iZ rG oq m32
  have b5:=s5.below X X.size (by omega)
  refine Ln<|aY aI<|bD<|Ws<|Wb<|ay<|av aI<|av aF<|av aF<|aD<|aN<|Ws ?_
  have ex:m.idx v.node=d:=jg h.t.inv.inj Q N
  have u:m.T.has v.node=true:=fO Q N
  -- region 4 draws
  refine jy [1,0,4,5,2,3,6,7,8,9] [4,0,4,0,0,0,0,4,0,0] [] fun Dv kM oK => ?_
  have⟨sV,xY,F,Bh,Y⟩:=ql kM sU tO xX ou b5
  refine aY ((pf j 10))<|Rs ((pt f)) (aP xY.aM 0) ?_
  refine aY ((pt f))<|aY ((pt f))<|Rs (au v.dst) (aP F.aM 10) ?_
  refine Rp (au b) (fun _=>iC)<|Rp ((pf f b)) (fun _=>vK 6 1) ?_
  by_cases s:(m.inn b)=true
  ·refine Rs aI (aP sV.aM b ((xB (by omega)).trans (congrArg Value.bool s))) ?_
   refine aY aF<|aY aF<|bD<|aN<|Wk<|dA<|sN<|ay<|Lv (.agg (aC 54 (rv .i64 (m.R d)))) (kg Bh.aM 0)<|av ((pt j))<|Lv (au v.o) (aP F.aM 0)<|av ((pf j 10))<|Lv (au v.dst) (aP F.aM 10)<|av ((pf j 11))<|Lv (au v.bI) (aP F.aM 11)<|eG (QS (m.R d) v.o v.dst v.bI _ (by omega) (by omega)) _ rfl ?_
   intro w5 hb1
   have⟨vP,Bj,qF,Z⟩:=jY hb1 xY F Bh Y
   refine av (.tuple #[.agg (aC 54 (rv .i64 ((fF (m.R d) v.o v.dst v.bI).1))),au ((fF (m.R d) v.o v.dst v.bI).2)])<|av (.agg (aC 54 (rv .i64 ((fF (m.R d) v.o v.dst v.bI).1))))<|av (au ((fF (m.R d) v.o v.dst v.bI).2))<|gU qF 0 fun w6 yE s8 z5 => ?_
   have qG:aK w6 q 54 (rv .i64 ((fF (m.R d) v.o v.dst v.bI).1)) 82:=aS yE
   have oL:=jw s8 qF.ty
   have⟨yg,Bn⟩:=PS oL vP Bj
   have L:=s8.below Z Z.size (by omega)
   refine av (au ((fF (m.R d) v.o v.dst v.bI).2))<|aD<|Ws<|ay<|av (au ((fF (m.R d) v.o v.dst v.bI).2)) ?_
   by_cases M:((fF (m.R d) v.o v.dst v.bI).2)=0
   ·refine Lv aF (qP M)<|aD<|aN<|Wk<|sN<|ay<|Lv (.func (.func 165) #[] #[(pt q),(pt A),(pt j)]) (Fx.iK (us := []) (vs := [(pt q),(pt A),(pt j)]) rfl rfl rfl)<|av (.func (.func 165) #[] #[(pt q),(pt A),(pt j)])<|av (au 0)<|aD<|Wr<|aL (.tuple #[.func (.func 165) #[] #[(pt q),(pt A),(pt j)],au 0]) ?_
    have H:nK m v=fF (m.R d) v.o v.dst v.bI:=by unfold nK; rw[ex]
    show Ie w B f m (vG m v.node (nK m v).1) _ _ _
    rw[H]
    have k:jG m v=0:=by unfold jG; rw[if_neg (by rw[u]; decide),if_neg (by rw[O,s]; decide),H]; exact M
    exact⟨⟨_,165,#[(pt q),(pt A),(pt j)],by rw[k],rfl,fun _=>⟨rfl,⟨_,_,Tryd.func165,rfl,rfl⟩,fun w2 I=>(KH m f B w2 ((h.up L).up I) v S u _ _ _ _ (qG.dX (Sb I) (Nat.ne_of_lt qG.lt)) (yg.dX (Sb I) (Nat.ne_of_lt yg.lt)) (Bn.dX (Sb I) (Nat.ne_of_lt Bn.lt))).mono fun _ _ P=>⟨P.1,P.2.1,P.2.2.mono fun _ u => .inl u⟩⟩⟩,L⟩
   refine Lv aI (tu M)<|aD<|aT<|ay<|av (au ((fF (m.R d) v.o v.dst v.bI).2))<|av (.nilFunc)<|av (au ((fF (m.R d) v.o v.dst v.bI).2))<|aD<|Wr<|sR<|aL (.tuple #[.nilFunc,au ((fF (m.R d) v.o v.dst v.bI).2)]) ?_
   have H:nK m v=fF (m.R d) v.o v.dst v.bI:=by unfold nK; rw[ex]
   have k:jG m v=(fF (m.R d) v.o v.dst v.bI).2:=by unfold jG; rw[if_neg (by rw[u]; decide),if_neg (by rw[O,s]; decide),H]
   exact⟨⟨.nilFunc,0,#[],by rw[k],rfl,fun y=>absurd (k.symm.trans y) (by first|decide|omega|assumption)⟩,L⟩
  rw[Bool.not_eq_true]at s
  refine Rs aF (aP sV.aM b ((xB (by omega)).trans (congrArg Value.bool s))) ?_
  refine aY aI<|aY aI<|bD<|aT<|ay<|av (.nilFunc)<|av (au 10)<|aD<|Wr<|bU<|sR<|aL (.tuple #[.nilFunc,au 10]) ?_
  have k:jG m v=10:=by unfold jG; rw[if_neg (by rw[u]; decide)]; exact if_pos (by rw[O]; exact s)
  exact⟨⟨.nilFunc,0,#[],by rw[k],rfl,fun y=>absurd (k.symm.trans y) (by first|decide|omega|assumption)⟩,Y⟩
 refine Rd (v := .tuple #[.agg (aC 54 (rv .i64 (fun _=>0))),.bool false]) (by rfl) (by rfl) (qh _) (fun K l=>Fx.wI (z := .agg (aC 54 (rv .i64 (fun _=>0)))) rfl rfl rfl (J.up l) Tryd.underlying88 Tryd.underlying22 (by kernel_rfl) fE) ?_
 refine aY (.tuple #[.agg (aC 54 (rv .i64 (fun _=>0))),.bool false])<|aY (.agg (aC 54 (rv .i64 (fun _=>0))))<|aY aF<|IG<|oo 54 (rv .i64 (fun _=>0)) fun g4 w7 Ia wW s9 z6 => ?_
 have b9:=aQ s9.old G
 have MX:=iT Ia G.size
 have⟨Q6,Xh,Q7,Xi,Q8,Q9,Ra⟩:=D5 Ia C.lt m18.lt J.lt m20.lt m21.lt D.lt E.lt
 have L8:=wW.lt
 refine Ln ⟨s9.old,?_⟩
 refine fU<|gU wW 0 fun w8 Aj s10 z7 => ?_
 have yZ:aK w8 g4 54 (rv .i64 (fun _=>0)) 82:=aS Aj
 have b10:=s10.below b9 b9.size (by omega)
 refine Ln<|aY aF<|bD<|Ws<|Wb<|ay<|av aF<|av aI<|av aI<|aD<|aT<|ay<|av (.nilFunc)<|av (au 9)<|aD<|Wr<|bU<|sR<|aL (.tuple #[.nilFunc,au 9]) ?_
 have k:jG m v=9:=by unfold jG; exact if_pos (pR fE)
 exact⟨⟨.nilFunc,0,#[],by rw[k],rfl,fun y=>absurd (k.symm.trans y) (by first|decide|omega|assumption)⟩,b10⟩
theorem M4(m:dz)(i B:Nat)(w:World)(h:gZ w B i m)(v:EvM)(J:bX v=true)(b:Nat)(G:b<6)(H:v.dst=(b:Int)+1) :
 Calls Tryd.prog 150 #[(pt i),.agg (aC 14 (dJ v))] w fun e w'=>Ie w B i m (CV m v) (0) e w':=by
 have y:=h.c
 have S:=h.t
 have A:=h.p
 have C:=h.r
 have z:=h.g
 have x:=h.a
 have R:=h.ne
 have U:=h.c.lt
 have Y:=h.t.lt
 have W:=h.p.lt
 have X:=h.r.lt
 have V:=h.g.lt
 have T:=h.a.lt
 refine Kent Tryd.func150 7 ?_
 refine ay<|nZ ((pt i)) fun d w1 s l P z1 => ?_
 have⟨K,L,M,N,O,o⟩:=wG P.old y A C z x (Below.refl w.heap.size w)
 have Z:=gP s
 have⟨ab,ac,ad,ae,af⟩:=tC s y.lt A.lt C.lt z.lt x.lt
 have am:=l.lt
 refine rR fun f E u n Q z2 => ?_
 have⟨D,q⟩:=fV Q.old l o
 have aa:=iT u o.size
 have⟨al,ag,ah,ai,aj,ak⟩:=BL u K.lt L.lt M.lt N.lt O.lt l.lt
 have an:=n.lt
 refine av (.nilFunc)<|av (au 0)<|aD<|ay<|Lv (.func (.func 166) #[] #[(pt d),(pt f)]) (Fx.iK (us := []) (vs := [(pt d),(pt f)]) rfl rfl rfl)<|av (.func (.func 166) #[] #[(pt d),(pt f)])<|av (au 0)<|aD<|Wr<|aL (.tuple #[.func (.func 166) #[] #[(pt d),(pt f)],au 0]) ?_
 have F:(0:Int)=0:=rfl
 exact⟨⟨_,166,#[(pt d),(pt f)],by rw[F],rfl,fun _=>⟨rfl,⟨_,_,Tryd.func166,rfl,rfl⟩,fun E j=>(KG m i B E ((h.up q).up j) v J b G H _ _ (D.dX (Sb j) (Nat.ne_of_lt D.lt)) (n.dX (Sb j) (Nat.ne_of_lt n.lt))).mono fun _ _ k=>⟨k.1,k.2.1,k.2.2.mono fun _ I => .inl I⟩⟩⟩,q⟩
theorem KN(m:dz)(f B:Nat)(w:World)(h:gZ w B f m)(v:EvM)(G:bX v=true) :
 Calls Tryd.prog 151 #[(pt f),.agg (aC 14 (dJ v))] w fun e w'=>Ie w B f m (xH m v) (0) e w':=by
 have x:=h.c
 have P:=h.t
 have z:=h.p
 have A:=h.r
 have y:=h.g
 have u:=h.a
 have O:=h.ne
 have R:=h.c.lt
 have V:=h.t.lt
 have T:=h.p.lt
 have U:=h.r.lt
 have S:=h.g.lt
 have Q:=h.a.lt
 refine Kent Tryd.func151 7 ?_
 refine ay<|nZ ((pt f)) fun b w1 q k M z1 => ?_
 have⟨H,I,J,K,L,n⟩:=wG M.old x z A y u (Below.refl w.heap.size w)
 have W:=gP q
 have⟨Y,Z,aa,ab,ac⟩:=tC q x.lt z.lt A.lt y.lt u.lt
 have aj:=k.lt
 refine rR fun d D s l N z2 => ?_
 have⟨C,o⟩:=fV N.old k n
 have X:=iT s n.size
 have⟨ai,ad,ae,af,ag,ah⟩:=BL s H.lt I.lt J.lt K.lt L.lt k.lt
 have ak:=l.lt
 refine av (.nilFunc)<|av (au 0)<|aD<|ay<|Lv (.func (.func 167) #[] #[(pt b),(pt d)]) (Fx.iK (us := []) (vs := [(pt b),(pt d)]) rfl rfl rfl)<|av (.func (.func 167) #[] #[(pt b),(pt d)])<|av (au 0)<|aD<|Wr<|aL (.tuple #[.func (.func 167) #[] #[(pt b),(pt d)],au 0]) ?_
 have E:(0:Int)=0:=rfl
 exact⟨⟨_,167,#[(pt b),(pt d)],by rw[E],rfl,fun _=>⟨rfl,⟨_,_,Tryd.func167,rfl,rfl⟩,fun D i=>(Ht m f B D ((h.up o).up i) v G _ _ (C.dX (Sb i) (Nat.ne_of_lt C.lt)) (l.dX (Sb i) (Nat.ne_of_lt l.lt))).mono fun _ _ j=>⟨j.1,j.2.1,j.2.2.mono fun _ F => .inl F⟩⟩⟩,o⟩
section
open Rt
set_option maxRecDepth 10000
-- SE.Same is not in this seat
theorem Xj(o q:Nat)(w:World)(a:1<=o/\o<=6)(c:1<=q/\q<1099511627776) :
 Calls Tryd.prog 152 #[au ((o:Int)),aA ((q:Int))] w fun e w'=>e = .returned (aA (1099511627776*(o:Int)+(q:Int)))/\w'=w:=by
 refine Kent Tryd.func152 24 ?_
 refine ay<|av (aA 0)<|aD<|Ws<|ay<|av (au o)<|Lv aF BJ<|av aF<|av (au o)<|Lv aF qx<|av aF<|av aF<|av (aA q)<|Lv aF BJ<|av aF<|av aF<|av (aA q)<|Lv aF yN<|av aF<|aD<|aN<|Wk<|sN<|ay<|av (au o)<|Lv (aA o) (eO rfl rfl (by kernel_rfl) Tryd.underlying22 (jv (by omega) rfl))<|Lv (aA (1099511627776*(o:Int))) (Fx.Fb (b:=40) rfl rfl rfl (by decide) (jv (by omega) (by omega)))<|av (aA q)<|Lv (aA (1099511627776*(o:Int)+(q:Int))) (Fx.QC rfl rfl rfl (by omega) (by omega))<|av (aA (1099511627776*(o:Int)+(q:Int)))<|aD<|Wr<|aL (aA (1099511627776*(o:Int)+(q:Int))) ?_
 exact⟨rfl,rfl⟩
end
end Go.Proofs.YtahbiajdgealnaaDoor
namespace Go.Proofs.YtahbiajdgealnaaDoor
open Go.RowKit Go
set_option linter.unusedVariables false
namespace Rt
theorem uh : ∀(n m:Nat) (f:Nat->Nat),(∀ i,i<m->f i<n)->(∀ i j,i<m->j<m->f i=f j->i=j)->m<=n
 | 0,m,f,h1,_=>by
   rcases Nat.eq_zero_or_pos m with h|h
   ·omega
   ·have:=h1 0 h; omega
 | n+1,m,f,h1,h2=>by
   rcases Nat.eq_zero_or_pos m with h|h
   ·omega
   by_cases d : ∃ a,a<m/\f a=n
   ·obtain⟨a,b,e⟩:=d
    have:=uh n (m-1) (fun j=>f (if j=a then m-1 else j)) (fun j o=>by
     have g:=h1 (if j=a then m-1 else j) (by split <;> omega)
     have k:f (if j=a then m-1 else j)≠n:=fun c=>by
      have:=h2 _ a (by split <;> omega) b (c.trans e.symm)
      split at this <;> omega
     show f _<n
     omega) (fun i j l p c=>by
     have:=h2 _ _ (by split <;> omega) (by split <;> omega) c
     split at this <;> split at this <;> omega)
    omega
   ·have:=uh n m f (fun i b=>by
     have:=h1 i b
     have:f i≠n:=fun e=>d ⟨i,b,e⟩
     omega) h2
    omega
section
variable {T U:bW} {id pa k:Int} {i:Nat}
theorem bW.vZ(h:T.err id pa=0):T.add id pa=T.put id pa:=if_pos h
theorem bW.Rb(h : ¬ T.err id pa=0):T.add id pa=T:=if_neg h
theorem bW.sI(hi:i<T.n):T.has (T.x i)=true:=fO hi rfl
theorem bW.CW(h:T.ok)(hi:i<T.n):T.par (T.x i)=T.p i:=vL h.inj hi rfl
theorem bW.step(h:T.ok)(a:T.has k=true):T.path k=k::T.path (T.par k):=by
 have b:fD T.x T.p T.n 3 (T.par k):=h.stop k a
 show(if bZ T.x T.n k=true then k::fP T.x T.p T.n 3 (T.par k)else [])=_
 rw[if_pos (show bZ T.x T.n k=true from a),<- (Ad b (show 3<=4 by omega)).1]; rfl
theorem bW.Rc(h:T.ok)(hi:i<T.n):T.path (T.x i)=T.x i::T.path (T.p i):=by rw[bW.step h (bW.sI hi),bW.CW h hi]
theorem bW.sJ:(T.path k).length<=4:=pU
theorem bW.Rf(h:T.ok):T.path 0 = []:=tJ.Tj h 4
theorem mK.zero(T:bW):mK bW.zero T:=⟨fun _ h=>(nomatch h),fun _ h=>(nomatch h)⟩
theorem mK.path(b:T.ok)(a:U.ok)(h:mK U T) : ∀(d:Nat) (k:Int),(k=0\/U.has k=true)->fP U.x U.p U.n d k=fP T.x T.p T.n d k
 | 0,_,_=>rfl
 | d+1,k,hk=>by
   rcases hk with rfl|hk
   ·rw[iA (tJ.PZ a),iA (tJ.PZ b)]
   ·unfold fP
    have c:bZ U.x U.n k=true:=hk
    have e:bZ T.x T.n k=true:=h.has k hk
    have f:eP U.x U.p U.n k=eP T.x T.p T.n k:=h.par k hk
    rw[if_pos c,if_pos e,<- f,mK.path b a h d]
    exact tJ.up a hk
theorem mK.lt(s:U.ok)(h:mK U T)(hi:i<T.n)(m:U.has (T.x i)=false):U.n<T.n:=by
 have p : ∀ j,∃ q,j<U.n->q<T.n/\T.x q=U.x j:=fun j=>by
  by_cases g:j<U.n
  ·obtain⟨q,c,d⟩:=dV (h.has _ (bW.sI g))
   exact⟨q,fun _=>⟨c,d⟩⟩
  ·exact⟨0,fun h=>absurd h g⟩
 obtain⟨f,k⟩:=Classical.axiomOfChoice p
 have:=uh T.n (U.n+1) (fun j=>if j=U.n then i else f j) (fun j g=>by
  show(if j=U.n then i else f j)<T.n
  split
  ·exact hi
  ·exact(k j (by omega)).1) (fun a b t u e=>by
  have o : ∀ j,j<U.n->f j≠i:=fun j g e=>by
   have c:=(k j g).2
   rw[e]at c
   rw[c,bW.sI g]at m; cases m
  have e:(if a=U.n then i else f a)=(if b=U.n then i else f b):=e
  by_cases c:a=U.n
  ·by_cases d:b=U.n
   ·omega
   ·rw[if_pos c,if_neg d]at e; exact absurd e.symm (o b (by omega))
  ·by_cases d:b=U.n
   ·rw[if_neg c,if_pos d]at e; exact absurd e (o a (by omega))
   ·rw[if_neg c,if_neg d]at e
    have l:=(k a (by omega)).2
    have r:=(k b (by omega)).2
    rw[e]at l
    exact s.inj a b (by omega) (by omega) (l.symm.trans r))
 omega
theorem mK.add(d:T.ok)(g:U.ok)(h:mK U T)(hi:i<T.n)(j:T.p i=0\/U.has (T.p i)=true) :
 mK (U.add (T.x i) (T.p i)) T/\(U.add (T.x i) (T.p i)).has (T.x i)=true /\ ∀ k,U.has k=true->(U.add (T.x i) (T.p i)).has k=true:=by
 cases hh:U.has (T.x i)with
 | true =>
   have e:U.add (T.x i) (T.p i)=U:=by
    refine bW.Rb fun m => ?_
    have:=(Ea m).2.1
    rw[show bZ U.x U.n (T.x i)=U.has (T.x i)from rfl,hh]at this; cases this
   rw[e]; exact⟨h,hh,fun _ h=>h⟩
 | false =>
   have s:=(d.pos i hi).1
   have q:=mK.lt g h hi hh
   have r:=d.small
   have l:U.err (T.x i) (T.p i)=0:=by
    unfold bW.err kX
    rw[if_neg (by omega),if_neg (by rw[show bZ U.x U.n (T.x i)=U.has (T.x i)from rfl,hh]; decide),if_neg,if_neg]
    ·rintro (b|b)
     ·omega
     ·have f:=mK.path d g h 4 (T.p i) j
      rw[f]at b
      have c:=bW.Rc d hi
      have o:(T.path (T.x i)).length<=4:=bW.sJ
      rw[c,List.length_cons]at o
      have b:4<=(T.path (T.p i)).length:=b
      omega
    ·rintro ⟨b,f⟩
     rcases j with c|c
     ·exact b c
     ·rw[show bZ U.x U.n (T.p i)=U.has (T.p i)from rfl,c]at f; cases f
   rw[bW.vZ l]
   refine⟨⟨fun k a => ?_,fun k a => ?_⟩,?_,fun k a => ?_⟩
   ·rw[bW.gM,Bool.or_eq_true]at a
    rcases a with a|a
    ·exact h.has k a
    ·rw[<- of_decide_eq_true a]; exact bW.sI hi
   ·rw[bW.gM,Bool.or_eq_true]at a
    rw[bW.nD]
    split
    ·rename_i e; subst e; exact(bW.CW d hi).symm
    ·rename_i e
     rcases a with a|a
     ·exact h.par k a
     ·exact absurd (of_decide_eq_true a) e
   ·rw[bW.gM,decide_eq_true rfl,Bool.or_true]
   ·rw[bW.gM,a,Bool.true_or]
structure CX(T U:bW)(r k:Nat):Prop where
 sub:mK U T
 fst : ∀ j,j<r->j<T.n->U.has (T.x j)=true
 Xk:k<=r->r<T.n->U.has (T.x r)=true
theorem CX.start(T:bW) : ∀ {r:Nat},r=0->CX T bW.zero r T.n:=fun e=>⟨mK.zero T,fun j h=>by omega,fun a b=>by omega⟩
theorem CX.add{r k:Nat}(f:T.ok)(g:U.ok)(h:CX T U r k)(m:0<k)(o:k<=T.n)(l:T.p (k-1)=0\/U.has (T.p (k-1))=true):CX T (U.add (T.x (k-1)) (T.p (k-1))) r (k-1):=by
 obtain⟨c,d,b⟩:=mK.add f g h.sub (show k-1<T.n by omega) l
 refine⟨c,fun j i a=>b _ (h.fst j i a),fun q a => ?_⟩
 by_cases e:k<=r
 ·exact b _ (h.Xk e a)
 obtain rfl:r=k-1:=by omega
 exact d
theorem CX.skip{r k:Nat}(b:T.ok)(h:CX T U r k)(f:0<k)(g:k<=T.n)(d : ¬ T.p (k-1)=0)(a:U.has (T.p (k-1))=false):CX T U r (k-1):=by
 refine⟨h.sub,h.fst,fun j c => ?_⟩
 by_cases e:k<=r
 ·exact h.Xk e c
 obtain rfl:r=k-1:=by omega
 rcases b.par (k-1) (by omega)with h1|⟨i,hi,h1⟩
 ·exact absurd h1 d
 rw[<- h1,h.fst i hi (by omega)]at a; cases a
theorem CX.next{r:Nat}(h:CX T U r 0):CX T U (r+1) T.n :=
 ⟨h.sub,fun j d a=>by
  by_cases e:j=r
  ·subst e; exact h.Xk (Nat.zero_le _) a
  ·exact h.fst j (by omega) a,fun b c=>by omega⟩
theorem CX.all{r k:Nat}(h:CX T U r k)(hr:T.n<=r) : ∀ k,T.has k=true->U.has k=true:=fun k b=>by
 obtain⟨j,a,rfl⟩:=dV b
 exact h.fst j (by omega) a
theorem CX.path{r k:Nat}(h:CX T U r k)(hr:T.n<=r)(q:Int):U.path q=T.path q:=h.sub.same (h.all hr) q
theorem CX.list{r k:Nat}(h:CX T U r k)(hr:T.n<=r){l m:List Int}(a:l.Pairwise (· < ·) /\ ∀ k,k∈l<->T.has k=true)(b:m.Pairwise (· < ·) /\ ∀ k,k∈m<->U.has k=true):m=l :=
 pV b.1 a.1 fun k=>(b.2 k).trans (Iff.trans ⟨h.sub.has k,h.all hr k⟩ (a.2 k).symm)
end
def Ig(l:List Int)(v:Int)(n:Nat)(b:Bool):Prop:=b=true <-> ∃ j,j<n/\j<l.length/\l.getD j 0=v
theorem Ig.zero(l:List Int)(v:Int):Ig l v 0 false:=⟨fun h=>(nomatch h),fun⟨j,h,_⟩=>absurd h (Nat.not_lt_zero _)⟩
theorem Ig.keep{l:List Int}{v:Int}{n:Nat}(h:Ig l v n true):Ig l v (n+1) true:=⟨fun _=>by obtain⟨j,b,a⟩:=h.1 rfl; exact⟨j,by omega,a⟩,fun _=>rfl⟩
theorem Ig.yes{l:List Int}{v:Int}{n:Nat}(a:n<l.length)(e:l.getD n 0=v):Ig l v (n+1) true:=⟨fun _=>⟨n,by omega,a,e⟩,fun _=>rfl⟩
theorem Ig.no{l:List Int}{v:Int}{n:Nat}(h:Ig l v n false)(e : ¬ l.getD n 0=v):Ig l v (n+1) false:=⟨fun h=>(nomatch h),fun⟨j,d,c,a⟩=>by
 by_cases b:j=n
 ·subst b; exact absurd a e
 ·exact h.2 ⟨j,by omega,c,a⟩⟩
theorem Ig.mem{l:List Int}{v:Int}{n:Nat}{b:Bool}(h:Ig l v n b)(i:l.length<=n):b=true<->v∈l:=by
 constructor
 ·intro f
  obtain⟨j,_,c,d⟩:=h.1 f
  exact oJ c d
 intro g
 obtain⟨j,a,e⟩:=List.getElem_of_mem g
 refine h.2 ⟨j,by omega,a,?_⟩
 rw[List.getD_eq_getElem?_getD,List.getElem?_eq_getElem a]; exact e
end Rt
end Go.Proofs.YtahbiajdgealnaaDoor
namespace Go.Proofs.YtahbiajdgealnaaDoor
open Go.RowKit Go
set_option linter.unusedVariables false
namespace Rt
def M5(x:Nat->Int)(v:Int)(j aq:Nat):Prop:=(aq=0 /\ ∀ q,q<j->x q≠v)\/(0<aq/\aq<=j/\x (aq-1)=v)
section
variable {x:Nat->Int} {v:Int} {j aq:Nat}
theorem M5.zero:M5 x v 0 0 := .inl ⟨rfl,fun _ h=>absurd h (Nat.not_lt_zero _)⟩
theorem M5.yes(e:x j=v):M5 x v (j+1) (j+1) := .inr ⟨by omega,by omega,e⟩
theorem M5.no(h:M5 x v j aq)(e : ¬ x j=v):M5 x v (j+1) aq:=by
 rcases h with ⟨a,b⟩|⟨a,b,h3⟩
 ·refine .inl ⟨a,fun q d => ?_⟩
  by_cases c:q=j
  ·subst c; exact e
  exact b q (by omega)
 exact .inr ⟨a,by omega,h3⟩
end
section
variable {x p:Nat->Int} {n:Nat}
theorem kr : ∀ {d:Nat} {v:Int},fD x p n d v -> ∀ k,k<(fP x p n d v).length->bZ x n ((fP x p n d v).getD k 0)=true /\
 (k+1<(fP x p n d v).length->(fP x p n d v).getD (k+1) 0=eP x p n ((fP x p n d v).getD k 0))/\(k+1=(fP x p n d v).length->bZ x n (eP x p n ((fP x p n d v).getD k 0))=false)
 | 0,v,h,k,hk=>absurd hk (Nat.not_lt_zero _)
 | d+1,v,h,k,hk=>by
   cases hv:bZ x n v with
   | false=>rw[iA hv]at hk; exact absurd hk (Nat.not_lt_zero _)
   | true =>
     have e:fP x p n (d+1) v=v::fP x p n d (eP x p n v):=by show(if _ then _ else _)=_; rw[if_pos hv]
     have c:fD x p n d (eP x p n v):=h hv
     have i := @kr d (eP x p n v) c
     have g:0<(fP x p n d (eP x p n v)).length->(fP x p n d (eP x p n v)).getD 0 0=eP x p n v:=fun a=>by
      cases d with
      | zero=>exact absurd a (Nat.not_lt_zero _)
      | succ d =>
        unfold fP at a ⊢
        split at a
        ·rename_i hq; rw[if_pos hq]; rfl
        ·exact absurd a (Nat.not_lt_zero _)
     rw[e]at hk ⊢
     rw[List.length_cons]at hk ⊢
     cases k with
     | zero =>
       rw[List.getD_cons_zero,List.getD_cons_succ]
       refine⟨hv,fun b=>g (by omega),fun b => ?_⟩
       cases hq:bZ x n (eP x p n v)with
       | false=>rfl
       | true =>
         obtain⟨j,_,_,f⟩:=yQ c hq
         rw[f,List.length_cons]at b; omega
     | succ k =>
       rw[List.getD_cons_succ,List.getD_cons_succ]
       have:=i k (by omega)
       exact⟨this.1,fun b=>this.2.1 (by omega),fun b=>this.2.2 (by omega)⟩
end
section
variable {T:bW} {id pa k v:Int} {i j aq:Nat} {pl:List Int}
theorem M5.get(h:M5 T.x v T.n aq)(d:T.has v=true):0<aq/\aq-1<T.n/\T.x (aq-1)=v:=by
 rcases h with ⟨a,b⟩|⟨a,b,h3⟩
 ·obtain⟨q,c,e⟩:=dV d
  exact absurd e (b q c)
 exact⟨a,by omega,h3⟩
theorem bW.EI(h:T.ok)(e:pl=T.path v){q:Nat}(a:q<pl.length):T.has (pl.getD q 0)=true:=by
 subst e; exact(kr (h.stop v) q a).1
theorem bW.M6(h:T.ok)(e:pl=T.path v){q:Nat}(b:q+1<pl.length)(ha:aq-1<T.n)(hx:T.x (aq-1)=pl.getD q 0):T.p (aq-1)=pl.getD (q+1) 0:=by
 subst e
 have:=(kr (h.stop v) q (Nat.lt_of_succ_lt b)).2.1 b
 have a:=bW.CW h ha
 rw[hx]at a
 exact a.symm.trans this.symm
theorem bW.M7(h:T.ok)(e:pl=T.path v){q:Nat}(c:q+1=pl.length)(ha:aq-1<T.n)(hx:T.x (aq-1)=pl.getD q 0):T.p (aq-1)=0:=by
 subst e
 have a:=(kr (h.stop v) q (Nat.lt_of_succ_le (Nat.le_of_eq c))).2.2 c
 have b:=bW.CW h ha
 rw[hx]at b
 rw[show eP T.x T.p T.n ((fP T.x T.p T.n 4 v).getD q 0)=T.p (aq-1)from b]at a
 rcases h.par _ ha with h4|⟨i,hi,h4⟩
 ·exact h4
 rw[<- h4,fO (by omega) rfl]at a; cases a
theorem bW.Rh(d : ¬ id=0)(e:pa=0\/T.has pa=true):T.err id pa=if T.has id=true then 14 else if 32<=T.n\/4<=(T.path pa).length then 6 else 0:=by
 show kX T.x T.p T.n id pa=_
 unfold kX
 rw[if_neg d]
 have c : ¬ (¬ pa=0/\bZ T.x T.n pa=false):=by
  rintro ⟨b,a⟩
  rcases e with h3|h3
  ·exact b h3
  ·rw[show bZ T.x T.n pa=T.has pa from rfl,h3]at a; cases a
 rw[if_neg c]; rfl
end
def OJ(v1 v2:Value):Prop := ∀ g,v1.ownBlock=some g->v2.ownBlock≠some g
section
variable {w w':World} {v v2:Value} {B s n g m c:Nat} {E:TypeId} {x:Nat->Value}
theorem OJ.symm(h:OJ v v2):OJ v2 v:=fun g a b=>h g b a
theorem OJ.nil:OJ (.slice none 0 0) v:=fun g h=>nomatch h
theorem OJ.app(h:OJ v v2)(b:Fx.Own w B E s v n x)(d:v2.ownBlock=some g\/g=w.heap.size):OJ v (bH g m c):=fun q a e=>by
 have e:some g=some q:=e
 obtain rfl:=Option.some.inj e
 rcases d with h1|h1
 ·exact h _ a h1
 ·have:=(b.ge a).2; omega
end
end Rt
end Go.Proofs.YtahbiajdgealnaaDoor
namespace Go.Proofs.YtahbiajdgealnaaDoor
open Go.RowKit Go
set_option linter.unusedVariables false
namespace Rt
def yh(n:Nat):Nat->List Nat
 | 0 => []
 | j+1=>yh n j ++ [n-1-j]
theorem F7(n:Nat) : ∀ j,(yh n j).length=j
 | 0=>rfl
 | j+1=>by unfold yh; rw[List.length_append,F7 n j]; rfl
def DI(T:bW)(l:List Int)(a:List Nat):bW:=a.foldl (fun U x=>U.add (l.getD x 0) (T.par (l.getD x 0))) bW.zero
theorem xL(T:bW)(l:List Int)(a:List Nat)(x:Nat):DI T l (a ++ [x])=(DI T l a).add (l.getD x 0) (T.par (l.getD x 0)):=by unfold DI; rw[List.foldl_append]; rfl
def gW(l ll:List Int)(U:bW):Nat->bW
 | 0=>U
 | i+1=>if ll.getD i 0∈l then gW l ll U i else(gW l ll U i).add (ll.getD i 0) 0
section
variable {T U:bW} {l ll:List Int} {id pa k v:Int} {i j n:Nat}
theorem has_lt(t:U.ok)(h : ∀ k,U.has k=true->T.has k=true)(hx:T.has v=true)(o:U.has v=false):U.n<T.n:=by
 obtain⟨i,u,rfl⟩:=dV hx
 have r : ∀ j,∃ q,j<U.n->q<T.n/\T.x q=U.x j:=fun j=>by
  by_cases g:j<U.n
  ·obtain⟨q,c,d⟩:=dV (h _ (bW.sI g))
   exact⟨q,fun _=>⟨c,d⟩⟩
  ·exact⟨0,fun h=>absurd h g⟩
 obtain⟨f,l⟩:=Classical.axiomOfChoice r
 have:=uh T.n (U.n+1) (fun j=>if j=U.n then i else f j) (fun j g=>by
  show(if j=U.n then i else f j)<T.n
  split
  ·exact u
  ·exact(l j (by omega)).1) (fun a b w y e=>by
  have p : ∀ j,j<U.n->f j≠i:=fun j g e=>by
   have c:=(l j g).2
   rw[e]at c
   rw[c,bW.sI g]at o; cases o
  have e:(if a=U.n then i else f a)=(if b=U.n then i else f b):=e
  by_cases c:a=U.n
  ·by_cases d:b=U.n
   ·omega
   ·rw[if_pos c,if_neg d]at e; exact absurd e.symm (p b (by omega))
  ·by_cases d:b=U.n
   ·rw[if_neg c,if_pos d]at e; exact absurd e (p a (by omega))
   ·rw[if_neg c,if_neg d]at e
    have m:=(l a (by omega)).2
    have s:=(l b (by omega)).2
    rw[e]at m
    exact t.inj a b (by omega) (by omega) (m.symm.trans s))
 omega
theorem KO(p:U.ok)(h : ∀ k,U.has k=true->T.has k=true):U.n<=T.n:=by
 have l : ∀ j,∃ q,j<U.n->q<T.n/\T.x q=U.x j:=fun j=>by
  by_cases i:j<U.n
  ·obtain⟨q,m,o⟩:=dV (h _ (bW.sI i))
   exact⟨q,fun _=>⟨m,o⟩⟩
  ·exact⟨0,fun h=>absurd h i⟩
 obtain⟨f,c⟩:=Classical.axiomOfChoice l
 exact uh T.n U.n f (fun q r=>(c q r).1) fun a b d g e=>p.inj a b d g (by rw[<- (c a d).2,<- (c b g).2,e])
structure ZX(T U:bW)(l:List Int)(j:Nat):Prop where
 ok:U.ok
 sub:mK U T
 has : ∀ x,l.length-j<=x->x<l.length->U.has (l.getD x 0)=true
 only : ∀ k,U.has k=true->k∈l
theorem KP(a:T.ok)(hi:i<T.n):0<=T.x i/\T.x i<=18446744073709551615:=by have:=a.pos i hi; omega
theorem M8(U:bW)(id pa k:Int)(h:(U.add id pa).has k=true):U.has k=true\/k=id:=by
 unfold bW.add at h
 split at h
 ·rw[bW.gM,Bool.or_eq_true]at h
  rcases h with h|h
  ·exact .inl h
  exact .inr (of_decide_eq_true h).symm
 exact .inl h
theorem KQ(a:T.ok)(e:l=T.path pa) : ∀ j,j<=l.length->ZX T (DI T l (yh l.length j)) l j
 | 0,_=>⟨tJ.zero _ _,mK.zero T,fun x g c=>by omega,fun k h=>nomatch h⟩
 | j+1,hj=>by
   have d:=KQ a e j (by omega)
   have m:l.length-1-j<l.length:=by omega
   have t:T.has (l.getD (l.length-1-j) 0)=true:=bW.EI a e m
   obtain⟨i,f,b⟩:=dV t
   have n:T.par (l.getD (l.length-1-j) 0)=T.p i:=by rw[<- b]; exact bW.CW a f
   show ZX T (DI T l (yh l.length j ++ [l.length-1-j])) l (j+1)
   rw[xL,n,<- b]
   have s:T.p i=0\/(DI T l (yh l.length j)).has (T.p i)=true:=by
    by_cases r:l.length-1-j+1=l.length
    ·exact .inl (bW.M7 (aq:=i+1) a e r f b)
    ·have c:=bW.M6 (aq:=i+1) a e (show l.length-1-j+1<l.length by omega) f b
     have c:T.p i=l.getD (l.length-1-j+1) 0:=c
     right
     rw[c]
     exact d.has _ (by omega) (by omega)
   obtain⟨u,v,w⟩:=mK.add a d.ok d.sub f s
   refine⟨bW.Ak d.ok (KP a f),u,fun x g c => ?_,fun k q => ?_⟩
   ·by_cases o:x=l.length-1-j
    ·rw[o,<- b]; exact v
    ·exact w _ (d.has x (by omega) c)
   ·rcases M8 _ _ _ _ q with g|rfl
    ·exact d.only k g
    ·rw[b]
     rw[List.getD_eq_getElem?_getD,List.getElem?_eq_getElem m]; exact List.getElem_mem m
structure Xl(T U:bW)(l ll:List Int)(i:Nat):Prop where
 ok:U.ok
 sub : ∀ k,U.has k=true->T.has k=true
 par : ∀ k,k∈l->U.has k=true/\U.par k=T.par k
 has : ∀ q,q<i->q<ll.length->U.has (ll.getD q 0)=true
 only : ∀ k,U.has k=true->k∈l \/ ∃ q,q<i/\q<ll.length/\ll.getD q 0=k
theorem Ri(d:ll.Pairwise (· < ·)){a b:Nat}(ha:a<ll.length)(c:b<ll.length)(e:ll.getD a 0=ll.getD b 0):a=b:=by
 rw[List.getD_eq_getElem?_getD,List.getD_eq_getElem?_getD,List.getElem?_eq_getElem ha,List.getElem?_eq_getElem c]at e
 have e:ll[a]=ll[b]:=e
 rcases Nat.lt_trichotomy a b with h1|h1|h1
 ·have:=List.pairwise_iff_getElem.1 d a b ha c h1; omega
 ·exact h1
 have:=List.pairwise_iff_getElem.1 d b a c ha h1; omega
theorem KR(d:T.ok)(g:ll.Pairwise (· < ·) /\ ∀ k,k∈ll<->T.has k=true)(n:Xl T U l ll 0) : ∀ i,i<=ll.length->Xl T (gW l ll U i) l ll i
 | 0,_=>n
 | i+1,hi=>by
   have b:=KR d g n i (by omega)
   unfold gW
   have s:ll.getD i 0∈ll:=by rw[List.getD_eq_getElem?_getD,List.getElem?_eq_getElem (by omega)]; exact List.getElem_mem _
   have f:=(g.2 _).1 s
   by_cases c:ll.getD i 0∈l
   ·rw[if_pos c]
    refine⟨b.ok,b.sub,b.par,fun q v h => ?_,fun k a => ?_⟩
    ·by_cases e:q=i
     ·rw[e]; exact(b.par _ c).1
     ·exact b.has q (by omega) h
    ·rcases b.only k a with h1|⟨q,h1,h2,h3⟩
     ·exact .inl h1
     ·exact .inr ⟨q,by omega,h2,h3⟩
   ·rw[if_neg c]
    obtain⟨z,r,m⟩:=dV f
    have o:=KP d r
    rw[m]at o
    have u:=d.pos z r
    rw[m]at u
    have p:(gW l ll U i).has (ll.getD i 0)=false:=by
     cases hh:(gW l ll U i).has (ll.getD i 0)with
     | false=>rfl
     | true =>
       rcases b.only _ hh with h1|⟨q,h1,h2,h3⟩
       ·exact absurd h1 c
       ·have:=Ri g.1 h2 (by omega) h3; omega
    have w:=has_lt b.ok b.sub f p
    have x:=d.small
    have j:(gW l ll U i).err (ll.getD i 0) 0=0:=by
     rw[bW.Rh (by omega) (.inl rfl),if_neg (by rw[p]; decide),if_neg]
     rw[bW.Rf b.ok]
     rintro (h1|h1)
     ·omega
     ·simp at h1
    rw[bW.vZ j]
    have t : ∀ k,k∈l -> ¬ ll.getD i 0=k:=fun k a e=>c (e ▸ a)
    refine⟨by have:=bW.Ak (pa:=0) b.ok o; rwa [bW.vZ j]at this,fun k a => ?_,fun k a => ?_,fun q v h => ?_,fun k a => ?_⟩
    ·rw[bW.gM,Bool.or_eq_true]at a
     rcases a with a|a
     ·exact b.sub k a
     ·rw[<- of_decide_eq_true a]; exact f
    ·rw[bW.gM,bW.nD,if_neg (t k a),(b.par k a).1,Bool.true_or]
     exact⟨rfl,(b.par k a).2⟩
    ·rw[bW.gM]
     by_cases e:q=i
     ·rw[e,decide_eq_true rfl,Bool.or_true]
     ·rw[b.has q (by omega) h,Bool.true_or]
    ·rw[bW.gM,Bool.or_eq_true]at a
     rcases a with a|a
     ·rcases b.only k a with h1|⟨q,h1,h2,h3⟩
      ·exact .inl h1
      ·exact .inr ⟨q,by omega,h2,h3⟩
     ·exact .inr ⟨i,by omega,by omega,of_decide_eq_true a⟩
theorem zA(c : ∀ k,U.has k=T.has k) : ∀(d:Nat) (k:Int),(∀ q,q∈fP T.x T.p T.n d k->U.par q=T.par q)->fP U.x U.p U.n d k=fP T.x T.p T.n d k
 | 0,_,_=>rfl
 | d+1,k,h=>by
   have a:bZ U.x U.n k=bZ T.x T.n k:=c k
   cases hk:bZ T.x T.n k with
   | false=>rw[iA hk,iA (a.trans hk)]
   | true =>
     have b:fP T.x T.p T.n (d+1) k=k::fP T.x T.p T.n d (eP T.x T.p T.n k):=by show(if _ then _ else _)=_; rw[if_pos hk]
     have e:fP U.x U.p U.n (d+1) k=k::fP U.x U.p U.n d (eP U.x U.p U.n k):=by show(if _ then _ else _)=_; rw[if_pos (a.trans hk)]
     rw[b]at h
     have f:eP U.x U.p U.n k=eP T.x T.p T.n k:=h k (List.mem_cons_self ..)
     rw[b,e,f,zA c d _ fun q g=>h q (List.mem_cons_of_mem _ g)]
theorem M9(i:T.ok)(e:l=T.path pa)(m:ll.Pairwise (· < ·) /\ ∀ k,k∈ll<->T.has k=true):(gW l ll (DI T l (yh l.length l.length)) ll.length).err id pa=T.err id pa:=by
 have d:=KQ i e l.length (Nat.le_refl _)
 have t : ∀ k,k∈l -> ∃ x,x<l.length/\l.getD x 0=k:=fun k a=>by
  obtain⟨x,h,r⟩:=List.getElem_of_mem a
  exact⟨x,h,by rw[List.getD_eq_getElem?_getD,List.getElem?_eq_getElem h]; exact r⟩
 have s:Xl T (DI T l (yh l.length l.length)) l ll 0:=⟨d.ok,d.sub.has,fun k a=>by
  obtain⟨x,h,rfl⟩:=t k a
  have:=d.has x (by omega) h
  exact⟨this,d.sub.par _ this⟩,fun q b=>by omega,fun k a => .inl (d.only k a)⟩
 have c:=KR i m s ll.length (Nat.le_refl _)
 generalize gW l ll (DI T l (yh l.length l.length)) ll.length=V at c
 have g : ∀ k,V.has k=T.has k:=fun k=>by
  cases f:T.has k with
  | false =>
    cases j:V.has k with
    | false=>rfl
    | true=>rw[c.sub k j]at f; cases f
  | true =>
    obtain⟨q,b,o⟩:=List.getElem_of_mem ((m.2 k).2 f)
    have:=c.has q b b
    rw[List.getD_eq_getElem?_getD,List.getElem?_eq_getElem b]at this
    rw[<- o]; exact this
 have u:V.n=T.n:=by
  have f:=KO c.ok c.sub
  have j:=KO i (fun k a=>by rw[g]; exact a : ∀ k,T.has k=true->V.has k=true)
  omega
 have v:V.path pa=T.path pa:=zA g 4 pa fun q b=>(c.par q (by rw[e]; exact b)).2
 show kX V.x V.p V.n id pa=kX T.x T.p T.n id pa
 unfold kX
 have w:fP V.x V.p V.n 4 pa=fP T.x T.p T.n 4 pa:=v
 rw[show bZ V.x V.n id=bZ T.x T.n id from g id,show bZ V.x V.n pa=bZ T.x T.n pa from g pa,w,u]
end
end Rt
end Go.Proofs.YtahbiajdgealnaaDoor
namespace Go.Proofs.YtahbiajdgealnaaDoor
open Go.RowKit Go
set_option linter.unusedVariables false
namespace Fx
abbrev pG:=Exit->(Nat->Value)->List Deferred->World->Prop
def KS(n:Nat)(Q:pG):Exit->Act->World->Prop:=fun e a w => ∃ f,rD a n f/\Q e f a.defers w
def W0(ro:Option Nat)(m:Nat)(P:Program)(n:Nat)(c:Code)(Q:pG)(f:Nat->Value)(ds:List Deferred)(w:World):Prop := ∀ a,rD a n f->a.defers=ds->c.wpIn (FR ro) m P (KS n Q) a w
def KT(ro:Option Nat)(m:Nat)(P:Program)(n:Nat)(y:Code)(Q:pG):pG:=fun e f ds w=>match e with | .normal=>W0 ro m P n y Q f ds w|e=>Q e f ds w
def sK(id:Nat)(Q:pG):pG:=fun e f ds w=>match e with | .exit id'=>if id'=id then Q .normal f ds w else Q (.exit id') f ds w|e=>Q e f ds w
def EJ(I:(Nat->Value)->World->Prop)(b:(Nat->Value)->World->Nat)(k:Nat)(ds:List Deferred)(Q:pG):pG:=fun e f a w=>match e with | .normal=>a=ds/\I f w/\b f w<k|e=>Q e f a w
section
variable {ro:Option Nat} {m:Nat} {ds:List Deferred} {P:Program} {n:Nat} {Q:pG} {f:Nat->Value} {w:World}
theorem W0.seq{x y:Code}(h:W0 ro m P n x (KT ro m P n y Q) f ds w):W0 ro m P n (.seq x y) Q f ds w:=fun a i j =>
 wpIn_seq (wpIn_mono (h a i j) fun e d w' b=>by
  obtain⟨g,c,b⟩:=b
  cases e <;> first|exact b d c rfl|exact⟨g,c,b⟩)
theorem W0.skip(h:Q .normal f ds w):W0 ro m P n .skip Q f ds w:=fun _ a b=>wpIn_skip ⟨f,a,b ▸ h⟩
theorem W0.ret(h:Q .ret f ds w):W0 ro m P n .ret Q f ds w:=fun _ a b=>wpIn_ret ⟨f,a,b ▸ h⟩
theorem W0.exit{id:Nat}(h:Q (.exit id) f ds w):W0 ro m P n (.exit id) Q f ds w:=fun _ a b=>wpIn_exit ⟨f,a,b ▸ h⟩
theorem W0.block{id:Nat}{c:Code}(h:W0 ro m P n c (sK id Q) f ds w):W0 ro m P n (.block id c) Q f ds w:=fun a i j =>
 wpIn_block (wpIn_mono (h a i j) fun e k w' b=>by
  obtain⟨d,g,b⟩:=b
  cases e <;> first
   | exact⟨d,g,b⟩
   | (simp only[sK]at b; simp only[Exit.inBlock]; split at b <;> rename_i hid <;> simp only[hid,if_true,if_false] <;> exact⟨d,g,b⟩))
theorem W0.cond{c:Operand}{x y:Code}{b:Bool}(h:ev f c = .bool b)(j:b=true->W0 ro m P n x Q f ds w)(i:b=false->W0 ro m P n y Q f ds w):W0 ro m P n (.cond c x y) Q f ds w:=fun a d g =>
 wpIn_cond_split (t:=b) (by rw[d.ev]; exact h) (fun e=>j e a d g) (fun e=>i e a d g)
theorem W0.loop{c:Code}(I:(Nat->Value)->World->Prop)(k:(Nat->Value)->World->Nat)(r:I f w)(hr : ∀ f w,I f w->W0 ro m P n c (EJ I k (k f w) ds Q) f ds w):W0 ro m P n (.loop c) Q f ds w:=fun a s h =>
 wpIn_loop (fun a w => ∃ f,rD a n f/\a.defers=ds/\I f w) (fun a w=>k (fun i=>a.tmps.getD i undef) w) ⟨f,s,h,r⟩ (fun a w g=>by
  obtain⟨f,l,h,g⟩:=g
  have e:(fun i=>a.tmps.getD i undef)=f:=funext l.get
  refine wpIn_mono (hr f w g a l h)<|fun p o w' b => ?_
  obtain⟨d,j,b⟩:=b
  cases p <;> first
   | exact⟨d,j,b⟩
   | (have q:(fun i=>o.tmps.getD i undef)=d:=funext j.get
      exact⟨⟨d,j,b.1,b.2.1⟩,by rw[e,q]; exact b.2.2⟩))
theorem W0.list{id:Nat}{ops:List Oper}(h:L P n ops.toArray (fun e f w=>Q e f ds w) ops f w)(k:ops.all gG=true:=by rfl):W0 ro m P n (.region id ops.toArray false) Q f ds w:=fun a i j =>
 yP i h k fun e l w' ⟨b,c,d,g⟩=>⟨b,c,by rw[d,j]; exact g⟩
theorem jV{y:Code}(h:W0 ro m P n y Q f ds w):KT ro m P n y Q .normal f ds w:=h
theorem Uk{id:Nat}{y:Code}(h:Q (.exit id) f ds w):KT ro m P n y Q (.exit id) f ds w:=h
theorem CY{id:Nat}(h:Q .normal f ds w):sK id Q .normal f ds w:=h
theorem Ul{id:Nat}(h:Q .normal f ds w):sK id Q (.exit id) f ds w:=by simp only[sK,if_true]; exact h
theorem Xm{I:(Nat->Value)->World->Prop}{a:(Nat->Value)->World->Nat}{k id:Nat}(h:Q (.exit id) f ds w):EJ I a k ds Q (.exit id) f ds w:=h
theorem Um{I:(Nat->Value)->World->Prop}{a:(Nat->Value)->World->Nat}{k:Nat}(h:I f w)(b:a f w<k):EJ I a k ds Q .normal f ds w:=⟨rfl,h,b⟩
def OL(P:Program)(m:Nat)(b:Func)(R:Ending->World->Prop):pG:=fun e f ds w => ∀ a,rD a b.ntmps f->a.defers=ds->bodyPostM (FR none) m P b R e a w
theorem Rj{g:FuncId}{b:Func}{c:Code}{args:Array Value}{R:Ending->World->Prop}(m:Nat)(k:P.funcs[g]? = some b)(j:b.body=some c)(f:b.ntmps=n)(ha:Nat.ble args.size n=true)(h:W0 none m P n c (OL P m b R) (start args) [] w):Calls P g args w R:=by
 have q:args.size<=n:=Nat.le_of_ble_eq_true ha
 refine(callsIn_wide (n:=m)).1 (callsIn_of_wp_marks (F:=FR none) k j trivial ?_ rfl)
 refine wpIn_mono (h _ ⟨?_,?_⟩ rfl) fun e a w' ⟨p,l,o⟩=>o a (by rw[f]; exact l) rfl
 ·simp[f]; omega
 intro i
 simp only[start,Array.getD_eq_getD_getElem?,Array.getElem?_append,Array.getElem?_replicate]
 by_cases d:i<args.size
 ·simp[d]
 rw[if_neg d]
 split
 ·rw[Array.getElem?_eq_none (by omega)]; rfl
 rw[Array.getElem?_eq_none (by omega)]
theorem leaveD{b:Func}{R:Ending->World->Prop}{D:Nat}{v:Value}(c:w.heap[D]? = some (.deferred (some [])))(h:(rM b f).run P (w.putObj D (.deferred none)) = .ok v (w.putObj D (.deferred none)))(d:R (.returned v) (w.putObj D (.deferred none))) :
 OL P m b R .ret f [{ target := .collected D,args := #[] }] w:=fun a e g=>leave1 e g c h d
variable {ops:List Oper} {cs:List Nat} {S:World->World->Prop}
theorem R.Un(T:iE n ops=true)(hsel:Region.noSelect ops.toArray=true)(aa:ops.all gG=true)(hS : ∀ w,S w w)(hT : ∀ a b c,S a b->S b c->S a c){fA:List (Nat × Nat × List Nat)} : ∀(k:Nat) (u:List Nat) (p:Array Bool) (a:Act) (f:Nat->Value) (w:World),u.length=k->p.size=ops.length->Bv ops.toArray .any p ->
 (∀ i,i∈u<->i<ops.length/\p.getD i false=false)->u.Nodup->(u.Pairwise fun i j=>jQ ops cs fA i j=true)->rD a n f->a.defers=ds->R P n ops cs S (fun e f w=>Q e f ds w) u f w->wpAnyIn (FR ro) m P .any ops.toArray (KS n Q) k p a w:=by
 intro k
 induction k with
 | zero =>
   intro u p a f w F ac J x G H A L h
   have:u = []:=List.eq_nil_of_length_eq_zero F
   subst this
   refine⟨?_,f,A,by rw[L]; exact h⟩
   rw[List.eq_nil_iff_forall_not_mem]
   intro j E
   obtain⟨z,s,_,_⟩:=dF E
   exact absurd ((x j).2 ⟨s,z⟩) (by simp)
 | succ k ih =>
   intro u p a f w F ac J x G H A L h
   refine⟨fun hr => ?_,fun j E => ?_⟩
   ·cases u with
    | nil=>simp at F
    | cons r VP =>
      exfalso
      obtain⟨z,s⟩:=(x r).1 (List.mem_cons_self ..)
      have:r∈Region.ready .any ops.toArray p:=by
       refine mem_ready.2 ⟨getD_in (by omega) s,opAt ops r,by unfold opAt; rw[List.getElem?_toArray,List.getD_eq_getElem?_getD,List.getElem?_eq_getElem z]; rfl,fun e M C => ?_⟩
       have B:bJ (opAt ops r) e.on=true:=by
        unfold bJ; rw[Array.any_eq_true']; exact⟨e,M,by rw[C,Nat.beq_refl]; rfl⟩
       have hlt:=(dD T z).2.2.2 e.on B
       cases hle:p.getD e.on false with
       | true=>rfl
       | false =>
         have g:=(x e.on).2 ⟨by omega,hle⟩
         rcases List.mem_cons.1 g with e1|e1
         ·omega
         ·have o:=(List.pairwise_cons.1 H).1 _ e1
          unfold jQ at o
          rw[B]at o; simp at o
      rw[hr]at this; simp at this
   ·obtain⟨z,s,W,X⟩:=dF E
    have hjm:=(x j).2 ⟨s,z⟩
    obtain⟨t,y,rfl⟩:=List.append_of_mem hjm
    have C:=bubble (P:=P) (cs:=cs) (S:=S) (Q:=fun e f w=>Q e f ds w) T hsel hS hT s (l:=y) t (fun i N=>by
     obtain⟨h5,Y⟩:=(x i).1 (List.mem_append_left _ N)
     have O:i≠j:=fun e=>by
      subst e
      exact(List.nodup_append.1 G).2.2 i N i (List.mem_cons_self ..) rfl
     have o:jQ ops cs fA i j=true:=(List.pairwise_append.1 H).2.2 i N j (List.mem_cons_self ..)
     unfold jQ at o
     rw[Bool.and_eq_true,Bool.or_eq_true]at o
     have PK:bJ (opAt ops j) i=false:=by
      cases hq:bJ (opAt ops j) i with
      | false=>rfl
      | true=>have:=X i hq; rw[Y]at this; cases this
     refine⟨h5,O,PK,by simpa using o.1,?_⟩
     rcases o.2 with o|o
     ·rw[Bool.and_eq_true,Bool.or_eq_true]at o
      refine⟨o.1,?_⟩
      rcases o.2 with q|q
      ·rw[Bool.or_eq_true]at q
       exact q.elim (fun q => .inl (Nat.eq_of_beq_eq_true q)) (fun q => .inr (.inl q))
      ·rw[Bool.and_eq_true]at q
       exact .inr (.inr ⟨Nat.eq_of_beq_eq_true q.1,Nat.eq_of_beq_eq_true q.2⟩)
     ·exfalso
      rw[List.any_eq_true]at o
      obtain⟨c,_,Z⟩:=o
      rw[Bool.and_eq_true,Bool.and_eq_true]at Z
      obtain⟨m,g⟩:=fu Z.2
      cases m with
      | zero=>unfold reach at g; simp at g; exact O g.symm
      | succ m =>
        unfold reach at g
        rw[Bool.or_eq_true]at g
        rcases g with g|g
        ·simp at g; exact O g.symm
        ·rw[W]at g
         simp only at g
         rw[Array.any_eq_true']at g
         obtain⟨e,M,g⟩:=g
         rw[Bool.and_eq_true]at g
         have B:bJ (opAt ops j) e.on=true:=by
          unfold bJ; rw[Array.any_eq_true']; exact⟨e,M,by rw[g.1,Nat.beq_refl]; rfl⟩
         have:=J.reach _ _ g.2 (X e.on B)
         rw[Y]at this; cases this) f w h
    have hperm:(t++y).length=k:=by simp at F ⊢; omega
    have hnd':(t++y).Nodup:=by
     refine G.sublist ?_
     exact List.Sublist.append_left (List.sublist_cons_self ..) t
    have PL:(t++y).Pairwise fun i j=>jQ ops cs fA i j=true:=H.sublist (List.Sublist.append_left (List.sublist_cons_self ..) t)
    have hmem' : ∀ i,i∈t++y<->i<ops.length/\(p.setIfInBounds j true).getD i false=false:=fun i=>by
     by_cases e:j=i
     ·subst e
      rw[set_self (by omega)]
      constructor
      ·intro g
       exfalso
       have D:=List.nodup_append.1 G
       rcases List.mem_append.1 g with q|q
       ·exact D.2.2 j q j (List.mem_cons_self ..) rfl
       ·exact(List.nodup_cons.1 D.2.1).1 q
      ·intro q; cases q.2
     ·rw[gJ e,<- x i]
      simp only[List.mem_append,List.mem_cons]
      constructor
      ·rintro (q|q)
       ·exact .inl q
       ·exact .inr (.inr q)
      ·rintro (q|q|q)
       ·exact .inl q
       ·exact absurd q.symm e
       ·exact .inr q
    have U : ∀(v:Value) (w':World),R P n ops cs S (fun e f w=>Q e f ds w) (t++y) (put f (opAt ops j).dst v) w'->wpAnyIn (FR ro) m P .any ops.toArray (KS n Q) k (p.setIfInBounds j true) (a.put (opAt ops j).dst v) w':=fun v w' hR =>
     ih (t++y) _ _ _ w' hperm (by simp[ac]) (J.set E) hmem' hnd' PL (A.put (by
      cases D:(opAt ops j).dst with
      | none=>rfl
      | some d=>have:=((dD T s).1 d D).2; simpa [inn,Nat.blt_eq] using this) v) (by rw[put_defers]; exact L) hR
    have ab:gG (opAt ops j)=true:=by
     rw[List.all_eq_true]at aa
     refine aa _ ?_
     unfold opAt
     rw[List.getD_eq_getElem?_getD,List.getElem?_eq_getElem s]
     exact List.getElem_mem s
    unfold wpOpIn
    rw[W]
    simp only
    rw[A.yf]
    unfold R at C
    rcases C with ⟨I,V⟩|⟨I,⟨V,v,q3,q4⟩|⟨V,q3⟩⟩
    ·rw[if_neg (by rw[I]; decide)]; exact⟨fun _ _=>trivial,U _ _ V⟩
    ·rw[if_pos I]
     refine Out.wpIn (K:=fun v' w'=>v'=v/\w'=w) A ab (.inl ⟨v,w,q3 w (.inr (.inr rfl)),rfl,rfl⟩) ?_
     rintro v' w' ⟨rfl,rfl⟩
     exact U _ _ q4
    ·rw[if_pos I]
     exact Out.wpIn A ab q3 fun v w' hk=>U v w' hk.2
theorem W0.Uo{f:Nat->Value}{w:World}{id:Nat}(l:List Nat)(cs:List Nat)(S:World->World->Prop)(o : ∀ w,S w w)(p : ∀ a b c,S a b->S b c->S a c)(fA:List (Nat × Nat × List Nat))(x:P.follows .mixedOrders=true)(z:iE n ops=true)(B:Region.noSelect ops.toArray=true)(g:wE ops l=true)(A:pO ops cs fA l=true)
 (h : ∀ j,Below w.heap.size w j->j.heap.size=w.heap.size->R P n ops cs S (fun e f w=>Q e f ds w) l f j) (y:ops.all gG=true:=by rfl):W0 ro m P n (.region id ops.toArray true) Q f ds w:=fun a q r=>by
 refine wpIn_region_any x ?_
 unfold wE at g
 rw[Bool.and_eq_true,Bool.and_eq_true,Bool.and_eq_true,List.all_eq_true,List.all_eq_true]at g
 obtain⟨⟨⟨C,D⟩,p3⟩,p4⟩:=g
 have v:=Nat.eq_of_beq_eq_true C
 have E:l.Nodup:=of_decide_eq_true p3
 have:=R.Un (ro:=ro) (m:=m) (ds:=ds) (P:=P) (Q:=Q) (fA:=fA) z B y o p ops.length l (Array.replicate ops.length false) a f { w with drawn:=w.drawn+1 } v (by simp) (Bv.start _ _ _) (fun i=>by
  have s : ∀ i,(Array.replicate ops.length false).getD i false=false:=fun i=>getD_replicate_false _ _
  constructor
  ·intro d; exact⟨by simpa [Nat.blt_eq] using D i d,s i⟩
  ·intro d
   obtain⟨k,t,u⟩:=List.any_eq_true.1 (p4 i (by simpa using d.1))
   rw[Nat.eq_of_beq_eq_true u]; exact t) E (qO A) q r (h { w with drawn:=w.drawn+1 } (Below.refl _ _).drew rfl)
 simpa using this
end
end Fx
namespace OM
def F8{b:Type}(J:b->World->Prop):Prop := ∀ s W a,J s W->W.grownBy a none->J s a
def Rl{d:Type}(F:Fence)(n:Nat)(P:Program)(g:Nat)(lb:Array Value)(j:d->Array Value)(i:World->World->Prop)(S:List d->Prop)(N:Nat)(h:World->Prop):Prop :=
 ∀(l:Nat) (J:List d->World->Prop) (W:World),h W->F8 J ->
  (∀ c x b,J c b->c.length<N->YieldAt F (n-1) P l (j x) b fun e a=>e = .returned (.bool true)/\J (c ++ [x]) a/\i b a) ->
  J [] W ->
  CallsIn F n P g (#[.func (.yield l) #[] #[]]++lb) W fun e a=>(∃ v,e = .returned v) /\ ∃ f,S f/\J f a
def EK{c:Type}(B:Nat)(I:c->World->Prop):Prop :=
 ∀ s W a b,I s W->W.grownBy a b->(∀ r,b=some r->B<=r /\ ∃ o:Obj,W.heap[r]? = some o/\o.isCells=false)->I s a
variable {F:Fence} {n:Nat} {P:Program}
theorem EK.putObj{a:Type}{B:Nat}{I:a->World->Prop}(h:EK B I){s:a}{W:World}{l:Nat}{o:Obj}(o':Obj)(f:I s W)(b:B<=l)(c:W.heap[l]? = some o)(d:o.isCells=false):I s (W.putObj l o') :=
 h s W _ (some l) f (grownBy_putObj' W l o') (fun r e=>by cases e; exact⟨b,o,c,d⟩)
theorem EK.alloc{a:Type}{B:Nat}{I:a->World->Prop}(h:EK B I){s:a}{W:World}(o:Obj)(b:I s W):I s (W.alloc o) :=
 h s W _ none b (World.grownBy_alloc W o none) (fun r e=>by cases e)
def KeepsFrom(B:Nat)(W a:World):Prop:=W.heap.size<=a.heap.size /\ ∀ k,B<=k->k<W.heap.size->a.heap[k]? = W.heap[k]?
def Uq{a:Type}(B:Nat)(b:World->World->Prop)(I:List a->World->Prop)(c:List a)(W:World):Exit->Act->World->Prop
 | .normal,_,W'=>KeepsFrom B W W'/\b W W'/\I c W'
 | _,_,_=>False
theorem vH{α:Type}{g:Operand}{ps:Array Tmp}{assign body:Code}{Q:Exit->Act->World->Prop}{a:Act}{w:World}
 (hro:F.round=none) (h1:1<=n) {gf:Nat} {lb:Array Value} (hg:a.eval g = .func (.func gf) #[] lb) (hFg:F.fn gf) (eg : ∀ args w,(callFunc gf args).run P w = .ok (.enter gf args) w)
 {encs:α->Array Value} {Kp:World->World->Prop} {S:List α->Prop} {N:Nat} {Ip:World->Prop} (hseq:Rl F (n-1) P gf lb encs Kp S N Ip)
 (VX:Ip w) (D7 : ∀ W o,w.heap.size<=W.heap.size->Ip W->Ip (W.alloc o))
 (hKt : ∀ {A B C:World},Kp A B->Kp B C->Kp A C) (hKb : ∀(W:World) (l:Nat) (o o':Obj),w.heap.size<=l->W.heap[l]? = some o->o.isCells=false->Kp W (W.putObj l o')) (hps : ∀ x,(encs x).size=ps.size)
 (I:List α->World->Prop) (hI:EK w.heap.size I) (h0:I [] w) (A₁:α->Act->Prop)
 (hassign : ∀(l:Nat) (x:α) (W:World),assign.wpIn (F.inRound l) (n-1-1) P (Exit.then (fun a' W'=>A₁ x a'/\W'=W) (fun _ _ _=>False)) { tmps:=(ps.zip (encs x)).foldl (fun t (p,v)=>t.setIfInBounds p v) a.tmps,defers := [] } W)
 (hbody : ∀(l:Nat) (pre:List α) (x:α) (W:World) (a':Act),A₁ x a'->I pre W->pre.length<N->w.heap.size<=W.heap.size->body.wpIn (F.inRound l) (n-1-1) P (Uq w.heap.size Kp I (pre ++ [x]) W) a' W)
 (hdone : ∀(D:Nat) (xs:List α) (W:World),w.heap.size<=D->S xs->I xs W->W.heap[D]? = some (.deferred (some []))->Q .normal { a with defers := { target := .collected D,args := #[] }::a.defers } W) :
 (Code.rangeFunc g ps assign body).wpIn F n P Q a w:=by
 refine wpIn_rangeFunc ?_
 intro fn hfn
 rw[hro]
 obtain⟨rec,hrec⟩ : ∃ rec:LoopState->Option Code->Loop,rec=fun st pe => { state:=st,pending:=pe,fn,tmps:=a.tmps,params:=ps,assign,body,defers:=w.heap.size }:=⟨_,rfl⟩
 obtain⟨W1,hW1⟩ : ∃ W1,(w.alloc (.deferred (some []))).alloc (.loop (rec .ready none))=W1:=⟨_,rfl⟩
 have hL1:W1.heap[w.heap.size+1]? = some (.loop (rec .ready none)):=by
  rw[<- hW1]; have:=World.alloc_heap_new (w.alloc (.deferred (some []))) (.loop (rec .ready none)); rwa [World.size_alloc]at this
 have hK1:W1.heap[w.heap.size]? = some (.deferred (some [])):=by
  rw[<- hW1]; exact(Below.heap_alloc _ _ _ (by simp)).trans (World.alloc_heap_new w _)
 have hI1:I [] W1:=by rw[<- hW1]; exact hI.alloc _ (hI.alloc _ h0)
 have hp1:Ip W1:=by rw[<- hW1]; exact D7 _ _ (by simp) (D7 _ _ (Nat.le_refl _) VX)
 refine⟨w.heap.size+1,[{ target := .collected w.heap.size,args := #[] }],W1,{ target := .fn (.func gf) lb,args := #[.func (.yield (w.heap.size+1)) #[] #[]] },W1,gf,
  #[.func (.yield (w.heap.size+1)) #[] #[]]++lb,W1,?_,?_,?_,?_,fun _=>h1,?_⟩
 ·rw[<- hW1,hrec]; exact run_enterLoop_outer _ _ _ _ _
 ·simp only[resolve,hg]
  simp[go_sem]
 ·intro f' hf'; simp[Target.leads]at hf'; subst hf'; exact hFg
 ·simp[invoke,go_sem,eg]
 refine(hseq (w.heap.size+1)
  (fun pre W=>I pre W/\W.heap[w.heap.size+1]? = some (.loop (rec .ready none))/\W.heap[w.heap.size]? = some (.deferred (some [])))
  W1 hp1
  (fun s A B hs hg'=>⟨hI s A B none hs.1 hg' (fun r e=>nomatch e),(hg'.block _ (Array.getElem?_eq_some_iff.1 hs.2.1).1 (fun e=>nomatch e)).trans hs.2.1,(hg'.block _ (Array.getElem?_eq_some_iff.1 hs.2.2).1 (fun e=>nomatch e)).trans hs.2.2⟩)
  ?_ ⟨hI1,hL1,hK1⟩).mono ?_
 ·-- one round
  rintro pre x W ⟨hi,hl,hk⟩ hlen
  have hlt:w.heap.size+1<W.heap.size:=(Array.getElem?_eq_some_iff.1 hl).1
  have hy:=run_yield (P:=P) (args:=encs x) hl (by rw[hrec]; exact hps x)
  rw[hrec]at hy
  refine⟨fn,_,assign,body,hy,roundIn_of_wpIn hfn (wpIn_mono (hassign _ x W) ?_)⟩
  rintro e1 a1 w1 hq1
  cases e1 with
  | exit id=>exact hq1.elim
  | goto t=>exact hq1.elim
  | ret=>exact hq1.elim
  | panic ch=>exact hq1.elim
  | outgrown=>exact hq1.elim
  | normal =>
  obtain⟨hA1,ew⟩:=hq1
  rw[ew]
  refine⟨_,run_beginRound hl (by rw[hrec]),?_⟩
  have hl2:(W.putObj (w.heap.size+1) (.loop { rec .ready none with state := .busy })).heap[w.heap.size+1]? = some (.loop { rec .ready none with state := .busy }):=World.putObj_heap_same hlt
  have hk2:(W.putObj (w.heap.size+1) (.loop { rec .ready none with state := .busy })).heap[w.heap.size]? = some (.deferred (some [])):=(World.putObj_heap_other (by omega)).trans hk
  have hw2:Kp W (W.putObj (w.heap.size+1) (.loop { rec .ready none with state := .busy })):=hKb _ _ _ _ (by omega) hl rfl
  refine wpIn_mono (hbody _ pre x _ a1 hA1 (hI.putObj _ hi (by omega) hl rfl) hlen (by simp; omega)) ?_
  rintro e a3 W3 hp
  cases e with
  | normal =>
    obtain⟨hk3,hkp3,hi3⟩:=hp
    have hl3:=(hk3.2 _ (by omega) (Array.getElem?_eq_some_iff.1 hl2).1).trans hl2
    have Xn:=(hk3.2 _ (by omega) (Array.getElem?_eq_some_iff.1 hk2).1).trans hk2
    have hr:=run_endRound (P:=P) none hl3
    rw[hrec]at hr hl3
    refine⟨_,_,hr,rfl,⟨hI.putObj _ hi3 (by omega) hl3 rfl,?_,(World.putObj_heap_other (by omega)).trans Xn⟩,hKt (hKt hw2 hkp3) (hKb _ _ _ _ (by omega) hl3 rfl)⟩
    rw[hrec]; exact World.putObj_heap_same (Array.getElem?_eq_some_iff.1 hl3).1
  | ret=>exact hp.elim
  | exit id=>exact hp.elim
  | goto t=>exact hp.elim
  | panic ch=>exact hp.elim
  | outgrown=>exact hp.elim
 rintro e W2 ⟨⟨v,rfl⟩,xs,hS,hi,hl,hk⟩
 exact⟨none,_,by have:=run_endLoop (P:=P) hl (by rw[hrec]; simp); rw[hrec]at this; exact this,hdone _ xs _ (Nat.le_refl _) hS (hI.putObj _ hi (by omega) hl rfl) ((World.putObj_heap_other (by omega)).trans hk)⟩
end OM
namespace Fx
theorem CZ{a:Act}{n p q:Nat}{u v:Value}{f:Nat->Value}(h:rD a n f)(c:p<n)(g:q<n):rD { tmps:=(#[p,q].zip #[u,v]).foldl (fun t (p,v)=>t.setIfInBounds p v) a.tmps,defers := [] } n (put (put f (some p) u) (some q) v):=by
 have b:=(h.put (d:=some p) (by simpa [inn,Nat.blt_eq] using c) u).put (d:=some q) (by simpa [inn,Nat.blt_eq] using g) v
 have e:(#[p,q].zip #[u,v]).foldl (fun t (p,v)=>t.setIfInBounds p v) a.tmps=((a.put (some p) u).put (some q) v).tmps:=by simp[Array.zip,Act.put]
 rw[e]; exact⟨b.size,b.get⟩
theorem W0.Rm{P:Program}{n m:Nat}{Q:pG}{f:Nat->Value}{ds:List Deferred}{w:World}{c:Type}{g:Operand}{p q:Tmp}{E G:Code}{gf:Nat}{lb:Array Value}(h1:1<=m)(hg:ev f g = .func (.func gf) #[] lb)(J : ∀ z w,(callFunc gf z).run P w = .ok (.enter gf z) w)
 {eu Xo:c->Value} {d:World->World->Prop} {S:List c->Prop} {N:Nat} {s:World->Prop} (hseq:OM.Rl (FR none) (m-1) P gf lb (fun x => #[eu x,Xo x]) d S N s)
 (R:s w) (T : ∀ W o,w.heap.size<=W.heap.size->s W->s (W.alloc o)) (V : ∀ {A B C:World},d A B->d B C->d A C) (U : ∀(W:World) (l:Nat) (o o':Obj),w.heap.size<=l->W.heap[l]? = some o->o.isCells=false->d W (W.putObj l o')) (hp:p<n) (hq:q<n)
 (I:List c->World->Prop) (O:OM.EK w.heap.size I) (L:I [] w) (A:c->(Nat->Value)->Prop)
 (X : ∀(l:Nat) (x:c) (W:World),W0 (some l) (m-1-1) P n E (fun e b H h=>e = .normal/\H = []/\A x b/\h=W) (put (put f (some p) (eu x)) (some q) (Xo x)) [] W)
 (Y : ∀(l:Nat) (r:List c) (x:c) (W:World) (b:Nat->Value),A x b->I r W->r.length<N->w.heap.size<=W.heap.size->W0 (some l) (m-1-1) P n G (fun e K H h=>e = .normal/\OM.KeepsFrom w.heap.size W h/\d W h/\I (r ++ [x]) h) b [] W)
 (aa : ∀(D:Nat) (u:List c) (W:World),w.heap.size<=D->S u->I u W->W.heap[D]? = some (.deferred (some []))->Q .normal f ({ target := .collected D,args := #[] }::ds) W):W0 none m P n (.rangeFunc g #[p,q] E G) Q f ds w:=fun a t Z=>by
 refine OM.vH (F:=FR none) rfl h1 (by rw[t.ev]; exact hg) trivial J hseq R T V U (fun _=>rfl) I O L (fun x i => ∃ b,rD i n b/\i.defers = []/\A x b) ?_ ?_ ?_
 ·intro l x W
  refine wpIn_mono (X l x W _ (CZ t hp hq) rfl) ?_
  rintro e i w' ⟨b,y,rfl,j,k,rfl⟩
  exact⟨⟨b,y,j,k⟩,rfl⟩
 ·rintro l r x W i ⟨b,y,j,k⟩ hi hl hs
  refine wpIn_mono (Y l r x W b k hi hl hs i y j) ?_
  rintro e a'' w' ⟨K,acS,rfl,v⟩
  exact v
 ·intro D u W j k v M
  refine⟨f,⟨t.size,t.get⟩,?_⟩
  show Q .normal f (_::a.defers) W
  rw[Z]; exact aa D u W j k v M
end Fx
end Go.Proofs.YtahbiajdgealnaaDoor
namespace Go.Proofs.YtahbiajdgealnaaDoor
open Go.RowKit Rt
open Fx (eY dN fJ bC fI fH eO dS fK iq dY iw fq gT iy Lv sN Ln Ws Qv Wl Rp Wc Qs Wr Sb Lk Wk rC rV sR Rs Rn Rd Rk Wb Wx Wo Ab Wt qM Qn Ba uY Bc BF yw Bb DL jw Dt jl qh rQ DX Bd Dr BU Bf rv aC aK dn aH ev bQ Stp bS aS flat gu Mp dH bB fC gF bO down fG iR jr kZ dG bY cells_one jm bP xV unseen jv jE cO bU dA cZ dh gX iP rA iD)
set_option maxRecDepth 20000
namespace Rt
structure F9(sb:Nat)(v:Value)(W W':World):Prop where
 size:W.heap.size<=W'.heap.size
 b:W'.heap[sb]? = W.heap[sb]?
 g : ∀ g,v.ownBlock=some g->W'.heap[g]? = W.heap[g]?
theorem F9.trans{a:Nat}{v:Value}{A B C:World}(h:F9 a v A B)(k:F9 a v B C):F9 a v A C:=⟨Nat.le_trans h.size k.size,k.b.trans h.b,fun g c=>(k.g g c).trans (h.g g c)⟩
theorem F9.put{a B:Nat}{v:Value}(e:a<B)(c : ∀ g,v.ownBlock=some g->g<B)(W:World)(l:Nat)(o o':Obj)(d:B<=l):F9 a v W (W.putObj l o'):=⟨by simp,World.putObj_heap_other (by omega),fun g b=>World.putObj_heap_other (by have:=c g b; omega)⟩
theorem F9.tH{a b:Nat}{v:Value}{W c:World}(h:Stp b W c)(h1:a<W.heap.size)(f:a≠b)(e : ∀ g,v.ownBlock=some g->g<W.heap.size/\g≠b):F9 a v W c:=⟨h.size,h.block a h1 f,fun g d=>h.block g (e g d).1 (e g d).2⟩
theorem Ro{q n c s:Nat}{a:Option Addr}{x:Nat->Value}{W d:World}(l:kZ W a n s x)(r:0<s)(k:F9 q (.slice a n c) W d):kZ d a n s x:=fun h=>by
 obtain⟨b,p,e,m⟩:=l h
 refine⟨b,p,e,fun i o => ?_⟩
 have f:=m i o
 have j:=k.g b (by rw[e]; rfl)
 unfold World.cell? at f ⊢
 rw[j]; exact f
def Vq(b:Nat)(a:Option Addr)(n c:Nat)(l:List Int)(W:World):Prop:=aK W b 1 (fun _ => .slice a n c) 53/\kZ W a n 1 (qm l)
theorem Vq.alloc{f n c:Nat}{a:Option Addr}{l:List Int}{W:World}(h:Vq f a n c l W)(o:Obj):Vq f a n c l (W.alloc o) :=
 ⟨(Below.heap_alloc W o f h.1.lt).trans h.1,fun g=>by
   obtain⟨b,p,e,k⟩:=h.2 g
   refine⟨b,p,e,fun i m => ?_⟩
   have d:=k i m
   have j:=Below.heap_alloc W o b (block_lt_of_cell d)
   unfold World.cell? at d ⊢
   rw[j]; exact d⟩
theorem KU{h f B:Nat}{c:World}{F:List Nat->bW}(h1:h<c.heap.size)(j:f<c.heap.size):OM.EK c.heap.size (fun(n:List Nat) W=>kV W B h f (F n)/\Stp f c W):=fun s W i o a b m=>by
 have g : ∀ k,k<c.heap.size->i.heap[k]? = W.heap[k]? := fun k d=>b.block k (Nat.lt_of_lt_of_le d a.2.size) fun e=>by
  have:=(m k e.symm).1; omega
 exact⟨kV.keep a.1 (g h h1) (g f j),⟨b.os.trans a.2.os,b.tape.trans a.2.tape,b.output.trans a.2.output,Nat.le_trans a.2.size b.size,fun k d l=>(g k d).trans (a.2.block k d l)⟩⟩
theorem Na{w:World}{B E s n b m:Nat}{v:Value}{x:Nat->Value}{k:Nat->Int}{y:Nat->Value}(a:Fx.Own w B E s v n x)(d:Mp w b m k y){g:Nat}(c:v.ownBlock=some g):g<w.heap.size/\g≠b:=⟨(a.ge c).2,fun e=>d.kJ (by rw[<- e]; exact a.ty c)⟩
theorem Rq{T:bW}{k:Int}(h : ∀ i,i<T.n->T.x i≠k):T.par k=0:=by
 have : ∀ n,(∀ i,i<n->T.x i≠k)->eP T.x T.p n k=0:=fun n=>by
  induction n with
  | zero=>exact fun _=>rfl
  | succ n ih=>exact fun h=>by unfold eP; rw[if_neg (h n (by omega))]; exact ih fun i a=>h i (by omega)
 exact this _ h
structure JB(J:List Nat->World->Prop)(pre:List Nat)(w:World):Prop where
 ab:OM.F8 J
 j:J pre w
end Rt
theorem Xp(a:Option Addr)(n c:Nat)(w:World) :
 Calls Tryd.prog 168 #[.slice a (n) (c)] w fun e w' => ∃ d,e = .returned (.func (.func 179) #[] #[(pt d)])/\w.heap.size<=d/\aK w' d 1 (fun _ => .slice a n c) 53/\Below w.heap.size w w':=by
 refine Kent Tryd.func168 4 ?_
 refine ay<|nZ (.slice a (n) (c)) fun b l h f j m => ?_
 have g:=aQ j.old (Below.refl w.heap.size w)
 have i:=gP h
 have k:=f.lt
 refine av (.nilFunc)<|aD<|ay<|Lv (.func (.func 179) #[] #[(pt b)]) (Fx.iK (us := []) (vs := [(pt b)]) rfl rfl rfl)<|av (.func (.func 179) #[] #[(pt b)])<|aD<|Wr<|aL (.func (.func 179) #[] #[(pt b)]) ?_
 exact⟨b,rfl,i,f,g⟩
theorem Ur(J:List Nat->World->Prop)(h d c:Nat)(a:Option Addr)(l:List Int)(w:World)(o:aK w d 1 (fun _ => .slice a (l.length) (c)) 53)(I:kZ w a l.length 1 (qm l))(n:JB J [] w)(U:l.length<=1000)
 (L : ∀ r x m,J r m->r.length<l.length->Go.YieldAt (Fx.FR none) 1 Tryd.prog h #[au (x:Nat),aA (l.getD x 0)] m fun e y=>e = .returned (.bool true)/\J (r ++ [x]) y/\F9 d (.slice a l.length c) m y) :
  Calls Tryd.prog 179 #[.func (.yield h) #[] #[],(pt d)] w fun e w'=>(∃ v,e = .returned v) /\ ∃ F,F=yh l.length l.length/\J F w':=by
 have V:=o.lt
 have n:JB J (yh l.length (l.length-l.length)) w:=by rw[Nat.sub_self]; exact n
 refine Kent Tryd.func179 19 ?_
 refine ay<|Lv (.slice a (l.length) (c)) (aP o.aM 0)<|av (au l.length)<|Lv (au ((l.length:Int)-1)) iC<|av (au ((l.length:Int)-1))<|aD<|Wb<|Wo (fun f u => ∃ k:Nat,k<=l.length/\f 0 = .func (.yield h) #[] #[]/\f 1=(pt d)/\f 3=au ((k:Int)-1)/\aK u d 1 (fun _ => .slice a (l.length) (c)) 53/\kZ u a l.length 1 (qm l)/\JB J (yh l.length (l.length-k)) u) (fun f _=>(intOf (f 3)+1).toNat) ⟨l.length,(Nat.le_refl _),(by rfl),(by rfl),Fx.ic,o,I,n⟩ ?_
 rintro S X ⟨k,T,A,B,g,D,E,p⟩
 refine Ws<|ay<|aX g ?_
 by_cases z:0<=((k:Int)-1)
 ·refine Lv aI (nY z)<|aD<|aT<|Wk<|sN<|Ws<|Wb<|Ws<|Fx.W.Oe 2<|Fx.Ly.v (.func (.yield h) #[] #[]) (eY rfl A) ?_
  refine Fx.Ly.v (au ((k:Int)-1)) (eY rfl g) ?_
  refine Fx.Ly.v (.slice a (l.length) (c)) (bC (x:=fun _ => .slice a (l.length) (c)) rfl B (by kernel_rfl) D.aM (i:=0) (by omega) (by omega) rfl) ?_
  refine Fx.Ly.v (au ((k:Int)-1)) (eY rfl g) ?_
  obtain⟨G,Q,H,M⟩:=E (by omega)
  refine Fx.Ly.v ((pf G (k+Q-1))) (dS rfl (rfl.trans (congrArg (fun q=>Value.slice q (l.length) (c)) H)) rfl Tryd.underlying53 (s:=1) (by kernel_rfl) (by omega) (by omega) (by omega)) ?_
  refine Fx.Ly.v (aA (l.getD (k-1) 0)) (bC (x:=qm l) rfl rfl (by kernel_rfl) M (i:=k-1) (by omega) (by omega) rfl) ?_
  refine Fx.Ly.yield (l:=h) (args := [au ((k:Int)-1),aA (l.getD (k-1) 0)]) rfl rfl rfl (Fx.args2 rfl rfl) rfl (by have:=L (yh l.length (l.length-k)) (k-1) _ p.j (by rw[F7]; omega); rw[show(((k-1:Nat)):Int)=(k:Int)-1 by omega]at this; exact this) ?_
  rintro R t ⟨rfl,K,C⟩
  refine⟨.bool true,rfl,?_⟩
  have N:aK t d 1 (fun _ => .slice a (l.length) (c)) 53:=C.b.trans D
  have O:kZ t a l.length 1 (qm l):=Ro E (by decide) C
  have P:JB J (yh l.length (l.length-(k-1))) t:=⟨p.ab,by rw[show l.length-(k-1)=(l.length-k)+1 by omega]; unfold yh; rw[show l.length-1-(l.length-k)=k-1 by omega]; exact K⟩
  refine Fx.Ly.v (.bool false) (Fx.Im rfl rfl) ?_
  refine Fx.Ly.nil ?_
  refine sN<|aN<|Wk<|dA<|sN<|Wl<|aX g<|Lv (au ((k:Int)-2)) iC<|av (au ((k:Int)-2))<|Ln<|iP ⟨k-1,(by omega),A,B,Fx.ic,N,O,P⟩ ?_
  show(intOf ((au ((k:Int)-2)))+1).toNat<_
  simp only[g,intOf]; omega
 refine Lv aF (nu z) (aD (aN (Wx (cZ (gX (dh (⟨.tuple #[],fG Tryd.results179,?_⟩)))))))
 exact⟨⟨_,rfl⟩,_,rfl,by have:=p.j; rw[show l.length-k=l.length by omega]at this; exact this⟩
theorem Ru(b c:Nat)(a:Option Addr)(l:List Int)(i:l.length<=1000) :
 OM.Rl (Fx.FR none) 2 Tryd.prog 179 #[(pt b)] (fun x:Nat => #[au (x:Int),aA (l.getD x 0)]) (F9 b (.slice a l.length c)) (fun k=>k=yh l.length l.length) l.length (Vq b a l.length c l) :=
 fun j J W ⟨h,e⟩ g f d=>callsIn_wide.2 (Ur J j b c a l W h e ⟨g,d⟩ i f)
namespace Rt
theorem Ga{l:List Int}{T:bW}(b:T.ok)(h : ∀ k,k∈l->T.has k=true)(x:Nat):0<=l.getD x 0/\l.getD x 0<=18446744073709551615:=by
 by_cases a:x<l.length
 ·have d:l.getD x 0∈l:=by rw[List.getD_eq_getElem?_getD,List.getElem?_eq_getElem a]; exact List.getElem_mem a
  obtain⟨i,c,e⟩:=dV (h _ d)
  rw[<- e]; exact KP b c
 rw[List.getD_eq_getElem?_getD,List.getElem?_eq_none (by omega)]; decide
theorem Gb{l:List Int}{T:bW}{pa:Int}(a:T.ok)(e:l=T.path pa)(x:Nat):0<=l.getD x 0/\l.getD x 0<=18446744073709551615:=Ga a (fun k d=>by
 obtain⟨i,b,c⟩:=List.getElem_of_mem d
 have:=bW.EI a e b
 rw[List.getD_eq_getElem?_getD,List.getElem?_eq_getElem b]at this
 rw[<- c]; exact this) x
theorem Nb{l:List Int}{T:bW}(a:T.ok)(h : ∀ k,k∈l<->T.has k=true)(x:Nat):0<=l.getD x 0/\l.getD x 0<=18446744073709551615:=Ga a (fun k b=>(h k).1 b) x
end Rt
theorem Rv(m:dz)(u B:Nat)(w:World)(h:gZ w B u m)(id pa:Int)(hid:0<=id/\id<=18446744073709551615) :
 Calls Tryd.prog 153 #[(pt u),aA id,aA pa] w fun e w'=>e = .returned (au (m.T.err id pa))/\Below w.heap.size w w':=by
 have hC:=h.c
 have hT:=h.t
 have hP:=h.p
 have hR:=h.r
 have hG:=h.g
 have hA:=h.a
 have hN:=h.ne
 have lC:=h.c.lt
 have lT:=h.t.lt
 have lP:=h.p.lt
 have lR:=h.r.lt
 have lG:=h.g.lt
 have lA:=h.a.lt
 refine Fx.Rj 3 Tryd.func153 rfl (n:=55) rfl (by rfl) ?_
 refine Fx.W0.seq<|Fx.W0.list<|nZ ((pt u)) fun g1 w1 rF m1 s1 z1 => ?_
 have⟨m2,m3,m4,m5,m6,m7,b1⟩:=DY s1.old hC hT hP hR hG hA (Below.refl w.heap.size w)
 have xW:=gP rF
 have⟨mJ,qK,uP,uQ,uR⟩:=tC rF hC.lt hP.lt hR.lt hG.lt hA.lt
 have yC:=m1.lt
 refine av (au 0)<|Ln<|Fx.jV<|Fx.W0.seq<|Fx.W0.list<|jT (OA _) ?_
 rintro e9 w2 ⟨y,j,v,hg1,m8,hb1⟩
 refine⟨_,v,?_⟩
 clear v
 have nem.ZY:m.mb≠j:=Nat.ne_of_lt (Nat.lt_of_lt_of_le m3.lt hg1)
 have⟨m9,m10,m11,m12,m13,m14,m15,b2⟩:=BK hb1 m2 m3 m4 m5 m6 m7 m1 b1
 have m16:kV w2 (w.heap.size) y j bW.zero:=m8.weak b1.size
 clear m8 hg1
 refine oo 1 (fun _ => .pointer none) fun M w3 zy m17 s3 z2 => ?_
 have⟨m18,m19,m24,rG,b3⟩:=ql s3.old m9 m10 m15 m16 b2
 have Bo:=iT zy b2.size
 have⟨Rw,Xq,Xr,Xt,Xu,Xv⟩:=BL zy m9.lt m11.lt m12.lt m13.lt m14.lt m15.lt
 have Dy:=m17.lt
 refine mX m17 0 ((pt y)) fun w4 rY s4 z3 => ?_
 have tL:aK w4 M 1 (fun _=>(pt y)) 85:=cO rY
 have iZ:=jw s4 m17.ty
 have⟨vO,wR,ou,sU⟩:=SV iZ m18 m19 m24 rG
 have b4:=s4.below b3 b3.size (by omega)
 refine Ln<|Fx.jV<|Fx.W0.seq<|Fx.W0.list<|Lv ((pt u)) (aP ou.aM 0)<|av ((pt u))<|av ((pf u 18))<|Lv ((pt m.tp)) (aP vO.aM 18)<|av (aA pa)<|jT (Al pa wR) ?_
 rintro e9 w5 ⟨G,H,v,uH,hb2⟩
 refine⟨_,v,?_⟩
 clear v
 have⟨sV,uI,wT,b5⟩:=jY hb2 ou sU tL b4
 obtain⟨l,K⟩ : ∃ q,q=bW.path m.T pa:=⟨_,rfl⟩
 rw[<- K]at uH ⊢
 have hl4:l.length<=4:=by rw[K]; exact bW.sJ
 refine av (.slice G (l.length) (H))<|Ln<|Fx.jV<|Fx.W0.seq<|Fx.W0.seq<|Fx.W0.list<|av (.slice G (l.length) (H))<|jT (Xp G l.length H _) ?_
 rintro e9 w6 ⟨sb1,v,hg2,uJ,hb3⟩
 refine⟨_,v,?_⟩
 clear v
 have⟨wV,F,yc,vw,V⟩:=ql hb3 sV uI wT uH b5
 refine Ln<|Fx.jV<|Fx.W0.block ?_
 have Ut:g1≠j:=F.map.ne wV.ty
 have acT:=wV.lt
 have Uu:M≠j:=F.map.ne yc.ty
 have acU:=yc.lt
 have OO:sb1≠j:=F.map.ne uJ.ty
 have Uv:=uJ.lt
 have hgm:=F.gm
 have Xw:=F.lt
 have ltt:=F.blk.lt
 have L : ∀ g,(.slice G (l.length) (H):Value).ownBlock=some g->g<w6.heap.size/\g≠j:=fun g A=>Na vw F.map A
 refine Fx.W0.Rm (gf:=179) (lb := #[(pt sb1)]) (eu:=fun x:Nat=>au (x:Int)) (Xo:=fun x=>aA (l.getD x 0)) (by decide) rfl (fun args w=>gI Tryd.func179 (by kernel_rfl) rfl args w) (Ru sb1 H G l (by omega)) ⟨uJ,Fx.QD vw⟩ (fun W o _ hi=>hi.alloc o) (fun h k=>h.trans k) (fun W l o o' K _ _=>F9.put Uv (fun g A=>(L g A).1) W l o o' K) (by decide) (by decide) (fun xs W=>kV W (w.heap.size) y j (DI m.T l xs)/\Stp j w6 W) (KU ltt Xw) ⟨F,jl _ _⟩ (fun x f=>f 3=(pt g1)/\f 7=(pt M)/\f 10=aA (l.getD x 0)) ?_ ?_ ?_
 ·intro ly x W
  exact Fx.W0.list (Lv (aA (l.getD x 0)) (dN rfl rfl) (Ln ⟨rfl,rfl,⟨rfl,rfl,rfl⟩,rfl⟩))
 ·rintro ly pre x W f9 ⟨q3,q7,Z0⟩ ⟨Tg,s⟩ hpl hWs
  have I:Below w.heap.size w W:=s.below V V.size hgm
  have E:=h.up I
  have Vr:=E.p
  have N:=E.c
  have O:=E.t
  have R:=wV.dX s Ut
  have Uw:=R.lt
  have S:=yc.dX s Uu
  have Ux:=S.lt
  have lWm:j<W.heap.size:=Nat.lt_of_lt_of_le Xw s.size
  have Xx:w6.heap.size<=W.heap.size:=s.size
  have lCW:=N.lt
  have lPW:=Vr.lt
  have lTW:=O.lt
  have lh0:=h.t.lt
  have lh1:=h.p.lt
  refine Fx.W0.block ?_
  -- region 5 draws
  refine Fx.W0.Uo [1,6,0,2,3,4,5,7,8] [4,0,4,0,0,4,0,4,3] Fx.Mk qh Fx.Mk.trans (fA := [(8,0,[0]),(8,2,[7,5,4,3,2]),(8,5,[7,5]),(8,7,[7])]) (by kernel_rfl) (by kernel_rfl) (by kernel_rfl) (by kernel_rfl) (by kernel_rfl) fun rE gL ig => ?_
  have s7:Stp W.heap.size W rE:=Sb gL
  have⟨rZ,vP,Bj,qF,yE,qG⟩:=wG gL N Vr O R S Tg
  have b7:=(jl j W).then s7 (.inr (jl j W).size)
  refine bE Z0<|bE Z0<|Rs ((pt y)) (aP yE.aM 0 (ha:=q7)) ?_
  refine Rs ((pt u)) (aP qF.aM 0 (ha:=q3)) ?_
  refine aY ((pt u))<|aY ((pf u 19))<|Rs (.map (some m.pb)) (aP rZ.aM 19) ?_
  rcases Fx.kL m.T.x m.T.n (l.getD x 0)with ⟨KV,uS,uT⟩|fE
  ·refine Rs (aA (m.T.p KV)) (Fx.rT (z:=aA 0) rfl rfl rfl vP Tryd.underlying87 Tryd.underlying22 (by rfl) uS uT rfl) ?_
   refine fU<|eG (Cm (l.getD x 0) (m.T.p KV) qG (Gb h.t.inv K x)) _ rfl ?_
   rintro w7 ⟨yX,s8⟩
   have P:=qG.uG s8
   have m64:=rZ.bV P
   have Cj:=vP.bV P (by omega)
   have Ck:=Bj.bV P (by omega)
   have yF:=qF.bV P
   have Bl:=yE.bV P
   have X:=b7.then s8 (.inl rfl)
   refine Ln<|Rn<|Fx.CY ?_
   have ep:m.T.par (l.getD x 0)=m.T.p KV:=vL E.t.inv.inj uS uT
   refine⟨rfl,⟨X.size,fun q hq hq2=>X.block q hq2 (by omega)⟩,F9.tH X (by omega) OO (fun g A=>⟨Nat.lt_of_lt_of_le (L g A).1 Xx,(L g A).2⟩),?_,s.then X (.inl rfl)⟩
   rw[xL,ep]; exact yX
  refine Rs (aA 0) (Fx.Fq (z:=aA 0) rfl rfl rfl vP Tryd.underlying87 Tryd.underlying22 (by rfl) fE) ?_
  refine fU<|eG (Cm (l.getD x 0) 0 qG (Gb h.t.inv K x)) _ rfl ?_
  rintro w8 ⟨yg,s9⟩
  have Q:=qG.uG s9
  have Bn:=rZ.bV Q
  have wW:=vP.bV Q (by omega)
  have Ai:=Bj.bV Q (by omega)
  have yG:=qF.bV Q
  have GL:=yE.bV Q
  have Y:=b7.then s9 (.inl rfl)
  refine Ln<|Rn<|Fx.CY ?_
  have ep:m.T.par (l.getD x 0)=0:=Rq fE
  refine⟨rfl,⟨Y.size,fun q hq hq2=>Y.block q hq2 (by omega)⟩,F9.tH Y (by omega) OO (fun g A=>⟨Nat.lt_of_lt_of_le (L g A).1 Xx,(L g A).2⟩),?_,s.then Y (.inl rfl)⟩
  rw[xL,ep]; exact yg
 rintro D xs W hD rfl ⟨Tg,s⟩ hK
 have I:Below w.heap.size w W:=s.below V V.size hgm
 have E:=h.up I
 have Vr:=E.p
 have N:=E.c
 have O:=E.t
 have R:=wV.dX s Ut
 have Uw:=R.lt
 have S:=yc.dX s Uu
 have Ux:=S.lt
 have lWm:j<W.heap.size:=Nat.lt_of_lt_of_le Xw s.size
 have Xx:w6.heap.size<=W.heap.size:=s.size
 have lCW:=N.lt
 have lPW:=Vr.lt
 have lTW:=O.lt
 have lh0:=h.t.lt
 have lh1:=h.p.lt
 have lDW:=(Array.getElem?_eq_some_iff.1 hK).1
 have oW:=vw.dX s (fun e=>(L _ e).2 rfl)
 refine Fx.CY<|Fx.jV<|Fx.W0.seq<|Fx.W0.seq<|Fx.W0.list<|Lv ((pt u)) (aP R.aM 0) ?_
 refine av ((pt u))<|av ((pf u 18))<|Lv ((pt m.tp)) (aP N.aM 18)<|jT (QA O) ?_
 rintro e9 w9 ⟨Vs,C,d,v,yY,hq1,ade,hb4⟩
 refine⟨_,v,?_⟩
 clear v
 have s10:=Sb hb4
 have⟨Aj,yZ,Dx⟩:=kI hb4 S Tg oW
 have b10:=(jl j W).then s10 (.inr (jl j W).size)
 refine av (au d.length)<|av (au 0)<|Ln<|Fx.jV<|Fx.W0.block<|Fx.W0.loop (fun f U => ∃ i:Nat,i<=d.length/\f 1=aA id/\f 2=aA pa/\f 7=(pt M)/\f 8 = .slice G (l.length) (H)/\f 37 = .slice Vs (d.length) (C)/\f 38=au ((d.length:Int))/\f 39=au ((i:Int))/\aK U M 1 (fun _=>(pt y)) 85/\kV U (w.heap.size) y j (gW l d (DI m.T l (yh l.length l.length)) i)/\Fx.Own U W.heap.size 22 1 (.slice Vs (d.length) (C)) d.length (qm d)/\Fx.Own U w4.heap.size 22 1 (.slice G (l.length) (H)) l.length (qm l)/\Stp j W U) (fun f _=>((d.length:Int)-intOf (f 39)).toNat) ⟨0,(by omega),Fx.ic,Fx.ic,(by rfl),(by rfl),(by rfl),Fx.ic,Fx.ic,Aj,yZ,yY,Dx,b10⟩ ?_
 rintro f1 Bg ⟨i,hi,h1,h2,h3,h4,h5,h6,J,Ee,FH,GQ,Ib,b11⟩
 refine Fx.W0.seq<|Fx.W0.list ?_
 by_cases c40:(i:Int)<(d.length:Int)
 ·refine Lv aI (nV c40 (hx:=J) (hy:=h6)) (Ln (Fx.jV (Fx.W0.seq (Fx.W0.cond (b:=true) rfl (fun _=>Fx.W0.skip (Fx.jV (Fx.W0.seq (Fx.W0.block (Fx.W0.seq (Fx.W0.list ?_)))))) (fun h=>nomatch h)))))
  obtain⟨OP,aa⟩:=GQ.addr (by omega)
  have FI:Fx.Own Bg W.heap.size 22 1 (bH OP d.length C) d.length (qm d):=GQ.oD (congrArg (fun q=>Value.slice q d.length C) aa)
  refine Lv ((pf OP i)) (cK 1 (hx:=(h5.trans (congrArg (fun q=>Value.slice q (d.length) (C)) aa))) (hi:=J))<|Lv (aA (d.getD i 0)) (aP FI.aM i)<|av (aA (d.getD i 0))<|Ln<|Fx.jV<|Fx.W0.seq<|Fx.W0.list<|aX h4<|av (aA (d.getD i 0))<|eG (V5 l (d.getD i 0) _ _ _ _ Ib (by omega)) (ax := #[.slice G (l.length) (H),aA (d.getD i 0)]) _ rfl ?_
  intro Sr hb5
  have s11:=Sb hb5
  have⟨FJ,GR,Ic,L9⟩:=jY hb5 Ee FH Ib FI
  have b12:=b11.then s11 (.inr b11.size)
  by_cases Z:d.getD i 0∈l
  ·skip
   refine Lv aF (Fx.Im rfl (congrArg Value.bool (decide_eq_true Z)))<|Ln<|Fx.jV<|Fx.W0.cond (b:=false) rfl (fun h=>nomatch h)<|fun _=>Fx.W0.skip<|Fx.CY<|Fx.jV<|Fx.W0.list<|Lv (au ((i:Int)+1)) (gD (hx:=J))<|av (au ((i:Int)+1))<|Ln ?_
   have Nc:Fx.Own Sr W.heap.size 22 1 (.slice Vs (d.length) (C)) d.length (qm d):=L9.oD (congrArg (fun q=>Value.slice q d.length C) aa.symm)
   have Ma:kV Sr (w.heap.size) y j (gW l d (DI m.T l (yh l.length l.length)) (i+1)):=by unfold gW; rw[if_pos Z]; exact GR
   skip
   refine Fx.Um ⟨i+1,(by omega),(h1.trans Fx.ic),(h2.trans Fx.ic),h3,h4,h5,(h6.trans Fx.ic),Fx.ic,FJ,Ma,Nc,Ic,b12⟩ ?_
   show((d.length:Int)-intOf ((au ((i:Int)+1)))).toNat<_
   simp only[J,intOf]; omega
  skip
  refine Lv aI (Fx.Ph rfl (congrArg Value.bool (decide_eq_false Z))) (Ln (Fx.jV (Fx.W0.cond (b:=true) rfl (fun _=>Fx.W0.list (Lv ((pt y)) (aP FJ.aM 0 (ha:=h3)) ?_)) (fun h=>nomatch h))))
  refine av (aA (d.getD i 0))<|eG (Cm (d.getD i 0) 0 GR (Nb h.t.inv hq1.2 i)) _ rfl ?_
  rintro Sv ⟨Nf,s12⟩
  have Rx:=GR.uG s12
  have KW:=FJ.bV Rx
  have OQ:=Ic.bV Rx
  have OT:=L9.bV Rx
  have b13:=b12.then s12 (.inl rfl)
  refine Ln<|Fx.CY<|Fx.jV<|Fx.W0.list<|Lv (au ((i:Int)+1)) (gD (hx:=J))<|av (au ((i:Int)+1))<|Ln ?_
  have Ry:Fx.Own Sv W.heap.size 22 1 (.slice Vs (d.length) (C)) d.length (qm d):=OT.oD (congrArg (fun q=>Value.slice q d.length C) aa.symm)
  have OU:kV Sv (w.heap.size) y j (gW l d (DI m.T l (yh l.length l.length)) (i+1)):=by unfold gW; rw[if_neg Z]; exact Nf
  skip
  refine Fx.Um ⟨i+1,(by omega),(h1.trans Fx.ic),(h2.trans Fx.ic),h3,h4,h5,(h6.trans Fx.ic),Fx.ic,KW,OU,Ry,OQ,b13⟩ ?_
  show((d.length:Int)-intOf ((au ((i:Int)+1)))).toNat<_
  simp only[J,intOf]; omega
 refine Lv aF (nW c40 (hx:=J) (hy:=h6))<|Ln<|Fx.jV<|Fx.W0.seq<|Fx.W0.cond (b:=false) rfl (fun h=>nomatch h)<|fun _=>Fx.W0.exit<|Fx.Uk<|Fx.Xm<|Fx.Ul<|Fx.jV<|Fx.W0.seq ?_
 have hil:i=d.length:=by omega
 refine Fx.W0.list<|Lv ((pt y)) (aP Ee.aM 0 (ha:=h3)) ?_
 refine aX h1<|aX h2<|eG (Cm id pa FH hid) _ rfl ?_
 rintro Vh ⟨Hw,s13⟩
 have Rz:=FH.uG s13
 have Hy:=Ee.bV Rz
 have EL:=GQ.bV Rz
 have EM:=Ib.bV Rz
 have b14:=b11.then s13 (.inl rfl)
 refine av (au (bW.err (gW l d (DI m.T l (yh l.length l.length)) i) id pa))<|Ln<|Fx.jV<|Fx.W0.ret ?_
 have hKD:=(b14.block D lDW (by omega)).trans hK
 have eD:bW.err (gW l d (DI m.T l (yh l.length l.length)) d.length) id pa=m.T.err id pa:=M9 h.t.inv K hq1
 refine Fx.leaveD hKD (rV Tryd.results153 (show Fx.DT Tryd.prog _ _ (.tmp 6) (au (bW.err (gW l d (DI m.T l (yh l.length l.length)) i) id pa))from rfl)) ⟨by rw[hil,eD],?_⟩
 exact(b14.below I I.size hgm).grown (grownBy_putObj' _ D _) (b14.below I I.size hgm).size fun r e=>by cases e; omega
end Go.Proofs.YtahbiajdgealnaaDoor
namespace Go.Proofs.YtahbiajdgealnaaDoor
open Go.RowKit
set_option linter.unusedVariables false
namespace Fx
abbrev HY:=List (Nat × List Nat)
def zB(ops:List Oper)(a:List Nat)(b:Bool)(i:Nat)(l:HY):Bool:=l.all fun x=>match a[x.1]? with|some e => !Nat.beq i e&&(if b then oC ops i x.2 e else oC ops e x.2 i)|none=>false
def EN(ops:List Oper)(a:List Nat)(c b:List HY):Bool:=(List.range ops.length).all fun i=>zB ops a true i (c.getD i [])&&zB ops a false i (b.getD i [])
def jO(a:List Nat)(b:Array Bool)(j:Nat):Bool:=match a[j]? with|some e=>b.getD e false|none=>false
def KX(m:Nat->Bool)(j:Nat):Nat->Bool:=fun q=>bif Nat.beq q j then true else m q
section
variable {P:Program} {n:Nat} {Q:Post} {f:Nat->Value} {w:World} {ops:List Oper}
theorem HZ{i e:Nat}{p:List Nat}{b:Array Bool}(hr:i∈Region.ready .any ops.toArray b)(j:Bv ops.toArray .any b)(d:i≠e)(h:oC ops i p e=true):b.getD e false=true:=by
 obtain⟨m,n,l,g⟩:=dF hr
 obtain⟨f,h⟩:=fu h
 cases f with
 | zero=>unfold reach at h; exact absurd (by simpa using h) d
 | succ f =>
   unfold reach at h
   rw[Bool.or_eq_true]at h
   rcases h with h|h
   ·exact absurd (by simpa using h) d
   ·rw[l]at h
    simp only at h
    rw[Array.any_eq_true']at h
    obtain⟨c,k,a⟩:=h
    rw[Bool.and_eq_true]at a
    refine j.reach _ _ a.2<|g c.on ?_
    unfold bJ
    rw[Array.any_eq_true']
    exact⟨c,k,by rw[a.1,Nat.beq_refl]; rfl⟩
theorem W.masks{id:Nat}(o:List Nat)(V Z:List HY)(y:Gh->Nat->Value)(S:(Nat->Bool)->Gh->World->Prop)(hm:P.follows .mixedOrders=true)(T:iE n ops=true)(hsel:Region.noSelect ops.toArray=true)(KY:EN ops o V Z=true)
 (hes:o.all (fun e=>Nat.blt e ops.length&&(match (opAt ops e).guard with|none=>true|_=>false))=true) (hnd:o.Nodup) (r0:Gh)
 (h0 : ∀ C,Below w.heap.size w C->C.heap.size=w.heap.size->S (fun _=>false) r0 C)
 (I : ∀ i,i<ops.length->o.contains i=false -> ∀ r m w,(∀ x∈V.getD i [],m x.1=true)->(∀ x∈Z.getD i [],m x.1=false)->S m r w->if Region.wanted (opAt ops i) (yf ops.toArray (full ops f (y r)))then Oper.quietUpon P (S m r) w (y r i) ((execOp (ev (full ops f (y r))) (opAt ops i)).run P w)else y r i=undef)
 (H : ∀ j i,o[j]? = some i -> ∀ r m w (a:Act) (K:Act->World->Prop),(∀ x∈V.getD i [],m x.1=true)->(∀ x∈Z.getD i [],m x.1=false)->m j=false->S m r w->(∀ x∈(opAt ops i).op.operands,a.eval x=ev (full ops f (y r)) x)->(∀ p w',S (KX m j) (jW r j p) w'->K (a.put (opAt ops i).dst (y (jW r j p) i)) w')->(opAt ops i).wp P a w K (lift n Q))
 (hd : ∀ i,i<ops.length -> ∀ j r p,(∀ x∈V.getD i [],x.1≠j)->o[j]? ≠ some i->j<o.length->y (jW r j p) i=y r i)
 (h : ∀ r m w',(∀ j,j<o.length->m j=true)->S m r w'->Q .normal (full ops f (y r)) w'):W P n (.region id ops.toArray true) Q f w:=fun a L=>by
 refine wp_region_any hm ?_
 have Y : ∀ i,i<ops.length->zB ops o true i (V.getD i [])=true/\zB ops o false i (Z.getD i [])=true:=fun i t=>by
  unfold EN at KY
  rw[List.all_eq_true]at KY
  have:=KY i (by simpa using t)
  rwa [Bool.and_eq_true]at this
 have hpr : ∀ i,i<ops.length -> ∀ x∈V.getD i [],∃ e,o[x.1]? = some e/\i≠e/\oC ops i x.2 e=true:=fun i t x F=>by
  have c:=(Y i t).1
  unfold zB at c
  rw[List.all_eq_true]at c
  have c:=c x F
  cases H:o[x.1]? with
  | none=>rw[H]at c; cases c
  | some e =>
    rw[H]at c
    simp only[if_true,Bool.and_eq_true]at c
    exact⟨e,rfl,fun q=>by subst q; rw[Nat.beq_refl]at c; exact absurd c.1 (by simp),c.2⟩
 have hpo : ∀ i,i<ops.length -> ∀ x∈Z.getD i [],∃ e,o[x.1]? = some e/\oC ops e x.2 i=true:=fun i t x F=>by
  have c:=(Y i t).2
  unfold zB at c
  rw[List.all_eq_true]at c
  have c:=c x F
  cases H:o[x.1]? with
  | none=>rw[H]at c; cases c
  | some e =>
    rw[H]at c
    simp only[Bool.and_eq_true]at c
    exact⟨e,rfl,by simpa using c.2⟩
 have Iy : ∀ k i,o[k]? = some i->i<ops.length/\(opAt ops i).guard=none:=fun k i hk=>by
  rw[List.all_eq_true]at hes
  have:=hes i (List.mem_of_getElem? hk)
  rw[Bool.and_eq_true]at this
  refine⟨by simpa [Nat.blt_eq] using this.1,?_⟩
  cases hg:(opAt ops i).guard with
  | none=>rfl
  | some _=>rw[hg]at this; exact absurd this.2 (by simp)
 have key : ∀(N:Nat) (b:Array Bool) (a:Act) (C:World) (r:Gh),b.size=ops.length->Bv ops.toArray .any b->Fr a n (over ops f (y r) b)->S (jO o b) r C ->
  (∀ M:List Nat,M=(List.range ops.length).filter (fun i => !b.getD i false)->M.length=N)->wpAny P .any ops.toArray (lift n Q) N b a C:=by
  intro N
  induction N with
  | zero =>
    intro b a C r U uZ L O X
    have R : ∀ i,i<ops.length->b.getD i false=true:=fun i t=>by
     have c:=List.eq_nil_of_length_eq_zero (X _ rfl)
     cases I:b.getD i false
     ·have:i∈(List.range ops.length).filter (fun i => !b.getD i false):=by simp only[List.mem_filter,List.mem_range]; exact⟨t,by rw[I]; rfl⟩
      rw[c]at this; cases this
     ·rfl
    have hnone:Region.ready .any ops.toArray b = []:=by
     cases I:Region.ready .any ops.toArray b with
     | nil=>rfl
     | cons i l =>
       have E:i∈Region.ready .any ops.toArray b:=by rw[I]; exact List.mem_cons_self
       obtain⟨c,D,_,_⟩:=dF E
       rw[R i D]at c; cases c
    refine⟨hnone,full ops f (y r),?_,h r _ C (fun j A => ?_) O⟩
    ·have:over ops f (y r) b=full ops f (y r):=by
      funext s
      unfold over full
      cases Y:writer ops s with
      | none=>rfl
      | some i=>simp only; rw[if_pos (R i (iQ Y).2)]
     exact this ▸ L
    ·unfold jO
     rw[List.getElem?_eq_getElem A]
     exact R _ (Iy j _ (List.getElem?_eq_getElem A)).1
  | succ N ih =>
    intro b a C r U uZ L O X
    have hcount : ∀ i,i∈Region.ready .any ops.toArray b -> ∀ M:List Nat,M=(List.range ops.length).filter (fun j => !(b.setIfInBounds i true).getD j false)->M.length=N:=by
     intro i E M Pp
     obtain⟨c,D,_,_⟩:=dF E
     subst Pp
     have e:(List.range ops.length).filter (fun j => !(b.setIfInBounds i true).getD j false)=((List.range ops.length).filter (fun i => !b.getD i false)).erase i:=by
      rw[List.Nodup.erase_eq_filter (List.Nodup.sublist List.filter_sublist List.nodup_range),List.filter_filter]
      apply List.filter_congr
      intro j A
      by_cases e:i=j
      ·subst e; rw[set_self (by rw[U]; exact D)]; simp
      ·rw[gJ e]
       have:(j != i)=true:=by simp; exact fun q=>e q.symm
       rw[this,Bool.true_and]
     rw[e,List.length_erase_of_mem (by simp only[List.mem_filter,List.mem_range]; exact⟨D,by rw[c]; rfl⟩),X _ rfl]
     rfl
    refine⟨fun hnone => ?_,fun i E => ?_⟩
    ·exfalso
     have hlen:=X _ rfl
     exact(by
      have : ∃ i,i∈Region.ready .any ops.toArray b:=by
       obtain⟨q,I⟩ : ∃ q,q∈(List.range ops.length).filter (fun i => !b.getD i false):=by
        cases hfe:(List.range ops.length).filter (fun i => !b.getD i false)with
        | nil=>rw[hfe]at hlen; cases hlen
        | cons q l=>exact⟨q,List.mem_cons_self⟩
       have DU : ∀ m q,q<=m->q<ops.length->b.getD q false=false -> ∃ i,i<ops.length/\b.getD i false=false /\ ∀ j,j<i->b.getD j false=true:=by
        intro m
        induction m with
        | zero=>intro q hm B hq2; exact⟨q,B,hq2,fun j A=>by omega⟩
        | succ m VK =>
          intro q hm B hq2
          by_cases R : ∀ j,j<q->b.getD j false=true
          ·exact⟨q,B,hq2,R⟩
          ·obtain⟨j,A⟩:=Classical.not_forall.1 R
           obtain⟨hj1,hj2⟩:=Classical.not_imp.1 A
           exact VK j (by omega) (by omega) (by simpa using hj2)
       simp only[List.mem_filter,List.mem_range]at I
       obtain⟨i,t,hi1,hi2⟩:=DU q q (Nat.le_refl _) I.1 (by simpa using I.2)
       refine⟨i,mem_ready.2 ⟨getD_in (by rw[U]; exact t) hi1,opAt ops i,?_,fun e H hb=>hi2 e.on ((dD T t).2.2.2 e.on ?_)⟩⟩
       ·unfold opAt; rw[List.getElem?_toArray,List.getD_eq_getElem?_getD,List.getElem?_eq_getElem t]; rfl
       ·unfold bJ; rw[Array.any_eq_true']; exact⟨e,H,by rw[hb,Nat.beq_refl]; rfl⟩
      obtain⟨i,t⟩:=this
      rw[hnone]at t; cases t)
    ·obtain⟨c,t,hop,R⟩:=dF E
     have hsz':(b.setIfInBounds i true).size=ops.length:=by simpa using U
     have BA:=uZ.set E
     have hev:=E9 (f:=f) T (v:=y r) E
     have hae : ∀ x∈(opAt ops i).op.operands,a.eval x=ev (full ops f (y r)) x:=fun x F=>by rw[L.ev]; exact hev x F
     have hex:execOp a.eval (opAt ops i)=execOp (ev (full ops f (y r))) (opAt ops i):=execOp_congr _ (Region.noSelect_spec hsel i _ · · hop) hae
     have hwant:Region.wanted (opAt ops i) (yielded ops.toArray a.tmps)=Region.wanted (opAt ops i) (yf ops.toArray (full ops f (y r))):=by rw[L.yf]; exact uE T E
     have hpre : ∀ x∈V.getD i [],jO o b x.1=true:=fun x F=>by
      obtain⟨e,D,h3,G⟩:=hpr i t x F
      unfold jO
      rw[D]; exact HZ E uZ h3 G
     have hpost : ∀ x∈Z.getD i [],jO o b x.1=false:=fun x F=>by
      obtain⟨e,D,G⟩:=hpo i t x F
      unfold jO
      rw[D]
      cases hle:b.getD e false with
      | false=>exact hle
      | true =>
        obtain⟨mm,G⟩:=fu G
        have:=uZ.reach _ _ G hle
        rw[c]at this; cases this
     unfold wpOp
     simp only[hop]
     rw[hwant]
     by_cases hne:o.contains i=true
     ·have hmem:i∈o:=by simpa using hne
      obtain⟨j,A⟩:=List.getElem?_of_mem hmem
      have hg:=(Iy j i A).2
      have hjl:j<o.length:=(List.getElem?_eq_some_iff.1 A).1
      rw[if_pos (by unfold Region.wanted; rw[hg])]
      refine .inl<|H j i A r _ C a _ hpre hpost (by unfold jO; rw[A]; exact c) O hae fun p w' hS' => ?_
      have hsame:over ops f (y r) b=over ops f (y (jW r j p)) b:=by
       funext s
       unfold over
       cases Y:writer ops s with
       | none=>rfl
       | some q =>
         simp only
         cases hlq:b.getD q false
         ·rfl
         ·simp only[if_true]
          have hqi:=(iQ Y).2
          refine(hd q hqi j r p (fun x F e => ?_) (fun e => ?_) hjl).symm
          ·obtain⟨J,D,h3,G⟩:=hpr q hqi x F
           obtain⟨mm,G⟩:=fu G
           have h5:=uZ.reach _ _ G hlq
           rw[e,A]at D
           rw[<- Option.some.inj D,c]at h5; cases h5
          ·rw[A]at e
           rw[<- Option.some.inj e,c]at hlq; cases hlq
      refine ih _ _ _ (jW r j p) hsz' BA ?_ ?_ (hcount i E)
      ·have:=(hsame ▸ L).put (d:=(opAt ops i).dst) (by
        cases hd:(opAt ops i).dst with
        | none=>rfl
        | some d=>simp[inn,Nat.blt_eq,((dD T t).1 d hd).2]) (y (jW r j p) i)
       rwa [rP T U t]at this
      ·have e:jO o (b.setIfInBounds i true)=KX (jO o b) j:=by
        funext q
        unfold KX
        cases hb:Nat.beq q j with
        | true =>
          have:=Nat.eq_of_beq_eq_true hb
          subst this
          unfold jO
          rw[A]; exact set_self (by rw[U]; exact t)
        | false =>
          have hqj:q≠j:=fun z=>by rw[z,Nat.beq_refl]at hb; cases hb
          unfold jO
          cases hqe:o[q]? with
          | none=>rfl
          | some J =>
            have:i≠J:=fun z=>by
             subst z
             have h9:=List.getElem?_eq_some_iff.1 hqe
             have h10:=List.getElem?_eq_some_iff.1 A
             exact hqj ((List.getElem_inj hnd).1 (h9.2.trans h10.2.symm))
            exact gJ this
       rw[e]; exact hS'
     ·have hne':o.contains i=false:=by simpa using hne
      have B:=I i t hne' r _ C hpre hpost O
      have hfin : ∀ w',S (jO o b) r w'->wpAny P .any ops.toArray (lift n Q) N (b.setIfInBounds i true) (a.put (opAt ops i).dst (y r i)) w':=fun w' hS'=>by
       refine ih _ _ _ r hsz' BA ?_ ?_ (hcount i E)
       ·have:=L.put (d:=(opAt ops i).dst) (by
         cases hd:(opAt ops i).dst with
         | none=>rfl
         | some d=>simp[inn,Nat.blt_eq,((dD T t).1 d hd).2]) (y r i)
        rwa [rP T U t]at this
       ·have e:jO o (b.setIfInBounds i true)=jO o b:=by
         funext q
         unfold jO
         cases hqe:o[q]? with
         | none=>rfl
         | some J =>
           have:i≠J:=fun z=>by subst z; exact absurd (show o.contains i=true by simpa using List.mem_of_getElem? hqe) hne
           exact gJ this
        rw[e]; exact hS'
      by_cases hwt:Region.wanted (opAt ops i) (yf ops.toArray (full ops f (y r)))=true
      ·rw[if_pos hwt]at B ⊢
       refine .inl ?_
       unfold Oper.wp
       rw[hex]
       generalize (execOp (ev (full ops f (y r))) (opAt ops i)).run P C=res at B
       cases res with
       | ok nx w' =>
         cases nx <;> simp only[Oper.quietUpon]at B <;> simp only[Oper.upon]
         case value u=>obtain⟨e1,J⟩:=B; subst e1 J; exact hfin _ O
         case skip=>obtain⟨e1,J⟩:=B; subst e1; rw[<- J]; exact hfin _ O
         case enter g args =>
          obtain⟨e1,hc⟩:=B
          subst e1
          exact hc.mono fun e w'' ⟨he',hw''⟩=>by subst he'; exact hfin _ hw''
       | halt x w'=>simp only[Oper.quietUpon]at B
      ·rw[if_neg hwt]at B ⊢
       rw[<- B]
       exact hfin _ O
 have hrep : ∀ i,(Array.replicate ops.toArray.size false).getD i false=false:=fun i=>by
  rw[Array.getD_eq_getD_getElem?]
  by_cases t:i<ops.length
  ·simp[t]
  ·simp[t]
 have hstart:over ops f (y r0) (Array.replicate ops.toArray.size false)=f:=by
  funext s
  unfold over
  cases writer ops s with
  | none=>rfl
  | some i=>simp only; rw[hrep]; simp
 have hdn:jO o (Array.replicate ops.toArray.size false)=fun _=>false:=by
  funext j
  unfold jO
  cases o[j]? with
  | none=>rfl
  | some e=>exact hrep e
 have:=key ops.toArray.size (Array.replicate ops.toArray.size false) a { w with drawn:=w.drawn+1 } r0 (by simp) (Bv.start _ _ _) (by rw[hstart]; exact L) (by rw[hdn]; exact h0 _ (Below.refl _ _).drew rfl) (fun M X=>by
  subst X
  rw[List.filter_eq_self.2 (fun i _=>by rw[hrep]; rfl)]
  simp)
 simpa using this
theorem cu{r:Gh}{k j:Nat}{p:Nat × Nat}(h:j≠k):jW r k p j=r j:=by
 unfold jW
 have:Nat.beq j k=false:=by
  cases hq:Nat.beq j k
  ·rfl
  ·exact absurd (Nat.eq_of_beq_eq_true hq) h
 rw[this]; rfl
theorem C8{o:Oper}{ρ:Operand->Value}{T:TypeId}{m:Nat}{z:Nat->Value}(d:o.op = .alloc T)(e:((P.info? T).bind (·.zero)).map (·.cells)=some (aC m z))(a:World) : ∃ b,(execOp ρ o).run P a = .ok (.value (.pointer (some ⟨a.heap.size,0,none⟩))) b/\aK b a.heap.size m z T/\Stp a.heap.size a b:=by
 obtain⟨i,f,g⟩:=Option.map_eq_some_iff.1 e
 obtain⟨j,c,h⟩:=Option.bind_eq_some_iff.1 f
 refine⟨a.alloc (.cells i.cells T),?_,?_,Stp.alloc _ _⟩
 ·unfold execOp
  simp[d,Instr.alloc,zeroValue,typeInfo,c,h,newVar,newRow]
 show(a.alloc _).heap[a.heap.size]? = _
 rw[alloc_at,if_pos rfl,g]
theorem C9{o:Oper}{ρ:Operand->Value}{T d:TypeId}{a v:Operand}{m g:Nat}{x y:Nat->Value}{u:Value}(B:o.op = .store d a v)(n:(P.info? d).map (·.size)=some m)(p:ρ a = .pointer (some ⟨g,0,none⟩))(r:ρ v=u)(E:u.cells=aC m y)(h1 : ∀ j,j<m->(y j).oneCell'=true){b:World}(z:aK b g m x T) : ∃ e,(execOp ρ o).run P b = .ok .skip e/\aK e g m y T/\Stp g b e:=by
 have i:b.heap[g]? = some (.cells (aC m x) T (0,0)):=z
 have t:(aC m y).all (·.oneCell')=true:=by
  rw[Array.all_eq_true_iff_forall_mem]
  intro q C
  obtain⟨j,k,A⟩:=Array.getElem_of_mem C
  have l:j<m:=by simpa [aW] using k
  have f:=dU y l
  rw[Array.getElem?_eq_getElem k,A]at f
  rw[Option.some.inj f]; exact h1 j l
 have D:(storeVar d ⟨g,0,none⟩ u).run P b = .ok () (b.setRow g (aC m y)):=by
  have h:=run_storeCells_at (P:=P) g 0 T (aC m y).toList 0 (aC m x) b i (by simp[aW]) (fun q c=>(Array.all_eq_true_iff_forall_mem.1 t) q (by simpa using c))
  have s:((aC m x).toList.take (0+0)++(aC m y).toList++(aC m x).toList.drop (0+0+(aC m y).toList.length)).toArray=aC m y:=by
   rw[List.drop_eq_nil_of_le (by simp[aW])]; simp
  rw[s]at h
  cases c:P.info? d with
  | none=>simp[c]at n
  | some ti =>
    have F:ti.size=m:=by simp[c]at n; omega
    simp only[storeVar,sizeOf,typeInfo,Sem.run_bind,run_program,c,E,aW,F,ne_eq,not_true_eq_false,if_false,Result.andThen_ok,Sem.run_pure,h]
 obtain⟨G,H,I⟩:=qL (w:=b) (cs:=aC m y) i
 refine⟨_,?_,H,G⟩
 unfold execOp
 simp only[B,p,r,Instr.storeAt,Instr.sureAddr,Sem.run_bind,Sem.run_pure,Result.andThen_ok,D]
def uj(c d:Nat)(vs:Array Value)(a b:Nat):Nat->Value:=fun i=>bif Nat.beq i c then .pointer (some ⟨a,0,none⟩)else bif Nat.beq i d then .pointer (some ⟨b,0,none⟩)else vs.getD i undef
def AV(ops:List Oper)(f:Nat->Value)(c d:Nat)(vs:Array Value)(a b:Nat):Nat->Value:=full ops f (uj c d vs a b)
structure Ng(w:World)(m1 m2:Nat)(z1 y1 z2 y2:Nat->Value)(T1 T2:TypeId)(m:Nat->Bool)(r:Gh)(v:World):Prop where
 b:Below w.heap.size w v
 a:m 0=true->w.heap.size<=(r 0).1/\aK v (r 0).1 m1 (if m 2=true then y1 else z1) T1
 c:m 1=true->w.heap.size<=(r 1).1/\aK v (r 1).1 m2 (if m 3=true then y2 else z2) T2
 ne:m 0=true->m 1=true->(r 0).1≠(r 1).1
theorem Ng.up{m1 m2:Nat}{z1 y1 z2 y2:Nat->Value}{T1 T2:TypeId}{m:Nat->Bool}{r:Gh}{v e:World}(h:Ng w m1 m2 z1 y1 z2 y2 T1 T2 m r v)(d:Below v.heap.size v e):Ng w m1 m2 z1 y1 z2 y2 T1 T2 m r e :=
 ⟨Bt h.b d,fun q=>⟨(h.a q).1,(h.a q).2.dX (Sb d) (Nat.ne_of_lt (h.a q).2.lt)⟩,fun q=>⟨(h.c q).1,(h.c q).2.dX (Sb d) (Nat.ne_of_lt (h.c q).2.lt)⟩,h.ne⟩
def EO(P:Program)(a:Nat->Value)(ops:Array Oper)(w:World)(b:List Nat)(vs:Array Value):List Oper->Nat->Prop
 | [],_=>True
 | o::l,i=>(b.contains i=true\/(if Region.wanted o (yf ops a)then QB P (ev a) o w (vs.getD i undef)else vs.getD i undef=undef))/\EO P a ops w b vs l (i+1)
theorem zC{a:Nat->Value}{c:Array Oper}{b:List Nat}{vs:Array Value} : ∀ {l:List Oper} {k:Nat},EO P a c w b vs l k -> ∀ i,i<l.length->(b.contains (k+i)=true\/(if Region.wanted (opAt l i) (yf c a)then QB P (ev a) (opAt l i) w (vs.getD (k+i) undef)else vs.getD (k+i) undef=undef))
 | [],_,_,i,hi=>absurd hi (by simp)
 | o::l,k,h,0,_=>h.1
 | o::l,k,h,i+1,hi=>by
   have:=zC h.2 i (by simpa using hi)
   rwa [show k+1+i=k+(i+1) by omega]at this
theorem xM{i j:Nat}(h:i≠j):Nat.beq i j=false:=by
 cases hq:Nat.beq i j
 ·rfl
 exact absurd (Nat.eq_of_beq_eq_true hq) h
def um(l:HY)(j:Nat):Bool:=l.any fun x=>Nat.beq x.1 j
theorem nL{l:HY}{j:Nat}(h:um l j=true) : ∃ x∈l,x.1=j:=by
 unfold um at h
 rw[List.any_eq_true]at h
 obtain⟨x,a,b⟩:=h
 exact⟨x,a,Nat.eq_of_beq_eq_true b⟩
theorem EP{id:Nat}{T1 T2 Vt T2':TypeId}{a1 v1 a2 v2:Operand}{m1 m2:Nat}{z1 y1 z2 y2:Nat->Value}{u1 u2:Value}(k l y z:Nat)(N M:List HY)(vs:Array Value)(hm:P.follows .mixedOrders=true)(hok:iE n ops=true)(hsel:Region.noSelect ops.toArray=true)(KY:EN ops [k,l,y,z] N M=true)
 (hes : [k,l,y,z].all (fun e=>Nat.blt e ops.length&&(match (opAt ops e).guard with|none=>true|_=>false))=true) (hnd:decide [k,l,y,z].Nodup=true)
 (hw1:um (N.getD y []) 0=true) (hw2:um (N.getD z []) 1=true) (hw3:um (M.getD k []) 2=true) (hw4:um (M.getD l []) 3=true)
 (o1:(opAt ops k).op = .alloc T1) (o2:(opAt ops l).op = .alloc T2) (n1:((P.info? T1).bind (·.zero)).map (·.cells)=some (aC m1 z1)) (n2:((P.info? T2).bind (·.zero)).map (·.cells)=some (aC m2 z2))
 (U:(opAt ops y).op = .store Vt a1 v1) (V:(opAt ops z).op = .store T2' a2 v2) (X:(opAt ops y).dst=none) (Y:(opAt ops z).dst=none) (e1:(P.info? Vt).map (·.size)=some m1) (e2:(P.info? T2').map (·.size)=some m2)
 (ha1 : ∀ o s,ev (AV ops f k l vs o s) a1 = .pointer (some ⟨o,0,none⟩)) (ha2 : ∀ o s,ev (AV ops f k l vs o s) a2 = .pointer (some ⟨s,0,none⟩)) (hv1 : ∀ o s,ev (AV ops f k l vs o s) v1=u1) (hv2 : ∀ o s,ev (AV ops f k l vs o s) v2=u2)
 (hu1:u1.cells=aC m1 y1) (hu2:u2.cells=aC m2 y2) (h11 : ∀ j,j<m1->(y1 j).oneCell'=true) (h12 : ∀ j,j<m2->(y2 j).oneCell'=true)
 (hq : ∀ o s,EO P (AV ops f k l vs o s) ops.toArray w [k,l,y,z] vs ops 0)
 (h : ∀ o s w' Z,Z=AV ops f k l vs o s->w.heap.size<=o->w.heap.size<=s->o≠s->aK w' o m1 y1 T1->aK w' s m2 y2 T2->Below w.heap.size w w'->Q .normal Z w'):W P n (.region id ops.toArray true) Q f w:=by
 have hn:=of_decide_eq_true hnd
 simp only[List.nodup_cons,List.mem_cons,List.not_mem_nil,or_false,not_or]at hn
 obtain⟨⟨x12,x1s,x1t⟩,⟨x2s,x2t⟩,xst,_⟩:=hn
 refine W.masks [k,l,y,z] N M (fun r=>uj k l vs (r 0).1 (r 1).1) (Ng w m1 m2 z1 y1 z2 y2 T1 T2) hm hok hsel KY hes (of_decide_eq_true hnd) (fun _=>(0,0)) (fun w1 A _=>⟨A,fun h=>(nomatch h),fun h=>(nomatch h),fun h=>(nomatch h)⟩) ?_ ?_ ?_ ?_
 ·intro i hi T r m v _ _ d
  rcases zC (hq (r 0).1 (r 1).1) i hi with h2|h2
  ·rw[Nat.zero_add]at h2; rw[h2]at T; cases T
  rw[Nat.zero_add]at h2
  have hni':i≠k/\i≠l/\i≠y/\i≠z:=by simpa using T
  have H:uj k l vs (r 0).1 (r 1).1 i=vs.getD i undef:=by unfold uj; rw[xM hni'.1,xM hni'.2.1]; rfl
  show if Region.wanted (opAt ops i) (yf ops.toArray (AV ops f k l vs (r 0).1 (r 1).1))then Oper.quietUpon P _ v (uj k l vs (r 0).1 (r 1).1 i) ((execOp (ev (AV ops f k l vs (r 0).1 (r 1).1)) (opAt ops i)).run P v)else uj k l vs (r 0).1 (r 1).1 i=undef
  rw[H]
  by_cases hw:Region.wanted (opAt ops i) (yf ops.toArray (AV ops f k l vs (r 0).1 (r 1).1))=true
  ·rw[if_pos hw]at h2 ⊢
   rcases h2 v d.b with h3|⟨g,args,h3,h4⟩
   ·rw[h3]; exact⟨rfl,rfl⟩
   rw[h3]; exact⟨rfl,h4.mono fun e w2 ⟨he,hb2⟩=>⟨he,d.up hb2⟩⟩
  rw[if_neg hw]at h2 ⊢; exact h2
 ·intro j i t r m v a K hpr hpo hmj d B J
  match j,t with
  | 0,t =>
    obtain rfl:k=i:=by simpa using t
    obtain⟨v2,E,A,u⟩:=C8 (ρ:=a.eval) o1 n1 v
    unfold Oper.wp
    rw[E]
    obtain⟨x,C,D⟩:=nL hw3
    have hm2:m 2=false:=by rw[<- D]; exact hpo x C
    have:=J (v.heap.size,0) v2 ⟨Bt d.b u.old,fun _=>by
     rw[jD]
     exact⟨d.b.size,by show aK v2 v.heap.size m1 (if m 2=true then y1 else z1) T1; rw[hm2]; exact A⟩,fun q=>by
     have q:m 1=true:=q
     rw[cu (by decide)]
     exact⟨(d.c q).1,(d.c q).2.dX u (Nat.ne_of_lt (d.c q).2.lt)⟩,fun _ q=>by
     have q:m 1=true:=q
     rw[jD,cu (by decide)]
     exact Nat.ne_of_gt (d.c q).2.lt⟩
    have H:uj k l vs (jW r 0 (v.heap.size,0) 0).1 (jW r 0 (v.heap.size,0) 1).1 k = .pointer (some ⟨v.heap.size,0,none⟩):=by unfold uj; rw[Nat.beq_refl,jD]; rfl
    rw[H]at this
    exact this
  | 1,t =>
    obtain rfl:l=i:=by simpa using t
    obtain⟨v2,E,A,u⟩:=C8 (ρ:=a.eval) o2 n2 v
    unfold Oper.wp
    rw[E]
    obtain⟨x,C,D⟩:=nL hw4
    have V9:m 3=false:=by rw[<- D]; exact hpo x C
    have:=J (v.heap.size,0) v2 ⟨Bt d.b u.old,fun q=>by
     have q:m 0=true:=q
     rw[cu (by decide)]
     exact⟨(d.a q).1,(d.a q).2.dX u (Nat.ne_of_lt (d.a q).2.lt)⟩,fun _=>by
     rw[jD]
     exact⟨d.b.size,by show aK v2 v.heap.size m2 (if m 3=true then y2 else z2) T2; rw[V9]; exact A⟩,fun q _=>by
     have q:m 0=true:=q
     rw[jD,cu (by decide)]
     exact Nat.ne_of_lt (d.a q).2.lt⟩
    have H:uj k l vs (jW r 1 (v.heap.size,0) 0).1 (jW r 1 (v.heap.size,0) 1).1 l = .pointer (some ⟨v.heap.size,0,none⟩):=by unfold uj; rw[xM (fun e=>x12 e.symm),Nat.beq_refl,jD]; rfl
    rw[H]at this
    exact this
  | 2,t =>
    obtain rfl:y=i:=by simpa using t
    obtain⟨x,C,D⟩:=nL hw1
    have F:m 0=true:=by rw[<- D]; exact hpr x C
    have O:a.eval a1 = .pointer (some ⟨(r 0).1,0,none⟩):=(B a1 (by rw[U]; simp[Op.operands])).trans (ha1 (r 0).1 (r 1).1)
    have R:a.eval v1=u1:=(B v1 (by rw[U]; simp[Op.operands])).trans (hv1 (r 0).1 (r 1).1)
    obtain⟨I,E,A,u⟩:=C9 U e1 O R hu1 h11 (d.a F).2
    unfold Oper.wp
    rw[E]
    show K (a.put (opAt ops y).dst undef) _
    rw[X]
    have:=J (0,0) I ⟨u.below d.b d.b.size (d.a F).1,fun _=>by
     rw[cu (by decide)]
     exact⟨(d.a F).1,by show aK I (r 0).1 m1 (if KX m 2 2=true then y1 else z1) T1; exact A⟩,fun q=>by
     have q:m 1=true:=q
     rw[cu (by decide)]
     exact⟨(d.c q).1,(d.c q).2.dX u (fun e=>d.ne F q e.symm)⟩,fun _ q=>by
     have q:m 1=true:=q
     rw[cu (by decide),cu (by decide)]
     exact d.ne F q⟩
    rw[X]at this
    exact this
  | 3,t =>
    obtain rfl:z=i:=by simpa using t
    obtain⟨x,C,D⟩:=nL hw2
    have G:m 1=true:=by rw[<- D]; exact hpr x C
    have O:a.eval a2 = .pointer (some ⟨(r 1).1,0,none⟩):=(B a2 (by rw[V]; simp[Op.operands])).trans (ha2 (r 0).1 (r 1).1)
    have R:a.eval v2=u2:=(B v2 (by rw[V]; simp[Op.operands])).trans (hv2 (r 0).1 (r 1).1)
    obtain⟨I,E,A,u⟩:=C9 V e2 O R hu2 h12 (d.c G).2
    unfold Oper.wp
    rw[E]
    show K (a.put (opAt ops z).dst undef) _
    rw[Y]
    have:=J (0,0) I ⟨u.below d.b d.b.size (d.c G).1,fun q=>by
     have q:m 0=true:=q
     rw[cu (by decide)]
     exact⟨(d.a q).1,(d.a q).2.dX u (d.ne q G)⟩,fun _=>by
     rw[cu (by decide)]
     exact⟨(d.c G).1,by show aK I (r 1).1 m2 (if KX m 3 3=true then y2 else z2) T2; exact A⟩,fun q _=>by
     have q:m 0=true:=q
     rw[cu (by decide),cu (by decide)]
     exact d.ne q G⟩
    rw[Y]at this
    exact this
  | j+4,t=>simp at t
 ·intro i hi j r p C hne hjl
  have t:j=0\/j=1\/j=2\/j=3:=by simp at hjl; omega
  show uj k l vs (jW r j p 0).1 (jW r j p 1).1 i=uj k l vs (r 0).1 (r 1).1 i
  unfold uj
  rcases t with rfl|rfl|rfl|rfl
  ·have:i≠k:=fun e=>hne (by rw[e]; rfl)
   rw[xM this]; simp only[cond_false]; rw[cu (by decide)]
  ·have:i≠l:=fun e=>hne (by rw[e]; rfl)
   rw[xM this]; simp only[cond_false]; rw[cu (by decide)]
  ·rw[cu (by decide),cu (by decide)]
  rw[cu (by decide),cu (by decide)]
 intro r m w' L d
 have m0:=L 0 (by simp); have Z4:=L 1 (by simp); have m2':=L 2 (by simp); have m3:=L 3 (by simp)
 have B:=d.a m0; have S:=d.c Z4
 rw[m2']at B; rw[m3]at S
 exact h (r 0).1 (r 1).1 w' _ rfl B.1 S.1 (d.ne m0 Z4) B.2 S.2 d.b
end
end Fx
end Go.Proofs.YtahbiajdgealnaaDoor
namespace Go.Proofs.YtahbiajdgealnaaDoor
open Go.RowKit Rt
open Fx (eY dN fJ bC fI fH eO dS fK iq dY iw fq gT iy Lv sN Ln Ws Qv Wl Rp Wc Qs Wr Sb Lk Wk rC rV sR Rs Rn Rd Rk Wb Wx Wo Ab Wt qM EP Qn Ba uY Bc BF yw Bb DL jw Dt jl qh rQ DX Bd Dr BU Bf rv aC aK dn aH ev bQ Stp bS aS flat gu Mp dH bB fC gF bO down fG iR jr kZ dG bY cells_one jm bP xV unseen jv jE cO bU dA cZ dh gX iP rA iD)
set_option maxRecDepth 20000
namespace Rt
def kW(v:EvM):Int:=1099511627776*v.o+v.seq
def ji(m:dz)(v:EvM):Int:=if 5<=m.own (bA v)\/140737488355328<v.bI then 6 else m.T.err (kW v) v.node
def zD(m:dz)(v:EvM):dz := { m with T:=m.T.put (kW v) v.node,R:=aH m.R m.T.n (upd (fun _=>0) (bA v) v.bI),own:=aV m.own (bA v) (m.own (bA v)+1) }
theorem KZ{T:bW}{pa:Int}{id:Int}{w:World}{b n:Nat}{x:Nat->Int}(h:Mp w b n x (aH (xD T) T.n (aA pa))):Mp w b n x (xD (T.put id pa)):=h.mI fun i _=>⟨rfl,by show aH (xD T) T.n _ i=aA (aH T.p T.n pa i); unfold aH xD; split <;> rfl⟩
theorem Nh{R:Nat->Nat->Int}{j n b:Nat}{r:Nat->Int}{x:Nat->Int}{w:World}(h:Mp w b n x (aH (om R) j (.agg (aC 54 (rv .i64 r))))):Mp w b n x (om (aH R j r)):=vY _ _ _ _ h
end Rt
theorem Uy(o q:Int)(w:World)(a:1<=o/\o<=6)(b:1<=q/\q<1099511627776):Calls Tryd.prog 152 #[au o,aA q] w fun e w'=>e = .returned (aA (1099511627776*o+q))/\w'=w:=by
 have h:=Xj o.toNat q.toNat w (by omega) (by omega)
 rw[show((o.toNat:Nat):Int)=o by omega,show((q.toNat:Nat):Int)=q by omega]at h
 exact h
theorem K3(m:dz)(b B:Nat)(w:World)(h:gZ w B b m)(v:EvM)(hv:bX v=true)(J:m.T.err (kW v) v.node=0)(a:Nat)(ha:a<6)(hra:bA v=a)(hob:0<=m.own a/\m.own a<=1000)(hid:0<=kW v/\kW v<=18446744073709551615)(I:Nat)(G:Nat)(l:Nat)(H:Nat)(S:aK w I 1 (fun _=>(pt b)) 44)(hi:aK w G 1 (fun _=>aA (kW v)) 22)(P:aK w l 14 (dJ v) 28)(Q:aK w H 1 (fun _=>au (a:Int)) 3) :
 Calls Tryd.prog 154 #[(pt I),(pt G),(pt l),(pt H)] w fun e w'=>e = .returned (.tuple #[])/\gZ w' B b (zD m v)/\iR (xG m b) w w':=by
 have hC:=h.c
 have hT:=h.t
 have hP:=h.p
 have hR:=h.r
 have hG:=h.g
 have hA:=h.a
 have d:=h.ne
 have lC:=h.c.lt
 have lT:=h.t.lt
 have lP:=h.p.lt
 have lR:=h.r.lt
 have lG:=h.g.lt
 have lA:=h.a.lt
 have Og:=S.lt
 have lgi:=hi.lt
 have OI:=P.lt
 have lgk:=Q.lt
 have U : ∀ i,i<m.T.n->m.T.x i≠kW v:=fun i hi e=>by have:=(Ea J).2.1; rw[fO hi e]at this; cases this
 refine Kent Tryd.func154 42 ?_
 refine Ws ?_
 -- region 0 draws
 refine jy [5,0,1,2,3,4,6,7] [4,0,0,4,4,0,4,3] [(7,0,[3,2,1,0]),(7,3,[3]),(7,4,[4]),(7,6,[6])] fun rE K ig => ?_
 have s1:Stp w.heap.size w rE:=Sb K
 have⟨W,m2,m3,m4,m5,m6,m7,m8,m9,m10⟩:=oG K hC hT hP hR hG hA S hi P Q
 have b1:=(rQ (xG m b) w).then s1 (.inr (rQ (xG m b) w).size)
 refine aY ((pf l 9))<|Rs ((pt b)) (aP m7.aM 0) ?_
 refine aY ((pt b))<|aY ((pf b 18))<|Rs ((pt m.tp)) (aP W.aM 18) ?_
 refine Rs (aA (kW v)) (aP m8.aM 0) ?_
 refine Rs (aA v.node) (aP m9.aM 9) ?_
 refine fU<|eG (Cm (kW v) v.node m2 hid) _ rfl ?_
 rintro y ⟨m11,s2⟩
 have j:=m2.uG s2
 have m12:=W.bV j
 have m13:=m3.bV j ((Ne.symm d.mp))
 have m14:=m4.bV j ((Ne.symm d.mr))
 have m15:=m5.bV j ((Ne.symm d.mg))
 have m16:=m6.bV j ((Ne.symm d.ma))
 have m17:=m7.bV j
 have m18:=m8.bV j
 have m19:=m9.bV j
 have m20:=m10.bV j
 have C:=b1.then s2 (.inl (.inr (.inl rfl)))
 have m21:kV y B m.tp m.mb (m.T.put (kW v) v.node):=by rw[<- bW.vZ J]; exact m11
 refine Ln<|bD<|Ws ?_
 -- region 1 draws
 refine jy [5,0,1,2,3,4,6,7] [4,0,0,4,4,0,4,3] [(7,0,[0]),(7,3,[3]),(7,4,[4]),(7,6,[6])] fun Dv M oK => ?_
 have s3:Stp y.heap.size y Dv:=Sb M
 have⟨m22,m23,m24,rG,rY,tL,vO,wR,yD,oq⟩:=oG M m12 m13 m14 m15 m16 m17 m18 m19 m20 m21
 have b3:=C.then s3 (.inr C.size)
 refine aY ((pf l 9))<|Rs ((pt b)) (aP tL.aM 0) ?_
 refine aY ((pt b))<|aY ((pf b 19))<|Rs (.map (some m.pb)) (aP m22.aM 19) ?_
 refine Rs (aA (kW v)) (aP vO.aM 0) ?_
 refine Rs (aA v.node) (aP wR.aM 9) ?_
 refine fU<|Fx.L.Gz (by rfl) rfl rfl rfl rfl rfl m23 Tryd.underlying87 Tryd.underlying22 U fun z m32 s4 z1 => ?_
 have k:=m23.uG s4
 have qE:=m22.bV k
 have ou:=m24.bV k ((Ne.symm d.pr))
 have sU:=rG.bV k ((Ne.symm d.pg))
 have uH:=rY.bV k ((Ne.symm d.pa))
 have Ag:=tL.bV k
 have wS:=vO.bV k
 have tN:=wR.bV k
 have yV:=yD.bV k
 have tO:=oq.bV k (d.mp)
 have D:=b3.then s4 (.inl (.inr (.inr (.inl rfl))))
 have xX:Mp z m.pb ((m.T.put (kW v) v.node).n) ((m.T.put (kW v) v.node).x) (xD (m.T.put (kW v) v.node)):=KZ m32
 refine Ln<|bD<|Ws ?_
 -- region 2 draws
 refine jy [0,2,3,7,8,1,4,5,6,9,10] [4,4,0,0,0,4,0,0,0,0,3] [(10,0,[0]),(10,1,[1]),(10,5,[5])] fun Tz N Fw => ?_
 have s5:Stp z.heap.size z Tz:=Sb N
 have⟨s,uI,wT,uJ,wU,Ec,xY,xZ,Bh,Ah⟩:=oG N qE ou sU uH Ag wS tN yV tO xX
 have b5:=D.then s5 (.inr D.size)
 refine Rs ((pt b)) (aP wU.aM 0) ?_
 refine aY ((pt b))<|aY ((pf b 21))<|aY ((pt b))<|aY ((pf b 21))<|Rs (au a) (aP xZ.aM 0) ?_
 refine Rp ((pf b (a+21))) (fun _=>vK 6 1)<|Rs (au (m.own a)) (aP s.aM (a+21) (AB (p:=a) (by omega) (by omega))) ?_
 refine Rp (au ((m.own a)+1)) (fun _=>gD)<|Rp ((pf b (a+21))) (fun _=>vK 6 1)<|fU<|mX s (a+21) (au ((m.own a)+1)) fun w3 wV s6 z2 => ?_
 have Ci:aK w3 b 29 (mY { m with own:=aV m.own a (m.own a+1) }) 93:=wV.to (MW ha (by omega) _)
 have iZ:=jw s6 s.ty
 have⟨yc,vw,rZ,vP,Bj,qF,yE,qG,yX⟩:=PU iZ uI wT uJ wU Ec xY xZ Bh Ah
 have q:=b5.then s6 (.inl (.inl rfl))
 refine Ln<|bD<|ay<|av (.agg (aC 54 (rv .i64 (fun _=>0))))<|oo 54 (rv .i64 (fun _=>0)) fun o w4 F u s7 z3 => ?_
 have⟨Cj,Ck,yF,Bl,yg,Bn,wW,Ai,yG,GL⟩:=oG s7.old yc vw rZ vP Bj qF yE qG yX Ci
 have b7:=q.then s7 (.inr q.size)
 have V:=iT F q.size
 have⟨Xy,Xz,XA,XB,XC,XD,XE,XF,XG⟩:=Ms F yc.lt vw.lt rZ.lt vP.lt Bj.lt qF.lt yE.lt yX.lt Ci.lt
 have yC:=u.lt
 refine gU u 0 fun w5 yY s8 z4 => ?_
 have Ed:aK w5 o 54 (rv .i64 (fun _=>0)) 82:=aS yY
 have oL:=jw s8 u.ty
 have⟨GN,FE,Dw,Aj,yZ,Dx,Ee,FH,GQ,Ib⟩:=Fp oL Cj Ck yF Bl yg Bn wW Ai yG GL
 have b8:=b7.then s8 (.inr V)
 refine aD<|ay<|Lv (au a) (aP Ee.aM 0)<|av ((pf l 11))<|Lv (au v.bI) (aP Dx.aM 11)<|av ((pt o))<|Lv ((pf o a)) (vK 6 1)<|mX Ed a (au v.bI) fun A FI s9 z5 => ?_
 have FJ:aK A o 54 (rv .i64 (upd (fun _=>0) a v.bI)) 82:=FI.to (Fx.zP _ _ _ _)
 have Jh:=jw s9 Ed.ty
 have⟨GR,Ic,L9,Nc,Ma,Nf,KW,OQ,OT,Ry⟩:=Fp Jh GN FE Dw Aj yZ Dx Ee FH GQ Ib
 have E:=b8.then s9 (.inr V)
 refine aD ?_
 -- region 5 draws
 refine jy [0,1,2,3,4,5,6] [4,0,0,4,4,4,3] [(6,0,[0]),(6,3,[3]),(6,4,[4]),(6,5,[5])] fun Wu O Oq => ?_
 have s10:Stp A.heap.size A Wu:=Sb O
 have⟨OU,Hw,Hy,X,Y,Da,AX,AY,ER,Z,aa⟩:=wH O GR Ic L9 Nc Ma Nf KW OQ OT Ry FJ
 have b10:=E.then s10 (.inr E.size)
 refine Rs ((pt b)) (aP X.aM 0) ?_
 refine aY ((pt b))<|aY ((pf b 20))<|Rs (.map (some m.rb)) (aP Z.aM 20) ?_
 refine Rs (aA (kW v)) (aP Y.aM 0) ?_
 refine Rs (.agg (aC 54 (rv .i64 (upd (fun _=>0) a v.bI)))) (kg aa.aM 0) ?_
 refine fU<|Fx.L.Gz (by rfl) rfl rfl rfl rfl rfl OU Tryd.underlying88 Tryd.underlying22 U fun w7 Ni s11 z6 => ?_
 have f:=OU.uG s11
 have K4:=Hw.bV f ((Ne.symm d.rg))
 have K5:=Hy.bV f ((Ne.symm d.ra))
 have Uz:=X.bV f
 have UA:=Y.bV f
 have UC:=Da.bV f
 have UD:=AX.bV f
 have RA:=AY.bV f (d.mr)
 have RB:=ER.bV f (d.pr)
 have K6:=Z.bV f
 have UE:=aa.bV f
 have b11:=b10.then s11 (.inl (.inr (.inr (.inr (.inl rfl)))))
 have RD:Mp w7 m.rb ((m.T.put (kW v) v.node).n) ((m.T.put (kW v) v.node).x) (om (aH m.R m.T.n (upd (fun _=>0) a v.bI))):=Nh Ni
 refine Ln (Rn (⟨.tuple #[],fG Tryd.results154,?_⟩))
 unfold zD; rw[hra]
 exact⟨rfl,{ c:=K6,t:=RA,p:=RB,r:=RD,g:=K4,a:=K5,ne:=⟨d.mp,d.mr,d.mg,d.ma,d.pr,d.pg,d.pa,d.rg,d.ra,d.ga⟩,lB:=h.lB,pB:=h.pB,rB:=h.rB,gB:=h.gB,aB:=h.aB },b11⟩
theorem Nj(m:dz)(j B:Nat)(w:World)(h:gZ w B j m)(v:EvM)(L:bX v=true)(ab : ∀ a,a<6->0<=m.own a/\m.own a<=1000) :
 Calls Tryd.prog 145 #[(pt j),.agg (aC 14 (dJ v))] w fun e w'=>Ie w B j m (zD m v) (ji m v) e w':=by
 have Z:=h.c
 have hT:=h.t
 have hP:=h.p
 have hR:=h.r
 have hG:=h.g
 have hA:=h.a
 have hN:=h.ne
 have lC:=h.c.lt
 have lT:=h.t.lt
 have lP:=h.p.lt
 have lR:=h.r.lt
 have lG:=h.g.lt
 have lA:=h.a.lt
 obtain⟨a,J,ho⟩ : ∃ a:Nat,a<6/\v.o=(a:Int)+1:=dO (gN L)
 have A:bA v=a:=by unfold bA; omega
 have hbd:=kP L
 have aa:0<=kW v/\kW v<=18446744073709551615:=by unfold kW; omega
 have hoa:=ab a J
 refine Kent Tryd.func145 38 ?_
 refine ay<|nZ ((pt j)) fun n w1 X M s1 z1 => ?_
 have⟨m2,U⟩:=fV s1.old Z (Below.refl w.heap.size w)
 have xW:=gP X
 have mJ:=bR X Z.lt
 have yC:=M.lt
 refine rR fun b w2 Y l s2 z2 => ?_
 have⟨P,Q,H⟩:=kI s2.old m2 M U
 have Bo:=iT Y U.size
 have⟨Uh,Kz⟩:=yx Y m2.lt M.lt
 have Dy:=l.lt
 refine av (.nilFunc)<|av (au 0)<|aD<|Ws ?_
 -- region 1 draws
 refine EP (T1:=22) (T2:=3) (Vt:=22) (T2':=3) (a1 := .tmp 6) (v1 := .tmp 13) (a2 := .tmp 7) (v2 := .tmp 16) (m1:=1) (m2:=1) (z1:=rv .u64 (fun _=>0)) (y1:=fun _=>aA (kW v)) (z2:=rv .i64 (fun _=>0)) (y2:=fun _=>au ((a:Int))) (u1:=aA (kW v)) (u2:=au ((a:Int))) 8 9 10 11 [[],[],[],[],[],[],[],[],[],[],[(0,[8]),(1,[9])],[(0,[8]),(1,[9]),(2,[10])]] [[(2,[0]),(3,[0])],[(2,[1]),(3,[1])],[(2,[2]),(3,[2])],[(2,[3]),(3,[3])],[(2,[4]),(3,[4])],[(3,[5])],[(3,[6])],[(3,[7])],[(2,[8]),(3,[8])],[(2,[9]),(3,[9])],[(3,[10])],[]] #[(pt b),au v.o,(pf b 1),aA v.seq,aA (kW v),(pt b),au v.o,au ((a:Int)),undef,undef,undef,undef] (by kernel_rfl) (by kernel_rfl) (by kernel_rfl) (by kernel_rfl) (by kernel_rfl) (by kernel_rfl) (by kernel_rfl) (by kernel_rfl) (by kernel_rfl) (by kernel_rfl) rfl rfl (by kernel_rfl) (by kernel_rfl) rfl rfl rfl rfl (by kernel_rfl) (by kernel_rfl) (fun d f=>(show ev _ (.tmp 6)=(pt d)from by kernel_rfl)) (fun d f=>(show ev _ (.tmp 7)=(pt f)from by kernel_rfl)) (fun d f=>(show ev _ (.tmp 13)=aA (kW v)from by kernel_rfl)) (fun d f=>(show ev _ (.tmp 16)=au ((a:Int))from by kernel_rfl)) (cells_one (by rfl)) (cells_one (by rfl)) (fun _ _=>rfl) (fun _ _=>rfl) (fun d f => ?_) ?_
 ·refine⟨?_,?_,?_,?_,?_,?_,?_,?_,?_,?_,?_,?_,trivial⟩
  ·exact .inr PO
  ·exact .inr (LX (au v.o) fun E q=>bC (x:=dJ v) rfl (show ev _ (.tmp 9)=(pt b)from by kernel_rfl) (by kernel_rfl) (l.aM.below q (by have:=l.lt; omega)) (i:=0) (by omega) (by omega) rfl)
  ·exact .inr PO
  ·exact .inr (LX (aA v.seq) fun E q=>bC (x:=dJ v) rfl (show ev _ (.tmp 11)=(pf b 1)from by kernel_rfl) (by kernel_rfl) (l.aM.below q (by have:=l.lt; omega)) (i:=1) (by omega) (by omega) rfl)
  ·exact .inr (Fx.Pw (v:=aA (kW v)) (by kernel_rfl) (by kernel_rfl) (Fx.qbC (fun E q=>rC (args := [au v.o,aA v.seq]) rfl (Fx.args2 (show ev _ (.tmp 10)=au v.o from by kernel_rfl) (show ev _ (.tmp 12)=aA v.seq from by kernel_rfl)) Tryd.func152 rfl rfl) (fun E q=>(Uy v.o v.seq _ (by omega) (by omega)).mono fun e v2 h=>⟨h.1,(by rw[h.2]; exact Below.refl _ _)⟩)))
  ·exact .inr PO
  ·exact .inr (LX (au v.o) fun E q=>bC (x:=dJ v) rfl (show ev _ (.tmp 14)=(pt b)from by kernel_rfl) (by kernel_rfl) (l.aM.below q (by have:=l.lt; omega)) (i:=0) (by omega) (by omega) rfl)
  ·exact .inr (LX (au a) fun E q=>Fx.NU rfl (show ev _ (.tmp 15)=au v.o from by kernel_rfl) (show ev _ (.const (au 1))=au 1 from by kernel_rfl) Fx.io)
  ·exact .inl rfl
  ·exact .inl rfl
  ·exact .inl rfl
  exact .inl rfl
 rintro d f w3 y u C D ne1 m6 m7 hb1
 have Z5:j≠d:=Nat.ne_of_lt (Nat.lt_of_lt_of_le (P.lt) C)
 have Z6:n≠d:=Nat.ne_of_lt (Nat.lt_of_lt_of_le (Q.lt) C)
 have Z7:b≠d:=Nat.ne_of_lt (Nat.lt_of_lt_of_le (l.lt) C)
 have Z8:j≠f:=Nat.ne_of_lt (Nat.lt_of_lt_of_le (P.lt) D)
 have Z9:n≠f:=Nat.ne_of_lt (Nat.lt_of_lt_of_le (Q.lt) D)
 have aac:b≠f:=Nat.ne_of_lt (Nat.lt_of_lt_of_le (l.lt) D)
 have⟨m8,m9,m10,b3⟩:=jY hb1 P Q l H
 have C:w.heap.size<=d:=Nat.le_trans H.size C
 have KD:=m6.lt
 have D:w.heap.size<=f:=Nat.le_trans H.size D
 have L8:=m7.lt
 have R:y 2=(pt n):=by rw[u]; kernel_rfl
 have S:y 3=(pt b):=by rw[u]; kernel_rfl
 have q3:y 4 = .nilFunc:=by rw[u]; kernel_rfl
 have q4:y 5=au 0:=by rw[u]; kernel_rfl
 have q5:y 6=(pt d):=by rw[u]; kernel_rfl
 have q6:y 7=(pt f):=by rw[u]; kernel_rfl
 clear u
 refine sN<|Ws<|Ws ?_
 -- region 2 draws
 refine jy [0,2,3,1,4,5,6,7,8,9,10,11] [4,4,0,0,0,4,0,0,0,4,0,0] [] fun rE gL ig => ?_
 have⟨m11,N,O,ac,ad,F⟩:=wG gL m8 m9 m10 m6 m7 b3
 refine Rs ((pt j)) (aP N.aM 0 (ha:=R)) ?_
 refine aY ((pt j))<|aY ((pf j 21))<|Rs (au a) (aP ad.aM 0 (ha:=q6)) ?_
 refine Rp ((pf j (a+21))) (fun _=>vK 6 1)<|Rs (au (m.own a)) (aP m11.aM (a+21) (AB (p:=a) (by omega) (by omega))) ?_
 by_cases V:5<=(m.own a)
 ·refine Rp aI (fun _=>nY V)<|aY aI<|Rk (by rfl)<|Rk (by rfl)<|Rk (by rfl)<|aY aI<|bD<|aT<|ay<|av (.nilFunc)<|av (au 6)<|aD<|Wr<|sR<|aL (.tuple #[.nilFunc,au 6]) ?_
  have k:ji m v=6:=by unfold ji; rw[A]; exact if_pos (.inl (by omega))
  exact⟨⟨.nilFunc,0,#[],by rw[k],rfl,fun z=>absurd (k.symm.trans z) (by first|decide|omega|assumption)⟩,F⟩
 refine Rp aF (fun _=>nu V)<|aY aF<|Rp ((pf b 11)) (fun _=>Y7 S 11)<|Rs (au v.bI) (aP O.aM 11) ?_
 by_cases W:140737488355328<v.bI
 ·refine Rp aI (fun _=>BH W)<|aY aI<|bD<|aT<|ay<|av (.nilFunc)<|av (au 6)<|aD<|Wr<|sR<|aL (.tuple #[.nilFunc,au 6]) ?_
  have k:ji m v=6:=by unfold ji; rw[A]; exact if_pos (.inr (by omega))
  exact⟨⟨.nilFunc,0,#[],by rw[k],rfl,fun z=>absurd (k.symm.trans z) (by first|decide|omega|assumption)⟩,F⟩
 refine Rp aF (fun _=>BI W)<|aY aF<|bD<|aN<|Wk<|sN<|Ws<|ay<|Lv ((pt j)) (aP N.aM 0 (ha:=R))<|Lv (aA (kW v)) (aP ac.aM 0 (ha:=q5))<|Lv ((pf b 9)) (Y7 S 9)<|Lv (aA v.node) (aP O.aM 9)<|eG (Rv m j B _ (h.up F) (kW v) v.node aa) _ rfl ?_
 intro w4 s
 have⟨ae,af,ag,m20,I⟩:=ql s N O ac ad F
 refine av (au (m.T.err (kW v) v.node))<|aD<|ay<|av (au (m.T.err (kW v) v.node)) ?_
 by_cases G:(m.T.err (kW v) v.node)=0
 ·refine Lv aF (qP G)<|aD<|aN<|Wk<|sN<|ay<|Lv (.func (.func 154) #[] #[(pt n),(pt d),(pt b),(pt f)]) (Fx.iK (us := []) (vs := [(pt n),(pt d),(pt b),(pt f)]) rfl rfl (Fx.NS R q5 S q6))<|av (.func (.func 154) #[] #[(pt n),(pt d),(pt b),(pt f)])<|av (au 0)<|aD<|Wr<|aL (.tuple #[.func (.func 154) #[] #[(pt n),(pt d),(pt b),(pt f)],au 0]) ?_
  have k:ji m v=0:=by unfold ji; rw[A,if_neg (by omega)]; exact G
  exact⟨⟨_,154,#[(pt n),(pt d),(pt b),(pt f)],by rw[k],rfl,fun _=>⟨rfl,⟨_,_,Tryd.func154,rfl,rfl⟩,fun w2 s=>(K3 m j B w2 ((h.up I).up s) v L G a J A (ab a J) aa _ _ _ _ (ae.dX (Sb s) (Nat.ne_of_lt ae.lt)) (ag.dX (Sb s) (Nat.ne_of_lt ag.lt)) (af.dX (Sb s) (Nat.ne_of_lt af.lt)) (m20.dX (Sb s) (Nat.ne_of_lt m20.lt))).mono fun _ _ K=>⟨K.1,K.2.1,K.2.2.mono fun _ hk => .inl hk⟩⟩⟩,I⟩
 refine Lv aI (tu G)<|aD<|aT<|ay<|av (au (m.T.err (kW v) v.node))<|av (.nilFunc)<|av (au (m.T.err (kW v) v.node))<|aD<|Wr<|sR<|aL (.tuple #[.nilFunc,au (m.T.err (kW v) v.node)]) ?_
 have k:ji m v=m.T.err (kW v) v.node:=by unfold ji; rw[A,if_neg (by omega)]
 exact⟨⟨.nilFunc,0,#[],by rw[k],rfl,fun z=>absurd (k.symm.trans z) (by first|decide|omega|assumption)⟩,I⟩
end Go.Proofs.YtahbiajdgealnaaDoor
namespace Go.Proofs.YtahbiajdgealnaaDoor
open Go.RowKit Go
set_option linter.unusedVariables false
namespace Rt
section
variable {x p:Nat->Int} {n d e:Nat} {k v:Int}
theorem AZ : ∀ {d:Nat} {v:Int},fD x p n d v -> ∀ k,k∈fP x p n d v->(fP x p n d k).length<=(fP x p n d v).length
 | 0,v,h,k,hk=>by cases hk
 | d+1,v,h,k,hk=>by
   cases hv:bZ x n v with
   | false=>rw[iA hv]at hk; cases hk
   | true =>
     have e:fP x p n (d+1) v=v::fP x p n d (eP x p n v):=by show(if _ then _ else _)=_; rw[if_pos hv]
     have a:fD x p n d (eP x p n v):=h hv
     rw[e]at hk
     rcases List.mem_cons.1 hk with rfl|hk
     ·exact Nat.le_refl _
     ·have b:=AZ a k hk
      have c:fD x p n d k:=by
       refine rX (d:=d) ?_ (Nat.le_trans b pU)
       exact xO a k hk
      have f:=(Ad c (Nat.le_succ d)).1
      rw[f,e,List.length_cons]; omega
where xO : ∀ {d:Nat} {v:Int},fD x p n d v -> ∀ k,k∈fP x p n d v->fD x p n d k
 | 0,v,h,k,hk=>by cases hk
 | d+1,v,h,k,hk=>by
   cases hv:bZ x n v with
   | false=>rw[iA hv]at hk; cases hk
   | true =>
     have e:fP x p n (d+1) v=v::fP x p n d (eP x p n v):=by show(if _ then _ else _)=_; rw[if_pos hv]
     have hs:fD x p n d (eP x p n v):=h hv
     rw[e]at hk
     rcases List.mem_cons.1 hk with rfl|hk
     ·exact h
     ·exact(Ad (xO hs k hk) (Nat.le_succ d)).2
theorem zF : ∀ {d:Nat} {v:Int},fD x p n d v->(fP x p n d v).Nodup
 | 0,v,h=>List.nodup_nil
 | d+1,v,h=>by
   cases hv:bZ x n v with
   | false=>rw[iA hv]; exact List.nodup_nil
   | true =>
     have e:fP x p n (d+1) v=v::fP x p n d (eP x p n v):=by show(if _ then _ else _)=_; rw[if_pos hv]
     have a:fD x p n d (eP x p n v):=h hv
     rw[e,List.nodup_cons]
     refine⟨fun c => ?_,zF a⟩
     have f:=AZ a v c
     have b:=(Ad (AZ.xO a v c) (Nat.le_succ d)).1
     rw[e]at b
     rw[<- b,List.length_cons]at f
     omega
end
section
variable {T:bW} {l:List Int} {k:Int}
theorem bW.qZ(h:T.ok)(k:Int):(T.path k).Nodup:=zF (h.stop k)
theorem bW.sM(h:T.ok)(e:l=T.path k) : ∀ v,v∈l->T.has v=true:=fun v c=>by
 obtain⟨i,a,b⟩:=List.getElem_of_mem c
 have:=bW.EI h e a
 rw[List.getD_eq_getElem?_getD,List.getElem?_eq_getElem a]at this
 rw[<- b]; exact this
theorem uo(h:l.Nodup){i j:Nat}(hi:i<l.length)(a:j<l.length)(e:l.getD i 0=l.getD j 0):i=j:=by
 rw[List.getD_eq_getElem?_getD,List.getD_eq_getElem?_getD,List.getElem?_eq_getElem hi,List.getElem?_eq_getElem a]at e
 exact(List.getElem_inj h).1 e
end
def iB(f:(Nat->Int)->(Nat->Int) × Int)(r:Nat->Nat->Int):Nat->Int
 | 0=>0
 | i+1=>if iB f r i=0 then(f (r i)).2 else iB f r i
section
variable {f:(Nat->Int)->(Nat->Int) × Int} {r:Nat->Nat->Int} {i n:Nat}
theorem zG(h:iB f r i=0)(a:(f (r i)).2=0):iB f r (i+1)=0:=by unfold iB; rw[if_pos h,a]
theorem ru(h:iB f r i=0)(a : ¬ (f (r i)).2=0) : ∀ n,i<n->iB f r n=(f (r i)).2
 | 0,hn=>absurd hn (Nat.not_lt_zero _)
 | n+1,hn=>by
   unfold iB
   by_cases e:i=n
   ·subst e; rw[if_pos h]
   ·rw[ru h a n (by omega),if_neg a]
end
def yj(m:dz)(k:Int):Nat->Int:=m.R (m.idx k)
def bM(m:dz)(f:(Nat->Int)->(Nat->Int) × Int)(l:List Int):Int:=iB f (fun i=>yj m (l.getD i 0)) l.length
open Classical in
noncomputable def mo(m:dz)(f:(Nat->Int)->(Nat->Int) × Int)(l:List Int):dz := { m with R:=fun i=>if m.T.x i∈l then(f (m.R i)).1 else m.R i }
def uU(l:List Int)(S:Nat->Bool)(v:Int):Nat->Bool
 | 0=>false
 | n+1=>uU l S v n || (S n&&decide (l.getD n 0=v))
theorem ku{l:List Int}{S:Nat->Bool}{v:Int} : ∀ {n:Nat},uU l S v n=true <-> ∃ q,q<n/\S q=true/\l.getD q 0=v
 | 0=>⟨fun h=>(nomatch h),fun⟨q,h,_⟩=>absurd h (Nat.not_lt_zero _)⟩
 | n+1=>by
   unfold uU
   rw[Bool.or_eq_true,ku,Bool.and_eq_true,decide_eq_true_iff]
   constructor
   ·rintro (⟨q,c,a,b⟩|⟨c,a⟩)
    ·exact⟨q,by omega,a,b⟩
    ·exact⟨n,by omega,c,a⟩
   ·rintro ⟨q,c,a,b⟩
    by_cases e:q=n
    ·subst e; exact .inr ⟨a,b⟩
    ·exact .inl ⟨q,by omega,a,b⟩
def pI(m:dz)(f:(Nat->Int)->(Nat->Int) × Int)(l:List Int)(S:Nat->Bool):Nat->Nat->Int:=fun i=>if uU l S (m.T.x i) l.length=true then(f (m.R i)).1 else m.R i
theorem ES(m:dz)(f:(Nat->Int)->(Nat->Int) × Int)(l:List Int):pI m f l (fun _=>false)=m.R:=by
 funext i
 unfold pI
 rw[if_neg]
 rw[ku]
 rintro ⟨q,_,h,_⟩; cases h
theorem H6{m:dz}(o:m.T.ok){f:(Nat->Int)->(Nat->Int) × Int}{l:List Int}{S:Nat->Bool}{q j:Nat}(t:q<l.length)(s:j<m.T.n)(g:m.T.x j=l.getD q 0) : ∀ i,i<m.T.n->Fx.aH (pI m f l S) j (f (m.R j)).1 i=pI m f l (Fx.aH S q true) i:=fun i p=>by
 unfold Fx.aH
 by_cases e:i=j
 ·subst e
  rw[if_pos rfl]
  unfold pI
  rw[if_pos]
  rw[ku]
  exact⟨q,t,by show(if q=q then true else S q)=true; rw[if_pos rfl],g.symm⟩
 ·rw[if_neg e]
  unfold pI
  have:uU l S (m.T.x i) l.length=true<->uU l (fun i=>if i=q then true else S i) (m.T.x i) l.length=true:=by
   rw[ku,ku]
   constructor
   ·rintro ⟨r,d,a,b⟩
    exact⟨r,d,by show(if r=q then true else S r)=true; split <;> first|rfl|exact a,b⟩
   ·rintro ⟨r,d,a,b⟩
    by_cases k:r=q
    ·subst k
     exact absurd (o.inj i j p s (by rw[g,<- b])) e
    ·exact⟨r,d,by have a:(if r=q then true else S r)=true:=a; rw[if_neg k]at a; exact a,b⟩
  by_cases c:uU l S (m.T.x i) l.length=true
  ·rw[if_pos c,if_pos (this.1 c)]
  ·rw[if_neg c,if_neg (fun h=>c (this.2 h))]
theorem K7{m:dz}{f:(Nat->Int)->(Nat->Int) × Int}{l:List Int}{S:Nat->Bool}(h : ∀ q,q<l.length->S q=true):pI m f l S=(mo m f l).R:=by
 funext i
 show _=if m.T.x i∈l then(f (m.R i)).1 else m.R i
 unfold pI
 have:uU l S (m.T.x i) l.length=true<->m.T.x i∈l:=by
  rw[ku]
  constructor
  ·rintro ⟨q,b,_,d⟩
   rw[<- d,List.getD_eq_getElem?_getD,List.getElem?_eq_getElem b]; exact List.getElem_mem b
  ·intro g
   obtain⟨q,a,e⟩:=List.getElem_of_mem g
   exact⟨q,a,h q a,by rw[List.getD_eq_getElem?_getD,List.getElem?_eq_getElem a]; exact e⟩
 by_cases c:m.T.x i∈l
 ·rw[if_pos (this.2 c),if_pos c]
 rw[if_neg (fun h=>c (this.1 h)),if_neg c]
def kQ(m:dz)(f:(Nat->Int)->(Nat->Int) × Int)(l:List Int):Nat->Value:=fun q => .agg (Fx.aC 54 (Fx.rv .i64 (f (yj m (l.getD q 0))).1))
theorem zH{m:dz}{f:(Nat->Int)->(Nat->Int) × Int}{l:List Int}{w:World}{b i:Nat}{r:Nat->Int}(h:Fx.Mp w b (i+1) (Fx.aH (fun q=>l.getD q 0) i (l.getD i 0)) (Fx.aH (kQ m f l) i (.agg (Fx.aC 54 (Fx.rv .i64 r)))))(e:r=(f (yj m (l.getD i 0))).1):Fx.Mp w b (i+1) (fun q=>l.getD q 0) (kQ m f l):=h.mI fun q a=>by
 unfold Fx.aH
 by_cases c:q=i
 ·subst c; rw[if_pos rfl,if_pos rfl,e]; exact⟨rfl,rfl⟩
 ·rw[if_neg c,if_neg c]; exact⟨rfl,rfl⟩
end Rt
end Go.Proofs.YtahbiajdgealnaaDoor
namespace Go.Proofs.YtahbiajdgealnaaDoor
open Go.RowKit Rt
open Fx (eY dN fJ bC fI fH eO dS fK iq dY iw fq gT iy Lv sN Ln Ws Qv Wl Rp Wc Qs Wr Sb Lk Wk rC rV sR Rs Rn Rd Rk Wb Wx Wo Ab Wt qM EP Qn Ba uY Bc BF yw Bb DL jw Dt jl qh rQ DX Bd Dr BU Bf rv aC aK dn aH ev bQ Stp bS aS flat gu Mp dH bB fC gF bO down fG iR jr kZ dG bY cells_one jm bP xV unseen jv jE cO bU dA cZ dh gX iP rA iD)
set_option maxRecDepth 20000
set_option linter.unusedVariables false
theorem K8(x:Nat->Int)(v:EvM)(a:Nat)(w:World)(E:1<=v.o/\v.o<=6)(b:aK w a 14 (dJ v) 28) :
 Calls Tryd.prog 158 #[.agg (aC 54 (rv .i64 x)),(pt a)] w fun e w'=>e = .returned ((.tuple #[.agg (aC 54 (rv .i64 (bK x v.o v.bI).1)),au (bK x v.o v.bI).2]))/\Below w.heap.size w w':=by
 have H:=b.lt
 refine Kent Tryd.func158 13 ?_
 refine ay<|rR fun D P i c A S => ?_
 have⟨k,g⟩:=fV A.old b (Below.refl w.heap.size w)
 have F:=gP i
 have K:=bR i b.lt
 have N:=c.lt
 refine oo 54 (rv .i64 (fun _=>0)) fun q Q j l B T => ?_
 have⟨d,m,n⟩:=kI B.old k c g
 have G:=iT j g.size
 have⟨L,M⟩:=yx j k.lt c.lt
 have O:=l.lt
 refine av (au 0)<|aD<|ay<|Lv (.agg (aC 54 (rv .i64 x))) (kg m.aM 0)<|av ((pt a))<|Lv (au v.o) (aP d.aM 0)<|av ((pf a 11))<|Lv (au v.bI) (aP d.aM 11)<|eG (QT (x) v.o v.bI _ (by omega)) _ rfl ?_
 intro R r
 have⟨t,u,y,h⟩:=jY r d m l n
 refine av (.agg (aC 54 (rv .i64 ((bK (x) v.o v.bI).1))))<|av (au ((bK (x) v.o v.bI).2))<|gU y 0 fun C z f U => ?_
 have s:aK C q 54 (rv .i64 ((bK (x) v.o v.bI).1)) 82:=aS z
 have I:=t.dX f (by omega)
 have J:=u.dX f (by omega)
 have p:=f.below h h.size (by omega)
 refine av (au ((bK (x) v.o v.bI).2)) (aD (Wr (⟨.tuple #[.agg (aC 54 (rv .i64 ((bK (x) v.o v.bI).1))),au ((bK (x) v.o v.bI).2)],iD Tryd.results158 ⟨_,rfl,bB s.aM (by kernel_rfl) (by kernel_rfl)⟩ (by exact rfl),?_⟩)))
 exact⟨rfl,p⟩
theorem K9(x:Nat->Int)(v:EvM)(g:Nat->Int)(b c:Nat)(w:World)(K:1<=v.o/\v.o<=6)(d:aK w b 14 (dJ v) 28)(f:aK w c 5 (vE g) 99) :
 Calls Tryd.prog 161 #[.agg (aC 54 (rv .i64 x)),(pt b),(pt c)] w fun e w'=>e = .returned ((.tuple #[.agg (aC 54 (rv .i64 (bF x v.o (g 3)).1)),au (bF x v.o (g 3)).2]))/\Below w.heap.size w w':=by
 have N:=d.lt
 have O:=f.lt
 refine Kent Tryd.func161 14 ?_
 refine ay<|rR fun J Z k h G z1 => ?_
 have⟨m,n,i⟩:=kI G.old d f (Below.refl w.heap.size w)
 have L:=gP k
 have⟨S,T⟩:=yx k d.lt f.lt
 have X:=h.lt
 refine oo 54 (rv .i64 (fun _=>0)) fun y w2 l p H z2 => ?_
 have⟨q,r,s,t⟩:=jY H.old m n h i
 have M:=iT l i.size
 have⟨U,V,W⟩:=DZ l m.lt n.lt h.lt
 have Y:=p.lt
 refine av (au 0)<|aD<|ay<|Lv (.agg (aC 54 (rv .i64 x))) (kg s.aM 0)<|av ((pt b))<|Lv (au v.o) (aP q.aM 0)<|av ((pf c 3))<|Lv (au (g 3)) (aP r.aM 3)<|eG (QU (x) v.o (g 3) _ (by omega)) _ rfl ?_
 intro w3 z
 have⟨E,F,A,B,j⟩:=ql z q r s p t
 refine av (.agg (aC 54 (rv .i64 ((bF (x) v.o (g 3)).1))))<|av (au ((bF (x) v.o (g 3)).2))<|gU B 0 fun I C a z3 => ?_
 have D:aK I y 54 (rv .i64 ((bF (x) v.o (g 3)).1)) 82:=aS C
 have P:=E.dX a (by omega)
 have Q:=F.dX a (by omega)
 have R:=A.dX a (by omega)
 have u:=a.below j j.size (by omega)
 refine av (au ((bF (x) v.o (g 3)).2)) (aD (Wr (⟨.tuple #[.agg (aC 54 (rv .i64 ((bF (x) v.o (g 3)).1))),au ((bF (x) v.o (g 3)).2)],iD Tryd.results161 ⟨_,rfl,bB D.aM (by kernel_rfl) (by kernel_rfl)⟩ (by exact rfl),?_⟩)))
 exact⟨rfl,u⟩
theorem Db(m:dz)(j B:Nat)(w:World)(h:gZ w B j m)(o:(Nat->Int)->(Nat->Int) × Int)(l:List Int)(s:Nat)(hgM:m.rb≠s/\m.mb≠s/\m.pb≠s/\m.gb≠s/\m.ab≠s)(hlh : ∀ k,k∈l->m.T.has k=true)(I:Mp w s l.length (fun q=>l.getD q 0) (kQ m o l))(z:Nat)(A:Nat)(H:aK w z 1 (fun _ => .map (some s)) 88)(Z:aK w A 1 (fun _=>(pt j)) 44) :
 Calls Tryd.prog 170 #[(pt z),(pt A)] w fun e w'=>e = .returned (.tuple #[])/\gZ w' B j (mo m o l)/\iR (xG m j) w w':=by
 have hC:=h.c
 have hT:=h.t
 have hP:=h.p
 have hR:=h.r
 have hG:=h.g
 have hA:=h.a
 have b:=h.ne
 have lC:=h.c.lt
 have lT:=h.t.lt
 have lP:=h.p.lt
 have lR:=h.r.lt
 have lG:=h.g.lt
 have lA:=h.a.lt
 have lg8:=H.lt
 have Og:=Z.lt
 have lF:=I.lt
 obtain⟨hg1,hg2,hg3,hg4,hg5⟩:=hgM
 refine Kent Tryd.func170 17 ?_
 refine ay<|Lv (.map (some s)) (aP H.aM 0)<|Fx.L.range (by rfl) rfl rfl rfl I Tryd.underlying88 fun F w1 rF m1 s1 z1 => ?_
 have⟨m2,m3,m4,m5,m6,m7,m8,m9,m10⟩:=zZ s1.old hC hT hP hR hG hA I H Z
 have b1:=(rQ (xG m j) w).then s1 (.inr (rQ (xG m j) w).size)
 have xW:w.heap.size<=F:=by rw[rF]; exact(rQ (xG m j) w).size
 have yC:=m1.lt
 refine aD<|Wb ?_
 have m11:Mp w1 m.rb m.T.n m.T.x (om (pI m o l (fun _=>false))):=by rw[ES]; exact m5
 refine Ab (fun kE f v => ∃ S:Nat->Bool,∃ K:Nat,K=unseen S l.length/\K=kE/\f 0=(pt z)/\f 1=(pt A)/\f 5=(pt F)/\aK v j 29 (mY m) 93/\kV v B m.tp m.mb m.T/\Mp v m.pb m.T.n m.T.x (xD m.T)/\fC v m.gb m.gn (fun i=>m.g i 0) (fun i=>m.g i 1) (qX m.g)/\fC v m.ab m.an m.ao m.ar xE/\Mp v s l.length (fun q=>l.getD q 0) (kQ m o l)/\aK v z 1 (fun _ => .map (some s)) 88/\aK v A 1 (fun _=>(pt j)) 44/\Mp v m.rb m.T.n m.T.x (om (pI m o l S))/\Fx.It v F s l.length S/\iR (xG m j) w v) (unseen (fun _=>false) l.length) ⟨(fun _=>false),(unseen (fun _=>false) l.length),rfl,rfl,(by rfl),(by rfl),(by rfl),m2,m3,m4,m6,m7,m8,m9,m10,m11,m1,b1⟩ ?_
 rintro kE f1 w2 ⟨S,K,hkk,hkE,W,X,G,m12,m13,m14,m15,m16,m17,m18,m19,m20,M,Q⟩
 refine ay<|Fx.L.next (by rfl) rfl rfl G m17 M (fun JM => ?_)<|fun d w3 C hS1 m22 Vl s2 z2 => ?_
 ·skip
  refine av aF (aD (Ws (aN (Wx (cZ (gX (dh (⟨.tuple #[],fG Tryd.results170,?_⟩))))))))
  have m23:Mp w2 m.rb m.T.n m.T.x (om (mo m o l).R):=by rw[<- K7 JM]; exact m20
  exact⟨rfl,{ c:=m12,t:=m13,p:=m14,r:=m23,g:=m15,a:=m16,ne:=⟨b.mp,b.mr,b.mg,b.ma,b.pr,b.pg,b.pa,b.rg,b.ra,b.ga⟩,lB:=h.lB,pB:=h.pB,rB:=h.rB,gB:=h.gB,aB:=h.aB },Q⟩
 skip
 have y:=M.uG s2
 have m24:=m12.bV y
 have rG:=m13.bV y (by omega)
 have rY:=m14.bV y (by omega)
 have tL:=m15.bV y (by omega)
 have vO:=m16.bV y (by omega)
 have N:=m17.bV y (M.rb.symm)
 have yD:=m18.bV y
 have oq:=m19.bV y
 have m32:=m20.bV y (by omega)
 have D:=Q.then s2 (.inr xW)
 refine av aI<|aD<|Ws<|aT<|Wk<|sN<|Wb<|ay<|Lv (.tuple #[aA (l.getD d 0),.agg (aC 54 (rv .i64 ((o (yj m (l.getD d 0))).1)))]) (Fx.Fu (key:=fun q=>l.getD q 0) (val:=kQ m o l) (i:=d) rfl G N Vl C)<|av (aA (l.getD d 0))<|av (.agg (aC 54 (rv .i64 ((o (yj m (l.getD d 0))).1))))<|oo 54 (rv .i64 (fun _=>0)) fun g2 w4 V O s3 z3 => ?_
 have⟨ou,sU,uH,Ag,wS,tN,yV,tO,xX,sV,uI⟩:=wH s3.old m24 rG rY tL vO N yD oq m32 Vl m22
 have b4:=D.then s3 (.inr D.size)
 have Bo:=iT V D.size
 have⟨XH,XI,XJ,XK,XL,XM,XO,XP⟩:=Mr V m24.lt rY.lt tL.lt vO.lt N.lt yD.lt oq.lt m32.lt
 have Dy:=O.lt
 refine av (aA (l.getD d 0))<|gU O 0 fun P wT s4 z4 => ?_
 have uJ:aK P g2 54 (rv .i64 ((o (yj m (l.getD d 0))).1)) 82:=aS wT
 have iZ:=jw s4 O.ty
 have⟨wU,Ec,xY,xZ,Bh,Ah,wV,Ci,yc,vw,rZ⟩:=Oc iZ ou sU uH Ag wS tN yV tO xX sV uI
 have U:=b4.then s4 (.inr Bo)
 refine aD ?_
 obtain⟨jz,J,E⟩:=dV (hlh _ (oJ C rfl))
 have ejx:yj m (l.getD d 0)=m.R jz:=by unfold yj dz.idx; rw[jg h.t.inv.inj J E]
 -- region 3 draws
 refine jy [4,0,1,2,3,5,6] [4,0,0,4,0,4,3] [(6,0,[0]),(6,3,[3]),(6,5,[5])] fun rE Y ig => ?_
 have s5:Stp P.heap.size P rE:=Sb Y
 have⟨vP,Bj,qF,yE,qG,yX,m64,Cj,Ck,yF,Bl,yg⟩:=Fj Y wU Ec xY xZ Bh Ah wV Ci yc vw rZ uJ
 have b6:=U.then s5 (.inr U.size)
 refine aY (aA (l.getD d 0))<|Rs ((pt j)) (aP Cj.aM 0 (ha:=X)) ?_
 refine aY ((pt j))<|aY ((pf j 20))<|Rs (.map (some m.rb)) (aP vP.aM 20) ?_
 refine Rs (.agg (aC 54 (rv .i64 ((o (yj m (l.getD d 0))).1)))) (kg yg.aM 0) ?_
 refine fU<|Fx.L.PW (by rfl) rfl rfl rfl rfl rfl Ck Tryd.underlying88 Tryd.underlying22 J E fun w6 Bn s6 z5 => ?_
 have u:=Ck.uG s6
 have wW:=vP.bV u
 have Ai:=Bj.bV u (b.mr)
 have yG:=qF.bV u (b.pr)
 have GL:=yE.bV u ((Ne.symm b.rg))
 have yY:=qG.bV u ((Ne.symm b.ra))
 have Ed:=yX.bV u (by omega)
 have GN:=m64.bV u
 have FE:=Cj.bV u
 have Dw:=yF.bV u (by omega) (by omega)
 have Aj:=Bl.bV u (by omega) (by omega)
 have yZ:=yg.bV u
 have b7:=b6.then s6 (.inl (.inr (.inr (.inr (.inl rfl)))))
 have Dx:Mp w6 m.rb m.T.n m.T.x (om (pI m o l (aH S d true))):=by have q9:=vY _ _ _ _ Bn; rw[ejx]at q9; exact q9.mI fun i hi=>⟨rfl,by unfold om; rw[H6 h.t.inv C J E i hi]⟩
 refine Ln (Rn (dA (iP ⟨unseen (aH S d true) l.length,(by have W:=Fx.kK hS1 l.length C; omega),(aH S d true),(unseen (aH S d true) l.length),rfl,rfl,W,X,G,wW,Ai,yG,GL,yY,Ed,GN,FE,Dx,Aj,b7⟩ (by decide))))
theorem La(m:dz)(j B:Nat)(w:World)(h:gZ w B j m)(C:Int)(v:EvM)(ho:1<=v.o/\v.o<=6)(E:Nat)(u:aK w E 14 (dJ v) 28) :
 Calls Tryd.prog 157 #[(pt j),aA C,.func (.func 158) #[] #[(pt E)]] w fun e w'=>Ie w B j m (mo m (fun x=>bK x v.o v.bI) (m.T.path C)) (bM m (fun x=>bK x v.o v.bI) (m.T.path C)) e w':=by
 have hC:=h.c
 have hT:=h.t
 have hP:=h.p
 have hR:=h.r
 have hG:=h.g
 have hA:=h.a
 have hN:=h.ne
 have lC:=h.c.lt
 have lT:=h.t.lt
 have lP:=h.p.lt
 have lR:=h.r.lt
 have lG:=h.g.lt
 have lA:=h.a.lt
 have OI:=u.lt
 refine Kent Tryd.func157 44 ?_
 refine ay<|nZ ((pt j)) fun A w1 rF Y s1 z1 => ?_
 have⟨m2,m3,m4,m5,m6,m7,m8,b1⟩:=BK s1.old hC hT hP hR hG hA u (Below.refl w.heap.size w)
 have xW:=gP rF
 have⟨mJ,qK,uP,uQ,uR,Lb⟩:=BL rF hC.lt hP.lt hR.lt hG.lt hA.lt u.lt
 have yC:=Y.lt
 refine av (.nilFunc)<|av (au 0)<|aD<|ay<|Fx.L.BM (by rfl) rfl rfl fun d w2 zy m9 s2 z2 => ?_
 have⟨m10,m11,m12,m13,m14,m15,m16,m17,b2⟩:=zZ s2.old m2 m3 m4 m5 m6 m7 m8 Y b1
 have Bo:=iT zy b1.size
 have⟨XQ,AU,xJ,xK,tQ,JN,JO⟩:=D5 zy m2.lt m4.lt m5.lt m6.lt m7.lt m8.lt Y.lt
 have Dy:=m9.lt
 refine oo 1 (fun _ => .map none) fun y w3 F6 Z s3 z3 => ?_
 have⟨m19,m20,m21,m22,m23,m24,rG,rY,tL,b3⟩:=oG s3.old m10 m11 m12 m13 m14 m15 m16 m17 m9 b2
 have I6:=iT F6 b2.size
 have⟨RF,Lc,RG,Ld,Le,EG,RH,EH⟩:=Mr F6 m10.lt m12.lt m13.lt m14.lt m15.lt m16.lt m17.lt m9.lt
 have KD:=Z.lt
 refine mX Z 0 (.map (some d)) fun O vO s4 z4 => ?_
 have wR:aK O y 1 (fun _ => .map (some d)) 88:=cO vO
 have iZ:=jw s4 Z.ty
 have⟨yD,oq,m32,qE,ou,sU,uH,Ag,wS⟩:=PU iZ m19 m20 m21 m22 m23 m24 rG rY tL
 have b4:=s4.below b3 b3.size (by omega)
 refine aD<|Ws<|ay<|Lv ((pt j)) (aP Ag.aM 0)<|av ((pt j))<|av ((pf j 18))<|Lv ((pt m.tp)) (aP yD.aM 18)<|av (aA C)<|jT (Al C oq) ?_
 rintro e9 w5 ⟨Oh,D,u,tN,hb1⟩
 refine⟨_,u,?_⟩
 clear u
 have⟨yV,tO,xX,sV,uI,wT,uJ,wU,Ec,xY,b5⟩:=wH hb1 yD oq m32 qE ou sU uH Ag wS wR b4
 obtain⟨l,H⟩ : ∃ q,q=bW.path m.T C:=⟨_,rfl⟩
 rw[<- H]at tN ⊢
 have hl4:l.length<=4:=by rw[H]; exact bW.sJ
 refine av (au l.length)<|av (au 0)<|aD<|Wb ?_
 have xZ:Mp w5 d 0 (fun q=>l.getD q 0) (kQ m (fun x=>bK x v.o v.bI) l):=Ec.mI fun i hi=>absurd hi (Nat.not_lt_zero _)
 refine Wo (fun f k => ∃ i:Nat,i<=l.length/\iB (fun x=>bK x v.o v.bI) (fun i=>yj m (l.getD i 0)) i=0/\f 2 = .func (.func 158) #[] #[(pt E)]/\f 3=(pt A)/\f 8=(pt y)/\f 19 = .slice Oh (l.length) (D)/\f 20=au ((l.length:Int))/\f 21=au ((i:Int))/\aK k j 29 (mY m) 93/\kV k B m.tp m.mb m.T/\Mp k m.pb m.T.n m.T.x (xD m.T)/\Mp k m.rb m.T.n m.T.x (om m.R)/\fC k m.gb m.gn (fun i=>m.g i 0) (fun i=>m.g i 1) (qX m.g)/\fC k m.ab m.an m.ao m.ar xE/\aK k E 14 (dJ v) 28/\aK k A 1 (fun _=>(pt j)) 44/\aK k y 1 (fun _ => .map (some d)) 88/\Fx.Own k O.heap.size 22 1 (.slice Oh (l.length) (D)) l.length (qm l)/\Mp k d i (fun q=>l.getD q 0) (kQ m (fun x=>bK x v.o v.bI) l)/\Below w.heap.size w k) (fun f _=>((l.length:Int)-intOf (f 21)).toNat) ⟨0,(by omega),rfl,(by rfl),(by rfl),(by rfl),(by rfl),Fx.ic,Fx.ic,yV,tO,xX,sV,uI,wT,uJ,wU,xY,tN,xZ,b5⟩ ?_
 rintro f1 w6 ⟨i,hi,K,h1,U,V,h4,W,G,Bh,Ah,wV,Ci,yc,vw,rZ,N,aa,qF,ac,P⟩
 refine ay ?_
 by_cases UF:(i:Int)<(l.length:Int)
 ·refine Lv aI (nV UF (hx:=G) (hy:=W))<|aD<|Ws<|aT<|Wk<|sN<|Ws<|Wb<|ay ?_
  obtain⟨OP,S⟩:=qF.addr (by omega)
  have qG:Fx.Own w6 O.heap.size 22 1 (bH OP l.length D) l.length (qm l):=qF.oD (congrArg (fun q=>Value.slice q l.length D) S)
  refine Lv ((pf OP i)) (cK 1 (hx:=(h4.trans (congrArg (fun q=>Value.slice q (l.length) (D)) S))) (hi:=G))<|Lv (aA (l.getD i 0)) (aP qG.aM i)<|av (aA (l.getD i 0))<|aD<|Ws ?_
  obtain⟨b,hjz,UG⟩:=dV (bW.sM h.t.inv H _ (oJ (show i<l.length by omega) rfl))
  have J:yj m (l.getD i 0)=m.R b:=by unfold yj dz.idx; rw[jg h.t.inv.inj hjz UG]
  refine Wl<|aX h1<|Lv ((pt j)) (aP N.aM 0 (ha:=U))<|av ((pt j))<|av ((pf j 20))<|Lv (.map (some m.rb)) (aP Bh.aM 20)<|av (aA (l.getD i 0))<|Lv (.agg (aC 54 (rv .i64 (m.R b)))) (Fx.rT (z := .agg (aC 54 (rv .i64 (fun _=>0)))) rfl rfl rfl Ci Tryd.underlying88 Tryd.underlying22 (by kernel_rfl) hjz UG rfl)<|uY (by rfl) (Fx.wz (args := [.agg (aC 54 (rv .i64 (m.R b)))]) rfl rfl rfl (all := #[.agg (aC 54 (rv .i64 (m.R b))),(pt E)]) rfl Tryd.func158 rfl rfl) rfl<|(K8 (m.R b) v E _ ho rZ).mono ?_
  rintro e w7 ⟨u,F⟩
  refine⟨.tuple #[.agg (aC 54 (rv .i64 ((bK (m.R b) v.o v.bI).1))),au ((bK (m.R b) v.o v.bI).2)],by rw[u],?_⟩
  clear u
  have⟨yX,m64,Cj,Ck,yF,Bl,yg,Bn,wW,Ai,yG,b7⟩:=Fj F Bh Ah wV Ci yc vw rZ N aa ac qG P
  refine av (.tuple #[.agg (aC 54 (rv .i64 ((bK (m.R b) v.o v.bI).1))),au ((bK (m.R b) v.o v.bI).2)])<|av (.agg (aC 54 (rv .i64 ((bK (m.R b) v.o v.bI).1))))<|av (au ((bK (m.R b) v.o v.bI).2))<|oo 54 (rv .i64 (fun _=>0)) fun g4 w8 Ia ad s7 z5 => ?_
  have⟨yY,Ed,GN,FE,Dw,Aj,yZ,Dx,Ee,FH,GQ,b8⟩:=Fj s7.old yX m64 Cj Ck yF Bl yg Bn wW Ai yG b7
  have MX:=iT Ia b7.size
  have⟨Q7,Q8,Q9,Ra,XR,XT,RI,XU,RJ,RL⟩:=Od Ia yX.lt Cj.lt Ck.lt yF.lt Bl.lt yg.lt Bn.lt wW.lt Ai.lt yG.lt
  have L8:=ad.lt
  refine gU ad 0 fun w9 Ib s8 z6 => ?_
  have FI:aK w9 g4 54 (rv .i64 ((bK (m.R b) v.o v.bI).1)) 82:=aS Ib
  have oL:=jw s8 ad.ty
  have⟨FJ,GR,Ic,L9,Nc,Ma,Nf,KW,OQ,OT,Ry⟩:=Oc oL yY Ed GN FE Dw Aj yZ Dx Ee FH GQ
  have Q:=s8.below b8 b8.size (by omega)
  refine av (au ((bK (m.R b) v.o v.bI).2))<|aD<|Ws<|ay<|av (au ((bK (m.R b) v.o v.bI).2)) ?_
  by_cases I:((bK (m.R b) v.o v.bI).2)=0
  ·refine Lv aF (qP I)<|aD<|aN<|Wk<|sN ?_
   have hnd:l.Nodup:=by rw[H]; exact bW.qZ h.t.inv C
   have hny : ∀ q,q<i->(fun q=>l.getD q 0) q≠l.getD i 0:=fun q hq e=>by have:=uo hnd (show q<l.length by omega) (show i<l.length by omega) e; omega
   refine Wl<|Lv (.map (some d)) (aP OQ.aM 0 (ha:=V))<|av (aA (l.getD i 0))<|Lv (.agg (aC 54 (rv .i64 ((bK (m.R b) v.o v.bI).1)))) (kg FI.aM 0)<|Fx.L.Gz (by rfl) rfl rfl rfl rfl rfl OT Tryd.underlying88 Tryd.underlying22 hny fun Bg OU s9 z7 => ?_
   have s:=OT.uG s9
   have Hw:=FJ.bV s
   have Hy:=GR.bV s (by omega)
   have EL:=Ic.bV s (by omega)
   have EM:=L9.bV s (by omega)
   have Da:=Nc.bV s (by omega)
   have AX:=Ma.bV s (by omega)
   have AY:=Nf.bV s
   have ER:=KW.bV s
   have H7:=OQ.bV s
   have RN:=Ry.bV s
   have Ni:=FI.bV s
   have b10:=s9.below Q Q.size (by omega)
   have K4:Mp Bg d (i+1) (fun q=>l.getD q 0) (kQ m (fun x=>bK x v.o v.bI) l):=zH OU (by rw[J])
   refine Ln<|dA<|sN<|Wl<|Lv (au ((i:Int)+1)) (gD (hx:=G))<|av (au ((i:Int)+1))<|Ln ?_
   have K5:Fx.Own Bg O.heap.size 22 1 (.slice Oh (l.length) (D)) l.length (qm l):=RN.oD (congrArg (fun q=>Value.slice q l.length D) S.symm)
   refine iP ⟨i+1,(by omega),(zG K (by rw[J]; exact I)),h1,U,V,h4,(W.trans Fx.ic),Fx.ic,Hw,Hy,EL,EM,Da,AX,AY,ER,H7,K5,K4,b10⟩ ?_
   show((l.length:Int)-intOf ((au ((i:Int)+1)))).toNat<_
   simp only[G,intOf]; omega
  refine Lv aI (tu I)<|aD<|aT<|ay<|av (au ((bK (m.R b) v.o v.bI).2))<|av (.nilFunc)<|av (au ((bK (m.R b) v.o v.bI).2))<|aD<|Wr<|sR<|bU<|sR<|rA<|bU<|sR<|aL (.tuple #[.nilFunc,au ((bK (m.R b) v.o v.bI).2)]) ?_
  have M:bM m (fun x=>bK x v.o v.bI) l=(bK (m.R b) v.o v.bI).2:=by unfold bM; rw[ru K (by rw[J]; exact I) _ (by omega),J]
  exact⟨⟨.nilFunc,0,#[],by rw[M],rfl,fun e0=>absurd (M.symm.trans e0) (by first|decide|omega|assumption)⟩,Q⟩
 refine Lv aF (nW UF (hx:=G) (hy:=W))<|aD<|Ws<|aN<|Wx<|cZ<|gX<|dh<|sN<|ay<|Lv (.func (.func 170) #[] #[(pt y),(pt A)]) (Fx.iK (us := []) (vs := [(pt y),(pt A)]) rfl rfl (Fx.args2 V U))<|av (.func (.func 170) #[] #[(pt y),(pt A)])<|av (au 0)<|aD<|Wr<|aL (.tuple #[.func (.func 170) #[] #[(pt y),(pt A)],au 0]) ?_
 have hil:i=l.length:=by omega
 rw[hil]at ac K
 have hgm:m.rb≠d/\m.mb≠d/\m.pb≠d/\m.gb≠d/\m.ab≠d:=⟨by omega,by omega,by omega,by omega,by omega⟩
 have M:bM m (fun x=>bK x v.o v.bI) l=0:=K
 exact⟨⟨_,170,#[(pt y),(pt A)],by rw[M],rfl,fun _=>⟨rfl,⟨_,_,Tryd.func170,rfl,rfl⟩,fun w2 F=>(Db m j B w2 ((h.up P).up F) (fun x=>bK x v.o v.bI) l d hgm (bW.sM h.t.inv H) (ac.up F) _ _ (aa.dX (Sb F) (Nat.ne_of_lt aa.lt)) (N.dX (Sb F) (Nat.ne_of_lt N.lt))).mono fun _ _ X=>⟨X.1,X.2.1,X.2.2.mono fun _ hk => .inl hk⟩⟩⟩,P⟩
theorem Lf(m:dz)(j B:Nat)(w:World)(h:gZ w B j m)(C:Int)(v:EvM)(g:Nat->Int)(ho:1<=v.o/\v.o<=6)(E F:Nat)(u:aK w E 14 (dJ v) 28)(Z:aK w F 5 (vE g) 99) :
 Calls Tryd.prog 157 #[(pt j),aA C,.func (.func 161) #[] #[(pt E),(pt F)]] w fun e w'=>Ie w B j m (mo m (fun x=>bF x v.o (g 3)) (m.T.path C)) (bM m (fun x=>bF x v.o (g 3)) (m.T.path C)) e w':=by
 have hC:=h.c
 have hT:=h.t
 have hP:=h.p
 have hR:=h.r
 have hG:=h.g
 have hA:=h.a
 have hN:=h.ne
 have lC:=h.c.lt
 have lT:=h.t.lt
 have lP:=h.p.lt
 have lR:=h.r.lt
 have lG:=h.g.lt
 have lA:=h.a.lt
 have OI:=u.lt
 have lgg:=Z.lt
 refine Kent Tryd.func157 44 ?_
 refine ay<|nZ ((pt j)) fun A w1 rF m1 s1 z1 => ?_
 have⟨m2,m3,m4,m5,m6,m7,m8,m9,b1⟩:=zZ s1.old hC hT hP hR hG hA u Z (Below.refl w.heap.size w)
 have xW:=gP rF
 have⟨mJ,qK,uP,uQ,uR,Lb,aad⟩:=D5 rF hC.lt hP.lt hR.lt hG.lt hA.lt u.lt Z.lt
 have yC:=m1.lt
 refine av (.nilFunc)<|av (au 0)<|aD<|ay<|Fx.L.BM (by rfl) rfl rfl fun d w2 zy m10 s2 z2 => ?_
 have⟨m11,m12,m13,m14,m15,m16,m17,m18,m19,b2⟩:=oG s2.old m2 m3 m4 m5 m6 m7 m8 m9 m1 b1
 have Bo:=iT zy b1.size
 have⟨xI,xJ,xK,tQ,JN,JO,Rw,XV⟩:=Mr zy m2.lt m4.lt m5.lt m6.lt m7.lt m8.lt m9.lt m1.lt
 have Dy:=m10.lt
 refine oo 1 (fun _ => .map none) fun y w3 F6 m20 s3 z3 => ?_
 have⟨m21,m22,m23,m24,rG,rY,tL,vO,wR,yD,b3⟩:=wH s3.old m11 m12 m13 m14 m15 m16 m17 m18 m19 m10 b2
 have I6:=iT F6 b2.size
 have⟨Lc,Ld,Le,EG,RH,EH,KJ,KL,KM⟩:=Ms F6 m11.lt m13.lt m14.lt m15.lt m16.lt m17.lt m18.lt m19.lt m10.lt
 have KD:=m20.lt
 refine mX m20 0 (.map (some d)) fun P oq s4 z4 => ?_
 have m32:aK P y 1 (fun _ => .map (some d)) 88:=cO oq
 have iZ:=jw s4 m20.ty
 have⟨qE,ou,sU,uH,Ag,wS,tN,yV,tO,xX⟩:=Fp iZ m21 m22 m23 m24 rG rY tL vO wR yD
 have b4:=s4.below b3 b3.size (by omega)
 refine aD<|Ws<|ay<|Lv ((pt j)) (aP tO.aM 0)<|av ((pt j))<|av ((pf j 18))<|Lv ((pt m.tp)) (aP qE.aM 18)<|av (aA C)<|jT (Al C ou) ?_
 rintro e9 w5 ⟨Oh,D,u,sV,hb1⟩
 refine⟨_,u,?_⟩
 clear u
 have⟨uI,wT,uJ,wU,Ec,xY,xZ,Bh,Ah,wV,Ci,b5⟩:=Fj hb1 qE ou sU uH Ag wS tN yV tO xX m32 b4
 obtain⟨l,I⟩ : ∃ q,q=bW.path m.T C:=⟨_,rfl⟩
 rw[<- I]at sV ⊢
 have hl4:l.length<=4:=by rw[I]; exact bW.sJ
 refine av (au l.length)<|av (au 0)<|aD<|Wb ?_
 have yc:Mp w5 d 0 (fun q=>l.getD q 0) (kQ m (fun x=>bF x v.o (g 3)) l):=wV.mI fun i hi=>absurd hi (Nat.not_lt_zero _)
 refine Wo (fun f k => ∃ i:Nat,i<=l.length/\iB (fun x=>bF x v.o (g 3)) (fun i=>yj m (l.getD i 0)) i=0/\f 2 = .func (.func 161) #[] #[(pt E),(pt F)]/\f 3=(pt A)/\f 8=(pt y)/\f 19 = .slice Oh (l.length) (D)/\f 20=au ((l.length:Int))/\f 21=au ((i:Int))/\aK k j 29 (mY m) 93/\kV k B m.tp m.mb m.T/\Mp k m.pb m.T.n m.T.x (xD m.T)/\Mp k m.rb m.T.n m.T.x (om m.R)/\fC k m.gb m.gn (fun i=>m.g i 0) (fun i=>m.g i 1) (qX m.g)/\fC k m.ab m.an m.ao m.ar xE/\aK k E 14 (dJ v) 28/\aK k F 5 (vE g) 99/\aK k A 1 (fun _=>(pt j)) 44/\aK k y 1 (fun _ => .map (some d)) 88/\Fx.Own k P.heap.size 22 1 (.slice Oh (l.length) (D)) l.length (qm l)/\Mp k d i (fun q=>l.getD q 0) (kQ m (fun x=>bF x v.o (g 3)) l)/\Below w.heap.size w k) (fun f _=>((l.length:Int)-intOf (f 21)).toNat) ⟨0,(by omega),rfl,(by rfl),(by rfl),(by rfl),(by rfl),Fx.ic,Fx.ic,uI,wT,uJ,wU,Ec,xY,xZ,Bh,Ah,Ci,sV,yc,b5⟩ ?_
 rintro f1 w6 ⟨i,hi,M,h1,V,W,h4,X,H,vw,rZ,vP,Bj,qF,yE,qG,yX,O,Cj,Ck,yF,Q⟩
 refine ay ?_
 by_cases UF:(i:Int)<(l.length:Int)
 ·refine Lv aI (nV UF (hx:=H) (hy:=X))<|aD<|Ws<|aT<|Wk<|sN<|Ws<|Wb<|ay ?_
  obtain⟨OP,U⟩:=Ck.addr (by omega)
  have Bl:Fx.Own w6 P.heap.size 22 1 (bH OP l.length D) l.length (qm l):=Ck.oD (congrArg (fun q=>Value.slice q l.length D) U)
  refine Lv ((pf OP i)) (cK 1 (hx:=(h4.trans (congrArg (fun q=>Value.slice q (l.length) (D)) U))) (hi:=H))<|Lv (aA (l.getD i 0)) (aP Bl.aM i)<|av (aA (l.getD i 0))<|aD<|Ws ?_
  obtain⟨b,hjz,UG⟩:=dV (bW.sM h.t.inv I _ (oJ (show i<l.length by omega) rfl))
  have K:yj m (l.getD i 0)=m.R b:=by unfold yj dz.idx; rw[jg h.t.inv.inj hjz UG]
  refine Wl<|aX h1<|Lv ((pt j)) (aP O.aM 0 (ha:=V))<|av ((pt j))<|av ((pf j 20))<|Lv (.map (some m.rb)) (aP vw.aM 20)<|av (aA (l.getD i 0))<|Lv (.agg (aC 54 (rv .i64 (m.R b)))) (Fx.rT (z := .agg (aC 54 (rv .i64 (fun _=>0)))) rfl rfl rfl Bj Tryd.underlying88 Tryd.underlying22 (by kernel_rfl) hjz UG rfl)<|uY (by rfl) (Fx.wz (args := [.agg (aC 54 (rv .i64 (m.R b)))]) rfl rfl rfl (all := #[.agg (aC 54 (rv .i64 (m.R b))),(pt E),(pt F)]) rfl Tryd.func161 rfl rfl) rfl<|(K9 (m.R b) v g E F _ ho qG yX).mono ?_
  rintro e w7 ⟨u,G⟩
  refine⟨.tuple #[.agg (aC 54 (rv .i64 ((bF (m.R b) v.o (g 3)).1))),au ((bF (m.R b) v.o (g 3)).2)],by rw[u],?_⟩
  clear u
  have⟨yg,Bn,wW,Ai,yG,GL,yY,Ed,GN,FE,Dw,Aj,b7⟩:=Ob G vw rZ vP Bj qF yE qG yX O Cj yF Bl Q
  refine av (.tuple #[.agg (aC 54 (rv .i64 ((bF (m.R b) v.o (g 3)).1))),au ((bF (m.R b) v.o (g 3)).2)])<|av (.agg (aC 54 (rv .i64 ((bF (m.R b) v.o (g 3)).1))))<|av (au ((bF (m.R b) v.o (g 3)).2))<|oo 54 (rv .i64 (fun _=>0)) fun g4 w8 Ia yZ s7 z5 => ?_
  have⟨Dx,Ee,FH,GQ,Ib,FI,FJ,GR,Ic,L9,Nc,Ma,b8⟩:=Ob s7.old yg Bn wW Ai yG GL yY Ed GN FE Dw Aj b7
  have MX:=iT Ia b7.size
  have⟨RI,RJ,RL,XW,XY,XZ,X0,X3,X4,X5,X6⟩:=SY Ia yg.lt wW.lt Ai.lt yG.lt GL.lt yY.lt Ed.lt GN.lt FE.lt Dw.lt Aj.lt
  have L8:=yZ.lt
  refine gU yZ 0 fun w9 Nf s8 z6 => ?_
  have KW:aK w9 g4 54 (rv .i64 ((bF (m.R b) v.o (g 3)).1)) 82:=aS Nf
  have oL:=jw s8 yZ.ty
  have⟨OQ,OT,Ry,OU,Hw,Hy,EL,EM,Da,AX,AY,ER⟩:=SX oL Dx Ee FH GQ Ib FI FJ GR Ic L9 Nc Ma
  have S:=s8.below b8 b8.size (by omega)
  refine av (au ((bF (m.R b) v.o (g 3)).2))<|aD<|Ws<|ay<|av (au ((bF (m.R b) v.o (g 3)).2)) ?_
  by_cases J:((bF (m.R b) v.o (g 3)).2)=0
  ·refine Lv aF (qP J)<|aD<|aN<|Wk<|sN ?_
   have hnd:l.Nodup:=by rw[I]; exact bW.qZ h.t.inv C
   have hny : ∀ q,q<i->(fun q=>l.getD q 0) q≠l.getD i 0:=fun q hq e=>by have:=uo hnd (show q<l.length by omega) (show i<l.length by omega) e; omega
   refine Wl<|Lv (.map (some d)) (aP AX.aM 0 (ha:=W))<|av (aA (l.getD i 0))<|Lv (.agg (aC 54 (rv .i64 ((bF (m.R b) v.o (g 3)).1)))) (kg KW.aM 0)<|Fx.L.Gz (by rfl) rfl rfl rfl rfl rfl AY Tryd.underlying88 Tryd.underlying22 hny fun Bg H7 s9 z7 => ?_
   have s:=AY.uG s9
   have RN:=OQ.bV s
   have Ni:=OT.bV s (by omega)
   have K4:=Ry.bV s (by omega)
   have K5:=OU.bV s (by omega)
   have Uz:=Hw.bV s (by omega)
   have UA:=Hy.bV s (by omega)
   have UC:=EL.bV s
   have UD:=EM.bV s
   have RA:=Da.bV s
   have RB:=AX.bV s
   have K6:=ER.bV s
   have UE:=KW.bV s
   have b10:=s9.below S S.size (by omega)
   have RD:Mp Bg d (i+1) (fun q=>l.getD q 0) (kQ m (fun x=>bF x v.o (g 3)) l):=zH H7 (by rw[K])
   refine Ln<|dA<|sN<|Wl<|Lv (au ((i:Int)+1)) (gD (hx:=H))<|av (au ((i:Int)+1))<|Ln ?_
   have X7:Fx.Own Bg P.heap.size 22 1 (.slice Oh (l.length) (D)) l.length (qm l):=K6.oD (congrArg (fun q=>Value.slice q l.length D) U.symm)
   refine iP ⟨i+1,(by omega),(zG M (by rw[K]; exact J)),h1,V,W,h4,(X.trans Fx.ic),Fx.ic,RN,Ni,K4,K5,Uz,UA,UC,UD,RA,RB,X7,RD,b10⟩ ?_
   show((l.length:Int)-intOf ((au ((i:Int)+1)))).toNat<_
   simp only[H,intOf]; omega
  refine Lv aI (tu J)<|aD<|aT<|ay<|av (au ((bF (m.R b) v.o (g 3)).2))<|av (.nilFunc)<|av (au ((bF (m.R b) v.o (g 3)).2))<|aD<|Wr<|sR<|bU<|sR<|rA<|bU<|sR<|aL (.tuple #[.nilFunc,au ((bF (m.R b) v.o (g 3)).2)]) ?_
  have N:bM m (fun x=>bF x v.o (g 3)) l=(bF (m.R b) v.o (g 3)).2:=by unfold bM; rw[ru M (by rw[K]; exact J) _ (by omega),K]
  exact⟨⟨.nilFunc,0,#[],by rw[N],rfl,fun e0=>absurd (N.symm.trans e0) (by first|decide|omega|assumption)⟩,S⟩
 refine Lv aF (nW UF (hx:=H) (hy:=X))<|aD<|Ws<|aN<|Wx<|cZ<|gX<|dh<|sN<|ay<|Lv (.func (.func 170) #[] #[(pt y),(pt A)]) (Fx.iK (us := []) (vs := [(pt y),(pt A)]) rfl rfl (Fx.args2 W V))<|av (.func (.func 170) #[] #[(pt y),(pt A)])<|av (au 0)<|aD<|Wr<|aL (.tuple #[.func (.func 170) #[] #[(pt y),(pt A)],au 0]) ?_
 have hil:i=l.length:=by omega
 rw[hil]at yF M
 have hgm:m.rb≠d/\m.mb≠d/\m.pb≠d/\m.gb≠d/\m.ab≠d:=⟨by omega,by omega,by omega,by omega,by omega⟩
 have N:bM m (fun x=>bF x v.o (g 3)) l=0:=M
 exact⟨⟨_,170,#[(pt y),(pt A)],by rw[N],rfl,fun _=>⟨rfl,⟨_,_,Tryd.func170,rfl,rfl⟩,fun w2 G=>(Db m j B w2 ((h.up Q).up G) (fun x=>bF x v.o (g 3)) l d hgm (bW.sM h.t.inv I) (yF.up G) _ _ (Cj.dX (Sb G) (Nat.ne_of_lt Cj.lt)) (O.dX (Sb G) (Nat.ne_of_lt O.lt))).mono fun _ _ Y=>⟨Y.1,Y.2.1,Y.2.2.mono fun _ hk => .inl hk⟩⟩⟩,Q⟩
section
set_option maxRecDepth 20000
set_option linter.unusedVariables false
namespace Rt
def yI(k1 k2:Nat->Int):Nat->Int->Int->Bool
 | 0,_,_=>false
 | n+1,a,b=>(decide (k1 n=a)&&decide (k2 n=b)) || yI k1 k2 n a b
def Nk(k1 k2:Nat->Int):Nat->Int->Int->Nat
 | 0,_,_=>0
 | n+1,a,b=>if k1 n=a/\k2 n=b then n else Nk k1 k2 n a b
section
variable {k1 k2:Nat->Int} {a b:Int}
theorem kR : ∀ {n:Nat},yI k1 k2 n a b=true <-> ∃ j,j<n/\k1 j=a/\k2 j=b
 | 0=>⟨fun h=>(nomatch h),fun⟨j,h,_⟩=>absurd h (Nat.not_lt_zero _)⟩
 | n+1=>by
   unfold yI
   rw[Bool.or_eq_true,Bool.and_eq_true,decide_eq_true_iff,decide_eq_true_iff,kR]
   constructor
   ·rintro (⟨f,c⟩|⟨j,f,c,d⟩)
    ·exact⟨n,by omega,f,c⟩
    ·exact⟨j,by omega,c,d⟩
   ·rintro ⟨j,f,c,d⟩
    by_cases e:j=n
    ·subst e; exact .inl ⟨c,d⟩
    ·exact .inr ⟨j,by omega,c,d⟩
theorem sO{n j:Nat}(e:j<n)(c:k1 j=a)(d:k2 j=b):yI k1 k2 n a b=true:=kR.2 ⟨j,e,c,d⟩
theorem lQ{n:Nat}(h : ∀ i,i<n -> ¬ (k1 i=a/\k2 i=b)):yI k1 k2 n a b=false:=by
 cases e:yI k1 k2 n a b with
 | false=>rfl
 | true=>obtain⟨j,f,c,d⟩:=kR.1 e; exact absurd ⟨c,d⟩ (h j f)
theorem sP{j:Nat} : ∀ {n:Nat},(∀ p q,p<n->q<n->k1 p=k1 q->k2 p=k2 q->p=q)->j<n->k1 j=a->k2 j=b->Nk k1 k2 n a b=j
 | 0,_,h,_,_=>absurd h (Nat.not_lt_zero _)
 | n+1,hi,hj,e1,e2=>by
   unfold Nk
   by_cases c:k1 n=a/\k2 n=b
   ·rw[if_pos c]; exact hi n j (by omega) hj (c.1.trans e1.symm) (c.2.trans e2.symm)
   ·rw[if_neg c]
    refine sP (fun p q d f=>hi p q (by omega) (by omega)) ?_ e1 e2
    by_cases e:j=n
    ·subst e; exact absurd ⟨e1,e2⟩ c
    ·omega
end
theorem wh{v:EvM}(h:bX v=true)(a:jc v):Fx.vk v.o v.req/\Fx.vk v.o v.of:=by
 have d:=kP h
 have b:=a.req
 have c:=a.of
 unfold iG at b c
 exact⟨⟨by omega,by omega⟩,⟨by omega,by omega⟩⟩
theorem Nl{w:World}{b k n:Nat}{g:Nat->Nat->Int}{o r:Int}{y:Nat->Value}(h:fC w b k (aH (fun i=>g i 0) n o) (aH (fun i=>g i 1) n r) (aH (qX g) n (.agg (aC 5 y))))(x:Nat->Int)(a:x 0=o)(d:x 1=r)(e : ∀ j,j<5->y j=vE x j) :
 fC w b k (fun i=>aH g n x i 0) (fun i=>aH g n x i 1) (qX (aH g n x)):=h.mI fun i _=>by
 unfold aH qX
 by_cases c:i=n
 ·subst c
  refine⟨?_,?_,?_⟩
  ·show(if i=i then o else g i 0)=(if i=i then x else g i) 0
   rw[if_pos rfl,if_pos rfl,a]
  ·show(if i=i then r else g i 1)=(if i=i then x else g i) 1
   rw[if_pos rfl,if_pos rfl,d]
  ·show(if i=i then Value.agg (aC 5 y)else _)=Value.agg (aC 5 (vE (if i=i then x else g i)))
   rw[if_pos rfl,if_pos rfl,Fx.fZ e]
 ·refine⟨?_,?_,?_⟩
  ·show(if i=n then o else g i 0)=(if i=n then x else g i) 0
   rw[if_neg c,if_neg c]
  ·show(if i=n then r else g i 1)=(if i=n then x else g i) 1
   rw[if_neg c,if_neg c]
  ·show(if i=n then Value.agg (aC 5 y)else Value.agg (aC 5 (vE (g i))))=Value.agg (aC 5 (vE (if i=n then x else g i)))
   rw[if_neg c,if_neg c]
theorem Nn{w:World}{b n j:Nat}{g:Nat->Nat->Int}{x:Nat->Int}(h:fC w b n (fun i=>g i 0) (fun i=>g i 1) (aH (qX g) j (.agg (aC 5 (vE x)))))(a:x 0=g j 0)(d:x 1=g j 1) :
 fC w b n (fun i=>aH g j x i 0) (fun i=>aH g j x i 1) (qX (aH g j x)):=h.mI fun i _=>by
 unfold aH qX
 show g i 0=(if i=j then x else g i) 0/\g i 1=(if i=j then x else g i) 1/\_=Value.agg (aC 5 (vE (if i=j then x else g i)))
 by_cases c:i=j
 ·subst c; rw[if_pos rfl,if_pos rfl]; exact⟨a.symm,d.symm,rfl⟩
 ·rw[if_neg c,if_neg c]; exact⟨rfl,rfl,rfl⟩
theorem Gc{w:World}{b k n:Nat}{o r:Nat->Int}{x y:Int}(h:fC w b k (aH o n x) (aH r n y) (aH xE n (.bool true))):fC w b k (aH o n x) (aH r n y) xE:=h.mI fun i _=>⟨rfl,rfl,by unfold aH xE; split <;> rfl⟩
theorem UH(x:Nat->Int)(r:Int):gu (vE x) 4 (aA r)=vE (upd x 4 r):=by
 funext p
 unfold gu
 by_cases c:p=4
 ·subst c; rw[if_pos rfl]; rfl
 rw[if_neg c]; unfold vE upd
 by_cases a:p=0
 ·rw[if_pos a,if_pos a]; rfl
 rw[if_neg a,if_neg a]
 by_cases b:p=3
 ·rw[if_pos b,if_pos b]; rfl
 rw[if_neg b,if_neg b,if_neg c]
def yt(a b:Int):Nat->Value:=fun p=>if p=0 then au a else aA b
def Lg(m:dz)(a:Nat->Nat->Int)(v:EvM):dz := { m with R:=a,an:=m.an+1,ao:=aH m.ao m.an v.o,ar:=aH m.ar m.an v.req,gn:=m.gn+1,g:=aH m.g m.gn (vT v) }
def Gd(m:dz)(a:Nat->Nat->Int)(v:EvM)(j:Nat):dz := { m with R:=a,an:=m.an+1,ao:=aH m.ao m.an v.o,ar:=aH m.ar m.an v.req,g:=aH m.g j (upd (m.g j) 4 v.req) }
structure Bw(w0 w:World):Prop where
 b:Below w0.heap.size w0 w
theorem Bw.up{a w w':World}(h:Bw a w)(c:Below w.heap.size w w'):Bw a w':=⟨Bt h.b c⟩
instance {a w w':World}:Rt.Tr w w' (Bw a w) (Bw a w'):=⟨fun b h=>h.up b⟩
end Rt
theorem RO{y:Nat->Value}{a b:Int}(c:y 0=au a)(h1:y 1=aA b){w:World}{g:Nat}(h:aK w g 2 y 102):aK w g 2 (yt a b) 102:=h.congr fun j d=>by
 rcases(show j=0\/j=1 by omega)with rfl|rfl
 ·exact c
 ·exact h1
structure LtT(gl gq ge b:Nat):Prop where
 gl:gl<b
 gq:gq<b
 ge:ge<b
structure LtF(gl gq ge gg go b:Nat):Prop where
 gl:gl<b
 gq:gq<b
 ge:ge<b
 gg:gg<b
 go:go<b
theorem Lh(m:dz)(l B:Nat)(w:World)(h:gZ w B l m)(v:EvM)(hv:bX v=true)(hwf:jc v)(I:Nat->Nat->Int)(D J G:Nat)(RP:J<=D)(cap:Array Value)(U:Kq w B l m { m with R:=I } D (.func (.func G) #[] cap) G cap)(S:Nat)(K:Nat)(M:Nat)(A:Nat)(Y:aK w S 1 (fun _ => .func (.func G) #[] cap) 94)(hl:aK w K 1 (fun _=>(pt l)) 44)(hq:aK w M 2 (yt v.o v.req) 102)(E:aK w A 14 (dJ v) 28)(N:LtT K M A D)(hnz : ∀ i,i<m.an -> ¬ (m.ao i=v.o/\m.ar i=v.req))(hny : ∀ i,i<m.gn -> ¬ ((fun i=>m.g i 0) i=v.o/\(fun i=>m.g i 1) i=v.req)) :
 Calls Tryd.prog 160 #[(pt S),(pt K),(pt M),(pt A)] w fun e w'=>e = .returned (.tuple #[])/\gZ w' B l (Lg m I v)/\iR (Ko m l J) w w':=by
 have hC:=h.c
 have hT:=h.t
 have hP:=h.p
 have hR:=h.r
 have hG:=h.g
 have hA:=h.a
 have d:=h.ne
 have lC:=h.c.lt
 have lT:=h.t.lt
 have lP:=h.p.lt
 have lR:=h.r.lt
 have lG:=h.g.lt
 have lA:=h.a.lt
 have lgd:=Y.lt
 have Og:=hl.lt
 have lgq:=hq.lt
 have OI:=E.lt
 have Z:=wh hv hwf
 refine Kent Tryd.func160 25 ?_
 refine ay<|Lv (.func (.func G) #[] cap) (aP Y.aM 0)<|uY (by rfl) (Fx.FX (args := []) rfl rfl rfl (by simp) U.f) rfl<|(U.s _ (Below.refl _ _)).mono ?_
 rintro e9 z ⟨E,C,H⟩
 refine⟨_,E,?_⟩
 clear E
 have V:=H.mono (S':=Ko m l J) fun k hk=>hk.imp id (Nat.le_trans RP)
 have m1:aK z l 29 (mY m) 93:=C.c
 have lm1:=m1.lt
 have m2:kV z B m.tp m.mb m.T:=C.t
 have lm2:=m2.lt
 have m3:Mp z m.pb m.T.n m.T.x (xD m.T):=C.p
 have lm3:=m3.lt
 have m4:Mp z m.rb m.T.n m.T.x (om (I)):=C.r
 have lm4:=m4.lt
 have m5:fC z m.gb m.gn (fun i=>m.g i 0) (fun i=>m.g i 1) (qX m.g):=C.g
 have lm5:=m5.lt
 have m6:fC z m.ab m.an m.ao m.ar xE:=C.a
 have lm6:=m6.lt
 have m7:=h.AJ hl (by decide) H N.gl
 have lm7:=m7.lt
 have m8:=h.AJ hq (by decide) H N.gq
 have lm8:=m8.lt
 have m9:=h.AJ E (by decide) H N.ge
 have lm9:=m9.lt
 refine aD<|Ws ?_
 -- region 1 draws
 refine jy [0,1,2,3,4,5] [4,0,0,4,4,3] [(5,0,[0]),(5,3,[3]),(5,4,[4])] fun rE W ig => ?_
 have s1:Stp z.heap.size z rE:=Sb W
 have⟨m10,m11,m12,m13,m14,m15,m16,m17,m18⟩:=zZ W m1 m2 m3 m4 m5 m6 m7 m8 m9
 have D:=V.then s1 (.inr V.size)
 refine Rs ((pt l)) (aP m16.aM 0) ?_
 refine aY ((pt l))<|aY ((pf l 28))<|Rs (.map (some m.ab)) (aP m10.aM 28) ?_
 refine Rs (.agg (aC 2 (yt v.o v.req))) (kg m17.aM 0) ?_
 refine fU<|Fx.L.IU (by rfl) rfl rfl rfl ((show ev _ _ = .agg (aC 2 (yt v.o v.req))from rfl).trans (Fx.qA (y:=yt v.o v.req) (a:=v.o) (b:=v.req) rfl rfl)) Z.1 rfl m15 Tryd.underlying90 yH hnz fun O m19 s2 z1 => ?_
 have q:=m15.uG s2
 have m20:=m10.bV q
 have m21:=m11.bV q (d.ma)
 have m22:=m12.bV q (d.pa)
 have m23:=m13.bV q (d.ra)
 have m24:=m14.bV q (d.ga)
 have rG:=m16.bV q
 have rY:=m17.bV q
 have tL:=m18.bV q
 have Q:=D.then s2 (.inl (.inl (.inr (.inr (.inr (.inr (.inr rfl)))))))
 have vO:fC O m.ab (m.an+1) (aH m.ao m.an v.o) (aH m.ar m.an v.req) xE:=Gc m19
 refine Ln<|bD ?_
 -- region 2 draws
 refine jy [5,7,9,11,0,1,2,3,4,6,8,10,12,13,14] [4,0,0,4,4,0,4,0,4,0,4,0,4,0,3] [(14,0,[0]),(14,3,[3]),(14,4,[4]),(14,6,[6]),(14,8,[8]),(14,10,[10]),(14,12,[12])] fun Dv X oK => ?_
 have s3:Stp O.heap.size O Dv:=Sb X
 have⟨wR,yD,oq,m32,qE,ou,sU,F,Ag⟩:=zZ X m20 m21 m22 m23 m24 rG rY tL vO
 have b3:=Q.then s3 (.inr Q.size)
 refine aY ((pt A))<|aY ((pf A 12))<|aY ((pf A 9))<|aY ((pf A 11))<|Rs ((pt l)) (aP ou.aM 0) ?_
 refine aY ((pt l))<|aY ((pf l 27))<|Rs (.map (some m.gb)) (aP wR.aM 27) ?_
 refine Rs (.agg (aC 2 (yt v.o v.req))) (kg sU.aM 0) ?_
 refine Rs (au v.o) (aP F.aM 0) ?_
 refine Rs (aA v.req) (aP F.aM 12) ?_
 refine Rs (aA v.node) (aP F.aM 9) ?_
 refine Rs (au v.bI) (aP F.aM 11) ?_
 refine aY (.agg (aC 5 (dn (dn (dn (dn (fun P=>if P<1 then au 0 else if P<3 then aA 0 else if P<4 then au 0 else aA 0) 0 1 (fun _=>au v.o)) 1 1 (fun _=>aA v.req)) 2 1 (fun _=>aA v.node)) 3 1 (fun _=>au v.bI))))<|fU<|Fx.L.IU (by rfl) rfl rfl rfl ((show ev _ _ = .agg (aC 2 (yt v.o v.req))from rfl).trans (Fx.qA (y:=yt v.o v.req) (a:=v.o) (b:=v.req) rfl rfl)) Z.1 rfl qE Tryd.underlying89 yH hny fun w3 wS s4 z2 => ?_
 have u:=qE.uG s4
 have tN:=wR.bV u
 have yV:=yD.bV u (d.mg)
 have tO:=oq.bV u (d.pg)
 have xX:=m32.bV u (d.rg)
 have sV:=ou.bV u
 have uI:=sU.bV u
 have wT:=F.bV u
 have uJ:=Ag.bV u ((Ne.symm d.ga))
 have b4:=b3.then s4 (.inl (.inl (.inr (.inr (.inr (.inr (.inl rfl)))))))
 have wU:fC w3 m.gb (m.gn+1) (fun i=>aH m.g m.gn (vT v) i 0) (fun i=>aH m.g m.gn (vT v) i 1) (qX (aH m.g m.gn (vT v))):=Nl wS (vT v) rfl rfl (by intro j hj; rcases(show j=0\/j=1\/j=2\/j=3\/j=4 by omega)with rfl|rfl|rfl|rfl|rfl <;> rfl)
 refine Ln (Rn (⟨.tuple #[],fG Tryd.results160,?_⟩))
 unfold Lg
 exact⟨rfl,{ c:=tN,t:=yV,p:=tO,r:=xX,g:=wU,a:=uJ,ne:=⟨d.mp,d.mr,d.mg,d.ma,d.pr,d.pg,d.pa,d.rg,d.ra,d.ga⟩,lB:=h.lB,pB:=h.pB,rB:=h.rB,gB:=h.gB,aB:=h.aB },b4⟩
theorem Li(m:dz)(l B:Nat)(w:World)(h:gZ w B l m)(v:EvM)(hv:bX v=true)(hwf:jc v)(K:Nat->Nat->Int)(E H I:Nat)(RP:H<=E)(cap:Array Value)(S:Kq w B l m { m with R:=K } E (.func (.func I) #[] cap) I cap)(j:Nat)(Q:Nat)(M:Nat)(N:Nat)(J:Nat)(A:Nat)(go:Nat)(X:aK w Q 1 (fun _ => .func (.func I) #[] cap) 94)(hl:aK w M 1 (fun _=>(pt l)) 44)(hq:aK w N 2 (yt v.o v.req) 102)(F:aK w J 14 (dJ v) 28)(Y:aK w A 5 (vE (m.g j)) 99)(hof:aK w go 2 (yt v.o v.of) 102)(hgg:H<=A)(G:LtF M N J A go E)(hnz : ∀ i,i<m.an -> ¬ (m.ao i=v.o/\m.ar i=v.req))(Z:j<m.gn)(ejy:(fun i=>m.g i 0) j=v.o)(fjy:(fun i=>m.g i 1) j=v.of) :
 Calls Tryd.prog 163 #[(pt Q),(pt M),(pt N),(pt J),(pt A),(pt go)] w fun e w'=>e = .returned (.tuple #[])/\gZ w' B l (Gd m K v j)/\iR (Ko m l H) w w':=by
 have hC:=h.c
 have hT:=h.t
 have hP:=h.p
 have hR:=h.r
 have hG:=h.g
 have hA:=h.a
 have d:=h.ne
 have lC:=h.c.lt
 have lT:=h.t.lt
 have lP:=h.p.lt
 have lR:=h.r.lt
 have lG:=h.g.lt
 have lA:=h.a.lt
 have lgd:=X.lt
 have Og:=hl.lt
 have lgq:=hq.lt
 have OI:=F.lt
 have lgg:=Y.lt
 have lgo:=hof.lt
 have aa:=wh hv hwf
 have adC:=Z
 refine Kent Tryd.func163 22 ?_
 refine ay<|Lv (.func (.func I) #[] cap) (aP X.aM 0)<|uY (by rfl) (Fx.FX (args := []) rfl rfl rfl (by simp) S.f) rfl<|(S.s _ (Below.refl _ _)).mono ?_
 rintro e9 z ⟨F,D,C⟩
 refine⟨_,F,?_⟩
 clear F
 have U:=C.mono (S':=Ko m l H) fun k hk=>hk.imp id (Nat.le_trans RP)
 have m1:aK z l 29 (mY m) 93:=D.c
 have lm1:=m1.lt
 have m2:kV z B m.tp m.mb m.T:=D.t
 have lm2:=m2.lt
 have m3:Mp z m.pb m.T.n m.T.x (xD m.T):=D.p
 have lm3:=m3.lt
 have m4:Mp z m.rb m.T.n m.T.x (om (K)):=D.r
 have lm4:=m4.lt
 have m5:fC z m.gb m.gn (fun i=>m.g i 0) (fun i=>m.g i 1) (qX m.g):=D.g
 have lm5:=m5.lt
 have m6:fC z m.ab m.an m.ao m.ar xE:=D.a
 have lm6:=m6.lt
 have m7:=h.AJ hl (by decide) C G.gl
 have lm7:=m7.lt
 have m8:=h.AJ hq (by decide) C G.gq
 have lm8:=m8.lt
 have m9:=h.AJ F (by decide) C G.ge
 have lm9:=m9.lt
 have m10:=h.AJ Y (by decide) C G.gg
 have adD:=m10.lt
 have m11:=h.AJ hof (by decide) C G.go
 have adE:=m11.lt
 refine aD<|Ws ?_
 -- region 1 draws
 refine jy [0,1,2,3,4,5] [4,0,0,4,4,3] [(5,0,[0]),(5,3,[3]),(5,4,[4])] fun rE V ig => ?_
 have s1:Stp z.heap.size z rE:=Sb V
 have⟨m12,m13,m14,m15,m16,m17,m18,m19,m20,m21,m22⟩:=wH V m1 m2 m3 m4 m5 m6 m7 m8 m9 m10 m11
 have E:=U.then s1 (.inr U.size)
 refine Rs ((pt l)) (aP m18.aM 0) ?_
 refine aY ((pt l))<|aY ((pf l 28))<|Rs (.map (some m.ab)) (aP m12.aM 28) ?_
 refine Rs (.agg (aC 2 (yt v.o v.req))) (kg m19.aM 0) ?_
 refine fU<|Fx.L.IU (by rfl) rfl rfl rfl ((show ev _ _ = .agg (aC 2 (yt v.o v.req))from rfl).trans (Fx.qA (y:=yt v.o v.req) (a:=v.o) (b:=v.req) rfl rfl)) aa.1 rfl m17 Tryd.underlying90 yH hnz fun w2 m23 s2 z1 => ?_
 have q:=m17.uG s2
 have m24:=m12.bV q
 have rG:=m13.bV q (d.ma)
 have rY:=m14.bV q (d.pa)
 have tL:=m15.bV q (d.ra)
 have vO:=m16.bV q (d.ga)
 have wR:=m18.bV q
 have yD:=m19.bV q
 have oq:=m20.bV q
 have m32:=m21.bV q
 have qE:=m22.bV q
 have b2:=E.then s2 (.inl (.inl (.inr (.inr (.inr (.inr (.inr rfl)))))))
 have ou:fC w2 m.ab (m.an+1) (aH m.ao m.an v.o) (aH m.ar m.an v.req) xE:=Gc m23
 refine Ln<|bD<|ay<|av ((pf J 12))<|Lv (aA v.req) (aP oq.aM 12)<|av ((pf A 4))<|mX m32 4 (aA v.req) fun O sU s3 z2 => ?_
 have uH:aK O A 5 (vE (upd (m.g j) 4 v.req)) 99:=sU.to (UH _ _)
 have iZ:=jw s3 m32.ty
 have⟨Ag,wS,tN,yV,tO,xX,sV,uI,wT,uJ⟩:=Fp iZ m24 rG rY tL vO wR yD oq qE ou
 have P:=b2.then s3 (.inl (.inr hgg))
 refine aD ?_
 -- region 3 draws
 refine jy [0,1,2,3,4,5,6] [4,0,0,4,4,4,3] [(6,0,[0]),(6,3,[3]),(6,4,[4]),(6,5,[5])] fun Dv W oK => ?_
 have s4:Stp O.heap.size O Dv:=Sb W
 have⟨wU,Ec,xY,xZ,Bh,Ah,wV,Ci,yc,vw,rZ⟩:=wH W Ag wS tN yV tO xX sV uI wT uJ uH
 have b4:=P.then s4 (.inr P.size)
 refine Rs ((pt l)) (aP Ah.aM 0) ?_
 refine aY ((pt l))<|aY ((pf l 27))<|Rs (.map (some m.gb)) (aP wU.aM 27) ?_
 refine Rs (.agg (aC 2 (yt v.o v.of))) (kg yc.aM 0) ?_
 refine Rs (.agg (aC 5 (vE (upd (m.g j) 4 v.req)))) (kg rZ.aM 0) ?_
 refine fU<|Fx.L.S9 (by rfl) rfl rfl rfl ((show ev _ _ = .agg (aC 2 (yt v.o v.of))from rfl).trans (Fx.qA (y:=yt v.o v.of) (a:=v.o) (b:=v.of) rfl rfl)) aa.2 rfl Bh Tryd.underlying89 yH Z ejy fjy fun w4 vP s5 z3 => ?_
 have u:=Bh.uG s5
 have Bj:=wU.bV u
 have qF:=Ec.bV u (d.mg)
 have yE:=xY.bV u (d.pg)
 have qG:=xZ.bV u (d.rg)
 have yX:=Ah.bV u
 have m64:=wV.bV u
 have Cj:=Ci.bV u
 have Ck:=yc.bV u
 have yF:=vw.bV u ((Ne.symm d.ga))
 have Bl:=rZ.bV u
 have b5:=b4.then s5 (.inl (.inl (.inr (.inr (.inr (.inr (.inl rfl)))))))
 have yg:fC w4 m.gb m.gn (fun i=>aH m.g j (upd (m.g j) 4 v.req) i 0) (fun i=>aH m.g j (upd (m.g j) 4 v.req) i 1) (qX (aH m.g j (upd (m.g j) 4 v.req))):=Nn vP rfl rfl
 refine Ln (Rn (⟨.tuple #[],fG Tryd.results163,?_⟩))
 unfold Gd
 exact⟨rfl,{ c:=Bj,t:=qF,p:=yE,r:=qG,g:=yg,a:=yF,ne:=⟨d.mp,d.mr,d.mg,d.ma,d.pr,d.pg,d.pa,d.rg,d.ra,d.ga⟩,lB:=h.lB,pB:=h.pB,rB:=h.rB,gB:=h.gB,aB:=h.aB },b5⟩
end
end Go.Proofs.YtahbiajdgealnaaDoor
