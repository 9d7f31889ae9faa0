/-
  What the proof of the law rests on, part 4: walks of functions, and plain laws; each says its conditions itself.
-/
import Derived.Sort.LotA
import Derived.Sort.LotB
import Derived.Sort.LotC
import Derived.Sort.LotD3
import Derived.Test.YtabjalhnkndjaaaGreatDoorRows
import Derived.Sort.LotD1
import Derived.Test.YtabjalhnkndjaaaGreatDoorZE3
set_option maxRecDepth 20000
set_option linter.unusedVariables false
set_option maxHeartbeats 1600000
set_option linter.unusedSimpArgs false
variable{m k b j D:Nat}{a d e:Int}{c q:Go.World}{T E:Go.TypeId}{X Y:Nat->Int}{x:Nat->Go.Value}{f p:Go.Operand}{h:Option Go.Addr}{s:Int->Bool}{u:List Int}{A:Array Int}{o:Go.Oper}{P:Go.Program}
namespace Go.Proofs.YtabjalhnkndjaaaGreatDoor
open Go.Proofs.Tryz
open Fx hiding E9 Fa HY Jf Jk L R start
open Go.RowKit Rt
section
open Rt
theorem asl(x p:Nat->Int)(w:World) :
 Calls prog 22 #[] w fun e w' => ∃ tp mb,e = .returned (pt tp)/\w.heap.size<=tp/\w.heap.size<=mb/\aM w' tp 1 (fun _ => .map (some mb)) 141/\Mp w' mb 0 x (fun j=>aG (p j))/\Below w.heap.size w w':=by
 refine bX func22 4 ?_;refine ay<|au (.pointer none)<|aC<|ay<|Fx.L.Nq (by rfl) rfl rfl fun k u h a o y => ?_;have b:=bL o.bP (Below.refl w.heap.size w);have l:=iy h;have s:=a.lt;refine au (.agg (aA 1 (bJ (fun _ => .map none) 0 1 (fun _ => .map (some k)))))<|oq fun d v c f q z =>have⟨n,g⟩:=fB q.bP a b;have m:=gQ c b.size;have r:=gD c a.lt;have t:=f.lt;au (pt d)<|aC<|Wr<|aK (pt d)<|⟨_,_,rfl,m,l,f,n.qU (fun i hi=>L_ hi (z_ _)),g⟩
theorem Rt.Cm(hi:m<u.length)(e:u.getD m 0=a):a∈u:=by
 rw[r_,o_ hi]at e;rw[<- e]; exact List.getElem_mem hi
theorem Rt.ahT(h : ∀ j,j<u.length->u.getD j 0≠a) : ¬ a∈u:=fun l=>by
 obtain⟨i,hi,e⟩:=List.getElem_of_mem l;refine h i hi ?_;rw[r_,o_ hi]; exact e
theorem aA6(l:List Int)(v:Int)(B c:Nat)(a:Option Addr)(w:World)(C:aY w B 26 1 (.slice a l.length c) l.length (BH l))(F:l.length<=1000) :
 Calls prog 209 #[.slice a (l.length) (c),aG v] w fun e w' => ∃ r:Int,e = .returned (av r)/\(0<=r<->v∈l)/\Below w.heap.size w w':=by
 refine bX func209 19 ?_;refine ay<|au (av 0)<|aC<|aQ<|ay<|au (.slice a (l.length) (c))<|au (av l.length)<|au (av 0)<|aC<|Wb<|Wo (fun f A => ∃ i:Nat,(∀ j,j<i->l.getD j 0≠v)/\f 0 = .slice a (l.length) (c)/\f 1=aG v/\f 7=av (l.length:Int)/\f 8=av (i:Int)/\aY A B 26 1 (.slice a (l.length) (c)) l.length (BH l)/\Below w.heap.size w A) (fun f _=>((l.length:Int)-intOf (f 8)).toNat) ⟨0,(fun j n=>L_ n (z_ _)),(by rfl),ic,ic,ic,C,(Below.refl w.heap.size w)⟩ ?_;rintro E z ⟨i,u,s,t,m,b,x,g⟩;refine ay ?_;by_cases o:(i:Int)<(l.length:Int)
 ·refine Lv aH (fK o (hx:=b) (hy:=m))<|aC<|aQ<|aP<|Wk<|sN<|aQ<|Wb<|ay<|bA b<|au (av i)<|aC<|ay<|bA t<|bA s<|au (av i) ?_;obtain⟨p,k⟩:=x.wz;have y:=x.fE (K_ (fun q=>Value.slice q l.length c) k);refine Lv (pf p i) (fC 1 (hx:=(rfl.trans (K_ (fun q=>Value.slice q (l.length) (c)) k))))<|Lv (aG (l.getD i 0)) (aR y.aJ i) ?_;by_cases d:v=(l.getD i 0)
  ·refine Lv aH (gU d)<|aC<|aP<|ay<|au (av i)<|au (av i)<|aC<|Wr<|bO<|sR<|oG<|bO<|sR<|aK (av i)<|⟨_,rfl,⟨fun _=>Cm (by omega) d.symm,fun _=>by omega⟩,g⟩
  refine Lv aD (gX d)<|aC<|aL<|Wk<|bS<|sN<|Wl<|Lv (av ((i:Int)+1)) (gu (hx:=b))<|au (av ((i:Int)+1))<|Ln<|have D:aY z B 26 1 (.slice a (l.length) (c)) l.length (BH l):=y.fE (K_ (fun q=>Value.slice q l.length c) k.symm);iA ⟨i+1,(fun j n=>by by_cases e:j=i; subst e; exact fun e=>d e.symm; exact u j (by omega)),s,(t.trans ic),(m.trans ic),ic,D,g⟩ ?_;show((l.length:Int)-intOf (av ((i:Int)+1))).toNat<_;simp only[b,intOf]; omega
 refine Lv aD (fM o (hx:=b) (hy:=m))<|aC<|aQ<|aL<|Wx<|cZ<|iC<|dB<|sN<|ay<|au (av (-1))<|aC<|Wr<|aK (av (-1))<|⟨_,rfl,⟨fun h=>by omega,fun h=>L_ h (ahT (fun j n=>u j (by omega)))⟩,g⟩
theorem aA7(l:List Int)(v:Int)(B c:Nat)(a:Option Addr)(w:World)(g:aY w B 26 1 (.slice a l.length c) l.length (BH l))(i:l.length<=1000) :
 Calls prog 195 #[.slice a (l.length) (c),aG v] w fun e w'=>e = .returned (.bool (decide (v∈l)))/\Below w.heap.size w w':=by
 refine bX func195 9 ?_;refine ay<|au aD<|aC<|ay<|au (.slice a (l.length) (c))<|au (aG v)<|lX (aA6 _ v _ _ _ _ g i) ?_;rintro j k ⟨r,b,h,f⟩;refine⟨_,b,?_⟩;clear b;have d:=bL f (Below.refl w.heap.size w);refine Lv (.bool (decide (0<=r))) (JU rfl rfl rfl)<|au (.bool (decide (0<=r)))<|aC<|Wr<|aK (.bool (decide (0<=r)))<|⟨by rw[decide_eq_decide.2 h],d⟩
theorem asn(x p:Nat->Int)(n tp mb:Nat)(id pa:Int)(w:World)(b:aM w tp 1 (fun _ => .map (some mb)) 141)(a:Mp w mb n x (fun j=>aG (p j)))(h:Gi n x p) :
 Calls prog 180 #[(pt tp),aG id,aG pa] w fun e w' => ∃ c D x2 E,e = .returned (av c)/\ani n x p id pa c D x2 E/\aM w' tp 1 (fun _ => .map (some mb)) 141/\Mp w' mb D x2 (fun j=>aG (E j))/\eG mb w w':=by
 have X:(lV x p n 4 pa).length<=4:=Dh;refine bX func180 44 ?_;refine ay<|au (av 0)<|aC<|aQ<|Wb<|ay<|au (pt tp)<|Lv aD (CU rfl rfl rfl (by kernel_rfl))<|au aD<|aC<|aL<|ay<|au (aG id) ?_;by_cases f:id=0
 ·refine Lv aH (gU f)<|au aH<|aC<|aP<|ay<|au (av 1)<|aC<|Wr<|bO<|sR<|aK (av 1) ?_;exact⟨_,_,_,_,rfl,.no (by unfold wN; rw[d_ f]) (by decide),b,a,(oZ mb w)⟩
 refine Lv aD (gX f)<|au aD<|aC<|aL<|ay<|au (pt tp)<|au (aG id) ?_;by_cases d:(fV x n id)=true
 ·refine mX (KG x p n tp mb id _ b a) aH (by rw[d])<|au aH<|aC<|aP<|ay<|au (av 14)<|aC<|Wr<|bO<|sR<|aK (av 14) ?_;exact⟨_,_,_,_,rfl,.no (by unfold wN; rw[b_ f,d,d_ rfl]) (by decide),b,a,(oZ mb w)⟩
 rw[R_]at d;refine mX (KG x p n tp mb id _ b a) aD (by rw[d])<|au aD<|aC<|aL<|ay<|au (aG pa) ?_;by_cases k:pa=0
 ·refine Lv aD (kr k)<|au aD<|bf<|bf<|bf<|bf<|au aD<|au aD<|aC<|aL<|aQ<|ay<|au (pt tp)<|au (pt tp)<|au (pt tp)<|Lv (.map (some mb)) (aR b.aJ 0)<|Lv (av n) (acF rfl rfl rfl a underlying78) ?_;by_cases l:32<=(n:Int)
  ·refine Lv aH (mW l)<|au aH<|aC<|aP<|Wk<|sN<|aP<|ay<|au (av 6)<|aC<|Wr<|bO<|sR<|aK (av 6) ?_;exact⟨_,_,_,_,rfl,.no (by unfold wN; rw[b_ f,d,b_ (by decide),b_ (fun h=>h.1 k),d_ (by omega)]) (by decide),b,a,(oZ mb w)⟩
  refine Lv aD (mM l)<|au aD<|aC<|aL<|Wl<|au (pt tp)<|au (aG pa)<|lX (U0 x p n tp mb 4 pa _ b a h.inj (h.I6 _) (h.len _)) ?_;rintro J w1 ⟨YP,pc1,o,K,z⟩;refine⟨_,o,?_⟩;clear o;have T:=Sb z;have⟨s,t⟩:=fB z b a;have v:=(oZ mb w).then T (.inr (oZ mb w).size);refine au (av (((lV x p n 4 pa).length:Nat):Int)) ?_;by_cases m:4<=(((lV x p n 4 pa).length:Nat):Int)
  ·refine Lv aH (mW m)<|au aH<|aC<|aP<|ay<|au (av 6)<|aC<|Wr<|bO<|sR<|aK (av 6) ?_;exact⟨_,_,_,_,rfl,.no (by unfold wN; rw[b_ f,d,b_ (by decide),b_ (fun h=>h.1 k),d_ (by omega)]) (by decide),s,t,v⟩
  refine Lv aD (mM m)<|au aD<|aC<|aL<|Wk<|bS<|sN<|aQ ?_;have q : ∀ i,i<n->x i≠id:=fun i hi e=>by rw[ni hi e]at d; cases d
  refine Wl<|au (pt tp)<|au (pt tp)<|au (pt tp)<|Lv (.map (some mb)) (aR s.aJ 0)<|au (aG id)<|au (aG pa)<|Fx.L.UU (by rfl) rfl rfl rfl rfl rfl t underlying78 underlying26 q fun V P F z1 => ?_;have B:=t.Gg F;have Q:=s.fH B;have m6:=K.fH B;have H:=v.then F (.inl rfl);have R:Mp V mb (n+1) (aZ x n id) (fun j=>aG (aZ p n pa j)):=P.qU (fun i _=>⟨rfl,by unfold aZ; split <;> rfl⟩)
  refine aC<|ay<|au (av 0)<|aC<|Wr<|aK (av 0) ?_;exact⟨_,_,_,_,rfl,.yes (by unfold wN; rw[b_ f,d,b_ (by decide),b_ (fun h=>h.1 k),b_ (by omega)]),Q,R,H⟩
 refine Lv aH (mO k)<|au aH<|au (pt tp)<|au (aG pa) ?_;by_cases g:(fV x n pa)=true
 ·refine mX (KG x p n tp mb pa _ b a) aH (by rw[g])<|au aD<|au aD<|au aD<|aC<|aL<|aQ<|ay<|au (pt tp)<|au (pt tp)<|au (pt tp)<|Lv (.map (some mb)) (aR b.aJ 0)<|Lv (av n) (acF rfl rfl rfl a underlying78) ?_;by_cases l:32<=(n:Int)
  ·refine Lv aH (mW l)<|au aH<|aC<|aP<|Wk<|sN<|aP<|ay<|au (av 6)<|aC<|Wr<|bO<|sR<|aK (av 6) ?_;exact⟨_,_,_,_,rfl,.no (by unfold wN; rw[b_ f,d,b_ (by decide),b_ (fun h=>by rw[g]at h; cases h.2),d_ (by omega)]) (by decide),b,a,(oZ mb w)⟩
  refine Lv aD (mM l)<|au aD<|aC<|aL<|Wl<|au (pt tp)<|au (aG pa)<|lX (U0 x p n tp mb 4 pa _ b a h.inj (h.I6 _) (h.len _)) ?_;rintro J w3 ⟨pa2,pc2,o,S,A⟩;refine⟨_,o,?_⟩;clear o;have U:=Sb A;have⟨u,r⟩:=fB A b a;have y:=(oZ mb w).then U (.inr (oZ mb w).size);refine au (av (((lV x p n 4 pa).length:Nat):Int)) ?_;by_cases m:4<=(((lV x p n 4 pa).length:Nat):Int)
  ·refine Lv aH (mW m)<|au aH<|aC<|aP<|ay<|au (av 6)<|aC<|Wr<|bO<|sR<|aK (av 6) ?_;exact⟨_,_,_,_,rfl,.no (by unfold wN; rw[b_ f,d,b_ (by decide),b_ (fun h=>by rw[g]at h; cases h.2),d_ (by omega)]) (by decide),u,r,y⟩
  refine Lv aD (mM m)<|au aD<|aC<|aL<|Wk<|bS<|sN<|aQ ?_;have q : ∀ i,i<n->x i≠id:=fun i hi e=>by rw[ni hi e]at d; cases d
  refine Wl<|au (pt tp)<|au (pt tp)<|au (pt tp)<|Lv (.map (some mb)) (aR u.aJ 0)<|au (aG id)<|au (aG pa)<|Fx.L.UU (by rfl) rfl rfl rfl rfl rfl r underlying78 underlying26 q fun W M G z2 => ?_;have C:=r.Gg G;have N:=u.fH C;have ab:=S.fH C;have I:=y.then G (.inl rfl);have O:Mp W mb (n+1) (aZ x n id) (fun j=>aG (aZ p n pa j)):=M.qU (fun i _=>⟨rfl,by unfold aZ; split <;> rfl⟩)
  refine aC<|ay<|au (av 0)<|aC<|Wr<|aK (av 0) ?_;exact⟨_,_,_,_,rfl,.yes (by unfold wN; rw[b_ f,d,b_ (by decide),b_ (fun h=>by rw[g]at h; cases h.2),b_ (by omega)]),N,O,I⟩
 rw[R_]at g;refine mX (KG x p n tp mb pa _ b a) aD (by rw[g])<|au aH<|au aH<|au aH<|aC<|aP<|ay<|au (av 9)<|aC<|Wr<|bO<|sR<|aK (av 9) ?_;exact⟨_,_,_,_,rfl,.no (by unfold wN; rw[b_ f,d,b_ (by decide),d_ ⟨k,g⟩]) (by decide),b,a,(oZ mb w)⟩
theorem aso(k:Int)(w:World) :
 Calls prog 69 #[aG k] w fun e w'=>e = .returned (.bool true)/\w'=w:=by
 refine bX func69 3 ?_;refine ay<|au aD<|aC<|ay<|au aH<|aC<|Wr<|aK aH<|⟨rfl,rfl⟩
end
section
namespace Rt
open Go.Sort (ltInt swp)
def gA(d:Array Int):Nat->Int:=fun i=>d[i]!
section
variable {d d':Array Int} {n a b i j k p:Nat}
theorem anj(b:d.size=n)(hi:i<n)(a:j<n)(k:Nat):gA (swp d i j) k=if k=i then gA d j else if k=j then gA d i else gA d k:=by
 grind [gA,Sort.swp_right,Sort.swp_left,Sort.swp_other]
theorem nH(a:d.size=n)(i j:Nat):(swp d i j).size=n:=by grind [Sort.size_swp]
theorem vK(e:d.size=n)(hi:i<n:=by omega)(c:j<n:=by omega) : ∀ p,p<n*1->dN (dN (rv .u64 (gA d)) i (aG (gA d j))) j (aG (gA d i)) p=rv .u64 (gA (swp d i j)) p:=fun p f=>by
 show _=Value.int .u64 (gA (swp d i j) p);rw[anj e hi c];unfold dN;by_cases b:p=j
 ·subst b;rw[d_ rfl];by_cases a:p=i
  ·subst a; rw[d_ rfl]
  ·rw[b_ a,d_ rfl]
 ·rw[b_ b];by_cases a:p=i
  ·rw[d_ a,d_ a]
  ·rw[b_ a,b_ a,b_ b]; rfl
theorem EH(h:gA d i<gA d j):ltInt d[i]! d[j]! = true:=f_ h
theorem FQ(h : ¬ gA d i<gA d j):ltInt d[i]! d[j]! = false:=g_ h
theorem ank(b:a<j)(c:gA d j<gA d (j-1)):Sort.insInner ltInt a (j-1) (swp d j (j-1))=Sort.insInner ltInt a j d:=by
 obtain⟨k,rfl⟩ : ∃ k,j=k+1:=⟨j-1,by omega⟩
 grind [EH,Sort.insInner]
theorem RJ(h:j<=a \/ ¬ gA d j<gA d (j-1)):Sort.insInner ltInt a j d=d:=by
 cases j with
 | zero=>rfl
 | succ k =>
   grind [Sort.insInner,FQ]
theorem acQ(h:i<b)(hi:Sort.insInner ltInt a i d=d'):Sort.insOuter ltInt a b (i+1) d'=Sort.insOuter ltInt a b i d:=by
 grind [Sort.insOuter]
theorem acR(h : ¬ i<b):Sort.insOuter ltInt a b i d=d:=by grind [Sort.insOuter]
variable {f r hi x0 x1 x2:Nat}
theorem KJ(h:hi<=2*r+1):Sort.siftDown ltInt hi f r d=d:=by grind [Sort.siftDown]
theorem acS(a:x1=f+(2*r+1))(b:x2=f+(2*r+2))(e0:x0=f+r)(h:2*r+1<hi)(c:hi<=2*r+2 \/ ¬ gA d x1<gA d x2) :
 Sort.siftDown ltInt hi f r d=if gA d x0<gA d x1 then Sort.siftDown ltInt hi f (2*r+1) (swp d x0 x1)else d:=by
 grind [Sort.siftDown,FQ,EH]
theorem akJ(a:x1=f+(2*r+1))(b:x2=f+(2*r+2))(e0:x0=f+r)(h:2*r+2<hi)(c:gA d x1<gA d x2) :
 Sort.siftDown ltInt hi f r d=if gA d x0<gA d x2 then Sort.siftDown ltInt hi f (2*r+2) (swp d x0 x2)else d:=by
 grind [Sort.siftDown,EH,FQ]
theorem acT(a:0<k):Sort.heapBuild ltInt hi f (k-1) (Sort.siftDown ltInt hi f (k-1) d)=Sort.heapBuild ltInt hi f k d:=by
 obtain⟨j,rfl⟩ : ∃ j,k=j+1:=⟨k-1,by omega⟩;rfl
theorem anl{x:Nat}(a:0<k)(e:x=f+(k-1)):Sort.heapPop ltInt f (k-1) (Sort.siftDown ltInt (k-1) f 0 (swp d f x))=Sort.heapPop ltInt f k d:=by
 subst e;obtain⟨j,rfl⟩ : ∃ j,k=j+1:=⟨k-1,by omega⟩;rfl
theorem Js(h:f+hi<=n) : ∀(m r:Nat) (d:Array Int),hi-r<=m->d.size=n->(Sort.siftDown ltInt hi f r d).size=n
 | 0,r,d,hm,hd=>by grind [KJ]
 | m+1,r,d,hm,hd=>by
   by_cases b:2*r+1<hi
   ·by_cases a:2*r+2<hi/\gA d (f+(2*r+1))<gA d (f+(2*r+2))
    ·rw[akJ rfl rfl rfl a.1 a.2];split
     ·exact Js h m _ _ (by omega) (nH hd _ _)
     omega
    ·rw[acS rfl rfl rfl b (by omega)];split
     ·exact Js h m _ _ (by omega) (nH hd _ _)
     omega
   grind [KJ]
theorem anm(h:i<j):Sort.reverseLoop (i+1) (j-1) (swp d i j)=Sort.reverseLoop i j d:=by grind [Sort.reverseLoop]
theorem acU(h : ¬ i<j):Sort.reverseLoop i j d=d:=by grind [Sort.reverseLoop]
theorem akK(h:i<=j)(a:s d[i]! = true):Sort.scanUp s d j (i+1)=Sort.scanUp s d j i:=by
 grind [Sort.scanUp]
theorem Dj(h:j<i\/s d[i]! = false):Sort.scanUp s d j i=i:=by
 grind [Sort.scanUp]
theorem akL(h:i<=j)(a:0<j)(b:s d[j]! = true):Sort.scanDown s d i (j-1)=Sort.scanDown s d i j:=by
 obtain⟨k,rfl⟩ : ∃ k,j=k+1:=⟨j-1,by omega⟩
 grind [Sort.scanDown]
theorem Jt(h:j<i\/s d[j]! = false):Sort.scanDown s d i j=j:=by
 cases j with
 | zero=>rfl
 | succ k =>
   grind [Sort.scanDown]
theorem akM(h:i<=j)(b:gA d i<gA d a):Sort.partLoop ltInt a (i+1) j d=Sort.partLoop ltInt a i j d:=by
 grind [Sort.partLoop_eq,akK,EH]
theorem akN(h:i<=j)(b:0<j)(e : ¬ gA d i<gA d a)(c : ¬ gA d j<gA d a):Sort.partLoop ltInt a i (j-1) d=Sort.partLoop ltInt a i j d:=by
 grind [Sort.partLoop_eq,Dj,FQ,akL]
theorem akO(h:i<=j)(c : ¬ gA d i<gA d a)(b:gA d j<gA d a):Sort.partLoop ltInt a (i+1) (j-1) (swp d i j)=Sort.partLoop ltInt a i j d:=by
 grind [Sort.partLoop_eq,Dj,FQ,Jt,EH]
theorem acV(h:j<i:=by omega):Sort.partLoop ltInt a i j d=(j,d):=by
 grind [Sort.partLoop_eq,Dj,Jt]
theorem asq(h:i<=j)(b : ¬ gA d a<gA d i):Sort.partEqLoop ltInt a (i+1) j d=Sort.partEqLoop ltInt a i j d:=by
 grind [Sort.partEqLoop_eq,akK,FQ]
theorem asr(h:i<=j)(b:0<j)(e:gA d a<gA d i)(c:gA d a<gA d j):Sort.partEqLoop ltInt a i (j-1) d=Sort.partEqLoop ltInt a i j d:=by
 grind [Sort.partEqLoop_eq,Dj,EH,akL]
theorem asu(h:i<=j)(c:gA d a<gA d i)(b : ¬ gA d a<gA d j):Sort.partEqLoop ltInt a (i+1) (j-1) (swp d i j)=Sort.partEqLoop ltInt a i j d:=by
 grind [Sort.partEqLoop_eq,Dj,EH,Jt,FQ]
theorem ano(h:j<i):Sort.partEqLoop ltInt a i j d=(i,d):=by
 grind [Sort.partEqLoop_eq,Dj,Jt]
theorem U2(a:Nat)(d:Array Int):Sort.SortedIn ltInt a (a+1) d:=fun i j b c e=>by omega
end
end Rt
end
section
open Rt
theorem asv(n:Int)(w:World) :
 Calls prog 73 #[aG n] w fun e w'=>e = .returned (.bool false)/\w'=w:=by
 refine bX func73 6 ?_;refine ay<|au aD<|aC<|ay<|au (aG n)<|au (aG n)<|Lv aD (kr rfl)<|au aD<|aC<|Wr<|aK aD<|⟨rfl,rfl⟩
theorem jW(a b:Int)(w:World) :
 Calls prog 141 #[aG a,aG b] w fun e w'=>e = .returned (.bool (decide (a<b)))/\w'=w:=by
 refine bX func141 17 ?_;refine ay<|au aD<|aC<|ay<|au (aG a)<|mX (asv a _) _ rfl<|au aD<|bf<|bf<|bf<|au aD<|au aD<|au (aG a)<|au (aG b)<|Lv (.bool (decide (a<b))) (aay rfl rfl rfl)<|au (.bool (decide (a<b)))<|au (.bool (decide (a<b)))<|aC<|Wr<|aK (.bool (decide (a<b))) ?_;exact⟨rfl,rfl⟩
theorem asw(a b:Nat)(B g n cap:Nat)(d:Array Int)(w:World)(h:aY w B 26 1 (dz g n cap) n (rv .u64 (gA d)))(p:B<=w.heap.size)(Y:d.size=n)(hs:n<=1000)(ha:a<=b)(hb:b<=n) :
 Calls prog 135 #[dz g n cap,av (a:Int),av (b:Int)] w fun e w'=>e = .returned (.tuple #[])/\aY w' B 26 1 (dz g n cap) n (rv .u64 (gA (Sort.insertionSort Sort.ltInt d a b)))/\Below B w w':=by
 refine bX func135 49 ?_;refine ay<|au (av a)<|Lv (av ((a:Int)+1)) gu<|au (av ((a:Int)+1))<|aC<|Wb<|Wo (fun f u => ∃ i:Nat,∃ o:Array Int,(a<i/\i<=b+1)/\o.size=n/\Sort.insOuter Sort.ltInt a b i o=Sort.insOuter Sort.ltInt a b (a+1) d/\f 0=dz g n cap/\f 1=av (a:Int)/\f 2=av (b:Int)/\f 6=av (i:Int)/\aY u B 26 1 (dz g n cap) n (rv .u64 (gA o))/\Below B w u) (fun f _=>((b:Int)+1-intOf (f 6)).toNat) ⟨a+1,d,(by omega),Y,rfl,(by rfl),ic,ic,ic,h,(Below.refl B w)⟩ ?_;rintro f1 w1 ⟨i,o,hi,X,x,V,W,K,s,P,F⟩;refine aQ<|ay<|bA s<|bA K ?_;by_cases I:(i:Int)<(b:Int)
 ·refine Lv aH (fK I)<|aC<|aP<|Wk<|sN<|aQ<|Wb<|ay<|bA s<|au (av i)<|aC<|Wb<|Wo (fun f u => ∃ j:Nat,∃ c:Array Int,(a<=j/\j<=i)/\c.size=n/\Sort.insInner Sort.ltInt a j c=Sort.insInner Sort.ltInt a i o/\f 0=dz g n cap/\f 1=av (a:Int)/\f 2=av (b:Int)/\f 6=av (i:Int)/\f 7=av (j:Int)/\aY u B 26 1 (dz g n cap) n (rv .u64 (gA c))/\Below B w u) (fun f _=>(intOf (f 7)).toNat) ⟨i,o,(by omega),X,rfl,V,(W.trans ic),(K.trans ic),(s.trans ic),ic,P,F⟩ ?_;rintro f2 w2 ⟨j,c,hji,y,E,k,v,C,D,l,t,A⟩;refine aQ<|aQ ?_;refine rA<|iL l<|iL v ?_;by_cases J:(a:Int)<(j:Int)
  ·refine Qv aH (fun q m=>lK J)<|bI aH<|iL k<|iL l<|Qv (pf g j) (fun q m=>fC 1)<|Qv (aG ((gA c) j)) (fun q m=>aR (t.cb m) j)<|iL k<|iL l<|Qv (av ((j:Int)-1)) (fun q m=>jK)<|Qv (pf g (j-1)) (fun q m=>fC 1)<|Qv (aG ((gA c) (j-1))) (fun q m=>aR (t.cb m) (j-1)) ?_;by_cases r:(decide ((gA c) j<(gA c) (j-1)))=true
   ·refine BA (fun _ _=>jW ((gA c) j) ((gA c) (j-1)) _) aH (by rw[r])<|bI aH<|Qn ?_;intro OC L;have Z:=bL L t;have R:=iR L A p;refine sN<|aP<|Wk<|sN<|aQ<|Wb ?_;refine nP [0,1,2,3,4,5,6,7,8,10,11,12,9,13,14,15,16,17] [0,0,0,0,0,0,0,0,0,4,0,0,0,4,0,3,0,3] [(15,9,[9]),(17,9,[9]),(15,13,[13]),(17,13,[13]),(16,15,[15]),(17,15,[15])] fun qN O iM => ?_;have z:=bL O Z;have G:=iR O R p;refine eZ k<|eZ l<|eZ k<|eZ l<|Rp (av ((j:Int)-1)) (fun _=>jK)<|eZ k<|eZ l<|Rp (av ((j:Int)-1)) (fun _=>jK)<|Rp (pf g (j-1)) (fun _=>fC 1)<|eZ k<|eZ l<|Rp (pf g j) (fun _=>fC 1)<|Rs (aG ((gA c) (j-1))) (aR z.aJ (j-1)) ?_;refine Rs (aG ((gA c) j)) (aR z.aJ j) ?_;refine Rp (pf g j) (fun _=>fC 1)<|jP<|Gb z j (aG ((gA c) (j-1))) fun w3 Q s3 z1 => ?_;have H:=s3.below G (m_ p G.size) z.wo.1;refine Ln<|Rp (pf g (j-1)) (fun _=>fC 1)<|jP<|Gb Q (j-1) (aG ((gA c) j)) fun w4 m6 s4 z2 => ?_;have S:=s4.below H (m_ p H.size) Q.wo.1;have m7:aY w4 B 26 1 (dz g n cap) n (rv .u64 (gA (Sort.swp c j (j-1)))):=m6.congr (vK y (by omega) (by omega));refine Ln<|Rn<|bS<|sN<|Wl<|bA l<|Lv (av ((j:Int)-1)) jK<|au (av ((j:Int)-1))<|Ln<|iA ⟨j-1,Sort.swp c j (j-1),(by omega),(nH y _ _),((ank (by omega) (h_ r)).trans E),k,(v.trans ic),(C.trans ic),(D.trans ic),ic,m7,S⟩ ?_;show(intOf (av ((j:Int)-1))).toNat<_;simp only[l,intOf]; omega
   rw[R_]at r;refine BA (fun _ _=>jW ((gA c) j) ((gA c) (j-1)) _) aD (by rw[r])<|bI aD<|Qn ?_;intro wb2 M;have m8:=bL M t;have T:=iR M A p;refine sN<|aL<|Wx<|cZ<|iC<|dB<|bS<|sN<|Wl<|bA D<|Lv (av ((i:Int)+1)) gu<|au (av ((i:Int)+1))<|Ln<|iA ⟨i+1,c,(by omega),y,((acQ (by omega) (E.symm.trans (RJ (.inr (j_ r))))).trans x),k,(v.trans ic),(C.trans ic),ic,m8,T⟩ ?_;show((b:Int)+1-intOf (av ((i:Int)+1))).toNat<_;simp only[s,intOf]; omega
  refine Qv aD (fun q m=>lM J)<|bI aD<|bD<|bD<|bD<|bD<|bD<|bD<|bD<|bD<|bD<|bD<|bI aD<|Qn ?_;intro wb3 N;have m9:=bL N t;have U:=iR N A p;refine sN<|aL<|Wx<|cZ<|iC<|dB<|bS<|sN<|Wl<|bA D<|Lv (av ((i:Int)+1)) gu<|au (av ((i:Int)+1))<|Ln<|iA ⟨i+1,c,(by omega),y,((acQ (by omega) (E.symm.trans (RJ (.inl (by omega))))).trans x),k,(v.trans ic),(C.trans ic),ic,m9,U⟩ ?_;show((b:Int)+1-intOf (av ((i:Int)+1))).toNat<_;simp only[s,intOf]; omega
 refine Lv aD (fM I) (aC (aL (Wx (cZ (iC (dB (⟨.tuple #[],jQ Tryz.results135,?_⟩)))))));rw[acR (by omega)]at x; subst x; exact⟨rfl,P,F⟩
end
section
open Rt
theorem anp(k hi a:Nat)(B g n cap:Nat)(d:Array Int)(w:World)(h:aY w B 26 1 (dz g n cap) n (rv .u64 (gA d)))(l:B<=w.heap.size)(hn:d.size=n)(hs:n<=1000)(S:a+hi<=n/\k<=1000) :
 Calls prog 146 #[dz g n cap,av (k:Int),av (hi:Int),av (a:Int)] w fun e w'=>e = .returned (.tuple #[])/\aY w' B 26 1 (dz g n cap) n (rv .u64 (gA (Sort.siftDown Sort.ltInt hi a k d)))/\Below B w w':=by
 obtain⟨S,hlo⟩:=S;refine bX func146 76 ?_;refine ay<|au (av k)<|au (av k)<|aC<|Wb<|Wo (fun f z => ∃ r:Nat,∃ b:Array Int,b.size=n/\Sort.siftDown Sort.ltInt hi a r b=Sort.siftDown Sort.ltInt hi a k d/\r<=hi+k/\f 0=dz g n cap/\f 1=av (k:Int)/\f 2=av (hi:Int)/\f 3=av (a:Int)/\f 8=av (r:Int)/\aY z B 26 1 (dz g n cap) n (rv .u64 (gA b))/\Below B w z) (fun f _=>((hi:Int)+k-intOf (f 8)).toNat) ⟨k,d,hn,rfl,(by omega),(by rfl),ic,ic,ic,ic,h,(Below.refl B w)⟩ ?_;rintro f1 w1 ⟨r,b,T,p,hr,u,G,v,x,y,q,A⟩;refine Wb<|ay<|bA y<|Lv (av (2*(r:Int))) (Mw rfl rfl rfl io)<|Lv (av (2*(r:Int)+1)) gu<|au (av (2*(r:Int)+1))<|aC<|aQ<|ay<|au (av (2*(r:Int)+1))<|bA v ?_;by_cases K:(hi:Int)<=(2*(r:Int)+1)
 ·refine Lv aH (mW K) (aC (aP (Wx (cZ (Gj rfl (iC (dB (⟨.tuple #[],jQ Tryz.results146,?_⟩))))))));rw[KJ (by omega)]at p; subst p; exact⟨rfl,q,A⟩
 refine Lv aD (mM K)<|aC<|aL<|Wk<|sN<|yh (fun f z => ∃ c:Nat,(r<c/\c<hi)/\(Sort.siftDown Sort.ltInt hi a r b=if gA b (a+r)<gA b (a+c)then Sort.siftDown Sort.ltInt hi a c (Sort.swp b (a+r) (a+c))else b)/\f 0=dz g n cap/\f 1=av (k:Int)/\f 2=av (hi:Int)/\f 3=av (a:Int)/\f 8=av (r:Int)/\f 9=av (c:Int)/\aY z B 26 1 (dz g n cap) n (rv .u64 (gA b))/\Below B w z) ?_ ?_
 ·refine aQ ?_;refine rA<|bI (av (2*(r:Int)+1))<|Qv (av (2*(r:Int)+2)) (fun j i=>gu)<|iL v ?_;by_cases L:(2*(r:Int)+2)<(hi:Int)
  ·refine Qv aH (fun j i=>fK L)<|bI aH<|iL u<|iL x<|bI (av (2*(r:Int)+1))<|Qv (av ((a:Int)+2*(r:Int)+1)) (fun j i=>gu)<|Qv (pf g (a+2*r+1)) (fun j i=>fC 1)<|Qv (aG ((gA b) (a+2*r+1))) (fun j i=>aR (q.cb i) (a+2*r+1))<|iL u<|iL x<|bI (av (2*(r:Int)+1))<|Qv (av ((a:Int)+2*(r:Int)+1)) (fun j i=>gu)<|Qv (av ((a:Int)+2*(r:Int)+2)) (fun j i=>gu)<|Qv (pf g (a+2*r+2)) (fun j i=>fC 1)<|Qv (aG ((gA b) (a+2*r+2))) (fun j i=>aR (q.cb i) (a+2*r+2)) ?_;by_cases s:(decide ((gA b) (a+2*r+1)<(gA b) (a+2*r+2)))=true
   ·refine BA (fun _ _=>jW ((gA b) (a+2*r+1)) ((gA b) (a+2*r+2)) _) aH (by rw[s])<|bI aH<|Qn ?_;intro OC M;have m2:=bL M q;have X:=iR M A l;refine sN<|aP<|Wl<|au (av (2*(r:Int)+1))<|Lv (av (2*(r:Int)+2)) gu<|au (av (2*(r:Int)+2))<|Ln ?_;exact nL ⟨(2*r+2),(by omega),(akJ (x0:=a+r) (x1:=a+(2*r+1)) (x2:=a+(2*r+2)) rfl rfl rfl (by omega) (h_ s)),u,(G.trans ic),(v.trans ic),(x.trans ic),(y.trans ic),ic,m2,X⟩
   rw[R_]at s;refine BA (fun _ _=>jW ((gA b) (a+2*r+1)) ((gA b) (a+2*r+2)) _) aD (by rw[s])<|bI aD<|Qn ?_;intro wb2 N;have m3:=bL N q;have Y:=iR N A l;refine sN<|aL<|Wk ?_;exact nL ⟨(2*r+1),(by omega),(acS (x0:=a+r) (x1:=a+(2*r+1)) (x2:=a+(2*r+2)) rfl rfl rfl (by omega) (.inr (j_ s))),u,(G.trans ic),(v.trans ic),(x.trans ic),(y.trans ic),ic,m3,Y⟩
  refine Qv aD (fun j i=>fM L)<|bI aD<|bD<|bD<|bD<|bD<|bD<|bD<|bD<|bD<|bD<|bD<|bD<|bD<|bD<|bD<|bI aD<|Qn ?_;intro wb3 O;have m4:=bL O q;have Z:=iR O A l;refine sN<|aL<|Wk ?_;exact nL ⟨(2*r+1),(by omega),(acS (x0:=a+r) (x1:=a+(2*r+1)) (x2:=a+(2*r+2)) rfl rfl rfl (by omega) (.inl (by omega))),u,(G.trans ic),(v.trans ic),(x.trans ic),(y.trans ic),ic,m4,Z⟩
 rintro f2 w2 ⟨c,hch,U,m,h7,h8,o,F,C,D,H⟩;refine aQ<|aQ ?_;refine rA<|iL m<|iL o<|iL F<|Qv (av ((a:Int)+(r:Int))) (fun j i=>gu)<|Qv (pf g (a+r)) (fun j i=>fC 1)<|Qv (aG ((gA b) (a+r))) (fun j i=>aR (D.cb i) (a+r))<|iL m<|iL o<|iL C<|Qv (av ((a:Int)+(c:Int))) (fun j i=>gu)<|Qv (pf g (a+c)) (fun j i=>fC 1)<|Qv (aG ((gA b) (a+c))) (fun j i=>aR (D.cb i) (a+c)) ?_;by_cases t:(decide ((gA b) (a+r)<(gA b) (a+c)))=true
 ·refine BA (fun _ _=>jW ((gA b) (a+r)) ((gA b) (a+c)) _) aH (by rw[t])<|bI aD<|Qn ?_;intro wb4 P;have m6:=bL P D;have b6:=iR P H l;refine sN<|aL<|Wk<|sN<|aQ ?_;refine nP [0,1,2,3,4,5,6,7,8,9,10,11,12,14,15,16,17,18,13,19,20,21,22,23] [0,0,0,0,0,0,0,0,0,0,0,0,0,4,0,0,0,0,0,4,0,3,0,3] [(21,13,[13]),(23,13,[13]),(21,19,[19]),(23,19,[19]),(22,21,[21]),(23,21,[21])] fun qN R iM => ?_;have E:=bL R m6;have I:=iR R b6 l;refine eZ m<|eZ o<|eZ F<|Rp (av ((a:Int)+(r:Int))) (fun _=>gu)<|eZ m<|eZ o<|eZ C<|Rp (av ((a:Int)+(c:Int))) (fun _=>gu)<|eZ m<|eZ o<|eZ C<|Rp (av ((a:Int)+(c:Int))) (fun _=>gu)<|Rp (pf g (a+c)) (fun _=>fC 1)<|eZ m<|eZ o<|eZ F<|Rp (av ((a:Int)+(r:Int))) (fun _=>gu)<|Rp (pf g (a+r)) (fun _=>fC 1)<|Rs (aG ((gA b) (a+c))) (aR E.aJ (a+c)) ?_;refine Rs (aG ((gA b) (a+r))) (aR E.aJ (a+r)) ?_;refine Rp (pf g (a+r)) (fun _=>fC 1)<|jP<|Gb E (a+r) (aG ((gA b) (a+c))) fun w3 V s6 z1 => ?_;have J:=s6.below I (m_ l I.size) E.wo.1;refine Ln<|Rp (pf g (a+c)) (fun _=>fC 1)<|jP<|Gb V (a+c) (aG ((gA b) (a+r))) fun w4 m9 s7 z2 => ?_;have b9:=s7.below J (m_ l J.size) V.wo.1;have m10:aY w4 B 26 1 (dz g n cap) n (rv .u64 (gA (Sort.swp b (a+r) (a+c)))):=m9.congr (vK T (by omega) (by omega));refine Ln<|dJ<|Wl<|bA C<|au (av c)<|Ln<|bS<|iA ⟨c,Sort.swp b (a+r) (a+c),(nH T _ _),(by rw[U,d_ (h_ t)]at p; exact p),(by omega),m,(h7.trans ic),(h8.trans ic),(o.trans ic),ic,m10,b9⟩ ?_;show((hi:Int)+k-intOf (av c)).toNat<_;simp only[y,intOf]; omega
 rw[R_]at t;refine BA (fun _ _=>jW ((gA b) (a+r)) ((gA b) (a+c)) _) aD (by rw[t])<|bI aH<|Qn ?_;intro wb5 Q;have m11:=bL Q D;have W:=iR Q H l;refine sN (aP (Wr (sR (bO (oG (bO (⟨.tuple #[],jQ Tryz.results146,?_⟩)))))));rw[U,b_ (j_ t)]at p; subst p; exact⟨rfl,m11,W⟩
theorem Xn(b hi i:Nat)(l:a=(b:Int))(k:d=(hi:Int))(j:e=(i:Int))(B g n cap:Nat)(f:Array Int)(w:World)(h:aY w B 26 1 (dz g n cap) n (rv .u64 (gA f)))(m:B<=w.heap.size)(p:f.size=n)(q:n<=1000)(o:i+hi<=n/\b<=1000) :
 Calls prog 146 #[dz g n cap,av a,av d,av e] w fun c w'=>c = .returned (.tuple #[])/\aY w' B 26 1 (dz g n cap) n (rv .u64 (gA (Sort.siftDown Sort.ltInt hi i b f)))/\Below B w w':=by
 subst l k j; exact anp _ _ _ _ _ _ _ _ _ h m p q o
theorem anq(a b:Nat)(B g n cap:Nat)(d:Array Int)(w:World)(h:aY w B 26 1 (dz g n cap) n (rv .u64 (gA d)))(q:B<=w.heap.size)(hn:d.size=n)(R:n<=1000)(ha:a<b)(hb:b<=n) :
 Calls prog 136 #[dz g n cap,av (a:Int),av (b:Int)] w fun e w'=>e = .returned (.tuple #[])/\aY w' B 26 1 (dz g n cap) n (rv .u64 (gA (Sort.heapSort Sort.ltInt d a b)))/\Below B w w':=by
 obtain⟨l,ab⟩ : ∃ l,l=(b-a-1) / 2:=⟨_,rfl⟩;refine bX func136 56 ?_;refine ay<|au (av a)<|au (av a)<|aC<|ay<|au (av 0)<|aC<|ay<|au (av b)<|au (av a)<|Lv (av ((b:Int)-(a:Int))) jK<|au (av ((b:Int)-(a:Int)))<|aC<|aQ<|ay<|au (av ((b:Int)-(a:Int)))<|Lv (av ((b:Int)-(a:Int)-1)) jK<|Lv (av l) (Ht rfl rfl rfl (by omega) (jN (by omega) (by rw[Int.tdiv_eq_ediv_of_nonneg (by omega)]; omega)))<|au (av l)<|aC<|Wb<|Wo (fun f r => ∃ k:Nat,∃ i:Array Int,i.size=n/\Sort.heapBuild Sort.ltInt (b-a) a k i=Sort.heapBuild Sort.ltInt (b-a) a (l+1) d/\k<=l+1/\f 0=dz g n cap/\f 1=av (a:Int)/\f 2=av (b:Int)/\f 6=av (a:Int)/\f 7=av 0/\f 8=av ((b:Int)-(a:Int))/\f 9=av ((k:Int)-1)/\aY r B 26 1 (dz g n cap) n (rv .u64 (gA i))/\Below B w r) (fun f _=>(intOf (f 9)+1).toNat) ⟨l+1,d,hn,rfl,(by omega),(by rfl),ic,ic,ic,ic,ic,ic,h,(Below.refl B w)⟩ ?_;rintro f1 w1 ⟨k,i,A,O,hkm,v,L,M,y,N,z,s,S,u⟩;refine aQ<|ay<|bA s ?_;by_cases H:0<=((k:Int)-1)
 ·refine Lv aH (mW H)<|aC<|aP<|Wk<|sN<|aQ<|Wb<|Wl<|bA v<|bA s<|bA z<|bA y<|dO (Xn (k-1) (b-a) a (by omega) (by omega) (by omega) B g n cap i _ S (m_ q u.size) A R ⟨by omega,by omega⟩) (ax := #[dz g n cap,av ((k:Int)-1),av ((b:Int)-(a:Int)),av (a:Int)]) _ rfl ?_;rintro w2 ⟨m2,Z⟩;have V:=u.trans Z;refine Ln<|bS<|sN<|Wl<|bA s<|Lv (av ((k:Int)-2)) jK<|au (av ((k:Int)-2))<|Ln<|iA ⟨k-1,Sort.siftDown Sort.ltInt (b-a) a (k-1) i,(Js (by omega) _ _ _ (A_ _) A),((acT (by omega)).trans O),(by omega),v,(L.trans ic),(M.trans ic),(y.trans ic),(N.trans ic),(z.trans ic),ic,m2,V⟩ ?_;show(intOf (av ((k:Int)-2))+1).toNat<_;simp only[s,intOf]; omega
 refine Lv aD (mM H)<|aC<|aL<|Wx<|cZ<|iC<|dB<|sN<|ay<|bA z<|Lv (av ((b:Int)-(a:Int)-1)) jK<|au (av ((b:Int)-(a:Int)-1))<|aC<|Wb ?_;obtain rfl:k=0:=by omega
 obtain⟨J,hd1⟩ : ∃ J,J=i:=⟨_,rfl⟩;refine Wo (fun f r => ∃ c:Nat,∃ j:Array Int,j.size=n/\Sort.heapPop Sort.ltInt a c j=Sort.heapPop Sort.ltInt a (b-a) i/\c<=b-a/\f 0=dz g n cap/\f 1=av (a:Int)/\f 2=av (b:Int)/\f 6=av (a:Int)/\f 7=av 0/\f 10=av ((c:Int)-1)/\aY r B 26 1 (dz g n cap) n (rv .u64 (gA j))/\Below B w r) (fun f _=>(intOf (f 10)+1).toNat) ⟨b-a,i,A,rfl,(by omega),v,(L.trans ic),(M.trans ic),(y.trans ic),(N.trans ic),ic,S,u⟩ ?_;rintro f2 w3 ⟨c,j,C,P,hkp,p,Y,X,m,K,o,T,D⟩;refine aQ<|ay<|bA o ?_;by_cases I:0<=((c:Int)-1)
 ·refine Lv aH (mW I)<|aC<|aP<|Wk<|sN<|aQ<|Wb<|aQ ?_;refine nP [0,1,2,3,4,5,6,7,8,9,10,12,13,14,11,15,16,17,18,19] [0,0,0,0,0,0,0,0,0,0,0,4,0,0,0,4,0,3,0,3] [(17,11,[11]),(19,11,[11]),(17,15,[15]),(19,15,[15]),(18,17,[17]),(19,17,[17])] fun qN Q iM => ?_;have t:=bL Q T;have E:=iR Q D q;refine eZ p<|eZ m<|eZ p<|eZ m<|eZ o<|Rp (av ((a:Int)+(c:Int)-1)) (fun _=>gu)<|eZ p<|eZ m<|eZ o<|Rp (av ((a:Int)+(c:Int)-1)) (fun _=>gu)<|Rp (pf g (a+c-1)) (fun _=>fC 1)<|eZ p<|eZ m<|Rp (pf g a) (fun _=>fC 1)<|Rs (aG ((gA j) (a+c-1))) (aR t.aJ (a+c-1)) ?_;refine Rs (aG ((gA j) a)) (aR t.aJ a) ?_;refine Rp (pf g a) (fun _=>fC 1)<|jP<|Gb t a (aG ((gA j) (a+c-1))) fun w4 U s2 z1 => ?_;have F:=s2.below E (m_ q E.size) t.wo.1;refine Ln<|Rp (pf g (a+c-1)) (fun _=>fC 1)<|jP<|Gb U (a+c-1) (aG ((gA j) a)) fun w5 m6 s3 z2 => ?_;have G:=s3.below F (m_ q F.size) U.wo.1;have m7:aY w5 B 26 1 (dz g n cap) n (rv .u64 (gA (Sort.swp j a (a+c-1)))):=m6.congr (vK C (by omega) (by omega));refine Ln<|dJ<|Wl<|bA p<|bA K<|bA o<|bA m<|dO (Xn 0 (c-1) a (by omega) (by omega) (by omega) B g n cap (Sort.swp j a (a+c-1)) _ m7 (m_ q G.size) (nH C _ _) R ⟨by omega,by omega⟩) (ax := #[dz g n cap,av 0,av ((c:Int)-1),av (a:Int)]) _ rfl ?_;rintro w6 ⟨m8,aa⟩;have W:=G.trans aa;refine Ln<|bS<|sN<|Wl<|bA o<|Lv (av ((c:Int)-2)) jK<|au (av ((c:Int)-2))<|Ln<|iA ⟨c-1,Sort.siftDown Sort.ltInt (c-1) a 0 (Sort.swp j a (a+c-1)),(Js (by omega) _ _ _ (A_ _) (nH C _ _)),((anl (x:=a+c-1) (by omega) (by omega)).trans P),(by omega),p,(Y.trans ic),(X.trans ic),(m.trans ic),(K.trans ic),ic,m8,W⟩ ?_;show(intOf (av ((c:Int)-2))+1).toNat<_;simp only[o,intOf]; omega
 refine Lv aD (mM I) (aC (aL (Wx (cZ (iC (dB (⟨.tuple #[],jQ Tryz.results136,?_⟩)))))));obtain rfl:c=0:=by omega
 unfold Sort.heapSort; rw[<- ab,<- O,show Sort.heapBuild Sort.ltInt (b-a) a 0 i=i from rfl,<- P]; exact⟨rfl,T,D⟩
theorem asx(a b:Nat)(B g n cap:Nat)(d:Array Int)(w:World)(h:aY w B 26 1 (dz g n cap) n (rv .u64 (gA d)))(p:B<=w.heap.size)(F:d.size=n)(O:n<=1000)(ha:a<b)(M:b<=n) :
 Calls prog 139 #[dz g n cap,av (a:Int),av (b:Int)] w fun e w'=>e = .returned (.tuple #[])/\aY w' B 26 1 (dz g n cap) n (rv .u64 (gA (Sort.reverseRange d a b)))/\Below B w w':=by
 refine bX func139 32 ?_;refine ay<|au (av a)<|au (av a)<|aC<|ay<|au (av b)<|Lv (av ((b:Int)-1)) jK<|au (av ((b:Int)-1))<|aC<|Wb<|Wo (fun f A => ∃ i:Nat,∃ j:Nat,∃ c:Array Int,c.size=n/\(a<=i/\j<b/\i<=b)/\Sort.reverseLoop i j c=Sort.reverseLoop a (b-1) d/\f 0=dz g n cap/\f 1=av (a:Int)/\f 2=av (b:Int)/\f 6=av (i:Int)/\f 7=av (j:Int)/\aY A B 26 1 (dz g n cap) n (rv .u64 (gA c))/\Below B w A) (fun f _=>((b:Int)-intOf (f 6)).toNat) ⟨a,b-1,d,F,(by omega),rfl,(by rfl),ic,ic,ic,ic,h,(Below.refl B w)⟩ ?_;rintro L Q ⟨i,j,c,x,N,q,k,D,E,l,m,y,r⟩;refine aQ<|ay<|bA l<|bA m ?_;by_cases u:(i:Int)<(j:Int)
 ·refine Lv aH (fK u)<|aC<|aP<|Wk<|sN<|Wb<|aQ ?_;refine nP [0,1,2,3,4,5,6,8,9,10,7,11,12,13,14,15] [0,0,0,0,0,0,0,4,0,0,0,4,0,3,0,3] [(13,7,[7]),(15,7,[7]),(13,11,[11]),(15,11,[11]),(14,13,[13]),(15,13,[13])] fun S v P => ?_;have o:=bL v y;have s:=iR v r p;refine eZ k<|eZ l<|eZ k<|eZ m<|eZ k<|eZ m<|Rp (pf g j) (fun _=>fC 1)<|eZ k<|eZ l<|Rp (pf g i) (fun _=>fC 1)<|Rs (aG ((gA c) j)) (aR o.aJ j) ?_;refine Rs (aG ((gA c) i)) (aR o.aJ i) ?_;refine Rp (pf g i) (fun _=>fC 1)<|jP<|Gb o i (aG ((gA c) j)) fun R z I T => ?_;have t:=I.below s (m_ p s.size) o.wo.1;refine Ln<|Rp (pf g j) (fun _=>fC 1)<|jP<|Gb z j (aG ((gA c) i)) fun K G J U => ?_;have C:=J.below t (m_ p t.size) z.wo.1;have H:aY K B 26 1 (dz g n cap) n (rv .u64 (gA (Sort.swp c i j))):=G.congr (vK x (by omega) (by omega));refine Ln<|dJ<|ay<|bA l<|Lv (av ((i:Int)+1)) gu<|au (av ((i:Int)+1))<|aC<|Wl<|bA m<|Lv (av ((j:Int)-1)) jK<|au (av ((j:Int)-1))<|Ln<|bS<|iA ⟨i+1,j-1,Sort.swp c i j,(nH x _ _),(by omega),((anm (by omega)).trans q),k,(D.trans ic),(E.trans ic),ic,ic,H,C⟩ ?_;show((b:Int)-intOf (av ((i:Int)+1))).toNat<_;simp only[l,intOf]; omega
 refine Lv aD (fM u) (aC (aL (Wx (cZ (iC (dB (⟨.tuple #[],jQ Tryz.results139,?_⟩)))))));rw[acU (by omega)]at q; unfold Sort.reverseRange; rw[<- q]; exact⟨rfl,y,r⟩
end
end Go.Proofs.YtabjalhnkndjaaaGreatDoor
namespace Go.Proofs.YtabjalhnkndjaaaGreatDoor
open Go.RowKit Rt
namespace Fx
def fu(a b:Int):Int:=((BitVec.ofInt 64 a ^^^ BitVec.ofInt 64 b).toNat:Int)
def RL(a b:Int):Int:=((BitVec.ofInt 64 a &&& BitVec.ofInt 64 b).toNat:Int)
def gV(a:Int)(b:Nat):Int:=IntKind.u64.wrap (a*2^b)
theorem Xo(a b:Int):0<=fu a b/\fu a b<=18446744073709551615:=by
 unfold fu; omega
theorem Pp(b:Int)(h:0<=a)(c:a<=18446744073709551615:=by omega):0<=RL b a/\RL b a<=a:=by
 grind [RL,BitVec.toNat_ofInt,Nat.and_le_right]
section
variable {P:Program} {f:Nat->Value} {w:World} {o:Oper}
theorem acW{y:Operand}(b:o.op = .binOp .xor T p y E)(hx:ev f p = .int .u64 a)(hy:ev f y = .int .u64 d):cB P f o w (.int .u64 (fu a d)) :=
 vQ b hx hy (by
  have h:=jO (Xo a d) rfl;simp only[binOp,Op.intBits];show(pure (Value.int .u64 (IntKind.u64.wrap (fu a d))):Sem Value).run P w=_;rw[h]; rfl)
theorem asy{y:Operand}(i:o.op = .binOp .and T p y E)(hx:ev f p = .int .u64 a)(hy:ev f y = .int .u64 d)(e:0<=d)(h1:d<=18446744073709551615):cB P f o w (.int .u64 (RL a d)) :=
 vQ i hx hy (by
  have g:=Pp a e h1;have h:=jO (c:=RL a d) ⟨g.1,by omega⟩ rfl;simp only[binOp,Op.intBits];show(pure (Value.int .u64 (IntKind.u64.wrap (RL a d))):Sem Value).run P w=_;rw[h]; rfl)
theorem anr{i:Operand}{s:ByteArray}(g:o.op = .index T p i)(hx:ev f p = .string s)(hi:ev f i = .int .u8 (j:Int))(h:P.underlying T=some .string)(a:j<64)
 (c : ∀ q,q<64->(s[q]?).map (·.toNat)=some (Sort.bitsLen q)):cB P f o w (.int .u8 (Sort.bitsLen j:Int)):=by
 obtain⟨b,d,e⟩:=Option.map_eq_some_iff.1 (c j a);unfold cB execOp
 simp_all [Instr.index,asIntOf,underlying]
end
end Fx
theorem Rt.Xp(h:m<64):Sort.bitsLen m<=6:=by simp_all [Sort.bitsLen_le_iff]
end Go.Proofs.YtabjalhnkndjaaaGreatDoor
namespace Go.Proofs.YtabjalhnkndjaaaGreatDoor
open Go.Proofs.Tryz
open Fx hiding E9 Fa HY Jf Jk L R start
open Go.RowKit Rt
section
open Rt
theorem ahU(n:Nat)(w:World)(a:n<64) :
 Calls prog 108 #[aG (n:Int)] w fun e w'=>e = .returned (av (Sort.bitsLen n:Int))/\w'=w:=by
 have b:=Xp a;refine bX func108 25 ?_;refine ay<|au (av 0)<|aC<|aQ<|ay<|au (aG n)<|Lv aD Qx<|aC<|aL<|Wk<|sN<|aQ<|ay<|au (aG n)<|Lv aD Qx<|aC<|aL<|Wk<|sN<|aQ<|ay<|au (aG n)<|Lv aD Qx<|aC<|aL<|Wk<|sN<|ay<|au (av 0)<|au (aG n)<|Lv (.int .u8 (n:Int)) (dQ rfl rfl (by kernel_rfl) underlying5 (u8e (by omega) rfl))<|Lv (.int .u8 (Sort.bitsLen n:Int)) (anr rfl rfl rfl underlying9 a (by decide +kernel))<|Lv (av (Sort.bitsLen n:Int)) (dQ rfl rfl (by kernel_rfl) underlying3 (jN (by omega) rfl))<|Lv (av (0+(Sort.bitsLen n:Int))) gu<|au (av (0+(Sort.bitsLen n:Int)))<|aC<|Wr<|aK (av (0+(Sort.bitsLen n:Int)))<|⟨by rw[Int.zero_add],rfl⟩
theorem acX(n:Nat)(w:World)(a:n<64:=by omega) :
 Calls prog 71 #[aG (n:Int)] w fun e w'=>e = .returned (av (Sort.bitsLen n:Int))/\w'=w:=by
 have b:=Xp a;refine bX func71 8 ?_;refine ay<|au (av 0)<|aC<|aQ<|aL<|Wk<|sN<|ay<|au (aG n)<|mX (ahU n _ a) _ rfl<|au (av (Sort.bitsLen n:Int))<|aC<|Wr<|aK (av (Sort.bitsLen n:Int)) ?_;exact⟨rfl,rfl⟩
theorem asz(n m:Nat)(w:World)(f:n<64)(c:0<n)(a:m=2^Sort.bitsLen n) :
 Calls prog 128 #[av (n:Int)] w fun e w'=>e = .returned (aG (m:Int))/\w'=w:=by
 have g:=Xp f;have d:=Sort.two_pow_bitsLen_le c;rw[<- a]at d;refine bX func128 7 ?_;refine ay<|au (aG 0)<|aC<|ay<|au (av n)<|Lv (aG n) (dQ rfl rfl (by kernel_rfl) underlying154 (jO (by omega) rfl))<|mX (acX n _ (by omega)) _ rfl<|Lv (aG m) (MF (b:=Sort.bitsLen n) rfl rfl rfl (show _<=64 by omega) (jO (by omega) (by rw[a]; simp)))<|au (aG m)<|aC<|Wr<|aK (aG m) ?_;exact⟨rfl,rfl⟩
theorem ant(a:Nat)(r:Int)(w:World)(h:aM w a 1 (fun _=>aG r) 200) :
 Calls prog 129 #[(pt a)] w fun e w' => ∃ d,e = .returned (aG d)/\(0<=d/\d<=18446744073709551615)/\eG a w w'/\aM w' a 1 (fun _=>aG d) 200:=by
 refine bX func129 33 ?_;refine ay<|au (aG 0)<|aC<|aQ ?_;refine nP [0,1,3,4,2,5,6,7,8,9] [0,0,4,0,0,4,0,0,0,3] [(9,2,[2]),(9,5,[5])] fun K n N => ?_;have D:eG w.heap.size w K:=Sb n;have f:=bL n h;have t:=(oZ a w).then D (.inr (oZ a w).size);refine aS (pt a)<|aS (pt a)<|aS (pt a)<|aS (pt a)<|Rs (aG r) (aR f.aJ 0) ?_;refine Rs (aG r) (aR f.aJ 0) ?_;refine Rp (aG (gV r 13)) (fun c=>MF (b:=13) rfl rfl rfl (by decide) rfl)<|Rp (aG (fu r (gV r 13))) (fun c=>acW rfl rfl rfl)<|aS (pt a)<|jP<|jf f 0 (aG (fu r (gV r 13))) fun j y E Q => ?_;have z:aM j a 1 (fun _=>aG (fu r (gV r 13))) 200:=eP y;have l:=t.then E (by omega);refine Ln<|dJ<|aQ ?_;refine nP [0,1,3,4,2,5,6,7,8,9] [0,0,4,0,0,4,0,0,0,3] [(9,2,[2]),(9,5,[5])] fun L o O => ?_;have F:eG j.heap.size j L:=Sb o;have g:=bL o z;have u:=l.then F (.inr l.size);refine aS (pt a)<|aS (pt a)<|aS (pt a)<|aS (pt a)<|Rs (aG (fu r (gV r 13))) (aR g.aJ 0) ?_;refine Rs (aG (fu r (gV r 13))) (aR g.aJ 0) ?_;refine Rp (aG ((fu r (gV r 13)) / 128)) (fun c=>Wu (b:=7) (q:=128) rfl rfl rfl (by decide) (by decide))<|Rp (aG (fu (fu r (gV r 13)) ((fu r (gV r 13)) / 128))) (fun c=>acW rfl rfl rfl)<|aS (pt a)<|jP<|jf g 0 (aG (fu (fu r (gV r 13)) ((fu r (gV r 13)) / 128))) fun k A G R => ?_;have B:aM k a 1 (fun _=>aG (fu (fu r (gV r 13)) ((fu r (gV r 13)) / 128))) 200:=eP A;have m:=u.then G (by omega);refine Ln<|dJ<|aQ ?_;refine nP [0,1,3,4,2,5,6,7,8,9] [0,0,4,0,0,4,0,0,0,3] [(9,2,[2]),(9,5,[5])] fun M p P => ?_;have H:eG k.heap.size k M:=Sb p;have i:=bL p B;have v:=m.then H (.inr m.size);refine aS (pt a)<|aS (pt a)<|aS (pt a)<|aS (pt a)<|Rs (aG (fu (fu r (gV r 13)) ((fu r (gV r 13)) / 128))) (aR i.aJ 0) ?_;refine Rs (aG (fu (fu r (gV r 13)) ((fu r (gV r 13)) / 128))) (aR i.aJ 0) ?_;refine Rp (aG (gV (fu (fu r (gV r 13)) ((fu r (gV r 13)) / 128)) 17)) (fun c=>MF (b:=17) rfl rfl rfl (by decide) rfl)<|Rp (aG (fu (fu (fu r (gV r 13)) ((fu r (gV r 13)) / 128)) (gV (fu (fu r (gV r 13)) ((fu r (gV r 13)) / 128)) 17))) (fun c=>acW rfl rfl rfl)<|aS (pt a)<|jP<|jf i 0 (aG (fu (fu (fu r (gV r 13)) ((fu r (gV r 13)) / 128)) (gV (fu (fu r (gV r 13)) ((fu r (gV r 13)) / 128)) 17))) fun J C I S => ?_;have s:aM J a 1 (fun _=>aG (fu (fu (fu r (gV r 13)) ((fu r (gV r 13)) / 128)) (gV (fu (fu r (gV r 13)) ((fu r (gV r 13)) / 128)) 17))) 200:=eP C;have x:=v.then I (by omega);refine Ln<|dJ<|ay<|au (pt a)<|au (pt a)<|Lv (aG (fu (fu (fu r (gV r 13)) ((fu r (gV r 13)) / 128)) (gV (fu (fu r (gV r 13)) ((fu r (gV r 13)) / 128)) 17))) (aR s.aJ 0)<|au (aG (fu (fu (fu r (gV r 13)) ((fu r (gV r 13)) / 128)) (gV (fu (fu r (gV r 13)) ((fu r (gV r 13)) / 128)) 17)))<|aC<|Wr<|aK (aG (fu (fu (fu r (gV r 13)) ((fu r (gV r 13)) / 128)) (gV (fu (fu r (gV r 13)) ((fu r (gV r 13)) / 128)) 17))) ?_;exact⟨_,rfl,Xo _ _,x,s⟩
end
section
open Rt
theorem anu(n m:Nat)(w:World)(e:a=(n:Int))(d:n<64)(b:0<n)(c:m=2^Sort.bitsLen n):Calls prog 128 #[av a] w fun e w'=>e = .returned (aG (m:Int))/\w'=w:=by
 subst e; exact asz _ _ w d b c
theorem asA(a b:Nat)(B g n cap:Nat)(d:Array Int)(w:World)(h:aY w B 26 1 (dz g n cap) n (rv .u64 (gA d)))(q:B<=w.heap.size)(Y:d.size=n)(hs:n<=1000)(ha:a<b)(hb:b<=n)(h50:n<50) :
 Calls prog 137 #[dz g n cap,av (a:Int),av (b:Int)] w fun e w' => ∃ y:Array Int,e = .returned (.tuple #[])/\y.size=n/\Sort.PermIn a b d y/\aY w' B 26 1 (dz g n cap) n (rv .u64 (gA y))/\Below B w w':=by
 obtain⟨i,hq0⟩ : ∃ i,i=(b-a) / 4:=⟨_,rfl⟩;refine bX func137 65 ?_;refine ay<|au (av b)<|au (av a)<|Lv (av ((b:Int)-(a:Int))) jK<|au (av ((b:Int)-(a:Int)))<|aC<|ay<|au (av ((b:Int)-(a:Int))) ?_;by_cases N:8<=((b:Int)-(a:Int))
 ·refine Lv aH (mW N)<|aC<|aP<|ay<|au (av ((b:Int)-(a:Int)))<|Lv (aG ((b:Int)-(a:Int))) (dQ rfl rfl (by kernel_rfl) underlying200 (jO (by omega) rfl))<|oJ 1 (rv .u64 (fun _=>0)) fun p w1 Q G s1 z1 => ?_;have m2:=bL s1.bP h;have J:=iR s1.bP (Below.refl B w) q;have tJ:=gQ Q (Below.refl B w).size;have rJ:=gD Q h.lt;have vB:=G.lt;refine jf G 0 (aG ((b:Int)-(a:Int))) fun w2 m3 s2 z2 => ?_;have m4:aM w2 p 1 (fun _=>aG ((b:Int)-(a:Int))) 200:=eP m3;have gT:=gJ s2 G.ty;have m5:=jU gT m2;have b2:=s2.below J (m_ q J.size) (by omega);refine aC<|ay<|au (av ((b:Int)-(a:Int))) ?_;obtain⟨m,X⟩ : ∃ m,m=2^Sort.bitsLen (b-a):=⟨_,rfl⟩;have hm2:=Sort.two_pow_bitsLen_le (show 0<b-a by omega);have hm3:=Sort.lt_two_pow_bitsLen (b-a);rw[<- X]at hm2 hm3;refine mX (anu (b-a) m _ (by omega) (by omega) (by omega) X) (ax := #[av ((b:Int)-(a:Int))]) _ rfl<|au (aG m)<|aC<|ay<|au (av a)<|au (av ((b:Int)-(a:Int)))<|Lv (av i) (Ht rfl rfl rfl (by omega) (jN (by omega) (by rw[Int.tdiv_eq_ediv_of_nonneg (by omega)]; omega)))<|Lv (av ((i:Int)*2)) (Mw rfl rfl rfl io)<|Lv (av ((a:Int)+2*(i:Int))) gu<|Lv (av ((a:Int)+2*(i:Int)-1)) jK<|au (av ((a:Int)+2*(i:Int)-1))<|aC<|Wb<|Wo (fun f o => ∃ c:Nat,∃ I:Int,∃ l:Array Int,l.size=n/\Sort.PermIn a b d l/\(a+2*i<=c+1/\c<=a+2*i+2)/\f 0=dz g n cap/\f 1=av (a:Int)/\f 2=av (b:Int)/\f 6=av ((b:Int)-(a:Int))/\f 7=(pt p)/\f 8=aG (m:Int)/\f 9=av (c:Int)/\aY o B 26 1 (dz g n cap) n (rv .u64 (gA l))/\aM o p 1 (fun _=>aG I) 200/\Below B w o) (fun f _=>((a:Int)+2*i+2-intOf (f 9)).toNat) ⟨a+2*i-1,((b:Int)-(a:Int)),d,Y,(Sort.permIn_refl _ _ _),(by omega),(by rfl),ic,ic,ic,(by rfl),ic,ic,m5,m4,b2⟩ ?_;rintro f1 w3 ⟨c,I,l,F,U,hix,R,A,T,s,C,D,v,Z,m7,x⟩;refine aQ<|ay<|bA v<|bA A<|bA s<|Lv (av i) (Ht rfl rfl rfl (by omega) (jN (by omega) (by rw[Int.tdiv_eq_ediv_of_nonneg (by omega)]; omega)))<|Lv (av ((i:Int)*2)) (Mw rfl rfl rfl io)<|Lv (av ((a:Int)+2*(i:Int))) gu<|Lv (av ((a:Int)+2*(i:Int)+1)) gu ?_;by_cases O:(c:Int)<=((a:Int)+2*(i:Int)+1)
  ·refine Lv aH (xq O) (aC (aP (Wk (sN (aQ (Wb (ay (lX (ant p I _ m7) ?_ (hr:=rC rfl (aav C) func129 rfl rfl)))))))));rintro e9 w4 ⟨r,W,hr1,s3,m8⟩;refine⟨_,W,?_⟩;clear W;have jC:=gJ s3 m7.ty;have m9:=jU jC Z;have K:=s3.below x (m_ q x.size) (by omega);refine bA D<|Lv (aG ((m:Int)-1)) jK ?_;obtain⟨j,ho1,ko1⟩ : ∃ j:Nat,(j:Int)=RL r ((m:Int)-1)/\(j:Int)<=(m:Int)-1:=⟨(RL r ((m:Int)-1)).toNat,by have:=Pp r (show 0<=(m:Int)-1 by omega) (by omega); omega,by have:=Pp r (show 0<=(m:Int)-1 by omega) (by omega); omega⟩;refine Lv (aG j) (by rw[ho1]; exact asy rfl rfl rfl (by omega) (by omega))<|Lv (av j) (dQ rfl rfl (by kernel_rfl) underlying3 (jN (by omega) rfl))<|au (av j)<|aC<|yh (fun f o => ∃ k:Nat,k<b-a/\f 0=dz g n cap/\f 1=av (a:Int)/\f 2=av (b:Int)/\f 6=av ((b:Int)-(a:Int))/\f 7=(pt p)/\f 8=aG (m:Int)/\f 9=av (c:Int)/\f 10=av (k:Int)/\aY o B 26 1 (dz g n cap) n (rv .u64 (gA l))/\aM o p 1 (fun _=>aG r) 200/\Below B w o) ?_ ?_
   ·refine ay<|au (av j)<|bA s ?_;by_cases P:((b:Int)-(a:Int))<=(j:Int)
    ·refine Lv aH (mW P)<|aC<|aP<|Wl<|au (av j)<|bA s<|Lv (av ((a:Int)+(j:Int)-(b:Int))) jK<|au (av ((a:Int)+(j:Int)-(b:Int)))<|Ln ?_;exact nL ⟨((a:Int)+(j:Int)-(b:Int)).toNat,(by omega),R,(A.trans ic),(T.trans ic),(s.trans ic),C,(D.trans ic),(v.trans ic),ic,m9,m8,K⟩
    refine Lv aD (mM P)<|aC<|aL<|Wk ?_;exact nL ⟨(j:Int).toNat,(by omega),R,(A.trans ic),(T.trans ic),(s.trans ic),C,(D.trans ic),(v.trans ic),ic,m9,m8,K⟩
   rintro f2 w5 ⟨k,hov,t,E,h10,h11,h12,IV,z,S,m10,m11,b5⟩;refine nP [0,1,2,3,4,5,6,7,8,9,10,12,13,14,11,15,16,17,18,19] [0,0,0,0,0,0,0,0,0,0,0,4,0,0,0,4,0,3,0,3] [(17,11,[11]),(19,11,[11]),(17,15,[15]),(19,15,[15]),(18,17,[17]),(19,17,[17])] fun qN V iM => ?_;have⟨u,m13⟩:=fB V m10 m11;have L:=iR V b5 q;refine eZ t<|eZ z<|eZ t<|eZ E<|eZ S<|Rp (av ((a:Int)+(k:Int))) (fun _=>gu)<|eZ t<|eZ E<|eZ S<|Rp (av ((a:Int)+(k:Int))) (fun _=>gu)<|Rp (pf g (a+k)) (fun _=>fC 1)<|eZ t<|eZ z<|Rp (pf g c) (fun _=>fC 1)<|Rs (aG ((gA l) (a+k))) (aR u.aJ (a+k)) ?_;refine Rs (aG ((gA l) c)) (aR u.aJ c) ?_;refine Rp (pf g c) (fun _=>fC 1)<|jP<|Gb u c (aG ((gA l) (a+k))) fun w6 H s5 z3 => ?_;have oz:=gJ s5 u.Wq;have m15:=jU oz m13;have M:=s5.below L (m_ q L.size) u.wo.1;refine Ln<|Rp (pf g (a+k)) (fun _=>fC 1)<|jP<|Gb H (a+k) (aG ((gA l) c)) fun w7 m16 s6 z4 => ?_;have tV:=gJ s6 H.Wq;have m17:=jU tV m15;have b8:=s6.below M (m_ q M.size) H.wo.1;have m18:aY w7 B 26 1 (dz g n cap) n (rv .u64 (gA (Sort.swp l c (a+k)))):=m16.congr (vK F (by omega) (by omega));refine Ln<|Rn<|bS<|sN<|Wl<|bA z<|Lv (av ((c:Int)+1)) gu<|au (av ((c:Int)+1))<|Ln<|iA ⟨c+1,r,Sort.swp l c (a+k),(nH F _ _),(Sort.permIn_trans _ _ _ _ _ U (Sort.swp_permIn _ _ _ _ _ (by omega) (by omega) (by omega) (by omega) (by omega))),(by omega),t,(E.trans ic),(h10.trans ic),(h11.trans ic),h12,(IV.trans ic),ic,m18,m17,b8⟩ ?_;show((a:Int)+2*i+2-intOf (av ((c:Int)+1))).toNat<_;simp only[v,intOf]; omega
  refine Lv aD (yg O) (aC (aL (Wx (cZ (iC (dB (⟨.tuple #[],jQ Tryz.results137,?_⟩)))))));exact⟨l,rfl,F,U,Z,x⟩
 refine Lv aD (mM N) (aC (aL (Wk (⟨.tuple #[],jQ Tryz.results137,?_⟩))));exact⟨d,rfl,Y,Sort.permIn_refl _ _ _,h,(Below.refl B w)⟩
end
section
open Rt
theorem anv(a b f:Nat)(c:Int)(B g n cap:Nat)(d:Array Int)(w:World)(h:aY w B 26 1 (dz g n cap) n (rv .u64 (gA d)))(l:B<=w.heap.size)(J:d.size=n)(K:n<=1000)(ha:a<n)(H:b<n)(I:B<=f)(q:aM w f 1 (fun _=>av c) 3)(L:0<=c/\c<=1000) :
 Calls prog 149 #[dz g n cap,av (a:Int),av (b:Int),(pt f)] w fun e w' => ∃(x y:Nat) (i:Int),e = .returned (.tuple #[av (x:Int),av (y:Int)])/\((x=a/\y=b)\/(x=b/\y=a))/\(c<=i/\i<=c+1)/\aM w' f 1 (fun _=>av i) 3/\aY w' B 26 1 (dz g n cap) n (rv .u64 (gA d))/\Below B w w':=by
 refine bX func149 28 ?_;refine ay<|au (av 0)<|au (av 0)<|aC<|aQ<|aQ ?_;refine rA<|bI (dz g n cap)<|bI (av b)<|Qv (pf g b) (fun o j=>fC 1)<|Qv (aG ((gA d) b)) (fun o j=>aR (h.cb j) b)<|bI (dz g n cap)<|bI (av a)<|Qv (pf g a) (fun o j=>fC 1)<|Qv (aG ((gA d) a)) (fun o j=>aR (h.cb j) a) ?_;by_cases k:(decide ((gA d) b<(gA d) a))=true
 ·refine BA (fun _ _=>jW ((gA d) b) ((gA d) a) _) aH (by rw[k])<|Qn ?_;intro M r;have⟨z,m⟩:=fB r h q;have p:=iR r (Below.refl B w) l;refine sN<|aP<|ay<|au (pt f)<|au (pt f)<|Lv (av c) (aR m.aJ 0)<|Lv (av (c+1)) gu<|au (pt f)<|jf m 0 (av (c+1)) fun G A i O => ?_;have C:aM G f 1 (fun _=>av (c+1)) 3:=eP A;have v:=gJ i m.ty;have D:=jU v z;have t:=i.below p (m_ l p.size) (by omega);refine aC<|ay<|au (av b)<|au (av a)<|au (av b)<|au (av a)<|aC<|Wr<|sR<|aK (.tuple #[av (b:Int),av (a:Int)]) ?_;exact⟨b,a,c+1,rfl,.inr ⟨rfl,rfl⟩,by omega,C,D,t⟩
 rw[R_]at k;refine BA (fun _ _=>jW ((gA d) b) ((gA d) a) _) aD (by rw[k])<|Qn ?_;intro N s;have⟨E,F⟩:=fB s h q;have u:=iR s (Below.refl B w) l;refine sN<|aL<|Wk<|sN<|ay<|au (av a)<|au (av b)<|au (av a)<|au (av b)<|aC<|Wr<|aK (.tuple #[av (a:Int),av (b:Int)]) ?_;exact⟨a,b,c,rfl,.inl ⟨rfl,rfl⟩,by omega,F,E,u⟩
theorem Pq(j b:Nat)(l:a=(j:Int))(m:d=(b:Int))(f:Nat)(c:Int)(B g n cap:Nat)(k:Array Int)(w:World)(h:aY w B 26 1 (dz g n cap) n (rv .u64 (gA k)))(o:B<=w.heap.size)(s:k.size=n)(t:n<=1000)(ha:j<n)(p:b<n)(q:B<=f)(r:aM w f 1 (fun _=>av c) 3)(u:0<=c/\c<=1000:=by omega) :
 Calls prog 149 #[dz g n cap,av a,av d,(pt f)] w fun e w' => ∃(x y:Nat) (i:Int),e = .returned (.tuple #[av (x:Int),av (y:Int)])/\((x=j/\y=b)\/(x=b/\y=j))/\(c<=i/\i<=c+1)/\aM w' f 1 (fun _=>av i) 3/\aY w' B 26 1 (dz g n cap) n (rv .u64 (gA k))/\Below B w w':=by
 subst l m; exact anv _ _ _ _ _ _ _ _ _ _ h o s t ha p q r u
theorem asB(a b c f:Nat)(j:Int)(B g n cap:Nat)(d:Array Int)(w:World)(h:aY w B 26 1 (dz g n cap) n (rv .u64 (gA d)))(m:B<=w.heap.size)(p:d.size=n)(q:n<=1000)(ha:a<n)(L:b<n)(M:c<n)(z:B<=f)(o:aM w f 1 (fun _=>av j) 3)(Q:0<=j/\j<=100) :
 Calls prog 148 #[dz g n cap,av (a:Int),av (b:Int),av (c:Int),(pt f)] w fun e w' => ∃(x:Nat) (r:Int),e = .returned (av (x:Int))/\(x=a\/x=b\/x=c)/\(j<=r/\r<=j+3)/\aM w' f 1 (fun _=>av r) 3/\aY w' B 26 1 (dz g n cap) n (rv .u64 (gA d))/\Below B w w':=by
 refine bX func148 36 ?_;refine ay<|au (av 0)<|aC<|ay<|au (dz g n cap)<|au (av a)<|au (av b)<|au (pt f)<|lX (Pq a b (by omega) (by omega) f j B g n cap d _ h (m_ m (Below.refl B w).size) p q (by omega) (by omega) (by omega) o (by omega)) (ax := #[dz g n cap,av (a:Int),av (b:Int),(pt f)]) ?_;rintro y V ⟨x1,k,J,i,R,N,D,E,z⟩;refine⟨_,i,?_⟩;clear i;have u:=(Below.refl B w).trans z;refine au (.tuple #[av (x1:Int),av (k:Int)])<|au (av x1)<|au (av k)<|au (av x1)<|au (av k)<|aC<|ay<|au (dz g n cap)<|au (av k)<|au (av c)<|au (pt f)<|lX (Pq k c (by omega) (by omega) f J B g n cap d _ E (m_ m u.size) p q (by omega) (by omega) (by omega) D (by omega)) (ax := #[dz g n cap,av (k:Int),av (c:Int),(pt f)]) ?_;rintro y W ⟨x2,t,K,i,S,O,F,G,o⟩;refine⟨_,i,?_⟩;clear i;have v:=u.trans o;refine au (.tuple #[av (x2:Int),av (t:Int)])<|au (av x2)<|au (av t)<|au (av x2)<|au (av t)<|aC<|ay<|au (dz g n cap)<|au (av x1)<|au (av x2)<|au (pt f)<|lX (Pq x1 x2 (by omega) (by omega) f K B g n cap d _ G (m_ m v.size) p q (by omega) (by omega) (by omega) F (by omega)) (ax := #[dz g n cap,av (x1:Int),av (x2:Int),(pt f)]) ?_;rintro y X ⟨s,l,U,i,T,P,H,I,C⟩;refine⟨_,i,?_⟩;clear i;have A:=v.trans C;refine au (.tuple #[av (s:Int),av (l:Int)])<|au (av s)<|au (av l)<|au (av s)<|au (av l)<|aC<|ay<|au (av l)<|au (av l)<|aC<|Wr<|aK (av l) ?_;exact⟨_,_,rfl,by omega,by omega,H,I,A⟩
theorem anw(k b c:Nat)(o:a=(k:Int))(p:d=(b:Int))(q:e=(c:Int))(i:Nat)(f:Int)(B g n cap:Nat)(l:Array Int)(w:World)(h:aY w B 26 1 (dz g n cap) n (rv .u64 (gA l)))(r:B<=w.heap.size)(y:l.size=n)(z:n<=1000)(ha:k<n)(s:b<n)(v:c<n)(t:B<=i)(u:aM w i 1 (fun _=>av f) 3)(A:0<=f/\f<=100) :
 Calls prog 148 #[dz g n cap,av a,av d,av e,(pt i)] w fun m w' => ∃(x:Nat) (j:Int),m = .returned (av (x:Int))/\(x=k\/x=b\/x=c)/\(f<=j/\j<=f+3)/\aM w' i 1 (fun _=>av j) 3/\aY w' B 26 1 (dz g n cap) n (rv .u64 (gA l))/\Below B w w':=by
 subst o p q; exact asB k b c i f B g n cap l w h r y z ha s v t u A
theorem asC(a b:Nat)(B g n cap:Nat)(d:Array Int)(w:World)(h:aY w B 26 1 (dz g n cap) n (rv .u64 (gA d)))(x:B<=w.heap.size)(E:d.size=n)(F:n<=1000)(ha:a<b)(J:b<=n)(I:n<50) :
 Calls prog 138 #[dz g n cap,av (a:Int),av (b:Int)] w fun e w' => ∃(p:Nat) (D:Int),e = .returned (.tuple #[av (p:Int),av D])/\a<=p/\p<b/\aY w' B 26 1 (dz g n cap) n (rv .u64 (gA d))/\Below B w w':=by
 obtain⟨c,K⟩ : ∃ c,c=(b-a) / 4:=⟨_,rfl⟩;refine bX func138 57 ?_;refine ay<|au (av 0)<|au (av 0)<|aC<|ay<|au (av b)<|au (av a)<|Lv (av ((b:Int)-(a:Int))) jK<|au (av ((b:Int)-(a:Int)))<|aC<|ay<|DR (m:=1) (y:=rv .i64 (fun _=>0)) (by rfl) rfl (by kernel_rfl) rfl fun v Q u o A S => ?_;have k:=bL A.bP h;have f:=iR A.bP (Below.refl B w) x;have N:=gQ u (Below.refl B w).size;have O:=gD u h.lt;have P:=o.lt;refine aC<|ay<|au (av a)<|au (av ((b:Int)-(a:Int)))<|Lv (av c) (Ht rfl rfl rfl (by omega) (jN (by omega) (by rw[Int.tdiv_eq_ediv_of_nonneg (by omega)]; omega)))<|Lv (av ((c:Int)*1)) (Mw rfl rfl rfl io)<|Lv (av ((a:Int)+(c:Int))) gu<|au (av ((a:Int)+(c:Int)))<|aC<|ay<|au (av a)<|au (av ((b:Int)-(a:Int)))<|Lv (av c) (Ht rfl rfl rfl (by omega) (jN (by omega) (by rw[Int.tdiv_eq_ediv_of_nonneg (by omega)]; omega)))<|Lv (av ((c:Int)*2)) (Mw rfl rfl rfl io)<|Lv (av ((a:Int)+2*(c:Int))) gu<|au (av ((a:Int)+2*(c:Int)))<|aC<|ay<|au (av a)<|au (av ((b:Int)-(a:Int)))<|Lv (av c) (Ht rfl rfl rfl (by omega) (jN (by omega) (by rw[Int.tdiv_eq_ediv_of_nonneg (by omega)]; omega)))<|Lv (av ((c:Int)*3)) (Mw rfl rfl rfl io)<|Lv (av ((a:Int)+3*(c:Int))) gu<|au (av ((a:Int)+3*(c:Int)))<|aC<|aQ<|ay<|au (av ((b:Int)-(a:Int))) ?_;by_cases t:8<=((b:Int)-(a:Int))
 ·refine Lv aH (mW t)<|aC<|aP<|aQ<|ay<|au (av ((b:Int)-(a:Int)))<|Lv aD Qx<|aC<|aL<|Wk<|sN<|Wl<|au (dz g n cap)<|au (av ((a:Int)+(c:Int)))<|au (av ((a:Int)+2*(c:Int)))<|au (av ((a:Int)+3*(c:Int)))<|lX (anw (a+c) (a+2*c) (a+3*c) (by omega) (by omega) (by omega) v 0 B g n cap d _ k (m_ x f.size) E F (by omega) (by omega) (by omega) (by omega) o (by omega)) (ax := #[dz g n cap,av ((a:Int)+(c:Int)),av ((a:Int)+2*(c:Int)),av ((a:Int)+3*(c:Int)),(pt v)]) ?_;rintro H R ⟨x1,s,z,M,L,G,r,C⟩;refine⟨_,z,?_⟩;clear z;have l:=f.trans C;refine au (av x1)<|aC<|ay<|Lv (av s) (aR G.aJ 0)<|aC<|Wb<|ay ?_;by_cases i:s=0
  ·refine Lv aH (gU i)<|au aH<|aC<|aP<|ay<|au (av x1)<|au (av x1)<|au (av 1)<|aC<|Wr<|bO<|aK (.tuple #[av (x1:Int),av 1]) ?_;exact⟨x1,1,K_ (fun q=>Ending.returned (.tuple #[av q,av 1])) (by omega),by omega,by omega,r,l⟩
  refine Lv aD (gX i)<|au aD<|aC<|aL<|ay ?_;by_cases j:s=12
  ·refine Lv aH (gU j)<|au aH<|aC<|aP<|ay<|au (av x1)<|au (av x1)<|au (av 2)<|aC<|Wr<|bO<|aK (.tuple #[av (x1:Int),av 2]) ?_;exact⟨x1,2,K_ (fun q=>Ending.returned (.tuple #[av q,av 2])) (by omega),by omega,by omega,r,l⟩
  refine Lv aD (gX j)<|au aD<|aC<|aL<|ay<|au (av x1)<|au (av x1)<|au (av 0)<|aC<|Wr<|bO<|aK (.tuple #[av (x1:Int),av 0]) ?_;exact⟨x1,0,K_ (fun q=>Ending.returned (.tuple #[av q,av 0])) (by omega),by omega,by omega,r,l⟩
 refine Lv aD (mM t)<|aC<|aL<|Wk<|sN<|ay<|Lv (av 0) (aR o.aJ 0)<|aC<|Wb<|ay ?_;by_cases i:(0:Int)=0
 ·refine Lv aH (gU i)<|au aH<|aC<|aP<|ay<|au (av ((a:Int)+2*(c:Int)))<|au (av ((a:Int)+2*(c:Int)))<|au (av 1)<|aC<|Wr<|bO<|aK (.tuple #[av ((a:Int)+2*(c:Int)),av 1]) ?_;exact⟨a+2*c,1,K_ (fun q=>Ending.returned (.tuple #[av q,av 1])) (by omega),by omega,by omega,k,f⟩
 refine Lv aD (gX i)<|au aD<|aC<|aL<|ay ?_;by_cases j:(0:Int)=12
 ·refine Lv aH (gU j)<|au aH<|aC<|aP<|ay<|au (av ((a:Int)+2*(c:Int)))<|au (av ((a:Int)+2*(c:Int)))<|au (av 2)<|aC<|Wr<|bO<|aK (.tuple #[av ((a:Int)+2*(c:Int)),av 2]) ?_;exact⟨a+2*c,2,K_ (fun q=>Ending.returned (.tuple #[av q,av 2])) (by omega),by omega,by omega,k,f⟩
 refine Lv aD (gX j)<|au aD<|aC<|aL<|ay<|au (av ((a:Int)+2*(c:Int)))<|au (av ((a:Int)+2*(c:Int)))<|au (av 0)<|aC<|Wr<|bO<|aK (.tuple #[av ((a:Int)+2*(c:Int)),av 0]) ?_;exact⟨a+2*c,0,K_ (fun q=>Ending.returned (.tuple #[av q,av 0])) (by omega),by omega,by omega,k,f⟩
end
section
open Rt
theorem anx(a b:Nat)(B g n cap:Nat)(d:Array Int)(w:World)(h:aY w B 26 1 (dz g n cap) n (rv .u64 (gA d)))(v:B<=w.heap.size)(V:d.size=n)(W:n<=1000)(ha:a<b)(U:b<=n)(T:n<50) :
 Calls prog 140 #[dz g n cap,av (a:Int),av (b:Int)] w fun e w' => ∃ r:Bool,e = .returned (.bool r)/\(r=true->Sort.SortedIn Sort.ltInt a b d)/\aY w' B 26 1 (dz g n cap) n (rv .u64 (gA d))/\Below B w w':=by
 refine bX func140 133 ?_;refine ay<|au aD<|aC<|ay<|au (av a)<|Lv (av ((a:Int)+1)) gu<|au (av ((a:Int)+1))<|aC<|aQ<|ay<|au (av 0)<|aC<|Wb<|Wo (fun f p=>f 0=dz g n cap/\f 1=av (a:Int)/\f 2=av (b:Int)/\f 7=av ((a:Int)+1)/\f 8=av 0/\aY p B 26 1 (dz g n cap) n (rv .u64 (gA d))/\Below B w p) (fun f _=>(5-intOf (f 8)).toNat) ⟨(by rfl),ic,ic,ic,ic,h,(Below.refl B w)⟩ ?_;rintro R X ⟨K,M,N,O,C,P,I⟩;refine aQ<|ay<|bA C<|Lv aH Wy<|aC<|aP<|Wk<|sN<|aQ<|Wb<|aQ<|Wb<|Wo (fun f p => ∃ i:Nat,Sort.SortedIn Sort.ltInt a i d/\(a<i/\i<=b)/\f 0=dz g n cap/\f 1=av (a:Int)/\f 2=av (b:Int)/\f 7=av (i:Int)/\f 8=av 0/\aY p B 26 1 (dz g n cap) n (rv .u64 (gA d))/\Below B w p) (fun f _=>((b:Int)-intOf (f 7)).toNat) ⟨a+1,(U2 _ _),(by omega),K,(M.trans ic),(N.trans ic),(O.trans ic),(C.trans ic),P,I⟩ ?_;rintro S Y ⟨i,x,hi,t,u,k,j,L,o,s⟩;refine aQ<|aQ ?_;refine rA<|iL j<|iL k ?_;by_cases A:(i:Int)<(b:Int)
 ·refine Qv aH (fun l c=>fK A)<|bI aH<|iL t<|iL j<|Qv (pf g i) (fun l c=>fC 1)<|Qv (aG ((gA d) i)) (fun l c=>aR (o.cb c) i)<|iL t<|iL j<|Qv (av ((i:Int)-1)) (fun l c=>jK)<|Qv (pf g (i-1)) (fun l c=>fC 1)<|Qv (aG ((gA d) (i-1))) (fun l c=>aR (o.cb c) (i-1)) ?_;by_cases q:(decide ((gA d) i<(gA d) (i-1)))=true
  ·refine BA (fun _ _=>jW ((gA d) i) ((gA d) (i-1)) _) aH (by rw[q])<|bI aD<|bI aD<|Qn ?_;intro Z D;have G:=bL D o;have y:=iR D s v;refine sN<|aL<|Wx<|cZ<|iC<|dB<|sN<|aQ<|ay<|bA j<|bA k ?_;by_cases m:(i:Int)=(b:Int)
   ·refine Lv aH (gU m)<|aC<|aP<|ay<|au aH<|aC<|Wr<|sR<|bO<|sR<|oG<|bO<|sR<|aK aH ?_;exact⟨true,rfl,(fun _=>by rw[show b=i by omega]; exact x),G,y⟩
   refine Lv aD (gX m)<|aC<|aL<|Wk<|sN<|aQ<|ay<|bA k<|bA u<|Lv (av ((b:Int)-(a:Int))) jK<|Lv aH Wy<|aC<|aP<|ay<|au aD<|aC<|Wr<|sR<|bO<|sR<|oG<|bO<|sR<|aK aD ?_;exact⟨false,rfl,(fun h=>nomatch h),G,y⟩
  rw[R_]at q;refine BA (fun _ _=>jW ((gA d) i) ((gA d) (i-1)) _) aD (by rw[q])<|bI aH<|bI aH<|Qn ?_;intro aa E;have Q:=bL E o;have J:=iR E s v;refine sN<|aP<|Wk<|sN<|Wb<|Wl<|bA j<|Lv (av ((i:Int)+1)) gu<|au (av ((i:Int)+1))<|Ln<|bS<|iA ⟨i+1,(Sort.SortedIn.snoc Sort.swo_ltInt x (FQ (j_ q))),(by omega),t,(u.trans ic),(k.trans ic),ic,(L.trans ic),Q,J⟩ ?_;show((b:Int)-intOf (av ((i:Int)+1))).toNat<_;simp only[j,intOf]; omega
 refine Qv aD (fun l c=>fM A)<|bI aD<|bD<|bD<|bD<|bD<|bD<|bD<|bD<|bD<|bD<|bD<|bD<|bI aD<|Qn ?_;intro ab F;have H:=bL F o;have z:=iR F s v;refine sN<|aL<|Wx<|cZ<|iC<|dB<|sN<|aQ<|ay<|bA j<|bA k ?_;by_cases m:(i:Int)=(b:Int)
 ·refine Lv aH (gU m)<|aC<|aP<|ay<|au aH<|aC<|Wr<|sR<|bO<|sR<|oG<|bO<|sR<|aK aH ?_;exact⟨true,rfl,(fun _=>by rw[show b=i by omega]; exact x),H,z⟩
 refine Lv aD (gX m)<|aC<|aL<|Wk<|sN<|aQ<|ay<|bA k<|bA u<|Lv (av ((b:Int)-(a:Int))) jK<|Lv aH Wy<|aC<|aP<|ay<|au aD<|aC<|Wr<|sR<|bO<|sR<|oG<|bO<|sR<|aK aD ?_;exact⟨false,rfl,(fun h=>nomatch h),H,z⟩
theorem aA9(a b p:Nat)(B g n cap:Nat)(d:Array Int)(w:World)(h:aY w B 26 1 (dz g n cap) n (rv .u64 (gA d)))(o:B<=w.heap.size)(hn:d.size=n)(hs:n<=1000)(ha:a<=p)(hp:p<b)(hb:b<=n) :
 Calls prog 142 #[dz g n cap,av (a:Int),av (b:Int),av (p:Int)] w fun e w' => ∃(mid:Nat) (K:Array Int),e = .returned (av (mid:Int))/\Sort.partitionEqual Sort.ltInt d a b p=(mid,K)/\K.size=n/\aY w' B 26 1 (dz g n cap) n (rv .u64 (gA K))/\Below B w w':=by
 refine bX func142 84 ?_;refine ay<|au (av 0)<|aC<|aQ ?_;refine nP [0,1,2,3,4,5,6,8,9,10,7,11,12,13,14,15] [0,0,0,0,0,0,0,4,0,0,0,4,0,3,0,3] [(13,7,[7]),(15,7,[7]),(13,11,[11]),(15,11,[11]),(14,13,[13]),(15,13,[13])] fun qN ag iM => ?_;have G:=bL ag h;have R:=iR ag (Below.refl B w) o;refine aS (dz g n cap)<|aS (av a)<|aS (dz g n cap)<|aS (av p)<|aS (dz g n cap)<|aS (av p)<|Rp (pf g p) (fun _=>fC 1)<|aS (dz g n cap)<|aS (av a)<|Rp (pf g a) (fun _=>fC 1)<|Rs (aG ((gA d) p)) (aR G.aJ p) ?_;refine Rs (aG ((gA d) a)) (aR G.aJ a) ?_;refine Rp (pf g a) (fun _=>fC 1)<|jP<|Gb G a (aG ((gA d) p)) fun w1 m2 s2 z1 => ?_;have U:=s2.below R (m_ o R.size) G.wo.1;refine Ln<|Rp (pf g p) (fun _=>fC 1)<|jP<|Gb m2 p (aG ((gA d) a)) fun w2 m3 s3 z2 => ?_;have b3:=s3.below U (m_ o U.size) m2.wo.1;have m4:aY w2 B 26 1 (dz g n cap) n (rv .u64 (gA (Sort.swp d a p))):=m3.congr (vK hn (by omega) (by omega));refine Ln<|dJ<|ay<|au (av a)<|Lv (av ((a:Int)+1)) gu<|au (av b)<|Lv (av ((b:Int)-1)) jK<|au (av ((a:Int)+1))<|au (av ((b:Int)-1))<|aC<|aQ<|Wb<|Wo (fun f r => ∃ i:Nat,∃ j:Nat,∃ k:Array Int,k.size=n/\Sort.partEqLoop Sort.ltInt a i j k=Sort.partEqLoop Sort.ltInt a (a+1) (b-1) (Sort.swp d a p)/\(a<i/\j<b/\i<=b)/\f 0=dz g n cap/\f 1=av (a:Int)/\f 2=av (b:Int)/\f 9=av (i:Int)/\f 10=av (j:Int)/\aY r B 26 1 (dz g n cap) n (rv .u64 (gA k))/\Below B w r) (fun f _=>((b:Int)-intOf (f 9)).toNat) ⟨a+1,b-1,Sort.swp d a p,(nH hn _ _),rfl,(by omega),(by rfl),ic,ic,ic,ic,m4,b3⟩ ?_;rintro f1 w3 ⟨i,j,k,P,Z,hij,h1,h2,h3,Y,h5,m5,b4⟩;refine Wb<|yh (fun f r => ∃ c:Nat,Sort.partEqLoop Sort.ltInt a c j k=Sort.partEqLoop Sort.ltInt a i j k/\(i<=c/\c<=b)/\(j<c\/gA k a<gA k c)/\f 0=dz g n cap/\f 1=av (a:Int)/\f 2=av (b:Int)/\f 10=av (j:Int)/\f 9=av (c:Int)/\aY r B 26 1 (dz g n cap) n (rv .u64 (gA k))/\Below B w r) ?_ ?_
 ·refine Wb<|Wo (fun f r => ∃ c:Nat,Sort.partEqLoop Sort.ltInt a c j k=Sort.partEqLoop Sort.ltInt a i j k/\(i<=c/\c<=b)/\f 0=dz g n cap/\f 1=av (a:Int)/\f 2=av (b:Int)/\f 9=av (c:Int)/\f 10=av (j:Int)/\aY r B 26 1 (dz g n cap) n (rv .u64 (gA k))/\Below B w r) (fun f _=>((j:Int)+1-intOf (f 9)).toNat) ⟨i,rfl,(by omega),h1,(h2.trans ic),(h3.trans ic),(Y.trans ic),(h5.trans ic),m5,b4⟩ ?_;rintro f2 w4 ⟨c,x,O,A,F,M,v,E,D,J⟩;refine aQ<|aQ ?_;refine rA<|iL v<|iL E ?_;by_cases V:(c:Int)<=(j:Int)
  ·refine Qv aH (fun q m=>xq V)<|bI aH<|iL A<|iL F<|Qv (pf g a) (fun q m=>fC 1)<|Qv (aG ((gA k) a)) (fun q m=>aR (D.cb m) a)<|iL A<|iL v<|Qv (pf g c) (fun q m=>fC 1)<|Qv (aG ((gA k) c)) (fun q m=>aR (D.cb m) c) ?_;by_cases y:(decide ((gA k) a<(gA k) c))=true
   ·refine BA (fun _ _=>jW ((gA k) a) ((gA k) c) _) aH (by rw[y])<|bI aD<|bI aD<|Qn ?_;intro OC aa;have m7:=bL aa D;have b6:=iR aa J o;refine sN<|aL<|Wx<|cZ<|iC<|dB ?_;exact nL ⟨c,x,O,(.inr (h_ y)),A,(F.trans ic),(M.trans ic),(E.trans ic),(v.trans ic),m7,b6⟩
   rw[R_]at y;refine BA (fun _ _=>jW ((gA k) a) ((gA k) c) _) aD (by rw[y])<|bI aH<|bI aH<|Qn ?_;intro wb2 ab;have m8:=bL ab D;have b7:=iR ab J o;refine sN<|aP<|Wk<|sN<|Wb<|Wl<|bA v<|Lv (av ((c:Int)+1)) gu<|au (av ((c:Int)+1))<|Ln<|bS<|iA ⟨c+1,((asq (by omega) (j_ y)).trans x),(by omega),A,(F.trans ic),(M.trans ic),ic,(E.trans ic),m8,b7⟩ ?_;show((j:Int)+1-intOf (av ((c:Int)+1))).toNat<_;simp only[v,intOf]; omega
  refine Qv aD (fun q m=>yg V)<|bI aD<|bD<|bD<|bD<|bD<|bD<|bD<|bD<|bD<|bD<|bD<|bI aD<|Qn ?_;intro wb3 ac;have m9:=bL ac D;have b8:=iR ac J o;refine sN<|aL<|Wx<|cZ<|iC<|dB ?_;exact nL ⟨c,x,O,(.inl (by omega)),A,(F.trans ic),(M.trans ic),(E.trans ic),(v.trans ic),m9,b8⟩
 rintro f3 w5 ⟨c,x,O,he1,h11,h12,IV,TU,Zu,m10,b9⟩;refine aQ<|Wb<|Wo (fun f r => ∃ l:Nat,Sort.partEqLoop Sort.ltInt a c l k=Sort.partEqLoop Sort.ltInt a c j k/\(l<c\/gA k a<gA k c)/\l<=j/\f 0=dz g n cap/\f 1=av (a:Int)/\f 2=av (b:Int)/\f 9=av (c:Int)/\f 10=av (l:Int)/\aY r B 26 1 (dz g n cap) n (rv .u64 (gA k))/\Below B w r) (fun f _=>(intOf (f 10)).toNat) ⟨j,rfl,he1,(by omega),h11,(h12.trans ic),(IV.trans ic),(Zu.trans ic),(TU.trans ic),m10,b9⟩ ?_;rintro f4 w6 ⟨l,N,Q,hj2,t,L,X,u,s,C,I⟩;refine aQ<|aQ ?_;refine rA<|iL u<|iL s ?_;by_cases W:(c:Int)<=(l:Int)
 ·refine Qv aH (fun q m=>xq W)<|bI aH<|iL t<|iL L<|Qv (pf g a) (fun q m=>fC 1)<|Qv (aG ((gA k) a)) (fun q m=>aR (C.cb m) a)<|iL t<|iL s<|Qv (pf g l) (fun q m=>fC 1)<|Qv (aG ((gA k) l)) (fun q m=>aR (C.cb m) l) ?_;by_cases z:(decide ((gA k) a<(gA k) l))=true
  ·refine BA (fun _ _=>jW ((gA k) a) ((gA k) l) _) aH (by rw[z])<|bI aH<|Qn ?_;intro wb4 ad;have kY:=bL ad C;have b11:=iR ad I o;refine sN<|aP<|Wk<|sN<|Wb<|Wl<|bA s<|Lv (av ((l:Int)-1)) jK<|au (av ((l:Int)-1))<|Ln<|bS<|iA ⟨l-1,((asr (by omega) (by omega) (Q.resolve_left (by omega)) (h_ z)).trans N),(Q.elim (fun h => .inl (by omega)) .inr),(by omega),t,(L.trans ic),(X.trans ic),(u.trans ic),ic,kY,b11⟩ ?_;show(intOf (av ((l:Int)-1))).toNat<_;simp only[s,intOf]; omega
  rw[R_]at z;refine BA (fun _ _=>jW ((gA k) a) ((gA k) l) _) aD (by rw[z])<|bI aD<|Qn ?_;intro wb5 ae;have m13:=bL ae C;have b12:=iR ae I o;refine sN<|aL<|Wx<|cZ<|iC<|dB<|sN<|aQ<|ay<|bA u<|bA s<|Lv aD Fb<|aC<|aL<|Wk<|sN<|aQ ?_;refine nP [0,1,2,3,4,5,6,8,9,10,7,11,12,13,14,15] [0,0,0,0,0,0,0,4,0,0,0,4,0,3,0,3] [(13,7,[7]),(15,7,[7]),(13,11,[11]),(15,11,[11]),(14,13,[13]),(15,13,[13])] fun Fu ah rM => ?_;have H:=bL ah m13;have S:=iR ah b12 o;refine eZ t<|eZ u<|eZ t<|eZ s<|eZ t<|eZ s<|Rp (pf g l) (fun _=>fC 1)<|eZ t<|eZ u<|Rp (pf g c) (fun _=>fC 1)<|Rs (aG ((gA k) l)) (aR H.aJ l) ?_;refine Rs (aG ((gA k) c)) (aR H.aJ c) ?_;refine Rp (pf g c) (fun _=>fC 1)<|jP<|Gb H c (aG ((gA k) l)) fun w7 m15 oP z3 => ?_;have T:=oP.below S (m_ o S.size) H.wo.1;refine Ln<|Rp (pf g l) (fun _=>fC 1)<|jP<|Gb m15 l (aG ((gA k) c)) fun w8 m16 s11 z4 => ?_;have b15:=s11.below T (m_ o T.size) m15.wo.1;have m17:aY w8 B 26 1 (dz g n cap) n (rv .u64 (gA (Sort.swp k c l))):=m16.congr (vK P (by omega) (by omega));refine Ln<|dJ<|ay<|bA u<|Lv (av ((c:Int)+1)) gu<|au (av ((c:Int)+1))<|aC<|Wl<|bA s<|Lv (av ((l:Int)-1)) jK<|au (av ((l:Int)-1))<|Ln<|bS<|iA ⟨c+1,l-1,Sort.swp k c l,(nH P _ _),((asu (by omega) (Q.resolve_left (by omega)) (j_ z)).trans (N.trans (x.trans Z))),(by omega),t,(L.trans ic),(X.trans ic),ic,ic,m17,b15⟩ ?_;show((b:Int)-intOf (av ((c:Int)+1))).toNat<_;simp only[Y,intOf]; omega
 refine Qv aD (fun q m=>yg W)<|bI aD<|bD<|bD<|bD<|bD<|bD<|bD<|bD<|bD<|bD<|bI aD<|Qn ?_;intro wb6 af;have m18:=bL af C;have b16:=iR af I o;refine sN<|aL<|Wx<|cZ<|iC<|dB<|sN<|aQ<|ay<|bA u<|bA s<|Lv aH aaM<|aC<|aP<|Wx<|cZ<|Gj rfl<|iC<|dB<|sN<|ay<|bA u<|au (av c)<|aC<|Wr<|aK (av c) ?_;exact⟨c,k,rfl,Z.symm.trans (x.symm.trans (N.symm.trans (ano (by omega)))),P,m18,b16⟩
theorem asD(a b p:Nat)(B g n cap:Nat)(d:Array Int)(w:World)(h:aY w B 26 1 (dz g n cap) n (rv .u64 (gA d)))(r:B<=w.heap.size)(P:d.size=n)(hs:n<=1000)(ha:a<=p:=by omega)(hp:p<b:=by omega)(hb:b<=n:=by omega) :
 Calls prog 143 #[dz g n cap,av (a:Int),av (b:Int),av (p:Int)] w fun e w' => ∃(mid:Nat) (ap:Bool) (d4:Array Int),e = .returned (.tuple #[av (mid:Int),.bool ap])/\(Sort.partition Sort.ltInt d a b p).1=mid/\(Sort.partition Sort.ltInt d a b p).2.2=d4/\d4.size=n/\aY w' B 26 1 (dz g n cap) n (rv .u64 (gA d4))/\Below B w w':=by
 refine bX func143 168 ?_;refine ay<|au (av 0)<|au aD<|aC<|aQ ?_;refine nP [0,1,2,3,4,5,6,8,9,10,7,11,12,13,14,15] [0,0,0,0,0,0,0,4,0,0,0,4,0,3,0,3] [(13,7,[7]),(15,7,[7]),(13,11,[11]),(15,11,[11]),(14,13,[13]),(15,13,[13])] fun qN eX iM => ?_;have Z:=bL eX h;have b1:=iR eX (Below.refl B w) r;refine aS (dz g n cap)<|aS (av a)<|aS (dz g n cap)<|aS (av p)<|aS (dz g n cap)<|aS (av p)<|Rp (pf g p) (fun _=>fC 1)<|aS (dz g n cap)<|aS (av a)<|Rp (pf g a) (fun _=>fC 1)<|Rs (aG ((gA d) p)) (aR Z.aJ p) ?_;refine Rs (aG ((gA d) a)) (aR Z.aJ a) ?_;refine Rp (pf g a) (fun _=>fC 1)<|jP<|Gb Z a (aG ((gA d) p)) fun w1 m2 s2 z1 => ?_;have b2:=s2.below b1 (m_ r b1.size) Z.wo.1;refine Ln<|Rp (pf g p) (fun _=>fC 1)<|jP<|Gb m2 p (aG ((gA d) a)) fun w2 m3 s3 z2 => ?_;have b3:=s3.below b2 (m_ r b2.size) m2.wo.1;have m4:aY w2 B 26 1 (dz g n cap) n (rv .u64 (gA (Sort.swp d a p))):=m3.congr (vK P (by omega) (by omega));refine Ln<|dJ<|ay<|au (av a)<|Lv (av ((a:Int)+1)) gu<|au (av b)<|Lv (av ((b:Int)-1)) jK<|au (av ((a:Int)+1))<|au (av ((b:Int)-1))<|aC<|yh (fun f t => ∃ k:Nat,Sort.partLoop Sort.ltInt a k (b-1) (Sort.swp d a p)=Sort.partLoop Sort.ltInt a (a+1) (b-1) (Sort.swp d a p)/\(a+1<=k/\k<=b)/\((b:Int)-1<(k:Int) \/ ¬ gA (Sort.swp d a p) k<gA (Sort.swp d a p) a)/\f 0=dz g n cap/\f 1=av (a:Int)/\f 2=av (b:Int)/\f 11=av ((b:Int)-1)/\f 10=av (k:Int)/\aY t B 26 1 (dz g n cap) n (rv .u64 (gA (Sort.swp d a p)))/\Below B w t) ?_ ?_
 ·refine Wb<|Wo (fun f t => ∃ k:Nat,Sort.partLoop Sort.ltInt a k (b-1) (Sort.swp d a p)=Sort.partLoop Sort.ltInt a (a+1) (b-1) (Sort.swp d a p)/\(a+1<=k/\k<=b)/\f 0=dz g n cap/\f 1=av (a:Int)/\f 2=av (b:Int)/\f 10=av (k:Int)/\f 11=av ((b:Int)-1)/\aY t B 26 1 (dz g n cap) n (rv .u64 (gA (Sort.swp d a p)))/\Below B w t) (fun f _=>((b:Int)-intOf (f 10)).toNat) ⟨a+1,rfl,(by omega),(by rfl),ic,ic,ic,ic,m4,b3⟩ ?_;rintro f1 w3 ⟨k,O,anz,I,U,h3,D,X,T,b4⟩;refine aQ<|aQ ?_;refine rA<|iL D<|iL X ?_;by_cases c32:(k:Int)<=((b:Int)-1)
  ·refine Qv aH (fun s q=>xq c32)<|bI aH<|iL I<|iL D<|Qv (pf g k) (fun s q=>fC 1)<|Qv (aG ((gA (Sort.swp d a p)) k)) (fun s q=>aR (T.cb q) k)<|iL I<|iL U<|Qv (pf g a) (fun s q=>fC 1)<|Qv (aG ((gA (Sort.swp d a p)) a)) (fun s q=>aR (T.cb q) a) ?_;by_cases G:(decide ((gA (Sort.swp d a p)) k<(gA (Sort.swp d a p)) a))=true
   ·refine BA (fun _ _=>jW ((gA (Sort.swp d a p)) k) ((gA (Sort.swp d a p)) a) _) aH (by rw[G])<|bI aH<|Qn ?_;intro OC xG;have m6:=bL xG T;have b5:=iR xG b4 r;refine sN<|aP<|Wk<|sN<|Wb<|Wl<|bA D<|Lv (av ((k:Int)+1)) gu<|au (av ((k:Int)+1))<|Ln<|bS<|iA ⟨k+1,((akM (by omega) (h_ G)).trans O),(by omega),I,(U.trans ic),(h3.trans ic),ic,(X.trans ic),m6,b5⟩ ?_;show((b:Int)-intOf (av ((k:Int)+1))).toNat<_;simp only[D,intOf]; omega
   rw[R_]at G;refine BA (fun _ _=>jW ((gA (Sort.swp d a p)) k) ((gA (Sort.swp d a p)) a) _) aD (by rw[G])<|bI aD<|Qn ?_;intro wb2 FC;have m7:=bL FC T;have b6:=iR FC b4 r;refine sN<|aL<|Wx<|cZ<|iC<|dB ?_;exact nL ⟨k,O,anz,(.inr (j_ G)),I,(U.trans ic),(h3.trans ic),(X.trans ic),(D.trans ic),m7,b6⟩
  refine Qv aD (fun s q=>yg c32)<|bI aD<|bD<|bD<|bD<|bD<|bD<|bD<|bD<|bD<|bD<|bI aD<|Qn ?_;intro wb3 FD;have m8:=bL FD T;have b7:=iR FD b4 r;refine sN<|aL<|Wx<|cZ<|iC<|dB ?_;exact nL ⟨k,O,anz,(.inl (by omega)),I,(U.trans ic),(h3.trans ic),(X.trans ic),(D.trans ic),m8,b7⟩
 rintro f2 w4 ⟨k,O,anz,he0,h6,h7,h8,h9,h10,m9,b8⟩;refine aQ<|Wb<|Wo (fun f t => ∃ m:Nat,Sort.partLoop Sort.ltInt a k m (Sort.swp d a p)=Sort.partLoop Sort.ltInt a (a+1) (b-1) (Sort.swp d a p)/\(m<k \/ ¬ gA (Sort.swp d a p) k<gA (Sort.swp d a p) a)/\(m<b/\m<=b)/\f 0=dz g n cap/\f 1=av (a:Int)/\f 2=av (b:Int)/\f 10=av (k:Int)/\f 11=av (m:Int)/\aY t B 26 1 (dz g n cap) n (rv .u64 (gA (Sort.swp d a p)))/\Below B w t) (fun f _=>(intOf (f 11)).toNat) ⟨b-1,O,(he0.elim (fun h => .inl (by omega)) .inr),(by omega),h6,(h7.trans ic),(h8.trans ic),(h10.trans ic),(h9.trans ic),m9,b8⟩ ?_;rintro f3 w5 ⟨m,hY1,UZ,aHa,u,J,IV,z,v,Q,b9⟩;refine aQ<|aQ ?_;refine rA<|iL z<|iL v ?_;by_cases c48:(k:Int)<=(m:Int)
 ·refine Qv aH (fun s q=>xq c48)<|bI aH<|iL u<|iL v<|Qv (pf g m) (fun s q=>fC 1)<|Qv (aG ((gA (Sort.swp d a p)) m)) (fun s q=>aR (Q.cb q) m)<|iL u<|iL J<|Qv (pf g a) (fun s q=>fC 1)<|Qv (aG ((gA (Sort.swp d a p)) a)) (fun s q=>aR (Q.cb q) a) ?_;by_cases H:(decide ((gA (Sort.swp d a p)) m<(gA (Sort.swp d a p)) a))=true
  ·refine BA (fun _ _=>jW ((gA (Sort.swp d a p)) m) ((gA (Sort.swp d a p)) a) _) aH (by rw[H])<|bI aD<|bI aD<|Qn ?_;intro wb4 Nb;have m11:=bL Nb Q;have b10:=iR Nb b9 r;refine sN<|aL<|Wx<|cZ<|iC<|dB<|sN<|aQ<|ay<|bA z<|bA v<|Lv aD Fb<|aC<|aL<|Wk<|sN<|aQ ?_;refine nP [0,1,2,3,4,5,6,8,9,10,7,11,12,13,14,15] [0,0,0,0,0,0,0,4,0,0,0,4,0,3,0,3] [(13,7,[7]),(15,7,[7]),(13,11,[11]),(15,11,[11]),(14,13,[13]),(15,13,[13])] fun Fu iZ rM => ?_;have aa:=bL iZ m11;have b11:=iR iZ b10 r;refine eZ u<|eZ z<|eZ u<|eZ v<|eZ u<|eZ v<|Rp (pf g m) (fun _=>fC 1)<|eZ u<|eZ z<|Rp (pf g k) (fun _=>fC 1)<|Rs (aG ((gA (Sort.swp d a p)) m)) (aR aa.aJ m) ?_;refine Rs (aG ((gA (Sort.swp d a p)) k)) (aR aa.aJ k) ?_;refine Rp (pf g k) (fun _=>fC 1)<|jP<|Gb aa k (aG ((gA (Sort.swp d a p)) m)) fun w6 m13 s9 z3 => ?_;have b12:=s9.below b11 (m_ r b11.size) aa.wo.1;refine Ln<|Rp (pf g m) (fun _=>fC 1)<|jP<|Gb m13 m (aG ((gA (Sort.swp d a p)) k)) fun w7 m14 oP z4 => ?_;have b13:=oP.below b12 (m_ r b12.size) m13.wo.1;have m15:aY w7 B 26 1 (dz g n cap) n (rv .u64 (gA (Sort.swp (Sort.swp d a p) k m))):=m14.congr (vK (nH P _ _) (by omega) (by omega));refine Ln<|dJ<|ay<|bA z<|Lv (av ((k:Int)+1)) gu<|au (av ((k:Int)+1))<|aC<|ay<|bA v<|Lv (av ((m:Int)-1)) jK<|au (av ((m:Int)-1))<|aC<|aQ<|Wb<|Wo (fun f t => ∃ i:Nat,∃ j:Nat,∃ l:Array Int,l.size=n/\Sort.partLoop Sort.ltInt a i j l=Sort.partLoop Sort.ltInt a (a+1) (b-1) (Sort.swp d a p)/\(a<i/\j<b/\i<=b)/\f 0=dz g n cap/\f 1=av (a:Int)/\f 2=av (b:Int)/\f 10=av (i:Int)/\f 11=av (j:Int)/\aY t B 26 1 (dz g n cap) n (rv .u64 (gA l))/\Below B w t) (fun f _=>((b:Int)-intOf (f 10)).toNat) ⟨k+1,m-1,Sort.swp (Sort.swp d a p) k m,(nH (nH P _ _) _ _),((akO (by omega) (UZ.resolve_left (by omega)) (h_ H)).trans hY1),(by omega),u,(J.trans ic),(IV.trans ic),ic,ic,m15,b13⟩ ?_;rintro f4 w8 ⟨i,j,l,Y,hX,hij,h16,Xd,h18,h19,h20,m16,b14⟩;refine Wb<|yh (fun f t => ∃ c:Nat,Sort.partLoop Sort.ltInt a c j l=Sort.partLoop Sort.ltInt a (a+1) (b-1) (Sort.swp d a p)/\(i<=c/\c<=b)/\((j:Int)<(c:Int) \/ ¬ gA l c<gA l a)/\f 0=dz g n cap/\f 1=av (a:Int)/\f 2=av (b:Int)/\f 11=av (j:Int)/\f 10=av (c:Int)/\aY t B 26 1 (dz g n cap) n (rv .u64 (gA l))/\Below B w t) ?_ ?_
   ·refine Wb<|Wo (fun f t => ∃ c:Nat,Sort.partLoop Sort.ltInt a c j l=Sort.partLoop Sort.ltInt a (a+1) (b-1) (Sort.swp d a p)/\(i<=c/\c<=b)/\f 0=dz g n cap/\f 1=av (a:Int)/\f 2=av (b:Int)/\f 10=av (c:Int)/\f 11=av (j:Int)/\aY t B 26 1 (dz g n cap) n (rv .u64 (gA l))/\Below B w t) (fun f _=>((b:Int)-intOf (f 10)).toNat) ⟨i,hX,(by omega),h16,(Xd.trans ic),(h18.trans ic),(h19.trans ic),(h20.trans ic),m16,b14⟩ ?_;rintro f5 w9 ⟨c,N,anA,K,V,h23,C,W,R,ae⟩;refine aQ<|aQ ?_;refine rA<|iL C<|iL W ?_;by_cases asE:(c:Int)<=(j:Int)
    ·refine Qv aH (fun s q=>xq asE)<|bI aH<|iL K<|iL C<|Qv (pf g c) (fun s q=>fC 1)<|Qv (aG ((gA l) c)) (fun s q=>aR (R.cb q) c)<|iL K<|iL V<|Qv (pf g a) (fun s q=>fC 1)<|Qv (aG ((gA l) a)) (fun s q=>aR (R.cb q) a) ?_;by_cases E:(decide ((gA l) c<(gA l) a))=true
     ·refine BA (fun _ _=>jW ((gA l) c) ((gA l) a) _) aH (by rw[E])<|bI aH<|Qn ?_;intro wb5 Xq;have m18:=bL Xq R;have b16:=iR Xq ae r;refine sN<|aP<|Wk<|sN<|Wb<|Wl<|bA C<|Lv (av ((c:Int)+1)) gu<|au (av ((c:Int)+1))<|Ln<|bS<|iA ⟨c+1,((akM (by omega) (h_ E)).trans N),(by omega),K,(V.trans ic),(h23.trans ic),ic,(W.trans ic),m18,b16⟩ ?_;show((b:Int)-intOf (av ((c:Int)+1))).toNat<_;simp only[C,intOf]; omega
     rw[R_]at E;refine BA (fun _ _=>jW ((gA l) c) ((gA l) a) _) aD (by rw[E])<|bI aD<|Qn ?_;intro wb6 akP;have m19:=bL akP R;have b17:=iR akP ae r;refine sN<|aL<|Wx<|cZ<|iC<|dB ?_;exact nL ⟨c,N,anA,(.inr (j_ E)),K,(V.trans ic),(h23.trans ic),(W.trans ic),(C.trans ic),m19,b17⟩
    refine Qv aD (fun s q=>yg asE)<|bI aD<|bD<|bD<|bD<|bD<|bD<|bD<|bD<|bD<|bD<|bI aD<|Qn ?_;intro wb7 akQ;have m20:=bL akQ R;have b18:=iR akQ ae r;refine sN<|aL<|Wx<|cZ<|iC<|dB ?_;exact nL ⟨c,N,anA,(.inl (by omega)),K,(V.trans ic),(h23.trans ic),(W.trans ic),(C.trans ic),m20,b18⟩
   rintro f6 uE ⟨c,N,anA,he2,h26,h27,h28,h29,h30,mG,b19⟩;refine aQ<|Wb<|Wo (fun f t => ∃ o:Nat,Sort.partLoop Sort.ltInt a c o l=Sort.partLoop Sort.ltInt a (a+1) (b-1) (Sort.swp d a p)/\(o<c \/ ¬ gA l c<gA l a)/\(o<b/\o<=j)/\f 0=dz g n cap/\f 1=av (a:Int)/\f 2=av (b:Int)/\f 10=av (c:Int)/\f 11=av (o:Int)/\aY t B 26 1 (dz g n cap) n (rv .u64 (gA l))/\Below B w t) (fun f _=>(intOf (f 11)).toNat) ⟨j,N,(he2.elim (fun h => .inl (by omega)) .inr),(by omega),h26,(h27.trans ic),(h28.trans ic),(h30.trans ic),(h29.trans ic),mG,b19⟩ ?_;rintro f7 Bg ⟨o,hX2,hst,aHb,x,L,h33,A,y,S,af⟩;refine aQ<|aQ ?_;refine rA<|iL A<|iL y ?_;by_cases c117:(c:Int)<=(o:Int)
   ·refine Qv aH (fun s q=>xq c117)<|bI aH<|iL x<|iL y<|Qv (pf g o) (fun s q=>fC 1)<|Qv (aG ((gA l) o)) (fun s q=>aR (S.cb q) o)<|iL x<|iL L<|Qv (pf g a) (fun s q=>fC 1)<|Qv (aG ((gA l) a)) (fun s q=>aR (S.cb q) a) ?_;by_cases F:(decide ((gA l) o<(gA l) a))=true
    ·refine BA (fun _ _=>jW ((gA l) o) ((gA l) a) _) aH (by rw[F])<|bI aD<|bI aD<|Qn ?_;intro wb8 akS;have m23:=bL akS S;have DW:=iR akS af r;refine sN<|aL<|Wx<|cZ<|iC<|dB<|sN<|aQ<|ay<|bA A<|bA y<|Lv aD Fb<|aC<|aL<|Wk<|sN<|aQ ?_;refine nP [0,1,2,3,4,5,6,8,9,10,7,11,12,13,14,15] [0,0,0,0,0,0,0,4,0,0,0,4,0,3,0,3] [(13,7,[7]),(15,7,[7]),(13,11,[11]),(15,11,[11]),(14,13,[13]),(15,13,[13])] fun MU mZ DZ => ?_;have ab:=bL mZ m23;have zl:=iR mZ DW r;refine eZ x<|eZ A<|eZ x<|eZ y<|eZ x<|eZ y<|Rp (pf g o) (fun _=>fC 1)<|eZ x<|eZ A<|Rp (pf g c) (fun _=>fC 1)<|Rs (aG ((gA l) o)) (aR ab.aJ o) ?_;refine Rs (aG ((gA l) c)) (aR ab.aJ c) ?_;refine Rp (pf g c) (fun _=>fC 1)<|jP<|Gb ab c (aG ((gA l) o)) fun BD mU s16 z5 => ?_;have Fh:=s16.below zl (m_ r zl.size) ab.wo.1;refine Ln<|Rp (pf g o) (fun _=>fC 1)<|jP<|Gb mU o (aG ((gA l) c)) fun Bh pK LU z6 => ?_;have Gs:=LU.below Fh (m_ r Fh.size) mU.wo.1;have pO:aY Bh B 26 1 (dz g n cap) n (rv .u64 (gA (Sort.swp l c o))):=pK.congr (vK Y (by omega) (by omega));refine Ln<|dJ<|ay<|bA A<|Lv (av ((c:Int)+1)) gu<|au (av ((c:Int)+1))<|aC<|Wl<|bA y<|Lv (av ((o:Int)-1)) jK<|au (av ((o:Int)-1))<|Ln<|bS<|iA ⟨c+1,o-1,Sort.swp l c o,(nH Y _ _),((akO (by omega) (hst.resolve_left (by omega)) (h_ F)).trans hX2),(by omega),x,(L.trans ic),(h33.trans ic),ic,ic,pO,Gs⟩ ?_;show((b:Int)-intOf (av ((c:Int)+1))).toNat<_;simp only[h19,intOf]; omega
    rw[R_]at F;refine BA (fun _ _=>jW ((gA l) o) ((gA l) a) _) aD (by rw[F])<|bI aH<|bI aH<|Qn ?_;intro wb9 akT;have om:=bL akT S;have M7:=iR akT af r;refine sN<|aP<|Wk<|sN<|Wb<|Wl<|bA y<|Lv (av ((o:Int)-1)) jK<|au (av ((o:Int)-1))<|Ln<|bS<|iA ⟨o-1,((akN (by omega) (by omega) (hst.resolve_left (by omega)) (j_ F)).trans hX2),(hst.elim (fun h => .inl (by omega)) .inr),(by omega),x,(L.trans ic),(h33.trans ic),(A.trans ic),ic,om,M7⟩ ?_;show(intOf (av ((o:Int)-1))).toNat<_;simp only[y,intOf]; omega
   refine Qv aD (fun s q=>yg c117)<|bI aD<|bD<|bD<|bD<|bD<|bD<|bD<|bD<|bD<|bD<|bD<|bI aD<|Qn ?_;intro aHc acY;have qb:=bL acY S;have TS:=iR acY af r;refine sN<|aL<|Wx<|cZ<|iC<|dB<|sN<|aQ<|ay<|bA A<|bA y<|Lv aH aaM<|aC<|aP<|Wx<|cZ<|Gj rfl<|iC<|dB<|sN<|aQ ?_;refine nP [0,1,2,3,4,5,6,8,9,10,7,11,12,13,14,15] [0,0,0,0,0,0,0,4,0,0,0,4,0,3,0,3] [(13,7,[7]),(15,7,[7]),(13,11,[11]),(15,11,[11]),(14,13,[13]),(15,13,[13])] fun wZ oF Fv => ?_;have ac:=bL oF qb;have UG:=iR oF TS r;refine eZ x<|eZ y<|eZ x<|eZ L<|eZ x<|eZ L<|Rp (pf g a) (fun _=>fC 1)<|eZ x<|eZ y<|Rp (pf g o) (fun _=>fC 1)<|Rs (aG ((gA l) a)) (aR ac.aJ a) ?_;refine Rs (aG ((gA l) o)) (aR ac.aJ o) ?_;refine Rp (pf g o) (fun _=>fC 1)<|jP<|Gb ac o (aG ((gA l) a)) fun EU mY Rf z7 => ?_;have UH:=Rf.below UG (m_ r UG.size) ac.wo.1;refine Ln<|Rp (pf g a) (fun _=>fC 1)<|jP<|Gb mY a (aG ((gA l) o)) fun CW m32 Xc z8 => ?_;have b29:=Xc.below UH (m_ r UH.size) mY.wo.1;have oD:aY CW B 26 1 (dz g n cap) n (rv .u64 (gA (Sort.swp l o a))):=m32.congr (vK Y (by omega) (by omega));refine Ln<|dJ<|ay<|bA y<|au (av o)<|au aD<|aC<|Wr<|aK (.tuple #[av (o:Int),.bool false]) ?_;have M:=hX2.symm.trans (acV (by omega));exact⟨o,false,_,rfl,by rw[Sort.partition_fst,M],by rw[Sort.partition_arr,M],(nH Y _ _),oD,b29⟩
  rw[R_]at H;refine BA (fun _ _=>jW ((gA (Sort.swp d a p)) m) ((gA (Sort.swp d a p)) a) _) aD (by rw[H])<|bI aH<|bI aH<|Qn ?_;intro aHd acZ;have pz:=bL acZ Q;have b30:=iR acZ b9 r;refine sN<|aP<|Wk<|sN<|Wb<|Wl<|bA v<|Lv (av ((m:Int)-1)) jK<|au (av ((m:Int)-1))<|Ln<|bS<|iA ⟨m-1,((akN (by omega) (by omega) (UZ.resolve_left (by omega)) (j_ H)).trans hY1),(UZ.elim (fun h => .inl (by omega)) .inr),(by omega),u,(J.trans ic),(IV.trans ic),(z.trans ic),ic,pz,b30⟩ ?_;show(intOf (av ((m:Int)-1))).toNat<_;simp only[v,intOf]; omega
 refine Qv aD (fun s q=>yg c48)<|bI aD<|bD<|bD<|bD<|bD<|bD<|bD<|bD<|bD<|bD<|bD<|bI aD<|Qn ?_;intro aHe ada;have pQ:=bL ada Q;have b31:=iR ada b9 r;refine sN<|aL<|Wx<|cZ<|iC<|dB<|sN<|aQ<|ay<|bA z<|bA v<|Lv aH aaM<|aC<|aP<|aQ ?_;refine nP [0,1,2,3,4,5,6,8,9,10,7,11,12,13,14,15] [0,0,0,0,0,0,0,4,0,0,0,4,0,3,0,3] [(13,7,[7]),(15,7,[7]),(13,11,[11]),(15,11,[11]),(14,13,[13]),(15,13,[13])] fun wt5 sU MV => ?_;have ad:=bL sU pQ;have b32:=iR sU b31 r;refine eZ u<|eZ v<|eZ u<|eZ J<|eZ u<|eZ J<|Rp (pf g a) (fun _=>fC 1)<|eZ u<|eZ v<|Rp (pf g m) (fun _=>fC 1)<|Rs (aG ((gA (Sort.swp d a p)) a)) (aR ad.aJ a) ?_;refine Rs (aG ((gA (Sort.swp d a p)) m)) (aR ad.aJ m) ?_;refine Rp (pf g m) (fun _=>fC 1)<|jP<|Gb ad m (aG ((gA (Sort.swp d a p)) a)) fun w16 sD s26 z9 => ?_;have b33:=s26.below b32 (m_ r b32.size) ad.wo.1;refine Ln<|Rp (pf g a) (fun _=>fC 1)<|jP<|Gb sD a (aG ((gA (Sort.swp d a p)) m)) fun Fg qM YK QM => ?_;have b34:=YK.below b33 (m_ r b33.size) sD.wo.1;have qW:aY Fg B 26 1 (dz g n cap) n (rv .u64 (gA (Sort.swp (Sort.swp d a p) m a))):=qM.congr (vK (nH P _ _) (by omega) (by omega));refine Ln<|dJ<|ay<|bA v<|au (av m)<|au aH<|aC<|Wr<|sR<|aK (.tuple #[av (m:Int),.bool true]) ?_;have M:=hY1.symm.trans (acV (by omega));exact⟨m,true,_,rfl,by rw[Sort.partition_fst,M],by rw[Sort.partition_arr,M],(nH (nH P _ _) _ _),qW,b34⟩
end
section
open Rt
theorem anD(c b:Nat)(i:a=(c:Int))(j:d=(b:Int))(B g n cap:Nat)(f:Array Int)(w:World)(h:aY w B 26 1 (dz g n cap) n (rv .u64 (gA f)))(k:B<=w.heap.size)(m:f.size=n)(o:n<=1000)(ha:c<=b)(l:b<=n) :
 Calls prog 135 #[dz g n cap,av a,av d] w fun e w'=>e = .returned (.tuple #[])/\aY w' B 26 1 (dz g n cap) n (rv .u64 (gA (Sort.insertionSort Sort.ltInt f c b)))/\Below B w w':=by
 subst i j; exact asw _ _ _ _ _ _ _ _ h k m o ha l
theorem ahV(c b:Nat)(i:a=(c:Int))(j:d=(b:Int))(B g n cap:Nat)(f:Array Int)(w:World)(h:aY w B 26 1 (dz g n cap) n (rv .u64 (gA f)))(k:B<=w.heap.size)(m:f.size=n)(o:n<=1000)(ha:c<b)(l:b<=n) :
 Calls prog 136 #[dz g n cap,av a,av d] w fun e w'=>e = .returned (.tuple #[])/\aY w' B 26 1 (dz g n cap) n (rv .u64 (gA (Sort.heapSort Sort.ltInt f c b)))/\Below B w w':=by
 subst i j; exact anq _ _ _ _ _ _ _ _ h k m o ha l
theorem anE(c b:Nat)(i:a=(c:Int))(j:d=(b:Int))(B g n cap:Nat)(f:Array Int)(w:World)(h:aY w B 26 1 (dz g n cap) n (rv .u64 (gA f)))(k:B<=w.heap.size)(m:f.size=n)(o:n<=1000)(ha:c<b)(l:b<=n) :
 Calls prog 139 #[dz g n cap,av a,av d] w fun e w'=>e = .returned (.tuple #[])/\aY w' B 26 1 (dz g n cap) n (rv .u64 (gA (Sort.reverseRange f c b)))/\Below B w w':=by
 subst i j; exact asx _ _ _ _ _ _ _ _ h k m o ha l
def akU(m:Nat):Prop := ∀(i j k:Int) (a b l:Nat) (B g n f:Nat) (d:Array Int) (w:World) (h:aY w B 26 1 (dz g n f) n (rv .u64 (gA d))) (hB:B<=w.heap.size) (hn:d.size=n) (hs:n<=1000) (h50:n<50) (hl:l<=1000) (hab:a<=b) (hb:b<=n) (hBel:Sort.Below Sort.ltInt a b d),i=(a:Int)->j=(b:Int)->k=(l:Int)->b-a<m ->
    Calls prog 126 #[dz g n f,av i,av j,av k] w fun e w' => ∃ c:Array Int,e = .returned (.tuple #[])/\c.size=n/\Sort.PermIn a b d c/\Sort.SortedIn Sort.ltInt a b c/\aY w' B 26 1 (dz g n f) n (rv .u64 (gA c))/\Below B w w'
theorem anF(m:Nat)(ih:akU m)(a b lim:Nat)(B g n cap:Nat)(d:Array Int)(w:World)(h:aY w B 26 1 (dz g n cap) n (rv .u64 (gA d)))(r:B<=w.heap.size)(hn:d.size=n)(x:n<=1000)(V:n<50)(hl:lim<=1000)(hab:a<=b)(hb:b<=n)(hBel:Sort.Below Sort.ltInt a b d)(hm:b-a<m+1) :
 Calls prog 126 #[dz g n cap,av (a:Int),av (b:Int),av (lim:Int)] w fun e w' => ∃ d2:Array Int,e = .returned (.tuple #[])/\d2.size=n/\Sort.PermIn a b d d2/\Sort.SortedIn Sort.ltInt a b d2/\aY w' B 26 1 (dz g n cap) n (rv .u64 (gA d2))/\Below B w w':=by
 refine bX func126 134 ?_;refine ay<|au aH<|aC<|ay<|au aH<|aC<|Wb<|Ic (fun kk f A => ∃ c:Nat,∃ i:Nat,∃ N:Nat,∃ v:Array Int,∃ O:Bool,∃ wp:Bool,v.size=n/\Sort.Below Sort.ltInt c i v/\(∀ R,Sort.PermIn c i v R->Sort.SortedIn Sort.ltInt c i R->Sort.PermIn a b d R/\Sort.SortedIn Sort.ltInt a b R)/\(c<=i/\i<=n/\N<=1000/\i-c<=b-a)/\kk=i-c/\f 0=dz g n cap/\f 1=av (c:Int)/\f 2=av (i:Int)/\f 3=av (N:Int)/\f 8 = .bool O/\f 9 = .bool wp/\aY A B 26 1 (dz g n cap) n (rv .u64 (gA v))/\Below B w A) (b-a) ⟨a,b,lim,d,true,true,hn,hBel,(fun R U J=>⟨U,J⟩),(by omega),rfl,(by rfl),ic,ic,ic,(by rfl),(by rfl),h,(Below.refl B w)⟩ ?_;rintro kk f1 w1 ⟨c,i,N,v,O,wp,hk,hBl,K,aHf,hkk,U,J,h3,h4,h5,h6,m1,S⟩;refine Wb<|ay<|bA h3<|bA J<|Lv (av ((i:Int)-(c:Int))) jK<|au (av ((i:Int)-(c:Int)))<|aC<|aQ<|ay<|au (av ((i:Int)-(c:Int))) ?_;by_cases c23:((i:Int)-(c:Int))<=12
 ·refine Lv aH (xq c23)<|aC<|aP<|ay<|bA U<|bA J<|bA h3<|dO (anD c i (by omega) (by omega) _ _ _ _ _ _ m1 (m_ r S.size) hk x (by omega) (by omega)) (ax := #[dz g n cap,av (c:Int),av (i:Int)]) _ rfl ?_;rintro w2 ⟨m2,hb1⟩;have b2:=S.trans hb1;refine aC (Wr (sR (bO (oG (bO (⟨.tuple #[],jQ Tryz.results126,?_⟩))))));have Y:=(Sort.insertionSort_holds Sort.swo_ltInt v c i (by omega) (by omega));have M:=K _ Y.1 Y.2;exact⟨_,rfl,Y.1.1.trans hk,M.1,M.2,m2,b2⟩
 refine Lv aD (yg c23)<|aC<|aL<|Wk<|sN<|aQ<|ay<|bA h4 ?_;by_cases c29:(N:Int)=0
 ·refine Lv aH (gU c29)<|aC<|aP<|ay<|bA U<|bA J<|bA h3<|dO (ahV c i (by omega) (by omega) _ _ _ _ _ _ m1 (m_ r S.size) hk x (by omega) (by omega)) (ax := #[dz g n cap,av (c:Int),av (i:Int)]) _ rfl ?_;rintro w3 ⟨m3,hb2⟩;have b3:=S.trans hb2;refine aC (Wr (sR (bO (oG (bO (⟨.tuple #[],jQ Tryz.results126,?_⟩))))));have Y:=(Sort.heapSort_holds Sort.swo_ltInt v c i (by omega) (by omega));have M:=K _ Y.1 Y.2;exact⟨_,rfl,Y.1.1.trans hk,M.1,M.2,m3,b3⟩
 refine Lv aD (gX c29)<|aC<|aL<|Wk<|sN<|yh (fun f A => ∃ p:Nat,∃ I:Array Int,I.size=n/\Sort.PermIn c i v I/\p<=1000/\f 0=dz g n cap/\f 1=av (c:Int)/\f 2=av (i:Int)/\f 3=av (p:Int)/\f 8 = .bool O/\f 9 = .bool wp/\f 10=av ((i:Int)-(c:Int))/\aY A B 26 1 (dz g n cap) n (rv .u64 (gA I))/\Below B w A) ?_ ?_
 ·refine ay ?_;by_cases c34:O=true
  ·refine bA (h5.trans (K_ Value.bool c34))<|au aD<|aC<|aL<|Wk<|nL ⟨N,v,hk,(Sort.permIn_refl _ _ _),(by omega),U,(J.trans ic),(h3.trans ic),(h4.trans ic),h5,h6,ic,m1,S⟩
  rw[R_]at c34;refine bA (h5.trans (K_ Value.bool c34))<|au aH<|aC<|aP<|ay<|bA U<|bA J<|bA h3<|lX (asA c i _ _ _ _ _ _ m1 (m_ r S.size) hk x (by omega) (by omega) V) ?_;rintro D w4 ⟨dn1,l,hz1,hP1,m4,hb3⟩;have b4:=S.trans hb3;refine⟨_,l,?_⟩;clear l;refine aC<|Wl<|bA h4<|Lv (av ((N:Int)-1)) jK<|au (av ((N:Int)-1))<|Ln<|nL ⟨N-1,dn1,hz1,hP1,(by omega),U,(J.trans ic),(h3.trans ic),ic,h5,h6,ic,m4,b4⟩
 rintro f2 w5 ⟨p,I,hk1,hP1,hl2,h7,h8,h9,h10,h11,h12,IV,m5,b5⟩;refine ay<|bA h7<|bA h8<|bA h9<|lX (asC c i _ _ _ _ _ _ m5 (m_ r b5.size) hk1 x (by omega) (by omega) V) ?_;rintro D w6 ⟨H,ht1,l,hu1,G,m6,hb4⟩;have b6:=b5.trans hb4;refine⟨_,l,?_⟩;clear l;refine au (.tuple #[av (H:Int),av ht1])<|au (av H)<|au (av ht1)<|au (av H)<|au (av ht1)<|aC<|yh (fun f A => ∃ q:Nat,∃ hint:Int,∃ o:Array Int,o.size=n/\Sort.PermIn c i v o/\(c<=q/\q<i)/\f 0=dz g n cap/\f 1=av (c:Int)/\f 2=av (i:Int)/\f 3=av (p:Int)/\f 8 = .bool O/\f 9 = .bool wp/\f 10=av ((i:Int)-(c:Int))/\f 11=av (q:Int)/\f 12=av hint/\aY A B 26 1 (dz g n cap) n (rv .u64 (gA o))/\Below B w A) ?_ ?_
 ·refine ay<|au (av ht1) ?_;by_cases c50:ht1=2
  ·refine Lv aH (gU c50)<|aC<|aP<|ay<|bA h7<|bA h8<|bA h9<|dO (anE c i (by omega) (by omega) _ _ _ _ _ _ m6 (m_ r b6.size) hk1 x (by omega) (by omega)) (ax := #[dz g n cap,av (c:Int),av (i:Int)]) _ rfl ?_;rintro w7 ⟨m7,hb5⟩;have b7:=b6.trans hb5;refine aC<|ay<|bA h9<|Lv (av ((i:Int)-1)) jK<|au (av H)<|bA h8<|Lv (av ((H:Int)-(c:Int))) jK<|Lv (av ((c:Int)+(i:Int)-(H:Int)-1)) jK<|au (av ((c:Int)+(i:Int)-(H:Int)-1))<|aC<|Wl<|au (av 1)<|Ln<|nL ⟨c+i-H-1,1,Sort.reverseRange I c i,((Sort.reverseRange_holds _ _ _ (by omega) (by omega)).1.trans hk1),(Sort.permIn_trans _ _ _ _ _ hP1 (Sort.reverseRange_holds _ _ _ (by omega) (by omega))),(by omega),h7,(h8.trans ic),(h9.trans ic),(h10.trans ic),h11,h12,(IV.trans ic),ic,ic,m7,b7⟩
  refine Lv aD (gX c50)<|aC<|aL<|Wk<|nL ⟨H,ht1,I,hk1,hP1,(by omega),h7,(h8.trans ic),(h9.trans ic),(h10.trans ic),h11,h12,(IV.trans ic),ic,ic,m6,b6⟩
 rintro f3 w8 ⟨q,hint,o,hk2,F,L,TU,Zu,h16,Xd,h18,h19,h20,h21,h22,m8,b8⟩;obtain⟨hpv1,hpv2⟩:=L;have L:=And.intro hpv1 hpv2;refine yh (fun f A=>f 0=dz g n cap/\f 1=av (c:Int)/\f 2=av (i:Int)/\f 3=av (p:Int)/\f 8 = .bool O/\f 9 = .bool wp/\f 10=av ((i:Int)-(c:Int))/\f 11=av (q:Int)/\aY A B 26 1 (dz g n cap) n (rv .u64 (gA o))/\Below B w A) ?_ ?_
 ·refine ay ?_;by_cases c61:O=true
  ·refine bA (h18.trans (K_ Value.bool c61))<|au aH ?_;by_cases c63:wp=true
   ·refine bA (h19.trans (K_ Value.bool c63))<|au aH<|au aH<|bA h22 ?_;by_cases c67:hint=1
    ·refine Lv aH (gU c67)<|au aH<|aC<|aP<|ay<|bA TU<|bA Zu<|bA h16<|lX (anx c i _ _ _ _ _ _ m8 (m_ r b8.size) hk2 x (by omega) (by omega) V) ?_;rintro D w9 ⟨r1,l,hS1,m9,hb6⟩;have b9:=b8.trans hb6
     rcases r1 with _|_
     ·refine⟨_,l,?_⟩;clear l;refine aC<|aL<|Wk<|nL ⟨TU,(Zu.trans ic),(h16.trans ic),(Xd.trans ic),h18,h19,(h20.trans ic),(h21.trans ic),m9,b9⟩
     refine⟨_,l,?_⟩;clear l;refine aC (aP (Wr (jnR (bO (oG (bO (⟨.tuple #[],jQ Tryz.results126,?_⟩)))))));have M:=K _ F (hS1 rfl);exact⟨_,rfl,hk2,M.1,M.2,m9,b9⟩
    refine Lv aD (gX c67)<|au aD<|aC<|aL<|Wk<|nL ⟨TU,(Zu.trans ic),(h16.trans ic),(Xd.trans ic),h18,h19,(h20.trans ic),(h21.trans ic),m8,b8⟩
   rw[R_]at c63;refine bA (h19.trans (K_ Value.bool c63))<|au aD<|au aD<|bf<|bf<|au aD<|aC<|aL<|Wk<|nL ⟨TU,(Zu.trans ic),(h16.trans ic),(Xd.trans ic),h18,h19,(h20.trans ic),(h21.trans ic),m8,b8⟩
  rw[R_]at c61;refine bA (h18.trans (K_ Value.bool c61))<|au aD<|bf<|au aD<|au aD<|bf<|bf<|au aD<|aC<|aL<|Wk<|nL ⟨TU,(Zu.trans ic),(h16.trans ic),(Xd.trans ic),h18,h19,(h20.trans ic),(h21.trans ic),m8,b8⟩
 rintro f4 uE ⟨s,y,C,E,h27,h28,h29,h30,m10,b10⟩;refine aQ<|aQ<|rA<|iL y ?_;by_cases c74:0<(c:Int)
 ·refine Qv aH (fun v1 G=>lK c74)<|bI aH<|iL s<|iL y<|Qv (av ((c:Int)-1)) (fun v1 G=>jK)<|Qv (pf g (c-1)) (fun v1 G=>fC 1)<|Qv (aG ((gA o) (c-1))) (fun v1 G=>aR (m10.cb G) (c-1))<|iL s<|iL h30<|Qv (pf g q) (fun v1 G=>fC 1)<|Qv (aG ((gA o) q)) (fun v1 G=>aR (m10.cb G) q) ?_;by_cases c85:(decide ((gA o) (c-1)<(gA o) q))=true
  ·refine BA (fun _ _=>jW ((gA o) (c-1)) ((gA o) q) _) aH (by rw[c85])<|bI aD<|bI aD<|Qn ?_;intro OC xG;have m11:=bL xG m10;have b11:=iR xG b10 r;refine sN<|aL<|Wk<|sN<|ay<|bA s<|bA y<|bA C<|bA h30<|lX (asD c i q _ _ _ _ _ _ m11 (m_ r b11.size) hk2 x) ?_;rintro D Bg ⟨j,P,dn2,l,hu2,hv2,hz2,kY,M8⟩;have b12:=b11.trans M8;have hx:Sort.partition Sort.ltInt o c i q=(j,(Sort.partition Sort.ltInt o c i q).2.1,dn2):=Prod.ext hu2 (Prod.ext rfl hv2);obtain⟨r1,r2,r3,r4,r5,r6,r7⟩:=Sort.round_part Sort.swo_ltInt (Sort.partition_holds _) L.1 L.2 (by omega) (hBl.perm (by omega) F) hx;clear hx;refine⟨_,l,?_⟩;clear l;refine au (.tuple #[av (j:Int),.bool P])<|au (av j)<|au (.bool P)<|au (av j)<|au (.bool P)<|aC<|ay<|au (.bool P)<|au (.bool P)<|aC<|ay<|au (av j)<|bA y<|Lv (av ((j:Int)-(c:Int))) jK<|bA C<|au (av j)<|Lv (av ((i:Int)-(j:Int))) jK<|au (av ((j:Int)-(c:Int)))<|au (av ((i:Int)-(j:Int)))<|aC<|ay<|bA h29<|Lv (av ((i-c) / 8:Nat)) (Ht rfl rfl rfl (by omega) (jN (by omega) (by rw[Int.tdiv_eq_ediv_of_nonneg (by omega)]; omega)))<|au (av ((i-c) / 8:Nat))<|aC<|ay<|au (av ((j:Int)-(c:Int)))<|au (av ((i:Int)-(j:Int))) ?_;by_cases adb:((j:Int)-(c:Int))<((i:Int)-(j:Int))
   ·refine Lv aH (fK adb)<|aC<|aP<|ay<|au (av ((j:Int)-(c:Int)))<|au (av ((i-c) / 8:Nat))<|Lv (.bool (decide (((i-c) / 8:Nat)<=((j:Int)-(c:Int))))) (JU rfl rfl rfl)<|au (.bool (decide (((i-c) / 8:Nat)<=((j:Int)-(c:Int)))))<|aC<|ay<|bA s<|bA y<|au (av j)<|bA E<|lX (ih _ _ _ c j p B g n cap dn2 _ kY (m_ r b12.size) hz2 x V (by omega) (by omega) (by omega) r4 (by omega) (by omega) (by omega) (by omega)) (ax := #[dz g n cap,av (c:Int),av (j:Int),av (p:Int)]) ?_;rintro D BD ⟨T,l,Z,W,X,m13,YQ⟩;refine⟨_,l,?_⟩;clear l;have b13:=b12.trans YQ;obtain⟨q1,z⟩:=r6 _ W X;refine aC (Wl (au (av j) (Lv (av ((j:Int)+1)) gu (au (av ((j:Int)+1)) (Ln (bS (iA ⟨i-(j+1),(by omega),j+1,i,p,T,(decide (((i-c) / 8:Nat)<=((j:Int)-(c:Int)))),(P),Z,q1,(fun R t u=>K R (Sort.permIn_trans _ _ _ _ _ F (z R t u).1) (z R t u).2),(by omega),rfl,s,ic,(C.trans ic),(E.trans ic),(by rfl),(by rfl),m13,b13⟩ (by decide))))))))
   refine Lv aD (fM adb)<|aC<|aL<|ay<|au (av ((i:Int)-(j:Int)))<|au (av ((i-c) / 8:Nat))<|Lv (.bool (decide (((i-c) / 8:Nat)<=((i:Int)-(j:Int))))) (JU rfl rfl rfl)<|au (.bool (decide (((i-c) / 8:Nat)<=((i:Int)-(j:Int)))))<|aC<|ay<|bA s<|au (av j)<|Lv (av ((j:Int)+1)) gu<|bA C<|bA E<|lX (ih _ _ _ (j+1) i p B g n cap dn2 _ kY (m_ r b12.size) hz2 x V (by omega) (by omega) (by omega) r5 (by omega) (by omega) (by omega) (by omega)) (ax := #[dz g n cap,av ((j:Int)+1),av (i:Int),av (p:Int)]) ?_;rintro D Bh ⟨T,l,Z,W,X,m14,Zh⟩;refine⟨_,l,?_⟩;clear l;have b14:=b12.trans Zh;obtain⟨q1,z⟩:=r7 _ W X;refine aC (Wl (au (av j) (au (av j) (Ln (bS (iA ⟨j-c,(by omega),c,j,p,T,(decide (((i-c) / 8:Nat)<=((i:Int)-(j:Int)))),(P),Z,q1,(fun R t u=>K R (Sort.permIn_trans _ _ _ _ _ F (z R t u).1) (z R t u).2),(by omega),rfl,s,(y.trans ic),ic,(E.trans ic),(by rfl),(by rfl),m14,b14⟩ (by decide)))))))
  rw[R_]at c85;refine BA (fun _ _=>jW ((gA o) (c-1)) ((gA o) q) _) aD (by rw[c85])<|bI aH<|bI aH<|Qn ?_;intro wb2 FC;have m15:=bL FC m10;have b15:=iR FC b10 r;refine sN<|aP<|ay<|bA s<|bA y<|bA C<|bA h30<|lX (aA9 c i q _ _ _ _ _ _ m15 (m_ r b15.size) hk2 x (by omega) (by omega) (by omega)) ?_;rintro D EU ⟨ade,dn3,l,hx1,hz3,m16,RN⟩;have b16:=b15.trans RN;obtain⟨r1,r2,r3,r4,r5⟩:=Sort.round_eq Sort.swo_ltInt (Sort.partitionEqual_holds _) (by omega) L.1 L.2 (by omega) (hBl.perm (by omega) F) (FQ (j_ c85)) hx1;refine⟨_,l,?_⟩;clear l;refine au (av ade) (aC (ay (au (av ade) (au (av ade) (aC (Wx (cZ (dB (iA ⟨i-ade,(by omega),ade,i,p,dn3,(O),(wp),hz3,r4,(fun R t u=>K R (Sort.permIn_trans _ _ _ _ _ F (r5 R t u).1) (r5 R t u).2),(by omega),rfl,s,ic,(C.trans ic),(E.trans ic),h27,h28,m16,b16⟩ (by decide))))))))))
 refine Qv aD (fun v1 G=>lM c74)<|bI aD<|bD<|bD<|bD<|bD<|bD<|bD<|bD<|bD<|bD<|bD<|bD<|bI aD<|Qn ?_;intro wb3 FD;have m17:=bL FD m10;have b17:=iR FD b10 r;refine sN<|aL<|Wk<|sN<|ay<|bA s<|bA y<|bA C<|bA h30<|lX (asD c i q _ _ _ _ _ _ m17 (m_ r b17.size) hk2 x) ?_;rintro D CW ⟨k,Q,dn4,l,hu3,hv3,hz4,m18,Zv⟩;have b18:=b17.trans Zv;have hx:Sort.partition Sort.ltInt o c i q=(k,(Sort.partition Sort.ltInt o c i q).2.1,dn4):=Prod.ext hu3 (Prod.ext rfl hv3);obtain⟨r1,r2,r3,r4,r5,r6,r7⟩:=Sort.round_part Sort.swo_ltInt (Sort.partition_holds _) L.1 L.2 (by omega) (hBl.perm (by omega) F) hx;clear hx;refine⟨_,l,?_⟩;clear l;refine au (.tuple #[av (k:Int),.bool Q])<|au (av k)<|au (.bool Q)<|au (av k)<|au (.bool Q)<|aC<|ay<|au (.bool Q)<|au (.bool Q)<|aC<|ay<|au (av k)<|bA y<|Lv (av ((k:Int)-(c:Int))) jK<|bA C<|au (av k)<|Lv (av ((i:Int)-(k:Int))) jK<|au (av ((k:Int)-(c:Int)))<|au (av ((i:Int)-(k:Int)))<|aC<|ay<|bA h29<|Lv (av ((i-c) / 8:Nat)) (Ht rfl rfl rfl (by omega) (jN (by omega) (by rw[Int.tdiv_eq_ediv_of_nonneg (by omega)]; omega)))<|au (av ((i-c) / 8:Nat))<|aC<|ay<|au (av ((k:Int)-(c:Int)))<|au (av ((i:Int)-(k:Int))) ?_;by_cases adb:((k:Int)-(c:Int))<((i:Int)-(k:Int))
 ·refine Lv aH (fK adb)<|aC<|aP<|ay<|au (av ((k:Int)-(c:Int)))<|au (av ((i-c) / 8:Nat))<|Lv (.bool (decide (((i-c) / 8:Nat)<=((k:Int)-(c:Int))))) (JU rfl rfl rfl)<|au (.bool (decide (((i-c) / 8:Nat)<=((k:Int)-(c:Int)))))<|aC<|ay<|bA s<|bA y<|au (av k)<|bA E<|lX (ih _ _ _ c k p B g n cap dn4 _ m18 (m_ r b18.size) hz4 x V (by omega) (by omega) (by omega) r4 (by omega) (by omega) (by omega) (by omega)) (ax := #[dz g n cap,av (c:Int),av (k:Int),av (p:Int)]) ?_;rintro D w16 ⟨T,l,Z,W,X,m19,Zw⟩;refine⟨_,l,?_⟩;clear l;have b19:=b18.trans Zw;obtain⟨q1,z⟩:=r6 _ W X;refine aC (Wl (au (av k) (Lv (av ((k:Int)+1)) gu (au (av ((k:Int)+1)) (Ln (bS (iA ⟨i-(k+1),(by omega),k+1,i,p,T,(decide (((i-c) / 8:Nat)<=((k:Int)-(c:Int)))),(Q),Z,q1,(fun R t u=>K R (Sort.permIn_trans _ _ _ _ _ F (z R t u).1) (z R t u).2),(by omega),rfl,s,ic,(C.trans ic),(E.trans ic),(by rfl),(by rfl),m19,b19⟩ (by decide))))))))
 refine Lv aD (fM adb)<|aC<|aL<|ay<|au (av ((i:Int)-(k:Int)))<|au (av ((i-c) / 8:Nat))<|Lv (.bool (decide (((i-c) / 8:Nat)<=((i:Int)-(k:Int))))) (JU rfl rfl rfl)<|au (.bool (decide (((i-c) / 8:Nat)<=((i:Int)-(k:Int)))))<|aC<|ay<|bA s<|au (av k)<|Lv (av ((k:Int)+1)) gu<|bA C<|bA E<|lX (ih _ _ _ (k+1) i p B g n cap dn4 _ m18 (m_ r b18.size) hz4 x V (by omega) (by omega) (by omega) r5 (by omega) (by omega) (by omega) (by omega)) (ax := #[dz g n cap,av ((k:Int)+1),av (i:Int),av (p:Int)]) ?_;rintro D Fg ⟨T,l,Z,W,X,m20,Zx⟩;refine⟨_,l,?_⟩;clear l;have b20:=b18.trans Zx;obtain⟨q1,z⟩:=r7 _ W X;refine aC (Wl (au (av k) (au (av k) (Ln (bS (iA ⟨k-c,(by omega),c,k,p,T,(decide (((i-c) / 8:Nat)<=((i:Int)-(k:Int)))),(Q),Z,q1,(fun R t u=>K R (Sort.permIn_trans _ _ _ _ _ F (z R t u).1) (z R t u).2),(by omega),rfl,s,(y.trans ic),ic,(E.trans ic),(by rfl),(by rfl),m20,b20⟩ (by decide)))))))
end
section
open Rt
theorem akV : ∀ m,akU m
 | 0=>by
   intro v _ y a b u B g n c d w h k s t j q o p l e f i r;omega
 | m+1=>by
   intro v _ y a b u B g n c d w h k s t j q o p l e f i r;subst e f i;exact anF _ (akV m) _ _ _ _ _ _ _ _ _ h k s t j q o p l r
theorem ahX(B g n cap:Nat)(d:Array Int)(w:World)(h:aY w B 26 1 (dz g n cap) n (rv .u64 (gA d)))(j:B<=w.heap.size)(o:d.size=n)(p:n<=1000)(i:n<50) :
 Calls prog 98 #[dz g n cap] w fun e w' => ∃ a:Array Int,e = .returned (.tuple #[])/\a.size=n/\Sort.PermIn 0 n d a/\Sort.SortedIn Sort.ltInt 0 n a/\aY w' B 26 1 (dz g n cap) n (rv .u64 (gA a))/\Below B w w':=by
 have t:=Xp (show n<64 by omega);refine bX func98 11 ?_;refine ay<|au (dz g n cap)<|au (av n)<|au (av n)<|aC<|Wl<|au (dz g n cap)<|au (av n)<|au (av n)<|Lv (aG n) (dQ rfl rfl (by kernel_rfl) underlying154 (jO (by omega) rfl))<|mX (acX n _) _ rfl<|lX (akV (n+1) _ _ _ 0 n (Sort.bitsLen n) B g n cap d _ h (m_ j (Below.refl B w).size) o p i (by omega) (by omega) (by omega) (.inl rfl) rfl rfl rfl (by omega)) (ax := #[dz g n cap,av 0,av (n:Int),av (Sort.bitsLen n:Int)]) ?_;rintro s u ⟨f,b,q,k,l,r,m⟩;refine⟨_,b,?_⟩;clear b;have c:=(Below.refl B w).trans m;refine Ln (⟨.tuple #[],jQ Tryz.results98,?_⟩);exact⟨f,rfl,q,k,l,r,c⟩
theorem anG(w:World) :
 Calls prog 135 #[.slice none 0 0,av 0,av 0] w fun e w'=>e = .returned (.tuple #[])/\Below w.heap.size w w':=by
 refine bX func135 49 ?_;refine ay<|au (av 0)<|Lv (av 1) gu<|au (av 1)<|aC<|Wb<|Wo (fun f d=>f 1=av 0/\f 2=av 0/\f 6=av 1/\Below w.heap.size w d) (fun f _=>0) ⟨ic,ic,ic,(Below.refl w.heap.size w)⟩ ?_;rintro g i ⟨h,b,c,a⟩;refine aQ (ay (bA c (bA b (Lv aD DV (aC (aL (Wx (cZ (iC (dB (⟨.tuple #[],jQ Tryz.results135,?_⟩)))))))))));exact⟨rfl,a⟩
theorem anH(w:World) :
 Calls prog 126 #[.slice none 0 0,av 0,av 0,av 0] w fun e w'=>e = .returned (.tuple #[])/\Below w.heap.size w w':=by
 refine bX func126 134 ?_;refine ay<|au aH<|aC<|ay<|au aH<|aC<|Wb<|Wo (fun f i=>f 0 = .slice none 0 0/\f 1=av 0/\f 2=av 0/\Below w.heap.size w i) (fun f _=>0) ⟨(by rfl),ic,ic,(Below.refl w.heap.size w)⟩ ?_;rintro j k ⟨g,a,b,c⟩;refine Wb<|ay<|bA b<|bA a<|Lv (av 0) jK<|au (av 0)<|aC<|aQ<|ay<|au (av 0)<|Lv aH aqW<|aC<|aP<|ay<|bA g<|bA a<|bA b<|dO (anG _) _ rfl ?_;intro l h;have d:=bL h c;refine aC (Wr (sR (bO (oG (bO (⟨.tuple #[],jQ Tryz.results126,?_⟩))))));exact⟨rfl,d⟩
theorem anI(w:World):Calls prog 71 #[aG 0] w fun e w'=>e = .returned (av 0)/\w'=w:=acX 0 w
theorem ahY(w:World) :
 Calls prog 98 #[.slice none 0 0] w fun e w'=>e = .returned (.tuple #[])/\Below w.heap.size w w':=by
 refine bX func98 11 ?_;refine ay<|au (.slice none 0 0)<|au (av 0)<|au (av 0)<|aC<|Wl<|au (.slice none 0 0)<|au (av 0)<|au (av 0)<|Lv (aG 0) (dQ rfl rfl (by kernel_rfl) underlying154 (jO (by omega) rfl))<|mX (anI _) _ rfl<|dO (anH _) _ rfl ?_;intro c b;have a:=bL b (Below.refl w.heap.size w);refine Ln (⟨.tuple #[],jQ Tryz.results98,?_⟩);exact⟨rfl,a⟩
theorem anJ{d:Array Int}(a:aY c k 26 1 (.slice h m b) m (rv .u64 (gA d)))(f:k<=c.heap.size)(B:d.size=m)(p:m<50) :
 Calls prog 98 #[.slice h m b] c fun e w' => ∃ cap:Array Int,e = .returned (.tuple #[])/\cap.size=m/\Sort.PermIn 0 m d cap/\Sort.SortedIn Sort.ltInt 0 m cap/\aY w' k 26 1 (.slice h m b) m (rv .u64 (gA cap))/\Below k c w':=by
 rcases a.2 with ⟨w,l⟩|⟨g,c2,cur,w,_⟩
 ·subst l
  cases w
  exact(ahY c).mono fun e w' ⟨n,o⟩=>⟨d,n,B,Sort.permIn_refl _ _ _,fun i j _ q r=>by omega,wm _ _ _ _ _,o.mono f⟩
 simp only[Value.slice.injEq]at w;obtain⟨rfl,_,rfl⟩:=w;exact ahX _ _ _ _ _ _ a f B (by omega) p
end
end Go.Proofs.YtabjalhnkndjaaaGreatDoor
namespace Go.Proofs.YtabjalhnkndjaaaGreatDoor
open Go.Proofs.Tryz
open Fx hiding E9 Fa HY Jf Jk L R start
open Go.RowKit Go
namespace Rt
def dT(x:Nat->Int)(τ:Nat->Nat)(m:Nat):Array Int:=((List.range m).map fun q=>x (τ q)).toArray
section
variable {n m kk:Nat} {x:Nat->Int} {Q:Int->Prop} {S:Nat->Bool} {τ:Nat->Nat}
theorem Xr:(dT x τ m).size=m:=by unfold dT; simp
theorem anK(a:k<m):gA (dT x τ m) k=x (τ k):=by
 grind [gA,dT]
theorem asF : ∀ j,j<m*1->Value.int .u64 (x (τ j))=rv .u64 (gA (dT x τ m)) j:=fun j a=>by
 show _=Value.int .u64 (gA (dT x τ m) j);rw[anK (by omega)]
theorem anL : ∀ j,j<A.size*1->rv .u64 (gA A) j=BH A.toList j:=fun j a=>by
 show Value.int .u64 A[j]! = Value.int .u64 (A.toList.getD j 0);rw[getElem!_pos A j (by omega),r_,o_ (by simpa using (show j<A.size by omega))];simp
theorem Zy(h:zy n (fun i=>Q (x i)) S m τ kk)(u : ∀ i,i<n->S i=true)(w : ∀ a b,a<n->b<n->x a=x b->a=b)
 (p:Sort.PermIn 0 m (dT x τ m) A) (s:Sort.SortedIn Sort.ltInt 0 m A) (z:A.size=m):A.toList.Pairwise (· < ·) /\ ∀ k,k∈A.toList<->(fV x n k=true/\Q k):=by
 have r:A.toList.Perm ((List.range m).map fun q=>x (τ q)):=by
  have e:=p.2.2;have f:A.extract 0 m=A:=by simp_all
  have g : ∀ d:Array Int,d.size=m->d.extract 0 m=d:=fun d v=>by simp_all
  rw[f,g _ Xr]at e;exact e
 have y:A.toList.Nodup:=by
  grind [List.pairwise_iff_getElem,h.inj,h.lt]
 refine⟨?_,fun k => ?_⟩
 ·rw[List.pairwise_iff_getElem];intro i j hi o l;simp only[Array.length_toList]at hi o;have t:=j_ (s i j (J_ _) l (by omega))
  grind [List.pairwise_iff_getElem]
 rw[r.mem_iff];simp only[List.mem_map,N_]
 grind [ni,h.lt,h.yes,ji,h.mem]
theorem ahZ{z:Nat->Value} : ∀ j,j<(m+1)*1->gP (fun q=>aG (x (τ q))) (m*1) (bJ z (0*1) 1 (fun _=>aG (x k))) j=aG (x (aZ τ m k j)):=fun j a=>by
 unfold gP bJ aZ;by_cases e:j=m
 ·subst e; rw[b_,d_,d_ rfl]
 ·rw[d_,b_ e]
end
end Rt
open Rt
theorem anM{τ:Nat->Nat}(a:aY c k 26 1 (.slice h m b) m (fun q=>aG (X (τ q))))(n:k<=c.heap.size)(p:m<=32) :
 Calls prog 98 #[.slice h m b] c fun e w'=>e = .returned (.tuple #[]) /\ ∃ cap:Array Int,cap.size=m/\Sort.PermIn 0 m (dT X τ m) cap/\Sort.SortedIn Sort.ltInt 0 m cap/\aY w' k 26 1 (.slice h m b) m (BH cap.toList)/\Below k c w' :=
 (anJ (d:=dT X τ m) (a.congr asF) n Xr (by omega)).mono fun e w' ⟨cap,w,f,g,i,B,l⟩=>⟨w,cap,f,g,i,B.congr fun j o=>anL j (by omega),l⟩
end Go.Proofs.YtabjalhnkndjaaaGreatDoor
namespace Go.Proofs.YtabjalhnkndjaaaGreatDoor.Fx
open Go.RowKit
section
variable {P:Program} {n0:Nat} {Q:kR} {f:Nat->Value} {w:World} {ops:Array Oper} {rest:List Oper} {o:Oper}
theorem aBf{hi:Operand}{s:Nat}{c:IntKind}{y:Nat->Value}(x:o.op = .slice T p none (some hi) none)(hx:ev f p = .slice h m k)(l:ev f hi = .int c (j:Int))(e:P.underlying T=some (.slice E))(r:(P.info? E).map (·.size)=some s)(t:j<=m)(q:aY w b E s (.slice h m k) m y) :
 cB P f o w (.slice h j k):=by
 obtain⟨i,d,_⟩:=Option.map_eq_some_iff.1 r;unfold cB execOp;simp only[x,hx,l,Option.map_some,Option.map_none];have a:(0:Int)<=(j:Int):=by omega
 rcases q.2 with ⟨B,rfl⟩|⟨g,cap,cur,B,_,_,hn,_⟩
 ·simp only[Value.slice.injEq]at B;obtain⟨rfl,_,rfl⟩:=B;obtain rfl:j=0:=by omega
  simp[Instr.sliceAt,Instr.slice,underlying,e,Instr.sliceBounds,Instr.sliceBound,asIntOf,sizeOf,typeInfo,d]
 simp only[Value.slice.injEq]at B;obtain⟨rfl,_,rfl⟩:=B;have n:j<=k:=by omega
 simp[Instr.sliceAt,Instr.slice,underlying,e,Instr.sliceBounds,Instr.sliceBound,asIntOf,n,a,sizeOf,typeInfo,d,Addr.add]
theorem aY.akW(a:aY w b E k (.slice h m D) m x)(e:j<=m):iB w h j k x:=fun s=>by
 obtain⟨g,i,y,l,n,o,d⟩:=a.form;simp only[Value.slice.injEq]at y;refine⟨g,0,y.1,fun p f=>d p ?_⟩;exact n_ f (Nat.mul_le_mul_right k e)
theorem aY.Mr{v:Value}(h:aY w m E j v b x)(B:k<=m):aY w k E j v b x:=by
 refine⟨h.1,?_⟩
 rcases h.2 with hn|⟨g,cap,cur,hv,hb,rest⟩
 ·exact .inl hn
 exact .inr ⟨g,cap,cur,hv,m_ B hb,rest⟩
end
end Go.Proofs.YtabjalhnkndjaaaGreatDoor.Fx
namespace Go.Proofs.YtabjalhnkndjaaaGreatDoor
open Go.Proofs.Tryz
open Fx hiding E9 Fa HY Jf Jk L R start
open Go.RowKit Rt
section
open Rt
theorem adf(x p:Nat->Int)(n tp mb:Nat)(w:World)(U:aM w tp 1 (fun _ => .map (some mb)) 141)(R:Mp w mb n x (fun j=>aG (p j)))(h:Gi n x p) :
 Calls prog 68 #[(pt tp),.func (.func 69) #[] #[]] w fun e w' => ∃ a c l,e = .returned (.slice a (List.length l) c)/\aY w' w.heap.size 26 1 (.slice a l.length c) l.length (BH l)/\l.Pairwise (· < ·)/\(∀ k,k∈l<->(fV x n k=true/\True))/\l.length<=32/\Below w.heap.size w w':=by
 have hsm:=h.Xm;refine bX func68 27 ?_;refine ay<|au (.slice none 0 0)<|aC<|aQ<|ay<|au (pt tp)<|Lv aD (CU rfl rfl rfl (by kernel_rfl))<|aC<|aL<|Wk<|sN<|aQ<|ay<|au (pt tp)<|au (pt tp)<|au (pt tp)<|Lv (.map (some mb)) (aR U.aJ 0)<|Fx.L.range (by rfl) rfl rfl rfl R underlying78 fun O w1 kV Z s1 z1 => ?_;have⟨m2,m3,b1⟩:=iP s1.bP U R (Below.refl w.heap.size w);have tJ:=iy kV;have vB:=Z.lt;refine aC<|Wb ?_;have m4:aY w1 w.heap.size 26 1 (.slice none 0 0) 0 (fun q=>aG (x ((fun _=>0:Nat->Nat) q))):=wm _ _ _ _ _;refine Ic (fun kk f g => ∃ m:Nat,∃ τ:Nat->Nat,∃ S:Nat->Bool,∃ a:Option Addr,∃ d:Nat,zy n (fun i=>(fun k=>True) (x i)) S m τ kk/\f 0=(pt tp)/\f 1 = .func (.func 69) #[] #[]/\f 4 = .slice a (m) (d)/\f 12=(pt O)/\aM g tp 1 (fun _ => .map (some mb)) 141/\Mp g mb n x (fun j=>aG (p j))/\It g O mb n S/\aY g w.heap.size 26 1 (.slice a (m) (d)) m (fun q=>aG (x (τ q)))/\Below w.heap.size w g) (unseen (fun _=>false) n) ⟨0,(fun _=>0),(fun _=>false),none,0,(zy.start n _ _),(by rfl),(by rfl),(by rfl),(by rfl),m2,m3,Z,m4,b1⟩ ?_;rintro kk N w2 ⟨m,τ,S,a,d,r,P,C,D,E,m5,m6,J,m8,o⟩;have hml:=r.le;refine ay<|Fx.L.next (by rfl) rfl rfl E m6 J (fun zB => ?_)<|fun b w3 G T m9 mc1 s2 z2 => ?_
 ·skip
  refine au aD<|aC<|aQ<|aL<|Wx<|cZ<|iC<|dB<|sN<|ay<|bA D<|dO (anM m8 o.size (by omega)) _ rfl ?_;rintro w4 ⟨M,Y,hp2,hs2,aa,hb1⟩;have b3:=o.trans hb1;refine aC<|ay<|bA D<|au (.slice a (m) (d))<|aC<|Wr<|aK (.slice a (m) (d)) ?_;obtain⟨N,f2⟩:=Zy (Q:=fun k=>True) r zB h.inj hp2 hs2 Y;have X:m<=32:=by omega
  rw[show m=M.toList.length by rw[Array.length_toList]; exact Y.symm]at aa X ⊢;exact⟨a,d,M.toList,rfl,aa,N,f2,X,b3⟩
 skip
 have F:=J.Gg s2;have ab:=m5.fH F;have H:=m6.fH F (J.rb.symm);have ac:=m8.fH F;have K:=s2.below o o.size (by omega);refine au aH<|aC<|aQ<|aP<|Wk<|sN<|Wb<|ay<|Lv (.tuple #[aG (x b),aG (p b)]) (Xk (key:=x) (val:=fun j=>aG (p j)) (i:=b) rfl E H mc1 G)<|au (aG (x b))<|au (aG (x b))<|aC<|ay<|bA C<|au (aG (x b))<|zW (by rfl) (uJ (args := [aG (x b)]) rfl rfl rfl (all := #[aG (x b)]) rfl func69 rfl rfl) rfl<|(aso _ _).mono ?_;rintro e v1 ⟨V,hv1⟩;subst v1;refine⟨.bool true,by rw[V],?_⟩;clear V;refine aC<|aP<|Wl<|bA D<|au (aG (x b))<|uz (vs := [(0,aG (x b))]) (s:=1) (zc:=rv .u64 (fun _=>0)) (y:=bJ (fun j=>(rv .u64 (fun _=>0)) (j % 1)) (0*1) 1 (fun _=>aG (x b))) (by rfl) rfl rfl underlying45 (by kernel_rfl) (by rfl) (by rfl) (by kernel_rfl) (by rw[aT (off:=0*1) (s:=1) (y:=fun _=>aG (x b)) rfl (bG (by rfl)) (by rfl)]; rfl) rfl fun g2 w5 z ad s3 z3 => ?_;have⟨m15,m16,I,m19,t⟩:=oK s3.bP ab H ac m9 K;have xw:=gQ z K.size;have⟨GI,adg⟩:=oM z ab.lt H.lt;have adh:(.slice a (m) (d):Value).ownBlock≠some g2:=by rw[z]; exact ac.gW (A_ _)
 have zR:=ad.lt;refine xX (B:=w.heap.size) (s:=1) (bytes:=8) (k:=m) (m:=1) (v := .slice a (m) (d)) (x:=fun q=>aG (x (τ q))) (by rfl) rfl rfl rfl underlying45 (by kernel_rfl) (by kernel_rfl) rfl rfl I ad.aJ (fun j hj=>by unfold bJ; split <;> rfl) (by omega) (by omega) (by omega) t.size fun A u w6 ho1 W vE hlt1 => ?_
 have gT:=yc W I;have⟨mG,m22,m24⟩:=wB gT m15 m16 m19;have m20:aY w6 w.heap.size 26 1 (dz A (m+1) u) (m+1) (fun q=>aG (x (aZ τ m b q))):=(ho1.congr ahZ);have b6:Below w.heap.size w w6:=sO t W t.size (fun q hq=>(I.ge hq).1);refine au (dz A (m+1) u)<|Ln<|bS ?_
 skip
 refine iA ⟨unseen (aZ S b true) n,(by have P:=um T n G; have C:=r.kk; omega),m+1,aZ τ m b,aZ S b true,(some ⟨A,0,none⟩),u,(r.take G T trivial),P,C,(by rfl),E,mG,m22,m24,m20,b6⟩ (by decide)
theorem anN(x p:Nat->Int)(n tp mb:Nat)(w:World)(o:aM w tp 1 (fun _ => .map (some mb)) 141)(m:Mp w mb n x (fun j=>aG (p j)))(h:Gi n x p) :
 Calls prog 31 #[(pt tp)] w fun e w' => ∃ a c l,e = .returned (.slice a (List.length l) c)/\aY w' w.heap.size 26 1 (.slice a l.length c) l.length (BH l)/\l.Pairwise (· < ·)/\(∀ k,k∈l<->(fV x n k=true/\True))/\l.length<=32/\Below w.heap.size w w':=by
 refine bX func31 5 ?_;refine ay<|au (.slice none 0 0)<|aC<|ay<|au (pt tp)<|lX (adf x p n tp mb _ o m h) ?_;rintro v y ⟨b,d,f,i,u,r,s,t,q⟩;refine⟨_,i,?_⟩;clear i;have g:=bL q (Below.refl w.heap.size w);refine au (.slice b (f.length) (d))<|aC<|Wr<|aK (.slice b (f.length) (d)) ?_;exact⟨b,d,f,rfl,u.Mr (by have:=g.size; first|exact A_ _|exact(Below.refl w.heap.size w).size),r,s,t,g⟩
end
end Go.Proofs.YtabjalhnkndjaaaGreatDoor
namespace Go.Proofs.YtabjalhnkndjaaaGreatDoor
open Go.Proofs.Tryz
open Fx hiding E9 Fa HY Jf Jk L R start
open Go.RowKit Go Rt
namespace Rt
structure fD where
 n:Nat
 x:Nat->Int
 p:Nat->Int
def fD.zero:fD:=⟨0,fun _=>0,fun _=>0⟩
def fD.has(T:fD)(k:Int):Bool:=fV T.x T.n k
def fD.par(T:fD)(k:Int):Int:=kJ T.x T.p T.n k
def fD.dI(T:fD)(k:Int):List Int:=lV T.x T.p T.n 4 k
def fD.Eb(T:fD)(id pa:Int):Int:=wN T.x T.p T.n id pa
def fD.put(T:fD)(id pa:Int):fD:=⟨T.n+1,aZ T.x T.n id,aZ T.p T.n pa⟩
def fD.add(T:fD)(id pa:Int):fD:=if T.Eb id pa=0 then T.put id pa else T
abbrev fD.ok(T:fD):Prop:=Gi T.n T.x T.p
theorem fD.Pt{T:fD}(h:T.ok){pa:Int}(id:0<=a/\a<=18446744073709551615):(T.add a pa).ok:=by
 unfold fD.add;split
 ·rename_i hc; exact Gi.put h hc id
 omega
structure xM(w:World)(B tp mb:Nat)(T:fD):Prop where
 wo:aM w tp 1 (fun _ => .map (some mb)) 141
 map:Mp w mb T.n T.x (fun j => .int .u64 (T.p j))
 uU:T.ok
 gt:B<=tp
 gm:B<=mb
section
variable {w w':World} {B tp mb r:Nat} {T:fD} {id pa k:Int}
theorem xM.up(h:xM w B tp mb T)(a:Below w.heap.size w w'):xM w' B tp mb T:=⟨h.wo.cK (Sb a) (u_ h.wo.lt),h.map.up a,h.uU,h.gt,h.gm⟩
instance:Rt.Tr w w' (xM w B tp mb T) (xM w' B tp mb T):=⟨fun b h=>h.up b⟩
theorem xM.nA{a:List TypeId}(h:xM w B tp mb T)(b:jk a w w')(h1:a.contains 141=false):xM w' B tp mb T:=⟨h.wo.nA b h1,h.map.nA b trivial,h.uU,h.gt,h.gm⟩
instance {a:List TypeId}:Rt.Tc a w w' (xM w B tp mb T) (xM w' B tp mb T) (!(a.contains 141)):=⟨fun b h e=>h.nA b (by simpa using e)⟩
theorem xM.Gg(h:xM w B tp mb T)(a:eG mb w w'):Zp mb w w':=h.map.Gg a
theorem xM.fH(h:xM w B tp mb T)(a:Zp r w w')(b:mb≠r:=by omega):xM w' B tp mb T:=⟨h.wo.fH a,h.map.fH a b,h.uU,h.gt,h.gm⟩
theorem xM.Mr(h:xM w B tp mb T)(b:m<=B):xM w m tp mb T:=⟨h.wo,h.map,h.uU,m_ b h.gt,m_ b h.gm⟩
theorem xM.lt(h:xM w B tp mb T):mb<w.heap.size:=h.map.lt
end
end Rt
theorem akX(w:World):Calls prog 22 #[] w fun e w' => ∃ tp mb,e = .returned (.pointer (some ⟨tp,0,none⟩))/\w.heap.size<=mb/\xM w' w.heap.size tp mb fD.zero/\Below w.heap.size w w' :=
 (asl (fun _=>0) (fun _=>0) w).mono fun e w' ⟨tp,mb,b,c,a,d,f,g⟩=>⟨tp,mb,b,a,⟨d,f,Gi.zero _ _,c,a⟩,g⟩
theorem RO{T:fD}(id pa:Int)(h:xM c b m k T)(f:0<=id/\id<=18446744073709551615) :
 Calls prog 180 #[.pointer (some ⟨m,0,none⟩),.int .u64 id,.int .u64 pa] c fun e w'=>e = .returned (.int .i64 (T.Eb id pa))/\xM w' b m k (T.add id pa)/\eG k c w' :=
 (asn T.x T.p T.n m k id pa c h.wo h.map h.uU).mono fun e w' ⟨w,tp,x2,l,g,i,mb,j,d⟩=>by
  cases i with
  | no a h0 =>
    have a:T.Eb id pa=w:=a;subst a;refine⟨g,⟨mb,?_,fD.Pt h.uU f,h.gt,h.gm⟩,d⟩
    grind [fD.add]
  | yes a =>
    have a:T.Eb id pa=0:=a;refine⟨by simp_all,⟨mb,?_,fD.Pt h.uU f,h.gt,h.gm⟩,d⟩;unfold fD.add;rw[d_ a]; exact j
theorem akY{T:fD}(w:Int)(h:xM c b m k T) :
 Calls prog 168 #[.pointer (some ⟨m,0,none⟩),.int .u64 w] c fun e w'=>e = .returned (.bool (T.has w))/\w'=c:=KG _ _ _ _ _ w _ h.wo h.map
def OwL(w:World)(B:Nat)(a:Option Addr)(c:Nat)(l:List Int):Prop:=aY w B 26 1 (.slice a l.length c) l.length (BH l)
theorem OwL.up{w w':World}{B c:Nat}{a:Option Addr}{l:List Int}(h:OwL w B a c l)(b:Below w.heap.size w w'):OwL w' B a c l:=aY.up h b
instance {w w':World} {B c:Nat} {a:Option Addr} {l:List Int}:Rt.Tr w w' (OwL w B a c l) (OwL w' B a c l):=⟨fun b h=>h.up b⟩
theorem U3{T:fD}(tp:Int)(h:xM c b m k T) :
 Calls prog 193 #[.pointer (some ⟨m,0,none⟩),.int .u64 tp] c fun e w' => ∃ a w,e = .returned (.slice a (T.dI tp).length w)/\OwL w' c.heap.size a w (T.dI tp)/\Below c.heap.size c w' :=
 U0 _ _ _ _ _ _ _ _ h.wo h.map h.uU.inj (h.uU.I6 tp) (h.uU.len tp)
theorem adi{T:fD}(h:xM c b m k T) :
 Calls prog 31 #[.pointer (some ⟨m,0,none⟩)] c fun e w' => ∃ a w l,e = .returned (.slice a (List.length l) w)/\OwL w' c.heap.size a w l/\(l.Pairwise (· < ·) /\ ∀ tp,tp∈l<->T.has tp=true)/\l.length<=32/\Below c.heap.size c w' :=
 (anN _ _ _ _ _ _ h.wo h.map h.uU).mono fun e w' ⟨a,w,l,mb,d,f,g,i⟩=>⟨a,w,l,mb,d,⟨f,fun tp=>by have:=g tp; rw[and_true]at this; exact this⟩,i⟩
namespace Rt
section
variable {T U:fD} {id pa k:Int}
structure zM(U T:fD):Prop where
 has : ∀ k,U.has k=true->T.has k=true
 par : ∀ k,U.has k=true->U.par k=T.par k
theorem fD.mo(T:fD)(id pa k:Int):(T.put id pa).has k=(T.has k || decide (id=k)):=Rt.mo id k
theorem fD.yN(T:fD)(id pa k:Int):(T.put id pa).par k=if id=k then pa else T.par k:=Rt.yN id pa k
end
end Rt
namespace Fx
theorem anO{y:Operand}(g:o.op = .binOp .or T p y E)(hx:ev x p = .int .u64 (1099511627776*(m:Int)))(hy:ev x y = .int .u64 (b:Int))(ha:m<=8388607)(j:b<1099511627776):cB P x o q (.int .u64 (1099511627776*(m:Int)+b)) :=
 vQ g hx hy (by
  have e:((BitVec.ofInt 64 (1099511627776*(m:Int)) ||| BitVec.ofInt 64 (b:Int)).toNat:Int)=1099511627776*(m:Int)+b:=by
   rw[BitVec.toNat_or,BitVec.toNat_ofInt,BitVec.toNat_ofInt];rw[show((1099511627776*(m:Int)) % ((2^64:Nat):Int)).toNat=1099511627776*m by omega,show((b:Int) % ((2^64:Nat):Int)).toNat=b by omega];have h:=Nat.shiftLeft_add_eq_or_of_lt (i:=40) (b:=b) (by omega) m;rw[Nat.shiftLeft_eq]at h;rw[show 1099511627776*m=m*2^40 by omega,<- h];omega
  have h:=jO (c:=1099511627776*(m:Int)+b) (by omega) rfl;simp only[binOp,Op.intBits];show(pure (Value.int .u64 (IntKind.u64.wrap ((BitVec.ofInt 64 (1099511627776*(m:Int)) ||| BitVec.ofInt 64 (b:Int)).toNat:Int))):Sem Value).run P q=_;rw[e,h]; rfl)
theorem anP(l:OwL c m h k u):Fx.iB c h u.length 1 (BH u):=aY.akW l (A_ _)
end Fx
end Go.Proofs.YtabjalhnkndjaaaGreatDoor
namespace Go.Proofs.YtabjalhnkndjaaaGreatDoor
open Go.Proofs.Tryz
open Fx hiding E9 Fa HY Jf Jk L R start
open Go.RowKit Rt
section
structure fO where
 dF:Nat->Bool
 left:Nat->Bool
 aF:Nat->Int
 own:Nat->Int
 T:fD
 R:Nat->Nat->Int
 gn:Nat
 g:Nat->Nat->Int
 an:Nat
 ao:Nat->Int
 ar:Nat->Int
 tp:Nat
 mb:Nat
 pb:Nat
 rb:Nat
 gb:Nat
 ab:Nat
def zN(m:fO):Nat->Value:=fun p=>if p<6 then .bool (m.dF p)else if p<12 then .bool (m.left (p-6))else if p<18 then .int .u64 (m.aF (p-12))else if p=18 then .pointer (some ⟨m.tp,0,none⟩)else if p=19 then .map (some m.pb)else if p=20 then .map (some m.rb)else if p<27 then .int .i64 (m.own (p-21))else if p=27 then .map (some m.gb)else .map (some m.ab)
section
variable {m:fO} {p q:Nat}
theorem KL(h:p<6:=by omega):zN m p = .bool (m.dF p):=by grind [zN]
theorem KM(h:p<6:=by omega)(e:q=p+6:=by omega):zN m q = .bool (m.left p):=by grind [zN]
theorem Dk(h:p<6:=by omega)(e:q=p+12:=by omega):zN m q = .int .u64 (m.aF p):=by grind [zN]
theorem Xt(h:p<6:=by omega)(e:q=p+21:=by omega):zN m q = .int .i64 (m.own p):=by grind [zN]
theorem adj(hi:k<6)(b:Bool):dN (zN m) k (.bool b)=zN { m with dF:=aN m.dF k b }:=by
 grind [dN,aN,zN]
theorem adk{i:Nat}(hi:i<6)(e0:q=i+6)(b:Bool):dN (zN m) q (.bool b)=zN { m with left:=aN m.left i b }:=by
 grind [dN,aN,zN]
theorem Zz(hi:k<6)(e0:q=k+12)(x:Int):dN (zN m) q (.int .u64 x)=zN { m with aF:=aN m.aF k x }:=by
 grind [dN,aN,zN]
theorem aia(hi:k<6)(e0:q=k+21)(x:Int):dN (zN m) q (.int .i64 x)=zN { m with own:=aN m.own k x }:=by
 grind [dN,aN,zN]
end
def fP(R:Nat->Nat->Int):Nat->Value:=fun i => .agg (aA 54 (rv .i64 (R i)))
def I7(T:fD):Nat->Value:=fun j => .int .u64 (T.p j)
def yY(g:Nat->Nat->Int):Nat->Value:=fun i => .agg (aA 5 (lQ (g i)))
def I8:Nat->Value:=fun _ => .bool true
structure QlN(m:fO):Prop where
 mp:m.mb≠m.pb
 mr:m.mb≠m.rb
 mg:m.mb≠m.gb
 ma:m.mb≠m.ab
 pr:m.pb≠m.rb
 pg:m.pb≠m.gb
 pa:m.pb≠m.ab
 rg:m.rb≠m.gb
 ra:m.rb≠m.ab
 ga:m.gb≠m.ab
structure pF(w:World)(B lp:Nat)(m:fO):Prop where
 c:aM w lp 29 (zN m) 84
 t:xM w B m.tp m.mb m.T
 p:Mp w m.pb m.T.n m.T.x (I7 m.T)
 r:Mp w m.rb m.T.n m.T.x (fP m.R)
 g:jV w m.gb m.gn (fun i=>m.g i 0) (fun i=>m.g i 1) (yY m.g)
 a:jV w m.ab m.an m.ao m.ar I8
 ne:QlN m
 lB:B<=lp
 pB:B<=m.pb
 rB:B<=m.rb
 gB:B<=m.gb
 aB:B<=m.ab
def KN(m:fO)(lp:Nat)(k:Nat):Prop:=k=lp\/k=m.mb\/k=m.pb\/k=m.rb\/k=m.gb\/k=m.ab
section
variable {w w':World} {B lp:Nat} {m:fO}
theorem pF.up(h:pF w B lp m)(b:Below w.heap.size w w'):pF w' B lp m := { h with c:=h.c.cK (Sb b) (u_ h.c.lt),t:=h.t.up b,p:=h.p.up b,r:=h.r.up b,g:=h.g.up b,a:=h.a.up b }
instance:Rt.Tr w w' (pF w B lp m) (pF w' B lp m):=⟨fun b h=>h.up b⟩
theorem pF.nA{d:List TypeId}(h:pF w B lp m)(b:jk d w w')(e:(d.contains 84 || d.contains 141)=false):pF w' B lp m:=by
 rw[Bool.or_eq_false_iff]at e;exact { h with c:=h.c.nA b e.1,t:=h.t.nA b e.2,p:=h.p.nA b trivial,r:=h.r.nA b trivial,g:=h.g.nA b trivial,a:=h.a.nA b trivial }
instance {a:List TypeId}:Rt.Tc a w w' (pF w B lp m) (pF w' B lp m) (!(a.contains 84 || a.contains 141)):=⟨fun b h e=>h.nA b (by simpa using e)⟩
theorem xM.rT{tp mb:Nat}{T:fD}(h:xM w B tp mb T)(a:w'.heap[tp]? = w.heap[tp]?)(b:w'.heap[mb]? = w.heap[mb]?):xM w' B tp mb T:=⟨a.trans h.wo,h.map.rT b,h.uU,h.gt,h.gm⟩
theorem pF.Mr{b:Nat}(h:pF w B lp m)(a:b<=B):pF w b lp m := { h with t:=h.t.Mr a,lB:=m_ a h.lB,pB:=m_ a h.pB,rB:=m_ a h.rB,gB:=m_ a h.gB,aB:=m_ a h.aB }
theorem pF.ltS(h:pF w B lp m)(b:KN m lp k):B<=k/\k<w.heap.size:=by
 rcases b with rfl|rfl|rfl|rfl|rfl|rfl
 ·exact⟨h.lB,h.c.lt⟩
 ·exact⟨h.t.gm,h.t.lt⟩
 ·exact⟨h.pB,h.p.lt⟩
 ·exact⟨h.rB,h.r.lt⟩
 ·exact⟨h.gB,h.g.lt⟩
 grind [h.aB,h.a.lt]
end
namespace Rt
def DI(x:Nat->Int):Nat->Int->Nat
 | 0,_=>0
 | n+1,k=>if x n=k then n else DI x n k
theorem rY{x:Nat->Int}{j:Nat}{k:Int} : ∀ {n:Nat},(∀ a b,a<n->b<n->x a=x b->a=b)->j<n->x j=k->DI x n k=j
 | 0,_,h,_=>L_ h (z_ _)
 | n+1,hi,hj,e=>by
   unfold DI;by_cases c:x n=k
   ·grind
   ·rw[b_ c];refine rY (fun a b d f=>hi a b (by omega) (by omega)) ?_ e
    grind
end Rt
def fO.idx(m:fO)(k:Int):Nat:=DI m.T.x m.T.n k
def Ao(m:fO)(lp a:Nat)(k:Nat):Prop:=KN m lp k\/a<=k
structure Ap(w:World)(B lp:Nat)(m m':fO)(b0:Nat)(fv:Value)(fi:Nat)(cap:Array Value):Prop where
 e:fv = .func (.func fi) #[] cap
 f : ∃ fn c, prog.funcs[fi]? = some fn ∧ (fn.name == "runtime.NumGoroutine") = false ∧ fn.body = some c
 s : ∀ w2,Below w.heap.size w w2->Calls prog fi cap w2 fun e w3=>e = .returned (.tuple #[])/\pF w3 B lp m'/\ko (Ao m lp b0) w2 w3
def yD(w:World)(B lp:Nat)(m f:fO)(b:Int)(e:Ending)(w':World):Prop :=
 (∃ a d c,e = .returned (.tuple #[a,.int .i64 b])/\a.oneCell'=true/\(b=0->Ap w' B lp m f w.heap.size a d c))/\Below w.heap.size w w'
theorem pF.Pv{w':World}{w:fO}(h:pF q D k w)(g:aM q m b x T)(f:T≠84)(i:ko (Ao w k j) q w')(lp:m<j):aM w' m b x T:=g.qZ i fun e=>by
 rcases e with (rfl|rfl|rfl|rfl|rfl|rfl)|e
 ·exact f (Ty.only h.c.ty g.ty)
 ·exact h.t.map.xK g.ty
 ·exact h.p.xK g.ty
 ·exact h.r.xK g.ty
 ·exact h.g.xK g.ty
 ·exact h.a.xK g.ty
 ·omega
theorem Fx.Xu{b:List Operand}{args:List Value}{d:Array TypeId}{cap all:Array Value}(i:o.op = .call { callee := .value p,args:=b.toArray,argTypes:=d })(j:ev x p = .func (.func m) #[] cap)(hx:b.map (ev x)=args)(e:args.toArray++cap=all)
 (h : ∃ a f, P.funcs[m]? = some a ∧ (a.name == "runtime.NumGoroutine") = false ∧ a.body = some f) : (execOp (ev x) o).run P c = .ok (.enter m all) c := by
 grind [Fx.uJ]
namespace Fx
theorem It.fH{S:Nat->Bool}(h:It c m b j S)(a:Zp k c q)(r:b≠k)(d:m≠k:=by omega):It q m b j S:=by grind [h.rT,a.s.block,h.yC,h.lt]
theorem EW.fH(h:EW c m b j)(a:Zp k c q)(r:b≠k)(d:m≠k:=by omega):EW q m b j:=by grind [h.rT,a.s.block,h.yC,h.lt]
end Fx
end
namespace Rt
def Enb (g : FuncId) : Prop := ∃ a c, prog.funcs[g]? = some a ∧ (a.name == "runtime.NumGoroutine") = false ∧ a.body = some c
theorem Fj(h:iV X=false\/d<1\/1125899906842624<d):dU X d true a m=(zero,1):=by
 unfold dU; rw[b_ ?_]; simp only[Q_,decide_eq_true_eq]; rintro ⟨⟨b,c⟩,n⟩
 rcases h with h|h|h
 ·rw[b]at h; cases h
 ·omega
 omega
theorem ahW(h:iV X=true)(h1 : ¬ d<1)(b : ¬ 1125899906842624<d):dU X d true a m=if a=0 then(if X m+d<=1125899906842624 then(fZ X m (X m+d),0)else(zero,6))else(zero,a):=by
 unfold dU; rw[d_ (by simp only[Q_,decide_eq_true_eq]; exact⟨⟨h,by omega⟩,by omega⟩),d_ rfl]
end Rt
theorem pG(x:Nat->Int)(n:Int)(p q:FuncId)(s t:Array Value)(a:Int)(off:Nat)(w:World)(hoff:off<54)(hxo:iV x=true->0<=x off/\x off<=1125899906842624)(hfm:Enb p)(hfn:Enb q)(hM:iV x=true->1<=n->n<=1125899906842624 -> ∀ w',Below w.heap.size w w'->Calls prog p s w' fun e B=>e = .returned (av a)/\Below w'.heap.size w' B)(hN : ∀ w' g,Below w.heap.size w w'->Calls prog q (#[(pt g)]++t) w' fun e B=>e = .returned (pf g off)/\Below w'.heap.size w' B) :
 Calls prog 197 #[.agg (aA 54 (rv .i64 x)),av n,.bool true,.func (.func p) #[] s,.func (.func q) #[] t] w fun e w'=>e = .returned (.tuple #[.agg (aA 54 (rv .i64 (dU x n true a off).1)),av (dU x n true a off).2])/\Below w.heap.size w w':=by
 refine bX func197 47 ?_;refine ay<|oq fun c w1 Z u s1 z1 => ?_;have C:=bL s1.bP (Below.refl w.heap.size w);have tJ:=iy Z;have vB:=u.lt;refine oJ 54 (rv .i64 (fun _=>0)) fun j w2 H v s2 z2 => ?_;have⟨y,E⟩:=fB s2.bP u C;have xw:=gQ H C.size;have BP:=gD H u.lt;have zR:=v.lt;refine au (av 0)<|aC<|aQ<|Wb<|aQ<|ay<|Lv (.agg (aA 54 (rv .i64 x))) (dZ y.aJ 0) ?_;by_cases d:(iV x)=true
 ·refine dO (Ji x _) aH (by rw[d]) ?_;intro w3 hb1;have⟨z,A,f⟩:=iP hb1 y v E;refine au aD<|au aD<|aC<|aL<|ay<|au (av n) ?_;by_cases h:n<1
  ·refine Lv aH (fK h)<|au aH<|aC<|aP<|Wk<|sN<|aP<|ay<|au (.agg (aA 54 (rv .i64 (fun _=>0))))<|dY A 0 fun w4 m6 P z3 =>have m7:aM w4 j 54 (rv .i64 (fun _=>0)) 67:=aO m6;have m8:=z.cK P (by omega);have W:=P.below f f.size (by omega);au (av 1) (aC (Wr (bO (sR (⟨.tuple #[.agg (aA 54 (rv .i64 (fun _=>0))),av 1],gK Tryz.results197 ⟨_,rfl,aU m7.aJ⟩,?_⟩)))));have b:dU x n true a off=(zero,1):=Fj (.inr (.inl h));exact⟨by rw[b]; rfl,W⟩
  refine Lv aD (fM h)<|au aD<|aC<|aL<|Wl<|au (av n) ?_;by_cases i:1125899906842624<n
  ·refine Lv aH (lK i)<|au aH<|aC<|aP<|ay<|au (.agg (aA 54 (rv .i64 (fun _=>0))))<|dY A 0 fun w5 m9 Q z4 =>have m10:aM w5 j 54 (rv .i64 (fun _=>0)) 67:=aO m9;have m11:=z.cK Q (by omega);have X:=Q.below f f.size (by omega);au (av 1) (aC (Wr (bO (sR (⟨.tuple #[.agg (aA 54 (rv .i64 (fun _=>0))),av 1],gK Tryz.results197 ⟨_,rfl,aU m10.aJ⟩,?_⟩)))));have b:dU x n true a off=(zero,1):=Fj (.inr (.inr i));exact⟨by rw[b]; rfl,X⟩
  refine Lv aD (lM i)<|au aD<|aC<|aL<|ay<|au aH<|au aD<|au aD<|aC<|aL<|Wk<|bS<|sN<|aQ<|ay<|au (.func (.func p) #[] s)<|zW (by rfl) (Xu (args := []) rfl rfl rfl (by simp) hfm) rfl<|(hM d (by omega) (by omega) _ f).mono ?_;rintro e w6 ⟨l,hb2⟩;refine⟨av a,by rw[l],?_⟩;clear l;have⟨I,J,m⟩:=iP hb2 z A f;refine au (av a)<|aC<|ay<|au (av a) ?_;by_cases k:a=0
  ·refine Lv aD (kr k)<|aC<|aL<|Wk<|sN<|aQ ?_;have hxx:=hxo d;refine Wl<|au (.func (.func q) #[] t)<|zW (by rfl) (Xu (args := [(pt c)]) rfl rfl rfl rfl hfn) rfl<|(hN _ c m).mono ?_;rintro e w7 ⟨l,hb3⟩;refine⟨(pf c off),by rw[l],?_⟩;clear l;have⟨K,m15,F⟩:=iP hb3 I J m;refine au (pf c off)<|aC<|aQ<|ay<|au (pf c off)<|au (pf c off)<|Lv (av (x off)) (aR K.aJ off)<|au (av n)<|Lv (av ((x off)+n)) gu<|au (pf c off)<|jf K off (av ((x off)+n)) fun w8 m16 R z5 => ?_;have r:aM w8 c 54 (rv .i64 (fZ x off ((x off)+n))) 67:=m16.to (yA _ _ _ _);have L:=m15.cK R (by omega);have o:=R.below F F.size (by omega);refine aC<|ay<|au (pf c off)<|au (pf c off)<|Lv (av (x off+n)) (aR r.aJ off (K_ (Value.int .i64) (d_ rfl))) ?_;by_cases G:1125899906842624<(x off+n)
   ·refine Lv aH (lK G)<|aC<|aP<|ay<|au (.agg (aA 54 (rv .i64 (fun _=>0))))<|dY L 0 fun w9 m19 S z6 => ?_;have m20:aM w9 j 54 (rv .i64 (fun _=>0)) 67:=aO m19;have mG:=r.cK S (by omega);have Y:=S.below o o.size (by omega);refine au (av 6) (aC (Wr (sR (⟨.tuple #[.agg (aA 54 (rv .i64 (fun _=>0))),av 6],gK Tryz.results197 ⟨_,rfl,aU m20.aJ (by kernel_rfl) (by kernel_rfl)⟩ (by exact rfl),?_⟩))));have b:dU x n true a off=(zero,6):=(ahW d h i).trans ((d_ k).trans (b_ (by omega)));exact⟨by rw[b]; rfl,Y⟩
   refine Lv aD (lM G)<|aC<|aL<|Wk<|sN<|ay<|Lv (.agg (aA 54 (rv .i64 (fZ x off ((x off)+n))))) (dZ r.aJ 0)<|dY L 0 fun uE m22 M z7 => ?_;have m23:aM uE j 54 (rv .i64 (fZ x off ((x off)+n))) 67:=aO m22;have m24:=r.cK M (by omega);have T:=M.below o o.size (by omega);refine au (av 0) (aC (Wr (⟨.tuple #[.agg (aA 54 (rv .i64 (fZ x off ((x off)+n)))),av 0],gK Tryz.results197 ⟨_,rfl,aU m23.aJ (by kernel_rfl) (by kernel_rfl)⟩ (by exact rfl),?_⟩)));have b:dU x n true a off=(fZ x off (x off+n),0):=(ahW d h i).trans ((d_ k).trans (d_ (by omega)));exact⟨by rw[b],T⟩
  refine Lv aH (mO k)<|aC<|aP<|ay<|au (.agg (aA 54 (rv .i64 (fun _=>0))))<|au (av a)<|dY J 0 fun Bg mU N z8 => ?_;have pK:aM Bg j 54 (rv .i64 (fun _=>0)) 67:=aO mU;have pO:=I.cK N (by omega);have U:=N.below m m.size (by omega);refine au (av a) (aC (Wr (sR (⟨.tuple #[.agg (aA 54 (rv .i64 (fun _=>0))),av a],gK Tryz.results197 ⟨_,rfl,aU pK.aJ (by kernel_rfl) (by kernel_rfl)⟩ (by exact rfl),?_⟩))));have b:dU x n true a off=(zero,a):=(ahW d h i).trans (b_ k);exact⟨by rw[b]; rfl,U⟩
 rw[R_]at d;refine dO (Ji x _) aD (by rw[d]) ?_;intro BD hb4;have⟨om,qb,D⟩:=iP hb4 y v E;refine au aH<|au aH<|aC<|aP<|Wk<|sN<|aP<|ay<|au (.agg (aA 54 (rv .i64 (fun _=>0))))<|dY qb 0 fun Bh qV O z9 => ?_;have mY:aM Bh j 54 (rv .i64 (fun _=>0)) 67:=aO qV;have m32:=om.cK O (by omega);have V:=O.below D D.size (by omega);refine au (av 1) (aC (Wr (bO (sR (⟨.tuple #[.agg (aA 54 (rv .i64 (fun _=>0))),av 1],gK Tryz.results197 ⟨_,rfl,aU mY.aJ (by kernel_rfl) (by kernel_rfl)⟩ (by exact rfl),?_⟩)))));have b:dU x n true a off=(zero,1):=Fj (.inl d);exact⟨by rw[b]; rfl,V⟩
theorem aaO(g h:Nat)(i:Int)(w:World)(hi:1<=i/\i<=6)(j:aM w h 1 (fun _=>av i) 3) :
 Calls prog 202 #[(pt g),(pt h)] w fun e w'=>e = .returned (pf g (6+(i.toNat-1)))/\Below w.heap.size w w':=by
 obtain⟨k,n,o⟩ : ∃ k:Nat,i-1=(k:Int)/\k<6:=⟨(i-1).toNat,by omega,by omega⟩;refine bX func202 10 ?_;refine ay<|au (.pointer none)<|aC<|aQ<|zu<|bI (pt g)<|Qv (av i) (fun a c=>aR (j.aJ.dr c) 0)<|Qv (av k) (fun a c=>jK)<|bI (pt g)<|bI (pf g 6)<|Qv (pf g (k+6)) (fun a c=>jh 6 1)<|bI (pf g (k+6))<|Qn ?_;rintro _ ⟨d,rfl⟩;obtain⟨m,b⟩ : ∃ a,a=World.drewN w d:=⟨_,rfl⟩;rw[<- b];have l:eG w.heap.size w m:=by rw[b]; exact Sb (kQ w d)
 have f:=bL l.bP (Below.refl w.heap.size w);clear b;refine sN<|Wr<|aK (pf g (k+6))<|⟨K_ (fun q=>Ending.returned (pf g q)) (by omega),f⟩
theorem aaT(g h:Nat)(i:Int)(w:World)(hi:1<=i/\i<=6)(j:aM w h 1 (fun _=>av i) 3) :
 Calls prog 204 #[(pt g),(pt h)] w fun e w'=>e = .returned (pf g (12+(i.toNat-1)))/\Below w.heap.size w w':=by
 obtain⟨k,n,o⟩ : ∃ k:Nat,i-1=(k:Int)/\k<6:=⟨(i-1).toNat,by omega,by omega⟩;refine bX func204 10 ?_;refine ay<|au (.pointer none)<|aC<|aQ<|zu<|bI (pt g)<|Qv (av i) (fun a c=>aR (j.aJ.dr c) 0)<|Qv (av k) (fun a c=>jK)<|bI (pt g)<|bI (pf g 12)<|Qv (pf g (k+12)) (fun a c=>jh 6 1)<|bI (pf g (k+12))<|Qn ?_;rintro _ ⟨d,rfl⟩;obtain⟨m,b⟩ : ∃ a,a=World.drewN w d:=⟨_,rfl⟩;rw[<- b];have l:eG w.heap.size w m:=by rw[b]; exact Sb (kQ w d)
 have f:=bL l.bP (Below.refl w.heap.size w);clear b;refine sN<|Wr<|aK (pf g (k+12))<|⟨K_ (fun q=>Ending.returned (pf g q)) (by omega),f⟩
theorem aaW(g h d:Nat)(i j:Int)(w:World)(hi:1<=i/\i<=6)(s:1<=j/\j<=6)(n:aM w h 1 (fun _=>av i) 3)(o:aM w d 1 (fun _=>av j) 3) :
 Calls prog 206 #[(pt g),(pt h),(pt d)] w fun e w'=>e = .returned (pf g (nV i j))/\Below w.heap.size w w':=by
 obtain⟨k,t,u⟩ : ∃ k:Nat,i-1=(k:Int)/\k<6:=⟨(i-1).toNat,by omega,by omega⟩;obtain⟨l,v,x⟩ : ∃ l:Nat,j-1=(l:Int)/\l<6:=⟨(j-1).toNat,by omega,by omega⟩;refine bX func206 14 ?_;refine ay<|au (.pointer none)<|aC<|aQ ?_;refine zu<|bI (pt g)<|Qv (av i) (fun b a=>aR (n.aJ.dr a) 0)<|Qv (av k) (fun b a=>jK)<|Qv (av j) (fun b a=>aR (o.aJ.dr a) 0)<|Qv (av l) (fun b a=>jK)<|bI (pt g)<|bI (pf g 18)<|Qv (pf g (6*k+18)) (fun b a=>jh 6 6)<|Qv (pf g (6*k+l+18)) (fun b a=>jh 6 1)<|bI (pf g (6*k+l+18))<|Qn ?_;rintro _ ⟨f,rfl⟩;obtain⟨r,c⟩ : ∃ b,b=World.drewN w f:=⟨_,rfl⟩;rw[<- c];have p:eG w.heap.size w r:=by rw[c]; exact Sb (kQ w f)
 have m:=bL p.bP (Below.refl w.heap.size w);clear c;refine sN<|Wr<|aK (pf g (6*k+l+18)) ?_;exact⟨K_ (fun q=>Ending.returned (pf g q)) (by unfold nV; omega),m⟩
theorem abe(x:Nat->Int)(i n:Int)(h g d:Nat)(w:World)(hi:1<=i/\i<=6)(k:aM w h 1 (fun _=>av n) 2)(hx:aM w g 54 (rv .i64 x) 67)(j:aM w d 1 (fun _=>av i) 3) :
 Calls prog 199 #[(pt h),(pt g),(pt d)] w fun e w'=>e = .returned (av (uP x i n))/\Below w.heap.size w w':=by
 refine bX func199 10 ?_;refine ay<|au (av 0)<|aC<|aQ ?_;refine rA<|Qv (av n) (fun b a=>aR (k.cb a) 0)<|Qv (.agg (aA 54 (rv .i64 x))) (fun b a=>dZ (hx.cb a) 0)<|Qv (av i) (fun b a=>aR (j.cb a) 0)<|zo (fun _ _=>J7 x i _ ⟨by omega,by omega⟩) _ rfl<|Qv (.bool (decide ((ku x i)<n))) (fun b a=>aaz rfl rfl rfl)<|BA (fun _ _=>J9 (decide ((ku x i)<n)) 11 _) _ rfl<|bI (av (uP x i n))<|Qn ?_;intro l f;have c:=bL f (Below.refl w.heap.size w);refine sN<|Wr<|aK (av (uP x i n)) ?_;exact⟨rfl,c⟩
theorem abh(x:Nat->Int)(i n:Int)(h g d:Nat)(w:World)(hi:1<=i/\i<=6)(v:iV x=true)(y:aM w h 1 (fun _=>av n) 2)(hx:aM w g 54 (rv .i64 x) 67)(m:aM w d 1 (fun _=>av i) 3) :
 Calls prog 203 #[(pt h),(pt g),(pt d)] w fun e w'=>e = .returned (av (vX x i n))/\Below w.heap.size w w':=by
 obtain⟨k,z,u⟩ : ∃ k:Nat,i-1=(k:Int)/\k<6:=⟨(i-1).toNat,by omega,by omega⟩;have o:=Am v k u;have r:=o.c;have s:=o.f;have j:C x k=x (k+6):=K_ x (Nat.add_comm 6 k);have l:F x k=x (k+12):=K_ x (Nat.add_comm 12 k);rw[j]at r;rw[l]at s;have q:vX x i n=if decide (x (k+6)-x (k+12)<n)then 12 else 0:=by unfold vX; rw[show i.toNat-1=k by omega,j,l]
 refine bX func203 18 ?_;refine ay<|au (av 0)<|aC<|aQ ?_;refine rA<|Qv (av n) (fun b a=>aR (y.cb a) 0)<|Qv (av i) (fun b a=>aR (m.cb a) 0)<|Qv (av k) (fun b a=>jK)<|bI (pf g 6)<|Qv (pf g (k+6)) (fun b a=>jh 6 1)<|Qv (av (x (k+6))) (fun b a=>aR (hx.cb a) (k+6))<|Qv (av i) (fun b a=>aR (m.cb a) 0)<|Qv (av k) (fun b a=>jK)<|bI (pf g 12)<|Qv (pf g (k+12)) (fun b a=>jh 6 1)<|Qv (av (x (k+12))) (fun b a=>aR (hx.cb a) (k+12))<|Qv (av ((x (k+6))-(x (k+12)))) (fun b a=>jK)<|Qv (.bool (decide (((x (k+6))-(x (k+12)))<n))) (fun b a=>aaz rfl rfl rfl)<|BA (fun _ _=>J9 (decide (((x (k+6))-(x (k+12)))<n)) 12 _) _ rfl<|bI (av (if decide (x (k+6)-x (k+12)<n)then 12 else 0))<|Qn ?_;intro A t;have p:=bL t (Below.refl w.heap.size w);refine sN<|Wr<|aK (av (if decide (x (k+6)-x (k+12)<n)then 12 else 0)) ?_;exact⟨by rw[q],p⟩
theorem abk(x:Nat->Int)(i j n:Int)(d c h g:Nat)(w:World)(hi:1<=i/\i<=6)(k:aM w d 1 (fun _=>av i) 3)(o:aM w c 1 (fun _=>av j) 3)(p:aM w h 1 (fun _=>av n) 2)(hx:aM w g 54 (rv .i64 x) 67) :
 Calls prog 205 #[(pt d),(pt c),(pt h),(pt g)] w fun e w'=>e = .returned (av (qH x i j n))/\Below w.heap.size w w':=by
 refine bX func205 14 ?_;refine ay<|au (av 0)<|aC<|aQ<|ay<|Lv (av i) (aR k.aJ 0)<|Lv (av j) (aR o.aJ 0) ?_;by_cases b:i=j
 ·refine Lv aH (gU b)<|aC<|aP<|ay<|au (av 1)<|aC<|Wr<|sR<|aK (av 1) ?_;exact⟨by unfold qH; rw[d_ b],(Below.refl w.heap.size w)⟩
 refine Lv aD (gX b)<|aC<|aL<|Wk<|sN<|aQ ?_;refine rA<|Qv (av n) (fun f a=>aR (p.cb a) 0)<|Qv (.agg (aA 54 (rv .i64 x))) (fun f a=>dZ (hx.cb a) 0)<|Qv (av i) (fun f a=>aR (k.cb a) 0)<|zo (fun _ _=>J7 x i _ ⟨by omega,by omega⟩) _ rfl<|Qv (.bool (decide ((ku x i)<n))) (fun f a=>aaz rfl rfl rfl)<|BA (fun _ _=>J9 (decide ((ku x i)<n)) 11 _) _ rfl<|bI (av (if decide (ku x i<n)then 11 else 0))<|Qn ?_;intro q m;have l:=bL m (Below.refl w.heap.size w);refine sN<|Wr<|aK (av (if decide (ku x i<n)then 11 else 0)) ?_;exact⟨by unfold qH; rw[b_ b],l⟩
theorem Rt.pI(h:iV X=true)(a:m<54:=by omega):0<=X m/\X m<=1125899906842624:=qh h m a
theorem Rt.aal(h:1<=a/\a<=6):jw a=true:=(rF a).2 h
theorem lN(h:1<=a/\a<=6)(w:World):Calls prog 198 #[av a] w fun e w'=>e = .returned (.bool true)/\w'=w:=by
 have:=xD a w ⟨by omega,by omega⟩; rwa [aal h]at this
theorem anW(x:Nat->Int)(i n:Int)(w:World)(hi:1<=i/\i<=6) :
 Calls prog 184 #[.agg (aA 54 (rv .i64 x)),av i,av n] w fun e w'=>e = .returned (.tuple #[.agg (aA 54 (rv .i64 (bV x i n).1)),av (bV x i n).2])/\Below w.heap.size w w':=by
 refine bX func184 17 ?_;refine ay<|oq fun h w1 N p s1 z1 => ?_;have t:=bL s1.bP (Below.refl w.heap.size w);have tJ:=iy N;have vB:=p.lt;refine Ej (av i) fun a m B q s2 z2 => ?_;have⟨G,u⟩:=fB s2.bP p t;have xw:=gQ B t.size;have BP:=gD B p.lt;have zR:=q.lt;refine Ej (av n) fun k w3 C r s3 z3 => ?_;have⟨H,I,z⟩:=iP s3.bP G q u;have Gc:=gQ C u.size;have⟨WB,aaU⟩:=oM C G.lt q.lt;have Gr:=r.lt;refine oJ 54 (rv .i64 (fun _=>0)) fun O w4 D J s4 z4 => ?_;have⟨Y,Z,Q,K⟩:=jv s4.bP H I r z;have Uw:=gQ D z.size;have⟨aFS,aFR,Hz⟩:=El D H.lt I.lt r.lt;have TR:=J.lt;refine au (av 0)<|aC<|aQ ?_;refine nP [4,5,0,1,2,3,6,7,8,9,10] [1,1,4,2,0,0,2,0,0,3,0] [(9,0,[0]),(9,1,[1]),(3,2,[2]),(6,2,[3,2]),(9,2,[2]),(6,3,[3]),(7,3,[6,3]),(8,3,[6,3]),(9,3,[3]),(10,3,[3]),(7,6,[6]),(8,6,[6]),(9,6,[6]),(10,6,[6]),(10,9,[9])] fun qN P iM => ?_;have⟨d,b,f,R,L⟩:=oK P Y Z Q J K;refine Rp (.func (.func 199) #[] #[(pt k),(pt h),(pt a)]) (fun s=>qp (us := []) (vs := [(pt k),(pt h),(pt a)]) rfl rfl rfl)<|Rp (.func (.func 202) #[] #[(pt a)]) (fun s=>qp (us := []) (vs := [(pt a)]) rfl rfl rfl)<|lI (v := .agg (aA 54 (rv .i64 x))) (by rfl) (by rfl) (mE _) (fun s o=>eB (x:=rv .i64 x) (y:=rv .i64 x) rfl rfl (by kernel_rfl) (by kernel_rfl) (d.aJ.below o (by have:=d.lt; omega)) (i:=0) (by omega) (by omega) (fun j _=>by rw[G_])) ?_;refine lI (v:=av n) (by rfl) (by rfl) (mE _) (fun s o=>bE (x:=fun _=>av n) rfl rfl (by kernel_rfl) (f.aJ.below o (by have:=f.lt; omega)) (i:=0) (by omega) (by omega) rfl) ?_;refine Rs (av i) (aR b.aJ 0) ?_;refine mF (mX (lN hi _) _ rfl (Ln ⟨Below.refl _ _,?_⟩));refine mF<|dO (pG x n 199 202 #[(pt k),(pt h),(pt a)] #[(pt a)] (uP x i n) (6+(i.toNat-1)) _ (by omega) (fun F=>pI F (by omega)) ⟨_,_,func199,rfl,rfl⟩ ⟨_,_,func202,rfl,rfl⟩ (fun F h1 h2 m c=>abe x i n k h a m hi (f.cK (Sb c) (u_ f.lt)) (d.cK (Sb c) (u_ d.lt)) (b.cK (Sb c) (u_ b.lt))) (fun m g c=>aaO g a i m hi (b.cK (Sb c) (u_ b.lt)))) _ rfl ?_;intro w5 E;have s6:=Sb E;have⟨S,T,U,V,A⟩:=oK E d b f R L;refine Ln ⟨s6.bP,?_⟩;refine aS (.agg (aA 54 (rv .i64 ((dU x n true (uP x i n) (6+(i.toNat-1))).1))))<|aS (av ((dU x n true (uP x i n) (6+(i.toNat-1))).2))<|jP<|dY V 0 fun w6 W l z5 => ?_;have X:aM w6 O 54 (rv .i64 ((dU x n true (uP x i n) (6+(i.toNat-1))).1)) 67:=aO W;have mG:=S.cK l (by omega);have m22:=T.cK l (by omega);have m23:=U.cK l (by omega);have M:=l.below A A.size (by omega);refine Ln (aS (av ((dU x n true (uP x i n) (6+(i.toNat-1))).2)) (dJ (Wr (⟨.tuple #[.agg (aA 54 (rv .i64 ((dU x n true (uP x i n) (6+(i.toNat-1))).1))),av ((dU x n true (uP x i n) (6+(i.toNat-1))).2)],gK Tryz.results184 ⟨_,rfl,aU X.aJ (by kernel_rfl) (by kernel_rfl)⟩ (by exact rfl),?_⟩))));exact⟨by unfold bV; rw[aal hi],M⟩
theorem anX(x:Nat->Int)(i n:Int)(w:World)(hi:1<=i/\i<=6) :
 Calls prog 187 #[.agg (aA 54 (rv .i64 x)),av i,av n] w fun e w'=>e = .returned (.tuple #[.agg (aA 54 (rv .i64 (bW x i n).1)),av (bW x i n).2])/\Below w.heap.size w w':=by
 refine bX func187 17 ?_;refine ay<|oq fun h w1 N q s1 z1 => ?_;have u:=bL s1.bP (Below.refl w.heap.size w);have tJ:=iy N;have vB:=q.lt;refine Ej (av i) fun a m C r s2 z2 => ?_;have⟨G,z⟩:=fB s2.bP q u;have xw:=gQ C u.size;have BP:=gD C q.lt;have zR:=r.lt;refine Ej (av n) fun k w3 D s s3 z3 => ?_;have⟨H,I,A⟩:=iP s3.bP G r z;have Gc:=gQ D z.size;have⟨WB,aaU⟩:=oM D G.lt r.lt;have Gr:=s.lt;refine oJ 54 (rv .i64 (fun _=>0)) fun O w4 E J s4 z4 => ?_;have⟨Y,Z,Q,K⟩:=jv s4.bP H I s A;have Uw:=gQ E A.size;have⟨aFS,aFR,Hz⟩:=El E H.lt I.lt s.lt;have TR:=J.lt;refine au (av 0)<|aC<|aQ ?_;refine nP [4,5,0,1,2,3,6,7,8,9,10] [1,1,4,2,0,0,2,0,0,3,0] [(9,0,[0]),(9,1,[1]),(3,2,[2]),(6,2,[3,2]),(9,2,[2]),(6,3,[3]),(7,3,[6,3]),(8,3,[6,3]),(9,3,[3]),(10,3,[3]),(7,6,[6]),(8,6,[6]),(9,6,[6]),(10,6,[6]),(10,9,[9])] fun qN P iM => ?_;have⟨d,b,f,R,L⟩:=oK P Y Z Q J K;refine Rp (.func (.func 203) #[] #[(pt k),(pt h),(pt a)]) (fun t=>qp (us := []) (vs := [(pt k),(pt h),(pt a)]) rfl rfl rfl)<|Rp (.func (.func 204) #[] #[(pt a)]) (fun t=>qp (us := []) (vs := [(pt a)]) rfl rfl rfl)<|lI (v := .agg (aA 54 (rv .i64 x))) (by rfl) (by rfl) (mE _) (fun t p=>eB (x:=rv .i64 x) (y:=rv .i64 x) rfl rfl (by kernel_rfl) (by kernel_rfl) (d.aJ.below p (by have:=d.lt; omega)) (i:=0) (by omega) (by omega) (fun j _=>by rw[G_])) ?_;refine lI (v:=av n) (by rfl) (by rfl) (mE _) (fun t p=>bE (x:=fun _=>av n) rfl rfl (by kernel_rfl) (f.aJ.below p (by have:=f.lt; omega)) (i:=0) (by omega) (by omega) rfl) ?_;refine Rs (av i) (aR b.aJ 0) ?_;refine mF (mX (lN hi _) _ rfl (Ln ⟨Below.refl _ _,?_⟩));refine mF<|dO (pG x n 203 204 #[(pt k),(pt h),(pt a)] #[(pt a)] (vX x i n) (12+(i.toNat-1)) _ (by omega) (fun o=>pI o (by omega)) ⟨_,_,func203,rfl,rfl⟩ ⟨_,_,func204,rfl,rfl⟩ (fun o h1 h2 m c=>abh x i n k h a m hi o (f.cK (Sb c) (u_ f.lt)) (d.cK (Sb c) (u_ d.lt)) (b.cK (Sb c) (u_ b.lt))) (fun m g c=>aaT g a i m hi (b.cK (Sb c) (u_ b.lt)))) _ rfl ?_;intro w5 F;have s6:=Sb F;have⟨S,T,U,V,B⟩:=oK F d b f R L;refine Ln ⟨s6.bP,?_⟩;refine aS (.agg (aA 54 (rv .i64 ((dU x n true (vX x i n) (12+(i.toNat-1))).1))))<|aS (av ((dU x n true (vX x i n) (12+(i.toNat-1))).2))<|jP<|dY V 0 fun w6 W l z5 => ?_;have X:aM w6 O 54 (rv .i64 ((dU x n true (vX x i n) (12+(i.toNat-1))).1)) 67:=aO W;have mG:=S.cK l (by omega);have m22:=T.cK l (by omega);have m23:=U.cK l (by omega);have M:=l.below B B.size (by omega);refine Ln (aS (av ((dU x n true (vX x i n) (12+(i.toNat-1))).2)) (dJ (Wr (⟨.tuple #[.agg (aA 54 (rv .i64 ((dU x n true (vX x i n) (12+(i.toNat-1))).1))),av ((dU x n true (vX x i n) (12+(i.toNat-1))).2)],gK Tryz.results187 ⟨_,rfl,aU X.aJ (by kernel_rfl) (by kernel_rfl)⟩ (by exact rfl),?_⟩))));exact⟨by unfold bW; rw[aal hi],M⟩
theorem anV(x:Nat->Int)(i j n:Int)(w:World)(hi:1<=i/\i<=6)(q:1<=j/\j<=6) :
 Calls prog 189 #[.agg (aA 54 (rv .i64 x)),av i,av j,av n] w fun e w'=>e = .returned (.tuple #[.agg (aA 54 (rv .i64 (dX x i j n).1)),av (dX x i j n).2])/\Below w.heap.size w w':=by
 refine bX func189 23 ?_;refine ay<|oq fun m w1 W s s1 z1 => ?_;have B:=bL s1.bP (Below.refl w.heap.size w);have tJ:=iy W;have vB:=s.lt;refine Ej (av i) fun a p G t s2 z2 => ?_;have⟨O,C⟩:=fB s2.bP s B;have xw:=gQ G B.size;have BP:=gD G s.lt;have zR:=t.lt;refine Ej (av j) fun b w3 H u s3 z3 => ?_;have⟨P,Q,D⟩:=iP s3.bP O t C;have Gc:=gQ H C.size;have⟨WB,aaU⟩:=oM H O.lt t.lt;have Gr:=u.lt;refine Ej (av n) fun o w4 I z s4 z4 => ?_;have⟨R,S,M,E⟩:=jv s4.bP P Q u D;have Uw:=gQ I D.size;have⟨aFS,aFR,Hz⟩:=El I P.lt Q.lt u.lt;have TR:=z.lt;refine oJ 54 (rv .i64 (fun _=>0)) fun X w5 J N s5 z5 => ?_;have⟨Z,aa,ab,ac,T⟩:=oK s5.bP R S M z E;have wX:=gQ J E.size;have⟨axo,axp,axq,axr⟩:=J2 J R.lt S.lt M.lt z.lt;have YE:=N.lt;refine au (av 0)<|aC<|aQ ?_;refine nP [8,9,0,1,2,3,4,5,6,7,10,11,12,13,14] [1,1,4,2,0,4,2,0,0,0,2,0,0,3,0] [(13,0,[0]),(13,1,[1]),(3,2,[2]),(6,2,[4,3,2]),(10,2,[7,4,3,2]),(13,2,[2]),(4,3,[3]),(5,3,[4,3]),(6,3,[4,3]),(7,3,[4,3]),(10,3,[7,4,3]),(11,3,[10,7,4,3]),(12,3,[10,7,4,3]),(13,3,[3]),(14,3,[3]),(6,5,[5]),(10,5,[6,5]),(13,5,[5]),(7,6,[6]),(10,6,[6]),(11,6,[10,6]),(12,6,[10,6]),(13,6,[6]),(14,6,[6]),(11,10,[10]),(12,10,[10]),(13,10,[10]),(14,10,[10]),(14,13,[13])] fun qN Y iM => ?_;have⟨h,d,f,k,ad,U⟩:=oL Y Z aa ab ac N T;refine Rp (.func (.func 205) #[] #[(pt a),(pt b),(pt o),(pt m)]) (fun A=>qp (us := []) (vs := [(pt a),(pt b),(pt o),(pt m)]) rfl rfl rfl)<|Rp (.func (.func 206) #[] #[(pt a),(pt b)]) (fun A=>qp (us := []) (vs := [(pt a),(pt b)]) rfl rfl rfl)<|lI (v := .agg (aA 54 (rv .i64 x))) (by rfl) (by rfl) (mE _) (fun A r=>eB (x:=rv .i64 x) (y:=rv .i64 x) rfl rfl (by kernel_rfl) (by kernel_rfl) (h.aJ.below r (by have:=h.lt; omega)) (i:=0) (by omega) (by omega) (fun j _=>by rw[G_])) ?_;refine lI (v:=av n) (by rfl) (by rfl) (mE _) (fun A r=>bE (x:=fun _=>av n) rfl rfl (by kernel_rfl) (k.aJ.below r (by have:=k.lt; omega)) (i:=0) (by omega) (by omega) rfl) ?_;refine Rs (av i) (aR d.aJ 0) ?_;refine mF (mX (lN hi _) _ rfl (Ln ⟨Below.refl _ _,?_⟩));refine aS aH<|Rs (av j) (aR f.aJ 0) ?_;refine mF (mX (lN q _) _ rfl (Ln ⟨Below.refl _ _,?_⟩));refine aS aH<|mF<|dO (pG x n 205 206 #[(pt a),(pt b),(pt o),(pt m)] #[(pt a),(pt b)] (qH x i j n) (nV i j) _ (by unfold nV; omega) (fun L=>pI L (by unfold nV; omega)) ⟨_,_,func205,rfl,rfl⟩ ⟨_,_,func206,rfl,rfl⟩ (fun L h1 h2 p c=>abk x i j n a b o m p hi (d.cK (Sb c) (u_ d.lt)) (f.cK (Sb c) (u_ f.lt)) (k.cK (Sb c) (u_ k.lt)) (h.cK (Sb c) (u_ h.lt))) (fun p g c=>aaW g a b i j p hi q (d.cK (Sb c) (u_ d.lt)) (f.cK (Sb c) (u_ f.lt)))) _ rfl ?_;intro w6 K;have s7:=Sb K;have⟨ae,af,ag,ah,ai,F⟩:=oL K h d f k ad U;refine Ln ⟨s7.bP,?_⟩;refine aS (.agg (aA 54 (rv .i64 ((dU x n true (qH x i j n) (nV i j)).1))))<|aS (av ((dU x n true (qH x i j n) (nV i j)).2))<|jP<|dY ai 0 fun w7 aj l z6 => ?_;have ak:aM w7 X 54 (rv .i64 ((dU x n true (qH x i j n) (nV i j)).1)) 67:=aO aj;have om:=ae.cK l (by omega);have qb:=af.cK l (by omega);have qV:=ag.cK l (by omega);have mY:=ah.cK l (by omega);have V:=l.below F F.size (by omega);refine Ln (aS (av ((dU x n true (qH x i j n) (nV i j)).2)) (dJ (Wr (⟨.tuple #[.agg (aA 54 (rv .i64 ((dU x n true (qH x i j n) (nV i j)).1))),av ((dU x n true (qH x i j n) (nV i j)).2)],gK Tryz.results189 ⟨_,rfl,aU ak.aJ (by kernel_rfl) (by kernel_rfl)⟩ (by exact rfl),?_⟩))));exact⟨by unfold dX; rw[aal hi,aal q]; rfl,V⟩
end Go.Proofs.YtabjalhnkndjaaaGreatDoor
namespace Go.Proofs.YtabjalhnkndjaaaGreatDoor.Fx
open Go.RowKit
section
variable {P:Program} {n0:Nat} {Q:kR} {f:Nat->Value} {w:World} {ops:Array Oper} {rest:List Oper} {o:Oper}
theorem qB{s:Nat}(d:o.op = .slice T p none none none)(hx:ev f p = .pointer (some ⟨b,k,none⟩))(c:P.underlying T=some (.array m E))(e:(P.info? E).map (·.size)=some s:=by kernel_rfl) :
 cB P f o w (.slice (some ⟨b,k,none⟩) m m):=by
 obtain⟨i,a,g⟩:=Option.map_eq_some_iff.1 e;unfold cB execOp;simp only[d,hx,Option.map_none];by_cases h:m=0
 ·subst h; simp[Instr.sliceAt,Instr.sureAddr,underlying,c,Instr.sliceBounds,sizeOf,typeInfo,a]
 simp[Instr.sliceAt,Instr.sureAddr,underlying,c,Instr.sliceBounds,sizeOf,typeInfo,a,Addr.add,g]
end
end Go.Proofs.YtabjalhnkndjaaaGreatDoor.Fx
namespace Go.Proofs.YtabjalhnkndjaaaGreatDoor
open Go.Proofs.Tryz
open Fx hiding E9 Fa HY Jf Jk L R start
open Go.RowKit Rt
namespace Rt
def nY(v:dA)(l:Int):Bool:=decide (l<=v.bF)&&decide (v.bF<=1125899906842624)
def wO(v:dA):dA:=⟨v.o,v.seq,v.bB,v.aI,0,v.dst,0,v.bK,v.of⟩
def Cn(v:dA):Bool:=decide (0<v.bK)
def U4(v:dA):dA:=⟨v.o,v.seq,v.bB,v.aI,v.node,v.dst,v.bF,0,v.of⟩
def anQ(v:dA):dA:=⟨v.o,v.seq,v.bB,v.aI,v.node,v.dst,v.bF,0,0⟩
def toB(v:dA):Bool:=uM v.dst && !decide (v.dst=v.o)
def RP(v:dA):dA:=⟨v.o,v.seq,v.bB,v.aI,v.node,0,v.bF,v.bK,v.of⟩
end Rt
def Rt.I9(v:dA):Bool:=decide (0<v.bK)&&(decide (0<v.of) && !decide (v.of=v.bK))
theorem FT(n:Int)(w:World) :
 Calls prog 93 #[av n] w fun e w'=>e = .returned (.bool (uM n))/\w'=w:=by
 refine bX func93 9 ?_;refine ay<|au aD<|aC<|ay<|au (av n) ?_;by_cases a:1<=n
 ·refine Lv aH (mW a)<|au aH<|au (av n) ?_;by_cases b:n<=6
  ·refine Lv aH (xq b)<|au aH<|au aH<|aC<|Wr<|aK aH ?_;exact⟨gN (by simp only[uM]; first|(symm; simp; omega)|(symm; simp; done)),rfl⟩
  refine Lv aD (yg b)<|au aD<|au aD<|aC<|Wr<|aK aD ?_;exact⟨gN (by simp only[uM]; first|(symm; simp; omega)|(symm; simp; done)),rfl⟩
 refine Lv aD (mM a)<|au aD<|bf<|bf<|au aD<|au aD<|aC<|Wr<|aK aD ?_;exact⟨gN (by simp only[uM]; first|(symm; simp; omega)|(symm; simp; done)),rfl⟩
theorem Pw(l:Int)(v:dA)(g:Nat)(w:World)(a:aM w g 14 (dH v) 176) :
 Calls prog 121 #[(pt g),av l] w fun e w'=>e = .returned (.bool (nY v l))/\aM w' g 14 (dH (wO v)) 176/\eG g w w':=by
 have P:=a.lt;refine bX func121 30 ?_;refine ay<|au aD<|aC<|ay<|au (pt g)<|au (pt g)<|au (pt g)<|au (pf g 11)<|Lv (av v.bF) (aR a.aJ 11)<|au (av l) ?_;by_cases c:l<=v.bF
 ·refine Lv aH (mW c)<|au aH<|au (pt g)<|au (pt g)<|au (pt g)<|au (pf g 11)<|Lv (av v.bF) (aR a.aJ 11) ?_;by_cases d:v.bF<=1125899906842624
  ·refine Lv aH (xq d)<|au aH<|au aH<|aC<|ay<|au (pt g)<|au (pt g)<|au (pt g)<|au (pt g)<|au (pf g 9)<|jf a 9 (aG 0) fun J p D Q => ?_;have t:aM J g 14 (dH (⟨v.o,v.seq,v.bB,v.aI,0,v.dst,v.bF,v.bK,v.of⟩:dA)) 176:=p.congr (Kvq (by kernel_rfl))
   have f:=(oZ g w).then D (by omega);refine au (pt g)<|au (pt g)<|au (pf g 11)<|jf t 11 (av 0) fun K u E R => ?_;have x:aM K g 14 (dH (⟨v.o,v.seq,v.bB,v.aI,0,v.dst,0,v.bK,v.of⟩:dA)) 176:=u.congr (Kvq (by kernel_rfl))
   have h:=f.then E (by omega);refine aC<|ay<|au aH<|au aH<|aC<|Wr<|aK aH ?_;exact⟨gN (by simp only[nY]; first|(symm; simp; omega)|(symm; simp; done)),x,h⟩
  refine Lv aD (yg d)<|au aD<|au aD<|aC<|ay<|au (pt g)<|au (pt g)<|au (pt g)<|au (pt g)<|au (pf g 9)<|jf a 9 (aG 0) fun L y F S => ?_;have z:aM L g 14 (dH (⟨v.o,v.seq,v.bB,v.aI,0,v.dst,v.bF,v.bK,v.of⟩:dA)) 176:=y.congr (Kvq (by kernel_rfl))
  have i:=(oZ g w).then F (by omega);refine au (pt g)<|au (pt g)<|au (pf g 11)<|jf z 11 (av 0) fun M A G T => ?_;have B:aM M g 14 (dH (⟨v.o,v.seq,v.bB,v.aI,0,v.dst,0,v.bK,v.of⟩:dA)) 176:=A.congr (Kvq (by kernel_rfl))
  have k:=i.then G (by omega);refine aC<|ay<|au aD<|au aD<|aC<|Wr<|aK aD ?_;exact⟨gN (by simp only[nY]; first|(symm; simp; omega)|(symm; simp; done)),B,k⟩
 refine Lv aD (mM c)<|au aD<|bf<|bf<|bf<|bf<|bf<|bf<|au aD<|au aD<|aC<|ay<|au (pt g)<|au (pt g)<|au (pt g)<|au (pt g)<|au (pf g 9)<|jf a 9 (aG 0) fun N C H U => ?_;have q:aM N g 14 (dH (⟨v.o,v.seq,v.bB,v.aI,0,v.dst,v.bF,v.bK,v.of⟩:dA)) 176:=C.congr (Kvq (by kernel_rfl))
 have m:=(oZ g w).then H (by omega);refine au (pt g)<|au (pt g)<|au (pf g 11)<|jf q 11 (av 0) fun O r I V => ?_;have s:aM O g 14 (dH (⟨v.o,v.seq,v.bB,v.aI,0,v.dst,0,v.bK,v.of⟩:dA)) 176:=r.congr (Kvq (by kernel_rfl))
 have n:=m.then I (by omega);refine aC<|ay<|au aD<|au aD<|aC<|Wr<|aK aD ?_;exact⟨gN (by simp only[nY]; first|(symm; simp; omega)|(symm; simp; done)),s,n⟩
theorem Xv(v:dA)(g:Nat)(w:World)(a:aM w g 14 (dH v) 176) :
 Calls prog 122 #[(pt g)] w fun e w'=>e = .returned (.bool (Cn v))/\aM w' g 14 (dH (U4 v)) 176/\eG g w w':=by
 have r:=a.lt;refine bX func122 15 ?_;refine ay<|au aD<|aC<|ay<|au (pt g)<|au (pt g)<|au (pt g)<|au (pf g 12)<|Lv (aG v.bK) (aR a.aJ 12) ?_;by_cases b:0<v.bK
 ·refine Lv aH (lK b)<|au aH<|aC<|ay<|au (pt g)<|au (pt g)<|au (pt g)<|au (pf g 12)<|jf a 12 (aG 0) fun p h m s => ?_;have i:aM p g 14 (dH (⟨v.o,v.seq,v.bB,v.aI,v.node,v.dst,v.bF,0,v.of⟩:dA)) 176:=h.congr (Kvq (by kernel_rfl))
  have c:=(oZ g w).then m (by omega);refine aC<|ay<|au aH<|au aH<|aC<|Wr<|aK aH ?_;exact⟨gN (by simp only[Cn]; first|(symm; simp; omega)|(symm; simp; done)),i,c⟩
 refine Lv aD (lM b)<|au aD<|aC<|ay<|au (pt g)<|au (pt g)<|au (pt g)<|au (pf g 12)<|jf a 12 (aG 0) fun q k n t => ?_;have l:aM q g 14 (dH (⟨v.o,v.seq,v.bB,v.aI,v.node,v.dst,v.bF,0,v.of⟩:dA)) 176:=k.congr (Kvq (by kernel_rfl))
 have d:=(oZ g w).then n (by omega);refine aC<|ay<|au aD<|au aD<|aC<|Wr<|aK aD ?_;exact⟨gN (by simp only[Cn]; first|(symm; simp; omega)|(symm; simp; done)),l,d⟩
theorem aBg(v:dA)(g:Nat)(w:World)(h:aM w g 14 (dH v) 176) :
 Calls prog 123 #[(pt g)] w fun e w'=>e = .returned (.bool (I9 v))/\aM w' g 14 (dH (anQ v)) 176/\eG g w w':=by
 have lg:=h.lt;refine bX func123 32 ?_;refine ay<|au aD<|aC<|aQ ?_;refine zu<|bI (pt g)<|bI (pt g)<|bI (pt g)<|bI (pf g 13)<|Qv (aG v.of) (fun b d=>aR (h.aJ.dr d) 13) ?_;by_cases r:0<v.of
 ·refine Qv aH (fun b d=>lK r)<|bI aH<|bI (pt g)<|bI (pt g)<|bI (pt g)<|bI (pf g 13)<|Qv (aG v.of) (fun b d=>aR (h.aJ.dr d) 13)<|bI (pt g)<|bI (pt g)<|bI (pt g)<|bI (pf g 12)<|Qv (aG v.bK) (fun b d=>aR (h.aJ.dr d) 12) ?_;by_cases q:v.of=v.bK
  ·refine Qv aD (fun b d=>kr q)<|bI aD<|bI aD<|Qn ?_;rintro _ ⟨f,rfl⟩;obtain⟨Z,i⟩ : ∃ b,b=World.drewN w f:=⟨_,rfl⟩;rw[<- i];have y:eG w.heap.size w Z:=(by rw[i]; exact Sb (kQ w f));have H:=bL y.bP h;have B:=(oZ g w).then y (.inr (oZ g w).size);clear i;refine sN<|ay<|au (pt g)<|au (pt g)<|au (pt g)<|au (pf g 13)<|jf H 13 (aG 0) fun W K Q z1 => ?_;have L:aM W g 14 (dH (⟨v.o,v.seq,v.bB,v.aI,v.node,v.dst,v.bF,v.bK,0⟩:dA)) 176:=K.congr (Kvq (by kernel_rfl))
   have C:=B.then Q (by omega);refine aC<|ay<|au (pt g)<|lX (Xv (⟨v.o,v.seq,v.bB,v.aI,v.node,v.dst,v.bF,v.bK,0⟩:dA) g _ L) ?_;rintro e w2 ⟨a,u,R⟩;have m:=C.then R (by omega);by_cases c:Cn (⟨v.o,v.seq,v.bB,v.aI,v.node,v.dst,v.bF,v.bK,0⟩:dA)=true
   ·refine⟨.bool true,by rw[a,c],?_⟩;clear a;refine au aH<|au aD<|au aD<|au aD<|aC<|Wr<|aK aD ?_;exact⟨gN (by simp only[I9,Cn]at *; first|(symm; simp; omega)|(symm; simp at *; omega)|(symm; simp at *; done)),u,m⟩
   rw[R_]at c;refine⟨.bool false,by rw[a,c],?_⟩;clear a;refine au aD<|bf<|au aD<|au aD<|aC<|Wr<|aK aD ?_;exact⟨gN (by simp only[I9,Cn]at *; first|(symm; simp; omega)|(symm; simp at *; omega)|(symm; simp at *; done)),u,m⟩
  refine Qv aH (fun b d=>mO q)<|bI aH<|bI aH<|Qn ?_;rintro _ ⟨f,rfl⟩;obtain⟨aa,k⟩ : ∃ b,b=World.drewN w f:=⟨_,rfl⟩;rw[<- k];have z:eG w.heap.size w aa:=by rw[k]; exact Sb (kQ w f)
  have M:=bL z.bP h;have D:=(oZ g w).then z (.inr (oZ g w).size);clear k;refine sN<|ay<|au (pt g)<|au (pt g)<|au (pt g)<|au (pf g 13)<|jf M 13 (aG 0) fun X N S z2 => ?_;have O:aM X g 14 (dH (⟨v.o,v.seq,v.bB,v.aI,v.node,v.dst,v.bF,v.bK,0⟩:dA)) 176:=N.congr (Kvq (by kernel_rfl))
  have E:=D.then S (by omega);refine aC<|ay<|au (pt g)<|lX (Xv (⟨v.o,v.seq,v.bB,v.aI,v.node,v.dst,v.bF,v.bK,0⟩:dA) g _ O) ?_;rintro e w4 ⟨a,x,T⟩;have n:=E.then T (by omega);by_cases c:Cn (⟨v.o,v.seq,v.bB,v.aI,v.node,v.dst,v.bF,v.bK,0⟩:dA)=true
  ·refine⟨.bool true,by rw[a,c],?_⟩;clear a;refine au aH<|au aH<|au aH<|au aH<|aC<|Wr<|aK aH ?_;exact⟨gN (by simp only[I9,Cn]at *; first|(symm; simp; omega)|(symm; simp at *; omega)|(symm; simp at *; done)),x,n⟩
  rw[R_]at c;refine⟨.bool false,by rw[a,c],?_⟩;clear a;refine au aD<|bf<|au aD<|au aD<|aC<|Wr<|aK aD ?_;exact⟨gN (by simp only[I9,Cn]at *; first|(symm; simp; omega)|(symm; simp at *; omega)|(symm; simp at *; done)),x,n⟩
 refine Qv aD (fun b d=>lM r)<|bI aD<|bD<|bD<|bD<|bD<|bD<|bD<|bD<|bD<|bD<|bD<|bD<|bI aD<|bI aD<|Qn ?_;rintro _ ⟨f,rfl⟩;obtain⟨ab,l⟩ : ∃ b,b=World.drewN w f:=⟨_,rfl⟩;rw[<- l];have A:eG w.heap.size w ab:=by rw[l]; exact Sb (kQ w f)
 have P:=bL A.bP h;have F:=(oZ g w).then A (.inr (oZ g w).size);clear l;refine sN<|ay<|au (pt g)<|au (pt g)<|au (pt g)<|au (pf g 13)<|jf P 13 (aG 0) fun Y I U z3 => ?_;have J:aM Y g 14 (dH (⟨v.o,v.seq,v.bB,v.aI,v.node,v.dst,v.bF,v.bK,0⟩:dA)) 176:=I.congr (Kvq (by kernel_rfl))
 have G:=F.then U (by omega);refine aC<|ay<|au (pt g)<|lX (Xv (⟨v.o,v.seq,v.bB,v.aI,v.node,v.dst,v.bF,v.bK,0⟩:dA) g _ J) ?_;rintro e w6 ⟨a,t,V⟩;have p:=G.then V (by omega);by_cases c:Cn (⟨v.o,v.seq,v.bB,v.aI,v.node,v.dst,v.bF,v.bK,0⟩:dA)=true
 ·refine⟨.bool true,by rw[a,c],?_⟩;clear a;refine au aH<|au aD<|au aD<|au aD<|aC<|Wr<|aK aD ?_;exact⟨gN (by simp only[I9,Cn]at *; first|(symm; simp; omega)|(symm; simp at *; omega)|(symm; simp at *; done)),t,p⟩
 rw[R_]at c;refine⟨.bool false,by rw[a,c],?_⟩;clear a;refine au aD<|bf<|au aD<|au aD<|aC<|Wr<|aK aD ?_;exact⟨gN (by simp only[I9,Cn]at *; first|(symm; simp; omega)|(symm; simp at *; omega)|(symm; simp at *; done)),t,p⟩
theorem asG(v:dA)(g:Nat)(w:World)(a:aM w g 14 (dH v) 176) :
 Calls prog 124 #[(pt g)] w fun e w'=>e = .returned (.bool (toB v))/\aM w' g 14 (dH (RP v)) 176/\eG g w w':=by
 have Q:=a.lt;refine bX func124 28 ?_;refine ay<|au aD<|aC<|aQ ?_;refine rA<|bI (pt g)<|bI (pt g)<|bI (pt g)<|bI (pf g 10)<|Qv (av v.dst) (fun d b=>aR (a.cb b) 10) ?_;by_cases c:(uM v.dst)=true
 ·refine BA (fun _ _=>FT v.dst _) aH (by rw[c])<|bI aH<|bI (pt g)<|bI (pt g)<|bI (pt g)<|bI (pf g 10)<|Qv (av v.dst) (fun d b=>aR (a.cb b) 10)<|bI (pt g)<|bI (pt g)<|bI (pt g)<|bI (pt g)<|Qv (av v.o) (fun d b=>aR (a.cb b) 0) ?_;by_cases f:v.dst=v.o
  ·refine Qv aD (fun d b=>kr f)<|bI aD<|bI aD<|Qn ?_;intro N h;have E:eG w.heap.size w N:=Sb h;have t:=bL h a;have m:=(oZ g w).then E (.inr (oZ g w).size);refine sN<|ay<|au (pt g)<|au (pt g)<|au (pt g)<|au (pf g 10)<|jf t 10 (av 0) fun K u F R => ?_;have x:aM K g 14 (dH (⟨v.o,v.seq,v.bB,v.aI,v.node,0,v.bF,v.bK,v.of⟩:dA)) 176:=u.congr (Kvq (by kernel_rfl))
   have n:=m.then F (by omega);refine aC<|ay<|au aD<|au aD<|aC<|Wr<|aK aD ?_;exact⟨gN (by unfold toB; rw[c]; first|(symm; simp; omega)|(symm; simp; done)),x,n⟩
  refine Qv aH (fun d b=>mO f)<|bI aH<|bI aH<|Qn ?_;intro O i;have G:eG w.heap.size w O:=Sb i;have y:=bL i a;have p:=(oZ g w).then G (.inr (oZ g w).size);refine sN<|ay<|au (pt g)<|au (pt g)<|au (pt g)<|au (pf g 10)<|jf y 10 (av 0) fun L z H S => ?_;have A:aM L g 14 (dH (⟨v.o,v.seq,v.bB,v.aI,v.node,0,v.bF,v.bK,v.of⟩:dA)) 176:=z.congr (Kvq (by kernel_rfl))
  have q:=p.then H (by omega);refine aC<|ay<|au aH<|au aH<|aC<|Wr<|aK aH ?_;exact⟨gN (by unfold toB; rw[c]; first|(symm; simp; omega)|(symm; simp; done)),A,q⟩
 rw[R_]at c;refine BA (fun _ _=>FT v.dst _) aD (by rw[c])<|bI aD<|bD<|bD<|bD<|bD<|bD<|bD<|bD<|bD<|bD<|bD<|bD<|bI aD<|bI aD<|Qn ?_;intro P k;have I:eG w.heap.size w P:=Sb k;have B:=bL k a;have r:=(oZ g w).then I (.inr (oZ g w).size);refine sN<|ay<|au (pt g)<|au (pt g)<|au (pt g)<|au (pf g 10)<|jf B 10 (av 0) fun M C J T => ?_;have D:aM M g 14 (dH (⟨v.o,v.seq,v.bB,v.aI,v.node,0,v.bF,v.bK,v.of⟩:dA)) 176:=C.congr (Kvq (by kernel_rfl))
 have s:=r.then J (by omega);refine aC<|ay<|au aD<|au aD<|aC<|Wr<|aK aD ?_;exact⟨gN (by unfold toB; rw[c]; first|(symm; simp; omega)|(symm; simp; done)),D,s⟩
namespace Rt
def pW(v:dA):Bool :=
 if v.aI=1 then nY v 0 else if v.aI=2 then nY v 1 else if v.aI=3 then nY v 1&&Cn v else if v.aI=4 then I9 v else if v.aI=5 then nY v 1&&toB v else if v.aI=6 then toB v else decide (v.aI=7)
def vY(v:dA):dA :=
 if v.aI=1 then wO v else if v.aI=2 then wO v else if v.aI=3 then U4 (wO v)else if v.aI=4 then anQ v else if v.aI=5 then RP (wO v)else if v.aI=6 then RP v else v
def ado(v:dA):dA:=⟨v.o,v.seq,v.bB,v.aI,0,0,0,0,0⟩
theorem anR(a b:dA):(∀ i,i<14->dH a i=dH b i)<->a.o=b.o/\a.seq=b.seq/\(∀ i,i<6->a.bB i=b.bB i)/\a.aI=b.aI/\a.node=b.node/\a.dst=b.dst/\a.bF=b.bF/\a.bK=b.bK/\a.of=b.of:=by
 constructor
 ·intro h;have c:Value.int .i64 a.o=av b.o:=h 0 (by decide);have d:Value.int .u64 a.seq=aG b.seq:=h 1 (by decide);have k:Value.int .u8 a.aI = .int .u8 b.aI:=h 8 (by decide);have l:Value.int .u64 a.node=aG b.node:=h 9 (by decide);have e:Value.int .i64 a.dst=av b.dst:=h 10 (by decide);have f:Value.int .i64 a.bF=av b.bF:=h 11 (by decide);have g:Value.int .u64 a.bK=aG b.bK:=h 12 (by decide);have j:Value.int .u64 a.of=aG b.of:=h 13 (by decide);simp only[Value.int.injEq,true_and]at c d k l e f g j;refine⟨c,d,fun i hi => ?_,k,l,e,f,g,j⟩;have m:=h (i+2) (by omega)
  grind [rD]
 grind [dH]
theorem Nw{v:dA}(a:pW v=true):(∀ i,i<14->dH (vY v) i=dH (ado v) i)<->zx v=true:=by
 have h:=a;rw[anR];unfold pW at h;unfold vY zx oN ado;simp only[Q_,decide_eq_true_eq];split at h
 ·rename_i k; simp[k,wO,and_assoc]
 split at h
 ·rename_i k1 k; simp[k,wO,and_assoc]
 split at h
 ·simp_all [wO,U4]
 split at h
 ·rename_i k1 k2 k3 k; simp[k,anQ,and_assoc]
 split at h
 ·simp_all [wO,RP]
 split at h
 ·rename_i k1 k2 k3 k4 k5 k; simp[k,RP,and_assoc]
 grind
theorem Ie{v:dA}(h:zx v=true):eU v=pW v:=by
 grind [eU,pW,sP,nY,I9,toB,oO,Cn]
def U5(x:Nat->Int):Nat->Int
 | 0=>x 0
 | k+1=>if x (k+1)>U5 x k then x (k+1)else U5 x k
theorem adp(x:Nat->Int) : ∀ n i,i<=n->x i<=U5 x n
 | 0,i,h=>by rw[show i=0 by omega]; exact M_ _
 | n+1,i,h=>by
   unfold U5;by_cases e:i=n+1
   ·grind
   ·have:=adp x n i (by omega); omega
theorem adq(x:Nat->Int) : ∀ n,∃ i,i<=n/\U5 x n=x i
 | 0=>⟨0,A_ _,rfl⟩
 | n+1=>by
   unfold U5;split
   ·grind
   ·obtain⟨i,hi,e⟩:=adq x n; grind
theorem anS{v:dA}(h:1099511627776<=U5 v.bB 5):Eo v=false:=by
 obtain⟨i,hi,e⟩:=adq v.bB 5
 grind [MH]
theorem Px{v:dA}(h : ¬ 1099511627776<=U5 v.bB 5):Eo v=true :=
 Al (k:=6) (by omega) fun i hi=>by have:=adp v.bB 5 i (by omega); omega
def asH(v:dA)(b:Bool)(a:dA):Prop:=b=pW v/\(b=true->a=vY v)
end Rt
set_option maxHeartbeats 1000000 in
theorem anT(v:dA)(g:Nat)(w:World)(k:aM w g 14 (dH v) 176) :
 Calls prog 95 #[(pt g)] w fun e w' => ∃ b O,e = .returned (.bool b)/\aM w' g 14 (dH O) 176/\eG g w w'/\asH v b O:=by
 have X:=k.lt;refine bX func95 46 ?_;refine ay<|au aD<|aC<|aQ<|ay<|au (pt g)<|au (pt g)<|au (pt g)<|au (pf g 8)<|Lv (.int .u8 (v.aI)) (aR k.aJ 8)<|aC<|Wb<|ay ?_;by_cases c:v.aI=1
 ·refine Lv aH (gU c)<|au aH<|aC<|aP<|ay<|au (pt g)<|lX (Pw 0 _ _ _ k) ?_;rintro e Y ⟨a,G,P⟩;have y:=(oZ g w).then P;by_cases p:nY v 0=true
  ·refine⟨.bool true,by rw[a,p],?_⟩;clear a;refine au aH (aC (Wr (bO (sR (aK aH (⟨_,_,rfl,G,y,Eq.symm (by unfold pW; rw[d_ c,(show nY v 0=true from p)]; try rfl),fun d => ?_⟩))))))
   unfold vY; rw[d_ c]; try rfl
  rw[R_]at p;refine⟨.bool false,by rw[a,p],?_⟩;clear a;refine au aD (aC (Wr (bO (sR (aK aD (⟨_,_,rfl,G,y,Eq.symm (by unfold pW; rw[d_ c,(show nY v 0=false from p)]; try rfl),fun d => ?_⟩))))))
  cases d
 refine Lv aD (gX c)<|au aD<|aC<|aL<|ay ?_;by_cases f:v.aI=2
 ·refine Lv aH (gU f)<|au aH<|aC<|aP<|ay<|au (pt g)<|lX (Pw 1 _ _ _ k) ?_;rintro e Z ⟨a,H,Q⟩;have z:=(oZ g w).then Q;by_cases q:nY v 1=true
  ·refine⟨.bool true,by rw[a,q],?_⟩;clear a;refine au aH (aC (Wr (bO (sR (aK aH (⟨_,_,rfl,H,z,Eq.symm (by unfold pW; rw[b_ c,d_ f,(show nY v 1=true from q)]; try rfl),fun d => ?_⟩))))))
   unfold vY; rw[b_ c,d_ f]; try rfl
  rw[R_]at q;refine⟨.bool false,by rw[a,q],?_⟩;clear a;refine au aD (aC (Wr (bO (sR (aK aD (⟨_,_,rfl,H,z,Eq.symm (by unfold pW; rw[b_ c,d_ f,(show nY v 1=false from q)]; try rfl),fun d => ?_⟩))))))
  cases d
 refine Lv aD (gX f)<|au aD<|aC<|aL<|ay ?_;by_cases h:v.aI=3
 ·refine Lv aH (gU h)<|au aH<|aC<|aP<|ay<|au (pt g)<|lX (Pw 1 _ _ _ k) ?_;rintro e w3 ⟨a,I,R⟩;have A:=(oZ g w).then R;by_cases m:nY v 1=true
  ·refine⟨.bool true,by rw[a,m],?_⟩;clear a;refine au aH<|au (pt g)<|lX (Xv (⟨v.o,v.seq,v.bB,v.aI,0,v.dst,0,v.bK,v.of⟩:dA) g _ I) ?_;rintro e w4 ⟨a,J,S⟩;have B:=A.then S (by omega);by_cases r:Cn (⟨v.o,v.seq,v.bB,v.aI,0,v.dst,0,v.bK,v.of⟩:dA)=true
   ·refine⟨.bool true,by rw[a,r],?_⟩;clear a;refine au aH (au aH (aC (Wr (bO (sR (aK aH (⟨_,_,rfl,J,B,Eq.symm (by unfold pW; rw[b_ c,b_ f,d_ h,(show nY v 1=true from m),(show Cn v=true from r)]; try rfl),fun d => ?_⟩)))))))
    unfold vY; rw[b_ c,b_ f,d_ h]; try rfl
   rw[R_]at r;refine⟨.bool false,by rw[a,r],?_⟩;clear a;refine au aD (au aD (aC (Wr (bO (sR (aK aD (⟨_,_,rfl,J,B,Eq.symm (by unfold pW; rw[b_ c,b_ f,d_ h,(show nY v 1=true from m),(show Cn v=false from r)]; try rfl),fun d => ?_⟩)))))))
   cases d
  rw[R_]at m;refine⟨.bool false,by rw[a,m],?_⟩;clear a;refine au aD (bf (bf (au aD (au aD (aC (Wr (bO (sR (aK aD (⟨_,_,rfl,I,A,Eq.symm (by unfold pW; rw[b_ c,b_ f,d_ h,(show nY v 1=false from m)]; try rfl),fun d => ?_⟩))))))))))
  cases d
 refine Lv aD (gX h)<|au aD<|aC<|aL<|ay ?_;by_cases i:v.aI=4
 ·refine Lv aH (gU i)<|au aH<|aC<|aP<|ay<|au (pt g)<|lX (aBg v g _ k) ?_;rintro e w5 ⟨a,K,T⟩;have C:=(oZ g w).then T (by omega);by_cases s:I9 v=true
  ·refine⟨.bool true,by rw[a,s],?_⟩;clear a;refine au aH (aC (Wr (bO (sR (aK aH (⟨_,_,rfl,K,C,Eq.symm (by unfold pW; rw[b_ c,b_ f,b_ h,d_ i,(show I9 v=true from s)]; try rfl),fun d => ?_⟩))))))
   unfold vY; rw[b_ c,b_ f,b_ h,d_ i]; try rfl
  rw[R_]at s;refine⟨.bool false,by rw[a,s],?_⟩;clear a;refine au aD (aC (Wr (bO (sR (aK aD (⟨_,_,rfl,K,C,Eq.symm (by unfold pW; rw[b_ c,b_ f,b_ h,d_ i,(show I9 v=false from s)]; try rfl),fun d => ?_⟩))))))
  cases d
 refine Lv aD (gX i)<|au aD<|aC<|aL<|ay ?_;by_cases j:v.aI=5
 ·refine Lv aH (gU j)<|au aH<|aC<|aP<|ay<|au (pt g)<|lX (Pw 1 v g _ k) ?_;rintro e w6 ⟨a,L,U⟩;have D:=(oZ g w).then U (by omega);by_cases n:nY v 1=true
  ·refine⟨.bool true,by rw[a,n],?_⟩;clear a;refine au aH<|au (pt g)<|lX (asG (⟨v.o,v.seq,v.bB,v.aI,0,v.dst,0,v.bK,v.of⟩:dA) g _ L) ?_;rintro e w7 ⟨a,M,V⟩;have E:=D.then V (by omega);by_cases t:toB (⟨v.o,v.seq,v.bB,v.aI,0,v.dst,0,v.bK,v.of⟩:dA)=true
   ·refine⟨.bool true,by rw[a,t],?_⟩;clear a;refine au aH (au aH (aC (Wr (bO (sR (aK aH (⟨_,_,rfl,M,E,Eq.symm (by unfold pW; rw[b_ c,b_ f,b_ h,b_ i,d_ j,(show nY v 1=true from n),(show toB v=true from t)]; try rfl),fun d => ?_⟩)))))))
    unfold vY; rw[b_ c,b_ f,b_ h,b_ i,d_ j]; try rfl
   rw[R_]at t;refine⟨.bool false,by rw[a,t],?_⟩;clear a;refine au aD (au aD (aC (Wr (bO (sR (aK aD (⟨_,_,rfl,M,E,Eq.symm (by unfold pW; rw[b_ c,b_ f,b_ h,b_ i,d_ j,(show nY v 1=true from n),(show toB v=false from t)]; try rfl),fun d => ?_⟩)))))))
   cases d
  rw[R_]at n;refine⟨.bool false,by rw[a,n],?_⟩;clear a;refine au aD (bf (bf (au aD (au aD (aC (Wr (bO (sR (aK aD (⟨_,_,rfl,L,D,Eq.symm (by unfold pW; rw[b_ c,b_ f,b_ h,b_ i,d_ j,(show nY v 1=false from n)]; try rfl),fun d => ?_⟩))))))))))
  cases d
 refine Lv aD (gX j)<|au aD<|aC<|aL<|ay ?_;by_cases l:v.aI=6
 ·refine Lv aH (gU l)<|au aH<|aC<|aP<|ay<|au (pt g)<|lX (asG v g _ k) ?_;rintro e w8 ⟨a,N,W⟩;have F:=(oZ g w).then W (by omega);by_cases u:toB v=true
  ·refine⟨.bool true,by rw[a,u],?_⟩;clear a;refine au aH (aC (Wr (bO (sR (aK aH (⟨_,_,rfl,N,F,Eq.symm (by unfold pW; rw[b_ c,b_ f,b_ h,b_ i,b_ j,d_ l,(show toB v=true from u)]; try rfl),fun d => ?_⟩))))))
   unfold vY; rw[b_ c,b_ f,b_ h,b_ i,b_ j,d_ l]; try rfl
  rw[R_]at u;refine⟨.bool false,by rw[a,u],?_⟩;clear a;refine au aD (aC (Wr (bO (sR (aK aD (⟨_,_,rfl,N,F,Eq.symm (by unfold pW; rw[b_ c,b_ f,b_ h,b_ i,b_ j,d_ l,(show toB v=false from u)]; try rfl),fun d => ?_⟩))))))
  cases d
 refine Lv aD (gX l)<|au aD<|aC<|aL<|Wk<|bS<|sN<|ay<|au (pt g)<|au (pt g)<|au (pt g)<|au (pf g 8)<|Lv (.int .u8 (v.aI)) (aR k.aJ 8) ?_;by_cases x:v.aI=7
 ·refine Lv aH (gU x) (au aH (aC (Wr (aK aH (⟨_,_,rfl,k,(oZ g w),Eq.symm (by unfold pW; rw[b_ c,b_ f,b_ h,b_ i,b_ j,b_ l,f_ x]; try rfl),fun d => ?_⟩)))))
  unfold vY; rw[b_ c,b_ f,b_ h,b_ i,b_ j,b_ l]; try rfl
 refine Lv aD (gX x) (au aD (aC (Wr (aK aD (⟨_,_,rfl,k,(oZ g w),Eq.symm (by unfold pW; rw[b_ c,b_ f,b_ h,b_ i,b_ j,b_ l,g_ x]; try rfl),fun d => ?_⟩)))))
 cases d
theorem asI(x:Nat->Int)(b off:Nat)(w:World)(hx:jM w b off 6 (rv .u64 x)) :
 Calls prog 94 #[.slice (some ⟨b,off,none⟩) (6) (6)] w fun e w'=>e = .returned (aG (U5 x 5))/\Below w.heap.size w w':=by
 refine bX func94 25 ?_;refine ay<|au (aG 0)<|aC<|aQ<|ay<|au (.slice (some ⟨b,off,none⟩) (6) (6))<|au (av 6)<|Lv aD DV<|aC<|aL<|Wk<|sN<|ay<|au (.slice (some ⟨b,off,none⟩) (6) (6))<|Lv (pf b off) (fC 1)<|Lv (aG (x 0)) (aR hx 0)<|au (aG (x 0))<|aC<|aQ<|ay<|au (av 1)<|aC<|Wb<|Wo (fun f j => ∃ k:Nat,k<=5/\f 0 = .slice (some ⟨b,off,none⟩) (6) (6)/\f 3=aG (U5 x k)/\f 4=av ((k:Int)+1)/\jM j b off 6 (rv .u64 x)/\Below w.heap.size w j) (fun f _=>(6-(intOf (f 4)).toNat)) ⟨0,by omega,(by rfl),rfl,ic,hx,(Below.refl w.heap.size w)⟩ ?_;rintro m p ⟨k,n,c,h,a,i,d⟩;refine aQ<|ay<|bA a<|bA c<|au (av 6) ?_;by_cases g:((k:Int)+1)<6
 ·refine Lv aH (fK g)<|aC<|aP<|Wk<|sN<|aQ<|Wb<|Wl<|bA h<|bA c<|bA a<|Lv (pf b (k+off+1)) (fC 1)<|Lv (aG (x (k+1))) (aR i (k+1))<|Lv (aG (U5 x (k+1))) (Wj rfl rfl rfl)<|au (aG (U5 x (k+1)))<|Ln<|bS<|sN<|Wl<|bA a<|Lv (av ((k:Int)+2)) gu<|au (av ((k:Int)+2))<|Ln<|iA ⟨k+1,by omega,c,rfl,ic,i,d⟩ ?_;show(6-(intOf (av ((k:Int)+2))).toNat)<_;simp only[a,intOf]; omega
 refine Lv aD (fM g)<|aC<|aL<|Wx<|cZ<|iC<|dB<|sN<|ay<|bA h<|au (aG (U5 x k))<|aC<|Wr<|aK (aG (U5 x k)) ?_;have l:k=5:=by omega
 exact⟨by rw[l],d⟩
theorem Xw{ks:List (Option IntKind)}{y:Nat->Value}(h:Kd ks y)(e : ∀ j,j<ks.length->x j=y j):Kd ks x:=fun i hi=>by rw[e i hi]; exact h i hi
namespace Rt
theorem RQ{v:dA}(h:jB v):jB (ado v):=by
 have z:nU 0:=⟨by decide,by decide⟩;have y:Br 0:=⟨by decide,by decide⟩;exact⟨h.o,h.seq,h.bB,h.aI,z,y,y,z,z⟩
theorem RS{v:dA}(h:jB v):jB (vY v):=by
 have z:nU 0:=⟨by decide,by decide⟩;have y:Br 0:=⟨by decide,by decide⟩;unfold vY;split
 ·exact⟨h.o,h.seq,h.bB,h.aI,z,h.dst,y,h.bK,h.of⟩
 split
 ·exact⟨h.o,h.seq,h.bB,h.aI,z,h.dst,y,h.bK,h.of⟩
 split
 ·exact⟨h.o,h.seq,h.bB,h.aI,z,h.dst,y,z,h.of⟩
 split
 ·exact⟨h.o,h.seq,h.bB,h.aI,h.node,h.dst,h.bF,z,z⟩
 split
 ·exact⟨h.o,h.seq,h.bB,h.aI,z,y,y,h.bK,h.of⟩
 split
 ·exact⟨h.o,h.seq,h.bB,h.aI,h.node,y,h.bF,h.bK,h.of⟩
 exact h
end Rt
set_option maxHeartbeats 2000000 in
theorem Ny(v:dA)(w:World)(G:jB v) :
 Calls prog 62 #[.agg (aA 14 (dH v))] w fun e w'=>e = .returned (.bool (dG v))/\Below w.heap.size w w':=by
 refine bX func62 55 ?_;refine ay<|oq fun g w1 kV t s1 z1 => ?_;have B:=bL s1.bP (Below.refl w.heap.size w);have tJ:=iy kV;have vB:=t.lt;refine au aD<|aC<|aQ<|aQ ?_;refine rA<|bI (pt g)<|Qv (av v.o) (fun f d=>aR (t.cb d) 0) ?_;by_cases l:(uM v.o)=true
 ·obtain⟨a,ha,ea⟩:=gY l;refine BA (fun _ _=>FT v.o _) aH (by rw[l])<|bI aD<|bI aD<|bI (pf g 1)<|Qv (aG v.seq) (fun f d=>aR (t.cb d) 1) ?_;by_cases M:v.seq<1
  ·refine Qv aH (fun f d=>fK M)<|bI aH<|bI aH<|bD<|bD<|bD<|bI aH<|bI aH<|bD<|bD<|bD<|bD<|bD<|bD<|bD<|bD<|bD<|bD<|bI aH<|Qn ?_;intro OC xG;have⟨k,T⟩:=fB xG t B;refine sN<|aP<|ay<|au aD<|aC<|Wr<|sR<|aK aD ?_;have k:decide (1<=v.seq)=false:=g_ (by omega);exact⟨gN (Eq.symm (by unfold dG; rw[l,k]; try rfl)),T⟩
  refine Qv aD (fun f d=>fM M)<|bI aD<|bI aD<|bI (pf g 1)<|Qv (aG v.seq) (fun f d=>aR (t.cb d) 1) ?_;by_cases N:1099511627776<=v.seq
  ·refine Qv aH (fun f d=>mW N)<|bI aH<|bI aH<|bD<|bD<|bD<|bD<|bD<|bD<|bD<|bD<|bD<|bD<|bI aH<|Qn ?_;intro wb2 FC;have⟨m,U⟩:=fB FC t B;refine sN<|aP<|ay<|au aD<|aC<|Wr<|sR<|aK aD ?_;have k:decide (1<=v.seq)=true:=f_ (by omega);have m:decide (v.seq<1099511627776)=false:=g_ (by omega);exact⟨gN (Eq.symm (by unfold dG; rw[l,k,m]; try rfl)),U⟩
  refine Qv aD (fun f d=>mM N)<|bI aD<|bI aD<|bI (pt g)<|Qv (av v.o) (fun f d=>aR (t.cb d) 0)<|Qv (av a) (fun f d=>jK)<|bI (pf g 2)<|Qv (pf g (a+2)) (fun f d=>jh 6 1)<|Qv (aG (v.bB a)) (fun f d=>aR (t.cb d) (a+2) (rD _ (by omega) (by omega)))<|bI (pf g 1)<|Qv (aG v.seq) (fun f d=>aR (t.cb d) 1)<|Qv (aG (v.seq-1)) (fun f d=>jK) ?_;by_cases y:(v.bB a)=(v.seq-1)
  ·refine Qv aD (fun f d=>kr y)<|bI aD<|Qn ?_;intro wb3 FD;have⟨q,V⟩:=fB FD t B;refine sN<|aL<|Wk<|sN<|aQ<|ay<|au (pf g 2)<|Lv (.slice (some ⟨g,2,none⟩) (6) (6)) (qB rfl rfl underlying28 (s:=1) (by kernel_rfl))<|dO (asI v.bB g 2 _ (fun j x=>by have P:=q.aJ (2+j) (by omega); rw[G_]at P; rw[P,rD v (p:=2+j) (j:=j) (by omega) x]; rfl)) _ rfl ?_;intro w2 hb1;have⟨r,I⟩:=fB hb1 q V;by_cases A:1099511627776<=(U5 v.bB 5)
   ·refine Lv aH (mW A)<|aC<|aP<|ay<|au aD<|aC<|Wr<|sR<|aK aD ?_;have k:decide (1<=v.seq)=true:=f_ (by omega);have m:decide (v.seq<1099511627776)=true:=f_ (by omega);have q:decide (v.bB (v.o-1).toNat=v.seq-1)=true:=f_ (by rw[show(v.o-1).toNat=a by omega]; exact y);have r:=anS A;exact⟨gN (Eq.symm (by unfold dG; rw[l,k,m,q,r]; try rfl)),I⟩
   refine Lv aD (mM A)<|aC<|aL<|Wk<|sN<|ay<|Lv (.agg (aA 14 (dH v))) (dZ r.aJ 0)<|au (.agg (aA 14 (bJ zQ0 0 14 (dH v))))<|oq fun z w3 O u s6 z2 => ?_;have⟨C,Z⟩:=fB s6.bP r I;have xw:=gQ O I.size;have abE:=gD O r.lt;have zR:=u.lt;refine au (pt z)<|aC<|aQ ?_;have K:aM w3 z 14 (dH v) 176:=u.congr (Kvq (by kernel_rfl))
   refine W.nC [0,1,2,3,4,5,7,9,11,13,6,8,10,12,14,15,16,17,18] [0,3,0,0,0,0,4,0,4,0,4,0,4,0,4,0,0,0,0] (Mq [176]) Mq.refl Mq.trans (bR := [(2,1,[1]),(3,1,[2,1]),(4,1,[2,1]),(5,1,[2,1]),(7,1,[2,1]),(9,1,[2,1]),(11,1,[2,1]),(13,1,[2,1]),(6,1,[2,1]),(8,1,[2,1]),(10,1,[2,1]),(12,1,[2,1]),(14,1,[2,1]),(15,1,[2,1]),(16,1,[2,1]),(17,1,[2,1]),(18,1,[1])]) (by kernel_rfl) (by kernel_rfl) (by kernel_rfl) (by kernel_rfl) (by kernel_rfl) fun qN eX iM => ?_;have⟨m9,m10,L⟩:=iP eX C K Z;refine aS (pt z)<|jP<|lX (anT v z _ m10) ?_;rintro e w4 ⟨b,v',E,Q,R,F,hkv⟩;have H:=m9.cK R (by omega);have J:=R.below L L.size (by omega)
   cases b
   ·refine⟨.bool false,E,?_⟩;clear E;refine Ln<|aS aD<|Rk (by rfl)<|Rk (by rfl)<|Rk (by rfl)<|Rk (by rfl)<|Rk (by rfl)<|Rk (by rfl)<|Rk (by rfl)<|Rk (by rfl)<|Rk (by rfl)<|Rk (by rfl)<|Rk (by rfl)<|Rk (by rfl)<|Rk (by rfl)<|Rk (by rfl)<|aS aD<|aS aD<|dJ<|Wr<|aK aD ?_;have k:decide (1<=v.seq)=true:=f_ (by omega);have m:decide (v.seq<1099511627776)=true:=f_ (by omega);have q:decide (v.bB (v.o-1).toNat=v.seq-1)=true:=f_ (by rw[show(v.o-1).toNat=a by omega]; exact y);have r:=Px A;have u:zx v=true->eU v=false:=fun h=>by rw[Ie h,<- F]
    have C:(zx v&&eU v)=false:=by cases h:zx v with|false=>rfl|true=>exact u h
    have K:(true&&true&&true&&true&&true&&zx v&&eU v)=false:=C;exact⟨gN (Eq.symm (by unfold dG; rw[l,k,m,q,r,K]; try rfl)),J⟩
   refine⟨.bool true,E,?_⟩;clear E;rw[hkv rfl]at Q;refine Ln<|aS aH<|aS (pt z)<|aS (pt z)<|aS (pt z)<|aS (pt g)<|aS (pf g 1)<|aS (pf g 2)<|aS (pf g 8)<|Rs (.agg (aA 14 (dH (vY v)))) (dZ Q.aJ 0) ?_;refine Rs (av v.o) (aR H.aJ 0) ?_;refine Rs (aG v.seq) (aR H.aJ 1) ?_;refine Rs (.agg (aA 6 (rv .u64 v.bB))) (dZ H.aJ 2 (fun j x=>rD _ (by omega) x)) ?_;refine Rs (.int .u8 (v.aI)) (aR H.aJ 8) ?_;refine aS (.agg (aA 14 (bJ (bJ (bJ (bJ zQ0 0 1 (fun _=>av v.o)) 1 1 (fun _=>aG v.seq)) 2 6 (rv .u64 v.bB)) 8 1 (fun _ => .int .u8 (v.aI))))) ?_;by_cases D : ∀ i,i<14->(dH (vY v)) i=(bJ (bJ (bJ (bJ zQ0 0 1 (fun _=>av v.o)) 1 1 (fun _=>aG v.seq)) 2 6 (rv .u64 v.bB)) 8 1 (fun _ => .int .u8 (v.aI))) i
   ·refine Rp aH (fun f=>qY (n:=14) (ks := [(some .i64),(some .u64),(some .u64),(some .u64),(some .u64),(some .u64),(some .u64),(some .u64),(some .u8),(some .u64),(some .i64),(some .i64),(some .u64),(some .u64)]) (X:=dH (vY v)) (Y:=bJ (bJ (bJ (bJ zQ0 0 1 (fun _=>av v.o)) 1 1 (fun _=>aG v.seq)) 2 6 (rv .u64 v.bB)) 8 1 (fun _ => .int .u8 (v.aI))) 12 true rfl rfl rfl (E5 D) (HZ (RS G)) (Xw (HZ (RQ G)) (fun j x=>by rcases j with _|_|_|_|_|_|_|_|_|_|_|_|_|_|j <;> first|rfl|exact L_ x (by simp))) rfl (by kernel_rfl) (by kernel_rfl) (by kernel_rfl) (by kernel_rfl) (by kernel_rfl))<|aS aH<|aS aH<|dJ<|Wr<|aK aH ?_
    have k:decide (1<=v.seq)=true:=f_ (by omega);have m:decide (v.seq<1099511627776)=true:=f_ (by omega);have q:decide (v.bB (v.o-1).toNat=v.seq-1)=true:=f_ (by rw[show(v.o-1).toNat=a by omega]; exact y);have r:=Px A;have u:=(Nw F.symm).1 (fun i hi=>(D i hi).trans (by rcases i with _|_|_|_|_|_|_|_|_|_|_|_|_|_|i <;> first|rfl|omega))
    have C:=(Ie u).trans F.symm;exact⟨gN (Eq.symm (by unfold dG; rw[l,k,m,q,r,u,C]; try rfl)),J⟩
   refine Rp aD (fun f=>qY (n:=14) (ks := [(some .i64),(some .u64),(some .u64),(some .u64),(some .u64),(some .u64),(some .u64),(some .u64),(some .u8),(some .u64),(some .i64),(some .i64),(some .u64),(some .u64)]) (X:=dH (vY v)) (Y:=bJ (bJ (bJ (bJ zQ0 0 1 (fun _=>av v.o)) 1 1 (fun _=>aG v.seq)) 2 6 (rv .u64 v.bB)) 8 1 (fun _ => .int .u8 (v.aI))) 12 false rfl rfl rfl (nob D) (HZ (RS G)) (Xw (HZ (RQ G)) (fun j x=>by rcases j with _|_|_|_|_|_|_|_|_|_|_|_|_|_|j <;> first|rfl|exact L_ x (by simp))) rfl (by kernel_rfl) (by kernel_rfl) (by kernel_rfl) (by kernel_rfl) (by kernel_rfl))<|aS aD<|aS aD<|dJ<|Wr<|aK aD ?_
   have k:decide (1<=v.seq)=true:=f_ (by omega);have m:decide (v.seq<1099511627776)=true:=f_ (by omega);have q:decide (v.bB (v.o-1).toNat=v.seq-1)=true:=f_ (by rw[show(v.o-1).toNat=a by omega]; exact y);have r:=Px A;have u:zx v=false:=Bool.eq_false_iff.2 (fun h=>D (fun i hi=>((Nw F.symm).2 h i hi).trans (by rcases i with _|_|_|_|_|_|_|_|_|_|_|_|_|_|i <;> first|rfl|omega)))
   exact⟨gN (Eq.symm (by unfold dG; rw[l,k,m,q,r,u]; try rfl)),J⟩
  refine Qv aH (fun f d=>mO y)<|bI aH<|Qn ?_;intro wb4 Nb;have b9:=bL Nb B;refine sN<|aP<|ay<|au aD<|aC<|Wr<|sR<|aK aD ?_;have k:decide (1<=v.seq)=true:=f_ (by omega);have m:decide (v.seq<1099511627776)=true:=f_ (by omega);have q:decide (v.bB (v.o-1).toNat=v.seq-1)=false:=g_ (by rw[show(v.o-1).toNat=a by omega]; exact y);exact⟨gN (Eq.symm (by unfold dG; rw[l,k,m,q]; try rfl)),b9⟩
 rw[R_]at l;refine BA (fun _ _=>FT v.o _) aD (by rw[l])<|bI aH<|bI aH<|bD<|bD<|bD<|bI aH<|bI aH<|bD<|bD<|bD<|bI aH<|bI aH<|bD<|bD<|bD<|bD<|bD<|bD<|bD<|bD<|bD<|bD<|bI aH<|Qn ?_;intro wb5 Xq;have S:=bL Xq B;refine sN<|aP<|ay<|au aD<|aC<|Wr<|sR<|aK aD ?_;exact⟨gN (Eq.symm (by unfold dG; rw[l]; try rfl)),S⟩
namespace Rt
def uV(a b:Int):Int:=if b>a then b else a
def vx(X:Nat->Nat->Int):Nat->Value:=fun p=>aG (X (p / 6) (p % 6))
theorem adr(X:Nat->Nat->Int){i p:Nat}(a:p=6*i)(b:j<6):vx X (p+j)=rv .u64 (X i) j:=by
 subst a;show Value.int .u64 (X ((6*i+j) / 6) ((6*i+j) % 6))=aG (X i j);rw[show(6*i+j) / 6=i by omega,show(6*i+j) % 6=j by omega]
def Ec(c:Int->Int->Int)(X:Nat->Nat->Int):Nat->Nat->Int
 | 0=>X 0
 | k+1=>fun p=>c (Ec c X k p) (X (k+1) p)
def Xx(c:Int->Int->Int)(X:Nat->Nat->Int):Nat->Nat->Int
 | 0=>fun _=>0
 | k+1=>Ec c X k
def Vcs(w:World)(a:Option Addr)(n cap:Nat)(X:Nat->Nat->Int):Prop:=0<n->n<=cap /\ ∃ b c,a=some ⟨b,c,none⟩/\jM w b c (6*n) (vx X)
def uW(x:Nat->Int)(k:Nat):Nat->Int:=fun p=>if p<k then x p else 0
theorem KO(x:Nat->Int)(k:Nat):fZ (uW x k) k (x k)=uW x (k+1):=by
 funext p; unfold fZ uW
 by_cases h:p=k
 ·subst h; rw[d_ rfl,d_]
 rw[b_ h];by_cases a:p<k
 ·rw[d_ a,d_]
 rw[b_ a,b_]
theorem Nz(x:Nat->Int):aA 6 (rv .u64 (uW x 6))=aA 6 (rv .u64 x):=fI fun p a=>K_ (Value.int .u64) (by unfold uW; rw[d_ a])
end Rt
theorem asJ(a b:Int)(w:World) :
 Calls prog 66 #[aG a,aG b] w fun e w'=>e = .returned (aG (uV a b))/\w'=w:=by
 refine bX func66 8 ?_;refine ay<|au (aG 0)<|aC<|ay<|au (aG a)<|au (aG b)<|Lv (aG (uV a b)) (Wj rfl rfl rfl)<|au (aG (uV a b))<|aC<|Wr<|aK (aG (uV a b)) ?_;exact⟨rfl,rfl⟩
theorem ads(x y:Nat->Int)(d go c q:Nat)(w:World)(l:q<6)(j:aM w d 1 (fun _ => .func (.func 66) #[] #[]) 146)(f:aM w go 6 (rv .u64 x) 28)(k:aM w c 6 (rv .u64 y) 28) :
 Calls prog 97 #[av (q:Int),(pt d),(pt go),(pt c)] w fun e w'=>e = .returned (aG (uV (x q) (y q)))/\Below w.heap.size w w':=by
 refine bX func97 14 ?_;refine ay<|au (aG 0)<|aC<|aQ ?_;refine rA<|Qv (.func (.func 66) #[] #[]) (fun b a=>aR (j.cb a) 0)<|bI (av q)<|Qv (pf go q) (fun b a=>jh 6 1)<|Qv (aG (x q)) (fun b a=>aR (f.cb a) q)<|bI (av q)<|Qv (pf c q) (fun b a=>jh 6 1)<|Qv (aG (y q)) (fun b a=>aR (k.cb a) q)<|ET (v:=aG (uV (x q) (y q))) (by rfl) (fun b a=>uJ (args := [aG (x q),aG (y q)]) rfl rfl rfl (all := #[aG (x q),aG (y q)]) rfl func66 rfl rfl) rfl (fun b a=>(asJ (x q) (y q) _).mono fun e n h=>⟨h.1,by rw[h.2]; exact a⟩) ?_;refine bI (aG (uV (x q) (y q)))<|Qn ?_;intro o i;have⟨m,g⟩:=fB i f (Below.refl w.heap.size w);refine sN<|Wr<|aK (aG (uV (x q) (y q))) ?_;exact⟨rfl,g⟩
theorem U7(x y:Nat->Int)(b go c:Nat)(w:World)(z:aM w b 1 (fun _ => .func (.func 66) #[] #[]) 146)(B:aM w go 6 (rv .u64 x) 28)(C:aM w c 6 (rv .u64 y) 28) :
 Calls prog 80 #[.func (.func 97) #[] #[(pt b),(pt go),(pt c)]] w fun e w'=>e = .returned (.agg (aA 6 (rv .u64 (fun p=>uV (x p) (y p)))))/\Below w.heap.size w w':=by
 refine bX func80 14 ?_;refine ay<|DR (m:=6) (y:=rv .u64 (fun _=>0)) (by rfl) rfl (by kernel_rfl) rfl fun a w1 u D Z z1 => ?_;have⟨T,W,X,E⟩:=jv Z.bP z B C (Below.refl w.heap.size w);have tJ:=iy u;have⟨rJ,akx,Ed⟩:=El u z.lt B.lt C.lt;have vB:=D.lt;refine aC<|aQ<|ay<|au (av 0)<|aC<|Wb ?_;have Y:aM w1 a 6 (rv .u64 (uW (fun p=>uV (x p) (y p)) 0)) 28:=D;refine Wo (fun f h => ∃ k:Nat,k<=6/\f 0 = .func (.func 97) #[] #[(pt b),(pt go),(pt c)]/\f 2=(pt a)/\f 4=av (k:Int)/\aM h b 1 (fun _ => .func (.func 66) #[] #[]) 146/\aM h go 6 (rv .u64 x) 28/\aM h c 6 (rv .u64 y) 28/\aM h a 6 (rv .u64 (uW (fun p=>uV (x p) (y p)) k)) 28/\Below w.heap.size w h) (fun f _=>(6-(intOf (f 4)).toNat)) ⟨0,by omega,(by rfl),(by rfl),ic,T,W,X,Y,E⟩ ?_;rintro f1 w2 ⟨k,hk,v,d,g,n,o,q,r,l⟩;refine ay ?_;by_cases t:(k:Int)<6
 ·refine Lv aH (fK t (hx:=g))<|aC<|aQ<|aP<|Wk<|sN<|aQ<|Wb<|ay<|bA g<|au (av k)<|aC<|Wl<|au (av k)<|bA v<|au (av k)<|zW (by rfl) (uJ (args := [av (k:Int)]) rfl rfl rfl (all := #[av (k:Int),(pt b),(pt go),(pt c)]) rfl func97 rfl rfl) rfl<|(ads x y b go c k _ (by omega) n o q).mono ?_;rintro e w3 ⟨A,I⟩;refine⟨aG (uV (x k) (y k)),by rw[A],?_⟩;clear A;have⟨J,K,L,M,s⟩:=oK I n o q r l;refine Lv (pf a k) (jh 6 1 (hx:=d))<|jf M k (aG (uV (x k) (y k))) fun w4 N i z2 => ?_;have O:aM w4 a 6 (rv .u64 (fZ (uW (fun p=>uV (x p) (y p)) k) k (uV (x k) (y k)))) 28:=N.to (yA _ _ _ _);have P:=J.cK i (by omega);have Q:=K.cK i (by omega);have R:=L.cK i (by omega);have F:=i.below s s.size (by omega);refine Ln<|bS<|sN<|Wl<|Lv (av ((k:Int)+1)) (gu (hx:=g))<|au (av ((k:Int)+1))<|Ln ?_;have S:=O.to (K_ (rv .u64) (KO (fun p=>uV (x p) (y p)) k));refine iA ⟨k+1,by omega,v,d,ic,P,Q,R,S,F⟩ ?_;show(6-(intOf (av ((k:Int)+1))).toNat)<_;simp only[g,intOf]; omega
 refine Lv aD (fM t (hx:=g))<|aC<|aQ<|aL<|Wx<|cZ<|iC<|dB<|sN<|ay<|Lv (.agg (aA 6 (rv .u64 (uW (fun p=>uV (x p) (y p)) k)))) (dZ r.aJ 0 (ha:=d))<|dY r 0 (ha:=d) fun w5 U j z3 => ?_;have V:aM w5 a 6 (rv .u64 (uW (fun p=>uV (x p) (y p)) k)) 28:=aO U;have m22:=n.cK j (by omega);have m23:=o.cK j (by omega);have m24:=q.cK j (by omega);have G:=j.below l l.size (by omega);refine aC (Wr (⟨.agg (aA 6 (rv .u64 (uW (fun p=>uV (x p) (y p)) k))),rV Tryz.results80 ⟨_,d,aU V.aJ (by kernel_rfl) (by kernel_rfl)⟩,?_⟩));have H:k=6:=by omega
 exact⟨by rw[H,Nz],G⟩
namespace Rt
def V2(x y:Nat->Int):Nat->Nat->Int
 | 0=>x
 | 1=>y
 | _=>fun _=>0
end Rt
theorem RU(a:Option Addr)(cap:Nat)(w:World) :
 Calls prog 65 #[.slice a (0) (cap),.func (.func 66) #[] #[]] w fun e w'=>e = .returned (.agg (aA 6 (rv .u64 (fun _=>0))))/\Below w.heap.size w w':=by
 refine bX func65 26 ?_;refine ay<|Ej (.func (.func 66) #[] #[]) fun t C j b p E =>have c:=bL p.bP (Below.refl w.heap.size w);have u:=iy j;have A:=b.lt;oJ 6 (rv .u64 (fun _=>0)) fun k D f g q F => ?_;have⟨l,d⟩:=fB q.bP b c;have v:=gQ f c.size;have z:=gD f b.lt;have B:=g.lt;refine aC<|aQ<|ay<|au (.slice a (0) (cap))<|au (av 0)<|Lv aH (gU rfl)<|aC<|aP<|ay<|Lv (.agg (aA 6 (rv .u64 (fun _=>0)))) (Ad (vs := []) (s:=1) (m:=6) (x:=rv .u64 (fun _=>0)) rfl rfl underlying28 (by kernel_rfl) (by kernel_rfl) (by rfl))<|dY g 0 fun r n h G =>have o:aM r k 6 (rv .u64 (fun _=>0)) 28:=aO n;have y:=l.cK h (by omega);have i:=h.below d d.size (by omega);aC (Wr (sR (⟨.agg (aA 6 (rv .u64 (fun _=>0))),rV Tryz.results65 ⟨_,rfl,aU o.aJ⟩,?_⟩)));exact⟨rfl,i⟩
theorem RV(b off m cap:Nat)(X:Nat->Nat->Int)(w:World)(hcap:m+1<=cap)(hm:m<=1000000)(hx:jM w b off (6*(m+1)) (vx X)) :
 Calls prog 65 #[.slice (some ⟨b,off,none⟩) (m+1) (cap),.func (.func 66) #[] #[]] w fun e w'=>e = .returned (.agg (aA 6 (rv .u64 (Ec uV X m))))/\Below w.heap.size w w':=by
 have lb:=hx.lt (by omega);refine bX func65 26 ?_;refine ay<|Ej (.func (.func 66) #[] #[]) fun c w1 Q F s1 z1 => ?_;have⟨T,K⟩:=fB s1.bP hx (Below.refl w.heap.size w);have tJ:=iy Q;have rJ:b≠c:=by rw[Q]; exact u_ (hx.lt (by omega))
 have vB:=F.lt;refine oJ 6 (rv .u64 (fun _=>0)) fun r w2 z I s2 z2 => ?_;have⟨J,Z,L⟩:=iP s2.bP T F K;have xw:=gQ z K.size;have ala:b≠r:=by rw[z]; exact u_ (T.lt (by omega))
 have abD:=gD z F.lt;have zR:=I.lt;refine aC<|aQ<|ay<|au (.slice (some ⟨b,off,none⟩) (m+1) (cap))<|au (av ((m+1:Nat):Int))<|Lv aD Qz<|aC<|aL<|Wk<|sN<|ay<|au (.slice (some ⟨b,off,none⟩) (m+1) (cap))<|Lv (pf b off) (fC 6)<|Lv (.agg (aA 6 (rv .u64 (X 0)))) (dZ J 0 (fun j E=>adr _ (i:=0) (p:=0) (by omega) E))<|oJ 6 (rv .u64 (fun _=>0)) fun a w3 A m6 s3 z3 => ?_;have⟨m7,m8,m9,M⟩:=jv s3.bP J Z I L;have Gc:=gQ A L.size;have aFF:b≠a:=by rw[A]; exact u_ (J.lt (by omega))
 have⟨alb,Xy⟩:=oM A Z.lt I.lt;have Gr:=m6.lt;refine dY m6 0 fun w4 m10 x z4 => ?_;have m11:aM w4 a 6 (rv .u64 (X 0)) 28:=aO m10;have kY:=m7.cK x (by omega);have m13:=m8.cK x (by omega);have m14:=m9.cK x (by omega);have b4:=x.below M M.size (by omega);refine aC<|aQ<|ay<|au (.slice (some ⟨b,off,none⟩) (m+1) (cap))<|Lv (.slice (if cap=1 then some ⟨b,off,none⟩else some ⟨b,off+6,none⟩) (m) (cap-1)) (Uf (j:=1) (b:=b) (off:=off) (len:=m+1) (cap:=cap) (s:=6) rfl rfl rfl underlying144 (by kernel_rfl) (by omega) rfl rfl rfl)<|au (av m)<|au (av 0)<|aC<|Wb ?_;have m15:aM w4 a 6 (rv .u64 (Ec uV X 0)) 28:=m11;refine Wo (fun f n => ∃ k:Nat,k<=m/\f 3=(pt c)/\f 4=(pt r)/\f 5=(pt a)/\f 16 = .slice (if cap=1 then some ⟨b,off,none⟩else some ⟨b,off+6,none⟩) (m) (cap-1)/\f 17=av (m:Int)/\f 18=av (k:Int)/\jM n b off (6*(m+1)) (vx X)/\aM n c 1 (fun _ => .func (.func 66) #[] #[]) 146/\aM n r 6 (rv .u64 (fun _=>0)) 28/\aM n a 6 (rv .u64 (Ec uV X k)) 28/\Below w.heap.size w n) (fun f _=>(m-(intOf (f 18)).toNat)) ⟨0,by omega,(by rfl),(by rfl),(by rfl),(by rfl),ic,ic,kY,m13,m14,m15,b4⟩ ?_;rintro f1 w5 ⟨k,hk,R,C,t,S,D,g,u,G,H,v,o⟩;refine ay ?_;by_cases P:(k:Int)<(m:Int)
 ·refine Lv aH (fK P (hx:=g) (hy:=D))<|aC<|aQ<|aP<|Wk<|sN<|aQ<|Wb<|ay<|Lv (pf b (6*k+off+6)) (fC 6 (hx:=(S.trans (K_ (fun q=>Value.slice q (m) (cap-1)) (b_ (by omega))))) (hi:=g))<|Lv (.agg (aA 6 (rv .u64 (X (k+1))))) (dZ u (6*k+6) (fun j E=>adr _ (i:=k+1) (p:=6*k+6) (by omega) E))<|oJ 6 (rv .u64 (fun _=>0)) fun d w6 B U s5 z5 => ?_;have⟨mG,m22,m23,m24,N⟩:=oK s5.bP u G H v o;have Uw:=gQ B o.size;have aBh:b≠d:=by rw[B]; exact u_ (u.lt (by omega))
  have⟨aBi,aBj,aBk⟩:=El B G.lt H.lt v.lt;have TR:=U.lt;refine dY U 0 fun w7 mU h z6 => ?_;have V:aM w7 d 6 (rv .u64 (X (k+1))) 28:=aO mU;have pO:=mG.cK h (by omega);have W:=m22.cK h (by omega);have qb:=m23.cK h (by omega);have Y:=m24.cK h (by omega);have b7:=h.below N N.size (by omega);refine aC<|Wl<|Lv (.func (.func 97) #[] #[(pt c),(pt a),(pt d)]) (qp (us := []) (vs := [(pt c),(pt a),(pt d)]) rfl rfl (aqQ R t rfl))<|dO (U7 (Ec uV X k) (X (k+1)) c a d _ W Y V) _ rfl ?_;intro w8 hb1;have⟨mY,m32,oD,pz,pQ,O⟩:=oL hb1 pO W qb Y V b7;refine dY pz 0 (ha:=t) fun w9 rE l z7 => ?_;have sD:aM w9 a 6 (rv .u64 (fun p=>uV ((Ec uV X k) p) ((X (k+1)) p))) 28:=aO rE;have qM:=mY.cK l (by omega);have qW:=m32.cK l (by omega);have vk:=oD.cK l (by omega);have pR:=pQ.cK l (by omega);have b9:=l.below O O.size (by omega);refine Ln<|bS<|sN<|Wl<|Lv (av ((k:Int)+1)) (gu (hx:=g))<|au (av ((k:Int)+1))<|Ln<|iA ⟨k+1,by omega,R,C,t,S,(D.trans ic),ic,qM,qW,vk,sD,b9⟩ ?_;show(m-(intOf (av ((k:Int)+1))).toNat)<_;simp only[g,intOf]; omega
 refine Lv aD (fM P (hx:=g) (hy:=D))<|aC<|aQ<|aL<|Wx<|cZ<|iC<|dB<|sN<|ay<|Lv (.agg (aA 6 (rv .u64 (Ec uV X k)))) (dZ v.aJ 0 (ha:=t))<|dY H 0 (ha:=C) fun uE qx y z8 => ?_;have qy:aM uE r 6 (rv .u64 (Ec uV X k)) 28:=aO qx;have uF:=u.cK y (by omega);have sQ:=G.cK y (by omega);have qc:=v.cK y (by omega);have b10:=y.below o o.size (by omega);refine aC (Wr (⟨.agg (aA 6 (rv .u64 (Ec uV X k))),rV Tryz.results65 ⟨_,C,aU qy.aJ (by kernel_rfl) (by kernel_rfl)⟩,?_⟩));have ek:k=m:=by omega
 exact⟨by rw[ek],b10⟩
theorem U8(a:Option Addr)(n cap:Nat)(X:Nat->Nat->Int)(w:World)(g:n<=1000000)(h:Vcs w a n cap X) :
 Calls prog 65 #[.slice a n cap,.func (.func 66) #[] #[]] w fun e w'=>e = .returned (.agg (aA 6 (rv .u64 (Xx uV X n))))/\Below w.heap.size w w':=by
 cases n with
 | zero=>exact RU a cap w
 | succ m=>obtain⟨c,b,f,rfl,d⟩:=h (by omega); exact RV _ _ _ _ _ _ c (by omega) d
theorem anU{X:Nat->Nat->Int}(w':Vcs c h m k X)(f:Below c.heap.size c q):Vcs q h m k X:=fun d=>by
 obtain⟨g,b,i,e,w⟩:=w' d;exact⟨g,b,i,e,w.below f (w.lt (by omega))⟩
theorem adt(a:Option Addr)(n cap:Nat)(X:Nat->Nat->Int)(w:World)(k:n<=1000000)(h:Vcs w a n cap X) :
 Calls prog 24 #[.slice a (n) (cap)] w fun e w'=>e = .returned (.agg (aA 6 (rv .u64 (Xx uV X n))))/\Below w.heap.size w w':=by
 refine bX func24 5 ?_;refine ay<|DR (m:=6) (y:=rv .u64 (fun _=>0)) (by rfl) rfl (by kernel_rfl) rfl fun i v g d q z =>have b:=bL q.bP (Below.refl w.heap.size w);have t:=iy g;have u:=d.lt;aC<|ay<|au (.slice a (n) (cap))<|dO (U8 _ n cap X _ k (anU h b)) _ rfl ?_;intro x j;have⟨l,c⟩:=fB j d b;refine dY l 0 fun s o r A => ?_;have p:aM s i 6 (rv .u64 (Xx uV X n)) 28:=aO o;have f:=r.below c c.size (by omega);refine aC (Wr (⟨.agg (aA 6 (rv .u64 (Xx uV X n))),rV Tryz.results24 ⟨_,rfl,aU p.aJ (by kernel_rfl) (by kernel_rfl)⟩,?_⟩));exact⟨rfl,f⟩
namespace Rt
theorem asK(x y:Nat->Int):bJ (bJ (fun j=>rv .u64 (fun _=>0) (j % 6)) (0*6) 6 (rv .u64 x)) (1*6) 6 (rv .u64 y)=vx (V2 x y):=by
 funext p
 unfold bJ;by_cases b:1*6<=p/\p<1*6+6
 ·rw[d_ b];show _=Value.int .u64 (V2 x y (p / 6) (p % 6));rw[show p / 6=1 by omega,show p-1*6=p % 6 by omega]; rfl
 rw[b_ b];by_cases a:0*6<=p/\p<0*6+6
 ·rw[d_ a];show _=Value.int .u64 (V2 x y (p / 6) (p % 6));rw[show p / 6=0 by omega,show p-0*6=p % 6 by omega]; rfl
 rw[b_ a];show _=Value.int .u64 (V2 x y (p / 6) (p % 6));obtain⟨q,c⟩ : ∃ q,p / 6=q+2:=⟨p / 6-2,by omega⟩;rw[c]; rfl
end Rt
namespace Rt
def RX(K:Nat->Int)(o a:Int):Bool:=uM o&&decide (0<a)&&decide (a<=K (o-1).toNat)
theorem GJ:BS Y X=true <-> ∀ i,i<6->rv .u64 (fun p=>uV (Y p) (X p)) i=rv .u64 X i:=by
 unfold BS;rw[List.all_eq_true];have e : ∀ i,rv .u64 (fun p=>uV (Y p) (X p)) i=rv .u64 X i<->Y i<=X i:=fun i=>by
  show Value.int .u64 (uV (Y i) (X i))=aG (X i)<->_;simp only[Value.int.injEq,true_and]; unfold uV; split <;> omega
 constructor
 ·intro h i hi; have:=h i (N_.2 hi); rw[e]; exact h_ this
 intro h i hi; have:=h i (N_.1 hi); rw[e]at this; exact f_ this
def Kr(K:Nat->Int):Prop := ∀ i,i<6->nU (K i)
theorem Kr.kd(h:Kr X):Kd (List.replicate 6 (some .u64)) (rv .u64 X):=Wm fun i hi=>xk (h i hi)
theorem Kr.mx(h:Kr X)(a:Kr Y):Kr (fun p=>uV (X p) (Y p)):=fun i hi=>by
 have b:=h i hi; have c:=a i hi; show nU (uV (X i) (Y i)); unfold uV; split <;> assumption
end Rt
theorem aib(D K:Nat->Int)(h:aM c m (2*6) x T)(e:x=vx (V2 D K)) :
 Calls prog 24 #[dz m 2 2] c fun e w'=>e = .returned (.agg (aA 6 (rv .u64 fun p=>uV (D p) (K p))))/\Below c.heap.size c w' :=
 adt (some ⟨m,0,none⟩) 2 2 (V2 D K) c (by omega) (fun _=>⟨A_ _,m,0,rfl,(h.to e).aJ⟩)
theorem adu(n:Int)(w:World) :
 Calls prog 125 #[av n] w fun e w'=>e = .returned (.bool (uM n))/\w'=w:=by
 refine bX func125 9 ?_;refine ay<|au aD<|aC<|ay<|au (av n) ?_;by_cases a:1<=n
 ·refine Lv aH (mW a)<|au aH<|au (av n) ?_;by_cases b:n<=6
  ·refine Lv aH (xq b)<|au aH<|au aH<|aC<|Wr<|aK aH<|⟨gN (by simp only[uM]; first|(symm; simp; omega)|(symm; simp; done)),rfl⟩
  refine Lv aD (yg b)<|au aD<|au aD<|aC<|Wr<|aK aD<|⟨gN (by simp only[uM]; first|(symm; simp; omega)|(symm; simp; done)),rfl⟩
 refine Lv aD (mM a)<|au aD<|bf<|bf<|au aD<|au aD<|aC<|Wr<|aK aD<|⟨gN (by simp only[uM]; first|(symm; simp; omega)|(symm; simp; done)),rfl⟩
theorem alc(K:Nat->Int)(o q:Int)(w:World) :
 Calls prog 96 #[.agg (aA 6 (rv .u64 K)),av o,aG q] w fun e w'=>e = .returned (.bool (RX K o q))/\Below w.heap.size w w':=by
 refine bX func96 21 ?_;refine ay<|oq fun k s j i l t =>have f:=bL l.bP (Below.refl w.heap.size w);have p:=iy j;have r:=i.lt;au aD<|aC<|ay<|au (av o) ?_;by_cases b:(uM o)=true
 ·obtain⟨a,n,m⟩:=gY b;refine mX (adu o _) aH (by rw[b])<|au aH<|au (aG q) ?_;by_cases c:0<q
  ·refine Lv aH (lK c)<|au aH<|au aH<|au (av o)<|Lv (av a) jK<|Lv (pf k a) (jh 6 1)<|Lv (aG (K a)) (aR i.aJ a)<|au (aG q) ?_;by_cases g:q<=(K a)
   ·refine Lv aH (mW g)<|au aH<|au aH<|aC<|Wr<|aK aH<|have d:decide (0<q)=true:=f_ c;have h:decide (q<=K (o-1).toNat)=true:=f_ (by rw[show(o-1).toNat=a by omega]; exact g);⟨gN (Eq.symm (by unfold RX; rw[b,d,h]; try rfl)),f⟩
   refine Lv aD (mM g)<|au aD<|au aD<|aC<|Wr<|aK aD<|have d:decide (0<q)=true:=f_ c;have h:decide (q<=K (o-1).toNat)=false:=g_ (by rw[show(o-1).toNat=a by omega]; exact g);⟨gN (Eq.symm (by unfold RX; rw[b,d,h]; try rfl)),f⟩
  refine Lv aD (lM c)<|au aD<|au aD<|bf<|bf<|bf<|bf<|bf<|bf<|au aD<|au aD<|aC<|Wr<|aK aD<|have d:decide (0<q)=false:=g_ c;⟨gN (Eq.symm (by unfold RX; rw[b,d]; try rfl)),f⟩
 rw[R_]at b;refine mX (adu o _) aD (by rw[b])<|au aD<|bf<|bf<|au aD<|au aD<|bf<|bf<|bf<|bf<|bf<|bf<|au aD<|au aD<|aC<|Wr<|aK aD<|⟨gN (Eq.symm (by unfold RX; rw[b]; try rfl)),f⟩
theorem U9(D K:Nat->Int)(w:World)(o:Kr D)(b:Kr K) :
 Calls prog 79 #[.agg (aA 6 (rv .u64 D)),.agg (aA 6 (rv .u64 K))] w fun e w'=>e = .returned (.bool (BS D K))/\Below w.heap.size w w':=by
 refine bX func79 11 ?_;refine ay<|oq fun M w1 E d I z1 => ?_;have f:=bL I.bP (Below.refl w.heap.size w);have Q:=iy E;have W:=d.lt;refine oq fun N w2 l r J z2 =>have⟨H,B⟩:=fB J.bP d f;have R:=gQ l f.size;have T:=gD l d.lt;have Z:=r.lt;au aD<|aC<|aQ<|nP [0,1,4,2,3,5,6] [4,4,2,2,1,0,0] [(2,0,[0]),(3,0,[2,0]),(2,1,[1]),(3,1,[2,1]),(3,2,[2]),(5,2,[3,2]),(6,2,[2]),(5,3,[3]),(6,3,[3])] fun qN F P => ?_;have⟨t,c,g⟩:=iP F H r B;refine Rs (.agg (aA 6 (rv .u64 D))) (dZ t.aJ 0)<|Rs (.agg (aA 6 (rv .u64 K))) (dZ c.aJ 0)<|lI (v := .agg (aA 6 (rv .u64 K))) (by rfl) (by rfl) (mE _) (fun A G=>eB (x:=rv .u64 K) (y:=rv .u64 K) rfl rfl (by kernel_rfl) (by kernel_rfl) (c.aJ.below G (by have:=c.lt; omega)) (i:=0) (by omega) (by omega) (fun j _=>by rw[G_]))<|mF<|uz (vs := [(0,.agg (aA 6 (rv .u64 D))),(1,.agg (aA 6 (rv .u64 K)))]) (s:=6) (zc:=rv .u64 (fun _=>0)) (y:=bJ (bJ (fun j=>(rv .u64 (fun _=>0)) (j % 6)) (0*6) 6 (rv .u64 D)) (1*6) 6 (rv .u64 K)) (by rfl) rfl rfl underlying144 (by kernel_rfl) (by rfl) (by rfl) (by kernel_rfl) (by rw[aT (off:=0*6) (s:=6) (y:=rv .u64 D) rfl (bM _ _)]; rw[aT (off:=1*6) (s:=6) (y:=rv .u64 K) rfl (bM _ _)]; rfl) rfl fun O w3 m u z z3 =>have C:=bL z.bP g;have S:=gQ m g.size;have⟨U,V⟩:=oM m t.lt c.lt;have aa:=u.lt;Ln ⟨z.bP,?_⟩;refine mF<|dO (aib _ _ u (asK D K)) _ rfl ?_;intro w4 q;have L:=Sb q;have k:=bL q C;refine Ln ⟨L.bP,?_⟩;by_cases a : ∀ i,i<6->(rv .u64 (fun p=>uV (D p) (K p))) i=(rv .u64 K) i
 ·refine Rp aH (fun A=>qY (n:=6) (ks:=List.replicate 6 (some .u64)) (X:=rv .u64 (fun p=>uV (D p) (K p))) (Y:=rv .u64 K) 12 true rfl rfl rfl (E5 a) (o.mx b).kd b.kd rfl (by kernel_rfl))<|aS aH<|dJ<|Wr<|aK aH<|⟨gN (Eq.symm (GJ.2 a)),k⟩
 refine Rp aD (fun A=>qY (n:=6) (ks:=List.replicate 6 (some .u64)) (X:=rv .u64 (fun p=>uV (D p) (K p))) (Y:=rv .u64 K) 12 false rfl rfl rfl (nob a) (o.mx b).kd b.kd rfl (by kernel_rfl))<|aS aD<|dJ<|Wr<|aK aD<|⟨gN (Eq.symm (Bool.eq_false_iff.2 (fun h=>a (GJ.1 h)))),k⟩
theorem Rt.RY{v:dA}(h:dG v=true):qG X v=RX X v.o v.seq:=by
 have a:=kM h; have b:=(Jh h).1;unfold qG RX; rw[h,a,show decide (0<v.seq)=true from f_]; rfl
theorem adv(K:Nat->Int)(v:dA)(w:World)(k:jB v) :
 Calls prog 63 #[.agg (aA 6 (rv .u64 K)),.agg (aA 14 (dH v))] w fun e w'=>e = .returned (.bool (qG K v))/\Below w.heap.size w w':=by
 refine bX func63 15 ?_;refine ay<|oq fun B H q c z O =>have f:=bL z.bP (Below.refl w.heap.size w);have C:=iy q;have F:=c.lt;oq fun j I i d A P => ?_;have⟨x,g⟩:=fB A.bP c f;have D:=gQ i f.size;have E:=gD i c.lt;have G:=d.lt;refine au aD<|aC<|ay<|Lv (.agg (aA 14 (dH v))) (dZ d.aJ 0) ?_;by_cases a:(dG v)=true
 ·refine dO (Ny _ _ k) aH (by rw[a]) ?_;intro J r;have⟨y,l,h⟩:=iP r x d g;refine au aH<|Lv (.agg (aA 6 (rv .u64 K))) (dZ y.aJ 0)<|au (pt j)<|Lv (av v.o) (aR l.aJ 0)<|au (pf j 1)<|Lv (aG v.seq) (aR l.aJ 1) ?_;by_cases b:(RX K v.o v.seq)=true
  ·refine dO (alc K v.o v.seq _) aH (by rw[b]) ?_;intro L s;have m:=bL s h;refine au aH<|au aH<|aC<|Wr<|aK aH<|⟨gN (Eq.symm ((RY a).trans b)),m⟩
  rw[R_]at b;refine dO (alc K v.o v.seq _) aD (by rw[b]) ?_;intro M t;have n:=bL t h;refine au aD<|au aD<|aC<|Wr<|aK aD<|⟨gN (Eq.symm ((RY a).trans b)),n⟩
 rw[R_]at a;refine dO (Ny _ _ k) aD (by rw[a]) ?_;intro N u;have p:=bL u g;refine au aD<|bf<|bf<|bf<|bf<|bf<|bf<|au aD<|au aD<|aC<|Wr<|aK aD<|⟨gN (Eq.symm (by unfold qG; rw[a]; rfl)),p⟩
theorem Xz(K:Nat->Int)(v:dA)(w:World)(i:jB v)(q:Kr K) :
 Calls prog 64 #[.agg (aA 6 (rv .u64 K)),.agg (aA 14 (dH v))] w fun e w'=>e = .returned (.bool (fq K v))/\Below w.heap.size w w':=by
 refine bX func64 24 ?_;refine ay<|oq fun z Q y l F W => ?_;have m:=bL F.bP (Below.refl w.heap.size w);have L:=iy y;have O:=l.lt;refine oq fun k R p c G X => ?_;have⟨r,h⟩:=fB G.bP l m;have M:=gQ p m.size;have N:=gD p l.lt;have P:=c.lt;refine au aD<|aC<|aQ ?_;refine rA<|Qv (.agg (aA 14 (dH v))) (fun d b=>dZ (c.cb b) 0) ?_;by_cases f:(dG v)=true
 ·obtain⟨a,I,H⟩:=gY (kM f);have J:=Jh f;refine zo (fun _ _=>Ny v _ i) aH (by rw[f])<|bI aH<|bI (pt k)<|Qv (av v.o) (fun d b=>aR (c.cb b) 0)<|Qv (av a) (fun d b=>jK)<|Qv (pf z a) (fun d b=>jh 6 1)<|Qv (aG (K a)) (fun d b=>aR (r.cb b) a)<|bI (pf k 1)<|Qv (aG v.seq) (fun d b=>aR (c.cb b) 1)<|Qv (aG (v.seq-1)) (fun d b=>jK) ?_;by_cases n:(K a)=(v.seq-1)
  ·refine Qv aH (fun d b=>gU n)<|bI aH<|bI aH<|bI (pf k 2)<|Qv (.agg (aA 6 (rv .u64 v.bB))) (fun d b=>dZ (c.cb b) 2 (fun j E=>rD _ (by omega) E))<|Qv (.agg (aA 6 (rv .u64 K))) (fun d b=>dZ (r.cb b) 0) ?_;by_cases g:(BS v.bB K)=true
   ·refine zo (fun _ _=>U9 v.bB K _ i.bB q) aH (by rw[g])<|bI aH<|bI aH<|Qn ?_;intro S A;have s:=bL A h;refine sN<|Wr<|aK aH ?_;have c:decide (v.seq=K (v.o-1).toNat+1)=true:=f_ (by rw[show(v.o-1).toNat=a by omega]; omega);exact⟨gN (Eq.symm (by unfold fq; rw[f,c,g]; try rfl)),s⟩
   rw[R_]at g;refine zo (fun _ _=>U9 v.bB K _ i.bB q) aD (by rw[g])<|bI aD<|bI aD<|Qn ?_;intro T B;have t:=bL B h;refine sN<|Wr<|aK aD ?_;have c:decide (v.seq=K (v.o-1).toNat+1)=true:=f_ (by rw[show(v.o-1).toNat=a by omega]; omega);exact⟨gN (Eq.symm (by unfold fq; rw[f,c,g]; try rfl)),t⟩
  refine Qv aD (fun d b=>gX n)<|bI aD<|bI aD<|bD<|bD<|bD<|bD<|bI aD<|bI aD<|Qn ?_;intro U C;have u:=bL C h;refine sN<|Wr<|aK aD ?_;have c:decide (v.seq=K (v.o-1).toNat+1)=false:=g_ (by rw[show(v.o-1).toNat=a by omega]; omega);exact⟨gN (Eq.symm (by unfold fq; rw[f,c]; try rfl)),u⟩
 rw[R_]at f;refine zo (fun _ _=>Ny v _ i) aD (by rw[f])<|bI aD<|bD<|bD<|bD<|bD<|bD<|bD<|bD<|bD<|bD<|bI aD<|bI aD<|bD<|bD<|bD<|bD<|bI aD<|bI aD<|Qn ?_;intro V D;have x:=bL D h;refine sN<|Wr<|aK aD ?_;exact⟨gN (Eq.symm (by unfold fq; rw[f]; try rfl)),x⟩
end Go.Proofs.YtabjalhnkndjaaaGreatDoor
