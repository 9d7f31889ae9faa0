/-
  What the proof of the law rests on, part 8: walks of functions, and plain laws; each says its conditions itself.
-/
import Derived.Test.YtabjalhnkndjaaaGreatDoorRows
import Derived.LaidMore
import Derived.OpenShut
import Derived.ProofKit
import Derived.Stop.Joined
import Derived.Test.YtabjalhnkndjaaaGreatDoorZE7
set_option maxRecDepth 20000
set_option linter.unusedVariables false
set_option maxHeartbeats 1600000
set_option linter.unusedSimpArgs false
variable{m k b j:Nat}{c:Go.World}{f q:Option Go.Addr}{a:Int}{h:Bool}{p:List UInt8}{x:Nat->Go.Value}{s:Go.Value}{u:Nat->Bool}{X Y:Nat->Int}{T:Go.TypeId}{K:Go.IntKind}{P:Go.Program}
namespace Go.Proofs.YtabjalhnkndjaaaGreatDoor
open Go.Proofs.Tryz
open Fx hiding E9 Fa HY Jf Jk L R start
open Go.RowKit Rt
theorem ajM(a:Option Addr)(n c:Nat)(l:List UInt8)(p k:Nat)(w:World)(b:k=1\/k=2\/k=4\/k=8)(j:p<=n)(i:n=l.length)(g:n<=c)(h:n<=100000000)(f:Fx.iB w a n 1 (lJ l))(m:n<p+k) :
 Calls prog 78 #[.slice a (n) (c),av (p:Int),av (k:Int)] w fun e d=>e = .returned (.tuple #[aG 0,av 0,av 5])/\Below w.heap.size w d:=by
 refine bX func78 48 ?_;refine ay<|au (aG 0)<|au (av 0)<|au (av 0)<|aC<|aQ<|Wb<|aQ<|ay<|au (av k)<|mX (PW _ (8*k) b rfl _) _ rfl<|Lv aD Qz<|au aD<|aC<|aL<|ay<|au (av p)<|Lv aD DV<|au aD<|aC<|aL<|Wl<|au (av p)<|au (.slice a (n) (c))<|au (av n)<|Lv aD Fb<|au aD<|aC<|aL<|ay<|au (.slice a (n) (c))<|au (av n)<|au (av p)<|Lv (av ((n:Int)-(p:Int))) jK<|au (av k)<|Lv aH Wy<|au aH<|aC<|aP<|ay<|au (aG 0)<|au (av 0)<|au (av 5)<|aC (Wr (bO (sR (⟨.tuple #[aG 0,av 0,av 5],akp Tryz.results78,?_⟩))));exact⟨rfl,(Below.refl w.heap.size w)⟩
theorem ajN(a:Option Addr)(n c:Nat)(l:List UInt8)(p k:Nat)(w:World)(H:k=1\/k=2\/k=4\/k=8)(T:p<=n)(S:n=l.length)(G:n<=c)(R:n<=100000000)(F:Fx.iB w a n 1 (lJ l))(V:p+k<=n) :
 Calls prog 78 #[.slice a (n) (c),av (p:Int),av (k:Int)] w fun e K=>e = .returned (.tuple #[aG (pY ((l.drop p).take k)),av ((p+k:Nat):Int),av 0])/\Below w.heap.size w K:=by
 refine bX func78 48 ?_;refine ay<|au (aG 0)<|au (av 0)<|au (av 0)<|aC<|aQ<|Wb<|aQ<|ay<|au (av k)<|mX (PW k (8*k) H rfl _) _ rfl<|Lv aD Qz<|au aD<|aC<|aL<|ay<|au (av p)<|Lv aD DV<|au aD<|aC<|aL<|Wl<|au (av p)<|au (.slice a (n) (c))<|au (av n)<|Lv aD Fb<|au aD<|aC<|aL<|ay<|au (.slice a (n) (c))<|au (av n)<|au (av p)<|Lv (av ((n:Int)-(p:Int))) jK<|au (av k)<|Lv aD DV<|au aD<|aC<|aL<|Wk<|bS<|sN<|ay<|au (av p)<|au (av k)<|Lv (av ((p+k:Nat):Int)) gu ?_;refine au (av ((p+k:Nat):Int))<|aC<|aQ<|ay<|au (.slice a (n) (c))<|au (av p)<|au (av ((p+k:Nat):Int))<|Fx.L.sl (j:=p) (h:=p+k) (s:=1) (y:=lJ l) (by rfl) (by rfl) rfl rfl (by rw[b_ (by rintro ⟨_,h⟩; cases h)]; exact K_ some rfl) (by rw[b_ (by rintro ⟨_,h⟩; cases h)]; exact K_ some rfl) underlying62 (by kernel_rfl) (by omega) (by omega) G (F.up (Below.refl w.heap.size w) rfl) fun m E => ?_
 obtain⟨d,r⟩ : ∃ q,q=(l.drop p).take k:=⟨_,rfl⟩;have U:d.length=k:=by rw[r]; exact afJ (by omega)
 have I:Fx.iB w m k 1 (lJ d):=by rw[r]; exact afK E (by omega)
 refine Lv (av k) (x_len rfl rfl (K_ (fun q=>Value.slice m q (c-p)) (show(p+k-p)=k by omega)) (by kernel_rfl))<|au (av 0)<|aC<|Wb<|Wo (fun f N => ∃ i:Nat,i<=k/\f 6=aG (pY (d.take i))/\f 7=av ((p+k:Nat):Int)/\f 34 = .slice m (k) (c-p)/\f 35=av (k:Int)/\f 36=av (i:Int)/\Below w.heap.size w N) (fun f _=>(k-(intOf (f 36)).toNat)) ⟨0,by omega,(K_ (Value.int .u64) (show(0:Int)=pY (d.take 0)from rfl)),ic,(K_ (fun q=>Value.slice m q (c-p)) (show(p+k-p)=k by omega)),ic,ic,(Below.refl w.heap.size w)⟩ ?_;rintro O M ⟨i,Q,x,z,A,t,g,o⟩;refine ay ?_;by_cases v:(i:Int)<(k:Int)
 ·refine Lv aH (fK v (hx:=g) (hy:=t))<|aC<|aQ<|aP<|Wk<|sN<|aQ<|Wb<|aQ ?_;have W:=Tq (l:=d) (show i<8 by omega);have P:=afH (d.getD i 0);refine Wl ?_;obtain⟨u,J,D,B⟩:=(I.up o rfl) (by omega);have X:u<M.heap.size:=B.lt (by omega);refine Lv (pf u (i+J)) (fC 1 (hx:=(A.trans (K_ (fun q=>Value.slice q (k) (c-p)) D))) (hi:=g))<|Lv (.int .u8 (((d).getD i 0).toNat:Int)) (aR B i)<|au (.int .u8 (((d).getD i 0).toNat:Int))<|aC<|Wl<|bA x<|Lv (aG (256*pY (d.take i))) (MF (b:=8) rfl rfl rfl (by decide) (jO (by omega) (by omega)))<|au (.int .u8 (((d).getD i 0).toNat:Int))<|Lv (aG (((d).getD i 0).toNat:Int)) (dQ rfl rfl (by kernel_rfl) underlying26 (jO (by omega) rfl))<|Lv (aG (pY (d.take (i+1)))) (ajp rfl rfl rfl (ajJ (by omega) (by omega)))<|au (aG (pY (d.take (i+1))))<|Ln<|bS<|sN<|Wl<|Lv (av ((i:Int)+1)) (gu (hx:=g))<|au (av ((i:Int)+1))<|Ln<|iA ⟨i+1,by omega,(by rfl),(z.trans ic),A,(t.trans ic),ic,o⟩ ?_;show(k-(intOf (av ((i:Int)+1))).toNat)<_;simp only[g,intOf]; omega
 refine Lv aD (fM v (hx:=g) (hy:=t)) (aC (aQ (aL (Wx (cZ (iC (dB (sN (ay (bA x (bA z (au (aG (pY (d.take i))) (au (av ((p+k:Nat):Int)) (au (av 0) (aC (Wr (⟨.tuple #[aG (pY (d.take i)),av ((p+k:Nat):Int),av 0],akp Tryz.results78 (by exact rfl) (by exact rfl) (by exact rfl),?_⟩)))))))))))))))));have C:=List.take_of_length_le (show d.length<=i by omega);exact⟨by rw[<- r,C],o⟩
namespace Rt
def Iu(a:Option Addr)(n c:Nat)(s:Ct):Nat->Value:=fun j=>if j=0 then .slice a n c else if j=1 then av (s.1:Int)else .bool s.2
section
variable {l:List UInt8} {s:Ct} {k n i:Nat}
theorem afL(h:s.2=true\/l.length<s.1+k)(a:s.1<=l.length:=by omega):yu l s k=(s.1,true)/\wS l s k=0:=by
 have h:s.2=true\/l.length-s.1<k:=h.imp id (fun h=>by omega);unfold yu wS; rw[d_ h,d_ h]; exact⟨rfl,rfl⟩
theorem alG(h:s.2=false)(a : ¬ l.length<s.1+k)(b:s.1<=l.length):yu l s k=(s.1+k,false)/\wS l s k=pY ((l.drop s.1).take k):=by
 have h : ¬ (s.2=true\/l.length-s.1<k):=fun q=>q.elim (fun q=>by rw[h]at q; cases q) (fun q=>by omega)
 unfold yu wS; rw[b_ h,b_ h]; exact⟨rfl,rfl⟩
theorem Hq(a:s.1<=l.length):(yu l s k).1<=l.length:=by
 by_cases h:s.2=true\/l.length<s.1+k
 ·rw[(afL h a).1]; exact a
 have b:s.2=false:=by cases e:s.2; rfl; exact L_ (.inl e) h
 rw[(alG b (fun q=>h (.inr q)) a).1]; show s.1+k<=_; have:=fun q=>h (.inr q); omega
theorem qo(a:s.1<=l.length) : ∀ n,(qC l k n s).1<=l.length
 | 0=>a
 | n+1=>Hq (qo a n)
theorem Qa(a:k<=8:=by decide):0<=wS l s k/\wS l s k<=18446744073709551615:=by
 unfold wS;split
 ·exact⟨M_ _,by decide⟩
 exact ajK (by rw[List.length_take]; omega)
end
theorem apM{l:List UInt8}(w:k=1\/k=2\/k=4\/k=8)(a:m<=b)(i:b=l.length)(d:b<=j)(g:b<=100000000)(n:Fx.iB c f b 1 (lJ l)) :
 Calls prog 78 #[.slice f b j,av (m:Int),av (k:Int)] c fun e p=>e = .returned (.tuple #[aG (if l.length<m+k then 0 else pY ((l.drop m).take k)),av (if l.length<m+k then 0 else((m+k:Nat):Int)),av (if l.length<m+k then 5 else 0)])/\Below c.heap.size c p:=by
 by_cases h:l.length<m+k
 ·rw[d_ h,d_ h,d_ h]; exact ajM _ _ _ _ _ _ _ w a i d g n (by omega)
 rw[b_ h,b_ h,b_ h]; exact ajN _ _ _ _ _ _ _ w a i d g n (by omega)
end Rt
theorem vg(b:Nat)(a:Option Addr)(n c:Nat)(l:List UInt8)(s:Ct)(k:Nat)(w:World)(G:k=1\/k=2\/k=4\/k=8)(J:s.1<=n)(I:n=l.length)(F:n<=c)(H:n<=100000000)(E:Fx.iB w a n 1 (lJ l))(o:aM w b 3 (Iu a n c s) 120) :
 Calls prog 45 #[(pt b),av (k:Int)] w fun e z=>e = .returned (aG (wS l s k))/\aM z b 3 (Iu a n c (yu l s k)) 120/\eG b w z:=by
 refine bX func45 42 ?_;refine ay<|au (aG 0)<|aC<|aQ ?_;refine rA<|bI (pt b)<|bI (pt b)<|bI (pt b)<|Qv (.slice a (n) (c)) (fun y h=>aR (o.cb h) 0)<|bI (pt b)<|bI (pt b)<|bI (pf b 1)<|Qv (av s.1) (fun y h=>aR (o.cb h) 1)<|bI (av k)<|zo (fun y h=>apM G J I F H (E.up h rfl)) _ rfl<|bI (.tuple #[aG (if l.length<s.1+k then 0 else pY ((l.drop s.1).take k)),av (if l.length<s.1+k then 0 else((s.1+k:Nat):Int)),av (if l.length<s.1+k then(5:Int)else 0)])<|bI (aG (if l.length<s.1+k then 0 else pY ((l.drop s.1).take k)))<|bI (av (if l.length<s.1+k then 0 else((s.1+k:Nat):Int)))<|bI (av (if l.length<s.1+k then(5:Int)else 0))<|bI (aG (if l.length<s.1+k then 0 else pY ((l.drop s.1).take k)))<|bI (av (if l.length<s.1+k then 0 else((s.1+k:Nat):Int)))<|bI (av (if l.length<s.1+k then(5:Int)else 0))<|Qn ?_;intro Q r;have L:eG w.heap.size w Q:=Sb r;have i:=bL r o;have m:=(oZ b w).then L (.inr (oZ b w).size);refine sN<|aQ<|ay<|au (pt b)<|au (pt b)<|au (pt b)<|au (pf b 2) ?_;by_cases f:s.2=true
 ·refine Lv aH (aR i.aJ 2 ((show _=Value.bool s.2 from rfl).trans (K_ Value.bool f)))<|au aH<|bf<|bf<|au aH<|au (pt b)<|au (pf b 2)<|jf i 2 aH fun R u M V => ?_;have A:=m.then M (by omega);refine aC<|ay<|au (pt b)<|au (pt b)<|au (pf b 2)<|Lv aH (aR u.aJ 2 (nK (by omega)))<|aC<|aP<|ay<|au (aG 0)<|aC<|Wr<|sR<|aK (aG 0) ?_;have d:=afL (l:=l) (s:=s) (k:=k) (.inl f) (by omega);refine⟨by rw[d.2],?_,A⟩;rw[d.1]; exact u.congr (Kvq (by kernel_rfl))
 rw[R_]at f;refine Lv aD (aR i.aJ 2 ((show _=Value.bool s.2 from rfl).trans (K_ Value.bool f)))<|au aD<|au (av (if l.length<s.1+k then(5:Int)else 0)) ?_;by_cases g:(if l.length<s.1+k then(5:Int)else 0)=0
 ·refine Lv aD (kr g)<|au aD<|au (pt b)<|au (pf b 2)<|jf i 2 aD fun S v N W => ?_;have B:=m.then N (by omega);refine aC<|ay<|au (pt b)<|au (pt b)<|au (pf b 2)<|Lv aD (aR v.aJ 2 (nK (by omega)))<|aC<|aL<|Wk<|sN<|ay<|au (pt b)<|au (av (if l.length<s.1+k then 0 else((s.1+k:Nat):Int)))<|au (pt b)<|au (pf b 1)<|jf v 1 (av (if l.length<s.1+k then 0 else((s.1+k:Nat):Int))) fun T K O X => ?_;have C:=B.then O (by omega);refine aC<|ay<|au (aG (if l.length<s.1+k then 0 else pY ((l.drop s.1).take k)))<|au (aG (if l.length<s.1+k then 0 else pY ((l.drop s.1).take k)))<|aC<|Wr<|aK (aG (if l.length<s.1+k then 0 else pY ((l.drop s.1).take k))) ?_;have p : ¬ l.length<s.1+k:=fun q=>by rw[d_ q]at g; exact L_ g (by decide)
  have d:=alG (l:=l) (s:=s) (k:=k) f p (by omega);refine⟨by rw[d.2,b_ p],?_,C⟩;rw[d.1]; exact K.congr (fun j t=>by rw[b_ p]; rcases j with _|_|_|j <;> first|rfl|omega)
 refine Lv aH (mO g)<|au aH<|au (pt b)<|au (pf b 2)<|jf i 2 aH fun U x P Y => ?_;have D:=m.then P (by omega);refine aC<|ay<|au (pt b)<|au (pt b)<|au (pf b 2)<|Lv aH (aR x.aJ 2 (nK (by omega)))<|aC<|aP<|ay<|au (aG 0)<|aC<|Wr<|sR<|aK (aG 0) ?_;have d:=afL (l:=l) (s:=s) (k:=k) (.inr (Classical.byContradiction fun q=>g (b_ q))) (by omega);refine⟨by rw[d.2],?_,D⟩;rw[d.1]; exact x.congr (Kvq (by kernel_rfl))
namespace Rt
theorem Yo(Y:Nat->Value)(off i:Nat)(a:Nat->Value)(d:s=a i) : ∀ j,j<m->dN (bJ Y off i a) (i+off) s j=bJ Y off (i+1) a j:=fun j _=>by
 subst d;unfold dN bJ;by_cases c:j=i+off
 ·rw[d_ c,d_,c,Nat.add_sub_cancel]
 ·rw[b_ c];by_cases b:off<=j/\j<off+i
  ·rw[d_ b,d_]
  ·rw[b_ b,b_]
end Rt
theorem ajO(d b:Nat)(a:Option Addr)(n c:Nat)(l:List UInt8)(s:Ct)(off m k:Nat)(Y:Nat->Value)(w:World)(X:s.1<=n)(B:n=l.length)(K:n<=c)(N:n<=100000000)(W:off+m<=20)(J : ∀ g,ko (fun q=>q=d\/q=b) w g->Fx.iB g a n 1 (lJ l))(r:aM w d 3 (Iu a n c s) 120)(t:aM w b 20 Y 43) :
 Calls prog 46 #[(pt d),.slice (some ⟨b,off,none⟩) (m) (k)] w fun e g=>e = .returned (.tuple #[])/\aM g d 3 (Iu a n c (qC l 8 m s)) 120/\aM g b 20 (bJ Y off m (rv .u64 (bC l s 8))) 43/\ko (fun q=>q=d\/q=b) w g:=by
 have Z:=r.lt;have aa:=t.lt;have ab:d≠b:=fun e=>L_ (Ty.only (e ▸ r.ty) t.ty) (by decide);refine bX func46 16 ?_;refine aQ ?_;have P:aM w b 20 (bJ Y off 0 (rv .u64 (bC l s 8))) 43:=t.congr (fun j _=>(by unfold bJ; rw[b_ (by omega)]));refine Wl<|au (.slice (some ⟨b,off,none⟩) (m) (k))<|au (av m)<|au (av 0)<|aC<|Wb<|Wo (fun f v => ∃ i:Nat,i<=m/\f 0=(pt d)/\f 1 = .slice (some ⟨b,off,none⟩) (m) (k)/\f 5 = .slice (some ⟨b,off,none⟩) (m) (k)/\f 6=av (m:Int)/\f 7=av (i:Int)/\aM v d 3 (Iu a n c (qC l 8 i s)) 120/\aM v b 20 (bJ Y off i (rv .u64 (bC l s 8))) 43/\ko (fun q=>q=d\/q=b) w v) (fun f _=>(m-(intOf (f 7)).toNat)) ⟨0,by omega,(by rfl),(by rfl),(by rfl),ic,ic,r,P,(vR _ w)⟩ ?_;rintro U w1 ⟨i,V,z,A,I,p,h,u,C,o⟩;refine ay ?_;by_cases x:(i:Int)<(m:Int)
 ·refine Lv aH (fK x (hx:=h) (hy:=p))<|aC<|aQ<|aP<|Wk<|sN<|aQ<|Wb<|ay<|bA h<|au (av i)<|aC<|Wl<|bA A<|au (av i)<|bA z<|dO (vg d a n c l (qC l 8 i s) 8 _ (by omega) (by rw[B]; exact qo (by omega) i) B K N (J _ o) u) _ rfl ?_;rintro w2 ⟨O,E⟩;have L:=gJ E u.ty;have D:=jU L C;have G:=o.then E (.inl (.inl rfl));refine Lv (pf b (i+off)) (fC 1)<|jf D (i+off) (aG (bC l s 8 i)) fun T Q F z1 => ?_;have R:aM T b 20 (bJ Y off (i+1) (rv .u64 (bC l s 8))) 43:=Q.congr (Yo _ _ _ _ rfl);have M:=gJ F D.ty;have S:=jU M O;have H:=G.then F (.inl (.inr rfl));refine Ln<|bS<|sN<|Wl<|Lv (av ((i:Int)+1)) (gu (hx:=h))<|au (av ((i:Int)+1))<|Ln<|iA ⟨i+1,by omega,z,A,I,(p.trans ic),ic,S,R,H⟩ ?_;show(m-(intOf (av ((i:Int)+1))).toNat)<_;simp only[h,intOf]; omega
 refine Lv aD (fM x (hx:=h) (hy:=p)) (aC (aQ (aL (Wx (cZ (iC (dB (⟨.tuple #[],jQ Tryz.results46,?_⟩))))))));have y:i=m:=by omega
 exact⟨rfl,by rw[<- y]; exact u,by rw[<- y]; exact C,o⟩
theorem ajP(d b:Nat)(a:Option Addr)(n c:Nat)(l:List UInt8)(s:Ct)(off m k:Nat)(Y:Nat->Value)(w:World)(X:s.1<=n)(B:n=l.length)(K:n<=c)(N:n<=100000000)(W:off+m<=56)(J : ∀ g,ko (fun q=>q=d\/q=b) w g->Fx.iB g a n 1 (lJ l))(r:aM w d 3 (Iu a n c s) 120)(t:aM w b 56 Y 69) :
 Calls prog 47 #[(pt d),.slice (some ⟨b,off,none⟩) (m) (k)] w fun e g=>e = .returned (.tuple #[])/\aM g d 3 (Iu a n c (qC l 8 m s)) 120/\aM g b 56 (bJ Y off m (rv .i64 (fun q=>DJ (bC l s 8 q)))) 69/\ko (fun q=>q=d\/q=b) w g:=by
 have Z:=r.lt;have aa:=t.lt;have ab:d≠b:=fun e=>L_ (Ty.only (e ▸ r.ty) t.ty) (by decide);refine bX func47 17 ?_;refine aQ ?_;have P:aM w b 56 (bJ Y off 0 (rv .i64 (fun q=>DJ (bC l s 8 q)))) 69:=t.congr (fun j _=>(by unfold bJ; rw[b_ (by omega)]));refine Wl<|au (.slice (some ⟨b,off,none⟩) (m) (k))<|au (av m)<|au (av 0)<|aC<|Wb<|Wo (fun f v => ∃ i:Nat,i<=m/\f 0=(pt d)/\f 1 = .slice (some ⟨b,off,none⟩) (m) (k)/\f 5 = .slice (some ⟨b,off,none⟩) (m) (k)/\f 6=av (m:Int)/\f 7=av (i:Int)/\aM v d 3 (Iu a n c (qC l 8 i s)) 120/\aM v b 56 (bJ Y off i (rv .i64 (fun q=>DJ (bC l s 8 q)))) 69/\ko (fun q=>q=d\/q=b) w v) (fun f _=>(m-(intOf (f 7)).toNat)) ⟨0,by omega,(by rfl),(by rfl),(by rfl),ic,ic,r,P,(vR _ w)⟩ ?_;rintro U w1 ⟨i,V,z,A,I,p,h,u,C,o⟩;refine ay ?_;by_cases x:(i:Int)<(m:Int)
 ·refine Lv aH (fK x (hx:=h) (hy:=p))<|aC<|aQ<|aP<|Wk<|sN<|aQ<|Wb<|ay<|bA h<|au (av i)<|aC<|Wl<|bA A<|au (av i)<|bA z<|dO (vg d a n c l (qC l 8 i s) 8 _ (by omega) (by rw[B]; exact qo (by omega) i) B K N (J _ o) u) _ rfl ?_;rintro w2 ⟨O,E⟩;have L:=gJ E u.ty;have D:=jU L C;have G:=o.then E (.inl (.inl rfl));refine Lv (av (DJ (bC l s 8 i))) (dQ rfl rfl (by kernel_rfl) underlying2 rfl)<|Lv (pf b (i+off)) (fC 1)<|jf D (i+off) (av (DJ (bC l s 8 i))) fun T Q F z1 => ?_;have R:aM T b 56 (bJ Y off (i+1) (rv .i64 (fun q=>DJ (bC l s 8 q)))) 69:=Q.congr (Yo _ _ _ _ rfl);have M:=gJ F D.ty;have S:=jU M O;have H:=G.then F (.inl (.inr rfl));refine Ln<|bS<|sN<|Wl<|Lv (av ((i:Int)+1)) (gu (hx:=h))<|au (av ((i:Int)+1))<|Ln<|iA ⟨i+1,by omega,z,A,I,(p.trans ic),ic,S,R,H⟩ ?_;show(m-(intOf (av ((i:Int)+1))).toNat)<_;simp only[h,intOf]; omega
 refine Lv aD (fM x (hx:=h) (hy:=p)) (aC (aQ (aL (Wx (cZ (iC (dB (⟨.tuple #[],jQ Tryz.results47,?_⟩))))))));have y:i=m:=by omega
 exact⟨rfl,by rw[<- y]; exact u,by rw[<- y]; exact C,o⟩
namespace Rt
theorem and1(h:0<=a/\a<=18446744073709551615):bits .and .u64 a 1=a % 2:=by
 obtain⟨n,rfl⟩:=Int.eq_ofNat_of_zero_le h.1;have e:((BitVec.ofInt 64 (n:Int) &&& BitVec.ofInt 64 (1:Int)).toNat:Int)=(n:Int) % 2:=by
  simp_all
 show IntKind.u64.wrap ((BitVec.ofInt 64 (n:Int) &&& BitVec.ofInt 64 (1:Int)).toNat:Int)=_
 grind [jO]
theorem afM(n:Nat):n &&& 2=2*(n / 2 % 2):=by
 have a:(n &&& 2) / 2=n / 2 % 2:=by grind [Nat.and_div_two]
 have b:(n &&& 2) % 2=0:=by rw[Nat.and_mod_two_pow (n:=1)]; simp
 omega
theorem aEb(h:0<=a/\a<=18446744073709551615):bits .and .u64 a 2=2*(a / 2 % 2):=by
 obtain⟨n,rfl⟩:=Int.eq_ofNat_of_zero_le h.1;have e:((BitVec.ofInt 64 (n:Int) &&& BitVec.ofInt 64 (2:Int)).toNat:Int)=2*((n:Int) / 2 % 2):=by
  grind [afM]
 show IntKind.u64.wrap ((BitVec.ofInt 64 (n:Int) &&& BitVec.ofInt 64 (2:Int)).toNat:Int)=_;rw[e]; exact jO (by omega) rfl
section
variable {l:List UInt8} {s:Ct}
theorem Lx(l:List UInt8)(k a:Nat)(s:Ct) : ∀ b,qC l k b (qC l k a s)=qC l k (a+b) s
 | 0=>rfl
 | b+1=>by show yu l (qC l k b (qC l k a s)) k=yu l (qC l k (a+b) s) k; rw[Lx l k a s b]
theorem afN(l:List UInt8)(k a b:Nat)(s:Ct):bC l (qC l k a s) k b=bC l s k (a+b):=by grind [bC,Lx]
theorem Iw(k i:Nat)(a:k<=8:=by decide):wh (bC l s k i):=Qa a
theorem afO(x:Int):FZ (DJ x):=by
 grind [DJ,IntKind.wrap,FZ,IntKind.bits,IntKind.signed]
theorem aEc:0<=wS l s 1/\wS l s 1<=255:=by
 unfold wS;split
 ·omega
 obtain⟨a,b⟩:=P9 ((l.drop s.1).take 1)
 grind
theorem auU:0<=wS l s 2/\wS l s 2<=65535:=by
 unfold wS;split
 ·omega
 obtain⟨a,b⟩:=P9 ((l.drop s.1).take 2)
 grind
def GM(l:List UInt8)(i j:Nat):Bn:=⟨fun q=>if q<i then decide (bC l (s4 l) 1 q % 2=1)else false,fun q=>if q<j then decide (bC l (s4 l) 1 q / 2 % 2=1)else false,fun _=>0,none,0,0,none,0,0⟩
theorem aEd(l:List UInt8) : ∀ j,j<20->dS mz j=dS (GM l 0 0) j:=by grind [mz,GM]
theorem afP{P:Nat->Bool}(a:h=P k):(if m=k then h else if m<k then P m else false)=(if m<k+1 then P m else false):=by
 grind
theorem aac(M:Bn)(hi:m<6) : ∀ j,j<20->dN (dS M) m (.bool h) j=dS { M with dF:=fun q=>if q=m then h else M.dF q } j:=fun j b=>by
 unfold dN;by_cases a:j<6
 ·rw[iX _ a,iX _ a]; show _=Value.bool (if j=m then h else M.dF j); split <;> rfl
 ·rw[b_]; unfold dS; rw[b_ a,b_ a]
theorem Tt(M:Bn){i p:Nat}{v:Bool}(hi:i<6)(c:p=6+i) : ∀ j,j<20->dN (dS M) p (.bool v) j=dS { M with left:=fun q=>if q=i then v else M.left q } j:=fun j d=>by
 subst c;unfold dN;by_cases a:j<6
 ·rw[b_,iX _ a,iX _ a]
 ·by_cases b:j<12
  ·rw[fT (p:=j-6) M,fT (p:=j-6) _];show _=Value.bool (if j-6=i then v else M.left (j-6));by_cases e:j=6+i
   ·rw[d_ e,d_]
   ·rw[b_ e,b_]
  ·rw[b_]; unfold dS; rw[b_ a,b_ a,b_ b,b_ b]
theorem aEe(hi:b<6)(i:h=decide (bC l (s4 l) 1 b % 2=1)) : ∀ j,j<20->dN (dS (GM l b b)) b (.bool h) j=dS (GM l (b+1) b) j:=fun j a=>by
 rw[aac _ hi j a];exact Ls (m := { GM l b b with dF:=fun q=>if q=b then h else(GM l b b).dF q }) (k:=GM l (b+1) b) (fun q _=>afP (P:=fun q=>decide (bC l (s4 l) 1 q % 2=1)) i) (fun _ _=>rfl) (fun _ _=>rfl) rfl rfl j a
theorem apN(hi:b<6)(i:j=6+b)(c:h=decide (bC l (s4 l) 1 b / 2 % 2=1)) : ∀ v,v<20->dN (dS (GM l (b+1) b)) j (.bool h) v=dS (GM l (b+1) (b+1)) v:=fun v a=>by
 rw[Tt _ hi i v a];exact Ls (m := { GM l (b+1) b with left:=fun q=>if q=b then h else(GM l (b+1) b).left q }) (k:=GM l (b+1) (b+1)) (fun _ _=>rfl) (fun q _=>afP (P:=fun q=>decide (bC l (s4 l) 1 q / 2 % 2=1)) c) (fun _ _=>rfl) rfl rfl v a
def GN(l:List UInt8)(d:Option Addr)(f e:Nat)(a:Option Addr)(c b:Nat):Bn:=⟨fun i=>decide (bC l (s4 l) 1 i % 2=1),fun i=>decide (bC l (s4 l) 1 i / 2 % 2=1),fun i=>bC l (oP l) 8 i,d,f,e,a,c,b⟩
theorem ajQ(l:List UInt8) : ∀ j,j<20->bJ (dS (GM l 6 6)) 12 6 (rv .u64 (bC l (oP l) 8)) j=dS (GN l none 0 0 none 0 0) j:=fun j e=>by
 unfold bJ;by_cases c:12<=j/\j<12+6
 ·rw[d_ c]; exact(fA (p:=j-12) (q:=j) (GN l none 0 0 none 0 0)).symm
 ·rw[b_ c];by_cases a:j<6
  ·rw[iX _ a,iX _ a]; exact K_ Value.bool (d_ a)
  ·by_cases b:j<12
   ·rw[fT (p:=j-6) _,fT (p:=j-6) _]; exact K_ Value.bool (d_)
   ·have d : ¬ j<18:=(by omega);unfold dS; rw[b_ a,b_ a,b_ b,b_ b,b_ d,b_ d]; rfl
theorem apO(M:Bn):dS M 18 = .slice M.na M.nn M.nc:=by rfl
theorem afQ(M:Bn):dS M 19 = .slice M.ga M.gn M.gc:=by rfl
theorem aEf{i:Option Addr}{g d c:Nat} : ∀ h,h<20->dN (dS (GN l i m k q d c)) 18 (.slice f j g) h=dS (GN l f j g q d c) h:=fun h b=>by
 unfold dN;by_cases e:h=18
 ·subst e; rw[d_ rfl,apO]; rfl
 ·rw[b_ e];by_cases a:h<6
  ·rw[iX _ a,iX _ a]; rfl
  ·by_cases n:h<12
   ·rw[fT (p:=h-6) _,fT (p:=h-6) _]; rfl
   ·by_cases o:h<18
    ·rw[fA (p:=h-12) _,fA (p:=h-12) _]; rfl
    ·have:h=19:=(by omega);subst this; rw[afQ,afQ]; rfl
theorem auV:dS (GN l f (CB l).1.length m q (gsV l).1.length b)=dS (dR (uq l) f m q b):=by rfl
def Je(l:List UInt8)(s:Ct)(q:Nat):iK:=⟨bC l s 8 0,bC l s 8 1,fun p=>if p<6*q then DJ (bC l s 8 (2+p))else 0⟩
theorem CQ(x:iK)(h:j=m+2):iI x j=av (x.R m):=by simp_all [iI,mV]
theorem ajR(f:m<9) : ∀ j,j<56->bJ (iI (Je l s m)) (2+6*m) 6 (rv .i64 (fun i=>DJ (bC l (qC l 8 (2+6*m) s) 8 i))) j=iI (Je l s (m+1)) j:=fun j e=>by
 unfold bJ;by_cases b:j=0
 ·subst b; rw[b_]; rfl
 ·by_cases d:j=1
  ·subst d; rw[b_]; rfl
  ·obtain⟨p,rfl⟩ : ∃ p,j=p+2:=⟨j-2,by omega⟩;rw[CQ (Je l s (m+1)) rfl];show _=Value.int .i64 (if p<6*(m+1)then DJ (bC l s 8 (2+p))else 0);by_cases c:2+6*m<=p+2/\p+2<2+6*m+6
   ·rw[d_ c,d_];show Value.int .i64 (DJ (bC l (qC l 8 (2+6*m) s) 8 (p+2-(2+6*m))))=_;rw[afN,show 2+6*m+(p+2-(2+6*m))=2+p by omega]
   ·rw[b_ c,CQ (Je l s m) rfl];show Value.int .i64 (if p<6*m then DJ (bC l s 8 (2+p))else 0)=_;by_cases a:p<6*m
    ·rw[d_ a,d_]
    ·rw[b_ a,b_]
theorem apP : ∀ j,j<56->iI (Je l s 9) j=iI (Gl l s) j:=fun j a=>by
 match j,a with
 | 0,_=>rfl
 | 1,_=>rfl
 | p+2,a=>rw[CQ (Je l s 9) rfl,CQ (Gl l s) rfl]; exact K_ (Value.int .i64) (d_)
theorem Tv(h:0<m)(a:s.2=false):DK l m s=(Gl l s::(DK l (m-1) (ndS l s)).1,(DK l (m-1) (ndS l s)).2):=by
 cases m with
 | zero=>cases h
 | succ m =>
   grind [DK]
theorem Yp{r:Nat}(h:r=0\/s.2=true):DK l r s=([],s):=by
 cases r with
 | zero=>rfl
 | succ r =>
   grind [DK]
theorem ajS{α:Type}{b a:List α}{x:α}{t:List α}{S:Ct}{p:List α × Ct}(h:b++p.1=a)(e:p=(x::t,S)):(b ++ [x])++t=a:=by simp_all
theorem VW : ∀(n:Nat) (s:Ct),(∀ x∈(DK l n s).1,NdR x)/\(DK l n s).1.length<=n
 | 0,s=>⟨fun x a=>(nomatch a),A_ _⟩
 | n+1,s=>by
   unfold DK;split
   ·simp_all
   ·obtain⟨c,b⟩:=VW n (ndS l s);refine⟨fun x a => ?_,Nat.succ_le_succ b⟩
    rcases List.mem_cons.1 a with rfl|a
    ·exact⟨Iw _ _,Iw _ _,fun p _=>afO _⟩
    simp_all
theorem VX : ∀(n:Nat) (s:Ct),(∀ x∈(ZW l n s).1,GrR x)/\(ZW l n s).1.length<=n
 | 0,s=>⟨fun x a=>(nomatch a),A_ _⟩
 | n+1,s=>by
   unfold ZW;split
   ·simp_all
   ·obtain⟨c,b⟩:=VX n (grS l s);refine⟨fun x a => ?_,Nat.succ_le_succ b⟩
    rcases List.mem_cons.1 a with rfl|a
    ·have := @aEc l s;exact⟨⟨by show -9223372036854775808<=wS l s 1; omega,by show wS l s 1<=9223372036854775807; omega⟩,Iw _ _,Iw _ _,afO _,Iw _ _⟩
    simp_all
theorem alH:nnV l<=65535:=by simp_all [nnV,auU]
theorem Tx:gnV l<=65535:=by simp_all [gnV,auU]
theorem alI:Tk (uq l):=⟨fun i _=>Iw _ _,(VW _ _).1,(VX _ _).1⟩
theorem Qb:(uq l).ns.length<=65535/\(uq l).gs.length<=65535:=⟨m_ (VW _ _).2 alH,m_ (VX _ _).2 Tx⟩
end
open Classical in
theorem Yq(h:ZX p):uw p=uq p/\ajn p=0:=⟨d_ h,d_ h⟩
open Classical in
theorem apQ(l:List UInt8):Tk (uw l)/\(uw l).ns.length<=65535/\(uw l).gs.length<=65535:=by
 unfold uw; split
 ·exact⟨alI,Qb⟩
 exact⟨afr,J_ _,J_ _⟩
end Rt
end Go.Proofs.YtabjalhnkndjaaaGreatDoor
namespace Go.Proofs.YtabjalhnkndjaaaGreatDoor
namespace PU
def bw(x:Bool):vo:=if x then 1#32 else 0#32
def S(t:vo)(x:Nat->Bool):Nat->vo
 | 0=>t
 | n+1=>cK (S t x n ^^^ bw (x n))
end PU
end Go.Proofs.YtabjalhnkndjaaaGreatDoor
namespace Go.Proofs.YtabjalhnkndjaaaGreatDoor
open Go.RowKit Rt
namespace Rt
theorem Tz(m:jA):ze m=P8++(EN m++(oC m.aF 6++(be 2 m.ns.length++(m.ns.flatMap ndB++(be 2 m.gs.length++(m.gs.flatMap grB++be 4 (PU.I (PU.sum (Cy m))))))))):=by
 unfold ze Cy; simp only[List.append_assoc]; rfl
end Rt
namespace Rt
theorem apR(e : ∀ p,p<54->X p=Y p)(a:k<6):Rt.L X k=Rt.L Y k:=by
 grind [Rt.L,Rt.G,Rt.F,Rt.C,Rt.R]
theorem afR(e : ∀ p,p<54->X p=Y p)(h:iV X=true):iV Y=true:=by
 obtain⟨b,c,j⟩:=(mh X).1 h;refine(mh Y).2 ⟨fun p a=>by rw[<- e p a]; exact b p a,fun k d => ?_,?_⟩
 ·obtain⟨f,g,i⟩:=c k d
  grind [apR,Rt.F,Rt.C,Rt.R]
 grind [xE,Rt.G]
theorem F8{p q:Nat->Bool} : ∀ n,(∀ i,i<n->p i=q i)->gF p n=gF q n
 | 0,_=>rfl
 | n+1,h=>by
   show(if 0<=gF p n then gF p n else if p n then(n:Int)else -1)=(if 0<=gF q n then gF q n else if q n then(n:Int)else -1);rw[F8 n (fun i a=>h i (by omega)),h n (by omega)]
structure LA(a b:List iK):Prop where
 n:a.length=b.length
 i : ∀ k,k<a.length->(bY a k).id=(bY b k).id
 p : ∀ k,k<a.length->(bY a k).par=(bY b k).par
theorem LA.node{a b:List iK}(h:LA a b)(x:Int):og a x=og b x:=by
 grind [og,h.n,F8,h.i]
theorem LA.ends{a b:List iK}(h:LA a b) : ∀(f:Nat) (x:Int),qK a f x=qK b f x
 | 0,_=>rfl
 | f+1,x=>by
   show(if x=0 then true else if og a x<0 then false else qK a f (bY a (og a x).toNat).par)=(if x=0 then true else if og b x<0 then false else qK b f (bY b (og b x).toNat).par);rw[<- h.node x];split
   ·rfl
   ·split
    ·rfl
    ·rename_i h1 h2;obtain⟨j,c,e,_⟩:=aeU (l:=a) (x:=x) (by omega);rw[e,Int.toNat_natCast,h.p j c]; exact LA.ends h f _
theorem jg.i{a b:jA}(h:jg a b):LA a.ns b.ns:=⟨h.nn,fun k c=>(h.n k c).1,fun k c=>(h.n k c).2.1⟩
theorem Ll.qU{a b:List iK}(h:LA a b){g:jD}(k:Ll a g):Ll b g:=by
 obtain⟨c,d,e,l,f,i,j⟩:=k;exact⟨c,d,e,by grind [h.node],f,i,j⟩
theorem vN.qU{a b:jA}(h:jg a b)(ha:vN a):vN b where
 kn:=fun i d=>by rw[<- h.aF i d]; exact ha.kn i d
 nn:=by grind [h.nn,ha.nn]
 gn:=by grind [h.gn,ha.gn]
 nr:=fun k c=>by
  rw[<- h.nn]at c;rw[<- (h.n k (by omega)).1,<- (h.n (k+1) c).1]; exact ha.nr k c
 gr:=fun k c=>by
  rw[<- h.gn]at c;rw[<- h.g k (by omega),<- h.g (k+1) c]; exact ha.gr k c
 li:=fun i d p=>by rw[<- h.dF i d]; grind [h.left,ha.li]
 nd:=fun k c=>by
  rw[<- h.nn]at c;obtain⟨j,e,l⟩:=ha.nd k c;obtain⟨m,o,f⟩:=h.n k c;exact⟨by omega,afR f e,by grind [h.i.ends]⟩
 gd:=fun k c=>by
  rw[<- h.gn]at c;rw[<- h.g k c]; grind [Ll.qU,h.i,ha.gd]
theorem jg.symm{a b:jA}(h:jg a b):jg b a:=⟨fun i c=>(h.dF i c).symm,fun i c=>(h.left i c).symm,fun i c=>(h.aF i c).symm,h.nn.symm,h.gn.symm,fun k d=>by rw[<- h.nn]at d; obtain⟨e,f,j⟩:=h.n k d; exact⟨e.symm,f.symm,fun p l=>(j p l).symm⟩,fun k d=>by grind [h.gn,h.g]⟩
theorem Hr(m:jA):(ze m).length=66+448*m.ns.length+33*m.gs.length:=by grind [ze,F7,EO]
end Rt
namespace Rt
theorem Qc(a b:Int):ou a b=ou b a:=by grind [ou]
theorem afS{x y:iK}(h1 : ¬ x.id<y.id)(a : ¬ y.id<x.id)(b:x.par=y.par):BI x y=BI y x:=by
 unfold BI yJ; grind [Qc]
theorem aak(x:jD) : ¬ kg x x:=by grind [kg]
theorem ajT{x y:jD}(h1 : ¬ kg x y)(a : ¬ kg y x):x.o=y.o/\x.r=y.r:=by grind [kg]
theorem LC{x y:jD}:gH x y<->gH y x:=by grind [gH]
theorem afT{x y:jD}(h1 : ¬ kg x y)(a : ¬ kg y x)(b : ¬ gH x y):CF x y=CF y x:=by
 grind [ajT,gH,CF,Qc]
theorem TA(a b:List iK):cO a b=cO b a:=by
 induction a,b using cO.induct with
 | case1 b=>grind [CO]
 | case2 x a=>grind [CO]
 | case3 x a y b c ih =>
   rw[afb (a:=x::a) (b:=y::b) (by simp) (by simp) c,afc (a:=y::b) (b:=x::a) (by simp) (by simp) c]
   simp_all
 | case4 x a y b c c2 ih =>
   rw[afc (a:=x::a) (b:=y::b) (by simp) (by simp) c2,afb (a:=y::b) (b:=x::a) (by simp) (by simp) c2]
   simp_all
 | case5 x a y b c c2 c3 =>
   rw[afd (a:=x::a) (b:=y::b) (by simp) (by simp) c c2 c3,afd (a:=y::b) (b:=x::a) (by simp) (by simp) c2 c (fun e=>c3 (show x.par=y.par from Eq.symm e))]
 | case6 x a y b c c2 c3 ih =>
   grind [cO,afS]
theorem TD(a b:List jD):dw a b=dw b a:=by
 induction a,b using dw.induct with
 | case1 b=>grind [ER]
 | case2 x a=>grind [ER]
 | case3 x a y b c ih =>
   rw[afe (a:=x::a) (b:=y::b) (by simp) (by simp) c,aff (a:=y::b) (b:=x::a) (by simp) (by simp) c]
   simp_all
 | case4 x a y b c c2 ih =>
   rw[aff (a:=x::a) (b:=y::b) (by simp) (by simp) c2,afe (a:=y::b) (b:=x::a) (by simp) (by simp) c2]
   simp_all
 | case5 x a y b c c2 c3 =>
   rw[afg (a:=x::a) (b:=y::b) (by simp) (by simp) c c2 c3,afg (a:=y::b) (b:=x::a) (by simp) (by simp) c2 c (LC.1 c3)]
 | case6 x a y b c c2 c3 ih =>
   grind [LC,dw,afT]
theorem VY(a b:jA)(l:List iK)(g:List jD):xR a b l g=xR b a l g:=by
 grind [xR,Qc]
theorem VZ(a b:jA):gM a b=gM b a:=by
 grind [gM,TA,TD,VY]
theorem aad(a:jA):jg a a:=⟨fun _ _=>rfl,fun _ _=>rfl,fun _ _=>rfl,rfl,rfl,fun _ _=>⟨rfl,rfl,fun _ _=>rfl⟩,fun _ _=>rfl⟩
end Rt
namespace Rt
section
variable {α:Type}
structure TF(lt:α->α->Prop)(J:α->α->α):Prop where
 irr : ∀ x,¬ lt x x
 tr : ∀ x y z,lt x y->lt y z->lt x z
 le : ∀ x y z,lt x y -> ¬ lt z y -> ¬ lt y z->lt x z
 el : ∀ x y z,¬ lt x y -> ¬ lt y x->lt y z->lt x z
 jl : ∀ x y,¬ lt x y -> ¬ lt y x -> ¬ lt (J x y) x /\ ¬ lt x (J x y)
inductive Mg (lt:α->α->Prop) (bad:α->α->Prop) (J:α->α->α):List α->List α->List α->Prop
 | nil (b:List α):Mg lt bad J [] b b
 | apS (x:α) (a:List α):Mg lt bad J (x::a) [] (x::a)
 | l {x y:α} {a b q:List α}:lt x y->Mg lt bad J a (y::b) q->Mg lt bad J (x::a) (y::b) (x::q)
 | r {x y:α} {a b q:List α} : ¬ lt x y->lt y x->Mg lt bad J (x::a) b q->Mg lt bad J (x::a) (y::b) (y::q)
 | j {x y:α} {a b q:List α} : ¬ lt x y -> ¬ lt y x -> ¬ bad x y->Mg lt bad J a b q->Mg lt bad J (x::a) (y::b) (J x y::q)
def Qd(lt:α->α->Prop)(x y:α):Prop := ¬ lt x y /\ ¬ lt y x
def LY(lt:α->α->Prop)(l:List α):Prop:=l.Pairwise lt
variable {lt:α->α->Prop} {bad:α->α->Prop} {J:α->α->α}
theorem Qd.symm{x y:α}(h:Qd lt x y):Qd lt y x:=⟨h.2,h.1⟩
theorem TF.auW(K:TF lt J){x y z:α}(h:Qd lt x y)(a:Qd lt y z):Qd lt x z:=⟨fun q=>a.1 (K.el y x z h.2 h.1 q),fun q=>a.2 (K.le z x y q h.2 h.1)⟩
theorem Mg.mem(K:TF lt J){a b l:List α}(h:Mg lt bad J a b l):LY lt a->LY lt b->LY lt l /\
 (∀ z,z∈l<->(z∈a /\ ∀ y∈b,¬ Qd lt z y)\/(z∈b /\ ∀ x∈a,¬ Qd lt x z) \/ ∃ x∈a,∃ y∈b,Qd lt x y/\z=J x y):=by
 induction h with
 | nil b =>
   simp_all
 | apS x a =>
   simp_all
 | @l x y a b q hxy hq ih =>
   intro k m;obtain⟨n,t⟩:=List.pairwise_cons.1 k;obtain⟨w,u⟩:=List.pairwise_cons.1 m;obtain⟨s,i⟩:=ih t m;have A : ∀ f∈y::b,lt x f:=fun f g=>by
    grind [K.tr]
   have o : ∀ z∈q,lt x z:=fun z p=>by
    rcases(i z).1 p with ⟨h,_⟩|⟨h,_⟩|⟨c,d,f,g,e,rfl⟩
    ·simp_all
    ·grind
    ·exact K.le _ _ _ (n c d) (K.jl c f e.1 e.2).1 (K.jl c f e.1 e.2).2
   refine⟨List.pairwise_cons.2 ⟨o,s⟩,fun z => ?_⟩;rw[List.mem_cons,i z];constructor
   ·rintro (rfl|⟨h,h2⟩|⟨h,h2⟩|⟨c,d,f,g,e,rfl⟩)
    ·exact .inl ⟨List.mem_cons_self ..,fun f g e=>e.1 (A f g)⟩
    ·simp_all
    ·exact .inr (.inl ⟨h,fun c d e=>by
      rcases List.mem_cons.1 d with rfl|d
      ·exact e.1 (A z h)
      simp_all⟩)
    grind
   ·rintro (⟨h,h2⟩|⟨h,h2⟩|⟨c,d,f,g,e,rfl⟩)
    ·grind
    ·simp_all
    ·rcases List.mem_cons.1 d with rfl|d
     ·exact L_ (A f g) e.1
     grind
 | @r x y a b q hxy hyx hq ih =>
   intro k m;obtain⟨n,t⟩:=List.pairwise_cons.1 k;obtain⟨w,u⟩:=List.pairwise_cons.1 m;obtain⟨s,i⟩:=ih k u;have v : ∀ c∈x::a,lt y c:=fun c d=>by
    grind [K.tr]
   have o : ∀ z∈q,lt y z:=fun z p=>by
    rcases(i z).1 p with ⟨h,_⟩|⟨h,_⟩|⟨c,d,f,g,e,rfl⟩
    ·grind
    ·simp_all
    ·exact K.le _ _ _ (v c d) (K.jl c f e.1 e.2).1 (K.jl c f e.1 e.2).2
   refine⟨List.pairwise_cons.2 ⟨o,s⟩,fun z => ?_⟩;rw[List.mem_cons,i z];constructor
   ·rintro (rfl|⟨h,h2⟩|⟨h,h2⟩|⟨c,d,f,g,e,rfl⟩)
    ·exact .inr (.inl ⟨List.mem_cons_self ..,fun c d e=>e.2 (v c d)⟩)
    ·exact .inl ⟨h,fun f g e=>by
      rcases List.mem_cons.1 g with rfl|g
      ·exact e.2 (v z h)
      simp_all⟩
    ·simp_all
    grind
   ·rintro (⟨h,h2⟩|⟨h,h2⟩|⟨c,d,f,g,e,rfl⟩)
    ·simp_all
    ·grind
    ·rcases List.mem_cons.1 g with rfl|g
     ·exact L_ (v c d) e.2
     grind
 | @j x y a b q hxy hyx hbad hq ih =>
   intro k m;obtain⟨n,t⟩:=List.pairwise_cons.1 k;obtain⟨w,u⟩:=List.pairwise_cons.1 m;obtain⟨s,i⟩:=ih t u;have E:Qd lt x y:=⟨hxy,hyx⟩;have B:=K.jl x y hxy hyx;have F:Qd lt (J x y) x:=B;have C : ∀ f∈b,lt x f:=fun f g=>K.el x y f hxy hyx (w f g);have D : ∀ c∈a,lt y c:=fun c d=>K.el y x c hyx hxy (n c d);have o : ∀ z∈q,lt (J x y) z:=fun z p=>by
    refine K.el _ x z B.1 B.2 ?_
    rcases(i z).1 p with ⟨h,_⟩|⟨h,_⟩|⟨c,d,f,g,e,rfl⟩
    ·simp_all
    ·simp_all
    ·exact K.le _ _ _ (n c d) (K.jl c f e.1 e.2).1 (K.jl c f e.1 e.2).2
   refine⟨List.pairwise_cons.2 ⟨o,s⟩,fun z => ?_⟩;rw[List.mem_cons,i z];constructor
   ·rintro (rfl|⟨h,h2⟩|⟨h,h2⟩|⟨c,d,f,g,e,rfl⟩)
    ·simp_all
    ·exact .inl ⟨List.mem_cons_of_mem _ h,fun f g e=>by
      rcases List.mem_cons.1 g with rfl|g
      ·exact e.2 (D z h)
      simp_all⟩
    ·exact .inr (.inl ⟨List.mem_cons_of_mem _ h,fun c d e=>by
      rcases List.mem_cons.1 d with rfl|d
      ·exact e.1 (C z h)
      simp_all⟩)
    grind
   ·rintro (⟨h,h2⟩|⟨h,h2⟩|⟨c,d,f,g,e,rfl⟩)
    ·grind
    ·grind
    ·rcases List.mem_cons.1 d with rfl|d
     ·rcases List.mem_cons.1 g with rfl|g
      ·simp_all
      ·exact L_ (C f g) e.1
     ·rcases List.mem_cons.1 g with rfl|g
      ·exact L_ (D c d) e.2
      grind
theorem LY.ext(K:TF lt J) : ∀ {a b:List α},LY lt a->LY lt b->(∀ z,z∈a<->z∈b)->a=b
 | [],[],_,_,_=>rfl
 | [],y::b,_,_,h=>by grind [List.mem_cons_self]
 | x::a,[],_,_,h=>by grind [List.mem_cons_self]
 | x::a,y::b,ha,hb,h=>by
   obtain⟨d,g⟩:=List.pairwise_cons.1 ha;obtain⟨f,i⟩:=List.pairwise_cons.1 hb;have e:x=y:=by
    rcases List.mem_cons.1 ((h x).1 (List.mem_cons_self ..))with e|hx
    ·exact e
    ·rcases List.mem_cons.1 ((h y).2 (List.mem_cons_self ..))with e|hy
     ·exact e.symm
     ·exact L_ (K.tr _ _ _ (d y hy) (f x hx)) (K.irr x)
   subst e;rw[LY.ext K g i fun z=>⟨fun c => ?_,fun c => ?_⟩]
   ·rcases List.mem_cons.1 ((h z).1 (List.mem_cons_of_mem _ c))with e|hz2
    ·exact L_ (e ▸ d z c) (K.irr x)
    ·exact hz2
   ·rcases List.mem_cons.1 ((h z).2 (List.mem_cons_of_mem _ c))with e|hz2
    ·exact L_ (e ▸ f z c) (K.irr x)
    ·exact hz2
end
end Rt
namespace Rt
def Yr(x y:iK):Prop:=x.id<y.id
def auX(x y:iK):Prop:=x.par≠y.par
theorem kN:TF Yr BI:=⟨fun x=>by unfold Yr; omega,fun x y z a b=>by grind [Yr],fun x y z a b c=>by grind [Yr],fun x y z a b c=>by grind [Yr],fun x y _ _=>⟨Int.lt_irrefl _,Int.lt_irrefl _⟩⟩
theorem kGS:TF kg CF:=⟨aak,fun x y z a b=>by grind [kg],fun x y z a b c=>by grind [kg],fun x y z a b c=>by grind [kg],fun x y _ _=>⟨aak x,aak x⟩⟩
theorem mgN{a b l:List iK}(h:cO a b=some l):Mg Yr auX BI a b l:=by
 induction a,b using cO.induct generalizing l with
 | case1 b=>rw[cO]at h; cases h; exact .nil _
 | case2 x a=>rw[cO]at h; cases h; exact .apS _ _
 | case3 x a y b c ih=>rw[cO,d_ c]at h; obtain⟨q,d,rfl⟩:=Option.map_eq_some_iff.1 h; exact .l c (ih d)
 | case4 x a y b c c2 ih=>rw[cO,b_ c,d_ c2]at h; obtain⟨q,d,rfl⟩:=Option.map_eq_some_iff.1 h; exact .r c c2 (ih d)
 | case5 x a y b c c2 c3=>grind [cO]
 | case6 x a y b c c2 c3 ih=>rw[cO,b_ c,b_ c2,b_ c3]at h; obtain⟨q,d,rfl⟩:=Option.map_eq_some_iff.1 h; exact .j c c2 c3 (ih d)
theorem mgG{a b l:List jD}(h:dw a b=some l):Mg kg gH CF a b l:=by
 induction a,b using dw.induct generalizing l with
 | case1 b=>rw[dw]at h; cases h; exact .nil _
 | case2 x a=>rw[dw]at h; cases h; exact .apS _ _
 | case3 x a y b c ih=>rw[dw,d_ c]at h; obtain⟨q,d,rfl⟩:=Option.map_eq_some_iff.1 h; exact .l c (ih d)
 | case4 x a y b c c2 ih=>rw[dw,b_ c,d_ c2]at h; obtain⟨q,d,rfl⟩:=Option.map_eq_some_iff.1 h; exact .r c c2 (ih d)
 | case5 x a y b c c2 c3=>grind [dw]
 | case6 x a y b c c2 c3 ih=>rw[dw,b_ c,b_ c2,b_ c3]at h; obtain⟨q,d,rfl⟩:=Option.map_eq_some_iff.1 h; exact .j c c2 c3 (ih d)
theorem auY(a b:List iK)(h : ∀ x∈a,∀ y∈b,Qd Yr x y -> ¬ auX x y) : ∃ l,cO a b=some l:=by
 induction a,b using cO.induct with
 | case1 b=>simp_all [CO]
 | case2 x a=>simp_all [CO]
 | case3 x a y b c ih =>
   grind [cO]
 | case4 x a y b c c2 ih =>
   grind [cO]
 | case5 x a y b c c2 c3=>exact L_ c3 (h x (List.mem_cons_self ..) y (List.mem_cons_self ..) ⟨c,c2⟩)
 | case6 x a y b c c2 c3 ih =>
   grind [cO]
theorem auZ(a b:List jD)(h : ∀ x∈a,∀ y∈b,Qd kg x y -> ¬ gH x y) : ∃ l,dw a b=some l:=by
 induction a,b using dw.induct with
 | case1 b=>simp_all [ER]
 | case2 x a=>simp_all [ER]
 | case3 x a y b c ih =>
   grind [dw]
 | case4 x a y b c c2 ih =>
   grind [dw]
 | case5 x a y b c c2 c3=>exact L_ c3 (h x (List.mem_cons_self ..) y (List.mem_cons_self ..) ⟨c,c2⟩)
 | case6 x a y b c c2 c3 ih =>
   grind [dw]
end Rt
end Go.Proofs.YtabjalhnkndjaaaGreatDoor
namespace Go.Proofs.YtabjalhnkndjaaaGreatDoor
open Go.RowKit Rt
section
namespace Rt
def ndC(L:iQ)(k:Nat):iK:=⟨L.id k,L.par k,L.R k⟩
def grC(L:iQ)(k:Nat):jD:=⟨L.g k 0,L.g k 1,L.g k 2,L.g k 3,L.g k 4⟩
def yw(L:iQ):jA:=⟨L.dF,L.left,L.aF,(List.range L.nn).map (ndC L),(List.range L.gn).map (grC L)⟩
def DL(M:Ab)(y:Int):iK:=⟨y,M.par y,M.R y⟩
def zQ(M:Ab)(o r:Int):jD:=⟨o,r,M.g o r 2,M.g o r 3,M.g o r 4⟩
section
variable {A B M:Ab} {m:fO} {L:iQ} {ev:Nat->dA} {an k N:Nat} {K K':Nat->Int} {x y o r:Int}
theorem vP(L:iQ):(yw L).ns.length=L.nn:=by grind [yw]
theorem xW(L:iQ):(yw L).gs.length=L.gn:=by grind [yw]
theorem Yt{α:Type}{f:Nat->α}{d:α}(hi:k<b):((List.range b).map f).getD k d=f k:=by
 simp_all
theorem Bc(h:k<L.nn):bY (yw L).ns k=ndC L k:=Yt h
theorem LD(h:k<L.gn):dK (yw L).gs k=grC L k:=Yt h
theorem V4(c:Inv0 L N):LY Yr (yw L).ns:=by
 unfold yw LY; rw[List.pairwise_map];exact(List.pairwise_lt_range (n:=L.nn)).imp_of_mem fun {a b} _ hb hab=>c.GD a b hab (N_.1 hb)
theorem afU(c:wP L)(ha:k<L.gn)(d:b<L.gn)(h:pX (L.g k)<pX (L.g b)):kg (grC L k) (grC L b):=by
 have e:=(c.wf k ha).1;have f:=(c.wf b d).1;unfold pX at h;unfold nU at e f;show L.g k 0<L.g b 0\/L.g k 0=L.g b 0/\L.g k 1<L.g b 1;omega
theorem LG(c:wP L):LY kg (yw L).gs:=by
 unfold yw LY; rw[List.pairwise_map];exact(List.pairwise_lt_range (n:=L.gn)).imp_of_mem fun {a b} ha hb hab=>afU c (N_.1 ha) (N_.1 hb) (c.up a b hab (N_.1 hb))
theorem Jz.ns(h:Jz m L N)(z:iK):z∈(yw L).ns <-> ∃ y,(eY m).has y=true/\z=DL (eY m) y:=by
 have e : ∀ i,i<L.nn->m.T.has (L.id i)=true/\ndC L i=DL (eY m) (L.id i):=fun i c=>by
  have a:=(h.s.T.has _).2 ⟨i,c,rfl⟩;have b:bQ m (L.id i)=L.R i:=by grind [bQ,h.s.row]
  refine⟨a,?_⟩;show iK.mk _ _ _=iK.mk _ (m.T.par (L.id i)) (bQ m (L.id i));rw[h.s.T.par i c,b]
 show z∈(List.range L.nn).map (ndC L)<->_;rw[List.mem_map];constructor
 ·rintro ⟨i,c,rfl⟩;exact⟨L.id i,(e i (N_.1 c)).1,(e i (N_.1 c)).2⟩
 rintro ⟨y,d,rfl⟩;obtain⟨i,c,rfl⟩:=(h.s.T.has y).1 d
 grind
theorem Jz.gs(h:Jz m L N)(z:jD):z∈(yw L).gs <-> ∃ o r,(eY m).gh o r=true/\z=zQ (eY m) o r:=by
 have e : ∀ i,i<L.gn->grC L i=zQ (eY m) (L.g i 0) (L.g i 1):=fun i a=>by
  have b:=(h.s.ZT a).2;show jD.mk _ _ _ _ _=jD.mk _ _ ((eY m).g _ _ 2) ((eY m).g _ _ 3) ((eY m).g _ _ 4)
  simp_all
 show z∈(List.range L.gn).map (grC L)<->_;rw[List.mem_map];constructor
 ·rintro ⟨i,a,rfl⟩;exact⟨_,_,(h.s.ZT (N_.1 a)).1,e i (N_.1 a)⟩
 rintro ⟨o,r,c,rfl⟩;obtain⟨j,k,d,f⟩:=nk.1 c
 grind [h.s.g2]
theorem aae{a b l:List iK}(H:LY Yr a)(I:LY Yr b)(J:LY Yr l)(i : ∀ z,z∈a <-> ∃ y,A.has y=true/\z=DL A y)(j : ∀ z,z∈b <-> ∃ y,B.has y=true/\z=DL B y)(F : ∀ z,z∈l <-> ∃ y,M.has y=true/\z=DL M y)
 (s : ∀ y,M.has y=(A.has y || B.has y)) (pa : ∀ y,A.has y=true->M.par y=A.par y) (o : ∀ y,B.has y=true->M.par y=B.par y) (r : ∀ y p,M.R y p=ou (A.R y p) (B.R y p))
 (K : ∀ y p,A.has y=false->A.R y p=0) (L : ∀ y p,B.has y=false->B.R y p=0) (an : ∀ y p,0<=A.R y p) (N : ∀ y p,0<=B.R y p):cO a b=some l:=by
 have q : ∀ y,A.has y=true->B.has y=true->DL M y=BI (DL A y) (DL B y):=fun y d f=>by
  show iK.mk _ _ _=iK.mk y (A.par y) (yJ (A.R y) (B.R y));rw[pa y d,show M.R y=yJ (A.R y) (B.R y)from funext (r y)]
 have U : ∀ y,A.has y=true->B.has y=false->DL M y=DL A y:=fun y d f=>by
  show iK.mk _ _ _=iK.mk y (A.par y) (A.R y);rw[pa y d,show M.R y=A.R y from funext fun p=>by grind [He]]
 have V : ∀ y,A.has y=false->B.has y=true->DL M y=DL B y:=fun y d f=>by
  show iK.mk _ _ _=iK.mk y (B.par y) (B.R y);rw[o y f,show M.R y=B.R y from funext fun p=>by grind [wQ]]
 have E : ∀ {u v:Int},Qd Yr (DL A u) (DL B v)->u=v:=fun {u v} h=>by
  have d : ¬ u<v:=h.1;have f : ¬ v<u:=h.2;omega
 obtain⟨T,m⟩:=auY a b fun x n z D e bad=>by
  obtain⟨u,g,rfl⟩:=(i x).1 n;obtain⟨v,C,rfl⟩:=(j z).1 D;have:=E e; subst this;exact bad ((pa u g).symm.trans (o u C))
 rw[m];obtain⟨G,t⟩:=(mgN m).mem kN H I
 congr 1
 refine G.ext kN J fun z => ?_;rw[t z,F z];have k : ∀ {u:Int} {P Q:Ab},Qd Yr (DL P u) (DL Q u):=fun {u P Q}=>⟨Int.lt_irrefl u,Int.lt_irrefl u⟩;constructor
 ·rintro (⟨d,f⟩|⟨d,f⟩|⟨x,n,w,hw,e,rfl⟩)
  ·obtain⟨u,g,rfl⟩:=(i z).1 d;have S:B.has u=false:=by cases c:B.has u; rfl; exact L_ k (f _ ((j _).2 ⟨u,c,rfl⟩))
   grind
  ·obtain⟨u,g,rfl⟩:=(j z).1 d;have O:A.has u=false:=by cases c:A.has u; rfl; exact L_ k (f _ ((i _).2 ⟨u,c,rfl⟩))
   grind
  grind
 rintro ⟨u,g,rfl⟩;rw[s]at g
 cases c1:A.has u <;> cases c2:B.has u
 ·simp_all
 ·grind
 ·grind
 exact .inr (.inr ⟨_,(i _).2 ⟨u,c1,rfl⟩,_,(j _).2 ⟨u,c2,rfl⟩,k,q u c1 c2⟩)
theorem aaf{a b l:List jD}(D:LY kg a)(E:LY kg b)(F:LY kg l)(j : ∀ z,z∈a <-> ∃ o r,A.gh o r=true/\z=zQ A o r)(k : ∀ z,z∈b <-> ∃ o r,B.gh o r=true/\z=zQ B o r)(y : ∀ z,z∈l <-> ∃ o r,M.gh o r=true/\z=zQ M o r)
 (p : ∀ o r,M.gh o r=(A.gh o r || B.gh o r)) (L : ∀ o r,A.gh o r=true->B.gh o r=false->zQ M o r=zQ A o r) (N : ∀ o r,A.gh o r=false->B.gh o r=true->zQ M o r=zQ B o r)
 (n : ∀ o r,A.gh o r=true->B.gh o r=true->zQ M o r=CF (zQ A o r) (zQ B o r) /\ ¬ gH (zQ A o r) (zQ B o r)):dw a b=some l:=by
 have J : ∀ {u v u' v':Int},Qd kg (zQ A u v) (zQ B u' v')->u=u'/\v=v':=fun {u v u' v'} h=>by
  have d : ¬ (u<u'\/u=u'/\v<v'):=h.1;have f : ¬ (u'<u\/u'=u/\v'<v):=h.2;omega
 obtain⟨K,m⟩:=auZ a b fun x t z I e bad=>by
  grind
 rw[m];obtain⟨C,s⟩:=(mgG m).mem kGS D E
 congr 1
 refine C.ext kGS F fun z => ?_;rw[s z,y z];have i : ∀ {u v:Int} {P Q:Ab},Qd kg (zQ P u v) (zQ Q u v):=fun {u v P Q}=>⟨fun q=>q.elim (Int.lt_irrefl u) fun q=>Int.lt_irrefl v q.2,fun q=>q.elim (Int.lt_irrefl u) fun q=>Int.lt_irrefl v q.2⟩;constructor
 ·rintro (⟨d,f⟩|⟨d,f⟩|⟨x,t,w,hw,e,rfl⟩)
  ·obtain⟨u,v,g,rfl⟩:=(j z).1 d;have H:B.gh u v=false:=by cases c:B.gh u v; rfl; exact L_ i (f _ ((k _).2 ⟨u,v,c,rfl⟩))
   grind
  ·obtain⟨u,v,g,rfl⟩:=(k z).1 d;have G:A.gh u v=false:=by cases c:A.gh u v; rfl; exact L_ i (f _ ((j _).2 ⟨u,v,c,rfl⟩))
   grind
  grind
 rintro ⟨u,v,g,rfl⟩;rw[p]at g
 cases c1:A.gh u v <;> cases c2:B.gh u v
 ·grind
 ·grind
 ·grind
 exact .inr (.inr ⟨_,(j _).2 ⟨u,v,c1,rfl⟩,_,(k _).2 ⟨u,v,c2,rfl⟩,i,(n u v c1 c2).1⟩)
theorem Ke(A:Ab)(v:dA)(o r:Int)(j:Nat):(A.ru v).g o r j=if v.aI=3/\o=v.o/\r=v.bK then(if j=2 then v.node else if j=3 then v.bF else 0)else if v.aI=4/\o=v.o/\r=v.of/\j=4 then v.bK else A.g o r j:=by rfl
theorem Oi(W:Ws k ev an)(a:zV ev an K) : ∀ n,n<=an -> ∀ o r,(dh ev K (vM k) n).gh o r=true->(1<=o/\o<=6)/\1<=r/\0<=(dh ev K (vM k) n).g o r 4/\(dh ev K (vM k) n).g o r 4≠r
 | 0,_,o,r,h=>by grind [dh,Cx]
 | n+1,hn,o,r,h=>by
   have j:=Oi W a n (by omega) o r
   cases c:qm K (ev n)with
   | false=>grind [jG]
   | true =>
     rw[gZ c]at h ⊢;have e:=(I4 (W.rd n (by omega))).1;have d:eU (ev n)=true:=(by grind [dG]);have f:=(W.g n (by omega)).o;by_cases b:(ev n).aI=3/\o=(ev n).o/\r=(ev n).bK
     ·grind [eU,Ke]
     ·have i:(dh ev K (vM k) n).gh o r=true:=by
       rcases(Bool.or_eq_true _ _).mp h with q|q
       ·exact q
       simp_all
      grind [Ke,eU]
theorem afV(W:Ws k ev an)(a:zV ev an K) : ∀ n,n<=an -> ∀ j,(dh ev K (vM k) n).left j=true->(dh ev K (vM k) n).dF j=true
 | 0,_,j,h=>by cases h
 | n+1,hn,j,h=>by
   have d:=afV W a n (by omega) j
   cases c:qm K (ev n)with
   | false=>grind [jG]
   | true =>
     have b:=(kI W.toEvs (n+1) hn K a).2 n (by omega) c;rw[gZ c]at h ⊢;show(_ || _)=true
     rcases(Bool.or_eq_true _ _).mp h with q|q
     ·simp_all
     grind [b.dF]
structure LH(k:Nat)(ev:Nat->dA)(an:Nat)(L:iQ):Prop where
 f:Bz k ev an L
 g:wP L
theorem ajU(W:Ws k ev an)(a:zV ev an K)(c:zV ev an K')(d:K b=K' b)(h:(dh ev K (vM k) an).gh ((b:Int)+1) r=true):zQ (dh ev K' (vM k) an) ((b:Int)+1) r=zQ (dh ev K (vM k) an) ((b:Int)+1) r:=by
 obtain⟨e,f,g,i⟩:=SV W.toEvs a c (Cx k) (Int.le_of_eq d) an (A_ _) r h;obtain⟨_,_,_,j⟩:=SV W.toEvs c a (Cx k) (Int.le_of_eq d.symm) an (A_ _) r e;show jD.mk _ _ _ _ _=jD.mk _ _ _ _ _
 grind
theorem LH.join{L1 L2 L3:iQ}(W:Ws k ev an)(h1:LH k ev an L1)(z:LH k ev an L2)(E:LH k ev an L3)(I : ∀ q,q<6->L3.aF q=ou (L1.aF q) (L2.aF q)) :
 cO (yw L1).ns (yw L2).ns=some (yw L3).ns/\dw (yw L1).gs (yw L2).gs=some (yw L3).gs/\(∀ j,L3.dF j=(L1.dF j || L2.dF j)) /\ ∀ j,L3.left j=(L1.left j || L2.left j):=by
 obtain⟨F,S,m,_,C⟩:=h1.f.ex;obtain⟨G,T,n,_,D⟩:=z.f.ex;obtain⟨H,U,t,_,x⟩:=E.f.ex;have b:=h1.f.kc;have d:=z.f.kc;have l:=b.max d;rw[PL (K:=Li L1.aF L2.aF) I (fun i M=>(W.g i M).MR.2) an (A_ _)]at x;have J:=XV (A0:=vM k) (ev:=ev) (K:=L1.aF) (K':=L2.aF) an;have N : ∀ v,qm L1.aF v=true->qm (Li L1.aF L2.aF) v=true:=fun v q=>by rw[PN,q]; rfl
 have O : ∀ v,qm L2.aF v=true->qm (Li L1.aF L2.aF) v=true:=fun v q=>by grind [PN]
 have Q:=(kI W.toEvs an (A_ _) _ b).1 an (A_ _);have R:=(kI W.toEvs an (A_ _) _ d).1 an (A_ _);refine⟨?_,?_,fun j => ?_,fun j => ?_⟩
 ·refine aae (V4 m.i) (V4 n.i) (V4 t.i) (C ▸ m.ns) (D ▸ n.ns) (x ▸ t.ns) J.has (fun y A=>XW W.toEvs b l N A) (fun y A=>XW W.toEvs d l O A) (fun y p=>ajj W b d y p) Q.r0 R.r0 (fun y p=>aeC W b y p) fun y p=>aeC W d y p
 ·have B : ∀ {P:Ab} {L:Nat->Int},zV ev an L -> ∀ o r,(dh ev L (vM k) an).gh o r=true -> ∃ a:Nat,o=(a:Int)+1:=fun {P L} hc o r h=>by
   have:=(Oi W hc an (A_ _) o r h).1; exact⟨(o-1).toNat,by omega⟩
  refine aaf (LG h1.g) (LG z.g) (LG E.g) (C ▸ m.gs) (D ▸ n.gs) (x ▸ t.gs) J.gh (fun o r h e => ?_) (fun o r h e => ?_) fun o r h e => ?_
  ·obtain⟨a,rfl⟩:=B (P:=vM k) b o r h
   rcases Int.le_total (L2.aF a) (L1.aF a)with q|q
   ·exact ajU W b l (He q).symm h
   grind [SV,W.toEvs,Cx]
  ·obtain⟨a,rfl⟩:=B (P:=vM k) d o r e
   rcases Int.le_total (L1.aF a) (L2.aF a)with q|q
   ·exact ajU W d l (wQ q).symm e
   grind [SV,W.toEvs,Cx]
  obtain⟨a,rfl⟩:=B (P:=vM k) b o r h;have V:=(Oi W b an (A_ _) _ r h).2.2.1;have X:=(Oi W d an (A_ _) _ r e).2.2.1
  rcases Int.le_total (L2.aF a) (L1.aF a)with q|q
  ·obtain⟨_,u,w,c⟩:=SV W.toEvs d b (Cx k) q an (A_ _) r e;refine⟨?_,fun bad => ?_⟩
   ·rw[ajU W b l (He q).symm h];show jD.mk _ _ _ _ _=jD.mk _ _ _ _ (ou _ _);rw[He (by show(dh ev L2.aF (vM k) an).g ((a:Int)+1) r 4<=(dh ev L1.aF (vM k) an).g ((a:Int)+1) r 4; omega)]; rfl
   rcases bad with bad|bad|bad
   ·exact bad u
   ·exact bad w
   rcases c with c|c
   ·exact bad.2.2 c
   exact bad.1 c
  obtain⟨_,u,w,c⟩:=SV W.toEvs b d (Cx k) q an (A_ _) r h;refine⟨?_,fun bad => ?_⟩
  ·rw[ajU W d l (wQ q).symm e];show jD.mk _ _ ((dh ev L2.aF (vM k) an).g _ _ 2) ((dh ev L2.aF (vM k) an).g _ _ 3) ((dh ev L2.aF (vM k) an).g _ _ 4)=jD.mk _ _ ((dh ev L1.aF (vM k) an).g _ _ 2) ((dh ev L1.aF (vM k) an).g _ _ 3) (ou ((dh ev L1.aF (vM k) an).g _ _ 4) ((dh ev L2.aF (vM k) an).g _ _ 4));rw[u,w,wQ (by omega)]; rfl
  rcases bad with bad|bad|bad
  ·exact bad u.symm
  ·exact bad w.symm
  rcases c with c|c
  ·exact bad.2.1 c
  exact bad.1 c.symm
 ·rw[<- t.s.dF,<- m.s.dF,<- n.s.dF];show(eY H).dF j=((eY F).dF j || (eY G).dF j)
  grind [J.dF]
 rw[<- t.s.left,<- m.s.left,<- n.s.left];show(eY H).left j=((eY F).left j || (eY G).left j)
 grind [J.left]
end
end Rt
end
section
namespace Rt
section
variable {L L1 L2 L3:iQ} {ev:Nat->dA} {an k N:Nat} {x:Int}
theorem LJ(b:Inv0 L N):CG (yw L).ns:=fun k a=>by
 rw[vP]at a;rw[Bc (show k<L.nn by omega),Bc a]; exact b.GD k (k+1) (by omega) a
theorem Yu(a:Inv0 L N) : ∀ D f x,D<f->bT L.t L.tn (bU L.t L.tn D x)<0->(x=0 \/ ∃ j,j<L.nn/\L.id j=x)->qK (yw L).ns f x=true
 | _,0,_,h,_,_=>L_ h (z_ _)
 | D,f+1,x,h,d,hx=>by
   by_cases c:x=0
   ·exact VH c
   ·obtain⟨j,b,e⟩:=hx.resolve_left c;have l:j<L.tn:=(by grind [a.GA]);have k:L.t j 0=x:=(by grind [a.IY]);have i:bT L.t L.tn x=(j:Int):=(by grind [xJ,a.amZ]);rw[VI (j:=j) c (CJ (LJ a) (by grind [vP]) (by rw[Bc b]; exact e)),Bc b];show qK _ f (L.par j)=true
    cases D with
    | zero =>
      have d:bT L.t L.tn x<0:=d;omega
    | succ D =>
      have g:bU L.t L.tn 1 x=L.par j:=by
       show L.t (bT L.t L.tn x).toNat 1=_
       grind [a.IY]
      refine Yu a D f (L.par j) (by omega) (by grind [ED]) (a.up j b)
theorem LH.iV(W:Ws k ev an)(h:LH k ev an L)(H:L.gn<=4096):vN (yw L):=by
 obtain⟨m,N,a,_,e⟩:=h.f.ex;have c:=h.f.kc;have B:=(kI W.toEvs an (A_ _) _ c).1 an (A_ _);have C:=W.fsm c an (A_ _);refine⟨fun i x=>Int.le_of_lt (a.i.kn i x).2,by rw[vP]; exact a.i.nn,by grind [xW],LJ a.i,fun q b => ?_,fun i _ y => ?_,fun q b => ?_,fun q b => ?_⟩
 ·grind [xW,LD,afU,h.g,h.g.up]
 ·have:=afV W c an (A_ _) i;rw[<- e]at this;have z:(eY m).left i=true:=by show m.left i=true; rw[a.s.left]; exact y
  have:=this z;show L.dF i=true;rw[<- a.s.dF]; exact this
 ·rw[vP]at b;obtain⟨D,G,v⟩:=a.i.Zi (L.id q);refine⟨?_,?_,?_⟩ <;> rw[Bc b]
  ·have:=a.i.Rj q b; show L.id q≠0; omega
  ·exact a.i.iV q b
  exact Yu a.i D 33 _ (by omega) v (.inr ⟨q,b,rfl⟩)
 rw[xW]at b;rw[LD b];obtain⟨w,o⟩:=a.s.ZT b;have d:(eY m).gh (L.g q 0) (L.g q 1)=true:=w;rw[e]at d;obtain⟨r,E,F,l⟩:=Oi W c an (A_ _) _ _ d;have p:=C.g _ _ d;have n:=B.g _ _ d;rw[<- e]at n p l;rw[o 2 (by decide) (by decide)]at n;rw[o 3 (by decide) (by decide)]at p;rw[o 4 (by decide) (by decide)]at l;have A:m.T.has (L.g q 2)=true:=n;obtain⟨j,t,u⟩:=(a.s.T.has _).1 A;refine⟨r.1,r.2,?_,?_,p.1,?_,l⟩
 ·show L.g q 1≠0; omega
 ·show 0<=og (yw L).ns (L.g q 2);rw[CJ (LJ a.i) (by rw[vP]; exact t) (by rw[Bc t]; exact u)]; omega
 show L.g q 3<=1125899906842624; omega
theorem Yv{α:Type}{lt:α->α->Prop}{J:α->α->α}(K:TF lt J) : ∀ {a l:List α},LY lt a->LY lt l->(∀ x∈a,∃ z∈l,Qd lt x z)->a.length<=l.length
 | [],l,_,_,_=>J_ _
 | x::a,l,ha,hl,h=>by
   obtain⟨z,k,e⟩:=h x (List.mem_cons_self ..);obtain⟨p,q,rfl⟩:=List.append_of_mem k;obtain⟨g,i⟩:=List.pairwise_cons.1 ha;obtain⟨r,m,n⟩:=List.pairwise_append.1 hl;obtain⟨s,o⟩:=List.pairwise_cons.1 m;have:=Yv K i o fun y f=>by
    obtain⟨u,b,c⟩:=h y (List.mem_cons_of_mem _ f);have d:=g y f
    rcases List.mem_append.1 b with b|b
    ·have j:=n u b z (List.mem_cons_self ..);exact L_ (K.tr _ _ _ (K.le _ _ _ j e.1 e.2) d) c.2
    ·rcases List.mem_cons.1 b with rfl|b
     ·exact L_ (K.auW e c.symm).1 (fun q=>q d)
     grind
   grind
theorem LH.Tx(W:Ws k ev an)(h1:LH k ev an L1)(b:LH k ev an L3)(l : ∀ q,q<6->L1.aF q<=L3.aF q):L1.gn<=L3.gn:=by
 obtain⟨t,n,e,_,i⟩:=h1.f.ex;obtain⟨u,p,h,_,j⟩:=b.f.ex;have:=Yv kGS (LG h1.g) (LG b.g) fun x m=>by
  obtain⟨o,r,c,rfl⟩:=(e.gs x).1 m;rw[i]at c;have s:=(Oi W h1.f.kc an (A_ _) o r c).1;obtain⟨a,rfl⟩ : ∃ a:Nat,o=(a:Int)+1:=⟨(o-1).toNat,by omega⟩;have d:=(SV W.toEvs h1.f.kc b.f.kc (Cx k) (l a (by omega)) an (A_ _) r c).1;rw[<- j]at d;exact⟨_,(h.gs _).2 ⟨_,r,d,rfl⟩,⟨fun q=>q.elim (Int.lt_irrefl _) fun q=>Int.lt_irrefl r q.2,fun q=>q.elim (Int.lt_irrefl _) fun q=>Int.lt_irrefl r q.2⟩⟩
 grind [xW]
theorem jg.tr{a b c:jA}(h:jg a b)(d:jg b c):jg a c :=
 ⟨fun i f=>(h.dF i f).trans (d.dF i f),fun i f=>(h.left i f).trans (d.left i f),fun i f=>(h.aF i f).trans (d.aF i f),h.nn.trans d.nn,h.gn.trans d.gn,
  fun k e=>⟨(h.n k e).1.trans (d.n k (h.nn ▸ e)).1,(h.n k e).2.1.trans (d.n k (h.nn ▸ e)).2.1,fun p j=>((h.n k e).2.2 p j).trans ((d.n k (h.nn ▸ e)).2.2 p j)⟩,fun k e=>(h.g k e).trans (d.g k (h.gn ▸ e))⟩
theorem TG{a b c:jA}(ha:vN a)(f:vN b)(g:vN c)(k:cO a.ns b.ns=some c.ns)(h:dw a.gs b.gs=some c.gs)(hi : ∀ i,c.dF i=(a.dF i || b.dF i))(d : ∀ i,c.left i=(a.left i || b.left i))(j : ∀ i,i<6->c.aF i=ou (a.aF i) (b.aF i)) :
 ∃ u,gM a b=(u,0)/\jg u c/\u.ns=c.ns/\u.gs=c.gs/\(∀ i,u.dF i=c.dF i) /\ ∀ i,u.left i=c.left i:=by
 have e:jg (xR a b c.ns c.gs) c:=⟨fun i _=>(hi i).symm,fun i _=>(d i).symm,fun i hi=>(j i hi).symm,rfl,rfl,fun _ _=>⟨rfl,rfl,fun _ _=>rfl⟩,fun _ _=>rfl⟩;exact⟨_,ajE (vO ha) (vO f) k h (vO (vN.qU e.symm g)),e,rfl,rfl,fun i=>(hi i).symm,fun i=>(d i).symm⟩
theorem LH.gM(W:Ws k ev an)(h1:LH k ev an L1)(b:LH k ev an L2)(a:LH k ev an L3)(c : ∀ q,q<6->L3.aF q=ou (L1.aF q) (L2.aF q))(d:L3.gn<=4096) :
 ∃ u,Rt.gM (yw L1) (yw L2)=(u,0)/\jg u (yw L3)/\u.ns=(yw L3).ns/\u.gs=(yw L3).gs/\(∀ i,u.dF i=L3.dF i) /\ ∀ i,u.left i=L3.left i:=by
 obtain⟨f,g,h,j⟩:=h1.join W b a c;have l:=h1.Tx W a fun q e=>by simp_all [ZU]
 have m:=b.Tx W a fun q e=>by simp_all [ajg]
 exact TG (h1.iV W (by omega)) (b.iV W (by omega)) (a.iV W d) f g h j c
theorem SS.sn(h:SS L1 L2):jg (yw L1) (yw L2) :=
 ⟨fun i _=>congrFun h.dF.symm i,fun i _=>congrFun h.left.symm i,fun i e=>(h.kn i e).symm,by rw[vP,vP,h.nn],by rw[xW,xW,h.gn],
  fun q d=>by
   rw[vP]at d;rw[Bc d,Bc (by grind [h.nn])];obtain⟨a,b,c⟩:=h.n q d;exact⟨a.symm,b.symm,fun p _=>congrFun c.symm p⟩,
  fun q d=>by
   rw[xW]at d;rw[LD d,LD (by grind [h.gn])];show jD.mk _ _ _ _ _=jD.mk _ _ _ _ _
   grind [h.g]⟩
theorem LH.less(W:Ws k ev an)(h1:LH k ev an L1)(b:LH k ev an L2)(d:LH k ev an L3)(j : ∀ q,q<6->L3.aF q=ou (L1.aF q) (L2.aF q))(n:L3.gn<=4096):Bp (yw L1) (yw L2)=Ef L1.aF L2.aF:=by
 obtain⟨u,o,l,_,_⟩:=h1.gM W b d j n;by_cases c : ∀ i,i<6->L1.aF i<=L2.aF i
 ·rw[show Ef L1.aF L2.aF=true from f_ c];have e:=b.f.same d.f W b.g d.g fun i a=>by grind [wQ]
  grind [JK,l.tr,e.sn.symm]
 rw[show Ef L1.aF L2.aF=false from g_ c];refine Bb o fun q=>c fun i a => ?_;have m:=(l.aF i a).symm.trans (q.2.aF i a);have h:L3.aF i=L2.aF i:=m;rw[j i a]at h;rw[<- h]; exact ZU _ _
theorem LH.alJ(W:Ws k ev an)(h1:LH k ev an L1)(a:LH k ev an L3)(c : ∀ q,q<6->L1.aF q<=L3.aF q)(e:L3.gn<=4096){u:jA}(d:jg u (yw L3))(p:u.ns=(yw L3).ns)(o:u.gs=(yw L3).gs)(hi : ∀ i,u.dF i=L3.dF i)(h : ∀ i,u.left i=L3.left i):Bp (yw L1) u=true:=by
 obtain⟨r,s,l,m⟩:=h1.join W a a fun q j=>(wQ (c q j)).symm;have f:=a.iV W e;obtain⟨t,n,g,_,_⟩:=TG (b:=u) (h1.iV W (m_ (h1.Tx W a c) e)) (vN.qU d.symm f) f (by grind) (by grind) (fun i=>by rw[hi]; exact l i) (fun i=>by rw[h]; exact m i) fun i hi=>by
  rw[d.aF i hi]; exact(wQ (c i hi)).symm
 grind [JK,g.tr,d.symm]
end
end Rt
end
end Go.Proofs.YtabjalhnkndjaaaGreatDoor
namespace Go.Proofs.YtabjalhnkndjaaaGreatDoor
open Fx hiding E9 Fa HY Jf Jk L R start
open Go.RowKit Go.WideShapes Go.ChangeShapes Go.Deep Rt
def afW:Value->Bool | .bool b=>b|_=>false
theorem MO.int{k:IntKind}(h:MO (some k) s):s = .int k (intOf s)/\(Lit.int k (intOf s)).wf=true:=by
 obtain⟨n,rfl,a⟩:=h; exact⟨rfl,a⟩
theorem MO.bool(h:MO none s):s = .bool (afW s):=by
 obtain⟨b,rfl⟩:=h; rfl
theorem wf_u8(h:(Lit.int .u8 a).wf=true):0<=a/\a<=255:=by grind [Lit.wf,IntKind.min,IntKind.max,IntKind.bits,IntKind.signed]
theorem wf_u16(h:(Lit.int .u16 a).wf=true):0<=a/\a<=65535:=by grind [Lit.wf,IntKind.min,IntKind.max,IntKind.bits,IntKind.signed]
theorem V6(h:(Lit.int .u8 a).wf=true) : ∃ m:Nat,a=(m:Int)/\m<=255:=by
 have:=wf_u8 h; exact⟨a.toNat,by omega,by omega⟩
theorem Fx.iB.congr{a:Option Addr}{n:Nat}{y:Nat->Value}(h:Fx.iB c a n m x)(e : ∀ p,p<n*m->x p=y p):Fx.iB c a n m y:=fun f=>by
 obtain⟨b,j,d,g⟩:=h f;exact⟨b,j,d,fun i s=>by rw[<- e i s]; exact g i s⟩
def afX:List (Option IntKind) := [some .u8,none,some .u8,some .u8,some .u8,some .u8,some .u16,some .u8,some .u8]
def afY(X:Nat->Value):Ld:=⟨(intOf (X 0)).toNat,afW (X 1),(intOf (X 2)).toNat,(intOf (X 3)).toNat,(intOf (X 4)).toNat,(intOf (X 5)).toNat,(intOf (X 6)).toNat,(intOf (X 7)).toNat,(intOf (X 8)).toNat⟩
theorem TH(h : ∀(j:Nat) (k:Option IntKind),afX[j]? = some k->MO k (x j)):NY (afY x) /\ ∀ j,j<9->x j=Mv (afY x) j:=by
 have a : ∀ j,afX[j]? = some (some .u8)->x j = .int .u8 ((intOf (x j)).toNat:Int)/\(intOf (x j)).toNat<=255:=fun j c=>by
  obtain⟨e,d⟩:=(h j _ c).int
  grind [wf_u8,Int.toNat_of_nonneg]
 have b:x 6 = .int .u16 ((intOf (x 6)).toNat:Int)/\(intOf (x 6)).toNat<=65535:=by
  obtain⟨e,d⟩:=(h 6 (some .u16) rfl).int
  grind [wf_u16,Int.toNat_of_nonneg]
 refine⟨⟨(a 0 rfl).2,(a 2 rfl).2,(a 3 rfl).2,(a 4 rfl).2,(a 5 rfl).2,b.2,(a 7 rfl).2,(a 8 rfl).2⟩,fun j c => ?_⟩
 rcases j with _|_|_|_|_|_|_|_|_|j
 ·exact(a 0 rfl).1
 ·exact(h 1 none rfl).bool
 ·exact(a 2 rfl).1
 ·exact(a 3 rfl).1
 ·exact(a 4 rfl).1
 ·exact(a 5 rfl).1
 ·exact b.1
 ·exact(a 7 rfl).1
 ·exact(a 8 rfl).1
 omega
section
variable {H:Type} {enc:TypeId × Value->H} {P:Program} {w:World}
theorem aag{t:TypeId}{D:Nat}{d:DataW H}{r:List MemPlace}(q:P.underlying t=some (.slice T))(b:Cu P D T=some afX)(l:P.cellsOf T=9)
 (h:DataW.Trod enc P w 0 (fun _=>true) true t (.slice f m k) d r) : ∃ g:Nat->Ld,(∀ i,i<m->NY (g i))/\Fx.iB w f m 9 (dn 9 fun a=>Mv (g a)):=by
 obtain⟨v,n⟩:=h;obtain⟨s,x,u,len,_,_,X,c,e⟩:=ZM q b l (by decide) n;simp[Value.cells]at len;obtain⟨rfl,rfl,rfl⟩:=len;exact⟨fun i=>afY (X i),fun i o=>(TH (c i o)).1,e.congr (bZ fun a b j p=>(TH (c a b)).2 j p)⟩
end
end Go.Proofs.YtabjalhnkndjaaaGreatDoor
namespace Go.Proofs.YtabjalhnkndjaaaGreatDoor
open Go.Proofs.Tryz
open Fx hiding E9 Fa HY Jf Jk L R start
open Go.RowKit Rt
theorem ava{a b:World}(h:Below a.heap.size a b)(e:Below m b c)(d:a.heap.size<=m):Below a.heap.size a c:=h.trans (e.mono d)
section
namespace Rt
section
variable {L:iQ}
theorem ajV(L:iQ)(c:Option Addr)(d:Nat)(a:Option Addr)(b:Nat):dR (yw L) c d a b=stL L c d a b:=by
 unfold dR stL; rw[vP,xW]; rfl
theorem apT(h:LWf L):Tk (yw L):=⟨h.k,fun x i=>by
 obtain⟨q,f,rfl⟩:=List.mem_map.1 i;obtain⟨a,b,c⟩:=h.n q (N_.1 f);exact⟨a,b,c⟩,fun x i=>by
 obtain⟨q,f,rfl⟩:=List.mem_map.1 i;obtain⟨a,b,c,d,e⟩:=h.g q (N_.1 f);exact⟨a,b,c,d,e⟩⟩
theorem LX.toW{s:Bn}(h:LX c s L)(a:LWf L)(d:L.nn<=s.nc)(f:L.gn<=s.gc):s=dR (yw L) s.na s.nc s.ga s.gc/\JJ c (yw L) s.na s.nc s.ga s.gc:=by
 refine⟨by rw[ajV]; exact h.e,apT a,by grind [vP,a.bn],by grind [xW,a.bg],?_,?_,by grind [vP],by grind [xW]⟩
 ·rw[vP];refine h.n.congr fun j w => ?_;unfold gI dn;show ndL L (j / 56) (j % 56)=iI (bY (yw L).ns (j / 56)) (j % 56);rw[Bc (by omega)]; rfl
 rw[xW];refine h.g.congr fun j w => ?_;unfold iU dn;show grL L (j / 5) (j % 5)=jZ (dK (yw L).gs (j / 5)) (j % 5);rw[LD (by omega)];have b:j % 5<5:=I_ _ (by decide);generalize j % 5=q at b
 rcases q with _|_|_|_|_|q <;> first|rfl|omega
end
structure WI(M:WM):Prop where
 g : ∀ o,o<M.n->wP (M.ml o).aW
section
variable {ev:Nat->dA} {K:Nat->Int} {an:Nat} {L:iQ} {v:dA}
theorem JN(a : ∀ j,j<an->jB (ev j))(h:wP L) : ∀ j,j<=an->wP (qJ ev K L j)
 | 0,_=>h
 | j+1,hj=>by
   unfold qJ;split
   ·exact EL (JN a h j (by omega)) (a j (by omega))
   ·exact JN a h j (by omega)
theorem TI(a : ∀ j,j<an->jB (ev j)) : ∀ f L,wP L->wP (jL ev an K f L)
 | 0,L,h=>by grind [Rt.jL]
 | f+1,L,h=>by
   unfold Rt.jL;split
   ·exact JN a h an (A_ _)
   ·exact TI a f _ (JN a h an (A_ _))
theorem WI.TT{M:WM}(h : ∀ i,(M.ml i).aW=(tT M.n 0).aW):WI M:=⟨fun o _=>by grind [Sv]⟩
theorem WI.do{w':World}{M d:WM}{x:Ld}(h:WI M)(f:sj w' k b d j)(i:m<M.n)(p:DoR m x M d v):WI d:=⟨fun q r=>by
 rw[p.n]at r
 rcases p.c with ⟨B,l,o,a⟩|⟨B,l,o,a,h5,h6,h7,h8⟩
 ·by_cases e:q=m
  ·rw[e]
   rcases a with a|⟨_,a⟩
   ·grind [h.g]
   ·rw[a]; exact TI (fun T s=>by have:=f.wf T (by omega); simp_all) _ _ (h.g m i)
  grind [p.oth,h.g]
 ·by_cases e:q=m
  ·rw[e,h5];exact EL (h.g m i) (by have:=f.wf M.an (by omega); simp_all [za])
  grind [p.oth,h.g]⟩
end
end Rt
theorem TJ(n:Nat)(m:Int)(w:World)(h:m=(n:Int))(j:1<=n)(k:n<=6) :
 Calls prog 5 #[av m] w fun e b => ∃ p M,e = .returned (pt p)/\M.n=n/\M.an=0/\WC M/\WI M/\sj b w.heap.size p M 0/\Below w.heap.size w b:=by
 subst h; exact(Vu _ w j k).mono fun _ _ ⟨p,M,c,d,a,l,f,g⟩=>⟨p,M,c,d,a,.TT a fun i=>by simp_all,.TT fun i=>by simp_all,f,g⟩
end
namespace Rt
def Qk(K a:Nat->Int)(i:Nat):Nat->Int:=fun q=>if q<i then ou (K q) (a q)else K q
theorem apU(K a:Nat->Int)(i:Nat):(if a i>Qk K a i i then a i else Qk K a i i)=ou (K i) (a i):=by unfold Qk; rw[b_ (Nat.lt_irrefl i)]; rfl
theorem avb(K a:Nat->Int)(i:Nat):fZ (Qk K a i) i (ou (K i) (a i))=Qk K a (i+1):=by
 funext q; unfold fZ Qk
 by_cases e:q=i
 ·rw[d_ e,d_,e]
 rw[b_ e];by_cases c:q<i
 ·rw[d_ c,d_]
 rw[b_ c,b_]
theorem ajW(K a:Nat->Int):aA 6 (rv .u64 (Qk K a 6))=aA 6 (rv .u64 fun q=>ou (K q) (a q)):=fI fun p b=>K_ (Value.int .u64) (by unfold Qk; rw[d_ b])
theorem avc(K a:Nat->Int):K=Qk K a 0:=by funext q; unfold Qk; rw[b_ (z_ q)]
theorem aah(h : ∀ q,q<m->X q<=Y q)(b:X m<=Y m) : ∀ q,q<m+1->X q<=Y q:=fun q c=>by
 by_cases e:q=m
 ·rw[e]; exact b
 ·exact h q (by omega)
end Rt
theorem Fx.ajX{o:Oper}{b:Int}(h:Fx.cB P x o c (.int K a))(e:a=b):Fx.cB P x o c (.int K b):=e ▸ h
theorem ajY(K a:Nat->Int)(w:World) :
 Calls prog 8 #[.agg (aA 6 (rv .u64 K)),.agg (aA 6 (rv .u64 a))] w fun e w'=>e = .returned (.agg (aA 6 (rv .u64 fun q=>ou (K q) (a q))))/\Below w.heap.size w w':=by
 refine bX func8 20 ?_;refine ay<|oq fun b w1 M m s1 z1 => ?_;have s:=bL s1.bP (Below.refl w.heap.size w);have tJ:=iy M;have vB:=m.lt;refine oq fun j w2 x n s2 z2 => ?_;have⟨D,t⟩:=fB s2.bP m s;have xw:=gQ x s.size;have BP:=gD x m.lt;have zR:=n.lt;refine oJ 6 (rv .u64 (fun _=>0)) fun k w3 y E s3 z3 => ?_;have⟨X,Y,I⟩:=iP s3.bP D n t;have Gc:=gQ y t.size;have⟨WB,aaU⟩:=oM y D.lt n.lt;have Gr:=E.lt;refine aC<|aQ<|ay<|au (av 0)<|aC<|Wb ?_;have Z:aM w3 b 6 (rv .u64 (Qk K a 0)) 28:=by rw[<- avc]; exact X
 refine Wo (fun f g => ∃ i:Nat,i<=6/\f 2=(pt b)/\f 3=(pt j)/\f 4=(pt k)/\f 5=av (i:Int)/\aM g b 6 (rv .u64 (Qk K a i)) 28/\aM g j 6 (rv .u64 a) 28/\aM g k 6 (rv .u64 (fun _=>0)) 28/\Below w.heap.size w g) (fun f _=>(6-(intOf (f 5)).toNat)) ⟨0,by omega,(by rfl),(by rfl),(by rfl),ic,Z,Y,E,I⟩ ?_;rintro f1 w4 ⟨i,hi,d,z,l,c,o,F,A,h⟩;refine aQ<|ay<|bA c ?_;by_cases v:(i:Int)<6
 ·refine Lv aH (fK v)<|aC<|aP<|Wk<|sN<|aQ<|Wb ?_;refine nP [0,1,2,4,5,3,6,7,8,9] [0,0,0,4,0,0,4,0,0,3] [(9,3,[3]),(9,6,[6])] fun qN O iM => ?_;have⟨B,C,P,u⟩:=jv O o F A h;refine eZ c<|eZ c<|Rp (pf b i) (fun _=>jh 6 1 (hx:=d))<|eZ c<|Rp (pf j i) (fun _=>jh 6 1 (hx:=z))<|Rs (aG ((Qk K a i) i)) (aR B.aJ i) ?_;refine Rs (aG (a i)) (aR C.aJ i) ?_;refine Rp (aG (ou (K i) (a i))) (fun v1=>ajX (Wj rfl rfl rfl) (apU K a i))<|Rp (pf b i) (fun _=>jh 6 1 (hx:=d))<|jP<|jf B i (aG (ou (K i) (a i))) fun H Q p z4 => ?_;have R:aM H b 6 (rv .u64 (fZ (Qk K a i) i (ou (K i) (a i)))) 28:=Q.to (yA _ _ _ _);have S:aM H b 6 (rv .u64 (Qk K a (i+1))) 28:=by have G:=R; rw[avb]at G; exact G
  have T:=C.cK p (by omega);have U:=P.cK p (by omega);have J:=p.below u u.size (by omega);refine Ln<|Rn<|bS<|sN<|Wl<|bA c<|Lv (av ((i:Int)+1)) gu<|au (av ((i:Int)+1))<|Ln<|iA ⟨i+1,by omega,d,z,l,ic,S,T,U,J⟩ ?_;show(6-(intOf (av ((i:Int)+1))).toNat)<_;simp only[c,intOf]; omega
 refine Lv aD (fM v)<|aC<|aL<|Wx<|cZ<|iC<|dB<|sN<|ay<|Lv (.agg (aA 6 (rv .u64 (Qk K a i)))) (dZ o.aJ 0 (ha:=d))<|dY A 0 (ha:=l) fun w6 V r z5 => ?_;have W:aM w6 k 6 (rv .u64 (Qk K a i)) 28:=aO V;have mG:=o.cK r (by omega);have m22:=F.cK r (by omega);have L:=r.below h h.size (by omega);refine aC (Wr (⟨.agg (aA 6 (rv .u64 (Qk K a i))),rV Tryz.results8 ⟨_,l,aU W.aJ (by kernel_rfl) (by kernel_rfl)⟩,?_⟩));have N:i=6:=by omega
 exact⟨by rw[N,ajW],L⟩
theorem ajZ(K b:Nat->Int)(w:World) :
 Calls prog 14 #[.agg (aA 6 (rv .u64 K)),.agg (aA 6 (rv .u64 b))] w fun e P=>e = .returned (.bool (Ef K b))/\Below w.heap.size w P:=by
 refine bX func14 17 ?_;refine ay<|oq fun n w1 G p L z1 => ?_;have s:=bL L.bP (Below.refl w.heap.size w);have V:=iy G;have Y:=p.lt;refine oq fun o w2 v A M z2 => ?_;have⟨H,D⟩:=fB M.bP p s;have W:=gQ v s.size;have X:=gD v p.lt;have Z:=A.lt;refine au aD<|aC<|aQ<|ay<|au (av 0)<|aC<|Wb<|Wo (fun f r => ∃ i:Nat,i<=6/\(∀ q,q<i->K q<=b q)/\f 2=(pt n)/\f 3=(pt o)/\f 5=av (i:Int)/\aM r n 6 (rv .u64 K) 28/\aM r o 6 (rv .u64 b) 28/\Below w.heap.size w r) (fun f _=>(6-(intOf (f 5)).toNat)) ⟨0,by omega,(fun q h=>L_ h (z_ q)),(by rfl),(by rfl),ic,H,A,D⟩ ?_;rintro S c ⟨i,T,z,x,y,g,B,C,k⟩;refine aQ<|ay<|bA g ?_;by_cases u:(i:Int)<6
 ·refine Lv aH (fK u)<|aC<|aP<|Wk<|sN<|aQ<|Wb<|aQ ?_;refine zu<|iL g<|Qv (pf n i) (fun a d=>jh 6 1 (hx:=x))<|Qv (aG (K i)) (fun a d=>aR (B.aJ.dr d) i)<|iL g<|Qv (pf o i) (fun a d=>jh 6 1 (hx:=y))<|Qv (aG (b i)) (fun a d=>aR (C.aJ.dr d) i) ?_;by_cases t:(b i)<(K i)
  ·refine Qv aH (fun a d=>lK t)<|Qn ?_;rintro _ ⟨j,rfl⟩;obtain⟨Q,l⟩ : ∃ a,a=World.drewN c j:=⟨_,rfl⟩;rw[<- l];have N:eG c.heap.size c Q:=(by rw[l]; exact Sb (kQ c j));have E:=bL N.bP k;clear l;refine sN<|aP<|ay<|au aD<|aC<|Wr<|bO<|sR<|oG<|bO<|sR<|aK aD ?_;exact⟨gN (Eq.symm (show Ef K b=_ from g_ (fun h=>L_ (h i (by omega)) (by omega)))),E⟩
  refine Qv aD (fun a d=>lM t)<|Qn ?_;rintro _ ⟨j,rfl⟩;obtain⟨R,m⟩ : ∃ a,a=World.drewN c j:=⟨_,rfl⟩;rw[<- m];have O:eG c.heap.size c R:=by rw[m]; exact Sb (kQ c j)
  have⟨I,J,F⟩:=iP O.bP B C k;clear m;refine sN<|aL<|Wk<|bS<|sN<|Wl<|bA g<|Lv (av ((i:Int)+1)) gu<|au (av ((i:Int)+1))<|Ln<|iA ⟨i+1,by omega,(aah z (by omega)),x,y,ic,I,J,F⟩ ?_;show(6-(intOf (av ((i:Int)+1))).toNat)<_;simp only[g,intOf]; omega
 refine Lv aD (fM u)<|aC<|aL<|Wx<|cZ<|iC<|dB<|sN<|ay<|au aH<|aC<|Wr<|aK aH ?_;exact⟨gN (Eq.symm (show Ef K b=_ from f_ (fun q U=>z q (by omega)))),k⟩
end Go.Proofs.YtabjalhnkndjaaaGreatDoor
namespace Go.Proofs.YtabjalhnkndjaaaGreatDoor
open Go.Proofs.Tryz
open Fx hiding E9 Fa HY Jf Jk L R start
open Go.RowKit Rt
theorem Rt.akb{s:Ct}(b : ∀ l,x (l+2)=av 0) : ∀ j,j<56->bJ (bJ x 0 1 (fun _=>aG (bC p s 8 0))) 1 1 (fun _=>aG (bC p s 8 1)) j=iI (Je p s 0) j:=fun j a=>by
 match j,a with
 | 0,_=>rfl
 | 1,_=>rfl
 | l+2,a =>
   unfold bJ;rw[b_,b_,b,CQ (Je p s 0) rfl];show Value.int .i64 0=Value.int .i64 (if l<6*0 then DJ (bC p s 8 (2+l))else 0);rw[b_]
theorem Rt.nb2(x:Int):(!decide (x % 2=0))=decide (x % 2=1):=by
 by_cases h:x % 2=0
 ·rw[f_ h,g_]; rfl
 rw[g_ h,f_]; rfl
theorem Rt.aEh(x:Int):(!decide (2*(x % 2)=0))=decide (x % 2=1):=by
 rw[<- nb2,decide_eq_decide.2 (show 2*(x % 2)=0<->x % 2=0 by omega)]
theorem akc(c d:Option Addr)(a f b g:Nat)(la lb:List UInt8)(w:World)(i:a=la.length)(j:b=lb.length)(ha:Fx.iB w c a 1 (lJ la))(h:Fx.iB w d b 1 (lJ lb)) :
 Calls prog 48 #[.slice c (a) (f),.slice d (b) (g)] w fun e k=>e = .returned (.bool (decide (la=lb)))/\k=w:=by
 refine bX func48 10 ?_;refine ay<|au aD<|aC<|ay<|au (.slice c (a) (f))<|Lv (.string (Jd la)) (VG (l:=la) rfl rfl underlying62 underlying5 underlying9 i ha)<|au (.slice d (b) (g))<|Lv (.string (Jd lb)) (VG (l:=lb) rfl rfl underlying62 underlying5 underlying9 j h)<|Lv (.bool (decide (la=lb))) (aeN rfl rfl rfl)<|au (.bool (decide (la=lb)))<|aC<|Wr<|aK (.bool (decide (la=lb))) ?_;exact⟨rfl,rfl⟩
theorem afZ{la lb:List UInt8}(a:m=la.length)(l:b=lb.length)(ha:Fx.iB c f m 1 (lJ la))(i:Fx.iB c q b 1 (lJ lb))(d:la=lb) :
 Calls prog 48 #[.slice f m k,.slice q b j] c fun e w=>e = .returned (.bool true)/\w=c:=by
 have h:=akc _ _ _ k _ j _ _ _ a l ha i;rw[f_ d]at h; exact h
set_option maxRecDepth 20000 in
set_option maxHeartbeats 8000000 in
theorem avd(a:Option Addr)(n c:Nat)(l:List UInt8)(w:World)(E:n=l.length)(J:n<=c)(K:n<=100000000)(I:Fx.iB w a n 1 (lJ l))(hG:ZX l)(hg0:gnV l=0) :
 Calls prog 16 #[.slice a (n) (c)] w fun e w' => ∃ na nc ga gc,e = .returned (.tuple #[.agg (aA 20 (dS (dR (uw l) na nc ga gc))),av (ajn l)])/\aY w' w.heap.size 69 56 (.slice na (uw l).ns.length nc) (uw l).ns.length (gI (uw l).ns)/\aY w' w.heap.size 96 5 (.slice ga (uw l).gs.length gc) (uw l).gs.length (iU (uw l).gs)/\Below w.heap.size w w':=by
 refine bX func16 128 ?_;refine ay<|DR (m:=20) (y:=fun o=>if o<12 then .bool false else if o<18 then aG 0 else .slice none 0 0) (by rfl) rfl (by kernel_rfl) rfl fun F w1 kV m1 s1 z1 => ?_;have b1:=bL s1.bP (Below.refl w.heap.size w);have tJ:=iy kV;have vB:=m1.lt;refine au (av 0)<|aC<|ay<|au (.slice a (n) (c))<|au (.agg (aA 3 (bJ (fun o=>if o<1 then .slice none 0 0 else if o<2 then av 0 else .bool false) 0 1 (fun _ => .slice a (n) (c)))))<|oq fun d w2 nN m2 s2 z2 => ?_;have⟨m3,b2⟩:=fB s2.bP m1 b1;have xw:=gQ nN b1.size;have BP:=gD nN m1.lt;have zR:=m2.lt;refine au (pt d)<|aC<|aQ ?_;have m4:aM w2 d 3 (Iu a n c (0,false)) 120:=m2.congr (fun j O=>match j,O with|0,_=>rfl|1,_=>rfl|2,_=>rfl|j+3,h=>L_ h (by omega))
 refine Wl<|au (pt d)<|dO (vg d a n c l (0,false) 4 _ (by decide) (by rw[E]; exact J_ _) E J K (I.up b2 rfl) m4) _ rfl ?_;rintro w3 ⟨hq1,s3⟩;have gT:=gJ s3 m4.ty;have m6:=jU gT m3;have b3:=s3.below b2 b2.size (by omega);have m5:aM w3 d 3 (Iu a n c (Rt.s4 l)) 120:=hq1;refine aC<|ay<|DR (m:=20) (y:=fun o=>if o<12 then .bool false else if o<18 then aG 0 else .slice none 0 0) (by rfl) rfl (by kernel_rfl) rfl fun t w4 nO m7 s4 z3 => ?_;have⟨m8,m9,b4⟩:=iP s4.bP m6 m5 b3;have Gc:=gQ nO b3.size;have⟨alb,Xy⟩:=oM nO m6.lt m5.lt;have Gr:=m7.lt;refine aC<|aQ<|aQ ?_;have m10:aM w4 t 20 (dS mz) 43:=m7.congr (fun j O=>match j,O with|0,_=>rfl|1,_=>rfl|2,_=>rfl|3,_=>rfl|4,_=>rfl|5,_=>rfl|6,_=>rfl|7,_=>rfl|8,_=>rfl|9,_=>rfl|10,_=>rfl|11,_=>rfl|12,_=>rfl|13,_=>rfl|14,_=>rfl|15,_=>rfl|16,_=>rfl|17,_=>rfl|18,_=>rfl|19,_=>rfl|j+20,h=>L_ h (by omega))
 have m11:aM w4 t 20 (dS (GM l 0 0)) 43:=m10.congr (aEd l);refine Wl<|au (av 0)<|aC<|Wb<|Wo (fun f u => ∃ i:Nat,i<=6/\f 0 = .slice a (n) (c)/\f 2=(pt F)/\f 4=(pt d)/\f 5=(pt t)/\f 19=av (i:Int)/\aM u F 20 zP0 43/\aM u d 3 (Iu a n c (qC l 1 i (Rt.s4 l))) 120/\aM u t 20 (dS (GM l i i)) 43/\Below w.heap.size w u) (fun f _=>(6-(intOf (f 19)).toNat)) ⟨0,by omega,(by rfl),(by rfl),(by rfl),(by rfl),ic,m8,m9,m11,b4⟩ ?_;rintro f1 w5 ⟨i,hi,h1,h2,Z,h4,h5,kY,m13,m14,M⟩;refine ay ?_;by_cases c20:(i:Int)<6
 ·refine Lv aH (fK c20 (hx:=h5))<|aC<|aQ<|aP<|Wk<|sN<|aQ<|Wb<|ay<|bA h5<|au (av i)<|aC<|ay<|bA Z<|dO (vg d a n c l (qC l 1 i (Rt.s4 l)) 1 _ (by decide) (by rw[E]; exact qo (Hq (J_ _)) i) E J K (I.up M rfl) m13) _ rfl ?_;rintro w6 ⟨hq2,s5⟩;have jC:=gJ s5 m13.ty;have⟨m16,m17⟩:=lZ jC kY m14;have b6:=s5.below M M.size (by omega);have m15:aM w6 d 3 (Iu a n c (qC l 1 (i+1) (Rt.s4 l))) 120:=hq2;refine au (aG (bC l (Rt.s4 l) 1 i))<|aC<|Wl<|au (av i)<|au (av i)<|au (aG (bC l (Rt.s4 l) 1 i))<|Lv (aG (bC l (Rt.s4 l) 1 i % 2)) (aeM rfl rfl rfl (and1 (Iw _ _ (by decide))))<|Lv (.bool (!decide ((bC l (Rt.s4 l) 1 i % 2)=0))) (Wi rfl rfl rfl)<|au (aG (bC l (Rt.s4 l) 1 i))<|Lv (aG (2*(bC l (Rt.s4 l) 1 i / 2 % 2))) (aeM rfl rfl rfl (aEb (Iw _ _ (by decide))))<|Lv (.bool (!decide ((2*(bC l (Rt.s4 l) 1 i / 2 % 2))=0))) (Wi rfl rfl rfl)<|Lv (pt t) (iO h4 0)<|Lv (pf t i) (jh 6 1)<|jf m17 i (.bool (!decide ((bC l (Rt.s4 l) 1 i % 2)=0))) fun w7 m18 s6 z4 => ?_;have m19:aM w7 t 20 (dS (GM l (i+1) i)) 43:=m18.congr (aEe (by omega) (by exact nb2 _));have m20:=m16.cK s6 (by omega);have oz:=gJ s6 m17.ty;have mG:=jU oz m15;have b7:=s6.below b6 b6.size (by omega);refine Lv (pf t 6) (iO h4 6)<|Lv (pf t (i+6)) (jh 6 1)<|jf m19 (i+6) (.bool (!decide ((2*(bC l (Rt.s4 l) 1 i / 2 % 2))=0))) fun w8 m22 s7 z5 => ?_;have m23:aM w8 t 20 (dS (GM l (i+1) (i+1))) 43:=m22.congr (apN (by omega) (by omega) (by exact aEh _));have m24:=m20.cK s7 (by omega);have tV:=gJ s7 m19.ty;have mU:=jU tV mG;have b8:=s7.below b7 b7.size (by omega);refine Ln<|bS<|sN<|Wl<|Lv (av ((i:Int)+1)) (gu (hx:=h5))<|au (av ((i:Int)+1))<|Ln<|iA ⟨i+1,by omega,h1,h2,Z,h4,ic,m24,mU,m23,b8⟩ ?_;show(6-(intOf (av ((i:Int)+1))).toNat)<_;simp only[h5,intOf]; omega
 refine Lv aD (fM c20 (hx:=h5))<|aC<|aQ<|aL<|Wx<|cZ<|iC<|dB<|sN<|aQ ?_;have ei6:i=6:=by omega
 have pK:aM w5 t 20 (dS (GM l 6 6)) 43:=by have b:=m14; rw[ei6]at b; exact b
 have pO:aM w5 d 3 (Iu a n c (Rt.oP l)) 120:=by have b:=m13; rw[ei6]at b; exact b
 refine Wl<|bA Z<|Lv (pf t 12) (iO h4 12)<|Lv (.slice (some ⟨t,12,none⟩) (6) (6)) (qB rfl rfl underlying28 (s:=1) (by kernel_rfl))<|dO (ajO d t a n c l (Rt.oP l) 12 6 6 (dS (GM l 6 6)) _ (by rw[E]; exact qo (Hq (J_ _)) 6) E J K (by decide) (fun w9 C=>I.up (C.below M (by rintro k9 (H|H) <;> omega) M.size) rfl) pO pK) _ rfl ?_
 rintro w9 ⟨hq3,aEi,ave⟩;have qV:=kY.qZ ave (show ¬ (F=d\/F=t) by omega);have b9:=ave.below M (by rintro k9 (C|C) <;> omega) M.size
 have om:aM w9 d 3 (Iu a n c (Rt.s58 l)) 120:=hq3;have qb:aM w9 t 20 (dS (GN l none 0 0 none 0 0)) 43:=aEi.congr (ajQ l);refine aC<|yh (fun f u => ∃ g:Nat,∃ z:Option Addr,∃ A:Nat,(CB l).2.1<=l.length/\g=(CB l).1.length/\f 0 = .slice a (n) (c)/\f 2=(pt F)/\f 4=(pt d)/\f 5=(pt t)/\aM u F 20 zP0 43/\aM u d 3 (Iu a n c ((CB l).2)) 120/\aM u t 20 (dS (GN l z g A none 0 0)) 43/\aY u w.heap.size 69 56 (.slice z (g) (A)) g (gI (CB l).1)/\Below w.heap.size w u) ?_ ?_
 ·refine ay<|bA Z<|dO (vg d a n c l (Rt.s58 l) 2 _ (by decide) (by rw[E]; exact qo (qo (Hq (J_ _)) 6) 6) E J K (I.up b9 rfl) om) _ rfl ?_;rintro uE ⟨hq4,s8⟩;have tX:=gJ s8 om.ty;have⟨m32,oD⟩:=lZ tX qV qb;have b10:=s8.below b9 b9.size (by omega);have mY:aM uE d 3 (Iu a n c (Rt.s60 l)) 120:=hq4;refine au (aG (wS l (Rt.s58 l) 2))<|aC<|Wb ?_;have pz:aY uE w.heap.size 69 56 (.slice none (0) (0)) 0 (gI ([])):=wm _ _ _ _ _;obtain⟨k9N,apV⟩ : ∃ q,q=nnV l:=⟨_,rfl⟩;refine Ic (fun kE f u => ∃ r:Nat,∃ s:Ct,∃ G:List iK,∃ g:Nat,∃ z:Option Addr,∃ A:Nat,kE=r/\s.1<=l.length/\G++(DK l r s).1=(CB l).1/\(DK l r s).2=(CB l).2/\g=G.length/\g+r<=65535/\f 0 = .slice a (n) (c)/\f 2=(pt F)/\f 4=(pt d)/\f 5=(pt t)/\f 8=aG (r:Int)/\aM u F 20 zP0 43/\aM u d 3 (Iu a n c s) 120/\aM u t 20 (dS (GN l z g A none 0 0)) 43/\aY u w.heap.size 69 56 (.slice z (g) (A)) g (gI G)/\Below w.heap.size w u) (k9N) ⟨k9N,Rt.s60 l,[],0,none,0,rfl,(Hq (qo (qo (Hq (J_ _)) 6) 6)),(by rw[apV]; rfl),(by rw[apV]; rfl),rfl,(by have := @alH l; omega),h1,h2,Z,h4,(K_ (Value.int .u64) (by rw[apV]; exact(Int.toNat_of_nonneg (Qa (by decide)).1).symm)),m32,mY,oD,pz,b10⟩ ?_;rintro kE f2 Bg ⟨r,s,G,g,z,A,hkE,Q,hol,hst,hnl,hr,h6,h7,H,C,h10,pQ,R,sD,qM,T⟩;refine aQ<|ay<|bA h10 ?_;by_cases c44:0<(r:Int)
  ·refine Lv aH (lK c44)<|au aH<|bA H<|au (pt d)<|au (pf d 2) ?_;by_cases U:s.2=true
   ·refine Lv aH (aR R.aJ 2 ((show _=Value.bool s.2 from rfl).trans (K_ Value.bool U)))<|au aD<|au aD<|aC<|aL<|Wx<|cZ<|iC<|dB ?_;have aga:=Yp (l:=l) (r:=r) (s:=s) (.inr U);have V:G=(CB l).1:=(by have b:=hol; rw[aga]at b; simpa using b);have W:s=(CB l).2:=(by have b:=hst; rw[aga]at b; exact b);have qW:aM Bg d 3 (Iu a n c ((CB l).2)) 120:=(by have b:=R; rw[W]at b; exact b);have hsN:(CB l).2.1<=l.length:=(by rw[<- W]; exact Q);have P:g=(CB l).1.length:=(by rw[<- V]; exact hnl);have vk:aY Bg w.heap.size 69 56 (.slice z (g) (A)) g (gI (CB l).1):=(by have b:=qM; rw[V]at b; exact b);exact nL ⟨g,z,A,hsN,P,h6,h7,H,C,pQ,qW,sD,vk,T⟩
   rw[R_]at U;refine Lv aD (aR R.aJ 2 ((show _=Value.bool s.2 from rfl).trans (K_ Value.bool U)))<|au aH<|au aH<|aC<|aP<|Wk<|sN<|aQ<|Wb<|aQ ?_;have hbad:s.2=false:=U;refine Wl<|bA H<|dO (vg d a n c l s 8 _ (by decide) (by rw[E]; exact Q) E J K (I.up T rfl) R) _ rfl ?_;rintro BD ⟨hq5,s9⟩;have Av:=gJ s9 R.ty;have⟨qx,qy,uF⟩:=wB Av pQ sD qM;have b12:=s9.below T T.size (by omega);have pR:aM BD d 3 (Iu a n c (qC l 8 1 s)) 120:=hq5;refine bA H<|dO (vg d a n c l (qC l 8 1 s) 8 _ (by decide) (by rw[E]; exact qo Q 1) E J K (I.up b12 rfl) pR) _ rfl ?_;rintro Bh ⟨hq6,oP⟩;have yU:=gJ oP pR.ty;have⟨qc,tK,xY⟩:=wB yU qx qy uF;have b13:=oP.below b12 b12.size (by omega);have sQ:aM Bh d 3 (Iu a n c (qC l 8 2 s)) 120:=hq6;refine au (.agg (aA 56 (bJ (bJ zJ0 0 1 (fun _=>aG (bC l s 8 0))) 1 1 (fun _=>aG (bC l s 8 1)))))<|oJ 56 zJ0 fun D EU yL uN s11 z6 => ?_;have⟨yj,Ai,yG,xA,b14⟩:=oK s11.bP qc tK xY sQ b13;have Uw:=gQ yL b13.size;have⟨aEj,aEk⟩:=oM yL qc.lt tK.lt;have V7:(.slice z (g) (A):Value).ownBlock≠some D:=(by rw[yL]; exact xY.gW (A_ _));have aEl:=gD yL sQ.lt;have TR:=uN.lt;refine dY uN 0 (h1:=(cu (cu (fun jq _=>by show(zJ0 jq).oneCell'=true; simp only[zJ0]; repeat (first|rfl|split)) (fun _ _=>rfl)) (fun _ _=>rfl))) fun CW yH s12 z7 => ?_
   have wC:aM CW D 56 (bJ (bJ zJ0 0 1 (fun _=>aG (bC l s 8 0))) 1 1 (fun _=>aG (bC l s 8 1))) 69:=aO yH;have vU:aM CW D 56 (iI (Je l s 0)) 69:=wC.congr (akb (fun p=>b_ (by omega)));have BX:=gJ s12 uN.ty;have⟨wD,tL⟩:=lZ BX yj Ai;have uG:=yG.cK s12 V7;have oo:=jU BX xA;have b15:=s12.below b14 b14.size (by omega);refine aC<|aQ<|ay<|au (pf D 2)<|lX (afz D 2 _) ?_;rintro e9 w16 ⟨ra1,L,he,hm1,hb1⟩;refine⟨_,he,?_⟩;clear he;have⟨pE,vV,m64,xB,sG,b16⟩:=oL hb1 wD tL uG oo vU b15;have sF:aY w16 w.heap.size 113 1 (.slice ra1 (9) (L)) 9 (xV D 2):=hm1.mono b15.size;refine au (av 9)<|au (av 0)<|aC<|Wb<|Wo (fun f u => ∃ q:Nat,q<=9/\f 0 = .slice a (n) (c)/\f 2=(pt F)/\f 4=(pt d)/\f 5=(pt t)/\f 8=aG (r:Int)/\f 9=(pt D)/\f 60 = .slice ra1 (9) (L)/\f 61=av 9/\f 62=av (q:Int)/\aM u F 20 zP0 43/\aM u t 20 (dS (GN l z g A none 0 0)) 43/\aM u d 3 (Iu a n c (qC l 8 (2+6*q) s)) 120/\aM u D 56 (iI (Je l s q)) 69/\aY u w.heap.size 69 56 (.slice z (g) (A)) g (gI G)/\aY u w.heap.size 113 1 (.slice ra1 (9) (L)) 9 (xV D 2)/\Below w.heap.size w u) (fun f _=>(9-(intOf (f 62)).toNat)) ⟨0,by omega,h6,h7,H,C,(h10.trans ic),(by rfl),(by rfl),ic,ic,pE,vV,xB,sG,m64,sF,b16⟩ ?_;rintro f3 Fg ⟨q,hq,h11,h12,IV,TU,Zu,h16,Xd,h18,Y,sH,sI,tN,tO,qg,sS,N⟩;refine ay ?_;by_cases c63:(q:Int)<9
   ·refine Lv aH (fK c63 (hx:=Y) (hy:=h18))<|aC<|aQ<|aP<|Wk<|sN<|aQ<|Wb<|ay ?_;obtain⟨Gv,eq1⟩:=sS.wz (by omega);have vW:aY Fg w.heap.size 113 1 (dz Gv 9 L) 9 (xV D 2):=sS.fE (K_ (fun q=>Value.slice q 9 L) eq1);refine Lv (pf Gv q) (fC 1 (hx:=(Xd.trans (K_ (fun q=>Value.slice q (9) (L)) eq1))) (hi:=Y))<|Lv (.slice (some ⟨D,2+6*q,none⟩) (6) (6)) (aR vW.aJ q)<|au (.slice (some ⟨D,2+6*q,none⟩) (6) (6))<|aC<|Wl<|bA IV<|au (.slice (some ⟨D,2+6*q,none⟩) (6) (6))<|dO (ajP d D a n c l (qC l 8 (2+6*q) s) (2+6*q) 6 6 (iI (Je l s q)) _ (by rw[E]; exact qo Q _) E J K (by omega) (fun w9 C=>I.up (C.below N (by rintro k9 (H|H) <;> omega) N.size) rfl) tN tO) _ rfl ?_
    rintro En ⟨hq7,aEm,agb⟩;have wE:=sH.qZ agb (show ¬ (F=d\/F=D) by omega);have zh:=sI.qZ agb (show ¬ (t=d\/t=D) by omega);have yS:=qg.qZ agb (fun g9 hg9 C=>C.elim (fun C=>L_ (Ty.only (C ▸ qg.ty hg9) tN.ty) (by decide)) (fun C=>V7 (C ▸ hg9)));have zi:=vW.qZ agb (fun g9 hg9 C=>C.elim (fun C=>L_ (Ty.only (C ▸ vW.ty hg9) tN.ty) (by decide)) (fun C=>L_ (Ty.only (C ▸ vW.ty hg9) tO.ty) (by decide)));have b18:=agb.below N (by rintro k9 (C|C) <;> omega) N.size
    have yR:aM En d 3 (Iu a n c (qC l 8 (2+6*(q+1)) s)) 120:=(by have b:=hq7; rw[Lx,show 2+6*q+6=2+6*(q+1) by omega]at b; exact b);have xZ:aM En D 56 (iI (Je l s (q+1))) 69:=aEm.congr (ajR (by omega));refine Ln<|bS<|sN<|Wl<|Lv (av ((q:Int)+1)) (gu (hx:=Y))<|au (av ((q:Int)+1))<|Ln ?_;have yI:aY En w.heap.size 113 1 (.slice ra1 (9) (L)) 9 (xV D 2):=zi.fE (K_ (fun q=>Value.slice q 9 L) eq1.symm);refine iA ⟨q+1,by omega,h11,h12,IV,TU,(Zu.trans ic),h16,Xd,(h18.trans ic),ic,wE,zh,yR,xZ,yS,yI,b18⟩ ?_;show(9-(intOf (av ((q:Int)+1))).toNat)<_;simp only[Y,intOf]; omega
   refine Lv aD (fM c63 (hx:=Y) (hy:=h18))<|aC<|aQ<|aL<|Wx<|cZ<|iC<|dB<|sN ?_;have eq9:q=9:=(by omega);have xC:aM Fg D 56 (iI (Gl l s)) 69:=(tO.congr (fun j O=>by rw[eq9]; exact apP j O));have zk:aM Fg d 3 (Iu a n c (ndS l s)) 120:=(by have b:=tN; rw[eq9]at b; exact b);refine Wl<|Lv (pf t 18) (iO TU 18)<|Lv (.slice z (g) (A)) (aR sI.aJ 18)<|Lv (.agg (aA 56 (iI (Gl l s)))) (dZ xC.aJ 0 (ha:=h16))<|uz (vs := [(0,.agg (aA 56 (iI (Gl l s))))]) (s:=56) (zc:=fun o=>if o<2 then aG 0 else av 0) (y:=bJ (fun j=>zJ0 (j % 56)) (0*56) 56 (iI (Gl l s))) (by rfl) rfl rfl underlying40 (by kernel_rfl) (by rfl) (by rfl) (by kernel_rfl) (by rw[aT (off:=0*56) (s:=56) (y:=iI (Gl l s)) rfl (bM _ _) (by rfl)]; rfl) rfl fun g5 YF BG zS D5 z8 => ?_;have⟨zw,Aj,Bq,zT,BR,b19⟩:=oL D5.bP sH sI qg xC zk N;have wX:=gQ BG N.size;have⟨aEn,aEo⟩:=oM BG sH.lt sI.lt;have aEp:(.slice z (g) (A):Value).ownBlock≠some g5:=(by rw[BG]; exact qg.gW (A_ _));have⟨aEq,aEr⟩:=oM BG xC.lt zk.lt;have YE:=zS.lt;refine xX (B:=w.heap.size) (s:=56) (bytes:=448) (k:=g) (m:=1) (v := .slice z (g) (A)) (x:=gI G) (by rfl) rfl rfl rfl underlying40 (by kernel_rfl) (by kernel_rfl) rfl rfl Bq zS.aJ (fun j O=>by unfold bJ; rw[d_ ⟨by omega,by omega⟩]; exact nM _ _) (by omega) (by omega) (by omega) b19.size fun X sK TN ho1 hg1 vE hlt1 => ?_;have Ri:=yc hg1 Bq;have⟨Ak,BF⟩:=lZ Ri zw Aj;have aEs:D≠X:=fun e=>vE.elim (fun e2=>V7 (by rw[e]; exact e2)) (fun e2=>by have:=zT.lt; omega);have Bt:=jU Ri BR;have Bj:aY TN w.heap.size 69 56 (dz X (g+1) sK) (g+1) (gI (G ++ [(Gl l s)])):=(ho1.congr (CK (l:=G) (x:=(Gl l s)) hnl));have b20:Below w.heap.size w TN:=sO b19 hg1 b19.size (fun q hq=>(Bq.ge hq).1);refine Lv (pf t 18) (iO TU 18)<|jf BF 18 (dz X (g+1) sK) fun WE Dv s15 z9 => ?_;have BZ:aM WE t 20 (dS (GN l (some ⟨X,0,none⟩) (g+1) sK none 0 0)) 43:=Dv.congr aEf;have Eu:=Ak.cK s15 (by omega);have Ia:=gJ s15 BF.ty;have⟨qO,rO⟩:=lZ Ia Bt Bj;have DW:=s15.below b20 b20.size (by omega);refine Ln<|bS<|sN<|Wl<|bA Zu<|Lv (aG ((r:Int)-1)) jK<|au (aG ((r:Int)-1))<|Ln ?_
   skip
   refine iA ⟨kE-1,(by omega),r-1,ndS l s,G ++ [(Gl l s)],g+1,(some ⟨X,0,none⟩),sK,(by omega),(qo Q 56),(ajS (p:=DK l r s) (S:=(DK l (r-1) (ndS l s)).2) hol (Tv (by omega) hbad)),(by rw[<- hst,Tv (by omega) hbad]),(by rw[E_]; exact K_ (· + 1) hnl),(by omega),h11,h12,IV,TU,ic,Eu,qO,BZ,rO,DW⟩ (by decide)
  refine Lv aD (lM c44)<|au aD<|bf<|bf<|bf<|bf<|bf<|au aD<|aC<|aL<|Wx<|cZ<|iC<|dB ?_;have aga:=Yp (l:=l) (r:=r) (s:=s) (.inl (by omega));have V:G=(CB l).1:=by have b:=hol; rw[aga]at b; simpa using b
  have W:s=(CB l).2:=by have b:=hst; rw[aga]at b; exact b
  have tY:aM Bg d 3 (Iu a n c ((CB l).2)) 120:=by have b:=R; rw[W]at b; exact b
  have hsN:(CB l).2.1<=l.length:=by rw[<- W]; exact Q
  have P:g=(CB l).1.length:=by rw[<- V]; exact hnl
  have qz:aY Bg w.heap.size 69 56 (.slice z (g) (A)) g (gI (CB l).1):=by have b:=qM; rw[V]at b; exact b
  exact nL ⟨g,z,A,hsN,P,h6,h7,H,C,pQ,tY,sD,qz,T⟩
 rintro f4 YG ⟨g,z,A,hsN,P,h20,h21,h22,h23,qP,qQ,pV,qA,zl⟩;refine aQ<|aQ ?_;have gs0:gsV l=([],yu l (CB l).2 2):=by unfold gsV; rw[hg0]; rfl
 have hc0:wS l (CB l).2 2=0:=by have b:=(Qa (l:=l) (s:=(CB l).2) (k:=2) (by decide)).1; unfold gnV at hg0; omega
 have hgs:(uq l).gs.length=0:=by show(gsV l).1.length=0; rw[gs0]; rfl
 have hbd:(yu l (CB l).2 2).2=false:=by have b:=hG.1; rw[gs0]at b; exact b
 have hn0:0<n:=by rw[E]; exact List.length_pos_iff.2 hG.2.1
 have hnG:0=(gsV l).1.length:=by rw[gs0]; rfl
 refine Wl<|bA h22<|dO (vg d a n c l ((CB l).2) 2 _ (by decide) (by rw[E]; exact hsN) E J K (I.up zl rfl) qQ) _ rfl ?_;rintro yB ⟨hq8,s16⟩;have aeA:=gJ s16 qQ.ty;have⟨vH,qR,tZ⟩:=wB aeA qP pV qA;have Fh:=s16.below zl zl.size (by omega);have uR:aM yB d 3 (Iu a n c (yu l (CB l).2 2)) 120:=hq8;refine au (aG (wS l (CB l).2 2))<|aC<|Wb<|Wo (fun f u=>f 0 = .slice a (n) (c)/\f 2=(pt F)/\f 4=(pt d)/\f 5=(pt t)/\f 12=aG (wS l (CB l).2 2)/\aM u F 20 zP0 43/\aM u t 20 (dS (GN l z g A none 0 0)) 43/\aY u w.heap.size 69 56 (.slice z (g) (A)) g (gI (CB l).1)/\aM u d 3 (Iu a n c (yu l (CB l).2 2)) 120/\Below w.heap.size w u) (fun f _=>0) ⟨h20,h21,h22,h23,ic,vH,qR,tZ,uR,Fh⟩ ?_;rintro f5 Ui ⟨h24,h25,h26,h27,h28,zD,wG,wH,Ay,Gs⟩;refine aQ<|ay<|bA h28<|Lv aD Fb<|au aD<|bf<|bf<|bf<|bf<|bf<|au aD<|aC<|aL<|Wx<|cZ<|iC<|dB<|sN<|aQ<|aQ ?_;have yV:aY Ui w.heap.size 96 5 (.slice none (0) (0)) 0 (iU (uq l).gs):=wm _ _ _ _ _;have uf:aM Ui t 20 (dS (dR (uq l) z A none 0)) 43:=by have b:=wG; rw[P,show GN l z (CB l).1.length A none 0 0=GN l z (CB l).1.length A none (gsV l).1.length 0 by rw[gs0]; rfl,auV]at b; exact b
 have oQ:aY Ui w.heap.size 69 56 (.slice z ((uq l).ns.length) (A)) ((uq l).ns.length) (gI (uq l).ns):=by have b:=wH; rw[P]at b; exact b
 have wI:aY Ui w.heap.size 96 5 (.slice none ((uq l).gs.length) (0)) ((uq l).gs.length) (iU (uq l).gs):=by rw[hgs]; exact yV
 refine Wl<|bA h26<|au (pt d)<|au (pf d 2)<|Lv aD (aR Ay.aJ 2 ((show _=Value.bool ((yu l (CB l).2 2).2)from rfl).trans (K_ Value.bool hbd)))<|au aD<|bA h24<|au (av n)<|Lv aD Qz<|au aD<|au aD<|Lv (.agg (aA 20 (dS (dR (uq l) z A none 0)))) (dZ uf.aJ 0 (ha:=h27))<|lX (afG (uq l) z A none 0 _ ⟨alI,m_ Qb.1 (by decide),m_ Qb.2 (by decide),oQ.oI,wI.oI,oQ.le,wI.le⟩ hgs) ?_;rintro e9 w25 ⟨YP,pc1,he,hm2,hb2⟩;refine⟨_,he,?_⟩;clear he;have⟨wJ,Ca,zF,zG,M7⟩:=oK hb2 zD uf oQ wI Gs;have yX:aY w25 w.heap.size 5 1 (.slice YP ((mR (uq l)).length) (pc1)) ((mR (uq l)).length) (lJ (mR (uq l))):=hm2.mono Gs.size;refine bA h24<|mX (afZ (la:=mR (uq l)) (lb:=l) rfl E yX.oI (I.up M7 rfl) hG.2.2) (ax := #[.slice YP ((mR (uq l)).length) (pc1),.slice a (n) (c)]) _ rfl<|au aD<|au aD<|aC<|aL<|Wk<|sN<|ay<|Lv (.agg (aA 20 (dS (dR (uq l) z A none 0)))) (dZ Ca.aJ 0 (ha:=h27))<|dY wJ 0 (ha:=h25) (h1:=(fun j _=>qj _ j)) fun YM Az Qg QM => ?_;have Bv:aM YM F 20 (dS (dR (uq l) z A none 0)) 43:=aO Az;have avg:=gJ Qg wJ.ty;have DC:=Ca.cK Qg (by omega);have⟨Dx,AB⟩:=lZ avg zF zG;have TS:=Qg.below M7 M7.size (by omega);refine au (av 0) (aC (Wr (⟨.tuple #[.agg (aA 20 (dS (dR (uq l) z A none 0))),av 0],gK Tryz.results16 ⟨_,h25,aU Bv.aJ (by kernel_rfl) (by kernel_rfl)⟩ (by exact rfl),?_⟩)));rw[(Yq hG).1,(Yq hG).2];exact⟨z,A,none,0,rfl,Dx,AB,TS⟩
namespace Rt
def N0:iK:=⟨5,0,fun _=>0⟩
def N1:iK:=⟨5,0,fun p=>if p=0 then 10 else N0.R p⟩
def N2:iK:=⟨5,0,fun p=>if p=0 then 12 else N1.R p⟩
def S10:jA:=⟨fun i=>decide (i<2),fun _=>false,fun i=>if i=0 then 1 else 0,[],[]⟩
def S1:jA:=⟨fun i=>decide (i<2),fun _=>false,fun i=>if i=0 then 1 else 0,[N1],[]⟩
def S1b:jA:=⟨fun i=>decide (i<2),fun _=>false,fun i=>if i=0 then 1 else 0,[N2],[]⟩
def S2:jA:=⟨fun i=>decide (i<2),fun _=>false,fun i=>if i=0 then 2 else 0,[N2],[]⟩
def L1:jA:=⟨fun _=>false,fun i=>decide (i=0),fun _=>0,[],[]⟩
theorem alK{x:iK} : ∀ j,j<56->dN (iI x) 2 (av a) j=iI ⟨x.id,x.par,fun p=>if p=0 then a else x.R p⟩ j:=fun j v=>by
 match j,v with
 | 0,_=>rfl
 | 1,_=>rfl
 | p+2,v =>
   rw[CQ _ rfl]
   grind [dN,CQ]
theorem nz5(h1:x 1=aG 0)(b : ∀ p,x (p+2)=av 0) : ∀ j,j<56->bJ x 0 1 (fun _=>aG 5) j=iI N0 j:=fun j a=>by
 match j,a with
 | 0,_=>rfl
 | 1,_=>exact h1
 | p+2,a=>simp_all [CQ,N0,bJ]
theorem apW:iV N1.R=true:=by decide
theorem apX:iV N2.R=true:=by decide
theorem avh(K:Nat->Int)(N:iK)(c : ∀ i,i<6->K i<=1099511627776)(hi:N.id=5)(f:N.par=0)(d:iV N.R=true):vN ⟨fun i=>decide (i<2),fun _=>false,K,[N],[]⟩ where
 kn:=c
 nn:=by simp_all
 gn:=J_ _
 nr:=fun k a=>L_ a (by simp_all)
 gr:=fun k a=>L_ a (z_ _)
 li:=fun i _ h=>by cases h
 nd:=fun k a=>by
  have a:k<1:=a;have e:k=0:=by omega
  subst e;refine⟨by show N.id≠0; omega,d,?_⟩;show qK [N] 33 N.id=true;rw[hi];have b:og [N] 5=((0:Nat):Int):=CJ (l := [N]) (fun k a=>L_ a (by simp_all)) (Nat.zero_lt_one) hi;rw[VI (by decide) b];show qK [N] 32 N.par=true
  grind [VH]
 gd:=fun k a=>L_ a (z_ _)
theorem ES:vN S1:=avh _ _ (fun i _=>by omega) rfl rfl apW
theorem Qe:vN S2:=avh _ _ (fun i _=>by omega) rfl rfl apX
theorem Yw:vN Qi where
 kn:=fun i _=>by show(0:Int)<=_; decide
 nn:=J_ _
 gn:=J_ _
 nr:=fun k a=>L_ a (z_ _)
 gr:=fun k a=>L_ a (z_ _)
 li:=fun i _ h=>by cases h
 nd:=fun k a=>L_ a (z_ _)
 gd:=fun k a=>L_ a (z_ _)
theorem apY:wR L1=false:=xU fun h=>by have:=h.li 0 (by decide) rfl; cases this
theorem N_r(N:iK)(hi:N.id=5)(b:N.par=0)(a : ∀ p,0<=N.R p/\N.R p<=12):NdR N:=⟨by rw[hi]; exact⟨by decide,by decide⟩,by rw[b]; exact⟨by decide,by decide⟩,fun p _=>by have:=a p; exact⟨by omega,by omega⟩⟩
theorem aai:Tk S1:=⟨fun i _=>by show wh (if i=0 then(1:Int)else 0); split <;> exact⟨by decide,by decide⟩,fun x a=>by rw[List.mem_singleton.1 a]; exact N_r N1 rfl rfl (fun p=>by show 0<=(if p=0 then(10:Int)else 0)/\(if p=0 then(10:Int)else 0)<=12; omega),fun x a=>(nomatch a)⟩
theorem agc:Tk S2:=⟨fun i _=>by show wh (if i=0 then(2:Int)else 0); split <;> exact⟨by decide,by decide⟩,fun x a=>by rw[List.mem_singleton.1 a]; exact N_r N2 rfl rfl (fun p=>by show 0<=(if p=0 then(12:Int)else if p=0 then 10 else 0)/\(if p=0 then(12:Int)else if p=0 then 10 else 0)<=12; omega),fun x a=>(nomatch a)⟩
theorem kY:cO S1.ns S2.ns=some [BI N1 N2]:=by
 show cO [N1] [N2]=_;rw[VK (a := [N1]) (b := [N2]) (by decide) (by decide) (by decide) (by decide) rfl,CO (a := [N1].tail) (b := [N2].tail) (.inl rfl)]; rfl
theorem mG:cO S2.ns S1.ns=some [BI N2 N1]:=by
 show cO [N2] [N1]=_;rw[VK (a := [N2]) (b := [N1]) (by decide) (by decide) (by decide) (by decide) rfl,CO (a := [N2].tail) (b := [N1].tail) (.inl rfl)]; rfl
theorem mg0:dw [] []=some []:=by grind [ER]
theorem nj1(p:Nat):ou (N1.R p) (N2.R p)=N2.R p:=by
 show ou (if p=0 then(10:Int)else 0) (if p=0 then(12:Int)else if p=0 then 10 else 0)=(if p=0 then(12:Int)else if p=0 then 10 else 0);by_cases e:p=0
 ·simp only[d_ e]; decide
 simp only[b_ e]; decide
theorem nj2(p:Nat):ou (N2.R p) (N1.R p)=N2.R p:=by
 show ou (if p=0 then(12:Int)else if p=0 then 10 else 0) (if p=0 then(10:Int)else 0)=(if p=0 then(12:Int)else if p=0 then 10 else 0);by_cases e:p=0
 ·simp only[d_ e]; decide
 simp only[b_ e]; decide
def V9:jA:=xR S1 S2 [BI N1 N2] []
def U21:jA:=xR S2 S1 [BI N2 N1] []
theorem alL{P:Nat->Prop}(h:P 0) : ∀ k,k<1->P k:=by simp_all
theorem LK:jg V9 S2:=⟨fun i _=>by show(decide (i<2) || decide (i<2))=decide (i<2); simp,fun i _=>rfl,fun i _=>by show ou (if i=0 then(1:Int)else 0) (if i=0 then(2:Int)else 0)=(if i=0 then(2:Int)else 0); split <;> decide,rfl,rfl,alL ⟨rfl,rfl,fun p _=>nj1 p⟩,fun k a=>L_ a (z_ _)⟩
theorem TK:jg U21 S2:=⟨fun i _=>by show(decide (i<2) || decide (i<2))=decide (i<2); simp,fun i _=>rfl,fun i _=>by show ou (if i=0 then(2:Int)else 0) (if i=0 then(1:Int)else 0)=(if i=0 then(2:Int)else 0); split <;> decide,rfl,rfl,alL ⟨rfl,rfl,fun p _=>nj2 p⟩,fun k a=>L_ a (z_ _)⟩
theorem j12:gM S1 S2=(V9,0):=ajE (vO ES) (vO Qe) kY mg0 (vO (Qe.qU LK.symm))
theorem j21:gM S2 S1=(U21,0):=ajE (vO Qe) (vO ES) mG mg0 (vO (Qe.qU TK.symm))
theorem l12:Bp S1 S2=true:=JK j12 rfl LK
theorem l21:Bp S2 S1=false:=Bb j21 fun h=>by
 have a:=h.2.aF 0 (by decide);rw[TK.aF 0 (by decide)]at a;exact L_ a (by decide)
theorem agd:Yj V9 S2=true:=Yk LK
theorem alM:jg (uq (ze S1)) S1:=⟨h_,h_,h_,by rfl,by rfl,fun k a=>by
 rw[show(uq (ze S1)).ns.length=1 by rfl]at a;rw[show k=0 by omega];exact⟨by rfl,by rfl,h_ (by kernel_rfl)⟩,fun k a=>by rfl⟩
theorem GP1:ZX (mR S1):=by
 rw[CP ES];exact⟨by rfl,(fun h=>by grind [Hr]),by rw[CP (vN.qU alM.symm ES)]; kernel_rfl⟩
theorem aEu:gnV (mR S1)=0:=by rw[CP ES]; rfl
theorem akd:Yj (uw (mR S1)) S1=true:=by grind [Yk,Yq,GP1,CP,ES,alM]
theorem aEv:ajn (mR S1)=0:=(Yq GP1).2
theorem agf:(mR Qi).length=66:=by rw[CP Yw,Hr]; rfl
theorem apZ:(mR Qi).take 4=P8:=by rw[CP Yw,Tz]; rfl
theorem avi(w:World):JJ w Qi none 0 none 0:=⟨afr,J_ _,J_ _,fun h=>L_ h (by show ¬ 0<0*56; decide),fun h=>L_ h (by show ¬ 0<0*5; decide),A_ _,A_ _⟩
theorem agh(w:World):JJ w L1 none 0 none 0:=⟨⟨fun i _=>⟨M_ 0,show(0:Int)<=18446744073709551615 by decide⟩,fun x a=>(nomatch a),fun x a=>(nomatch a)⟩,J_ _,J_ _,fun h=>L_ h (by show ¬ 0<0*56; decide),fun h=>L_ h (by show ¬ 0<0*5; decide),A_ _,A_ _⟩
theorem F9{w:World}{m:jA}{a:Option Addr}{c:Nat}(hr:Tk m)(e:m.ns.length=1)(b:m.gs = [])(h:Fx.iB w a 1 56 (gI m.ns))(d:1<=c):JJ w m a c none 0:=⟨hr,by omega,by simp_all,by simp_all,by rw[b]; exact fun h=>L_ h (by simp_all),by omega,by simp_all⟩
end Rt
theorem aqa(z:Nat->Value)(d : ∀ j,j<20->z j=dS (dR Qi none 0 none 0) j)(w:World):Calls prog 15 #[.agg (aA 20 z)] w fun e b => ∃ a c,e = .returned (.slice a 66 c)/\aY b w.heap.size 5 1 (.slice a 66 c) 66 (lJ (mR Qi))/\Below w.heap.size w b:=by
 rw[fI d];have h:=afG _ _ _ _ _ _ (avi w) rfl;rw[agf]at h; exact h
theorem aqb(z:Nat->Value)(a : ∀ j,j<20->z j=dS (dR L1 none 0 none 0) j)(w:World):Calls prog 17 #[.agg (aA 20 z)] w fun e b=>e = .returned (.bool false)/\Below w.heap.size w b:=by
 rw[fI a];have h:=Od _ _ 0 _ 0 _ (agh w).r.k (agh w).l1 (agh w).l2 (agh w).n (agh w).g;rw[apY]at h; exact h
theorem aqc(a:Option Addr)(n c:Nat)(l:List UInt8)(v:jA)(ev:Int)(w:World)(s:uw l=v)(o:ajn l=ev)(r:n=l.length)(m:n<=c)(q:n<=100000000)(k:Fx.iB w a n 1 (lJ l))(j:ZX l)(p:gnV l=0) :
 Calls prog 16 #[.slice a n c] w fun e b => ∃ g i d f,e = .returned (.tuple #[.agg (aA 20 (dS (dR v g i d f))),av ev])/\aY b w.heap.size 69 56 (.slice g v.ns.length i) v.ns.length (gI v.ns)/\aY b w.heap.size 96 5 (.slice d v.gs.length f) v.gs.length (iU v.gs)/\Below w.heap.size w b:=by
 have h:=avd _ _ _ _ _ r m q k j p;rw[s,o]at h; exact h
theorem avj{l:List UInt8}{v:jA}{a:Option Addr}(j:uw l=v)(g:aY c m 69 56 (.slice f v.ns.length k) v.ns.length (gI v.ns))(B:aY c m 96 5 (.slice a v.gs.length b) v.gs.length (iU v.gs)):JJ c v f k a b:=by
 obtain⟨w,d,e⟩:=apQ l;rw[j]at w d e;exact⟨w,m_ d (by decide),m_ e (by decide),g.oI,B.oI,g.le,B.le⟩
theorem Rt.agi(h:Fx.iB c f k 1 (lJ p)):Fx.iB c f k 1 (lJ (p.take k)):=h.to rfl fun j b=>by
 unfold lJ; rw[r_,r_,List.getElem?_take,d_]
theorem Fx.aM.ake{g:iK}(h:Fx.aM c m 56 (Fx.bJ x (0*56) 56 (iI g)) T):Fx.iB c (some ⟨m,0,none⟩) 1 56 (gI [g]):=fun _=>⟨m,0,rfl,fun j b=>by
 have:=h.aJ j b;rw[this];have a:j<56:=by omega
 unfold Fx.bJ;rw[d_ ⟨by omega,by omega⟩];show _=some (iI (bY [g] (j / 56)) (j % 56));rw[Nat.div_eq_of_lt a,Nat.mod_eq_of_lt a,Nat.zero_mul,Nat.sub_zero]; rfl⟩
set_option maxRecDepth 20000 in
set_option maxHeartbeats 8000000 in
theorem Yx(w:World) :
 Calls prog 4 #[] w fun e w'=>e = .returned (.bool true)/\Below w.heap.size w w':=by
 refine bX func4 91 ?_;refine ay<|au aD<|aC<|ay<|au (.agg (aA 20 zP0))<|lX (aqa _ (fun j i=>match j,i with|0,_=>rfl|1,_=>rfl|2,_=>rfl|3,_=>rfl|4,_=>rfl|5,_=>rfl|6,_=>rfl|7,_=>rfl|8,_=>rfl|9,_=>rfl|10,_=>rfl|11,_=>rfl|12,_=>rfl|13,_=>rfl|14,_=>rfl|15,_=>rfl|16,_=>rfl|17,_=>rfl|18,_=>rfl|19,_=>rfl|j+20,h=>L_ h (by omega)) _) (ax := #[.agg (aA 20 zP0)]) ?_
 rintro X w1 ⟨L,M,n,hm1,hb1⟩;refine⟨_,n,?_⟩;clear n;have b1:=bL hb1 (Below.refl w.heap.size w);have m1:=hm1.mono (Below.refl w.heap.size w).size;refine au (.slice L (66) (M))<|aC<|ay<|Lv (.agg (aA 6 (bJ (bJ (fun _ => .bool false) 0 1 (fun _ => .bool true)) 1 1 (fun _ => .bool true)))) (Ad (vs := [(0,.bool true),(1,.bool true)]) (s:=1) (m:=6) (x:=fun _ => .bool false) rfl rfl underlying39 (by kernel_rfl) (by kernel_rfl) (by rw[aT (off:=0) (s:=1) (y:=fun _ => .bool true) (by kernel_rfl) (bG)]; rw[aT (off:=1) (s:=1) (y:=fun _ => .bool true) (by kernel_rfl) (bG)]; rfl))<|Lv (.agg (aA 6 (bJ (rv .u64 (fun _=>0)) 0 1 (fun _=>aG 1)))) (Ad (vs := [(0,aG 1)]) (s:=1) (m:=6) (x:=rv .u64 (fun _=>0)) rfl rfl underlying28 (by kernel_rfl) (by kernel_rfl) (by rw[aT (off:=0) (s:=1) (y:=fun _=>aG 1) (by kernel_rfl) (bG)]; rfl))<|au (.agg (aA 20 (bJ (bJ zP0 0 6 (bJ (bJ (fun _ => .bool false) 0 1 (fun _ => .bool true)) 1 1 (fun _ => .bool true))) 12 6 (bJ (rv .u64 (fun _=>0)) 0 1 (fun _=>aG 1)))))<|oJ 20 zP0 fun H T kV m2 s2 z1 =>have⟨m3,b2⟩:=fB s2.bP m1 b1;have tJ:=gQ kV b1.size;have vB:=m2.lt;dY m2 0 (h1:=(cu (cu (fun K _=>by show(zP0 K).oneCell'=true; simp only[zP0]; repeat (first|rfl|split)) (cu (cu (fun K _=>by show((fun _ => .bool false:Nat->Value) K).oneCell'=true; simp only[]; repeat (first|rfl|split)) (fun _ _=>rfl)) (fun _ _=>rfl))) (cu (fun _ _=>rfl) (fun _ _=>rfl)))) fun w3 m4 s3 z2 => ?_
 have m5:=aO m4;have m6:=m5.congr (fun j i=>match j,i with|0,_=>rfl|1,_=>rfl|2,_=>rfl|3,_=>rfl|4,_=>rfl|5,_=>rfl|6,_=>rfl|7,_=>rfl|8,_=>rfl|9,_=>rfl|10,_=>rfl|11,_=>rfl|12,_=>rfl|13,_=>rfl|14,_=>rfl|15,_=>rfl|16,_=>rfl|17,_=>rfl|18,_=>rfl|19,_=>rfl|j+20,h=>L_ h (by omega))
 have gT:=gJ s3 m2.ty;have m7:=jU gT m3;have b3:=s3.below b2 b2.size (by omega);refine aC<|ay<|au (.agg (aA 56 (bJ zJ0 0 1 (fun _=>aG 5))))<|oJ 56 zJ0 fun r w4 nN m8 s4 z3 =>have⟨m9,m10,b4⟩:=iP s4.bP m7 m6 b3;have xw:=gQ nN b3.size;have GX:=gD nN m6.lt;have zR:=m8.lt;dY m8 0 (h1:=(cu (fun K _=>by show(zJ0 K).oneCell'=true; simp only[zJ0]; repeat (first|rfl|split)) (fun _ _=>rfl))) fun w5 m11 s5 z4 => ?_
 have kY:=aO m11;have m13:=kY.congr (nz5 (by rfl) (fun p=>b_ (by omega)));have jC:=gJ s5 m8.ty;have⟨m14,m15⟩:=lZ jC m9 m10;have b5:=s5.below b4 b4.size (by omega);refine aC<|ay<|au (pf r 2)<|au (pf r 2)<|Lv (pf r 2) (jh 6 1)<|jf m13 2 (av 10) fun w6 m16 s6 z5 => ?_;have ac:aM w6 r 56 (iI N1) 69:=m16.congr alK;have oz:=gJ s6 m13.ty;have⟨m18,ae⟩:=lZ oz m14 m15;have b6:=s6.below b5 b5.size (by omega);refine aC<|ay<|au (pf H 18)<|Lv (.slice none 0 0) (aR ae.aJ 18)<|Lv (.agg (aA 56 (iI N1))) (dZ ac.aJ 0)<|uz (vs := [(0,.agg (aA 56 (iI N1)))]) (s:=56) (zc:=fun b=>if b<2 then aG 0 else av 0) (y:=bJ (fun j=>zJ0 (j % 56)) (0*56) 56 (iI N1)) (by rfl) rfl rfl underlying40 (by kernel_rfl) (by rfl) (by rfl) (by kernel_rfl) (by rw[aT (off:=0*56) (s:=56) (y:=iI N1) rfl (bM _ _) (by rfl)]; rfl) rfl fun g3 O nO m20 s7 z6 => ?_;have⟨mG,m22,m23,W⟩:=jv s7.bP m18 ae ac b6;have Gc:=gQ nO b6.size;have⟨KX,KY⟩:=oM nO ae.lt ac.lt;have Gr:=m20.lt;refine xX (B:=w.heap.size) (s:=56) (bytes:=448) (k:=0) (m:=1) (v := .slice none 0 0) (x:=gI []) (by rfl) rfl rfl rfl underlying40 (by kernel_rfl) (by kernel_rfl) rfl rfl (wm O w.heap.size 69 56 (gI [])) m20.aJ (fun j i=>by unfold bJ; rw[d_ ⟨by omega,by omega⟩]; exact nM _ _) (by omega) (by omega) (by omega) W.size fun f d w8 ho1 o vE hlt1 => ?_;have tV:=yc o (wm O w.heap.size 69 56 (gI []));have⟨mU,pK⟩:=lZ tV mG m22;have hq1:Below O.heap.size O w8:=⟨o.os,o.tape,o.output,o.size,fun q Z=>o.block q Z (fun e=>by cases e)⟩
 have pO:=m23.cK (Sb hq1) (u_ (m23.lt));have m24:aY w8 w.heap.size 69 56 (dz f 1 d) 1 (gI [N1]):=(ho1.congr (CK (l := []) (x:=N1) rfl));have b8:Below w.heap.size w w8:=sO W o W.size (fun q Z=>((wm O w.heap.size 69 56 (gI [])).ge Z).1);refine au (pf H 18)<|jf pK 18 (dz f 1 d) fun w9 om s8 z7 => ?_;have qb:aM w9 H 20 (dS (dR S1 (some ⟨f,0,none⟩) d none 0)) 43:=om.congr (fun j i=>match j,i with|0,_=>rfl|1,_=>rfl|2,_=>rfl|3,_=>rfl|4,_=>rfl|5,_=>rfl|6,_=>rfl|7,_=>rfl|8,_=>rfl|9,_=>rfl|10,_=>rfl|11,_=>rfl|12,_=>rfl|13,_=>rfl|14,_=>rfl|15,_=>rfl|16,_=>rfl|17,_=>rfl|18,_=>rfl|19,_=>rfl|j+20,h=>L_ h (by omega))
 have tX:=gJ s8 pK.ty;have⟨qV,mY,m32⟩:=wB tX mU pO m24;have b9:=s8.below b8 b8.size (by omega);refine aC<|ay<|Lv (.agg (aA 20 (dS (dR S1 (some ⟨f,0,none⟩) d none 0)))) (dZ qb.aJ 0)<|oJ 20 zP0 fun t uE BG oD s9 z8 => ?_;have⟨pz,pQ,rE,sD,b10⟩:=oK s9.bP qV mY m32 qb b9;have wX:=gQ BG b9.size;have⟨Hl,VL,afn⟩:=El BG mY.lt m32.lt qb.lt;have YE:=oD.lt;refine dY oD 0 (h1:=(fun j _=>qj _ j)) fun Bg qM oP z9 => ?_;have qW:aM Bg t 20 (dS (dR S1 (some ⟨f,0,none⟩) d none 0)) 43:=aO qM;have Av:=gJ oP oD.ty;have⟨pR,qx,qy⟩:=wB Av pz pQ rE;have uF:=sD.cK oP (by omega);have b11:=oP.below b10 b10.size (by omega);refine aC<|ay<|Lv (.agg (aA 56 (iI N1))) (dZ qx.aJ 0)<|oJ 56 zJ0 fun I BD Mt sQ s11 QM => ?_;have⟨qc,tK,xY,uN,yj,b12⟩:=oL s11.bP pR qx qy uF qW b11;have lg6:=gQ Mt b11.size;have⟨aEw,aEx,aEy,aEz⟩:=J2 Mt qx.lt qy.lt uF.lt qW.lt;have tg6:=sQ.lt;refine dY sQ 0 (h1:=(fun j _=>nM _ j)) fun Bh Ai Q z11 => ?_;have yG:aM Bh I 56 (iI N1) 69:=aO Ai;have yU:=gJ Q sQ.ty;have yH:=jU yU qc;have wC:=tK.cK Q (by omega);have vU:=xY.agG Q (by omega);have⟨wD,tL⟩:=lZ yU uN yj;have b13:=Q.below b12 b12.size (by omega);refine aC<|ay<|au (pf I 2)<|au (pf I 2)<|Lv (pf I 2) (jh 6 1)<|jf yG 2 (av 12) fun EU uG R z12 => ?_;have oo:aM EU I 56 (iI N2) 69:=uG.congr alK;have BX:=gJ R yG.ty;have sF:=jU BX yH;have pE:=wC.cK R (by omega);have vV:=vU.agG R (by omega);have⟨m64,xB⟩:=lZ BX wD tL;have b14:=R.below b13 b13.size (by omega);refine aC<|ay<|Lv (.agg (aA 56 (iI N2))) (dZ oo.aJ 0)<|uz (vs := [(0,.agg (aA 56 (iI N2)))]) (s:=56) (zc:=fun b=>if b<2 then aG 0 else av 0) (y:=bJ (fun j=>zJ0 (j % 56)) (0*56) 56 (iI N2)) (by rfl) rfl rfl underlying40 (by kernel_rfl) (by rfl) (by rfl) (by kernel_rfl) (by rw[aT (off:=0*56) (s:=56) (y:=iI N2) rfl (bM _ _) (by rfl)]; rfl) rfl fun g CW Rh sG D5 z13 => ?_;have⟨sH,sI,tN,tO,qg,sS,b15⟩:=kU D5.bP sF pE vV m64 xB oo b14;have lg7:=gQ Rh b14.size;have⟨aEA,aEB,aEC,aED,aEE⟩:=Du Rh pE.lt vV.lt m64.lt xB.lt oo.lt;have tg7:=sG.lt;refine au (pf t 18)<|jf qg 18 (dz g 1 1) fun w16 vW s15 z14 => ?_;have yR:aM w16 t 20 (dS (dR S1b (some ⟨g,0,none⟩) 1 none 0)) 43:=vW.congr (fun j i=>match j,i with|0,_=>rfl|1,_=>rfl|2,_=>rfl|3,_=>rfl|4,_=>rfl|5,_=>rfl|6,_=>rfl|7,_=>rfl|8,_=>rfl|9,_=>rfl|10,_=>rfl|11,_=>rfl|12,_=>rfl|13,_=>rfl|14,_=>rfl|15,_=>rfl|16,_=>rfl|17,_=>rfl|18,_=>rfl|19,_=>rfl|j+20,h=>L_ h (by omega))
 have Ri:=gJ s15 qg.ty;have⟨xZ,wE,zh⟩:=wB Ri sH sI tN;have yS:=tO.cK s15 (by omega);have⟨zi,yI⟩:=lZ Ri sS sG;have b16:=s15.below b15 b15.size (by omega);refine aC<|ay<|au (pf t 12)<|Lv (pf t 12) (jh 6 1)<|jf yR 12 (aG 2) fun Fg xC s16 z15 => ?_;have zk:aM Fg t 20 (dS (dR S2 (some ⟨g,0,none⟩) 1 none 0)) 43:=xC.congr (fun j i=>match j,i with|0,_=>rfl|1,_=>rfl|2,_=>rfl|3,_=>rfl|4,_=>rfl|5,_=>rfl|6,_=>rfl|7,_=>rfl|8,_=>rfl|9,_=>rfl|10,_=>rfl|11,_=>rfl|12,_=>rfl|13,_=>rfl|14,_=>rfl|15,_=>rfl|16,_=>rfl|17,_=>rfl|18,_=>rfl|19,_=>rfl|j+20,h=>L_ h (by omega))
 have Ia:=gJ s16 yR.ty;have⟨zS,zw,Aj⟩:=wB Ia xZ wE zh;have Bq:=yS.cK s16 (by omega);have⟨BQ,zT⟩:=lZ Ia zi yI;have U:=s16.below b16 b16.size (by omega);refine aC<|ay<|Lv (.agg (aA 20 (dS (dR S1 (some ⟨f,0,none⟩) d none 0)))) (dZ Bq.aJ 0)<|Lv (.agg (aA 20 (dS (dR S2 (some ⟨g,0,none⟩) 1 none 0)))) (dZ zk.aJ 0)<|lX (JL S1 S2 (some ⟨f,0,none⟩) d none 0 (some ⟨g,0,none⟩) 1 none 0 V9 0 _ (F9 (m:=S1) (a:=(some ⟨f,0,none⟩)) (c:=d) aai rfl rfl Aj.oI Aj.le) (F9 (m:=S2) (a:=(some ⟨g,0,none⟩)) (c:=1) agc rfl rfl (aM.ake zT) (A_ _)) j12 rfl) ?_;rintro X En ⟨A,C,u,z,n,afw,afx,hb2⟩;refine⟨_,n,?_⟩;clear n;have⟨BR,Bj,Ak,BF,DY,Et,Bt,b18⟩:=lY hb2 zS zw Aj Bq BQ zT zk U;have Dv:aY En w.heap.size 69 56 (.slice A (V9.ns.length) (C)) V9.ns.length (gI V9.ns):=afw.mono U.size;have BZ:aY En w.heap.size 96 5 (.slice u (V9.gs.length) (z)) V9.gs.length (iU V9.gs):=afx.mono U.size;refine au (.tuple #[.agg (aA 20 (dS (dR V9 A C u z))),av 0])<|au (.agg (aA 20 (dS (dR V9 A C u z))))<|au (av 0)<|oJ 20 zP0 fun g8 YF eg8 Eu Qg z16 => ?_;have⟨Gd,vG,qO,rO,tY,qz,qP,qQ,pV,b19⟩:=vT Qg.bP BR Bj Ak BF DY Et Bt Dv BZ b18;have lg8:=gQ eg8 b18.size;have⟨axw,axx,axy,axz,axA,axB⟩:=J3 eg8 Bj.lt Ak.lt BF.lt DY.lt Et.lt Bt.lt;have tg8:=Eu.lt;refine dY Eu 0 (h1:=(fun j _=>qj _ j)) fun TN qA S z17 => ?_;have uR:aM TN g8 20 (dS (dR V9 A C u z)) 43:=aO qA;have Y:=gJ S Eu.ty;have⟨qR,tZ,aa⟩:=wB Y Gd vG qO;have wG:=rO.cK S (by omega);have⟨wH,Ay⟩:=lZ Y tY qz;have yV:=qP.cK S (by omega);have⟨uf,oQ⟩:=lZ Y qQ pV;have b20:=S.below b19 b19.size (by omega);refine au (av 0)<|aC<|ay<|Lv (.agg (aA 20 (dS (dR S1 (some ⟨f,0,none⟩) d none 0)))) (dZ wG.aJ 0)<|lX (afG S1 (some ⟨f,0,none⟩) d none 0 _ (F9 (m:=S1) (a:=(some ⟨f,0,none⟩)) (c:=d) aai rfl rfl aa.oI aa.le) rfl) ?_;rintro X WE ⟨pa2,pc2,n,hm2,hb3⟩;refine⟨_,n,?_⟩;clear n;have⟨yX,wJ,Bu,Ca,zF,zG,Az,Bv,Dw,AA,V⟩:=BO hb3 qR tZ aa wG wH Ay yV uf oQ uR b20;have wI:aY WE w.heap.size 5 1 (.slice pa2 ((mR S1).length) (pc2)) ((mR S1).length) (lJ (mR S1)):=hm2.mono b20.size;refine lX (aqc pa2 (mR S1).length pc2 (mR S1) (uw (mR S1)) 0 _ rfl aEv rfl wI.le (by rw[CP ES,Hr]; decide) wI.oI GP1 aEu) ?_;rintro X YG ⟨F,G,D,E,n,aqd,aqe,hb4⟩;refine⟨_,n,?_⟩;clear n;have⟨DC,Dx,AB,zH,AJ,AL,Cb,Cc,Ev,Cg,zl⟩:=BO hb4 yX wJ Bu Ca zF zG Az Bv Dw AA V;have Fw:aY YG w.heap.size 69 56 (.slice F ((uw (mR S1)).ns.length) (G)) ((uw (mR S1)).ns.length) (gI (uw (mR S1)).ns):=aqd.mono V.size;have Dy:aY YG w.heap.size 96 5 (.slice D ((uw (mR S1)).gs.length) (E)) ((uw (mR S1)).gs.length) (iU (uw (mR S1)).gs):=aqe.mono V.size;refine au (.tuple #[.agg (aA 20 (dS (dR (uw (mR S1)) F G D E))),av 0])<|au (.agg (aA 20 (dS (dR (uw (mR S1)) F G D E))))<|au (av 0)<|oJ 20 zP0 fun g9 yB eg9 ab Xc z18 => ?_;have⟨Ce,IX,Ey,FB,Gw,OL,Kg,Ez,Kh,Uo,Fh⟩:=BO Xc.bP DC AB zH AL Cb Cc Ev Cg Fw Dy zl;have lg9:=gQ eg9 zl.size;have⟨axC,axD,axE,axF,axG,axH,axI⟩:=Oz eg9 Dx.lt AB.lt zH.lt AJ.lt AL.lt Cb.lt Cg.lt;have tg9:=ab.lt;refine dY ab 0 (h1:=(fun j _=>qj _ j)) fun Ui OM N z19 => ?_;have abW:aM Ui g9 20 (dS (dR (uw (mR S1)) F G D E)) 43:=aO OM;have P:=gJ N ab.ty;have⟨OO,IL⟩:=lZ P Ce IX;have OQ:=Ey.cK N (by omega);have IQ:=jU P FB;have Ml:=Gw.cK N (by omega);have⟨Ux,O1⟩:=lZ P OL Kg;have Kq:=Ez.cK N (by omega);have⟨Q9,Uy⟩:=lZ P Kh Uo;have Gs:=N.below Fh Fh.size (by omega);refine au (av 0)<|aC<|ay<|au (.slice L (66) (M))<|au (av 66)<|Lv aH Qy<|au aH<|au (.slice L (66) (M))<|Lv (.slice L (4) (M)) (aBf (j:=4) (s:=1) rfl rfl rfl underlying62 (by kernel_rfl) (by omega) OO)<|Lv (.string (Jd P8)) (VG (l:=P8) rfl rfl underlying62 underlying5 underlying9 rfl (by have q9:=agi (k:=4) (OO.akW (by omega)); rw[apZ]at q9; exact q9))<|Lv aH (show cB _ _ _ _ (.bool true)from aeN (l:=P8) (l':=P8) rfl rfl rfl)<|au aH<|au aH<|au (av 0)<|Lv aH Qy<|au aH<|au aH<|Lv (.agg (aA 20 (dS (dR V9 A C u z)))) (dZ Kq.aJ 0)<|Lv (.agg (aA 20 (dS (dR S2 (some ⟨g,0,none⟩) 1 none 0)))) (dZ Ml.aJ 0)<|dO (P7 V9 S2 A C u z (some ⟨g,0,none⟩) 1 none 0 _ (kP aai agc j12 Ux O1) (F9 (m:=S2) (a:=(some ⟨g,0,none⟩)) (c:=1) agc rfl rfl (aM.ake IQ) (A_ _)) (Oh.1 agd)) _ rfl ?_;intro w25 hb5
 have⟨ad,Kt,O5,O6,UC,DF,IU,M7⟩:=lY hb5 IL OQ IQ Ml Q9 Uy abW Gs;refine au aH<|au aH<|au (av 0)<|Lv aH Qy<|au aH<|au aH<|Lv (.agg (aA 20 (dS (dR (uw (mR S1)) F G D E)))) (dZ IU.aJ 0)<|Lv (.agg (aA 20 (dS (dR S1 (some ⟨f,0,none⟩) d none 0)))) (dZ Kt.aJ 0)<|dO (P7 (uw (mR S1)) S1 F G D E (some ⟨f,0,none⟩) d none 0 _ (avj (l:=mR S1) rfl UC DF) (F9 (m:=S1) (a:=(some ⟨f,0,none⟩)) (c:=d) aai rfl rfl ad.oI ad.le) (Oh.1 akd)) _ rfl ?_;intro YM hb6;have⟨af,Rc,Zb,Zc,TS⟩:=oK hb6 ad Kt O5 O6 M7;refine au aH<|au aH<|Lv (.agg (aA 20 (dS (dR S1 (some ⟨f,0,none⟩) d none 0)))) (dZ Rc.aJ 0)<|Lv (.agg (aA 20 (dS (dR S2 (some ⟨g,0,none⟩) 1 none 0)))) (dZ Zc.aJ 0)<|dO ((Lu S1 S2 (some ⟨f,0,none⟩) d none 0 (some ⟨g,0,none⟩) 1 none 0 _ (F9 (m:=S1) (a:=(some ⟨f,0,none⟩)) (c:=d) aai rfl rfl af.oI af.le) (F9 (m:=S2) (a:=(some ⟨g,0,none⟩)) (c:=1) agc rfl rfl (aM.ake Zb) (A_ _)) (by rw[j12])).mono (fun e T J=>(⟨by rw[J.1,l12],J.2⟩:e = .returned (.bool true)/\Below _ _ T))) _ rfl ?_;intro w27 M8;have⟨Mh,O7,O8,IW,UG⟩:=oK M8 af Rc Zb Zc TS;refine au aH<|au aH<|Lv (.agg (aA 20 (dS (dR S2 (some ⟨g,0,none⟩) 1 none 0)))) (dZ IW.aJ 0)<|Lv (.agg (aA 20 (dS (dR S1 (some ⟨f,0,none⟩) d none 0)))) (dZ O7.aJ 0)<|dO ((Lu S2 S1 (some ⟨g,0,none⟩) 1 none 0 (some ⟨f,0,none⟩) d none 0 _ (F9 (m:=S2) (a:=(some ⟨g,0,none⟩)) (c:=1) agc rfl rfl (aM.ake O8) (A_ _)) (F9 (m:=S1) (a:=(some ⟨f,0,none⟩)) (c:=d) aai rfl rfl Mh.oI Mh.le) (by rw[j21])).mono (fun e T J=>(⟨by rw[J.1,l21],J.2⟩:e = .returned (.bool false)/\Below _ _ T))) _ rfl ?_;intro w28 YQ;have UH:=bL YQ UG;refine au aH<|au aH<|au aH<|Lv (.agg (aA 6 (bJ (fun _ => .bool false) 0 1 (fun _ => .bool true)))) (Ad (vs := [(0,.bool true)]) (s:=1) (m:=6) (x:=fun _ => .bool false) rfl rfl underlying39 (by kernel_rfl) (by kernel_rfl) (by rw[aT (off:=0) (s:=1) (y:=fun _ => .bool true) (by kernel_rfl) (bG (by rfl)) (by rfl)]; rfl))<|au (.agg (aA 20 (bJ zP0 6 6 (bJ (fun _ => .bool false) 0 1 (fun _ => .bool true)))))<|dO (aqb _ (fun j i=>match j,i with|0,_=>rfl|1,_=>rfl|2,_=>rfl|3,_=>rfl|4,_=>rfl|5,_=>rfl|6,_=>rfl|7,_=>rfl|8,_=>rfl|9,_=>rfl|10,_=>rfl|11,_=>rfl|12,_=>rfl|13,_=>rfl|14,_=>rfl|15,_=>rfl|16,_=>rfl|17,_=>rfl|18,_=>rfl|19,_=>rfl|j+20,h=>L_ h (by omega)) _) (ax := #[.agg (aA 20 (bJ zP0 6 6 (bJ (fun _ => .bool false) 0 1 (fun _ => .bool true))))]) _ rfl ?_
 intro w29 Zh;have b29:=bL Zh UH;refine au aH<|au aH<|au aH<|aC<|Wr<|aK aH ?_;exact⟨rfl,b29⟩
end Go.Proofs.YtabjalhnkndjaaaGreatDoor
namespace Go.Proofs.YtabjalhnkndjaaaGreatDoor
open Go.Proofs.Tryz
open Fx hiding E9 Fa HY Jf Jk L R start
open Go.RowKit Rt
theorem agj(K a b:Nat->Int)(w:World)(h:b=Li K a):Calls prog 8 #[.agg (aA 6 (rv .u64 K)),.agg (aA 6 (rv .u64 a))] w fun e c=>e = .returned (.agg (aA 6 (rv .u64 b)))/\Below w.heap.size w c:=by
 subst h; exact ajY K a w
set_option maxRecDepth 20000 in
set_option maxHeartbeats 4000000 in
theorem Wd(rb:Nat)(aa0:Option Addr)(F ca:Nat)(xa:Nat->Ld)(ob tb:Nat)(w:World)(hrb:rb<=255)(hob:ob<=255)(htb:tb<=255)(hxa : ∀ k,k<F->NY (xa k))(avk:iB w aa0 F 9 (dn 9 fun k=>Mv (xa k)))(hK:jM w 0 0 8 Vo) :
 Calls prog 3 #[.int .u8 (rb:Int),.slice aa0 (F) (ca),.int .u8 (ob:Int),.int .u8 (tb:Int)] w fun e w'=>e = .returned (.bool true)/\Below w.heap.size w w':=by
 have l0:=hK.lt (by omega);refine bX func3 184 ?_;refine ay<|au aD<|aC<|aQ<|ay<|au (.slice aa0 (F) (ca))<|au (av F) ?_;by_cases c24:60<(F:Int)
 ·refine Lv aH (lK c24)<|aC<|aP<|ay<|dO (Yx _) _ rfl ?_;intro w1 hb1;have b1:=bL hb1 (Below.refl w.heap.size w);refine au aH<|aC<|Wr<|sR<|aK aH ?_;exact⟨rfl,b1⟩
 refine Lv aD (lM c24)<|aC<|aL<|Wk<|sN<|aQ ?_;have hna:=c24;obtain⟨rn,ern⟩ : ∃ r,r=rb % 6:=⟨_,rfl⟩;have hrn:rn<6:=by rw[ern]; exact I_ _ (by omega)
 refine Wl<|au (.int .u8 (rb:Int))<|Lv (av rb) (dQ rfl rfl (by kernel_rfl) underlying3 (jN (by omega) rfl))<|Lv (av rn) (BK rfl rfl rfl (by omega) (Lf ern))<|Lv (av ((rn:Int)+1)) gu<|lX (TJ (rn+1) _ _ (by omega) (by omega) (by omega)) (ax := #[av ((rn:Int)+1)]) ?_;rintro e9 w2 ⟨C,M0,G,hMn,hMa,aEF,aEG,hW0,hbw⟩;refine⟨(pt C),G,?_⟩;clear G;have sB:=(Below.refl w.heap.size w).size;have b2:=bL hbw (Below.refl w.heap.size w);have sW:w.heap.size<=w2.heap.size:=hbw.size;refine au (pt C)<|aC<|aQ<|ay<|au (av 0)<|aC<|Wb<|Wo (fun f w_ => ∃ k:Nat,∃ h:WM,∃ T9:Nat,k<=F/\T9<=3660*k/\h.n=M0.n/\h.an<=k/\w.heap.size<=w_.heap.size/\WC h/\WI h/\f 1 = .slice aa0 (F) (ca)/\f 2 = .int .u8 (ob:Int)/\f 3 = .int .u8 (tb:Int)/\f 9=(pt C)/\f 10=av (k:Int)/\sj w_ w.heap.size C h T9/\Below w.heap.size w w_) (fun f _=>(F-(intOf (f 10)).toNat)) ⟨0,M0,0,by omega,by omega,rfl,by omega,sW,aEF,aEG,(by rfl),ic,ic,(by rfl),ic,hW0,b2⟩ ?_;rintro f1 u ⟨k,h,T9,hk,hTk,avl,aIA,sWk,hWC,hWI,h1,h2,h3,h4,h5,m1,b3⟩;refine aQ<|ay<|bA h5<|bA h1<|au (av F) ?_;by_cases c34:(k:Int)<(F:Int)
 ·refine Lv aH (fK c34)<|aC<|aP<|Wk<|sN<|aQ<|Wb<|Wl<|bA h4<|bA h1<|bA h5 ?_;obtain⟨bq1,VJ,eq1,m2⟩:=(avk.up b3 rfl) (by omega);have Pj:bq1<u.heap.size:=m2.lt (by omega);refine Lv (pf bq1 (9*k+VJ)) (fC 9 (hx:=(rfl.trans (K_ (fun q=>Value.slice q (F) (ca)) eq1))))<|Lv (.agg (aA 9 (Mv (xa k)))) (dZ m2 (9*k) (fun jq hjq=>eF (k:=k) (by omega) hjq))<|lX (auc h w.heap.size C T9 (xa k) _ m1 sWk (hxa k (by omega)) (by omega) (by omega)) ?_;rintro e9 w4 ⟨v9,G,hv9,M2,hW1,hM2,aIC,aID,hb2⟩;refine⟨_,G,?_⟩;clear G;have aEH:=hM2.n;have b4:Below w.heap.size w w4:=ava b3 hb2 sB;have sW1:w.heap.size<=w4.heap.size:=by have:=hb2.size; omega
  have sWn:w.heap.size<=w4.heap.size:=by have:=hb2.size; omega
  have aEI:WC M2:=hWC.do hW1 (I_ _ (by have:=m1.n1; omega)) hM2 (by omega) (m1.cz.own _ (I_ _ (by have:=m1.n1; omega)));have aEJ:WI M2:=hWI.do hW1 (I_ _ (by have:=m1.n1; omega)) hM2;refine Ln<|bS<|sN<|Wl<|bA h5<|Lv (av ((k:Int)+1)) gu<|au (av ((k:Int)+1))<|Ln<|iA ⟨k+1,M2,(T9+3660),by omega,by omega,(aEH.trans avl),by omega,sWn,aEI,aEJ,h1,(h2.trans ic),(h3.trans ic),h4,ic,hW1,b4⟩ ?_;show(F-(intOf (av ((k:Int)+1))).toNat)<_;simp only[h5,intOf]; omega
 refine Lv aD (fM c34)<|aC<|aL<|Wx<|cZ<|iC<|dB<|sN<|aQ ?_;have hWc:=m1.c;have hWa:=m1.a;have avn:=m1.wf;have aIF:=m1.iV;have hcz:=m1.cz;have hWw:=m1;have haA:iB u h.aa h.an 14 (evX h.ev):=hWa.oI;have lpw:C<u.heap.size:=hWc.lt;have l0X:0<u.heap.size:=by omega
 have hKX:jM u 0 0 8 Vo:=hK.below b3 l0;have hB:1<=u.heap.size:=by omega
 have aIJ:h.an<=60:=by omega
 have Z:=hWC.w;have hWn:h.n=rn+1:=avl.trans hMn;have hn1:=hWw.n1;have hn6:=hWw.n6;obtain⟨D,eao⟩ : ∃ r,r=ob % h.n:=⟨_,rfl⟩;have hao:D<h.n:=by rw[eao]; exact I_ _ (by omega)
 obtain⟨E,ebo⟩ : ∃ r,r=tb % h.n:=⟨_,rfl⟩;have hbo:E<h.n:=by rw[ebo]; exact I_ _ (by omega)
 have aEK:=hWw.l;have haL:iB u h.la h.n 1 (K5 h.pl):=aEK.oI;have akf:=hWw.g D hao;have hLa:=akf.c;have lLa:h.pl D<u.heap.size:=hLa.lt;have hIa:=hWw.uU D hao;have hPa:LH h.n h.ev h.an (h.ml D).aW:=⟨hWC.f D hao,hWI.g D hao⟩;obtain⟨A,agk⟩ : ∃ q,q=yw (h.ml D).aW:=⟨_,rfl⟩;obtain⟨P,Q,N,O,eA9,hA9⟩ : ∃ F nc ga gc,(h.ml D).s=dR A F nc ga gc/\JJ u A F nc ga gc:=by rw[agk]; exact⟨_,_,_,_,Rt.LX.toW (LX.ldg akf.ldg) (.of hIa.toInv0 hIa.s (hWI.g D hao) (by omega)) akf.n.le akf.g.le⟩
 have akh:=hWw.g E hbo;have hLb:=akh.c;have lLb:h.pl E<u.heap.size:=hLb.lt;have hIb:=hWw.uU E hbo;have hPb:LH h.n h.ev h.an (h.ml E).aW:=⟨hWC.f E hbo,hWI.g E hbo⟩;obtain⟨B,agl⟩ : ∃ q,q=yw (h.ml E).aW:=⟨_,rfl⟩;obtain⟨T,U,R,S,eB9,hB9⟩ : ∃ F nc ga gc,(h.ml E).s=dR B F nc ga gc/\JJ u B F nc ga gc:=by rw[agl]; exact⟨_,_,_,_,Rt.LX.toW (LX.ldg akh.ldg) (.of hIb.toInv0 hIb.s (hWI.g E hbo) (by omega)) akh.n.le akh.g.le⟩
 obtain⟨X,agm⟩ : ∃ K,K=Li (h.ml D).aW.aF (h.ml E).aW.aF:=⟨_,rfl⟩;have hKc:zV h.ev h.an X:=agm ▸ hPa.f.kc.max hPb.f.kc;have ML : ∀ q,q<6->0<=X q:=fun q hq=>by rw[agm]; exact P_ (hIa.kn q hq).1 (ZU _ _)
 have hKk:J4 X:=fun q hq=>by rw[agm]; have a:=hIa.kn q hq; have b:=hIb.kn q hq; unfold Li ou; split <;> assumption
 have aEM:Bz h.n h.ev h.an (tT h.n 0).aW:=Bz.TT h.n h.ev h.an (ajf Z) 0;have aEN : ∀ q,q<6->(tT h.n 0).aW.aF q=FY X (jc h.ev 0) q:=aue hKc ML;refine Wl<|bA h4<|au (pt C)<|au (pt C)<|Lv (.slice h.la (h.n) (h.lc)) (aR hWc.aJ 0)<|au (av h.n)<|au (av h.n)<|aC<|aQ ?_;refine nP [0,1,2,4,5,6,7,3,8,9,10,11,12,13,14] [0,0,0,1,0,0,0,0,0,1,0,0,1,2,3] [(14,3,[3]),(14,9,[9]),(14,12,[12]),(14,13,[13])] fun qN eX iM => ?_;have s3:eG u.heap.size u qN:=Sb eX;have⟨m3,m4,m5⟩:=iP eX hWc hLa hLb;have b5:=s3.below (Below.refl u.heap.size u) (Below.refl u.heap.size u).size (Below.refl u.heap.size u).size;refine eZ h4<|aS (pt C)<|aS (pt C)<|eZ h2<|Rp (av ob) (fun V=>dQ rfl rfl (by kernel_rfl) underlying3 (jN (by omega) rfl))<|aS (av h.n)<|Rp (av D) (fun V=>BK rfl rfl rfl (by omega) (Lf eao))<|lI (v := .slice h.la (h.n) (h.lc)) (by rfl) (by rfl) (mE _) (fun V H=>bE (x:=Sw (.slice h.la (h.n) (h.lc)) (.slice h.aa (h.an) (h.ac))) rfl rfl (by kernel_rfl) (m3.aJ.below H (by have:=m3.lt; omega)) (i:=0) (by omega) (by omega) rfl) ?_;obtain⟨bq2,oq2,D6,m6z⟩:=haL (by omega);have Ti:bq2<u.heap.size:=m6z.lt (by omega);have m6:=m6z.below b5 Ti;have afi:bq2<qN.heap.size:=m6.lt (by omega);refine Rp (pf bq2 (D+oq2)) (fun _=>fC 1 (hx:=(rfl.trans (K_ (fun q=>Value.slice q (h.n) (h.lc)) D6))))<|lI (v:=(pt (h.pl D))) (by rfl) (by rfl) (mE _) (fun V H=>bE (x:=K5 h.pl) rfl rfl (by kernel_rfl) (m6.below H (m6.lt (by omega))) (i:=D) (by omega) (by omega) rfl) ?_;refine aS (pt (h.pl D))<|aS (pt (h.pl D))<|lI (v := .agg (aA 20 (dS (dR A P Q N O)))) (by rfl) (by rfl) (mE _) (fun V H=>eB (x:=nQ (h.ml D)) (y:=dS (dR A P Q N O)) rfl rfl (by kernel_rfl) (by kernel_rfl) (m4.aJ.below H (by have:=m4.lt; omega)) (i:=0) (by omega) (by omega) (fun jq hjq=>(show nQ _ (0+jq)=_ by rw[G_]; exact nD _ hjq (by rw[eA9])))) ?_;refine mF<|oJ 20 (fun i=>(#[.bool false,.bool false,.bool false,.bool false,.bool false,.bool false,.bool false,.bool false,.bool false,.bool false,.bool false,.bool false,aG 0,aG 0,aG 0,aG 0,aG 0,aG 0,.slice none 0 0,.slice none 0 0]:Array Value).getD i undef) fun g1 w5 kV m7 s4 z1 => ?_;have⟨m8,m9,m10,m11,b6⟩:=oK s4.bP m3 m4 m5 m6 b5;have tJ:u.heap.size<=g1:=by rw[kV]; exact b5.size
 have⟨QO,atd,aEO⟩:=El kV m3.lt m4.lt m5.lt;have aEP:bq2≠g1:=by rw[kV]; exact u_ (m6.lt (by omega))
 have vB:=m7.lt;refine Ln ⟨s4.bP,?_⟩;refine jP<|dY m7 0 (h1:=(fun j _=>qj _ j)) fun w6 kY s5 z2 => ?_;have m13:aM w6 g1 20 (dS (dR A P Q N O)) 43:=aO kY;have gT:=gJ s5 m7.ty;have⟨m14,m15,m16⟩:=wB gT m8 m9 m10;have m17:=m11.cK s5 (by omega);have b7:=s5.below b6 b6.size (by omega);refine Ln<|dJ<|aQ ?_;refine nP [0,1,2,4,5,6,7,3,8,9,10,11,12,13,14] [0,0,0,1,0,0,0,0,0,1,0,0,1,2,3] [(14,3,[3]),(14,9,[9]),(14,12,[12]),(14,13,[13])] fun Fu iZ rM => ?_;have⟨m18,m19,m20,mG,m22,b8⟩:=oL iZ m14 m15 m16 m17 m13 b7;refine eZ h4<|aS (pt C)<|aS (pt C)<|eZ h3<|Rp (av tb) (fun V=>dQ rfl rfl (by kernel_rfl) underlying3 (jN (by omega) rfl))<|aS (av h.n)<|Rp (av E) (fun V=>BK rfl rfl rfl (by omega) (Lf ebo))<|lI (v := .slice h.la (h.n) (h.lc)) (by rfl) (by rfl) (mE _) (fun V H=>bE (x:=Sw (.slice h.la (h.n) (h.lc)) (.slice h.aa (h.an) (h.ac))) rfl rfl (by kernel_rfl) (m18.aJ.below H (by have:=m18.lt; omega)) (i:=0) (by omega) (by omega) rfl) ?_;refine Rp (pf bq2 (E+oq2)) (fun _=>fC 1 (hx:=(rfl.trans (K_ (fun q=>Value.slice q (h.n) (h.lc)) D6))))<|lI (v:=(pt (h.pl E))) (by rfl) (by rfl) (mE _) (fun V H=>bE (x:=K5 h.pl) rfl rfl (by kernel_rfl) (mG.below H (mG.lt (by omega))) (i:=E) (by omega) (by omega) rfl) ?_;refine aS (pt (h.pl E))<|aS (pt (h.pl E))<|lI (v := .agg (aA 20 (dS (dR B T U R S)))) (by rfl) (by rfl) (mE _) (fun V H=>eB (x:=nQ (h.ml E)) (y:=dS (dR B T U R S)) rfl rfl (by kernel_rfl) (by kernel_rfl) (m20.aJ.below H (by have:=m20.lt; omega)) (i:=0) (by omega) (by omega) (fun jq hjq=>(show nQ _ (0+jq)=_ by rw[G_]; exact nD _ hjq (by rw[eB9])))) ?_;refine mF<|oJ 20 (fun i=>(#[.bool false,.bool false,.bool false,.bool false,.bool false,.bool false,.bool false,.bool false,.bool false,.bool false,.bool false,.bool false,aG 0,aG 0,aG 0,aG 0,aG 0,aG 0,.slice none 0 0,.slice none 0 0]:Array Value).getD i undef) fun g2 w7 nN m23 s7 z3 => ?_;have⟨m24,mU,pK,pO,om,b9⟩:=oL s7.bP m18 m19 m20 mG m22 b8;have xw:u.heap.size<=g2:=by rw[nN]; exact b8.size
 have⟨aov,aEQ,aER⟩:=El nN m18.lt m19.lt m20.lt;have aES:bq2≠g2:=by rw[nN]; exact u_ (mG.lt (by omega))
 have aET:=gD nN m22.lt;have zR:=m23.lt;refine Ln ⟨s7.bP,?_⟩;refine jP<|dY m23 0 (h1:=(fun j _=>qj _ j)) fun w8 qb s8 z4 => ?_;have qV:aM w8 g2 20 (dS (dR B T U R S)) 43:=aO qb;have jC:=gJ s8 m23.ty;have⟨mY,m32,oD⟩:=wB jC m24 mU pK;have pz:=pO.cK s8 (by omega);have pQ:=om.cK s8 (by omega);have b10:=s8.below b9 b9.size (by omega);refine Ln<|dJ<|ay<|au (av h.n)<|lX (NU (atw h.n (by omega) _) (K_ (fun z => #[Value.int .i64 z]) (by omega))) (ax := #[av (h.n:Int)]) ?_;rintro e9 w9 ⟨lp,m0,G,hl1,hb3⟩;refine⟨_,G,?_⟩;clear G;have hl2:=hl1.Mr b10.size;have⟨rE,sD,qM,qW,vk,pR,b11⟩:=kU hb3 mY m32 oD pz pQ qV b10;refine au (.tuple #[(pt lp),av 0])<|au (pt lp)<|au (av 0)<|au (pt lp)<|au (av 0)<|aC<|aQ<|ay<|au (av 0)<|Lv aD (kr rfl)<|au aD<|au (pt lp)<|Lv aD (CU rfl rfl rfl (by kernel_rfl))<|au aD<|aC<|aL<|Wk<|sN<|ay<|au (pf g1 12)<|Lv (.agg (aA 6 (rv .u64 A.aF))) (dZ vk.aJ 12 (fun j hj=>fA (p:=j) _ hj (by omega)))<|au (pf g2 12)<|Lv (.agg (aA 6 (rv .u64 B.aF))) (dZ pR.aJ 12 (fun j hj=>fA (p:=j) _ hj (by omega)))<|dO (agj A.aF B.aF X _ (by rw[agm,agk,agl]; rfl)) _ rfl ?_;intro uE hb4;have⟨qx,qy,uF,sQ,qc,tK,xY,b12⟩:=lY hb4 rE sD qM qW vk pR hl2 b11;refine oJ 6 (rv .u64 (fun _=>0)) fun g3 Bg nO uN s11 z5 => ?_;have⟨yj,xA,yH,wC,vU,b13⟩:=oL s11.bP qx sQ qc tK xY b12;have Gc:u.heap.size<=g3:=by rw[nO]; exact b12.size
 have⟨aEU,aEV,aEW⟩:=El nO qx.lt qy.lt uF.lt;have aEX:bq2≠g3:=by rw[nO]; exact u_ (sQ.lt (by omega))
 have⟨aEY,aEZ⟩:=oM nO qc.lt tK.lt;have Gr:=uN.lt;refine dY uN 0 fun BD wD s12 z6 => ?_;have tL:aM BD g3 6 (rv .u64 X) 28:=aO wD;have oz:=gJ s12 uN.ty;have uG:=jU oz yj;have pE:=xA.cK s12 (by omega);have⟨vV,m64,xB⟩:=wB oz yH wC vU;have b14:=s12.below b13 b13.size (by omega);refine aC<|aQ<|ay<|au (av 0)<|aC<|Wb<|Wo (fun f w_ => ∃ m:Nat,∃ mq:fO,∃ Y:iQ,∃ N9:Nat,m<=h.an/\N9<=m/\Bz h.n h.ev h.an Y/\(∀ q,q<6->Y.aF q=FY X (jc h.ev m) q)/\f 9=(pt C)/\f 12=(pt g1)/\f 13=(pt g2)/\f 14=(pt lp)/\f 16=(pt g3)/\f 17=av (m:Int)/\K6 w_ u.heap.size lp mq Y N9/\aM w_ C 2 (Sw (.slice h.la (h.n) (h.lc)) (.slice h.aa (h.an) (h.ac))) 38/\aM w_ g1 20 (dS (dR A P Q N O)) 43/\aM w_ g2 20 (dS (dR B T U R S)) 43/\aM w_ g3 6 (rv .u64 X) 28/\Below u.heap.size u w_) (fun f _=>(h.an-(intOf (f 17)).toNat)) ⟨0,m0,(tT h.n 0).aW,0,by omega,by omega,aEM,aEN,h4,(by rfl),(by rfl),(by rfl),(by rfl),ic,xB,uG,vV,m64,tL,b14⟩ ?_;rintro f2 Bh ⟨m,mq,Y,N9,hix,hN9,hFd,hKn,h6,h7,h8,h9,h10,h11,sG,sH,sI,tN,tO,b15⟩;refine aQ<|ay<|bA h11<|bA h6<|au (pt C)<|au (pf C 1)<|Lv (.slice h.aa (h.an) (h.ac)) (aR sH.aJ 1)<|au (av h.an) ?_;by_cases c96:(m:Int)<(h.an:Int)
 ·refine Lv aH (fK c96)<|aC<|aP<|Wk<|sN<|aQ<|Wb<|aQ ?_;have hi9:m<h.an:=by omega
  have hxw:=avn m hi9;obtain⟨rg,avq,hrg,hro⟩ : ∃ rg,aX (h.ev m)=rg/\rg<6/\(h.ev m).o=(rg:Int)+1:=⟨_,rfl,(Z.g m hi9).MR.2,(Z.g m hi9).MR.1⟩;have hkk:=hKk rg hrg;refine W.nC [0,1,2,4,8,9,10,12,3,5,6,7,11,13,14,15,16,17,18,19,20,21,22,23,24,26,25,27,28,29,30,31] [0,0,0,4,0,0,0,4,0,0,0,4,0,0,0,4,0,0,4,0,0,0,0,0,0,4,0,0,4,3,0,0] (Mq [84]) Mq.refl Mq.trans (bR := [(29,3,[20,19,7,6,5,3]),(29,7,[20,19,7]),(29,11,[20,19,18,17,16,15,14,13,11]),(29,15,[20,19,18,17,16,15]),(29,18,[20,19,18]),(29,25,[28,27,25]),(29,28,[28]),(30,29,[29]),(31,29,[30,29])]) (by kernel_rfl) (by kernel_rfl) (by kernel_rfl) (by kernel_rfl) (by kernel_rfl) fun MU mZ DZ => ?_;have⟨qg,sS,vW,yR,xZ,b16⟩:=oL mZ sG sH sI tN tO b15;refine eZ h6<|aS (pt C)<|aS (pf C 1)<|eZ h11<|eZ h6<|aS (pt C)<|aS (pf C 1)<|eZ h11<|Rs (.slice h.aa (h.an) (h.ac)) (aR sS.aJ 1) ?_;obtain⟨bq3,Ql,LQ,avr⟩:=haA (by omega);have Tj:bq3<u.heap.size:=avr.lt (by omega);have wE:=avr.below b16 Tj;have apA:bq3<MU.heap.size:=wE.lt (by omega);refine Rp (pf bq3 (14*m+Ql)) (fun _=>fC 14 (hx:=(rfl.trans (K_ (fun q=>Value.slice q (h.an) (h.ac)) LQ))))<|aS (pf bq3 (14*m+Ql+1))<|Rs (aG ((h.ev m).seq)) (aR wE (14*m+1) (je (k:=m) (j:=1) (by omega) (by omega) rfl)) ?_;refine Rs (.slice h.aa (h.an) (h.ac)) (aR sS.aJ 1) ?_;refine Rp (pf bq3 (14*m+Ql)) (fun _=>fC 14 (hx:=(rfl.trans (K_ (fun q=>Value.slice q (h.an) (h.ac)) LQ))))<|aS (pf bq3 (14*m+Ql))<|Rs (av ((h.ev m).o)) (aR wE (14*m) (je (k:=m) (j:=0) (by omega) (by omega) rfl)) ?_;refine Rp (av rg) (fun _=>jK)<|Rp (pf g3 rg) (fun _=>jh 6 1 (hx:=h10))<|Rs (aG (X rg)) (aR xZ.aJ rg) ?_;by_cases avs:((h.ev m).seq)<=(X rg)
  ·have akj:(h.ev m).seq<=X (aX (h.ev m)):=(by rw[avq]; omega);refine Rp aH (fun _=>xq avs)<|aS aH<|eZ h9<|eZ h6<|aS (pt C)<|aS (pf C 1)<|eZ h11<|Rs (.slice h.aa (h.an) (h.ac)) (aR sS.aJ 1) ?_;refine Rp (pf bq3 (14*m+Ql)) (fun _=>fC 14 (hx:=(rfl.trans (K_ (fun q=>Value.slice q (h.an) (h.ac)) LQ))))<|Rs (.agg (aA 14 (dH (h.ev m)))) (dZ wE (14*m) (fun jq hjq=>eF (k:=m) (by omega) hjq)) ?_;refine jP<|dO (aiP (v:=(h.ev m)) qg (avn m (by omega)) hB (hKX.below b16 l0X) (fun _ _=>rfl)) (av 0) (by rw[(hFd.nextK Z (show m<h.an by omega) hKc hKn akj).1]) ?_;rintro EU ⟨hq1,hc1⟩;have akk:=qg.q.typed hc1;have aE0:=qg.q.Vy hc1 b16.size;have b17:=aCP b16 aE0 (A_ _);have zh:=sS.Rx akk (by decide);have aIO:=zh.lt;have yS:=vW.Rx akk (by decide);have aIP:=yS.lt;have zi:=yR.Rx akk (by decide);have aIQ:=zi.lt;have yI:=xZ.Rx akk (by decide);have aIR:=yI.lt;refine Ln<|Rp aD (fun _=>kr rfl)<|aS aD<|dJ<|aL<|Wk<|bS<|sN<|Wl<|bA h11<|Lv (av ((m:Int)+1)) gu<|au (av ((m:Int)+1))<|Ln<|iA ⟨m+1,mI mq (h.ev m),fF Y (h.ev m),N9+1,by omega,by omega,(hFd.apply Z (show m<h.an by omega)),(hFd.nextK Z (show m<h.an by omega) hKc hKn akj).2,h6,h7,h8,h9,h10,ic,hq1,zh,yS,zi,yI,b17⟩ ?_;show(h.an-(intOf (av ((m:Int)+1))).toNat)<_;simp only[h11,intOf]; omega
  have akj : ¬ (h.ev m).seq<=X (aX (h.ev m)):=by rw[avq]; omega
  refine Rp aD (fun _=>yg avs)<|aS aD<|Rk (by rfl)<|Rk (by rfl)<|Rk (by rfl)<|Rk (by rfl)<|Rk (by rfl)<|Rk (by rfl)<|Rk (by rfl)<|Rk (by rfl)<|Rk (by rfl)<|Rk (by rfl)<|aS aD<|dJ<|aL<|Wk<|bS<|sN<|Wl<|bA h11<|Lv (av ((m:Int)+1)) gu<|au (av ((m:Int)+1))<|Ln<|iA ⟨m+1,mq,Y,N9,by omega,by omega,hFd,(aud Z (show m<h.an by omega) hKn akj),h6,h7,h8,h9,h10,ic,qg,sS,vW,yR,xZ,b16⟩ ?_;show(h.an-(intOf (av ((m:Int)+1))).toNat)<_;simp only[h11,intOf]; omega
 refine Lv aD (fM c96)<|aC<|aL<|Wx<|cZ<|iC<|dB<|sN<|aQ ?_;have hP9:LH h.n h.ev h.an Y:=⟨hFd,sG.g⟩;have aE1:m=h.an:=by omega
 have hK9 : ∀ q,q<6->Y.aF q=ou ((h.ml D).aW.aF q) ((h.ml E).aW.aF q):=fun q hq=>by rw[hKn q hq,aE1,aDm hKc q hq,agm]; rfl
 have hg9:Y.gn<=4096:=by have:=sG.i.gn; omega
 have avt:LWf Y:=sG.wf (by omega);obtain⟨t,hj9,hsU,hUn,hUg,hUi,hUl⟩:=hPa.gM Z hPb hP9 hK9 hg9;rw[<- agk,<- agl]at hj9;have avu:gM B A=(t,0):=by rw[VZ]; exact hj9
 obtain⟨b9,eLK⟩ : ∃ b,Ef A.aF B.aF=b:=⟨_,rfl⟩;have hL1:Bp A B=b9:=by rw[<- eLK,agk,agl]; exact hPa.less Z hPb hP9 hK9 hg9
 have hL2:Bp A t=true:=by rw[agk]; exact hPa.alJ Z hP9 (fun q hq=>by rw[hK9 q hq]; exact ZU _ _) hg9 hsU hUn hUg hUi hUl
 have hL3:Bp B t=true:=by rw[agl]; exact hPb.alJ Z hP9 (fun q hq=>by rw[hK9 q hq]; exact ajg _ _) hg9 hsU hUn hUg hUi hUl
 refine Wl<|Lv (.agg (aA 20 (dS (dR A P Q N O)))) (dZ sI.aJ 0 (ha:=h7))<|Lv (.agg (aA 20 (dS (dR B T U R S)))) (dZ tN.aJ 0 (ha:=h8))<|lX (JL A B P Q N O T U R S t 0 _ (hA9.up b15) (hB9.up b15) hj9 rfl) ?_;rintro e9 CW ⟨L,M,I,J,G,afw,afx,hb5⟩;refine⟨_,G,?_⟩;clear G;have⟨xC,zk,zS,zw,Aj,b18⟩:=oL hb5 sG sH sI tN tO b15;have Bq:aY CW u.heap.size 69 56 (.slice L (t.ns.length) (M)) t.ns.length (gI t.ns):=afw.mono b15.size;have BQ:aY CW u.heap.size 96 5 (.slice I (t.gs.length) (J)) t.gs.length (iU t.gs):=afx.mono b15.size;refine au (.tuple #[.agg (aA 20 (dS (dR t L M I J))),av 0])<|au (.agg (aA 20 (dS (dR t L M I J))))<|au (av 0)<|oJ 20 (fun i=>(#[.bool false,.bool false,.bool false,.bool false,.bool false,.bool false,.bool false,.bool false,.bool false,.bool false,.bool false,.bool false,aG 0,aG 0,aG 0,aG 0,aG 0,aG 0,.slice none 0 0,.slice none 0 0]:Array Value).getD i undef) fun g4 w16 yL zT s15 z7 => ?_;have⟨BR,Bj,Ak,BF,DY,Et,Bt,b19⟩:=lY s15.bP xC zk zS zw Aj Bq BQ b18;have Uw:u.heap.size<=g4:=by rw[yL]; exact b18.size
 have⟨aoE,aoF,aoG,aoH⟩:=J2 yL zk.lt zS.lt zw.lt Aj.lt;have TR:=zT.lt;refine dY zT 0 (h1:=(fun j _=>qj _ j)) fun Fg Dv s16 z8 => ?_;have BZ:aM Fg g4 20 (dS (dR t L M I J)) 43:=aO Dv;have tV:=gJ s16 zT.ty;have⟨Eu,Gd⟩:=lZ tV BR Bj;have vG:=Ak.cK s16 (by omega);have qO:=BF.cK s16 (by omega);have⟨rO,tY,qz⟩:=wB tV DY Et Bt;have b20:=s16.below b19 b19.size (by omega);refine au (av 0)<|aC<|ay<|Lv (.agg (aA 20 (dS (dR B T U R S)))) (dZ qO.aJ 0 (ha:=h8))<|Lv (.agg (aA 20 (dS (dR A P Q N O)))) (dZ vG.aJ 0 (ha:=h7))<|lX (JL B A T U R S P Q N O t 0 _ (hB9.up b20) (hA9.up b20) avu rfl) ?_;rintro e9 En ⟨qna,qnc,qga,qgc,G,aqd,aqe,hb6⟩;refine⟨_,G,?_⟩;clear G;have⟨qP,qQ,pV,qA,uR,vH,qR,tZ,DW⟩:=yQ hb6 Eu Gd vG qO rO tY qz BZ b20;have zD:aY En u.heap.size 69 56 (.slice qna (t.ns.length) (qnc)) t.ns.length (gI t.ns):=aqd.mono b20.size;have wG:aY En u.heap.size 96 5 (.slice qga (t.gs.length) (qgc)) t.gs.length (iU t.gs):=aqe.mono b20.size;refine au (.tuple #[.agg (aA 20 (dS (dR t qna qnc qga qgc))),av 0])<|au (.agg (aA 20 (dS (dR t qna qnc qga qgc))))<|au (av 0)<|oJ 20 (fun i=>(#[.bool false,.bool false,.bool false,.bool false,.bool false,.bool false,.bool false,.bool false,.bool false,.bool false,.bool false,.bool false,aG 0,aG 0,aG 0,aG 0,aG 0,aG 0,.slice none 0 0,.slice none 0 0]:Array Value).getD i undef) fun g5 YF BG wH Qg z9 => ?_;have⟨Ay,uf,oQ,yX,wJ,Bu,Ca,zF,zl⟩:=yQ Qg.bP qP pV qA vH qR tZ zD wG DW;have wX:u.heap.size<=g5:=by rw[BG]; exact DW.size
 have⟨axO,axP,axQ,axR,axS⟩:=Du BG qQ.lt pV.lt qA.lt uR.lt tZ.lt;have YE:=wH.lt;refine dY wH 0 (h1:=(fun j _=>qj _ j)) fun TN zG M6 QM => ?_;have Az:aM TN g5 20 (dS (dR t qna qnc qga qgc)) 43:=aO zG;have tX:=gJ M6 wH.ty;have Bv:=jU tX Ay;have AA:=uf.cK M6 (by omega);have DC:=oQ.cK M6 (by omega);have⟨AB,zH⟩:=lZ tX yX wJ;have AJ:=Bu.cK M6 (by omega);have⟨AL,Cb⟩:=lZ tX Ca zF;have Fh:=M6.below zl zl.size (by omega);refine au (av 0)<|aC<|aQ<|aQ ?_;refine nP [0,1,2,3,4,5,6,8,7,9,10,11,12,13,14,15,16,17,18] [0,0,0,0,0,0,0,1,0,2,2,0,0,0,4,4,2,0,0] [(10,9,[9]),(11,9,[10,9]),(12,9,[11,10,9]),(13,9,[10,9]),(14,9,[13,10,9]),(15,9,[13,10,9]),(16,9,[13,10,9]),(17,9,[13,10,9]),(18,9,[13,10,9]),(11,10,[10]),(12,10,[11,10]),(13,10,[10]),(14,10,[13,10]),(15,10,[13,10]),(16,10,[13,10]),(17,10,[13,10]),(18,10,[13,10]),(16,14,[14]),(16,15,[15]),(17,16,[16]),(18,16,[17,16])] fun wZ oF Fv => ?_;have⟨Cc,Cg,IK,Dy,Ew,Ce,Md,IX,Ey,Gs⟩:=vT oF Bv AA DC AB zH AJ AL Cb Az Fh;refine aS (av 0)<|Rp aD (fun _=>kr rfl)<|aS aD<|aS (av 0)<|Rp aD (fun _=>kr rfl)<|aS aD<|aS aD<|eZ h9<|lI (v := .agg (aA 20 (dS (dR t L M I J)))) (by rfl) (by rfl) (mE _) (fun V H=>eB (x:=dS (dR t L M I J)) (y:=dS (dR t L M I J)) rfl rfl (by kernel_rfl) (by kernel_rfl) (Ce.aJ.below H (by have:=Ce.lt; omega)) (i:=0) (by omega) (by omega) (fun j _=>by rw[G_])) ?_;refine mF<|lX (aiQ Cc (by omega)) ?_;rintro e9 WE ⟨ss1,G,aaj,M8⟩;obtain⟨zna,znc,zga,zgc,eS9⟩ : ∃ a b c d,ss1=dR (yw Y) a b c d:=⟨_,_,_,_,(Rt.LX.toW aaj.r avt aaj.n.le aaj.g.le).1⟩;subst eS9;refine⟨_,G,?_⟩;clear G;have Rf:=Sb M8;have⟨Gw,OL,Ez,Me,Kh,Uo,OM,abW,M7⟩:=yQ M8 Cg IK Dy Ew Ce Md IX Ey Gs;refine Ln ⟨Rf.bP,?_⟩;refine mF<|dO (P7 t (yw Y) L M I J zna znc zga zgc _ (kP hA9.r hB9.r hj9 Ez Me) (Rt.LX.toW aaj.r avt aaj.n.le aaj.g.le).2 hsU) _ rfl ?_;intro YG YQ;have Xc:=Sb YQ;have⟨OP,IL,Mf,IQ,Ml,Ux,O1,Kq,TS⟩:=yQ YQ Gw OL Ez Me Kh Uo OM abW M7;refine Ln ⟨Xc.bP,?_⟩;refine aS aD<|aS aD<|aS aD<|Rs (.agg (aA 20 (dS (dR t L M I J)))) (dZ Ml.aJ 0) ?_;refine Rs (.agg (aA 20 (dS (dR t qna qnc qga qgc)))) (dZ Kq.aJ 0) ?_;refine mF<|dO (P7 t t L M I J qna qnc qga qgc _ (kP hA9.r hB9.r hj9 Mf IQ) (kP hB9.r hA9.r avu Ux O1) (aad t)) _ rfl ?_;intro yB Zh;have Ze:=Sb Zh;have⟨Uz,O4,Kt,Ra,O5,UG⟩:=oL Zh OP IL Mf IQ Ml TS;refine Ln ⟨Ze.bP,?_⟩;refine aS aD<|aS aD<|dJ<|aL<|Wk<|sN<|aQ ?_;refine nP [3,5,0,1,4,6,2,7,8,9,10,11,12,13,14,15,16,17,18,19,20,21,22] [4,4,2,0,1,0,1,2,0,0,4,4,2,0,0,4,4,2,0,0,2,0,0] [(2,0,[0]),(7,0,[2,0]),(12,0,[9,8,2,0]),(17,0,[14,13,9,8,2,0]),(20,0,[19,18,14,13,9,8,2,0]),(2,1,[1]),(7,1,[2,1]),(12,1,[9,8,2,1]),(17,1,[14,13,9,8,2,1]),(20,1,[19,18,14,13,9,8,2,1]),(7,2,[2]),(8,2,[2]),(9,2,[8,2]),(10,2,[9,8,2]),(11,2,[9,8,2]),(12,2,[9,8,2]),(13,2,[9,8,2]),(14,2,[13,9,8,2]),(15,2,[14,13,9,8,2]),(16,2,[14,13,9,8,2]),(17,2,[14,13,9,8,2]),(18,2,[14,13,9,8,2]),(19,2,[18,14,13,9,8,2]),(20,2,[19,18,14,13,9,8,2]),(21,2,[19,18,14,13,9,8,2]),(22,2,[2]),(8,7,[7]),(9,7,[7]),(10,7,[9,7]),(11,7,[9,7]),(12,7,[9,7]),(13,7,[9,7]),(14,7,[13,9,7]),(15,7,[14,13,9,7]),(16,7,[14,13,9,7]),(17,7,[14,13,9,7]),(18,7,[14,13,9,7]),(19,7,[18,14,13,9,7]),(20,7,[19,18,14,13,9,7]),(21,7,[19,18,14,13,9,7]),(22,7,[7]),(12,10,[10]),(17,10,[14,12,10]),(20,10,[19,18,14,12,10]),(12,11,[11]),(17,11,[14,12,11]),(20,11,[19,18,14,12,11]),(13,12,[12]),(14,12,[12]),(15,12,[14,12]),(16,12,[14,12]),(17,12,[14,12]),(18,12,[14,12]),(19,12,[18,14,12]),(20,12,[19,18,14,12]),(21,12,[19,18,14,12]),(22,12,[12]),(17,15,[15]),(20,15,[19,17,15]),(17,16,[16]),(20,16,[19,17,16]),(18,17,[17]),(19,17,[17]),(20,17,[19,17]),(21,17,[19,17]),(22,17,[17]),(21,20,[20]),(22,20,[20])] fun wt5 sU MV => ?_;have⟨DF,IU,Rb,Za,Rc,UH⟩:=oL sU Uz O4 Kt Ra O5 UG;refine Rp (pf g1 12) (fun _=>iO h7 12)<|Rp (pf g2 12) (fun _=>iO h8 12)<|Rs (.agg (aA 20 (dS (dR A P Q N O)))) (dZ DF.aJ 0 (ha:=h7)) ?_;refine Rs (.agg (aA 20 (dS (dR B T U R S)))) (dZ IU.aJ 0 (ha:=h8)) ?_;refine lI (v := .agg (aA 6 (rv .u64 A.aF))) (by rfl) (by rfl) (mE _) (fun V H=>eB (x:=dS (dR A P Q N O)) (y:=rv .u64 A.aF) rfl rfl (by kernel_rfl) (by kernel_rfl) (DF.aJ.below H (by have:=DF.lt; omega)) (i:=12) (by omega) (by omega) (fun j hj=>fA (p:=j) _ hj (by omega))) ?_;refine lI (v := .agg (aA 6 (rv .u64 B.aF))) (by rfl) (by rfl) (mE _) (fun V H=>eB (x:=dS (dR B T U R S)) (y:=rv .u64 B.aF) rfl rfl (by kernel_rfl) (by kernel_rfl) (IU.aJ.below H (by have:=IU.lt; omega)) (i:=12) (by omega) (by omega) (fun j hj=>fA (p:=j) _ hj (by omega))) ?_
 refine mF<|dO (Lu A B P Q N O T U R S _ (hA9.up UH) (hB9.up UH) (by rw[hj9])) (.bool b9) (by rw[hL1]) ?_;intro Ui RN;have s25:=Sb RN;have⟨UD,acd,ace,acf,UE,b29⟩:=oL RN DF IU Rb Za Rc UH;refine Ln ⟨s25.bP,?_⟩;refine mF<|dO (ajZ A.aF B.aF _) (.bool b9) (by rw[eLK]) ?_;intro w25 Zv;have s26:=Sb Zv;have⟨Mj,ach,ahs,Zd,aht,b30⟩:=oL Zv UD acd ace acf UE b29;refine Ln ⟨s26.bP,?_⟩;refine Rp aH (fun V=>ama rfl rfl rfl (by kernel_rfl) (beq_self_eq_true b9))<|aS aH<|Rs (.agg (aA 20 (dS (dR A P Q N O)))) (dZ Mj.aJ 0 (ha:=h7)) ?_;refine Rs (.agg (aA 20 (dS (dR t L M I J)))) (dZ aht.aJ 0) ?_;refine mF<|dO ((Lu A t P Q N O L M I J _ (hA9.up b30) (kP hA9.r hB9.r hj9 ahs Zd) (Tm hL2)).mono (fun e w2 h2=>(⟨by rw[h2.1,hL2],h2.2⟩:e = .returned (.bool true)/\Below _ _ w2))) _ rfl ?_;intro YM Zw;have YK:=Sb Zw;have⟨amJ,amK,amL,amM,b31⟩:=oK Zw ach ahs Zd aht b30;refine Ln ⟨YK.bP,?_⟩;refine aS aH<|aS aH<|Rs (.agg (aA 20 (dS (dR B T U R S)))) (dZ amJ.aJ 0 (ha:=h8)) ?_;refine Rs (.agg (aA 20 (dS (dR t L M I J)))) (dZ amM.aJ 0) ?_;refine mF<|dO ((Lu B t T U R S L M I J _ (hB9.up b31) (kP hA9.r hB9.r hj9 amK amL) (Tm hL3)).mono (fun e w2 h2=>(⟨by rw[h2.1,hL3],h2.2⟩:e = .returned (.bool true)/\Below _ _ w2))) _ rfl ?_;intro w27 Zx;have s28:=Sb Zx;have b32:=bL Zx b31;refine Ln ⟨s28.bP,?_⟩;refine aS aH<|aS aH<|mF<|dO (Yx _) _ rfl ?_;intro w28 avv;have s29:=Sb avv;have b33:=bL avv b32;refine Ln ⟨s29.bP,?_⟩;refine aS aH<|aS aH<|dJ<|Wr<|aK aH ?_;exact⟨rfl,(ava b3 b33 b3.size)⟩
end Go.Proofs.YtabjalhnkndjaaaGreatDoor
namespace Go.Proofs.YtabjalhnkndjaaaGreatDoor
open Go.Proofs.Tryz
open Fx hiding E9 Fa HY Jf Jk L R start
open Go Go.RowKit Rt
set_option maxRecDepth 100000
theorem kG : prog.globalNamed "leat/ledger.kinds" = some 0 := by rfl
theorem kT:(prog.globals[0]?).map (·.type)=some 143:=by rfl
theorem kC:prog.cellsOf 142=1:=by rfl
theorem kC8:prog.cellsOf 143=8:=by rfl
theorem TL{H:Type}{enc:TypeId × Value->H}{v d:Array TypeId}{f:Bool}{q:List MemPlace}(b:P.underlying T=some (.func v d f))(fuel:DataW.trod enc P c k u h m T [s]=some (.nil,q)):s = .nilFunc:=by
 cases m with
 | zero=>simp[DataW.trod]at fuel
 | succ n=>cases s <;> simp[DataW.trod,b]at fuel <;> rfl
theorem TM  (h : laidMetH prog [("leat/ledger.kinds", Rows.laid_leat_ledger_kinds)] c) : jM c 0 0 8 Vo := by
 obtain⟨g,t,b,M,p,Q,S,T,N⟩:=h.funcs (List.mem_singleton.2 rfl);obtain rfl:=C_ (kG.symm.trans Q);obtain rfl:=C_ (kT.symm.trans S);have O:DataW.trod (funcToken prog) prog c 0 (fun _=>true) true M 143 b.toList=some (.agg [.nil,.held [40,42,108,101,97,116,47,108,101,100,103,101,114,46,76,101,100,103,101,114,41,46,109,97,107,101,115],.held [40,42,108,101,97,116,47,108,101,100,103,101,114,46,76,101,100,103,101,114,41,46,114,97,105,115,101,115],.held [40,42,108,101,97,116,47,108,101,100,103,101,114,46,76,101,100,103,101,114,41,46,116,97,107,101,115],.held [40,42,108,101,97,116,47,108,101,100,103,101,114,46,76,101,100,103,101,114,41,46,102,114,101,101,115],.held [40,42,108,101,97,116,47,108,101,100,103,101,114,46,76,101,100,103,101,114,41,46,109,111,118,101,115],.held [40,42,108,101,97,116,47,108,101,100,103,101,114,46,76,101,100,103,101,114,41,46,106,111,105,110,115],.held [40,42,108,101,97,116,47,108,101,100,103,101,114,46,76,101,100,103,101,114,41,46,108,101,97,118,101,115]],p):=N;obtain⟨e,m,_,ex,R,hl,P⟩:=DataW.trod_array underlying143 O;have L:e.map (·.1) = [.nil,.held [40,42,108,101,97,116,47,108,101,100,103,101,114,46,76,101,100,103,101,114,41,46,109,97,107,101,115],.held [40,42,108,101,97,116,47,108,101,100,103,101,114,46,76,101,100,103,101,114,41,46,114,97,105,115,101,115],.held [40,42,108,101,97,116,47,108,101,100,103,101,114,46,76,101,100,103,101,114,41,46,116,97,107,101,115],.held [40,42,108,101,97,116,47,108,101,100,103,101,114,46,76,101,100,103,101,114,41,46,102,114,101,101,115],.held [40,42,108,101,97,116,47,108,101,100,103,101,114,46,76,101,100,103,101,114,41,46,109,111,118,101,115],.held [40,42,108,101,97,116,47,108,101,100,103,101,114,46,76,101,100,103,101,114,41,46,106,111,105,110,115],.held [40,42,108,101,97,116,47,108,101,100,103,101,114,46,76,101,100,103,101,114,41,46,108,101,97,118,101,115]]:=by
  simp_all
 rw[kC8]at R;rw[kC]at P;have a : ∀ i,i<8 -> ∀ d,(e.map (·.1))[i]? = some d -> ∃ W q,b[i]? = some W/\DataW.trod (funcToken prog) prog c 0 (fun _=>true) true m 142 [W]=some (d,q):=fun i hi d hdi=>by
  grind [List.drop_eq_getElem_cons]
 rw[L]at a;intro j hj;rw[G_,World.var?_cell kG T j];obtain⟨U,q0,f,v⟩:=a 0 (by decide) _ rfl;have D:=TL underlying142 v;obtain⟨V,q1,k,w⟩:=a 1 (by decide) _ rfl;have E:=func_of_trod (f0:=170) underlying142 (by kernel_rfl) w;obtain⟨X,q2,l,x⟩:=a 2 (by decide) _ rfl;have F:=func_of_trod (f0:=171) underlying142 (by kernel_rfl) x;obtain⟨Y,q3,n,y⟩:=a 3 (by decide) _ rfl;have G:=func_of_trod (f0:=172) underlying142 (by kernel_rfl) y;obtain⟨Z,q4,o,z⟩:=a 4 (by decide) _ rfl;have H:=func_of_trod (f0:=173) underlying142 (by kernel_rfl) z;obtain⟨c5,q5,r,A⟩:=a 5 (by decide) _ rfl;have I:=func_of_trod (f0:=174) underlying142 (by kernel_rfl) A;obtain⟨c6,q6,s,B⟩:=a 6 (by decide) _ rfl;have J:=func_of_trod (f0:=175) underlying142 (by kernel_rfl) B;obtain⟨c7,q7,u,C⟩:=a 7 (by decide) _ rfl;have K:=func_of_trod (f0:=176) underlying142 (by kernel_rfl) C
 rcases j with _|_|_|_|_|_|_|_|j
 ·rw[f,D]; rfl
 ·rw[k,E]; rfl
 ·rw[l,F]; rfl
 ·rw[n,G]; rfl
 ·rw[o,H]; rfl
 ·rw[r,I]; rfl
 ·rw[s,J]; rfl
 ·rw[u,K]; rfl
 omega
theorem agn (os : Os) (args : Array Value) : laidMetH prog [("leat/ledger.kinds", Rows.laid_leat_ledger_kinds)] ((World.doorLaid prog 600 os).forCall (fun _ _ => 0) ⟨#[], args, []⟩).memory :=
 laidMetH_of_parts3 (fuel:=8) (laidMet_of_run' 8 (by kernel_rfl) (by kernel_rfl)) (by kernel_rfl) (by kernel_rfl)
end Go.Proofs.YtabjalhnkndjaaaGreatDoor
