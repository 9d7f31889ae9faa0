/-
  What the proof of the law rests on, part 3: walks of functions, and plain laws; each says its conditions itself.
-/
import Derived.Test.YtahbiajdgealnaaGreatDoorRows
import Derived.BigRegion
import Derived.Deep.DeepCutAuto
import Derived.Test.YtahbiajdgealnaaGreatDoorZG2
set_option maxRecDepth 20000
set_option linter.unusedVariables false
namespace Go.Proofs.YtahbiajdgealnaaGreatDoor
theorem wT0{P:Program}{ops:Array Oper}{Q:Exit->Act->World->Prop}{md:Region.Mode}{S:World->Prop}(i:Nat){oi:Oper}(v:Value){fuel:Nat}{l:Array Bool}{a:Act}{w:World}(hi:ops[i]? = some oi)(hv : ∀ w,S w->(execOp a.eval oi).run P w = .ok (.value v) w)(hS:S w)(h:wpAnyH P md ops Q S fuel (l.setIfInBounds i true) (a.put oi.dst v) w)(hy:Region.wanted oi (yielded ops a.tmps)=true:=by rfl)(hs:Region.noSelect ops=true:=by kernel_rfl)(hf:Region.free md ops l i=true:=by kernel_rfl)(hr:(Region.ready md ops l).contains i=true:=by kernel_rfl)(hQ : ∀ c a w,Q (.panic c) (a.put oi.dst v) w->Q (.panic c) a w:=by exact fun _ _ _ h=>h):wpAnyH P md ops Q S (fuel+1) l a w:=wpAnyH_take hi hs hf hr hQ (.inl ⟨hy,hv⟩) hS h
end Go.Proofs.YtahbiajdgealnaaGreatDoor
set_option maxHeartbeats 1600000
set_option linter.unusedSimpArgs false
namespace Go.Proofs.YtahbiajdgealnaaGreatDoor
open Go.RowKit Rt
open Fx (dG Lv sN Ln Ws Qv Wl Wr Wk sR Wb Wx Wo EF Qn tO Cm rv iI iP wo jL bP bR bY bZ gJ gL pY)
section
open Rt
theorem acE{c f:Int}(a b:Nat)(i:c=(a:Int))(j:f=(b:Int))(B g n cap:Nat)(d:Array Int)(w:World)(h:Fx.Own w B 28 1 (bO g n cap) n (rv .u64 (gA d)))(k:B<=w.heap.size)(m:d.size=n)(o:n<=1000)(ha:a<=b)(l:b<=n) :
 Calls Tryz.prog 129 #[bO g n cap,au c,au f] w fun e w'=>e = .returned (.tuple #[])/\Fx.Own w' B 28 1 (bO g n cap) n (rv .u64 (gA (Sort.insertionSort Sort.ltInt d a b)))/\Below B w w':=by
 subst i j; exact agx a b B g n cap d w h k m o ha l
theorem Yk{c f:Int}(a b:Nat)(i:c=(a:Int))(j:f=(b:Int))(B g n cap:Nat)(d:Array Int)(w:World)(h:Fx.Own w B 28 1 (bO g n cap) n (rv .u64 (gA d)))(k:B<=w.heap.size)(m:d.size=n)(o:n<=1000)(ha:a<b)(l:b<=n) :
 Calls Tryz.prog 130 #[bO g n cap,au c,au f] w fun e w'=>e = .returned (.tuple #[])/\Fx.Own w' B 28 1 (bO g n cap) n (rv .u64 (gA (Sort.heapSort Sort.ltInt d a b)))/\Below B w w':=by
 subst i j; exact acj a b B g n cap d w h k m o ha l
theorem acF{c f:Int}(a b:Nat)(i:c=(a:Int))(j:f=(b:Int))(B g n cap:Nat)(d:Array Int)(w:World)(h:Fx.Own w B 28 1 (bO g n cap) n (rv .u64 (gA d)))(k:B<=w.heap.size)(m:d.size=n)(o:n<=1000)(ha:a<b)(l:b<=n) :
 Calls Tryz.prog 133 #[bO g n cap,au c,au f] w fun e w'=>e = .returned (.tuple #[])/\Fx.Own w' B 28 1 (bO g n cap) n (rv .u64 (gA (Sort.reverseRange d a b)))/\Below B w w':=by
 subst i j; exact agz a b B g n cap d w h k m o ha l
def aaM(m:Nat):Prop := ∀(i j k:Int) (a b l:Nat) (B g n f:Nat) (d:Array Int) (w:World) (h:Fx.Own w B 28 1 (bO g n f) n (rv .u64 (gA d))) (hB:B<=w.heap.size) (hn:d.size=n) (hs:n<=1000) (h50:n<50) (hl:l<=1000) (hab:a<=b) (hb:b<=n) (hBel:Sort.Below Sort.ltInt a b d),i=(a:Int)->j=(b:Int)->k=(l:Int)->b-a<m ->
    Calls Tryz.prog 120 #[bO g n f,au i,au j,au k] w fun e w' => ∃ c:Array Int,e = .returned (.tuple #[])/\c.size=n/\Sort.PermIn a b d c/\Sort.SortedIn Sort.ltInt a b c/\Fx.Own w' B 28 1 (bO g n f) n (rv .u64 (gA c))/\Below B w w'
theorem acG(m:Nat)(ih:aaM m)(a b lim:Nat)(B g n cap:Nat)(d:Array Int)(w:World)(h:Fx.Own w B 28 1 (bO g n cap) n (rv .u64 (gA d)))(r:B<=w.heap.size)(hn:d.size=n)(x:n<=1000)(V:n<50)(hl:lim<=1000)(hab:a<=b)(hb:b<=n)(hBel:Sort.Below Sort.ltInt a b d)(hm:b-a<m+1) :
 Calls Tryz.prog 120 #[bO g n cap,au (a:Int),au (b:Int),au (lim:Int)] w fun e w' => ∃ d2:Array Int,e = .returned (.tuple #[])/\d2.size=n/\Sort.PermIn a b d d2/\Sort.SortedIn Sort.ltInt a b d2/\Fx.Own w' B 28 1 (bO g n cap) n (rv .u64 (gA d2))/\Below B w w':=by
 refine Kent Tryz.func120 134 ?_;refine ay<|av aG<|aD<|ay<|av aG<|aD<|Wb<|EF (fun kk f A => ∃ c:Nat,∃ i:Nat,∃ N:Nat,∃ v:Array Int,∃ O:Bool,∃ wp:Bool,v.size=n/\Sort.Below Sort.ltInt c i v/\(∀ R,Sort.PermIn c i v R->Sort.SortedIn Sort.ltInt c i R->Sort.PermIn a b d R/\Sort.SortedIn Sort.ltInt a b R)/\(c<=i/\i<=n/\N<=1000/\i-c<=b-a)/\kk=i-c/\f 0=bO g n cap/\f 1=au (c:Int)/\f 2=au (i:Int)/\f 3=au (N:Int)/\f 8 = .bool O/\f 9 = .bool wp/\Fx.Own A B 28 1 (bO g n cap) n (rv .u64 (gA v))/\Below B w A) (b-a) ⟨a,b,lim,d,true,true,hn,hBel,(fun R U J=>⟨U,J⟩),(by omega),rfl,(by rfl),Fx.ic,Fx.ic,Fx.ic,(by rfl),(by rfl),h,(Below.refl B w)⟩ ?_;rintro kk f1 w1 ⟨c,i,N,v,O,wp,hk,hBl,K,avW,hkk,U,J,h3,h4,h5,h6,m1,S⟩;refine Wb<|ay<|aT h3<|aT J<|Lv (au ((i:Int)-(c:Int))) fZ<|av (au ((i:Int)-(c:Int)))<|aD<|Ws<|ay<|av (au ((i:Int)-(c:Int))) ?_;by_cases c23:((i:Int)-(c:Int))<=12
 ·refine Lv aG (nM c23)<|aD<|aL<|ay<|aT U<|aT J<|aT h3<|dQ (acE c i (by omega) (by omega) B g n cap v _ m1 (m_ r S.size) hk x (by omega) (by omega)) (ax := #[bO g n cap,au (c:Int),au (i:Int)]) _ rfl ?_;rintro w2 ⟨m2,hb1⟩;have b2:=S.trans hb1;refine aD (Wr (sR (bP (pY (bP (⟨.tuple #[],iI Tryz.results120,?_⟩))))));have Y:=(Sort.insertionSort_holds Sort.swo_ltInt v c i (by omega) (by omega));have M:=K _ Y.1 Y.2;exact⟨_,rfl,Y.1.1.trans hk,M.1,M.2,m2,b2⟩
 refine Lv aF (nV c23)<|aD<|aK<|Wk<|sN<|Ws<|ay<|aT h4 ?_;by_cases c29:(N:Int)=0
 ·refine Lv aG (eX c29)<|aD<|aL<|ay<|aT U<|aT J<|aT h3<|dQ (Yk c i (by omega) (by omega) B g n cap v _ m1 (m_ r S.size) hk x (by omega) (by omega)) (ax := #[bO g n cap,au (c:Int),au (i:Int)]) _ rfl ?_;rintro w3 ⟨m3,hb2⟩;have b3:=S.trans hb2;refine aD (Wr (sR (bP (pY (bP (⟨.tuple #[],iI Tryz.results120,?_⟩))))));have Y:=(Sort.heapSort_holds Sort.swo_ltInt v c i (by omega) (by omega));have M:=K _ Y.1 Y.2;exact⟨_,rfl,Y.1.1.trans hk,M.1,M.2,m3,b3⟩
 refine Lv aF (fT c29)<|aD<|aK<|Wk<|sN<|Cm (fun f A => ∃ p:Nat,∃ I:Array Int,I.size=n/\Sort.PermIn c i v I/\p<=1000/\f 0=bO g n cap/\f 1=au (c:Int)/\f 2=au (i:Int)/\f 3=au (p:Int)/\f 8 = .bool O/\f 9 = .bool wp/\f 10=au ((i:Int)-(c:Int))/\Fx.Own A B 28 1 (bO g n cap) n (rv .u64 (gA I))/\Below B w A) ?_ ?_
 ·refine ay ?_;by_cases c34:O=true
  ·refine aT (h5.trans (L_ Value.bool c34))<|av aF<|aD<|aK<|Wk ?_;exact wo ⟨N,v,hk,(Sort.permIn_refl _ _ _),(by omega),U,(J.trans Fx.ic),(h3.trans Fx.ic),(h4.trans Fx.ic),h5,h6,Fx.ic,m1,S⟩
  rw[U_]at c34;refine aT (h5.trans (L_ Value.bool c34))<|av aG<|aD<|aL<|ay<|aT U<|aT J<|aT h3<|lU (agC c i B g n cap v _ m1 (m_ r S.size) hk x (by omega) (by omega) V) ?_;rintro D w4 ⟨dn1,l,hz1,hP1,m4,hb3⟩;have b4:=S.trans hb3;refine⟨_,l,?_⟩;clear l;refine aD<|Wl<|aT h4<|Lv (au ((N:Int)-1)) fZ<|av (au ((N:Int)-1))<|Ln ?_;exact wo ⟨N-1,dn1,hz1,hP1,(by omega),U,(J.trans Fx.ic),(h3.trans Fx.ic),Fx.ic,h5,h6,Fx.ic,m4,b4⟩
 rintro f2 w5 ⟨p,I,hk1,hP1,hl2,h7,h8,h9,h10,h11,h12,QD,m5,b5⟩;refine ay<|aT h7<|aT h8<|aT h9<|lU (agE c i B g n cap I _ m5 (m_ r b5.size) hk1 x (by omega) (by omega) V) ?_;rintro D w6 ⟨H,ht1,l,hu1,G,m6,hb4⟩;have b6:=b5.trans hb4;refine⟨_,l,?_⟩;clear l;refine av (.tuple #[au (H:Int),au ht1])<|av (au H)<|av (au ht1)<|av (au H)<|av (au ht1)<|aD<|Cm (fun f A => ∃ q:Nat,∃ hint:Int,∃ o:Array Int,o.size=n/\Sort.PermIn c i v o/\(c<=q/\q<i)/\f 0=bO g n cap/\f 1=au (c:Int)/\f 2=au (i:Int)/\f 3=au (p:Int)/\f 8 = .bool O/\f 9 = .bool wp/\f 10=au ((i:Int)-(c:Int))/\f 11=au (q:Int)/\f 12=au hint/\Fx.Own A B 28 1 (bO g n cap) n (rv .u64 (gA o))/\Below B w A) ?_ ?_
 ·refine ay<|av (au ht1) ?_;by_cases c50:ht1=2
  ·refine Lv aG (eX c50)<|aD<|aL<|ay<|aT h7<|aT h8<|aT h9<|dQ (acF c i (by omega) (by omega) B g n cap I _ m6 (m_ r b6.size) hk1 x (by omega) (by omega)) (ax := #[bO g n cap,au (c:Int),au (i:Int)]) _ rfl ?_;rintro w7 ⟨m7,hb5⟩;have b7:=b6.trans hb5;refine aD<|ay<|aT h9<|Lv (au ((i:Int)-1)) fZ<|av (au H)<|aT h8<|Lv (au ((H:Int)-(c:Int))) fZ<|Lv (au ((c:Int)+(i:Int)-(H:Int)-1)) fZ<|av (au ((c:Int)+(i:Int)-(H:Int)-1))<|aD<|Wl<|av (au 1)<|Ln ?_;exact wo ⟨c+i-H-1,1,Sort.reverseRange I c i,((Sort.reverseRange_holds _ _ _ (by omega) (by omega)).1.trans hk1),(Sort.permIn_trans _ _ _ _ _ hP1 (Sort.reverseRange_holds _ _ _ (by omega) (by omega))),(by omega),h7,(h8.trans Fx.ic),(h9.trans Fx.ic),(h10.trans Fx.ic),h11,h12,(QD.trans Fx.ic),Fx.ic,Fx.ic,m7,b7⟩
  refine Lv aF (fT c50)<|aD<|aK<|Wk ?_;exact wo ⟨H,ht1,I,hk1,hP1,(by omega),h7,(h8.trans Fx.ic),(h9.trans Fx.ic),(h10.trans Fx.ic),h11,h12,(QD.trans Fx.ic),Fx.ic,Fx.ic,m6,b6⟩
 rintro f3 w8 ⟨q,hint,o,hk2,F,L,Nb,XI,h16,QE,h18,h19,h20,h21,h22,m8,b8⟩;obtain⟨hpv1,hpv2⟩:=L;have L:=And.intro hpv1 hpv2;refine Cm (fun f A=>f 0=bO g n cap/\f 1=au (c:Int)/\f 2=au (i:Int)/\f 3=au (p:Int)/\f 8 = .bool O/\f 9 = .bool wp/\f 10=au ((i:Int)-(c:Int))/\f 11=au (q:Int)/\Fx.Own A B 28 1 (bO g n cap) n (rv .u64 (gA o))/\Below B w A) ?_ ?_
 ·refine ay ?_;by_cases c61:O=true
  ·refine aT (h18.trans (L_ Value.bool c61))<|av aG ?_;by_cases c63:wp=true
   ·refine aT (h19.trans (L_ Value.bool c63))<|av aG<|av aG<|aT h22 ?_;by_cases c67:hint=1
    ·refine Lv aG (eX c67)<|av aG<|aD<|aL<|ay<|aT Nb<|aT XI<|aT h16<|lU (acu c i B g n cap o _ m8 (m_ r b8.size) hk2 x (by omega) (by omega) V) ?_;rintro D w9 ⟨r1,l,hS1,m9,hb6⟩;have b9:=b8.trans hb6
     rcases r1 with _|_
     ·refine⟨_,l,?_⟩;clear l;refine aD<|aK<|Wk ?_;exact wo ⟨Nb,(XI.trans Fx.ic),(h16.trans Fx.ic),(QE.trans Fx.ic),h18,h19,(h20.trans Fx.ic),(h21.trans Fx.ic),m9,b9⟩
     refine⟨_,l,?_⟩;clear l;refine aD (aL (Wr (Fx.jnR (bP (pY (bP (⟨.tuple #[],iI Tryz.results120,?_⟩)))))));have M:=K _ F (hS1 rfl);exact⟨_,rfl,hk2,M.1,M.2,m9,b9⟩
    refine Lv aF (fT c67)<|av aF<|aD<|aK<|Wk ?_;exact wo ⟨Nb,(XI.trans Fx.ic),(h16.trans Fx.ic),(QE.trans Fx.ic),h18,h19,(h20.trans Fx.ic),(h21.trans Fx.ic),m8,b8⟩
   rw[U_]at c63;refine aT (h19.trans (L_ Value.bool c63))<|av aF<|av aF<|dw<|dw<|av aF<|aD<|aK<|Wk ?_;exact wo ⟨Nb,(XI.trans Fx.ic),(h16.trans Fx.ic),(QE.trans Fx.ic),h18,h19,(h20.trans Fx.ic),(h21.trans Fx.ic),m8,b8⟩
  rw[U_]at c61;refine aT (h18.trans (L_ Value.bool c61))<|av aF<|dw<|av aF<|av aF<|dw<|dw<|av aF<|aD<|aK<|Wk ?_;exact wo ⟨Nb,(XI.trans Fx.ic),(h16.trans Fx.ic),(QE.trans Fx.ic),h18,h19,(h20.trans Fx.ic),(h21.trans Fx.ic),m8,b8⟩
 rintro f4 sI ⟨s,y,C,E,h27,TL,h29,Yl,m10,b10⟩;refine Ws<|Ws ?_;refine nu<|eB y ?_;by_cases c74:0<(c:Int)
 ·refine Qv aG (fun v1 G=>mK c74)<|aX aG<|eB s<|eB y<|Qv (au ((c:Int)-1)) (fun v1 G=>fZ)<|Qv (pf g (c-1)) (fun v1 G=>dh 1)<|Qv (aC ((gA o) (c-1))) (fun v1 G=>aM (m10.cb G) (c-1))<|eB s<|eB Yl<|Qv (pf g q) (fun v1 G=>dh 1)<|Qv (aC ((gA o) q)) (fun v1 G=>aM (m10.cb G) q) ?_;by_cases c85:(decide ((gA o) (c-1)<(gA o) q))=true
  ·refine qA (fun _ _=>dP ((gA o) (c-1)) ((gA o) q) _) aG (by rw[c85])<|aX aF<|aX aF<|Qn ?_;intro Yh uq;have m11:=bF uq m10;have b11:=eP uq b10 r;refine sN<|aK<|Wk<|sN<|ay<|aT s<|aT y<|aT C<|aT Yl<|lU (agF c i q B g n cap o _ m11 (m_ r b11.size) hk2 x (by omega) (by omega) (by omega)) ?_;rintro D xU ⟨j,P,dn2,l,hu2,hv2,hz2,m12,hb7⟩;have b12:=b11.trans hb7;have hx:Sort.partition Sort.ltInt o c i q=(j,(Sort.partition Sort.ltInt o c i q).2.1,dn2):=Prod.ext hu2 (Prod.ext rfl hv2);obtain⟨r1,r2,r3,r4,r5,r6,r7⟩:=Sort.round_part Sort.swo_ltInt (Sort.partition_holds _) L.1 L.2 (by omega) (hBl.perm (by omega) F) hx;clear hx;refine⟨_,l,?_⟩;clear l;refine av (.tuple #[au (j:Int),.bool P])<|av (au j)<|av (.bool P)<|av (au j)<|av (.bool P)<|aD<|ay<|av (.bool P)<|av (.bool P)<|aD<|ay<|av (au j)<|aT y<|Lv (au ((j:Int)-(c:Int))) fZ<|aT C<|av (au j)<|Lv (au ((i:Int)-(j:Int))) fZ<|av (au ((j:Int)-(c:Int)))<|av (au ((i:Int)-(j:Int)))<|aD<|ay<|aT h29<|Lv (au ((i-c) / 8:Nat)) (Fx.Dt rfl rfl rfl (by omega) (iP (by omega) (by rw[Int.tdiv_eq_ediv_of_nonneg (by omega)]; omega)))<|av (au ((i-c) / 8:Nat))<|aD<|ay<|av (au ((j:Int)-(c:Int)))<|av (au ((i:Int)-(j:Int))) ?_;by_cases Uo:((j:Int)-(c:Int))<((i:Int)-(j:Int))
   ·refine Lv aG (gN Uo)<|aD<|aL<|ay<|av (au ((j:Int)-(c:Int)))<|av (au ((i-c) / 8:Nat))<|Lv (.bool (decide (((i-c) / 8:Nat)<=((j:Int)-(c:Int))))) (Fx.Fb rfl rfl rfl)<|av (.bool (decide (((i-c) / 8:Nat)<=((j:Int)-(c:Int)))))<|aD<|ay<|aT s<|aT y<|av (au j)<|aT E<|lU (ih _ _ _ c j p B g n cap dn2 _ m12 (m_ r b12.size) hz2 x V (by omega) (by omega) (by omega) r4 (by omega) (by omega) (by omega) (by omega)) (ax := #[bO g n cap,au (c:Int),au (j:Int),au (p:Int)]) ?_;rintro D Dy ⟨T,l,Z,W,X,m13,hb8⟩;refine⟨_,l,?_⟩;clear l;have b13:=b12.trans hb8;obtain⟨q1,z⟩:=r6 _ W X;refine aD (Wl (av (au j) (Lv (au ((j:Int)+1)) eU (av (au ((j:Int)+1)) (Ln (bR (gL ⟨i-(j+1),(by omega),j+1,i,p,T,(decide (((i-c) / 8:Nat)<=((j:Int)-(c:Int)))),(P),Z,q1,(fun R t u=>K R (Sort.permIn_trans _ _ _ _ _ F (z R t u).1) (z R t u).2),(by omega),rfl,s,Fx.ic,(C.trans Fx.ic),(E.trans Fx.ic),(by rfl),(by rfl),m13,b13⟩ (by decide))))))))
   refine Lv aF (gP Uo)<|aD<|aK<|ay<|av (au ((i:Int)-(j:Int)))<|av (au ((i-c) / 8:Nat))<|Lv (.bool (decide (((i-c) / 8:Nat)<=((i:Int)-(j:Int))))) (Fx.Fb rfl rfl rfl)<|av (.bool (decide (((i-c) / 8:Nat)<=((i:Int)-(j:Int)))))<|aD<|ay<|aT s<|av (au j)<|Lv (au ((j:Int)+1)) eU<|aT C<|aT E<|lU (ih _ _ _ (j+1) i p B g n cap dn2 _ m12 (m_ r b12.size) hz2 x V (by omega) (by omega) (by omega) r5 (by omega) (by omega) (by omega) (by omega)) (ax := #[bO g n cap,au ((j:Int)+1),au (i:Int),au (p:Int)]) ?_;rintro D EI ⟨T,l,Z,W,X,m14,XL⟩;refine⟨_,l,?_⟩;clear l;have b14:=b12.trans XL;obtain⟨q1,z⟩:=r7 _ W X;refine aD (Wl (av (au j) (av (au j) (Ln (bR (gL ⟨j-c,(by omega),c,j,p,T,(decide (((i-c) / 8:Nat)<=((i:Int)-(j:Int)))),(P),Z,q1,(fun R t u=>K R (Sort.permIn_trans _ _ _ _ _ F (z R t u).1) (z R t u).2),(by omega),rfl,s,(y.trans Fx.ic),Fx.ic,(E.trans Fx.ic),(by rfl),(by rfl),m14,b14⟩ (by decide)))))))
  rw[U_]at c85;refine qA (fun _ _=>dP ((gA o) (c-1)) ((gA o) q) _) aF (by rw[c85])<|aX aG<|aX aG<|Qn ?_;intro wb2 xR;have m15:=bF xR m10;have b15:=eP xR b10 r;refine sN<|aL<|ay<|aT s<|aT y<|aT C<|aT Yl<|lU (alJ c i q B g n cap o _ m15 (m_ r b15.size) hk2 x (by omega) (by omega) (by omega)) ?_;rintro D MG ⟨Uq,dn3,l,hx1,hz3,m16,acI⟩;have b16:=b15.trans acI;obtain⟨r1,r2,r3,r4,r5⟩:=Sort.round_eq Sort.swo_ltInt (Sort.partitionEqual_holds _) (by omega) L.1 L.2 (by omega) (hBl.perm (by omega) F) (xQ (j_ c85)) hx1;refine⟨_,l,?_⟩;clear l;refine av (au Uq) (aD (ay (av (au Uq) (av (au Uq) (aD (Wx (bY (bZ (gL ⟨i-Uq,(by omega),Uq,i,p,dn3,(O),(wp),hz3,r4,(fun R t u=>K R (Sort.permIn_trans _ _ _ _ _ F (r5 R t u).1) (r5 R t u).2),(by omega),rfl,s,Fx.ic,(C.trans Fx.ic),(E.trans Fx.ic),h27,TL,m16,b16⟩ (by decide))))))))))
 refine Qv aF (fun v1 G=>mM c74)<|aX aF<|aQ<|aQ<|aQ<|aQ<|aQ<|aQ<|aQ<|aQ<|aQ<|aQ<|aQ<|aX aF<|Qn ?_;intro wb3 xS;have m17:=bF xS m10;have b17:=eP xS b10 r;refine sN<|aK<|Wk<|sN<|ay<|aT s<|aT y<|aT C<|aT Yl<|lU (agF c i q B g n cap o _ m17 (m_ r b17.size) hk2 x (by omega) (by omega) (by omega)) ?_;rintro D KJ ⟨k,Q,dn4,l,hu3,hv3,hz4,m18,acJ⟩;have b18:=b17.trans acJ;have hx:Sort.partition Sort.ltInt o c i q=(k,(Sort.partition Sort.ltInt o c i q).2.1,dn4):=Prod.ext hu3 (Prod.ext rfl hv3);obtain⟨r1,r2,r3,r4,r5,r6,r7⟩:=Sort.round_part Sort.swo_ltInt (Sort.partition_holds _) L.1 L.2 (by omega) (hBl.perm (by omega) F) hx;clear hx;refine⟨_,l,?_⟩;clear l;refine av (.tuple #[au (k:Int),.bool Q])<|av (au k)<|av (.bool Q)<|av (au k)<|av (.bool Q)<|aD<|ay<|av (.bool Q)<|av (.bool Q)<|aD<|ay<|av (au k)<|aT y<|Lv (au ((k:Int)-(c:Int))) fZ<|aT C<|av (au k)<|Lv (au ((i:Int)-(k:Int))) fZ<|av (au ((k:Int)-(c:Int)))<|av (au ((i:Int)-(k:Int)))<|aD<|ay<|aT h29<|Lv (au ((i-c) / 8:Nat)) (Fx.Dt rfl rfl rfl (by omega) (iP (by omega) (by rw[Int.tdiv_eq_ediv_of_nonneg (by omega)]; omega)))<|av (au ((i-c) / 8:Nat))<|aD<|ay<|av (au ((k:Int)-(c:Int)))<|av (au ((i:Int)-(k:Int))) ?_;by_cases Uo:((k:Int)-(c:Int))<((i:Int)-(k:Int))
 ·refine Lv aG (gN Uo)<|aD<|aL<|ay<|av (au ((k:Int)-(c:Int)))<|av (au ((i-c) / 8:Nat))<|Lv (.bool (decide (((i-c) / 8:Nat)<=((k:Int)-(c:Int))))) (Fx.Fb rfl rfl rfl)<|av (.bool (decide (((i-c) / 8:Nat)<=((k:Int)-(c:Int)))))<|aD<|ay<|aT s<|aT y<|av (au k)<|aT E<|lU (ih _ _ _ c k p B g n cap dn4 _ m18 (m_ r b18.size) hz4 x V (by omega) (by omega) (by omega) r4 (by omega) (by omega) (by omega) (by omega)) (ax := #[bO g n cap,au (c:Int),au (k:Int),au (p:Int)]) ?_;rintro D w16 ⟨T,l,Z,W,X,m19,acK⟩;refine⟨_,l,?_⟩;clear l;have b19:=b18.trans acK;obtain⟨q1,z⟩:=r6 _ W X;refine aD (Wl (av (au k) (Lv (au ((k:Int)+1)) eU (av (au ((k:Int)+1)) (Ln (bR (gL ⟨i-(k+1),(by omega),k+1,i,p,T,(decide (((i-c) / 8:Nat)<=((k:Int)-(c:Int)))),(Q),Z,q1,(fun R t u=>K R (Sort.permIn_trans _ _ _ _ _ F (z R t u).1) (z R t u).2),(by omega),rfl,s,Fx.ic,(C.trans Fx.ic),(E.trans Fx.ic),(by rfl),(by rfl),m19,b19⟩ (by decide))))))))
 refine Lv aF (gP Uo)<|aD<|aK<|ay<|av (au ((i:Int)-(k:Int)))<|av (au ((i-c) / 8:Nat))<|Lv (.bool (decide (((i-c) / 8:Nat)<=((i:Int)-(k:Int))))) (Fx.Fb rfl rfl rfl)<|av (.bool (decide (((i-c) / 8:Nat)<=((i:Int)-(k:Int)))))<|aD<|ay<|aT s<|av (au k)<|Lv (au ((k:Int)+1)) eU<|aT C<|aT E<|lU (ih _ _ _ (k+1) i p B g n cap dn4 _ m18 (m_ r b18.size) hz4 x V (by omega) (by omega) (by omega) r5 (by omega) (by omega) (by omega) (by omega)) (ax := #[bO g n cap,au ((k:Int)+1),au (i:Int),au (p:Int)]) ?_;rintro D TR ⟨T,l,Z,W,X,m20,acL⟩;refine⟨_,l,?_⟩;clear l;have b20:=b18.trans acL;obtain⟨q1,z⟩:=r7 _ W X;refine aD (Wl (av (au k) (av (au k) (Ln (bR (gL ⟨k-c,(by omega),c,k,p,T,(decide (((i-c) / 8:Nat)<=((i:Int)-(k:Int)))),(Q),Z,q1,(fun R t u=>K R (Sort.permIn_trans _ _ _ _ _ F (z R t u).1) (z R t u).2),(by omega),rfl,s,(y.trans Fx.ic),Fx.ic,(E.trans Fx.ic),(by rfl),(by rfl),m20,b20⟩ (by decide)))))))
end
section
open Rt
theorem aaO : ∀ m,aaM m
 | 0=>by
   intro v x y a b u B g n c d w h k s t j q o p l e f i r;omega
 | m+1=>by
   intro v x y a b u B g n c d w h k s t j q o p l e f i r;subst e f i;exact acG m (aaO m) a b u B g n c d w h k s t j q o p l r
theorem Ym(B g n cap:Nat)(d:Array Int)(w:World)(h:Fx.Own w B 28 1 (bO g n cap) n (rv .u64 (gA d)))(j:B<=w.heap.size)(o:d.size=n)(p:n<=1000)(i:n<50) :
 Calls Tryz.prog 93 #[bO g n cap] w fun e w' => ∃ a:Array Int,e = .returned (.tuple #[])/\a.size=n/\Sort.PermIn 0 n d a/\Sort.SortedIn Sort.ltInt 0 n a/\Fx.Own w' B 28 1 (bO g n cap) n (rv .u64 (gA a))/\Below B w w':=by
 have t:=OY (show n<64 by omega);refine Kent Tryz.func93 11 ?_;refine ay<|av (bO g n cap)<|av (au n)<|av (au n)<|aD<|Wl<|av (bO g n cap)<|av (au n)<|av (au n)<|Lv (aC n) (dG rfl rfl (by kernel_rfl) Tryz.underlying142 (jL (by omega) rfl))<|mO (TG n _ (by omega)) _ rfl<|lU (aaO (n+1) _ _ _ 0 n (Sort.bitsLen n) B g n cap d _ h (m_ j (Below.refl B w).size) o p i (by omega) (by omega) (by omega) (.inl rfl) rfl rfl rfl (by omega)) (ax := #[bO g n cap,au 0,au (n:Int),au (Sort.bitsLen n:Int)]) ?_;rintro s u ⟨f,b,q,k,l,r,m⟩;refine⟨_,b,?_⟩;clear b;have c:=(Below.refl B w).trans m;refine Ln (⟨.tuple #[],iI Tryz.results93,?_⟩);exact⟨f,rfl,q,k,l,r,c⟩
theorem acM(w:World) :
 Calls Tryz.prog 129 #[.slice none 0 0,au 0,au 0] w fun e w'=>e = .returned (.tuple #[])/\Below w.heap.size w w':=by
 refine Kent Tryz.func129 49 ?_;refine ay<|av (au 0)<|Lv (au 1) eU<|av (au 1)<|aD<|Wb<|Wo (fun f d=>f 1=au 0/\f 2=au 0/\f 6=au 1/\Below w.heap.size w d) (fun f _=>0) ⟨Fx.ic,Fx.ic,Fx.ic,(Below.refl w.heap.size w)⟩ ?_;rintro g i ⟨h,b,c,a⟩;refine Ws (ay (aT c (aT b (Lv aF Hf (aD (aK (Wx (bY (gJ (bZ (⟨.tuple #[],iI Tryz.results129,?_⟩)))))))))));exact⟨rfl,a⟩
theorem acN(w:World) :
 Calls Tryz.prog 120 #[.slice none 0 0,au 0,au 0,au 0] w fun e w'=>e = .returned (.tuple #[])/\Below w.heap.size w w':=by
 refine Kent Tryz.func120 134 ?_;refine ay<|av aG<|aD<|ay<|av aG<|aD<|Wb<|Wo (fun f i=>f 0 = .slice none 0 0/\f 1=au 0/\f 2=au 0/\Below w.heap.size w i) (fun f _=>0) ⟨(by rfl),Fx.ic,Fx.ic,(Below.refl w.heap.size w)⟩ ?_;rintro j k ⟨g,a,b,c⟩;refine Wb<|ay<|aT b<|aT a<|Lv (au 0) fZ<|av (au 0)<|aD<|Ws<|ay<|av (au 0)<|Lv aG agh<|aD<|aL<|ay<|aT g<|aT a<|aT b<|dQ (acM _) _ rfl ?_;intro l h;have d:=bF h c;refine aD (Wr (sR (bP (pY (bP (⟨.tuple #[],iI Tryz.results120,?_⟩))))));exact⟨rfl,d⟩
theorem acO(w:World):Calls Tryz.prog 68 #[aC 0] w fun e w'=>e = .returned (au 0)/\w'=w:=TG 0 w (by omega)
theorem Yn(w:World) :
 Calls Tryz.prog 93 #[.slice none 0 0] w fun e w'=>e = .returned (.tuple #[])/\Below w.heap.size w w':=by
 refine Kent Tryz.func93 11 ?_;refine ay<|av (.slice none 0 0)<|av (au 0)<|av (au 0)<|aD<|Wl<|av (.slice none 0 0)<|av (au 0)<|av (au 0)<|Lv (aC 0) (dG rfl rfl (by kernel_rfl) Tryz.underlying142 (jL (by omega) rfl))<|mO (acO _) _ rfl<|dQ (acN _) _ rfl ?_;intro c b;have a:=bF b (Below.refl w.heap.size w);refine Ln (⟨.tuple #[],iI Tryz.results93,?_⟩);exact⟨rfl,a⟩
theorem acP{w:World}{B n cap:Nat}{a:Option Addr}{d:Array Int}(h:Fx.Own w B 28 1 (.slice a n cap) n (rv .u64 (gA d)))(f:B<=w.heap.size)(k:d.size=n)(p:n<50) :
 Calls Tryz.prog 93 #[.slice a n cap] w fun e w' => ∃ b:Array Int,e = .returned (.tuple #[])/\b.size=n/\Sort.PermIn 0 n d b/\Sort.SortedIn Sort.ltInt 0 n b/\Fx.Own w' B 28 1 (.slice a n cap) n (rv .u64 (gA b))/\Below B w w':=by
 rcases h.2 with ⟨c,l⟩|⟨g,c2,cur,c,_⟩
 ·subst l
  cases c
  exact(Yn w).mono fun e w' ⟨m,o⟩=>⟨d,m,k,Sort.permIn_refl _ _ _,fun i j _ q r=>by omega,tO _ _ _ _ _,o.mono f⟩
 simp only[Value.slice.injEq]at c;obtain⟨rfl,_,rfl⟩:=c;exact Ym B g n cap d w h f k (by omega) p
end
end Go.Proofs.YtahbiajdgealnaaGreatDoor
namespace Go.Proofs.YtahbiajdgealnaaGreatDoor
open Go.RowKit Go
namespace Rt
def dT(x:Nat->Int)(τ:Nat->Nat)(m:Nat):Array Int:=((List.range m).map fun q=>x (τ q)).toArray
section
variable {n m kk:Nat} {x:Nat->Int} {Q:Int->Prop} {S:Nat->Bool} {τ:Nat->Nat}
theorem OZ:(dT x τ m).size=m:=by unfold dT; simp
theorem acQ{q:Nat}(a:q<m):gA (dT x τ m) q=x (τ q):=by
 unfold gA dT;rw[getElem!_pos _ q (by simpa using a)]; simp
theorem agQ : ∀ j,j<m*1->Value.int .u64 (x (τ j))=Fx.rv .u64 (gA (dT x τ m)) j:=fun j a=>by
 show _=Value.int .u64 (gA (dT x τ m) j);rw[acQ (by omega)]
theorem acR{d:Array Int} : ∀ j,j<d.size*1->Fx.rv .u64 (gA d) j=yw d.toList j:=fun j a=>by
 show Value.int .u64 d[j]! = Value.int .u64 (d.toList.getD j 0);rw[getElem!_pos d j (by omega),r_,o_ (by simpa using (show j<d.size by omega))];simp
theorem QG{c:Array Int}(h:Tp n (fun i=>Q (x i)) S m τ kk)(y : ∀ i,i<n->S i=true)(A : ∀ a b,a<n->b<n->x a=x b->a=b)
 (B:Sort.PermIn 0 m (dT x τ m) c) (C:Sort.SortedIn Sort.ltInt 0 m c) (D:c.size=m):c.toList.Pairwise (· < ·) /\ ∀ k,k∈c.toList<->(dR x n k=true/\Q k):=by
 have u:c.toList.Perm ((List.range m).map fun q=>x (τ q)):=by
  have s:=B.2.2;have v:c.extract 0 m=c:=by rw[<- D]; simp
  have w : ∀ d:Array Int,d.size=m->d.extract 0 m=d:=fun d z=>by rw[<- z]; simp
  rw[v,w _ OZ]at s;exact s
 have t:c.toList.Nodup:=by
  refine(u.nodup_iff).2 ?_;rw[List.Nodup,List.pairwise_iff_getElem];intro i j f g r;simp only[List.getElem_map,List.getElem_range];simp only[List.length_map,List.length_range]at f g;exact fun e=>M_ (h.inj i j f g (A _ _ (h.lt i f) (h.lt j g) e)) (by omega)
 refine⟨?_,fun k => ?_⟩
 ·rw[List.pairwise_iff_getElem];intro i j f g r;simp only[Array.length_toList]at f g;have o:=j_ (C i j (K_ _) r (by omega));rw[getElem!_pos c i f,getElem!_pos c j g]at o;rw[List.Nodup,List.pairwise_iff_getElem]at t;have p:=t i j (by simpa using f) (by simpa using g) r;simp only[Array.getElem_toList]at p ⊢;omega
 rw[u.mem_iff];simp only[List.mem_map,O_];constructor
 ·rintro ⟨q,l,rfl⟩;exact⟨jN (h.lt q l) rfl,h.yes q l⟩
 rintro ⟨o,p⟩;obtain⟨i,f,rfl⟩:=gT o;obtain⟨q,l,rfl⟩:=h.mem i f (y i f) p;exact⟨q,l,rfl⟩
theorem Yo{z:Nat->Value}{i:Nat} : ∀ j,j<(m+1)*1->Fx.gY (fun q=>aC (x (τ q))) (m*1) (Fx.aZ z (0*1) 1 (fun _=>aC (x i))) j=aC (x (Fx.aN τ m i j)):=fun j a=>by
 unfold Fx.gY Fx.aZ Fx.aN;by_cases e:j=m
 ·subst e; rw[b_ (by omega),d_ (by omega),d_ rfl]
 ·rw[d_ (by omega),b_ e]
end
end Rt
open Rt
theorem acS{w:World}{B m cap:Nat}{a:Option Addr}{x:Nat->Int}{τ:Nat->Nat}(h:Fx.Own w B 28 1 (.slice a m cap) m (fun q=>aC (x (τ q))))(n:B<=w.heap.size)(p:m<=32) :
 Calls Tryz.prog 93 #[.slice a m cap] w fun e w'=>e = .returned (.tuple #[]) /\ ∃ b:Array Int,b.size=m/\Sort.PermIn 0 m (dT x τ m) b/\Sort.SortedIn Sort.ltInt 0 m b/\Fx.Own w' B 28 1 (.slice a m cap) m (yw b.toList)/\Below B w w' :=
 (acP (d:=dT x τ m) (h.congr agQ) n OZ (by omega)).mono fun e w' ⟨b,c,f,g,i,k,l⟩=>⟨c,b,f,g,i,k.congr fun j o=>acR j (by omega),l⟩
end Go.Proofs.YtahbiajdgealnaaGreatDoor
namespace Go.Proofs.YtahbiajdgealnaaGreatDoor.Fx
open Go.RowKit
section
variable {P:Program} {n0:Nat} {Q:Post} {f:Nat->Value} {w:World} {ops:Array Oper} {rest:List Oper} {o:Oper}
theorem L.lo{T E:TypeId}{x lo:Operand}{a:Option Addr}{B n c s m:Nat}{k:IntKind}{j:Nat}{y:Nat->Value}(u:Region.wanted o (yf ops f)=true)(e:inn n0 o.dst=true)(q:o.op = .slice T x (some lo) none none)(hx:ev f x = .slice a n c)(l:ev f lo = .int k (j:Int))(t:P.underlying T=some (.slice E))(r:(P.info? E).map (·.size)=some s)(H:n=j+m)(C:Own w B E s (.slice a n c) n y)
 (d : ∀ v,nT w v m s (fun p=>y (j*s+p))->L P n0 ops Q rest (put f o.dst (.slice v m (c-j))) w):L P n0 ops Q (o::rest) f w:=by
 by_cases D:n=0
 ·obtain rfl:j=0:=by omega
  obtain rfl:m=0:=by omega
  subst D
  rcases C.2 with ⟨b,_⟩|⟨g,cap,cur,b,_,_,hn,_⟩
  ·simp only[Value.slice.injEq]at b;obtain⟨rfl,_,rfl⟩:=b;obtain⟨i,G,_⟩:=Option.map_eq_some_iff.1 r;refine Lv _ (?_:Runs P f o w (.slice none 0 0)) (d none fun h=>M_ h (Nat.lt_irrefl 0)) u e;unfold Runs execOp;simp only[q,hx,l,Option.map_some,Option.map_none];simp[Instr.sliceAt,Instr.slice,underlying,t,Instr.sliceBounds,Instr.sliceBound,asIntOf,sizeOf,typeInfo,G]
  simp only[Value.slice.injEq]at b;obtain⟨rfl,_,rfl⟩:=b;exact Lv _ (Av (A:=if c=0 then some ⟨g,0,none⟩else some ⟨g,0+0*s,none⟩) (n':=0) (c':=c-0) q hx l t r (A_ _) rfl rfl rfl) (d _ fun h=>M_ h (Nat.lt_irrefl 0)) u e
 obtain⟨g,J,z,K,M,O,F⟩:=C.form (by omega);simp only[Value.slice.injEq]at z;obtain⟨rfl,_,rfl⟩:=z;refine Lv _ (Av (A:=if c=j then some ⟨g,0,none⟩else some ⟨g,0+j*s,none⟩) (n':=m) (c':=c-j) q hx l t r (by omega) rfl (by omega) rfl) (d _ fun N => ?_) u e;rw[b_ (by omega)];refine⟨g,_,rfl,fun p R => ?_⟩;have I:j*s+p<n*s:=by
  have:n*s=j*s+m*s:=by rw[H,Nat.add_mul]
  omega
 have:=F (j*s+p) I;rw[G_]at this;rw[G_]; exact this
theorem Own.agR{B n c s j:Nat}{E:TypeId}{a:Option Addr}{y:Nat->Value}(h:Own w B E s (.slice a n c) n y)(e:j<=n):nT w a j s y:=fun k=>by
 obtain⟨g,i,b,l,m,o,d⟩:=h.form (by omega);simp only[Value.slice.injEq]at b;refine⟨g,0,b.1,fun p f=>d p ?_⟩;exact n_ f (Nat.mul_le_mul_right s e)
theorem Own.weak{B a n s:Nat}{E:TypeId}{v:Value}{y:Nat->Value}(h:Own w B E s v n y)(b:a<=B):Own w a E s v n y:=by
 refine⟨h.1,?_⟩
 rcases h.2 with hn|⟨g,cap,cur,hv,hb,rest⟩
 ·exact .inl hn
 exact .inr ⟨g,cap,cur,hv,m_ b hb,rest⟩
end
end Go.Proofs.YtahbiajdgealnaaGreatDoor.Fx
namespace Go.Proofs.YtahbiajdgealnaaGreatDoor
open Go.RowKit Rt
open Fx (Lv sN Ln Ws Wl Wr Wk Wb Wx EF Bj xY yu yJ tO yt rv aP aZ aN Mp aR cells_one unseen bR bY bZ gJ gL)
section
open Rt
theorem Ur(x p:Nat->Int)(n tp mb:Nat)(w:World)(U:aP w tp 1 (fun _ => .map (some mb)) 135)(R:Mp w mb n x (fun j=>aC (p j)))(h:Cb n x p) :
 Calls Tryz.prog 65 #[(pt tp),.func (.func 66) #[] #[]] w fun e w' => ∃ a c l,e = .returned (.slice a (List.length l) c)/\Fx.Own w' w.heap.size 28 1 (.slice a l.length c) l.length (yw l)/\l.Pairwise (· < ·)/\(∀ k,k∈l<->(dR x n k=true/\True))/\l.length<=32/\Below w.heap.size w w':=by
 have hsm:=h.small;refine Kent Tryz.func65 27 ?_;refine ay<|av (.slice none 0 0)<|aD<|Ws<|ay<|av (pt tp)<|Lv aF (Fx.uh rfl rfl rfl (by kernel_rfl))<|aD<|aK<|Wk<|sN<|Ws<|ay<|av (pt tp)<|av (pt tp)<|av (pt tp)<|Lv (.map (some mb)) (aM U.aI 0)<|Fx.L.range (by rfl) rfl rfl rfl R Tryz.underlying100 fun O w1 lN Z s1 z1 => ?_;have⟨m2,m3,b1⟩:=jr s1.old U R (Below.refl w.heap.size w);have uM:=Z.lt;refine aD<|Wb ?_;have m4:Fx.Own w1 w.heap.size 28 1 (.slice none 0 0) 0 (fun q=>aC (x ((fun _=>0:Nat->Nat) q))):=tO _ _ _ _ _;refine EF (fun kk f g => ∃ m:Nat,∃ τ:Nat->Nat,∃ S:Nat->Bool,∃ a:Option Addr,∃ d:Nat,Tp n (fun i=>(fun k=>True) (x i)) S m τ kk/\f 0=(pt tp)/\f 1 = .func (.func 66) #[] #[]/\f 4 = .slice a (m) (d)/\f 12=(pt O)/\aP g tp 1 (fun _ => .map (some mb)) 135/\Mp g mb n x (fun j=>aC (p j))/\Fx.It g O mb n S/\Fx.Own g w.heap.size 28 1 (.slice a (m) (d)) m (fun q=>aC (x (τ q)))/\Below w.heap.size w g) (unseen (fun _=>false) n) ⟨0,(fun _=>0),(fun _=>false),none,0,(Tp.start n _ _),(by rfl),(by rfl),(by rfl),(by rfl),m2,m3,Z,m4,b1⟩ ?_;rintro kk N w2 ⟨m,τ,S,a,d,r,P,C,D,E,m5,m6,J,m8,o⟩;have hml:=r.le;refine ay<|Fx.L.next (by rfl) rfl rfl E m6 J (fun sO => ?_)<|fun b w3 G T m9 mc1 s2 z2 => ?_
 ·skip
  refine av aF<|aD<|Ws<|aK<|Wx<|bY<|gJ<|bZ<|sN<|ay<|aT D<|dQ (acS m8 o.size (by omega)) _ rfl ?_;rintro w4 ⟨M,Y,hp2,hs2,aa,hb1⟩;have b3:=o.trans hb1;refine aD<|ay<|aT D<|av (.slice a (m) (d))<|aD<|Wr<|aJ (.slice a (m) (d)) ?_;obtain⟨N,f2⟩:=QG (Q:=fun k=>True) r sO h.inj hp2 hs2 Y;have X:m<=32:=by omega
  rw[show m=M.toList.length by rw[Array.length_toList]; exact Y.symm]at aa X ⊢;exact⟨a,d,M.toList,rfl,aa,N,f2,X,b3⟩
 skip
 have F:=J.Cj s2;have ab:=m5.dW F;have H:=m6.dW F (J.rb.symm);have ac:=m8.dW F;have K:=s2.below o o.size (by omega);refine av aG<|aD<|Ws<|aL<|Wk<|sN<|Wb<|ay<|Lv (.tuple #[aC (x b),aC (p b)]) (Fx.OU (key:=x) (val:=fun j=>aC (p j)) (i:=b) rfl E H mc1 G)<|av (aC (x b))<|av (aC (x b))<|aD<|ay<|aT C<|av (aC (x b))<|Bj (by rfl) (Fx.Fe (args := [aC (x b)]) rfl rfl rfl (all := #[aC (x b)]) rfl Tryz.func66 rfl rfl) rfl<|(agu _ _).mono ?_;rintro e v1 ⟨V,hv1⟩;subst v1;refine⟨.bool true,by rw[V],?_⟩;clear V;refine aD<|aL<|Wl<|aT D<|av (aC (x b))<|xY (vs := [(0,aC (x b))]) (s:=1) (zc:=rv .u64 (fun _=>0)) (y:=aZ (fun j=>(rv .u64 (fun _=>0)) (j % 1)) (0*1) 1 (fun _=>aC (x b))) (by rfl) rfl rfl Tryz.underlying63 (by kernel_rfl) (by rfl) (by rfl) (by kernel_rfl) (by rw[aR (off:=0*1) (s:=1) (y:=fun _=>aC (x b)) rfl (cells_one (by rfl)) (by rfl)]; rfl) rfl fun g2 w5 z ad s3 z3 => ?_;have⟨m15,m16,I,m19,t⟩:=tQ s3.old ab H ac m9 K;have qW:=iT z K.size;have⟨AB,Nc⟩:=vH z ab.lt H.lt;have Ut:(.slice a (m) (d):Value).ownBlock≠some g2:=by rw[z]; exact ac.jo (A_ _)
 have zY:=ad.lt;refine yu (B:=w.heap.size) (s:=1) (bytes:=8) (k:=m) (m:=1) (v := .slice a (m) (d)) (x:=fun q=>aC (x (τ q))) (by rfl) rfl rfl rfl Tryz.underlying63 (by kernel_rfl) (by kernel_rfl) rfl rfl I ad.aI (fun j hj=>by unfold aZ; split <;> rfl) (by omega) (by omega) (by omega) t.size fun A u w6 ho1 W sH hlt1 => ?_
 have gD:=yJ W I;have⟨m21,m22,m24⟩:=Ec gD m15 m16 m19;have m20:Fx.Own w6 w.heap.size 28 1 (bO A (m+1) u) (m+1) (fun q=>aC (x (aN τ m b q))):=(ho1.congr Yo);have b6:Below w.heap.size w w6:=yt t W t.size (fun q hq=>(I.ge hq).1);refine av (bO A (m+1) u)<|Ln<|bR ?_
 skip
 refine gL ⟨unseen (aN S b true) n,(by have P:=Fx.pE T n G; have C:=r.kk; omega),m+1,aN τ m b,aN S b true,(some ⟨A,0,none⟩),u,(r.take G T trivial),P,C,(by rfl),E,m21,m22,m24,m20,b6⟩ (by decide)
theorem acT(x p:Nat->Int)(n tp mb:Nat)(w:World)(o:aP w tp 1 (fun _ => .map (some mb)) 135)(m:Mp w mb n x (fun j=>aC (p j)))(h:Cb n x p) :
 Calls Tryz.prog 42 #[(pt tp)] w fun e w' => ∃ a c l,e = .returned (.slice a (List.length l) c)/\Fx.Own w' w.heap.size 28 1 (.slice a l.length c) l.length (yw l)/\l.Pairwise (· < ·)/\(∀ k,k∈l<->(dR x n k=true/\True))/\l.length<=32/\Below w.heap.size w w':=by
 refine Kent Tryz.func42 5 ?_;refine ay<|av (.slice none 0 0)<|aD<|ay<|av (pt tp)<|lU (Ur x p n tp mb _ o m h) ?_;rintro v y ⟨b,d,f,i,u,r,s,t,q⟩;refine⟨_,i,?_⟩;clear i;have g:=bF q (Below.refl w.heap.size w);refine av (.slice b (f.length) (d))<|aD<|Wr<|aJ (.slice b (f.length) (d)) ?_;exact⟨b,d,f,rfl,u.weak (by have:=g.size; first|exact A_ _|exact(Below.refl w.heap.size w).size),r,s,t,g⟩
end
end Go.Proofs.YtahbiajdgealnaaGreatDoor
namespace Go.Proofs.YtahbiajdgealnaaGreatDoor
open Go.RowKit Go Rt
namespace Rt
structure dN where
 n:Nat
 x:Nat->Int
 p:Nat->Int
def dN.zero:dN:=⟨0,fun _=>0,fun _=>0⟩
def dN.has(T:dN)(k:Int):Bool:=dR T.x T.n k
def dN.par(T:dN)(k:Int):Int:=iD T.x T.p T.n k
def dN.path(T:dN)(k:Int):List Int:=jE T.x T.p T.n 4 k
def dN.err(T:dN)(id pa:Int):Int:=rH T.x T.p T.n id pa
def dN.put(T:dN)(id pa:Int):dN:=⟨T.n+1,Fx.aN T.x T.n id,Fx.aN T.p T.n pa⟩
def dN.add(T:dN)(id pa:Int):dN:=if T.err id pa=0 then T.put id pa else T
abbrev dN.ok(T:dN):Prop:=Cb T.n T.x T.p
theorem dN.Jj{T:dN}(h:T.ok){id pa:Int}(a:0<=id/\id<=18446744073709551615):(T.add id pa).ok:=by
 unfold dN.add;split
 ·rename_i hc; exact Cb.put h hc a
 exact h
structure sP(w:World)(B tp mb:Nat)(T:dN):Prop where
 blk:Fx.aP w tp 1 (fun _ => .map (some mb)) 135
 map:Fx.Mp w mb T.n T.x (fun j => .int .u64 (T.p j))
 inv:T.ok
 gt:B<=tp
 gm:B<=mb
section
variable {w w':World} {B tp mb r:Nat} {T:dN} {id pa k:Int}
theorem sP.up(h:sP w B tp mb T)(a:Below w.heap.size w w'):sP w' B tp mb T:=⟨h.blk.cZ (Fx.Sb a) (u_ h.blk.lt),h.map.up a,h.inv,h.gt,h.gm⟩
instance:Rt.Tr w w' (sP w B tp mb T) (sP w' B tp mb T):=⟨fun b h=>h.up b⟩
theorem sP.kV{a:List TypeId}(h:sP w B tp mb T)(b:Fx.iA a w w')(h1:a.contains 135=false):sP w' B tp mb T:=⟨h.blk.kV b h1,h.map.kV b trivial,h.inv,h.gt,h.gm⟩
instance {a:List TypeId}:Rt.Tc a w w' (sP w B tp mb T) (sP w' B tp mb T) (!(a.contains 135)):=⟨fun b h e=>h.kV b (by simpa using e)⟩
theorem sP.Cj(h:sP w B tp mb T)(a:Fx.Stp mb w w'):Fx.Qw mb w w':=h.map.Cj a
theorem sP.dW(h:sP w B tp mb T)(a:Fx.Qw r w w')(b:mb≠r):sP w' B tp mb T:=⟨h.blk.dW a,h.map.dW a b,h.inv,h.gt,h.gm⟩
theorem sP.weak{a:Nat}(h:sP w B tp mb T)(b:a<=B):sP w a tp mb T:=⟨h.blk,h.map,h.inv,m_ b h.gt,m_ b h.gm⟩
theorem sP.lt(h:sP w B tp mb T):mb<w.heap.size:=h.map.lt
end
end Rt
theorem aaP(w:World):Calls Tryz.prog 39 #[] w fun e w' => ∃ tp mb,e = .returned (.pointer (some ⟨tp,0,none⟩))/\w.heap.size<=mb/\sP w' w.heap.size tp mb dN.zero/\Below w.heap.size w w' :=
 (ags (fun _=>0) (fun _=>0) w).mono fun e w' ⟨tp,mb,b,c,a,d,f,g⟩=>⟨tp,mb,b,a,⟨d,f,Cb.zero _ _,c,a⟩,g⟩
theorem KN{w:World}{B tp mb:Nat}{T:dN}(id pa:Int)(h:sP w B tp mb T)(i:0<=id/\id<=18446744073709551615) :
 Calls Tryz.prog 172 #[.pointer (some ⟨tp,0,none⟩),.int .u64 id,.int .u64 pa] w fun e w'=>e = .returned (.int .i64 (T.err id pa))/\sP w' B tp mb (T.add id pa)/\Fx.Stp mb w w' :=
 (agt T.x T.p T.n tp mb id pa w h.blk h.map h.inv).mono fun e w' ⟨c,k,m,l,b,j,d,f,g⟩=>by
  cases j with
  | no a h0 =>
    have a:T.err id pa=c:=a;subst a;refine⟨b,⟨d,?_,dN.Jj h.inv i,h.gt,h.gm⟩,g⟩;unfold dN.add;rw[b_ h0]; exact f
  | yes a =>
    have a:T.err id pa=0:=a;refine⟨by rw[a]; exact b,⟨d,?_,dN.Jj h.inv i,h.gt,h.gm⟩,g⟩;unfold dN.add;rw[d_ a]; exact f
theorem aaQ{w:World}{B tp mb:Nat}{T:dN}(k:Int)(h:sP w B tp mb T) :
 Calls Tryz.prog 106 #[.pointer (some ⟨tp,0,none⟩),.int .u64 k] w fun e w'=>e = .returned (.bool (T.has k))/\w'=w:=Fw T.x T.p T.n tp mb k w h.blk h.map
def OwL(w:World)(B:Nat)(a:Option Addr)(c:Nat)(l:List Int):Prop:=Fx.Own w B 28 1 (.slice a l.length c) l.length (yw l)
theorem OwL.up{w w':World}{B c:Nat}{a:Option Addr}{l:List Int}(h:OwL w B a c l)(b:Below w.heap.size w w'):OwL w' B a c l:=Fx.Own.up h b
instance {w w':World} {B c:Nat} {a:Option Addr} {l:List Int}:Rt.Tr w w' (OwL w B a c l) (OwL w' B a c l):=⟨fun b h=>h.up b⟩
theorem Nf{w:World}{B tp mb:Nat}{T:dN}(k:Int)(h:sP w B tp mb T) :
 Calls Tryz.prog 49 #[.pointer (some ⟨tp,0,none⟩),.int .u64 k] w fun e w' => ∃ a c,e = .returned (.slice a (T.path k).length c)/\OwL w' w.heap.size a c (T.path k)/\Below w.heap.size w w' :=
 M8 T.x T.p T.n tp mb 4 k w h.blk h.map h.inv.inj (h.inv.stop k) (h.inv.len k)
theorem Uu{w:World}{B tp mb:Nat}{T:dN}(h:sP w B tp mb T) :
 Calls Tryz.prog 42 #[.pointer (some ⟨tp,0,none⟩)] w fun e w' => ∃ a c l,e = .returned (.slice a (List.length l) c)/\OwL w' w.heap.size a c l/\(l.Pairwise (· < ·) /\ ∀ k,k∈l<->T.has k=true)/\l.length<=32/\Below w.heap.size w w' :=
 (acT T.x T.p T.n tp mb w h.blk h.map h.inv).mono fun e w' ⟨a,c,l,b,d,f,g,i⟩=>⟨a,c,l,b,d,⟨f,fun k=>by have:=g k; rw[and_true]at this; exact this⟩,i⟩
namespace Rt
section
variable {T U:dN} {id pa k:Int}
structure vO(U T:dN):Prop where
 has : ∀ k,U.has k=true->T.has k=true
 par : ∀ k,U.has k=true->U.par k=T.par k
theorem vO.same(h:vO U T)(hx : ∀ k,T.has k=true->U.has k=true) : ∀ k,U.path k=T.path k:=fun k=>by
 have e : ∀ k,U.has k=T.has k:=fun k=>by
  cases h1:U.has k with
  | true=>exact(h.has k h1).symm
  | false =>
    cases h2:T.has k with
    | false=>rfl
    | true=>rw[hx k h2]at h1; cases h1
 exact Hq e (fun k a=>h.par k (hx k a)) 4 k
theorem dN.jH(T:dN)(id pa k:Int):(T.put id pa).has k=(T.has k || decide (id=k)):=Rt.jH id k
theorem dN.um(T:dN)(id pa k:Int):(T.put id pa).par k=if id=k then pa else T.par k:=Rt.um id pa k
end
end Rt
namespace Fx
theorem acU{P:Program}{f:Nat->Value}{w:World}{o:Oper}{T T':TypeId}{x y:Operand}{a b:Nat}(d:o.op = .binOp .or T x y T')(hx:ev f x = .int .u64 (1099511627776*(a:Int)))(hy:ev f y = .int .u64 (b:Int))(ha:a<=8388607)(g:b<1099511627776):Runs P f o w (.int .u64 (1099511627776*(a:Int)+b)) :=
 ug d hx hy (by
  have e:((BitVec.ofInt 64 (1099511627776*(a:Int)) ||| BitVec.ofInt 64 (b:Int)).toNat:Int)=1099511627776*(a:Int)+b:=by
   rw[BitVec.toNat_or,BitVec.toNat_ofInt,BitVec.toNat_ofInt];rw[show((1099511627776*(a:Int)) % ((2^64:Nat):Int)).toNat=1099511627776*a by omega,show((b:Int) % ((2^64:Nat):Int)).toNat=b by omega];have h:=Nat.shiftLeft_add_eq_or_of_lt (i:=40) (b:=b) (by omega) a;rw[Nat.shiftLeft_eq]at h;rw[show 1099511627776*a=a*2^40 by omega,<- h];omega
  have h:=jL (c:=1099511627776*(a:Int)+b) (by omega) rfl;simp only[binOp,Op.intBits];show(pure (Value.int .u64 (IntKind.u64.wrap ((BitVec.ofInt 64 (1099511627776*(a:Int)) ||| BitVec.ofInt 64 (b:Int)).toNat:Int))):Sem Value).run P w=_;rw[e,h]; rfl)
theorem acV{w:World}{B c:Nat}{a:Option Addr}{l:List Int}(h:OwL w B a c l):Fx.nT w a l.length 1 (yw l):=Own.agR h (A_ _)
end Fx
end Go.Proofs.YtahbiajdgealnaaGreatDoor
namespace Go.Proofs.YtahbiajdgealnaaGreatDoor
open Go.RowKit Rt
open Fx (Lv sN Ln Ws Qv Wl Wr Sb Wk rV sR Wb Wx Wo Qn xY yu EB tO yt Cm rv aA aP aZ Stp aW flat dD aY jg aR nT bD cells_one wo gY bP bR bY bZ gJ gL pY)
namespace Rt
structure EvM where
 o:Int
 seq:Int
 deps:Nat->Int
 kind:Int
 node:Int
 dst:Int
 aU:Int
 req:Int
 of:Int
def bV(v:EvM):Nat->Value:=fun p=>if p=0 then au v.o else if p=1 then aC v.seq else if p<8 then aC (v.deps (p-2))else if p=8 then .int .u8 v.kind else if p=9 then aC v.node else if p=10 then au v.dst else if p=11 then au v.aU else if p=12 then aC v.req else aC v.of
theorem mQ(v:EvM){p j:Nat}(h:p=j+2)(a:j<6):bV v p=aC (v.deps j):=by
 subst h; unfold bV; rw[b_ (by omega),b_ (by omega),d_ (by omega),show j+2-2=j by omega]
theorem jd(v:EvM) : ∀ j,j<14->(bV v j).oneCell'=true:=fun j _=>by unfold bV; repeat (first|rfl|split)
def mD(i:Int):Bool:=decide (1<=i)&&decide (i<=6)
def ku(v:EvM):EvM :=
 if v.kind=1 then { v with dst:=0,req:=0,of:=0 } else if v.kind=2 then { v with dst:=0,req:=0,of:=0 } else if v.kind=3 then { v with dst:=0,of:=0 }
 else if v.kind=4 then { v with node:=0,dst:=0,aU:=0 } else if v.kind=5 then { v with req:=0,of:=0 } else if v.kind=6 then { v with node:=0,aU:=0,req:=0,of:=0 }
 else { v with node:=0,dst:=0,aU:=0,req:=0,of:=0 }
def someE(v:EvM):Bool:=decide (1<=v.aU)&&decide (v.aU<=1125899906842624)
def kN(v:EvM):Bool:=mD v.dst && !decide (v.dst=v.o)
def dz(v:EvM):Bool :=
 if v.kind=1 then decide (0<=v.aU)&&decide (v.aU<=1125899906842624)else if v.kind=2 then someE v else if v.kind=3 then someE v&&decide (1<=v.req)
 else if v.kind=4 then decide (1<=v.req)&&decide (1<=v.of) && !decide (v.req=v.of)else if v.kind=5 then someE v&&kN v else if v.kind=6 then kN v else decide (v.kind=7)
end Rt
theorem BF(n:Int)(w:World) :
 Calls Tryz.prog 75 #[au n] w fun e w'=>e = .returned (.bool (mD n))/\w'=w:=by
 refine Kent Tryz.func75 9 ?_;refine ay<|av aF<|aD<|ay<|av (au n) ?_;by_cases a:1<=n
 ·refine Lv aG (kM a)<|av aG<|av (au n) ?_;by_cases b:n<=6
  ·refine Lv aG (nM b)<|av aG<|av aG<|aD<|Wr<|aJ aG ?_;exact⟨iB (by simp only[mD]; first|(symm; simp; omega)|(symm; simp; done)),rfl⟩
  refine Lv aF (nV b)<|av aF<|av aF<|aD<|Wr<|aJ aF ?_;exact⟨iB (by simp only[mD]; first|(symm; simp; omega)|(symm; simp; done)),rfl⟩
 refine Lv aF (kg a)<|av aF<|dw<|dw<|av aF<|av aF<|aD<|Wr<|aJ aF ?_;exact⟨iB (by simp only[mD]; first|(symm; simp; omega)|(symm; simp; done)),rfl⟩
theorem agS(v:EvM)(w:World) :
 Calls Tryz.prog 76 #[.agg (aA 14 (bV v))] w fun e w'=>e = .returned (.agg (aA 14 (bV (ku v))))/\Below w.heap.size w w':=by
 refine Kent Tryz.func76 60 ?_;refine ay<|rE fun b w1 lN x s1 z1 => ?_;have U:=bF s1.old (Below.refl w.heap.size w);refine uW 14 (fun i=>(#[au 0,aC 0,aC 0,aC 0,aC 0,aC 0,aC 0,aC 0,.int .u8 (0),aC 0,au 0,au 0,aC 0,aC 0]:Array Value).getD i undef) fun m w2 yD y s2 z2 => ?_;have⟨s,b2⟩:=fF s2.old x U;refine aD<|ay<|av (pt b)<|Lv (au v.o) (aM s.aI 0)<|av (pf b 1)<|Lv (aC v.seq) (aM s.aI 1)<|av (pf b 2)<|Lv (.agg (aA 6 (rv .u64 v.deps))) (fJ s.aI 2 (fun j c=>mQ _ (by omega) c))<|av (pf b 8)<|Lv (.int .u8 (v.kind)) (aM s.aI 8)<|av (.agg (aA 14 (aZ (aZ (aZ (aZ (fun i=>(#[au 0,aC 0,aC 0,aC 0,aC 0,aC 0,aC 0,aC 0,.int .u8 (0),aC 0,au 0,au 0,aC 0,aC 0]:Array Value).getD i undef) 0 1 (fun _=>au v.o)) 1 1 (fun _=>aC v.seq)) 2 6 (rv .u64 v.deps)) 8 1 (fun _ => .int .u8 (v.kind)))))<|uW 14 (fun i=>(#[au 0,aC 0,aC 0,aC 0,aC 0,aC 0,aC 0,aC 0,.int .u8 (0),aC 0,au 0,au 0,aC 0,aC 0]:Array Value).getD i undef) fun a w3 zF m4 s3 z3 => ?_;have⟨m5,m6,b3⟩:=jr s3.old s y b2;have⟨aaS,agT⟩:=vH zF s.lt y.lt;refine fq m4 0 (h1:=(fun j c=>by rcases j with _|_|_|_|_|_|_|_|_|_|_|_|_|_|j <;> first|rfl|omega)) fun w4 m7 O z4 => ?_
 have m8:aP w4 a 14 (aZ (aZ (aZ (aZ (fun i=>(#[au 0,aC 0,aC 0,aC 0,aC 0,aC 0,aC 0,aC 0,.int .u8 (0),aC 0,au 0,au 0,aC 0,aC 0]:Array Value).getD i undef) 0 1 (fun _=>au v.o)) 1 1 (fun _=>aC v.seq)) 2 6 (rv .u64 v.deps)) 8 1 (fun _ => .int .u8 (v.kind))) 32:=aW m7;have k:aP w4 a 14 (bV ⟨v.o,v.seq,v.deps,v.kind,0,0,0,0,0⟩) 32:=m8.congr (fun j c=>by rcases j with _|_|_|_|_|_|_|_|_|_|_|_|_|_|j <;> first|rfl|omega)
 have f:=m5.cZ O (by omega);have n:=m6.cZ O (by omega);have d:=O.below b3 b3.size (by omega);refine aD<|Ws<|ay<|av (pf b 8)<|Lv (.int .u8 (v.kind)) (aM f.aI 8)<|aD<|Wb<|Ws<|ay ?_;by_cases g:v.kind=1
 ·refine Lv aG (eX g)<|av aG<|aD<|aL<|Wk<|sN<|aL<|ay<|av (pf b 9)<|Lv (aC v.node) (aM f.aI 9)<|av (pf a 9)<|jh k 9 (aC v.node) fun w5 m12 P z5 => ?_;have m13:aP w5 a 14 (bV ⟨v.o,v.seq,v.deps,v.kind,v.node,0,0,0,0⟩) 32:=m12.congr (fun j c=>by rcases j with _|_|_|_|_|_|_|_|_|_|_|_|_|_|j <;> first|rfl|omega)
  have m14:=f.cZ P (by omega);have m15:=n.cZ P (by omega);have b5:=P.below d d.size (by omega);refine aD<|Wl<|av (pf b 11)<|Lv (au v.aU) (aM m14.aI 11)<|av (pf a 11)<|jh m13 11 (au v.aU) fun w6 m16 Q z6 => ?_;have m17:aP w6 a 14 (bV ⟨v.o,v.seq,v.deps,v.kind,v.node,0,v.aU,0,0⟩) 32:=m16.congr (fun j c=>by rcases j with _|_|_|_|_|_|_|_|_|_|_|_|_|_|j <;> first|rfl|omega)
  have m18:=m14.cZ Q (by omega);have m19:=m15.cZ Q (by omega);have b6:=Q.below b5 b5.size (by omega);refine Ln<|bR<|sN<|ay<|Lv (.agg (aA 14 (bV ⟨v.o,v.seq,v.deps,v.kind,v.node,0,v.aU,0,0⟩))) (fJ m17.aI 0)<|fq m19 0 (h1:=(jd _)) fun w7 m20 R z7 => ?_;have m21:aP w7 m 14 (bV ⟨v.o,v.seq,v.deps,v.kind,v.node,0,v.aU,0,0⟩) 32:=aW m20;have m22:=m18.cZ R (by omega);have m23:=m17.cZ R (by omega);have b7:=R.below b6 b6.size (by omega);refine aD (Wr (⟨.agg (aA 14 (bV ⟨v.o,v.seq,v.deps,v.kind,v.node,0,v.aU,0,0⟩)),rV Tryz.results76 ⟨_,rfl,aY m21.aI (by kernel_rfl) (by kernel_rfl)⟩,?_⟩));refine⟨L_ (fun q=>Ending.returned (Value.agg q)) (Fx.fB fun i r => ?_),b7⟩;unfold ku; rw[d_ g]
 refine Lv aF (fT g)<|av aF<|aD<|aK<|Wl ?_;by_cases h:v.kind=2
 ·refine Lv aG (eX h)<|av aG<|aD<|aL<|ay<|av (pf b 9)<|Lv (aC v.node) (aM f.aI 9)<|av (pf a 9)<|jh k 9 (aC v.node) fun w8 m24 S z8 => ?_;have nP:aP w8 a 14 (bV ⟨v.o,v.seq,v.deps,v.kind,v.node,0,0,0,0⟩) 32:=m24.congr (fun j c=>by rcases j with _|_|_|_|_|_|_|_|_|_|_|_|_|_|j <;> first|rfl|omega)
  have oG:=f.cZ S (by omega);have nY:=n.cZ S (by omega);have b8:=S.below d d.size (by omega);refine aD<|Wl<|av (pf b 11)<|Lv (au v.aU) (aM oG.aI 11)<|av (pf a 11)<|jh nP 11 (au v.aU) fun w9 nZ T z9 => ?_;have oH:aP w9 a 14 (bV ⟨v.o,v.seq,v.deps,v.kind,v.node,0,v.aU,0,0⟩) 32:=nZ.congr (fun j c=>by rcases j with _|_|_|_|_|_|_|_|_|_|_|_|_|_|j <;> first|rfl|omega)
  have pG:=oG.cZ T (by omega);have nA:=nY.cZ T (by omega);have b9:=T.below b8 b8.size (by omega);refine Ln<|bR<|sN<|ay<|Lv (.agg (aA 14 (bV ⟨v.o,v.seq,v.deps,v.kind,v.node,0,v.aU,0,0⟩))) (fJ oH.aI 0)<|fq nA 0 (h1:=(jd _)) fun sI m32 z z10 => ?_;have qg:aP sI m 14 (bV ⟨v.o,v.seq,v.deps,v.kind,v.node,0,v.aU,0,0⟩) 32:=aW m32;have oO:=pG.cZ z (by omega);have qh:=oH.cZ z (by omega);have b10:=z.below b9 b9.size (by omega);refine aD (Wr (⟨.agg (aA 14 (bV ⟨v.o,v.seq,v.deps,v.kind,v.node,0,v.aU,0,0⟩)),rV Tryz.results76 ⟨_,rfl,aY qg.aI (by kernel_rfl) (by kernel_rfl)⟩,?_⟩));refine⟨L_ (fun q=>Ending.returned (Value.agg q)) (Fx.fB fun i r => ?_),b10⟩;unfold ku; rw[b_ g,d_ h]
 refine Lv aF (fT h)<|av aF<|aD<|aK<|ay ?_;by_cases l:v.kind=3
 ·refine Lv aG (eX l)<|av aG<|aD<|aL<|ay<|av (pf b 9)<|Lv (aC v.node) (aM f.aI 9)<|av (pf a 9)<|jh k 9 (aC v.node) fun xU qH A z11 => ?_;have nS:aP xU a 14 (bV ⟨v.o,v.seq,v.deps,v.kind,v.node,0,0,0,0⟩) 32:=qH.congr (fun j c=>by rcases j with _|_|_|_|_|_|_|_|_|_|_|_|_|_|j <;> first|rfl|omega)
  have rU:=f.cZ A (by omega);have pV:=n.cZ A (by omega);have V:=A.below d d.size (by omega);refine aD<|ay<|av (pf b 11)<|Lv (au v.aU) (aM rU.aI 11)<|av (pf a 11)<|jh nS 11 (au v.aU) fun Dy sJ B z12 => ?_;have nJ:aP Dy a 14 (bV ⟨v.o,v.seq,v.deps,v.kind,v.node,0,v.aU,0,0⟩) 32:=sJ.congr (fun j c=>by rcases j with _|_|_|_|_|_|_|_|_|_|_|_|_|_|j <;> first|rfl|omega)
  have mJ:=rU.cZ B (by omega);have nC:=pV.cZ B (by omega);have W:=B.below V V.size (by omega);refine aD<|Wl<|av (pf b 12)<|Lv (aC v.req) (aM mJ.aI 12)<|av (pf a 12)<|jh nJ 12 (aC v.req) fun EI sK C z13 => ?_;have rJ:aP EI a 14 (bV ⟨v.o,v.seq,v.deps,v.kind,v.node,0,v.aU,v.req,0⟩) 32:=sK.congr (fun j c=>by rcases j with _|_|_|_|_|_|_|_|_|_|_|_|_|_|j <;> first|rfl|omega)
  have og:=mJ.cZ C (by omega);have qV:=nC.cZ C (by omega);have X:=C.below W W.size (by omega);refine Ln<|bR<|sN<|ay<|Lv (.agg (aA 14 (bV ⟨v.o,v.seq,v.deps,v.kind,v.node,0,v.aU,v.req,0⟩))) (fJ rJ.aI 0)<|fq qV 0 (h1:=(jd _)) fun MG wT D z14 => ?_;have tV:aP MG m 14 (bV ⟨v.o,v.seq,v.deps,v.kind,v.node,0,v.aU,v.req,0⟩) 32:=aW wT;have rW:=og.cZ D (by omega);have wu:=rJ.cZ D (by omega);have b14:=D.below X X.size (by omega);refine aD (Wr (⟨.agg (aA 14 (bV ⟨v.o,v.seq,v.deps,v.kind,v.node,0,v.aU,v.req,0⟩)),rV Tryz.results76 ⟨_,rfl,aY tV.aI (by kernel_rfl) (by kernel_rfl)⟩,?_⟩));refine⟨L_ (fun q=>Ending.returned (Value.agg q)) (Fx.fB fun i r => ?_),b14⟩;unfold ku; rw[b_ g,b_ h,d_ l]
 refine Lv aF (fT l)<|av aF<|aD<|aK<|ay ?_;by_cases p:v.kind=4
 ·refine Lv aG (eX p)<|av aG<|aD<|aL<|ay<|av (pf b 12)<|Lv (aC v.req) (aM f.aI 12)<|av (pf a 12)<|jh k 12 (aC v.req) fun KJ uX E z15 => ?_;have uN:aP KJ a 14 (bV ⟨v.o,v.seq,v.deps,v.kind,0,0,0,v.req,0⟩) 32:=uX.congr (fun j c=>by rcases j with _|_|_|_|_|_|_|_|_|_|_|_|_|_|j <;> first|rfl|omega)
  have vL:=f.cZ E (by omega);have wz:=n.cZ E (by omega);have Y:=E.below d d.size (by omega);refine aD<|Wl<|av (pf b 13)<|Lv (aC v.of) (aM vL.aI 13)<|av (pf a 13)<|jh uN 13 (aC v.of) fun w16 uw F z16 => ?_;have uy:aP w16 a 14 (bV ⟨v.o,v.seq,v.deps,v.kind,0,0,0,v.req,v.of⟩) 32:=uw.congr (fun j c=>by rcases j with _|_|_|_|_|_|_|_|_|_|_|_|_|_|j <;> first|rfl|omega)
  have uz:=vL.cZ F (by omega);have wU:=wz.cZ F (by omega);have Z:=F.below Y Y.size (by omega);refine Ln<|bR<|sN<|ay<|Lv (.agg (aA 14 (bV ⟨v.o,v.seq,v.deps,v.kind,0,0,0,v.req,v.of⟩))) (fJ uy.aI 0)<|fq wU 0 (h1:=(jd _)) fun TR qI G z17 => ?_;have vM:aP TR m 14 (bV ⟨v.o,v.seq,v.deps,v.kind,0,0,0,v.req,v.of⟩) 32:=aW qI;have oh:=uz.cZ G (by omega);have tX:=uy.cZ G (by omega);have b17:=G.below Z Z.size (by omega);refine aD (Wr (⟨.agg (aA 14 (bV ⟨v.o,v.seq,v.deps,v.kind,0,0,0,v.req,v.of⟩)),rV Tryz.results76 ⟨_,rfl,aY vM.aI (by kernel_rfl) (by kernel_rfl)⟩,?_⟩));refine⟨L_ (fun q=>Ending.returned (Value.agg q)) (Fx.fB fun i r => ?_),b17⟩;unfold ku; rw[b_ g,b_ h,b_ l,d_ p]
 refine Lv aF (fT p)<|av aF<|aD<|aK<|ay ?_;by_cases t:v.kind=5
 ·refine Lv aG (eX t)<|av aG<|aD<|aL<|ay<|av (pf b 9)<|Lv (aC v.node) (aM f.aI 9)<|av (pf a 9)<|jh k 9 (aC v.node) fun R9 m64 H z18 => ?_;have wV:aP R9 a 14 (bV ⟨v.o,v.seq,v.deps,v.kind,v.node,0,0,0,0⟩) 32:=m64.congr (fun j c=>by rcases j with _|_|_|_|_|_|_|_|_|_|_|_|_|_|j <;> first|rfl|omega)
  have wB:=f.cZ H (by omega);have wW:=n.cZ H (by omega);have aa:=H.below d d.size (by omega);refine aD<|ay<|av (pf b 11)<|Lv (au v.aU) (aM wB.aI 11)<|av (pf a 11)<|jh wV 11 (au v.aU) fun QF wX I z19 => ?_;have sM:aP QF a 14 (bV ⟨v.o,v.seq,v.deps,v.kind,v.node,0,v.aU,0,0⟩) 32:=wX.congr (fun j c=>by rcases j with _|_|_|_|_|_|_|_|_|_|_|_|_|_|j <;> first|rfl|omega)
  have uY:=wB.cZ I (by omega);have uD:=wW.cZ I (by omega);have ab:=I.below aa aa.size (by omega);refine aD<|Wl<|av (pf b 10)<|Lv (au v.dst) (aM uY.aI 10)<|av (pf a 10)<|jh sM 10 (au v.dst) fun TU wC J z20 => ?_;have uZ:aP TU a 14 (bV ⟨v.o,v.seq,v.deps,v.kind,v.node,v.dst,v.aU,0,0⟩) 32:=wC.congr (fun j c=>by rcases j with _|_|_|_|_|_|_|_|_|_|_|_|_|_|j <;> first|rfl|omega)
  have yx:=uY.cZ J (by omega);have wD:=uD.cZ J (by omega);have b20:=J.below ab ab.size (by omega);refine Ln<|bR<|sN<|ay<|Lv (.agg (aA 14 (bV ⟨v.o,v.seq,v.deps,v.kind,v.node,v.dst,v.aU,0,0⟩))) (fJ uZ.aI 0)<|fq wD 0 (h1:=(jd _)) fun w21 yA K z21 => ?_;have yB:aP w21 m 14 (bV ⟨v.o,v.seq,v.deps,v.kind,v.node,v.dst,v.aU,0,0⟩) 32:=aW yA;have yC:=yx.cZ K (by omega);have wY:=uZ.cZ K (by omega);have KH:=K.below b20 b20.size (by omega);refine aD (Wr (⟨.agg (aA 14 (bV ⟨v.o,v.seq,v.deps,v.kind,v.node,v.dst,v.aU,0,0⟩)),rV Tryz.results76 ⟨_,rfl,aY yB.aI (by kernel_rfl) (by kernel_rfl)⟩,?_⟩));refine⟨L_ (fun q=>Ending.returned (Value.agg q)) (Fx.fB fun i r => ?_),KH⟩;unfold ku; rw[b_ g,b_ h,b_ l,b_ p,d_ t]
 refine Lv aF (fT t)<|av aF<|aD<|aK<|ay ?_;by_cases u:v.kind=6
 ·refine Lv aG (eX u)<|av aG<|aD<|aL<|Wl<|av (pf b 10)<|Lv (au v.dst) (aM f.aI 10)<|av (pf a 10)<|jh k 10 (au v.dst) fun w22 wE L z22 => ?_;have vg:aP w22 a 14 (bV ⟨v.o,v.seq,v.deps,v.kind,0,v.dst,0,0,0⟩) 32:=wE.congr (fun j c=>by rcases j with _|_|_|_|_|_|_|_|_|_|_|_|_|_|j <;> first|rfl|omega)
  have vN:=f.cZ L (by omega);have yR:=n.cZ L (by omega);have MF:=L.below d d.size (by omega);refine Ln<|bR<|sN<|ay<|Lv (.agg (aA 14 (bV ⟨v.o,v.seq,v.deps,v.kind,0,v.dst,0,0,0⟩))) (fJ vg.aI 0)<|fq yR 0 (h1:=(jd _)) fun w23 xV M z23 => ?_;have AA:aP w23 m 14 (bV ⟨v.o,v.seq,v.deps,v.kind,0,v.dst,0,0,0⟩) 32:=aW xV;have zW:=vN.cZ M (by omega);have zX:=vg.cZ M (by omega);have TJ:=M.below MF MF.size (by omega);refine aD (Wr (⟨.agg (aA 14 (bV ⟨v.o,v.seq,v.deps,v.kind,0,v.dst,0,0,0⟩)),rV Tryz.results76 ⟨_,rfl,aY AA.aI (by kernel_rfl) (by kernel_rfl)⟩,?_⟩));refine⟨L_ (fun q=>Ending.returned (Value.agg q)) (Fx.fB fun i r => ?_),TJ⟩;unfold ku; rw[b_ g,b_ h,b_ l,b_ p,b_ t,d_ u]
 refine Lv aF (fT u)<|av aF<|aD<|aK<|Wk<|bR<|sN<|ay<|Lv (.agg (aA 14 (bV ⟨v.o,v.seq,v.deps,v.kind,0,0,0,0,0⟩))) (fJ k.aI 0)<|fq n 0 (h1:=(jd _)) fun w24 yS N z24 => ?_;have zD:aP w24 m 14 (bV ⟨v.o,v.seq,v.deps,v.kind,0,0,0,0,0⟩) 32:=aW yS;have Al:=f.cZ N (by omega);have Dz:=k.cZ N (by omega);have TK:=N.below d d.size (by omega);refine aD (Wr (⟨.agg (aA 14 (bV ⟨v.o,v.seq,v.deps,v.kind,0,0,0,0,0⟩)),rV Tryz.results76 ⟨_,rfl,aY zD.aI (by kernel_rfl) (by kernel_rfl)⟩,?_⟩));refine⟨L_ (fun q=>Ending.returned (Value.agg q)) (Fx.fB fun i r => ?_),TK⟩;unfold ku; rw[b_ g,b_ h,b_ l,b_ p,b_ t,b_ u]
set_option linter.unusedSimpArgs false in
set_option maxHeartbeats 2000000 in
theorem KP(v:EvM)(w:World) :
 Calls Tryz.prog 77 #[.agg (aA 14 (bV v))] w fun e w'=>e = .returned (.bool (dz v))/\Below w.heap.size w w':=by
 refine Kent Tryz.func77 75 ?_;refine ay<|rE fun g S M B N V => ?_;have I:=bF N.old (Below.refl w.heap.size w);refine av aF<|aD<|Cm (fun f F=>f 1=(pt g)/\f 3 = .bool (someE v)/\aP F g 14 (bV v) 32/\Below w.heap.size w F) ?_ ?_
 ·refine Wl<|av (pf g 11)<|Lv (au v.aU) (aM B.aI 11) ?_;by_cases D:1<=v.aU
  ·refine Lv aG (kM D)<|av aG<|av (pf g 11)<|Lv (au v.aU) (aM B.aI 11) ?_;by_cases G:v.aU<=1125899906842624
   ·refine Lv aG (nM G)<|av aG<|av aG<|Ln ?_;exact wo ⟨(by rfl),(by show Value.bool true=Value.bool (someE v); unfold someE; rw[f_ D,f_ G]; rfl),B,I⟩
   refine Lv aF (nV G)<|av aF<|av aF<|Ln ?_;exact wo ⟨(by rfl),(by show Value.bool false=Value.bool (someE v); unfold someE; rw[f_ D,g_ G]; rfl),B,I⟩
  refine Lv aF (kg D)<|av aF<|dw<|dw<|dw<|av aF<|av aF<|Ln ?_;exact wo ⟨(by rfl),(by show Value.bool false=Value.bool (someE v); unfold someE; rw[g_ D]; rfl),B,I⟩
 rintro O T ⟨A,K,C,J⟩;refine Cm (fun f F=>f 1=(pt g)/\f 3 = .bool (someE v)/\f 4 = .bool (kN v)/\aP F g 14 (bV v) 32/\Below w.heap.size w F) ?_ ?_
 ·refine Wl<|Lv (pf g 10) (iZ A 10)<|Lv (au v.dst) (aM C.aI 10) ?_;by_cases t:(mD v.dst)=true
  ·refine mO (BF v.dst _) aG (by rw[t])<|av aG<|Lv (pf g 10) (iZ A 10)<|Lv (au v.dst) (aM C.aI 10)<|Lv (pt g) (iZ A 0)<|Lv (au v.o) (aM C.aI 0) ?_;by_cases H:v.dst=v.o
   ·refine Lv aF (ko H)<|av aF<|av aF<|Ln ?_;exact wo ⟨A,K,(by show Value.bool false=Value.bool (kN v); unfold kN; rw[t,f_ H]; rfl),C,J⟩
   refine Lv aG (nN H)<|av aG<|av aG<|Ln ?_;exact wo ⟨A,K,(by show Value.bool true=Value.bool (kN v); unfold kN; rw[t,g_ H]; rfl),C,J⟩
  rw[U_]at t;refine mO (BF v.dst _) aF (by rw[t])<|av aF<|dw<|dw<|dw<|dw<|dw<|av aF<|av aF<|Ln ?_;exact wo ⟨A,K,(by show Value.bool false=Value.bool (kN v); unfold kN; rw[t]; rfl),C,J⟩
 rintro P U ⟨m,E,L,n,h⟩;refine Ws<|ay<|Lv (pf g 8) (iZ m 8)<|Lv (.int .u8 (v.kind)) (aM n.aI 8)<|aD<|Wb<|ay ?_;by_cases a:v.kind=1
 ·refine Lv aG (eX a)<|av aG<|aD<|aL<|ay<|Lv (pf g 11) (iZ m 11)<|Lv (au v.aU) (aM n.aI 11) ?_;by_cases p:0<=v.aU
  ·refine Lv aG (kM p)<|av aG<|Lv (pf g 11) (iZ m 11)<|Lv (au v.aU) (aM n.aI 11) ?_;by_cases u:v.aU<=1125899906842624
   ·refine Lv aG (nM u)<|av aG<|av aG<|aD<|Wr<|bP<|sR<|aJ aG ?_;exact⟨iB (Eq.symm (by unfold dz; first|(rw[d_ a]; done)|(rw[d_ a]; first|(simp[p,u]; done)|(simp[p,u]; omega)))),h⟩
   refine Lv aF (nV u)<|av aF<|av aF<|aD<|Wr<|bP<|sR<|aJ aF ?_;exact⟨iB (Eq.symm (by unfold dz; first|(rw[d_ a]; done)|(rw[d_ a]; first|(simp[p,u]; done)|(simp[p,u]; omega)))),h⟩
  refine Lv aF (kg p)<|av aF<|dw<|dw<|dw<|av aF<|av aF<|aD<|Wr<|bP<|sR<|aJ aF ?_;exact⟨iB (Eq.symm (by unfold dz; first|(rw[d_ a]; done)|(rw[d_ a]; first|(simp[p]; done)|(simp[p]; omega)))),h⟩
 refine Lv aF (fT a)<|av aF<|aD<|aK<|ay ?_;by_cases b:v.kind=2
 ·refine Lv aG (eX b)<|av aG<|aD<|aL<|ay<|aT E<|av (.bool (someE v))<|aD<|Wr<|bP<|sR<|aJ (.bool (someE v)) ?_;exact⟨iB (Eq.symm (by unfold dz; first|(rw[b_ a,d_ b]; done)|(rw[b_ a,d_ b]; first|(simp[]; done)|(simp[]; omega)))),h⟩
 refine Lv aF (fT b)<|av aF<|aD<|aK<|ay ?_;by_cases c:v.kind=3
 ·refine Lv aG (eX c)<|av aG<|aD<|aL<|ay ?_;by_cases k:(someE v)=true
  ·refine aT (E.trans (L_ Value.bool k))<|av aG<|Lv (pf g 12) (iZ m 12)<|Lv (aC v.req) (aM n.aI 12) ?_;by_cases x:1<=v.req
   ·refine Lv aG (kM x)<|av aG<|av aG<|aD<|Wr<|bP<|sR<|aJ aG ?_;exact⟨iB (Eq.symm (by unfold dz; first|(rw[b_ a,b_ b,d_ c]; done)|(rw[b_ a,b_ b,d_ c]; first|(simp[k,x]; done)|(simp[k,x]; omega)))),h⟩
   refine Lv aF (kg x)<|av aF<|av aF<|aD<|Wr<|bP<|sR<|aJ aF ?_;exact⟨iB (Eq.symm (by unfold dz; first|(rw[b_ a,b_ b,d_ c]; done)|(rw[b_ a,b_ b,d_ c]; first|(simp[k,x]; done)|(simp[k,x]; omega)))),h⟩
  rw[U_]at k;refine aT (E.trans (L_ Value.bool k))<|av aF<|dw<|dw<|dw<|av aF<|av aF<|aD<|Wr<|bP<|sR<|aJ aF ?_;exact⟨iB (Eq.symm (by unfold dz; first|(rw[b_ a,b_ b,d_ c]; done)|(rw[b_ a,b_ b,d_ c]; first|(simp[k]; done)|(simp[k]; omega)))),h⟩
 refine Lv aF (fT c)<|av aF<|aD<|aK<|ay ?_;by_cases d:v.kind=4
 ·refine Lv aG (eX d)<|av aG<|aD<|aL<|ay<|Lv (pf g 12) (iZ m 12)<|Lv (aC v.req) (aM n.aI 12) ?_;by_cases j:1<=v.req
  ·refine Lv aG (kM j)<|av aG<|Lv (pf g 13) (iZ m 13)<|Lv (aC v.of) (aM n.aI 13) ?_;by_cases q:1<=v.of
   ·refine Lv aG (kM q)<|av aG<|av aG<|Lv (pf g 12) (iZ m 12)<|Lv (aC v.req) (aM n.aI 12)<|Lv (pf g 13) (iZ m 13)<|Lv (aC v.of) (aM n.aI 13) ?_;by_cases y:v.req=v.of
    ·refine Lv aF (ko y)<|av aF<|av aF<|aD<|Wr<|bP<|sR<|aJ aF ?_;exact⟨iB (Eq.symm (by unfold dz; first|(rw[b_ a,b_ b,b_ c,d_ d]; done)|(rw[b_ a,b_ b,b_ c,d_ d]; first|(simp[j,q,y]; done)|(simp[j,q,y]; omega)))),h⟩
    refine Lv aG (nN y)<|av aG<|av aG<|aD<|Wr<|bP<|sR<|aJ aG ?_;exact⟨iB (Eq.symm (by unfold dz; first|(rw[b_ a,b_ b,b_ c,d_ d]; done)|(rw[b_ a,b_ b,b_ c,d_ d]; first|(simp[j,q,y]; done)|(simp[j,q,y]; omega)))),h⟩
   refine Lv aF (kg q)<|av aF<|av aF<|dw<|dw<|dw<|dw<|dw<|av aF<|av aF<|aD<|Wr<|bP<|sR<|aJ aF ?_;exact⟨iB (Eq.symm (by unfold dz; first|(rw[b_ a,b_ b,b_ c,d_ d]; done)|(rw[b_ a,b_ b,b_ c,d_ d]; first|(simp[j,q]; done)|(simp[j,q]; omega)))),h⟩
  refine Lv aF (kg j)<|av aF<|dw<|dw<|dw<|av aF<|av aF<|dw<|dw<|dw<|dw<|dw<|av aF<|av aF<|aD<|Wr<|bP<|sR<|aJ aF ?_;exact⟨iB (Eq.symm (by unfold dz; first|(rw[b_ a,b_ b,b_ c,d_ d]; done)|(rw[b_ a,b_ b,b_ c,d_ d]; first|(simp[j]; done)|(simp[j]; omega)))),h⟩
 refine Lv aF (fT d)<|av aF<|aD<|aK<|ay ?_;by_cases i:v.kind=5
 ·refine Lv aG (eX i)<|av aG<|aD<|aL<|ay ?_;by_cases l:(someE v)=true
  ·refine aT (E.trans (L_ Value.bool l))<|av aG ?_;by_cases s:(kN v)=true
   ·refine aT (L.trans (L_ Value.bool s))<|av aG<|av aG<|aD<|Wr<|bP<|sR<|aJ aG ?_;exact⟨iB (Eq.symm (by unfold dz; first|(rw[b_ a,b_ b,b_ c,b_ d,d_ i]; done)|(rw[b_ a,b_ b,b_ c,b_ d,d_ i]; first|(simp[l,s]; done)|(simp[l,s]; omega)))),h⟩
   rw[U_]at s;refine aT (L.trans (L_ Value.bool s))<|av aF<|av aF<|aD<|Wr<|bP<|sR<|aJ aF ?_;exact⟨iB (Eq.symm (by unfold dz; first|(rw[b_ a,b_ b,b_ c,b_ d,d_ i]; done)|(rw[b_ a,b_ b,b_ c,b_ d,d_ i]; first|(simp[l,s]; done)|(simp[l,s]; omega)))),h⟩
  rw[U_]at l;refine aT (E.trans (L_ Value.bool l))<|av aF<|dw<|av aF<|av aF<|aD<|Wr<|bP<|sR<|aJ aF ?_;exact⟨iB (Eq.symm (by unfold dz; first|(rw[b_ a,b_ b,b_ c,b_ d,d_ i]; done)|(rw[b_ a,b_ b,b_ c,b_ d,d_ i]; first|(simp[l]; done)|(simp[l]; omega)))),h⟩
 refine Lv aF (fT i)<|av aF<|aD<|aK<|ay ?_;by_cases r:v.kind=6
 ·refine Lv aG (eX r)<|av aG<|aD<|aL<|ay<|aT L<|av (.bool (kN v))<|aD<|Wr<|bP<|sR<|aJ (.bool (kN v)) ?_;exact⟨iB (Eq.symm (by unfold dz; first|(rw[b_ a,b_ b,b_ c,b_ d,b_ i,d_ r]; done)|(rw[b_ a,b_ b,b_ c,b_ d,b_ i,d_ r]; first|(simp[]; done)|(simp[]; omega)))),h⟩
 refine Lv aF (fT r)<|av aF<|aD<|aK<|Wk<|bR<|sN<|ay<|Lv (pf g 8) (iZ m 8)<|Lv (.int .u8 (v.kind)) (aM n.aI 8) ?_;by_cases z:v.kind=7
 ·refine Lv aG (eX z)<|av aG<|aD<|Wr<|aJ aG ?_;exact⟨iB (Eq.symm (by unfold dz; first|(rw[b_ a,b_ b,b_ c,b_ d,b_ i,b_ r]; done)|(rw[b_ a,b_ b,b_ c,b_ d,b_ i,b_ r]; first|(simp[z]; done)|(simp[z]; omega)))),h⟩
 refine Lv aF (fT z)<|av aF<|aD<|Wr<|aJ aF ?_;exact⟨iB (Eq.symm (by unfold dz; first|(rw[b_ a,b_ b,b_ c,b_ d,b_ i,b_ r]; done)|(rw[b_ a,b_ b,b_ c,b_ d,b_ i,b_ r]; first|(simp[z]; done)|(simp[z]; omega)))),h⟩
namespace Rt
def jO(n:Int):Prop:=0<=n/\n<=18446744073709551615
def qJ(n:Int):Prop := -9223372036854775808<=n/\n<=9223372036854775807
structure gU(v:EvM):Prop where
 o:qJ v.o
 seq:jO v.seq
 deps : ∀ i,i<6->jO (v.deps i)
 kind:0<=v.kind/\v.kind<=255
 node:jO v.node
 dst:qJ v.dst
 aU:qJ v.aU
 req:jO v.req
 of:jO v.of
theorem gU.own{v:EvM}(h:gU v):gU (ku v):=by
 have z:jO 0:=⟨by decide,by decide⟩;have y:qJ 0:=⟨by decide,by decide⟩;unfold ku;split
 ·exact⟨h.o,h.seq,h.deps,h.kind,h.node,y,h.aU,z,z⟩
 split
 ·exact⟨h.o,h.seq,h.deps,h.kind,h.node,y,h.aU,z,z⟩
 split
 ·exact⟨h.o,h.seq,h.deps,h.kind,h.node,y,h.aU,h.req,z⟩
 split
 ·exact⟨h.o,h.seq,h.deps,h.kind,z,y,y,h.req,h.of⟩
 split
 ·exact⟨h.o,h.seq,h.deps,h.kind,h.node,h.dst,h.aU,z,z⟩
 split
 ·exact⟨h.o,h.seq,h.deps,h.kind,z,h.dst,y,z,z⟩
 exact⟨h.o,h.seq,h.deps,h.kind,z,y,y,z,z⟩
theorem DC{v:EvM}(h:gU v):Fx.Kd [(some .i64),(some .u64),(some .u64),(some .u64),(some .u64),(some .u64),(some .u64),(some .u64),(some .u8),(some .u64),(some .i64),(some .i64),(some .u64),(some .u64)] (bV v):=by
 have a : ∀(k:IntKind) (n:Int),(Lit.int k n).wf=true -> ∃ l,sw (some k) (.int k n)=some l:=fun k n d=>by
  obtain⟨l,c⟩:=Fx.OG (k:=k) (n:=1) (x:=fun _=>n) (fun _ _=>d) 0 (by simp);exact⟨l,c⟩
 intro i b;have e:i<14:=b
 rcases i with _|_|_|_|_|_|_|_|_|_|_|_|_|_|i
 ·exact a .i64 v.o (Fx.Qk h.o)
 ·exact a .u64 v.seq (Fx.qQ h.seq)
 ·exact a .u64 (v.deps 0) (Fx.qQ (h.deps 0 (by decide)))
 ·exact a .u64 (v.deps 1) (Fx.qQ (h.deps 1 (by decide)))
 ·exact a .u64 (v.deps 2) (Fx.qQ (h.deps 2 (by decide)))
 ·exact a .u64 (v.deps 3) (Fx.qQ (h.deps 3 (by decide)))
 ·exact a .u64 (v.deps 4) (Fx.qQ (h.deps 4 (by decide)))
 ·exact a .u64 (v.deps 5) (Fx.qQ (h.deps 5 (by decide)))
 ·exact a .u8 v.kind (Fx.agd h.kind)
 ·exact a .u64 v.node (Fx.qQ h.node)
 ·exact a .i64 v.dst (Fx.Qk h.dst)
 ·exact a .i64 v.aU (Fx.Qk h.aU)
 ·exact a .u64 v.req (Fx.qQ h.req)
 ·exact a .u64 v.of (Fx.qQ h.of)
 omega
def wZ(v:EvM):Bool:=(List.range 6).all fun i=>decide (v.deps i<1099511627776)
def om(v:EvM):Bool:=decide (v.node=(ku v).node)&&decide (v.dst=(ku v).dst)&&decide (v.aU=(ku v).aU)&&decide (v.req=(ku v).req)&&decide (v.of=(ku v).of)
def bS(v:EvM):Bool:=mD v.o&&decide (1<=v.seq)&&decide (v.seq<1099511627776)&&decide (v.deps (v.o-1).toNat=v.seq-1)&&wZ v&&om v&&dz v
theorem Uv(v:EvM):(ku v).o=v.o/\(ku v).seq=v.seq/\(ku v).deps=v.deps/\(ku v).kind=v.kind:=by
 unfold ku; repeat (first|exact⟨rfl,rfl,rfl,rfl⟩|split)
theorem Cq(v:EvM):om v=true <-> ∀ i,i<14->bV v i=bV (ku v) i:=by
 obtain⟨m,n,p,q⟩:=Uv v;unfold om;simp only[T_,decide_eq_true_eq];constructor
 ·rintro ⟨⟨⟨⟨a,b⟩,c⟩,d⟩,e⟩ i r;have:ku v=v:=by
   cases hv:ku v with
   | mk o seq deps kind node dst aU req of =>
     rw[hv]at m n p q a b c d e
     cases v; simp_all
  rw[this]
 intro h;have l:Value.int .u64 v.node=aC (ku v).node:=h 9 (by decide);have f:Value.int .i64 v.dst=au (ku v).dst:=h 10 (by decide);have g:Value.int .i64 v.aU=au (ku v).aU:=h 11 (by decide);have j:Value.int .u64 v.req=aC (ku v).req:=h 12 (by decide);have k:Value.int .u64 v.of=aC (ku v).of:=h 13 (by decide);simp only[Value.int.injEq,true_and]at l f g j k;exact⟨⟨⟨⟨l,f⟩,g⟩,j⟩,k⟩
theorem fu{i:Int}(h:mD i=true) : ∃ a:Nat,a<6/\i=(a:Int)+1:=by
 unfold mD at h; simp at h;obtain⟨a,b⟩:=Int.eq_ofNat_of_zero_le (show 0<=i-1 by omega);exact⟨a,by omega,by omega⟩
theorem Hy{v:EvM}{k:Nat}(a:k<6)(h:1099511627776<=v.deps k):wZ v=false:=by
 unfold wZ; rw[List.all_eq_false]; exact⟨k,O_.2 a,by simp; omega⟩
theorem xg{v:EvM}{k:Nat}(b : ¬ (k:Int)<6)(h : ∀ i,i<k->v.deps i<1099511627776):wZ v=true:=by
 unfold wZ; rw[List.all_eq_true]; intro i a; have:=O_.1 a; simp; exact h i (by omega)
theorem QH{v:EvM}{k:Nat}(h : ∀ i,i<k->v.deps i<1099511627776)(a:v.deps k<1099511627776) : ∀ i,i<k+1->v.deps i<1099511627776:=fun i b=>by
 by_cases e:i=k
 ·subst e; exact a
 ·exact h i (by omega)
theorem iO{v:EvM}(h:bS v=true):mD v.o=true:=by
 unfold bS at h; simp only[T_]at h; exact h.1.1.1.1.1.1
end Rt
set_option maxHeartbeats 2000000 in
theorem HY(v:EvM)(w:World)(D:gU v) :
 Calls Tryz.prog 51 #[.agg (aA 14 (bV v))] w fun e w'=>e = .returned (.bool (bS v))/\Below w.heap.size w w':=by
 refine Kent Tryz.func51 47 ?_;refine ay<|rE fun m w1 Q q s1 z1 => ?_;have t:=bF s1.old (Below.refl w.heap.size w);refine av aF<|aD<|Ws<|Ws ?_;refine nu<|aX (pt m)<|Qv (au v.o) (fun c b=>aM (q.cb b) 0) ?_;by_cases j:(mD v.o)=true
 ·obtain⟨a,ha,ea⟩:=fu j;refine qA (fun _ _=>BF v.o _) aG (by rw[j])<|aX aF<|aX aF<|aX (pf m 1)<|Qv (aC v.seq) (fun c b=>aM (q.cb b) 1) ?_;by_cases F:v.seq<1
  ·refine Qv aG (fun c b=>gN F)<|aX aG<|aX aG<|aQ<|aQ<|aQ<|aX aG<|aX aG<|aQ<|aQ<|aQ<|aQ<|aQ<|aQ<|aQ<|aQ<|aQ<|aQ<|aX aG<|Qn ?_;intro Yh R;have⟨d,J⟩:=fF R q t;refine sN<|aL<|ay<|av aF<|aD<|Wr<|sR<|aJ aF ?_;have d:decide (1<=v.seq)=false:=g_ (by omega);exact⟨iB (Eq.symm (by unfold bS; rw[j,d]; rfl)),J⟩
  refine Qv aF (fun c b=>gP F)<|aX aF<|aX aF<|aX (pf m 1)<|Qv (aC v.seq) (fun c b=>aM (q.cb b) 1) ?_;by_cases G:1099511627776<=v.seq
  ·refine Qv aG (fun c b=>kM G)<|aX aG<|aX aG<|aQ<|aQ<|aQ<|aQ<|aQ<|aQ<|aQ<|aQ<|aQ<|aQ<|aX aG<|Qn ?_;intro wb2 S;have⟨l,K⟩:=fF S q t;refine sN<|aL<|ay<|av aF<|aD<|Wr<|sR<|aJ aF ?_;have d:decide (1<=v.seq)=true:=f_ (by omega);have l:decide (v.seq<1099511627776)=false:=g_ (by omega);exact⟨iB (Eq.symm (by unfold bS; rw[j,d,l]; rfl)),K⟩
  refine Qv aF (fun c b=>kg G)<|aX aF<|aX aF<|aX (pt m)<|Qv (au v.o) (fun c b=>aM (q.cb b) 0)<|Qv (au a) (fun c b=>fZ)<|aX (pf m 2)<|Qv (pf m (a+2)) (fun c b=>iY 6 1)<|Qv (aC (v.deps a)) (fun c b=>aM (q.cb b) (a+2) (mQ _ (by omega) (by omega)))<|aX (pf m 1)<|Qv (aC v.seq) (fun c b=>aM (q.cb b) 1)<|Qv (aC (v.seq-1)) (fun c b=>fZ) ?_;by_cases r:(v.deps a)=(v.seq-1)
  ·refine Qv aF (fun c b=>ko r)<|aX aF<|Qn ?_;intro wb3 T;have⟨p,L⟩:=fF T q t;refine sN<|aK<|Wk<|sN<|Ws<|ay<|av (au 0)<|aD<|Wb<|Wo (fun f H => ∃ k:Nat,k<=6/\(∀ i,i<k->v.deps i<1099511627776)/\f 1=(pt m)/\f 3=au (k:Int)/\aP H m 14 (bV v) 32/\Below w.heap.size w H) (fun f _=>(6-(intOf (f 3)).toNat)) ⟨0,by omega,(fun i h=>M_ h (by omega)),(by rfl),Fx.ic,p,L⟩ ?_;rintro f1 w2 ⟨k,hk,C,A,B,g,u⟩;refine Ws<|ay<|aT B ?_;by_cases x:(k:Int)<6
   ·refine Lv aG (gN x)<|aD<|aL<|Wk<|sN<|Ws<|Wb<|ay<|aT B<|Lv (pf m 2) (iZ A 2)<|Lv (pf m (k+2)) (iY 6 1)<|Lv (aC (v.deps k)) (aM g.aI (k+2) (mQ _ (by omega) (by omega))) ?_;by_cases E:1099511627776<=(v.deps k)
    ·refine Lv aG (kM E)<|aD<|aL<|ay<|av aF<|aD<|Wr<|bP<|sR<|pY<|bP<|sR<|aJ aF ?_;have d:decide (1<=v.seq)=true:=f_ (by omega);have l:decide (v.seq<1099511627776)=true:=f_ (by omega);have p:decide (v.deps (v.o-1).toNat=v.seq-1)=true:=f_ (by rw[show(v.o-1).toNat=a by omega]; exact r);have g:=Hy (by omega) E;exact⟨iB (Eq.symm (by unfold bS; rw[j,d,l,p,g]; rfl)),u⟩
    refine Lv aF (kg E)<|aD<|aK<|Wk<|bR<|sN<|Wl<|aT B<|Lv (au ((k:Int)+1)) eU<|av (au ((k:Int)+1))<|Ln<|gL ⟨k+1,by omega,(QH C (by omega)),A,Fx.ic,g,u⟩ ?_;show(6-(intOf (au ((k:Int)+1))).toNat)<_;simp only[B,intOf]; omega
   refine Lv aF (gP x)<|aD<|aK<|Wx<|bY<|gJ<|bZ<|sN<|Ws ?_;refine nu<|Qv (.agg (aA 14 (bV v))) (fun c b=>fJ (g.cb b) 0 (ha:=A))<|Qv (.agg (aA 14 (bV v))) (fun c b=>fJ (g.cb b) 0 (ha:=A))<|zT (fun _ _=>agS v _) _ rfl ?_;by_cases y : ∀ i,i<14->(bV v) i=(bV (ku v)) i
   ·refine Qv aG (fun c b=>Fx.wJ (n:=14) (ks := [(some .i64),(some .u64),(some .u64),(some .u64),(some .u64),(some .u64),(some .u64),(some .u64),(some .u8),(some .u64),(some .i64),(some .i64),(some .u64),(some .u64)]) (X:=bV v) (Y:=bV (ku v)) 12 true rfl rfl rfl (Fx.SC y) (DC D) (DC D.own) rfl (by kernel_rfl) (by kernel_rfl) (by kernel_rfl) (by kernel_rfl) (by kernel_rfl))<|aX aG<|Qv (.agg (aA 14 (bV v))) (fun c b=>fJ (g.cb b) 0 (ha:=A)) ?_;by_cases z:(dz v)=true
    ·refine zT (fun _ _=>KP v _) aG (by rw[z])<|aX aG<|aX aG<|Qn ?_;intro wb4 U;have⟨s,M⟩:=fF U g u;refine sN<|Wr<|aJ aG ?_;have d:decide (1<=v.seq)=true:=f_ (by omega);have l:decide (v.seq<1099511627776)=true:=f_ (by omega);have p:decide (v.deps (v.o-1).toNat=v.seq-1)=true:=f_ (by rw[show(v.o-1).toNat=a by omega]; exact r);have g:=xg x C;have s:=(Cq v).2 y;exact⟨iB (Eq.symm (by unfold bS; rw[j,d,l,p,g,s,z]; rfl)),M⟩
    rw[U_]at z;refine zT (fun _ _=>KP v _) aF (by rw[z])<|aX aF<|aX aF<|Qn ?_;intro wb5 V;have N:=bF V u;refine sN<|Wr<|aJ aF ?_;have d:decide (1<=v.seq)=true:=f_ (by omega);have l:decide (v.seq<1099511627776)=true:=f_ (by omega);have p:decide (v.deps (v.o-1).toNat=v.seq-1)=true:=f_ (by rw[show(v.o-1).toNat=a by omega]; exact r);have g:=xg x C;have s:=(Cq v).2 y;exact⟨iB (Eq.symm (by unfold bS; rw[j,d,l,p,g,s,z]; rfl)),N⟩
   refine Qv aF (fun c b=>Fx.wJ (n:=14) (ks := [(some .i64),(some .u64),(some .u64),(some .u64),(some .u64),(some .u64),(some .u64),(some .u64),(some .u8),(some .u64),(some .i64),(some .i64),(some .u64),(some .u64)]) (X:=bV v) (Y:=bV (ku v)) 12 false rfl rfl rfl (Fx.nob y) (DC D) (DC D.own) rfl (by kernel_rfl) (by kernel_rfl) (by kernel_rfl) (by kernel_rfl) (by kernel_rfl))<|aX aF<|aQ<|aQ<|aX aF<|aX aF<|Qn ?_;intro wb6 W;have O:=bF W u;refine sN<|Wr<|aJ aF ?_;have d:decide (1<=v.seq)=true:=f_ (by omega);have l:decide (v.seq<1099511627776)=true:=f_ (by omega);have p:decide (v.deps (v.o-1).toNat=v.seq-1)=true:=f_ (by rw[show(v.o-1).toNat=a by omega]; exact r);have g:=xg x C;have s:om v=false:=Bool.eq_false_iff.2 (fun h=>y ((Cq v).1 h));exact⟨iB (Eq.symm (by unfold bS; rw[j,d,l,p,g,s]; rfl)),O⟩
  refine Qv aG (fun c b=>nN r)<|aX aG<|Qn ?_;intro wb7 Z;have P:=bF Z t;refine sN<|aL<|ay<|av aF<|aD<|Wr<|sR<|aJ aF ?_;have d:decide (1<=v.seq)=true:=f_ (by omega);have l:decide (v.seq<1099511627776)=true:=f_ (by omega);have p:decide (v.deps (v.o-1).toNat=v.seq-1)=false:=g_ (by rw[show(v.o-1).toNat=a by omega]; exact r);exact⟨iB (Eq.symm (by unfold bS; rw[j,d,l,p]; rfl)),P⟩
 rw[U_]at j;refine qA (fun _ _=>BF v.o _) aF (by rw[j])<|aX aG<|aX aG<|aQ<|aQ<|aQ<|aX aG<|aX aG<|aQ<|aQ<|aQ<|aX aG<|aX aG<|aQ<|aQ<|aQ<|aQ<|aQ<|aQ<|aQ<|aQ<|aQ<|aQ<|aX aG<|Qn ?_;intro wb8 aa;have I:=bF aa t;refine sN<|aL<|ay<|av aF<|aD<|Wr<|sR<|aJ aF ?_;exact⟨iB (Eq.symm (by unfold bS; rw[j]; rfl)),I⟩
namespace Rt
def mR(K:Nat->Int)(v:EvM):Bool:=bS v&&decide (v.seq<=K (v.o-1).toNat)
def yT(D K:Nat->Int):Bool:=(List.range 6).all fun i=>decide (D i<=K i)
def dI(K:Nat->Int)(v:EvM):Bool:=bS v&&decide (v.seq=K (v.o-1).toNat+1)&&yT v.deps K
theorem Uw{D K:Nat->Int}{k:Nat}(a:k<6)(h:K k<D k):yT D K=false:=by
 unfold yT; rw[List.all_eq_false]; exact⟨k,O_.2 a,by simp; omega⟩
theorem QI{D K:Nat->Int}{k:Nat}(b : ¬ (k:Int)<6)(h : ∀ i,i<k->D i<=K i):yT D K=true:=by
 unfold yT; rw[List.all_eq_true]; intro i a; have:=O_.1 a; simp; exact h i (by omega)
theorem le_step{D K:Nat->Int}{k:Nat}(h : ∀ i,i<k->D i<=K i)(b : ¬ K k<D k) : ∀ i,i<k+1->D i<=K i:=fun i a=>by
 by_cases e:i=k
 ·subst e; omega
 ·exact h i (by omega)
def El(K:Nat->Int):Prop := ∀ i,i<6->0<=K i/\K i<1099511627776
theorem EJ{v:EvM}(h:bS v=true):1<=v.seq/\v.seq<1099511627776:=by
 unfold bS at h; simp only[T_,decide_eq_true_eq]at h; exact⟨h.1.1.1.1.1.2,h.1.1.1.1.2⟩
end Rt
theorem Ux(K:Nat->Int)(v:EvM)(w:World)(m:gU v) :
 Calls Tryz.prog 52 #[.agg (aA 6 (rv .u64 K)),.agg (aA 14 (bV v))] w fun e w'=>e = .returned (.bool (mR K v))/\Below w.heap.size w w':=by
 refine Kent Tryz.func52 17 ?_;refine ay<|rE fun s I r i z O => ?_;have j:=bF z.old (Below.refl w.heap.size w);refine rE fun l J k c A P => ?_;have⟨y,h⟩:=fF A.old i j;refine av aF<|aD<|Ws ?_;refine nu<|Qv (.agg (aA 14 (bV v))) (fun f b=>fJ (c.cb b) 0) ?_;by_cases d:(bS v)=true
 ·obtain⟨a,C,B⟩:=fu (iO d);refine zT (fun _ _=>HY v _ m) aG (by rw[d])<|aX aG<|aX (pf l 1)<|Qv (aC v.seq) (fun f b=>aM (c.cb b) 1)<|aX (pt l)<|Qv (au v.o) (fun f b=>aM (c.cb b) 0)<|Qv (au a) (fun f b=>fZ)<|Qv (pf s a) (fun f b=>iY 6 1)<|Qv (aC (K a)) (fun f b=>aM (y.cb b) a) ?_;by_cases g:v.seq<=(K a)
  ·refine Qv aG (fun f b=>nM g)<|aX aG<|aX aG<|Qn ?_;intro L t;have n:=bF t h;refine sN<|Wr<|aJ aG ?_;have c:decide (v.seq<=K (v.o-1).toNat)=true:=f_ (by rw[show(v.o-1).toNat=a by omega]; exact g);exact⟨iB (Eq.symm (by unfold mR; rw[d,c]; rfl)),n⟩
  refine Qv aF (fun f b=>nV g)<|aX aF<|aX aF<|Qn ?_;intro M u;have p:=bF u h;refine sN<|Wr<|aJ aF ?_;have c:decide (v.seq<=K (v.o-1).toNat)=false:=g_ (by rw[show(v.o-1).toNat=a by omega]; exact g);exact⟨iB (Eq.symm (by unfold mR; rw[d,c]; rfl)),p⟩
 rw[U_]at d;refine zT (fun _ _=>HY v _ m) aF (by rw[d])<|aX aF<|aQ<|aQ<|aQ<|aQ<|aQ<|aQ<|aQ<|aQ<|aX aF<|aX aF<|Qn ?_;intro N x;have q:=bF x h;refine sN<|Wr<|aJ aF ?_;exact⟨iB (Eq.symm (by unfold mR; rw[d]; rfl)),q⟩
theorem O1(K:Nat->Int)(v:EvM)(w:World)(H:gU v)(R:El K) :
 Calls Tryz.prog 41 #[.agg (aA 6 (rv .u64 K)),.agg (aA 14 (bV v))] w fun e w'=>e = .returned (.bool (dI K v))/\Below w.heap.size w w':=by
 refine Kent Tryz.func41 32 ?_;refine ay<|rE fun s w1 Q A s1 z1 => ?_;have C:=bF s1.old (Below.refl w.heap.size w);refine rE fun l w2 D d s2 z2 => ?_;have⟨m,t⟩:=fF s2.old A C;refine av aF<|aD<|Ws<|Ws ?_;refine nu<|Qv (.agg (aA 14 (bV v))) (fun c b=>fJ (d.cb b) 0) ?_;by_cases g:(bS v)=true
 ·obtain⟨a,S,ea⟩:=fu (iO g);have ka:=R a S;refine zT (fun _ _=>HY v _ H) aG (by rw[g])<|aX aF<|aX aF<|aX (pf l 1)<|Qv (aC v.seq) (fun c b=>aM (d.cb b) 1)<|aX (pt l)<|Qv (au v.o) (fun c b=>aM (d.cb b) 0)<|Qv (au a) (fun c b=>fZ)<|Qv (pf s a) (fun c b=>iY 6 1)<|Qv (aC (K a)) (fun c b=>aM (m.cb b) a)<|Qv (aC ((K a)+1)) (fun c b=>eU) ?_;by_cases n:v.seq=((K a)+1)
  ·refine Qv aF (fun c b=>ko n)<|aX aF<|Qn ?_;intro Yh T;have⟨Y,Z,L⟩:=jr T m d t;refine sN<|aK<|Wk<|sN<|Ws<|ay<|av (au 0)<|aD<|Wb<|Wo (fun f B => ∃ k:Nat,k<=6/\(∀ i,i<k->v.deps i<=K i)/\f 2=(pt s)/\f 3=(pt l)/\f 5=au (k:Int)/\aP B s 6 (rv .u64 K) 30/\aP B l 14 (bV v) 32/\Below w.heap.size w B) (fun f _=>(6-(intOf (f 5)).toNat)) ⟨0,by omega,(fun i h=>M_ h (by omega)),(by rfl),(by rfl),Fx.ic,Y,Z,L⟩ ?_;rintro f1 j ⟨k,hk,G,E,F,p,I,J,u⟩;refine Ws<|ay<|aT p ?_;by_cases x:(k:Int)<6
   ·refine Lv aG (gN x)<|aD<|aL<|Wk<|sN<|Ws<|Wb<|Ws ?_;refine yN<|eB p<|Qv (pf l 2) (fun c b=>iZ F 2)<|Qv (pf l (k+2)) (fun c b=>iY 6 1)<|Qv (aC (v.deps k)) (fun c b=>aM (J.aI.dr b) (k+2) (mQ _ (by omega) (by omega)))<|eB p<|Qv (pf s k) (fun c b=>iY 6 1 (hx:=E))<|Qv (aC (K k)) (fun c b=>aM (I.aI.dr b) k) ?_;by_cases r:(K k)<(v.deps k)
    ·refine Qv aG (fun c b=>mK r)<|Qn ?_;rintro _ ⟨q,rfl⟩;obtain⟨Em,y⟩ : ∃ c,c=World.drewN j q:=⟨_,rfl⟩;rw[<- y];have s4:Stp j.heap.size j Em:=(by rw[y]; exact Sb (jS j q));have M:=bF s4.old u;clear y;refine sN<|aL<|ay<|av aF<|aD<|Wr<|bP<|sR<|pY<|bP<|sR<|aJ aF ?_;have d:decide (v.seq=K (v.o-1).toNat+1)=true:=f_ (by rw[show(v.o-1).toNat=a by omega]; exact n);have m:=Uw (by omega) r;exact⟨iB (Eq.symm (by unfold dI; rw[g,d,m]; rfl)),M⟩
    refine Qv aF (fun c b=>mM r)<|Qn ?_;rintro _ ⟨q,rfl⟩;obtain⟨wq2,z⟩ : ∃ c,c=World.drewN j q:=⟨_,rfl⟩;rw[<- z];have s5:Stp j.heap.size j wq2:=(by rw[z]; exact Sb (jS j q));have⟨W,X,N⟩:=jr s5.old I J u;clear z;refine sN<|aK<|Wk<|bR<|sN<|Wl<|aT p<|Lv (au ((k:Int)+1)) eU<|av (au ((k:Int)+1))<|Ln<|gL ⟨k+1,by omega,(le_step G r),E,F,Fx.ic,W,X,N⟩ ?_;show(6-(intOf (au ((k:Int)+1))).toNat)<_;simp only[p,intOf]; omega
   refine Lv aF (gP x)<|aD<|aK<|Wx<|bY<|gJ<|bZ<|sN<|ay<|av aG<|aD<|Wr<|aJ aG ?_;have d:decide (v.seq=K (v.o-1).toNat+1)=true:=f_ (by rw[show(v.o-1).toNat=a by omega]; exact n);have m:=QI x G;exact⟨iB (Eq.symm (by unfold dI; rw[g,d,m]; rfl)),u⟩
  refine Qv aG (fun c b=>nN n)<|aX aG<|Qn ?_;intro wb2 U;have O:=bF U t;refine sN<|aL<|ay<|av aF<|aD<|Wr<|sR<|aJ aF ?_;have d:decide (v.seq=K (v.o-1).toNat+1)=false:=g_ (by rw[show(v.o-1).toNat=a by omega]; exact n);exact⟨iB (Eq.symm (by unfold dI; rw[g,d]; rfl)),O⟩
 rw[U_]at g;refine zT (fun _ _=>HY v _ H) aF (by rw[g])<|aX aG<|aX aG<|aQ<|aQ<|aQ<|aQ<|aQ<|aQ<|aQ<|aQ<|aQ<|aX aG<|Qn ?_;intro wb3 V;have P:=bF V t;refine sN<|aL<|ay<|av aF<|aD<|Wr<|sR<|aJ aF ?_;exact⟨iB (Eq.symm (by unfold dI; rw[g]; rfl)),P⟩
set_option maxHeartbeats 400000 in
theorem Jk(a:Option Addr)(len cap:Nat)(l:List Int)(w:World)(hlen:len<=100)(hl:Hid (l.length=len))(hr:RdI .i64 w a l) :
 Calls Tryz.prog 104 #[.slice a len cap] w fun e w'=>e = .returned (.tuple #[.int .i64 (ny l).1,.bool (ny l).2])/\w'=w:=by
 go_enter Tryz.func104,Tryz.ntmps104
 go_wp2
 go_loop [2,3,8] (fun v o i=>o = .bool false /\ ∃ k:Nat,k<=len/\i = .int .i64 k/\mP (l.take k)=true/\v = .int .i64 (l.take k).sum) (fun _ _ i=>len-(intOf i).toNat)
 case atStart=>exact⟨rfl,0,K_ _,rfl,rfl,rfl⟩
 case round =>
  obtain⟨rfl,k,hk,rfl,hok,rfl⟩:=hrel;by_cases hk2:k<len
  ·have hk3:k<l.length:=(by rw[hl.out]; exact hk2);obtain⟨b,off,rfl,hc⟩:=hr k hk3;have hb:=Ck _ hok;have hle:(l.take k).length<=k:=List.length_take_le _ _;have HS:Hid _:=GL l k hk3;have HO:Hid _:=Ei l k hk3;have HF:Hid (Az l[k]=false->ny l=(0,false)):=(by intro h; unfold ny; rw[b_ (by rw[GN hk3 h]; decide)]);have Hok:Hid _:=hok;clear hr hok;generalize l[k]=x at *;generalize hs:(l.take k).sum=s at *;clear hs;by_cases h0:x<0
   ·have hn:Az x=false:=(by unfold Az; simp; omega);have HR:Hid _:=HF.out hn;clear HF hn HS HO
    go_wp2
    go_ret2
    rw[HR.out]; exact⟨rfl,rfl⟩
   ·by_cases h1:1125899906842624<x
    ·have hn:Az x=false:=(by unfold Az; simp; omega);have HR:Hid _:=HF.out hn;clear HF hn HS HO
     go_wp2
     go_ret2
     rw[HR.out]; exact⟨rfl,rfl⟩
    ·have hy:Hid (Az x=true):=(by unfold Az Hid; simp; omega);clear HF
     go_wp2
     go_round
     case rel=>exact⟨rfl,k+1,by omega,by go_num,by rw[HO.out,Hok.out,hy.out]; rfl,by rw[HS.out]⟩
     case measure=>simp[intOf]; omega
  ·have hT:Hid (l.take k=l):=List.take_of_length_le (by rw[hl.out]; omega);rw[hT.out]at hok ⊢;have HR:Hid (ny l=(l.sum,true)):=(by unfold ny Hid; rw[d_ hok]);clear hok;generalize l.sum=s at *
   go_wp2
   go_ret2
   rw[HR.out]; exact⟨rfl,rfl⟩
def Two(a w:World)(d f:Nat)(b:List Int)(e g:Nat)(c:List Int):Prop :=
 w.ownsRow a.heap.size 2 1 (.slice (some ⟨d,0,none⟩) b.length f) b.length (b.map (Value.int .i64)) /\
 w.ownsRow a.heap.size 2 1 (.slice (some ⟨e,0,none⟩) c.length g) c.length (c.map (Value.int .i64))/\d≠e/\Below a.heap.size a w
theorem Two.alloc{g w:World}{c a:Nat}{e:List Int}{d b:Nat}{f:List Int}(h:Two g w c a e d b f)(o:Obj):Two g (w.alloc o) c a e d b f :=
 ⟨World.ownsRow.alloc h.1 o,World.ownsRow.alloc h.2.1 o,h.2.2.1,h.2.2.2.alloc h.2.2.2.size o⟩
theorem Two.drew{g w:World}{c a:Nat}{e:List Int}{d b:Nat}{f:List Int}(h:Two g w c a e d b f):Two g w.drew c a e d b f :=
 ⟨h.1,h.2.1,h.2.2.1,h.2.2.2.drew⟩
theorem Two.swap{g w:World}{c a:Nat}{e:List Int}{d b:Nat}{f:List Int}(h:Two g w c a e d b f):Two g w d b f c a e:=⟨h.2.1,h.1,h.2.2.1.symm,h.2.2.2⟩
theorem Yp:(Tryz.prog.info? 2).map (fun i=>(i.zero,i.size,i.bytes))=some (some (.int .i64 0),1,8):=by kernel_rfl
theorem KQ{ops:Array Oper}{o:Oper}{a:Act}{q w:World}{K:Act->World->Prop}{Q:Exit->Act->World->Prop}{E:Prop}(C:o.guard=none)(s x:Operand)
 (I:o.op = .call { callee := .builtin .append,args := #[s,x],argTypes := #[175,175] }) (l r:Nat) (d:List Int) (m t:Nat) (y:List Int) (h:Two q w l r d m t y)
 (n:Nat) (G:d.length=n) (J:a.eval s = .slice (some ⟨l,0,none⟩) n r) (i:Nat) (v:Int) (hx:a.eval x = .slice (some ⟨i,0,none⟩) 1 1) (B:w.cell? ⟨i,0,none⟩=some (.int .i64 v)) (R:n<=100)
 (A : ∀ g f w',Two q w' g f (d ++ [v]) m t y->(∀ a u,w.cell? a=some u->a.block≠l->w'.cell? a=some u)->K (a.put o.dst (.slice (some ⟨g,0,none⟩) (n+1) f)) w') :
 if Region.wanted o (yielded ops a.tmps)=true then Oper.wp Tryz.prog o a w K Q else E:=by
 obtain⟨O,D,L,M,N⟩:=info_parts Yp;subst G
 refine step_append_lies w C s x 175 I q.heap.size 2 O (.int .i64 0) 1 8 Tryz.underlying175 D L M N rfl (by decide) _ d.length (d.map (Value.int .i64)) J h.1 ⟨i,0,none⟩ 1 1 [.int .i64 v] hx rfl
  (by intro j u b; cases j with
   | zero=>simp at b; subst b; rw[addr_add]; exact B
   | succ j=>simp at b) (by intro u b; simp at b; subst b; rfl) (by decide) (by unfold maxLen; omega) (by omega) h.2.2.2.size w.heap.size rfl ?_
 intro g f w' z p c P;refine A g f w' ⟨?_,?_,?_,?_⟩ (fun a u b H=>p.cell b (by simp[Value.ownBlock]; exact H))
 ·rw[E_,List.map_append]; exact z
 ·exact World.ownsRow.kept h.2.1 p (.inr (by simp[Value.ownBlock]; exact fun e=>h.2.2.1 e.symm))
 ·have S:=World.ownsRow.lt h.2.1 m rfl
  rcases c with c|c
  ·simp[Value.ownBlock]at c; subst c; exact h.2.2.1
  omega
 exact h.2.2.2.grown p h.2.2.2.size (fun k F=>(World.ownsRow.lt h.1 k F).1)
theorem Two.rd1{j w:World}{a c:Nat}{b:List Int}{e d:Nat}{g:List Int}(h:Two j w a c b e d g):RdI .i64 w (some ⟨a,0,none⟩) b:=by
 intro i f;refine⟨a,0,rfl,?_⟩;rw[G_,World.ownsRow.cellAt h.1 i (by omega)];simp[f]
theorem Two.start(w:World)(v a b:Int):Two w ((w.alloc (.cells #[.int .i64 v] 2)).alloc (.cells #[.int .i64 a,.int .i64 b] 2)) w.heap.size 1 [v] (w.heap.size+1) 2 [a,b]:=by
 refine⟨World.ownsRow.alloc (World.ownsRow_lit w #[.int .i64 v] 1 (A_ _) (by unfold maxLen; omega) rfl) _,?_,by omega,((Below.refl _ _).alloc (A_ _) _).alloc (by simp) _⟩;have:=World.ownsRow_lit (base:=w.heap.size) (e:=2) (size:=1) (w.alloc (.cells #[.int .i64 v] 2)) #[.int .i64 a,.int .i64 b] 2 (by simp) (by unfold maxLen; omega) rfl
 simpa using this
theorem Two.acW(w:World)(v a b:Int):Two w ((w.alloc (.cells #[.int .i64 a,.int .i64 b] 2)).alloc (.cells #[.int .i64 v] 2)) (w.heap.size+1) 1 [v] w.heap.size 2 [a,b]:=by
 refine⟨?_,World.ownsRow.alloc (World.ownsRow_lit w #[.int .i64 a,.int .i64 b] 2 (A_ _) (by unfold maxLen; omega) rfl) _,by omega,((Below.refl _ _).alloc (A_ _) _).alloc (by simp) _⟩;have:=World.ownsRow_lit (base:=w.heap.size) (e:=2) (size:=1) (w.alloc (.cells #[.int .i64 a,.int .i64 b] 2)) #[.int .i64 v] 1 (by simp) (by unfold maxLen; omega) rfl
 simpa using this
theorem Two.at{c w:World}{g d:Nat}{k:List Int}{j e:Nat}{l:List Int}(h:Two c w g d k j e l){b:Nat}{x:Nat->Int}{T:TypeId}{f:Nat × Nat}(a:c.heap[b]? = some (.cells (aS .i64 54 x) T f))(i:Nat)(hi:i<54) :
 w.cell? ⟨b,i,none⟩=some (.int .i64 (x i)) :=
 gu ((h.2.2.2.block b (t_.1 a).1).trans a) i hi
theorem Two.lt{a w:World}{e c:Nat}{i:List Int}{f d:Nat}{j:List Int}(h:Two a w e c i f d j){b:Nat}(g:b<a.heap.size):b<w.heap.size:=n_ g h.2.2.2.size
theorem FD(x:Nat->Int)(k:Nat) : ∀ j,(outs x k j).length=j+1
 | 0=>rfl
 | j+1=>by rw[outs,E_,FD x k j]; rfl
theorem Jl(x:Nat->Int)(k:Nat) : ∀ j,(ins x k j).length=j+2
 | 0=>rfl
 | j+1=>by rw[ins,E_,Jl x k j]; rfl
def agU(w:World)(x:Nat->Int)(k j:Nat)(e f:Value)(g:World):Prop :=
 ∃ c a d b,e = .slice (some ⟨c,0,none⟩) (j+1) a/\f = .slice (some ⟨d,0,none⟩) (j+2) b/\Two w g c a (outs x k j) d b (ins x k j)
set_option maxHeartbeats 4000000 in
theorem HZ(b:Nat)(T:TypeId)(fz:Nat × Nat)(x:Nat->Int)(k:Nat)(w:World)(hk:k<6)(hb:Hid (w.heap[b]? = some (.cells (aS .i64 54 x) T fz))) :
 Calls Tryz.prog 73 #[.pointer (some ⟨b,0,none⟩),.int .i64 k] w fun e w'=>e = .returned (.tuple #[.int .i64 (localM x k).1,.bool (localM x k).2])/\Below w.heap.size w w':=by
 have hlt:=(t_.1 hb.out).1;have hki:(k:Int)<6:=by omega
 go_enter Tryz.func73,Tryz.ntmps73
 go_upto_region 1 with (fail)
 go_cut [6,7] (fun s6 s7 wx=>agU w x k 0 s6 s7 wx)
 case first =>
  have c1:=gu hb.out (6+k) (by omega);have c2:=gu hb.out k (by omega);have c3:=gu hb.out (12+k) (by omega)
  go_wp2
  go_region
  all_goals go_wp2
  all_goals go_meet
  case rel=>exact⟨_,_,_,_,rfl,rfl,(Two.start w (x (6+k)) (x k) (x (12+k))).drew⟩
  case rel=>exact⟨_,_,_,_,rfl,rfl,(Two.acW w (x (6+k)) (x k) (x (12+k))).drew⟩
 case rest =>
  clear hlt
  go_wp2
  go_loopw [6,7,33] (fun s6 s7 i wx => ∃ j:Nat,j<=6/\i = .int .i64 j/\agU w x k j s6 s7 wx) (fun _ _ i _=>6-(intOf i).toNat)
  case atStart=>exact⟨0,K_ _,rfl,hcut⟩
  case round =>
   obtain⟨j,hj,rfl,g1,c1,g2,c2,rfl,rfl,hT⟩:=hrel;by_cases hj2:j<6
   ·have hji:(j:Int)<6:=(by omega);have hlt:b<w.heap.size:=(t_.1 hb.out).1;have hrow:wr.heap[b]? = some (.cells (aS .i64 54 x) T fz):=(hT.2.2.2.block b hlt).trans hb.out;have e1:=gu hrow (18+k*6+j) (by omega);have e2:=gu hrow (18+j*6+k) (by omega);have hlt2:b<wr.heap.size:=(t_.1 hrow).1;have Uy:Hid _:=hrow;have hg1:g1<wr.heap.size:=(World.ownsRow.lt hT.1 g1 rfl).2;have hg2:g2<wr.heap.size:=(World.ownsRow.lt hT.2.1 g2 rfl).2;clear hrow;have HO:Hid ((outs x k j).length=j+1):=FD x k j;have HI:Hid ((ins x k j).length=j+2):=Jl x k j
    go_wp2
    go_region_law (first
     | (refine KQ (o:=⟨some 46,_,_,_,_,_⟩) (by rfl) (.tmp 36) (.tmp 45) (by rfl) g1 c1 (outs x k j) _ _ _ (by first|assumption|exact Two.alloc (by assumption) _|exact Two.alloc (Two.alloc (by assumption) _) _|exact hT.drew.alloc _|exact(hT.drew.alloc _).alloc _) (j+1) HO.out (by rfl) _ (x (18+k*6+j)) (by rfl) (by first|(go_simp; done)|exact hkp _ _ (by go_simp; done) (by simp; omega)) (by omega) ?_; intro g cp w1 hT1 hkp; have e1':=hT1.at hb.out (18+k*6+j) (by omega); have e2':=hT1.at hb.out (18+j*6+k) (by omega); have hlt':=hT1.lt hlt)
     | (refine KQ (o:=⟨some 57,_,_,_,_,_⟩) (by rfl) (.tmp 47) (.tmp 56) (by rfl) g2 c2 (ins x k j) _ _ _ (by first|exact Two.swap (by assumption)|exact(Two.alloc (by assumption) _).swap|exact(Two.alloc (Two.alloc (by assumption) _) _).swap|exact(hT.drew.alloc _).swap|exact((hT.drew.alloc _).alloc _).swap) (j+2) HI.out (by rfl) _ (x (18+j*6+k)) (by rfl) (by first|(go_simp; done)|exact hkp _ _ (by go_simp; done) (by simp; omega)) (by omega) ?_; intro g cp w1 hT1 hkp; have e1':=hT1.at hb.out (18+k*6+j) (by omega); have e2':=hT1.at hb.out (18+j*6+k) (by omega); have hlt':=hT1.lt hlt))
    all_goals go_wp2
    all_goals go_roundw
    all_goals first
     | (simp[intOf]; omega)
     | exact⟨j+1,by omega,by go_num,_,_,_,_,rfl,rfl,hT1.swap⟩
   ·obtain rfl:j=6:=(by omega);have r1:=hT.rd1;have r2:=hT.swap.rd1;have hbel:=hT.2.2.2;have HO:Hid ((outs x k 6).length=7):=FD x k 6;have HI:Hid ((ins x k 6).length=8):=Jl x k 6;have b1:=wS (outs x k 6);have b2:=wS (ins x k 6);rw[HO.out]at b1;rw[HI.out]at b2;have HL:Hid (localM x k=((ny (ins x k 6)).1-(ny (outs x k 6)).1,(ny (outs x k 6)).2&&(ny (ins x k 6)).2)):=rfl;generalize outs x k 6=lo at *;generalize ins x k 6=li at *;clear hT
    go_wp2_with fail
    refine(Jk _ 7 c1 lo _ (by omega) HO r1).mono ?_;rintro e w1 ⟨rfl,rfl⟩
    go_wp2_with fail
    refine(Jk _ 8 c2 li _ (by omega) HI r2).mono ?_;rintro e w2 ⟨rfl,rfl⟩;generalize (ny li).1=n2 at *;generalize (ny lo).1=n1 at *;generalize (ny li).2=o2 at *;generalize (ny lo).2=o1 at *
    cases o1
    all_goals
     go_wp2_with fail
     go_ret2
     rw[HL.out]; exact⟨rfl,hbel⟩
namespace Rt
def Cr(x:Nat->Int)(k:Nat):Bool:=(localM x k).2&&decide (0<=(localM x k).1)&&decide (F x k<=C x k)&&(R x k k==0)
def En(x:Nat->Int):Nat->Bool
 | 0=>true
 | k+1=>En x k&&Cr x k
def gs(x:Nat->Int):List Int := [x 0,x 1,x 2,x 3,x 4,x 5]
def may(x:Nat->Int):Bool:=En x 6&&((ny (gs x)).2&&decide ((ny (gs x)).1<=1125899906842624))
theorem FE(x:Nat->Int)(k:Nat)(h:Cr x k=false) : ∀ n,k<n->En x n=false
 | 0,hn=>M_ hn (by omega)
 | n+1,hn=>by
   rw[En];by_cases e:k=n
   ·subst e; rw[h,I_]
   ·rw[FE x k h n (by omega),Bool.false_and]
theorem QJ(x:Nat->Int)(k:Nat)(a:k<6)(h:Cr x k=false):may x=false:=by
 unfold may; rw[FE x k h 6 a,Bool.false_and]
end Rt
theorem agV{w:World}{g:Nat}{x:Nat->Int}{t:TypeId}{a:Nat × Nat}(h:w.heap[g]? = some (.cells (aS .i64 54 x) t a)):RdI .i64 w (some ⟨g,0,none⟩) (gs x):=by
 intro i b;have c:i<6:=b;refine⟨g,0,rfl,?_⟩;rw[G_,gu h i (by omega)]
 rcases(show i=0\/i=1\/i=2\/i=3\/i=4\/i=5 by omega)with rfl|rfl|rfl|rfl|rfl|rfl <;> rfl
set_option maxHeartbeats 1000000 in
theorem uE(x:Nat->Int)(w:World) :
 Calls Tryz.prog 72 #[.agg (aS .i64 54 x)] w fun e w'=>e = .returned (.bool (may x))/\Below w.heap.size w w':=by
 go_enter Tryz.func72,Tryz.ntmps72
 go_wp2
 go_loopw [2,3,8] (fun r _ i wr=>r = .bool false /\ ∃ k:Nat,k<=6/\i = .int .i64 k/\En x k=true/\wr.heap[w.heap.size]? = some (.cells (aS .i64 54 x) 59 (0,0))/\Below w.heap.size w wr) (fun _ _ i _=>6-(intOf i).toNat)
 case atStart=>exact⟨rfl,0,K_ _,rfl,rfl,heap_alloc_new w _,(Below.refl _ _).alloc (A_ _) _⟩
 case round =>
  obtain⟨rfl,k,hk,rfl,hN,hrow,hbel⟩:=hrel;have hlt:=(t_.1 hrow).1;have Uy:Hid _:=hrow;have HN:Hid _:=hN;clear hrow hN;by_cases hk2:k<6
  ·have hki:(k:Int)<6:=(by omega);have HM:Hid (En x (k+1)=(En x k&&Cr x k)):=rfl;have HF:Hid (Cr x k=false->may x=false):=fun h=>QJ x k hk2 h;have HK:Hid (Cr x k=((localM x k).2&&decide (0<=(localM x k).1)&&decide (F x k<=C x k)&&(R x k k==0))):=rfl
   go_wp2_with fail
   refine(HZ w.heap.size _ _ x k wr hk2 Uy).mono ?_;rintro e w1 ⟨rfl,hb1⟩;have KR:=(hb1.block _ hlt).trans Uy.out;have KS:=hbel.trans (hb1.mono (Nat.le_of_lt hlt));have c1:=gu KR (12+k) (by omega);have c2:=gu KR (6+k) (by omega);have c3:=gu KR (18+k*6+k) (by omega);have agW:Hid _:=KR;clear KR Uy hbel hb1;generalize (localM x k).1=n at *;generalize hF:F x k=f at *;generalize hC:C x k=c at *;generalize hR:R x k k=r at *;unfold F at hF; unfold C at hC; unfold R at hR;rw[hF]at c1; rw[hC]at c2; rw[hR]at c3;clear hF hC hR
   cases his:(localM x k).2
   ·rw[his]at HK;clear his;have HR:Hid _:=HF.out (by rw[HK.out]; rfl);clear HK HF HM
    go_wp2_with fail
    go_quiet (fail)
    go_wp2
    go_ret
    rw[HR.out]; exact⟨rfl,bN KS _⟩
   ·rw[his]at HK;clear his;by_cases h1:n<0
    ·have d1:decide (n<0)=true:=(by simpa using h1);have d1':decide (0<=n)=false:=(by simp; omega);have HR:Hid _:=HF.out (by rw[HK.out]; rw[d1']; rfl);clear HK HF HM
     go_wp2_with fail
     go_quiet (fail)
     go_wp2
     go_ret
     rw[HR.out]; exact⟨rfl,bN KS _⟩
    ·have d1:decide (n<0)=false:=(by simp; omega);have d1':Hid (decide (0<=n)=true):=(by unfold Hid; simp; omega);by_cases h2:c<f
     ·have d2:decide (c<f)=true:=(by simpa using h2);have d2':decide (f<=c)=false:=(by simp; omega);have HR:Hid _:=HF.out (by rw[HK.out]; rw[d2',I_,Bool.false_and]);clear HK HF HM
      go_wp2_with fail
      go_quiet (fail)
      go_wp2
      go_ret
      rw[HR.out]; exact⟨rfl,bN KS _⟩
     ·have d2:decide (c<f)=false:=(by simp; omega);have d2':Hid (decide (f<=c)=true):=(by unfold Hid; simp; omega);by_cases h3:r=0
      ·subst h3
       go_wp2_with fail
       go_quiet (fail)
       go_wp2
       go_roundw
       case rel=>exact⟨rfl,k+1,by omega,by go_num,by rw[HM.out,HN.out,HK.out,d1'.out,d2'.out]; rfl,agW.out,bN KS _⟩
       case measure=>simp[intOf]; omega
      ·have d3:(r != 0)=true:=(by simpa using h3);have d3':(r==0)=false:=(by simpa using h3);have HR:Hid _:=HF.out (by rw[HK.out]; rw[d3',I_]);clear HK HF HM
       go_wp2_with fail
       go_quiet (fail)
       go_wp2
       go_ret
       rw[HR.out]; exact⟨rfl,bN KS _⟩
  ·obtain rfl:k=6:=(by omega);have HV:Hid (may x=((ny (gs x)).2&&decide ((ny (gs x)).1<=1125899906842624))):=(by unfold Hid may; rw[HN.out,Bool.true_and]);have hg:RdI .i64 wr (some ⟨w.heap.size,0,none⟩) (gs x):=agV Uy.out;have HL:Hid ((gs x).length=6):=rfl;generalize gs x=l at *;clear HN
   go_wp2_with fail
   refine(Jk _ 6 _ l _ (by omega) HL hg).mono ?_;rintro e w1 ⟨rfl,rfl⟩;generalize (ny l).1=n at *
   cases h:(ny l).2
   ·rw[h]at HV;clear h
    go_wp2_with fail
    go_ret
    rw[HV.out]; exact⟨rfl,hbel⟩
   ·rw[h]at HV;clear h
    go_wp2_with fail
    go_ret
    rw[HV.out]; exact⟨rfl,hbel⟩
namespace Rt
def gG(i:Int):Bool:=decide (1<=i)&&decide (i<=6)
def cB(x:Nat->Int)(i:Int):Int:=if gG i&&may x then(localM x (i.toNat-1)).1 else 0
theorem AJ{n:Int}(h:Az n=true):0<=n/\n<=1125899906842624:=by unfold Az at h; simpa using h
theorem O4{l:List Int}(h:(ny l).2=true):mP l=true:=by
 unfold ny at h;by_cases a:mP l=true
 ·exact a
 rw[b_ a]at h; exact M_ h (by decide)
theorem zG{l:List Int}(h:mP l=true){n:Int}(a:n∈l):0<=n/\n<=1125899906842624:=by
 unfold mP at h;rw[List.all_eq_true]at h;exact AJ (h n a)
theorem KT(x:Nat->Int)(k:Nat) : ∀ j,C x k∈outs x k j
 | 0=>by simp[outs]
 | j+1=>by rw[outs]; exact List.mem_append_left _ (KT x k j)
theorem H6(x:Nat->Int)(k i:Nat) : ∀ j,i<j->R x k i∈outs x k j
 | 0,h=>M_ h (by omega)
 | j+1,h=>by
   rw[outs];by_cases e:i=j
   ·subst e; simp
   ·exact List.mem_append_left _ (H6 x k i j (by omega))
theorem EK(x:Nat->Int)(k:Nat) : ∀ j,G x k∈ins x k j/\F x k∈ins x k j
 | 0=>by simp[ins]
 | j+1=>by rw[ins]; exact⟨List.mem_append_left _ (EK x k j).1,List.mem_append_left _ (EK x k j).2⟩
theorem O5(x:Nat->Int)(k:Nat) : ∀ n,En x n=true->k<n->Cr x k=true
 | 0,_,hk=>M_ hk (by omega)
 | n+1,h,hk=>by
   rw[En,T_]at h;by_cases e:k=n
   ·subst e; exact h.2
   ·exact O5 x k n h.1 (by omega)
theorem Uz{x:Nat->Int}(h:may x=true)(k:Nat)(a:k<6):Cr x k=true:=by
 unfold may at h; rw[T_]at h; exact O5 x k 6 h.1 a
structure Ef(x:Nat->Int)(k:Nat):Prop where
 g:0<=G x k/\G x k<=1125899906842624
 c:0<=C x k/\C x k<=1125899906842624
 f:0<=F x k/\F x k<=1125899906842624
 fc:F x k<=C x k
 r : ∀ i,i<6->0<=R x k i/\R x k i<=1125899906842624
 l:0<=(localM x k).1
 rkk:R x k k=0
 l2:(localM x k).2=true
theorem Yq{x:Nat->Int}{k:Nat}(h:Cr x k=true):Ef x k:=by
 unfold Cr at h;rw[T_,T_,T_]at h;obtain⟨⟨⟨a,e⟩,h3⟩,h4⟩:=h;have d:=a;unfold localM at a;rw[T_]at a;have c:=O4 a.1;have b:=O4 a.2;exact⟨zG b (EK x k 6).1,zG c (KT x k 6),zG b (EK x k 6).2,by simpa using h3,fun i f=>zG c (H6 x k i 6 f),by simpa using e,by simpa using h4,d⟩
theorem xk{x:Nat->Int}(h:may x=true)(k:Nat)(a:k<6):Ef x k:=Yq (Uz h k a)
theorem QK(x:Nat->Int)(k:Nat) : -(1125899906842624*8)<=(localM x k).1/\(localM x k).1<=1125899906842624*8:=by
 have a:=wS (ins x k 6);have b:=wS (outs x k 6);rw[Tj]at a;rw[QA]at b;unfold localM;simp only;omega
end Rt
set_option maxHeartbeats 400000 in
theorem sQ(i:Int)(w:World)(hi : -9223372036854775808<=i/\i<=9223372036854775807) :
 Calls Tryz.prog 71 #[.int .i64 i] w fun e w'=>e = .returned (.bool (gG i))/\w'=w:=by
 unfold gG;by_cases h1:i<1
 ·have d1:decide (1<=i)=false:=by simp; omega
  have D1:Hid _:=d1
  go_enter Tryz.func71,Tryz.ntmps71
  go_wp2
  go_ret
  first|exact⟨rfl,rfl⟩|(rw[D1.out]; exact⟨rfl,rfl⟩)
 have d1:decide (1<=i)=true:=by simp; omega
 have D1:=d1
 go_enter Tryz.func71,Tryz.ntmps71
 go_wp2
 go_ret
 first|exact⟨rfl,rfl⟩|(rw[D1.out]; exact⟨rfl,rfl⟩)
theorem iQ:(Tryz.prog.info? 59).map (·.size)=some 54:=by kernel_rfl
set_option maxRecDepth 100000 in
set_option maxHeartbeats 400000 in
theorem sS(x:Nat->Int)(i:Int)(w:World)(hi : -9223372036854775808<=i/\i<=9223372036854775807) :
 Calls Tryz.prog 48 #[.agg (aS .i64 54 x),.int .i64 i] w fun e w'=>e = .returned (.int .i64 (cB x i))/\Below w.heap.size w w':=by
 have HV:Hid (cB x i=if gG i&&may x then(localM x (i.toNat-1)).1 else 0):=rfl;have hrow:Hid ((w.alloc (.cells (aS .i64 54 x) 59)).heap[w.heap.size]? = some (.cells (aS .i64 54 x) 59 (0,0))):=heap_alloc_new w _;have HR:Hid (gG i=true<->1<=i/\i<=6):=by unfold Hid gG; simp
 have UA:Hid (∀ w',Calls Tryz.prog 71 #[.int .i64 i] w' fun e w''=>e = .returned (.bool (gG i))/\w''=w'):=fun w'=>sQ i w' hi;have hmay:Hid (∀ w',Calls Tryz.prog 72 #[.agg (aS .i64 54 x)] w' fun e w''=>e = .returned (.bool (may x))/\Below w'.heap.size w' w''):=fun w'=>uE x w';generalize gG i=r at *
 cases r
 ·go_enter Tryz.func48,Tryz.ntmps48
  go_wp2_with (go_at_call 71; refine(UA.out _).mono ?_; rintro e w' ⟨rfl,rfl⟩)
  go_ret
  rw[HV.out]; exact⟨rfl,(Below.refl _ _).alloc (A_ _) _⟩
 have hb:1<=i/\i<=6:=HR.out.1 rfl;obtain⟨k,hk⟩:=Int.eq_ofNat_of_zero_le (show 0<=i-1 by omega);have Hk:Hid (i-1=(k:Int)):=hk;have hk6:k<6:=by omega
 have hkt:Hid (i.toNat-1=k):=by unfold Hid; omega
 clear hk;generalize may x=m at *
 cases m
 ·go_enter Tryz.func48,Tryz.ntmps48
  go_wp2_with (first
   | (go_at_call 71; refine(UA.out _).mono ?_; rintro e w' ⟨rfl,rfl⟩)
   | (refine Ae (by rfl) (wp_load_row (o:=⟨some 11,_,_,_,_,_⟩) 59 (.tmp 2) (by rfl) w.heap.size (by rfl) 59 (aS .i64 54 x) (0,0) _ hrow.out Tryz.underlying59 (by rfl) (by rw[bC]; exact iQ) ?_))
   | (go_at_call 72; refine(hmay.out _).mono ?_; rintro e w1 ⟨rfl,hb1⟩))
  go_ret
  rw[HV.out]; exact⟨rfl,bal hb1⟩
 go_enter Tryz.func48,Tryz.ntmps48
 go_wp2_with (first
  | (go_at_call 71; refine(UA.out _).mono ?_; rintro e w' ⟨rfl,rfl⟩)
  | (refine Ae (by rfl) (wp_load_row (o:=⟨some 11,_,_,_,_,_⟩) 59 (.tmp 2) (by rfl) w.heap.size (by rfl) 59 (aS .i64 54 x) (0,0) _ hrow.out Tryz.underlying59 (by rfl) (by rw[bC]; exact iQ) ?_))
  | (go_at_call 72; refine(hmay.out _).mono ?_; rintro e w1 ⟨rfl,hb1⟩)
  | (go_at_call 73; rw[Hk.out]; refine(HZ w.heap.size 59 (0,0) x k w1 hk6 ((hb1.block _ (by simp)).trans hrow.out)).mono ?_; rintro e w2 ⟨rfl,hb2⟩))
 go_ret
 rw[HV.out,hkt.out]; exact⟨rfl,J3 (bal hb1) hb2⟩
namespace Rt
def zero:Nat->Int:=fun _=>0
def bU(x:Nat->Int)(n:Int)(is:Bool)(a:Int)(off:Nat):(Nat->Int) × Int :=
 if may x&&decide (1<=n)&&decide (n<=1125899906842624)then
  if is then
   if a=0 then
    if x off+n<=1125899906842624 then(upd x off (x off+n),0)else(zero,6)
   else(zero,a)
  else(zero,10)
 else(zero,1)
end Rt
theorem pW(T:TypeId)(a:Nat × Nat):Obj.cells (aS .i64 54 zero) T a = .cells #[.int .i64 0,.int .i64 0,.int .i64 0,.int .i64 0,.int .i64 0,.int .i64 0,.int .i64 0,.int .i64 0,.int .i64 0,.int .i64 0,.int .i64 0,.int .i64 0,.int .i64 0,.int .i64 0,.int .i64 0,.int .i64 0,.int .i64 0,.int .i64 0,.int .i64 0,.int .i64 0,.int .i64 0,.int .i64 0,.int .i64 0,.int .i64 0,.int .i64 0,.int .i64 0,.int .i64 0,.int .i64 0,.int .i64 0,.int .i64 0,.int .i64 0,.int .i64 0,.int .i64 0,.int .i64 0,.int .i64 0,.int .i64 0,.int .i64 0,.int .i64 0,.int .i64 0,.int .i64 0,.int .i64 0,.int .i64 0,.int .i64 0,.int .i64 0,.int .i64 0,.int .i64 0,.int .i64 0,.int .i64 0,.int .i64 0,.int .i64 0,.int .i64 0,.int .i64 0,.int .i64 0,.int .i64 0] T a:=by rfl
theorem results_cell_tmp{P:Program}{b:Func}{p q:Tmp}{ty:TypeId}(h:b.results = #[.cell p ty,.tmp q])(a:Array Value)(w:World)(g:Nat)(t:TypeId)(cs:Array Value)(c:Nat × Nat)(d:TypeDesc)
 (i:a.getD p undef = .pointer (some ⟨g,0,none⟩)) (f:w.heap[g]? = some (.cells cs t c))
 (k:P.underlying ty=some d) (e:(match d with | .struct _ | .array _ _=>true|_=>false)=true) (hi:(P.info? ty).map (·.size)=some cs.size) :
 (results b a).run P w = .ok (.tuple #[.agg cs,a.getD q undef]) w:=by
 have j:a[p]?.getD undef = .pointer (some ⟨g,0,none⟩):=by simpa using i
 simp[results,h,j,asAddr,run_loadVar_row w g t ty cs c d f k e hi]
def jW(x:Nat->Int)(n:Int)(is:Bool)(a:Int)(off:Nat)(w:World)(e:Ending)(w':World):Prop :=
 e = .returned (.tuple #[.agg (aS .i64 54 (bU x n is a off).1),.int .i64 (bU x n is a off).2])/\Below w.heap.size w w'
theorem iK{w a:World}{B g:Nat}{e:Array Value}(c:Below B w a)(b:B<=g)(d:a.heap[g]? = some (.cells e 59 (0,0)))(y:Nat->Int) :
 (a.setRow g (aS .i64 54 y)).heap[g]? = some (.cells (aS .i64 54 y) 59 (0,0))/\Below B w (a.setRow g (aS .i64 54 y)) :=
 ⟨setRow_heap _ _ _ _ _ _ d,aln c b⟩
theorem nD{x:Nat->Int}{n:Int}{is:Bool}{c:Int}{off:Nat}{w b:World}{a:Act}{g:Nat}{y:Nat->Int}{k:Int}(d:bU x n is c off=(y,k))(f:a.defers = [])
 (i:a.tmps.getD 10 undef = .pointer (some ⟨g,0,none⟩)) (j:a.tmps.getD 11 undef = .int .i64 k) (h:b.heap[g]? = some (.cells (aS .i64 54 y) 59 (0,0))) (e:Below w.heap.size w b) :
 bodyPost Tryz.prog Tryz.f188 (jW x n is c off w) .ret a b:=by
 refine bodyPost_ret (v := .tuple #[.agg (aS .i64 54 y),.int .i64 k]) ?_ f ⟨?_,e⟩
 ·rw[results_cell_tmp rfl a.tmps b g 59 _ (0,0) _ i h Tryz.underlying59 rfl (by rw[bC]; exact iQ),j]
 rw[d]
set_option maxRecDepth 100000 in
set_option maxHeartbeats 2000000 in
theorem Ng(x:Nat->Int)(n:Int)(is:Bool)(fm fn:FuncId)(cm cn:Array Value)(em:Int)(off:Nat)(w:World)(h:may x=false) :
 Calls Tryz.prog 188 #[.agg (aS .i64 54 x),.int .i64 n,.bool is,.func (.func fm) #[] cm,.func (.func fn) #[] cn] w (jW x n is em off w):=by
 have hT:Hid (bU x n is em off=(zero,1)):=by unfold Hid bU; rw[h]; rfl
 have hmay:Hid (∀ w',Calls Tryz.prog 72 #[.agg (aS .i64 54 x)] w' fun e w''=>e = .returned (.bool (may x))/\Below w'.heap.size w' w''):=fun w'=>uE x w'
 go_enter Tryz.func188,Tryz.ntmps188
 go_upto_region 1 with (fail)
 rw[<- pW];have hx0:Hid (((w.alloc (.cells (aS .i64 54 x) 59)).alloc (.cells (aS .i64 54 zero) 59)).heap[w.heap.size]? = some (.cells (aS .i64 54 x) 59 (0,0))):=heap_alloc2_old w _ _;have hz0:Hid (((w.alloc (.cells (aS .i64 54 x) 59)).alloc (.cells (aS .i64 54 zero) 59)).heap[w.heap.size+1]? = some (.cells (aS .i64 54 zero) 59 (0,0))):=heap_alloc2_new w _ _;have hb0:Below w.heap.size w ((w.alloc (.cells (aS .i64 54 x) 59)).alloc (.cells (aS .i64 54 zero) 59)):=((Below.refl _ _).alloc (A_ _) _).alloc (by simp) _;have hs0:w.heap.size+1<((w.alloc (.cells (aS .i64 54 x) 59)).alloc (.cells (aS .i64 54 zero) 59)).heap.size:=by simp
 generalize (w.alloc (.cells (aS .i64 54 x) 59)).alloc (.cells (aS .i64 54 zero) 59)=W at *;rw[h]at hmay
 go_wp2_with (first
  | (refine wpList_load_row (o:=⟨some 15,_,_,_,_,_⟩) (by rfl) 59 (.tmp 5) (by rfl) w.heap.size (by rfl) 59 (aS .i64 54 x) (0,0) _ hx0.out Tryz.underlying59 (by rfl) (by rw[bC]; exact iQ) ?_)
  | (go_at_call 72; refine(hmay.out _).mono ?_; rintro e w1 ⟨rfl,hb1⟩; have hz1:Hid _:=(hb1.block (w.heap.size+1) hs0).trans hz0.out; have hx1:Hid _:=(hb1.block w.heap.size (by omega)).trans hx0.out; have hB1:=hb0.trans (hb1.mono hb0.size); have hs1:=n_ hs0 hb1.size)
  | (refine wpList_store_row (o:=⟨none,.store 59 (.tmp 10) (.tmp 22),_,_,_,_⟩) (by rfl) 59 (.tmp 10) (.tmp 22) (by rfl) (w.heap.size+1) (aS .i64 54 zero) (by rfl) (by rfl) 59 (aS .i64 54 zero) hz1.out (by rw[bC]; exact iQ) (by rw[bC]) (kY _ _ _) ?_))
 have hend:=iK hB1 (by omega) hz1.out zero;exact nD hT.out rfl rfl rfl hend.1 hend.2
set_option maxRecDepth 100000 in
set_option maxHeartbeats 2000000 in
theorem Nh(x:Nat->Int)(n:Int)(is:Bool)(fm fn:FuncId)(cm cn:Array Value)(em:Int)(off:Nat)(w:World)(h:may x=true)(hn1:n<1) :
 Calls Tryz.prog 188 #[.agg (aS .i64 54 x),.int .i64 n,.bool is,.func (.func fm) #[] cm,.func (.func fn) #[] cn] w (jW x n is em off w):=by
 have hT:Hid (bU x n is em off=(zero,1)):=by unfold Hid bU; rw[h,g_ (show ¬ 1<=n by omega)]; rfl
 have hmay:Hid (∀ w',Calls Tryz.prog 72 #[.agg (aS .i64 54 x)] w' fun e w''=>e = .returned (.bool (may x))/\Below w'.heap.size w' w''):=fun w'=>uE x w'
 go_enter Tryz.func188,Tryz.ntmps188
 go_upto_region 1 with (fail)
 rw[<- pW];have hx0:Hid (((w.alloc (.cells (aS .i64 54 x) 59)).alloc (.cells (aS .i64 54 zero) 59)).heap[w.heap.size]? = some (.cells (aS .i64 54 x) 59 (0,0))):=heap_alloc2_old w _ _;have hz0:Hid (((w.alloc (.cells (aS .i64 54 x) 59)).alloc (.cells (aS .i64 54 zero) 59)).heap[w.heap.size+1]? = some (.cells (aS .i64 54 zero) 59 (0,0))):=heap_alloc2_new w _ _;have hb0:Below w.heap.size w ((w.alloc (.cells (aS .i64 54 x) 59)).alloc (.cells (aS .i64 54 zero) 59)):=((Below.refl _ _).alloc (A_ _) _).alloc (by simp) _;have hs0:w.heap.size+1<((w.alloc (.cells (aS .i64 54 x) 59)).alloc (.cells (aS .i64 54 zero) 59)).heap.size:=by simp
 generalize (w.alloc (.cells (aS .i64 54 x) 59)).alloc (.cells (aS .i64 54 zero) 59)=W at *;rw[h]at hmay
 go_wp2_with (first
  | (refine wpList_load_row (o:=⟨some 15,_,_,_,_,_⟩) (by rfl) 59 (.tmp 5) (by rfl) w.heap.size (by rfl) 59 (aS .i64 54 x) (0,0) _ hx0.out Tryz.underlying59 (by rfl) (by rw[bC]; exact iQ) ?_)
  | (go_at_call 72; refine(hmay.out _).mono ?_; rintro e w1 ⟨rfl,hb1⟩; have hz1:Hid _:=(hb1.block (w.heap.size+1) hs0).trans hz0.out; have hx1:Hid _:=(hb1.block w.heap.size (by omega)).trans hx0.out; have hB1:=hb0.trans (hb1.mono hb0.size); have hs1:=n_ hs0 hb1.size)
  | (refine wpList_store_row (o:=⟨none,.store 59 (.tmp 10) (.tmp 22),_,_,_,_⟩) (by rfl) 59 (.tmp 10) (.tmp 22) (by rfl) (w.heap.size+1) (aS .i64 54 zero) (by rfl) (by rfl) 59 (aS .i64 54 zero) hz1.out (by rw[bC]; exact iQ) (by rw[bC]) (kY _ _ _) ?_))
 have hend:=iK hB1 (by omega) hz1.out zero;exact nD hT.out rfl rfl rfl hend.1 hend.2
set_option maxRecDepth 100000 in
set_option maxHeartbeats 2000000 in
theorem Ni(x:Nat->Int)(n:Int)(is:Bool)(fm fn:FuncId)(cm cn:Array Value)(em:Int)(off:Nat)(w:World)(h:may x=true)(hn1:1125899906842624<n) :
 Calls Tryz.prog 188 #[.agg (aS .i64 54 x),.int .i64 n,.bool is,.func (.func fm) #[] cm,.func (.func fn) #[] cn] w (jW x n is em off w):=by
 have hT:Hid (bU x n is em off=(zero,1)):=by unfold Hid bU; rw[g_ (show ¬ n<=1125899906842624 by omega),I_]; rfl
 have hmay:Hid (∀ w',Calls Tryz.prog 72 #[.agg (aS .i64 54 x)] w' fun e w''=>e = .returned (.bool (may x))/\Below w'.heap.size w' w''):=fun w'=>uE x w'
 go_enter Tryz.func188,Tryz.ntmps188
 go_upto_region 1 with (fail)
 rw[<- pW];have hx0:Hid (((w.alloc (.cells (aS .i64 54 x) 59)).alloc (.cells (aS .i64 54 zero) 59)).heap[w.heap.size]? = some (.cells (aS .i64 54 x) 59 (0,0))):=heap_alloc2_old w _ _;have hz0:Hid (((w.alloc (.cells (aS .i64 54 x) 59)).alloc (.cells (aS .i64 54 zero) 59)).heap[w.heap.size+1]? = some (.cells (aS .i64 54 zero) 59 (0,0))):=heap_alloc2_new w _ _;have hb0:Below w.heap.size w ((w.alloc (.cells (aS .i64 54 x) 59)).alloc (.cells (aS .i64 54 zero) 59)):=((Below.refl _ _).alloc (A_ _) _).alloc (by simp) _;have hs0:w.heap.size+1<((w.alloc (.cells (aS .i64 54 x) 59)).alloc (.cells (aS .i64 54 zero) 59)).heap.size:=by simp
 generalize (w.alloc (.cells (aS .i64 54 x) 59)).alloc (.cells (aS .i64 54 zero) 59)=W at *;rw[h]at hmay
 go_wp2_with (first
  | (refine wpList_load_row (o:=⟨some 15,_,_,_,_,_⟩) (by rfl) 59 (.tmp 5) (by rfl) w.heap.size (by rfl) 59 (aS .i64 54 x) (0,0) _ hx0.out Tryz.underlying59 (by rfl) (by rw[bC]; exact iQ) ?_)
  | (go_at_call 72; refine(hmay.out _).mono ?_; rintro e w1 ⟨rfl,hb1⟩; have hz1:Hid _:=(hb1.block (w.heap.size+1) hs0).trans hz0.out; have hx1:Hid _:=(hb1.block w.heap.size (by omega)).trans hx0.out; have hB1:=hb0.trans (hb1.mono hb0.size); have hs1:=n_ hs0 hb1.size)
  | (refine wpList_store_row (o:=⟨none,.store 59 (.tmp 10) (.tmp 22),_,_,_,_⟩) (by rfl) 59 (.tmp 10) (.tmp 22) (by rfl) (w.heap.size+1) (aS .i64 54 zero) (by rfl) (by rfl) 59 (aS .i64 54 zero) hz1.out (by rw[bC]; exact iQ) (by rw[bC]) (kY _ _ _) ?_))
 have hend:=iK hB1 (by omega) hz1.out zero;exact nD hT.out rfl rfl rfl hend.1 hend.2
set_option maxRecDepth 100000 in
set_option maxHeartbeats 2000000 in
theorem Nj(x:Nat->Int)(n:Int)(fm fn:FuncId)(cm cn:Array Value)(em:Int)(off:Nat)(w:World)(h:may x=true)(hn1:1<=n)(hn2:n<=1125899906842624) :
 Calls Tryz.prog 188 #[.agg (aS .i64 54 x),.int .i64 n,.bool false,.func (.func fm) #[] cm,.func (.func fn) #[] cn] w (jW x n false em off w):=by
 have hT:Hid (bU x n false em off=(zero,10)):=by unfold Hid bU; rw[h,f_ hn1,f_ hn2]; simp only[Bool.and_self,if_true]; rfl
 have hmay:Hid (∀ w',Calls Tryz.prog 72 #[.agg (aS .i64 54 x)] w' fun e w''=>e = .returned (.bool (may x))/\Below w'.heap.size w' w''):=fun w'=>uE x w'
 go_enter Tryz.func188,Tryz.ntmps188
 go_upto_region 1 with (fail)
 rw[<- pW];have hx0:Hid (((w.alloc (.cells (aS .i64 54 x) 59)).alloc (.cells (aS .i64 54 zero) 59)).heap[w.heap.size]? = some (.cells (aS .i64 54 x) 59 (0,0))):=heap_alloc2_old w _ _;have hz0:Hid (((w.alloc (.cells (aS .i64 54 x) 59)).alloc (.cells (aS .i64 54 zero) 59)).heap[w.heap.size+1]? = some (.cells (aS .i64 54 zero) 59 (0,0))):=heap_alloc2_new w _ _;have hb0:Below w.heap.size w ((w.alloc (.cells (aS .i64 54 x) 59)).alloc (.cells (aS .i64 54 zero) 59)):=((Below.refl _ _).alloc (A_ _) _).alloc (by simp) _;have hs0:w.heap.size+1<((w.alloc (.cells (aS .i64 54 x) 59)).alloc (.cells (aS .i64 54 zero) 59)).heap.size:=by simp
 generalize (w.alloc (.cells (aS .i64 54 x) 59)).alloc (.cells (aS .i64 54 zero) 59)=W at *;rw[h]at hmay
 go_wp2_with (first
  | (refine wpList_load_row (o:=⟨some 15,_,_,_,_,_⟩) (by rfl) 59 (.tmp 5) (by rfl) w.heap.size (by rfl) 59 (aS .i64 54 x) (0,0) _ hx0.out Tryz.underlying59 (by rfl) (by rw[bC]; exact iQ) ?_)
  | (go_at_call 72; refine(hmay.out _).mono ?_; rintro e w1 ⟨rfl,hb1⟩; have hz1:Hid _:=(hb1.block (w.heap.size+1) hs0).trans hz0.out; have hx1:Hid _:=(hb1.block w.heap.size (by omega)).trans hx0.out; have hB1:=hb0.trans (hb1.mono hb0.size); have hs1:=n_ hs0 hb1.size)
  | (refine wpList_store_row (o:=⟨none,.store 59 (.tmp 10) (.tmp 26),_,_,_,_⟩) (by rfl) 59 (.tmp 10) (.tmp 26) (by rfl) (w.heap.size+1) (aS .i64 54 zero) (by rfl) (by rfl) 59 (aS .i64 54 zero) hz1.out (by rw[bC]; exact iQ) (by rw[bC]) (kY _ _ _) ?_))
 have hend:=iK hB1 (by omega) hz1.out zero;exact nD hT.out rfl rfl rfl hend.1 hend.2
set_option maxRecDepth 100000 in
set_option maxHeartbeats 2000000 in
theorem Nk(x:Nat->Int)(n:Int)(fm fn:FuncId)(cm cn:Array Value)(em:Int)(off:Nat)(w:World)(h:may x=true)(hn1:1<=n)(hn2:n<=1125899906842624)(hem:em≠0)(hcm : ∀(args:Array Value) (w:World),(callFunc fm args).run Tryz.prog w = .ok (.enter fm args) w)(hm:Hid (∀ w',Below w.heap.size w w'->Calls Tryz.prog fm cm w' fun e w''=>e = .returned (.int .i64 em)/\Below w'.heap.size w' w'')) :
 Calls Tryz.prog 188 #[.agg (aS .i64 54 x),.int .i64 n,.bool true,.func (.func fm) #[] cm,.func (.func fn) #[] cn] w (jW x n true em off w):=by
 have hT:Hid (bU x n true em off=(zero,em)):=by unfold Hid bU; rw[h,f_ hn1,f_ hn2]; simp only[Bool.and_self,if_true]; rw[b_ hem]
 have hmay:Hid (∀ w',Calls Tryz.prog 72 #[.agg (aS .i64 54 x)] w' fun e w''=>e = .returned (.bool (may x))/\Below w'.heap.size w' w''):=fun w'=>uE x w'
 go_enter Tryz.func188,Tryz.ntmps188
 go_upto_region 1 with (fail)
 rw[<- pW];have hx0:Hid (((w.alloc (.cells (aS .i64 54 x) 59)).alloc (.cells (aS .i64 54 zero) 59)).heap[w.heap.size]? = some (.cells (aS .i64 54 x) 59 (0,0))):=heap_alloc2_old w _ _;have hz0:Hid (((w.alloc (.cells (aS .i64 54 x) 59)).alloc (.cells (aS .i64 54 zero) 59)).heap[w.heap.size+1]? = some (.cells (aS .i64 54 zero) 59 (0,0))):=heap_alloc2_new w _ _;have hb0:Below w.heap.size w ((w.alloc (.cells (aS .i64 54 x) 59)).alloc (.cells (aS .i64 54 zero) 59)):=((Below.refl _ _).alloc (A_ _) _).alloc (by simp) _;have hs0:w.heap.size+1<((w.alloc (.cells (aS .i64 54 x) 59)).alloc (.cells (aS .i64 54 zero) 59)).heap.size:=by simp
 generalize (w.alloc (.cells (aS .i64 54 x) 59)).alloc (.cells (aS .i64 54 zero) 59)=W at *;rw[h]at hmay
 go_wp2_with (first
  | (refine wpList_load_row (o:=⟨some 15,_,_,_,_,_⟩) (by rfl) 59 (.tmp 5) (by rfl) w.heap.size (by rfl) 59 (aS .i64 54 x) (0,0) _ hx0.out Tryz.underlying59 (by rfl) (by rw[bC]; exact iQ) ?_)
  | (go_at_call 72; refine(hmay.out _).mono ?_; rintro e w1 ⟨rfl,hb1⟩; have hz1:Hid _:=(hb1.block (w.heap.size+1) hs0).trans hz0.out; have hx1:Hid _:=(hb1.block w.heap.size (by omega)).trans hx0.out; have hB1:=hb0.trans (hb1.mono hb0.size); have hs1:=n_ hs0 hb1.size)
  | (refine(hm.out _ hB1).mono ?_; rintro e w2 ⟨rfl,hb2⟩; have hz2:Hid _:=(hb2.block (w.heap.size+1) hs1).trans hz1.out; have hx2:Hid _:=(hb2.block w.heap.size (by omega)).trans hx1.out; have hB2:=hB1.trans (hb2.mono hB1.size); have hs2:=n_ hs1 hb2.size)
  | (refine wpList_store_row (o:=⟨none,.store 59 (.tmp 10) (.tmp 31),_,_,_,_⟩) (by rfl) 59 (.tmp 10) (.tmp 31) (by rfl) (w.heap.size+1) (aS .i64 54 zero) (by rfl) (by rfl) 59 (aS .i64 54 zero) hz2.out (by rw[bC]; exact iQ) (by rw[bC]) (kY _ _ _) ?_))
 have hend:=iK hB2 (by omega) hz2.out zero;exact nD hT.out rfl rfl rfl hend.1 hend.2
set_option maxRecDepth 100000 in
set_option maxHeartbeats 2000000 in
theorem Nl(x:Nat->Int)(n:Int)(fm fn:FuncId)(cm cn:Array Value)(em:Int)(off:Nat)(w:World)(h:may x=true)(hn1:1<=n)(hn2:n<=1125899906842624)(em0:em=0)(hoff:off<54)(v:Int)(hv:x off=v)(hv2:0<=v/\v<=1125899906842624)(hs:1125899906842624<v+n)(hcm : ∀(args:Array Value) (w:World),(callFunc fm args).run Tryz.prog w = .ok (.enter fm args) w)(hm:Hid (∀ w',Below w.heap.size w w'->Calls Tryz.prog fm cm w' fun e w''=>e = .returned (.int .i64 em)/\Below w'.heap.size w' w''))(hcn : ∀(args:Array Value) (w:World),(callFunc fn args).run Tryz.prog w = .ok (.enter fn args) w)(hn:Hid (∀ w' g,Below w.heap.size w w'->Calls Tryz.prog fn (#[.pointer (some ⟨g,0,none⟩)]++cn) w' fun e w''=>e = .returned (.pointer (some ⟨g,off,none⟩))/\Below w'.heap.size w' w'')) :
 Calls Tryz.prog 188 #[.agg (aS .i64 54 x),.int .i64 n,.bool true,.func (.func fm) #[] cm,.func (.func fn) #[] cn] w (jW x n true em off w):=by
 have hT:Hid (bU x n true em off=(zero,6)):=by unfold Hid bU; rw[h,f_ hn1,f_ hn2]; simp only[Bool.and_self,if_true]; rw[d_ em0,hv,b_ (by omega)]
 subst em0;have hmay:Hid (∀ w',Calls Tryz.prog 72 #[.agg (aS .i64 54 x)] w' fun e w''=>e = .returned (.bool (may x))/\Below w'.heap.size w' w''):=fun w'=>uE x w'
 go_enter Tryz.func188,Tryz.ntmps188
 go_upto_region 1 with (fail)
 rw[<- pW];have hx0:Hid (((w.alloc (.cells (aS .i64 54 x) 59)).alloc (.cells (aS .i64 54 zero) 59)).heap[w.heap.size]? = some (.cells (aS .i64 54 x) 59 (0,0))):=heap_alloc2_old w _ _;have hz0:Hid (((w.alloc (.cells (aS .i64 54 x) 59)).alloc (.cells (aS .i64 54 zero) 59)).heap[w.heap.size+1]? = some (.cells (aS .i64 54 zero) 59 (0,0))):=heap_alloc2_new w _ _;have hb0:Below w.heap.size w ((w.alloc (.cells (aS .i64 54 x) 59)).alloc (.cells (aS .i64 54 zero) 59)):=((Below.refl _ _).alloc (A_ _) _).alloc (by simp) _;have hs0:w.heap.size+1<((w.alloc (.cells (aS .i64 54 x) 59)).alloc (.cells (aS .i64 54 zero) 59)).heap.size:=by simp
 generalize (w.alloc (.cells (aS .i64 54 x) 59)).alloc (.cells (aS .i64 54 zero) 59)=W at *;rw[h]at hmay
 go_wp2_with (first
  | (refine wpList_load_row (o:=⟨some 15,_,_,_,_,_⟩) (by rfl) 59 (.tmp 5) (by rfl) w.heap.size (by rfl) 59 (aS .i64 54 x) (0,0) _ hx0.out Tryz.underlying59 (by rfl) (by rw[bC]; exact iQ) ?_)
  | (go_at_call 72; refine(hmay.out _).mono ?_; rintro e w1 ⟨rfl,hb1⟩; have hz1:Hid _:=(hb1.block (w.heap.size+1) hs0).trans hz0.out; have hx1:Hid _:=(hb1.block w.heap.size (by omega)).trans hx0.out; have hB1:=hb0.trans (hb1.mono hb0.size); have hs1:=n_ hs0 hb1.size)
  | (refine(hm.out _ hB1).mono ?_; rintro e w2 ⟨rfl,hb2⟩; have hz2:Hid _:=(hb2.block (w.heap.size+1) hs1).trans hz1.out; have hx2:Hid _:=(hb2.block w.heap.size (by omega)).trans hx1.out; have hB2:=hB1.trans (hb2.mono hB1.size); have hs2:=n_ hs1 hb2.size)
  | (refine(hn.out _ _ hB2).mono ?_; rintro e w3 ⟨rfl,hb3⟩; have hz3:Hid _:=(hb3.block (w.heap.size+1) hs2).trans hz2.out; have hx3:=(hb3.block w.heap.size (by omega)).trans hx2.out; have hB3:=hB2.trans (hb3.mono hB2.size); have hs3:=n_ hs2 hb3.size; have hc3:=gu hx3 off hoff; have hf3:=frozen_of_row w3 w.heap.size off _ _ hx3; have hz4:Hid ((w3.setCell ⟨w.heap.size,off,none⟩ (.int .i64 (v+n))).heap[w.heap.size+1]? = some (.cells (aS .i64 54 zero) 59 (0,0))):=(heap_setCell_other _ _ _ _ (by simp)).trans hz3.out; have hx4:Hid ((w3.setCell ⟨w.heap.size,off,none⟩ (.int .i64 (v+n))).heap[w.heap.size]? = some (.cells (aS .i64 54 (upd x off (v+n))) 59 (0,0))):=by { unfold Hid; rw[heap_setCell_same _ _ _ _ _ _ hx3,E8] }; have hB4:Below w.heap.size w (w3.setCell ⟨w.heap.size,off,none⟩ (.int .i64 (v+n))):=hB3.setCell (A_ _) _; clear hx3; rw[hv]at hc3)
  | (refine wpList_store_row (o:=⟨none,.store 59 (.tmp 10) (.tmp 45),_,_,_,_⟩) (by rfl) 59 (.tmp 10) (.tmp 45) (by rfl) (w.heap.size+1) (aS .i64 54 zero) (by rfl) (by rfl) 59 (aS .i64 54 zero) hz4.out (by rw[bC]; exact iQ) (by rw[bC]) (kY _ _ _) ?_))
 have hend:=iK hB4 (by omega) hz4.out zero;exact nD hT.out rfl rfl rfl hend.1 hend.2
set_option maxRecDepth 100000 in
set_option maxHeartbeats 2000000 in
theorem Nn(x:Nat->Int)(n:Int)(fm fn:FuncId)(cm cn:Array Value)(em:Int)(off:Nat)(w:World)(h:may x=true)(hn1:1<=n)(hn2:n<=1125899906842624)(em0:em=0)(hoff:off<54)(v:Int)(hv:x off=v)(hv2:0<=v/\v<=1125899906842624)(hs:v+n<=1125899906842624)(hcm : ∀(args:Array Value) (w:World),(callFunc fm args).run Tryz.prog w = .ok (.enter fm args) w)(hm:Hid (∀ w',Below w.heap.size w w'->Calls Tryz.prog fm cm w' fun e w''=>e = .returned (.int .i64 em)/\Below w'.heap.size w' w''))(hcn : ∀(args:Array Value) (w:World),(callFunc fn args).run Tryz.prog w = .ok (.enter fn args) w)(hn:Hid (∀ w' g,Below w.heap.size w w'->Calls Tryz.prog fn (#[.pointer (some ⟨g,0,none⟩)]++cn) w' fun e w''=>e = .returned (.pointer (some ⟨g,off,none⟩))/\Below w'.heap.size w' w'')) :
 Calls Tryz.prog 188 #[.agg (aS .i64 54 x),.int .i64 n,.bool true,.func (.func fm) #[] cm,.func (.func fn) #[] cn] w (jW x n true em off w):=by
 have hT:Hid (bU x n true em off=(upd x off (v+n),0)):=by unfold Hid bU; rw[h,f_ hn1,f_ hn2]; simp only[Bool.and_self,if_true]; rw[d_ em0,hv,d_ (by omega)]
 subst em0;have hmay:Hid (∀ w',Calls Tryz.prog 72 #[.agg (aS .i64 54 x)] w' fun e w''=>e = .returned (.bool (may x))/\Below w'.heap.size w' w''):=fun w'=>uE x w'
 go_enter Tryz.func188,Tryz.ntmps188
 go_upto_region 1 with (fail)
 rw[<- pW];have hx0:Hid (((w.alloc (.cells (aS .i64 54 x) 59)).alloc (.cells (aS .i64 54 zero) 59)).heap[w.heap.size]? = some (.cells (aS .i64 54 x) 59 (0,0))):=heap_alloc2_old w _ _;have hz0:Hid (((w.alloc (.cells (aS .i64 54 x) 59)).alloc (.cells (aS .i64 54 zero) 59)).heap[w.heap.size+1]? = some (.cells (aS .i64 54 zero) 59 (0,0))):=heap_alloc2_new w _ _;have hb0:Below w.heap.size w ((w.alloc (.cells (aS .i64 54 x) 59)).alloc (.cells (aS .i64 54 zero) 59)):=((Below.refl _ _).alloc (A_ _) _).alloc (by simp) _;have hs0:w.heap.size+1<((w.alloc (.cells (aS .i64 54 x) 59)).alloc (.cells (aS .i64 54 zero) 59)).heap.size:=by simp
 generalize (w.alloc (.cells (aS .i64 54 x) 59)).alloc (.cells (aS .i64 54 zero) 59)=W at *;rw[h]at hmay
 go_wp2_with (first
  | (refine wpList_load_row (o:=⟨some 15,_,_,_,_,_⟩) (by rfl) 59 (.tmp 5) (by rfl) w.heap.size (by rfl) 59 (aS .i64 54 x) (0,0) _ hx0.out Tryz.underlying59 (by rfl) (by rw[bC]; exact iQ) ?_)
  | (go_at_call 72; refine(hmay.out _).mono ?_; rintro e w1 ⟨rfl,hb1⟩; have hz1:Hid _:=(hb1.block (w.heap.size+1) hs0).trans hz0.out; have hx1:Hid _:=(hb1.block w.heap.size (by omega)).trans hx0.out; have hB1:=hb0.trans (hb1.mono hb0.size); have hs1:=n_ hs0 hb1.size)
  | (refine(hm.out _ hB1).mono ?_; rintro e w2 ⟨rfl,hb2⟩; have hz2:Hid _:=(hb2.block (w.heap.size+1) hs1).trans hz1.out; have hx2:Hid _:=(hb2.block w.heap.size (by omega)).trans hx1.out; have hB2:=hB1.trans (hb2.mono hB1.size); have hs2:=n_ hs1 hb2.size)
  | (refine(hn.out _ _ hB2).mono ?_; rintro e w3 ⟨rfl,hb3⟩; have hz3:Hid _:=(hb3.block (w.heap.size+1) hs2).trans hz2.out; have hx3:=(hb3.block w.heap.size (by omega)).trans hx2.out; have hB3:=hB2.trans (hb3.mono hB2.size); have hs3:=n_ hs2 hb3.size; have hc3:=gu hx3 off hoff; have hf3:=frozen_of_row w3 w.heap.size off _ _ hx3; have hz4:Hid ((w3.setCell ⟨w.heap.size,off,none⟩ (.int .i64 (v+n))).heap[w.heap.size+1]? = some (.cells (aS .i64 54 zero) 59 (0,0))):=(heap_setCell_other _ _ _ _ (by simp)).trans hz3.out; have hx4:Hid ((w3.setCell ⟨w.heap.size,off,none⟩ (.int .i64 (v+n))).heap[w.heap.size]? = some (.cells (aS .i64 54 (upd x off (v+n))) 59 (0,0))):=by { unfold Hid; rw[heap_setCell_same _ _ _ _ _ _ hx3,E8] }; have hB4:Below w.heap.size w (w3.setCell ⟨w.heap.size,off,none⟩ (.int .i64 (v+n))):=hB3.setCell (A_ _) _; clear hx3; rw[hv]at hc3)
  | (refine wpList_load_row (o:=⟨some 46,_,_,_,_,_⟩) (by rfl) 59 (.tmp 5) (by rfl) w.heap.size (by rfl) 59 (aS .i64 54 (upd x off (v+n))) (0,0) _ hx4.out Tryz.underlying59 (by rfl) (by rw[bC]; exact iQ) ?_)
  | (refine wpList_store_row (o:=⟨none,.store 59 (.tmp 10) (.tmp 46),_,_,_,_⟩) (by rfl) 59 (.tmp 10) (.tmp 46) (by rfl) (w.heap.size+1) (aS .i64 54 (upd x off (v+n))) (by rfl) (by rfl) 59 (aS .i64 54 zero) hz4.out (by rw[bC]; exact iQ) (by rw[bC,bC]) (kY _ _ _) ?_))
 have hend:=iK hB4 (by omega) hz4.out (upd x off (v+n));exact nD hT.out rfl rfl rfl hend.1 hend.2
theorem xq(x:Nat->Int)(n:Int)(is:Bool)(a b:FuncId)(d f:Array Value)(c:Int)(off:Nat)(w:World)(q:is=true->off<54)(hx:is=true->may x=true->0<=x off/\x off<=1125899906842624)
 (k : ∀(i:Array Value) (w:World),(callFunc a i).run Tryz.prog w = .ok (.enter a i) w)
 (o : ∀(i:Array Value) (w:World),(callFunc b i).run Tryz.prog w = .ok (.enter b i) w)
 (l:may x=true->1<=n->n<=1125899906842624->is=true -> ∀ w',Below w.heap.size w w'->Calls Tryz.prog a d w' fun e m=>e = .returned (.int .i64 c)/\Below w'.heap.size w' m)
 (p:is=true -> ∀ w' g,Below w.heap.size w w'->Calls Tryz.prog b (#[.pointer (some ⟨g,0,none⟩)]++f) w' fun e m=>e = .returned (.pointer (some ⟨g,off,none⟩))/\Below w'.heap.size w' m) :
 Calls Tryz.prog 188 #[.agg (aS .i64 54 x),.int .i64 n,.bool is,.func (.func a) #[] d,.func (.func b) #[] f] w (jW x n is c off w):=by
 by_cases h:may x=true
 ·by_cases r:n<1
  ·exact Nh x n is a b d f c off w h r
  by_cases s:1125899906842624<n
  ·exact Ni x n is a b d f c off w h s
  cases is
  ·exact Nj x n a b d f c off w h (by omega) (by omega)
  by_cases j:c=0
  ·by_cases t:1125899906842624<x off+n
   ·exact Nl x n a b d f c off w h (by omega) (by omega) j (q rfl) _ rfl (hx rfl h) t k (l h (by omega) (by omega) rfl) o (p rfl)
   exact Nn x n a b d f c off w h (by omega) (by omega) j (q rfl) _ rfl (hx rfl h) (by omega) k (l h (by omega) (by omega) rfl) o (p rfl)
  exact Nk x n a b d f c off w h (by omega) (by omega) j k (l h (by omega) (by omega) rfl)
 exact Ng x n is a b d f c off w (by simpa using h)
section
namespace Rt
def own(p:Nat):Nat:=if p<6 then p else if p<12 then p-6 else if p<18 then p-12 else(p-18) / 6
end Rt
def JS(a:World)(g:Nat)(x y:Nat->Int)(w':World):Prop:=w'.heap[g]? = some (.cells (aS .i64 54 x) 59 (0,0))/\w'.heap[g+1]? = some (.cells (aS .i64 54 y) 59 (0,0))/\w'.heap[g+1+1]? = some (.cells (aS .i64 54 zero) 59 (0,0))/\Below g a w'
theorem JS.drew{a w:World}{g:Nat}{x y:Nat->Int}(h:JS a g x y w):JS a g x y w.drew:=⟨h.1,h.2.1,h.2.2.1,bN h.2.2.2 1⟩
theorem JS.a{b w:World}{g:Nat}{x y:Nat->Int}(h:JS b g x y w)(i:Nat)(hi:i<54):w.cell? ⟨g,i,none⟩=some (.int .i64 (x i)):=gu h.1 i hi
theorem JS.b{a w:World}{g:Nat}{x y:Nat->Int}(h:JS a g x y w)(i:Nat)(hi:i<54):w.cell? ⟨g+1,i,none⟩=some (.int .i64 (y i)):=gu h.2.1 i hi
theorem JS.fr{a w:World}{g:Nat}{x y:Nat->Int}(h:JS a g x y w)(i:Nat):w.frozen? ⟨g,i,none⟩=false:=frozen_of_row w g i _ _ h.1
theorem JS.set{d w:World}{g:Nat}{x y:Nat->Int}(h:JS d g x y w)(i:Nat)(v:Int):JS d g (upd x i v) y (w.setCell ⟨g,i,none⟩ (.int .i64 v)):=by
 obtain⟨a,b,z,c⟩:=h;refine⟨?_,?_,?_,?_⟩
 ·rw[heap_setCell_same _ _ _ _ _ _ a,E8]
 ·rw[heap_setCell_other _ _ _ _ (by simp)]; exact b
 ·rw[heap_setCell_other _ _ _ _ (by simp; omega)]; exact z
 exact c.setCell (A_ _) _
theorem JS.congr{a w:World}{g:Nat}{x y b:Nat->Int}(h:JS a g x y w)(hx : ∀ i,i<54->x i=b i):JS a g b y w:=by
 unfold JS at *; rw[<- ML hx]; exact h
def JSb(c:World)(g:Nat)(x y:Nat->Int)(b:Bool)(w':World):Prop := ∃ a,JS c g a y w'/\(b=false->a=x)
theorem JSb.a{b w:World}{g:Nat}{x y:Nat->Int}(h:JSb b g x y false w)(i:Nat)(hi:i<54):w.cell? ⟨g,i,none⟩=some (.int .i64 (x i)):=by
 obtain⟨c,h,e⟩:=h;rw[<- e rfl]; exact h.a i hi
attribute [local irreducible] Oper.wp wpList Code.wp
end
section
set_option maxHeartbeats 400000 in
theorem vP(is:Bool)(e:Int)(w:World) :
 Calls Tryz.prog 190 #[.bool is,.int .i64 e] w fun r w'=>r = .returned (.int .i64 (if is then e else 0))/\w'=w:=by
 cases is
 all_goals
  go_enter Tryz.func190,Tryz.ntmps190
  go_wp2
  go_ret
  exact⟨rfl,rfl⟩
def O6(r:(Nat->Int) × Int)(w:World)(e:Ending)(w':World):Prop :=
 e = .returned (.tuple #[.agg (aS .i64 54 r.1),.int .i64 r.2])/\Below w.heap.size w w'
theorem uF{c:Func}{p q:Tmp}(j:c.results = #[.cell p 59,.tmp q]){b w:World}{a:Act}{g:Nat}{r:(Nat->Int) × Int}(e:a.defers = [])
 (h:a.tmps.getD p undef = .pointer (some ⟨g,0,none⟩)) (i:a.tmps.getD q undef = .int .i64 r.2) (f:w.heap[g]? = some (.cells (aS .i64 54 r.1) 59 (0,0))) (d:Below b.heap.size b w) :
 bodyPost Tryz.prog c (O6 r b) .ret a w :=
 bodyPost_ret (by rw[results_cell_tmp j a.tmps w g 59 _ (0,0) _ h f Tryz.underlying59 rfl (by rw[bC]; exact iQ),i]) e ⟨rfl,d⟩
def RS2(x:Nat->Int)(g:Nat)(i n:Int)(w':World):Prop:=w'.heap[g]? = some (.cells (aS .i64 54 x) 59 (0,0))/\w'.cell? ⟨g+1,0,none⟩=some (.int .i64 i)/\w'.cell? ⟨g+1+1,0,none⟩=some (.int .i64 n)
theorem oo(i:Int):gG i=true<->1<=i/\i<=6:=by unfold gG; simp
attribute [local irreducible] Oper.wp wpList Code.wp
end
section
namespace Rt
def qX(x:Nat->Int)(i n:Int):Int:=if decide (cB x i<n)then 11 else 0
def bJ(x:Nat->Int)(i n:Int):(Nat->Int) × Int:=bU x n (gG i) (qX x i n) (6+(i.toNat-1))
theorem Ct(x:Nat->Int)(i:Int) : -(1125899906842624*8)<=cB x i/\cB x i<=1125899906842624*8:=by
 unfold cB;split
 ·exact QK x _
 omega
end Rt
attribute [local irreducible] Oper.wp wpList Code.wp in
set_option maxRecDepth 100000 in
set_option maxHeartbeats 1000000 in
theorem QL(x:Nat->Int)(i n:Int)(g h hi:Nat)(w:World)(hn:1<=n/\n<=1125899906842624)(hib : -9223372036854775808<=i/\i<=9223372036854775807)(hx:Hid (w.heap[g]? = some (.cells (aS .i64 54 x) 59 (0,0))))(hc:w.cell? ⟨h,0,none⟩=some (.int .i64 n))(hci:w.cell? ⟨hi,0,none⟩=some (.int .i64 i)) :
 Calls Tryz.prog 189 #[.pointer (some ⟨h,0,none⟩),.pointer (some ⟨g,0,none⟩),.pointer (some ⟨hi,0,none⟩)] w fun e w'=>e = .returned (.int .i64 (qX x i n))/\Below w.heap.size w w':=by
 have HE:Hid (qX x i n=if decide (cB x i<n)then 11 else 0):=rfl;have hb:=Ct x i;have hlh:=block_lt_of_cell hc;have QM:=block_lt_of_cell hci;have XM:g<w.heap.size:=(t_.1 hx.out).1
 dsimp only at hlh QM
 have hB0:Below w.heap.size w w.drew:=jS w 1;have hs:Hid (∀ w',Calls Tryz.prog 48 #[.agg (aS .i64 54 x),.int .i64 i] w' fun e w''=>e = .returned (.int .i64 (cB x i))/\Below w'.heap.size w' w''):=fun w'=>sS x i w' hib;generalize cB x i=s1 at *;by_cases hd:s1<n
 ·rw[f_ hd,d_ rfl]at HE
  go_enter Tryz.func189,Tryz.ntmps189
  go_upto_region 1 with (fail)
  rename_i K0 J7;refine wp_region_noPanic<|wp_region_held_drew (S:=Below w.heap.size w) (by kernel_rfl) hB0 fun hS => ?_;refine wT0 0 (.int .i64 n) rfl (fun w' hw=>?_) hS ?_
  ·have h2:=(hw.cell (p:=⟨h,0,none⟩) hlh).trans hc;clear hw hc hci
   go_simp
  refine wT0 1 (.agg (aS .i64 54 x)) rfl (fun w' hw=>?_) hS ?_
  ·exact jk 59 (.tmp 1) (by rfl) g (by rfl) 59 (aS .i64 54 x) (0,0) _ ((hw.block _ XM).trans hx.out) Tryz.underlying59 (by rfl) (by rw[bC]; exact iQ)
  refine wT0 2 (.int .i64 i) rfl (fun w' hw=>?_) hS ?_
  ·have h2:=(hw.cell (p:=⟨hi,0,none⟩) QM).trans hci;clear hw hc hci
   go_simp
  refine wpAnyH_all (rs := [3]) (by kernel_rfl) (by decide) ?_;intro j hj;obtain rfl:j=3:=by simpa using hj
  refine wpOp_step rfl<|fun K hK => ?_;clear hj
  go_simp
  refine(hs.out _).mono ?_;rintro e w1 ⟨rfl,hb1⟩;have hS:=J3 hS hb1;refine hK _ _ ⟨hS,?_⟩;clear hK K;refine wT0 4 (.bool true) rfl (fun w' hw=>?_) hS ?_
  ·clear hw hc hci
   go_simp
  refine wpAnyH_all (rs := [5]) (by kernel_rfl) (by decide) ?_;intro j hj;obtain rfl:j=5:=by simpa using hj
  refine wpOp_step rfl<|fun K hK => ?_;clear hj
  go_simp
  refine(vP _ _ _).mono ?_;rintro e w2 ⟨rfl,rfl⟩;refine hK _ _ ⟨hS,?_⟩;clear hK K;refine wT0 6 (.int .i64 11) rfl (fun w' hw=>?_) hS ?_
  ·clear hw hc hci
   go_simp
  refine wpAnyH_done (by kernel_rfl) ?_ _;refine J7 _ _ ?_
  go_wp2
  go_ret
  rw[HE.out];exact⟨rfl,hS⟩
 rw[g_ hd,b_ (by decide)]at HE
 go_enter Tryz.func189,Tryz.ntmps189
 go_upto_region 1 with (fail)
 rename_i K0 J7;refine wp_region_noPanic<|wp_region_held_drew (S:=Below w.heap.size w) (by kernel_rfl) hB0 fun hS => ?_;refine wT0 0 (.int .i64 n) rfl (fun w' hw=>?_) hS ?_
 ·have h2:=(hw.cell (p:=⟨h,0,none⟩) hlh).trans hc;clear hw hc hci
  go_simp
 refine wT0 1 (.agg (aS .i64 54 x)) rfl (fun w' hw=>?_) hS ?_
 ·exact jk 59 (.tmp 1) (by rfl) g (by rfl) 59 (aS .i64 54 x) (0,0) _ ((hw.block _ XM).trans hx.out) Tryz.underlying59 (by rfl) (by rw[bC]; exact iQ)
 refine wT0 2 (.int .i64 i) rfl (fun w' hw=>?_) hS ?_
 ·have h2:=(hw.cell (p:=⟨hi,0,none⟩) QM).trans hci;clear hw hc hci
  go_simp
 refine wpAnyH_all (rs := [3]) (by kernel_rfl) (by decide) ?_;intro j hj;obtain rfl:j=3:=by simpa using hj
 refine wpOp_step rfl<|fun K hK => ?_;clear hj
 go_simp
 refine(hs.out _).mono ?_;rintro e w1 ⟨rfl,hb1⟩;have hS:=J3 hS hb1;refine hK _ _ ⟨hS,?_⟩;clear hK K;refine wT0 4 (.bool false) rfl (fun w' hw=>?_) hS ?_
 ·clear hw hc hci
  go_simp
 refine wpAnyH_all (rs := [5]) (by kernel_rfl) (by decide) ?_;intro j hj;obtain rfl:j=5:=by simpa using hj
 refine wpOp_step rfl<|fun K hK => ?_;clear hj
 go_simp
 refine(vP _ _ _).mono ?_;rintro e w2 ⟨rfl,rfl⟩;refine hK _ _ ⟨hS,?_⟩;clear hK K;refine wT0 6 (.int .i64 0) rfl (fun w' hw=>?_) hS ?_
 ·clear hw hc hci
  go_simp
 refine wpAnyH_done (by kernel_rfl) ?_ _;refine J7 _ _ ?_
 go_wp2
 go_ret
 rw[HE.out];exact⟨rfl,hS⟩
set_option maxHeartbeats 400000 in
theorem QN(g h:Nat)(i:Int)(w:World)(hi:1<=i/\i<=6)(hc:w.cell? ⟨h,0,none⟩=some (.int .i64 i)) :
 Calls Tryz.prog 191 #[.pointer (some ⟨g,0,none⟩),.pointer (some ⟨h,0,none⟩)] w fun e w'=>e = .returned (.pointer (some ⟨g,6+(i.toNat-1),none⟩))/\Below w.heap.size w w':=by
 obtain⟨k,hk⟩:=Int.eq_ofNat_of_zero_le (show 0<=i-1 by omega);obtain rfl:i=(k:Int)+1:=by omega
 have HE:Hid (((k:Int)+1).toNat-1=k):=by unfold Hid; omega
 clear hk
 go_enter Tryz.func191,Tryz.ntmps191
 go_wp2_with fail
 go_quiet (fail)
 go_wp2
 go_ret
 rw[HE.out];exact⟨rfl,bN (Below.refl _ _) _⟩
theorem UC(args:Array Value)(w:World):(callFunc 189 args).run Tryz.prog w = .ok (.enter 189 args) w:=kH Tryz.func189 rfl rfl args w
theorem UD(args:Array Value)(w:World):(callFunc 191 args).run Tryz.prog w = .ok (.enter 191 args) w:=kH Tryz.func191 rfl rfl args w
attribute [local irreducible] Oper.wp wpList Code.wp
set_option maxRecDepth 100000 in
set_option maxHeartbeats 1000000 in
theorem UE(x:Nat->Int)(i n:Int)(w:World)(hi : -9223372036854775808<=i/\i<=9223372036854775807) :
 Calls Tryz.prog 176 #[.agg (aS .i64 54 x),.int .i64 i,.int .i64 n] w (O6 (bJ x i n) w):=by
 go_enter Tryz.func176,Tryz.ntmps176
 go_upto_region 1 with (fail)
 rename_i K0 J7;rw[<- pW];have ha:=Sn w (.cells (aS .i64 54 x) 59) (.cells #[.int .i64 i] 3) (.cells #[.int .i64 n] 2) (.cells (aS .i64 54 zero) 59);generalize (((w.alloc (.cells (aS .i64 54 x) 59)).alloc (.cells #[.int .i64 i] 3)).alloc (.cells #[.int .i64 n] 2)).alloc (.cells (aS .i64 54 zero) 59)=W at *;obtain⟨hx,hI,hN,hz,hs,hB⟩:=ha;have cI:=su hI;have cN:=su hN;have Hx:Hid _:=hx;have Hz:Hid _:=hz;have HI:Hid _:=hI;have HN:Hid _:=hN;have Hs:Hid _:=hs;clear hx hz hI hN hs;refine wp_region_noPanic<|wp_region_held_drew (S:=RS2 x w.heap.size i n) (by kernel_rfl) ⟨Hx.out,cI,cN⟩ fun hS => ?_;refine wT0 0 (.agg (aS .i64 54 x)) rfl (fun w' hw=>?_) hS ?_
 ·exact jk 59 (.tmp 3) (by rfl) w.heap.size (by rfl) 59 (aS .i64 54 x) (0,0) _ hw.1 Tryz.underlying59 (by rfl) (by rw[bC]; exact iQ)
 refine wT0 1 (.int .i64 n) rfl (fun w' hw=>?_) hS ?_
 ·have h2:=hw.2.2
  go_simp
 refine wT0 2 (.int .i64 i) rfl (fun w' hw=>?_) hS ?_
 ·have h2:=hw.2.1;have h3:=hw.2.2;clear hw
  go_simp
 refine wT0 4 (.func (.func 189) #[] #[.pointer (some ⟨w.heap.size+1+1,0,none⟩),.pointer (some ⟨w.heap.size,0,none⟩),.pointer (some ⟨w.heap.size+1,0,none⟩)]) rfl (fun w' hw=>?_) hS ?_
 ·have h2:=hw.2.1;have h3:=hw.2.2;clear hw
  go_simp
 refine wT0 5 (.func (.func 191) #[] #[.pointer (some ⟨w.heap.size+1,0,none⟩)]) rfl (fun w' hw=>?_) hS ?_
 ·have h2:=hw.2.1;have h3:=hw.2.2;clear hw
  go_simp
 refine wpAnyH_all (rs := [3]) (by kernel_rfl) (by decide) ?_;intro j hj;obtain rfl:j=3:=by simpa using hj
 refine wpOp_step rfl<|fun K hK => ?_;clear hj
 go_simp
 refine(sQ i _ hi).mono ?_;rintro e w' ⟨rfl,rfl⟩;refine hK _ _ ⟨hS,?_⟩;clear hK K;refine wpAnyH_all (rs := [6]) (by kernel_rfl) (by decide) ?_;intro j hj;obtain rfl:j=6:=by simpa using hj
 refine wpOp_step rfl<|fun K hK => ?_;clear hj
 go_simp
 have hlx:w.heap.size<W.drew.heap.size:=(t_.1 hS.1).1;have Yr:=block_lt_of_cell hS.2.1;have hlN:=block_lt_of_cell hS.2.2
 dsimp only at Yr hlN
 refine(xq x n (gG i) 189 191 _ _ (qX x i n) (6+(i.toNat-1)) W.drew ?o1 ?o2 UC UD ?o3 ?o4).mono ?_
 case o1=>intro h; have:=(oo i).1 h; omega
 case o2=>intro h hm; have:=(oo i).1 h; exact(xk hm (i.toNat-1) (by omega)).c
 case o3 =>
  intro hm h1 h2 h3 w' hb;exact QL x i n _ _ _ w' ⟨h1,h2⟩ hi ((hb.block _ hlx).trans hS.1) ((hb.cell (p:=⟨w.heap.size+1+1,0,none⟩) hlN).trans hS.2.2) ((hb.cell (p:=⟨w.heap.size+1,0,none⟩) Yr).trans hS.2.1)
 case o4 =>
  intro h w' g hb;exact QN g _ i w' ((oo i).1 h) ((hb.cell (p:=⟨w.heap.size+1,0,none⟩) Yr).trans hS.2.1)
 rintro e w2 ⟨rfl,hb2⟩;have hHR:Hid (bJ x i n=bU x n (gG i) (qX x i n) (6+(i.toNat-1))):=rfl;generalize bU x n (gG i) (qX x i n) (6+(i.toNat-1))=r at *;have hS2:RS2 x w.heap.size i n w2:=⟨(hb2.block _ hlx).trans hS.1,(hb2.cell (p:=⟨w.heap.size+1,0,none⟩) Yr).trans hS.2.1,(hb2.cell (p:=⟨w.heap.size+1+1,0,none⟩) hlN).trans hS.2.2⟩;have hz2:Hid (w2.heap[w.heap.size+1+1+1]? = some (.cells (aS .i64 54 zero) 59 (0,0))):=(hb2.block _ (by show _<W.heap.size; have:=Hs.out; omega)).trans Hz.out;have hB2:Below w.heap.size w w2:=hB.trans ((bdr hb2).mono hB.size);refine hK _ _ ⟨hS2,?_⟩;clear hK K hS hb2;refine wT0 7 (.agg (aS .i64 54 r.1)) rfl (fun w' hw=>?_) hS2 ?_
 ·clear hw
  go_simp
 refine wT0 8 (.int .i64 r.2) rfl (fun w' hw=>?_) hS2 ?_
 ·clear hw
  go_simp
 refine wpAnyH_all (rs := [9]) (by kernel_rfl) (by decide) ?_;intro j hj;obtain rfl:j=9:=by simpa using hj
 clear hj;refine wH (by rfl) (by rfl)<|fun K hK => ?_;refine wp_store_row 59 (.tmp 6) (.tmp 15) (by rfl) (w.heap.size+1+1+1) (aS .i64 54 r.1) (by rfl) (by rfl) 59 (aS .i64 54 zero) hz2.out (by rw[bC]; exact iQ) (by rw[bC,bC]) (kY _ _ _) ?_;have hend:=iK hB2 (by omega) hz2.out r.1;have hS3:RS2 x w.heap.size i n (w2.setRow (w.heap.size+1+1+1) (aS .i64 54 r.1)):=⟨(setRow_other _ _ _ _ (by omega)).trans hS2.1,(World.cell?_of_block (setRow_other _ _ _ _ (by show w.heap.size+1≠_; omega))).trans hS2.2.1,(World.cell?_of_block (setRow_other _ _ _ _ (by show w.heap.size+1+1≠_; omega))).trans hS2.2.2⟩;refine hK _ _ ⟨hS3,?_⟩;clear hK K hz2 hB2 hS2;generalize w2.setRow (w.heap.size+1+1+1) (aS .i64 54 r.1)=w3 at *;refine wT0 10 (.int .i64 r.2) rfl (fun w' hw=>?_) hS3 ?_
 ·clear hw
  go_simp
 refine wpAnyH_done (by kernel_rfl) ?_ _;refine J7 _ _<|wp_ret ?_;rw[hHR.out];exact uF (p:=6) (q:=7) (by kernel_rfl) (by kernel_rfl) (by kernel_rfl) (by kernel_rfl) hend.1 hend.2
end
section
namespace Rt
def qY(x:Nat->Int)(i n:Int):Int:=if decide (C x (i.toNat-1)-F x (i.toNat-1)<n)then 12 else 0
def bK(x:Nat->Int)(i n:Int):(Nat->Int) × Int:=bU x n (gG i) (qY x i n) (12+(i.toNat-1))
end Rt
attribute [local irreducible] Oper.wp wpList Code.wp in
set_option maxRecDepth 100000 in
set_option maxHeartbeats 1000000 in
theorem QO(x:Nat->Int)(i n:Int)(g h hi:Nat)(w:World)(hn:1<=n/\n<=1125899906842624)(hib:1<=i/\i<=6)(hm:may x=true)(hx:Hid (w.heap[g]? = some (.cells (aS .i64 54 x) 59 (0,0))))(hc:w.cell? ⟨h,0,none⟩=some (.int .i64 n))(hci:w.cell? ⟨hi,0,none⟩=some (.int .i64 i)) :
 Calls Tryz.prog 192 #[.pointer (some ⟨h,0,none⟩),.pointer (some ⟨g,0,none⟩),.pointer (some ⟨hi,0,none⟩)] w fun e w'=>e = .returned (.int .i64 (qY x i n))/\Below w.heap.size w w':=by
 obtain⟨k,hk⟩:=Int.eq_ofNat_of_zero_le (show 0<=i-1 by omega);obtain rfl:i=(k:Int)+1:=by omega
 have hk6:k<6:=by omega
 have ho:=xk hm k hk6;have h1:=ho.c;have h2:=ho.f;have h3:=ho.fc;have c6:w.cell? ⟨g,6+k,none⟩=some (.int .i64 (C x k)):=gu hx.out (6+k) (by omega);have c12:w.cell? ⟨g,12+k,none⟩=some (.int .i64 (F x k)):=gu hx.out (12+k) (by omega);have HE:Hid (qY x ((k:Int)+1) n=if decide (C x k-F x k<n)then 12 else 0):=by
  unfold Hid qY;rw[show((k:Int)+1).toNat-1=k by omega]
 clear ho hm hk;generalize C x k=c at *;generalize F x k=f at *;have hlh:=block_lt_of_cell hc;have QM:=block_lt_of_cell hci;have XM:g<w.heap.size:=(t_.1 hx.out).1
 dsimp only at hlh QM
 have hB0:Below w.heap.size w w.drew:=jS w 1;by_cases hd:c-f<n
 ·rw[f_ hd,d_ rfl]at HE
  go_enter Tryz.func192,Tryz.ntmps192
  go_upto_region 1 with (fail)
  rename_i K0 J7;refine wp_region_noPanic<|wp_region_held_drew (S:=Below w.heap.size w) (by kernel_rfl) hB0 fun hS => ?_;refine wT0 0 (.int .i64 n) rfl (fun w' hw=>?_) hS ?_
  ·have h2:=(hw.cell (p:=⟨h,0,none⟩) hlh).trans hc;clear hw hc hci
   go_simp
  refine wT0 1 (.int .i64 ((k:Int)+1)) rfl (fun w' hw=>?_) hS ?_
  ·have h2:=(hw.cell (p:=⟨hi,0,none⟩) QM).trans hci;clear hw hc hci
   go_simp
  refine wT0 2 (.int .i64 (k:Int)) rfl (fun w' hw=>?_) hS ?_
  ·clear hw hc hci
   go_simp
   exact IntWalk.i64_in _ (by omega)
  refine wT0 3 (.pointer (some ⟨g,6,none⟩)) rfl (fun w' hw=>?_) hS ?_
  ·clear hw hc hci
   go_simp
  refine wT0 4 (.pointer (some ⟨g,6+k,none⟩)) rfl (fun w' hw=>?_) hS ?_
  ·have hk7:(k:Int)<6:=(by omega);clear hw hc hci
   go_simp
  refine wT0 5 (.int .i64 c) rfl (fun w' hw=>?_) hS ?_
  ·have h2:=(hw.cell (p:=⟨g,6+k,none⟩) XM).trans c6;clear hw hc hci
   go_simp
  refine wT0 6 (.int .i64 ((k:Int)+1)) rfl (fun w' hw=>?_) hS ?_
  ·have h2:=(hw.cell (p:=⟨hi,0,none⟩) QM).trans hci;clear hw hc hci
   go_simp
  refine wT0 7 (.int .i64 (k:Int)) rfl (fun w' hw=>?_) hS ?_
  ·clear hw hc hci
   go_simp
   exact IntWalk.i64_in _ (by omega)
  refine wT0 8 (.pointer (some ⟨g,12,none⟩)) rfl (fun w' hw=>?_) hS ?_
  ·clear hw hc hci
   go_simp
  refine wT0 9 (.pointer (some ⟨g,12+k,none⟩)) rfl (fun w' hw=>?_) hS ?_
  ·have hk7:(k:Int)<6:=(by omega);clear hw hc hci
   go_simp
  refine wT0 10 (.int .i64 f) rfl (fun w' hw=>?_) hS ?_
  ·have h2:=(hw.cell (p:=⟨g,12+k,none⟩) XM).trans c12;clear hw hc hci
   go_simp
  refine wT0 11 (.int .i64 (c-f)) rfl (fun w' hw=>?_) hS ?_
  ·clear hw hc hci
   go_simp
   exact IntWalk.i64_in _ (by omega)
  refine wT0 12 (.bool true) rfl (fun w' hw=>?_) hS ?_
  ·clear hw hc hci
   go_simp
  refine wpAnyH_all (rs := [13]) (by kernel_rfl) (by decide) ?_;intro j hj;obtain rfl:j=13:=by simpa using hj
  refine wpOp_step rfl<|fun K hK => ?_;clear hj
  go_simp
  refine(vP _ _ _).mono ?_;rintro e w2 ⟨rfl,rfl⟩;refine hK _ _ ⟨hS,?_⟩;clear hK K;refine wT0 14 (.int .i64 12) rfl (fun w' hw=>?_) hS ?_
  ·clear hw hc hci
   go_simp
  refine wpAnyH_done (by kernel_rfl) ?_ _;refine J7 _ _ ?_
  go_wp2
  go_ret
  rw[HE.out];exact⟨rfl,hS⟩
 rw[g_ hd,b_ (by decide)]at HE
 go_enter Tryz.func192,Tryz.ntmps192
 go_upto_region 1 with (fail)
 rename_i K0 J7;refine wp_region_noPanic<|wp_region_held_drew (S:=Below w.heap.size w) (by kernel_rfl) hB0 fun hS => ?_;refine wT0 0 (.int .i64 n) rfl (fun w' hw=>?_) hS ?_
 ·have h2:=(hw.cell (p:=⟨h,0,none⟩) hlh).trans hc;clear hw hc hci
  go_simp
 refine wT0 1 (.int .i64 ((k:Int)+1)) rfl (fun w' hw=>?_) hS ?_
 ·have h2:=(hw.cell (p:=⟨hi,0,none⟩) QM).trans hci;clear hw hc hci
  go_simp
 refine wT0 2 (.int .i64 (k:Int)) rfl (fun w' hw=>?_) hS ?_
 ·clear hw hc hci
  go_simp
  exact IntWalk.i64_in _ (by omega)
 refine wT0 3 (.pointer (some ⟨g,6,none⟩)) rfl (fun w' hw=>?_) hS ?_
 ·clear hw hc hci
  go_simp
 refine wT0 4 (.pointer (some ⟨g,6+k,none⟩)) rfl (fun w' hw=>?_) hS ?_
 ·have hk7:(k:Int)<6:=by omega
  clear hw hc hci
  go_simp
 refine wT0 5 (.int .i64 c) rfl (fun w' hw=>?_) hS ?_
 ·have h2:=(hw.cell (p:=⟨g,6+k,none⟩) XM).trans c6;clear hw hc hci
  go_simp
 refine wT0 6 (.int .i64 ((k:Int)+1)) rfl (fun w' hw=>?_) hS ?_
 ·have h2:=(hw.cell (p:=⟨hi,0,none⟩) QM).trans hci;clear hw hc hci
  go_simp
 refine wT0 7 (.int .i64 (k:Int)) rfl (fun w' hw=>?_) hS ?_
 ·clear hw hc hci
  go_simp
  exact IntWalk.i64_in _ (by omega)
 refine wT0 8 (.pointer (some ⟨g,12,none⟩)) rfl (fun w' hw=>?_) hS ?_
 ·clear hw hc hci
  go_simp
 refine wT0 9 (.pointer (some ⟨g,12+k,none⟩)) rfl (fun w' hw=>?_) hS ?_
 ·have hk7:(k:Int)<6:=by omega
  clear hw hc hci
  go_simp
 refine wT0 10 (.int .i64 f) rfl (fun w' hw=>?_) hS ?_
 ·have h2:=(hw.cell (p:=⟨g,12+k,none⟩) XM).trans c12;clear hw hc hci
  go_simp
 refine wT0 11 (.int .i64 (c-f)) rfl (fun w' hw=>?_) hS ?_
 ·clear hw hc hci
  go_simp
  exact IntWalk.i64_in _ (by omega)
 refine wT0 12 (.bool false) rfl (fun w' hw=>?_) hS ?_
 ·clear hw hc hci
  go_simp
 refine wpAnyH_all (rs := [13]) (by kernel_rfl) (by decide) ?_;intro j hj;obtain rfl:j=13:=by simpa using hj
 refine wpOp_step rfl<|fun K hK => ?_;clear hj
 go_simp
 refine(vP _ _ _).mono ?_;rintro e w2 ⟨rfl,rfl⟩;refine hK _ _ ⟨hS,?_⟩;clear hK K;refine wT0 14 (.int .i64 0) rfl (fun w' hw=>?_) hS ?_
 ·clear hw hc hci
  go_simp
 refine wpAnyH_done (by kernel_rfl) ?_ _;refine J7 _ _ ?_
 go_wp2
 go_ret
 rw[HE.out];exact⟨rfl,hS⟩
attribute [local irreducible] Oper.wp wpList Code.wp
set_option maxHeartbeats 400000 in
theorem QS(g h:Nat)(i:Int)(w:World)(hi:1<=i/\i<=6)(hc:w.cell? ⟨h,0,none⟩=some (.int .i64 i)) :
 Calls Tryz.prog 193 #[.pointer (some ⟨g,0,none⟩),.pointer (some ⟨h,0,none⟩)] w fun e w'=>e = .returned (.pointer (some ⟨g,12+(i.toNat-1),none⟩))/\Below w.heap.size w w':=by
 obtain⟨k,hk⟩:=Int.eq_ofNat_of_zero_le (show 0<=i-1 by omega);obtain rfl:i=(k:Int)+1:=by omega
 have HE:Hid (((k:Int)+1).toNat-1=k):=by unfold Hid; omega
 clear hk
 go_enter Tryz.func193,Tryz.ntmps193
 go_wp2_with fail
 go_quiet (fail)
 go_wp2
 go_ret
 rw[HE.out];exact⟨rfl,bN (Below.refl _ _) _⟩
theorem UF(args:Array Value)(w:World):(callFunc 192 args).run Tryz.prog w = .ok (.enter 192 args) w:=kH Tryz.func192 rfl rfl args w
theorem UG(args:Array Value)(w:World):(callFunc 193 args).run Tryz.prog w = .ok (.enter 193 args) w:=kH Tryz.func193 rfl rfl args w
set_option maxRecDepth 100000 in
set_option maxHeartbeats 1000000 in
theorem UH(x:Nat->Int)(i n:Int)(w:World)(hi : -9223372036854775808<=i/\i<=9223372036854775807) :
 Calls Tryz.prog 179 #[.agg (aS .i64 54 x),.int .i64 i,.int .i64 n] w (O6 (bK x i n) w):=by
 have hmf : ∀(fn:Fn) (first cap:Array Value) (w:World),(Instr.makeFunc fn first cap).run Tryz.prog w = .ok (.func fn first cap) w:=fun _ _ _ _=>rfl
 go_enter Tryz.func179,Tryz.ntmps179
 go_upto_region 1 with (fail)
 rename_i K0 J7;rw[<- pW];have ha:=Sn w (.cells (aS .i64 54 x) 59) (.cells #[.int .i64 i] 3) (.cells #[.int .i64 n] 2) (.cells (aS .i64 54 zero) 59);generalize (((w.alloc (.cells (aS .i64 54 x) 59)).alloc (.cells #[.int .i64 i] 3)).alloc (.cells #[.int .i64 n] 2)).alloc (.cells (aS .i64 54 zero) 59)=W at *;obtain⟨hx,hI,hN,hz,hs,hB⟩:=ha;have cI:=su hI;have cN:=su hN;have Hx:Hid _:=hx;have Hz:Hid _:=hz;have HI:Hid _:=hI;have HN:Hid _:=hN;have Hs:Hid _:=hs;clear hx hz hI hN hs;refine wp_region_noPanic<|wp_region_held_drew (S:=RS2 x w.heap.size i n) (by kernel_rfl) ⟨Hx.out,cI,cN⟩ fun hS => ?_;refine wT0 0 (.agg (aS .i64 54 x)) rfl (fun w' hw=>?_) hS ?_
 ·exact jk 59 (.tmp 3) (by rfl) w.heap.size (by rfl) 59 (aS .i64 54 x) (0,0) _ hw.1 Tryz.underlying59 (by rfl) (by rw[bC]; exact iQ)
 refine wT0 1 (.int .i64 n) rfl (fun w' hw=>?_) hS ?_
 ·have h2:=hw.2.2
  go_simp
 refine wT0 2 (.int .i64 i) rfl (fun w' hw=>?_) hS ?_
 ·have h2:=hw.2.1;have h3:=hw.2.2;clear hw
  go_simp
 refine wT0 4 (.func (.func 192) #[] #[.pointer (some ⟨w.heap.size+1+1,0,none⟩),.pointer (some ⟨w.heap.size,0,none⟩),.pointer (some ⟨w.heap.size+1,0,none⟩)]) rfl (fun w' hw=>?_) hS ?_
 ·have h2:=hw.2.1;have h3:=hw.2.2;clear hw
  go_simp
 refine wT0 5 (.func (.func 193) #[] #[.pointer (some ⟨w.heap.size+1,0,none⟩)]) rfl (fun w' hw=>?_) hS ?_
 ·have h2:=hw.2.1;have h3:=hw.2.2;clear hw
  go_simp
 refine wpAnyH_all (rs := [3]) (by kernel_rfl) (by decide) ?_;intro j hj;obtain rfl:j=3:=by simpa using hj
 refine wpOp_step rfl<|fun K hK => ?_;clear hj
 go_simp
 refine(sQ i _ hi).mono ?_;rintro e w' ⟨rfl,rfl⟩;refine hK _ _ ⟨hS,?_⟩;clear hK K;refine wpAnyH_all (rs := [6]) (by kernel_rfl) (by decide) ?_;intro j hj;obtain rfl:j=6:=by simpa using hj
 refine wpOp_step rfl<|fun K hK => ?_;clear hj
 go_simp
 have hlx:w.heap.size<W.drew.heap.size:=(t_.1 hS.1).1;have Yr:=block_lt_of_cell hS.2.1;have hlN:=block_lt_of_cell hS.2.2
 dsimp only at Yr hlN
 refine(xq x n (gG i) 192 193 _ _ (qY x i n) (12+(i.toNat-1)) W.drew ?o1 ?o2 UF UG ?o3 ?o4).mono ?_
 case o1=>intro h; have:=(oo i).1 h; omega
 case o2=>intro h hm; have:=(oo i).1 h; exact(xk hm (i.toNat-1) (by omega)).f
 case o3 =>
  intro hm h1 h2 h3 w' hb;exact QO x i n _ _ _ w' ⟨h1,h2⟩ ((oo i).1 h3) hm ((hb.block _ hlx).trans hS.1) ((hb.cell (p:=⟨w.heap.size+1+1,0,none⟩) hlN).trans hS.2.2) ((hb.cell (p:=⟨w.heap.size+1,0,none⟩) Yr).trans hS.2.1)
 case o4 =>
  intro h w' g hb;exact QS g _ i w' ((oo i).1 h) ((hb.cell (p:=⟨w.heap.size+1,0,none⟩) Yr).trans hS.2.1)
 rintro e w2 ⟨rfl,hb2⟩;have hHR:Hid (bK x i n=bU x n (gG i) (qY x i n) (12+(i.toNat-1))):=rfl;generalize bU x n (gG i) (qY x i n) (12+(i.toNat-1))=r at *;have hS2:RS2 x w.heap.size i n w2:=⟨(hb2.block _ hlx).trans hS.1,(hb2.cell (p:=⟨w.heap.size+1,0,none⟩) Yr).trans hS.2.1,(hb2.cell (p:=⟨w.heap.size+1+1,0,none⟩) hlN).trans hS.2.2⟩;have hz2:Hid (w2.heap[w.heap.size+1+1+1]? = some (.cells (aS .i64 54 zero) 59 (0,0))):=(hb2.block _ (by show _<W.heap.size; have:=Hs.out; omega)).trans Hz.out;have hB2:Below w.heap.size w w2:=hB.trans ((bdr hb2).mono hB.size);refine hK _ _ ⟨hS2,?_⟩;clear hK K hS hb2;refine wT0 7 (.agg (aS .i64 54 r.1)) rfl (fun w' hw=>?_) hS2 ?_
 ·clear hw
  go_simp
 refine wT0 8 (.int .i64 r.2) rfl (fun w' hw=>?_) hS2 ?_
 ·clear hw
  go_simp
 refine wpAnyH_all (rs := [9]) (by kernel_rfl) (by decide) ?_;intro j hj;obtain rfl:j=9:=by simpa using hj
 clear hj;refine wH (by rfl) (by rfl)<|fun K hK => ?_;refine wp_store_row 59 (.tmp 6) (.tmp 15) (by rfl) (w.heap.size+1+1+1) (aS .i64 54 r.1) (by rfl) (by rfl) 59 (aS .i64 54 zero) hz2.out (by rw[bC]; exact iQ) (by rw[bC,bC]) (kY _ _ _) ?_;have hend:=iK hB2 (by omega) hz2.out r.1;have hS3:RS2 x w.heap.size i n (w2.setRow (w.heap.size+1+1+1) (aS .i64 54 r.1)):=⟨(setRow_other _ _ _ _ (by omega)).trans hS2.1,(World.cell?_of_block (setRow_other _ _ _ _ (by show w.heap.size+1≠_; omega))).trans hS2.2.1,(World.cell?_of_block (setRow_other _ _ _ _ (by show w.heap.size+1+1≠_; omega))).trans hS2.2.2⟩;refine hK _ _ ⟨hS3,?_⟩;clear hK K hz2 hB2 hS2;generalize w2.setRow (w.heap.size+1+1+1) (aS .i64 54 r.1)=w3 at *;refine wT0 10 (.int .i64 r.2) rfl (fun w' hw=>?_) hS3 ?_
 ·clear hw
  go_simp
 refine wpAnyH_done (by kernel_rfl) ?_ _;refine J7 _ _<|wp_ret ?_;rw[hHR.out];exact uF (p:=6) (q:=7) (by kernel_rfl) (by kernel_rfl) (by kernel_rfl) (by kernel_rfl) hend.1 hend.2
end
namespace Rt
def mU(x:Nat->Int)(i j n:Int):Int:=if i=j then 1 else if decide (cB x i<n)then 11 else 0
def jU(i j:Int):Nat:=18+(i.toNat-1)*6+(j.toNat-1)
def cK(x:Nat->Int)(i j n:Int):(Nat->Int) × Int:=bU x n (gG i&&gG j) (mU x i j n) (jU i j)
end Rt
attribute [local irreducible] Oper.wp wpList Code.wp in
set_option maxRecDepth 100000 in
set_option maxHeartbeats 1000000 in
theorem H7(x:Nat->Int)(i j0 n:Int)(g h hi hj:Nat)(w:World)(hn:1<=n/\n<=1125899906842624)(hib : -9223372036854775808<=i/\i<=9223372036854775807)(hjb : -9223372036854775808<=j0/\j0<=9223372036854775807)(hx:Hid (w.heap[g]? = some (.cells (aS .i64 54 x) 59 (0,0))))(hc:w.cell? ⟨h,0,none⟩=some (.int .i64 n))(hci:w.cell? ⟨hi,0,none⟩=some (.int .i64 i))(hcj:w.cell? ⟨hj,0,none⟩=some (.int .i64 j0)) :
 Calls Tryz.prog 194 #[.pointer (some ⟨hi,0,none⟩),.pointer (some ⟨hj,0,none⟩),.pointer (some ⟨h,0,none⟩),.pointer (some ⟨g,0,none⟩)] w fun e w'=>e = .returned (.int .i64 (mU x i j0 n))/\Below w.heap.size w w':=by
 have HE:Hid (mU x i j0 n=if i=j0 then 1 else if decide (cB x i<n)then 11 else 0):=rfl;have hb:=Ct x i;have hlh:=block_lt_of_cell hc;have QM:=block_lt_of_cell hci;have XM:g<w.heap.size:=(t_.1 hx.out).1
 dsimp only at hlh QM
 have hB0:Below w.heap.size w w.drew:=jS w 1;have hs:Hid (∀ w',Calls Tryz.prog 48 #[.agg (aS .i64 54 x),.int .i64 i] w' fun e w''=>e = .returned (.int .i64 (cB x i))/\Below w'.heap.size w' w''):=fun w'=>sS x i w' hib;generalize cB x i=s1 at *;by_cases he:i=j0
 ·rw[d_ he]at HE;subst he
  go_enter Tryz.func194,Tryz.ntmps194
  go_wp2
  go_ret
  rw[HE.out];exact⟨rfl,Below.refl _ _⟩
 rw[b_ he]at HE;have hne:(i==j0)=false:=by simpa using he
 clear he;by_cases hd:s1<n
 ·rw[f_ hd,d_ rfl]at HE
  go_enter Tryz.func194,Tryz.ntmps194
  go_upto_region 3 with (fail)
  rename_i K0 J7;refine wp_region_noPanic<|wp_region_held_drew (S:=Below w.heap.size w) (by kernel_rfl) hB0 fun hS => ?_;refine wT0 0 (.int .i64 n) rfl (fun w' hw=>?_) hS ?_
  ·have h2:=(hw.cell (p:=⟨h,0,none⟩) hlh).trans hc;clear hw hc hci
   go_simp
  refine wT0 1 (.agg (aS .i64 54 x)) rfl (fun w' hw=>?_) hS ?_
  ·exact jk 59 (.tmp 3) (by rfl) g (by rfl) 59 (aS .i64 54 x) (0,0) _ ((hw.block _ XM).trans hx.out) Tryz.underlying59 (by rfl) (by rw[bC]; exact iQ)
  refine wT0 2 (.int .i64 i) rfl (fun w' hw=>?_) hS ?_
  ·have h2:=(hw.cell (p:=⟨hi,0,none⟩) QM).trans hci;clear hw hc hci
   go_simp
  refine wpAnyH_all (rs := [3]) (by kernel_rfl) (by decide) ?_;intro j hj;obtain rfl:j=3:=by simpa using hj
  refine wpOp_step rfl<|fun K hK => ?_;clear hj
  go_simp
  refine(hs.out _).mono ?_;rintro e w1 ⟨rfl,hb1⟩;have hS:=J3 hS hb1;refine hK _ _ ⟨hS,?_⟩;clear hK K;refine wT0 4 (.bool true) rfl (fun w' hw=>?_) hS ?_
  ·clear hw hc hci
   go_simp
  refine wpAnyH_all (rs := [5]) (by kernel_rfl) (by decide) ?_;intro j hj;obtain rfl:j=5:=by simpa using hj
  refine wpOp_step rfl<|fun K hK => ?_;clear hj
  go_simp
  refine(vP _ _ _).mono ?_;rintro e w2 ⟨rfl,rfl⟩;refine hK _ _ ⟨hS,?_⟩;clear hK K;refine wT0 6 (.int .i64 11) rfl (fun w' hw=>?_) hS ?_
  ·clear hw hc hci
   go_simp
  refine wpAnyH_done (by kernel_rfl) ?_ _;refine J7 _ _ ?_
  go_wp2
  go_ret
  rw[HE.out];exact⟨rfl,hS⟩
 rw[g_ hd,b_ (by decide)]at HE
 go_enter Tryz.func194,Tryz.ntmps194
 go_upto_region 3 with (fail)
 rename_i K0 J7;refine wp_region_noPanic<|wp_region_held_drew (S:=Below w.heap.size w) (by kernel_rfl) hB0 fun hS => ?_;refine wT0 0 (.int .i64 n) rfl (fun w' hw=>?_) hS ?_
 ·have h2:=(hw.cell (p:=⟨h,0,none⟩) hlh).trans hc;clear hw hc hci
  go_simp
 refine wT0 1 (.agg (aS .i64 54 x)) rfl (fun w' hw=>?_) hS ?_
 ·exact jk 59 (.tmp 3) (by rfl) g (by rfl) 59 (aS .i64 54 x) (0,0) _ ((hw.block _ XM).trans hx.out) Tryz.underlying59 (by rfl) (by rw[bC]; exact iQ)
 refine wT0 2 (.int .i64 i) rfl (fun w' hw=>?_) hS ?_
 ·have h2:=(hw.cell (p:=⟨hi,0,none⟩) QM).trans hci;clear hw hc hci
  go_simp
 refine wpAnyH_all (rs := [3]) (by kernel_rfl) (by decide) ?_;intro j hj;obtain rfl:j=3:=by simpa using hj
 refine wpOp_step rfl<|fun K hK => ?_;clear hj
 go_simp
 refine(hs.out _).mono ?_;rintro e w1 ⟨rfl,hb1⟩;have hS:=J3 hS hb1;refine hK _ _ ⟨hS,?_⟩;clear hK K;refine wT0 4 (.bool false) rfl (fun w' hw=>?_) hS ?_
 ·clear hw hc hci
  go_simp
 refine wpAnyH_all (rs := [5]) (by kernel_rfl) (by decide) ?_;intro j hj;obtain rfl:j=5:=by simpa using hj
 refine wpOp_step rfl<|fun K hK => ?_;clear hj
 go_simp
 refine(vP _ _ _).mono ?_;rintro e w2 ⟨rfl,rfl⟩;refine hK _ _ ⟨hS,?_⟩;clear hK K;refine wT0 6 (.int .i64 0) rfl (fun w' hw=>?_) hS ?_
 ·clear hw hc hci
  go_simp
 refine wpAnyH_done (by kernel_rfl) ?_ _;refine J7 _ _ ?_
 go_wp2
 go_ret
 rw[HE.out];exact⟨rfl,hS⟩
set_option maxHeartbeats 400000 in
theorem H8(g h1 h2:Nat)(i j:Int)(w:World)(hi:1<=i/\i<=6)(hj:1<=j/\j<=6)(hci:w.cell? ⟨h1,0,none⟩=some (.int .i64 i))(hcj:w.cell? ⟨h2,0,none⟩=some (.int .i64 j)) :
 Calls Tryz.prog 195 #[.pointer (some ⟨g,0,none⟩),.pointer (some ⟨h1,0,none⟩),.pointer (some ⟨h2,0,none⟩)] w fun e w'=>e = .returned (.pointer (some ⟨g,jU i j,none⟩))/\Below w.heap.size w w':=by
 obtain⟨k,hk⟩:=Int.eq_ofNat_of_zero_le (show 0<=i-1 by omega);obtain rfl:i=(k:Int)+1:=by omega
 obtain⟨l,hl⟩:=Int.eq_ofNat_of_zero_le (show 0<=j-1 by omega);obtain rfl:j=(l:Int)+1:=by omega
 have HE:Hid (jU ((k:Int)+1) ((l:Int)+1)=18+k*6+l):=by unfold Hid jU; omega
 clear hk hl
 go_enter Tryz.func195,Tryz.ntmps195
 go_wp2_with fail
 go_quiet (fail)
 go_wp2
 go_ret
 rw[HE.out];exact⟨rfl,bN (Below.refl _ _) _⟩
theorem KU(args:Array Value)(w:World):(callFunc 194 args).run Tryz.prog w = .ok (.enter 194 args) w:=kH Tryz.func194 rfl rfl args w
theorem KV(args:Array Value)(w:World):(callFunc 195 args).run Tryz.prog w = .ok (.enter 195 args) w:=kH Tryz.func195 rfl rfl args w
section
def MH(x:Nat->Int)(g:Nat)(i j n:Int)(w':World):Prop:=w'.heap[g]? = some (.cells (aS .i64 54 x) 59 (0,0))/\w'.cell? ⟨g+1,0,none⟩=some (.int .i64 i)/\w'.cell? ⟨g+1+1,0,none⟩=some (.int .i64 j)/\w'.cell? ⟨g+1+1+1,0,none⟩=some (.int .i64 n)
theorem MH.up{x:Nat->Int}{g:Nat}{i j n:Int}{w w':World}(h:MH x g i j n w)(e:Below w.heap.size w w'):MH x g i j n w':=by
 obtain⟨a,b,c,d⟩:=h;exact⟨(e.block _ (t_.1 a).1).trans a,(e.cell (p:=⟨g+1,0,none⟩) (block_lt_of_cell b)).trans b,(e.cell (p:=⟨g+1+1,0,none⟩) (block_lt_of_cell c)).trans c,(e.cell (p:=⟨g+1+1+1,0,none⟩) (block_lt_of_cell d)).trans d⟩
instance {x:Nat->Int} {g:Nat} {i j n:Int} {w w':World}:Rt.Tr w w' (MH x g i j n w) (MH x g i j n w'):=⟨fun b h=>h.up b⟩
theorem MH.row{x:Nat->Int}{g:Nat}{i j n:Int}{w:World}(h:MH x g i j n w)(cs:Array Value):MH x g i j n (w.setRow (g+1+1+1+1) cs):=by
 obtain⟨a,b,c,d⟩:=h;exact⟨(setRow_other _ _ _ _ (by omega)).trans a,(World.cell?_of_block (setRow_other _ _ _ _ (by show g+1≠_; omega))).trans b,(World.cell?_of_block (setRow_other _ _ _ _ (by show g+1+1≠_; omega))).trans c,(World.cell?_of_block (setRow_other _ _ _ _ (by show g+1+1+1≠_; omega))).trans d⟩
attribute [local irreducible] Oper.wp wpList Code.wp
set_option maxRecDepth 100000 in
set_option maxHeartbeats 2000000 in
theorem UJ(x:Nat->Int)(i j n:Int)(w:World)(hi : -9223372036854775808<=i/\i<=9223372036854775807)(hj0 : -9223372036854775808<=j/\j<=9223372036854775807) :
 Calls Tryz.prog 181 #[.agg (aS .i64 54 x),.int .i64 i,.int .i64 j,.int .i64 n] w (O6 (cK x i j n) w):=by
 have HM:Hid (cK x i j n=bU x n (gG i&&gG j) (mU x i j n) (jU i j)):=rfl;have hri:=oo i;have hrj:=oo j;have UA:Hid (∀ w',Calls Tryz.prog 71 #[.int .i64 i] w' fun e w''=>e = .returned (.bool (gG i))/\w''=w'):=fun w'=>sQ i w' hi;have agY:Hid (∀ w',Calls Tryz.prog 71 #[.int .i64 j] w' fun e w''=>e = .returned (.bool (gG j))/\w''=w'):=fun w'=>sQ j w' hj0;generalize gG i=bi at *;generalize gG j=bj at *;have Hri:Hid _:=hri;have Hrj:Hid _:=hrj;clear hri hrj;have hmf : ∀(fn:Fn) (first cap:Array Value) (w:World),(Instr.makeFunc fn first cap).run Tryz.prog w = .ok (.func fn first cap) w:=fun _ _ _ _=>rfl
 cases bi
 all_goals
  go_enter Tryz.func181,Tryz.ntmps181
  go_upto_region 1 with (fail)
  rename_i K0 J7;rw[<- pW];have ha:=abr w (.cells (aS .i64 54 x) 59) (.cells #[.int .i64 i] 3) (.cells #[.int .i64 j] 3) (.cells #[.int .i64 n] 2) (.cells (aS .i64 54 zero) 59);generalize ((((w.alloc (.cells (aS .i64 54 x) 59)).alloc (.cells #[.int .i64 i] 3)).alloc (.cells #[.int .i64 j] 3)).alloc (.cells #[.int .i64 n] 2)).alloc (.cells (aS .i64 54 zero) 59)=W at *;obtain⟨hx,hI,hJ,hN,hz,hs,hB⟩:=ha;have hS0:MH x w.heap.size i j n W.drew:=⟨hx,su (w:=W) hI,su (w:=W) hJ,su (w:=W) hN⟩;have Hz:Hid _:=hz;have Hs:Hid _:=hs;clear hx hz hI hJ hN hs;refine wp_region_noPanic<|wp_region_held_drew (S:=MH x w.heap.size i j n) (by kernel_rfl) hS0 fun hS => ?_;refine wT0 0 (.agg (aS .i64 54 x)) rfl (fun w' hw=>?_) hS ?_
  ·exact jk 59 (.tmp 4) (by rfl) w.heap.size (by rfl) 59 (aS .i64 54 x) (0,0) _ hw.1 Tryz.underlying59 (by rfl) (by rw[bC]; exact iQ)
  refine wT0 1 (.int .i64 n) rfl (fun w' hw=>?_) hS ?_
  ·have h2:=hw.2.2.2;clear hw
   go_simp
  refine wT0 2 (.int .i64 i) rfl (fun w' hw=>?_) hS ?_
  ·have h2:=hw.2.1;clear hw
   go_simp
  refine wT0 8 (.func (.func 194) #[] #[.pointer (some ⟨w.heap.size+1,0,none⟩),.pointer (some ⟨w.heap.size+1+1,0,none⟩),.pointer (some ⟨w.heap.size+1+1+1,0,none⟩),.pointer (some ⟨w.heap.size,0,none⟩)]) rfl (fun w' hw=>?_) hS ?_
  ·clear hw
   go_simp
  refine wT0 9 (.func (.func 195) #[] #[.pointer (some ⟨w.heap.size+1,0,none⟩),.pointer (some ⟨w.heap.size+1+1,0,none⟩)]) rfl (fun w' hw=>?_) hS ?_
  ·clear hw
   go_simp
  refine wpAnyH_all (rs := [3]) (by kernel_rfl) (by decide) ?_;intro j hj;obtain rfl:j=3:=by simpa using hj
  refine wpOp_step rfl<|fun K hK => ?_;clear hj
  go_simp
  refine(UA.out _).mono ?_;rintro e w' ⟨rfl,rfl⟩;refine hK _ _ ⟨hS,?_⟩;clear hK K
 ·have hoff:false=true->jU i j<54:=nofun;have hcell:false=true->may x=true->0<=x (jU i j)/\x (jU i j)<=1125899906842624:=nofun;have hbd:false=true->(1<=i/\i<=6)/\(1<=j/\j<=6):=nofun;refine wT0 4 (.bool false) rfl (fun w' hw=>?_) hS ?_
  ·clear hw
   go_simp
  refine wpAnyH_take (i:=5) (v:=undef) rfl (by kernel_rfl) (by kernel_rfl) (by kernel_rfl) (fun _ _ _ h=>h) (.inr ⟨by rfl,rfl⟩) hS ?_;refine wpAnyH_take (i:=6) (v:=undef) rfl (by kernel_rfl) (by kernel_rfl) (by kernel_rfl) (fun _ _ _ h=>h) (.inr ⟨by rfl,rfl⟩) hS ?_;refine wT0 7 (.bool false) rfl (fun w' hw=>?_) hS ?_
  ·clear hw
   go_simp
  have HM:Hid (cK x i j n=bU x n false (mU x i j n) (jU i j)):=HM;refine wpAnyH_all (rs := [10]) (by kernel_rfl) (by decide) ?_;intro j hj;obtain rfl:j=10:=by simpa using hj
  refine wpOp_step rfl<|fun K hK => ?_;clear hj
  go_simp
  have hlz:w.heap.size+1+1+1+1<W.drew.heap.size:=by show _<W.heap.size; have:=Hs.out; omega
  refine(xq x n false 194 195 _ _ (mU x i j n) (jU i j) W.drew ?o1 ?o2 KU KV ?o3 ?o4).mono ?_
  case o1=>exact hoff
  case o2=>exact hcell
  case o3=>exact fun hm h1 h2 h3 w' hb=>have hq:=MH.up hS hb; H7 x i j n _ _ _ _ w' ⟨h1,h2⟩ hi hj0 hq.1 hq.2.2.2 hq.2.1 hq.2.2.1
  case o4=>exact fun h w' g hb=>have hq:=MH.up hS hb; H8 g _ _ i j w' (hbd h).1 (hbd h).2 hq.2.1 hq.2.2.1
  rintro e w2 ⟨rfl,hb2⟩;generalize bU x n false (mU x i j n) (jU i j)=r at *;have hz2:Hid (w2.heap[w.heap.size+1+1+1+1]? = some (.cells (aS .i64 54 zero) 59 (0,0))):=(hb2.block _ hlz).trans Hz.out;have hB2:Below w.heap.size w w2:=hB.trans ((bdr hb2).mono hB.size);have hS:=MH.up hS hb2;refine hK _ _ ⟨hS,?_⟩;clear hK K;clear hb2;refine wT0 11 (.agg (aS .i64 54 r.1)) rfl (fun w' hw=>?_) hS ?_
  ·clear hw
   go_simp
  refine wT0 12 (.int .i64 r.2) rfl (fun w' hw=>?_) hS ?_
  ·clear hw
   go_simp
  refine wpAnyH_all (rs := [13]) (by kernel_rfl) (by decide) ?_;intro j' hj';obtain rfl:j'=13:=by simpa using hj'
  clear hj';refine wH (by rfl) (by rfl)<|fun K hK => ?_;refine wp_store_row 59 (.tmp 8) (.tmp 21) (by rfl) (w.heap.size+1+1+1+1) (aS .i64 54 r.1) (by rfl) (by rfl) 59 (aS .i64 54 zero) hz2.out (by rw[bC]; exact iQ) (by rw[bC,bC]) (kY _ _ _) ?_;have hend:=iK hB2 (by omega) hz2.out r.1;have hS:=hS.row (aS .i64 54 r.1);refine hK _ _ ⟨hS,?_⟩;clear hK K hz2 hB2;generalize w2.setRow (w.heap.size+1+1+1+1) (aS .i64 54 r.1)=w3 at *;refine wT0 14 (.int .i64 r.2) rfl (fun w' hw=>?_) hS ?_
  ·clear hw
   go_simp
  refine wpAnyH_done (by kernel_rfl) ?_ _;refine J7 _ _<|wp_ret ?_;rw[HM.out];exact uF (p:=8) (q:=9) (by kernel_rfl) (by kernel_rfl) (by kernel_rfl) (by kernel_rfl) hend.1 hend.2
 have hi6:=Hri.out.1 rfl;have hbd:bj=true->(1<=i/\i<=6)/\(1<=j/\j<=6):=fun h=>⟨hi6,Hrj.out.1 h⟩;have hoff:bj=true->jU i j<54:=fun h=>by have:=hbd h; unfold jU; omega
 have hcell:bj=true->may x=true->0<=x (jU i j)/\x (jU i j)<=1125899906842624:=fun h hm=>by
  have:=hbd h;exact(xk hm (i.toNat-1) (by omega)).r (j.toNat-1) (by omega)
 refine wT0 4 (.bool true) rfl (fun w' hw=>?_) hS ?_
 ·clear hw
  go_simp
 refine wT0 5 (.int .i64 j) rfl (fun w' hw=>?_) hS ?_
 ·have h2:=hw.2.2.1;clear hw
  go_simp
 refine wpAnyH_all (rs := [6]) (by kernel_rfl) (by decide) ?_;intro j hj;obtain rfl:j=6:=by simpa using hj
 refine wpOp_step rfl<|fun K hK => ?_;clear hj
 go_simp
 refine(agY.out _).mono ?_;rintro e w' ⟨rfl,rfl⟩;refine hK _ _ ⟨hS,?_⟩;clear hK K;refine wT0 7 (.bool bj) rfl (fun w' hw=>?_) hS ?_
 ·clear hw
  go_simp
 have HM:Hid (cK x i j n=bU x n bj (mU x i j n) (jU i j)):=HM;refine wpAnyH_all (rs := [10]) (by kernel_rfl) (by decide) ?_;intro j hj;obtain rfl:j=10:=by simpa using hj
 refine wpOp_step rfl<|fun K hK => ?_;clear hj
 go_simp
 have hlz:w.heap.size+1+1+1+1<W.drew.heap.size:=by show _<W.heap.size; have:=Hs.out; omega
 refine(xq x n bj 194 195 _ _ (mU x i j n) (jU i j) W.drew ?o1 ?o2 KU KV ?o3 ?o4).mono ?_
 case o1=>exact hoff
 case o2=>exact hcell
 case o3=>exact fun hm h1 h2 h3 w' hb=>have hq:=MH.up hS hb; H7 x i j n _ _ _ _ w' ⟨h1,h2⟩ hi hj0 hq.1 hq.2.2.2 hq.2.1 hq.2.2.1
 case o4=>exact fun h w' g hb=>have hq:=MH.up hS hb; H8 g _ _ i j w' (hbd h).1 (hbd h).2 hq.2.1 hq.2.2.1
 rintro e w2 ⟨rfl,hb2⟩;generalize bU x n bj (mU x i j n) (jU i j)=r at *;have hz2:Hid (w2.heap[w.heap.size+1+1+1+1]? = some (.cells (aS .i64 54 zero) 59 (0,0))):=(hb2.block _ hlz).trans Hz.out;have hB2:Below w.heap.size w w2:=hB.trans ((bdr hb2).mono hB.size);have hS:=MH.up hS hb2;refine hK _ _ ⟨hS,?_⟩;clear hK K;clear hb2;refine wT0 11 (.agg (aS .i64 54 r.1)) rfl (fun w' hw=>?_) hS ?_
 ·clear hw
  go_simp
 refine wT0 12 (.int .i64 r.2) rfl (fun w' hw=>?_) hS ?_
 ·clear hw
  go_simp
 refine wpAnyH_all (rs := [13]) (by kernel_rfl) (by decide) ?_;intro j' hj';obtain rfl:j'=13:=by simpa using hj'
 clear hj';refine wH (by rfl) (by rfl)<|fun K hK => ?_;refine wp_store_row 59 (.tmp 8) (.tmp 21) (by rfl) (w.heap.size+1+1+1+1) (aS .i64 54 r.1) (by rfl) (by rfl) 59 (aS .i64 54 zero) hz2.out (by rw[bC]; exact iQ) (by rw[bC,bC]) (kY _ _ _) ?_;have hend:=iK hB2 (by omega) hz2.out r.1;have hS:=hS.row (aS .i64 54 r.1);refine hK _ _ ⟨hS,?_⟩;clear hK K hz2 hB2;generalize w2.setRow (w.heap.size+1+1+1+1) (aS .i64 54 r.1)=w3 at *;refine wT0 14 (.int .i64 r.2) rfl (fun w' hw=>?_) hS ?_
 ·clear hw
  go_simp
 refine wpAnyH_done (by kernel_rfl) ?_ _;refine J7 _ _<|wp_ret ?_;rw[HM.out];exact uF (p:=8) (q:=9) (by kernel_rfl) (by kernel_rfl) (by kernel_rfl) (by kernel_rfl) hend.1 hend.2
end
namespace Rt
def L(x:Nat->Int)(k:Nat):Int:=G x k+F x k+R x 0 k+R x 1 k+R x 2 k+R x 3 k+R x 4 k+R x 5 k-C x k-R x k 0-R x k 1-R x k 2-R x k 3-R x k 4-R x k 5
def QT(x:Nat->Int):Prop := ∀ p,p<54->0<=x p/\x p<=1125899906842624
def All(x:Nat->Int):Prop := ∀ k,k<6->0<=L x k/\F x k<=C x k/\R x k k=0
def nE(x:Nat->Int):Int:=G x 0+G x 1+G x 2+G x 3+G x 4+G x 5
theorem EL{l:List Int}(h:mP l=true):ny l=(l.sum,true):=by unfold ny; rw[d_ h]
theorem QT.outs{x:Nat->Int}(h:QT x)(k:Nat)(b:k<6):mP (outs x k 6)=true:=by
 have e:=fun j (hj:j<6)=>h (18+k*6+j) (by omega);have c:=h (6+k) (by omega);unfold mP;rw[List.all_eq_true];intro n a;have:n=x (6+k)\/n=x (18+k*6+0)\/n=x (18+k*6+1)\/n=x (18+k*6+2)\/n=x (18+k*6+3)\/n=x (18+k*6+4)\/n=x (18+k*6+5):=by
  simpa [Rt.outs,C,R,or_assoc] using a
 unfold Az;rw[T_,decide_eq_true_eq,decide_eq_true_eq]
 rcases this with h|h|h|h|h|h|h <;> subst h
 ·exact c
 all_goals exact e _ (by omega)
theorem QT.ins{x:Nat->Int}(h:QT x)(k:Nat)(b:k<6):mP (ins x k 6)=true:=by
 have e:=fun j (hj:j<6)=>h (18+j*6+k) (by omega);have c:=h k (by omega);have f:=h (12+k) (by omega);unfold mP;rw[List.all_eq_true];intro n a;have:n=x k\/n=x (12+k)\/n=x (18+0*6+k)\/n=x (18+1*6+k)\/n=x (18+2*6+k)\/n=x (18+3*6+k)\/n=x (18+4*6+k)\/n=x (18+5*6+k):=by
  simpa [Rt.ins,G,F,R,or_assoc] using a
 unfold Az;rw[T_,decide_eq_true_eq,decide_eq_true_eq]
 rcases this with h|h|h|h|h|h|h|h <;> subst h
 ·exact c
 ·exact f
 all_goals exact e _ (by omega)
theorem UK(x:Nat->Int)(k:Nat):(Rt.outs x k 6).sum=C x k+R x k 0+R x k 1+R x k 2+R x k 3+R x k 4+R x k 5:=by simp[Rt.outs]; omega
theorem Yt(x:Nat->Int)(k:Nat):(Rt.ins x k 6).sum=G x k+F x k+R x 0 k+R x 1 k+R x 2 k+R x 3 k+R x 4 k+R x 5 k:=by simp[Rt.ins]; omega
theorem zH{x:Nat->Int}(h:QT x)(k:Nat)(a:k<6):localM x k=(L x k,true):=by
 unfold localM;rw[EL (h.outs k a),EL (h.ins k a),UK,Yt];unfold L;refine Prod.ext ?_ rfl
 dsimp only
 omega
theorem gH{x:Nat->Int}(h:may x=true):QT x:=by
 intro p e;by_cases a:p<6
 ·exact(xk h p a).g
 by_cases b:p<12
 ·have:=(xk h (p-6) (by omega)).c;unfold C at this; rwa [show 6+(p-6)=p by omega]at this
 by_cases d:p<18
 ·have:=(xk h (p-12) (by omega)).f;unfold F at this; rwa [show 12+(p-12)=p by omega]at this
 have:=(xk h ((p-18) / 6) (by omega)).r ((p-18) % 6) (by omega);unfold R at this; rwa [show 18+(p-18) / 6*6+(p-18) % 6=p by omega]at this
theorem aaT{x:Nat->Int}(h:QT x):mP (gs x)=true:=by
 unfold mP;rw[List.all_eq_true];intro n a;have:n=x 0\/n=x 1\/n=x 2\/n=x 3\/n=x 4\/n=x 5:=by simpa [gs,or_assoc] using a
 unfold Az;rw[T_,decide_eq_true_eq,decide_eq_true_eq]
 rcases this with e|e|e|e|e|e <;> subst e <;> exact h _ (by omega)
theorem UL(x:Nat->Int):(gs x).sum=nE x:=by simp[gs,nE,G]; omega
theorem jX(x:Nat->Int):may x=true<->QT x/\All x/\nE x<=1125899906842624:=by
 constructor
 ·intro h;have e:=gH h;refine⟨e,fun k d => ?_,?_⟩
  ·have o:=xk h k d;have:=o.l;rw[zH e k d]at this;exact⟨this,o.fc,o.rkk⟩
  unfold may at h;rw[T_,T_,EL (aaT e),UL]at h
  simpa using h.2.2
 rintro ⟨e,g,i⟩;have d : ∀ k,k<6->Cr x k=true:=by
  intro k d;obtain⟨a,b,c⟩:=g k d;unfold Cr;rw[zH e k d];simp only[T_,decide_eq_true_eq,beq_iff_eq];exact⟨⟨⟨trivial,a⟩,b⟩,c⟩
 have f : ∀ n,n<=6->En x n=true:=by
  intro n
  induction n with
  | zero=>intro _; rfl
  | succ n ih=>intro f; rw[show En x (n+1)=(En x n&&Cr x n)from rfl,ih (by omega),d n (by omega)]; rfl
 unfold may;rw[f 6 (by omega),EL (aaT e),UL,f_ i];rfl
theorem jP{x:Nat->Int}(h:may x=true)(k:Nat)(a:k<6):cB x ((k:Int)+1)=L x k:=by
 unfold cB;rw[h,Bool.and_true,d_ (by unfold gG; simp; omega),show((k:Int)+1).toNat-1=k by omega,zH (gH h) k a]
def mE(x:Nat->Int):Int:=(C x 0-F x 0)+(C x 1-F x 1)+(C x 2-F x 2)+(C x 3-F x 3)+(C x 4-F x 4)+(C x 5-F x 5)
theorem xW(x:Nat->Int)(i j:Nat)(hi:i<6)(g:j<6)(d:Int)(a b:Nat)(ha:a<6)(f:b<6) :
 R (upd x (18+i*6+j) (x (18+i*6+j)+d)) a b=R x a b+(if a=i then if b=j then d else 0 else 0):=by
 unfold R upd;by_cases c:a=i
 ·by_cases e:b=j
  ·subst c e; simp
  rw[b_ (by omega),d_ c,b_ e]; omega
 rw[b_ (by omega),b_ c]; omega
theorem acY(x:Nat->Int)(i j:Nat)(hi:i<6)(a:j<6)(d:Int)(k:Nat)(b:k<6) :
 L (upd x (18+i*6+j) (x (18+i*6+j)+d)) k=L x k+(if k=j then d else 0)-(if k=i then d else 0):=by
 have l:G (upd x (18+i*6+j) (x (18+i*6+j)+d)) k=G x k:=gK _ _ _ _ (by omega);have f:C (upd x (18+i*6+j) (x (18+i*6+j)+d)) k=C x k:=gK _ _ _ _ (by omega);have g:F (upd x (18+i*6+j) (x (18+i*6+j)+d)) k=F x k:=gK _ _ _ _ (by omega);unfold L
 rw[l,f,g,xW x i j hi a d 0 k (by omega) b,xW x i j hi a d 1 k (by omega) b,xW x i j hi a d 2 k (by omega) b,xW x i j hi a d 3 k (by omega) b,xW x i j hi a d 4 k (by omega) b,xW x i j hi a d 5 k (by omega) b,
  xW x i j hi a d k 0 b (by omega),xW x i j hi a d k 1 b (by omega),xW x i j hi a d k 2 b (by omega),xW x i j hi a d k 3 b (by omega),xW x i j hi a d k 4 b (by omega),xW x i j hi a d k 5 b (by omega)]
 have c:(if 0=i then if k=j then d else 0 else 0)+(if 1=i then if k=j then d else 0 else 0)+(if 2=i then if k=j then d else 0 else 0)+(if 3=i then if k=j then d else 0 else 0)+(if 4=i then if k=j then d else 0 else 0)+(if 5=i then if k=j then d else 0 else 0)=(if k=j then d else 0):=by
  have:i=0\/i=1\/i=2\/i=3\/i=4\/i=5:=by omega
  rcases this with h|h|h|h|h|h <;> subst h <;> simp
 have e:(if k=i then if 0=j then d else 0 else 0)+(if k=i then if 1=j then d else 0 else 0)+(if k=i then if 2=j then d else 0 else 0)+(if k=i then if 3=j then d else 0 else 0)+(if k=i then if 4=j then d else 0 else 0)+(if k=i then if 5=j then d else 0 else 0)=(if k=i then d else 0):=by
  have:j=0\/j=1\/j=2\/j=3\/j=4\/j=5:=by omega
  rcases this with h|h|h|h|h|h <;> subst h <;> simp
 generalize (if 0=i then if k=j then d else 0 else 0)=a0 at *;generalize (if 1=i then if k=j then d else 0 else 0)=a1 at *;generalize (if 2=i then if k=j then d else 0 else 0)=a2 at *;generalize (if 3=i then if k=j then d else 0 else 0)=a3 at *;generalize (if 4=i then if k=j then d else 0 else 0)=a4 at *;generalize (if 5=i then if k=j then d else 0 else 0)=a5 at *;generalize (if k=i then if 0=j then d else 0 else 0)=b0 at *;generalize (if k=i then if 1=j then d else 0 else 0)=b1 at *;generalize (if k=i then if 2=j then d else 0 else 0)=b2 at *;generalize (if k=i then if 3=j then d else 0 else 0)=b3 at *;generalize (if k=i then if 4=j then d else 0 else 0)=b4 at *;generalize (if k=i then if 5=j then d else 0 else 0)=b5 at *;rw[<- c,<- e];omega
end Rt
structure vk where
 inn:Nat->Bool
 left:Nat->Bool
 known:Nat->Int
 na:Option Addr
 nn:Nat
 nc:Nat
 ga:Option Addr
 gn:Nat
 gc:Nat
def kK(s:vk):Nat->Value:=fun p=>if p<6 then .bool (s.inn p)else if p<12 then .bool (s.left (p-6))else if p<18 then aC (s.known (p-12))else if p=18 then .slice s.na s.nn s.nc else .slice s.ga s.gn s.gc
theorem Cu(s:vk){p:Nat}(h:p<6):kK s p = .bool (s.inn p):=by unfold kK; rw[d_ h]
theorem yU(s:vk){p q:Nat}(h:p<6)(e:q=p+6):kK s q = .bool (s.left p):=by subst e; unfold kK; rw[b_ (by omega),d_ (by omega),Nat.add_sub_cancel]
theorem nK(s:vk){p q:Nat}(h:p<6)(e:q=p+12):kK s q=aC (s.known p):=by subst e; unfold kK; rw[b_ (by omega),b_ (by omega),d_ (by omega),Nat.add_sub_cancel]
def jQ(id par:Int)(R:Nat->Int):Nat->Value:=fun p=>if p=0 then aC id else if p=1 then aC par else au (R (p-2))
theorem BG(id par:Int)(R:Nat->Int)(q:Nat):jQ id par R (2+q)=rv .i64 R q:=by unfold jQ rv; rw[b_ (by omega),b_ (by omega),Nat.add_sub_cancel_left]
def Nds(w:World)(a:Option Addr)(n:Nat)(id par:Nat->Int)(R:Nat->Nat->Int):Prop := ∀ k,k<n -> ∃ b c,a=some ⟨b,c,none⟩/\jg w b (c+56*k) 56 (jQ (id k) (par k) (R k))
theorem Nds.below{w w':World}{a:Option Addr}{n:Nat}{id par:Nat->Int}{R:Nat->Nat->Int}(h:Nds w a n id par R)(d:Below w.heap.size w w'):Nds w' a n id par R:=fun k f=>by
 obtain⟨b,g,e,c⟩:=h k f;exact⟨b,g,e,c.below d (c.lt (by omega))⟩
section
structure lV where
 s:vk
 id:Nat->Int
 par:Nat->Int
 R:Nat->Nat->Int
 g:Nat->Nat->Int
 tb:Nat
 ta:Option Addr
 tn:Nat
 tc:Nat
 t:Nat->Nat->Int
 ra:Nat->Option Addr
 rn:Nat->Nat
 rc:Nat->Nat
 rq:Nat->Nat->Int
structure fI where
 inn:Nat->Bool
 left:Nat->Bool
 known:Nat->Int
 nn:Nat
 id:Nat->Int
 par:Nat->Int
 R:Nat->Nat->Int
 gn:Nat
 g:Nat->Nat->Int
 tn:Nat
 t:Nat->Nat->Int
 rn:Nat->Nat
 rq:Nat->Nat->Int
def lV.core(m:lV):fI:=⟨m.s.inn,m.s.left,m.s.known,m.s.nn,m.id,m.par,m.R,m.s.gn,m.g,m.tn,m.t,m.rn,m.rq⟩
def mX(m:lV):Nat->Value:=fun p=>if p<20 then kK m.s p else if p=20 then(pt m.tb)else .slice (m.ra (p-21)) (m.rn (p-21)) (m.rc (p-21))
theorem mF(m:lV){p:Nat}{v:Value}(h:p<20)(e:kK m.s p=v):mX m p=v:=by unfold mX; rw[d_ h]; exact e
theorem xu(m:lV){p q:Nat}(e:q=p+21):mX m q = .slice (m.ra p) (m.rn p) (m.rc p):=by
 subst e; unfold mX; rw[b_ (by omega),b_ (by omega),Nat.add_sub_cancel]
def jw(x:Nat->Int):Nat->Value:=fun p=>if p=0 then au (x 0)else if p=3 then au (x 3)else aC (x p)
def J8(m:lV):Nat->Value:=flat 56 fun k=>jQ (m.id k) (m.par k) (m.R k)
def Jm(m:lV):Nat->Value:=flat 5 fun k=>jw (m.g k)
def lu(c:Nat->Nat->Int):Nat->Int:=fun p=>c (p / 2) (p % 2)
def QU(t:Nat->Nat->Int):Nat->Value:=flat 2 fun k=>rv .u64 (t k)
structure DF(w:World)(p:Nat)(m:lV):Prop where
 c:jg w p 0 27 (mX m)
 an:nT w m.s.na m.s.nn 56 (J8 m)
 ag:nT w m.s.ga m.s.gn 5 (Jm m)
 tc:jg w m.tb 0 1 (fun _ => .slice m.ta m.tn m.tc)
 at2:nT w m.ta m.tn 2 (QU m.t)
 ar : ∀ i,i<6->nT w (m.ra i) (m.rn i) 1 (rv .u64 (m.rq i))
 bn:m.s.nn<=1000000
 bg:m.s.gn<=1000000
 bt:m.tn<=1000000
 br : ∀ i,i<6->m.rn i<=1000000
section
variable {w w':World} {p:Nat} {m:lV}
theorem DF.n(h:DF w p m):Nds w m.s.na m.s.nn m.id m.par m.R:=fun _ a=>h.an.at a
theorem DF.g(h:DF w p m) : ∀ k,k<m.s.gn -> ∃ b a,m.s.ga=some ⟨b,a,none⟩/\jg w b (a+5*k) 5 (jw (m.g k)):=fun _ c=>h.ag.at c
theorem DF.t(h:DF w p m) : ∀ k,k<m.tn -> ∃ b a,m.ta=some ⟨b,a,none⟩/\jg w b (a+2*k) 2 (rv .u64 (m.t k)):=fun _ c=>h.at2.at c
theorem DF.r(h:DF w p m) : ∀ i,i<6 -> ∀ k,k<m.rn i -> ∃ b a,m.ra i=some ⟨b,a,none⟩/\jg w b (a+k) 1 (fun _=>aC (m.rq i k)):=fun i d k g=>by
 obtain⟨b,a,e,c⟩:=h.ar i d (by omega);refine⟨b,a,e,fun j f => ?_⟩;obtain rfl:j=0:=by omega
 exact c k (by omega)
theorem DF.below(h:DF w p m)(a:Below w.heap.size w w'):DF w' p m where
 c:=h.c.below a (h.c.lt (by omega))
 an:=h.an.up a rfl
 ag:=h.ag.up a rfl
 tc:=h.tc.below a (h.tc.lt (by omega))
 at2:=h.at2.up a rfl
 ar:=fun i b=>(h.ar i b).up a rfl
 bn:=h.bn
 bg:=h.bg
 bt:=h.bt
 br:=h.br
end
def fU(P:Nat->Bool):Nat->Int
 | 0 => -1
 | n+1=>if 0<=fU P n then fU P n else if P n then(n:Int)else -1
theorem lD{P:Nat->Bool} : ∀ {n:Nat},(∀ i,i<n->P i=false)->fU P n = -1
 | 0,_=>rfl
 | n+1,h=>by
   have:=lD (P:=P) (n:=n) fun i a=>h i (by omega);simp only[fU]; rw[this,b_ (by omega),h n (by omega)]; rfl
theorem pI{P:Nat->Bool}{k:Nat}(a : ∀ i,i<k->P i=false)(b:P k=true) : ∀ {n:Nat},k<n->fU P n=(k:Int)
 | 0,h=>M_ h (by omega)
 | n+1,h=>by
   simp only[fU];by_cases e:k=n
   ·subst e; rw[lD a,b_ (by omega),b]; rfl
   ·rw[pI a b (n:=n) (by omega),d_ (by omega)]
theorem je(P:Nat->Bool) : ∀ n:Nat,(∃ k:Nat,k<n/\fU P n=(k:Int)/\P k=true)\/(fU P n = -1 /\ ∀ i,i<n->P i=false)
 | 0 => .inr ⟨rfl,fun i h=>M_ h (by omega)⟩
 | n+1=>by
   rcases je P n with ⟨k,d,e,a⟩|⟨e,a⟩
   ·exact .inl ⟨k,by omega,by simp only[fU]; rw[e,d_ (by omega)],a⟩
   ·by_cases h:P n=true
    ·exact .inl ⟨n,by omega,by simp only[fU]; rw[e,b_ (by omega),h]; rfl,h⟩
    ·rw[U_]at h;refine .inr ⟨by simp only[fU]; rw[e,b_ (by omega),h]; rfl,fun i c => ?_⟩;by_cases b:i=n
     ·subst b; exact h
     ·exact a i (by omega)
theorem rX{P:Nat->Bool}{k:Nat}(h : ∀ i,i<k->P i=false)(a:P k=false) : ∀ i,i<k+1->P i=false:=fun i b=>by
 by_cases e:i=k
 ·subst e; exact a
 ·exact h i (by omega)
def lV.node(m:lV)(id:Int):Int:=fU (fun i=>decide (m.id i=id)) m.s.nn
def lV.grant(m:lV)(o r:Int):Int:=fU (fun i=>decide (m.g i 0=o)&&decide (m.g i 1=r)) m.s.gn
def lV.lH(m:lV)(a:Nat)(r:Int):Int:=fU (fun i=>decide (m.rq a i=r)) (m.rn a)
structure FH(w:World)(tb:Nat)(ta:Option Addr)(tn tc:Nat)(t:Nat->Nat->Int):Prop where
 tc:jg w tb 0 1 (fun _ => .slice ta tn tc)
 t : ∀ k,k<tn -> ∃ b off,ta=some ⟨b,off,none⟩/\jg w b (off+2*k) 2 (rv .u64 (t k))
 bt:tn<=1000000
theorem FH.below{w w':World}{f:Nat}{d:Option Addr}{tn g:Nat}{t:Nat->Nat->Int}(h:FH w f d tn g t)(a:Below w.heap.size w w'):FH w' f d tn g t where
 tc:=h.tc.below a (h.tc.lt (by omega))
 t:=fun k i=>by obtain⟨b,j,e,c⟩:=h.t k i; exact⟨b,j,e,c.below a (c.lt (by omega))⟩
 bt:=h.bt
def bG(t:Nat->Nat->Int)(tn:Nat)(x:Int):Int:=fU (fun i=>decide (t i 0=x)) tn
def bI(t:Nat->Nat->Int)(tn:Nat):Nat->Int->Int
 | 0,x=>x
 | k+1,x=>t (bG t tn (bI t tn k x)).toNat 1
def acZ:Value->Nat
 | .slice _ n _=>n
 | _=>0
end
theorem Jo(m:lV)(p:Nat)(x:Int)(w:World)(h:DF w p m) :
 Calls Tryz.prog 56 #[(pt p),aC x] w fun e w'=>e = .returned (au (m.node x))/\Below w.heap.size w w':=by
 have v:=h.c;have J:p<w.heap.size:=v.lt (by omega);have E:=h.bn;have D:=h.bg;have F:=h.bt;refine Kent Tryz.func56 28 ?_;refine ay<|av (au 0)<|aD<|Ws<|ay<|av (au 0)<|aD<|Wb<|Wo (fun f z => ∃ k:Nat,k<=m.s.nn/\(∀ i,i<k->(fun i=>decide (m.id i=x)) i=false)/\f 0=(pt p)/\f 1=aC x/\f 5=au (k:Int)/\jg z p 0 27 (mX m)/\Below w.heap.size w z) (fun f _=>(m.s.nn-(intOf (f 5)).toNat)) ⟨0,by omega,(fun i h=>M_ h (by omega)),(by rfl),Fx.ic,Fx.ic,v,(Below.refl w.heap.size w)⟩ ?_;rintro G K ⟨k,I,l,j,t,a,o,d⟩;refine Ws<|ay<|aT a<|aT j<|av (pt p)<|av (pt p)<|av (pf p 18)<|Lv (.slice m.s.na (m.s.nn) (m.s.nc)) (aM o 18)<|av (au m.s.nn) ?_;by_cases r:(k:Int)<(m.s.nn:Int)
 ·refine Lv aG (gN r)<|aD<|aL<|Wk<|sN<|Ws<|Wb<|Ws ?_;obtain⟨b,y,A,u⟩:=h.n k (by omega);have B:b<w.heap.size:=u.lt (by omega);have C:=u.below d B;refine Wl<|aT j<|av (pt p)<|av (pt p)<|av (pf p 18)<|Lv (.slice m.s.na (m.s.nn) (m.s.nc)) (aM o 18)<|aT a<|Lv (pf b (56*k+y)) (dh 56 (hx:=(rfl.trans (L_ (fun q=>Value.slice q (m.s.nn) (m.s.nc)) A))))<|av (pf b (56*k+y))<|Lv (aC (m.id k)) (aM C 0)<|aT t ?_;by_cases g:(m.id k)=x
  ·refine Lv aG (eX g)<|aD<|aL<|ay<|aT a<|av (au k)<|aD<|Wr<|bP<|sR<|pY<|bP<|sR<|aJ (au k) ?_;exact⟨pF (Eq.symm (pI l (f_ g) (by omega))),d⟩
  refine Lv aF (fT g)<|aD<|aK<|Wk<|bR<|sN<|Wl<|aT a<|Lv (au ((k:Int)+1)) eU<|av (au ((k:Int)+1))<|Ln<|gL ⟨k+1,by omega,(rX l (g_ g)),j,(t.trans Fx.ic),Fx.ic,o,d⟩ ?_;show(m.s.nn-(intOf (au ((k:Int)+1))).toNat)<_;simp only[a,intOf]; omega
 refine Lv aF (gP r)<|aD<|aK<|Wx<|bY<|gJ<|bZ<|sN<|ay<|av (au (-1))<|aD<|Wr<|aJ (au (-1)) ?_;exact⟨pF (Eq.symm (lD (fun i H=>l i (by omega)))),d⟩
theorem Np(a:Nat)(l:Option Addr)(tn d:Nat)(t:Nat->Nat->Int)(x:Int)(w:World)(h:FH w a l tn d t) :
 Calls Tryz.prog 55 #[(pt a),aC x] w fun e w'=>e = .returned (au (bG t tn x))/\Below w.heap.size w w':=by
 have u:=h.tc;have G:a<w.heap.size:=u.lt (by omega);have C:=h.bt;refine Kent Tryz.func55 26 ?_;refine ay<|av (au 0)<|aD<|Ws<|ay<|av (au 0)<|aD<|Wb<|Wo (fun f y => ∃ k:Nat,k<=tn/\(∀ i,i<k->(fun i=>decide (t i 0=x)) i=false)/\f 0=(pt a)/\f 1=aC x/\f 5=au (k:Int)/\jg y a 0 1 (fun _ => .slice l tn d)/\Below w.heap.size w y) (fun f _=>(tn-(intOf (f 5)).toNat)) ⟨0,by omega,(fun i h=>M_ h (by omega)),(by rfl),Fx.ic,Fx.ic,u,(Below.refl w.heap.size w)⟩ ?_;rintro D H ⟨k,F,n,m,r,c,o,g⟩;refine Ws<|ay<|aT c<|aT m<|av (pt a)<|av (pt a)<|Lv (.slice l (tn) (d)) (aM o 0)<|av (au tn) ?_;by_cases p:(k:Int)<(tn:Int)
 ·refine Lv aG (gN p)<|aD<|aL<|Wk<|sN<|Ws<|Wb<|Ws ?_;obtain⟨b,v,z,s⟩:=h.t k (by omega);have A:b<w.heap.size:=s.lt (by omega);have B:=s.below g A;refine Wl<|aT m<|av (pt a)<|av (pt a)<|Lv (.slice l (tn) (d)) (aM o 0)<|aT c<|Lv (pf b (2*k+v)) (dh 2 (hx:=(rfl.trans (L_ (fun q=>Value.slice q (tn) (d)) z))))<|av (pf b (2*k+v))<|Lv (aC ((t k) 0)) (aM B 0)<|aT r ?_;by_cases j:((t k) 0)=x
  ·refine Lv aG (eX j)<|aD<|aL<|ay<|aT c<|av (au k)<|aD<|Wr<|bP<|sR<|pY<|bP<|sR<|aJ (au k) ?_;exact⟨pF (Eq.symm (pI n (f_ j) (by omega))),g⟩
  refine Lv aF (fT j)<|aD<|aK<|Wk<|bR<|sN<|Wl<|aT c<|Lv (au ((k:Int)+1)) eU<|av (au ((k:Int)+1))<|Ln<|gL ⟨k+1,by omega,(rX n (g_ j)),m,(r.trans Fx.ic),Fx.ic,o,g⟩ ?_;show(tn-(intOf (au ((k:Int)+1))).toNat)<_;simp only[c,intOf]; omega
 refine Lv aF (gP p)<|aD<|aK<|Wx<|bY<|gJ<|bZ<|sN<|ay<|av (au (-1))<|aD<|Wr<|aJ (au (-1)) ?_;exact⟨pF (Eq.symm (lD (fun i E=>n i (by omega)))),g⟩
theorem Yu{a b:Prop} [Decidable a] [Decidable b](h : ¬ a):(decide a&&decide b)=false:=by rw[g_ h]; rfl
theorem Yv{a b:Prop} [Decidable a] [Decidable b](h : ¬ b):(decide a&&decide b)=false:=by rw[g_ h,I_]
theorem Yw{a b:Prop} [Decidable a] [Decidable b](h:a)(c:b):(decide a&&decide b)=true:=by rw[f_ h,f_ c]; rfl
theorem Yx(m:lV)(p:Nat)(x r:Int)(w:World)(h:DF w p m) :
 Calls Tryz.prog 110 #[(pt p),au x,aC r] w fun e w'=>e = .returned (au (m.grant x r))/\Below w.heap.size w w':=by
 have C:=h.c;have M:p<w.heap.size:=C.lt (by omega);have H:=h.bn;have G:=h.bg;have I:=h.bt;refine Kent Tryz.func110 43 ?_;refine ay<|av (au 0)<|aD<|Ws<|ay<|av (au 0)<|aD<|Wb<|Wo (fun f E => ∃ k:Nat,k<=m.s.gn/\(∀ i,i<k->(fun i=>decide (m.g i 0=x)&&decide (m.g i 1=r)) i=false)/\f 0=(pt p)/\f 1=au x/\f 2=aC r/\f 7=au (k:Int)/\jg E p 0 27 (mX m)/\Below w.heap.size w E) (fun f _=>(m.s.gn-(intOf (f 7)).toNat)) ⟨0,by omega,(fun i h=>M_ h (by omega)),(by rfl),Fx.ic,Fx.ic,Fx.ic,C,(Below.refl w.heap.size w)⟩ ?_;rintro J N ⟨k,L,t,j,v,y,a,l,d⟩;refine Ws<|ay<|aT a<|aT j<|av (pt p)<|av (pt p)<|av (pf p 19)<|Lv (.slice m.s.ga (m.s.gn) (m.s.gc)) (aM l 19)<|av (au m.s.gn) ?_;by_cases z:(k:Int)<(m.s.gn:Int)
 ·refine Lv aG (gN z)<|aD<|aL<|Wk<|sN<|Ws<|Wb<|Ws ?_;obtain⟨b,u,A,B⟩:=h.g k (by omega);have F:b<w.heap.size:=B.lt (by omega);have D:=B.below d F;refine Wl<|aT j<|av (pt p)<|av (pt p)<|av (pf p 19)<|Lv (.slice m.s.ga (m.s.gn) (m.s.gc)) (aM l 19)<|aT a<|Lv (pf b (5*k+u)) (dh 5 (hx:=(rfl.trans (L_ (fun q=>Value.slice q (m.s.gn) (m.s.gc)) A))))<|av (pf b (5*k+u))<|Lv (au (m.g k 0)) (aM D 0)<|aT v ?_;by_cases n:(m.g k 0)=x
  ·refine Lv aG (eX n)<|av aG<|aT j<|av (pt p)<|av (pt p)<|av (pf p 19)<|Lv (.slice m.s.ga (m.s.gn) (m.s.gc)) (aM l 19)<|aT a<|Lv (pf b (5*k+u)) (dh 5 (hx:=(rfl.trans (L_ (fun q=>Value.slice q (m.s.gn) (m.s.gc)) A))))<|av (pf b (5*k+u+1))<|Lv (aC (m.g k 1)) (aM D 1)<|aT y ?_;by_cases o:(m.g k 1)=r
   ·refine Lv aG (eX o)<|av aG<|aD<|aL<|ay<|aT a<|av (au k)<|aD<|Wr<|bP<|sR<|pY<|bP<|sR<|aJ (au k) ?_;exact⟨pF (Eq.symm (pI t (Yw n o) (by omega))),d⟩
   refine Lv aF (fT o)<|av aF<|aD<|aK<|Wk<|bR<|sN<|Wl<|aT a<|Lv (au ((k:Int)+1)) eU<|av (au ((k:Int)+1))<|Ln<|gL ⟨k+1,by omega,(rX t (Yv o)),j,(v.trans Fx.ic),(y.trans Fx.ic),Fx.ic,l,d⟩ ?_;show(m.s.gn-(intOf (au ((k:Int)+1))).toNat)<_;simp only[a,intOf]; omega
  refine Lv aF (fT n)<|av aF<|dw<|dw<|dw<|dw<|dw<|dw<|dw<|dw<|dw<|dw<|dw<|av aF<|aD<|aK<|Wk<|bR<|sN<|Wl<|aT a<|Lv (au ((k:Int)+1)) eU<|av (au ((k:Int)+1))<|Ln<|gL ⟨k+1,by omega,(rX t (Yu n)),j,(v.trans Fx.ic),(y.trans Fx.ic),Fx.ic,l,d⟩ ?_;show(m.s.gn-(intOf (au ((k:Int)+1))).toNat)<_;simp only[a,intOf]; omega
 refine Lv aF (gP z)<|aD<|aK<|Wx<|bY<|gJ<|bZ<|sN<|ay<|av (au (-1))<|aD<|Wr<|aJ (au (-1)) ?_;exact⟨pF (Eq.symm (lD (fun i K=>t i (by omega)))),d⟩
theorem ada{n:Int}{k:Nat}(h:n=(k:Int)):decide (0<=n)=true:=f_ (by omega)
theorem adb{n:Int}(h:n = -1):decide (0<=n)=false:=g_ (by omega)
theorem Yy(m:lV)(p a:Nat)(r:Int)(w:World)(h:DF w p m)(ha:a<6) :
 Calls Tryz.prog 108 #[(pt p),au ((a:Int)+1),aC r] w fun e w'=>e = .returned (.bool (decide (0<=m.lH a r)))/\Below w.heap.size w w':=by
 have x:=h.c;have K:p<w.heap.size:=x.lt (by omega);have E:=h.bn;have D:=h.bg;have G:=h.bt;have F:=h.br a ha;refine Kent Tryz.func108 32 ?_;refine ay<|av aF<|aD<|Ws<|ay<|av (au 0)<|aD<|Wb<|Wo (fun f y => ∃ k:Nat,k<=m.rn a/\(∀ i,i<k->(fun i=>decide (m.rq a i=r)) i=false)/\f 0=(pt p)/\f 1=au ((a:Int)+1)/\f 2=aC r/\f 7=au (k:Int)/\jg y p 0 27 (mX m)/\Below w.heap.size w y) (fun f _=>(m.rn a-(intOf (f 7)).toNat)) ⟨0,by omega,(fun i h=>M_ h (by omega)),(by rfl),Fx.ic,Fx.ic,Fx.ic,x,(Below.refl w.heap.size w)⟩ ?_;rintro H L ⟨k,J,o,l,n,u,j,s,d⟩;refine Ws<|ay<|aT j<|aT l<|aT n<|Lv (au a) fZ<|av (pt p)<|av (pf p 21)<|Lv (pf p (a+21)) (iY 6 1)<|Lv (.slice (m.ra a) (m.rn a) (m.rc a)) (aM s (a+21) (xu _ (by omega)))<|av (au (((m.rn a):Nat):Int)) ?_;by_cases t:(k:Int)<(((m.rn a):Nat):Int)
 ·refine Lv aG (gN t)<|aD<|aL<|Wk<|sN<|Ws<|Wb<|Ws ?_;obtain⟨b,C,z,v⟩:=h.r a ha k (by omega);have A:b<w.heap.size:=v.lt (by omega);have B:=v.below d A;refine Wl<|aT l<|aT n<|Lv (au a) fZ<|av (pt p)<|av (pf p 21)<|Lv (pf p (a+21)) (iY 6 1)<|Lv (.slice (m.ra a) (m.rn a) (m.rc a)) (aM s (a+21) (xu _ (by omega)))<|aT j<|Lv (pf b (k+C)) (dh 1 (hx:=(rfl.trans (L_ (fun q=>Value.slice q (m.rn a) (m.rc a)) z))))<|Lv (aC (m.rq a k)) (aM B 0)<|aT u ?_;by_cases g:(m.rq a k)=r
  ·refine Lv aG (eX g)<|aD<|aL<|ay<|av aG<|aD<|Wr<|bP<|sR<|pY<|bP<|sR<|aJ aG ?_;exact⟨iB (Eq.symm (ada (pI o (f_ g) (by omega)))),d⟩
  refine Lv aF (fT g)<|aD<|aK<|Wk<|bR<|sN<|Wl<|aT j<|Lv (au ((k:Int)+1)) eU<|av (au ((k:Int)+1))<|Ln<|gL ⟨k+1,by omega,(rX o (g_ g)),l,(n.trans Fx.ic),(u.trans Fx.ic),Fx.ic,s,d⟩ ?_;show(m.rn a-(intOf (au ((k:Int)+1))).toNat)<_;simp only[j,intOf]; omega
 refine Lv aF (gP t)<|aD<|aK<|Wx<|bY<|gJ<|bZ<|sN<|ay<|av aF<|aD<|Wr<|aJ aF ?_;exact⟨iB (Eq.symm (adb (lD (fun i I=>o i (by omega))))),d⟩
namespace Rt
theorem QV{k:Nat}{X:Nat->Int}{z:Int}(a:X k=z) : ∀ j,j<(k+1)*1->gY (rv .u64 X) (k*1) (aZ (fun j=>rv .u64 (fun _=>0) (j % 1)) (0*1) 1 (fun _=>aC z)) j=rv .u64 X j:=by
 intro j b;unfold gY;by_cases h:j<k*1
 ·rw[d_ h]
 rw[b_ h];have e:j=k:=by omega
 subst e;unfold aZ rv;rw[d_ (by omega),a]
theorem O7{t:Nat->Nat->Int}{tn k D:Nat}{x:Int}(a:k<=D)(b:bG t tn (bI t tn D x)<0)(h:0<=bG t tn (bI t tn k x)):k+1<=D:=Nat.lt_of_le_of_ne a fun e=>by subst e; omega
theorem UM{t:Nat->Nat->Int}{tn k:Nat}{x:Int}(h : ∀ i,i<k->0<=bG t tn (bI t tn i x))(a:0<=bG t tn (bI t tn k x)) : ∀ i,i<k+1->0<=bG t tn (bI t tn i x):=fun i b=>by
 by_cases e:i=k
 ·subst e; exact a
 ·exact h i (by omega)
theorem vQ{t:Nat->Nat->Int}{tn:Nat}{x:Int}(h:0<=bG t tn x) : ∃ j:Nat,j<tn/\bG t tn x=(j:Int)/\t j 0=x:=by
 rcases je (fun i=>decide (t i 0=x)) tn with ⟨k,a,e,b⟩|⟨e,_⟩
 ·exact⟨k,a,e,h_ b⟩
 unfold bG at h; rw[e]at h; omega
theorem QW{t:Nat->Nat->Int}{tn k j:Nat}{x:Int}(h:bG t tn (bI t tn k x)=(j:Int)):t j 1=bI t tn (k+1) x:=by
 show _=t (bG t tn (bI t tn k x)).toNat 1;rw[h]; rfl
end Rt
theorem O8(a:Nat)(d:Option Addr)(tn f:Nat)(t:Nat->Nat->Int)(x:Int)(w:World)(h:FH w a d tn f t) :
 Calls Tryz.prog 126 #[(pt a),aC x] w fun e w'=>e = .returned (.bool (decide (0<=bG t tn x)))/\Below w.heap.size w w':=by
 have i:=h.tc;refine Kent Tryz.func126 9 ?_;refine ay<|av aF<|aD<|ay<|av (pt a)<|av (aC x)<|dQ (Np a d tn f t x _ (h.below (Below.refl w.heap.size w))) _ rfl ?_;intro l g;have c:=bF g (Below.refl w.heap.size w);by_cases b:0<=(bG t tn x)
 ·refine Lv aG (kM b)<|av aG<|aD<|Wr<|aJ aG ?_;exact⟨iB (Eq.symm (f_ b)),c⟩
 refine Lv aF (kg b)<|av aF<|aD<|Wr<|aJ aF ?_;exact⟨iB (Eq.symm (g_ b)),c⟩
theorem Jp(c:Nat)(p:Option Addr)(tn d:Nat)(t:Nat->Nat->Int)(x:Int)(D:Nat)(w:World)(h:FH w c p tn d t)(R:bG t tn (bI t tn D x)<0)(hD2:D<=1000) :
 Calls Tryz.prog 27 #[(pt c),aC x] w fun e w' => ∃ K v,e = .returned v/\Fx.Own w' w.heap.size 28 1 v K (rv .u64 (fun i=>bI t tn i x))/\(∀ i,i<K->0<=bG t tn (bI t tn i x))/\bG t tn (bI t tn K x)<0/\Below w.heap.size w w':=by
 have U:=h.tc;have lp:c<w.heap.size:=U.lt (by omega);have bt:=h.bt;refine Kent Tryz.func27 25 ?_;refine ay<|av (.slice none 0 0)<|aD<|ay<|av (.slice none 0 0)<|aD<|Ws<|Wb ?_;have m1:Fx.Own w w.heap.size 28 1 (.slice none 0 0) 0 (rv .u64 (fun i=>bI t tn i x)):=tO _ _ _ _ _;refine Wo (fun f N => ∃ k:Nat,∃ a:Option Addr,∃ l:Nat,k<=D/\(∀ i,i<k->0<=bG t tn (bI t tn i x))/\f 0=(pt c)/\f 1=aC (bI t tn k x)/\f 5 = .slice a (k) (l)/\jg N c 0 1 (fun _ => .slice p tn d)/\Fx.Own N w.heap.size 28 1 (.slice a k l) k (rv .u64 (fun i=>bI t tn i x))/\Below w.heap.size w N) (fun f _=>(D-acZ (f 5))) ⟨0,none,0,by omega,(fun i h=>M_ h (by omega)),(by rfl),(by rfl),(by rfl),U,m1,(Below.refl w.heap.size w)⟩ ?_;rintro f1 w1 ⟨k,a,l,X,S,z,n,G,m2,m3,O⟩;refine Ws<|ay<|aT z<|aT n<|dQ (Np c p tn d t (bI t tn k x) _ (h.below O)) _ rfl ?_;intro w2 hb1;have⟨Z,I,A⟩:=jr hb1 m2 m3 O;by_cases g:0<=(bG t tn (bI t tn k x))
 ·refine Lv aG (kM g)<|aD<|aL<|Wk<|sN<|Wb<|Ws ?_;obtain⟨j,W,P,_⟩:=vQ g;refine Wl<|aT G<|aT n<|xY (vs := [(0,aC (bI t tn k x))]) (s:=1) (zc:=rv .u64 (fun _=>0)) (y:=aZ (fun j=>(rv .u64 (fun _=>0)) (j % 1)) (0*1) 1 (fun _=>aC (bI t tn k x))) (by rfl) rfl rfl Tryz.underlying63 (by kernel_rfl) (by rfl) (by rfl) (by kernel_rfl) (by rw[aR (off:=0*1) (s:=1) (y:=fun _=>aC (bI t tn k x)) rfl (cells_one (by rfl)) (by rfl)]; rfl) rfl fun Q w3 F m6 s2 z1 => ?_;have⟨m7,J,C⟩:=jr s2.old Z I A;have tN:=iT F A.size;have Am:c≠Q:=by rw[F]; exact u_ (Z.lt (by omega))
  have KW:(.slice a k l:Value).ownBlock≠some Q:=by rw[F]; exact I.jo (A_ _)
  have uM:=m6.lt;refine yu (B:=w.heap.size) (s:=1) (bytes:=8) (k:=k) (m:=1) (by rfl) rfl rfl rfl Tryz.underlying63 (by kernel_rfl) (by kernel_rfl) rfl rfl J m6.aI (fun j W=>by rcases j with _|j <;> first|rfl|omega) (by omega) (by omega) (by omega) C.size fun u r M ho1 V sH hlt1 => ?_
  have H:jg M c 0 1 (fun _ => .slice p tn d):=m7.grown V (J.not (by omega));have m9:Fx.Own M w.heap.size 28 1 (bO u (k+1) r) (k+1) (rv .u64 (fun i=>bI t tn i x)):=ho1.congr (QV rfl);have E:Below w.heap.size w M:=yt C V C.size (fun q hq=>(J.ge hq).1);refine av (bO u (k+1) r)<|aD ?_;obtain⟨b,off,ea,T⟩:=h.t j W;have lb:b<w.heap.size:=T.lt (by omega);have Y:=T.below E lb;refine nu<|eB z<|aX (pt c)<|aX (pt c)<|Qv (.slice p (tn) (d)) (fun L o=>aM (H.below o (H.lt (by omega))) 0)<|eB z<|eB n<|zT (fun L o=>((Np c p tn d t (bI t tn k x) _ (h.below (J3 E o))).mono fun e w2 n=>(⟨n.1.trans (by rw[P]),n.2⟩:e = .returned (au (j:Int))/\_))) _ rfl<|Qv (pf b (2*j+off)) (fun L o=>dh 2 (hx:=(rfl.trans (L_ (fun q=>Value.slice q (tn) (d)) ea))))<|aX (pf b (2*j+off+1))<|Qv (aC ((t j) 1)) (fun L o=>aM (Y.below o (Y.lt (by omega))) 1)<|aX (aC ((t j) 1))<|Qn ?_;intro Yh uq;have⟨m12,m13,b5⟩:=jr uq H m9 E;refine bR ?_;have kD:=O7 X R g;refine gL ⟨k+1,(some ⟨u,0,none⟩),r,(O7 X R g),(UM S g),z,(L_ (Value.int .u64) (QW P)),(by rfl),m12,m13,b5⟩ ?_;show(D-acZ (bO u (k+1) r))<_;simp only[G,intOf,acZ]; omega
 refine Lv aF (kg g)<|aD<|aK<|Wx<|bY<|gJ<|bZ<|sN<|ay<|aT G<|av (.slice a (k) (l))<|aD<|Wr<|aJ (.slice a (k) (l)) ?_;exact⟨k,_,rfl,I,S,by omega,A⟩
namespace Rt
def qK(k a:Nat):lV := { s:=⟨fun i=>decide (i<k),fun _=>false,fun _=>0,none,0,0,none,0,0⟩,id:=fun _=>0,par:=fun _=>0,R:=fun _ _=>0,g:=fun _ _=>0,tb:=a,ta:=none,tn:=0,tc:=0,t:=fun _ _=>0,ra:=fun _=>none,rn:=fun _=>0,rc:=fun _=>0,rq:=fun _ _=>0 }
theorem QX(k c:Nat)(d:k<6):dD (mX (qK k c)) k (.bool true)=mX (qK (k+1) c):=by
 funext p
 unfold dD;by_cases e:p=k
 ·subst e; rw[d_ rfl];exact(mF _ (by omega) ((Cu _ d).trans (L_ Value.bool (f_ (show p<p+1 by omega))))).symm
 rw[b_ e];unfold mX;by_cases h:p<20
 ·rw[d_ h,d_ h];unfold kK;by_cases a:p<6
  ·rw[d_ a,d_ a];show Value.bool (decide (p<k))=Value.bool (decide (p<k+1));by_cases b:p<k
   ·rw[f_ b,f_ (show p<k+1 by omega)]
   rw[g_ b,g_ (show ¬ p<k+1 by omega)]
  rw[b_ a,b_ a]; rfl
 rw[b_ h,b_ h]; rfl
end Rt
set_option maxRecDepth 10000 in
theorem aha(n:Nat)(w:World)(h1:1<=n)(S:n<=6) :
 Calls Tryz.prog 24 #[au (n:Int)] w fun e w' => ∃ p h,e = .returned (.tuple #[(pt p),au 0])/\w.heap.size<=p/\DF w' p (qK n h)/\Below w.heap.size w w'/\aP w' p 27 (mX (qK n h)) 71/\aP w' h 1 (fun _ => .slice none 0 0) 123/\w.heap.size<=h:=by
 refine Kent Tryz.func24 28 ?_;refine ay<|av (.pointer none)<|av (au 0)<|aD<|Ws<|ay<|av (au n)<|Lv aF Hf<|av aF<|av (au n)<|Lv aF yL<|av aF<|aD<|aK<|Wk<|sN<|ay<|av (.agg (aA 1 (fun _ => .slice none 0 0)))<|rE fun b Y D q N z1 => ?_;have u:=bF N.old (Below.refl w.heap.size w);have G:=iy D;refine av (.agg (aA 27 (aZ (fun i=>(#[.bool false,.bool false,.bool false,.bool false,.bool false,.bool false,.bool false,.bool false,.bool false,.bool false,.bool false,.bool false,aC 0,aC 0,aC 0,aC 0,aC 0,aC 0,.slice none 0 0,.slice none 0 0,.pointer none,.slice none 0 0,.slice none 0 0,.slice none 0 0,.slice none 0 0,.slice none 0 0,.slice none 0 0]:Array Value).getD i undef) 20 1 (fun _=>(pt b)))))<|EB (m:=27) (y:=aZ (fun i=>(#[.bool false,.bool false,.bool false,.bool false,.bool false,.bool false,.bool false,.bool false,.bool false,.bool false,.bool false,.bool false,aC 0,aC 0,aC 0,aC 0,aC 0,aC 0,.slice none 0 0,.slice none 0 0,.pointer none,.slice none 0 0,.slice none 0 0,.slice none 0 0,.slice none 0 0,.slice none 0 0,.slice none 0 0]:Array Value).getD i undef) 20 1 (fun _=>(pt b))) (by rfl) rfl rfl (bD _ _) rfl fun a P x z O z2 => ?_;have⟨I,B⟩:=fF O.old q u;have H:=iT x u.size;refine av (pt a)<|aD<|Ws<|ay<|av (au 0)<|aD<|Wb ?_;have J:=z.congr (fun j T=>by rcases j with _|_|_|_|_|_|_|_|_|_|_|_|_|_|_|_|_|_|_|_|_|_|_|_|_|_|_|j <;> first|rfl|omega)
 refine Wo (fun f t => ∃ k:Nat,k<=n/\f 0=au (n:Int)/\f 4=(pt a)/\f 5=au (k:Int)/\aP t b 1 (fun _ => .slice none 0 0) 123/\aP t a 27 (mX (qK k b)) 71/\Below w.heap.size w t) (fun f _=>(n-(intOf (f 5)).toNat)) ⟨0,by omega,Fx.ic,(by rfl),Fx.ic,I,J,B⟩ ?_;rintro R Z ⟨k,U,h1,o,g,r,s,l⟩;refine Ws<|ay<|aT g<|aT h1 ?_;by_cases v:(k:Int)<(n:Int)
 ·refine Lv aG (gN v)<|aD<|aL<|Wk<|sN<|Ws<|Wb<|Wl<|aT o<|aT g<|av (pt a)<|av (pt a)<|av (pt a)<|Lv (pf a k) (iY 6 1)<|jh s k aG fun Q K A z3 => ?_;have L:=r.cZ A (by omega);have C:=A.below l l.size (by omega);refine Ln<|bR<|sN<|Wl<|aT g<|Lv (au ((k:Int)+1)) eU<|av (au ((k:Int)+1))<|Ln ?_;have M:=K.to (QX k b (by omega))
  skip
  refine gL ⟨k+1,by omega,(h1.trans Fx.ic),o,Fx.ic,L,M,C⟩ ?_;show(n-(intOf (au ((k:Int)+1))).toNat)<_;simp only[g,intOf]; omega
 refine Lv aF (gP v)<|aD<|aK<|Wx<|bY<|gJ<|bZ<|sN<|ay<|aT o<|av (pt a)<|av (au 0)<|aD<|Wr<|aJ (.tuple #[(pt a),au 0]) ?_;have E:k=n:=by omega
 subst E;exact⟨_,_,rfl,H,{ c:=s.aI,an:=fun d=>M_ d (Nat.lt_irrefl 0),ag:=fun d=>M_ d (Nat.lt_irrefl 0),tc:=r.aI,at2:=fun d=>M_ d (Nat.lt_irrefl 0),ar:=fun i F d=>M_ d (Nat.lt_irrefl 0),bn:=K_ _,bg:=K_ _,bt:=K_ _,br:=fun i F=>K_ _ },l,s,r,G⟩
end Go.Proofs.YtahbiajdgealnaaGreatDoor
