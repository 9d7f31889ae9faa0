/-
  What the proof of the law rests on, part 3: walks of functions, and plain laws; each says its conditions itself.
-/
import Derived.Test.YtahbiajdgealnaaDoorRows
import Derived.BigRegion
import Derived.Deep.DeepCutAuto
import Derived.Test.YtahbiajdgealnaaDoorZC2
set_option maxHeartbeats 1600000
set_option linter.unusedVariables false
set_option linter.unusedSimpArgs false
namespace Go.Proofs.YtahbiajdgealnaaDoor
open Go.RowKit Rt
open Fx (fI fq fP bF gX gW dA dY gP jE eZ jF gy jv jG Lv sN Ln Ws Qv Wl Rp Wc Qs Wr Sb Lk Wk rC rV sR Rs Rn Rd Rk Wb Wx Wo FQ Wt rT Qn F3 Bl Af Ar DI Ei rM gK Av mV wI uT wX xX Aq DL Au rv aA aQ bR aN ev bZ Stp dJ aR flat dD Mp fA aU iR iQ bJ down iI jM iT nY bP bL cells_one jl bS wQ unseen jN iK bX dH bI bT cK cO gU iB qo gu)
section
open Rt
set_option maxRecDepth 10000
theorem aau{c f:Int}(a b:Nat)(i:c=(a:Int))(j:f=(b:Int))(B g n cap:Nat)(d:Array Int)(w:World)(h:Fx.Own w B 22 1 (bK g n cap) n (rv .u64 (gA d)))(k:B<=w.heap.size)(m:d.size=n)(o:n<=1000)(ha:a<=b)(l:b<=n) :
 Calls Tryd.prog 110 #[bK g n cap,au c,au f] w fun e w'=>e = .returned (.tuple #[])/\Fx.Own w' B 22 1 (bK g n cap) n (rv .u64 (gA (Sort.insertionSort Sort.ltInt d a b)))/\Below B w w':=by
 subst i j; exact aep a b B g n cap d w h k m o ha l
theorem WW{c f:Int}(a b:Nat)(i:c=(a:Int))(j:f=(b:Int))(B g n cap:Nat)(d:Array Int)(w:World)(h:Fx.Own w B 22 1 (bK g n cap) n (rv .u64 (gA d)))(k:B<=w.heap.size)(m:d.size=n)(o:n<=1000)(ha:a<b)(l:b<=n) :
 Calls Tryd.prog 111 #[bK g n cap,au c,au f] w fun e w'=>e = .returned (.tuple #[])/\Fx.Own w' B 22 1 (bK g n cap) n (rv .u64 (gA (Sort.heapSort Sort.ltInt d a b)))/\Below B w w':=by
 subst i j; exact aak a b B g n cap d w h k m o ha l
theorem aav{c f:Int}(a b:Nat)(i:c=(a:Int))(j:f=(b:Int))(B g n cap:Nat)(d:Array Int)(w:World)(h:Fx.Own w B 22 1 (bK g n cap) n (rv .u64 (gA d)))(k:B<=w.heap.size)(m:d.size=n)(o:n<=1000)(ha:a<b)(l:b<=n) :
 Calls Tryd.prog 114 #[bK g n cap,au c,au f] w fun e w'=>e = .returned (.tuple #[])/\Fx.Own w' B 22 1 (bK g n cap) n (rv .u64 (gA (Sort.reverseRange d a b)))/\Below B w w':=by
 subst i j; exact aes a b B g n cap d w h k m o ha l
def Y7(m:Nat):Prop := ∀(i j k:Int) (a b l:Nat) (B g n f:Nat) (d:Array Int) (w:World) (h:Fx.Own w B 22 1 (bK g n f) n (rv .u64 (gA d))) (hB:B<=w.heap.size) (hn:d.size=n) (hs:n<=1000) (h50:n<50) (hl:l<=1000) (hab:a<=b) (hb:b<=n) (hBel:Sort.Below Sort.ltInt a b d),i=(a:Int)->j=(b:Int)->k=(l:Int)->b-a<m ->
    Calls Tryd.prog 99 #[bK g n f,au i,au j,au k] w fun e w' => ∃ c:Array Int,e = .returned (.tuple #[])/\c.size=n/\Sort.PermIn a b d c/\Sort.SortedIn Sort.ltInt a b c/\Fx.Own w' B 22 1 (bK g n f) n (rv .u64 (gA c))/\Below B w w'
theorem aaw(m:Nat)(ih:Y7 m)(a b lim:Nat)(B g n cap:Nat)(d:Array Int)(w:World)(h:Fx.Own w B 22 1 (bK g n cap) n (rv .u64 (gA d)))(r:B<=w.heap.size)(hn:d.size=n)(x:n<=1000)(V:n<50)(hl:lim<=1000)(hab:a<=b)(hb:b<=n)(hBel:Sort.Below Sort.ltInt a b d)(hm:b-a<m+1) :
 Calls Tryd.prog 99 #[bK g n cap,au (a:Int),au (b:Int),au (lim:Int)] w fun e w' => ∃ d2:Array Int,e = .returned (.tuple #[])/\d2.size=n/\Sort.PermIn a b d d2/\Sort.SortedIn Sort.ltInt a b d2/\Fx.Own w' B 22 1 (bK g n cap) n (rv .u64 (gA d2))/\Below B w w':=by
 refine Kent Tryd.func99 134 ?_;refine ay<|av aG<|aD<|ay<|av aG<|aD<|Wb<|FQ (fun kk f A => ∃ c:Nat,∃ i:Nat,∃ N:Nat,∃ v:Array Int,∃ O:Bool,∃ wp:Bool,v.size=n/\Sort.Below Sort.ltInt c i v/\(∀ R,Sort.PermIn c i v R->Sort.SortedIn Sort.ltInt c i R->Sort.PermIn a b d R/\Sort.SortedIn Sort.ltInt a b R)/\(c<=i/\i<=n/\N<=1000/\i-c<=b-a)/\kk=i-c/\f 0=bK g n cap/\f 1=au (c:Int)/\f 2=au (i:Int)/\f 3=au (N:Int)/\f 8 = .bool O/\f 9 = .bool wp/\Fx.Own A B 22 1 (bK g n cap) n (rv .u64 (gA v))/\Below B w A) (b-a) ⟨a,b,lim,d,true,true,hn,hBel,(fun R U J=>⟨U,J⟩),(by omega),rfl,(by rfl),Fx.ic,Fx.ic,Fx.ic,(by rfl),(by rfl),h,(Below.refl B w)⟩ ?_;rintro kk f1 w1 ⟨c,i,N,v,O,wp,hk,hBl,K,atB,hkk,U,J,h3,h4,h5,h6,m1,S⟩;refine Wb<|ay<|aY h3<|aY J<|Lv (au ((i:Int)-(c:Int))) fQ<|av (au ((i:Int)-(c:Int)))<|aD<|Ws<|ay<|av (au ((i:Int)-(c:Int))) ?_;by_cases c23:((i:Int)-(c:Int))<=12
 ·refine Lv aG (mW c23)<|aD<|aO<|ay<|aY U<|aY J<|aY h3<|dL (aau c i (by omega) (by omega) B g n cap v _ m1 (m_ r S.size) hk x (by omega) (by omega)) (ax := #[bK g n cap,au (c:Int),au (i:Int)]) _ rfl ?_;rintro w2 ⟨m2,hb1⟩;have b2:=S.trans hb1;refine aD (Wr (sR (bI (qo (bI (⟨.tuple #[],iI Tryd.results99,?_⟩))))));have Y:=(Sort.insertionSort_holds Sort.swo_ltInt v c i (by omega) (by omega));have M:=K _ Y.1 Y.2;exact⟨_,rfl,Y.1.1.trans hk,M.1,M.2,m2,b2⟩
 refine Lv aF (nk c23)<|aD<|aL<|Wk<|sN<|Ws<|ay<|aY h4 ?_;by_cases c29:(N:Int)=0
 ·refine Lv aG (eY c29)<|aD<|aO<|ay<|aY U<|aY J<|aY h3<|dL (WW c i (by omega) (by omega) B g n cap v _ m1 (m_ r S.size) hk x (by omega) (by omega)) (ax := #[bK g n cap,au (c:Int),au (i:Int)]) _ rfl ?_;rintro w3 ⟨m3,hb2⟩;have b3:=S.trans hb2;refine aD (Wr (sR (bI (qo (bI (⟨.tuple #[],iI Tryd.results99,?_⟩))))));have Y:=(Sort.heapSort_holds Sort.swo_ltInt v c i (by omega) (by omega));have M:=K _ Y.1 Y.2;exact⟨_,rfl,Y.1.1.trans hk,M.1,M.2,m3,b3⟩
 refine Lv aF (fU c29)<|aD<|aL<|Wk<|sN<|DL (fun f A => ∃ p:Nat,∃ I:Array Int,I.size=n/\Sort.PermIn c i v I/\p<=1000/\f 0=bK g n cap/\f 1=au (c:Int)/\f 2=au (i:Int)/\f 3=au (p:Int)/\f 8 = .bool O/\f 9 = .bool wp/\f 10=au ((i:Int)-(c:Int))/\Fx.Own A B 22 1 (bK g n cap) n (rv .u64 (gA I))/\Below B w A) ?_ ?_
 ·refine ay ?_;by_cases c34:O=true
  ·refine aY (h5.trans (K_ Value.bool c34))<|av aF<|aD<|aL<|Wk ?_;exact wQ ⟨N,v,hk,(Sort.permIn_refl _ _ _),(by omega),U,(J.trans Fx.ic),(h3.trans Fx.ic),(h4.trans Fx.ic),h5,h6,Fx.ic,m1,S⟩
  rw[S_]at c34;refine aY (h5.trans (K_ Value.bool c34))<|av aG<|aD<|aO<|ay<|aY U<|aY J<|aY h3<|lS (aew c i B g n cap v _ m1 (m_ r S.size) hk x (by omega) (by omega) V) ?_;rintro D w4 ⟨dn1,l,hz1,hP1,m4,hb3⟩;have b4:=S.trans hb3;refine⟨_,l,?_⟩;clear l;refine aD<|Wl<|aY h4<|Lv (au ((N:Int)-1)) fQ<|av (au ((N:Int)-1))<|Ln ?_;exact wQ ⟨N-1,dn1,hz1,hP1,(by omega),U,(J.trans Fx.ic),(h3.trans Fx.ic),Fx.ic,h5,h6,Fx.ic,m4,b4⟩
 rintro f2 w5 ⟨p,I,hk1,hP1,hl2,h7,h8,h9,h10,h11,h12,Pz,m5,b5⟩;refine ay<|aY h7<|aY h8<|aY h9<|lS (aey c i B g n cap I _ m5 (m_ r b5.size) hk1 x (by omega) (by omega) V) ?_;rintro D w6 ⟨H,ht1,l,hu1,G,m6,hb4⟩;have b6:=b5.trans hb4;refine⟨_,l,?_⟩;clear l;refine av (.tuple #[au (H:Int),au ht1])<|av (au H)<|av (au ht1)<|av (au H)<|av (au ht1)<|aD<|DL (fun f A => ∃ q:Nat,∃ hint:Int,∃ o:Array Int,o.size=n/\Sort.PermIn c i v o/\(c<=q/\q<i)/\f 0=bK g n cap/\f 1=au (c:Int)/\f 2=au (i:Int)/\f 3=au (p:Int)/\f 8 = .bool O/\f 9 = .bool wp/\f 10=au ((i:Int)-(c:Int))/\f 11=au (q:Int)/\f 12=au hint/\Fx.Own A B 22 1 (bK g n cap) n (rv .u64 (gA o))/\Below B w A) ?_ ?_
 ·refine ay<|av (au ht1) ?_;by_cases c50:ht1=2
  ·refine Lv aG (eY c50)<|aD<|aO<|ay<|aY h7<|aY h8<|aY h9<|dL (aav c i (by omega) (by omega) B g n cap I _ m6 (m_ r b6.size) hk1 x (by omega) (by omega)) (ax := #[bK g n cap,au (c:Int),au (i:Int)]) _ rfl ?_;rintro w7 ⟨m7,hb5⟩;have b7:=b6.trans hb5;refine aD<|ay<|aY h9<|Lv (au ((i:Int)-1)) fQ<|av (au H)<|aY h8<|Lv (au ((H:Int)-(c:Int))) fQ<|Lv (au ((c:Int)+(i:Int)-(H:Int)-1)) fQ<|av (au ((c:Int)+(i:Int)-(H:Int)-1))<|aD<|Wl<|av (au 1)<|Ln ?_;exact wQ ⟨c+i-H-1,1,Sort.reverseRange I c i,((Sort.reverseRange_holds _ _ _ (by omega) (by omega)).1.trans hk1),(Sort.permIn_trans _ _ _ _ _ hP1 (Sort.reverseRange_holds _ _ _ (by omega) (by omega))),(by omega),h7,(h8.trans Fx.ic),(h9.trans Fx.ic),(h10.trans Fx.ic),h11,h12,(Pz.trans Fx.ic),Fx.ic,Fx.ic,m7,b7⟩
  refine Lv aF (fU c50)<|aD<|aL<|Wk ?_;exact wQ ⟨H,ht1,I,hk1,hP1,(by omega),h7,(h8.trans Fx.ic),(h9.trans Fx.ic),(h10.trans Fx.ic),h11,h12,(Pz.trans Fx.ic),Fx.ic,Fx.ic,m6,b6⟩
 rintro f3 w8 ⟨q,hint,o,hk2,F,L,Ml,NW,h16,WR,h18,h19,h20,h21,h22,m8,b8⟩;obtain⟨hpv1,hpv2⟩:=L;have L:=And.intro hpv1 hpv2;refine DL (fun f A=>f 0=bK g n cap/\f 1=au (c:Int)/\f 2=au (i:Int)/\f 3=au (p:Int)/\f 8 = .bool O/\f 9 = .bool wp/\f 10=au ((i:Int)-(c:Int))/\f 11=au (q:Int)/\Fx.Own A B 22 1 (bK g n cap) n (rv .u64 (gA o))/\Below B w A) ?_ ?_
 ·refine ay ?_;by_cases c61:O=true
  ·refine aY (h18.trans (K_ Value.bool c61))<|av aG ?_;by_cases c63:wp=true
   ·refine aY (h19.trans (K_ Value.bool c63))<|av aG<|av aG<|aY h22 ?_;by_cases c67:hint=1
    ·refine Lv aG (eY c67)<|av aG<|aD<|aO<|ay<|aY Ml<|aY NW<|aY h16<|lS (aaq c i B g n cap o _ m8 (m_ r b8.size) hk2 x (by omega) (by omega) V) ?_;rintro D w9 ⟨r1,l,hS1,m9,hb6⟩;have b9:=b8.trans hb6
     rcases r1 with _|_
     ·refine⟨_,l,?_⟩;clear l;refine aD<|aL<|Wk ?_;exact wQ ⟨Ml,(NW.trans Fx.ic),(h16.trans Fx.ic),(WR.trans Fx.ic),h18,h19,(h20.trans Fx.ic),(h21.trans Fx.ic),m9,b9⟩
     refine⟨_,l,?_⟩;clear l;refine aD (aO (Wr (Fx.jnR (bI (qo (bI (⟨.tuple #[],iI Tryd.results99,?_⟩)))))));have M:=K _ F (hS1 rfl);exact⟨_,rfl,hk2,M.1,M.2,m9,b9⟩
    refine Lv aF (fU c67)<|av aF<|aD<|aL<|Wk ?_;exact wQ ⟨Ml,(NW.trans Fx.ic),(h16.trans Fx.ic),(WR.trans Fx.ic),h18,h19,(h20.trans Fx.ic),(h21.trans Fx.ic),m8,b8⟩
   rw[S_]at c63;refine aY (h19.trans (K_ Value.bool c63))<|av aF<|av aF<|dB<|dB<|av aF<|aD<|aL<|Wk ?_;exact wQ ⟨Ml,(NW.trans Fx.ic),(h16.trans Fx.ic),(WR.trans Fx.ic),h18,h19,(h20.trans Fx.ic),(h21.trans Fx.ic),m8,b8⟩
  rw[S_]at c61;refine aY (h18.trans (K_ Value.bool c61))<|av aF<|dB<|av aF<|av aF<|dB<|dB<|av aF<|aD<|aL<|Wk ?_;exact wQ ⟨Ml,(NW.trans Fx.ic),(h16.trans Fx.ic),(WR.trans Fx.ic),h18,h19,(h20.trans Fx.ic),(h21.trans Fx.ic),m8,b8⟩
 rintro f4 rO ⟨s,y,C,E,h27,h28,h29,h30,m10,b10⟩;refine Ws<|Ws ?_;refine mI<|eB y ?_;by_cases c74:0<(c:Int)
 ·refine Qv aG (fun v1 G=>nu c74)<|aX aG<|eB s<|eB y<|Qv (au ((c:Int)-1)) (fun v1 G=>fQ)<|Qv (pf g (c-1)) (fun v1 G=>dh 1)<|Qv (aC ((gA o) (c-1))) (fun v1 G=>aM (m10.cb G) (c-1))<|eB s<|eB h30<|Qv (pf g q) (fun v1 G=>dh 1)<|Qv (aC ((gA o) q)) (fun v1 G=>aM (m10.cb G) q) ?_;by_cases c85:(decide ((gA o) (c-1)<(gA o) q))=true
  ·refine pO (fun _ _=>dN ((gA o) (c-1)) ((gA o) q) _) aG (by rw[c85])<|aX aF<|aX aF<|Qn ?_;intro WO sP;have m11:=bE sP m10;have b11:=eP sP b10 r;refine sN<|aL<|Wk<|sN<|ay<|aY s<|aY y<|aY C<|aY h30<|lS (aez c i q B g n cap o _ m11 (m_ r b11.size) hk2 x (by omega) (by omega) (by omega)) ?_;rintro D F7 ⟨j,P,dn2,l,hu2,hv2,hz2,m12,hb7⟩;have b12:=b11.trans hb7;have hx:Sort.partition Sort.ltInt o c i q=(j,(Sort.partition Sort.ltInt o c i q).2.1,dn2):=Prod.ext hu2 (Prod.ext rfl hv2);obtain⟨r1,r2,r3,r4,r5,r6,r7⟩:=Sort.round_part Sort.swo_ltInt (Sort.partition_holds _) L.1 L.2 (by omega) (hBl.perm (by omega) F) hx;clear hx;refine⟨_,l,?_⟩;clear l;refine av (.tuple #[au (j:Int),.bool P])<|av (au j)<|av (.bool P)<|av (au j)<|av (.bool P)<|aD<|ay<|av (.bool P)<|av (.bool P)<|aD<|ay<|av (au j)<|aY y<|Lv (au ((j:Int)-(c:Int))) fQ<|aY C<|av (au j)<|Lv (au ((i:Int)-(j:Int))) fQ<|av (au ((j:Int)-(c:Int)))<|av (au ((i:Int)-(j:Int)))<|aD<|ay<|aY h29<|Lv (au ((i-c) / 8:Nat)) (Fx.Ct rfl rfl rfl (by omega) (iT (by omega) (by rw[Int.tdiv_eq_ediv_of_nonneg (by omega)]; omega)))<|av (au ((i-c) / 8:Nat))<|aD<|ay<|av (au ((j:Int)-(c:Int)))<|av (au ((i:Int)-(j:Int))) ?_;by_cases Ke:((j:Int)-(c:Int))<((i:Int)-(j:Int))
   ·refine Lv aG (iL Ke)<|aD<|aO<|ay<|av (au ((j:Int)-(c:Int)))<|av (au ((i-c) / 8:Nat))<|Lv (.bool (decide (((i-c) / 8:Nat)<=((j:Int)-(c:Int))))) (Fx.Ef rfl rfl rfl)<|av (.bool (decide (((i-c) / 8:Nat)<=((j:Int)-(c:Int)))))<|aD<|ay<|aY s<|aY y<|av (au j)<|aY E<|lS (ih _ _ _ c j p B g n cap dn2 _ m12 (m_ r b12.size) hz2 x V (by omega) (by omega) (by omega) r4 (by omega) (by omega) (by omega) (by omega)) (ax := #[bK g n cap,au (c:Int),au (j:Int),au (p:Int)]) ?_;rintro D Cx ⟨T,l,Z,W,X,m13,hb8⟩;refine⟨_,l,?_⟩;clear l;have b13:=b12.trans hb8;obtain⟨q1,z⟩:=r6 _ W X;refine aD (Wl (av (au j) (Lv (au ((j:Int)+1)) fE (av (au ((j:Int)+1)) (Ln (bT (iB ⟨i-(j+1),(by omega),j+1,i,p,T,(decide (((i-c) / 8:Nat)<=((j:Int)-(c:Int)))),(P),Z,q1,(fun R t u=>K R (Sort.permIn_trans _ _ _ _ _ F (z R t u).1) (z R t u).2),(by omega),rfl,s,Fx.ic,(C.trans Fx.ic),(E.trans Fx.ic),(by rfl),(by rfl),m13,b13⟩ (by decide))))))))
   refine Lv aF (iM Ke)<|aD<|aL<|ay<|av (au ((i:Int)-(j:Int)))<|av (au ((i-c) / 8:Nat))<|Lv (.bool (decide (((i-c) / 8:Nat)<=((i:Int)-(j:Int))))) (Fx.Ef rfl rfl rfl)<|av (.bool (decide (((i-c) / 8:Nat)<=((i:Int)-(j:Int)))))<|aD<|ay<|aY s<|av (au j)<|Lv (au ((j:Int)+1)) fE<|aY C<|aY E<|lS (ih _ _ _ (j+1) i p B g n cap dn2 _ m12 (m_ r b12.size) hz2 x V (by omega) (by omega) (by omega) r5 (by omega) (by omega) (by omega) (by omega)) (ax := #[bK g n cap,au ((j:Int)+1),au (i:Int),au (p:Int)]) ?_;rintro D F8 ⟨T,l,Z,W,X,m14,hb9⟩;refine⟨_,l,?_⟩;clear l;have b14:=b12.trans hb9;obtain⟨q1,z⟩:=r7 _ W X;refine aD (Wl (av (au j) (av (au j) (Ln (bT (iB ⟨j-c,(by omega),c,j,p,T,(decide (((i-c) / 8:Nat)<=((i:Int)-(j:Int)))),(P),Z,q1,(fun R t u=>K R (Sort.permIn_trans _ _ _ _ _ F (z R t u).1) (z R t u).2),(by omega),rfl,s,(y.trans Fx.ic),Fx.ic,(E.trans Fx.ic),(by rfl),(by rfl),m14,b14⟩ (by decide)))))))
  rw[S_]at c85;refine pO (fun _ _=>dN ((gA o) (c-1)) ((gA o) q) _) aF (by rw[c85])<|aX aG<|aX aG<|Qn ?_;intro Y1 wB;have m15:=bE wB m10;have b15:=eP wB b10 r;refine sN<|aO<|ay<|aY s<|aY y<|aY C<|aY h30<|lS (ajr c i q B g n cap o _ m15 (m_ r b15.size) hk2 x (by omega) (by omega) (by omega)) ?_;rintro D NY ⟨SY,dn3,l,hx1,hz3,m16,ajL⟩;have b16:=b15.trans ajL;obtain⟨r1,r2,r3,r4,r5⟩:=Sort.round_eq Sort.swo_ltInt (Sort.partitionEqual_holds _) (by omega) L.1 L.2 (by omega) (hBl.perm (by omega) F) (wz (j_ c85)) hx1;refine⟨_,l,?_⟩;clear l;refine av (au SY) (aD (ay (av (au SY) (av (au SY) (aD (Wx (cK (cO (iB ⟨i-SY,(by omega),SY,i,p,dn3,(O),(wp),hz3,r4,(fun R t u=>K R (Sort.permIn_trans _ _ _ _ _ F (r5 R t u).1) (r5 R t u).2),(by omega),rfl,s,Fx.ic,(C.trans Fx.ic),(E.trans Fx.ic),h27,h28,m16,b16⟩ (by decide))))))))))
 refine Qv aF (fun v1 G=>ny c74)<|aX aF<|aP<|aP<|aP<|aP<|aP<|aP<|aP<|aP<|aP<|aP<|aP<|aX aF<|Qn ?_;intro wb3 wC;have m17:=bE wC m10;have b17:=eP wC b10 r;refine sN<|aL<|Wk<|sN<|ay<|aY s<|aY y<|aY C<|aY h30<|lS (aez c i q B g n cap o _ m17 (m_ r b17.size) hk2 x (by omega) (by omega) (by omega)) ?_;rintro D LK ⟨k,Q,dn4,l,hu3,hv3,Y8,m18,ajN⟩;have b18:=b17.trans ajN;have hx:Sort.partition Sort.ltInt o c i q=(k,(Sort.partition Sort.ltInt o c i q).2.1,dn4):=Prod.ext hu3 (Prod.ext rfl hv3);obtain⟨r1,r2,r3,r4,r5,r6,r7⟩:=Sort.round_part Sort.swo_ltInt (Sort.partition_holds _) L.1 L.2 (by omega) (hBl.perm (by omega) F) hx;clear hx;refine⟨_,l,?_⟩;clear l;refine av (.tuple #[au (k:Int),.bool Q])<|av (au k)<|av (.bool Q)<|av (au k)<|av (.bool Q)<|aD<|ay<|av (.bool Q)<|av (.bool Q)<|aD<|ay<|av (au k)<|aY y<|Lv (au ((k:Int)-(c:Int))) fQ<|aY C<|av (au k)<|Lv (au ((i:Int)-(k:Int))) fQ<|av (au ((k:Int)-(c:Int)))<|av (au ((i:Int)-(k:Int)))<|aD<|ay<|aY h29<|Lv (au ((i-c) / 8:Nat)) (Fx.Ct rfl rfl rfl (by omega) (iT (by omega) (by rw[Int.tdiv_eq_ediv_of_nonneg (by omega)]; omega)))<|av (au ((i-c) / 8:Nat))<|aD<|ay<|av (au ((k:Int)-(c:Int)))<|av (au ((i:Int)-(k:Int))) ?_;by_cases Ke:((k:Int)-(c:Int))<((i:Int)-(k:Int))
 ·refine Lv aG (iL Ke)<|aD<|aO<|ay<|av (au ((k:Int)-(c:Int)))<|av (au ((i-c) / 8:Nat))<|Lv (.bool (decide (((i-c) / 8:Nat)<=((k:Int)-(c:Int))))) (Fx.Ef rfl rfl rfl)<|av (.bool (decide (((i-c) / 8:Nat)<=((k:Int)-(c:Int)))))<|aD<|ay<|aY s<|aY y<|av (au k)<|aY E<|lS (ih _ _ _ c k p B g n cap dn4 _ m18 (m_ r b18.size) Y8 x V (by omega) (by omega) (by omega) r4 (by omega) (by omega) (by omega) (by omega)) (ax := #[bK g n cap,au (c:Int),au (k:Int),au (p:Int)]) ?_;rintro D w16 ⟨T,l,Z,W,X,m19,ajO⟩;refine⟨_,l,?_⟩;clear l;have b19:=b18.trans ajO;obtain⟨q1,z⟩:=r6 _ W X;refine aD (Wl (av (au k) (Lv (au ((k:Int)+1)) fE (av (au ((k:Int)+1)) (Ln (bT (iB ⟨i-(k+1),(by omega),k+1,i,p,T,(decide (((i-c) / 8:Nat)<=((k:Int)-(c:Int)))),(Q),Z,q1,(fun R t u=>K R (Sort.permIn_trans _ _ _ _ _ F (z R t u).1) (z R t u).2),(by omega),rfl,s,Fx.ic,(C.trans Fx.ic),(E.trans Fx.ic),(by rfl),(by rfl),m19,b19⟩ (by decide))))))))
 refine Lv aF (iM Ke)<|aD<|aL<|ay<|av (au ((i:Int)-(k:Int)))<|av (au ((i-c) / 8:Nat))<|Lv (.bool (decide (((i-c) / 8:Nat)<=((i:Int)-(k:Int))))) (Fx.Ef rfl rfl rfl)<|av (.bool (decide (((i-c) / 8:Nat)<=((i:Int)-(k:Int)))))<|aD<|ay<|aY s<|av (au k)<|Lv (au ((k:Int)+1)) fE<|aY C<|aY E<|lS (ih _ _ _ (k+1) i p B g n cap dn4 _ m18 (m_ r b18.size) Y8 x V (by omega) (by omega) (by omega) r5 (by omega) (by omega) (by omega) (by omega)) (ax := #[bK g n cap,au ((k:Int)+1),au (i:Int),au (p:Int)]) ?_;rintro D WV ⟨T,l,Z,W,X,m20,ajP⟩;refine⟨_,l,?_⟩;clear l;have b20:=b18.trans ajP;obtain⟨q1,z⟩:=r7 _ W X;refine aD (Wl (av (au k) (av (au k) (Ln (bT (iB ⟨k-c,(by omega),c,k,p,T,(decide (((i-c) / 8:Nat)<=((i:Int)-(k:Int)))),(Q),Z,q1,(fun R t u=>K R (Sort.permIn_trans _ _ _ _ _ F (z R t u).1) (z R t u).2),(by omega),rfl,s,(y.trans Fx.ic),Fx.ic,(E.trans Fx.ic),(by rfl),(by rfl),m20,b20⟩ (by decide)))))))
end
section
open Rt
set_option maxRecDepth 10000
theorem Y9 : ∀ m,Y7 m
 | 0=>by
   intro v x y a b u B g n c d w h k s t j q o p l e f i r;omega
 | m+1=>by
   intro v x y a b u B g n c d w h k s t j q o p l e f i r;subst e f i;exact aaw m (Y9 m) a b u B g n c d w h k s t j q o p l r
theorem WX(B g n cap:Nat)(d:Array Int)(w:World)(h:Fx.Own w B 22 1 (bK g n cap) n (rv .u64 (gA d)))(j:B<=w.heap.size)(o:d.size=n)(p:n<=1000)(i:n<50) :
 Calls Tryd.prog 73 #[bK g n cap] w fun e w' => ∃ a:Array Int,e = .returned (.tuple #[])/\a.size=n/\Sort.PermIn 0 n d a/\Sort.SortedIn Sort.ltInt 0 n a/\Fx.Own w' B 22 1 (bK g n cap) n (rv .u64 (gA a))/\Below B w w':=by
 have t:=NV (show n<64 by omega);refine Kent Tryd.func73 11 ?_;refine ay<|av (bK g n cap)<|av (au n)<|av (au n)<|aD<|Wl<|av (bK g n cap)<|av (au n)<|av (au n)<|Lv (aC n) (dA rfl rfl (by kernel_rfl) Tryd.underlying130 (jN (by omega) rfl))<|oC (Sd n _ (by omega)) _ rfl<|lS (Y9 (n+1) _ _ _ 0 n (Sort.bitsLen n) B g n cap d _ h (m_ j (Below.refl B w).size) o p i (by omega) (by omega) (by omega) (.inl rfl) rfl rfl rfl (by omega)) (ax := #[bK g n cap,au 0,au (n:Int),au (Sort.bitsLen n:Int)]) ?_;rintro s u ⟨f,b,q,k,l,r,m⟩;refine⟨_,b,?_⟩;clear b;have c:=(Below.refl B w).trans m;refine Ln (⟨.tuple #[],iI Tryd.results73,?_⟩);exact⟨f,rfl,q,k,l,r,c⟩
theorem aax(w:World) :
 Calls Tryd.prog 110 #[.slice none 0 0,au 0,au 0] w fun e w'=>e = .returned (.tuple #[])/\Below w.heap.size w w':=by
 refine Kent Tryd.func110 49 ?_;refine ay<|av (au 0)<|Lv (au 1) fE<|av (au 1)<|aD<|Wb<|Wo (fun f d=>f 1=au 0/\f 2=au 0/\f 6=au 1/\Below w.heap.size w d) (fun f _=>0) ⟨Fx.ic,Fx.ic,Fx.ic,(Below.refl w.heap.size w)⟩ ?_;rintro g i ⟨h,b,c,a⟩;refine Ws (ay (aY c (aY b (Lv aF Gn (aD (aL (Wx (cK (gU (cO (⟨.tuple #[],iI Tryd.results110,?_⟩)))))))))));exact⟨rfl,a⟩
theorem aay(w:World) :
 Calls Tryd.prog 99 #[.slice none 0 0,au 0,au 0,au 0] w fun e w'=>e = .returned (.tuple #[])/\Below w.heap.size w w':=by
 refine Kent Tryd.func99 134 ?_;refine ay<|av aG<|aD<|ay<|av aG<|aD<|Wb<|Wo (fun f i=>f 0 = .slice none 0 0/\f 1=au 0/\f 2=au 0/\Below w.heap.size w i) (fun f _=>0) ⟨(by rfl),Fx.ic,Fx.ic,(Below.refl w.heap.size w)⟩ ?_;rintro j k ⟨g,a,b,c⟩;refine Wb<|ay<|aY b<|aY a<|Lv (au 0) fQ<|av (au 0)<|aD<|Ws<|ay<|av (au 0)<|Lv aG adZ<|aD<|aO<|ay<|aY g<|aY a<|aY b<|dL (aax _) _ rfl ?_;intro l h;have d:=bE h c;refine aD (Wr (sR (bI (qo (bI (⟨.tuple #[],iI Tryd.results99,?_⟩))))));exact⟨rfl,d⟩
theorem aaz(w:World):Calls Tryd.prog 54 #[aC 0] w fun e w'=>e = .returned (au 0)/\w'=w:=Sd 0 w (by omega)
theorem WY(w:World) :
 Calls Tryd.prog 73 #[.slice none 0 0] w fun e w'=>e = .returned (.tuple #[])/\Below w.heap.size w w':=by
 refine Kent Tryd.func73 11 ?_;refine ay<|av (.slice none 0 0)<|av (au 0)<|av (au 0)<|aD<|Wl<|av (.slice none 0 0)<|av (au 0)<|av (au 0)<|Lv (aC 0) (dA rfl rfl (by kernel_rfl) Tryd.underlying130 (jN (by omega) rfl))<|oC (aaz _) _ rfl<|dL (aay _) _ rfl ?_;intro c b;have a:=bE b (Below.refl w.heap.size w);refine Ln (⟨.tuple #[],iI Tryd.results73,?_⟩);exact⟨rfl,a⟩
theorem aaA{w:World}{B n cap:Nat}{a:Option Addr}{d:Array Int}(h:Fx.Own w B 22 1 (.slice a n cap) n (rv .u64 (gA d)))(f:B<=w.heap.size)(k:d.size=n)(p:n<50) :
 Calls Tryd.prog 73 #[.slice a n cap] w fun e w' => ∃ b:Array Int,e = .returned (.tuple #[])/\b.size=n/\Sort.PermIn 0 n d b/\Sort.SortedIn Sort.ltInt 0 n b/\Fx.Own w' B 22 1 (.slice a n cap) n (rv .u64 (gA b))/\Below B w w':=by
 rcases h.2 with ⟨c,l⟩|⟨g,c2,cur,c,_⟩
 ·subst l
  cases c
  exact(WY w).mono fun e w' ⟨m,o⟩=>⟨d,m,k,Sort.permIn_refl _ _ _,fun i j _ q r=>by omega,xX _ _ _ _ _,o.mono f⟩
 simp only[Value.slice.injEq]at c;obtain⟨rfl,_,rfl⟩:=c;exact WX B g n cap d w h f k (by omega) p
end
end Go.Proofs.YtahbiajdgealnaaDoor
namespace Go.Proofs.YtahbiajdgealnaaDoor
open Go.RowKit Go
set_option linter.unusedVariables false
namespace Rt
def dT(x:Nat->Int)(τ:Nat->Nat)(m:Nat):Array Int:=((List.range m).map fun q=>x (τ q)).toArray
section
variable {n m kk:Nat} {x:Nat->Int} {Q:Int->Prop} {S:Nat->Bool} {τ:Nat->Nat}
theorem NZ:(dT x τ m).size=m:=by unfold dT; simp
theorem aaB{q:Nat}(a:q<m):gA (dT x τ m) q=x (τ q):=by
 unfold gA dT;rw[getElem!_pos _ q (by simpa using a)]; simp
theorem aeL : ∀ j,j<m*1->Value.int .u64 (x (τ j))=Fx.rv .u64 (gA (dT x τ m)) j:=fun j a=>by
 show _=Value.int .u64 (gA (dT x τ m) j);rw[aaB (by omega)]
theorem aaC{d:Array Int} : ∀ j,j<d.size*1->Fx.rv .u64 (gA d) j=yV d.toList j:=fun j a=>by
 show Value.int .u64 d[j]! = Value.int .u64 (d.toList.getD j 0);rw[getElem!_pos d j (by omega),r_,o_ (by simpa using (show j<d.size by omega))];simp
theorem PE{c:Array Int}(h:RZ n (fun i=>Q (x i)) S m τ kk)(y : ∀ i,i<n->S i=true)(A : ∀ a b,a<n->b<n->x a=x b->a=b)
 (B:Sort.PermIn 0 m (dT x τ m) c) (C:Sort.SortedIn Sort.ltInt 0 m c) (D:c.size=m):c.toList.Pairwise (· < ·) /\ ∀ k,k∈c.toList<->(dO x n k=true/\Q k):=by
 have u:c.toList.Perm ((List.range m).map fun q=>x (τ q)):=by
  have s:=B.2.2;have v:c.extract 0 m=c:=by rw[<- D]; simp
  have w : ∀ d:Array Int,d.size=m->d.extract 0 m=d:=fun d z=>by rw[<- z]; simp
  rw[v,w _ NZ]at s;exact s
 have t:c.toList.Nodup:=by
  refine(u.nodup_iff).2 ?_;rw[List.Nodup,List.pairwise_iff_getElem];intro i j f g r;simp only[List.getElem_map,List.getElem_range];simp only[List.length_map,List.length_range]at f g;exact fun e=>L_ (h.inj i j f g (A _ _ (h.lt i f) (h.lt j g) e)) (by omega)
 refine⟨?_,fun k => ?_⟩
 ·rw[List.pairwise_iff_getElem];intro i j f g r;simp only[Array.length_toList]at f g;have o:=j_ (C i j (J_ _) r (by omega));rw[getElem!_pos c i f,getElem!_pos c j g]at o;rw[List.Nodup,List.pairwise_iff_getElem]at t;have p:=t i j (by simpa using f) (by simpa using g) r;simp only[Array.getElem_toList]at p ⊢;omega
 rw[u.mem_iff];simp only[List.mem_map,N_];constructor
 ·rintro ⟨q,l,rfl⟩;exact⟨jy (h.lt q l) rfl,h.yes q l⟩
 rintro ⟨o,p⟩;obtain⟨i,f,rfl⟩:=gQ o;obtain⟨q,l,rfl⟩:=h.mem i f (y i f) p;exact⟨q,l,rfl⟩
theorem WZ{z:Nat->Value}{i:Nat} : ∀ j,j<(m+1)*1->Fx.iK (fun q=>aC (x (τ q))) (m*1) (Fx.bR z (0*1) 1 (fun _=>aC (x i))) j=aC (x (Fx.aN τ m i j)):=fun j a=>by
 unfold Fx.iK Fx.bR Fx.aN;by_cases e:j=m
 ·subst e; rw[b_ (by omega),d_ (by omega),d_ rfl]
 ·rw[d_ (by omega),b_ e]
end
end Rt
open Rt
theorem aaD{w:World}{B m cap:Nat}{a:Option Addr}{x:Nat->Int}{τ:Nat->Nat}(h:Fx.Own w B 22 1 (.slice a m cap) m (fun q=>aC (x (τ q))))(n:B<=w.heap.size)(p:m<=32) :
 Calls Tryd.prog 73 #[.slice a m cap] w fun e w'=>e = .returned (.tuple #[]) /\ ∃ b:Array Int,b.size=m/\Sort.PermIn 0 m (dT x τ m) b/\Sort.SortedIn Sort.ltInt 0 m b/\Fx.Own w' B 22 1 (.slice a m cap) m (yV b.toList)/\Below B w w' :=
 (aaA (d:=dT x τ m) (h.congr aeL) n NZ (by omega)).mono fun e w' ⟨b,c,f,g,i,k,l⟩=>⟨c,b,f,g,i,k.congr fun j o=>aaC j (by omega),l⟩
end Go.Proofs.YtahbiajdgealnaaDoor
namespace Go.Proofs.YtahbiajdgealnaaDoor.Fx
open Go.RowKit
section
variable {P:Program} {n0:Nat} {Q:Post} {f:Nat->Value} {w:World} {ops:Array Oper} {rest:List Oper} {o:Oper}
theorem L.lo{T E:TypeId}{x lo:Operand}{a:Option Addr}{B n c s m:Nat}{k:IntKind}{j:Nat}{y:Nat->Value}(u:Region.wanted o (yf ops f)=true)(e:inn n0 o.dst=true)(q:o.op = .slice T x (some lo) none none)(hx:ev f x = .slice a n c)(l:ev f lo = .int k (j:Int))(t:P.underlying T=some (.slice E))(r:(P.info? E).map (·.size)=some s)(H:n=j+m)(C:Own w B E s (.slice a n c) n y)
 (d : ∀ v,nY w v m s (fun p=>y (j*s+p))->L P n0 ops Q rest (put f o.dst (.slice v m (c-j))) w):L P n0 ops Q (o::rest) f w:=by
 by_cases D:n=0
 ·obtain rfl:j=0:=by omega
  obtain rfl:m=0:=by omega
  subst D
  rcases C.2 with ⟨b,_⟩|⟨g,cap,cur,b,_,_,hn,_⟩
  ·simp only[Value.slice.injEq]at b;obtain⟨rfl,_,rfl⟩:=b;obtain⟨i,G,_⟩:=Option.map_eq_some_iff.1 r;refine Lv _ (?_:Runs P f o w (.slice none 0 0)) (d none fun h=>L_ h (Nat.lt_irrefl 0)) u e;unfold Runs execOp;simp only[q,hx,l,Option.map_some,Option.map_none];simp[Instr.sliceAt,Instr.slice,underlying,t,Instr.sliceBounds,Instr.sliceBound,asIntOf,sizeOf,typeInfo,G]
  simp only[Value.slice.injEq]at b;obtain⟨rfl,_,rfl⟩:=b;exact Lv _ (zF (A:=if c=0 then some ⟨g,0,none⟩else some ⟨g,0+0*s,none⟩) (n':=0) (c':=c-0) q hx l t r (z_ _) rfl rfl rfl) (d _ fun h=>L_ h (Nat.lt_irrefl 0)) u e
 obtain⟨g,J,z,K,M,O,F⟩:=C.form (by omega);simp only[Value.slice.injEq]at z;obtain⟨rfl,_,rfl⟩:=z;refine Lv _ (zF (A:=if c=j then some ⟨g,0,none⟩else some ⟨g,0+j*s,none⟩) (n':=m) (c':=c-j) q hx l t r (by omega) rfl (by omega) rfl) (d _ fun N => ?_) u e;rw[b_ (by omega)];refine⟨g,_,rfl,fun p R => ?_⟩;have I:j*s+p<n*s:=by
  have:n*s=j*s+m*s:=by rw[H,Nat.add_mul]
  omega
 have:=F (j*s+p) I;rw[E_]at this;rw[E_]; exact this
theorem Own.aeM{B n c s j:Nat}{E:TypeId}{a:Option Addr}{y:Nat->Value}(h:Own w B E s (.slice a n c) n y)(e:j<=n):nY w a j s y:=fun k=>by
 obtain⟨g,i,b,l,m,o,d⟩:=h.form (by omega);simp only[Value.slice.injEq]at b;refine⟨g,0,b.1,fun p f=>d p ?_⟩;exact n_ f (Nat.mul_le_mul_right s e)
theorem Own.weak{B a n s:Nat}{E:TypeId}{v:Value}{y:Nat->Value}(h:Own w B E s v n y)(b:a<=B):Own w a E s v n y:=by
 refine⟨h.1,?_⟩
 rcases h.2 with hn|⟨g,cap,cur,hv,hb,rest⟩
 ·exact .inl hn
 exact .inr ⟨g,cap,cur,hv,m_ b hb,rest⟩
end
end Go.Proofs.YtahbiajdgealnaaDoor.Fx
namespace Go.Proofs.YtahbiajdgealnaaDoor
open Go.RowKit Rt
open Fx (fI fq fP bF gX gW dA dY gP jE eZ jF gy jv jG Lv sN Ln Ws Qv Wl Rp Wc Qs Wr Sb Lk Wk rC rV sR Rs Rn Rd Rk Wb Wx Wo FQ Wt rT Qn F3 Bl Af Ar DI Ei rM gK Av mV wI uT wX xX Aq DL Au rv aA aQ bR aN ev bZ Stp dJ aR flat dD Mp fA aU iR iQ bJ down iI jM iT nY bP bL cells_one jl bS wQ unseen jN iK bX dH bI bT cK cO gU iB qo gu)
section
open Rt
set_option maxRecDepth 10000
theorem S9(x p:Nat->Int)(n tp mb:Nat)(w:World)(U:aQ w tp 1 (fun _ => .map (some mb)) 116)(R:Mp w mb n x (fun j=>aC (p j)))(h:Bo n x p) :
 Calls Tryd.prog 51 #[(pt tp),.func (.func 52) #[] #[]] w fun e w' => ∃ a c l,e = .returned (.slice a (List.length l) c)/\Fx.Own w' w.heap.size 22 1 (.slice a l.length c) l.length (yV l)/\l.Pairwise (· < ·)/\(∀ k,k∈l<->(dO x n k=true/\True))/\l.length<=32/\Below w.heap.size w w':=by
 have hsm:=h.small;refine Kent Tryd.func51 27 ?_;refine ay<|av (.slice none 0 0)<|aD<|Ws<|ay<|av (pt tp)<|Lv aF (Fx.mh rfl rfl rfl (by kernel_rfl))<|aD<|aL<|Wk<|sN<|Ws<|ay<|av (pt tp)<|av (pt tp)<|av (pt tp)<|Lv (.map (some mb)) (aM U.aH 0)<|Fx.L.range (by rfl) rfl rfl rfl R Tryd.underlying87 fun O w1 mR Z s1 z1 => ?_;have⟨m2,m3,b1⟩:=jh s1.old U R (Below.refl w.heap.size w);have sO:=gL mR;have uo:=Z.lt;refine aD<|Wb ?_;have m4:Fx.Own w1 w.heap.size 22 1 (.slice none 0 0) 0 (fun q=>aC (x ((fun _=>0:Nat->Nat) q))):=xX _ _ _ _ _;refine FQ (fun kk f g => ∃ m:Nat,∃ τ:Nat->Nat,∃ S:Nat->Bool,∃ a:Option Addr,∃ d:Nat,RZ n (fun i=>(fun k=>True) (x i)) S m τ kk/\f 0=(pt tp)/\f 1 = .func (.func 52) #[] #[]/\f 4 = .slice a (m) (d)/\f 12=(pt O)/\aQ g tp 1 (fun _ => .map (some mb)) 116/\Mp g mb n x (fun j=>aC (p j))/\Fx.It g O mb n S/\Fx.Own g w.heap.size 22 1 (.slice a (m) (d)) m (fun q=>aC (x (τ q)))/\Below w.heap.size w g) (unseen (fun _=>false) n) ⟨0,(fun _=>0),(fun _=>false),none,0,(RZ.start n _ _),(by rfl),(by rfl),(by rfl),(by rfl),m2,m3,Z,m4,b1⟩ ?_;rintro kk N w2 ⟨m,τ,S,a,d,r,P,C,D,E,m5,m6,J,m8,o⟩;have hml:=r.le;refine ay<|Fx.L.next (by rfl) rfl rfl E m6 J (fun uD => ?_)<|fun b w3 G T m9 mc1 s2 z2 => ?_
 ·skip
  refine av aF<|aD<|Ws<|aL<|Wx<|cK<|gU<|cO<|sN<|ay<|aY D<|dL (aaD m8 o.size (by omega)) _ rfl ?_;rintro w4 ⟨M,Y,hp2,hs2,aa,hb1⟩;have b3:=o.trans hb1;refine aD<|ay<|aY D<|av (.slice a (m) (d))<|aD<|Wr<|aJ (.slice a (m) (d)) ?_;obtain⟨N,f2⟩:=PE (Q:=fun k=>True) r uD h.inj hp2 hs2 Y;have X:m<=32:=by omega
  rw[show m=M.toList.length by rw[Array.length_toList]; exact Y.symm]at aa X ⊢;exact⟨a,d,M.toList,rfl,aa,N,f2,X,b3⟩
 skip
 have F:=J.Cw s2;have ab:=m5.dQ F;have H:=m6.dQ F (J.rb.symm);have ac:=m8.dQ F;have K:=s2.below o o.size (by omega);refine av aG<|aD<|Ws<|aO<|Wk<|sN<|Wb<|ay<|Lv (.tuple #[aC (x b),aC (p b)]) (Fx.NR (key:=x) (val:=fun j=>aC (p j)) (i:=b) rfl E H mc1 G)<|av (aC (x b))<|av (aC (x b))<|aD<|ay<|aY C<|av (aC (x b))<|Bl (by rfl) (Fx.Ej (args := [aC (x b)]) rfl rfl rfl (all := #[aC (x b)]) rfl Tryd.func52 rfl rfl) rfl<|(aem _ _).mono ?_;rintro e v1 ⟨V,hv1⟩;subst v1;refine⟨.bool true,by rw[V],?_⟩;clear V;refine aD<|aO<|Wl<|aY D<|av (aC (x b))<|Af (vs := [(0,aC (x b))]) (s:=1) (zc:=rv .u64 (fun _=>0)) (y:=bR (fun j=>(rv .u64 (fun _=>0)) (j % 1)) (0*1) 1 (fun _=>aC (x b))) (by rfl) rfl rfl Tryd.underlying53 (by kernel_rfl) (by rfl) (by rfl) (by kernel_rfl) (by rw[bJ (off:=0*1) (s:=1) (y:=fun _=>aC (x b)) rfl (cells_one (by rfl)) (by rfl)]; rfl) rfl fun g2 w5 z ad s3 z3 => ?_;have⟨m15,m16,I,m19,t⟩:=qD s3.old ab H ac m9 K;have qN:=jc z K.size;have⟨zK,Mq⟩:=yT z ab.lt H.lt;have Ta:(.slice a (m) (d):Value).ownBlock≠some g2:=by rw[z]; exact ac.mH (z_ _)
 have zL:=ad.lt;refine Ar (B:=w.heap.size) (s:=1) (bytes:=8) (k:=m) (m:=1) (v := .slice a (m) (d)) (x:=fun q=>aC (x (τ q))) (by rfl) rfl rfl rfl Tryd.underlying53 (by kernel_rfl) (by kernel_rfl) rfl rfl I ad.aH (fun j hj=>by unfold bR; split <;> rfl) (by omega) (by omega) (by omega) t.size fun A u w6 ho1 W wJ hlt1 => ?_
 have gM:=Av W I;have⟨m21,m22,m24⟩:=Df gM m15 m16 m19;have m20:Fx.Own w6 w.heap.size 22 1 (bK A (m+1) u) (m+1) (fun q=>aC (x (aN τ m b q))):=(ho1.congr WZ);have b6:Below w.heap.size w w6:=Aq t W t.size (fun q hq=>(I.ge hq).1);refine av (bK A (m+1) u)<|Ln<|bT ?_
 skip
 refine iB ⟨unseen (aN S b true) n,(by have P:=Fx.qX T n G; have C:=r.kk; omega),m+1,aN τ m b,aN S b true,(some ⟨A,0,none⟩),u,(r.take G T trivial),P,C,(by rfl),E,m21,m22,m24,m20,b6⟩ (by decide)
theorem aaE(x p:Nat->Int)(n tp mb:Nat)(w:World)(o:aQ w tp 1 (fun _ => .map (some mb)) 116)(m:Mp w mb n x (fun j=>aC (p j)))(h:Bo n x p) :
 Calls Tryd.prog 32 #[(pt tp)] w fun e w' => ∃ a c l,e = .returned (.slice a (List.length l) c)/\Fx.Own w' w.heap.size 22 1 (.slice a l.length c) l.length (yV l)/\l.Pairwise (· < ·)/\(∀ k,k∈l<->(dO x n k=true/\True))/\l.length<=32/\Below w.heap.size w w':=by
 refine Kent Tryd.func32 5 ?_;refine ay<|av (.slice none 0 0)<|aD<|ay<|av (pt tp)<|lS (S9 x p n tp mb _ o m h) ?_;rintro v y ⟨b,d,f,i,u,r,s,t,q⟩;refine⟨_,i,?_⟩;clear i;have g:=bE q (Below.refl w.heap.size w);refine av (.slice b (f.length) (d))<|aD<|Wr<|aJ (.slice b (f.length) (d)) ?_;exact⟨b,d,f,rfl,u.weak (by have:=g.size; first|exact z_ _|exact(Below.refl w.heap.size w).size),r,s,t,g⟩
end
end Go.Proofs.YtahbiajdgealnaaDoor
namespace Go.Proofs.YtahbiajdgealnaaDoor
open Go.RowKit Go Rt
set_option linter.unusedVariables false
namespace Rt
structure dK where
 n:Nat
 x:Nat->Int
 p:Nat->Int
def dK.zero:dK:=⟨0,fun _=>0,fun _=>0⟩
def dK.has(T:dK)(k:Int):Bool:=dO T.x T.n k
def dK.par(T:dK)(k:Int):Int:=gZ T.x T.p T.n k
def dK.path(T:dK)(k:Int):List Int:=ji T.x T.p T.n 4 k
def dK.err(T:dK)(id pa:Int):Int:=qF T.x T.p T.n id pa
def dK.put(T:dK)(id pa:Int):dK:=⟨T.n+1,Fx.aN T.x T.n id,Fx.aN T.p T.n pa⟩
def dK.add(T:dK)(id pa:Int):dK:=if T.err id pa=0 then T.put id pa else T
abbrev dK.ok(T:dK):Prop:=Bo T.n T.x T.p
theorem dK.II{T:dK}(h:T.ok){id pa:Int}(a:0<=id/\id<=18446744073709551615):(T.add id pa).ok:=by
 unfold dK.add;split
 ·rename_i hc; exact Bo.put h hc a
 exact h
structure rR(w:World)(B tp mb:Nat)(T:dK):Prop where
 blk:Fx.aQ w tp 1 (fun _ => .map (some mb)) 116
 map:Fx.Mp w mb T.n T.x (fun j => .int .u64 (T.p j))
 inv:T.ok
 gt:B<=tp
 gm:B<=mb
section
variable {w w':World} {B tp mb r:Nat} {T:dK} {id pa k:Int}
theorem rR.up(h:rR w B tp mb T)(a:Below w.heap.size w w'):rR w' B tp mb T:=⟨h.blk.bY (Fx.Sb a) (t_ h.blk.lt),h.map.up a,h.inv,h.gt,h.gm⟩
instance:Rt.Tr w w' (rR w B tp mb T) (rR w' B tp mb T):=⟨fun b h=>h.up b⟩
theorem rR.kg{a:List TypeId}(h:rR w B tp mb T)(b:Fx.jl a w w')(h1:a.contains 116=false):rR w' B tp mb T:=⟨h.blk.kg b h1,h.map.kg b trivial,h.inv,h.gt,h.gm⟩
instance {a:List TypeId}:Rt.Tc a w w' (rR w B tp mb T) (rR w' B tp mb T) (!(a.contains 116)):=⟨fun b h e=>h.kg b (by simpa using e)⟩
theorem rR.Cw(h:rR w B tp mb T)(a:Fx.Stp mb w w'):Fx.Pq mb w w':=h.map.Cw a
theorem rR.dQ(h:rR w B tp mb T)(a:Fx.Pq r w w')(b:mb≠r):rR w' B tp mb T:=⟨h.blk.dQ a,h.map.dQ a b,h.inv,h.gt,h.gm⟩
theorem rR.weak{a:Nat}(h:rR w B tp mb T)(b:a<=B):rR w a tp mb T:=⟨h.blk,h.map,h.inv,m_ b h.gt,m_ b h.gm⟩
theorem rR.lt(h:rR w B tp mb T):mb<w.heap.size:=h.map.lt
end
end Rt
theorem Za(w:World):Calls Tryd.prog 28 #[] w fun e w' => ∃ tp mb,e = .returned (.pointer (some ⟨tp,0,none⟩))/\w.heap.size<=mb/\rR w' w.heap.size tp mb dK.zero/\Below w.heap.size w w' :=
 (aek (fun _=>0) (fun _=>0) w).mono fun e w' ⟨tp,mb,b,c,a,d,f,g⟩=>⟨tp,mb,b,a,⟨d,f,Bo.zero _ _,c,a⟩,g⟩
theorem Kg{w:World}{B tp mb:Nat}{T:dK}(id pa:Int)(h:rR w B tp mb T)(i:0<=id/\id<=18446744073709551615) :
 Calls Tryd.prog 155 #[.pointer (some ⟨tp,0,none⟩),.int .u64 id,.int .u64 pa] w fun e w'=>e = .returned (.int .i64 (T.err id pa))/\rR w' B tp mb (T.add id pa)/\Fx.Stp mb w w' :=
 (ael T.x T.p T.n tp mb id pa w h.blk h.map h.inv).mono fun e w' ⟨c,k,m,l,b,j,d,f,g⟩=>by
  cases j with
  | no a h0 =>
    have a:T.err id pa=c:=a;subst a;refine⟨b,⟨d,?_,dK.II h.inv i,h.gt,h.gm⟩,g⟩;unfold dK.add;rw[b_ h0]; exact f
  | yes a =>
    have a:T.err id pa=0:=a;refine⟨by rw[a]; exact b,⟨d,?_,dK.II h.inv i,h.gt,h.gm⟩,g⟩;unfold dK.add;rw[d_ a]; exact f
theorem Zb{w:World}{B tp mb:Nat}{T:dK}(k:Int)(h:rR w B tp mb T) :
 Calls Tryd.prog 72 #[.pointer (some ⟨tp,0,none⟩),.int .u64 k] w fun e w'=>e = .returned (.bool (T.has k))/\w'=w:=Et T.x T.p T.n tp mb k w h.blk h.map
def Wd(w:World)(B:Nat)(a:Option Addr)(c:Nat)(l:List Int):Prop:=Fx.Own w B 22 1 (.slice a l.length c) l.length (yV l)
theorem Wd.up{w w':World}{B c:Nat}{a:Option Addr}{l:List Int}(h:Wd w B a c l)(b:Below w.heap.size w w'):Wd w' B a c l:=Fx.Own.up h b
instance {w w':World} {B c:Nat} {a:Option Addr} {l:List Int}:Rt.Tr w w' (Wd w B a c l) (Wd w' B a c l):=⟨fun b h=>h.up b⟩
theorem IJ{w:World}{B tp mb:Nat}{T:dK}(k:Int)(h:rR w B tp mb T) :
 Calls Tryd.prog 31 #[.pointer (some ⟨tp,0,none⟩),.int .u64 k] w fun e w' => ∃ a c,e = .returned (.slice a (T.path k).length c)/\Wd w' w.heap.size a c (T.path k)/\Below w.heap.size w w' :=
 Mh T.x T.p T.n tp mb 4 k w h.blk h.map h.inv.inj (h.inv.stop k) (h.inv.len k)
theorem aaF{w:World}{B tp mb:Nat}{T:dK}(h:rR w B tp mb T) :
 Calls Tryd.prog 32 #[.pointer (some ⟨tp,0,none⟩)] w fun e w' => ∃ a c l,e = .returned (.slice a (List.length l) c)/\Wd w' w.heap.size a c l/\(l.Pairwise (· < ·) /\ ∀ k,k∈l<->T.has k=true)/\l.length<=32/\Below w.heap.size w w' :=
 (aaE T.x T.p T.n tp mb w h.blk h.map h.inv).mono fun e w' ⟨a,c,l,b,d,f,g,i⟩=>⟨a,c,l,b,d,⟨f,fun k=>by have:=g k; rw[and_true]at this; exact this⟩,i⟩
namespace Rt
section
variable {T U:dK} {id pa k:Int}
structure uE(U T:dK):Prop where
 has : ∀ k,U.has k=true->T.has k=true
 par : ∀ k,U.has k=true->U.par k=T.par k
theorem uE.same(h:uE U T)(hx : ∀ k,T.has k=true->U.has k=true) : ∀ k,U.path k=T.path k:=fun k=>by
 have e : ∀ k,U.has k=T.has k:=fun k=>by
  cases h1:U.has k with
  | true=>exact(h.has k h1).symm
  | false =>
    cases h2:T.has k with
    | false=>rfl
    | true=>rw[hx k h2]at h1; cases h1
 exact Gt e (fun k a=>h.par k (hx k a)) 4 k
theorem dK.jo(T:dK)(id pa k:Int):(T.put id pa).has k=(T.has k || decide (id=k)):=Rt.jo id k
theorem dK.sK(T:dK)(id pa k:Int):(T.put id pa).par k=if id=k then pa else T.par k:=Rt.sK id pa k
end
end Rt
namespace Fx
theorem aaG{P:Program}{f:Nat->Value}{w:World}{o:Oper}{T T':TypeId}{x y:Operand}{a b:Nat}(d:o.op = .binOp .or T x y T')(hx:ev f x = .int .u64 (1099511627776*(a:Int)))(hy:ev f y = .int .u64 (b:Int))(ha:a<=8388607)(g:b<1099511627776):Runs P f o w (.int .u64 (1099511627776*(a:Int)+b)) :=
 sH d hx hy (by
  have e:((BitVec.ofInt 64 (1099511627776*(a:Int)) ||| BitVec.ofInt 64 (b:Int)).toNat:Int)=1099511627776*(a:Int)+b:=by
   rw[BitVec.toNat_or,BitVec.toNat_ofInt,BitVec.toNat_ofInt];rw[show((1099511627776*(a:Int)) % ((2^64:Nat):Int)).toNat=1099511627776*a by omega,show((b:Int) % ((2^64:Nat):Int)).toNat=b by omega];have h:=Nat.shiftLeft_add_eq_or_of_lt (i:=40) (b:=b) (by omega) a;rw[Nat.shiftLeft_eq]at h;rw[show 1099511627776*a=a*2^40 by omega,<- h];omega
  have h:=jN (c:=1099511627776*(a:Int)+b) (by omega) rfl;simp only[binOp,Op.intBits];show(pure (Value.int .u64 (IntKind.u64.wrap ((BitVec.ofInt 64 (1099511627776*(a:Int)) ||| BitVec.ofInt 64 (b:Int)).toNat:Int))):Sem Value).run P w=_;rw[e,h]; rfl)
theorem aaH{w:World}{B c:Nat}{a:Option Addr}{l:List Int}(h:Wd w B a c l):Fx.nY w a l.length 1 (yV l):=Own.aeM h (z_ _)
end Fx
end Go.Proofs.YtahbiajdgealnaaDoor
namespace Go.Proofs.YtahbiajdgealnaaDoor
open Go.RowKit Rt
open Fx (fI fq fP bF gX gW dA dY gP jE eZ jF gy jv jG Lv sN Ln Ws Qv Wl Rp Wc Qs Wr Sb Lk Wk rC rV sR Rs Rn Rd Rk Wb Wx Wo FQ Wt rT Qn F3 Bl Af Ar DI Ei rM gK Av mV wI uT wX xX Aq DL Au rv aA aQ bR aN ev bZ Stp dJ aR flat dD Mp fA aU iR iQ bJ down iI jM iT nY bP bL cells_one jl bS wQ unseen jN iK bX dH bI bT cK cO gU iB qo gu)
namespace Rt
structure EvM where
 o:Int
 seq:Int
 deps:Nat->Int
 kind:Int
 node:Int
 dst:Int
 aT:Int
 req:Int
 of:Int
def bH(v:EvM):Nat->Value:=fun p=>if p=0 then au v.o else if p=1 then aC v.seq else if p<8 then aC (v.deps (p-2))else if p=8 then .int .u8 v.kind else if p=9 then aC v.node else if p=10 then au v.dst else if p=11 then au v.aT else if p=12 then aC v.req else aC v.of
theorem kF(v:EvM){p j:Nat}(h:p=j+2)(a:j<6):bH v p=aC (v.deps j):=by
 subst h; unfold bH; rw[b_ (by omega),b_ (by omega),d_ (by omega),show j+2-2=j by omega]
theorem fD(v:EvM) : ∀ j,j<14->(bH v j).oneCell'=true:=fun j _=>by unfold bH; repeat (first|rfl|split)
def jI(i:Int):Bool:=decide (1<=i)&&decide (i<=6)
def kH(v:EvM):EvM :=
 if v.kind=1 then { v with dst:=0,req:=0,of:=0 } else if v.kind=2 then { v with dst:=0,req:=0,of:=0 } else if v.kind=3 then { v with dst:=0,of:=0 }
 else if v.kind=4 then { v with node:=0,dst:=0,aT:=0 } else if v.kind=5 then { v with req:=0,of:=0 } else if v.kind=6 then { v with node:=0,aT:=0,req:=0,of:=0 }
 else { v with node:=0,dst:=0,aT:=0,req:=0,of:=0 }
def someE(v:EvM):Bool:=decide (1<=v.aT)&&decide (v.aT<=1125899906842624)
def lM(v:EvM):Bool:=jI v.dst && !decide (v.dst=v.o)
def dI(v:EvM):Bool :=
 if v.kind=1 then decide (0<=v.aT)&&decide (v.aT<=1125899906842624)else if v.kind=2 then someE v else if v.kind=3 then someE v&&decide (1<=v.req)
 else if v.kind=4 then decide (1<=v.req)&&decide (1<=v.of) && !decide (v.req=v.of)else if v.kind=5 then someE v&&lM v else if v.kind=6 then lM v else decide (v.kind=7)
end Rt
theorem AL(n:Int)(w:World) :
 Calls Tryd.prog 57 #[au n] w fun e w'=>e = .returned (.bool (jI n))/\w'=w:=by
 refine Kent Tryd.func57 9 ?_;refine ay<|av aF<|aD<|ay<|av (au n) ?_;by_cases a:1<=n
 ·refine Lv aG (ko a)<|av aG<|av (au n) ?_;by_cases b:n<=6
  ·refine Lv aG (mW b)<|av aG<|av aG<|aD<|Wr<|aJ aG ?_;exact⟨gY (by simp only[jI]; first|(symm; simp; omega)|(symm; simp; done)),rfl⟩
  refine Lv aF (nk b)<|av aF<|av aF<|aD<|Wr<|aJ aF ?_;exact⟨gY (by simp only[jI]; first|(symm; simp; omega)|(symm; simp; done)),rfl⟩
 refine Lv aF (jT a)<|av aF<|dB<|dB<|av aF<|av aF<|aD<|Wr<|aJ aF ?_;exact⟨gY (by simp only[jI]; first|(symm; simp; omega)|(symm; simp; done)),rfl⟩
theorem aeN(v:EvM)(w:World) :
 Calls Tryd.prog 58 #[.agg (aA 14 (bH v))] w fun e w'=>e = .returned (.agg (aA 14 (bH (kH v))))/\Below w.heap.size w w':=by
 refine Kent Tryd.func58 60 ?_;refine ay<|pQ fun b w1 mR x s1 z1 => ?_;have U:=bE s1.old (Below.refl w.heap.size w);have sO:=gL mR;have uo:=x.lt;refine qC 14 (fun i=>(#[au 0,aC 0,aC 0,aC 0,aC 0,aC 0,aC 0,aC 0,.int .u8 (0),aC 0,au 0,au 0,aC 0,aC 0]:Array Value).getD i undef) fun m w2 yZ y s2 z2 => ?_;have⟨s,b2⟩:=eU s2.old x U;have qN:=jc yZ U.size;have N7:=cu yZ x.lt;have zL:=y.lt;refine aD<|ay<|av (pt b)<|Lv (au v.o) (aM s.aH 0)<|av (pf b 1)<|Lv (aC v.seq) (aM s.aH 1)<|av (pf b 2)<|Lv (.agg (aA 6 (rv .u64 v.deps))) (fJ s.aH 2 (fun j c=>kF _ (by omega) c))<|av (pf b 8)<|Lv (.int .u8 (v.kind)) (aM s.aH 8)<|av (.agg (aA 14 (bR (bR (bR (bR (fun i=>(#[au 0,aC 0,aC 0,aC 0,aC 0,aC 0,aC 0,aC 0,.int .u8 (0),aC 0,au 0,au 0,aC 0,aC 0]:Array Value).getD i undef) 0 1 (fun _=>au v.o)) 1 1 (fun _=>aC v.seq)) 2 6 (rv .u64 v.deps)) 8 1 (fun _ => .int .u8 (v.kind)))))<|qC 14 (fun i=>(#[au 0,aC 0,aC 0,aC 0,aC 0,aC 0,aC 0,aC 0,.int .u8 (0),aC 0,au 0,au 0,aC 0,aC 0]:Array Value).getD i undef) fun a w3 xE m4 s3 z3 => ?_;have⟨m5,m6,b3⟩:=jh s3.old s y b2;have Bz:=jc xE b2.size;have⟨aeO,aqs⟩:=yT xE s.lt y.lt;have IK:=m4.lt;refine dZ m4 0 (h1:=(fun j c=>by rcases j with _|_|_|_|_|_|_|_|_|_|_|_|_|_|j <;> first|rfl|omega)) fun w4 m7 O z4 => ?_
 have m8:aQ w4 a 14 (bR (bR (bR (bR (fun i=>(#[au 0,aC 0,aC 0,aC 0,aC 0,aC 0,aC 0,aC 0,.int .u8 (0),aC 0,au 0,au 0,aC 0,aC 0]:Array Value).getD i undef) 0 1 (fun _=>au v.o)) 1 1 (fun _=>aC v.seq)) 2 6 (rv .u64 v.deps)) 8 1 (fun _ => .int .u8 (v.kind))) 28:=aR m7;have k:aQ w4 a 14 (bH ⟨v.o,v.seq,v.deps,v.kind,0,0,0,0,0⟩) 28:=m8.congr (fun j c=>by rcases j with _|_|_|_|_|_|_|_|_|_|_|_|_|_|j <;> first|rfl|omega)
 have f:=m5.bY O (by omega);have n:=m6.bY O (by omega);have d:=O.below b3 b3.size (by omega);refine aD<|Ws<|ay<|av (pf b 8)<|Lv (.int .u8 (v.kind)) (aM f.aH 8)<|aD<|Wb<|Ws<|ay ?_;by_cases g:v.kind=1
 ·refine Lv aG (eY g)<|av aG<|aD<|aO<|Wk<|sN<|aO<|ay<|av (pf b 9)<|Lv (aC v.node) (aM f.aH 9)<|av (pf a 9)<|iX k 9 (aC v.node) fun w5 m12 P z5 => ?_;have m13:aQ w5 a 14 (bH ⟨v.o,v.seq,v.deps,v.kind,v.node,0,0,0,0⟩) 28:=m12.congr (fun j c=>by rcases j with _|_|_|_|_|_|_|_|_|_|_|_|_|_|j <;> first|rfl|omega)
  have m14:=f.bY P (by omega);have m15:=n.bY P (by omega);have b5:=P.below d d.size (by omega);refine aD<|Wl<|av (pf b 11)<|Lv (au v.aT) (aM m14.aH 11)<|av (pf a 11)<|iX m13 11 (au v.aT) fun w6 m16 Q z6 => ?_;have m17:aQ w6 a 14 (bH ⟨v.o,v.seq,v.deps,v.kind,v.node,0,v.aT,0,0⟩) 28:=m16.congr (fun j c=>by rcases j with _|_|_|_|_|_|_|_|_|_|_|_|_|_|j <;> first|rfl|omega)
  have m18:=m14.bY Q (by omega);have m19:=m15.bY Q (by omega);have b6:=Q.below b5 b5.size (by omega);refine Ln<|bT<|sN<|ay<|Lv (.agg (aA 14 (bH ⟨v.o,v.seq,v.deps,v.kind,v.node,0,v.aT,0,0⟩))) (fJ m17.aH 0)<|dZ m19 0 (h1:=(fD _)) fun w7 m20 R z7 => ?_;have m21:aQ w7 m 14 (bH ⟨v.o,v.seq,v.deps,v.kind,v.node,0,v.aT,0,0⟩) 28:=aR m20;have m22:=m18.bY R (by omega);have m23:=m17.bY R (by omega);have b7:=R.below b6 b6.size (by omega);refine aD (Wr (⟨.agg (aA 14 (bH ⟨v.o,v.seq,v.deps,v.kind,v.node,0,v.aT,0,0⟩)),rV Tryd.results58 ⟨_,rfl,aU m21.aH (by kernel_rfl) (by kernel_rfl)⟩,?_⟩));refine⟨K_ (fun q=>Ending.returned (Value.agg q)) (Fx.dW fun i r => ?_),b7⟩;unfold kH; rw[d_ g]
 refine Lv aF (fU g)<|av aF<|aD<|aL<|Wl ?_;by_cases h:v.kind=2
 ·refine Lv aG (eY h)<|av aG<|aD<|aO<|ay<|av (pf b 9)<|Lv (aC v.node) (aM f.aH 9)<|av (pf a 9)<|iX k 9 (aC v.node) fun w8 m24 S z8 => ?_;have mZ:aQ w8 a 14 (bH ⟨v.o,v.seq,v.deps,v.kind,v.node,0,0,0,0⟩) 28:=m24.congr (fun j c=>by rcases j with _|_|_|_|_|_|_|_|_|_|_|_|_|_|j <;> first|rfl|omega)
  have nT:=f.bY S (by omega);have oM:=n.bY S (by omega);have b8:=S.below d d.size (by omega);refine aD<|Wl<|av (pf b 11)<|Lv (au v.aT) (aM nT.aH 11)<|av (pf a 11)<|iX mZ 11 (au v.aT) fun w9 oN T z9 => ?_;have oZ:aQ w9 a 14 (bH ⟨v.o,v.seq,v.deps,v.kind,v.node,0,v.aT,0,0⟩) 28:=oN.congr (fun j c=>by rcases j with _|_|_|_|_|_|_|_|_|_|_|_|_|_|j <;> first|rfl|omega)
  have qc:=nT.bY T (by omega);have lU:=oM.bY T (by omega);have b9:=T.below b8 b8.size (by omega);refine Ln<|bT<|sN<|ay<|Lv (.agg (aA 14 (bH ⟨v.o,v.seq,v.deps,v.kind,v.node,0,v.aT,0,0⟩))) (fJ oZ.aH 0)<|dZ lU 0 (h1:=(fD _)) fun rO m32 z z10 => ?_;have qw:aQ rO m 14 (bH ⟨v.o,v.seq,v.deps,v.kind,v.node,0,v.aT,0,0⟩) 28:=aR m32;have og:=qc.bY z (by omega);have qG:=oZ.bY z (by omega);have b10:=z.below b9 b9.size (by omega);refine aD (Wr (⟨.agg (aA 14 (bH ⟨v.o,v.seq,v.deps,v.kind,v.node,0,v.aT,0,0⟩)),rV Tryd.results58 ⟨_,rfl,aU qw.aH (by kernel_rfl) (by kernel_rfl)⟩,?_⟩));refine⟨K_ (fun q=>Ending.returned (Value.agg q)) (Fx.dW fun i r => ?_),b10⟩;unfold kH; rw[b_ g,d_ h]
 refine Lv aF (fU h)<|av aF<|aD<|aL<|ay ?_;by_cases l:v.kind=3
 ·refine Lv aG (eY l)<|av aG<|aD<|aO<|ay<|av (pf b 9)<|Lv (aC v.node) (aM f.aH 9)<|av (pf a 9)<|iX k 9 (aC v.node) fun F7 pV A z11 => ?_;have uf:aQ F7 a 14 (bH ⟨v.o,v.seq,v.deps,v.kind,v.node,0,0,0,0⟩) 28:=pV.congr (fun j c=>by rcases j with _|_|_|_|_|_|_|_|_|_|_|_|_|_|j <;> first|rfl|omega)
  have rP:=f.bY A (by omega);have qM:=n.bY A (by omega);have V:=A.below d d.size (by omega);refine aD<|ay<|av (pf b 11)<|Lv (au v.aT) (aM rP.aH 11)<|av (pf a 11)<|iX uf 11 (au v.aT) fun Cx uq B z12 => ?_;have nU:aQ Cx a 14 (bH ⟨v.o,v.seq,v.deps,v.kind,v.node,0,v.aT,0,0⟩) 28:=uq.congr (fun j c=>by rcases j with _|_|_|_|_|_|_|_|_|_|_|_|_|_|j <;> first|rfl|omega)
  have nD:=rP.bY B (by omega);have nE:=qM.bY B (by omega);have W:=B.below V V.size (by omega);refine aD<|Wl<|av (pf b 12)<|Lv (aC v.req) (aM nD.aH 12)<|av (pf a 12)<|iX nU 12 (aC v.req) fun F8 rY C z13 => ?_;have rQ:aQ F8 a 14 (bH ⟨v.o,v.seq,v.deps,v.kind,v.node,0,v.aT,v.req,0⟩) 28:=rY.congr (fun j c=>by rcases j with _|_|_|_|_|_|_|_|_|_|_|_|_|_|j <;> first|rfl|omega)
  have pz:=nD.bY C (by omega);have rZ:=nE.bY C (by omega);have X:=C.below W W.size (by omega);refine Ln<|bT<|sN<|ay<|Lv (.agg (aA 14 (bH ⟨v.o,v.seq,v.deps,v.kind,v.node,0,v.aT,v.req,0⟩))) (fJ rQ.aH 0)<|dZ rZ 0 (h1:=(fD _)) fun NY xB D z14 => ?_;have tK:aQ NY m 14 (bH ⟨v.o,v.seq,v.deps,v.kind,v.node,0,v.aT,v.req,0⟩) 28:=aR xB;have sQ:=pz.bY D (by omega);have uw:=rQ.bY D (by omega);have b14:=D.below X X.size (by omega);refine aD (Wr (⟨.agg (aA 14 (bH ⟨v.o,v.seq,v.deps,v.kind,v.node,0,v.aT,v.req,0⟩)),rV Tryd.results58 ⟨_,rfl,aU tK.aH (by kernel_rfl) (by kernel_rfl)⟩,?_⟩));refine⟨K_ (fun q=>Ending.returned (Value.agg q)) (Fx.dW fun i r => ?_),b14⟩;unfold kH; rw[b_ g,b_ h,d_ l]
 refine Lv aF (fU l)<|av aF<|aD<|aL<|ay ?_;by_cases p:v.kind=4
 ·refine Lv aG (eY p)<|av aG<|aD<|aO<|ay<|av (pf b 12)<|Lv (aC v.req) (aM f.aH 12)<|av (pf a 12)<|iX k 12 (aC v.req) fun LK uU E z15 => ?_;have uV:aQ LK a 14 (bH ⟨v.o,v.seq,v.deps,v.kind,0,0,0,v.req,0⟩) 28:=uU.congr (fun j c=>by rcases j with _|_|_|_|_|_|_|_|_|_|_|_|_|_|j <;> first|rfl|omega)
  have uy:=f.bY E (by omega);have wD:=n.bY E (by omega);have Y:=E.below d d.size (by omega);refine aD<|Wl<|av (pf b 13)<|Lv (aC v.of) (aM uy.aH 13)<|av (pf a 13)<|iX uV 13 (aC v.of) fun w16 sS F z16 => ?_;have sj:aQ w16 a 14 (bH ⟨v.o,v.seq,v.deps,v.kind,0,0,0,v.req,v.of⟩) 28:=sS.congr (fun j c=>by rcases j with _|_|_|_|_|_|_|_|_|_|_|_|_|_|j <;> first|rfl|omega)
  have sU:=uy.bY F (by omega);have xC:=wD.bY F (by omega);have Z:=F.below Y Y.size (by omega);refine Ln<|bT<|sN<|ay<|Lv (.agg (aA 14 (bH ⟨v.o,v.seq,v.deps,v.kind,0,0,0,v.req,v.of⟩))) (fJ sj.aH 0)<|dZ xC 0 (h1:=(fD _)) fun WV ru G z17 => ?_;have uW:aQ WV m 14 (bH ⟨v.o,v.seq,v.deps,v.kind,0,0,0,v.req,v.of⟩) 28:=aR ru;have oh:=sU.bY G (by omega);have tL:=sj.bY G (by omega);have b17:=G.below Z Z.size (by omega);refine aD (Wr (⟨.agg (aA 14 (bH ⟨v.o,v.seq,v.deps,v.kind,0,0,0,v.req,v.of⟩)),rV Tryd.results58 ⟨_,rfl,aU uW.aH (by kernel_rfl) (by kernel_rfl)⟩,?_⟩));refine⟨K_ (fun q=>Ending.returned (Value.agg q)) (Fx.dW fun i r => ?_),b17⟩;unfold kH; rw[b_ g,b_ h,b_ l,d_ p]
 refine Lv aF (fU p)<|av aF<|aD<|aL<|ay ?_;by_cases t:v.kind=5
 ·refine Lv aG (eY t)<|av aG<|aD<|aO<|ay<|av (pf b 9)<|Lv (aC v.node) (aM f.aH 9)<|av (pf a 9)<|iX k 9 (aC v.node) fun Sq m64 H z18 => ?_;have yY:aQ Sq a 14 (bH ⟨v.o,v.seq,v.deps,v.kind,v.node,0,0,0,0⟩) 28:=m64.congr (fun j c=>by rcases j with _|_|_|_|_|_|_|_|_|_|_|_|_|_|j <;> first|rfl|omega)
  have wE:=f.bY H (by omega);have wR:=n.bY H (by omega);have aa:=H.below d d.size (by omega);refine aD<|ay<|av (pf b 11)<|Lv (au v.aT) (aM wE.aH 11)<|av (pf a 11)<|iX yY 11 (au v.aT) fun Y4 wK I z19 => ?_;have sV:aQ Y4 a 14 (bH ⟨v.o,v.seq,v.deps,v.kind,v.node,0,v.aT,0,0⟩) 28:=wK.congr (fun j c=>by rcases j with _|_|_|_|_|_|_|_|_|_|_|_|_|_|j <;> first|rfl|omega)
  have uX:=wE.bY I (by omega);have uz:=wR.bY I (by omega);have ab:=I.below aa aa.size (by omega);refine aD<|Wl<|av (pf b 10)<|Lv (au v.dst) (aM uX.aH 10)<|av (pf a 10)<|iX sV 10 (au v.dst) fun Sw vI J z20 => ?_;have tN:aQ Sw a 14 (bH ⟨v.o,v.seq,v.deps,v.kind,v.node,v.dst,v.aT,0,0⟩) 28:=vI.congr (fun j c=>by rcases j with _|_|_|_|_|_|_|_|_|_|_|_|_|_|j <;> first|rfl|omega)
  have Ah:=uX.bY J (by omega);have vJ:=uz.bY J (by omega);have b20:=J.below ab ab.size (by omega);refine Ln<|bT<|sN<|ay<|Lv (.agg (aA 14 (bH ⟨v.o,v.seq,v.deps,v.kind,v.node,v.dst,v.aT,0,0⟩))) (fJ tN.aH 0)<|dZ vJ 0 (h1:=(fD _)) fun PD yt K z21 => ?_;have yu:aQ PD m 14 (bH ⟨v.o,v.seq,v.deps,v.kind,v.node,v.dst,v.aT,0,0⟩) 28:=aR yt;have wS:=Ah.bY K (by omega);have wT:=tN.bY K (by omega);have LJ:=K.below b20 b20.size (by omega);refine aD (Wr (⟨.agg (aA 14 (bH ⟨v.o,v.seq,v.deps,v.kind,v.node,v.dst,v.aT,0,0⟩)),rV Tryd.results58 ⟨_,rfl,aU yu.aH (by kernel_rfl) (by kernel_rfl)⟩,?_⟩));refine⟨K_ (fun q=>Ending.returned (Value.agg q)) (Fx.dW fun i r => ?_),LJ⟩;unfold kH; rw[b_ g,b_ h,b_ l,b_ p,d_ t]
 refine Lv aF (fU t)<|av aF<|aD<|aL<|ay ?_;by_cases u:v.kind=6
 ·refine Lv aG (eY u)<|av aG<|aD<|aO<|Wl<|av (pf b 10)<|Lv (au v.dst) (aM f.aH 10)<|av (pf a 10)<|iX k 10 (au v.dst) fun w22 sZ L z22 => ?_;have uY:aQ w22 a 14 (bH ⟨v.o,v.seq,v.deps,v.kind,0,v.dst,0,0,0⟩) 28:=sZ.congr (fun j c=>by rcases j with _|_|_|_|_|_|_|_|_|_|_|_|_|_|j <;> first|rfl|omega)
  have xD:=f.bY L (by omega);have yw:=n.bY L (by omega);have Ju:=L.below d d.size (by omega);refine Ln<|bT<|sN<|ay<|Lv (.agg (aA 14 (bH ⟨v.o,v.seq,v.deps,v.kind,0,v.dst,0,0,0⟩))) (fJ uY.aH 0)<|dZ yw 0 (h1:=(fD _)) fun w23 wF M z23 => ?_;have zw:aQ w23 m 14 (bH ⟨v.o,v.seq,v.deps,v.kind,0,v.dst,0,0,0⟩) 28:=aR wF;have yx:=xD.bY M (by omega);have zJ:=uY.bY M (by omega);have Q5:=M.below Ju Ju.size (by omega);refine aD (Wr (⟨.agg (aA 14 (bH ⟨v.o,v.seq,v.deps,v.kind,0,v.dst,0,0,0⟩)),rV Tryd.results58 ⟨_,rfl,aU zw.aH (by kernel_rfl) (by kernel_rfl)⟩,?_⟩));refine⟨K_ (fun q=>Ending.returned (Value.agg q)) (Fx.dW fun i r => ?_),Q5⟩;unfold kH; rw[b_ g,b_ h,b_ l,b_ p,b_ t,d_ u]
 refine Lv aF (fU u)<|av aF<|aD<|aL<|Wk<|bT<|sN<|ay<|Lv (.agg (aA 14 (bH ⟨v.o,v.seq,v.deps,v.kind,0,0,0,0,0⟩))) (fJ k.aH 0)<|dZ n 0 (h1:=(fD _)) fun w24 yA N z24 => ?_;have yB:aQ w24 m 14 (bH ⟨v.o,v.seq,v.deps,v.kind,0,0,0,0,0⟩) 28:=aR yA;have Ai:=f.bY N (by omega);have Ez:=k.bY N (by omega);have Q6:=N.below d d.size (by omega);refine aD (Wr (⟨.agg (aA 14 (bH ⟨v.o,v.seq,v.deps,v.kind,0,0,0,0,0⟩)),rV Tryd.results58 ⟨_,rfl,aU yB.aH (by kernel_rfl) (by kernel_rfl)⟩,?_⟩));refine⟨K_ (fun q=>Ending.returned (Value.agg q)) (Fx.dW fun i r => ?_),Q6⟩;unfold kH; rw[b_ g,b_ h,b_ l,b_ p,b_ t,b_ u]
set_option linter.unusedSimpArgs false in
set_option maxHeartbeats 2000000 in
theorem Kh(v:EvM)(w:World) :
 Calls Tryd.prog 59 #[.agg (aA 14 (bH v))] w fun e w'=>e = .returned (.bool (dI v))/\Below w.heap.size w w':=by
 refine Kent Tryd.func59 75 ?_;refine ay<|pQ fun g S M B N V => ?_;have I:=bE N.old (Below.refl w.heap.size w);have Q:=gL M;have R:=B.lt;refine av aF<|aD<|DL (fun f F=>f 1=(pt g)/\f 3 = .bool (someE v)/\aQ F g 14 (bH v) 28/\Below w.heap.size w F) ?_ ?_
 ·refine Wl<|av (pf g 11)<|Lv (au v.aT) (aM B.aH 11) ?_;by_cases D:1<=v.aT
  ·refine Lv aG (ko D)<|av aG<|av (pf g 11)<|Lv (au v.aT) (aM B.aH 11) ?_;by_cases G:v.aT<=1125899906842624
   ·refine Lv aG (mW G)<|av aG<|av aG<|Ln ?_;exact wQ ⟨(by rfl),(by show Value.bool true=Value.bool (someE v); unfold someE; rw[f_ D,f_ G]; rfl),B,I⟩
   refine Lv aF (nk G)<|av aF<|av aF<|Ln ?_;exact wQ ⟨(by rfl),(by show Value.bool false=Value.bool (someE v); unfold someE; rw[f_ D,g_ G]; rfl),B,I⟩
  refine Lv aF (jT D)<|av aF<|dB<|dB<|dB<|av aF<|av aF<|Ln ?_;exact wQ ⟨(by rfl),(by show Value.bool false=Value.bool (someE v); unfold someE; rw[g_ D]; rfl),B,I⟩
 rintro O T ⟨A,K,C,J⟩;refine DL (fun f F=>f 1=(pt g)/\f 3 = .bool (someE v)/\f 4 = .bool (lM v)/\aQ F g 14 (bH v) 28/\Below w.heap.size w F) ?_ ?_
 ·refine Wl<|Lv (pf g 10) (jB A 10)<|Lv (au v.dst) (aM C.aH 10) ?_;by_cases t:(jI v.dst)=true
  ·refine oC (AL v.dst _) aG (by rw[t])<|av aG<|Lv (pf g 10) (jB A 10)<|Lv (au v.dst) (aM C.aH 10)<|Lv (pt g) (jB A 0)<|Lv (au v.o) (aM C.aH 0) ?_;by_cases H:v.dst=v.o
   ·refine Lv aF (jH H)<|av aF<|av aF<|Ln ?_;exact wQ ⟨A,K,(by show Value.bool false=Value.bool (lM v); unfold lM; rw[t,f_ H]; rfl),C,J⟩
   refine Lv aG (mX H)<|av aG<|av aG<|Ln ?_;exact wQ ⟨A,K,(by show Value.bool true=Value.bool (lM v); unfold lM; rw[t,g_ H]; rfl),C,J⟩
  rw[S_]at t;refine oC (AL v.dst _) aF (by rw[t])<|av aF<|dB<|dB<|dB<|dB<|dB<|av aF<|av aF<|Ln ?_;exact wQ ⟨A,K,(by show Value.bool false=Value.bool (lM v); unfold lM; rw[t]; rfl),C,J⟩
 rintro P U ⟨m,E,L,n,h⟩;refine Ws<|ay<|Lv (pf g 8) (jB m 8)<|Lv (.int .u8 (v.kind)) (aM n.aH 8)<|aD<|Wb<|ay ?_;by_cases a:v.kind=1
 ·refine Lv aG (eY a)<|av aG<|aD<|aO<|ay<|Lv (pf g 11) (jB m 11)<|Lv (au v.aT) (aM n.aH 11) ?_;by_cases p:0<=v.aT
  ·refine Lv aG (ko p)<|av aG<|Lv (pf g 11) (jB m 11)<|Lv (au v.aT) (aM n.aH 11) ?_;by_cases u:v.aT<=1125899906842624
   ·refine Lv aG (mW u)<|av aG<|av aG<|aD<|Wr<|bI<|sR<|aJ aG ?_;exact⟨gY (Eq.symm (by unfold dI; first|(rw[d_ a]; done)|(rw[d_ a]; first|(simp[p,u]; done)|(simp[p,u]; omega)))),h⟩
   refine Lv aF (nk u)<|av aF<|av aF<|aD<|Wr<|bI<|sR<|aJ aF ?_;exact⟨gY (Eq.symm (by unfold dI; first|(rw[d_ a]; done)|(rw[d_ a]; first|(simp[p,u]; done)|(simp[p,u]; omega)))),h⟩
  refine Lv aF (jT p)<|av aF<|dB<|dB<|dB<|av aF<|av aF<|aD<|Wr<|bI<|sR<|aJ aF ?_;exact⟨gY (Eq.symm (by unfold dI; first|(rw[d_ a]; done)|(rw[d_ a]; first|(simp[p]; done)|(simp[p]; omega)))),h⟩
 refine Lv aF (fU a)<|av aF<|aD<|aL<|ay ?_;by_cases b:v.kind=2
 ·refine Lv aG (eY b)<|av aG<|aD<|aO<|ay<|aY E<|av (.bool (someE v))<|aD<|Wr<|bI<|sR<|aJ (.bool (someE v)) ?_;exact⟨gY (Eq.symm (by unfold dI; first|(rw[b_ a,d_ b]; done)|(rw[b_ a,d_ b]; first|(simp[]; done)|(simp[]; omega)))),h⟩
 refine Lv aF (fU b)<|av aF<|aD<|aL<|ay ?_;by_cases c:v.kind=3
 ·refine Lv aG (eY c)<|av aG<|aD<|aO<|ay ?_;by_cases k:(someE v)=true
  ·refine aY (E.trans (K_ Value.bool k))<|av aG<|Lv (pf g 12) (jB m 12)<|Lv (aC v.req) (aM n.aH 12) ?_;by_cases x:1<=v.req
   ·refine Lv aG (ko x)<|av aG<|av aG<|aD<|Wr<|bI<|sR<|aJ aG ?_;exact⟨gY (Eq.symm (by unfold dI; first|(rw[b_ a,b_ b,d_ c]; done)|(rw[b_ a,b_ b,d_ c]; first|(simp[k,x]; done)|(simp[k,x]; omega)))),h⟩
   refine Lv aF (jT x)<|av aF<|av aF<|aD<|Wr<|bI<|sR<|aJ aF ?_;exact⟨gY (Eq.symm (by unfold dI; first|(rw[b_ a,b_ b,d_ c]; done)|(rw[b_ a,b_ b,d_ c]; first|(simp[k,x]; done)|(simp[k,x]; omega)))),h⟩
  rw[S_]at k;refine aY (E.trans (K_ Value.bool k))<|av aF<|dB<|dB<|dB<|av aF<|av aF<|aD<|Wr<|bI<|sR<|aJ aF ?_;exact⟨gY (Eq.symm (by unfold dI; first|(rw[b_ a,b_ b,d_ c]; done)|(rw[b_ a,b_ b,d_ c]; first|(simp[k]; done)|(simp[k]; omega)))),h⟩
 refine Lv aF (fU c)<|av aF<|aD<|aL<|ay ?_;by_cases d:v.kind=4
 ·refine Lv aG (eY d)<|av aG<|aD<|aO<|ay<|Lv (pf g 12) (jB m 12)<|Lv (aC v.req) (aM n.aH 12) ?_;by_cases j:1<=v.req
  ·refine Lv aG (ko j)<|av aG<|Lv (pf g 13) (jB m 13)<|Lv (aC v.of) (aM n.aH 13) ?_;by_cases q:1<=v.of
   ·refine Lv aG (ko q)<|av aG<|av aG<|Lv (pf g 12) (jB m 12)<|Lv (aC v.req) (aM n.aH 12)<|Lv (pf g 13) (jB m 13)<|Lv (aC v.of) (aM n.aH 13) ?_;by_cases y:v.req=v.of
    ·refine Lv aF (jH y)<|av aF<|av aF<|aD<|Wr<|bI<|sR<|aJ aF ?_;exact⟨gY (Eq.symm (by unfold dI; first|(rw[b_ a,b_ b,b_ c,d_ d]; done)|(rw[b_ a,b_ b,b_ c,d_ d]; first|(simp[j,q,y]; done)|(simp[j,q,y]; omega)))),h⟩
    refine Lv aG (mX y)<|av aG<|av aG<|aD<|Wr<|bI<|sR<|aJ aG ?_;exact⟨gY (Eq.symm (by unfold dI; first|(rw[b_ a,b_ b,b_ c,d_ d]; done)|(rw[b_ a,b_ b,b_ c,d_ d]; first|(simp[j,q,y]; done)|(simp[j,q,y]; omega)))),h⟩
   refine Lv aF (jT q)<|av aF<|av aF<|dB<|dB<|dB<|dB<|dB<|av aF<|av aF<|aD<|Wr<|bI<|sR<|aJ aF ?_;exact⟨gY (Eq.symm (by unfold dI; first|(rw[b_ a,b_ b,b_ c,d_ d]; done)|(rw[b_ a,b_ b,b_ c,d_ d]; first|(simp[j,q]; done)|(simp[j,q]; omega)))),h⟩
  refine Lv aF (jT j)<|av aF<|dB<|dB<|dB<|av aF<|av aF<|dB<|dB<|dB<|dB<|dB<|av aF<|av aF<|aD<|Wr<|bI<|sR<|aJ aF ?_;exact⟨gY (Eq.symm (by unfold dI; first|(rw[b_ a,b_ b,b_ c,d_ d]; done)|(rw[b_ a,b_ b,b_ c,d_ d]; first|(simp[j]; done)|(simp[j]; omega)))),h⟩
 refine Lv aF (fU d)<|av aF<|aD<|aL<|ay ?_;by_cases i:v.kind=5
 ·refine Lv aG (eY i)<|av aG<|aD<|aO<|ay ?_;by_cases l:(someE v)=true
  ·refine aY (E.trans (K_ Value.bool l))<|av aG ?_;by_cases s:(lM v)=true
   ·refine aY (L.trans (K_ Value.bool s))<|av aG<|av aG<|aD<|Wr<|bI<|sR<|aJ aG ?_;exact⟨gY (Eq.symm (by unfold dI; first|(rw[b_ a,b_ b,b_ c,b_ d,d_ i]; done)|(rw[b_ a,b_ b,b_ c,b_ d,d_ i]; first|(simp[l,s]; done)|(simp[l,s]; omega)))),h⟩
   rw[S_]at s;refine aY (L.trans (K_ Value.bool s))<|av aF<|av aF<|aD<|Wr<|bI<|sR<|aJ aF ?_;exact⟨gY (Eq.symm (by unfold dI; first|(rw[b_ a,b_ b,b_ c,b_ d,d_ i]; done)|(rw[b_ a,b_ b,b_ c,b_ d,d_ i]; first|(simp[l,s]; done)|(simp[l,s]; omega)))),h⟩
  rw[S_]at l;refine aY (E.trans (K_ Value.bool l))<|av aF<|dB<|av aF<|av aF<|aD<|Wr<|bI<|sR<|aJ aF ?_;exact⟨gY (Eq.symm (by unfold dI; first|(rw[b_ a,b_ b,b_ c,b_ d,d_ i]; done)|(rw[b_ a,b_ b,b_ c,b_ d,d_ i]; first|(simp[l]; done)|(simp[l]; omega)))),h⟩
 refine Lv aF (fU i)<|av aF<|aD<|aL<|ay ?_;by_cases r:v.kind=6
 ·refine Lv aG (eY r)<|av aG<|aD<|aO<|ay<|aY L<|av (.bool (lM v))<|aD<|Wr<|bI<|sR<|aJ (.bool (lM v)) ?_;exact⟨gY (Eq.symm (by unfold dI; first|(rw[b_ a,b_ b,b_ c,b_ d,b_ i,d_ r]; done)|(rw[b_ a,b_ b,b_ c,b_ d,b_ i,d_ r]; first|(simp[]; done)|(simp[]; omega)))),h⟩
 refine Lv aF (fU r)<|av aF<|aD<|aL<|Wk<|bT<|sN<|ay<|Lv (pf g 8) (jB m 8)<|Lv (.int .u8 (v.kind)) (aM n.aH 8) ?_;by_cases z:v.kind=7
 ·refine Lv aG (eY z)<|av aG<|aD<|Wr<|aJ aG ?_;exact⟨gY (Eq.symm (by unfold dI; first|(rw[b_ a,b_ b,b_ c,b_ d,b_ i,b_ r]; done)|(rw[b_ a,b_ b,b_ c,b_ d,b_ i,b_ r]; first|(simp[z]; done)|(simp[z]; omega)))),h⟩
 refine Lv aF (fU z)<|av aF<|aD<|Wr<|aJ aF ?_;exact⟨gY (Eq.symm (by unfold dI; first|(rw[b_ a,b_ b,b_ c,b_ d,b_ i,b_ r]; done)|(rw[b_ a,b_ b,b_ c,b_ d,b_ i,b_ r]; first|(simp[z]; done)|(simp[z]; omega)))),h⟩
namespace Rt
def jU(n:Int):Prop:=0<=n/\n<=18446744073709551615
def uF(n:Int):Prop := -9223372036854775808<=n/\n<=9223372036854775807
structure fV(v:EvM):Prop where
 o:uF v.o
 seq:jU v.seq
 deps : ∀ i,i<6->jU (v.deps i)
 kind:0<=v.kind/\v.kind<=255
 node:jU v.node
 dst:uF v.dst
 aT:uF v.aT
 req:jU v.req
 of:jU v.of
theorem fV.own{v:EvM}(h:fV v):fV (kH v):=by
 have z:jU 0:=⟨by decide,by decide⟩;have y:uF 0:=⟨by decide,by decide⟩;unfold kH;split
 ·exact⟨h.o,h.seq,h.deps,h.kind,h.node,y,h.aT,z,z⟩
 split
 ·exact⟨h.o,h.seq,h.deps,h.kind,h.node,y,h.aT,z,z⟩
 split
 ·exact⟨h.o,h.seq,h.deps,h.kind,h.node,y,h.aT,h.req,z⟩
 split
 ·exact⟨h.o,h.seq,h.deps,h.kind,z,y,y,h.req,h.of⟩
 split
 ·exact⟨h.o,h.seq,h.deps,h.kind,h.node,h.dst,h.aT,z,z⟩
 split
 ·exact⟨h.o,h.seq,h.deps,h.kind,z,h.dst,y,z,z⟩
 exact⟨h.o,h.seq,h.deps,h.kind,z,y,y,z,z⟩
theorem zx{v:EvM}(h:fV v):Fx.Kd [(some .i64),(some .u64),(some .u64),(some .u64),(some .u64),(some .u64),(some .u64),(some .u64),(some .u8),(some .u64),(some .i64),(some .i64),(some .u64),(some .u64)] (bH v):=by
 have a : ∀(k:IntKind) (n:Int),(Lit.int k n).wf=true -> ∃ l,sI (some k) (.int k n)=some l:=fun k n d=>by
  obtain⟨l,c⟩:=Fx.JE (k:=k) (n:=1) (x:=fun _=>n) (fun _ _=>d) 0 (by simp);exact⟨l,c⟩
 intro i b;have e:i<14:=b
 rcases i with _|_|_|_|_|_|_|_|_|_|_|_|_|_|i
 ·exact a .i64 v.o (Fx.Wu h.o)
 ·exact a .u64 v.seq (Fx.qU h.seq)
 ·exact a .u64 (v.deps 0) (Fx.qU (h.deps 0 (by decide)))
 ·exact a .u64 (v.deps 1) (Fx.qU (h.deps 1 (by decide)))
 ·exact a .u64 (v.deps 2) (Fx.qU (h.deps 2 (by decide)))
 ·exact a .u64 (v.deps 3) (Fx.qU (h.deps 3 (by decide)))
 ·exact a .u64 (v.deps 4) (Fx.qU (h.deps 4 (by decide)))
 ·exact a .u64 (v.deps 5) (Fx.qU (h.deps 5 (by decide)))
 ·exact a .u8 v.kind (Fx.aiV h.kind)
 ·exact a .u64 v.node (Fx.qU h.node)
 ·exact a .i64 v.dst (Fx.Wu h.dst)
 ·exact a .i64 v.aT (Fx.Wu h.aT)
 ·exact a .u64 v.req (Fx.qU h.req)
 ·exact a .u64 v.of (Fx.qU h.of)
 omega
def zM(v:EvM):Bool:=(List.range 6).all fun i=>decide (v.deps i<1099511627776)
def rz(v:EvM):Bool:=decide (v.node=(kH v).node)&&decide (v.dst=(kH v).dst)&&decide (v.aT=(kH v).aT)&&decide (v.req=(kH v).req)&&decide (v.of=(kH v).of)
def bM(v:EvM):Bool:=jI v.o&&decide (1<=v.seq)&&decide (v.seq<1099511627776)&&decide (v.deps (v.o-1).toNat=v.seq-1)&&zM v&&rz v&&dI v
theorem Td(v:EvM):(kH v).o=v.o/\(kH v).seq=v.seq/\(kH v).deps=v.deps/\(kH v).kind=v.kind:=by
 unfold kH; repeat (first|exact⟨rfl,rfl,rfl,rfl⟩|split)
theorem BF(v:EvM):rz v=true <-> ∀ i,i<14->bH v i=bH (kH v) i:=by
 obtain⟨m,n,p,q⟩:=Td v;unfold rz;simp only[R_,decide_eq_true_eq];constructor
 ·rintro ⟨⟨⟨⟨a,b⟩,c⟩,d⟩,e⟩ i r;have:kH v=v:=by
   cases hv:kH v with
   | mk o seq deps kind node dst aT req of =>
     rw[hv]at m n p q a b c d e
     cases v; simp_all
  rw[this]
 intro h;have l:Value.int .u64 v.node=aC (kH v).node:=h 9 (by decide);have f:Value.int .i64 v.dst=au (kH v).dst:=h 10 (by decide);have g:Value.int .i64 v.aT=au (kH v).aT:=h 11 (by decide);have j:Value.int .u64 v.req=aC (kH v).req:=h 12 (by decide);have k:Value.int .u64 v.of=aC (kH v).of:=h 13 (by decide);simp only[Value.int.injEq,true_and]at l f g j k;exact⟨⟨⟨⟨l,f⟩,g⟩,j⟩,k⟩
theorem eG{i:Int}(h:jI i=true) : ∃ a:Nat,a<6/\i=(a:Int)+1:=by
 unfold jI at h; simp at h;obtain⟨a,b⟩:=Int.eq_ofNat_of_zero_le (show 0<=i-1 by omega);exact⟨a,by omega,by omega⟩
theorem Gz{v:EvM}{k:Nat}(a:k<6)(h:1099511627776<=v.deps k):zM v=false:=by
 unfold zM; rw[List.all_eq_false]; exact⟨k,N_.2 a,by simp; omega⟩
theorem vK{v:EvM}{k:Nat}(b : ¬ (k:Int)<6)(h : ∀ i,i<k->v.deps i<1099511627776):zM v=true:=by
 unfold zM; rw[List.all_eq_true]; intro i a; have:=N_.1 a; simp; exact h i (by omega)
theorem PG{v:EvM}{k:Nat}(h : ∀ i,i<k->v.deps i<1099511627776)(a:v.deps k<1099511627776) : ∀ i,i<k+1->v.deps i<1099511627776:=fun i b=>by
 by_cases e:i=k
 ·subst e; exact a
 ·exact h i (by omega)
theorem iG{v:EvM}(h:bM v=true):jI v.o=true:=by
 unfold bM at h; simp only[R_]at h; exact h.1.1.1.1.1.1
end Rt
set_option maxHeartbeats 2000000 in
theorem GA(v:EvM)(w:World)(D:fV v) :
 Calls Tryd.prog 39 #[.agg (aA 14 (bH v))] w fun e w'=>e = .returned (.bool (bM v))/\Below w.heap.size w w':=by
 refine Kent Tryd.func39 47 ?_;refine ay<|pQ fun m w1 Q q s1 z1 => ?_;have t:=bE s1.old (Below.refl w.heap.size w);have sO:=gL Q;have uo:=q.lt;refine av aF<|aD<|Ws<|Ws ?_;refine mI<|aX (pt m)<|Qv (au v.o) (fun c b=>aM (q.cb b) 0) ?_;by_cases j:(jI v.o)=true
 ·obtain⟨a,ha,ea⟩:=eG j;refine pO (fun _ _=>AL v.o _) aG (by rw[j])<|aX aF<|aX aF<|aX (pf m 1)<|Qv (aC v.seq) (fun c b=>aM (q.cb b) 1) ?_;by_cases F:v.seq<1
  ·refine Qv aG (fun c b=>iL F)<|aX aG<|aX aG<|aP<|aP<|aP<|aX aG<|aX aG<|aP<|aP<|aP<|aP<|aP<|aP<|aP<|aP<|aP<|aP<|aX aG<|Qn ?_;intro WO R;have⟨d,J⟩:=eU R q t;refine sN<|aO<|ay<|av aF<|aD<|Wr<|sR<|aJ aF ?_;have d:decide (1<=v.seq)=false:=g_ (by omega);exact⟨gY (Eq.symm (by unfold bM; rw[j,d]; rfl)),J⟩
  refine Qv aF (fun c b=>iM F)<|aX aF<|aX aF<|aX (pf m 1)<|Qv (aC v.seq) (fun c b=>aM (q.cb b) 1) ?_;by_cases G:1099511627776<=v.seq
  ·refine Qv aG (fun c b=>ko G)<|aX aG<|aX aG<|aP<|aP<|aP<|aP<|aP<|aP<|aP<|aP<|aP<|aP<|aX aG<|Qn ?_;intro Y1 S;have⟨l,K⟩:=eU S q t;refine sN<|aO<|ay<|av aF<|aD<|Wr<|sR<|aJ aF ?_;have d:decide (1<=v.seq)=true:=f_ (by omega);have l:decide (v.seq<1099511627776)=false:=g_ (by omega);exact⟨gY (Eq.symm (by unfold bM; rw[j,d,l]; rfl)),K⟩
  refine Qv aF (fun c b=>jT G)<|aX aF<|aX aF<|aX (pt m)<|Qv (au v.o) (fun c b=>aM (q.cb b) 0)<|Qv (au a) (fun c b=>fQ)<|aX (pf m 2)<|Qv (pf m (a+2)) (fun c b=>jm 6 1)<|Qv (aC (v.deps a)) (fun c b=>aM (q.cb b) (a+2) (kF _ (by omega) (by omega)))<|aX (pf m 1)<|Qv (aC v.seq) (fun c b=>aM (q.cb b) 1)<|Qv (aC (v.seq-1)) (fun c b=>fQ) ?_;by_cases r:(v.deps a)=(v.seq-1)
  ·refine Qv aF (fun c b=>jH r)<|aX aF<|Qn ?_;intro wb3 T;have⟨p,L⟩:=eU T q t;refine sN<|aL<|Wk<|sN<|Ws<|ay<|av (au 0)<|aD<|Wb<|Wo (fun f H => ∃ k:Nat,k<=6/\(∀ i,i<k->v.deps i<1099511627776)/\f 1=(pt m)/\f 3=au (k:Int)/\aQ H m 14 (bH v) 28/\Below w.heap.size w H) (fun f _=>(6-(intOf (f 3)).toNat)) ⟨0,by omega,(fun i h=>L_ h (by omega)),(by rfl),Fx.ic,p,L⟩ ?_;rintro f1 w2 ⟨k,hk,C,A,B,g,u⟩;refine Ws<|ay<|aY B ?_;by_cases x:(k:Int)<6
   ·refine Lv aG (iL x)<|aD<|aO<|Wk<|sN<|Ws<|Wb<|ay<|aY B<|Lv (pf m 2) (jB A 2)<|Lv (pf m (k+2)) (jm 6 1)<|Lv (aC (v.deps k)) (aM g.aH (k+2) (kF _ (by omega) (by omega))) ?_;by_cases E:1099511627776<=(v.deps k)
    ·refine Lv aG (ko E)<|aD<|aO<|ay<|av aF<|aD<|Wr<|bI<|sR<|qo<|bI<|sR<|aJ aF ?_;have d:decide (1<=v.seq)=true:=f_ (by omega);have l:decide (v.seq<1099511627776)=true:=f_ (by omega);have p:decide (v.deps (v.o-1).toNat=v.seq-1)=true:=f_ (by rw[show(v.o-1).toNat=a by omega]; exact r);have g:=Gz (by omega) E;exact⟨gY (Eq.symm (by unfold bM; rw[j,d,l,p,g]; rfl)),u⟩
    refine Lv aF (jT E)<|aD<|aL<|Wk<|bT<|sN<|Wl<|aY B<|Lv (au ((k:Int)+1)) fE<|av (au ((k:Int)+1))<|Ln<|iB ⟨k+1,by omega,(PG C (by omega)),A,Fx.ic,g,u⟩ ?_;show(6-(intOf (au ((k:Int)+1))).toNat)<_;simp only[B,intOf]; omega
   refine Lv aF (iM x)<|aD<|aL<|Wx<|cK<|gU<|cO<|sN<|Ws ?_;refine mI<|Qv (.agg (aA 14 (bH v))) (fun c b=>fJ (g.cb b) 0 (ha:=A))<|Qv (.agg (aA 14 (bH v))) (fun c b=>fJ (g.cb b) 0 (ha:=A))<|yR (fun _ _=>aeN v _) _ rfl ?_;by_cases y : ∀ i,i<14->(bH v) i=(bH (kH v)) i
   ·refine Qv aG (fun c b=>Fx.vw (n:=14) (ks := [(some .i64),(some .u64),(some .u64),(some .u64),(some .u64),(some .u64),(some .u64),(some .u64),(some .u8),(some .u64),(some .i64),(some .i64),(some .u64),(some .u64)]) (X:=bH v) (Y:=bH (kH v)) 12 true rfl rfl rfl (Fx.Pg y) (zx D) (zx D.own) rfl (by kernel_rfl) (by kernel_rfl) (by kernel_rfl) (by kernel_rfl) (by kernel_rfl))<|aX aG<|Qv (.agg (aA 14 (bH v))) (fun c b=>fJ (g.cb b) 0 (ha:=A)) ?_;by_cases z:(dI v)=true
    ·refine yR (fun _ _=>Kh v _) aG (by rw[z])<|aX aG<|aX aG<|Qn ?_;intro wb4 U;have⟨s,M⟩:=eU U g u;refine sN<|Wr<|aJ aG ?_;have d:decide (1<=v.seq)=true:=f_ (by omega);have l:decide (v.seq<1099511627776)=true:=f_ (by omega);have p:decide (v.deps (v.o-1).toNat=v.seq-1)=true:=f_ (by rw[show(v.o-1).toNat=a by omega]; exact r);have g:=vK x C;have s:=(BF v).2 y;exact⟨gY (Eq.symm (by unfold bM; rw[j,d,l,p,g,s,z]; rfl)),M⟩
    rw[S_]at z;refine yR (fun _ _=>Kh v _) aF (by rw[z])<|aX aF<|aX aF<|Qn ?_;intro wb5 V;have N:=bE V u;refine sN<|Wr<|aJ aF ?_;have d:decide (1<=v.seq)=true:=f_ (by omega);have l:decide (v.seq<1099511627776)=true:=f_ (by omega);have p:decide (v.deps (v.o-1).toNat=v.seq-1)=true:=f_ (by rw[show(v.o-1).toNat=a by omega]; exact r);have g:=vK x C;have s:=(BF v).2 y;exact⟨gY (Eq.symm (by unfold bM; rw[j,d,l,p,g,s,z]; rfl)),N⟩
   refine Qv aF (fun c b=>Fx.vw (n:=14) (ks := [(some .i64),(some .u64),(some .u64),(some .u64),(some .u64),(some .u64),(some .u64),(some .u64),(some .u8),(some .u64),(some .i64),(some .i64),(some .u64),(some .u64)]) (X:=bH v) (Y:=bH (kH v)) 12 false rfl rfl rfl (Fx.nob y) (zx D) (zx D.own) rfl (by kernel_rfl) (by kernel_rfl) (by kernel_rfl) (by kernel_rfl) (by kernel_rfl))<|aX aF<|aP<|aP<|aX aF<|aX aF<|Qn ?_;intro wb6 W;have O:=bE W u;refine sN<|Wr<|aJ aF ?_;have d:decide (1<=v.seq)=true:=f_ (by omega);have l:decide (v.seq<1099511627776)=true:=f_ (by omega);have p:decide (v.deps (v.o-1).toNat=v.seq-1)=true:=f_ (by rw[show(v.o-1).toNat=a by omega]; exact r);have g:=vK x C;have s:rz v=false:=Bool.eq_false_iff.2 (fun h=>y ((BF v).1 h));exact⟨gY (Eq.symm (by unfold bM; rw[j,d,l,p,g,s]; rfl)),O⟩
  refine Qv aG (fun c b=>mX r)<|aX aG<|Qn ?_;intro wb7 Z;have P:=bE Z t;refine sN<|aO<|ay<|av aF<|aD<|Wr<|sR<|aJ aF ?_;have d:decide (1<=v.seq)=true:=f_ (by omega);have l:decide (v.seq<1099511627776)=true:=f_ (by omega);have p:decide (v.deps (v.o-1).toNat=v.seq-1)=false:=g_ (by rw[show(v.o-1).toNat=a by omega]; exact r);exact⟨gY (Eq.symm (by unfold bM; rw[j,d,l,p]; rfl)),P⟩
 rw[S_]at j;refine pO (fun _ _=>AL v.o _) aF (by rw[j])<|aX aG<|aX aG<|aP<|aP<|aP<|aX aG<|aX aG<|aP<|aP<|aP<|aX aG<|aX aG<|aP<|aP<|aP<|aP<|aP<|aP<|aP<|aP<|aP<|aP<|aX aG<|Qn ?_;intro wb8 aa;have I:=bE aa t;refine sN<|aO<|ay<|av aF<|aD<|Wr<|sR<|aJ aF ?_;exact⟨gY (Eq.symm (by unfold bM; rw[j]; rfl)),I⟩
namespace Rt
def lX(K:Nat->Int)(v:EvM):Bool:=bM v&&decide (v.seq<=K (v.o-1).toNat)
def xG(D K:Nat->Int):Bool:=(List.range 6).all fun i=>decide (D i<=K i)
def dw(K:Nat->Int)(v:EvM):Bool:=bM v&&decide (v.seq=K (v.o-1).toNat+1)&&xG v.deps K
theorem Te{D K:Nat->Int}{k:Nat}(a:k<6)(h:K k<D k):xG D K=false:=by
 unfold xG; rw[List.all_eq_false]; exact⟨k,N_.2 a,by simp; omega⟩
theorem PK{D K:Nat->Int}{k:Nat}(b : ¬ (k:Int)<6)(h : ∀ i,i<k->D i<=K i):xG D K=true:=by
 unfold xG; rw[List.all_eq_true]; intro i a; have:=N_.1 a; simp; exact h i (by omega)
theorem le_step{D K:Nat->Int}{k:Nat}(h : ∀ i,i<k->D i<=K i)(b : ¬ K k<D k) : ∀ i,i<k+1->D i<=K i:=fun i a=>by
 by_cases e:i=k
 ·subst e; omega
 ·exact h i (by omega)
def AO(K:Nat->Int):Prop := ∀ i,i<6->0<=K i/\K i<1099511627776
theorem DU{v:EvM}(h:bM v=true):1<=v.seq/\v.seq<1099511627776:=by
 unfold bM at h; simp only[R_,decide_eq_true_eq]at h; exact⟨h.1.1.1.1.1.2,h.1.1.1.1.2⟩
end Rt
theorem Tf(K:Nat->Int)(v:EvM)(w:World)(m:fV v) :
 Calls Tryd.prog 40 #[.agg (aA 6 (rv .u64 K)),.agg (aA 14 (bH v))] w fun e w'=>e = .returned (.bool (lX K v))/\Below w.heap.size w w':=by
 refine Kent Tryd.func40 17 ?_;refine ay<|pQ fun s I r i z O => ?_;have j:=bE z.old (Below.refl w.heap.size w);have D:=gL r;have G:=i.lt;refine pQ fun l J k c A P => ?_;have⟨y,h⟩:=eU A.old i j;have E:=jc k j.size;have F:=cu k i.lt;have H:=c.lt;refine av aF<|aD<|Ws ?_;refine mI<|Qv (.agg (aA 14 (bH v))) (fun f b=>fJ (c.cb b) 0) ?_;by_cases d:(bM v)=true
 ·obtain⟨a,C,B⟩:=eG (iG d);refine yR (fun _ _=>GA v _ m) aG (by rw[d])<|aX aG<|aX (pf l 1)<|Qv (aC v.seq) (fun f b=>aM (c.cb b) 1)<|aX (pt l)<|Qv (au v.o) (fun f b=>aM (c.cb b) 0)<|Qv (au a) (fun f b=>fQ)<|Qv (pf s a) (fun f b=>jm 6 1)<|Qv (aC (K a)) (fun f b=>aM (y.cb b) a) ?_;by_cases g:v.seq<=(K a)
  ·refine Qv aG (fun f b=>mW g)<|aX aG<|aX aG<|Qn ?_;intro L t;have n:=bE t h;refine sN<|Wr<|aJ aG ?_;have c:decide (v.seq<=K (v.o-1).toNat)=true:=f_ (by rw[show(v.o-1).toNat=a by omega]; exact g);exact⟨gY (Eq.symm (by unfold lX; rw[d,c]; rfl)),n⟩
  refine Qv aF (fun f b=>nk g)<|aX aF<|aX aF<|Qn ?_;intro M u;have p:=bE u h;refine sN<|Wr<|aJ aF ?_;have c:decide (v.seq<=K (v.o-1).toNat)=false:=g_ (by rw[show(v.o-1).toNat=a by omega]; exact g);exact⟨gY (Eq.symm (by unfold lX; rw[d,c]; rfl)),p⟩
 rw[S_]at d;refine yR (fun _ _=>GA v _ m) aF (by rw[d])<|aX aF<|aP<|aP<|aP<|aP<|aP<|aP<|aP<|aP<|aX aF<|aX aF<|Qn ?_;intro N x;have q:=bE x h;refine sN<|Wr<|aJ aF ?_;exact⟨gY (Eq.symm (by unfold lX; rw[d]; rfl)),q⟩
theorem N8(K:Nat->Int)(v:EvM)(w:World)(H:fV v)(R:AO K) :
 Calls Tryd.prog 41 #[.agg (aA 6 (rv .u64 K)),.agg (aA 14 (bH v))] w fun e w'=>e = .returned (.bool (dw K v))/\Below w.heap.size w w':=by
 refine Kent Tryd.func41 32 ?_;refine ay<|pQ fun s w1 Q A s1 z1 => ?_;have C:=bE s1.old (Below.refl w.heap.size w);have sO:=gL Q;have uo:=A.lt;refine pQ fun l w2 D d s2 z2 => ?_;have⟨m,t⟩:=eU s2.old A C;have qN:=jc D C.size;have N7:=cu D A.lt;have zL:=d.lt;refine av aF<|aD<|Ws<|Ws ?_;refine mI<|Qv (.agg (aA 14 (bH v))) (fun c b=>fJ (d.cb b) 0) ?_;by_cases g:(bM v)=true
 ·obtain⟨a,S,ea⟩:=eG (iG g);have ka:=R a S;refine yR (fun _ _=>GA v _ H) aG (by rw[g])<|aX aF<|aX aF<|aX (pf l 1)<|Qv (aC v.seq) (fun c b=>aM (d.cb b) 1)<|aX (pt l)<|Qv (au v.o) (fun c b=>aM (d.cb b) 0)<|Qv (au a) (fun c b=>fQ)<|Qv (pf s a) (fun c b=>jm 6 1)<|Qv (aC (K a)) (fun c b=>aM (m.cb b) a)<|Qv (aC ((K a)+1)) (fun c b=>fE) ?_;by_cases n:v.seq=((K a)+1)
  ·refine Qv aF (fun c b=>jH n)<|aX aF<|Qn ?_;intro WO T;have⟨Y,Z,L⟩:=jh T m d t;refine sN<|aL<|Wk<|sN<|Ws<|ay<|av (au 0)<|aD<|Wb<|Wo (fun f B => ∃ k:Nat,k<=6/\(∀ i,i<k->v.deps i<=K i)/\f 2=(pt s)/\f 3=(pt l)/\f 5=au (k:Int)/\aQ B s 6 (rv .u64 K) 26/\aQ B l 14 (bH v) 28/\Below w.heap.size w B) (fun f _=>(6-(intOf (f 5)).toNat)) ⟨0,by omega,(fun i h=>L_ h (by omega)),(by rfl),(by rfl),Fx.ic,Y,Z,L⟩ ?_;rintro f1 j ⟨k,hk,G,E,F,p,I,J,u⟩;refine Ws<|ay<|aY p ?_;by_cases x:(k:Int)<6
   ·refine Lv aG (iL x)<|aD<|aO<|Wk<|sN<|Ws<|Wb<|Ws ?_;refine yS<|eB p<|Qv (pf l 2) (fun c b=>jB F 2)<|Qv (pf l (k+2)) (fun c b=>jm 6 1)<|Qv (aC (v.deps k)) (fun c b=>aM (J.aH.dr b) (k+2) (kF _ (by omega) (by omega)))<|eB p<|Qv (pf s k) (fun c b=>jm 6 1 (hx:=E))<|Qv (aC (K k)) (fun c b=>aM (I.aH.dr b) k) ?_;by_cases r:(K k)<(v.deps k)
    ·refine Qv aG (fun c b=>nu r)<|Qn ?_;rintro _ ⟨q,rfl⟩;obtain⟨Dn,y⟩ : ∃ c,c=World.drewN j q:=⟨_,rfl⟩;rw[<- y];have s4:Stp j.heap.size j Dn:=(by rw[y]; exact Sb (jD j q));have M:=bE s4.old u;clear y;refine sN<|aO<|ay<|av aF<|aD<|Wr<|bI<|sR<|qo<|bI<|sR<|aJ aF ?_;have d:decide (v.seq=K (v.o-1).toNat+1)=true:=f_ (by rw[show(v.o-1).toNat=a by omega]; exact n);have m:=Te (by omega) r;exact⟨gY (Eq.symm (by unfold dw; rw[g,d,m]; rfl)),M⟩
    refine Qv aF (fun c b=>ny r)<|Qn ?_;rintro _ ⟨q,rfl⟩;obtain⟨wq2,z⟩ : ∃ c,c=World.drewN j q:=⟨_,rfl⟩;rw[<- z];have s5:Stp j.heap.size j wq2:=(by rw[z]; exact Sb (jD j q));have⟨W,X,N⟩:=jh s5.old I J u;clear z;refine sN<|aL<|Wk<|bT<|sN<|Wl<|aY p<|Lv (au ((k:Int)+1)) fE<|av (au ((k:Int)+1))<|Ln<|iB ⟨k+1,by omega,(le_step G r),E,F,Fx.ic,W,X,N⟩ ?_;show(6-(intOf (au ((k:Int)+1))).toNat)<_;simp only[p,intOf]; omega
   refine Lv aF (iM x)<|aD<|aL<|Wx<|cK<|gU<|cO<|sN<|ay<|av aG<|aD<|Wr<|aJ aG ?_;have d:decide (v.seq=K (v.o-1).toNat+1)=true:=f_ (by rw[show(v.o-1).toNat=a by omega]; exact n);have m:=PK x G;exact⟨gY (Eq.symm (by unfold dw; rw[g,d,m]; rfl)),u⟩
  refine Qv aG (fun c b=>mX n)<|aX aG<|Qn ?_;intro Y1 U;have O:=bE U t;refine sN<|aO<|ay<|av aF<|aD<|Wr<|sR<|aJ aF ?_;have d:decide (v.seq=K (v.o-1).toNat+1)=false:=g_ (by rw[show(v.o-1).toNat=a by omega]; exact n);exact⟨gY (Eq.symm (by unfold dw; rw[g,d]; rfl)),O⟩
 rw[S_]at g;refine yR (fun _ _=>GA v _ H) aF (by rw[g])<|aX aG<|aX aG<|aP<|aP<|aP<|aP<|aP<|aP<|aP<|aP<|aP<|aX aG<|Qn ?_;intro wb3 V;have P:=bE V t;refine sN<|aO<|ay<|av aF<|aD<|Wr<|sR<|aJ aF ?_;exact⟨gY (Eq.symm (by unfold dw; rw[g]; rfl)),P⟩
set_option maxHeartbeats 400000 in
theorem IL(a:Option Addr)(len cap:Nat)(l:List Int)(w:World)(hlen:len<=100)(hl:Hid (l.length=len))(hr:RdI .i64 w a l) :
 Calls Tryd.prog 70 #[.slice a len cap] w fun e w'=>e = .returned (.tuple #[.int .i64 (mK l).1,.bool (mK l).2])/\w'=w:=by
 go_enter Tryd.func70,Tryd.ntmps70
 go_wp2
 go_loop [2,3,8] (fun v o i=>o = .bool false /\ ∃ k:Nat,k<=len/\i = .int .i64 k/\lW (l.take k)=true/\v = .int .i64 (l.take k).sum) (fun _ _ i=>len-(intOf i).toNat)
 case atStart=>exact⟨rfl,0,J_ _,rfl,rfl,rfl⟩
 case round =>
  obtain⟨rfl,k,hk,rfl,hok,rfl⟩:=hrel;by_cases hk2:k<len
  ·have hk3:k<l.length:=(by rw[hl.out]; exact hk2);obtain⟨b,off,rfl,hc⟩:=hr k hk3;have hb:=Bu _ hok;have hle:(l.take k).length<=k:=List.length_take_le _ _;have HS:Hid _:=F5 l k hk3;have HO:Hid _:=Dk l k hk3;have HF:Hid (zI l[k]=false->mK l=(0,false)):=(by intro h; unfold mK; rw[b_ (by rw[F6 hk3 h]; decide)]);have Hok:Hid _:=hok;clear hr hok;generalize l[k]=x at *;generalize hs:(l.take k).sum=s at *;clear hs;by_cases h0:x<0
   ·have hn:zI x=false:=(by unfold zI; simp; omega);have HR:Hid _:=HF.out hn;clear HF hn HS HO
    go_wp2
    go_ret2
    rw[HR.out]; exact⟨rfl,rfl⟩
   ·by_cases h1:1125899906842624<x
    ·have hn:zI x=false:=(by unfold zI; simp; omega);have HR:Hid _:=HF.out hn;clear HF hn HS HO
     go_wp2
     go_ret2
     rw[HR.out]; exact⟨rfl,rfl⟩
    ·have hy:Hid (zI x=true):=(by unfold zI Hid; simp; omega);clear HF
     go_wp2
     go_round
     case rel=>exact⟨rfl,k+1,by omega,by go_num,by rw[HO.out,Hok.out,hy.out]; rfl,by rw[HS.out]⟩
     case measure=>simp[intOf]; omega
  ·have hT:Hid (l.take k=l):=List.take_of_length_le (by rw[hl.out]; omega);rw[hT.out]at hok ⊢;have HR:Hid (mK l=(l.sum,true)):=(by unfold mK Hid; rw[d_ hok]);clear hok;generalize l.sum=s at *
   go_wp2
   go_ret2
   rw[HR.out]; exact⟨rfl,rfl⟩
def Two(a w:World)(d f:Nat)(b:List Int)(e g:Nat)(c:List Int):Prop :=
 w.ownsRow a.heap.size 2 1 (.slice (some ⟨d,0,none⟩) b.length f) b.length (b.map (Value.int .i64)) /\
 w.ownsRow a.heap.size 2 1 (.slice (some ⟨e,0,none⟩) c.length g) c.length (c.map (Value.int .i64))/\d≠e/\Below a.heap.size a w
theorem Two.alloc{g w:World}{c a:Nat}{e:List Int}{d b:Nat}{f:List Int}(h:Two g w c a e d b f)(o:Obj):Two g (w.alloc o) c a e d b f :=
 ⟨World.ownsRow.alloc h.1 o,World.ownsRow.alloc h.2.1 o,h.2.2.1,h.2.2.2.alloc h.2.2.2.size o⟩
theorem Two.drew{g w:World}{c a:Nat}{e:List Int}{d b:Nat}{f:List Int}(h:Two g w c a e d b f):Two g w.drew c a e d b f :=
 ⟨h.1,h.2.1,h.2.2.1,h.2.2.2.drew⟩
theorem Two.swap{g w:World}{c a:Nat}{e:List Int}{d b:Nat}{f:List Int}(h:Two g w c a e d b f):Two g w d b f c a e:=⟨h.2.1,h.1,h.2.2.1.symm,h.2.2.2⟩
theorem W9:(Tryd.prog.info? 2).map (fun i=>(i.zero,i.size,i.bytes))=some (some (.int .i64 0),1,8):=by kernel_rfl
theorem Ki{ops:Array Oper}{o:Oper}{a:Act}{q w:World}{K:Act->World->Prop}{Q:Exit->Act->World->Prop}{E:Prop}(C:o.guard=none)(s x:Operand)
 (I:o.op = .call { callee := .builtin .append,args := #[s,x],argTypes := #[143,143] }) (l r:Nat) (d:List Int) (m t:Nat) (y:List Int) (h:Two q w l r d m t y)
 (n:Nat) (G:d.length=n) (J:a.eval s = .slice (some ⟨l,0,none⟩) n r) (i:Nat) (v:Int) (hx:a.eval x = .slice (some ⟨i,0,none⟩) 1 1) (B:w.cell? ⟨i,0,none⟩=some (.int .i64 v)) (R:n<=100)
 (A : ∀ g f w',Two q w' g f (d ++ [v]) m t y->(∀ a u,w.cell? a=some u->a.block≠l->w'.cell? a=some u)->K (a.put o.dst (.slice (some ⟨g,0,none⟩) (n+1) f)) w') :
 if Region.wanted o (yielded ops a.tmps)=true then Oper.wp Tryd.prog o a w K Q else E:=by
 obtain⟨O,D,L,M,N⟩:=info_parts W9;subst G
 refine step_append_lies w C s x 143 I q.heap.size 2 O (.int .i64 0) 1 8 Tryd.underlying143 D L M N rfl (by decide) _ d.length (d.map (Value.int .i64)) J h.1 ⟨i,0,none⟩ 1 1 [.int .i64 v] hx rfl
  (by intro j u b; cases j with
   | zero=>simp at b; subst b; rw[addr_add]; exact B
   | succ j=>simp at b) (by intro u b; simp at b; subst b; rfl) (by decide) (by unfold maxLen; omega) (by omega) h.2.2.2.size w.heap.size rfl ?_
 intro g f w' z p c P;refine A g f w' ⟨?_,?_,?_,?_⟩ (fun a u b H=>p.cell b (by simp[Value.ownBlock]; exact H))
 ·rw[D_,List.map_append]; exact z
 ·exact World.ownsRow.kept h.2.1 p (.inr (by simp[Value.ownBlock]; exact fun e=>h.2.2.1 e.symm))
 ·have S:=World.ownsRow.lt h.2.1 m rfl
  rcases c with c|c
  ·simp[Value.ownBlock]at c; subst c; exact h.2.2.1
  omega
 exact h.2.2.2.grown p h.2.2.2.size (fun k F=>(World.ownsRow.lt h.1 k F).1)
theorem Two.rd1{j w:World}{a c:Nat}{b:List Int}{e d:Nat}{g:List Int}(h:Two j w a c b e d g):RdI .i64 w (some ⟨a,0,none⟩) b:=by
 intro i f;refine⟨a,0,rfl,?_⟩;rw[E_,World.ownsRow.cellAt h.1 i (by omega)];simp[f]
theorem Two.start(w:World)(v a b:Int):Two w ((w.alloc (.cells #[.int .i64 v] 2)).alloc (.cells #[.int .i64 a,.int .i64 b] 2)) w.heap.size 1 [v] (w.heap.size+1) 2 [a,b]:=by
 refine⟨World.ownsRow.alloc (World.ownsRow_lit w #[.int .i64 v] 1 (z_ _) (by unfold maxLen; omega) rfl) _,?_,by omega,((Below.refl _ _).alloc (z_ _) _).alloc (by simp) _⟩;have:=World.ownsRow_lit (base:=w.heap.size) (e:=2) (size:=1) (w.alloc (.cells #[.int .i64 v] 2)) #[.int .i64 a,.int .i64 b] 2 (by simp) (by unfold maxLen; omega) rfl
 simpa using this
theorem Two.aaI(w:World)(v a b:Int):Two w ((w.alloc (.cells #[.int .i64 a,.int .i64 b] 2)).alloc (.cells #[.int .i64 v] 2)) (w.heap.size+1) 1 [v] w.heap.size 2 [a,b]:=by
 refine⟨?_,World.ownsRow.alloc (World.ownsRow_lit w #[.int .i64 a,.int .i64 b] 2 (z_ _) (by unfold maxLen; omega) rfl) _,by omega,((Below.refl _ _).alloc (z_ _) _).alloc (by simp) _⟩;have:=World.ownsRow_lit (base:=w.heap.size) (e:=2) (size:=1) (w.alloc (.cells #[.int .i64 a,.int .i64 b] 2)) #[.int .i64 v] 1 (by simp) (by unfold maxLen; omega) rfl
 simpa using this
theorem Two.at{c w:World}{g d:Nat}{k:List Int}{j e:Nat}{l:List Int}(h:Two c w g d k j e l){b:Nat}{x:Nat->Int}{T:TypeId}{f:Nat × Nat}(a:c.heap[b]? = some (.cells (aS .i64 54 x) T f))(i:Nat)(hi:i<54) :
 w.cell? ⟨b,i,none⟩=some (.int .i64 (x i)) :=
 fK ((h.2.2.2.block b (Array.getElem?_eq_some_iff.1 a).1).trans a) i hi
theorem Two.lt{a w:World}{e c:Nat}{i:List Int}{f d:Nat}{j:List Int}(h:Two a w e c i f d j){b:Nat}(g:b<a.heap.size):b<w.heap.size:=n_ g h.2.2.2.size
theorem EA(x:Nat->Int)(k:Nat) : ∀ j,(outs x k j).length=j+1
 | 0=>rfl
 | j+1=>by rw[outs,D_,EA x k j]; rfl
theorem IQ(x:Nat->Int)(k:Nat) : ∀ j,(ins x k j).length=j+2
 | 0=>rfl
 | j+1=>by rw[ins,D_,IQ x k j]; rfl
def aeP(w:World)(x:Nat->Int)(k j:Nat)(e f:Value)(g:World):Prop :=
 ∃ c a d b,e = .slice (some ⟨c,0,none⟩) (j+1) a/\f = .slice (some ⟨d,0,none⟩) (j+2) b/\Two w g c a (outs x k j) d b (ins x k j)
set_option maxHeartbeats 4000000 in
theorem GD(b:Nat)(T:TypeId)(fz:Nat × Nat)(x:Nat->Int)(k:Nat)(w:World)(hk:k<6)(hb:Hid (w.heap[b]? = some (.cells (aS .i64 54 x) T fz))) :
 Calls Tryd.prog 49 #[.pointer (some ⟨b,0,none⟩),.int .i64 k] w fun e w'=>e = .returned (.tuple #[.int .i64 (localM x k).1,.bool (localM x k).2])/\Below w.heap.size w w':=by
 have hlt:b<w.heap.size:=(Array.getElem?_eq_some_iff.1 hb.out).1;have hki:(k:Int)<6:=by omega
 go_enter Tryd.func49,Tryd.ntmps49
 go_upto_region 1 with (fail)
 go_cut [6,7] (fun s6 s7 wx=>aeP w x k 0 s6 s7 wx)
 case first =>
  have c1:=fK hb.out (6+k) (by omega);have c2:=fK hb.out k (by omega);have c3:=fK hb.out (12+k) (by omega)
  go_wp2
  go_region
  all_goals go_wp2
  all_goals go_meet
  case rel=>exact⟨_,_,_,_,rfl,rfl,(Two.start w (x (6+k)) (x k) (x (12+k))).drew⟩
  case rel=>exact⟨_,_,_,_,rfl,rfl,(Two.aaI w (x (6+k)) (x k) (x (12+k))).drew⟩
 case rest =>
  clear hlt
  go_wp2
  go_loopw [6,7,33] (fun s6 s7 i wx => ∃ j:Nat,j<=6/\i = .int .i64 j/\aeP w x k j s6 s7 wx) (fun _ _ i _=>6-(intOf i).toNat)
  case atStart=>exact⟨0,J_ _,rfl,hcut⟩
  case round =>
   obtain⟨j,hj,rfl,g1,c1,g2,c2,rfl,rfl,hT⟩:=hrel;by_cases hj2:j<6
   ·have hji:(j:Int)<6:=(by omega);have hlt:b<w.heap.size:=(Array.getElem?_eq_some_iff.1 hb.out).1;have hrow:wr.heap[b]? = some (.cells (aS .i64 54 x) T fz):=(hT.2.2.2.block b hlt).trans hb.out;have e1:=fK hrow (18+k*6+j) (by omega);have e2:=fK hrow (18+j*6+k) (by omega);have hlt2:b<wr.heap.size:=(Array.getElem?_eq_some_iff.1 hrow).1;have Tg:Hid _:=hrow;have hg1:g1<wr.heap.size:=(World.ownsRow.lt hT.1 g1 rfl).2;have hg2:g2<wr.heap.size:=(World.ownsRow.lt hT.2.1 g2 rfl).2;clear hrow;have HO:Hid ((outs x k j).length=j+1):=EA x k j;have HI:Hid ((ins x k j).length=j+2):=IQ x k j
    go_wp2
    go_region_law (first
     | (refine Ki (o:=⟨some 46,_,_,_,_,_⟩) (by rfl) (.tmp 36) (.tmp 45) (by rfl) g1 c1 (outs x k j) _ _ _ (by first|assumption|exact Two.alloc (by assumption) _|exact Two.alloc (Two.alloc (by assumption) _) _|exact hT.drew.alloc _|exact(hT.drew.alloc _).alloc _) (j+1) HO.out (by rfl) _ (x (18+k*6+j)) (by rfl) (by first|(go_simp; done)|exact hkp _ _ (by go_simp; done) (by simp; omega)) (by omega) ?_; intro g cp w1 hT1 hkp; have e1':=hT1.at hb.out (18+k*6+j) (by omega); have e2':=hT1.at hb.out (18+j*6+k) (by omega); have hlt':=hT1.lt hlt)
     | (refine Ki (o:=⟨some 57,_,_,_,_,_⟩) (by rfl) (.tmp 47) (.tmp 56) (by rfl) g2 c2 (ins x k j) _ _ _ (by first|exact Two.swap (by assumption)|exact(Two.alloc (by assumption) _).swap|exact(Two.alloc (Two.alloc (by assumption) _) _).swap|exact(hT.drew.alloc _).swap|exact((hT.drew.alloc _).alloc _).swap) (j+2) HI.out (by rfl) _ (x (18+j*6+k)) (by rfl) (by first|(go_simp; done)|exact hkp _ _ (by go_simp; done) (by simp; omega)) (by omega) ?_; intro g cp w1 hT1 hkp; have e1':=hT1.at hb.out (18+k*6+j) (by omega); have e2':=hT1.at hb.out (18+j*6+k) (by omega); have hlt':=hT1.lt hlt))
    all_goals go_wp2
    all_goals go_roundw
    all_goals first
     | (simp[intOf]; omega)
     | exact⟨j+1,by omega,by go_num,_,_,_,_,rfl,rfl,hT1.swap⟩
   ·obtain rfl:j=6:=(by omega);have r1:=hT.rd1;have r2:=hT.swap.rd1;have hbel:=hT.2.2.2;have HO:Hid ((outs x k 6).length=7):=EA x k 6;have HI:Hid ((ins x k 6).length=8):=IQ x k 6;have b1:=vH (outs x k 6);have b2:=vH (ins x k 6);rw[HO.out]at b1;rw[HI.out]at b2;have HL:Hid (localM x k=((mK (ins x k 6)).1-(mK (outs x k 6)).1,(mK (outs x k 6)).2&&(mK (ins x k 6)).2)):=rfl;generalize outs x k 6=lo at *;generalize ins x k 6=li at *;clear hT
    go_wp2_with fail
    refine(IL _ 7 c1 lo _ (by omega) HO r1).mono ?_;rintro e w1 ⟨rfl,rfl⟩
    go_wp2_with fail
    refine(IL _ 8 c2 li _ (by omega) HI r2).mono ?_;rintro e w2 ⟨rfl,rfl⟩;generalize (mK li).1=n2 at *;generalize (mK lo).1=n1 at *;generalize (mK li).2=o2 at *;generalize (mK lo).2=o1 at *
    cases o1
    all_goals
     go_wp2_with fail
     go_ret2
     rw[HL.out]; exact⟨rfl,hbel⟩
namespace Rt
def BG(x:Nat->Int)(k:Nat):Bool:=(localM x k).2&&decide (0<=(localM x k).1)&&decide (F x k<=C x k)&&(R x k k==0)
def Dp(x:Nat->Int):Nat->Bool
 | 0=>true
 | k+1=>Dp x k&&BG x k
def gs(x:Nat->Int):List Int := [x 0,x 1,x 2,x 3,x 4,x 5]
def may(x:Nat->Int):Bool:=Dp x 6&&((mK (gs x)).2&&decide ((mK (gs x)).1<=1125899906842624))
theorem EB(x:Nat->Int)(k:Nat)(h:BG x k=false) : ∀ n,k<n->Dp x n=false
 | 0,hn=>L_ hn (by omega)
 | n+1,hn=>by
   rw[Dp];by_cases e:k=n
   ·subst e; rw[h,H_]
   ·rw[EB x k h n (by omega),Bool.false_and]
theorem PL(x:Nat->Int)(k:Nat)(a:k<6)(h:BG x k=false):may x=false:=by
 unfold may; rw[EB x k h 6 a,Bool.false_and]
end Rt
theorem aeQ{w:World}{g:Nat}{x:Nat->Int}{t:TypeId}{a:Nat × Nat}(h:w.heap[g]? = some (.cells (aS .i64 54 x) t a)):RdI .i64 w (some ⟨g,0,none⟩) (gs x):=by
 intro i b;have c:i<6:=b;refine⟨g,0,rfl,?_⟩;rw[E_,fK h i (by omega)]
 rcases(show i=0\/i=1\/i=2\/i=3\/i=4\/i=5 by omega)with rfl|rfl|rfl|rfl|rfl|rfl <;> rfl
set_option maxHeartbeats 1000000 in
theorem tu(x:Nat->Int)(w:World) :
 Calls Tryd.prog 48 #[.agg (aS .i64 54 x)] w fun e w'=>e = .returned (.bool (may x))/\Below w.heap.size w w':=by
 go_enter Tryd.func48,Tryd.ntmps48
 go_wp2
 go_loopw [2,3,8] (fun r _ i wr=>r = .bool false /\ ∃ k:Nat,k<=6/\i = .int .i64 k/\Dp x k=true/\wr.heap[w.heap.size]? = some (.cells (aS .i64 54 x) 82 (0,0))/\Below w.heap.size w wr) (fun _ _ i _=>6-(intOf i).toNat)
 case atStart=>exact⟨rfl,0,J_ _,rfl,rfl,heap_alloc_new w _,(Below.refl _ _).alloc (z_ _) _⟩
 case round =>
  obtain⟨rfl,k,hk,rfl,hN,hrow,hbel⟩:=hrel;have hlt:w.heap.size<wr.heap.size:=(Array.getElem?_eq_some_iff.1 hrow).1;have Tg:Hid _:=hrow;have HN:Hid _:=hN;clear hrow hN;by_cases hk2:k<6
  ·have hki:(k:Int)<6:=(by omega);have HM:Hid (Dp x (k+1)=(Dp x k&&BG x k)):=rfl;have HF:Hid (BG x k=false->may x=false):=fun h=>PL x k hk2 h;have HK:Hid (BG x k=((localM x k).2&&decide (0<=(localM x k).1)&&decide (F x k<=C x k)&&(R x k k==0))):=rfl
   go_wp2_with fail
   refine(GD w.heap.size _ _ x k wr hk2 Tg).mono ?_;rintro e w1 ⟨rfl,hb1⟩;have Kj:=(hb1.block _ hlt).trans Tg.out;have Kk:=hbel.trans (hb1.mono (Nat.le_of_lt hlt));have c1:=fK Kj (12+k) (by omega);have c2:=fK Kj (6+k) (by omega);have c3:=fK Kj (18+k*6+k) (by omega);have aeR:Hid _:=Kj;clear Kj Tg hbel hb1;generalize (localM x k).1=n at *;generalize hF:F x k=f at *;generalize hC:C x k=c at *;generalize hR:R x k k=r at *;unfold F at hF; unfold C at hC; unfold R at hR;rw[hF]at c1; rw[hC]at c2; rw[hR]at c3;clear hF hC hR
   cases his:(localM x k).2
   ·rw[his]at HK;clear his;have HR:Hid _:=HF.out (by rw[HK.out]; rfl);clear HK HF HM
    go_wp2_with fail
    go_quiet (fail)
    go_wp2
    go_ret
    rw[HR.out]; exact⟨rfl,bN Kk _⟩
   ·rw[his]at HK;clear his;by_cases h1:n<0
    ·have d1:decide (n<0)=true:=(by simpa using h1);have d1':decide (0<=n)=false:=(by simp; omega);have HR:Hid _:=HF.out (by rw[HK.out]; rw[d1']; rfl);clear HK HF HM
     go_wp2_with fail
     go_quiet (fail)
     go_wp2
     go_ret
     rw[HR.out]; exact⟨rfl,bN Kk _⟩
    ·have d1:decide (n<0)=false:=(by simp; omega);have d1':Hid (decide (0<=n)=true):=(by unfold Hid; simp; omega);by_cases h2:c<f
     ·have d2:decide (c<f)=true:=(by simpa using h2);have d2':decide (f<=c)=false:=(by simp; omega);have HR:Hid _:=HF.out (by rw[HK.out]; rw[d2',H_,Bool.false_and]);clear HK HF HM
      go_wp2_with fail
      go_quiet (fail)
      go_wp2
      go_ret
      rw[HR.out]; exact⟨rfl,bN Kk _⟩
     ·have d2:decide (c<f)=false:=(by simp; omega);have d2':Hid (decide (f<=c)=true):=(by unfold Hid; simp; omega);by_cases h3:r=0
      ·subst h3
       go_wp2_with fail
       go_quiet (fail)
       go_wp2
       go_roundw
       case rel=>exact⟨rfl,k+1,by omega,by go_num,by rw[HM.out,HN.out,HK.out,d1'.out,d2'.out]; rfl,aeR.out,bN Kk _⟩
       case measure=>simp[intOf]; omega
      ·have d3:(r != 0)=true:=(by simpa using h3);have d3':(r==0)=false:=(by simpa using h3);have HR:Hid _:=HF.out (by rw[HK.out]; rw[d3',H_]);clear HK HF HM
       go_wp2_with fail
       go_quiet (fail)
       go_wp2
       go_ret
       rw[HR.out]; exact⟨rfl,bN Kk _⟩
  ·obtain rfl:k=6:=(by omega);have HV:Hid (may x=((mK (gs x)).2&&decide ((mK (gs x)).1<=1125899906842624))):=(by unfold Hid may; rw[HN.out,Bool.true_and]);have hg:RdI .i64 wr (some ⟨w.heap.size,0,none⟩) (gs x):=aeQ Tg.out;have HL:Hid ((gs x).length=6):=rfl;generalize gs x=l at *;clear HN
   go_wp2_with fail
   refine(IL _ 6 _ l _ (by omega) HL hg).mono ?_;rintro e w1 ⟨rfl,rfl⟩;generalize (mK l).1=n at *
   cases h:(mK l).2
   ·rw[h]at HV;clear h
    go_wp2_with fail
    go_ret
    rw[HV.out]; exact⟨rfl,hbel⟩
   ·rw[h]at HV;clear h
    go_wp2_with fail
    go_ret
    rw[HV.out]; exact⟨rfl,hbel⟩
namespace Rt
def gD(i:Int):Bool:=decide (1<=i)&&decide (i<=6)
def fF(x:Nat->Int)(i:Int):Int:=if gD i&&may x then(localM x (i.toNat-1)).1 else 0
theorem zN{n:Int}(h:zI n=true):0<=n/\n<=1125899906842624:=by unfold zI at h; simpa using h
theorem N9{l:List Int}(h:(mK l).2=true):lW l=true:=by
 unfold mK at h;by_cases a:lW l=true
 ·exact a
 rw[b_ a]at h; exact L_ h (by decide)
theorem yC{l:List Int}(h:lW l=true){n:Int}(a:n∈l):0<=n/\n<=1125899906842624:=by
 unfold lW at h;rw[List.all_eq_true]at h;exact zN (h n a)
theorem Kl(x:Nat->Int)(k:Nat) : ∀ j,C x k∈outs x k j
 | 0=>by simp[outs]
 | j+1=>by rw[outs]; exact List.mem_append_left _ (Kl x k j)
theorem GH(x:Nat->Int)(k i:Nat) : ∀ j,i<j->R x k i∈outs x k j
 | 0,h=>L_ h (by omega)
 | j+1,h=>by
   rw[outs];by_cases e:i=j
   ·subst e; simp
   ·exact List.mem_append_left _ (GH x k i j (by omega))
theorem DV(x:Nat->Int)(k:Nat) : ∀ j,G x k∈ins x k j/\F x k∈ins x k j
 | 0=>by simp[ins]
 | j+1=>by rw[ins]; exact⟨List.mem_append_left _ (DV x k j).1,List.mem_append_left _ (DV x k j).2⟩
theorem Oa(x:Nat->Int)(k:Nat) : ∀ n,Dp x n=true->k<n->BG x k=true
 | 0,_,hk=>L_ hk (by omega)
 | n+1,h,hk=>by
   rw[Dp,R_]at h;by_cases e:k=n
   ·subst e; exact h.2
   ·exact Oa x k n h.1 (by omega)
theorem Ti{x:Nat->Int}(h:may x=true)(k:Nat)(a:k<6):BG x k=true:=by
 unfold may at h; rw[R_]at h; exact Oa x k 6 h.1 a
structure Di(x:Nat->Int)(k:Nat):Prop where
 g:0<=G x k/\G x k<=1125899906842624
 c:0<=C x k/\C x k<=1125899906842624
 f:0<=F x k/\F x k<=1125899906842624
 fc:F x k<=C x k
 r : ∀ i,i<6->0<=R x k i/\R x k i<=1125899906842624
 l:0<=(localM x k).1
 rkk:R x k k=0
 l2:(localM x k).2=true
theorem Xa{x:Nat->Int}{k:Nat}(h:BG x k=true):Di x k:=by
 unfold BG at h;rw[R_,R_,R_]at h;obtain⟨⟨⟨a,e⟩,h3⟩,h4⟩:=h;have d:=a;unfold localM at a;rw[R_]at a;have c:=N9 a.1;have b:=N9 a.2;exact⟨yC b (DV x k 6).1,yC c (Kl x k 6),yC b (DV x k 6).2,by simpa using h3,fun i f=>yC c (GH x k i 6 f),by simpa using e,by simpa using h4,d⟩
theorem vL{x:Nat->Int}(h:may x=true)(k:Nat)(a:k<6):Di x k:=Xa (Ti h k a)
theorem PN(x:Nat->Int)(k:Nat) : -(1125899906842624*8)<=(localM x k).1/\(localM x k).1<=1125899906842624*8:=by
 have a:=vH (ins x k 6);have b:=vH (outs x k 6);rw[RU]at a;rw[Px]at b;unfold localM;simp only;omega
end Rt
set_option maxHeartbeats 400000 in
theorem rA(i:Int)(w:World)(hi : -9223372036854775808<=i/\i<=9223372036854775807) :
 Calls Tryd.prog 47 #[.int .i64 i] w fun e w'=>e = .returned (.bool (gD i))/\w'=w:=by
 unfold gD;by_cases h1:i<1
 ·have d1:decide (1<=i)=false:=by simp; omega
  have D1:Hid _:=d1
  go_enter Tryd.func47,Tryd.ntmps47
  go_wp2
  go_ret
  first|exact⟨rfl,rfl⟩|(rw[D1.out]; exact⟨rfl,rfl⟩)
 have d1:decide (1<=i)=true:=by simp; omega
 have D1:Hid _:=d1
 go_enter Tryd.func47,Tryd.ntmps47
 go_wp2
 go_ret
 first|exact⟨rfl,rfl⟩|(rw[D1.out]; exact⟨rfl,rfl⟩)
theorem iH:(Tryd.prog.info? 82).map (·.size)=some 54:=by kernel_rfl
set_option maxRecDepth 100000 in
set_option maxHeartbeats 400000 in
theorem vM(x:Nat->Int)(i:Int)(w:World)(hi : -9223372036854775808<=i/\i<=9223372036854775807) :
 Calls Tryd.prog 30 #[.agg (aS .i64 54 x),.int .i64 i] w fun e w'=>e = .returned (.int .i64 (fF x i))/\Below w.heap.size w w':=by
 have HV:Hid (fF x i=if gD i&&may x then(localM x (i.toNat-1)).1 else 0):=rfl;have hrow:Hid ((w.alloc (.cells (aS .i64 54 x) 82)).heap[w.heap.size]? = some (.cells (aS .i64 54 x) 82 (0,0))):=heap_alloc_new w _;have HR:Hid (gD i=true<->1<=i/\i<=6):=by unfold Hid gD; simp
 have Km:Hid (∀ w',Calls Tryd.prog 47 #[.int .i64 i] w' fun e w''=>e = .returned (.bool (gD i))/\w''=w'):=fun w'=>rA i w' hi;have hmay:Hid (∀ w',Calls Tryd.prog 48 #[.agg (aS .i64 54 x)] w' fun e w''=>e = .returned (.bool (may x))/\Below w'.heap.size w' w''):=fun w'=>tu x w';generalize gD i=r at *
 cases r
 ·go_enter Tryd.func30,Tryd.ntmps30
  go_wp2_with (go_at_call 47; refine(Km.out _).mono ?_; rintro e w' ⟨rfl,rfl⟩)
  go_ret
  rw[HV.out]; exact⟨rfl,(Below.refl _ _).alloc (z_ _) _⟩
 have hb:1<=i/\i<=6:=HR.out.1 rfl;obtain⟨k,hk⟩:=Int.eq_ofNat_of_zero_le (show 0<=i-1 by omega);have Hk:Hid (i-1=(k:Int)):=hk;have hk6:k<6:=by omega
 have hkt:Hid (i.toNat-1=k):=by unfold Hid; omega
 clear hk;generalize may x=m at *
 cases m
 ·go_enter Tryd.func30,Tryd.ntmps30
  go_wp2_with (first
   | (go_at_call 47; refine(Km.out _).mono ?_; rintro e w' ⟨rfl,rfl⟩)
   | (refine zk (by rfl) (wp_load_row (o:=⟨some 11,_,_,_,_,_⟩) 82 (.tmp 2) (by rfl) w.heap.size (by rfl) 82 (aS .i64 54 x) (0,0) _ hrow.out Tryd.underlying82 (by rfl) (by rw[bA]; exact iH) ?_))
   | (go_at_call 48; refine(hmay.out _).mono ?_; rintro e w1 ⟨rfl,hb1⟩))
  go_ret
  rw[HV.out]; exact⟨rfl,bal hb1⟩
 go_enter Tryd.func30,Tryd.ntmps30
 go_wp2_with (first
  | (go_at_call 47; refine(Km.out _).mono ?_; rintro e w' ⟨rfl,rfl⟩)
  | (refine zk (by rfl) (wp_load_row (o:=⟨some 11,_,_,_,_,_⟩) 82 (.tmp 2) (by rfl) w.heap.size (by rfl) 82 (aS .i64 54 x) (0,0) _ hrow.out Tryd.underlying82 (by rfl) (by rw[bA]; exact iH) ?_))
  | (go_at_call 48; refine(hmay.out _).mono ?_; rintro e w1 ⟨rfl,hb1⟩)
  | (go_at_call 49; rw[Hk.out]; refine(GD w.heap.size 82 (0,0) x k w1 hk6 ((hb1.block _ (by simp)).trans hrow.out)).mono ?_; rintro e w2 ⟨rfl,hb2⟩))
 go_ret
 rw[HV.out,hkt.out]; exact⟨rfl,Jt (bal hb1) hb2⟩
namespace Rt
def zero:Nat->Int:=fun _=>0
def bQ(x:Nat->Int)(n:Int)(is:Bool)(a:Int)(off:Nat):(Nat->Int) × Int :=
 if may x&&decide (1<=n)&&decide (n<=1125899906842624)then
  if is then
   if a=0 then
    if x off+n<=1125899906842624 then(upd x off (x off+n),0)else(zero,6)
   else(zero,a)
  else(zero,10)
 else(zero,1)
end Rt
theorem oO(T:TypeId)(a:Nat × Nat):Obj.cells (aS .i64 54 zero) T a = .cells #[.int .i64 0,.int .i64 0,.int .i64 0,.int .i64 0,.int .i64 0,.int .i64 0,.int .i64 0,.int .i64 0,.int .i64 0,.int .i64 0,.int .i64 0,.int .i64 0,.int .i64 0,.int .i64 0,.int .i64 0,.int .i64 0,.int .i64 0,.int .i64 0,.int .i64 0,.int .i64 0,.int .i64 0,.int .i64 0,.int .i64 0,.int .i64 0,.int .i64 0,.int .i64 0,.int .i64 0,.int .i64 0,.int .i64 0,.int .i64 0,.int .i64 0,.int .i64 0,.int .i64 0,.int .i64 0,.int .i64 0,.int .i64 0,.int .i64 0,.int .i64 0,.int .i64 0,.int .i64 0,.int .i64 0,.int .i64 0,.int .i64 0,.int .i64 0,.int .i64 0,.int .i64 0,.int .i64 0,.int .i64 0,.int .i64 0,.int .i64 0,.int .i64 0,.int .i64 0,.int .i64 0,.int .i64 0] T a:=by rfl
theorem results_cell_tmp{P:Program}{b:Func}{p q:Tmp}{ty:TypeId}(h:b.results = #[.cell p ty,.tmp q])(a:Array Value)(w:World)(g:Nat)(t:TypeId)(cs:Array Value)(c:Nat × Nat)(d:TypeDesc)
 (i:a.getD p undef = .pointer (some ⟨g,0,none⟩)) (f:w.heap[g]? = some (.cells cs t c))
 (k:P.underlying ty=some d) (e:(match d with | .struct _ | .array _ _=>true|_=>false)=true) (hi:(P.info? ty).map (·.size)=some cs.size) :
 (results b a).run P w = .ok (.tuple #[.agg cs,a.getD q undef]) w:=by
 have j:a[p]?.getD undef = .pointer (some ⟨g,0,none⟩):=by simpa using i
 simp[results,h,j,asAddr,run_loadVar_row w g t ty cs c d f k e hi]
def jJ(x:Nat->Int)(n:Int)(is:Bool)(a:Int)(off:Nat)(w:World)(e:Ending)(w':World):Prop :=
 e = .returned (.tuple #[.agg (aS .i64 54 (bQ x n is a off).1),.int .i64 (bQ x n is a off).2])/\Below w.heap.size w w'
theorem iD{w a:World}{B g:Nat}{e:Array Value}(c:Below B w a)(b:B<=g)(d:a.heap[g]? = some (.cells e 82 (0,0)))(y:Nat->Int) :
 (a.setRow g (aS .i64 54 y)).heap[g]? = some (.cells (aS .i64 54 y) 82 (0,0))/\Below B w (a.setRow g (aS .i64 54 y)) :=
 ⟨setRow_heap _ _ _ _ _ _ d,aiU c b⟩
theorem mM{x:Nat->Int}{n:Int}{is:Bool}{c:Int}{off:Nat}{w b:World}{a:Act}{g:Nat}{y:Nat->Int}{k:Int}(d:bQ x n is c off=(y,k))(f:a.defers = [])
 (i:a.tmps.getD 10 undef = .pointer (some ⟨g,0,none⟩)) (j:a.tmps.getD 11 undef = .int .i64 k) (h:b.heap[g]? = some (.cells (aS .i64 54 y) 82 (0,0))) (e:Below w.heap.size w b) :
 bodyPost Tryd.prog Tryd.f171 (jJ x n is c off w) .ret a b:=by
 refine bodyPost_ret (v := .tuple #[.agg (aS .i64 54 y),.int .i64 k]) ?_ f ⟨?_,e⟩
 ·rw[results_cell_tmp rfl a.tmps b g 82 _ (0,0) _ i h Tryd.underlying82 rfl (by rw[bA]; exact iH),j]
 rw[d]
set_option maxRecDepth 100000 in
set_option maxHeartbeats 2000000 in
theorem Mr(x:Nat->Int)(n:Int)(is:Bool)(fm fn:FuncId)(cm cn:Array Value)(em:Int)(off:Nat)(w:World)(h:may x=false) :
 Calls Tryd.prog 171 #[.agg (aS .i64 54 x),.int .i64 n,.bool is,.func (.func fm) #[] cm,.func (.func fn) #[] cn] w (jJ x n is em off w):=by
 have hT:Hid (bQ x n is em off=(zero,1)):=by unfold Hid bQ; rw[h]; rfl
 have hmay:Hid (∀ w',Calls Tryd.prog 48 #[.agg (aS .i64 54 x)] w' fun e w''=>e = .returned (.bool (may x))/\Below w'.heap.size w' w''):=fun w'=>tu x w'
 go_enter Tryd.func171,Tryd.ntmps171
 go_upto_region 1 with (fail)
 rw[<- oO];have hx0:Hid (((w.alloc (.cells (aS .i64 54 x) 82)).alloc (.cells (aS .i64 54 zero) 82)).heap[w.heap.size]? = some (.cells (aS .i64 54 x) 82 (0,0))):=heap_alloc2_old w _ _;have hz0:Hid (((w.alloc (.cells (aS .i64 54 x) 82)).alloc (.cells (aS .i64 54 zero) 82)).heap[w.heap.size+1]? = some (.cells (aS .i64 54 zero) 82 (0,0))):=heap_alloc2_new w _ _;have hb0:Below w.heap.size w ((w.alloc (.cells (aS .i64 54 x) 82)).alloc (.cells (aS .i64 54 zero) 82)):=((Below.refl _ _).alloc (z_ _) _).alloc (by simp) _;have hs0:w.heap.size+1<((w.alloc (.cells (aS .i64 54 x) 82)).alloc (.cells (aS .i64 54 zero) 82)).heap.size:=by simp
 generalize (w.alloc (.cells (aS .i64 54 x) 82)).alloc (.cells (aS .i64 54 zero) 82)=W at *;rw[h]at hmay
 go_wp2_with (first
  | (refine wpList_load_row (o:=⟨some 15,_,_,_,_,_⟩) (by rfl) 82 (.tmp 5) (by rfl) w.heap.size (by rfl) 82 (aS .i64 54 x) (0,0) _ hx0.out Tryd.underlying82 (by rfl) (by rw[bA]; exact iH) ?_)
  | (go_at_call 48; refine(hmay.out _).mono ?_; rintro e w1 ⟨rfl,hb1⟩; have hz1:Hid _:=(hb1.block (w.heap.size+1) hs0).trans hz0.out; have hx1:Hid _:=(hb1.block w.heap.size (by omega)).trans hx0.out; have hB1:=hb0.trans (hb1.mono hb0.size); have hs1:=n_ hs0 hb1.size)
  | (refine wpList_store_row (o:=⟨none,.store 82 (.tmp 10) (.tmp 22),_,_,_,_⟩) (by rfl) 82 (.tmp 10) (.tmp 22) (by rfl) (w.heap.size+1) (aS .i64 54 zero) (by rfl) (by rfl) 82 (aS .i64 54 zero) hz1.out (by rw[bA]; exact iH) (by rw[bA]) (ku _ _ _) ?_))
 have hend:=iD hB1 (by omega) hz1.out zero;exact mM hT.out rfl rfl rfl hend.1 hend.2
set_option maxRecDepth 100000 in
set_option maxHeartbeats 2000000 in
theorem Ms(x:Nat->Int)(n:Int)(is:Bool)(fm fn:FuncId)(cm cn:Array Value)(em:Int)(off:Nat)(w:World)(h:may x=true)(hn1:n<1) :
 Calls Tryd.prog 171 #[.agg (aS .i64 54 x),.int .i64 n,.bool is,.func (.func fm) #[] cm,.func (.func fn) #[] cn] w (jJ x n is em off w):=by
 have hT:Hid (bQ x n is em off=(zero,1)):=by unfold Hid bQ; rw[h,g_ (show ¬ 1<=n by omega)]; rfl
 have hmay:Hid (∀ w',Calls Tryd.prog 48 #[.agg (aS .i64 54 x)] w' fun e w''=>e = .returned (.bool (may x))/\Below w'.heap.size w' w''):=fun w'=>tu x w'
 go_enter Tryd.func171,Tryd.ntmps171
 go_upto_region 1 with (fail)
 rw[<- oO];have hx0:Hid (((w.alloc (.cells (aS .i64 54 x) 82)).alloc (.cells (aS .i64 54 zero) 82)).heap[w.heap.size]? = some (.cells (aS .i64 54 x) 82 (0,0))):=heap_alloc2_old w _ _;have hz0:Hid (((w.alloc (.cells (aS .i64 54 x) 82)).alloc (.cells (aS .i64 54 zero) 82)).heap[w.heap.size+1]? = some (.cells (aS .i64 54 zero) 82 (0,0))):=heap_alloc2_new w _ _;have hb0:Below w.heap.size w ((w.alloc (.cells (aS .i64 54 x) 82)).alloc (.cells (aS .i64 54 zero) 82)):=((Below.refl _ _).alloc (z_ _) _).alloc (by simp) _;have hs0:w.heap.size+1<((w.alloc (.cells (aS .i64 54 x) 82)).alloc (.cells (aS .i64 54 zero) 82)).heap.size:=by simp
 generalize (w.alloc (.cells (aS .i64 54 x) 82)).alloc (.cells (aS .i64 54 zero) 82)=W at *;rw[h]at hmay
 go_wp2_with (first
  | (refine wpList_load_row (o:=⟨some 15,_,_,_,_,_⟩) (by rfl) 82 (.tmp 5) (by rfl) w.heap.size (by rfl) 82 (aS .i64 54 x) (0,0) _ hx0.out Tryd.underlying82 (by rfl) (by rw[bA]; exact iH) ?_)
  | (go_at_call 48; refine(hmay.out _).mono ?_; rintro e w1 ⟨rfl,hb1⟩; have hz1:Hid _:=(hb1.block (w.heap.size+1) hs0).trans hz0.out; have hx1:Hid _:=(hb1.block w.heap.size (by omega)).trans hx0.out; have hB1:=hb0.trans (hb1.mono hb0.size); have hs1:=n_ hs0 hb1.size)
  | (refine wpList_store_row (o:=⟨none,.store 82 (.tmp 10) (.tmp 22),_,_,_,_⟩) (by rfl) 82 (.tmp 10) (.tmp 22) (by rfl) (w.heap.size+1) (aS .i64 54 zero) (by rfl) (by rfl) 82 (aS .i64 54 zero) hz1.out (by rw[bA]; exact iH) (by rw[bA]) (ku _ _ _) ?_))
 have hend:=iD hB1 (by omega) hz1.out zero;exact mM hT.out rfl rfl rfl hend.1 hend.2
set_option maxRecDepth 100000 in
set_option maxHeartbeats 2000000 in
theorem Mt(x:Nat->Int)(n:Int)(is:Bool)(fm fn:FuncId)(cm cn:Array Value)(em:Int)(off:Nat)(w:World)(h:may x=true)(hn1:1125899906842624<n) :
 Calls Tryd.prog 171 #[.agg (aS .i64 54 x),.int .i64 n,.bool is,.func (.func fm) #[] cm,.func (.func fn) #[] cn] w (jJ x n is em off w):=by
 have hT:Hid (bQ x n is em off=(zero,1)):=by unfold Hid bQ; rw[g_ (show ¬ n<=1125899906842624 by omega),H_]; rfl
 have hmay:Hid (∀ w',Calls Tryd.prog 48 #[.agg (aS .i64 54 x)] w' fun e w''=>e = .returned (.bool (may x))/\Below w'.heap.size w' w''):=fun w'=>tu x w'
 go_enter Tryd.func171,Tryd.ntmps171
 go_upto_region 1 with (fail)
 rw[<- oO];have hx0:Hid (((w.alloc (.cells (aS .i64 54 x) 82)).alloc (.cells (aS .i64 54 zero) 82)).heap[w.heap.size]? = some (.cells (aS .i64 54 x) 82 (0,0))):=heap_alloc2_old w _ _;have hz0:Hid (((w.alloc (.cells (aS .i64 54 x) 82)).alloc (.cells (aS .i64 54 zero) 82)).heap[w.heap.size+1]? = some (.cells (aS .i64 54 zero) 82 (0,0))):=heap_alloc2_new w _ _;have hb0:Below w.heap.size w ((w.alloc (.cells (aS .i64 54 x) 82)).alloc (.cells (aS .i64 54 zero) 82)):=((Below.refl _ _).alloc (z_ _) _).alloc (by simp) _;have hs0:w.heap.size+1<((w.alloc (.cells (aS .i64 54 x) 82)).alloc (.cells (aS .i64 54 zero) 82)).heap.size:=by simp
 generalize (w.alloc (.cells (aS .i64 54 x) 82)).alloc (.cells (aS .i64 54 zero) 82)=W at *;rw[h]at hmay
 go_wp2_with (first
  | (refine wpList_load_row (o:=⟨some 15,_,_,_,_,_⟩) (by rfl) 82 (.tmp 5) (by rfl) w.heap.size (by rfl) 82 (aS .i64 54 x) (0,0) _ hx0.out Tryd.underlying82 (by rfl) (by rw[bA]; exact iH) ?_)
  | (go_at_call 48; refine(hmay.out _).mono ?_; rintro e w1 ⟨rfl,hb1⟩; have hz1:Hid _:=(hb1.block (w.heap.size+1) hs0).trans hz0.out; have hx1:Hid _:=(hb1.block w.heap.size (by omega)).trans hx0.out; have hB1:=hb0.trans (hb1.mono hb0.size); have hs1:=n_ hs0 hb1.size)
  | (refine wpList_store_row (o:=⟨none,.store 82 (.tmp 10) (.tmp 22),_,_,_,_⟩) (by rfl) 82 (.tmp 10) (.tmp 22) (by rfl) (w.heap.size+1) (aS .i64 54 zero) (by rfl) (by rfl) 82 (aS .i64 54 zero) hz1.out (by rw[bA]; exact iH) (by rw[bA]) (ku _ _ _) ?_))
 have hend:=iD hB1 (by omega) hz1.out zero;exact mM hT.out rfl rfl rfl hend.1 hend.2
set_option maxRecDepth 100000 in
set_option maxHeartbeats 2000000 in
theorem Mv(x:Nat->Int)(n:Int)(fm fn:FuncId)(cm cn:Array Value)(em:Int)(off:Nat)(w:World)(h:may x=true)(hn1:1<=n)(hn2:n<=1125899906842624) :
 Calls Tryd.prog 171 #[.agg (aS .i64 54 x),.int .i64 n,.bool false,.func (.func fm) #[] cm,.func (.func fn) #[] cn] w (jJ x n false em off w):=by
 have hT:Hid (bQ x n false em off=(zero,10)):=by unfold Hid bQ; rw[h,f_ hn1,f_ hn2]; simp only[Bool.and_self,if_true]; rfl
 have hmay:Hid (∀ w',Calls Tryd.prog 48 #[.agg (aS .i64 54 x)] w' fun e w''=>e = .returned (.bool (may x))/\Below w'.heap.size w' w''):=fun w'=>tu x w'
 go_enter Tryd.func171,Tryd.ntmps171
 go_upto_region 1 with (fail)
 rw[<- oO];have hx0:Hid (((w.alloc (.cells (aS .i64 54 x) 82)).alloc (.cells (aS .i64 54 zero) 82)).heap[w.heap.size]? = some (.cells (aS .i64 54 x) 82 (0,0))):=heap_alloc2_old w _ _;have hz0:Hid (((w.alloc (.cells (aS .i64 54 x) 82)).alloc (.cells (aS .i64 54 zero) 82)).heap[w.heap.size+1]? = some (.cells (aS .i64 54 zero) 82 (0,0))):=heap_alloc2_new w _ _;have hb0:Below w.heap.size w ((w.alloc (.cells (aS .i64 54 x) 82)).alloc (.cells (aS .i64 54 zero) 82)):=((Below.refl _ _).alloc (z_ _) _).alloc (by simp) _;have hs0:w.heap.size+1<((w.alloc (.cells (aS .i64 54 x) 82)).alloc (.cells (aS .i64 54 zero) 82)).heap.size:=by simp
 generalize (w.alloc (.cells (aS .i64 54 x) 82)).alloc (.cells (aS .i64 54 zero) 82)=W at *;rw[h]at hmay
 go_wp2_with (first
  | (refine wpList_load_row (o:=⟨some 15,_,_,_,_,_⟩) (by rfl) 82 (.tmp 5) (by rfl) w.heap.size (by rfl) 82 (aS .i64 54 x) (0,0) _ hx0.out Tryd.underlying82 (by rfl) (by rw[bA]; exact iH) ?_)
  | (go_at_call 48; refine(hmay.out _).mono ?_; rintro e w1 ⟨rfl,hb1⟩; have hz1:Hid _:=(hb1.block (w.heap.size+1) hs0).trans hz0.out; have hx1:Hid _:=(hb1.block w.heap.size (by omega)).trans hx0.out; have hB1:=hb0.trans (hb1.mono hb0.size); have hs1:=n_ hs0 hb1.size)
  | (refine wpList_store_row (o:=⟨none,.store 82 (.tmp 10) (.tmp 26),_,_,_,_⟩) (by rfl) 82 (.tmp 10) (.tmp 26) (by rfl) (w.heap.size+1) (aS .i64 54 zero) (by rfl) (by rfl) 82 (aS .i64 54 zero) hz1.out (by rw[bA]; exact iH) (by rw[bA]) (ku _ _ _) ?_))
 have hend:=iD hB1 (by omega) hz1.out zero;exact mM hT.out rfl rfl rfl hend.1 hend.2
set_option maxRecDepth 100000 in
set_option maxHeartbeats 2000000 in
theorem Mw(x:Nat->Int)(n:Int)(fm fn:FuncId)(cm cn:Array Value)(em:Int)(off:Nat)(w:World)(h:may x=true)(hn1:1<=n)(hn2:n<=1125899906842624)(hem:em≠0)(hcm : ∀(args:Array Value) (w:World),(callFunc fm args).run Tryd.prog w = .ok (.enter fm args) w)(hm:Hid (∀ w',Below w.heap.size w w'->Calls Tryd.prog fm cm w' fun e w''=>e = .returned (.int .i64 em)/\Below w'.heap.size w' w'')) :
 Calls Tryd.prog 171 #[.agg (aS .i64 54 x),.int .i64 n,.bool true,.func (.func fm) #[] cm,.func (.func fn) #[] cn] w (jJ x n true em off w):=by
 have hT:Hid (bQ x n true em off=(zero,em)):=by unfold Hid bQ; rw[h,f_ hn1,f_ hn2]; simp only[Bool.and_self,if_true]; rw[b_ hem]
 have atI:(em != 0)=true:=by simpa using hem
 have hmay:Hid (∀ w',Calls Tryd.prog 48 #[.agg (aS .i64 54 x)] w' fun e w''=>e = .returned (.bool (may x))/\Below w'.heap.size w' w''):=fun w'=>tu x w'
 go_enter Tryd.func171,Tryd.ntmps171
 go_upto_region 1 with (fail)
 rw[<- oO];have hx0:Hid (((w.alloc (.cells (aS .i64 54 x) 82)).alloc (.cells (aS .i64 54 zero) 82)).heap[w.heap.size]? = some (.cells (aS .i64 54 x) 82 (0,0))):=heap_alloc2_old w _ _;have hz0:Hid (((w.alloc (.cells (aS .i64 54 x) 82)).alloc (.cells (aS .i64 54 zero) 82)).heap[w.heap.size+1]? = some (.cells (aS .i64 54 zero) 82 (0,0))):=heap_alloc2_new w _ _;have hb0:Below w.heap.size w ((w.alloc (.cells (aS .i64 54 x) 82)).alloc (.cells (aS .i64 54 zero) 82)):=((Below.refl _ _).alloc (z_ _) _).alloc (by simp) _;have hs0:w.heap.size+1<((w.alloc (.cells (aS .i64 54 x) 82)).alloc (.cells (aS .i64 54 zero) 82)).heap.size:=by simp
 generalize (w.alloc (.cells (aS .i64 54 x) 82)).alloc (.cells (aS .i64 54 zero) 82)=W at *;rw[h]at hmay
 go_wp2_with (first
  | (refine wpList_load_row (o:=⟨some 15,_,_,_,_,_⟩) (by rfl) 82 (.tmp 5) (by rfl) w.heap.size (by rfl) 82 (aS .i64 54 x) (0,0) _ hx0.out Tryd.underlying82 (by rfl) (by rw[bA]; exact iH) ?_)
  | (go_at_call 48; refine(hmay.out _).mono ?_; rintro e w1 ⟨rfl,hb1⟩; have hz1:Hid _:=(hb1.block (w.heap.size+1) hs0).trans hz0.out; have hx1:Hid _:=(hb1.block w.heap.size (by omega)).trans hx0.out; have hB1:=hb0.trans (hb1.mono hb0.size); have hs1:=n_ hs0 hb1.size)
  | (refine(hm.out _ hB1).mono ?_; rintro e w2 ⟨rfl,hb2⟩; have hz2:Hid _:=(hb2.block (w.heap.size+1) hs1).trans hz1.out; have hx2:Hid _:=(hb2.block w.heap.size (by omega)).trans hx1.out; have hB2:=hB1.trans (hb2.mono hB1.size); have hs2:=n_ hs1 hb2.size)
  | (refine wpList_store_row (o:=⟨none,.store 82 (.tmp 10) (.tmp 31),_,_,_,_⟩) (by rfl) 82 (.tmp 10) (.tmp 31) (by rfl) (w.heap.size+1) (aS .i64 54 zero) (by rfl) (by rfl) 82 (aS .i64 54 zero) hz2.out (by rw[bA]; exact iH) (by rw[bA]) (ku _ _ _) ?_))
 have hend:=iD hB2 (by omega) hz2.out zero;exact mM hT.out rfl rfl rfl hend.1 hend.2
set_option maxRecDepth 100000 in
set_option maxHeartbeats 2000000 in
theorem Mx(x:Nat->Int)(n:Int)(fm fn:FuncId)(cm cn:Array Value)(em:Int)(off:Nat)(w:World)(h:may x=true)(hn1:1<=n)(hn2:n<=1125899906842624)(em0:em=0)(hoff:off<54)(v:Int)(hv:x off=v)(hv2:0<=v/\v<=1125899906842624)(hs:1125899906842624<v+n)(hcm : ∀(args:Array Value) (w:World),(callFunc fm args).run Tryd.prog w = .ok (.enter fm args) w)(hm:Hid (∀ w',Below w.heap.size w w'->Calls Tryd.prog fm cm w' fun e w''=>e = .returned (.int .i64 em)/\Below w'.heap.size w' w''))(hcn : ∀(args:Array Value) (w:World),(callFunc fn args).run Tryd.prog w = .ok (.enter fn args) w)(hn:Hid (∀ w' g,Below w.heap.size w w'->Calls Tryd.prog fn (#[.pointer (some ⟨g,0,none⟩)]++cn) w' fun e w''=>e = .returned (.pointer (some ⟨g,off,none⟩))/\Below w'.heap.size w' w'')) :
 Calls Tryd.prog 171 #[.agg (aS .i64 54 x),.int .i64 n,.bool true,.func (.func fm) #[] cm,.func (.func fn) #[] cn] w (jJ x n true em off w):=by
 have hT:Hid (bQ x n true em off=(zero,6)):=by unfold Hid bQ; rw[h,f_ hn1,f_ hn2]; simp only[Bool.and_self,if_true]; rw[d_ em0,hv,b_ (by omega)]
 subst em0;have hmay:Hid (∀ w',Calls Tryd.prog 48 #[.agg (aS .i64 54 x)] w' fun e w''=>e = .returned (.bool (may x))/\Below w'.heap.size w' w''):=fun w'=>tu x w'
 go_enter Tryd.func171,Tryd.ntmps171
 go_upto_region 1 with (fail)
 rw[<- oO];have hx0:Hid (((w.alloc (.cells (aS .i64 54 x) 82)).alloc (.cells (aS .i64 54 zero) 82)).heap[w.heap.size]? = some (.cells (aS .i64 54 x) 82 (0,0))):=heap_alloc2_old w _ _;have hz0:Hid (((w.alloc (.cells (aS .i64 54 x) 82)).alloc (.cells (aS .i64 54 zero) 82)).heap[w.heap.size+1]? = some (.cells (aS .i64 54 zero) 82 (0,0))):=heap_alloc2_new w _ _;have hb0:Below w.heap.size w ((w.alloc (.cells (aS .i64 54 x) 82)).alloc (.cells (aS .i64 54 zero) 82)):=((Below.refl _ _).alloc (z_ _) _).alloc (by simp) _;have hs0:w.heap.size+1<((w.alloc (.cells (aS .i64 54 x) 82)).alloc (.cells (aS .i64 54 zero) 82)).heap.size:=by simp
 generalize (w.alloc (.cells (aS .i64 54 x) 82)).alloc (.cells (aS .i64 54 zero) 82)=W at *;rw[h]at hmay
 go_wp2_with (first
  | (refine wpList_load_row (o:=⟨some 15,_,_,_,_,_⟩) (by rfl) 82 (.tmp 5) (by rfl) w.heap.size (by rfl) 82 (aS .i64 54 x) (0,0) _ hx0.out Tryd.underlying82 (by rfl) (by rw[bA]; exact iH) ?_)
  | (go_at_call 48; refine(hmay.out _).mono ?_; rintro e w1 ⟨rfl,hb1⟩; have hz1:Hid _:=(hb1.block (w.heap.size+1) hs0).trans hz0.out; have hx1:Hid _:=(hb1.block w.heap.size (by omega)).trans hx0.out; have hB1:=hb0.trans (hb1.mono hb0.size); have hs1:=n_ hs0 hb1.size)
  | (refine(hm.out _ hB1).mono ?_; rintro e w2 ⟨rfl,hb2⟩; have hz2:Hid _:=(hb2.block (w.heap.size+1) hs1).trans hz1.out; have hx2:Hid _:=(hb2.block w.heap.size (by omega)).trans hx1.out; have hB2:=hB1.trans (hb2.mono hB1.size); have hs2:=n_ hs1 hb2.size)
  | (refine(hn.out _ _ hB2).mono ?_; rintro e w3 ⟨rfl,hb3⟩; have hz3:Hid _:=(hb3.block (w.heap.size+1) hs2).trans hz2.out; have hx3:=(hb3.block w.heap.size (by omega)).trans hx2.out; have hB3:=hB2.trans (hb3.mono hB2.size); have hs3:=n_ hs2 hb3.size; have hc3:=fK hx3 off hoff; have hf3:=frozen_of_row w3 w.heap.size off _ _ hx3; have Y8:Hid ((w3.setCell ⟨w.heap.size,off,none⟩ (.int .i64 (v+n))).heap[w.heap.size+1]? = some (.cells (aS .i64 54 zero) 82 (0,0))):=(heap_setCell_other _ _ _ _ (by simp)).trans hz3.out; have hx4:Hid ((w3.setCell ⟨w.heap.size,off,none⟩ (.int .i64 (v+n))).heap[w.heap.size]? = some (.cells (aS .i64 54 (upd x off (v+n))) 82 (0,0))):=by { unfold Hid; rw[heap_setCell_same _ _ _ _ _ _ hx3,Ed] }; have hB4:Below w.heap.size w (w3.setCell ⟨w.heap.size,off,none⟩ (.int .i64 (v+n))):=hB3.setCell (z_ _) _; clear hx3; rw[hv]at hc3)
  | (refine wpList_store_row (o:=⟨none,.store 82 (.tmp 10) (.tmp 45),_,_,_,_⟩) (by rfl) 82 (.tmp 10) (.tmp 45) (by rfl) (w.heap.size+1) (aS .i64 54 zero) (by rfl) (by rfl) 82 (aS .i64 54 zero) Y8.out (by rw[bA]; exact iH) (by rw[bA]) (ku _ _ _) ?_))
 have hend:=iD hB4 (by omega) Y8.out zero;exact mM hT.out rfl rfl rfl hend.1 hend.2
set_option maxRecDepth 100000 in
set_option maxHeartbeats 2000000 in
theorem MB(x:Nat->Int)(n:Int)(fm fn:FuncId)(cm cn:Array Value)(em:Int)(off:Nat)(w:World)(h:may x=true)(hn1:1<=n)(hn2:n<=1125899906842624)(em0:em=0)(hoff:off<54)(v:Int)(hv:x off=v)(hv2:0<=v/\v<=1125899906842624)(hs:v+n<=1125899906842624)(hcm : ∀(args:Array Value) (w:World),(callFunc fm args).run Tryd.prog w = .ok (.enter fm args) w)(hm:Hid (∀ w',Below w.heap.size w w'->Calls Tryd.prog fm cm w' fun e w''=>e = .returned (.int .i64 em)/\Below w'.heap.size w' w''))(hcn : ∀(args:Array Value) (w:World),(callFunc fn args).run Tryd.prog w = .ok (.enter fn args) w)(hn:Hid (∀ w' g,Below w.heap.size w w'->Calls Tryd.prog fn (#[.pointer (some ⟨g,0,none⟩)]++cn) w' fun e w''=>e = .returned (.pointer (some ⟨g,off,none⟩))/\Below w'.heap.size w' w'')) :
 Calls Tryd.prog 171 #[.agg (aS .i64 54 x),.int .i64 n,.bool true,.func (.func fm) #[] cm,.func (.func fn) #[] cn] w (jJ x n true em off w):=by
 have hT:Hid (bQ x n true em off=(upd x off (v+n),0)):=by unfold Hid bQ; rw[h,f_ hn1,f_ hn2]; simp only[Bool.and_self,if_true]; rw[d_ em0,hv,d_ (by omega)]
 subst em0;have hmay:Hid (∀ w',Calls Tryd.prog 48 #[.agg (aS .i64 54 x)] w' fun e w''=>e = .returned (.bool (may x))/\Below w'.heap.size w' w''):=fun w'=>tu x w'
 go_enter Tryd.func171,Tryd.ntmps171
 go_upto_region 1 with (fail)
 rw[<- oO];have hx0:Hid (((w.alloc (.cells (aS .i64 54 x) 82)).alloc (.cells (aS .i64 54 zero) 82)).heap[w.heap.size]? = some (.cells (aS .i64 54 x) 82 (0,0))):=heap_alloc2_old w _ _;have hz0:Hid (((w.alloc (.cells (aS .i64 54 x) 82)).alloc (.cells (aS .i64 54 zero) 82)).heap[w.heap.size+1]? = some (.cells (aS .i64 54 zero) 82 (0,0))):=heap_alloc2_new w _ _;have hb0:Below w.heap.size w ((w.alloc (.cells (aS .i64 54 x) 82)).alloc (.cells (aS .i64 54 zero) 82)):=((Below.refl _ _).alloc (z_ _) _).alloc (by simp) _;have hs0:w.heap.size+1<((w.alloc (.cells (aS .i64 54 x) 82)).alloc (.cells (aS .i64 54 zero) 82)).heap.size:=by simp
 generalize (w.alloc (.cells (aS .i64 54 x) 82)).alloc (.cells (aS .i64 54 zero) 82)=W at *;rw[h]at hmay
 go_wp2_with (first
  | (refine wpList_load_row (o:=⟨some 15,_,_,_,_,_⟩) (by rfl) 82 (.tmp 5) (by rfl) w.heap.size (by rfl) 82 (aS .i64 54 x) (0,0) _ hx0.out Tryd.underlying82 (by rfl) (by rw[bA]; exact iH) ?_)
  | (go_at_call 48; refine(hmay.out _).mono ?_; rintro e w1 ⟨rfl,hb1⟩; have hz1:Hid _:=(hb1.block (w.heap.size+1) hs0).trans hz0.out; have hx1:Hid _:=(hb1.block w.heap.size (by omega)).trans hx0.out; have hB1:=hb0.trans (hb1.mono hb0.size); have hs1:=n_ hs0 hb1.size)
  | (refine(hm.out _ hB1).mono ?_; rintro e w2 ⟨rfl,hb2⟩; have hz2:Hid _:=(hb2.block (w.heap.size+1) hs1).trans hz1.out; have hx2:Hid _:=(hb2.block w.heap.size (by omega)).trans hx1.out; have hB2:=hB1.trans (hb2.mono hB1.size); have hs2:=n_ hs1 hb2.size)
  | (refine(hn.out _ _ hB2).mono ?_; rintro e w3 ⟨rfl,hb3⟩; have hz3:Hid _:=(hb3.block (w.heap.size+1) hs2).trans hz2.out; have hx3:=(hb3.block w.heap.size (by omega)).trans hx2.out; have hB3:=hB2.trans (hb3.mono hB2.size); have hs3:=n_ hs2 hb3.size; have hc3:=fK hx3 off hoff; have hf3:=frozen_of_row w3 w.heap.size off _ _ hx3; have Y8:Hid ((w3.setCell ⟨w.heap.size,off,none⟩ (.int .i64 (v+n))).heap[w.heap.size+1]? = some (.cells (aS .i64 54 zero) 82 (0,0))):=(heap_setCell_other _ _ _ _ (by simp)).trans hz3.out; have hx4:Hid ((w3.setCell ⟨w.heap.size,off,none⟩ (.int .i64 (v+n))).heap[w.heap.size]? = some (.cells (aS .i64 54 (upd x off (v+n))) 82 (0,0))):=by { unfold Hid; rw[heap_setCell_same _ _ _ _ _ _ hx3,Ed] }; have hB4:Below w.heap.size w (w3.setCell ⟨w.heap.size,off,none⟩ (.int .i64 (v+n))):=hB3.setCell (z_ _) _; clear hx3; rw[hv]at hc3)
  | (refine wpList_load_row (o:=⟨some 46,_,_,_,_,_⟩) (by rfl) 82 (.tmp 5) (by rfl) w.heap.size (by rfl) 82 (aS .i64 54 (upd x off (v+n))) (0,0) _ hx4.out Tryd.underlying82 (by rfl) (by rw[bA]; exact iH) ?_)
  | (refine wpList_store_row (o:=⟨none,.store 82 (.tmp 10) (.tmp 46),_,_,_,_⟩) (by rfl) 82 (.tmp 10) (.tmp 46) (by rfl) (w.heap.size+1) (aS .i64 54 (upd x off (v+n))) (by rfl) (by rfl) 82 (aS .i64 54 zero) Y8.out (by rw[bA]; exact iH) (by rw[bA,bA]) (ku _ _ _) ?_))
 have hend:=iD hB4 (by omega) Y8.out (upd x off (v+n));exact mM hT.out rfl rfl rfl hend.1 hend.2
theorem vN(x:Nat->Int)(n:Int)(is:Bool)(a b:FuncId)(d f:Array Value)(c:Int)(off:Nat)(w:World)(q:is=true->off<54)(hx:is=true->may x=true->0<=x off/\x off<=1125899906842624)
 (k : ∀(i:Array Value) (w:World),(callFunc a i).run Tryd.prog w = .ok (.enter a i) w)
 (o : ∀(i:Array Value) (w:World),(callFunc b i).run Tryd.prog w = .ok (.enter b i) w)
 (l:may x=true->1<=n->n<=1125899906842624->is=true -> ∀ w',Below w.heap.size w w'->Calls Tryd.prog a d w' fun e m=>e = .returned (.int .i64 c)/\Below w'.heap.size w' m)
 (p:is=true -> ∀ w' g,Below w.heap.size w w'->Calls Tryd.prog b (#[.pointer (some ⟨g,0,none⟩)]++f) w' fun e m=>e = .returned (.pointer (some ⟨g,off,none⟩))/\Below w'.heap.size w' m) :
 Calls Tryd.prog 171 #[.agg (aS .i64 54 x),.int .i64 n,.bool is,.func (.func a) #[] d,.func (.func b) #[] f] w (jJ x n is c off w):=by
 by_cases h:may x=true
 ·by_cases r:n<1
  ·exact Ms x n is a b d f c off w h r
  by_cases s:1125899906842624<n
  ·exact Mt x n is a b d f c off w h s
  cases is
  ·exact Mv x n a b d f c off w h (by omega) (by omega)
  by_cases j:c=0
  ·by_cases t:1125899906842624<x off+n
   ·exact Mx x n a b d f c off w h (by omega) (by omega) j (q rfl) _ rfl (hx rfl h) t k (l h (by omega) (by omega) rfl) o (p rfl)
   exact MB x n a b d f c off w h (by omega) (by omega) j (q rfl) _ rfl (hx rfl h) (by omega) k (l h (by omega) (by omega) rfl) o (p rfl)
  exact Mw x n a b d f c off w h (by omega) (by omega) j k (l h (by omega) (by omega) rfl)
 exact Mr x n is a b d f c off w (by simpa using h)
section
namespace Rt
def own(p:Nat):Nat:=if p<6 then p else if p<12 then p-6 else if p<18 then p-12 else(p-18) / 6
end Rt
def JS(a:World)(g:Nat)(x y:Nat->Int)(w':World):Prop:=w'.heap[g]? = some (.cells (aS .i64 54 x) 82 (0,0))/\w'.heap[g+1]? = some (.cells (aS .i64 54 y) 82 (0,0))/\w'.heap[g+1+1]? = some (.cells (aS .i64 54 zero) 82 (0,0))/\Below g a w'
theorem JS.drew{a w:World}{g:Nat}{x y:Nat->Int}(h:JS a g x y w):JS a g x y w.drew:=⟨h.1,h.2.1,h.2.2.1,bN h.2.2.2 1⟩
theorem JS.a{b w:World}{g:Nat}{x y:Nat->Int}(h:JS b g x y w)(i:Nat)(hi:i<54):w.cell? ⟨g,i,none⟩=some (.int .i64 (x i)):=fK h.1 i hi
theorem JS.b{a w:World}{g:Nat}{x y:Nat->Int}(h:JS a g x y w)(i:Nat)(hi:i<54):w.cell? ⟨g+1,i,none⟩=some (.int .i64 (y i)):=fK h.2.1 i hi
theorem JS.fr{a w:World}{g:Nat}{x y:Nat->Int}(h:JS a g x y w)(i:Nat):w.frozen? ⟨g,i,none⟩=false:=frozen_of_row w g i _ _ h.1
theorem JS.set{d w:World}{g:Nat}{x y:Nat->Int}(h:JS d g x y w)(i:Nat)(v:Int):JS d g (upd x i v) y (w.setCell ⟨g,i,none⟩ (.int .i64 v)):=by
 obtain⟨a,b,z,c⟩:=h;refine⟨?_,?_,?_,?_⟩
 ·rw[heap_setCell_same _ _ _ _ _ _ a,Ed]
 ·rw[heap_setCell_other _ _ _ _ (by simp)]; exact b
 ·rw[heap_setCell_other _ _ _ _ (by simp; omega)]; exact z
 exact c.setCell (z_ _) _
theorem JS.congr{a w:World}{g:Nat}{x y b:Nat->Int}(h:JS a g x y w)(hx : ∀ i,i<54->x i=b i):JS a g b y w:=by
 unfold JS at *; rw[<- LU hx]; exact h
def JSb(c:World)(g:Nat)(x y:Nat->Int)(b:Bool)(w':World):Prop := ∃ a,JS c g a y w'/\(b=false->a=x)
theorem JSb.a{b w:World}{g:Nat}{x y:Nat->Int}(h:JSb b g x y false w)(i:Nat)(hi:i<54):w.cell? ⟨g,i,none⟩=some (.int .i64 (x i)):=by
 obtain⟨c,h,e⟩:=h;rw[<- e rfl]; exact h.a i hi
attribute [local irreducible] Oper.wp wpList Code.wp
end
section
set_option maxHeartbeats 400000 in
theorem uG(is:Bool)(e:Int)(w:World) :
 Calls Tryd.prog 173 #[.bool is,.int .i64 e] w fun r w'=>r = .returned (.int .i64 (if is then e else 0))/\w'=w:=by
 cases is
 all_goals
  go_enter Tryd.func173,Tryd.ntmps173
  go_wp2
  go_ret
  exact⟨rfl,rfl⟩
def Ob(r:(Nat->Int) × Int)(w:World)(e:Ending)(w':World):Prop :=
 e = .returned (.tuple #[.agg (aS .i64 54 r.1),.int .i64 r.2])/\Below w.heap.size w w'
theorem tC{c:Func}{p q:Tmp}(j:c.results = #[.cell p 82,.tmp q]){b w:World}{a:Act}{g:Nat}{r:(Nat->Int) × Int}(e:a.defers = [])
 (h:a.tmps.getD p undef = .pointer (some ⟨g,0,none⟩)) (i:a.tmps.getD q undef = .int .i64 r.2) (f:w.heap[g]? = some (.cells (aS .i64 54 r.1) 82 (0,0))) (d:Below b.heap.size b w) :
 bodyPost Tryd.prog c (Ob r b) .ret a w :=
 bodyPost_ret (by rw[results_cell_tmp j a.tmps w g 82 _ (0,0) _ h f Tryd.underlying82 rfl (by rw[bA]; exact iH),i]) e ⟨rfl,d⟩
def RS2(x:Nat->Int)(g:Nat)(i n:Int)(w':World):Prop:=w'.heap[g]? = some (.cells (aS .i64 54 x) 82 (0,0))/\w'.cell? ⟨g+1,0,none⟩=some (.int .i64 i)/\w'.cell? ⟨g+1+1,0,none⟩=some (.int .i64 n)
theorem nG(i:Int):gD i=true<->1<=i/\i<=6:=by unfold gD; simp
attribute [local irreducible] Oper.wp wpList Code.wp
end
section
namespace Rt
def qx(x:Nat->Int)(i n:Int):Int:=if decide (fF x i<n)then 11 else 0
def bC(x:Nat->Int)(i n:Int):(Nat->Int) × Int:=bQ x n (gD i) (qx x i n) (6+(i.toNat-1))
theorem GI(x:Nat->Int)(i:Int) : -(1125899906842624*8)<=fF x i/\fF x i<=1125899906842624*8:=by
 unfold fF;split
 ·exact PN x _
 omega
end Rt
attribute [local irreducible] Oper.wp wpList Code.wp in
set_option maxRecDepth 100000 in
set_option maxHeartbeats 1000000 in
theorem PO(x:Nat->Int)(i n:Int)(g h hi:Nat)(w:World)(hn:1<=n/\n<=1125899906842624)(hib : -9223372036854775808<=i/\i<=9223372036854775807)(hx:Hid (w.heap[g]? = some (.cells (aS .i64 54 x) 82 (0,0))))(hc:w.cell? ⟨h,0,none⟩=some (.int .i64 n))(hci:w.cell? ⟨hi,0,none⟩=some (.int .i64 i)) :
 Calls Tryd.prog 172 #[.pointer (some ⟨h,0,none⟩),.pointer (some ⟨g,0,none⟩),.pointer (some ⟨hi,0,none⟩)] w fun e w'=>e = .returned (.int .i64 (qx x i n))/\Below w.heap.size w w':=by
 have HE:Hid (qx x i n=if decide (fF x i<n)then 11 else 0):=rfl;have hb:=GI x i;have hlh:=block_lt_of_cell hc;have PS:=block_lt_of_cell hci;have Wh:g<w.heap.size:=(Array.getElem?_eq_some_iff.1 hx.out).1
 dsimp only at hlh PS
 have hB0:Below w.heap.size w w.drew:=jD w 1;have hs:Hid (∀ w',Calls Tryd.prog 30 #[.agg (aS .i64 54 x),.int .i64 i] w' fun e w''=>e = .returned (.int .i64 (fF x i))/\Below w'.heap.size w' w''):=fun w'=>vM x i w' hib;generalize fF x i=s1 at *;by_cases hd:s1<n
 ·rw[f_ hd,d_ rfl]at HE
  go_enter Tryd.func172,Tryd.ntmps172
  go_upto_region 1 with (fail)
  rename_i K0 Jv;refine wp_region_noPanic<|wp_region_held_drew (S:=Below w.heap.size w) (by kernel_rfl) hB0 fun hS => ?_;refine wpAnyH_take (i:=0) (v := .int .i64 n) rfl (by kernel_rfl) (by kernel_rfl) (by kernel_rfl) (fun _ _ _ h=>h) (.inl ⟨by rfl,fun w' hw => ?_⟩) hS ?_
  ·have h2:=(hw.cell (p:=⟨h,0,none⟩) hlh).trans hc;clear hw hc hci
   go_simp
  refine wpAnyH_take (i:=1) (v := .agg (aS .i64 54 x)) rfl (by kernel_rfl) (by kernel_rfl) (by kernel_rfl) (fun _ _ _ h=>h) (.inl ⟨by rfl,fun w' hw => ?_⟩) hS ?_
  ·exact iZ 82 (.tmp 1) (by rfl) g (by rfl) 82 (aS .i64 54 x) (0,0) _ ((hw.block _ Wh).trans hx.out) Tryd.underlying82 (by rfl) (by rw[bA]; exact iH)
  refine wpAnyH_take (i:=2) (v := .int .i64 i) rfl (by kernel_rfl) (by kernel_rfl) (by kernel_rfl) (fun _ _ _ h=>h) (.inl ⟨by rfl,fun w' hw => ?_⟩) hS ?_
  ·have h2:=(hw.cell (p:=⟨hi,0,none⟩) PS).trans hci;clear hw hc hci
   go_simp
  refine wpAnyH_all (rs := [3]) (by kernel_rfl) (by decide) ?_;intro j hj;obtain rfl:j=3:=by simpa using hj
  refine wpOp_step rfl<|fun K hK => ?_;clear hj
  go_simp
  refine(hs.out _).mono ?_;rintro e w1 ⟨rfl,hb1⟩;have hS:=Jt hS hb1;refine hK _ _ ⟨hS,?_⟩;clear hK K;refine wpAnyH_take (i:=4) (v := .bool true) rfl (by kernel_rfl) (by kernel_rfl) (by kernel_rfl) (fun _ _ _ h=>h) (.inl ⟨by rfl,fun w' hw => ?_⟩) hS ?_
  ·clear hw hc hci
   go_simp
  refine wpAnyH_all (rs := [5]) (by kernel_rfl) (by decide) ?_;intro j hj;obtain rfl:j=5:=by simpa using hj
  refine wpOp_step rfl<|fun K hK => ?_;clear hj
  go_simp
  refine(uG _ _ _).mono ?_;rintro e w2 ⟨rfl,rfl⟩;refine hK _ _ ⟨hS,?_⟩;clear hK K;refine wpAnyH_take (i:=6) (v := .int .i64 11) rfl (by kernel_rfl) (by kernel_rfl) (by kernel_rfl) (fun _ _ _ h=>h) (.inl ⟨by rfl,fun w' hw => ?_⟩) hS ?_
  ·clear hw hc hci
   go_simp
  refine wpAnyH_done (by kernel_rfl) ?_ _;refine Jv _ _ ?_
  go_wp2
  go_ret
  rw[HE.out];exact⟨rfl,hS⟩
 rw[g_ hd,b_ (by decide)]at HE
 go_enter Tryd.func172,Tryd.ntmps172
 go_upto_region 1 with (fail)
 rename_i K0 Jv;refine wp_region_noPanic<|wp_region_held_drew (S:=Below w.heap.size w) (by kernel_rfl) hB0 fun hS => ?_;refine wpAnyH_take (i:=0) (v := .int .i64 n) rfl (by kernel_rfl) (by kernel_rfl) (by kernel_rfl) (fun _ _ _ h=>h) (.inl ⟨by rfl,fun w' hw => ?_⟩) hS ?_
 ·have h2:=(hw.cell (p:=⟨h,0,none⟩) hlh).trans hc;clear hw hc hci
  go_simp
 refine wpAnyH_take (i:=1) (v := .agg (aS .i64 54 x)) rfl (by kernel_rfl) (by kernel_rfl) (by kernel_rfl) (fun _ _ _ h=>h) (.inl ⟨by rfl,fun w' hw => ?_⟩) hS ?_
 ·exact iZ 82 (.tmp 1) (by rfl) g (by rfl) 82 (aS .i64 54 x) (0,0) _ ((hw.block _ Wh).trans hx.out) Tryd.underlying82 (by rfl) (by rw[bA]; exact iH)
 refine wpAnyH_take (i:=2) (v := .int .i64 i) rfl (by kernel_rfl) (by kernel_rfl) (by kernel_rfl) (fun _ _ _ h=>h) (.inl ⟨by rfl,fun w' hw => ?_⟩) hS ?_
 ·have h2:=(hw.cell (p:=⟨hi,0,none⟩) PS).trans hci;clear hw hc hci
  go_simp
 refine wpAnyH_all (rs := [3]) (by kernel_rfl) (by decide) ?_;intro j hj;obtain rfl:j=3:=by simpa using hj
 refine wpOp_step rfl<|fun K hK => ?_;clear hj
 go_simp
 refine(hs.out _).mono ?_;rintro e w1 ⟨rfl,hb1⟩;have hS:=Jt hS hb1;refine hK _ _ ⟨hS,?_⟩;clear hK K;refine wpAnyH_take (i:=4) (v := .bool false) rfl (by kernel_rfl) (by kernel_rfl) (by kernel_rfl) (fun _ _ _ h=>h) (.inl ⟨by rfl,fun w' hw => ?_⟩) hS ?_
 ·clear hw hc hci
  go_simp
 refine wpAnyH_all (rs := [5]) (by kernel_rfl) (by decide) ?_;intro j hj;obtain rfl:j=5:=by simpa using hj
 refine wpOp_step rfl<|fun K hK => ?_;clear hj
 go_simp
 refine(uG _ _ _).mono ?_;rintro e w2 ⟨rfl,rfl⟩;refine hK _ _ ⟨hS,?_⟩;clear hK K;refine wpAnyH_take (i:=6) (v := .int .i64 0) rfl (by kernel_rfl) (by kernel_rfl) (by kernel_rfl) (fun _ _ _ h=>h) (.inl ⟨by rfl,fun w' hw => ?_⟩) hS ?_
 ·clear hw hc hci
  go_simp
 refine wpAnyH_done (by kernel_rfl) ?_ _;refine Jv _ _ ?_
 go_wp2
 go_ret
 rw[HE.out];exact⟨rfl,hS⟩
set_option maxHeartbeats 400000 in
theorem PU(g h:Nat)(i:Int)(w:World)(hi:1<=i/\i<=6)(hc:w.cell? ⟨h,0,none⟩=some (.int .i64 i)) :
 Calls Tryd.prog 174 #[.pointer (some ⟨g,0,none⟩),.pointer (some ⟨h,0,none⟩)] w fun e w'=>e = .returned (.pointer (some ⟨g,6+(i.toNat-1),none⟩))/\Below w.heap.size w w':=by
 obtain⟨k,hk⟩:=Int.eq_ofNat_of_zero_le (show 0<=i-1 by omega);obtain rfl:i=(k:Int)+1:=by omega
 have hk6:(k:Int)<6:=by omega
 have HE:Hid (((k:Int)+1).toNat-1=k):=by unfold Hid; omega
 clear hk
 go_enter Tryd.func174,Tryd.ntmps174
 go_wp2_with fail
 go_quiet (fail)
 go_wp2
 go_ret
 rw[HE.out];exact⟨rfl,bN (Below.refl _ _) _⟩
theorem Tj(args:Array Value)(w:World):(callFunc 172 args).run Tryd.prog w = .ok (.enter 172 args) w:=jQ Tryd.func172 rfl rfl args w
theorem Tk(args:Array Value)(w:World):(callFunc 174 args).run Tryd.prog w = .ok (.enter 174 args) w:=jQ Tryd.func174 rfl rfl args w
attribute [local irreducible] Oper.wp wpList Code.wp
set_option maxRecDepth 100000 in
set_option maxHeartbeats 1000000 in
theorem Tm(x:Nat->Int)(i n:Int)(w:World)(hi : -9223372036854775808<=i/\i<=9223372036854775807) :
 Calls Tryd.prog 159 #[.agg (aS .i64 54 x),.int .i64 i,.int .i64 n] w (Ob (bC x i n) w):=by
 have hmf : ∀(fn:Fn) (first cap:Array Value) (w:World),(Instr.makeFunc fn first cap).run Tryd.prog w = .ok (.func fn first cap) w:=fun _ _ _ _=>rfl
 go_enter Tryd.func159,Tryd.ntmps159
 go_upto_region 1 with (fail)
 rename_i K0 Jv;rw[<- oO];have ha:=Rf w (.cells (aS .i64 54 x) 82) (.cells #[.int .i64 i] 3) (.cells #[.int .i64 n] 2) (.cells (aS .i64 54 zero) 82);generalize (((w.alloc (.cells (aS .i64 54 x) 82)).alloc (.cells #[.int .i64 i] 3)).alloc (.cells #[.int .i64 n] 2)).alloc (.cells (aS .i64 54 zero) 82)=W at *;obtain⟨hx,hI,hN,hz,hs,hB⟩:=ha;have cI:=qQ hI;have cN:=qQ hN;have Hx:Hid _:=hx;have Hz:Hid _:=hz;have HI:Hid _:=hI;have HN:Hid _:=hN;have Hs:Hid _:=hs;clear hx hz hI hN hs;refine wp_region_noPanic<|wp_region_held_drew (S:=RS2 x w.heap.size i n) (by kernel_rfl) ⟨Hx.out,cI,cN⟩ fun hS => ?_;refine wpAnyH_take (i:=0) (v := .agg (aS .i64 54 x)) rfl (by kernel_rfl) (by kernel_rfl) (by kernel_rfl) (fun _ _ _ h=>h) (.inl ⟨by rfl,fun w' hw => ?_⟩) hS ?_
 ·exact iZ 82 (.tmp 3) (by rfl) w.heap.size (by rfl) 82 (aS .i64 54 x) (0,0) _ hw.1 Tryd.underlying82 (by rfl) (by rw[bA]; exact iH)
 refine wpAnyH_take (i:=1) (v := .int .i64 n) rfl (by kernel_rfl) (by kernel_rfl) (by kernel_rfl) (fun _ _ _ h=>h) (.inl ⟨by rfl,fun w' hw => ?_⟩) hS ?_
 ·have h2:=hw.2.2
  go_simp
 refine wpAnyH_take (i:=2) (v := .int .i64 i) rfl (by kernel_rfl) (by kernel_rfl) (by kernel_rfl) (fun _ _ _ h=>h) (.inl ⟨by rfl,fun w' hw => ?_⟩) hS ?_
 ·have h2:=hw.2.1;have h3:=hw.2.2;clear hw
  go_simp
 refine wpAnyH_take (i:=4) (v := .func (.func 172) #[] #[.pointer (some ⟨w.heap.size+1+1,0,none⟩),.pointer (some ⟨w.heap.size,0,none⟩),.pointer (some ⟨w.heap.size+1,0,none⟩)]) rfl (by kernel_rfl) (by kernel_rfl) (by kernel_rfl) (fun _ _ _ h=>h) (.inl ⟨by rfl,fun w' hw => ?_⟩) hS ?_
 ·have h2:=hw.2.1;have h3:=hw.2.2;clear hw
  go_simp
 refine wpAnyH_take (i:=5) (v := .func (.func 174) #[] #[.pointer (some ⟨w.heap.size+1,0,none⟩)]) rfl (by kernel_rfl) (by kernel_rfl) (by kernel_rfl) (fun _ _ _ h=>h) (.inl ⟨by rfl,fun w' hw => ?_⟩) hS ?_
 ·have h2:=hw.2.1;have h3:=hw.2.2;clear hw
  go_simp
 refine wpAnyH_all (rs := [3]) (by kernel_rfl) (by decide) ?_;intro j hj;obtain rfl:j=3:=by simpa using hj
 refine wpOp_step rfl<|fun K hK => ?_;clear hj
 go_simp
 refine(rA i _ hi).mono ?_;rintro e w' ⟨rfl,rfl⟩;refine hK _ _ ⟨hS,?_⟩;clear hK K;refine wpAnyH_all (rs := [6]) (by kernel_rfl) (by decide) ?_;intro j hj;obtain rfl:j=6:=by simpa using hj
 refine wpOp_step rfl<|fun K hK => ?_;clear hj
 go_simp
 have hlx:w.heap.size<W.drew.heap.size:=(Array.getElem?_eq_some_iff.1 hS.1).1;have Xb:=block_lt_of_cell hS.2.1;have hlN:=block_lt_of_cell hS.2.2
 dsimp only at Xb hlN
 refine(vN x n (gD i) 172 174 _ _ (qx x i n) (6+(i.toNat-1)) W.drew ?o1 ?o2 Tj Tk ?o3 ?o4).mono ?_
 case o1=>intro h; have:=(nG i).1 h; omega
 case o2=>intro h hm; have:=(nG i).1 h; exact(vL hm (i.toNat-1) (by omega)).c
 case o3 =>
  intro hm h1 h2 h3 w' hb;exact PO x i n _ _ _ w' ⟨h1,h2⟩ hi ((hb.block _ hlx).trans hS.1) ((hb.cell (p:=⟨w.heap.size+1+1,0,none⟩) hlN).trans hS.2.2) ((hb.cell (p:=⟨w.heap.size+1,0,none⟩) Xb).trans hS.2.1)
 case o4 =>
  intro h w' g hb;exact PU g _ i w' ((nG i).1 h) ((hb.cell (p:=⟨w.heap.size+1,0,none⟩) Xb).trans hS.2.1)
 rintro e w2 ⟨rfl,hb2⟩;have hHR:Hid (bC x i n=bQ x n (gD i) (qx x i n) (6+(i.toNat-1))):=rfl;generalize bQ x n (gD i) (qx x i n) (6+(i.toNat-1))=r at *;have hS2:RS2 x w.heap.size i n w2:=⟨(hb2.block _ hlx).trans hS.1,(hb2.cell (p:=⟨w.heap.size+1,0,none⟩) Xb).trans hS.2.1,(hb2.cell (p:=⟨w.heap.size+1+1,0,none⟩) hlN).trans hS.2.2⟩;have hz2:Hid (w2.heap[w.heap.size+1+1+1]? = some (.cells (aS .i64 54 zero) 82 (0,0))):=(hb2.block _ (by show _<W.heap.size; have:=Hs.out; omega)).trans Hz.out;have hB2:Below w.heap.size w w2:=hB.trans ((bdr hb2).mono hB.size);refine hK _ _ ⟨hS2,?_⟩;clear hK K hS hb2;refine wpAnyH_take (i:=7) (v := .agg (aS .i64 54 r.1)) rfl (by kernel_rfl) (by kernel_rfl) (by kernel_rfl) (fun _ _ _ h=>h) (.inl ⟨by rfl,fun w' hw => ?_⟩) hS2 ?_
 ·clear hw
  go_simp
 refine wpAnyH_take (i:=8) (v := .int .i64 r.2) rfl (by kernel_rfl) (by kernel_rfl) (by kernel_rfl) (fun _ _ _ h=>h) (.inl ⟨by rfl,fun w' hw => ?_⟩) hS2 ?_
 ·clear hw
  go_simp
 refine wpAnyH_all (rs := [9]) (by kernel_rfl) (by decide) ?_;intro j hj;obtain rfl:j=9:=by simpa using hj
 clear hj;refine vk (by rfl) (by rfl)<|fun K hK => ?_;refine wp_store_row 82 (.tmp 6) (.tmp 15) (by rfl) (w.heap.size+1+1+1) (aS .i64 54 r.1) (by rfl) (by rfl) 82 (aS .i64 54 zero) hz2.out (by rw[bA]; exact iH) (by rw[bA,bA]) (ku _ _ _) ?_;have hend:=iD hB2 (by omega) hz2.out r.1;have ZR:RS2 x w.heap.size i n (w2.setRow (w.heap.size+1+1+1) (aS .i64 54 r.1)):=⟨(setRow_other _ _ _ _ (by omega)).trans hS2.1,(World.cell?_of_block (setRow_other _ _ _ _ (by show w.heap.size+1≠_; omega))).trans hS2.2.1,(World.cell?_of_block (setRow_other _ _ _ _ (by show w.heap.size+1+1≠_; omega))).trans hS2.2.2⟩;refine hK _ _ ⟨ZR,?_⟩;clear hK K hz2 hB2 hS2;generalize w2.setRow (w.heap.size+1+1+1) (aS .i64 54 r.1)=w3 at *;refine wpAnyH_take (i:=10) (v := .int .i64 r.2) rfl (by kernel_rfl) (by kernel_rfl) (by kernel_rfl) (fun _ _ _ h=>h) (.inl ⟨by rfl,fun w' hw => ?_⟩) ZR ?_
 ·clear hw
  go_simp
 refine wpAnyH_done (by kernel_rfl) ?_ _;refine Jv _ _<|wp_ret ?_;rw[hHR.out];exact tC (p:=6) (q:=7) (by kernel_rfl) (by kernel_rfl) (by kernel_rfl) (by kernel_rfl) hend.1 hend.2
end
section
namespace Rt
def qy(x:Nat->Int)(i n:Int):Int:=if decide (C x (i.toNat-1)-F x (i.toNat-1)<n)then 12 else 0
def bD(x:Nat->Int)(i n:Int):(Nat->Int) × Int:=bQ x n (gD i) (qy x i n) (12+(i.toNat-1))
end Rt
attribute [local irreducible] Oper.wp wpList Code.wp in
set_option maxRecDepth 100000 in
set_option maxHeartbeats 1000000 in
theorem PV(x:Nat->Int)(i n:Int)(g h hi:Nat)(w:World)(hn:1<=n/\n<=1125899906842624)(hib:1<=i/\i<=6)(hm:may x=true)(hx:Hid (w.heap[g]? = some (.cells (aS .i64 54 x) 82 (0,0))))(hc:w.cell? ⟨h,0,none⟩=some (.int .i64 n))(hci:w.cell? ⟨hi,0,none⟩=some (.int .i64 i)) :
 Calls Tryd.prog 175 #[.pointer (some ⟨h,0,none⟩),.pointer (some ⟨g,0,none⟩),.pointer (some ⟨hi,0,none⟩)] w fun e w'=>e = .returned (.int .i64 (qy x i n))/\Below w.heap.size w w':=by
 obtain⟨k,hk⟩:=Int.eq_ofNat_of_zero_le (show 0<=i-1 by omega);obtain rfl:i=(k:Int)+1:=by omega
 have hk6:k<6:=by omega
 have ho:=vL hm k hk6;have h1:=ho.c;have h2:=ho.f;have h3:=ho.fc;have c6:w.cell? ⟨g,6+k,none⟩=some (.int .i64 (C x k)):=fK hx.out (6+k) (by omega);have c12:w.cell? ⟨g,12+k,none⟩=some (.int .i64 (F x k)):=fK hx.out (12+k) (by omega);have HE:Hid (qy x ((k:Int)+1) n=if decide (C x k-F x k<n)then 12 else 0):=by
  unfold Hid qy;rw[show((k:Int)+1).toNat-1=k by omega]
 clear ho hm hk;generalize C x k=c at *;generalize F x k=f at *;have hlh:=block_lt_of_cell hc;have PS:=block_lt_of_cell hci;have Wh:g<w.heap.size:=(Array.getElem?_eq_some_iff.1 hx.out).1
 dsimp only at hlh PS
 have hB0:Below w.heap.size w w.drew:=jD w 1;by_cases hd:c-f<n
 ·rw[f_ hd,d_ rfl]at HE
  go_enter Tryd.func175,Tryd.ntmps175
  go_upto_region 1 with (fail)
  rename_i K0 Jv;refine wp_region_noPanic<|wp_region_held_drew (S:=Below w.heap.size w) (by kernel_rfl) hB0 fun hS => ?_;refine wpAnyH_take (i:=0) (v := .int .i64 n) rfl (by kernel_rfl) (by kernel_rfl) (by kernel_rfl) (fun _ _ _ h=>h) (.inl ⟨by rfl,fun w' hw => ?_⟩) hS ?_
  ·have h2:=(hw.cell (p:=⟨h,0,none⟩) hlh).trans hc;clear hw hc hci
   go_simp
  refine wpAnyH_take (i:=1) (v := .int .i64 ((k:Int)+1)) rfl (by kernel_rfl) (by kernel_rfl) (by kernel_rfl) (fun _ _ _ h=>h) (.inl ⟨by rfl,fun w' hw => ?_⟩) hS ?_
  ·have h2:=(hw.cell (p:=⟨hi,0,none⟩) PS).trans hci;clear hw hc hci
   go_simp
  refine wpAnyH_take (i:=2) (v := .int .i64 (k:Int)) rfl (by kernel_rfl) (by kernel_rfl) (by kernel_rfl) (fun _ _ _ h=>h) (.inl ⟨by rfl,fun w' hw => ?_⟩) hS ?_
  ·clear hw hc hci
   go_simp
   exact IntWalk.i64_in _ (by omega)
  refine wpAnyH_take (i:=3) (v := .pointer (some ⟨g,6,none⟩)) rfl (by kernel_rfl) (by kernel_rfl) (by kernel_rfl) (fun _ _ _ h=>h) (.inl ⟨by rfl,fun w' hw => ?_⟩) hS ?_
  ·clear hw hc hci
   go_simp
  refine wpAnyH_take (i:=4) (v := .pointer (some ⟨g,6+k,none⟩)) rfl (by kernel_rfl) (by kernel_rfl) (by kernel_rfl) (fun _ _ _ h=>h) (.inl ⟨by rfl,fun w' hw => ?_⟩) hS ?_
  ·have hk7:(k:Int)<6:=(by omega);clear hw hc hci
   go_simp
  refine wpAnyH_take (i:=5) (v := .int .i64 c) rfl (by kernel_rfl) (by kernel_rfl) (by kernel_rfl) (fun _ _ _ h=>h) (.inl ⟨by rfl,fun w' hw => ?_⟩) hS ?_
  ·have h2:=(hw.cell (p:=⟨g,6+k,none⟩) Wh).trans c6;clear hw hc hci
   go_simp
  refine wpAnyH_take (i:=6) (v := .int .i64 ((k:Int)+1)) rfl (by kernel_rfl) (by kernel_rfl) (by kernel_rfl) (fun _ _ _ h=>h) (.inl ⟨by rfl,fun w' hw => ?_⟩) hS ?_
  ·have h2:=(hw.cell (p:=⟨hi,0,none⟩) PS).trans hci;clear hw hc hci
   go_simp
  refine wpAnyH_take (i:=7) (v := .int .i64 (k:Int)) rfl (by kernel_rfl) (by kernel_rfl) (by kernel_rfl) (fun _ _ _ h=>h) (.inl ⟨by rfl,fun w' hw => ?_⟩) hS ?_
  ·clear hw hc hci
   go_simp
   exact IntWalk.i64_in _ (by omega)
  refine wpAnyH_take (i:=8) (v := .pointer (some ⟨g,12,none⟩)) rfl (by kernel_rfl) (by kernel_rfl) (by kernel_rfl) (fun _ _ _ h=>h) (.inl ⟨by rfl,fun w' hw => ?_⟩) hS ?_
  ·clear hw hc hci
   go_simp
  refine wpAnyH_take (i:=9) (v := .pointer (some ⟨g,12+k,none⟩)) rfl (by kernel_rfl) (by kernel_rfl) (by kernel_rfl) (fun _ _ _ h=>h) (.inl ⟨by rfl,fun w' hw => ?_⟩) hS ?_
  ·have hk7:(k:Int)<6:=(by omega);clear hw hc hci
   go_simp
  refine wpAnyH_take (i:=10) (v := .int .i64 f) rfl (by kernel_rfl) (by kernel_rfl) (by kernel_rfl) (fun _ _ _ h=>h) (.inl ⟨by rfl,fun w' hw => ?_⟩) hS ?_
  ·have h2:=(hw.cell (p:=⟨g,12+k,none⟩) Wh).trans c12;clear hw hc hci
   go_simp
  refine wpAnyH_take (i:=11) (v := .int .i64 (c-f)) rfl (by kernel_rfl) (by kernel_rfl) (by kernel_rfl) (fun _ _ _ h=>h) (.inl ⟨by rfl,fun w' hw => ?_⟩) hS ?_
  ·clear hw hc hci
   go_simp
   exact IntWalk.i64_in _ (by omega)
  refine wpAnyH_take (i:=12) (v := .bool true) rfl (by kernel_rfl) (by kernel_rfl) (by kernel_rfl) (fun _ _ _ h=>h) (.inl ⟨by rfl,fun w' hw => ?_⟩) hS ?_
  ·clear hw hc hci
   go_simp
  refine wpAnyH_all (rs := [13]) (by kernel_rfl) (by decide) ?_;intro j hj;obtain rfl:j=13:=by simpa using hj
  refine wpOp_step rfl<|fun K hK => ?_;clear hj
  go_simp
  refine(uG _ _ _).mono ?_;rintro e w2 ⟨rfl,rfl⟩;refine hK _ _ ⟨hS,?_⟩;clear hK K;refine wpAnyH_take (i:=14) (v := .int .i64 12) rfl (by kernel_rfl) (by kernel_rfl) (by kernel_rfl) (fun _ _ _ h=>h) (.inl ⟨by rfl,fun w' hw => ?_⟩) hS ?_
  ·clear hw hc hci
   go_simp
  refine wpAnyH_done (by kernel_rfl) ?_ _;refine Jv _ _ ?_
  go_wp2
  go_ret
  rw[HE.out];exact⟨rfl,hS⟩
 rw[g_ hd,b_ (by decide)]at HE
 go_enter Tryd.func175,Tryd.ntmps175
 go_upto_region 1 with (fail)
 rename_i K0 Jv;refine wp_region_noPanic<|wp_region_held_drew (S:=Below w.heap.size w) (by kernel_rfl) hB0 fun hS => ?_;refine wpAnyH_take (i:=0) (v := .int .i64 n) rfl (by kernel_rfl) (by kernel_rfl) (by kernel_rfl) (fun _ _ _ h=>h) (.inl ⟨by rfl,fun w' hw => ?_⟩) hS ?_
 ·have h2:=(hw.cell (p:=⟨h,0,none⟩) hlh).trans hc;clear hw hc hci
  go_simp
 refine wpAnyH_take (i:=1) (v := .int .i64 ((k:Int)+1)) rfl (by kernel_rfl) (by kernel_rfl) (by kernel_rfl) (fun _ _ _ h=>h) (.inl ⟨by rfl,fun w' hw => ?_⟩) hS ?_
 ·have h2:=(hw.cell (p:=⟨hi,0,none⟩) PS).trans hci;clear hw hc hci
  go_simp
 refine wpAnyH_take (i:=2) (v := .int .i64 (k:Int)) rfl (by kernel_rfl) (by kernel_rfl) (by kernel_rfl) (fun _ _ _ h=>h) (.inl ⟨by rfl,fun w' hw => ?_⟩) hS ?_
 ·clear hw hc hci
  go_simp
  exact IntWalk.i64_in _ (by omega)
 refine wpAnyH_take (i:=3) (v := .pointer (some ⟨g,6,none⟩)) rfl (by kernel_rfl) (by kernel_rfl) (by kernel_rfl) (fun _ _ _ h=>h) (.inl ⟨by rfl,fun w' hw => ?_⟩) hS ?_
 ·clear hw hc hci
  go_simp
 refine wpAnyH_take (i:=4) (v := .pointer (some ⟨g,6+k,none⟩)) rfl (by kernel_rfl) (by kernel_rfl) (by kernel_rfl) (fun _ _ _ h=>h) (.inl ⟨by rfl,fun w' hw => ?_⟩) hS ?_
 ·have hk7:(k:Int)<6:=by omega
  clear hw hc hci
  go_simp
 refine wpAnyH_take (i:=5) (v := .int .i64 c) rfl (by kernel_rfl) (by kernel_rfl) (by kernel_rfl) (fun _ _ _ h=>h) (.inl ⟨by rfl,fun w' hw => ?_⟩) hS ?_
 ·have h2:=(hw.cell (p:=⟨g,6+k,none⟩) Wh).trans c6;clear hw hc hci
  go_simp
 refine wpAnyH_take (i:=6) (v := .int .i64 ((k:Int)+1)) rfl (by kernel_rfl) (by kernel_rfl) (by kernel_rfl) (fun _ _ _ h=>h) (.inl ⟨by rfl,fun w' hw => ?_⟩) hS ?_
 ·have h2:=(hw.cell (p:=⟨hi,0,none⟩) PS).trans hci;clear hw hc hci
  go_simp
 refine wpAnyH_take (i:=7) (v := .int .i64 (k:Int)) rfl (by kernel_rfl) (by kernel_rfl) (by kernel_rfl) (fun _ _ _ h=>h) (.inl ⟨by rfl,fun w' hw => ?_⟩) hS ?_
 ·clear hw hc hci
  go_simp
  exact IntWalk.i64_in _ (by omega)
 refine wpAnyH_take (i:=8) (v := .pointer (some ⟨g,12,none⟩)) rfl (by kernel_rfl) (by kernel_rfl) (by kernel_rfl) (fun _ _ _ h=>h) (.inl ⟨by rfl,fun w' hw => ?_⟩) hS ?_
 ·clear hw hc hci
  go_simp
 refine wpAnyH_take (i:=9) (v := .pointer (some ⟨g,12+k,none⟩)) rfl (by kernel_rfl) (by kernel_rfl) (by kernel_rfl) (fun _ _ _ h=>h) (.inl ⟨by rfl,fun w' hw => ?_⟩) hS ?_
 ·have hk7:(k:Int)<6:=by omega
  clear hw hc hci
  go_simp
 refine wpAnyH_take (i:=10) (v := .int .i64 f) rfl (by kernel_rfl) (by kernel_rfl) (by kernel_rfl) (fun _ _ _ h=>h) (.inl ⟨by rfl,fun w' hw => ?_⟩) hS ?_
 ·have h2:=(hw.cell (p:=⟨g,12+k,none⟩) Wh).trans c12;clear hw hc hci
  go_simp
 refine wpAnyH_take (i:=11) (v := .int .i64 (c-f)) rfl (by kernel_rfl) (by kernel_rfl) (by kernel_rfl) (fun _ _ _ h=>h) (.inl ⟨by rfl,fun w' hw => ?_⟩) hS ?_
 ·clear hw hc hci
  go_simp
  exact IntWalk.i64_in _ (by omega)
 refine wpAnyH_take (i:=12) (v := .bool false) rfl (by kernel_rfl) (by kernel_rfl) (by kernel_rfl) (fun _ _ _ h=>h) (.inl ⟨by rfl,fun w' hw => ?_⟩) hS ?_
 ·clear hw hc hci
  go_simp
 refine wpAnyH_all (rs := [13]) (by kernel_rfl) (by decide) ?_;intro j hj;obtain rfl:j=13:=by simpa using hj
 refine wpOp_step rfl<|fun K hK => ?_;clear hj
 go_simp
 refine(uG _ _ _).mono ?_;rintro e w2 ⟨rfl,rfl⟩;refine hK _ _ ⟨hS,?_⟩;clear hK K;refine wpAnyH_take (i:=14) (v := .int .i64 0) rfl (by kernel_rfl) (by kernel_rfl) (by kernel_rfl) (fun _ _ _ h=>h) (.inl ⟨by rfl,fun w' hw => ?_⟩) hS ?_
 ·clear hw hc hci
  go_simp
 refine wpAnyH_done (by kernel_rfl) ?_ _;refine Jv _ _ ?_
 go_wp2
 go_ret
 rw[HE.out];exact⟨rfl,hS⟩
attribute [local irreducible] Oper.wp wpList Code.wp
set_option maxHeartbeats 400000 in
theorem PW(g h:Nat)(i:Int)(w:World)(hi:1<=i/\i<=6)(hc:w.cell? ⟨h,0,none⟩=some (.int .i64 i)) :
 Calls Tryd.prog 176 #[.pointer (some ⟨g,0,none⟩),.pointer (some ⟨h,0,none⟩)] w fun e w'=>e = .returned (.pointer (some ⟨g,12+(i.toNat-1),none⟩))/\Below w.heap.size w w':=by
 obtain⟨k,hk⟩:=Int.eq_ofNat_of_zero_le (show 0<=i-1 by omega);obtain rfl:i=(k:Int)+1:=by omega
 have hk6:(k:Int)<6:=by omega
 have HE:Hid (((k:Int)+1).toNat-1=k):=by unfold Hid; omega
 clear hk
 go_enter Tryd.func176,Tryd.ntmps176
 go_wp2_with fail
 go_quiet (fail)
 go_wp2
 go_ret
 rw[HE.out];exact⟨rfl,bN (Below.refl _ _) _⟩
theorem Tn(args:Array Value)(w:World):(callFunc 175 args).run Tryd.prog w = .ok (.enter 175 args) w:=jQ Tryd.func175 rfl rfl args w
theorem Tp(args:Array Value)(w:World):(callFunc 176 args).run Tryd.prog w = .ok (.enter 176 args) w:=jQ Tryd.func176 rfl rfl args w
set_option maxRecDepth 100000 in
set_option maxHeartbeats 1000000 in
theorem Tq(x:Nat->Int)(i n:Int)(w:World)(hi : -9223372036854775808<=i/\i<=9223372036854775807) :
 Calls Tryd.prog 162 #[.agg (aS .i64 54 x),.int .i64 i,.int .i64 n] w (Ob (bD x i n) w):=by
 have hmf : ∀(fn:Fn) (first cap:Array Value) (w:World),(Instr.makeFunc fn first cap).run Tryd.prog w = .ok (.func fn first cap) w:=fun _ _ _ _=>rfl
 go_enter Tryd.func162,Tryd.ntmps162
 go_upto_region 1 with (fail)
 rename_i K0 Jv;rw[<- oO];have ha:=Rf w (.cells (aS .i64 54 x) 82) (.cells #[.int .i64 i] 3) (.cells #[.int .i64 n] 2) (.cells (aS .i64 54 zero) 82);generalize (((w.alloc (.cells (aS .i64 54 x) 82)).alloc (.cells #[.int .i64 i] 3)).alloc (.cells #[.int .i64 n] 2)).alloc (.cells (aS .i64 54 zero) 82)=W at *;obtain⟨hx,hI,hN,hz,hs,hB⟩:=ha;have cI:=qQ hI;have cN:=qQ hN;have Hx:Hid _:=hx;have Hz:Hid _:=hz;have HI:Hid _:=hI;have HN:Hid _:=hN;have Hs:Hid _:=hs;clear hx hz hI hN hs;refine wp_region_noPanic<|wp_region_held_drew (S:=RS2 x w.heap.size i n) (by kernel_rfl) ⟨Hx.out,cI,cN⟩ fun hS => ?_;refine wpAnyH_take (i:=0) (v := .agg (aS .i64 54 x)) rfl (by kernel_rfl) (by kernel_rfl) (by kernel_rfl) (fun _ _ _ h=>h) (.inl ⟨by rfl,fun w' hw => ?_⟩) hS ?_
 ·exact iZ 82 (.tmp 3) (by rfl) w.heap.size (by rfl) 82 (aS .i64 54 x) (0,0) _ hw.1 Tryd.underlying82 (by rfl) (by rw[bA]; exact iH)
 refine wpAnyH_take (i:=1) (v := .int .i64 n) rfl (by kernel_rfl) (by kernel_rfl) (by kernel_rfl) (fun _ _ _ h=>h) (.inl ⟨by rfl,fun w' hw => ?_⟩) hS ?_
 ·have h2:=hw.2.2
  go_simp
 refine wpAnyH_take (i:=2) (v := .int .i64 i) rfl (by kernel_rfl) (by kernel_rfl) (by kernel_rfl) (fun _ _ _ h=>h) (.inl ⟨by rfl,fun w' hw => ?_⟩) hS ?_
 ·have h2:=hw.2.1;have h3:=hw.2.2;clear hw
  go_simp
 refine wpAnyH_take (i:=4) (v := .func (.func 175) #[] #[.pointer (some ⟨w.heap.size+1+1,0,none⟩),.pointer (some ⟨w.heap.size,0,none⟩),.pointer (some ⟨w.heap.size+1,0,none⟩)]) rfl (by kernel_rfl) (by kernel_rfl) (by kernel_rfl) (fun _ _ _ h=>h) (.inl ⟨by rfl,fun w' hw => ?_⟩) hS ?_
 ·have h2:=hw.2.1;have h3:=hw.2.2;clear hw
  go_simp
 refine wpAnyH_take (i:=5) (v := .func (.func 176) #[] #[.pointer (some ⟨w.heap.size+1,0,none⟩)]) rfl (by kernel_rfl) (by kernel_rfl) (by kernel_rfl) (fun _ _ _ h=>h) (.inl ⟨by rfl,fun w' hw => ?_⟩) hS ?_
 ·have h2:=hw.2.1;have h3:=hw.2.2;clear hw
  go_simp
 refine wpAnyH_all (rs := [3]) (by kernel_rfl) (by decide) ?_;intro j hj;obtain rfl:j=3:=by simpa using hj
 refine wpOp_step rfl<|fun K hK => ?_;clear hj
 go_simp
 refine(rA i _ hi).mono ?_;rintro e w' ⟨rfl,rfl⟩;refine hK _ _ ⟨hS,?_⟩;clear hK K;refine wpAnyH_all (rs := [6]) (by kernel_rfl) (by decide) ?_;intro j hj;obtain rfl:j=6:=by simpa using hj
 refine wpOp_step rfl<|fun K hK => ?_;clear hj
 go_simp
 have hlx:w.heap.size<W.drew.heap.size:=(Array.getElem?_eq_some_iff.1 hS.1).1;have Xb:=block_lt_of_cell hS.2.1;have hlN:=block_lt_of_cell hS.2.2
 dsimp only at Xb hlN
 refine(vN x n (gD i) 175 176 _ _ (qy x i n) (12+(i.toNat-1)) W.drew ?o1 ?o2 Tn Tp ?o3 ?o4).mono ?_
 case o1=>intro h; have:=(nG i).1 h; omega
 case o2=>intro h hm; have:=(nG i).1 h; exact(vL hm (i.toNat-1) (by omega)).f
 case o3 =>
  intro hm h1 h2 h3 w' hb;exact PV x i n _ _ _ w' ⟨h1,h2⟩ ((nG i).1 h3) hm ((hb.block _ hlx).trans hS.1) ((hb.cell (p:=⟨w.heap.size+1+1,0,none⟩) hlN).trans hS.2.2) ((hb.cell (p:=⟨w.heap.size+1,0,none⟩) Xb).trans hS.2.1)
 case o4 =>
  intro h w' g hb;exact PW g _ i w' ((nG i).1 h) ((hb.cell (p:=⟨w.heap.size+1,0,none⟩) Xb).trans hS.2.1)
 rintro e w2 ⟨rfl,hb2⟩;have hHR:Hid (bD x i n=bQ x n (gD i) (qy x i n) (12+(i.toNat-1))):=rfl;generalize bQ x n (gD i) (qy x i n) (12+(i.toNat-1))=r at *;have hS2:RS2 x w.heap.size i n w2:=⟨(hb2.block _ hlx).trans hS.1,(hb2.cell (p:=⟨w.heap.size+1,0,none⟩) Xb).trans hS.2.1,(hb2.cell (p:=⟨w.heap.size+1+1,0,none⟩) hlN).trans hS.2.2⟩;have hz2:Hid (w2.heap[w.heap.size+1+1+1]? = some (.cells (aS .i64 54 zero) 82 (0,0))):=(hb2.block _ (by show _<W.heap.size; have:=Hs.out; omega)).trans Hz.out;have hB2:Below w.heap.size w w2:=hB.trans ((bdr hb2).mono hB.size);refine hK _ _ ⟨hS2,?_⟩;clear hK K hS hb2;refine wpAnyH_take (i:=7) (v := .agg (aS .i64 54 r.1)) rfl (by kernel_rfl) (by kernel_rfl) (by kernel_rfl) (fun _ _ _ h=>h) (.inl ⟨by rfl,fun w' hw => ?_⟩) hS2 ?_
 ·clear hw
  go_simp
 refine wpAnyH_take (i:=8) (v := .int .i64 r.2) rfl (by kernel_rfl) (by kernel_rfl) (by kernel_rfl) (fun _ _ _ h=>h) (.inl ⟨by rfl,fun w' hw => ?_⟩) hS2 ?_
 ·clear hw
  go_simp
 refine wpAnyH_all (rs := [9]) (by kernel_rfl) (by decide) ?_;intro j hj;obtain rfl:j=9:=by simpa using hj
 clear hj;refine vk (by rfl) (by rfl)<|fun K hK => ?_;refine wp_store_row 82 (.tmp 6) (.tmp 15) (by rfl) (w.heap.size+1+1+1) (aS .i64 54 r.1) (by rfl) (by rfl) 82 (aS .i64 54 zero) hz2.out (by rw[bA]; exact iH) (by rw[bA,bA]) (ku _ _ _) ?_;have hend:=iD hB2 (by omega) hz2.out r.1;have ZR:RS2 x w.heap.size i n (w2.setRow (w.heap.size+1+1+1) (aS .i64 54 r.1)):=⟨(setRow_other _ _ _ _ (by omega)).trans hS2.1,(World.cell?_of_block (setRow_other _ _ _ _ (by show w.heap.size+1≠_; omega))).trans hS2.2.1,(World.cell?_of_block (setRow_other _ _ _ _ (by show w.heap.size+1+1≠_; omega))).trans hS2.2.2⟩;refine hK _ _ ⟨ZR,?_⟩;clear hK K hz2 hB2 hS2;generalize w2.setRow (w.heap.size+1+1+1) (aS .i64 54 r.1)=w3 at *;refine wpAnyH_take (i:=10) (v := .int .i64 r.2) rfl (by kernel_rfl) (by kernel_rfl) (by kernel_rfl) (fun _ _ _ h=>h) (.inl ⟨by rfl,fun w' hw => ?_⟩) ZR ?_
 ·clear hw
  go_simp
 refine wpAnyH_done (by kernel_rfl) ?_ _;refine Jv _ _<|wp_ret ?_;rw[hHR.out];exact tC (p:=6) (q:=7) (by kernel_rfl) (by kernel_rfl) (by kernel_rfl) (by kernel_rfl) hend.1 hend.2
end
namespace Rt
def nH(x:Nat->Int)(i j n:Int):Int:=if i=j then 1 else if decide (fF x i<n)then 11 else 0
def kI(i j:Int):Nat:=18+(i.toNat-1)*6+(j.toNat-1)
def cB(x:Nat->Int)(i j n:Int):(Nat->Int) × Int:=bQ x n (gD i&&gD j) (nH x i j n) (kI i j)
end Rt
attribute [local irreducible] Oper.wp wpList Code.wp in
set_option maxRecDepth 100000 in
set_option maxHeartbeats 1000000 in
theorem GJ(x:Nat->Int)(i j0 n:Int)(g h hi hj:Nat)(w:World)(hn:1<=n/\n<=1125899906842624)(hib : -9223372036854775808<=i/\i<=9223372036854775807)(hjb : -9223372036854775808<=j0/\j0<=9223372036854775807)(hx:Hid (w.heap[g]? = some (.cells (aS .i64 54 x) 82 (0,0))))(hc:w.cell? ⟨h,0,none⟩=some (.int .i64 n))(hci:w.cell? ⟨hi,0,none⟩=some (.int .i64 i))(hcj:w.cell? ⟨hj,0,none⟩=some (.int .i64 j0)) :
 Calls Tryd.prog 177 #[.pointer (some ⟨hi,0,none⟩),.pointer (some ⟨hj,0,none⟩),.pointer (some ⟨h,0,none⟩),.pointer (some ⟨g,0,none⟩)] w fun e w'=>e = .returned (.int .i64 (nH x i j0 n))/\Below w.heap.size w w':=by
 have HE:Hid (nH x i j0 n=if i=j0 then 1 else if decide (fF x i<n)then 11 else 0):=rfl;have hb:=GI x i;have hlh:=block_lt_of_cell hc;have PS:=block_lt_of_cell hci;have Wh:g<w.heap.size:=(Array.getElem?_eq_some_iff.1 hx.out).1
 dsimp only at hlh PS
 have hB0:Below w.heap.size w w.drew:=jD w 1;have hs:Hid (∀ w',Calls Tryd.prog 30 #[.agg (aS .i64 54 x),.int .i64 i] w' fun e w''=>e = .returned (.int .i64 (fF x i))/\Below w'.heap.size w' w''):=fun w'=>vM x i w' hib;generalize fF x i=s1 at *;by_cases he:i=j0
 ·rw[d_ he]at HE;subst he
  go_enter Tryd.func177,Tryd.ntmps177
  go_wp2
  go_ret
  rw[HE.out];exact⟨rfl,Below.refl _ _⟩
 rw[b_ he]at HE;have hne:(i==j0)=false:=by simpa using he
 clear he;by_cases hd:s1<n
 ·rw[f_ hd,d_ rfl]at HE
  go_enter Tryd.func177,Tryd.ntmps177
  go_upto_region 3 with (fail)
  rename_i K0 Jv;refine wp_region_noPanic<|wp_region_held_drew (S:=Below w.heap.size w) (by kernel_rfl) hB0 fun hS => ?_;refine wpAnyH_take (i:=0) (v := .int .i64 n) rfl (by kernel_rfl) (by kernel_rfl) (by kernel_rfl) (fun _ _ _ h=>h) (.inl ⟨by rfl,fun w' hw => ?_⟩) hS ?_
  ·have h2:=(hw.cell (p:=⟨h,0,none⟩) hlh).trans hc;clear hw hc hci
   go_simp
  refine wpAnyH_take (i:=1) (v := .agg (aS .i64 54 x)) rfl (by kernel_rfl) (by kernel_rfl) (by kernel_rfl) (fun _ _ _ h=>h) (.inl ⟨by rfl,fun w' hw => ?_⟩) hS ?_
  ·exact iZ 82 (.tmp 3) (by rfl) g (by rfl) 82 (aS .i64 54 x) (0,0) _ ((hw.block _ Wh).trans hx.out) Tryd.underlying82 (by rfl) (by rw[bA]; exact iH)
  refine wpAnyH_take (i:=2) (v := .int .i64 i) rfl (by kernel_rfl) (by kernel_rfl) (by kernel_rfl) (fun _ _ _ h=>h) (.inl ⟨by rfl,fun w' hw => ?_⟩) hS ?_
  ·have h2:=(hw.cell (p:=⟨hi,0,none⟩) PS).trans hci;clear hw hc hci
   go_simp
  refine wpAnyH_all (rs := [3]) (by kernel_rfl) (by decide) ?_;intro j hj;obtain rfl:j=3:=by simpa using hj
  refine wpOp_step rfl<|fun K hK => ?_;clear hj
  go_simp
  refine(hs.out _).mono ?_;rintro e w1 ⟨rfl,hb1⟩;have hS:=Jt hS hb1;refine hK _ _ ⟨hS,?_⟩;clear hK K;refine wpAnyH_take (i:=4) (v := .bool true) rfl (by kernel_rfl) (by kernel_rfl) (by kernel_rfl) (fun _ _ _ h=>h) (.inl ⟨by rfl,fun w' hw => ?_⟩) hS ?_
  ·clear hw hc hci
   go_simp
  refine wpAnyH_all (rs := [5]) (by kernel_rfl) (by decide) ?_;intro j hj;obtain rfl:j=5:=by simpa using hj
  refine wpOp_step rfl<|fun K hK => ?_;clear hj
  go_simp
  refine(uG _ _ _).mono ?_;rintro e w2 ⟨rfl,rfl⟩;refine hK _ _ ⟨hS,?_⟩;clear hK K;refine wpAnyH_take (i:=6) (v := .int .i64 11) rfl (by kernel_rfl) (by kernel_rfl) (by kernel_rfl) (fun _ _ _ h=>h) (.inl ⟨by rfl,fun w' hw => ?_⟩) hS ?_
  ·clear hw hc hci
   go_simp
  refine wpAnyH_done (by kernel_rfl) ?_ _;refine Jv _ _ ?_
  go_wp2
  go_ret
  rw[HE.out];exact⟨rfl,hS⟩
 rw[g_ hd,b_ (by decide)]at HE
 go_enter Tryd.func177,Tryd.ntmps177
 go_upto_region 3 with (fail)
 rename_i K0 Jv;refine wp_region_noPanic<|wp_region_held_drew (S:=Below w.heap.size w) (by kernel_rfl) hB0 fun hS => ?_;refine wpAnyH_take (i:=0) (v := .int .i64 n) rfl (by kernel_rfl) (by kernel_rfl) (by kernel_rfl) (fun _ _ _ h=>h) (.inl ⟨by rfl,fun w' hw => ?_⟩) hS ?_
 ·have h2:=(hw.cell (p:=⟨h,0,none⟩) hlh).trans hc;clear hw hc hci
  go_simp
 refine wpAnyH_take (i:=1) (v := .agg (aS .i64 54 x)) rfl (by kernel_rfl) (by kernel_rfl) (by kernel_rfl) (fun _ _ _ h=>h) (.inl ⟨by rfl,fun w' hw => ?_⟩) hS ?_
 ·exact iZ 82 (.tmp 3) (by rfl) g (by rfl) 82 (aS .i64 54 x) (0,0) _ ((hw.block _ Wh).trans hx.out) Tryd.underlying82 (by rfl) (by rw[bA]; exact iH)
 refine wpAnyH_take (i:=2) (v := .int .i64 i) rfl (by kernel_rfl) (by kernel_rfl) (by kernel_rfl) (fun _ _ _ h=>h) (.inl ⟨by rfl,fun w' hw => ?_⟩) hS ?_
 ·have h2:=(hw.cell (p:=⟨hi,0,none⟩) PS).trans hci;clear hw hc hci
  go_simp
 refine wpAnyH_all (rs := [3]) (by kernel_rfl) (by decide) ?_;intro j hj;obtain rfl:j=3:=by simpa using hj
 refine wpOp_step rfl<|fun K hK => ?_;clear hj
 go_simp
 refine(hs.out _).mono ?_;rintro e w1 ⟨rfl,hb1⟩;have hS:=Jt hS hb1;refine hK _ _ ⟨hS,?_⟩;clear hK K;refine wpAnyH_take (i:=4) (v := .bool false) rfl (by kernel_rfl) (by kernel_rfl) (by kernel_rfl) (fun _ _ _ h=>h) (.inl ⟨by rfl,fun w' hw => ?_⟩) hS ?_
 ·clear hw hc hci
  go_simp
 refine wpAnyH_all (rs := [5]) (by kernel_rfl) (by decide) ?_;intro j hj;obtain rfl:j=5:=by simpa using hj
 refine wpOp_step rfl<|fun K hK => ?_;clear hj
 go_simp
 refine(uG _ _ _).mono ?_;rintro e w2 ⟨rfl,rfl⟩;refine hK _ _ ⟨hS,?_⟩;clear hK K;refine wpAnyH_take (i:=6) (v := .int .i64 0) rfl (by kernel_rfl) (by kernel_rfl) (by kernel_rfl) (fun _ _ _ h=>h) (.inl ⟨by rfl,fun w' hw => ?_⟩) hS ?_
 ·clear hw hc hci
  go_simp
 refine wpAnyH_done (by kernel_rfl) ?_ _;refine Jv _ _ ?_
 go_wp2
 go_ret
 rw[HE.out];exact⟨rfl,hS⟩
set_option maxHeartbeats 400000 in
theorem GK(g h1 h2:Nat)(i j:Int)(w:World)(hi:1<=i/\i<=6)(hj:1<=j/\j<=6)(hci:w.cell? ⟨h1,0,none⟩=some (.int .i64 i))(hcj:w.cell? ⟨h2,0,none⟩=some (.int .i64 j)) :
 Calls Tryd.prog 178 #[.pointer (some ⟨g,0,none⟩),.pointer (some ⟨h1,0,none⟩),.pointer (some ⟨h2,0,none⟩)] w fun e w'=>e = .returned (.pointer (some ⟨g,kI i j,none⟩))/\Below w.heap.size w w':=by
 obtain⟨k,hk⟩:=Int.eq_ofNat_of_zero_le (show 0<=i-1 by omega);obtain rfl:i=(k:Int)+1:=by omega
 obtain⟨l,hl⟩:=Int.eq_ofNat_of_zero_le (show 0<=j-1 by omega);obtain rfl:j=(l:Int)+1:=by omega
 have hk6:(k:Int)<6:=by omega
 have hl6:(l:Int)<6:=by omega
 have HE:Hid (kI ((k:Int)+1) ((l:Int)+1)=18+k*6+l):=by unfold Hid kI; omega
 clear hk hl
 go_enter Tryd.func178,Tryd.ntmps178
 go_wp2_with fail
 go_quiet (fail)
 go_wp2
 go_ret
 rw[HE.out];exact⟨rfl,bN (Below.refl _ _) _⟩
theorem Kn(args:Array Value)(w:World):(callFunc 177 args).run Tryd.prog w = .ok (.enter 177 args) w:=jQ Tryd.func177 rfl rfl args w
theorem Ko(args:Array Value)(w:World):(callFunc 178 args).run Tryd.prog w = .ok (.enter 178 args) w:=jQ Tryd.func178 rfl rfl args w
section
def LM(x:Nat->Int)(g:Nat)(i j n:Int)(w':World):Prop:=w'.heap[g]? = some (.cells (aS .i64 54 x) 82 (0,0))/\w'.cell? ⟨g+1,0,none⟩=some (.int .i64 i)/\w'.cell? ⟨g+1+1,0,none⟩=some (.int .i64 j)/\w'.cell? ⟨g+1+1+1,0,none⟩=some (.int .i64 n)
theorem LM.up{x:Nat->Int}{g:Nat}{i j n:Int}{w w':World}(h:LM x g i j n w)(e:Below w.heap.size w w'):LM x g i j n w':=by
 obtain⟨a,b,c,d⟩:=h;exact⟨(e.block _ (Array.getElem?_eq_some_iff.1 a).1).trans a,(e.cell (p:=⟨g+1,0,none⟩) (block_lt_of_cell b)).trans b,(e.cell (p:=⟨g+1+1,0,none⟩) (block_lt_of_cell c)).trans c,(e.cell (p:=⟨g+1+1+1,0,none⟩) (block_lt_of_cell d)).trans d⟩
instance {x:Nat->Int} {g:Nat} {i j n:Int} {w w':World}:Rt.Tr w w' (LM x g i j n w) (LM x g i j n w'):=⟨fun b h=>h.up b⟩
theorem LM.row{x:Nat->Int}{g:Nat}{i j n:Int}{w:World}(h:LM x g i j n w)(cs:Array Value):LM x g i j n (w.setRow (g+1+1+1+1) cs):=by
 obtain⟨a,b,c,d⟩:=h;exact⟨(setRow_other _ _ _ _ (by omega)).trans a,(World.cell?_of_block (setRow_other _ _ _ _ (by show g+1≠_; omega))).trans b,(World.cell?_of_block (setRow_other _ _ _ _ (by show g+1+1≠_; omega))).trans c,(World.cell?_of_block (setRow_other _ _ _ _ (by show g+1+1+1≠_; omega))).trans d⟩
attribute [local irreducible] Oper.wp wpList Code.wp
set_option maxRecDepth 100000 in
set_option maxHeartbeats 2000000 in
theorem Tt(x:Nat->Int)(i j n:Int)(w:World)(hi : -9223372036854775808<=i/\i<=9223372036854775807)(hj0 : -9223372036854775808<=j/\j<=9223372036854775807) :
 Calls Tryd.prog 164 #[.agg (aS .i64 54 x),.int .i64 i,.int .i64 j,.int .i64 n] w (Ob (cB x i j n) w):=by
 have HM:Hid (cB x i j n=bQ x n (gD i&&gD j) (nH x i j n) (kI i j)):=rfl;have hri:=nG i;have hrj:=nG j;have Km:Hid (∀ w',Calls Tryd.prog 47 #[.int .i64 i] w' fun e w''=>e = .returned (.bool (gD i))/\w''=w'):=fun w'=>rA i w' hi;have aeT:Hid (∀ w',Calls Tryd.prog 47 #[.int .i64 j] w' fun e w''=>e = .returned (.bool (gD j))/\w''=w'):=fun w'=>rA j w' hj0;generalize gD i=bi at *;generalize gD j=bj at *;have Hri:Hid _:=hri;have Hrj:Hid _:=hrj;clear hri hrj;have hmf : ∀(fn:Fn) (first cap:Array Value) (w:World),(Instr.makeFunc fn first cap).run Tryd.prog w = .ok (.func fn first cap) w:=fun _ _ _ _=>rfl
 cases bi
 all_goals
  go_enter Tryd.func164,Tryd.ntmps164
  go_upto_region 1 with (fail)
  rename_i K0 Jv;rw[<- oO];have ha:=Zz w (.cells (aS .i64 54 x) 82) (.cells #[.int .i64 i] 3) (.cells #[.int .i64 j] 3) (.cells #[.int .i64 n] 2) (.cells (aS .i64 54 zero) 82);generalize ((((w.alloc (.cells (aS .i64 54 x) 82)).alloc (.cells #[.int .i64 i] 3)).alloc (.cells #[.int .i64 j] 3)).alloc (.cells #[.int .i64 n] 2)).alloc (.cells (aS .i64 54 zero) 82)=W at *;obtain⟨hx,hI,hJ,hN,hz,hs,hB⟩:=ha;have hS0:LM x w.heap.size i j n W.drew:=⟨hx,qQ (w:=W) hI,qQ (w:=W) hJ,qQ (w:=W) hN⟩;have Hz:Hid _:=hz;have Hs:Hid _:=hs;clear hx hz hI hJ hN hs;refine wp_region_noPanic<|wp_region_held_drew (S:=LM x w.heap.size i j n) (by kernel_rfl) hS0 fun hS => ?_;refine wpAnyH_take (i:=0) (v := .agg (aS .i64 54 x)) rfl (by kernel_rfl) (by kernel_rfl) (by kernel_rfl) (fun _ _ _ h=>h) (.inl ⟨by rfl,fun w' hw => ?_⟩) hS ?_
  ·exact iZ 82 (.tmp 4) (by rfl) w.heap.size (by rfl) 82 (aS .i64 54 x) (0,0) _ hw.1 Tryd.underlying82 (by rfl) (by rw[bA]; exact iH)
  refine wpAnyH_take (i:=1) (v := .int .i64 n) rfl (by kernel_rfl) (by kernel_rfl) (by kernel_rfl) (fun _ _ _ h=>h) (.inl ⟨by rfl,fun w' hw => ?_⟩) hS ?_
  ·have h2:=hw.2.2.2;clear hw
   go_simp
  refine wpAnyH_take (i:=2) (v := .int .i64 i) rfl (by kernel_rfl) (by kernel_rfl) (by kernel_rfl) (fun _ _ _ h=>h) (.inl ⟨by rfl,fun w' hw => ?_⟩) hS ?_
  ·have h2:=hw.2.1;clear hw
   go_simp
  refine wpAnyH_take (i:=8) (v := .func (.func 177) #[] #[.pointer (some ⟨w.heap.size+1,0,none⟩),.pointer (some ⟨w.heap.size+1+1,0,none⟩),.pointer (some ⟨w.heap.size+1+1+1,0,none⟩),.pointer (some ⟨w.heap.size,0,none⟩)]) rfl (by kernel_rfl) (by kernel_rfl) (by kernel_rfl) (fun _ _ _ h=>h) (.inl ⟨by rfl,fun w' hw => ?_⟩) hS ?_
  ·clear hw
   go_simp
  refine wpAnyH_take (i:=9) (v := .func (.func 178) #[] #[.pointer (some ⟨w.heap.size+1,0,none⟩),.pointer (some ⟨w.heap.size+1+1,0,none⟩)]) rfl (by kernel_rfl) (by kernel_rfl) (by kernel_rfl) (fun _ _ _ h=>h) (.inl ⟨by rfl,fun w' hw => ?_⟩) hS ?_
  ·clear hw
   go_simp
  refine wpAnyH_all (rs := [3]) (by kernel_rfl) (by decide) ?_;intro j hj;obtain rfl:j=3:=by simpa using hj
  refine wpOp_step rfl<|fun K hK => ?_;clear hj
  go_simp
  refine(Km.out _).mono ?_;rintro e w' ⟨rfl,rfl⟩;refine hK _ _ ⟨hS,?_⟩;clear hK K
 ·have hoff:false=true->kI i j<54:=nofun;have hcell:false=true->may x=true->0<=x (kI i j)/\x (kI i j)<=1125899906842624:=nofun;have hbd:false=true->(1<=i/\i<=6)/\(1<=j/\j<=6):=nofun;refine wpAnyH_take (i:=4) (v := .bool false) rfl (by kernel_rfl) (by kernel_rfl) (by kernel_rfl) (fun _ _ _ h=>h) (.inl ⟨by rfl,fun w' hw => ?_⟩) hS ?_
  ·clear hw
   go_simp
  refine wpAnyH_take (i:=5) (v:=undef) rfl (by kernel_rfl) (by kernel_rfl) (by kernel_rfl) (fun _ _ _ h=>h) (.inr ⟨by rfl,rfl⟩) hS ?_;refine wpAnyH_take (i:=6) (v:=undef) rfl (by kernel_rfl) (by kernel_rfl) (by kernel_rfl) (fun _ _ _ h=>h) (.inr ⟨by rfl,rfl⟩) hS ?_;refine wpAnyH_take (i:=7) (v := .bool false) rfl (by kernel_rfl) (by kernel_rfl) (by kernel_rfl) (fun _ _ _ h=>h) (.inl ⟨by rfl,fun w' hw => ?_⟩) hS ?_
  ·clear hw
   go_simp
  have HM:Hid (cB x i j n=bQ x n false (nH x i j n) (kI i j)):=HM;refine wpAnyH_all (rs := [10]) (by kernel_rfl) (by decide) ?_;intro j hj;obtain rfl:j=10:=by simpa using hj
  refine wpOp_step rfl<|fun K hK => ?_;clear hj
  go_simp
  have hlz:w.heap.size+1+1+1+1<W.drew.heap.size:=by show _<W.heap.size; have:=Hs.out; omega
  refine(vN x n false 177 178 _ _ (nH x i j n) (kI i j) W.drew ?o1 ?o2 Kn Ko ?o3 ?o4).mono ?_
  case o1=>exact hoff
  case o2=>exact hcell
  case o3=>exact fun hm h1 h2 h3 w' hb=>have hq:=LM.up hS hb; GJ x i j n _ _ _ _ w' ⟨h1,h2⟩ hi hj0 hq.1 hq.2.2.2 hq.2.1 hq.2.2.1
  case o4=>exact fun h w' g hb=>have hq:=LM.up hS hb; GK g _ _ i j w' (hbd h).1 (hbd h).2 hq.2.1 hq.2.2.1
  rintro e w2 ⟨rfl,hb2⟩;generalize bQ x n false (nH x i j n) (kI i j)=r at *;have hz2:Hid (w2.heap[w.heap.size+1+1+1+1]? = some (.cells (aS .i64 54 zero) 82 (0,0))):=(hb2.block _ hlz).trans Hz.out;have hB2:Below w.heap.size w w2:=hB.trans ((bdr hb2).mono hB.size);have hS:=LM.up hS hb2;refine hK _ _ ⟨hS,?_⟩;clear hK K;clear hb2;refine wpAnyH_take (i:=11) (v := .agg (aS .i64 54 r.1)) rfl (by kernel_rfl) (by kernel_rfl) (by kernel_rfl) (fun _ _ _ h=>h) (.inl ⟨by rfl,fun w' hw => ?_⟩) hS ?_
  ·clear hw
   go_simp
  refine wpAnyH_take (i:=12) (v := .int .i64 r.2) rfl (by kernel_rfl) (by kernel_rfl) (by kernel_rfl) (fun _ _ _ h=>h) (.inl ⟨by rfl,fun w' hw => ?_⟩) hS ?_
  ·clear hw
   go_simp
  refine wpAnyH_all (rs := [13]) (by kernel_rfl) (by decide) ?_;intro j' hj';obtain rfl:j'=13:=by simpa using hj'
  clear hj';refine vk (by rfl) (by rfl)<|fun K hK => ?_;refine wp_store_row 82 (.tmp 8) (.tmp 21) (by rfl) (w.heap.size+1+1+1+1) (aS .i64 54 r.1) (by rfl) (by rfl) 82 (aS .i64 54 zero) hz2.out (by rw[bA]; exact iH) (by rw[bA,bA]) (ku _ _ _) ?_;have hend:=iD hB2 (by omega) hz2.out r.1;have hS:=hS.row (aS .i64 54 r.1);refine hK _ _ ⟨hS,?_⟩;clear hK K hz2 hB2;generalize w2.setRow (w.heap.size+1+1+1+1) (aS .i64 54 r.1)=w3 at *;refine wpAnyH_take (i:=14) (v := .int .i64 r.2) rfl (by kernel_rfl) (by kernel_rfl) (by kernel_rfl) (fun _ _ _ h=>h) (.inl ⟨by rfl,fun w' hw => ?_⟩) hS ?_
  ·clear hw
   go_simp
  refine wpAnyH_done (by kernel_rfl) ?_ _;refine Jv _ _<|wp_ret ?_;rw[HM.out];exact tC (p:=8) (q:=9) (by kernel_rfl) (by kernel_rfl) (by kernel_rfl) (by kernel_rfl) hend.1 hend.2
 have hi6:=Hri.out.1 rfl;have hbd:bj=true->(1<=i/\i<=6)/\(1<=j/\j<=6):=fun h=>⟨hi6,Hrj.out.1 h⟩;have hoff:bj=true->kI i j<54:=fun h=>by have:=hbd h; unfold kI; omega
 have hcell:bj=true->may x=true->0<=x (kI i j)/\x (kI i j)<=1125899906842624:=fun h hm=>by
  have:=hbd h;exact(vL hm (i.toNat-1) (by omega)).r (j.toNat-1) (by omega)
 refine wpAnyH_take (i:=4) (v := .bool true) rfl (by kernel_rfl) (by kernel_rfl) (by kernel_rfl) (fun _ _ _ h=>h) (.inl ⟨by rfl,fun w' hw => ?_⟩) hS ?_
 ·clear hw
  go_simp
 refine wpAnyH_take (i:=5) (v := .int .i64 j) rfl (by kernel_rfl) (by kernel_rfl) (by kernel_rfl) (fun _ _ _ h=>h) (.inl ⟨by rfl,fun w' hw => ?_⟩) hS ?_
 ·have h2:=hw.2.2.1;clear hw
  go_simp
 refine wpAnyH_all (rs := [6]) (by kernel_rfl) (by decide) ?_;intro j hj;obtain rfl:j=6:=by simpa using hj
 refine wpOp_step rfl<|fun K hK => ?_;clear hj
 go_simp
 refine(aeT.out _).mono ?_;rintro e w' ⟨rfl,rfl⟩;refine hK _ _ ⟨hS,?_⟩;clear hK K;refine wpAnyH_take (i:=7) (v := .bool bj) rfl (by kernel_rfl) (by kernel_rfl) (by kernel_rfl) (fun _ _ _ h=>h) (.inl ⟨by rfl,fun w' hw => ?_⟩) hS ?_
 ·clear hw
  go_simp
 have HM:Hid (cB x i j n=bQ x n bj (nH x i j n) (kI i j)):=HM;refine wpAnyH_all (rs := [10]) (by kernel_rfl) (by decide) ?_;intro j hj;obtain rfl:j=10:=by simpa using hj
 refine wpOp_step rfl<|fun K hK => ?_;clear hj
 go_simp
 have hlz:w.heap.size+1+1+1+1<W.drew.heap.size:=by show _<W.heap.size; have:=Hs.out; omega
 refine(vN x n bj 177 178 _ _ (nH x i j n) (kI i j) W.drew ?o1 ?o2 Kn Ko ?o3 ?o4).mono ?_
 case o1=>exact hoff
 case o2=>exact hcell
 case o3=>exact fun hm h1 h2 h3 w' hb=>have hq:=LM.up hS hb; GJ x i j n _ _ _ _ w' ⟨h1,h2⟩ hi hj0 hq.1 hq.2.2.2 hq.2.1 hq.2.2.1
 case o4=>exact fun h w' g hb=>have hq:=LM.up hS hb; GK g _ _ i j w' (hbd h).1 (hbd h).2 hq.2.1 hq.2.2.1
 rintro e w2 ⟨rfl,hb2⟩;generalize bQ x n bj (nH x i j n) (kI i j)=r at *;have hz2:Hid (w2.heap[w.heap.size+1+1+1+1]? = some (.cells (aS .i64 54 zero) 82 (0,0))):=(hb2.block _ hlz).trans Hz.out;have hB2:Below w.heap.size w w2:=hB.trans ((bdr hb2).mono hB.size);have hS:=LM.up hS hb2;refine hK _ _ ⟨hS,?_⟩;clear hK K;clear hb2;refine wpAnyH_take (i:=11) (v := .agg (aS .i64 54 r.1)) rfl (by kernel_rfl) (by kernel_rfl) (by kernel_rfl) (fun _ _ _ h=>h) (.inl ⟨by rfl,fun w' hw => ?_⟩) hS ?_
 ·clear hw
  go_simp
 refine wpAnyH_take (i:=12) (v := .int .i64 r.2) rfl (by kernel_rfl) (by kernel_rfl) (by kernel_rfl) (fun _ _ _ h=>h) (.inl ⟨by rfl,fun w' hw => ?_⟩) hS ?_
 ·clear hw
  go_simp
 refine wpAnyH_all (rs := [13]) (by kernel_rfl) (by decide) ?_;intro j' hj';obtain rfl:j'=13:=by simpa using hj'
 clear hj';refine vk (by rfl) (by rfl)<|fun K hK => ?_;refine wp_store_row 82 (.tmp 8) (.tmp 21) (by rfl) (w.heap.size+1+1+1+1) (aS .i64 54 r.1) (by rfl) (by rfl) 82 (aS .i64 54 zero) hz2.out (by rw[bA]; exact iH) (by rw[bA,bA]) (ku _ _ _) ?_;have hend:=iD hB2 (by omega) hz2.out r.1;have hS:=hS.row (aS .i64 54 r.1);refine hK _ _ ⟨hS,?_⟩;clear hK K hz2 hB2;generalize w2.setRow (w.heap.size+1+1+1+1) (aS .i64 54 r.1)=w3 at *;refine wpAnyH_take (i:=14) (v := .int .i64 r.2) rfl (by kernel_rfl) (by kernel_rfl) (by kernel_rfl) (fun _ _ _ h=>h) (.inl ⟨by rfl,fun w' hw => ?_⟩) hS ?_
 ·clear hw
  go_simp
 refine wpAnyH_done (by kernel_rfl) ?_ _;refine Jv _ _<|wp_ret ?_;rw[HM.out];exact tC (p:=8) (q:=9) (by kernel_rfl) (by kernel_rfl) (by kernel_rfl) (by kernel_rfl) hend.1 hend.2
end
namespace Rt
def L(x:Nat->Int)(k:Nat):Int:=G x k+F x k+R x 0 k+R x 1 k+R x 2 k+R x 3 k+R x 4 k+R x 5 k-C x k-R x k 0-R x k 1-R x k 2-R x k 3-R x k 4-R x k 5
def PX(x:Nat->Int):Prop := ∀ p,p<54->0<=x p/\x p<=1125899906842624
def All(x:Nat->Int):Prop := ∀ k,k<6->0<=L x k/\F x k<=C x k/\R x k k=0
def su(x:Nat->Int):Int:=G x 0+G x 1+G x 2+G x 3+G x 4+G x 5
theorem DW{l:List Int}(h:lW l=true):mK l=(l.sum,true):=by unfold mK; rw[d_ h]
theorem PX.outs{x:Nat->Int}(h:PX x)(k:Nat)(b:k<6):lW (outs x k 6)=true:=by
 have e:=fun j (hj:j<6)=>h (18+k*6+j) (by omega);have c:=h (6+k) (by omega);unfold lW;rw[List.all_eq_true];intro n a;have:n=x (6+k)\/n=x (18+k*6+0)\/n=x (18+k*6+1)\/n=x (18+k*6+2)\/n=x (18+k*6+3)\/n=x (18+k*6+4)\/n=x (18+k*6+5):=by
  simpa [Rt.outs,C,R,or_assoc] using a
 unfold zI;rw[R_,decide_eq_true_eq,decide_eq_true_eq]
 rcases this with h|h|h|h|h|h|h <;> subst h
 ·exact c
 all_goals exact e _ (by omega)
theorem PX.ins{x:Nat->Int}(h:PX x)(k:Nat)(b:k<6):lW (ins x k 6)=true:=by
 have e:=fun j (hj:j<6)=>h (18+j*6+k) (by omega);have c:=h k (by omega);have f:=h (12+k) (by omega);unfold lW;rw[List.all_eq_true];intro n a;have:n=x k\/n=x (12+k)\/n=x (18+0*6+k)\/n=x (18+1*6+k)\/n=x (18+2*6+k)\/n=x (18+3*6+k)\/n=x (18+4*6+k)\/n=x (18+5*6+k):=by
  simpa [Rt.ins,G,F,R,or_assoc] using a
 unfold zI;rw[R_,decide_eq_true_eq,decide_eq_true_eq]
 rcases this with h|h|h|h|h|h|h|h <;> subst h
 ·exact c
 ·exact f
 all_goals exact e _ (by omega)
theorem Tv(x:Nat->Int)(k:Nat):(Rt.outs x k 6).sum=C x k+R x k 0+R x k 1+R x k 2+R x k 3+R x k 4+R x k 5:=by simp[Rt.outs]; omega
theorem Xc(x:Nat->Int)(k:Nat):(Rt.ins x k 6).sum=G x k+F x k+R x 0 k+R x 1 k+R x 2 k+R x 3 k+R x 4 k+R x 5 k:=by simp[Rt.ins]; omega
theorem uH{x:Nat->Int}(h:PX x)(k:Nat)(a:k<6):localM x k=(L x k,true):=by
 unfold localM;rw[DW (h.outs k a),DW (h.ins k a),Tv,Xc];unfold L;refine Prod.ext ?_ rfl
 dsimp only
 omega
theorem lu{x:Nat->Int}(h:may x=true):PX x:=by
 intro p e;by_cases a:p<6
 ·exact(vL h p a).g
 by_cases b:p<12
 ·have:=(vL h (p-6) (by omega)).c;unfold C at this; rwa [show 6+(p-6)=p by omega]at this
 by_cases d:p<18
 ·have:=(vL h (p-12) (by omega)).f;unfold F at this; rwa [show 12+(p-12)=p by omega]at this
 have:=(vL h ((p-18) / 6) (by omega)).r ((p-18) % 6) (by omega);unfold R at this; rwa [show 18+(p-18) / 6*6+(p-18) % 6=p by omega]at this
theorem Zc{x:Nat->Int}(h:PX x):lW (gs x)=true:=by
 unfold lW;rw[List.all_eq_true];intro n a;have:n=x 0\/n=x 1\/n=x 2\/n=x 3\/n=x 4\/n=x 5:=by simpa [gs,or_assoc] using a
 unfold zI;rw[R_,decide_eq_true_eq,decide_eq_true_eq]
 rcases this with e|e|e|e|e|e <;> subst e <;> exact h _ (by omega)
theorem Tx(x:Nat->Int):(gs x).sum=su x:=by simp[gs,su,G]; omega
theorem jK(x:Nat->Int):may x=true<->PX x/\All x/\su x<=1125899906842624:=by
 constructor
 ·intro h;have e:=lu h;refine⟨e,fun k d => ?_,?_⟩
  ·have o:=vL h k d;have:=o.l;rw[uH e k d]at this;exact⟨this,o.fc,o.rkk⟩
  unfold may at h;rw[R_,R_,DW (Zc e),Tx]at h
  simpa using h.2.2
 rintro ⟨e,g,i⟩;have d : ∀ k,k<6->BG x k=true:=by
  intro k d;obtain⟨a,b,c⟩:=g k d;unfold BG;rw[uH e k d];simp only[R_,decide_eq_true_eq,beq_iff_eq];exact⟨⟨⟨trivial,a⟩,b⟩,c⟩
 have f : ∀ n,n<=6->Dp x n=true:=by
  intro n
  induction n with
  | zero=>intro _; rfl
  | succ n ih=>intro f; rw[show Dp x (n+1)=(Dp x n&&BG x n)from rfl,ih (by omega),d n (by omega)]; rfl
 unfold may;rw[f 6 (by omega),DW (Zc e),Tx,f_ i];rfl
theorem nI{x:Nat->Int}(h:may x=true)(k:Nat)(a:k<6):fF x ((k:Int)+1)=L x k:=by
 unfold fF;rw[h,Bool.and_true,d_ (by unfold gD; simp; omega),show((k:Int)+1).toNat-1=k by omega,uH (lu h) k a]
def nJ(x:Nat->Int):Int:=(C x 0-F x 0)+(C x 1-F x 1)+(C x 2-F x 2)+(C x 3-F x 3)+(C x 4-F x 4)+(C x 5-F x 5)
theorem wG(x:Nat->Int)(i j:Nat)(hi:i<6)(g:j<6)(d:Int)(a b:Nat)(ha:a<6)(f:b<6) :
 R (upd x (18+i*6+j) (x (18+i*6+j)+d)) a b=R x a b+(if a=i then if b=j then d else 0 else 0):=by
 unfold R upd;by_cases c:a=i
 ·by_cases e:b=j
  ·subst c e; simp
  rw[b_ (by omega),d_ c,b_ e]; omega
 rw[b_ (by omega),b_ c]; omega
theorem aaK(x:Nat->Int)(i j:Nat)(hi:i<6)(a:j<6)(d:Int)(k:Nat)(b:k<6) :
 L (upd x (18+i*6+j) (x (18+i*6+j)+d)) k=L x k+(if k=j then d else 0)-(if k=i then d else 0):=by
 have l:G (upd x (18+i*6+j) (x (18+i*6+j)+d)) k=G x k:=fZ _ _ _ _ (by omega);have f:C (upd x (18+i*6+j) (x (18+i*6+j)+d)) k=C x k:=fZ _ _ _ _ (by omega);have g:F (upd x (18+i*6+j) (x (18+i*6+j)+d)) k=F x k:=fZ _ _ _ _ (by omega);unfold L
 rw[l,f,g,wG x i j hi a d 0 k (by omega) b,wG x i j hi a d 1 k (by omega) b,wG x i j hi a d 2 k (by omega) b,wG x i j hi a d 3 k (by omega) b,wG x i j hi a d 4 k (by omega) b,wG x i j hi a d 5 k (by omega) b,
  wG x i j hi a d k 0 b (by omega),wG x i j hi a d k 1 b (by omega),wG x i j hi a d k 2 b (by omega),wG x i j hi a d k 3 b (by omega),wG x i j hi a d k 4 b (by omega),wG x i j hi a d k 5 b (by omega)]
 have c:(if 0=i then if k=j then d else 0 else 0)+(if 1=i then if k=j then d else 0 else 0)+(if 2=i then if k=j then d else 0 else 0)+(if 3=i then if k=j then d else 0 else 0)+(if 4=i then if k=j then d else 0 else 0)+(if 5=i then if k=j then d else 0 else 0)=(if k=j then d else 0):=by
  have:i=0\/i=1\/i=2\/i=3\/i=4\/i=5:=by omega
  rcases this with h|h|h|h|h|h <;> subst h <;> simp
 have e:(if k=i then if 0=j then d else 0 else 0)+(if k=i then if 1=j then d else 0 else 0)+(if k=i then if 2=j then d else 0 else 0)+(if k=i then if 3=j then d else 0 else 0)+(if k=i then if 4=j then d else 0 else 0)+(if k=i then if 5=j then d else 0 else 0)=(if k=i then d else 0):=by
  have:j=0\/j=1\/j=2\/j=3\/j=4\/j=5:=by omega
  rcases this with h|h|h|h|h|h <;> subst h <;> simp
 generalize (if 0=i then if k=j then d else 0 else 0)=a0 at *;generalize (if 1=i then if k=j then d else 0 else 0)=a1 at *;generalize (if 2=i then if k=j then d else 0 else 0)=a2 at *;generalize (if 3=i then if k=j then d else 0 else 0)=a3 at *;generalize (if 4=i then if k=j then d else 0 else 0)=a4 at *;generalize (if 5=i then if k=j then d else 0 else 0)=a5 at *;generalize (if k=i then if 0=j then d else 0 else 0)=b0 at *;generalize (if k=i then if 1=j then d else 0 else 0)=b1 at *;generalize (if k=i then if 2=j then d else 0 else 0)=b2 at *;generalize (if k=i then if 3=j then d else 0 else 0)=b3 at *;generalize (if k=i then if 4=j then d else 0 else 0)=b4 at *;generalize (if k=i then if 5=j then d else 0 else 0)=b5 at *;rw[<- c,<- e];omega
end Rt
structure IU where
 inn:Nat->Bool
 left:Nat->Bool
 known:Nat->Int
 na:Option Addr
 nn:Nat
 nc:Nat
 ga:Option Addr
 gn:Nat
 gc:Nat
def Dq(s:IU):Nat->Value:=fun p=>if p<6 then .bool (s.inn p)else if p<12 then .bool (s.left (p-6))else if p<18 then aC (s.known (p-12))else if p=18 then .slice s.na s.nn s.nc else .slice s.ga s.gn s.gc
theorem EC(s:IU){p:Nat}(h:p<6):Dq s p = .bool (s.inn p):=by unfold Dq; rw[d_ h]
theorem Kq(s:IU){p q:Nat}(h:p<6)(e:q=p+6):Dq s q = .bool (s.left p):=by subst e; unfold Dq; rw[b_ (by omega),d_ (by omega),Nat.add_sub_cancel]
theorem lD(s:IU){p q:Nat}(h:p<6)(e:q=p+12):Dq s q=aC (s.known p):=by subst e; unfold Dq; rw[b_ (by omega),b_ (by omega),d_ (by omega),Nat.add_sub_cancel]
def mO(id par:Int)(R:Nat->Int):Nat->Value:=fun p=>if p=0 then aC id else if p=1 then aC par else au (R (p-2))
theorem IV(id par:Int)(R:Nat->Int)(q:Nat):mO id par R (2+q)=rv .i64 R q:=by unfold mO rv; rw[b_ (by omega),b_ (by omega),Nat.add_sub_cancel_left]
def Nds(w:World)(a:Option Addr)(n:Nat)(id par:Nat->Int)(R:Nat->Nat->Int):Prop := ∀ k,k<n -> ∃ b c,a=some ⟨b,c,none⟩/\iQ w b (c+56*k) 56 (mO (id k) (par k) (R k))
theorem Nds.below{w w':World}{a:Option Addr}{n:Nat}{id par:Nat->Int}{R:Nat->Nat->Int}(h:Nds w a n id par R)(d:Below w.heap.size w w'):Nds w' a n id par R:=fun k f=>by
 obtain⟨b,g,e,c⟩:=h k f;exact⟨b,g,e,c.below d (c.lt (by omega))⟩
section
structure lH where
 s:IU
 id:Nat->Int
 par:Nat->Int
 R:Nat->Nat->Int
 g:Nat->Nat->Int
 tb:Nat
 ta:Option Addr
 tn:Nat
 tc:Nat
 t:Nat->Nat->Int
 ra:Nat->Option Addr
 rn:Nat->Nat
 rc:Nat->Nat
 rq:Nat->Nat->Int
structure fB where
 inn:Nat->Bool
 left:Nat->Bool
 known:Nat->Int
 nn:Nat
 id:Nat->Int
 par:Nat->Int
 R:Nat->Nat->Int
 gn:Nat
 g:Nat->Nat->Int
 tn:Nat
 t:Nat->Nat->Int
 rn:Nat->Nat
 rq:Nat->Nat->Int
def lH.core(m:lH):fB:=⟨m.s.inn,m.s.left,m.s.known,m.s.nn,m.id,m.par,m.R,m.s.gn,m.g,m.tn,m.t,m.rn,m.rq⟩
def mD(m:lH):Nat->Value:=fun p=>if p<20 then Dq m.s p else if p=20 then(pt m.tb)else .slice (m.ra (p-21)) (m.rn (p-21)) (m.rc (p-21))
theorem kJ(m:lH){p:Nat}{v:Value}(h:p<20)(e:Dq m.s p=v):mD m p=v:=by unfold mD; rw[d_ h]; exact e
theorem vO(m:lH){p q:Nat}(e:q=p+21):mD m q = .slice (m.ra p) (m.rn p) (m.rc p):=by
 subst e; unfold mD; rw[b_ (by omega),b_ (by omega),Nat.add_sub_cancel]
def ng(x:Nat->Int):Nat->Value:=fun p=>if p=0 then au (x 0)else if p=3 then au (x 3)else aC (x p)
def Jw(m:lH):Nat->Value:=flat 56 fun k=>mO (m.id k) (m.par k) (m.R k)
def IW(m:lH):Nat->Value:=flat 5 fun k=>ng (m.g k)
def kK(c:Nat->Nat->Int):Nat->Int:=fun p=>c (p / 2) (p % 2)
def PY(t:Nat->Nat->Int):Nat->Value:=flat 2 fun k=>rv .u64 (t k)
structure Cy(w:World)(p:Nat)(m:lH):Prop where
 c:iQ w p 0 27 (mD m)
 an:nY w m.s.na m.s.nn 56 (Jw m)
 ag:nY w m.s.ga m.s.gn 5 (IW m)
 tc:iQ w m.tb 0 1 (fun _ => .slice m.ta m.tn m.tc)
 at2:nY w m.ta m.tn 2 (PY m.t)
 ar : ∀ i,i<6->nY w (m.ra i) (m.rn i) 1 (rv .u64 (m.rq i))
 bn:m.s.nn<=1000000
 bg:m.s.gn<=1000000
 bt:m.tn<=1000000
 br : ∀ i,i<6->m.rn i<=1000000
section
variable {w w':World} {p:Nat} {m:lH}
theorem Cy.n(h:Cy w p m):Nds w m.s.na m.s.nn m.id m.par m.R:=fun _ a=>h.an.at a
theorem Cy.g(h:Cy w p m) : ∀ k,k<m.s.gn -> ∃ b a,m.s.ga=some ⟨b,a,none⟩/\iQ w b (a+5*k) 5 (ng (m.g k)):=fun _ c=>h.ag.at c
theorem Cy.t(h:Cy w p m) : ∀ k,k<m.tn -> ∃ b a,m.ta=some ⟨b,a,none⟩/\iQ w b (a+2*k) 2 (rv .u64 (m.t k)):=fun _ c=>h.at2.at c
theorem Cy.r(h:Cy w p m) : ∀ i,i<6 -> ∀ k,k<m.rn i -> ∃ b a,m.ra i=some ⟨b,a,none⟩/\iQ w b (a+k) 1 (fun _=>aC (m.rq i k)):=fun i d k g=>by
 obtain⟨b,a,e,c⟩:=h.ar i d (by omega);refine⟨b,a,e,fun j f => ?_⟩;obtain rfl:j=0:=by omega
 exact c k (by omega)
theorem Cy.below(h:Cy w p m)(a:Below w.heap.size w w'):Cy w' p m where
 c:=h.c.below a (h.c.lt (by omega))
 an:=h.an.up a rfl
 ag:=h.ag.up a rfl
 tc:=h.tc.below a (h.tc.lt (by omega))
 at2:=h.at2.up a rfl
 ar:=fun i b=>(h.ar i b).up a rfl
 bn:=h.bn
 bg:=h.bg
 bt:=h.bt
 br:=h.br
end
def gI(P:Nat->Bool):Nat->Int
 | 0 => -1
 | n+1=>if 0<=gI P n then gI P n else if P n then(n:Int)else -1
theorem kL{P:Nat->Bool} : ∀ {n:Nat},(∀ i,i<n->P i=false)->gI P n = -1
 | 0,_=>rfl
 | n+1,h=>by
   have:=kL (P:=P) (n:=n) fun i a=>h i (by omega);simp only[gI]; rw[this,b_ (by omega),h n (by omega)]; rfl
theorem oD{P:Nat->Bool}{k:Nat}(a : ∀ i,i<k->P i=false)(b:P k=true) : ∀ {n:Nat},k<n->gI P n=(k:Int)
 | 0,h=>L_ h (by omega)
 | n+1,h=>by
   simp only[gI];by_cases e:k=n
   ·subst e; rw[kL a,b_ (by omega),b]; rfl
   ·rw[oD a b (n:=n) (by omega),d_ (by omega)]
theorem jC(P:Nat->Bool) : ∀ n:Nat,(∃ k:Nat,k<n/\gI P n=(k:Int)/\P k=true)\/(gI P n = -1 /\ ∀ i,i<n->P i=false)
 | 0 => .inr ⟨rfl,fun i h=>L_ h (by omega)⟩
 | n+1=>by
   rcases jC P n with ⟨k,d,e,a⟩|⟨e,a⟩
   ·exact .inl ⟨k,by omega,by simp only[gI]; rw[e,d_ (by omega)],a⟩
   ·by_cases h:P n=true
    ·exact .inl ⟨n,by omega,by simp only[gI]; rw[e,b_ (by omega),h]; rfl,h⟩
    ·rw[S_]at h;refine .inr ⟨by simp only[gI]; rw[e,b_ (by omega),h]; rfl,fun i c => ?_⟩;by_cases b:i=n
     ·subst b; exact h
     ·exact a i (by omega)
theorem uI{P:Nat->Bool}{k:Nat}(h : ∀ i,i<k->P i=false)(a:P k=false) : ∀ i,i<k+1->P i=false:=fun i b=>by
 by_cases e:i=k
 ·subst e; exact a
 ·exact h i (by omega)
def lH.node(m:lH)(id:Int):Int:=gI (fun i=>decide (m.id i=id)) m.s.nn
def lH.grant(m:lH)(o r:Int):Int:=gI (fun i=>decide (m.g i 0=o)&&decide (m.g i 1=r)) m.s.gn
def lH.kM(m:lH)(a:Nat)(r:Int):Int:=gI (fun i=>decide (m.rq a i=r)) (m.rn a)
structure ED(w:World)(tb:Nat)(ta:Option Addr)(tn tc:Nat)(t:Nat->Nat->Int):Prop where
 tc:iQ w tb 0 1 (fun _ => .slice ta tn tc)
 t : ∀ k,k<tn -> ∃ b off,ta=some ⟨b,off,none⟩/\iQ w b (off+2*k) 2 (rv .u64 (t k))
 bt:tn<=1000000
theorem ED.below{w w':World}{f:Nat}{d:Option Addr}{tn g:Nat}{t:Nat->Nat->Int}(h:ED w f d tn g t)(a:Below w.heap.size w w'):ED w' f d tn g t where
 tc:=h.tc.below a (h.tc.lt (by omega))
 t:=fun k i=>by obtain⟨b,j,e,c⟩:=h.t k i; exact⟨b,j,e,c.below a (c.lt (by omega))⟩
 bt:=h.bt
def bB(t:Nat->Nat->Int)(tn:Nat)(x:Int):Int:=gI (fun i=>decide (t i 0=x)) tn
def aW(t:Nat->Nat->Int)(tn:Nat):Nat->Int->Int
 | 0,x=>x
 | k+1,x=>t (bB t tn (aW t tn k x)).toNat 1
def aaL:Value->Nat
 | .slice _ n _=>n
 | _=>0
end
theorem IX(m:lH)(p:Nat)(x:Int)(w:World)(h:Cy w p m) :
 Calls Tryd.prog 61 #[(pt p),aC x] w fun e w'=>e = .returned (au (m.node x))/\Below w.heap.size w w':=by
 have v:=h.c;have J:p<w.heap.size:=v.lt (by omega);have E:=h.bn;have D:=h.bg;have F:=h.bt;refine Kent Tryd.func61 28 ?_;refine ay<|av (au 0)<|aD<|Ws<|ay<|av (au 0)<|aD<|Wb<|Wo (fun f z => ∃ k:Nat,k<=m.s.nn/\(∀ i,i<k->(fun i=>decide (m.id i=x)) i=false)/\f 0=(pt p)/\f 1=aC x/\f 5=au (k:Int)/\iQ z p 0 27 (mD m)/\Below w.heap.size w z) (fun f _=>(m.s.nn-(intOf (f 5)).toNat)) ⟨0,by omega,(fun i h=>L_ h (by omega)),(by rfl),Fx.ic,Fx.ic,v,(Below.refl w.heap.size w)⟩ ?_;rintro G K ⟨k,I,l,j,t,a,o,d⟩;refine Ws<|ay<|aY a<|aY j<|av (pt p)<|av (pt p)<|av (pf p 18)<|Lv (.slice m.s.na (m.s.nn) (m.s.nc)) (aM o 18)<|av (au m.s.nn) ?_;by_cases r:(k:Int)<(m.s.nn:Int)
 ·refine Lv aG (iL r)<|aD<|aO<|Wk<|sN<|Ws<|Wb<|Ws ?_;obtain⟨b,y,A,u⟩:=h.n k (by omega);have B:b<w.heap.size:=u.lt (by omega);have C:=u.below d B;refine Wl<|aY j<|av (pt p)<|av (pt p)<|av (pf p 18)<|Lv (.slice m.s.na (m.s.nn) (m.s.nc)) (aM o 18)<|aY a<|Lv (pf b (56*k+y)) (dh 56 (hx:=(rfl.trans (K_ (fun q=>Value.slice q (m.s.nn) (m.s.nc)) A))))<|av (pf b (56*k+y))<|Lv (aC (m.id k)) (aM C 0)<|aY t ?_;by_cases g:(m.id k)=x
  ·refine Lv aG (eY g)<|aD<|aO<|ay<|aY a<|av (au k)<|aD<|Wr<|bI<|sR<|qo<|bI<|sR<|aJ (au k) ?_;exact⟨oV (Eq.symm (oD l (f_ g) (by omega))),d⟩
  refine Lv aF (fU g)<|aD<|aL<|Wk<|bT<|sN<|Wl<|aY a<|Lv (au ((k:Int)+1)) fE<|av (au ((k:Int)+1))<|Ln<|iB ⟨k+1,by omega,(uI l (g_ g)),j,(t.trans Fx.ic),Fx.ic,o,d⟩ ?_;show(m.s.nn-(intOf (au ((k:Int)+1))).toNat)<_;simp only[a,intOf]; omega
 refine Lv aF (iM r)<|aD<|aL<|Wx<|cK<|gU<|cO<|sN<|ay<|av (au (-1))<|aD<|Wr<|aJ (au (-1)) ?_;exact⟨oV (Eq.symm (kL (fun i H=>l i (by omega)))),d⟩
theorem MC(a:Nat)(l:Option Addr)(tn d:Nat)(t:Nat->Nat->Int)(x:Int)(w:World)(h:ED w a l tn d t) :
 Calls Tryd.prog 106 #[(pt a),aC x] w fun e w'=>e = .returned (au (bB t tn x))/\Below w.heap.size w w':=by
 have u:=h.tc;have G:a<w.heap.size:=u.lt (by omega);have C:=h.bt;refine Kent Tryd.func106 26 ?_;refine ay<|av (au 0)<|aD<|Ws<|ay<|av (au 0)<|aD<|Wb<|Wo (fun f y => ∃ k:Nat,k<=tn/\(∀ i,i<k->(fun i=>decide (t i 0=x)) i=false)/\f 0=(pt a)/\f 1=aC x/\f 5=au (k:Int)/\iQ y a 0 1 (fun _ => .slice l tn d)/\Below w.heap.size w y) (fun f _=>(tn-(intOf (f 5)).toNat)) ⟨0,by omega,(fun i h=>L_ h (by omega)),(by rfl),Fx.ic,Fx.ic,u,(Below.refl w.heap.size w)⟩ ?_;rintro D H ⟨k,F,n,m,r,c,o,g⟩;refine Ws<|ay<|aY c<|aY m<|av (pt a)<|av (pt a)<|Lv (.slice l (tn) (d)) (aM o 0)<|av (au tn) ?_;by_cases p:(k:Int)<(tn:Int)
 ·refine Lv aG (iL p)<|aD<|aO<|Wk<|sN<|Ws<|Wb<|Ws ?_;obtain⟨b,v,z,s⟩:=h.t k (by omega);have A:b<w.heap.size:=s.lt (by omega);have B:=s.below g A;refine Wl<|aY m<|av (pt a)<|av (pt a)<|Lv (.slice l (tn) (d)) (aM o 0)<|aY c<|Lv (pf b (2*k+v)) (dh 2 (hx:=(rfl.trans (K_ (fun q=>Value.slice q (tn) (d)) z))))<|av (pf b (2*k+v))<|Lv (aC ((t k) 0)) (aM B 0)<|aY r ?_;by_cases j:((t k) 0)=x
  ·refine Lv aG (eY j)<|aD<|aO<|ay<|aY c<|av (au k)<|aD<|Wr<|bI<|sR<|qo<|bI<|sR<|aJ (au k) ?_;exact⟨oV (Eq.symm (oD n (f_ j) (by omega))),g⟩
  refine Lv aF (fU j)<|aD<|aL<|Wk<|bT<|sN<|Wl<|aY c<|Lv (au ((k:Int)+1)) fE<|av (au ((k:Int)+1))<|Ln<|iB ⟨k+1,by omega,(uI n (g_ j)),m,(r.trans Fx.ic),Fx.ic,o,g⟩ ?_;show(tn-(intOf (au ((k:Int)+1))).toNat)<_;simp only[c,intOf]; omega
 refine Lv aF (iM p)<|aD<|aL<|Wx<|cK<|gU<|cO<|sN<|ay<|av (au (-1))<|aD<|Wr<|aJ (au (-1)) ?_;exact⟨oV (Eq.symm (kL (fun i E=>n i (by omega)))),g⟩
theorem Xd{a b:Prop} [Decidable a] [Decidable b](h : ¬ a):(decide a&&decide b)=false:=by rw[g_ h]; rfl
theorem Xe{a b:Prop} [Decidable a] [Decidable b](h : ¬ b):(decide a&&decide b)=false:=by rw[g_ h,H_]
theorem Xf{a b:Prop} [Decidable a] [Decidable b](h:a)(c:b):(decide a&&decide b)=true:=by rw[f_ h,f_ c]; rfl
theorem Xg(m:lH)(p:Nat)(x r:Int)(w:World)(h:Cy w p m) :
 Calls Tryd.prog 89 #[(pt p),au x,aC r] w fun e w'=>e = .returned (au (m.grant x r))/\Below w.heap.size w w':=by
 have C:=h.c;have M:p<w.heap.size:=C.lt (by omega);have H:=h.bn;have G:=h.bg;have I:=h.bt;refine Kent Tryd.func89 43 ?_;refine ay<|av (au 0)<|aD<|Ws<|ay<|av (au 0)<|aD<|Wb<|Wo (fun f E => ∃ k:Nat,k<=m.s.gn/\(∀ i,i<k->(fun i=>decide (m.g i 0=x)&&decide (m.g i 1=r)) i=false)/\f 0=(pt p)/\f 1=au x/\f 2=aC r/\f 7=au (k:Int)/\iQ E p 0 27 (mD m)/\Below w.heap.size w E) (fun f _=>(m.s.gn-(intOf (f 7)).toNat)) ⟨0,by omega,(fun i h=>L_ h (by omega)),(by rfl),Fx.ic,Fx.ic,Fx.ic,C,(Below.refl w.heap.size w)⟩ ?_;rintro J N ⟨k,L,t,j,v,y,a,l,d⟩;refine Ws<|ay<|aY a<|aY j<|av (pt p)<|av (pt p)<|av (pf p 19)<|Lv (.slice m.s.ga (m.s.gn) (m.s.gc)) (aM l 19)<|av (au m.s.gn) ?_;by_cases z:(k:Int)<(m.s.gn:Int)
 ·refine Lv aG (iL z)<|aD<|aO<|Wk<|sN<|Ws<|Wb<|Ws ?_;obtain⟨b,u,A,B⟩:=h.g k (by omega);have F:b<w.heap.size:=B.lt (by omega);have D:=B.below d F;refine Wl<|aY j<|av (pt p)<|av (pt p)<|av (pf p 19)<|Lv (.slice m.s.ga (m.s.gn) (m.s.gc)) (aM l 19)<|aY a<|Lv (pf b (5*k+u)) (dh 5 (hx:=(rfl.trans (K_ (fun q=>Value.slice q (m.s.gn) (m.s.gc)) A))))<|av (pf b (5*k+u))<|Lv (au (m.g k 0)) (aM D 0)<|aY v ?_;by_cases n:(m.g k 0)=x
  ·refine Lv aG (eY n)<|av aG<|aY j<|av (pt p)<|av (pt p)<|av (pf p 19)<|Lv (.slice m.s.ga (m.s.gn) (m.s.gc)) (aM l 19)<|aY a<|Lv (pf b (5*k+u)) (dh 5 (hx:=(rfl.trans (K_ (fun q=>Value.slice q (m.s.gn) (m.s.gc)) A))))<|av (pf b (5*k+u+1))<|Lv (aC (m.g k 1)) (aM D 1)<|aY y ?_;by_cases o:(m.g k 1)=r
   ·refine Lv aG (eY o)<|av aG<|aD<|aO<|ay<|aY a<|av (au k)<|aD<|Wr<|bI<|sR<|qo<|bI<|sR<|aJ (au k) ?_;exact⟨oV (Eq.symm (oD t (Xf n o) (by omega))),d⟩
   refine Lv aF (fU o)<|av aF<|aD<|aL<|Wk<|bT<|sN<|Wl<|aY a<|Lv (au ((k:Int)+1)) fE<|av (au ((k:Int)+1))<|Ln<|iB ⟨k+1,by omega,(uI t (Xe o)),j,(v.trans Fx.ic),(y.trans Fx.ic),Fx.ic,l,d⟩ ?_;show(m.s.gn-(intOf (au ((k:Int)+1))).toNat)<_;simp only[a,intOf]; omega
  refine Lv aF (fU n)<|av aF<|dB<|dB<|dB<|dB<|dB<|dB<|dB<|dB<|dB<|dB<|dB<|av aF<|aD<|aL<|Wk<|bT<|sN<|Wl<|aY a<|Lv (au ((k:Int)+1)) fE<|av (au ((k:Int)+1))<|Ln<|iB ⟨k+1,by omega,(uI t (Xd n)),j,(v.trans Fx.ic),(y.trans Fx.ic),Fx.ic,l,d⟩ ?_;show(m.s.gn-(intOf (au ((k:Int)+1))).toNat)<_;simp only[a,intOf]; omega
 refine Lv aF (iM z)<|aD<|aL<|Wx<|cK<|gU<|cO<|sN<|ay<|av (au (-1))<|aD<|Wr<|aJ (au (-1)) ?_;exact⟨oV (Eq.symm (kL (fun i K=>t i (by omega)))),d⟩
theorem aaM{n:Int}{k:Nat}(h:n=(k:Int)):decide (0<=n)=true:=f_ (by omega)
theorem aaN{n:Int}(h:n = -1):decide (0<=n)=false:=g_ (by omega)
theorem Xh(m:lH)(p a:Nat)(r:Int)(w:World)(h:Cy w p m)(ha:a<6) :
 Calls Tryd.prog 86 #[(pt p),au ((a:Int)+1),aC r] w fun e w'=>e = .returned (.bool (decide (0<=m.kM a r)))/\Below w.heap.size w w':=by
 have x:=h.c;have K:p<w.heap.size:=x.lt (by omega);have E:=h.bn;have D:=h.bg;have G:=h.bt;have F:=h.br a ha;refine Kent Tryd.func86 32 ?_;refine ay<|av aF<|aD<|Ws<|ay<|av (au 0)<|aD<|Wb<|Wo (fun f y => ∃ k:Nat,k<=m.rn a/\(∀ i,i<k->(fun i=>decide (m.rq a i=r)) i=false)/\f 0=(pt p)/\f 1=au ((a:Int)+1)/\f 2=aC r/\f 7=au (k:Int)/\iQ y p 0 27 (mD m)/\Below w.heap.size w y) (fun f _=>(m.rn a-(intOf (f 7)).toNat)) ⟨0,by omega,(fun i h=>L_ h (by omega)),(by rfl),Fx.ic,Fx.ic,Fx.ic,x,(Below.refl w.heap.size w)⟩ ?_;rintro H L ⟨k,J,o,l,n,u,j,s,d⟩;refine Ws<|ay<|aY j<|aY l<|aY n<|Lv (au a) fQ<|av (pt p)<|av (pf p 21)<|Lv (pf p (a+21)) (jm 6 1)<|Lv (.slice (m.ra a) (m.rn a) (m.rc a)) (aM s (a+21) (vO _ (by omega)))<|av (au (((m.rn a):Nat):Int)) ?_;by_cases t:(k:Int)<(((m.rn a):Nat):Int)
 ·refine Lv aG (iL t)<|aD<|aO<|Wk<|sN<|Ws<|Wb<|Ws ?_;obtain⟨b,C,z,v⟩:=h.r a ha k (by omega);have A:b<w.heap.size:=v.lt (by omega);have B:=v.below d A;refine Wl<|aY l<|aY n<|Lv (au a) fQ<|av (pt p)<|av (pf p 21)<|Lv (pf p (a+21)) (jm 6 1)<|Lv (.slice (m.ra a) (m.rn a) (m.rc a)) (aM s (a+21) (vO _ (by omega)))<|aY j<|Lv (pf b (k+C)) (dh 1 (hx:=(rfl.trans (K_ (fun q=>Value.slice q (m.rn a) (m.rc a)) z))))<|Lv (aC (m.rq a k)) (aM B 0)<|aY u ?_;by_cases g:(m.rq a k)=r
  ·refine Lv aG (eY g)<|aD<|aO<|ay<|av aG<|aD<|Wr<|bI<|sR<|qo<|bI<|sR<|aJ aG ?_;exact⟨gY (Eq.symm (aaM (oD o (f_ g) (by omega)))),d⟩
  refine Lv aF (fU g)<|aD<|aL<|Wk<|bT<|sN<|Wl<|aY j<|Lv (au ((k:Int)+1)) fE<|av (au ((k:Int)+1))<|Ln<|iB ⟨k+1,by omega,(uI o (g_ g)),l,(n.trans Fx.ic),(u.trans Fx.ic),Fx.ic,s,d⟩ ?_;show(m.rn a-(intOf (au ((k:Int)+1))).toNat)<_;simp only[j,intOf]; omega
 refine Lv aF (iM t)<|aD<|aL<|Wx<|cK<|gU<|cO<|sN<|ay<|av aF<|aD<|Wr<|aJ aF ?_;exact⟨gY (Eq.symm (aaN (kL (fun i I=>o i (by omega))))),d⟩
namespace Rt
theorem PZ{k:Nat}{X:Nat->Int}{z:Int}(a:X k=z) : ∀ j,j<(k+1)*1->iK (rv .u64 X) (k*1) (bR (fun j=>rv .u64 (fun _=>0) (j % 1)) (0*1) 1 (fun _=>aC z)) j=rv .u64 X j:=by
 intro j b;unfold iK;by_cases h:j<k*1
 ·rw[d_ h]
 rw[b_ h];have e:j=k:=by omega
 subst e;unfold bR rv;rw[d_ (by omega),a]
theorem Oc{t:Nat->Nat->Int}{tn k D:Nat}{x:Int}(a:k<=D)(b:bB t tn (aW t tn D x)<0)(h:0<=bB t tn (aW t tn k x)):k+1<=D:=Nat.lt_of_le_of_ne a fun e=>by subst e; omega
theorem Tz{t:Nat->Nat->Int}{tn k:Nat}{x:Int}(h : ∀ i,i<k->0<=bB t tn (aW t tn i x))(a:0<=bB t tn (aW t tn k x)) : ∀ i,i<k+1->0<=bB t tn (aW t tn i x):=fun i b=>by
 by_cases e:i=k
 ·subst e; exact a
 ·exact h i (by omega)
theorem uJ{t:Nat->Nat->Int}{tn:Nat}{x:Int}(h:0<=bB t tn x) : ∃ j:Nat,j<tn/\bB t tn x=(j:Int)/\t j 0=x:=by
 rcases jC (fun i=>decide (t i 0=x)) tn with ⟨k,a,e,b⟩|⟨e,_⟩
 ·exact⟨k,a,e,h_ b⟩
 unfold bB at h; rw[e]at h; omega
theorem P5{t:Nat->Nat->Int}{tn k j:Nat}{x:Int}(h:bB t tn (aW t tn k x)=(j:Int)):t j 1=aW t tn (k+1) x:=by
 show _=t (bB t tn (aW t tn k x)).toNat 1;rw[h]; rfl
end Rt
theorem Od(a:Nat)(d:Option Addr)(tn f:Nat)(t:Nat->Nat->Int)(x:Int)(w:World)(h:ED w a d tn f t) :
 Calls Tryd.prog 105 #[(pt a),aC x] w fun e w'=>e = .returned (.bool (decide (0<=bB t tn x)))/\Below w.heap.size w w':=by
 have i:=h.tc;have k:a<w.heap.size:=i.lt (by omega);have j:=h.bt;refine Kent Tryd.func105 9 ?_;refine ay<|av aF<|aD<|ay<|av (pt a)<|av (aC x)<|dL (MC a d tn f t x _ (h.below (Below.refl w.heap.size w))) _ rfl ?_;intro l g;have c:=bE g (Below.refl w.heap.size w);by_cases b:0<=(bB t tn x)
 ·refine Lv aG (ko b)<|av aG<|aD<|Wr<|aJ aG ?_;exact⟨gY (Eq.symm (f_ b)),c⟩
 refine Lv aF (jT b)<|av aF<|aD<|Wr<|aJ aF ?_;exact⟨gY (Eq.symm (g_ b)),c⟩
theorem IY(c:Nat)(p:Option Addr)(tn d:Nat)(t:Nat->Nat->Int)(x:Int)(D:Nat)(w:World)(h:ED w c p tn d t)(R:bB t tn (aW t tn D x)<0)(hD2:D<=1000) :
 Calls Tryd.prog 87 #[(pt c),aC x] w fun e w' => ∃ K v,e = .returned v/\Fx.Own w' w.heap.size 22 1 v K (rv .u64 (fun i=>aW t tn i x))/\(∀ i,i<K->0<=bB t tn (aW t tn i x))/\bB t tn (aW t tn K x)<0/\Below w.heap.size w w':=by
 have U:=h.tc;have lp:c<w.heap.size:=U.lt (by omega);have bt:=h.bt;refine Kent Tryd.func87 25 ?_;refine ay<|av (.slice none 0 0)<|aD<|ay<|av (.slice none 0 0)<|aD<|Ws<|Wb ?_;have m1:Fx.Own w w.heap.size 22 1 (.slice none 0 0) 0 (rv .u64 (fun i=>aW t tn i x)):=xX _ _ _ _ _;refine Wo (fun f N => ∃ k:Nat,∃ a:Option Addr,∃ l:Nat,k<=D/\(∀ i,i<k->0<=bB t tn (aW t tn i x))/\f 0=(pt c)/\f 1=aC (aW t tn k x)/\f 5 = .slice a (k) (l)/\iQ N c 0 1 (fun _ => .slice p tn d)/\Fx.Own N w.heap.size 22 1 (.slice a k l) k (rv .u64 (fun i=>aW t tn i x))/\Below w.heap.size w N) (fun f _=>(D-aaL (f 5))) ⟨0,none,0,by omega,(fun i h=>L_ h (by omega)),(by rfl),(by rfl),(by rfl),U,m1,(Below.refl w.heap.size w)⟩ ?_;rintro f1 w1 ⟨k,a,l,X,S,z,n,G,m2,m3,O⟩;refine Ws<|ay<|aY z<|aY n<|dL (MC c p tn d t (aW t tn k x) _ (h.below O)) _ rfl ?_;intro w2 hb1;have⟨Z,I,A⟩:=jh hb1 m2 m3 O;by_cases g:0<=(bB t tn (aW t tn k x))
 ·refine Lv aG (ko g)<|aD<|aO<|Wk<|sN<|Wb<|Ws ?_;obtain⟨j,W,P,_⟩:=uJ g;refine Wl<|aY G<|aY n<|Af (vs := [(0,aC (aW t tn k x))]) (s:=1) (zc:=rv .u64 (fun _=>0)) (y:=bR (fun j=>(rv .u64 (fun _=>0)) (j % 1)) (0*1) 1 (fun _=>aC (aW t tn k x))) (by rfl) rfl rfl Tryd.underlying53 (by kernel_rfl) (by rfl) (by rfl) (by kernel_rfl) (by rw[bJ (off:=0*1) (s:=1) (y:=fun _=>aC (aW t tn k x)) rfl (cells_one (by rfl)) (by rfl)]; rfl) rfl fun Q w3 F m6 s2 z1 => ?_;have⟨m7,J,C⟩:=jh s2.old Z I A;have sO:=jc F A.size;have AP:c≠Q:=by rw[F]; exact t_ (Z.lt (by omega))
  have Kt:(.slice a k l:Value).ownBlock≠some Q:=by rw[F]; exact I.mH (z_ _)
  have uo:=m6.lt;refine Ar (B:=w.heap.size) (s:=1) (bytes:=8) (k:=k) (m:=1) (by rfl) rfl rfl rfl Tryd.underlying53 (by kernel_rfl) (by kernel_rfl) rfl rfl J m6.aH (fun j W=>by rcases j with _|j <;> first|rfl|omega) (by omega) (by omega) (by omega) C.size fun u r M ho1 V wJ hlt1 => ?_
  have H:iQ M c 0 1 (fun _ => .slice p tn d):=m7.grown V (J.not (by omega));have m9:Fx.Own M w.heap.size 22 1 (bK u (k+1) r) (k+1) (rv .u64 (fun i=>aW t tn i x)):=ho1.congr (PZ rfl);have E:Below w.heap.size w M:=Aq C V C.size (fun q hq=>(J.ge hq).1);refine av (bK u (k+1) r)<|aD ?_;obtain⟨b,off,ea,T⟩:=h.t j W;have lb:b<w.heap.size:=T.lt (by omega);have Y:=T.below E lb;refine mI<|eB z<|aX (pt c)<|aX (pt c)<|Qv (.slice p (tn) (d)) (fun L o=>aM (H.below o (H.lt (by omega))) 0)<|eB z<|eB n<|yR (fun L o=>((MC c p tn d t (aW t tn k x) _ (h.below (Jt E o))).mono fun e w2 n=>(⟨n.1.trans (by rw[P]),n.2⟩:e = .returned (au (j:Int))/\_))) _ rfl<|Qv (pf b (2*j+off)) (fun L o=>dh 2 (hx:=(rfl.trans (K_ (fun q=>Value.slice q (tn) (d)) ea))))<|aX (pf b (2*j+off+1))<|Qv (aC ((t j) 1)) (fun L o=>aM (Y.below o (Y.lt (by omega))) 1)<|aX (aC ((t j) 1))<|Qn ?_;intro WO sP;have⟨m12,m13,b5⟩:=jh sP H m9 E;refine bT ?_;have kD:=Oc X R g;refine iB ⟨k+1,(some ⟨u,0,none⟩),r,(Oc X R g),(Tz S g),z,(K_ (Value.int .u64) (P5 P)),(by rfl),m12,m13,b5⟩ ?_;show(D-aaL (bK u (k+1) r))<_;simp only[G,intOf,aaL]; omega
 refine Lv aF (jT g)<|aD<|aL<|Wx<|cK<|gU<|cO<|sN<|ay<|aY G<|av (.slice a (k) (l))<|aD<|Wr<|aJ (.slice a (k) (l)) ?_;exact⟨k,_,rfl,I,S,by omega,A⟩
namespace Rt
def kN(k a:Nat):lH := { s:=⟨fun i=>decide (i<k),fun _=>false,fun _=>0,none,0,0,none,0,0⟩,id:=fun _=>0,par:=fun _=>0,R:=fun _ _=>0,g:=fun _ _=>0,tb:=a,ta:=none,tn:=0,tc:=0,t:=fun _ _=>0,ra:=fun _=>none,rn:=fun _=>0,rc:=fun _=>0,rq:=fun _ _=>0 }
theorem P6(k c:Nat)(d:k<6):dD (mD (kN k c)) k (.bool true)=mD (kN (k+1) c):=by
 funext p
 unfold dD;by_cases e:p=k
 ·subst e; rw[d_ rfl];exact(kJ _ (by omega) ((EC _ d).trans (K_ Value.bool (f_ (show p<p+1 by omega))))).symm
 rw[b_ e];unfold mD;by_cases h:p<20
 ·rw[d_ h,d_ h];unfold Dq;by_cases a:p<6
  ·rw[d_ a,d_ a];show Value.bool (decide (p<k))=Value.bool (decide (p<k+1));by_cases b:p<k
   ·rw[f_ b,f_ (show p<k+1 by omega)]
   rw[g_ b,g_ (show ¬ p<k+1 by omega)]
  rw[b_ a,b_ a]; rfl
 rw[b_ h,b_ h]; rfl
end Rt
set_option maxRecDepth 10000 in
theorem aeU(n:Nat)(w:World)(h1:1<=n)(S:n<=6) :
 Calls Tryd.prog 25 #[au (n:Int)] w fun e w' => ∃ p h,e = .returned (.tuple #[(pt p),au 0])/\w.heap.size<=p/\Cy w' p (kN n h)/\Below w.heap.size w w'/\aQ w' p 27 (mD (kN n h)) 56/\aQ w' h 1 (fun _ => .slice none 0 0) 111/\w.heap.size<=h:=by
 refine Kent Tryd.func25 28 ?_;refine ay<|av (.pointer none)<|av (au 0)<|aD<|Ws<|ay<|av (au n)<|Lv aF Gn<|av aF<|av (au n)<|Lv aF wZ<|av aF<|aD<|aL<|Wk<|sN<|ay<|av (.agg (aA 1 (fun _ => .slice none 0 0)))<|pQ fun b Y D q N z1 => ?_;have u:=bE N.old (Below.refl w.heap.size w);have G:=gL D;have W:=q.lt;refine av (.agg (aA 27 (bR (fun i=>(#[.bool false,.bool false,.bool false,.bool false,.bool false,.bool false,.bool false,.bool false,.bool false,.bool false,.bool false,.bool false,aC 0,aC 0,aC 0,aC 0,aC 0,aC 0,.slice none 0 0,.slice none 0 0,.pointer none,.slice none 0 0,.slice none 0 0,.slice none 0 0,.slice none 0 0,.slice none 0 0,.slice none 0 0]:Array Value).getD i undef) 20 1 (fun _=>(pt b)))))<|Ei (m:=27) (y:=bR (fun i=>(#[.bool false,.bool false,.bool false,.bool false,.bool false,.bool false,.bool false,.bool false,.bool false,.bool false,.bool false,.bool false,aC 0,aC 0,aC 0,aC 0,aC 0,aC 0,.slice none 0 0,.slice none 0 0,.pointer none,.slice none 0 0,.slice none 0 0,.slice none 0 0,.slice none 0 0,.slice none 0 0,.slice none 0 0]:Array Value).getD i undef) 20 1 (fun _=>(pt b))) (by rfl) rfl rfl (bL _ _) rfl fun a P x z O z2 => ?_;have⟨I,B⟩:=eU O.old q u;have H:=jc x u.size;have V:=cu x q.lt;have X:=z.lt;refine av (pt a)<|aD<|Ws<|ay<|av (au 0)<|aD<|Wb ?_;have J:aQ P a 27 (mD (kN 0 b)) 56:=z.congr (fun j T=>by rcases j with _|_|_|_|_|_|_|_|_|_|_|_|_|_|_|_|_|_|_|_|_|_|_|_|_|_|_|j <;> first|rfl|omega)
 refine Wo (fun f t => ∃ k:Nat,k<=n/\f 0=au (n:Int)/\f 4=(pt a)/\f 5=au (k:Int)/\aQ t b 1 (fun _ => .slice none 0 0) 111/\aQ t a 27 (mD (kN k b)) 56/\Below w.heap.size w t) (fun f _=>(n-(intOf (f 5)).toNat)) ⟨0,by omega,Fx.ic,(by rfl),Fx.ic,I,J,B⟩ ?_;rintro R Z ⟨k,U,h1,o,g,r,s,l⟩;refine Ws<|ay<|aY g<|aY h1 ?_;by_cases v:(k:Int)<(n:Int)
 ·refine Lv aG (iL v)<|aD<|aO<|Wk<|sN<|Ws<|Wb<|Wl<|aY o<|aY g<|av (pt a)<|av (pt a)<|av (pt a)<|Lv (pf a k) (jm 6 1)<|iX s k aG fun Q K A z3 => ?_;have L:=r.bY A (by omega);have C:=A.below l l.size (by omega);refine Ln<|bT<|sN<|Wl<|aY g<|Lv (au ((k:Int)+1)) fE<|av (au ((k:Int)+1))<|Ln ?_;have M:aQ Q a 27 (mD (kN (k+1) b)) 56:=K.to (P6 k b (by omega))
  skip
  refine iB ⟨k+1,by omega,(h1.trans Fx.ic),o,Fx.ic,L,M,C⟩ ?_;show(n-(intOf (au ((k:Int)+1))).toNat)<_;simp only[g,intOf]; omega
 refine Lv aF (iM v)<|aD<|aL<|Wx<|cK<|gU<|cO<|sN<|ay<|aY o<|av (pt a)<|av (au 0)<|aD<|Wr<|aJ (.tuple #[(pt a),au 0]) ?_;have E:k=n:=by omega
 subst E;exact⟨_,_,rfl,H,{ c:=s.aH,an:=fun d=>L_ d (Nat.lt_irrefl 0),ag:=fun d=>L_ d (Nat.lt_irrefl 0),tc:=r.aH,at2:=fun d=>L_ d (Nat.lt_irrefl 0),ar:=fun i F d=>L_ d (Nat.lt_irrefl 0),bn:=J_ _,bg:=J_ _,bt:=J_ _,br:=fun i F=>J_ _ },l,s,r,G⟩
end Go.Proofs.YtahbiajdgealnaaDoor
