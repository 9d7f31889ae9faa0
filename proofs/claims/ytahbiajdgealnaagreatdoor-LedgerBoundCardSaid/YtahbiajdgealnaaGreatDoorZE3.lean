/-
  What the proof of the law rests on, part 3: walks of functions, and plain laws; each says its conditions itself.
-/
import Derived.Test.YtahbiajdgealnaaGreatDoorRows
import Derived.BigRegion
import Derived.Deep.DeepCutAuto
import Derived.Test.YtahbiajdgealnaaGreatDoorZE2
set_option maxHeartbeats 1600000
set_option linter.unusedVariables false
set_option linter.unusedSimpArgs false
namespace Go.Proofs.YtahbiajdgealnaaGreatDoor
open Go.RowKit Rt
open Fx (fD eP fJ bD gP gM dD dS gD jB eX jC fU jD je Lv sN Ln Ws Qv Wl Rp Wc Qs Wr Sb Lk Wk rC rV sR Rs Rn Rd Rk Wb Wx Wo Dy Wt qW Qn FM Bc yN zh C9 Dw qo gY zi ng uq uo vO wZ zf Dk Ap rv aC aS bI aM ev cK Stp dH aW flat dA Mp fq aY gX iU bF down iN jO iW ou bK bJ cells_one iP bV xk unseen jK iB bY dM bM bQ cu cB gJ gT qb gQ)
section
open Rt
set_option maxRecDepth 10000
theorem aaS{c f:Int}(a b:Nat)(i:c=(a:Int))(j:f=(b:Int))(B g n cap:Nat)(d:Array Int)(w:World)(h:Fx.Own w B 28 1 (bL g n cap) n (rv .u64 (gA d)))(k:B<=w.heap.size)(m:d.size=n)(o:n<=1000)(ha:a<=b)(l:b<=n) :
 Calls Tryz.prog 129 #[bL g n cap,au c,au f] w fun e w'=>e = .returned (.tuple #[])/\Fx.Own w' B 28 1 (bL g n cap) n (rv .u64 (gA (Sort.insertionSort Sort.ltInt d a b)))/\Below B w w':=by
 subst i j; exact aeJ a b B g n cap d w h k m o ha l
theorem WR{c f:Int}(a b:Nat)(i:c=(a:Int))(j:f=(b:Int))(B g n cap:Nat)(d:Array Int)(w:World)(h:Fx.Own w B 28 1 (bL g n cap) n (rv .u64 (gA d)))(k:B<=w.heap.size)(m:d.size=n)(o:n<=1000)(ha:a<b)(l:b<=n) :
 Calls Tryz.prog 130 #[bL g n cap,au c,au f] w fun e w'=>e = .returned (.tuple #[])/\Fx.Own w' B 28 1 (bL g n cap) n (rv .u64 (gA (Sort.heapSort Sort.ltInt d a b)))/\Below B w w':=by
 subst i j; exact aaF a b B g n cap d w h k m o ha l
theorem aaT{c f:Int}(a b:Nat)(i:c=(a:Int))(j:f=(b:Int))(B g n cap:Nat)(d:Array Int)(w:World)(h:Fx.Own w B 28 1 (bL g n cap) n (rv .u64 (gA d)))(k:B<=w.heap.size)(m:d.size=n)(o:n<=1000)(ha:a<b)(l:b<=n) :
 Calls Tryz.prog 133 #[bL g n cap,au c,au f] w fun e w'=>e = .returned (.tuple #[])/\Fx.Own w' B 28 1 (bL g n cap) n (rv .u64 (gA (Sort.reverseRange d a b)))/\Below B w w':=by
 subst i j; exact aeL a b B g n cap d w h k m o ha l
def Zm(m:Nat):Prop := ∀(i j k:Int) (a b l:Nat) (B g n f:Nat) (d:Array Int) (w:World) (h:Fx.Own w B 28 1 (bL g n f) n (rv .u64 (gA d))) (hB:B<=w.heap.size) (hn:d.size=n) (hs:n<=1000) (h50:n<50) (hl:l<=1000) (hab:a<=b) (hb:b<=n) (hBel:Sort.Below Sort.ltInt a b d),i=(a:Int)->j=(b:Int)->k=(l:Int)->b-a<m ->
    Calls Tryz.prog 120 #[bL g n f,au i,au j,au k] w fun e w' => ∃ c:Array Int,e = .returned (.tuple #[])/\c.size=n/\Sort.PermIn a b d c/\Sort.SortedIn Sort.ltInt a b c/\Fx.Own w' B 28 1 (bL g n f) n (rv .u64 (gA c))/\Below B w w'
theorem aaU(m:Nat)(ih:Zm m)(a b lim:Nat)(B g n cap:Nat)(d:Array Int)(w:World)(h:Fx.Own w B 28 1 (bL g n cap) n (rv .u64 (gA d)))(r:B<=w.heap.size)(hn:d.size=n)(x:n<=1000)(V:n<50)(hl:lim<=1000)(hab:a<=b)(hb:b<=n)(hBel:Sort.Below Sort.ltInt a b d)(hm:b-a<m+1) :
 Calls Tryz.prog 120 #[bL g n cap,au (a:Int),au (b:Int),au (lim:Int)] w fun e w' => ∃ d2:Array Int,e = .returned (.tuple #[])/\d2.size=n/\Sort.PermIn a b d d2/\Sort.SortedIn Sort.ltInt a b d2/\Fx.Own w' B 28 1 (bL g n cap) n (rv .u64 (gA d2))/\Below B w w':=by
 refine Kent Tryz.func120 134 ?_;refine ay<|av aH<|aD<|ay<|av aH<|aD<|Wb<|Dy (fun kk f A => ∃ c:Nat,∃ i:Nat,∃ N:Nat,∃ v:Array Int,∃ O:Bool,∃ wp:Bool,v.size=n/\Sort.Below Sort.ltInt c i v/\(∀ R,Sort.PermIn c i v R->Sort.SortedIn Sort.ltInt c i R->Sort.PermIn a b d R/\Sort.SortedIn Sort.ltInt a b R)/\(c<=i/\i<=n/\N<=1000/\i-c<=b-a)/\kk=i-c/\f 0=bL g n cap/\f 1=au (c:Int)/\f 2=au (i:Int)/\f 3=au (N:Int)/\f 8 = .bool O/\f 9 = .bool wp/\Fx.Own A B 28 1 (bL g n cap) n (rv .u64 (gA v))/\Below B w A) (b-a) ⟨a,b,lim,d,true,true,hn,hBel,(fun R U J=>⟨U,J⟩),(by omega),rfl,(by rfl),Fx.ic,Fx.ic,Fx.ic,(by rfl),(by rfl),h,(Below.refl B w)⟩ ?_;rintro kk f1 w1 ⟨c,i,N,v,O,wp,hk,hBl,K,att,hkk,U,J,h3,h4,h5,h6,m1,S⟩;refine Wb<|ay<|aX h3<|aX J<|Lv (au ((i:Int)-(c:Int))) gu<|av (au ((i:Int)-(c:Int)))<|aD<|Ws<|ay<|av (au ((i:Int)-(c:Int))) ?_;by_cases c23:((i:Int)-(c:Int))<=12
 ·refine Lv aH (nD c23)<|aD<|aO<|ay<|aX U<|aX J<|aX h3<|eB (aaS c i (by omega) (by omega) B g n cap v _ m1 (m_ r S.size) hk x (by omega) (by omega)) (ax := #[bL g n cap,au (c:Int),au (i:Int)]) _ rfl ?_;rintro w2 ⟨m2,hb1⟩;have b2:=S.trans hb1;refine aD (Wr (sR (bM (qb (bM (⟨.tuple #[],iN Tryz.results120,?_⟩))))));have Y:=(Sort.insertionSort_holds Sort.swo_ltInt v c i (by omega) (by omega));have M:=K _ Y.1 Y.2;exact⟨_,rfl,Y.1.1.trans hk,M.1,M.2,m2,b2⟩
 refine Lv aG (nT c23)<|aD<|aL<|Wk<|sN<|Ws<|ay<|aX h4 ?_;by_cases c29:(N:Int)=0
 ·refine Lv aH (eZ c29)<|aD<|aO<|ay<|aX U<|aX J<|aX h3<|eB (WR c i (by omega) (by omega) B g n cap v _ m1 (m_ r S.size) hk x (by omega) (by omega)) (ax := #[bL g n cap,au (c:Int),au (i:Int)]) _ rfl ?_;rintro w3 ⟨m3,hb2⟩;have b3:=S.trans hb2;refine aD (Wr (sR (bM (qb (bM (⟨.tuple #[],iN Tryz.results120,?_⟩))))));have Y:=(Sort.heapSort_holds Sort.swo_ltInt v c i (by omega) (by omega));have M:=K _ Y.1 Y.2;exact⟨_,rfl,Y.1.1.trans hk,M.1,M.2,m3,b3⟩
 refine Lv aG (fM c29)<|aD<|aL<|Wk<|sN<|Dk (fun f A => ∃ p:Nat,∃ I:Array Int,I.size=n/\Sort.PermIn c i v I/\p<=1000/\f 0=bL g n cap/\f 1=au (c:Int)/\f 2=au (i:Int)/\f 3=au (p:Int)/\f 8 = .bool O/\f 9 = .bool wp/\f 10=au ((i:Int)-(c:Int))/\Fx.Own A B 28 1 (bL g n cap) n (rv .u64 (gA I))/\Below B w A) ?_ ?_
 ·refine ay ?_;by_cases c34:O=true
  ·refine aX (h5.trans (K_ Value.bool c34))<|av aG<|aD<|aL<|Wk ?_;exact xk ⟨N,v,hk,(Sort.permIn_refl _ _ _),(by omega),U,(J.trans Fx.ic),(h3.trans Fx.ic),(h4.trans Fx.ic),h5,h6,Fx.ic,m1,S⟩
  rw[S_]at c34;refine aX (h5.trans (K_ Value.bool c34))<|av aH<|aD<|aO<|ay<|aX U<|aX J<|aX h3<|lS (aeO c i B g n cap v _ m1 (m_ r S.size) hk x (by omega) (by omega) V) ?_;rintro D w4 ⟨dn1,l,hz1,hP1,m4,hb3⟩;have b4:=S.trans hb3;refine⟨_,l,?_⟩;clear l;refine aD<|Wl<|aX h4<|Lv (au ((N:Int)-1)) gu<|av (au ((N:Int)-1))<|Ln ?_;exact xk ⟨N-1,dn1,hz1,hP1,(by omega),U,(J.trans Fx.ic),(h3.trans Fx.ic),Fx.ic,h5,h6,Fx.ic,m4,b4⟩
 rintro f2 w5 ⟨p,I,hk1,hP1,hl2,h7,h8,h9,h10,h11,h12,VQ,m5,b5⟩;refine ay<|aX h7<|aX h8<|aX h9<|lS (aeQ c i B g n cap I _ m5 (m_ r b5.size) hk1 x (by omega) (by omega) V) ?_;rintro D w6 ⟨H,ht1,l,hu1,G,m6,hb4⟩;have b6:=b5.trans hb4;refine⟨_,l,?_⟩;clear l;refine av (.tuple #[au (H:Int),au ht1])<|av (au H)<|av (au ht1)<|av (au H)<|av (au ht1)<|aD<|Dk (fun f A => ∃ q:Nat,∃ hint:Int,∃ o:Array Int,o.size=n/\Sort.PermIn c i v o/\(c<=q/\q<i)/\f 0=bL g n cap/\f 1=au (c:Int)/\f 2=au (i:Int)/\f 3=au (p:Int)/\f 8 = .bool O/\f 9 = .bool wp/\f 10=au ((i:Int)-(c:Int))/\f 11=au (q:Int)/\f 12=au hint/\Fx.Own A B 28 1 (bL g n cap) n (rv .u64 (gA o))/\Below B w A) ?_ ?_
 ·refine ay<|av (au ht1) ?_;by_cases c50:ht1=2
  ·refine Lv aH (eZ c50)<|aD<|aO<|ay<|aX h7<|aX h8<|aX h9<|eB (aaT c i (by omega) (by omega) B g n cap I _ m6 (m_ r b6.size) hk1 x (by omega) (by omega)) (ax := #[bL g n cap,au (c:Int),au (i:Int)]) _ rfl ?_;rintro w7 ⟨m7,hb5⟩;have b7:=b6.trans hb5;refine aD<|ay<|aX h9<|Lv (au ((i:Int)-1)) gu<|av (au H)<|aX h8<|Lv (au ((H:Int)-(c:Int))) gu<|Lv (au ((c:Int)+(i:Int)-(H:Int)-1)) gu<|av (au ((c:Int)+(i:Int)-(H:Int)-1))<|aD<|Wl<|av (au 1)<|Ln ?_;exact xk ⟨c+i-H-1,1,Sort.reverseRange I c i,((Sort.reverseRange_holds _ _ _ (by omega) (by omega)).1.trans hk1),(Sort.permIn_trans _ _ _ _ _ hP1 (Sort.reverseRange_holds _ _ _ (by omega) (by omega))),(by omega),h7,(h8.trans Fx.ic),(h9.trans Fx.ic),(h10.trans Fx.ic),h11,h12,(VQ.trans Fx.ic),Fx.ic,Fx.ic,m7,b7⟩
  refine Lv aG (fM c50)<|aD<|aL<|Wk ?_;exact xk ⟨H,ht1,I,hk1,hP1,(by omega),h7,(h8.trans Fx.ic),(h9.trans Fx.ic),(h10.trans Fx.ic),h11,h12,(VQ.trans Fx.ic),Fx.ic,Fx.ic,m6,b6⟩
 rintro f3 w8 ⟨q,hint,o,hk2,F,L,QF,VR,h16,QG,h18,h19,h20,h21,h22,m8,b8⟩;obtain⟨hpv1,hpv2⟩:=L;have L:=And.intro hpv1 hpv2;refine Dk (fun f A=>f 0=bL g n cap/\f 1=au (c:Int)/\f 2=au (i:Int)/\f 3=au (p:Int)/\f 8 = .bool O/\f 9 = .bool wp/\f 10=au ((i:Int)-(c:Int))/\f 11=au (q:Int)/\Fx.Own A B 28 1 (bL g n cap) n (rv .u64 (gA o))/\Below B w A) ?_ ?_
 ·refine ay ?_;by_cases c61:O=true
  ·refine aX (h18.trans (K_ Value.bool c61))<|av aH ?_;by_cases c63:wp=true
   ·refine aX (h19.trans (K_ Value.bool c63))<|av aH<|av aH<|aX h22 ?_;by_cases c67:hint=1
    ·refine Lv aH (eZ c67)<|av aH<|aD<|aO<|ay<|aX QF<|aX VR<|aX h16<|lS (aaL c i B g n cap o _ m8 (m_ r b8.size) hk2 x (by omega) (by omega) V) ?_;rintro D w9 ⟨r1,l,hS1,m9,hb6⟩;have b9:=b8.trans hb6
     rcases r1 with _|_
     ·refine⟨_,l,?_⟩;clear l;refine aD<|aL<|Wk ?_;exact xk ⟨QF,(VR.trans Fx.ic),(h16.trans Fx.ic),(QG.trans Fx.ic),h18,h19,(h20.trans Fx.ic),(h21.trans Fx.ic),m9,b9⟩
     refine⟨_,l,?_⟩;clear l;refine aD (aO (Wr (Fx.jnR (bM (qb (bM (⟨.tuple #[],iN Tryz.results120,?_⟩)))))));have M:=K _ F (hS1 rfl);exact⟨_,rfl,hk2,M.1,M.2,m9,b9⟩
    refine Lv aG (fM c67)<|av aG<|aD<|aL<|Wk ?_;exact xk ⟨QF,(VR.trans Fx.ic),(h16.trans Fx.ic),(QG.trans Fx.ic),h18,h19,(h20.trans Fx.ic),(h21.trans Fx.ic),m8,b8⟩
   rw[S_]at c63;refine aX (h19.trans (K_ Value.bool c63))<|av aG<|av aG<|dB<|dB<|av aG<|aD<|aL<|Wk ?_;exact xk ⟨QF,(VR.trans Fx.ic),(h16.trans Fx.ic),(QG.trans Fx.ic),h18,h19,(h20.trans Fx.ic),(h21.trans Fx.ic),m8,b8⟩
  rw[S_]at c61;refine aX (h18.trans (K_ Value.bool c61))<|av aG<|dB<|av aG<|av aG<|dB<|dB<|av aG<|aD<|aL<|Wk ?_;exact xk ⟨QF,(VR.trans Fx.ic),(h16.trans Fx.ic),(QG.trans Fx.ic),h18,h19,(h20.trans Fx.ic),(h21.trans Fx.ic),m8,b8⟩
 rintro f4 sQ ⟨s,y,C,E,h27,WO,h29,h30,m10,b10⟩;refine Ws<|Ws ?_;refine mO<|dX y ?_;by_cases c74:0<(c:Int)
 ·refine Qv aH (fun v1 G=>mK c74)<|aT aH<|dX s<|dX y<|Qv (au ((c:Int)-1)) (fun v1 G=>gu)<|Qv (pf g (c-1)) (fun v1 G=>dh 1)<|Qv (aF ((gA o) (c-1))) (fun v1 G=>aN (m10.cb G) (c-1))<|dX s<|dX h30<|Qv (pf g q) (fun v1 G=>dh 1)<|Qv (aF ((gA o) q)) (fun v1 G=>aN (m10.cb G) q) ?_;by_cases c85:(decide ((gA o) (c-1)<(gA o) q))=true
  ·refine pR (fun _ _=>dN ((gA o) (c-1)) ((gA o) q) _) aH (by rw[c85])<|aT aG<|aT aG<|Qn ?_;intro WI sP;have m11:=bH sP m10;have b11:=eH sP b10 r;refine sN<|aL<|Wk<|sN<|ay<|aX s<|aX y<|aX C<|aX h30<|lS (aeR c i q B g n cap o _ m11 (m_ r b11.size) hk2 x (by omega) (by omega) (by omega)) ?_;rintro D FP ⟨j,P,dn2,l,hu2,hv2,hz2,m12,hb7⟩;have b12:=b11.trans hb7;have hx:Sort.partition Sort.ltInt o c i q=(j,(Sort.partition Sort.ltInt o c i q).2.1,dn2):=Prod.ext hu2 (Prod.ext rfl hv2);obtain⟨r1,r2,r3,r4,r5,r6,r7⟩:=Sort.round_part Sort.swo_ltInt (Sort.partition_holds _) L.1 L.2 (by omega) (hBl.perm (by omega) F) hx;clear hx;refine⟨_,l,?_⟩;clear l;refine av (.tuple #[au (j:Int),.bool P])<|av (au j)<|av (.bool P)<|av (au j)<|av (.bool P)<|aD<|ay<|av (.bool P)<|av (.bool P)<|aD<|ay<|av (au j)<|aX y<|Lv (au ((j:Int)-(c:Int))) gu<|aX C<|av (au j)<|Lv (au ((i:Int)-(j:Int))) gu<|av (au ((j:Int)-(c:Int)))<|av (au ((i:Int)-(j:Int)))<|aD<|ay<|aX h29<|Lv (au ((i-c) / 8:Nat)) (Fx.Cn rfl rfl rfl (by omega) (iW (by omega) (by rw[Int.tdiv_eq_ediv_of_nonneg (by omega)]; omega)))<|av (au ((i-c) / 8:Nat))<|aD<|ay<|av (au ((j:Int)-(c:Int)))<|av (au ((i:Int)-(j:Int))) ?_;by_cases Sw:((j:Int)-(c:Int))<((i:Int)-(j:Int))
   ·refine Lv aH (gV Sw)<|aD<|aO<|ay<|av (au ((j:Int)-(c:Int)))<|av (au ((i-c) / 8:Nat))<|Lv (.bool (decide (((i-c) / 8:Nat)<=((j:Int)-(c:Int))))) (Fx.Ee rfl rfl rfl)<|av (.bool (decide (((i-c) / 8:Nat)<=((j:Int)-(c:Int)))))<|aD<|ay<|aX s<|aX y<|av (au j)<|aX E<|lS (ih _ _ _ c j p B g n cap dn2 _ m12 (m_ r b12.size) hz2 x V (by omega) (by omega) (by omega) r4 (by omega) (by omega) (by omega) (by omega)) (ax := #[bL g n cap,au (c:Int),au (j:Int),au (p:Int)]) ?_;rintro D Ag ⟨T,l,Z,W,X,m13,hb8⟩;refine⟨_,l,?_⟩;clear l;have b13:=b12.trans hb8;obtain⟨q1,z⟩:=r6 _ W X;refine aD (Wl (av (au j) (Lv (au ((j:Int)+1)) eY (av (au ((j:Int)+1)) (Ln (bQ (gT ⟨i-(j+1),(by omega),j+1,i,p,T,(decide (((i-c) / 8:Nat)<=((j:Int)-(c:Int)))),(P),Z,q1,(fun R t u=>K R (Sort.permIn_trans _ _ _ _ _ F (z R t u).1) (z R t u).2),(by omega),rfl,s,Fx.ic,(C.trans Fx.ic),(E.trans Fx.ic),(by rfl),(by rfl),m13,b13⟩ (by decide))))))))
   refine Lv aG (gW Sw)<|aD<|aL<|ay<|av (au ((i:Int)-(j:Int)))<|av (au ((i-c) / 8:Nat))<|Lv (.bool (decide (((i-c) / 8:Nat)<=((i:Int)-(j:Int))))) (Fx.Ee rfl rfl rfl)<|av (.bool (decide (((i-c) / 8:Nat)<=((i:Int)-(j:Int)))))<|aD<|ay<|aX s<|av (au j)<|Lv (au ((j:Int)+1)) eY<|aX C<|aX E<|lS (ih _ _ _ (j+1) i p B g n cap dn2 _ m12 (m_ r b12.size) hz2 x V (by omega) (by omega) (by omega) r5 (by omega) (by omega) (by omega) (by omega)) (ax := #[bL g n cap,au ((j:Int)+1),au (i:Int),au (p:Int)]) ?_;rintro D FZ ⟨T,l,Z,W,X,m14,hb9⟩;refine⟨_,l,?_⟩;clear l;have b14:=b12.trans hb9;obtain⟨q1,z⟩:=r7 _ W X;refine aD (Wl (av (au j) (av (au j) (Ln (bQ (gT ⟨j-c,(by omega),c,j,p,T,(decide (((i-c) / 8:Nat)<=((i:Int)-(j:Int)))),(P),Z,q1,(fun R t u=>K R (Sort.permIn_trans _ _ _ _ _ F (z R t u).1) (z R t u).2),(by omega),rfl,s,(y.trans Fx.ic),Fx.ic,(E.trans Fx.ic),(by rfl),(by rfl),m14,b14⟩ (by decide)))))))
  rw[S_]at c85;refine pR (fun _ _=>dN ((gA o) (c-1)) ((gA o) q) _) aG (by rw[c85])<|aT aH<|aT aH<|Qn ?_;intro Zi wP;have m15:=bH wP m10;have b15:=eH wP b10 r;refine sN<|aO<|ay<|aX s<|aX y<|aX C<|aX h30<|lS (ajE c i q B g n cap o _ m15 (m_ r b15.size) hk2 x (by omega) (by omega) (by omega)) ?_;rintro D Gt ⟨Sy,dn3,l,hx1,hz3,m16,ajU⟩;have b16:=b15.trans ajU;obtain⟨r1,r2,r3,r4,r5⟩:=Sort.round_eq Sort.swo_ltInt (Sort.partitionEqual_holds _) (by omega) L.1 L.2 (by omega) (hBl.perm (by omega) F) (wN (j_ c85)) hx1;refine⟨_,l,?_⟩;clear l;refine av (au Sy) (aD (ay (av (au Sy) (av (au Sy) (aD (Wx (cu (cB (gT ⟨i-Sy,(by omega),Sy,i,p,dn3,(O),(wp),hz3,r4,(fun R t u=>K R (Sort.permIn_trans _ _ _ _ _ F (r5 R t u).1) (r5 R t u).2),(by omega),rfl,s,Fx.ic,(C.trans Fx.ic),(E.trans Fx.ic),h27,WO,m16,b16⟩ (by decide))))))))))
 refine Qv aG (fun v1 G=>mM c74)<|aT aG<|aQ<|aQ<|aQ<|aQ<|aQ<|aQ<|aQ<|aQ<|aQ<|aQ<|aQ<|aT aG<|Qn ?_;intro wb3 wQ;have m17:=bH wQ m10;have b17:=eH wQ b10 r;refine sN<|aL<|Wk<|sN<|ay<|aX s<|aX y<|aX C<|aX h30<|lS (aeR c i q B g n cap o _ m17 (m_ r b17.size) hk2 x (by omega) (by omega) (by omega)) ?_;rintro D L9 ⟨k,Q,dn4,l,hu3,hv3,Zn,m18,ajW⟩;have b18:=b17.trans ajW;have hx:Sort.partition Sort.ltInt o c i q=(k,(Sort.partition Sort.ltInt o c i q).2.1,dn4):=Prod.ext hu3 (Prod.ext rfl hv3);obtain⟨r1,r2,r3,r4,r5,r6,r7⟩:=Sort.round_part Sort.swo_ltInt (Sort.partition_holds _) L.1 L.2 (by omega) (hBl.perm (by omega) F) hx;clear hx;refine⟨_,l,?_⟩;clear l;refine av (.tuple #[au (k:Int),.bool Q])<|av (au k)<|av (.bool Q)<|av (au k)<|av (.bool Q)<|aD<|ay<|av (.bool Q)<|av (.bool Q)<|aD<|ay<|av (au k)<|aX y<|Lv (au ((k:Int)-(c:Int))) gu<|aX C<|av (au k)<|Lv (au ((i:Int)-(k:Int))) gu<|av (au ((k:Int)-(c:Int)))<|av (au ((i:Int)-(k:Int)))<|aD<|ay<|aX h29<|Lv (au ((i-c) / 8:Nat)) (Fx.Cn rfl rfl rfl (by omega) (iW (by omega) (by rw[Int.tdiv_eq_ediv_of_nonneg (by omega)]; omega)))<|av (au ((i-c) / 8:Nat))<|aD<|ay<|av (au ((k:Int)-(c:Int)))<|av (au ((i:Int)-(k:Int))) ?_;by_cases Sw:((k:Int)-(c:Int))<((i:Int)-(k:Int))
 ·refine Lv aH (gV Sw)<|aD<|aO<|ay<|av (au ((k:Int)-(c:Int)))<|av (au ((i-c) / 8:Nat))<|Lv (.bool (decide (((i-c) / 8:Nat)<=((k:Int)-(c:Int))))) (Fx.Ee rfl rfl rfl)<|av (.bool (decide (((i-c) / 8:Nat)<=((k:Int)-(c:Int)))))<|aD<|ay<|aX s<|aX y<|av (au k)<|aX E<|lS (ih _ _ _ c k p B g n cap dn4 _ m18 (m_ r b18.size) Zn x V (by omega) (by omega) (by omega) r4 (by omega) (by omega) (by omega) (by omega)) (ax := #[bL g n cap,au (c:Int),au (k:Int),au (p:Int)]) ?_;rintro D w16 ⟨T,l,Z,W,X,m19,ajX⟩;refine⟨_,l,?_⟩;clear l;have b19:=b18.trans ajX;obtain⟨q1,z⟩:=r6 _ W X;refine aD (Wl (av (au k) (Lv (au ((k:Int)+1)) eY (av (au ((k:Int)+1)) (Ln (bQ (gT ⟨i-(k+1),(by omega),k+1,i,p,T,(decide (((i-c) / 8:Nat)<=((k:Int)-(c:Int)))),(Q),Z,q1,(fun R t u=>K R (Sort.permIn_trans _ _ _ _ _ F (z R t u).1) (z R t u).2),(by omega),rfl,s,Fx.ic,(C.trans Fx.ic),(E.trans Fx.ic),(by rfl),(by rfl),m19,b19⟩ (by decide))))))))
 refine Lv aG (gW Sw)<|aD<|aL<|ay<|av (au ((i:Int)-(k:Int)))<|av (au ((i-c) / 8:Nat))<|Lv (.bool (decide (((i-c) / 8:Nat)<=((i:Int)-(k:Int))))) (Fx.Ee rfl rfl rfl)<|av (.bool (decide (((i-c) / 8:Nat)<=((i:Int)-(k:Int)))))<|aD<|ay<|aX s<|av (au k)<|Lv (au ((k:Int)+1)) eY<|aX C<|aX E<|lS (ih _ _ _ (k+1) i p B g n cap dn4 _ m18 (m_ r b18.size) Zn x V (by omega) (by omega) (by omega) r5 (by omega) (by omega) (by omega) (by omega)) (ax := #[bL g n cap,au ((k:Int)+1),au (i:Int),au (p:Int)]) ?_;rintro D RV ⟨T,l,Z,W,X,m20,ajY⟩;refine⟨_,l,?_⟩;clear l;have b20:=b18.trans ajY;obtain⟨q1,z⟩:=r7 _ W X;refine aD (Wl (av (au k) (av (au k) (Ln (bQ (gT ⟨k-c,(by omega),c,k,p,T,(decide (((i-c) / 8:Nat)<=((i:Int)-(k:Int)))),(Q),Z,q1,(fun R t u=>K R (Sort.permIn_trans _ _ _ _ _ F (z R t u).1) (z R t u).2),(by omega),rfl,s,(y.trans Fx.ic),Fx.ic,(E.trans Fx.ic),(by rfl),(by rfl),m20,b20⟩ (by decide)))))))
end
section
open Rt
set_option maxRecDepth 10000
theorem Zo : ∀ m,Zm m
 | 0=>by
   intro v x y a b u B g n c d w h k s t j q o p l e f i r;omega
 | m+1=>by
   intro v x y a b u B g n c d w h k s t j q o p l e f i r;subst e f i;exact aaU m (Zo m) a b u B g n c d w h k s t j q o p l r
theorem WS(B g n cap:Nat)(d:Array Int)(w:World)(h:Fx.Own w B 28 1 (bL g n cap) n (rv .u64 (gA d)))(j:B<=w.heap.size)(o:d.size=n)(p:n<=1000)(i:n<50) :
 Calls Tryz.prog 93 #[bL g n cap] w fun e w' => ∃ a:Array Int,e = .returned (.tuple #[])/\a.size=n/\Sort.PermIn 0 n d a/\Sort.SortedIn Sort.ltInt 0 n a/\Fx.Own w' B 28 1 (bL g n cap) n (rv .u64 (gA a))/\Below B w w':=by
 have t:=NG (show n<64 by omega);refine Kent Tryz.func93 11 ?_;refine ay<|av (bL g n cap)<|av (au n)<|av (au n)<|aD<|Wl<|av (bL g n cap)<|av (au n)<|av (au n)<|Lv (aF n) (dD rfl rfl (by kernel_rfl) Tryz.underlying142 (jK (by omega) rfl))<|lU (RL n _ (by omega)) _ rfl<|lS (Zo (n+1) _ _ _ 0 n (Sort.bitsLen n) B g n cap d _ h (m_ j (Below.refl B w).size) o p i (by omega) (by omega) (by omega) (.inl rfl) rfl rfl rfl (by omega)) (ax := #[bL g n cap,au 0,au (n:Int),au (Sort.bitsLen n:Int)]) ?_;rintro s u ⟨f,b,q,k,l,r,m⟩;refine⟨_,b,?_⟩;clear b;have c:=(Below.refl B w).trans m;refine Ln (⟨.tuple #[],iN Tryz.results93,?_⟩);exact⟨f,rfl,q,k,l,r,c⟩
theorem aaW(w:World) :
 Calls Tryz.prog 129 #[.slice none 0 0,au 0,au 0] w fun e w'=>e = .returned (.tuple #[])/\Below w.heap.size w w':=by
 refine Kent Tryz.func129 49 ?_;refine ay<|av (au 0)<|Lv (au 1) eY<|av (au 1)<|aD<|Wb<|Wo (fun f d=>f 1=au 0/\f 2=au 0/\f 6=au 1/\Below w.heap.size w d) (fun f _=>0) ⟨Fx.ic,Fx.ic,Fx.ic,(Below.refl w.heap.size w)⟩ ?_;rintro g i ⟨h,b,c,a⟩;refine Ws (ay (aX c (aX b (Lv aG Cq (aD (aL (Wx (cu (gJ (cB (⟨.tuple #[],iN Tryz.results129,?_⟩)))))))))));exact⟨rfl,a⟩
theorem aaX(w:World) :
 Calls Tryz.prog 120 #[.slice none 0 0,au 0,au 0,au 0] w fun e w'=>e = .returned (.tuple #[])/\Below w.heap.size w w':=by
 refine Kent Tryz.func120 134 ?_;refine ay<|av aH<|aD<|ay<|av aH<|aD<|Wb<|Wo (fun f i=>f 0 = .slice none 0 0/\f 1=au 0/\f 2=au 0/\Below w.heap.size w i) (fun f _=>0) ⟨(by rfl),Fx.ic,Fx.ic,(Below.refl w.heap.size w)⟩ ?_;rintro j k ⟨g,a,b,c⟩;refine Wb<|ay<|aX b<|aX a<|Lv (au 0) gu<|av (au 0)<|aD<|Ws<|ay<|av (au 0)<|Lv aH aep<|aD<|aO<|ay<|aX g<|aX a<|aX b<|eB (aaW _) _ rfl ?_;intro l h;have d:=bH h c;refine aD (Wr (sR (bM (qb (bM (⟨.tuple #[],iN Tryz.results120,?_⟩))))));exact⟨rfl,d⟩
theorem aaY(w:World):Calls Tryz.prog 68 #[aF 0] w fun e w'=>e = .returned (au 0)/\w'=w:=RL 0 w (by omega)
theorem WT(w:World) :
 Calls Tryz.prog 93 #[.slice none 0 0] w fun e w'=>e = .returned (.tuple #[])/\Below w.heap.size w w':=by
 refine Kent Tryz.func93 11 ?_;refine ay<|av (.slice none 0 0)<|av (au 0)<|av (au 0)<|aD<|Wl<|av (.slice none 0 0)<|av (au 0)<|av (au 0)<|Lv (aF 0) (dD rfl rfl (by kernel_rfl) Tryz.underlying142 (jK (by omega) rfl))<|lU (aaY _) _ rfl<|eB (aaX _) _ rfl ?_;intro c b;have a:=bH b (Below.refl w.heap.size w);refine Ln (⟨.tuple #[],iN Tryz.results93,?_⟩);exact⟨rfl,a⟩
theorem aaZ{w:World}{B n cap:Nat}{a:Option Addr}{d:Array Int}(h:Fx.Own w B 28 1 (.slice a n cap) n (rv .u64 (gA d)))(f:B<=w.heap.size)(k:d.size=n)(p:n<50) :
 Calls Tryz.prog 93 #[.slice a n cap] w fun e w' => ∃ b:Array Int,e = .returned (.tuple #[])/\b.size=n/\Sort.PermIn 0 n d b/\Sort.SortedIn Sort.ltInt 0 n b/\Fx.Own w' B 28 1 (.slice a n cap) n (rv .u64 (gA b))/\Below B w w':=by
 rcases h.2 with ⟨c,l⟩|⟨g,c2,cur,c,_⟩
 ·subst l
  cases c
  exact(WT w).mono fun e w' ⟨m,o⟩=>⟨d,m,k,Sort.permIn_refl _ _ _,fun i j _ q r=>by omega,wZ _ _ _ _ _,o.mono f⟩
 simp only[Value.slice.injEq]at c;obtain⟨rfl,_,rfl⟩:=c;exact WS B g n cap d w h f k (by omega) p
end
end Go.Proofs.YtahbiajdgealnaaGreatDoor
namespace Go.Proofs.YtahbiajdgealnaaGreatDoor
open Go.RowKit Go
set_option linter.unusedVariables false
namespace Rt
def dT(x:Nat->Int)(τ:Nat->Nat)(m:Nat):Array Int:=((List.range m).map fun q=>x (τ q)).toArray
section
variable {n m kk:Nat} {x:Nat->Int} {Q:Int->Prop} {S:Nat->Bool} {τ:Nat->Nat}
theorem NH:(dT x τ m).size=m:=by unfold dT; simp
theorem abb{q:Nat}(a:q<m):gA (dT x τ m) q=x (τ q):=by
 unfold gA dT;rw[getElem!_pos _ q (by simpa using a)]; simp
theorem afe : ∀ j,j<m*1->Value.int .u64 (x (τ j))=Fx.rv .u64 (gA (dT x τ m)) j:=fun j a=>by
 show _=Value.int .u64 (gA (dT x τ m) j);rw[abb (by omega)]
theorem abd{d:Array Int} : ∀ j,j<d.size*1->Fx.rv .u64 (gA d) j=xD d.toList j:=fun j a=>by
 show Value.int .u64 d[j]! = Value.int .u64 (d.toList.getD j 0);rw[getElem!_pos d j (by omega),r_,o_ (by simpa using (show j<d.size by omega))];simp
theorem Ph{c:Array Int}(h:Rz n (fun i=>Q (x i)) S m τ kk)(y : ∀ i,i<n->S i=true)(A : ∀ a b,a<n->b<n->x a=x b->a=b)
 (B:Sort.PermIn 0 m (dT x τ m) c) (C:Sort.SortedIn Sort.ltInt 0 m c) (D:c.size=m):c.toList.Pairwise (· < ·) /\ ∀ k,k∈c.toList<->(dO x n k=true/\Q k):=by
 have u:c.toList.Perm ((List.range m).map fun q=>x (τ q)):=by
  have s:=B.2.2;have v:c.extract 0 m=c:=by rw[<- D]; simp
  have w : ∀ d:Array Int,d.size=m->d.extract 0 m=d:=fun d z=>by rw[<- z]; simp
  rw[v,w _ NH]at s;exact s
 have t:c.toList.Nodup:=by
  refine(u.nodup_iff).2 ?_;rw[List.Nodup,List.pairwise_iff_getElem];intro i j f g r;simp only[List.getElem_map,List.getElem_range];simp only[List.length_map,List.length_range]at f g;exact fun e=>L_ (h.inj i j f g (A _ _ (h.lt i f) (h.lt j g) e)) (by omega)
 refine⟨?_,fun k => ?_⟩
 ·rw[List.pairwise_iff_getElem];intro i j f g r;simp only[Array.length_toList]at f g;have o:=j_ (C i j (J_ _) r (by omega));rw[getElem!_pos c i f,getElem!_pos c j g]at o;rw[List.Nodup,List.pairwise_iff_getElem]at t;have p:=t i j (by simpa using f) (by simpa using g) r;simp only[Array.getElem_toList]at p ⊢;omega
 rw[u.mem_iff];simp only[List.mem_map,N_];constructor
 ·rintro ⟨q,l,rfl⟩;exact⟨jF (h.lt q l) rfl,h.yes q l⟩
 rintro ⟨o,p⟩;obtain⟨i,f,rfl⟩:=gG o;obtain⟨q,l,rfl⟩:=h.mem i f (y i f) p;exact⟨q,l,rfl⟩
theorem WU{z:Nat->Value}{i:Nat} : ∀ j,j<(m+1)*1->Fx.iB (fun q=>aF (x (τ q))) (m*1) (Fx.bI z (0*1) 1 (fun _=>aF (x i))) j=aF (x (Fx.aM τ m i j)):=fun j a=>by
 unfold Fx.iB Fx.bI Fx.aM;by_cases e:j=m
 ·subst e; rw[b_ (by omega),d_ (by omega),d_ rfl]
 ·rw[d_ (by omega),b_ e]
end
end Rt
open Rt
theorem abe{w:World}{B m cap:Nat}{a:Option Addr}{x:Nat->Int}{τ:Nat->Nat}(h:Fx.Own w B 28 1 (.slice a m cap) m (fun q=>aF (x (τ q))))(n:B<=w.heap.size)(p:m<=32) :
 Calls Tryz.prog 93 #[.slice a m cap] w fun e w'=>e = .returned (.tuple #[]) /\ ∃ b:Array Int,b.size=m/\Sort.PermIn 0 m (dT x τ m) b/\Sort.SortedIn Sort.ltInt 0 m b/\Fx.Own w' B 28 1 (.slice a m cap) m (xD b.toList)/\Below B w w' :=
 (aaZ (d:=dT x τ m) (h.congr afe) n NH (by omega)).mono fun e w' ⟨b,c,f,g,i,k,l⟩=>⟨c,b,f,g,i,k.congr fun j o=>abd j (by omega),l⟩
end Go.Proofs.YtahbiajdgealnaaGreatDoor
namespace Go.Proofs.YtahbiajdgealnaaGreatDoor.Fx
open Go.RowKit
section
variable {P:Program} {n0:Nat} {Q:Post} {f:Nat->Value} {w:World} {ops:Array Oper} {rest:List Oper} {o:Oper}
theorem L.lo{T E:TypeId}{x lo:Operand}{a:Option Addr}{B n c s m:Nat}{k:IntKind}{j:Nat}{y:Nat->Value}(u:Region.wanted o (yf ops f)=true)(e:inn n0 o.dst=true)(q:o.op = .slice T x (some lo) none none)(hx:ev f x = .slice a n c)(l:ev f lo = .int k (j:Int))(t:P.underlying T=some (.slice E))(r:(P.info? E).map (·.size)=some s)(H:n=j+m)(C:Own w B E s (.slice a n c) n y)
 (d : ∀ v,ou w v m s (fun p=>y (j*s+p))->L P n0 ops Q rest (put f o.dst (.slice v m (c-j))) w):L P n0 ops Q (o::rest) f w:=by
 by_cases D:n=0
 ·obtain rfl:j=0:=by omega
  obtain rfl:m=0:=by omega
  subst D
  rcases C.2 with ⟨b,_⟩|⟨g,cap,cur,b,_,_,hn,_⟩
  ·simp only[Value.slice.injEq]at b;obtain⟨rfl,_,rfl⟩:=b;obtain⟨i,G,_⟩:=Option.map_eq_some_iff.1 r;refine Lv _ (?_:Runs P f o w (.slice none 0 0)) (d none fun h=>L_ h (Nat.lt_irrefl 0)) u e;unfold Runs execOp;simp only[q,hx,l,Option.map_some,Option.map_none];simp[Instr.sliceAt,Instr.slice,underlying,t,Instr.sliceBounds,Instr.sliceBound,asIntOf,sizeOf,typeInfo,G]
  simp only[Value.slice.injEq]at b;obtain⟨rfl,_,rfl⟩:=b;exact Lv _ (zF (A:=if c=0 then some ⟨g,0,none⟩else some ⟨g,0+0*s,none⟩) (n':=0) (c':=c-0) q hx l t r (z_ _) rfl rfl rfl) (d _ fun h=>L_ h (Nat.lt_irrefl 0)) u e
 obtain⟨g,J,z,K,M,O,F⟩:=C.form (by omega);simp only[Value.slice.injEq]at z;obtain⟨rfl,_,rfl⟩:=z;refine Lv _ (zF (A:=if c=j then some ⟨g,0,none⟩else some ⟨g,0+j*s,none⟩) (n':=m) (c':=c-j) q hx l t r (by omega) rfl (by omega) rfl) (d _ fun N => ?_) u e;rw[b_ (by omega)];refine⟨g,_,rfl,fun p R => ?_⟩;have I:j*s+p<n*s:=by
  have:n*s=j*s+m*s:=by rw[H,Nat.add_mul]
  omega
 have:=F (j*s+p) I;rw[E_]at this;rw[E_]; exact this
theorem Own.aff{B n c s j:Nat}{E:TypeId}{a:Option Addr}{y:Nat->Value}(h:Own w B E s (.slice a n c) n y)(e:j<=n):ou w a j s y:=fun k=>by
 obtain⟨g,i,b,l,m,o,d⟩:=h.form (by omega);simp only[Value.slice.injEq]at b;refine⟨g,0,b.1,fun p f=>d p ?_⟩;exact n_ f (Nat.mul_le_mul_right s e)
theorem Own.weak{B a n s:Nat}{E:TypeId}{v:Value}{y:Nat->Value}(h:Own w B E s v n y)(b:a<=B):Own w a E s v n y:=by
 refine⟨h.1,?_⟩
 rcases h.2 with hn|⟨g,cap,cur,hv,hb,rest⟩
 ·exact .inl hn
 exact .inr ⟨g,cap,cur,hv,m_ b hb,rest⟩
end
end Go.Proofs.YtahbiajdgealnaaGreatDoor.Fx
namespace Go.Proofs.YtahbiajdgealnaaGreatDoor
open Go.RowKit Rt
open Fx (fD eP fJ bD gP gM dD dS gD jB eX jC fU jD je Lv sN Ln Ws Qv Wl Rp Wc Qs Wr Sb Lk Wk rC rV sR Rs Rn Rd Rk Wb Wx Wo Dy Wt qW Qn FM Bc yN zh C9 Dw qo gY zi ng uq uo vO wZ zf Dk Ap rv aC aS bI aM ev cK Stp dH aW flat dA Mp fq aY gX iU bF down iN jO iW ou bK bJ cells_one iP bV xk unseen jK iB bY dM bM bQ cu cB gJ gT qb gQ)
section
open Rt
set_option maxRecDepth 10000
theorem Sz(x p:Nat->Int)(n tp mb:Nat)(w:World)(U:aS w tp 1 (fun _ => .map (some mb)) 135)(R:Mp w mb n x (fun j=>aF (p j)))(h:Bf n x p) :
 Calls Tryz.prog 65 #[(pt tp),.func (.func 66) #[] #[]] w fun e w' => ∃ a c l,e = .returned (.slice a (List.length l) c)/\Fx.Own w' w.heap.size 28 1 (.slice a l.length c) l.length (xD l)/\l.Pairwise (· < ·)/\(∀ k,k∈l<->(dO x n k=true/\True))/\l.length<=32/\Below w.heap.size w w':=by
 have hsm:=h.small;refine Kent Tryz.func65 27 ?_;refine ay<|av (.slice none 0 0)<|aD<|Ws<|ay<|av (pt tp)<|Lv aG (Fx.qG rfl rfl rfl (by kernel_rfl))<|aD<|aL<|Wk<|sN<|Ws<|ay<|av (pt tp)<|av (pt tp)<|av (pt tp)<|Lv (.map (some mb)) (aN U.aI 0)<|Fx.L.range (by rfl) rfl rfl rfl R Tryz.underlying100 fun O w1 mD Z s1 z1 => ?_;have⟨m2,m3,b1⟩:=ku s1.old U R (Below.refl w.heap.size w);have uG:=iE mD;have wO:=Z.lt;refine aD<|Wb ?_;have m4:Fx.Own w1 w.heap.size 28 1 (.slice none 0 0) 0 (fun q=>aF (x ((fun _=>0:Nat->Nat) q))):=wZ _ _ _ _ _;refine Dy (fun kk f g => ∃ m:Nat,∃ τ:Nat->Nat,∃ S:Nat->Bool,∃ a:Option Addr,∃ d:Nat,Rz n (fun i=>(fun k=>True) (x i)) S m τ kk/\f 0=(pt tp)/\f 1 = .func (.func 66) #[] #[]/\f 4 = .slice a (m) (d)/\f 12=(pt O)/\aS g tp 1 (fun _ => .map (some mb)) 135/\Mp g mb n x (fun j=>aF (p j))/\Fx.It g O mb n S/\Fx.Own g w.heap.size 28 1 (.slice a (m) (d)) m (fun q=>aF (x (τ q)))/\Below w.heap.size w g) (unseen (fun _=>false) n) ⟨0,(fun _=>0),(fun _=>false),none,0,(Rz.start n _ _),(by rfl),(by rfl),(by rfl),(by rfl),m2,m3,Z,m4,b1⟩ ?_;rintro kk N w2 ⟨m,τ,S,a,d,r,P,C,D,E,m5,m6,J,m8,o⟩;have hml:=r.le;refine ay<|Fx.L.next (by rfl) rfl rfl E m6 J (fun rA => ?_)<|fun b w3 G T m9 mc1 s2 z2 => ?_
 ·skip
  refine av aG<|aD<|Ws<|aL<|Wx<|cu<|gJ<|cB<|sN<|ay<|aX D<|eB (abe m8 o.size (by omega)) _ rfl ?_;rintro w4 ⟨M,Y,hp2,hs2,aa,hb1⟩;have b3:=o.trans hb1;refine aD<|ay<|aX D<|av (.slice a (m) (d))<|aD<|Wr<|aK (.slice a (m) (d)) ?_;obtain⟨N,f2⟩:=Ph (Q:=fun k=>True) r rA h.inj hp2 hs2 Y;have X:m<=32:=by omega
  rw[show m=M.toList.length by rw[Array.length_toList]; exact Y.symm]at aa X ⊢;exact⟨a,d,M.toList,rfl,aa,N,f2,X,b3⟩
 skip
 have F:=J.Bd s2;have ab:=m5.dQ F;have H:=m6.dQ F (J.rb.symm);have ac:=m8.dQ F;have K:=s2.below o o.size (by omega);refine av aH<|aD<|Ws<|aO<|Wk<|sN<|Wb<|ay<|Lv (.tuple #[aF (x b),aF (p b)]) (Fx.Nz (key:=x) (val:=fun j=>aF (p j)) (i:=b) rfl E H mc1 G)<|av (aF (x b))<|av (aF (x b))<|aD<|ay<|aX C<|av (aF (x b))<|Bc (by rfl) (Fx.Gd (args := [aF (x b)]) rfl rfl rfl (all := #[aF (x b)]) rfl Tryz.func66 rfl rfl) rfl<|(aeG _ _).mono ?_;rintro e v1 ⟨V,hv1⟩;subst v1;refine⟨.bool true,by rw[V],?_⟩;clear V;refine aD<|aO<|Wl<|aX D<|av (aF (x b))<|yN (vs := [(0,aF (x b))]) (s:=1) (zc:=rv .u64 (fun _=>0)) (y:=bI (fun j=>(rv .u64 (fun _=>0)) (j % 1)) (0*1) 1 (fun _=>aF (x b))) (by rfl) rfl rfl Tryz.underlying63 (by kernel_rfl) (by rfl) (by rfl) (by kernel_rfl) (by rw[bF (off:=0*1) (s:=1) (y:=fun _=>aF (x b)) rfl (cells_one (by rfl)) (by rfl)]; rfl) rfl fun g2 w5 z ad s3 z3 => ?_;have⟨m15,m16,I,m19,t⟩:=vP s3.old ab H ac m9 K;have sG:=jI z K.size;have⟨Br,SA⟩:=xM z ab.lt H.lt;have SB:(.slice a (m) (d):Value).ownBlock≠some g2:=by rw[z]; exact ac.jT (z_ _)
 have Bg:=ad.lt;refine zh (B:=w.heap.size) (s:=1) (bytes:=8) (k:=m) (m:=1) (v := .slice a (m) (d)) (x:=fun q=>aF (x (τ q))) (by rfl) rfl rfl rfl Tryz.underlying63 (by kernel_rfl) (by kernel_rfl) rfl rfl I ad.aI (fun j hj=>by unfold bI; split <;> rfl) (by omega) (by omega) (by omega) t.size fun A u w6 ho1 W vU hlt1 => ?_
 have gK:=zi W I;have⟨m21,m22,m24⟩:=FW gK m15 m16 m19;have m20:Fx.Own w6 w.heap.size 28 1 (bL A (m+1) u) (m+1) (fun q=>aF (x (aM τ m b q))):=(ho1.congr WU);have b6:Below w.heap.size w w6:=zf t W t.size (fun q hq=>(I.ge hq).1);refine av (bL A (m+1) u)<|Ln<|bQ ?_
 skip
 refine gT ⟨unseen (aM S b true) n,(by have P:=Fx.ow T n G; have C:=r.kk; omega),m+1,aM τ m b,aM S b true,(some ⟨A,0,none⟩),u,(r.take G T trivial),P,C,(by rfl),E,m21,m22,m24,m20,b6⟩ (by decide)
theorem abf(x p:Nat->Int)(n tp mb:Nat)(w:World)(o:aS w tp 1 (fun _ => .map (some mb)) 135)(m:Mp w mb n x (fun j=>aF (p j)))(h:Bf n x p) :
 Calls Tryz.prog 42 #[(pt tp)] w fun e w' => ∃ a c l,e = .returned (.slice a (List.length l) c)/\Fx.Own w' w.heap.size 28 1 (.slice a l.length c) l.length (xD l)/\l.Pairwise (· < ·)/\(∀ k,k∈l<->(dO x n k=true/\True))/\l.length<=32/\Below w.heap.size w w':=by
 refine Kent Tryz.func42 5 ?_;refine ay<|av (.slice none 0 0)<|aD<|ay<|av (pt tp)<|lS (Sz x p n tp mb _ o m h) ?_;rintro v y ⟨b,d,f,i,u,r,s,t,q⟩;refine⟨_,i,?_⟩;clear i;have g:=bH q (Below.refl w.heap.size w);refine av (.slice b (f.length) (d))<|aD<|Wr<|aK (.slice b (f.length) (d)) ?_;exact⟨b,d,f,rfl,u.weak (by have:=g.size; first|exact z_ _|exact(Below.refl w.heap.size w).size),r,s,t,g⟩
end
end Go.Proofs.YtahbiajdgealnaaGreatDoor
namespace Go.Proofs.YtahbiajdgealnaaGreatDoor
open Go.RowKit Go Rt
set_option linter.unusedVariables false
namespace Rt
structure dK where
 n:Nat
 x:Nat->Int
 p:Nat->Int
def dK.zero:dK:=⟨0,fun _=>0,fun _=>0⟩
def dK.has(T:dK)(k:Int):Bool:=dO T.x T.n k
def dK.par(T:dK)(k:Int):Int:=ig T.x T.p T.n k
def dK.path(T:dK)(k:Int):List Int:=jr T.x T.p T.n 4 k
def dK.err(T:dK)(id pa:Int):Int:=qJ T.x T.p T.n id pa
def dK.put(T:dK)(id pa:Int):dK:=⟨T.n+1,Fx.aM T.x T.n id,Fx.aM T.p T.n pa⟩
def dK.add(T:dK)(id pa:Int):dK:=if T.err id pa=0 then T.put id pa else T
abbrev dK.ok(T:dK):Prop:=Bf T.n T.x T.p
theorem dK.Io{T:dK}(h:T.ok){id pa:Int}(a:0<=id/\id<=18446744073709551615):(T.add id pa).ok:=by
 unfold dK.add;split
 ·rename_i hc; exact Bf.put h hc a
 exact h
structure rD(w:World)(B tp mb:Nat)(T:dK):Prop where
 blk:Fx.aS w tp 1 (fun _ => .map (some mb)) 135
 map:Fx.Mp w mb T.n T.x (fun j => .int .u64 (T.p j))
 inv:T.ok
 gt:B<=tp
 gm:B<=mb
section
variable {w w':World} {B tp mb r:Nat} {T:dK} {id pa k:Int}
theorem rD.up(h:rD w B tp mb T)(a:Below w.heap.size w w'):rD w' B tp mb T:=⟨h.blk.cZ (Fx.Sb a) (t_ h.blk.lt),h.map.up a,h.inv,h.gt,h.gm⟩
instance:Rt.Tr w w' (rD w B tp mb T) (rD w' B tp mb T):=⟨fun b h=>h.up b⟩
theorem rD.jN{a:List TypeId}(h:rD w B tp mb T)(b:Fx.iP a w w')(h1:a.contains 135=false):rD w' B tp mb T:=⟨h.blk.jN b h1,h.map.jN b trivial,h.inv,h.gt,h.gm⟩
instance {a:List TypeId}:Rt.Tc a w w' (rD w B tp mb T) (rD w' B tp mb T) (!(a.contains 135)):=⟨fun b h e=>h.jN b (by simpa using e)⟩
theorem rD.Bd(h:rD w B tp mb T)(a:Fx.Stp mb w w'):Fx.O7 mb w w':=h.map.Bd a
theorem rD.dQ(h:rD w B tp mb T)(a:Fx.O7 r w w')(b:mb≠r):rD w' B tp mb T:=⟨h.blk.dQ a,h.map.dQ a b,h.inv,h.gt,h.gm⟩
theorem rD.weak{a:Nat}(h:rD w B tp mb T)(b:a<=B):rD w a tp mb T:=⟨h.blk,h.map,h.inv,m_ b h.gt,m_ b h.gm⟩
theorem rD.lt(h:rD w B tp mb T):mb<w.heap.size:=h.map.lt
end
end Rt
theorem Zp(w:World):Calls Tryz.prog 39 #[] w fun e w' => ∃ tp mb,e = .returned (.pointer (some ⟨tp,0,none⟩))/\w.heap.size<=mb/\rD w' w.heap.size tp mb dK.zero/\Below w.heap.size w w' :=
 (aeE (fun _=>0) (fun _=>0) w).mono fun e w' ⟨tp,mb,b,c,a,d,f,g⟩=>⟨tp,mb,b,a,⟨d,f,Bf.zero _ _,c,a⟩,g⟩
theorem JY{w:World}{B tp mb:Nat}{T:dK}(id pa:Int)(h:rD w B tp mb T)(i:0<=id/\id<=18446744073709551615) :
 Calls Tryz.prog 172 #[.pointer (some ⟨tp,0,none⟩),.int .u64 id,.int .u64 pa] w fun e w'=>e = .returned (.int .i64 (T.err id pa))/\rD w' B tp mb (T.add id pa)/\Fx.Stp mb w w' :=
 (aeF T.x T.p T.n tp mb id pa w h.blk h.map h.inv).mono fun e w' ⟨c,k,m,l,b,j,d,f,g⟩=>by
  cases j with
  | no a h0 =>
    have a:T.err id pa=c:=a;subst a;refine⟨b,⟨d,?_,dK.Io h.inv i,h.gt,h.gm⟩,g⟩;unfold dK.add;rw[b_ h0]; exact f
  | yes a =>
    have a:T.err id pa=0:=a;refine⟨by rw[a]; exact b,⟨d,?_,dK.Io h.inv i,h.gt,h.gm⟩,g⟩;unfold dK.add;rw[d_ a]; exact f
theorem Zq{w:World}{B tp mb:Nat}{T:dK}(k:Int)(h:rD w B tp mb T) :
 Calls Tryz.prog 106 #[.pointer (some ⟨tp,0,none⟩),.int .u64 k] w fun e w'=>e = .returned (.bool (T.has k))/\w'=w:=En T.x T.p T.n tp mb k w h.blk h.map
def VW(w:World)(B:Nat)(a:Option Addr)(c:Nat)(l:List Int):Prop:=Fx.Own w B 28 1 (.slice a l.length c) l.length (xD l)
theorem VW.up{w w':World}{B c:Nat}{a:Option Addr}{l:List Int}(h:VW w B a c l)(b:Below w.heap.size w w'):VW w' B a c l:=Fx.Own.up h b
instance {w w':World} {B c:Nat} {a:Option Addr} {l:List Int}:Rt.Tr w w' (VW w B a c l) (VW w' B a c l):=⟨fun b h=>h.up b⟩
theorem Iq{w:World}{B tp mb:Nat}{T:dK}(k:Int)(h:rD w B tp mb T) :
 Calls Tryz.prog 49 #[.pointer (some ⟨tp,0,none⟩),.int .u64 k] w fun e w' => ∃ a c,e = .returned (.slice a (T.path k).length c)/\VW w' w.heap.size a c (T.path k)/\Below w.heap.size w w' :=
 LX T.x T.p T.n tp mb 4 k w h.blk h.map h.inv.inj (h.inv.stop k) (h.inv.len k)
theorem SC{w:World}{B tp mb:Nat}{T:dK}(h:rD w B tp mb T) :
 Calls Tryz.prog 42 #[.pointer (some ⟨tp,0,none⟩)] w fun e w' => ∃ a c l,e = .returned (.slice a (List.length l) c)/\VW w' w.heap.size a c l/\(l.Pairwise (· < ·) /\ ∀ k,k∈l<->T.has k=true)/\l.length<=32/\Below w.heap.size w w' :=
 (abf T.x T.p T.n tp mb w h.blk h.map h.inv).mono fun e w' ⟨a,c,l,b,d,f,g,i⟩=>⟨a,c,l,b,d,⟨f,fun k=>by have:=g k; rw[and_true]at this; exact this⟩,i⟩
namespace Rt
section
variable {T U:dK} {id pa k:Int}
structure uM(U T:dK):Prop where
 has : ∀ k,U.has k=true->T.has k=true
 par : ∀ k,U.has k=true->U.par k=T.par k
theorem uM.same(h:uM U T)(hx : ∀ k,T.has k=true->U.has k=true) : ∀ k,U.path k=T.path k:=fun k=>by
 have e : ∀ k,U.has k=T.has k:=fun k=>by
  cases h1:U.has k with
  | true=>exact(h.has k h1).symm
  | false =>
    cases h2:T.has k with
    | false=>rfl
    | true=>rw[hx k h2]at h1; cases h1
 exact Gn e (fun k a=>h.par k (hx k a)) 4 k
theorem dK.jw(T:dK)(id pa k:Int):(T.put id pa).has k=(T.has k || decide (id=k)):=Rt.jw id k
theorem dK.sM(T:dK)(id pa k:Int):(T.put id pa).par k=if id=k then pa else T.par k:=Rt.sM id pa k
end
end Rt
namespace Fx
theorem abg{P:Program}{f:Nat->Value}{w:World}{o:Oper}{T T':TypeId}{x y:Operand}{a b:Nat}(d:o.op = .binOp .or T x y T')(hx:ev f x = .int .u64 (1099511627776*(a:Int)))(hy:ev f y = .int .u64 (b:Int))(ha:a<=8388607)(g:b<1099511627776):Runs P f o w (.int .u64 (1099511627776*(a:Int)+b)) :=
 sI d hx hy (by
  have e:((BitVec.ofInt 64 (1099511627776*(a:Int)) ||| BitVec.ofInt 64 (b:Int)).toNat:Int)=1099511627776*(a:Int)+b:=by
   rw[BitVec.toNat_or,BitVec.toNat_ofInt,BitVec.toNat_ofInt];rw[show((1099511627776*(a:Int)) % ((2^64:Nat):Int)).toNat=1099511627776*a by omega,show((b:Int) % ((2^64:Nat):Int)).toNat=b by omega];have h:=Nat.shiftLeft_add_eq_or_of_lt (i:=40) (b:=b) (by omega) a;rw[Nat.shiftLeft_eq]at h;rw[show 1099511627776*a=a*2^40 by omega,<- h];omega
  have h:=jK (c:=1099511627776*(a:Int)+b) (by omega) rfl;simp only[binOp,Op.intBits];show(pure (Value.int .u64 (IntKind.u64.wrap ((BitVec.ofInt 64 (1099511627776*(a:Int)) ||| BitVec.ofInt 64 (b:Int)).toNat:Int))):Sem Value).run P w=_;rw[e,h]; rfl)
theorem abh{w:World}{B c:Nat}{a:Option Addr}{l:List Int}(h:VW w B a c l):Fx.ou w a l.length 1 (xD l):=Own.aff h (z_ _)
end Fx
end Go.Proofs.YtahbiajdgealnaaGreatDoor
namespace Go.Proofs.YtahbiajdgealnaaGreatDoor
open Go.RowKit Rt
open Fx (fD eP fJ bD gP gM dD dS gD jB eX jC fU jD je Lv sN Ln Ws Qv Wl Rp Wc Qs Wr Sb Lk Wk rC rV sR Rs Rn Rd Rk Wb Wx Wo Dy Wt qW Qn FM Bc yN zh C9 Dw qo gY zi ng uq uo vO wZ zf Dk Ap rv aC aS bI aM ev cK Stp dH aW flat dA Mp fq aY gX iU bF down iN jO iW ou bK bJ cells_one iP bV xk unseen jK iB bY dM bM bQ cu cB gJ gT qb gQ)
namespace Rt
structure EvM where
 o:Int
 seq:Int
 deps:Nat->Int
 kind:Int
 node:Int
 dst:Int
 aU:Int
 req:Int
 of:Int
def bS(v:EvM):Nat->Value:=fun p=>if p=0 then au v.o else if p=1 then aF v.seq else if p<8 then aF (v.deps (p-2))else if p=8 then .int .u8 v.kind else if p=9 then aF v.node else if p=10 then au v.dst else if p=11 then au v.aU else if p=12 then aF v.req else aF v.of
theorem lW(v:EvM){p j:Nat}(h:p=j+2)(a:j<6):bS v p=aF (v.deps j):=by
 subst h; unfold bS; rw[b_ (by omega),b_ (by omega),d_ (by omega),show j+2-2=j by omega]
theorem iK(v:EvM) : ∀ j,j<14->(bS v j).oneCell'=true:=fun j _=>by unfold bS; repeat (first|rfl|split)
def pI(i:Int):Bool:=decide (1<=i)&&decide (i<=6)
def kM(v:EvM):EvM :=
 if v.kind=1 then { v with dst:=0,req:=0,of:=0 } else if v.kind=2 then { v with dst:=0,req:=0,of:=0 } else if v.kind=3 then { v with dst:=0,of:=0 }
 else if v.kind=4 then { v with node:=0,dst:=0,aU:=0 } else if v.kind=5 then { v with req:=0,of:=0 } else if v.kind=6 then { v with node:=0,aU:=0,req:=0,of:=0 }
 else { v with node:=0,dst:=0,aU:=0,req:=0,of:=0 }
def someE(v:EvM):Bool:=decide (1<=v.aU)&&decide (v.aU<=1125899906842624)
def lK(v:EvM):Bool:=pI v.dst && !decide (v.dst=v.o)
def dJ(v:EvM):Bool :=
 if v.kind=1 then decide (0<=v.aU)&&decide (v.aU<=1125899906842624)else if v.kind=2 then someE v else if v.kind=3 then someE v&&decide (1<=v.req)
 else if v.kind=4 then decide (1<=v.req)&&decide (1<=v.of) && !decide (v.req=v.of)else if v.kind=5 then someE v&&lK v else if v.kind=6 then lK v else decide (v.kind=7)
end Rt
theorem Ay(n:Int)(w:World) :
 Calls Tryz.prog 75 #[au n] w fun e w'=>e = .returned (.bool (pI n))/\w'=w:=by
 refine Kent Tryz.func75 9 ?_;refine ay<|av aG<|aD<|ay<|av (au n) ?_;by_cases a:1<=n
 ·refine Lv aH (ko a)<|av aH<|av (au n) ?_;by_cases b:n<=6
  ·refine Lv aH (nD b)<|av aH<|av aH<|aD<|Wr<|aK aH ?_;exact⟨gZ (by simp only[pI]; first|(symm; simp; omega)|(symm; simp; done)),rfl⟩
  refine Lv aG (nT b)<|av aG<|av aG<|aD<|Wr<|aK aG ?_;exact⟨gZ (by simp only[pI]; first|(symm; simp; omega)|(symm; simp; done)),rfl⟩
 refine Lv aG (jU a)<|av aG<|dB<|dB<|av aG<|av aG<|aD<|Wr<|aK aG ?_;exact⟨gZ (by simp only[pI]; first|(symm; simp; omega)|(symm; simp; done)),rfl⟩
theorem afg(v:EvM)(w:World) :
 Calls Tryz.prog 76 #[.agg (aC 14 (bS v))] w fun e w'=>e = .returned (.agg (aC 14 (bS (kM v))))/\Below w.heap.size w w':=by
 refine Kent Tryz.func76 60 ?_;refine ay<|rU fun b w1 mD x s1 z1 => ?_;have U:=bH s1.old (Below.refl w.heap.size w);have uG:=iE mD;have wO:=x.lt;refine xg 14 (fun i=>(#[au 0,aF 0,aF 0,aF 0,aF 0,aF 0,aF 0,aF 0,.int .u8 (0),aF 0,au 0,au 0,aF 0,aF 0]:Array Value).getD i undef) fun m w2 yA y s2 z2 => ?_;have⟨s,b2⟩:=fC s2.old x U;have sG:=jI yA U.size;have NI:=cO yA x.lt;have Bg:=y.lt;refine aD<|ay<|av (pt b)<|Lv (au v.o) (aN s.aI 0)<|av (pf b 1)<|Lv (aF v.seq) (aN s.aI 1)<|av (pf b 2)<|Lv (.agg (aC 6 (rv .u64 v.deps))) (gI s.aI 2 (fun j c=>lW _ (by omega) c))<|av (pf b 8)<|Lv (.int .u8 (v.kind)) (aN s.aI 8)<|av (.agg (aC 14 (bI (bI (bI (bI (fun i=>(#[au 0,aF 0,aF 0,aF 0,aF 0,aF 0,aF 0,aF 0,.int .u8 (0),aF 0,au 0,au 0,aF 0,aF 0]:Array Value).getD i undef) 0 1 (fun _=>au v.o)) 1 1 (fun _=>aF v.seq)) 2 6 (rv .u64 v.deps)) 8 1 (fun _ => .int .u8 (v.kind)))))<|xg 14 (fun i=>(#[au 0,aF 0,aF 0,aF 0,aF 0,aF 0,aF 0,aF 0,.int .u8 (0),aF 0,au 0,au 0,aF 0,aF 0]:Array Value).getD i undef) fun a w3 zN m4 s3 z3 => ?_;have⟨m5,m6,b3⟩:=ku s3.old s y b2;have Eo:=jI zN b2.size;have⟨afh,aqv⟩:=xM zN s.lt y.lt;have Ma:=m4.lt;refine fH m4 0 (h1:=(fun j c=>by rcases j with _|_|_|_|_|_|_|_|_|_|_|_|_|_|j <;> first|rfl|omega)) fun w4 m7 O z4 => ?_
 have m8:aS w4 a 14 (bI (bI (bI (bI (fun i=>(#[au 0,aF 0,aF 0,aF 0,aF 0,aF 0,aF 0,aF 0,.int .u8 (0),aF 0,au 0,au 0,aF 0,aF 0]:Array Value).getD i undef) 0 1 (fun _=>au v.o)) 1 1 (fun _=>aF v.seq)) 2 6 (rv .u64 v.deps)) 8 1 (fun _ => .int .u8 (v.kind))) 32:=aW m7;have k:aS w4 a 14 (bS ⟨v.o,v.seq,v.deps,v.kind,0,0,0,0,0⟩) 32:=m8.congr (fun j c=>by rcases j with _|_|_|_|_|_|_|_|_|_|_|_|_|_|j <;> first|rfl|omega)
 have f:=m5.cZ O (by omega);have n:=m6.cZ O (by omega);have d:=O.below b3 b3.size (by omega);refine aD<|Ws<|ay<|av (pf b 8)<|Lv (.int .u8 (v.kind)) (aN f.aI 8)<|aD<|Wb<|Ws<|ay ?_;by_cases g:v.kind=1
 ·refine Lv aH (eZ g)<|av aH<|aD<|aO<|Wk<|sN<|aO<|ay<|av (pf b 9)<|Lv (aF v.node) (aN f.aI 9)<|av (pf a 9)<|jm k 9 (aF v.node) fun w5 m12 P z5 => ?_;have m13:aS w5 a 14 (bS ⟨v.o,v.seq,v.deps,v.kind,v.node,0,0,0,0⟩) 32:=m12.congr (fun j c=>by rcases j with _|_|_|_|_|_|_|_|_|_|_|_|_|_|j <;> first|rfl|omega)
  have m14:=f.cZ P (by omega);have m15:=n.cZ P (by omega);have b5:=P.below d d.size (by omega);refine aD<|Wl<|av (pf b 11)<|Lv (au v.aU) (aN m14.aI 11)<|av (pf a 11)<|jm m13 11 (au v.aU) fun w6 m16 Q z6 => ?_;have m17:aS w6 a 14 (bS ⟨v.o,v.seq,v.deps,v.kind,v.node,0,v.aU,0,0⟩) 32:=m16.congr (fun j c=>by rcases j with _|_|_|_|_|_|_|_|_|_|_|_|_|_|j <;> first|rfl|omega)
  have m18:=m14.cZ Q (by omega);have m19:=m15.cZ Q (by omega);have b6:=Q.below b5 b5.size (by omega);refine Ln<|bQ<|sN<|ay<|Lv (.agg (aC 14 (bS ⟨v.o,v.seq,v.deps,v.kind,v.node,0,v.aU,0,0⟩))) (gI m17.aI 0)<|fH m19 0 (h1:=(iK _)) fun w7 m20 R z7 => ?_;have m21:aS w7 m 14 (bS ⟨v.o,v.seq,v.deps,v.kind,v.node,0,v.aU,0,0⟩) 32:=aW m20;have m22:=m18.cZ R (by omega);have m23:=m17.cZ R (by omega);have b7:=R.below b6 b6.size (by omega);refine aD (Wr (⟨.agg (aC 14 (bS ⟨v.o,v.seq,v.deps,v.kind,v.node,0,v.aU,0,0⟩)),rV Tryz.results76 ⟨_,rfl,aY m21.aI (by kernel_rfl) (by kernel_rfl)⟩,?_⟩));refine⟨K_ (fun q=>Ending.returned (Value.agg q)) (Fx.eU fun i r => ?_),b7⟩;unfold kM; rw[d_ g]
 refine Lv aG (fM g)<|av aG<|aD<|aL<|Wl ?_;by_cases h:v.kind=2
 ·refine Lv aH (eZ h)<|av aH<|aD<|aO<|ay<|av (pf b 9)<|Lv (aF v.node) (aN f.aI 9)<|av (pf a 9)<|jm k 9 (aF v.node) fun w8 m24 S z8 => ?_;have ni:aS w8 a 14 (bS ⟨v.o,v.seq,v.deps,v.kind,v.node,0,0,0,0⟩) 32:=m24.congr (fun j c=>by rcases j with _|_|_|_|_|_|_|_|_|_|_|_|_|_|j <;> first|rfl|omega)
  have nZ:=f.cZ S (by omega);have oz:=n.cZ S (by omega);have b8:=S.below d d.size (by omega);refine aD<|Wl<|av (pf b 11)<|Lv (au v.aU) (aN nZ.aI 11)<|av (pf a 11)<|jm ni 11 (au v.aU) fun w9 og T z9 => ?_;have oC:aS w9 a 14 (bS ⟨v.o,v.seq,v.deps,v.kind,v.node,0,v.aU,0,0⟩) 32:=og.congr (fun j c=>by rcases j with _|_|_|_|_|_|_|_|_|_|_|_|_|_|j <;> first|rfl|omega)
  have pE:=nZ.cZ T (by omega);have mE:=oz.cZ T (by omega);have b9:=T.below b8 b8.size (by omega);refine Ln<|bQ<|sN<|ay<|Lv (.agg (aC 14 (bS ⟨v.o,v.seq,v.deps,v.kind,v.node,0,v.aU,0,0⟩))) (gI oC.aI 0)<|fH mE 0 (h1:=(iK _)) fun sQ m32 z z10 => ?_;have qh:aS sQ m 14 (bS ⟨v.o,v.seq,v.deps,v.kind,v.node,0,v.aU,0,0⟩) 32:=aW m32;have oN:=pE.cZ z (by omega);have pW:=oC.cZ z (by omega);have b10:=z.below b9 b9.size (by omega);refine aD (Wr (⟨.agg (aC 14 (bS ⟨v.o,v.seq,v.deps,v.kind,v.node,0,v.aU,0,0⟩)),rV Tryz.results76 ⟨_,rfl,aY qh.aI (by kernel_rfl) (by kernel_rfl)⟩,?_⟩));refine⟨K_ (fun q=>Ending.returned (Value.agg q)) (Fx.eU fun i r => ?_),b10⟩;unfold kM; rw[b_ g,d_ h]
 refine Lv aG (fM h)<|av aG<|aD<|aL<|ay ?_;by_cases l:v.kind=3
 ·refine Lv aH (eZ l)<|av aH<|aD<|aO<|ay<|av (pf b 9)<|Lv (aF v.node) (aN f.aI 9)<|av (pf a 9)<|jm k 9 (aF v.node) fun FP qx A z11 => ?_;have rW:aS FP a 14 (bS ⟨v.o,v.seq,v.deps,v.kind,v.node,0,0,0,0⟩) 32:=qx.congr (fun j c=>by rcases j with _|_|_|_|_|_|_|_|_|_|_|_|_|_|j <;> first|rfl|omega)
  have qy:=f.cZ A (by omega);have pF:=n.cZ A (by omega);have V:=A.below d d.size (by omega);refine aD<|ay<|av (pf b 11)<|Lv (au v.aU) (aN qy.aI 11)<|av (pf a 11)<|jm rW 11 (au v.aU) fun Ag sj B z12 => ?_;have nk:aS Ag a 14 (bS ⟨v.o,v.seq,v.deps,v.kind,v.node,0,v.aU,0,0⟩) 32:=sj.congr (fun j c=>by rcases j with _|_|_|_|_|_|_|_|_|_|_|_|_|_|j <;> first|rfl|omega)
  have mV:=qy.cZ B (by omega);have nu:=pF.cZ B (by omega);have W:=B.below V V.size (by omega);refine aD<|Wl<|av (pf b 12)<|Lv (aF v.req) (aN mV.aI 12)<|av (pf a 12)<|jm nk 12 (aF v.req) fun FZ rX C z13 => ?_;have qK:aS FZ a 14 (bS ⟨v.o,v.seq,v.deps,v.kind,v.node,0,v.aU,v.req,0⟩) 32:=rX.congr (fun j c=>by rcases j with _|_|_|_|_|_|_|_|_|_|_|_|_|_|j <;> first|rfl|omega)
  have nU:=mV.cZ C (by omega);have ru:=nu.cZ C (by omega);have X:=C.below W W.size (by omega);refine Ln<|bQ<|sN<|ay<|Lv (.agg (aC 14 (bS ⟨v.o,v.seq,v.deps,v.kind,v.node,0,v.aU,v.req,0⟩))) (gI qK.aI 0)<|fH ru 0 (h1:=(iK _)) fun Gt xq D z14 => ?_;have su:aS Gt m 14 (bS ⟨v.o,v.seq,v.deps,v.kind,v.node,0,v.aU,v.req,0⟩) 32:=aW xq;have sS:=nU.cZ D (by omega);have vw:=qK.cZ D (by omega);have b14:=D.below X X.size (by omega);refine aD (Wr (⟨.agg (aC 14 (bS ⟨v.o,v.seq,v.deps,v.kind,v.node,0,v.aU,v.req,0⟩)),rV Tryz.results76 ⟨_,rfl,aY su.aI (by kernel_rfl) (by kernel_rfl)⟩,?_⟩));refine⟨K_ (fun q=>Ending.returned (Value.agg q)) (Fx.eU fun i r => ?_),b14⟩;unfold kM; rw[b_ g,b_ h,d_ l]
 refine Lv aG (fM l)<|av aG<|aD<|aL<|ay ?_;by_cases p:v.kind=4
 ·refine Lv aH (eZ p)<|av aH<|aD<|aO<|ay<|av (pf b 12)<|Lv (aF v.req) (aN f.aI 12)<|av (pf a 12)<|jm k 12 (aF v.req) fun L9 uH E z15 => ?_;have uh:aS L9 a 14 (bS ⟨v.o,v.seq,v.deps,v.kind,0,0,0,v.req,0⟩) 32:=uH.congr (fun j c=>by rcases j with _|_|_|_|_|_|_|_|_|_|_|_|_|_|j <;> first|rfl|omega)
  have uI:=f.cZ E (by omega);have wR:=n.cZ E (by omega);have Y:=E.below d d.size (by omega);refine aD<|Wl<|av (pf b 13)<|Lv (aF v.of) (aN uI.aI 13)<|av (pf a 13)<|jm uh 13 (aF v.of) fun w16 tL F z16 => ?_;have rY:aS w16 a 14 (bS ⟨v.o,v.seq,v.deps,v.kind,0,0,0,v.req,v.of⟩) 32:=tL.congr (fun j c=>by rcases j with _|_|_|_|_|_|_|_|_|_|_|_|_|_|j <;> first|rfl|omega)
  have rz:=uI.cZ F (by omega);have wS:=wR.cZ F (by omega);have Z:=F.below Y Y.size (by omega);refine Ln<|bQ<|sN<|ay<|Lv (.agg (aC 14 (bS ⟨v.o,v.seq,v.deps,v.kind,0,0,0,v.req,v.of⟩))) (gI rY.aI 0)<|fH wS 0 (h1:=(iK _)) fun RV pG G z17 => ?_;have uJ:aS RV m 14 (bS ⟨v.o,v.seq,v.deps,v.kind,0,0,0,v.req,v.of⟩) 32:=aW pG;have nS:=rz.cZ G (by omega);have sw:=rY.cZ G (by omega);have b17:=G.below Z Z.size (by omega);refine aD (Wr (⟨.agg (aC 14 (bS ⟨v.o,v.seq,v.deps,v.kind,0,0,0,v.req,v.of⟩)),rV Tryz.results76 ⟨_,rfl,aY uJ.aI (by kernel_rfl) (by kernel_rfl)⟩,?_⟩));refine⟨K_ (fun q=>Ending.returned (Value.agg q)) (Fx.eU fun i r => ?_),b17⟩;unfold kM; rw[b_ g,b_ h,b_ l,d_ p]
 refine Lv aG (fM p)<|av aG<|aD<|aL<|ay ?_;by_cases t:v.kind=5
 ·refine Lv aH (eZ t)<|av aH<|aD<|aO<|ay<|av (pf b 9)<|Lv (aF v.node) (aN f.aI 9)<|av (pf a 9)<|jm k 9 (aF v.node) fun RX m64 H z18 => ?_;have vV:aS RX a 14 (bS ⟨v.o,v.seq,v.deps,v.kind,v.node,0,0,0,0⟩) 32:=m64.congr (fun j c=>by rcases j with _|_|_|_|_|_|_|_|_|_|_|_|_|_|j <;> first|rfl|omega)
  have vE:=f.cZ H (by omega);have vW:=n.cZ H (by omega);have aa:=H.below d d.size (by omega);refine aD<|ay<|av (pf b 11)<|Lv (au v.aU) (aN vE.aI 11)<|av (pf a 11)<|jm vV 11 (au v.aU) fun w19 vX I z19 => ?_;have qz:aS w19 a 14 (bS ⟨v.o,v.seq,v.deps,v.kind,v.node,0,v.aU,0,0⟩) 32:=vX.congr (fun j c=>by rcases j with _|_|_|_|_|_|_|_|_|_|_|_|_|_|j <;> first|rfl|omega)
  have sD:=vE.cZ I (by omega);have sU:=vW.cZ I (by omega);have ab:=I.below aa aa.size (by omega);refine aD<|Wl<|av (pf b 10)<|Lv (au v.dst) (aN sD.aI 10)<|av (pf a 10)<|jm qz 10 (au v.dst) fun VT sF J z20 => ?_;have sV:aS VT a 14 (bS ⟨v.o,v.seq,v.deps,v.kind,v.node,v.dst,v.aU,0,0⟩) 32:=sF.congr (fun j c=>by rcases j with _|_|_|_|_|_|_|_|_|_|_|_|_|_|j <;> first|rfl|omega)
  have xu:=sD.cZ J (by omega);have uK:=sU.cZ J (by omega);have b20:=J.below ab ab.size (by omega);refine Ln<|bQ<|sN<|ay<|Lv (.agg (aC 14 (bS ⟨v.o,v.seq,v.deps,v.kind,v.node,v.dst,v.aU,0,0⟩))) (gI sV.aI 0)<|fH uK 0 (h1:=(iK _)) fun w21 wT K z21 => ?_;have wU:aS w21 m 14 (bS ⟨v.o,v.seq,v.deps,v.kind,v.node,v.dst,v.aU,0,0⟩) 32:=aW wT;have xw:=xu.cZ K (by omega);have wV:=sV.cZ K (by omega);have L8:=K.below b20 b20.size (by omega);refine aD (Wr (⟨.agg (aC 14 (bS ⟨v.o,v.seq,v.deps,v.kind,v.node,v.dst,v.aU,0,0⟩)),rV Tryz.results76 ⟨_,rfl,aY wU.aI (by kernel_rfl) (by kernel_rfl)⟩,?_⟩));refine⟨K_ (fun q=>Ending.returned (Value.agg q)) (Fx.eU fun i r => ?_),L8⟩;unfold kM; rw[b_ g,b_ h,b_ l,b_ p,d_ t]
 refine Lv aG (fM t)<|av aG<|aD<|aL<|ay ?_;by_cases u:v.kind=6
 ·refine Lv aH (eZ u)<|av aH<|aD<|aO<|Wl<|av (pf b 10)<|Lv (au v.dst) (aN f.aI 10)<|av (pf a 10)<|jm k 10 (au v.dst) fun w22 vY L z22 => ?_;have uL:aS w22 a 14 (bS ⟨v.o,v.seq,v.deps,v.kind,0,v.dst,0,0,0⟩) 32:=vY.congr (fun j c=>by rcases j with _|_|_|_|_|_|_|_|_|_|_|_|_|_|j <;> first|rfl|omega)
  have wW:=f.cZ L (by omega);have yR:=n.cZ L (by omega);have Lj:=L.below d d.size (by omega);refine Ln<|bQ<|sN<|ay<|Lv (.agg (aC 14 (bS ⟨v.o,v.seq,v.deps,v.kind,0,v.dst,0,0,0⟩))) (gI uL.aI 0)<|fH yR 0 (h1:=(iK _)) fun w23 xA M z23 => ?_;have zu:aS w23 m 14 (bS ⟨v.o,v.seq,v.deps,v.kind,0,v.dst,0,0,0⟩) 32:=aW xA;have zL:=wW.cZ M (by omega);have zw:=uL.cZ M (by omega);have WK:=M.below Lj Lj.size (by omega);refine aD (Wr (⟨.agg (aC 14 (bS ⟨v.o,v.seq,v.deps,v.kind,0,v.dst,0,0,0⟩)),rV Tryz.results76 ⟨_,rfl,aY zu.aI (by kernel_rfl) (by kernel_rfl)⟩,?_⟩));refine⟨K_ (fun q=>Ending.returned (Value.agg q)) (Fx.eU fun i r => ?_),WK⟩;unfold kM; rw[b_ g,b_ h,b_ l,b_ p,b_ t,d_ u]
 refine Lv aG (fM u)<|av aG<|aD<|aL<|Wk<|bQ<|sN<|ay<|Lv (.agg (aC 14 (bS ⟨v.o,v.seq,v.deps,v.kind,0,0,0,0,0⟩))) (gI k.aI 0)<|fH n 0 (h1:=(iK _)) fun w24 yS N z24 => ?_;have yT:aS w24 m 14 (bS ⟨v.o,v.seq,v.deps,v.kind,0,0,0,0,0⟩) 32:=aW yS;have zM:=f.cZ N (by omega);have Dm:=k.cZ N (by omega);have WL:=N.below d d.size (by omega);refine aD (Wr (⟨.agg (aC 14 (bS ⟨v.o,v.seq,v.deps,v.kind,0,0,0,0,0⟩)),rV Tryz.results76 ⟨_,rfl,aY yT.aI (by kernel_rfl) (by kernel_rfl)⟩,?_⟩));refine⟨K_ (fun q=>Ending.returned (Value.agg q)) (Fx.eU fun i r => ?_),WL⟩;unfold kM; rw[b_ g,b_ h,b_ l,b_ p,b_ t,b_ u]
set_option linter.unusedSimpArgs false in
set_option maxHeartbeats 2000000 in
theorem JZ(v:EvM)(w:World) :
 Calls Tryz.prog 77 #[.agg (aC 14 (bS v))] w fun e w'=>e = .returned (.bool (dJ v))/\Below w.heap.size w w':=by
 refine Kent Tryz.func77 75 ?_;refine ay<|rU fun g S M B N V => ?_;have I:=bH N.old (Below.refl w.heap.size w);have Q:=iE M;have R:=B.lt;refine av aG<|aD<|Dk (fun f F=>f 1=(pt g)/\f 3 = .bool (someE v)/\aS F g 14 (bS v) 32/\Below w.heap.size w F) ?_ ?_
 ·refine Wl<|av (pf g 11)<|Lv (au v.aU) (aN B.aI 11) ?_;by_cases D:1<=v.aU
  ·refine Lv aH (ko D)<|av aH<|av (pf g 11)<|Lv (au v.aU) (aN B.aI 11) ?_;by_cases G:v.aU<=1125899906842624
   ·refine Lv aH (nD G)<|av aH<|av aH<|Ln ?_;exact xk ⟨(by rfl),(by show Value.bool true=Value.bool (someE v); unfold someE; rw[f_ D,f_ G]; rfl),B,I⟩
   refine Lv aG (nT G)<|av aG<|av aG<|Ln ?_;exact xk ⟨(by rfl),(by show Value.bool false=Value.bool (someE v); unfold someE; rw[f_ D,g_ G]; rfl),B,I⟩
  refine Lv aG (jU D)<|av aG<|dB<|dB<|dB<|av aG<|av aG<|Ln ?_;exact xk ⟨(by rfl),(by show Value.bool false=Value.bool (someE v); unfold someE; rw[g_ D]; rfl),B,I⟩
 rintro O T ⟨A,K,C,J⟩;refine Dk (fun f F=>f 1=(pt g)/\f 3 = .bool (someE v)/\f 4 = .bool (lK v)/\aS F g 14 (bS v) 32/\Below w.heap.size w F) ?_ ?_
 ·refine Wl<|Lv (pf g 10) (iV A 10)<|Lv (au v.dst) (aN C.aI 10) ?_;by_cases t:(pI v.dst)=true
  ·refine lU (Ay v.dst _) aH (by rw[t])<|av aH<|Lv (pf g 10) (iV A 10)<|Lv (au v.dst) (aN C.aI 10)<|Lv (pt g) (iV A 0)<|Lv (au v.o) (aN C.aI 0) ?_;by_cases H:v.dst=v.o
   ·refine Lv aG (kr H)<|av aG<|av aG<|Ln ?_;exact xk ⟨A,K,(by show Value.bool false=Value.bool (lK v); unfold lK; rw[t,f_ H]; rfl),C,J⟩
   refine Lv aH (nE H)<|av aH<|av aH<|Ln ?_;exact xk ⟨A,K,(by show Value.bool true=Value.bool (lK v); unfold lK; rw[t,g_ H]; rfl),C,J⟩
  rw[S_]at t;refine lU (Ay v.dst _) aG (by rw[t])<|av aG<|dB<|dB<|dB<|dB<|dB<|av aG<|av aG<|Ln ?_;exact xk ⟨A,K,(by show Value.bool false=Value.bool (lK v); unfold lK; rw[t]; rfl),C,J⟩
 rintro P U ⟨m,E,L,n,h⟩;refine Ws<|ay<|Lv (pf g 8) (iV m 8)<|Lv (.int .u8 (v.kind)) (aN n.aI 8)<|aD<|Wb<|ay ?_;by_cases a:v.kind=1
 ·refine Lv aH (eZ a)<|av aH<|aD<|aO<|ay<|Lv (pf g 11) (iV m 11)<|Lv (au v.aU) (aN n.aI 11) ?_;by_cases p:0<=v.aU
  ·refine Lv aH (ko p)<|av aH<|Lv (pf g 11) (iV m 11)<|Lv (au v.aU) (aN n.aI 11) ?_;by_cases u:v.aU<=1125899906842624
   ·refine Lv aH (nD u)<|av aH<|av aH<|aD<|Wr<|bM<|sR<|aK aH ?_;exact⟨gZ (Eq.symm (by unfold dJ; first|(rw[d_ a]; done)|(rw[d_ a]; first|(simp[p,u]; done)|(simp[p,u]; omega)))),h⟩
   refine Lv aG (nT u)<|av aG<|av aG<|aD<|Wr<|bM<|sR<|aK aG ?_;exact⟨gZ (Eq.symm (by unfold dJ; first|(rw[d_ a]; done)|(rw[d_ a]; first|(simp[p,u]; done)|(simp[p,u]; omega)))),h⟩
  refine Lv aG (jU p)<|av aG<|dB<|dB<|dB<|av aG<|av aG<|aD<|Wr<|bM<|sR<|aK aG ?_;exact⟨gZ (Eq.symm (by unfold dJ; first|(rw[d_ a]; done)|(rw[d_ a]; first|(simp[p]; done)|(simp[p]; omega)))),h⟩
 refine Lv aG (fM a)<|av aG<|aD<|aL<|ay ?_;by_cases b:v.kind=2
 ·refine Lv aH (eZ b)<|av aH<|aD<|aO<|ay<|aX E<|av (.bool (someE v))<|aD<|Wr<|bM<|sR<|aK (.bool (someE v)) ?_;exact⟨gZ (Eq.symm (by unfold dJ; first|(rw[b_ a,d_ b]; done)|(rw[b_ a,d_ b]; first|(simp[]; done)|(simp[]; omega)))),h⟩
 refine Lv aG (fM b)<|av aG<|aD<|aL<|ay ?_;by_cases c:v.kind=3
 ·refine Lv aH (eZ c)<|av aH<|aD<|aO<|ay ?_;by_cases k:(someE v)=true
  ·refine aX (E.trans (K_ Value.bool k))<|av aH<|Lv (pf g 12) (iV m 12)<|Lv (aF v.req) (aN n.aI 12) ?_;by_cases x:1<=v.req
   ·refine Lv aH (ko x)<|av aH<|av aH<|aD<|Wr<|bM<|sR<|aK aH ?_;exact⟨gZ (Eq.symm (by unfold dJ; first|(rw[b_ a,b_ b,d_ c]; done)|(rw[b_ a,b_ b,d_ c]; first|(simp[k,x]; done)|(simp[k,x]; omega)))),h⟩
   refine Lv aG (jU x)<|av aG<|av aG<|aD<|Wr<|bM<|sR<|aK aG ?_;exact⟨gZ (Eq.symm (by unfold dJ; first|(rw[b_ a,b_ b,d_ c]; done)|(rw[b_ a,b_ b,d_ c]; first|(simp[k,x]; done)|(simp[k,x]; omega)))),h⟩
  rw[S_]at k;refine aX (E.trans (K_ Value.bool k))<|av aG<|dB<|dB<|dB<|av aG<|av aG<|aD<|Wr<|bM<|sR<|aK aG ?_;exact⟨gZ (Eq.symm (by unfold dJ; first|(rw[b_ a,b_ b,d_ c]; done)|(rw[b_ a,b_ b,d_ c]; first|(simp[k]; done)|(simp[k]; omega)))),h⟩
 refine Lv aG (fM c)<|av aG<|aD<|aL<|ay ?_;by_cases d:v.kind=4
 ·refine Lv aH (eZ d)<|av aH<|aD<|aO<|ay<|Lv (pf g 12) (iV m 12)<|Lv (aF v.req) (aN n.aI 12) ?_;by_cases j:1<=v.req
  ·refine Lv aH (ko j)<|av aH<|Lv (pf g 13) (iV m 13)<|Lv (aF v.of) (aN n.aI 13) ?_;by_cases q:1<=v.of
   ·refine Lv aH (ko q)<|av aH<|av aH<|Lv (pf g 12) (iV m 12)<|Lv (aF v.req) (aN n.aI 12)<|Lv (pf g 13) (iV m 13)<|Lv (aF v.of) (aN n.aI 13) ?_;by_cases y:v.req=v.of
    ·refine Lv aG (kr y)<|av aG<|av aG<|aD<|Wr<|bM<|sR<|aK aG ?_;exact⟨gZ (Eq.symm (by unfold dJ; first|(rw[b_ a,b_ b,b_ c,d_ d]; done)|(rw[b_ a,b_ b,b_ c,d_ d]; first|(simp[j,q,y]; done)|(simp[j,q,y]; omega)))),h⟩
    refine Lv aH (nE y)<|av aH<|av aH<|aD<|Wr<|bM<|sR<|aK aH ?_;exact⟨gZ (Eq.symm (by unfold dJ; first|(rw[b_ a,b_ b,b_ c,d_ d]; done)|(rw[b_ a,b_ b,b_ c,d_ d]; first|(simp[j,q,y]; done)|(simp[j,q,y]; omega)))),h⟩
   refine Lv aG (jU q)<|av aG<|av aG<|dB<|dB<|dB<|dB<|dB<|av aG<|av aG<|aD<|Wr<|bM<|sR<|aK aG ?_;exact⟨gZ (Eq.symm (by unfold dJ; first|(rw[b_ a,b_ b,b_ c,d_ d]; done)|(rw[b_ a,b_ b,b_ c,d_ d]; first|(simp[j,q]; done)|(simp[j,q]; omega)))),h⟩
  refine Lv aG (jU j)<|av aG<|dB<|dB<|dB<|av aG<|av aG<|dB<|dB<|dB<|dB<|dB<|av aG<|av aG<|aD<|Wr<|bM<|sR<|aK aG ?_;exact⟨gZ (Eq.symm (by unfold dJ; first|(rw[b_ a,b_ b,b_ c,d_ d]; done)|(rw[b_ a,b_ b,b_ c,d_ d]; first|(simp[j]; done)|(simp[j]; omega)))),h⟩
 refine Lv aG (fM d)<|av aG<|aD<|aL<|ay ?_;by_cases i:v.kind=5
 ·refine Lv aH (eZ i)<|av aH<|aD<|aO<|ay ?_;by_cases l:(someE v)=true
  ·refine aX (E.trans (K_ Value.bool l))<|av aH ?_;by_cases s:(lK v)=true
   ·refine aX (L.trans (K_ Value.bool s))<|av aH<|av aH<|aD<|Wr<|bM<|sR<|aK aH ?_;exact⟨gZ (Eq.symm (by unfold dJ; first|(rw[b_ a,b_ b,b_ c,b_ d,d_ i]; done)|(rw[b_ a,b_ b,b_ c,b_ d,d_ i]; first|(simp[l,s]; done)|(simp[l,s]; omega)))),h⟩
   rw[S_]at s;refine aX (L.trans (K_ Value.bool s))<|av aG<|av aG<|aD<|Wr<|bM<|sR<|aK aG ?_;exact⟨gZ (Eq.symm (by unfold dJ; first|(rw[b_ a,b_ b,b_ c,b_ d,d_ i]; done)|(rw[b_ a,b_ b,b_ c,b_ d,d_ i]; first|(simp[l,s]; done)|(simp[l,s]; omega)))),h⟩
  rw[S_]at l;refine aX (E.trans (K_ Value.bool l))<|av aG<|dB<|av aG<|av aG<|aD<|Wr<|bM<|sR<|aK aG ?_;exact⟨gZ (Eq.symm (by unfold dJ; first|(rw[b_ a,b_ b,b_ c,b_ d,d_ i]; done)|(rw[b_ a,b_ b,b_ c,b_ d,d_ i]; first|(simp[l]; done)|(simp[l]; omega)))),h⟩
 refine Lv aG (fM i)<|av aG<|aD<|aL<|ay ?_;by_cases r:v.kind=6
 ·refine Lv aH (eZ r)<|av aH<|aD<|aO<|ay<|aX L<|av (.bool (lK v))<|aD<|Wr<|bM<|sR<|aK (.bool (lK v)) ?_;exact⟨gZ (Eq.symm (by unfold dJ; first|(rw[b_ a,b_ b,b_ c,b_ d,b_ i,d_ r]; done)|(rw[b_ a,b_ b,b_ c,b_ d,b_ i,d_ r]; first|(simp[]; done)|(simp[]; omega)))),h⟩
 refine Lv aG (fM r)<|av aG<|aD<|aL<|Wk<|bQ<|sN<|ay<|Lv (pf g 8) (iV m 8)<|Lv (.int .u8 (v.kind)) (aN n.aI 8) ?_;by_cases z:v.kind=7
 ·refine Lv aH (eZ z)<|av aH<|aD<|Wr<|aK aH ?_;exact⟨gZ (Eq.symm (by unfold dJ; first|(rw[b_ a,b_ b,b_ c,b_ d,b_ i,b_ r]; done)|(rw[b_ a,b_ b,b_ c,b_ d,b_ i,b_ r]; first|(simp[z]; done)|(simp[z]; omega)))),h⟩
 refine Lv aG (fM z)<|av aG<|aD<|Wr<|aK aG ?_;exact⟨gZ (Eq.symm (by unfold dJ; first|(rw[b_ a,b_ b,b_ c,b_ d,b_ i,b_ r]; done)|(rw[b_ a,b_ b,b_ c,b_ d,b_ i,b_ r]; first|(simp[z]; done)|(simp[z]; omega)))),h⟩
namespace Rt
def kF(n:Int):Prop:=0<=n/\n<=18446744073709551615
def xB(n:Int):Prop := -9223372036854775808<=n/\n<=9223372036854775807
structure gy(v:EvM):Prop where
 o:xB v.o
 seq:kF v.seq
 deps : ∀ i,i<6->kF (v.deps i)
 kind:0<=v.kind/\v.kind<=255
 node:kF v.node
 dst:xB v.dst
 aU:xB v.aU
 req:kF v.req
 of:kF v.of
theorem gy.own{v:EvM}(h:gy v):gy (kM v):=by
 have z:kF 0:=⟨by decide,by decide⟩;have y:xB 0:=⟨by decide,by decide⟩;unfold kM;split
 ·exact⟨h.o,h.seq,h.deps,h.kind,h.node,y,h.aU,z,z⟩
 split
 ·exact⟨h.o,h.seq,h.deps,h.kind,h.node,y,h.aU,z,z⟩
 split
 ·exact⟨h.o,h.seq,h.deps,h.kind,h.node,y,h.aU,h.req,z⟩
 split
 ·exact⟨h.o,h.seq,h.deps,h.kind,z,y,y,h.req,h.of⟩
 split
 ·exact⟨h.o,h.seq,h.deps,h.kind,h.node,h.dst,h.aU,z,z⟩
 split
 ·exact⟨h.o,h.seq,h.deps,h.kind,z,h.dst,y,z,z⟩
 exact⟨h.o,h.seq,h.deps,h.kind,z,y,y,z,z⟩
theorem Cv{v:EvM}(h:gy v):Fx.Kd [(some .i64),(some .u64),(some .u64),(some .u64),(some .u64),(some .u64),(some .u64),(some .u64),(some .u8),(some .u64),(some .i64),(some .i64),(some .u64),(some .u64)] (bS v):=by
 have a : ∀(k:IntKind) (n:Int),(Lit.int k n).wf=true -> ∃ l,sJ (some k) (.int k n)=some l:=fun k n d=>by
  obtain⟨l,c⟩:=Fx.QZ (k:=k) (n:=1) (x:=fun _=>n) (fun _ _=>d) 0 (by simp);exact⟨l,c⟩
 intro i b;have e:i<14:=b
 rcases i with _|_|_|_|_|_|_|_|_|_|_|_|_|_|i
 ·exact a .i64 v.o (Fx.Wj h.o)
 ·exact a .u64 v.seq (Fx.um h.seq)
 ·exact a .u64 (v.deps 0) (Fx.um (h.deps 0 (by decide)))
 ·exact a .u64 (v.deps 1) (Fx.um (h.deps 1 (by decide)))
 ·exact a .u64 (v.deps 2) (Fx.um (h.deps 2 (by decide)))
 ·exact a .u64 (v.deps 3) (Fx.um (h.deps 3 (by decide)))
 ·exact a .u64 (v.deps 4) (Fx.um (h.deps 4 (by decide)))
 ·exact a .u64 (v.deps 5) (Fx.um (h.deps 5 (by decide)))
 ·exact a .u8 v.kind (Fx.ajk h.kind)
 ·exact a .u64 v.node (Fx.um h.node)
 ·exact a .i64 v.dst (Fx.Wj h.dst)
 ·exact a .i64 v.aU (Fx.Wj h.aU)
 ·exact a .u64 v.req (Fx.um h.req)
 ·exact a .u64 v.of (Fx.um h.of)
 omega
def zO(v:EvM):Bool:=(List.range 6).all fun i=>decide (v.deps i<1099511627776)
def rE(v:EvM):Bool:=decide (v.node=(kM v).node)&&decide (v.dst=(kM v).dst)&&decide (v.aU=(kM v).aU)&&decide (v.req=(kM v).req)&&decide (v.of=(kM v).of)
def bO(v:EvM):Bool:=pI v.o&&decide (1<=v.seq)&&decide (v.seq<1099511627776)&&decide (v.deps (v.o-1).toNat=v.seq-1)&&zO v&&rE v&&dJ v
theorem SE(v:EvM):(kM v).o=v.o/\(kM v).seq=v.seq/\(kM v).deps=v.deps/\(kM v).kind=v.kind:=by
 unfold kM; repeat (first|exact⟨rfl,rfl,rfl,rfl⟩|split)
theorem Bt(v:EvM):rE v=true <-> ∀ i,i<14->bS v i=bS (kM v) i:=by
 obtain⟨m,n,p,q⟩:=SE v;unfold rE;simp only[R_,decide_eq_true_eq];constructor
 ·rintro ⟨⟨⟨⟨a,b⟩,c⟩,d⟩,e⟩ i r;have:kM v=v:=by
   cases hv:kM v with
   | mk o seq deps kind node dst aU req of =>
     rw[hv]at m n p q a b c d e
     cases v; simp_all
  rw[this]
 intro h;have l:Value.int .u64 v.node=aF (kM v).node:=h 9 (by decide);have f:Value.int .i64 v.dst=au (kM v).dst:=h 10 (by decide);have g:Value.int .i64 v.aU=au (kM v).aU:=h 11 (by decide);have j:Value.int .u64 v.req=aF (kM v).req:=h 12 (by decide);have k:Value.int .u64 v.of=aF (kM v).of:=h 13 (by decide);simp only[Value.int.injEq,true_and]at l f g j k;exact⟨⟨⟨⟨l,f⟩,g⟩,j⟩,k⟩
theorem fA{i:Int}(h:pI i=true) : ∃ a:Nat,a<6/\i=(a:Int)+1:=by
 unfold pI at h; simp at h;obtain⟨a,b⟩:=Int.eq_ofNat_of_zero_le (show 0<=i-1 by omega);exact⟨a,by omega,by omega⟩
theorem Gu{v:EvM}{k:Nat}(a:k<6)(h:1099511627776<=v.deps k):zO v=false:=by
 unfold zO; rw[List.all_eq_false]; exact⟨k,N_.2 a,by simp; omega⟩
theorem vZ{v:EvM}{k:Nat}(b : ¬ (k:Int)<6)(h : ∀ i,i<k->v.deps i<1099511627776):zO v=true:=by
 unfold zO; rw[List.all_eq_true]; intro i a; have:=N_.1 a; simp; exact h i (by omega)
theorem Pj{v:EvM}{k:Nat}(h : ∀ i,i<k->v.deps i<1099511627776)(a:v.deps k<1099511627776) : ∀ i,i<k+1->v.deps i<1099511627776:=fun i b=>by
 by_cases e:i=k
 ·subst e; exact a
 ·exact h i (by omega)
theorem iL{v:EvM}(h:bO v=true):pI v.o=true:=by
 unfold bO at h; simp only[R_]at h; exact h.1.1.1.1.1.1
end Rt
set_option maxHeartbeats 2000000 in
theorem Gv(v:EvM)(w:World)(D:gy v) :
 Calls Tryz.prog 51 #[.agg (aC 14 (bS v))] w fun e w'=>e = .returned (.bool (bO v))/\Below w.heap.size w w':=by
 refine Kent Tryz.func51 47 ?_;refine ay<|rU fun m w1 Q q s1 z1 => ?_;have t:=bH s1.old (Below.refl w.heap.size w);have uG:=iE Q;have wO:=q.lt;refine av aG<|aD<|Ws<|Ws ?_;refine mO<|aT (pt m)<|Qv (au v.o) (fun c b=>aN (q.cb b) 0) ?_;by_cases j:(pI v.o)=true
 ·obtain⟨a,ha,ea⟩:=fA j;refine pR (fun _ _=>Ay v.o _) aH (by rw[j])<|aT aG<|aT aG<|aT (pf m 1)<|Qv (aF v.seq) (fun c b=>aN (q.cb b) 1) ?_;by_cases F:v.seq<1
  ·refine Qv aH (fun c b=>gV F)<|aT aH<|aT aH<|aQ<|aQ<|aQ<|aT aH<|aT aH<|aQ<|aQ<|aQ<|aQ<|aQ<|aQ<|aQ<|aQ<|aQ<|aQ<|aT aH<|Qn ?_;intro WI R;have⟨d,J⟩:=fC R q t;refine sN<|aO<|ay<|av aG<|aD<|Wr<|sR<|aK aG ?_;have d:decide (1<=v.seq)=false:=g_ (by omega);exact⟨gZ (Eq.symm (by unfold bO; rw[j,d]; rfl)),J⟩
  refine Qv aG (fun c b=>gW F)<|aT aG<|aT aG<|aT (pf m 1)<|Qv (aF v.seq) (fun c b=>aN (q.cb b) 1) ?_;by_cases G:1099511627776<=v.seq
  ·refine Qv aH (fun c b=>ko G)<|aT aH<|aT aH<|aQ<|aQ<|aQ<|aQ<|aQ<|aQ<|aQ<|aQ<|aQ<|aQ<|aT aH<|Qn ?_;intro Zi S;have⟨l,K⟩:=fC S q t;refine sN<|aO<|ay<|av aG<|aD<|Wr<|sR<|aK aG ?_;have d:decide (1<=v.seq)=true:=f_ (by omega);have l:decide (v.seq<1099511627776)=false:=g_ (by omega);exact⟨gZ (Eq.symm (by unfold bO; rw[j,d,l]; rfl)),K⟩
  refine Qv aG (fun c b=>jU G)<|aT aG<|aT aG<|aT (pt m)<|Qv (au v.o) (fun c b=>aN (q.cb b) 0)<|Qv (au a) (fun c b=>gu)<|aT (pf m 2)<|Qv (pf m (a+2)) (fun c b=>jE 6 1)<|Qv (aF (v.deps a)) (fun c b=>aN (q.cb b) (a+2) (lW _ (by omega) (by omega)))<|aT (pf m 1)<|Qv (aF v.seq) (fun c b=>aN (q.cb b) 1)<|Qv (aF (v.seq-1)) (fun c b=>gu) ?_;by_cases r:(v.deps a)=(v.seq-1)
  ·refine Qv aG (fun c b=>kr r)<|aT aG<|Qn ?_;intro wb3 T;have⟨p,L⟩:=fC T q t;refine sN<|aL<|Wk<|sN<|Ws<|ay<|av (au 0)<|aD<|Wb<|Wo (fun f H => ∃ k:Nat,k<=6/\(∀ i,i<k->v.deps i<1099511627776)/\f 1=(pt m)/\f 3=au (k:Int)/\aS H m 14 (bS v) 32/\Below w.heap.size w H) (fun f _=>(6-(intOf (f 3)).toNat)) ⟨0,by omega,(fun i h=>L_ h (by omega)),(by rfl),Fx.ic,p,L⟩ ?_;rintro f1 w2 ⟨k,hk,C,A,B,g,u⟩;refine Ws<|ay<|aX B ?_;by_cases x:(k:Int)<6
   ·refine Lv aH (gV x)<|aD<|aO<|Wk<|sN<|Ws<|Wb<|ay<|aX B<|Lv (pf m 2) (iV A 2)<|Lv (pf m (k+2)) (jE 6 1)<|Lv (aF (v.deps k)) (aN g.aI (k+2) (lW _ (by omega) (by omega))) ?_;by_cases E:1099511627776<=(v.deps k)
    ·refine Lv aH (ko E)<|aD<|aO<|ay<|av aG<|aD<|Wr<|bM<|sR<|qb<|bM<|sR<|aK aG ?_;have d:decide (1<=v.seq)=true:=f_ (by omega);have l:decide (v.seq<1099511627776)=true:=f_ (by omega);have p:decide (v.deps (v.o-1).toNat=v.seq-1)=true:=f_ (by rw[show(v.o-1).toNat=a by omega]; exact r);have g:=Gu (by omega) E;exact⟨gZ (Eq.symm (by unfold bO; rw[j,d,l,p,g]; rfl)),u⟩
    refine Lv aG (jU E)<|aD<|aL<|Wk<|bQ<|sN<|Wl<|aX B<|Lv (au ((k:Int)+1)) eY<|av (au ((k:Int)+1))<|Ln<|gT ⟨k+1,by omega,(Pj C (by omega)),A,Fx.ic,g,u⟩ ?_;show(6-(intOf (au ((k:Int)+1))).toNat)<_;simp only[B,intOf]; omega
   refine Lv aG (gW x)<|aD<|aL<|Wx<|cu<|gJ<|cB<|sN<|Ws ?_;refine mO<|Qv (.agg (aC 14 (bS v))) (fun c b=>gI (g.cb b) 0 (ha:=A))<|Qv (.agg (aC 14 (bS v))) (fun c b=>gI (g.cb b) 0 (ha:=A))<|yO (fun _ _=>afg v _) _ rfl ?_;by_cases y : ∀ i,i<14->(bS v) i=(bS (kM v)) i
   ·refine Qv aH (fun c b=>Fx.xG (n:=14) (ks := [(some .i64),(some .u64),(some .u64),(some .u64),(some .u64),(some .u64),(some .u64),(some .u64),(some .u8),(some .u64),(some .i64),(some .i64),(some .u64),(some .u64)]) (X:=bS v) (Y:=bS (kM v)) 12 true rfl rfl rfl (Fx.Wn y) (Cv D) (Cv D.own) rfl (by kernel_rfl) (by kernel_rfl) (by kernel_rfl) (by kernel_rfl) (by kernel_rfl))<|aT aH<|Qv (.agg (aC 14 (bS v))) (fun c b=>gI (g.cb b) 0 (ha:=A)) ?_;by_cases z:(dJ v)=true
    ·refine yO (fun _ _=>JZ v _) aH (by rw[z])<|aT aH<|aT aH<|Qn ?_;intro wb4 U;have⟨s,M⟩:=fC U g u;refine sN<|Wr<|aK aH ?_;have d:decide (1<=v.seq)=true:=f_ (by omega);have l:decide (v.seq<1099511627776)=true:=f_ (by omega);have p:decide (v.deps (v.o-1).toNat=v.seq-1)=true:=f_ (by rw[show(v.o-1).toNat=a by omega]; exact r);have g:=vZ x C;have s:=(Bt v).2 y;exact⟨gZ (Eq.symm (by unfold bO; rw[j,d,l,p,g,s,z]; rfl)),M⟩
    rw[S_]at z;refine yO (fun _ _=>JZ v _) aG (by rw[z])<|aT aG<|aT aG<|Qn ?_;intro wb5 V;have N:=bH V u;refine sN<|Wr<|aK aG ?_;have d:decide (1<=v.seq)=true:=f_ (by omega);have l:decide (v.seq<1099511627776)=true:=f_ (by omega);have p:decide (v.deps (v.o-1).toNat=v.seq-1)=true:=f_ (by rw[show(v.o-1).toNat=a by omega]; exact r);have g:=vZ x C;have s:=(Bt v).2 y;exact⟨gZ (Eq.symm (by unfold bO; rw[j,d,l,p,g,s,z]; rfl)),N⟩
   refine Qv aG (fun c b=>Fx.xG (n:=14) (ks := [(some .i64),(some .u64),(some .u64),(some .u64),(some .u64),(some .u64),(some .u64),(some .u64),(some .u8),(some .u64),(some .i64),(some .i64),(some .u64),(some .u64)]) (X:=bS v) (Y:=bS (kM v)) 12 false rfl rfl rfl (Fx.nob y) (Cv D) (Cv D.own) rfl (by kernel_rfl) (by kernel_rfl) (by kernel_rfl) (by kernel_rfl) (by kernel_rfl))<|aT aG<|aQ<|aQ<|aT aG<|aT aG<|Qn ?_;intro wb6 W;have O:=bH W u;refine sN<|Wr<|aK aG ?_;have d:decide (1<=v.seq)=true:=f_ (by omega);have l:decide (v.seq<1099511627776)=true:=f_ (by omega);have p:decide (v.deps (v.o-1).toNat=v.seq-1)=true:=f_ (by rw[show(v.o-1).toNat=a by omega]; exact r);have g:=vZ x C;have s:rE v=false:=Bool.eq_false_iff.2 (fun h=>y ((Bt v).1 h));exact⟨gZ (Eq.symm (by unfold bO; rw[j,d,l,p,g,s]; rfl)),O⟩
  refine Qv aH (fun c b=>nE r)<|aT aH<|Qn ?_;intro wb7 Z;have P:=bH Z t;refine sN<|aO<|ay<|av aG<|aD<|Wr<|sR<|aK aG ?_;have d:decide (1<=v.seq)=true:=f_ (by omega);have l:decide (v.seq<1099511627776)=true:=f_ (by omega);have p:decide (v.deps (v.o-1).toNat=v.seq-1)=false:=g_ (by rw[show(v.o-1).toNat=a by omega]; exact r);exact⟨gZ (Eq.symm (by unfold bO; rw[j,d,l,p]; rfl)),P⟩
 rw[S_]at j;refine pR (fun _ _=>Ay v.o _) aG (by rw[j])<|aT aH<|aT aH<|aQ<|aQ<|aQ<|aT aH<|aT aH<|aQ<|aQ<|aQ<|aT aH<|aT aH<|aQ<|aQ<|aQ<|aQ<|aQ<|aQ<|aQ<|aQ<|aQ<|aQ<|aT aH<|Qn ?_;intro wb8 aa;have I:=bH aa t;refine sN<|aO<|ay<|av aG<|aD<|Wr<|sR<|aK aG ?_;exact⟨gZ (Eq.symm (by unfold bO; rw[j]; rfl)),I⟩
namespace Rt
def lX(K:Nat->Int)(v:EvM):Bool:=bO v&&decide (v.seq<=K (v.o-1).toNat)
def xQ(D K:Nat->Int):Bool:=(List.range 6).all fun i=>decide (D i<=K i)
def dI(K:Nat->Int)(v:EvM):Bool:=bO v&&decide (v.seq=K (v.o-1).toNat+1)&&xQ v.deps K
theorem SF{D K:Nat->Int}{k:Nat}(a:k<6)(h:K k<D k):xQ D K=false:=by
 unfold xQ; rw[List.all_eq_false]; exact⟨k,N_.2 a,by simp; omega⟩
theorem Pk{D K:Nat->Int}{k:Nat}(b : ¬ (k:Int)<6)(h : ∀ i,i<k->D i<=K i):xQ D K=true:=by
 unfold xQ; rw[List.all_eq_true]; intro i a; have:=N_.1 a; simp; exact h i (by omega)
theorem le_step{D K:Nat->Int}{k:Nat}(h : ∀ i,i<k->D i<=K i)(b : ¬ K k<D k) : ∀ i,i<k+1->D i<=K i:=fun i a=>by
 by_cases e:i=k
 ·subst e; omega
 ·exact h i (by omega)
def F3(K:Nat->Int):Prop := ∀ i,i<6->0<=K i/\K i<1099511627776
theorem DI{v:EvM}(h:bO v=true):1<=v.seq/\v.seq<1099511627776:=by
 unfold bO at h; simp only[R_,decide_eq_true_eq]at h; exact⟨h.1.1.1.1.1.2,h.1.1.1.1.2⟩
end Rt
theorem SG(K:Nat->Int)(v:EvM)(w:World)(m:gy v) :
 Calls Tryz.prog 52 #[.agg (aC 6 (rv .u64 K)),.agg (aC 14 (bS v))] w fun e w'=>e = .returned (.bool (lX K v))/\Below w.heap.size w w':=by
 refine Kent Tryz.func52 17 ?_;refine ay<|rU fun s I r i z O => ?_;have j:=bH z.old (Below.refl w.heap.size w);have D:=iE r;have G:=i.lt;refine rU fun l J k c A P => ?_;have⟨y,h⟩:=fC A.old i j;have E:=jI k j.size;have F:=cO k i.lt;have H:=c.lt;refine av aG<|aD<|Ws ?_;refine mO<|Qv (.agg (aC 14 (bS v))) (fun f b=>gI (c.cb b) 0) ?_;by_cases d:(bO v)=true
 ·obtain⟨a,C,B⟩:=fA (iL d);refine yO (fun _ _=>Gv v _ m) aH (by rw[d])<|aT aH<|aT (pf l 1)<|Qv (aF v.seq) (fun f b=>aN (c.cb b) 1)<|aT (pt l)<|Qv (au v.o) (fun f b=>aN (c.cb b) 0)<|Qv (au a) (fun f b=>gu)<|Qv (pf s a) (fun f b=>jE 6 1)<|Qv (aF (K a)) (fun f b=>aN (y.cb b) a) ?_;by_cases g:v.seq<=(K a)
  ·refine Qv aH (fun f b=>nD g)<|aT aH<|aT aH<|Qn ?_;intro L t;have n:=bH t h;refine sN<|Wr<|aK aH ?_;have c:decide (v.seq<=K (v.o-1).toNat)=true:=f_ (by rw[show(v.o-1).toNat=a by omega]; exact g);exact⟨gZ (Eq.symm (by unfold lX; rw[d,c]; rfl)),n⟩
  refine Qv aG (fun f b=>nT g)<|aT aG<|aT aG<|Qn ?_;intro M u;have p:=bH u h;refine sN<|Wr<|aK aG ?_;have c:decide (v.seq<=K (v.o-1).toNat)=false:=g_ (by rw[show(v.o-1).toNat=a by omega]; exact g);exact⟨gZ (Eq.symm (by unfold lX; rw[d,c]; rfl)),p⟩
 rw[S_]at d;refine yO (fun _ _=>Gv v _ m) aG (by rw[d])<|aT aG<|aQ<|aQ<|aQ<|aQ<|aQ<|aQ<|aQ<|aQ<|aT aG<|aT aG<|Qn ?_;intro N x;have q:=bH x h;refine sN<|Wr<|aK aG ?_;exact⟨gZ (Eq.symm (by unfold lX; rw[d]; rfl)),q⟩
theorem NJ(K:Nat->Int)(v:EvM)(w:World)(H:gy v)(R:F3 K) :
 Calls Tryz.prog 41 #[.agg (aC 6 (rv .u64 K)),.agg (aC 14 (bS v))] w fun e w'=>e = .returned (.bool (dI K v))/\Below w.heap.size w w':=by
 refine Kent Tryz.func41 32 ?_;refine ay<|rU fun s w1 Q A s1 z1 => ?_;have C:=bH s1.old (Below.refl w.heap.size w);have uG:=iE Q;have wO:=A.lt;refine rU fun l w2 D d s2 z2 => ?_;have⟨m,t⟩:=fC s2.old A C;have sG:=jI D C.size;have NI:=cO D A.lt;have Bg:=d.lt;refine av aG<|aD<|Ws<|Ws ?_;refine mO<|Qv (.agg (aC 14 (bS v))) (fun c b=>gI (d.cb b) 0) ?_;by_cases g:(bO v)=true
 ·obtain⟨a,S,ea⟩:=fA (iL g);have ka:=R a S;refine yO (fun _ _=>Gv v _ H) aH (by rw[g])<|aT aG<|aT aG<|aT (pf l 1)<|Qv (aF v.seq) (fun c b=>aN (d.cb b) 1)<|aT (pt l)<|Qv (au v.o) (fun c b=>aN (d.cb b) 0)<|Qv (au a) (fun c b=>gu)<|Qv (pf s a) (fun c b=>jE 6 1)<|Qv (aF (K a)) (fun c b=>aN (m.cb b) a)<|Qv (aF ((K a)+1)) (fun c b=>eY) ?_;by_cases n:v.seq=((K a)+1)
  ·refine Qv aG (fun c b=>kr n)<|aT aG<|Qn ?_;intro WI T;have⟨Y,Z,L⟩:=ku T m d t;refine sN<|aL<|Wk<|sN<|Ws<|ay<|av (au 0)<|aD<|Wb<|Wo (fun f B => ∃ k:Nat,k<=6/\(∀ i,i<k->v.deps i<=K i)/\f 2=(pt s)/\f 3=(pt l)/\f 5=au (k:Int)/\aS B s 6 (rv .u64 K) 30/\aS B l 14 (bS v) 32/\Below w.heap.size w B) (fun f _=>(6-(intOf (f 5)).toNat)) ⟨0,by omega,(fun i h=>L_ h (by omega)),(by rfl),(by rfl),Fx.ic,Y,Z,L⟩ ?_;rintro f1 j ⟨k,hk,G,E,F,p,I,J,u⟩;refine Ws<|ay<|aX p ?_;by_cases x:(k:Int)<6
   ·refine Lv aH (gV x)<|aD<|aO<|Wk<|sN<|Ws<|Wb<|Ws ?_;refine xL<|dX p<|Qv (pf l 2) (fun c b=>iV F 2)<|Qv (pf l (k+2)) (fun c b=>jE 6 1)<|Qv (aF (v.deps k)) (fun c b=>aN (J.aI.dr b) (k+2) (lW _ (by omega) (by omega)))<|dX p<|Qv (pf s k) (fun c b=>jE 6 1 (hx:=E))<|Qv (aF (K k)) (fun c b=>aN (I.aI.dr b) k) ?_;by_cases r:(K k)<(v.deps k)
    ·refine Qv aH (fun c b=>mK r)<|Qn ?_;rintro _ ⟨q,rfl⟩;obtain⟨Cw,y⟩ : ∃ c,c=World.drewN j q:=⟨_,rfl⟩;rw[<- y];have s4:Stp j.heap.size j Cw:=(by rw[y]; exact Sb (jl j q));have M:=bH s4.old u;clear y;refine sN<|aO<|ay<|av aG<|aD<|Wr<|bM<|sR<|qb<|bM<|sR<|aK aG ?_;have d:decide (v.seq=K (v.o-1).toNat+1)=true:=f_ (by rw[show(v.o-1).toNat=a by omega]; exact n);have m:=SF (by omega) r;exact⟨gZ (Eq.symm (by unfold dI; rw[g,d,m]; rfl)),M⟩
    refine Qv aG (fun c b=>mM r)<|Qn ?_;rintro _ ⟨q,rfl⟩;obtain⟨wq2,z⟩ : ∃ c,c=World.drewN j q:=⟨_,rfl⟩;rw[<- z];have s5:Stp j.heap.size j wq2:=(by rw[z]; exact Sb (jl j q));have⟨W,X,N⟩:=ku s5.old I J u;clear z;refine sN<|aL<|Wk<|bQ<|sN<|Wl<|aX p<|Lv (au ((k:Int)+1)) eY<|av (au ((k:Int)+1))<|Ln<|gT ⟨k+1,by omega,(le_step G r),E,F,Fx.ic,W,X,N⟩ ?_;show(6-(intOf (au ((k:Int)+1))).toNat)<_;simp only[p,intOf]; omega
   refine Lv aG (gW x)<|aD<|aL<|Wx<|cu<|gJ<|cB<|sN<|ay<|av aH<|aD<|Wr<|aK aH ?_;have d:decide (v.seq=K (v.o-1).toNat+1)=true:=f_ (by rw[show(v.o-1).toNat=a by omega]; exact n);have m:=Pk x G;exact⟨gZ (Eq.symm (by unfold dI; rw[g,d,m]; rfl)),u⟩
  refine Qv aH (fun c b=>nE n)<|aT aH<|Qn ?_;intro Zi U;have O:=bH U t;refine sN<|aO<|ay<|av aG<|aD<|Wr<|sR<|aK aG ?_;have d:decide (v.seq=K (v.o-1).toNat+1)=false:=g_ (by rw[show(v.o-1).toNat=a by omega]; exact n);exact⟨gZ (Eq.symm (by unfold dI; rw[g,d]; rfl)),O⟩
 rw[S_]at g;refine yO (fun _ _=>Gv v _ H) aG (by rw[g])<|aT aH<|aT aH<|aQ<|aQ<|aQ<|aQ<|aQ<|aQ<|aQ<|aQ<|aQ<|aT aH<|Qn ?_;intro wb3 V;have P:=bH V t;refine sN<|aO<|ay<|av aG<|aD<|Wr<|sR<|aK aG ?_;exact⟨gZ (Eq.symm (by unfold dI; rw[g]; rfl)),P⟩
set_option maxHeartbeats 400000 in
theorem Ir(a:Option Addr)(len cap:Nat)(l:List Int)(w:World)(hlen:len<=100)(hl:Hid (l.length=len))(hr:RdI .i64 w a l) :
 Calls Tryz.prog 104 #[.slice a len cap] w fun e w'=>e = .returned (.tuple #[.int .i64 (mP l).1,.bool (mP l).2])/\w'=w:=by
 go_enter Tryz.func104,Tryz.ntmps104
 go_wp2
 go_loop [2,3,8] (fun v o i=>o = .bool false /\ ∃ k:Nat,k<=len/\i = .int .i64 k/\lV (l.take k)=true/\v = .int .i64 (l.take k).sum) (fun _ _ i=>len-(intOf i).toNat)
 case atStart=>exact⟨rfl,0,J_ _,rfl,rfl,rfl⟩
 case round =>
  obtain⟨rfl,k,hk,rfl,hok,rfl⟩:=hrel;by_cases hk2:k<len
  ·have hk3:k<l.length:=(by rw[hl.out]; exact hk2);obtain⟨b,off,rfl,hc⟩:=hr k hk3;have hb:=Bo _ hok;have hle:(l.take k).length<=k:=List.length_take_le _ _;have HS:Hid _:=FX l k hk3;have HO:Hid _:=Dj l k hk3;have HF:Hid (zJ l[k]=false->mP l=(0,false)):=(by intro h; unfold mP; rw[b_ (by rw[FY hk3 h]; decide)]);have Hok:Hid _:=hok;clear hr hok;generalize l[k]=x at *;generalize hs:(l.take k).sum=s at *;clear hs;by_cases h0:x<0
   ·have hn:zJ x=false:=(by unfold zJ; simp; omega);have HR:Hid _:=HF.out hn;clear HF hn HS HO
    go_wp2
    go_ret2
    rw[HR.out]; exact⟨rfl,rfl⟩
   ·by_cases h1:1125899906842624<x
    ·have hn:zJ x=false:=(by unfold zJ; simp; omega);have HR:Hid _:=HF.out hn;clear HF hn HS HO
     go_wp2
     go_ret2
     rw[HR.out]; exact⟨rfl,rfl⟩
    ·have hy:Hid (zJ x=true):=(by unfold zJ Hid; simp; omega);clear HF
     go_wp2
     go_round
     case rel=>exact⟨rfl,k+1,by omega,by go_num,by rw[HO.out,Hok.out,hy.out]; rfl,by rw[HS.out]⟩
     case measure=>simp[intOf]; omega
  ·have hT:Hid (l.take k=l):=List.take_of_length_le (by rw[hl.out]; omega);rw[hT.out]at hok ⊢;have HR:Hid (mP l=(l.sum,true)):=(by unfold mP Hid; rw[d_ hok]);clear hok;generalize l.sum=s at *
   go_wp2
   go_ret2
   rw[HR.out]; exact⟨rfl,rfl⟩
def Two(a w:World)(d f:Nat)(b:List Int)(e g:Nat)(c:List Int):Prop :=
 w.ownsRow a.heap.size 2 1 (.slice (some ⟨d,0,none⟩) b.length f) b.length (b.map (Value.int .i64)) /\
 w.ownsRow a.heap.size 2 1 (.slice (some ⟨e,0,none⟩) c.length g) c.length (c.map (Value.int .i64))/\d≠e/\Below a.heap.size a w
theorem Two.alloc{g w:World}{c a:Nat}{e:List Int}{d b:Nat}{f:List Int}(h:Two g w c a e d b f)(o:Obj):Two g (w.alloc o) c a e d b f :=
 ⟨World.ownsRow.alloc h.1 o,World.ownsRow.alloc h.2.1 o,h.2.2.1,h.2.2.2.alloc h.2.2.2.size o⟩
theorem Two.drew{g w:World}{c a:Nat}{e:List Int}{d b:Nat}{f:List Int}(h:Two g w c a e d b f):Two g w.drew c a e d b f :=
 ⟨h.1,h.2.1,h.2.2.1,h.2.2.2.drew⟩
theorem Two.swap{g w:World}{c a:Nat}{e:List Int}{d b:Nat}{f:List Int}(h:Two g w c a e d b f):Two g w d b f c a e:=⟨h.2.1,h.1,h.2.2.1.symm,h.2.2.2⟩
theorem WV:(Tryz.prog.info? 2).map (fun i=>(i.zero,i.size,i.bytes))=some (some (.int .i64 0),1,8):=by kernel_rfl
theorem J2{ops:Array Oper}{o:Oper}{a:Act}{q w:World}{K:Act->World->Prop}{Q:Exit->Act->World->Prop}{E:Prop}(C:o.guard=none)(s x:Operand)
 (I:o.op = .call { callee := .builtin .append,args := #[s,x],argTypes := #[175,175] }) (l r:Nat) (d:List Int) (m t:Nat) (y:List Int) (h:Two q w l r d m t y)
 (n:Nat) (G:d.length=n) (J:a.eval s = .slice (some ⟨l,0,none⟩) n r) (i:Nat) (v:Int) (hx:a.eval x = .slice (some ⟨i,0,none⟩) 1 1) (B:w.cell? ⟨i,0,none⟩=some (.int .i64 v)) (R:n<=100)
 (A : ∀ g f w',Two q w' g f (d ++ [v]) m t y->(∀ a u,w.cell? a=some u->a.block≠l->w'.cell? a=some u)->K (a.put o.dst (.slice (some ⟨g,0,none⟩) (n+1) f)) w') :
 if Region.wanted o (yielded ops a.tmps)=true then Oper.wp Tryz.prog o a w K Q else E:=by
 obtain⟨O,D,L,M,N⟩:=info_parts WV;subst G
 refine step_append_lies w C s x 175 I q.heap.size 2 O (.int .i64 0) 1 8 Tryz.underlying175 D L M N rfl (by decide) _ d.length (d.map (Value.int .i64)) J h.1 ⟨i,0,none⟩ 1 1 [.int .i64 v] hx rfl
  (by intro j u b; cases j with
   | zero=>simp at b; subst b; rw[addr_add]; exact B
   | succ j=>simp at b) (by intro u b; simp at b; subst b; rfl) (by decide) (by unfold maxLen; omega) (by omega) h.2.2.2.size w.heap.size rfl ?_
 intro g f w' z p c P;refine A g f w' ⟨?_,?_,?_,?_⟩ (fun a u b H=>p.cell b (by simp[Value.ownBlock]; exact H))
 ·rw[D_,List.map_append]; exact z
 ·exact World.ownsRow.kept h.2.1 p (.inr (by simp[Value.ownBlock]; exact fun e=>h.2.2.1 e.symm))
 ·have S:=World.ownsRow.lt h.2.1 m rfl
  rcases c with c|c
  ·simp[Value.ownBlock]at c; subst c; exact h.2.2.1
  omega
 exact h.2.2.2.grown p h.2.2.2.size (fun k F=>(World.ownsRow.lt h.1 k F).1)
theorem Two.rd1{j w:World}{a c:Nat}{b:List Int}{e d:Nat}{g:List Int}(h:Two j w a c b e d g):RdI .i64 w (some ⟨a,0,none⟩) b:=by
 intro i f;refine⟨a,0,rfl,?_⟩;rw[E_,World.ownsRow.cellAt h.1 i (by omega)];simp[f]
theorem Two.start(w:World)(v a b:Int):Two w ((w.alloc (.cells #[.int .i64 v] 2)).alloc (.cells #[.int .i64 a,.int .i64 b] 2)) w.heap.size 1 [v] (w.heap.size+1) 2 [a,b]:=by
 refine⟨World.ownsRow.alloc (World.ownsRow_lit w #[.int .i64 v] 1 (z_ _) (by unfold maxLen; omega) rfl) _,?_,by omega,((Below.refl _ _).alloc (z_ _) _).alloc (by simp) _⟩;have:=World.ownsRow_lit (base:=w.heap.size) (e:=2) (size:=1) (w.alloc (.cells #[.int .i64 v] 2)) #[.int .i64 a,.int .i64 b] 2 (by simp) (by unfold maxLen; omega) rfl
 simpa using this
theorem Two.abj(w:World)(v a b:Int):Two w ((w.alloc (.cells #[.int .i64 a,.int .i64 b] 2)).alloc (.cells #[.int .i64 v] 2)) (w.heap.size+1) 1 [v] w.heap.size 2 [a,b]:=by
 refine⟨?_,World.ownsRow.alloc (World.ownsRow_lit w #[.int .i64 a,.int .i64 b] 2 (z_ _) (by unfold maxLen; omega) rfl) _,by omega,((Below.refl _ _).alloc (z_ _) _).alloc (by simp) _⟩;have:=World.ownsRow_lit (base:=w.heap.size) (e:=2) (size:=1) (w.alloc (.cells #[.int .i64 a,.int .i64 b] 2)) #[.int .i64 v] 1 (by simp) (by unfold maxLen; omega) rfl
 simpa using this
theorem Two.at{c w:World}{g d:Nat}{k:List Int}{j e:Nat}{l:List Int}(h:Two c w g d k j e l){b:Nat}{x:Nat->Int}{T:TypeId}{f:Nat × Nat}(a:c.heap[b]? = some (.cells (aR .i64 54 x) T f))(i:Nat)(hi:i<54) :
 w.cell? ⟨b,i,none⟩=some (.int .i64 (x i)) :=
 fO ((h.2.2.2.block b (Array.getElem?_eq_some_iff.1 a).1).trans a) i hi
theorem Two.lt{a w:World}{e c:Nat}{i:List Int}{f d:Nat}{j:List Int}(h:Two a w e c i f d j){b:Nat}(g:b<a.heap.size):b<w.heap.size:=n_ g h.2.2.2.size
theorem Eu(x:Nat->Int)(k:Nat) : ∀ j,(outs x k j).length=j+1
 | 0=>rfl
 | j+1=>by rw[outs,D_,Eu x k j]; rfl
theorem Iu(x:Nat->Int)(k:Nat) : ∀ j,(ins x k j).length=j+2
 | 0=>rfl
 | j+1=>by rw[ins,D_,Iu x k j]; rfl
def afi(w:World)(x:Nat->Int)(k j:Nat)(e f:Value)(g:World):Prop :=
 ∃ c a d b,e = .slice (some ⟨c,0,none⟩) (j+1) a/\f = .slice (some ⟨d,0,none⟩) (j+2) b/\Two w g c a (outs x k j) d b (ins x k j)
set_option maxHeartbeats 4000000 in
theorem Gw(b:Nat)(T:TypeId)(fz:Nat × Nat)(x:Nat->Int)(k:Nat)(w:World)(hk:k<6)(hb:Hid (w.heap[b]? = some (.cells (aR .i64 54 x) T fz))) :
 Calls Tryz.prog 73 #[.pointer (some ⟨b,0,none⟩),.int .i64 k] w fun e w'=>e = .returned (.tuple #[.int .i64 (localM x k).1,.bool (localM x k).2])/\Below w.heap.size w w':=by
 have hlt:b<w.heap.size:=(Array.getElem?_eq_some_iff.1 hb.out).1;have hki:(k:Int)<6:=by omega
 go_enter Tryz.func73,Tryz.ntmps73
 go_upto_region 1 with (fail)
 go_cut [6,7] (fun s6 s7 wx=>afi w x k 0 s6 s7 wx)
 case first =>
  have c1:=fO hb.out (6+k) (by omega);have c2:=fO hb.out k (by omega);have c3:=fO hb.out (12+k) (by omega)
  go_wp2
  go_region
  all_goals go_wp2
  all_goals go_meet
  case rel=>exact⟨_,_,_,_,rfl,rfl,(Two.start w (x (6+k)) (x k) (x (12+k))).drew⟩
  case rel=>exact⟨_,_,_,_,rfl,rfl,(Two.abj w (x (6+k)) (x k) (x (12+k))).drew⟩
 case rest =>
  clear hlt
  go_wp2
  go_loopw [6,7,33] (fun s6 s7 i wx => ∃ j:Nat,j<=6/\i = .int .i64 j/\afi w x k j s6 s7 wx) (fun _ _ i _=>6-(intOf i).toNat)
  case atStart=>exact⟨0,J_ _,rfl,hcut⟩
  case round =>
   obtain⟨j,hj,rfl,g1,c1,g2,c2,rfl,rfl,hT⟩:=hrel;by_cases hj2:j<6
   ·have hji:(j:Int)<6:=(by omega);have hlt:b<w.heap.size:=(Array.getElem?_eq_some_iff.1 hb.out).1;have hrow:wr.heap[b]? = some (.cells (aR .i64 54 x) T fz):=(hT.2.2.2.block b hlt).trans hb.out;have e1:=fO hrow (18+k*6+j) (by omega);have e2:=fO hrow (18+j*6+k) (by omega);have hlt2:b<wr.heap.size:=(Array.getElem?_eq_some_iff.1 hrow).1;have SH:Hid _:=hrow;have hg1:g1<wr.heap.size:=(World.ownsRow.lt hT.1 g1 rfl).2;have hg2:g2<wr.heap.size:=(World.ownsRow.lt hT.2.1 g2 rfl).2;clear hrow;have HO:Hid ((outs x k j).length=j+1):=Eu x k j;have HI:Hid ((ins x k j).length=j+2):=Iu x k j
    go_wp2
    go_region_law (first
     | (refine J2 (o:=⟨some 46,_,_,_,_,_⟩) (by rfl) (.tmp 36) (.tmp 45) (by rfl) g1 c1 (outs x k j) _ _ _ (by first|assumption|exact Two.alloc (by assumption) _|exact Two.alloc (Two.alloc (by assumption) _) _|exact hT.drew.alloc _|exact(hT.drew.alloc _).alloc _) (j+1) HO.out (by rfl) _ (x (18+k*6+j)) (by rfl) (by first|(go_simp; done)|exact hkp _ _ (by go_simp; done) (by simp; omega)) (by omega) ?_; intro g cp w1 hT1 hkp; have e1':=hT1.at hb.out (18+k*6+j) (by omega); have e2':=hT1.at hb.out (18+j*6+k) (by omega); have hlt':=hT1.lt hlt)
     | (refine J2 (o:=⟨some 57,_,_,_,_,_⟩) (by rfl) (.tmp 47) (.tmp 56) (by rfl) g2 c2 (ins x k j) _ _ _ (by first|exact Two.swap (by assumption)|exact(Two.alloc (by assumption) _).swap|exact(Two.alloc (Two.alloc (by assumption) _) _).swap|exact(hT.drew.alloc _).swap|exact((hT.drew.alloc _).alloc _).swap) (j+2) HI.out (by rfl) _ (x (18+j*6+k)) (by rfl) (by first|(go_simp; done)|exact hkp _ _ (by go_simp; done) (by simp; omega)) (by omega) ?_; intro g cp w1 hT1 hkp; have e1':=hT1.at hb.out (18+k*6+j) (by omega); have e2':=hT1.at hb.out (18+j*6+k) (by omega); have hlt':=hT1.lt hlt))
    all_goals go_wp2
    all_goals go_roundw
    all_goals first
     | (simp[intOf]; omega)
     | exact⟨j+1,by omega,by go_num,_,_,_,_,rfl,rfl,hT1.swap⟩
   ·obtain rfl:j=6:=(by omega);have r1:=hT.rd1;have r2:=hT.swap.rd1;have hbel:=hT.2.2.2;have HO:Hid ((outs x k 6).length=7):=Eu x k 6;have HI:Hid ((ins x k 6).length=8):=Iu x k 6;have b1:=vT (outs x k 6);have b2:=vT (ins x k 6);rw[HO.out]at b1;rw[HI.out]at b2;have HL:Hid (localM x k=((mP (ins x k 6)).1-(mP (outs x k 6)).1,(mP (outs x k 6)).2&&(mP (ins x k 6)).2)):=rfl;generalize outs x k 6=lo at *;generalize ins x k 6=li at *;clear hT
    go_wp2_with fail
    refine(Ir _ 7 c1 lo _ (by omega) HO r1).mono ?_;rintro e w1 ⟨rfl,rfl⟩
    go_wp2_with fail
    refine(Ir _ 8 c2 li _ (by omega) HI r2).mono ?_;rintro e w2 ⟨rfl,rfl⟩;generalize (mP li).1=n2 at *;generalize (mP lo).1=n1 at *;generalize (mP li).2=o2 at *;generalize (mP lo).2=o1 at *
    cases o1
    all_goals
     go_wp2_with fail
     go_ret2
     rw[HL.out]; exact⟨rfl,hbel⟩
namespace Rt
def Bu(x:Nat->Int)(k:Nat):Bool:=(localM x k).2&&decide (0<=(localM x k).1)&&decide (F x k<=C x k)&&(R x k k==0)
def Dn(x:Nat->Int):Nat->Bool
 | 0=>true
 | k+1=>Dn x k&&Bu x k
def gs(x:Nat->Int):List Int := [x 0,x 1,x 2,x 3,x 4,x 5]
def may(x:Nat->Int):Bool:=Dn x 6&&((mP (gs x)).2&&decide ((mP (gs x)).1<=1125899906842624))
theorem Ev(x:Nat->Int)(k:Nat)(h:Bu x k=false) : ∀ n,k<n->Dn x n=false
 | 0,hn=>L_ hn (by omega)
 | n+1,hn=>by
   rw[Dn];by_cases e:k=n
   ·subst e; rw[h,H_]
   ·rw[Ev x k h n (by omega),Bool.false_and]
theorem Pm(x:Nat->Int)(k:Nat)(a:k<6)(h:Bu x k=false):may x=false:=by
 unfold may; rw[Ev x k h 6 a,Bool.false_and]
end Rt
theorem afj{w:World}{g:Nat}{x:Nat->Int}{t:TypeId}{a:Nat × Nat}(h:w.heap[g]? = some (.cells (aR .i64 54 x) t a)):RdI .i64 w (some ⟨g,0,none⟩) (gs x):=by
 intro i b;have c:i<6:=b;refine⟨g,0,rfl,?_⟩;rw[E_,fO h i (by omega)]
 rcases(show i=0\/i=1\/i=2\/i=3\/i=4\/i=5 by omega)with rfl|rfl|rfl|rfl|rfl|rfl <;> rfl
set_option maxHeartbeats 1000000 in
theorem sZ(x:Nat->Int)(w:World) :
 Calls Tryz.prog 72 #[.agg (aR .i64 54 x)] w fun e w'=>e = .returned (.bool (may x))/\Below w.heap.size w w':=by
 go_enter Tryz.func72,Tryz.ntmps72
 go_wp2
 go_loopw [2,3,8] (fun r _ i wr=>r = .bool false /\ ∃ k:Nat,k<=6/\i = .int .i64 k/\Dn x k=true/\wr.heap[w.heap.size]? = some (.cells (aR .i64 54 x) 59 (0,0))/\Below w.heap.size w wr) (fun _ _ i _=>6-(intOf i).toNat)
 case atStart=>exact⟨rfl,0,J_ _,rfl,rfl,heap_alloc_new w _,(Below.refl _ _).alloc (z_ _) _⟩
 case round =>
  obtain⟨rfl,k,hk,rfl,hN,hrow,hbel⟩:=hrel;have hlt:w.heap.size<wr.heap.size:=(Array.getElem?_eq_some_iff.1 hrow).1;have SH:Hid _:=hrow;have HN:Hid _:=hN;clear hrow hN;by_cases hk2:k<6
  ·have hki:(k:Int)<6:=(by omega);have HM:Hid (Dn x (k+1)=(Dn x k&&Bu x k)):=rfl;have HF:Hid (Bu x k=false->may x=false):=fun h=>Pm x k hk2 h;have HK:Hid (Bu x k=((localM x k).2&&decide (0<=(localM x k).1)&&decide (F x k<=C x k)&&(R x k k==0))):=rfl
   go_wp2_with fail
   refine(Gw w.heap.size _ _ x k wr hk2 SH).mono ?_;rintro e w1 ⟨rfl,hb1⟩;have J3:=(hb1.block _ hlt).trans SH.out;have J4:=hbel.trans (hb1.mono (Nat.le_of_lt hlt));have c1:=fO J3 (12+k) (by omega);have c2:=fO J3 (6+k) (by omega);have c3:=fO J3 (18+k*6+k) (by omega);have afk:Hid _:=J3;clear J3 SH hbel hb1;generalize (localM x k).1=n at *;generalize hF:F x k=f at *;generalize hC:C x k=c at *;generalize hR:R x k k=r at *;unfold F at hF; unfold C at hC; unfold R at hR;rw[hF]at c1; rw[hC]at c2; rw[hR]at c3;clear hF hC hR
   cases his:(localM x k).2
   ·rw[his]at HK;clear his;have HR:Hid _:=HF.out (by rw[HK.out]; rfl);clear HK HF HM
    go_wp2_with fail
    go_quiet (fail)
    go_wp2
    go_ret
    rw[HR.out]; exact⟨rfl,bN J4 _⟩
   ·rw[his]at HK;clear his;by_cases h1:n<0
    ·have d1:decide (n<0)=true:=(by simpa using h1);have d1':decide (0<=n)=false:=(by simp; omega);have HR:Hid _:=HF.out (by rw[HK.out]; rw[d1']; rfl);clear HK HF HM
     go_wp2_with fail
     go_quiet (fail)
     go_wp2
     go_ret
     rw[HR.out]; exact⟨rfl,bN J4 _⟩
    ·have d1:decide (n<0)=false:=(by simp; omega);have d1':Hid (decide (0<=n)=true):=(by unfold Hid; simp; omega);by_cases h2:c<f
     ·have d2:decide (c<f)=true:=(by simpa using h2);have d2':decide (f<=c)=false:=(by simp; omega);have HR:Hid _:=HF.out (by rw[HK.out]; rw[d2',H_,Bool.false_and]);clear HK HF HM
      go_wp2_with fail
      go_quiet (fail)
      go_wp2
      go_ret
      rw[HR.out]; exact⟨rfl,bN J4 _⟩
     ·have d2:decide (c<f)=false:=(by simp; omega);have d2':Hid (decide (f<=c)=true):=(by unfold Hid; simp; omega);by_cases h3:r=0
      ·subst h3
       go_wp2_with fail
       go_quiet (fail)
       go_wp2
       go_roundw
       case rel=>exact⟨rfl,k+1,by omega,by go_num,by rw[HM.out,HN.out,HK.out,d1'.out,d2'.out]; rfl,afk.out,bN J4 _⟩
       case measure=>simp[intOf]; omega
      ·have d3:(r != 0)=true:=(by simpa using h3);have d3':(r==0)=false:=(by simpa using h3);have HR:Hid _:=HF.out (by rw[HK.out]; rw[d3',H_]);clear HK HF HM
       go_wp2_with fail
       go_quiet (fail)
       go_wp2
       go_ret
       rw[HR.out]; exact⟨rfl,bN J4 _⟩
  ·obtain rfl:k=6:=(by omega);have HV:Hid (may x=((mP (gs x)).2&&decide ((mP (gs x)).1<=1125899906842624))):=(by unfold Hid may; rw[HN.out,Bool.true_and]);have hg:RdI .i64 wr (some ⟨w.heap.size,0,none⟩) (gs x):=afj SH.out;have HL:Hid ((gs x).length=6):=rfl;generalize gs x=l at *;clear HN
   go_wp2_with fail
   refine(Ir _ 6 _ l _ (by omega) HL hg).mono ?_;rintro e w1 ⟨rfl,rfl⟩;generalize (mP l).1=n at *
   cases h:(mP l).2
   ·rw[h]at HV;clear h
    go_wp2_with fail
    go_ret
    rw[HV.out]; exact⟨rfl,hbel⟩
   ·rw[h]at HV;clear h
    go_wp2_with fail
    go_ret
    rw[HV.out]; exact⟨rfl,hbel⟩
namespace Rt
def gH(i:Int):Bool:=decide (1<=i)&&decide (i<=6)
def fE(x:Nat->Int)(i:Int):Int:=if gH i&&may x then(localM x (i.toNat-1)).1 else 0
theorem zP{n:Int}(h:zJ n=true):0<=n/\n<=1125899906842624:=by unfold zJ at h; simpa using h
theorem NK{l:List Int}(h:(mP l).2=true):lV l=true:=by
 unfold mP at h;by_cases a:lV l=true
 ·exact a
 rw[b_ a]at h; exact L_ h (by decide)
theorem yB{l:List Int}(h:lV l=true){n:Int}(a:n∈l):0<=n/\n<=1125899906842624:=by
 unfold lV at h;rw[List.all_eq_true]at h;exact zP (h n a)
theorem J5(x:Nat->Int)(k:Nat) : ∀ j,C x k∈outs x k j
 | 0=>by simp[outs]
 | j+1=>by rw[outs]; exact List.mem_append_left _ (J5 x k j)
theorem Gx(x:Nat->Int)(k i:Nat) : ∀ j,i<j->R x k i∈outs x k j
 | 0,h=>L_ h (by omega)
 | j+1,h=>by
   rw[outs];by_cases e:i=j
   ·subst e; simp
   ·exact List.mem_append_left _ (Gx x k i j (by omega))
theorem DJ(x:Nat->Int)(k:Nat) : ∀ j,G x k∈ins x k j/\F x k∈ins x k j
 | 0=>by simp[ins]
 | j+1=>by rw[ins]; exact⟨List.mem_append_left _ (DJ x k j).1,List.mem_append_left _ (DJ x k j).2⟩
theorem NM(x:Nat->Int)(k:Nat) : ∀ n,Dn x n=true->k<n->Bu x k=true
 | 0,_,hk=>L_ hk (by omega)
 | n+1,h,hk=>by
   rw[Dn,R_]at h;by_cases e:k=n
   ·subst e; exact h.2
   ·exact NM x k n h.1 (by omega)
theorem SI{x:Nat->Int}(h:may x=true)(k:Nat)(a:k<6):Bu x k=true:=by
 unfold may at h; rw[R_]at h; exact NM x k 6 h.1 a
structure Dh(x:Nat->Int)(k:Nat):Prop where
 g:0<=G x k/\G x k<=1125899906842624
 c:0<=C x k/\C x k<=1125899906842624
 f:0<=F x k/\F x k<=1125899906842624
 fc:F x k<=C x k
 r : ∀ i,i<6->0<=R x k i/\R x k i<=1125899906842624
 l:0<=(localM x k).1
 rkk:R x k k=0
 l2:(localM x k).2=true
theorem WW{x:Nat->Int}{k:Nat}(h:Bu x k=true):Dh x k:=by
 unfold Bu at h;rw[R_,R_,R_]at h;obtain⟨⟨⟨a,e⟩,h3⟩,h4⟩:=h;have d:=a;unfold localM at a;rw[R_]at a;have c:=NK a.1;have b:=NK a.2;exact⟨yB b (DJ x k 6).1,yB c (J5 x k 6),yB b (DJ x k 6).2,by simpa using h3,fun i f=>yB c (Gx x k i 6 f),by simpa using e,by simpa using h4,d⟩
theorem wh{x:Nat->Int}(h:may x=true)(k:Nat)(a:k<6):Dh x k:=WW (SI h k a)
theorem Pn(x:Nat->Int)(k:Nat) : -(1125899906842624*8)<=(localM x k).1/\(localM x k).1<=1125899906842624*8:=by
 have a:=vT (ins x k 6);have b:=vT (outs x k 6);rw[Rv]at a;rw[Pf]at b;unfold localM;simp only;omega
end Rt
set_option maxHeartbeats 400000 in
theorem rF(i:Int)(w:World)(hi : -9223372036854775808<=i/\i<=9223372036854775807) :
 Calls Tryz.prog 71 #[.int .i64 i] w fun e w'=>e = .returned (.bool (gH i))/\w'=w:=by
 unfold gH;by_cases h1:i<1
 ·have d1:decide (1<=i)=false:=by simp; omega
  have D1:Hid _:=d1
  go_enter Tryz.func71,Tryz.ntmps71
  go_wp2
  go_ret
  first|exact⟨rfl,rfl⟩|(rw[D1.out]; exact⟨rfl,rfl⟩)
 have d1:decide (1<=i)=true:=by simp; omega
 have D1:Hid _:=d1
 go_enter Tryz.func71,Tryz.ntmps71
 go_wp2
 go_ret
 first|exact⟨rfl,rfl⟩|(rw[D1.out]; exact⟨rfl,rfl⟩)
theorem iM:(Tryz.prog.info? 59).map (·.size)=some 54:=by kernel_rfl
set_option maxRecDepth 100000 in
set_option maxHeartbeats 400000 in
theorem wm(x:Nat->Int)(i:Int)(w:World)(hi : -9223372036854775808<=i/\i<=9223372036854775807) :
 Calls Tryz.prog 48 #[.agg (aR .i64 54 x),.int .i64 i] w fun e w'=>e = .returned (.int .i64 (fE x i))/\Below w.heap.size w w':=by
 have HV:Hid (fE x i=if gH i&&may x then(localM x (i.toNat-1)).1 else 0):=rfl;have hrow:Hid ((w.alloc (.cells (aR .i64 54 x) 59)).heap[w.heap.size]? = some (.cells (aR .i64 54 x) 59 (0,0))):=heap_alloc_new w _;have HR:Hid (gH i=true<->1<=i/\i<=6):=by unfold Hid gH; simp
 have SK:Hid (∀ w',Calls Tryz.prog 71 #[.int .i64 i] w' fun e w''=>e = .returned (.bool (gH i))/\w''=w'):=fun w'=>rF i w' hi;have hmay:Hid (∀ w',Calls Tryz.prog 72 #[.agg (aR .i64 54 x)] w' fun e w''=>e = .returned (.bool (may x))/\Below w'.heap.size w' w''):=fun w'=>sZ x w';generalize gH i=r at *
 cases r
 ·go_enter Tryz.func48,Tryz.ntmps48
  go_wp2_with (go_at_call 71; refine(SK.out _).mono ?_; rintro e w' ⟨rfl,rfl⟩)
  go_ret
  rw[HV.out]; exact⟨rfl,(Below.refl _ _).alloc (z_ _) _⟩
 have hb:1<=i/\i<=6:=HR.out.1 rfl;obtain⟨k,hk⟩:=Int.eq_ofNat_of_zero_le (show 0<=i-1 by omega);have Hk:Hid (i-1=(k:Int)):=hk;have hk6:k<6:=by omega
 have hkt:Hid (i.toNat-1=k):=by unfold Hid; omega
 clear hk;generalize may x=m at *
 cases m
 ·go_enter Tryz.func48,Tryz.ntmps48
  go_wp2_with (first
   | (go_at_call 71; refine(SK.out _).mono ?_; rintro e w' ⟨rfl,rfl⟩)
   | (refine ze (by rfl) (wp_load_row (o:=⟨some 11,_,_,_,_,_⟩) 59 (.tmp 2) (by rfl) w.heap.size (by rfl) 59 (aR .i64 54 x) (0,0) _ hrow.out Tryz.underlying59 (by rfl) (by rw[bB]; exact iM) ?_))
   | (go_at_call 72; refine(hmay.out _).mono ?_; rintro e w1 ⟨rfl,hb1⟩))
  go_ret
  rw[HV.out]; exact⟨rfl,bal hb1⟩
 go_enter Tryz.func48,Tryz.ntmps48
 go_wp2_with (first
  | (go_at_call 71; refine(SK.out _).mono ?_; rintro e w' ⟨rfl,rfl⟩)
  | (refine ze (by rfl) (wp_load_row (o:=⟨some 11,_,_,_,_,_⟩) 59 (.tmp 2) (by rfl) w.heap.size (by rfl) 59 (aR .i64 54 x) (0,0) _ hrow.out Tryz.underlying59 (by rfl) (by rw[bB]; exact iM) ?_))
  | (go_at_call 72; refine(hmay.out _).mono ?_; rintro e w1 ⟨rfl,hb1⟩)
  | (go_at_call 73; rw[Hk.out]; refine(Gw w.heap.size 59 (0,0) x k w1 hk6 ((hb1.block _ (by simp)).trans hrow.out)).mono ?_; rintro e w2 ⟨rfl,hb2⟩))
 go_ret
 rw[HV.out,hkt.out]; exact⟨rfl,Jg (bal hb1) hb2⟩
namespace Rt
def zero:Nat->Int:=fun _=>0
def bU(x:Nat->Int)(n:Int)(is:Bool)(a:Int)(off:Nat):(Nat->Int) × Int :=
 if may x&&decide (1<=n)&&decide (n<=1125899906842624)then
  if is then
   if a=0 then
    if x off+n<=1125899906842624 then(upd x off (x off+n),0)else(zero,6)
   else(zero,a)
  else(zero,10)
 else(zero,1)
end Rt
theorem oO(T:TypeId)(a:Nat × Nat):Obj.cells (aR .i64 54 zero) T a = .cells #[.int .i64 0,.int .i64 0,.int .i64 0,.int .i64 0,.int .i64 0,.int .i64 0,.int .i64 0,.int .i64 0,.int .i64 0,.int .i64 0,.int .i64 0,.int .i64 0,.int .i64 0,.int .i64 0,.int .i64 0,.int .i64 0,.int .i64 0,.int .i64 0,.int .i64 0,.int .i64 0,.int .i64 0,.int .i64 0,.int .i64 0,.int .i64 0,.int .i64 0,.int .i64 0,.int .i64 0,.int .i64 0,.int .i64 0,.int .i64 0,.int .i64 0,.int .i64 0,.int .i64 0,.int .i64 0,.int .i64 0,.int .i64 0,.int .i64 0,.int .i64 0,.int .i64 0,.int .i64 0,.int .i64 0,.int .i64 0,.int .i64 0,.int .i64 0,.int .i64 0,.int .i64 0,.int .i64 0,.int .i64 0,.int .i64 0,.int .i64 0,.int .i64 0,.int .i64 0,.int .i64 0,.int .i64 0] T a:=by rfl
theorem results_cell_tmp{P:Program}{b:Func}{p q:Tmp}{ty:TypeId}(h:b.results = #[.cell p ty,.tmp q])(a:Array Value)(w:World)(g:Nat)(t:TypeId)(cs:Array Value)(c:Nat × Nat)(d:TypeDesc)
 (i:a.getD p undef = .pointer (some ⟨g,0,none⟩)) (f:w.heap[g]? = some (.cells cs t c))
 (k:P.underlying ty=some d) (e:(match d with | .struct _ | .array _ _=>true|_=>false)=true) (hi:(P.info? ty).map (·.size)=some cs.size) :
 (results b a).run P w = .ok (.tuple #[.agg cs,a.getD q undef]) w:=by
 have j:a[p]?.getD undef = .pointer (some ⟨g,0,none⟩):=by simpa using i
 simp[results,h,j,asAddr,run_loadVar_row w g t ty cs c d f k e hi]
def jL(x:Nat->Int)(n:Int)(is:Bool)(a:Int)(off:Nat)(w:World)(e:Ending)(w':World):Prop :=
 e = .returned (.tuple #[.agg (aR .i64 54 (bU x n is a off).1),.int .i64 (bU x n is a off).2])/\Below w.heap.size w w'
theorem iG{w a:World}{B g:Nat}{e:Array Value}(c:Below B w a)(b:B<=g)(d:a.heap[g]? = some (.cells e 59 (0,0)))(y:Nat->Int) :
 (a.setRow g (aR .i64 54 y)).heap[g]? = some (.cells (aR .i64 54 y) 59 (0,0))/\Below B w (a.setRow g (aR .i64 54 y)) :=
 ⟨setRow_heap _ _ _ _ _ _ d,ajj c b⟩
theorem mQ{x:Nat->Int}{n:Int}{is:Bool}{c:Int}{off:Nat}{w b:World}{a:Act}{g:Nat}{y:Nat->Int}{k:Int}(d:bU x n is c off=(y,k))(f:a.defers = [])
 (i:a.tmps.getD 10 undef = .pointer (some ⟨g,0,none⟩)) (j:a.tmps.getD 11 undef = .int .i64 k) (h:b.heap[g]? = some (.cells (aR .i64 54 y) 59 (0,0))) (e:Below w.heap.size w b) :
 bodyPost Tryz.prog Tryz.f188 (jL x n is c off w) .ret a b:=by
 refine bodyPost_ret (v := .tuple #[.agg (aR .i64 54 y),.int .i64 k]) ?_ f ⟨?_,e⟩
 ·rw[results_cell_tmp rfl a.tmps b g 59 _ (0,0) _ i h Tryz.underlying59 rfl (by rw[bB]; exact iM),j]
 rw[d]
set_option maxRecDepth 100000 in
set_option maxHeartbeats 2000000 in
theorem Mc(x:Nat->Int)(n:Int)(is:Bool)(fm fn:FuncId)(cm cn:Array Value)(em:Int)(off:Nat)(w:World)(h:may x=false) :
 Calls Tryz.prog 188 #[.agg (aR .i64 54 x),.int .i64 n,.bool is,.func (.func fm) #[] cm,.func (.func fn) #[] cn] w (jL x n is em off w):=by
 have hT:Hid (bU x n is em off=(zero,1)):=by unfold Hid bU; rw[h]; rfl
 have hmay:Hid (∀ w',Calls Tryz.prog 72 #[.agg (aR .i64 54 x)] w' fun e w''=>e = .returned (.bool (may x))/\Below w'.heap.size w' w''):=fun w'=>sZ x w'
 go_enter Tryz.func188,Tryz.ntmps188
 go_upto_region 1 with (fail)
 rw[<- oO];have hx0:Hid (((w.alloc (.cells (aR .i64 54 x) 59)).alloc (.cells (aR .i64 54 zero) 59)).heap[w.heap.size]? = some (.cells (aR .i64 54 x) 59 (0,0))):=heap_alloc2_old w _ _;have hz0:Hid (((w.alloc (.cells (aR .i64 54 x) 59)).alloc (.cells (aR .i64 54 zero) 59)).heap[w.heap.size+1]? = some (.cells (aR .i64 54 zero) 59 (0,0))):=heap_alloc2_new w _ _;have hb0:Below w.heap.size w ((w.alloc (.cells (aR .i64 54 x) 59)).alloc (.cells (aR .i64 54 zero) 59)):=((Below.refl _ _).alloc (z_ _) _).alloc (by simp) _;have hs0:w.heap.size+1<((w.alloc (.cells (aR .i64 54 x) 59)).alloc (.cells (aR .i64 54 zero) 59)).heap.size:=by simp
 generalize (w.alloc (.cells (aR .i64 54 x) 59)).alloc (.cells (aR .i64 54 zero) 59)=W at *;rw[h]at hmay
 go_wp2_with (first
  | (refine wpList_load_row (o:=⟨some 15,_,_,_,_,_⟩) (by rfl) 59 (.tmp 5) (by rfl) w.heap.size (by rfl) 59 (aR .i64 54 x) (0,0) _ hx0.out Tryz.underlying59 (by rfl) (by rw[bB]; exact iM) ?_)
  | (go_at_call 72; refine(hmay.out _).mono ?_; rintro e w1 ⟨rfl,hb1⟩; have hz1:Hid _:=(hb1.block (w.heap.size+1) hs0).trans hz0.out; have hx1:Hid _:=(hb1.block w.heap.size (by omega)).trans hx0.out; have hB1:=hb0.trans (hb1.mono hb0.size); have hs1:=n_ hs0 hb1.size)
  | (refine wpList_store_row (o:=⟨none,.store 59 (.tmp 10) (.tmp 22),_,_,_,_⟩) (by rfl) 59 (.tmp 10) (.tmp 22) (by rfl) (w.heap.size+1) (aR .i64 54 zero) (by rfl) (by rfl) 59 (aR .i64 54 zero) hz1.out (by rw[bB]; exact iM) (by rw[bB]) (kK _ _ _) ?_))
 have hend:=iG hB1 (by omega) hz1.out zero;exact mQ hT.out rfl rfl rfl hend.1 hend.2
set_option maxRecDepth 100000 in
set_option maxHeartbeats 2000000 in
theorem Md(x:Nat->Int)(n:Int)(is:Bool)(fm fn:FuncId)(cm cn:Array Value)(em:Int)(off:Nat)(w:World)(h:may x=true)(hn1:n<1) :
 Calls Tryz.prog 188 #[.agg (aR .i64 54 x),.int .i64 n,.bool is,.func (.func fm) #[] cm,.func (.func fn) #[] cn] w (jL x n is em off w):=by
 have hT:Hid (bU x n is em off=(zero,1)):=by unfold Hid bU; rw[h,g_ (show ¬ 1<=n by omega)]; rfl
 have hmay:Hid (∀ w',Calls Tryz.prog 72 #[.agg (aR .i64 54 x)] w' fun e w''=>e = .returned (.bool (may x))/\Below w'.heap.size w' w''):=fun w'=>sZ x w'
 go_enter Tryz.func188,Tryz.ntmps188
 go_upto_region 1 with (fail)
 rw[<- oO];have hx0:Hid (((w.alloc (.cells (aR .i64 54 x) 59)).alloc (.cells (aR .i64 54 zero) 59)).heap[w.heap.size]? = some (.cells (aR .i64 54 x) 59 (0,0))):=heap_alloc2_old w _ _;have hz0:Hid (((w.alloc (.cells (aR .i64 54 x) 59)).alloc (.cells (aR .i64 54 zero) 59)).heap[w.heap.size+1]? = some (.cells (aR .i64 54 zero) 59 (0,0))):=heap_alloc2_new w _ _;have hb0:Below w.heap.size w ((w.alloc (.cells (aR .i64 54 x) 59)).alloc (.cells (aR .i64 54 zero) 59)):=((Below.refl _ _).alloc (z_ _) _).alloc (by simp) _;have hs0:w.heap.size+1<((w.alloc (.cells (aR .i64 54 x) 59)).alloc (.cells (aR .i64 54 zero) 59)).heap.size:=by simp
 generalize (w.alloc (.cells (aR .i64 54 x) 59)).alloc (.cells (aR .i64 54 zero) 59)=W at *;rw[h]at hmay
 go_wp2_with (first
  | (refine wpList_load_row (o:=⟨some 15,_,_,_,_,_⟩) (by rfl) 59 (.tmp 5) (by rfl) w.heap.size (by rfl) 59 (aR .i64 54 x) (0,0) _ hx0.out Tryz.underlying59 (by rfl) (by rw[bB]; exact iM) ?_)
  | (go_at_call 72; refine(hmay.out _).mono ?_; rintro e w1 ⟨rfl,hb1⟩; have hz1:Hid _:=(hb1.block (w.heap.size+1) hs0).trans hz0.out; have hx1:Hid _:=(hb1.block w.heap.size (by omega)).trans hx0.out; have hB1:=hb0.trans (hb1.mono hb0.size); have hs1:=n_ hs0 hb1.size)
  | (refine wpList_store_row (o:=⟨none,.store 59 (.tmp 10) (.tmp 22),_,_,_,_⟩) (by rfl) 59 (.tmp 10) (.tmp 22) (by rfl) (w.heap.size+1) (aR .i64 54 zero) (by rfl) (by rfl) 59 (aR .i64 54 zero) hz1.out (by rw[bB]; exact iM) (by rw[bB]) (kK _ _ _) ?_))
 have hend:=iG hB1 (by omega) hz1.out zero;exact mQ hT.out rfl rfl rfl hend.1 hend.2
set_option maxRecDepth 100000 in
set_option maxHeartbeats 2000000 in
theorem Me(x:Nat->Int)(n:Int)(is:Bool)(fm fn:FuncId)(cm cn:Array Value)(em:Int)(off:Nat)(w:World)(h:may x=true)(hn1:1125899906842624<n) :
 Calls Tryz.prog 188 #[.agg (aR .i64 54 x),.int .i64 n,.bool is,.func (.func fm) #[] cm,.func (.func fn) #[] cn] w (jL x n is em off w):=by
 have hT:Hid (bU x n is em off=(zero,1)):=by unfold Hid bU; rw[g_ (show ¬ n<=1125899906842624 by omega),H_]; rfl
 have hmay:Hid (∀ w',Calls Tryz.prog 72 #[.agg (aR .i64 54 x)] w' fun e w''=>e = .returned (.bool (may x))/\Below w'.heap.size w' w''):=fun w'=>sZ x w'
 go_enter Tryz.func188,Tryz.ntmps188
 go_upto_region 1 with (fail)
 rw[<- oO];have hx0:Hid (((w.alloc (.cells (aR .i64 54 x) 59)).alloc (.cells (aR .i64 54 zero) 59)).heap[w.heap.size]? = some (.cells (aR .i64 54 x) 59 (0,0))):=heap_alloc2_old w _ _;have hz0:Hid (((w.alloc (.cells (aR .i64 54 x) 59)).alloc (.cells (aR .i64 54 zero) 59)).heap[w.heap.size+1]? = some (.cells (aR .i64 54 zero) 59 (0,0))):=heap_alloc2_new w _ _;have hb0:Below w.heap.size w ((w.alloc (.cells (aR .i64 54 x) 59)).alloc (.cells (aR .i64 54 zero) 59)):=((Below.refl _ _).alloc (z_ _) _).alloc (by simp) _;have hs0:w.heap.size+1<((w.alloc (.cells (aR .i64 54 x) 59)).alloc (.cells (aR .i64 54 zero) 59)).heap.size:=by simp
 generalize (w.alloc (.cells (aR .i64 54 x) 59)).alloc (.cells (aR .i64 54 zero) 59)=W at *;rw[h]at hmay
 go_wp2_with (first
  | (refine wpList_load_row (o:=⟨some 15,_,_,_,_,_⟩) (by rfl) 59 (.tmp 5) (by rfl) w.heap.size (by rfl) 59 (aR .i64 54 x) (0,0) _ hx0.out Tryz.underlying59 (by rfl) (by rw[bB]; exact iM) ?_)
  | (go_at_call 72; refine(hmay.out _).mono ?_; rintro e w1 ⟨rfl,hb1⟩; have hz1:Hid _:=(hb1.block (w.heap.size+1) hs0).trans hz0.out; have hx1:Hid _:=(hb1.block w.heap.size (by omega)).trans hx0.out; have hB1:=hb0.trans (hb1.mono hb0.size); have hs1:=n_ hs0 hb1.size)
  | (refine wpList_store_row (o:=⟨none,.store 59 (.tmp 10) (.tmp 22),_,_,_,_⟩) (by rfl) 59 (.tmp 10) (.tmp 22) (by rfl) (w.heap.size+1) (aR .i64 54 zero) (by rfl) (by rfl) 59 (aR .i64 54 zero) hz1.out (by rw[bB]; exact iM) (by rw[bB]) (kK _ _ _) ?_))
 have hend:=iG hB1 (by omega) hz1.out zero;exact mQ hT.out rfl rfl rfl hend.1 hend.2
set_option maxRecDepth 100000 in
set_option maxHeartbeats 2000000 in
theorem Mf(x:Nat->Int)(n:Int)(fm fn:FuncId)(cm cn:Array Value)(em:Int)(off:Nat)(w:World)(h:may x=true)(hn1:1<=n)(hn2:n<=1125899906842624) :
 Calls Tryz.prog 188 #[.agg (aR .i64 54 x),.int .i64 n,.bool false,.func (.func fm) #[] cm,.func (.func fn) #[] cn] w (jL x n false em off w):=by
 have hT:Hid (bU x n false em off=(zero,10)):=by unfold Hid bU; rw[h,f_ hn1,f_ hn2]; simp only[Bool.and_self,if_true]; rfl
 have hmay:Hid (∀ w',Calls Tryz.prog 72 #[.agg (aR .i64 54 x)] w' fun e w''=>e = .returned (.bool (may x))/\Below w'.heap.size w' w''):=fun w'=>sZ x w'
 go_enter Tryz.func188,Tryz.ntmps188
 go_upto_region 1 with (fail)
 rw[<- oO];have hx0:Hid (((w.alloc (.cells (aR .i64 54 x) 59)).alloc (.cells (aR .i64 54 zero) 59)).heap[w.heap.size]? = some (.cells (aR .i64 54 x) 59 (0,0))):=heap_alloc2_old w _ _;have hz0:Hid (((w.alloc (.cells (aR .i64 54 x) 59)).alloc (.cells (aR .i64 54 zero) 59)).heap[w.heap.size+1]? = some (.cells (aR .i64 54 zero) 59 (0,0))):=heap_alloc2_new w _ _;have hb0:Below w.heap.size w ((w.alloc (.cells (aR .i64 54 x) 59)).alloc (.cells (aR .i64 54 zero) 59)):=((Below.refl _ _).alloc (z_ _) _).alloc (by simp) _;have hs0:w.heap.size+1<((w.alloc (.cells (aR .i64 54 x) 59)).alloc (.cells (aR .i64 54 zero) 59)).heap.size:=by simp
 generalize (w.alloc (.cells (aR .i64 54 x) 59)).alloc (.cells (aR .i64 54 zero) 59)=W at *;rw[h]at hmay
 go_wp2_with (first
  | (refine wpList_load_row (o:=⟨some 15,_,_,_,_,_⟩) (by rfl) 59 (.tmp 5) (by rfl) w.heap.size (by rfl) 59 (aR .i64 54 x) (0,0) _ hx0.out Tryz.underlying59 (by rfl) (by rw[bB]; exact iM) ?_)
  | (go_at_call 72; refine(hmay.out _).mono ?_; rintro e w1 ⟨rfl,hb1⟩; have hz1:Hid _:=(hb1.block (w.heap.size+1) hs0).trans hz0.out; have hx1:Hid _:=(hb1.block w.heap.size (by omega)).trans hx0.out; have hB1:=hb0.trans (hb1.mono hb0.size); have hs1:=n_ hs0 hb1.size)
  | (refine wpList_store_row (o:=⟨none,.store 59 (.tmp 10) (.tmp 26),_,_,_,_⟩) (by rfl) 59 (.tmp 10) (.tmp 26) (by rfl) (w.heap.size+1) (aR .i64 54 zero) (by rfl) (by rfl) 59 (aR .i64 54 zero) hz1.out (by rw[bB]; exact iM) (by rw[bB]) (kK _ _ _) ?_))
 have hend:=iG hB1 (by omega) hz1.out zero;exact mQ hT.out rfl rfl rfl hend.1 hend.2
set_option maxRecDepth 100000 in
set_option maxHeartbeats 2000000 in
theorem Mg(x:Nat->Int)(n:Int)(fm fn:FuncId)(cm cn:Array Value)(em:Int)(off:Nat)(w:World)(h:may x=true)(hn1:1<=n)(hn2:n<=1125899906842624)(hem:em≠0)(hcm : ∀(args:Array Value) (w:World),(callFunc fm args).run Tryz.prog w = .ok (.enter fm args) w)(hm:Hid (∀ w',Below w.heap.size w w'->Calls Tryz.prog fm cm w' fun e w''=>e = .returned (.int .i64 em)/\Below w'.heap.size w' w'')) :
 Calls Tryz.prog 188 #[.agg (aR .i64 54 x),.int .i64 n,.bool true,.func (.func fm) #[] cm,.func (.func fn) #[] cn] w (jL x n true em off w):=by
 have hT:Hid (bU x n true em off=(zero,em)):=by unfold Hid bU; rw[h,f_ hn1,f_ hn2]; simp only[Bool.and_self,if_true]; rw[b_ hem]
 have atB:(em != 0)=true:=by simpa using hem
 have hmay:Hid (∀ w',Calls Tryz.prog 72 #[.agg (aR .i64 54 x)] w' fun e w''=>e = .returned (.bool (may x))/\Below w'.heap.size w' w''):=fun w'=>sZ x w'
 go_enter Tryz.func188,Tryz.ntmps188
 go_upto_region 1 with (fail)
 rw[<- oO];have hx0:Hid (((w.alloc (.cells (aR .i64 54 x) 59)).alloc (.cells (aR .i64 54 zero) 59)).heap[w.heap.size]? = some (.cells (aR .i64 54 x) 59 (0,0))):=heap_alloc2_old w _ _;have hz0:Hid (((w.alloc (.cells (aR .i64 54 x) 59)).alloc (.cells (aR .i64 54 zero) 59)).heap[w.heap.size+1]? = some (.cells (aR .i64 54 zero) 59 (0,0))):=heap_alloc2_new w _ _;have hb0:Below w.heap.size w ((w.alloc (.cells (aR .i64 54 x) 59)).alloc (.cells (aR .i64 54 zero) 59)):=((Below.refl _ _).alloc (z_ _) _).alloc (by simp) _;have hs0:w.heap.size+1<((w.alloc (.cells (aR .i64 54 x) 59)).alloc (.cells (aR .i64 54 zero) 59)).heap.size:=by simp
 generalize (w.alloc (.cells (aR .i64 54 x) 59)).alloc (.cells (aR .i64 54 zero) 59)=W at *;rw[h]at hmay
 go_wp2_with (first
  | (refine wpList_load_row (o:=⟨some 15,_,_,_,_,_⟩) (by rfl) 59 (.tmp 5) (by rfl) w.heap.size (by rfl) 59 (aR .i64 54 x) (0,0) _ hx0.out Tryz.underlying59 (by rfl) (by rw[bB]; exact iM) ?_)
  | (go_at_call 72; refine(hmay.out _).mono ?_; rintro e w1 ⟨rfl,hb1⟩; have hz1:Hid _:=(hb1.block (w.heap.size+1) hs0).trans hz0.out; have hx1:Hid _:=(hb1.block w.heap.size (by omega)).trans hx0.out; have hB1:=hb0.trans (hb1.mono hb0.size); have hs1:=n_ hs0 hb1.size)
  | (refine(hm.out _ hB1).mono ?_; rintro e w2 ⟨rfl,hb2⟩; have hz2:Hid _:=(hb2.block (w.heap.size+1) hs1).trans hz1.out; have hx2:Hid _:=(hb2.block w.heap.size (by omega)).trans hx1.out; have hB2:=hB1.trans (hb2.mono hB1.size); have hs2:=n_ hs1 hb2.size)
  | (refine wpList_store_row (o:=⟨none,.store 59 (.tmp 10) (.tmp 31),_,_,_,_⟩) (by rfl) 59 (.tmp 10) (.tmp 31) (by rfl) (w.heap.size+1) (aR .i64 54 zero) (by rfl) (by rfl) 59 (aR .i64 54 zero) hz2.out (by rw[bB]; exact iM) (by rw[bB]) (kK _ _ _) ?_))
 have hend:=iG hB2 (by omega) hz2.out zero;exact mQ hT.out rfl rfl rfl hend.1 hend.2
set_option maxRecDepth 100000 in
set_option maxHeartbeats 2000000 in
theorem Mh(x:Nat->Int)(n:Int)(fm fn:FuncId)(cm cn:Array Value)(em:Int)(off:Nat)(w:World)(h:may x=true)(hn1:1<=n)(hn2:n<=1125899906842624)(em0:em=0)(hoff:off<54)(v:Int)(hv:x off=v)(hv2:0<=v/\v<=1125899906842624)(hs:1125899906842624<v+n)(hcm : ∀(args:Array Value) (w:World),(callFunc fm args).run Tryz.prog w = .ok (.enter fm args) w)(hm:Hid (∀ w',Below w.heap.size w w'->Calls Tryz.prog fm cm w' fun e w''=>e = .returned (.int .i64 em)/\Below w'.heap.size w' w''))(hcn : ∀(args:Array Value) (w:World),(callFunc fn args).run Tryz.prog w = .ok (.enter fn args) w)(hn:Hid (∀ w' g,Below w.heap.size w w'->Calls Tryz.prog fn (#[.pointer (some ⟨g,0,none⟩)]++cn) w' fun e w''=>e = .returned (.pointer (some ⟨g,off,none⟩))/\Below w'.heap.size w' w'')) :
 Calls Tryz.prog 188 #[.agg (aR .i64 54 x),.int .i64 n,.bool true,.func (.func fm) #[] cm,.func (.func fn) #[] cn] w (jL x n true em off w):=by
 have hT:Hid (bU x n true em off=(zero,6)):=by unfold Hid bU; rw[h,f_ hn1,f_ hn2]; simp only[Bool.and_self,if_true]; rw[d_ em0,hv,b_ (by omega)]
 subst em0;have hmay:Hid (∀ w',Calls Tryz.prog 72 #[.agg (aR .i64 54 x)] w' fun e w''=>e = .returned (.bool (may x))/\Below w'.heap.size w' w''):=fun w'=>sZ x w'
 go_enter Tryz.func188,Tryz.ntmps188
 go_upto_region 1 with (fail)
 rw[<- oO];have hx0:Hid (((w.alloc (.cells (aR .i64 54 x) 59)).alloc (.cells (aR .i64 54 zero) 59)).heap[w.heap.size]? = some (.cells (aR .i64 54 x) 59 (0,0))):=heap_alloc2_old w _ _;have hz0:Hid (((w.alloc (.cells (aR .i64 54 x) 59)).alloc (.cells (aR .i64 54 zero) 59)).heap[w.heap.size+1]? = some (.cells (aR .i64 54 zero) 59 (0,0))):=heap_alloc2_new w _ _;have hb0:Below w.heap.size w ((w.alloc (.cells (aR .i64 54 x) 59)).alloc (.cells (aR .i64 54 zero) 59)):=((Below.refl _ _).alloc (z_ _) _).alloc (by simp) _;have hs0:w.heap.size+1<((w.alloc (.cells (aR .i64 54 x) 59)).alloc (.cells (aR .i64 54 zero) 59)).heap.size:=by simp
 generalize (w.alloc (.cells (aR .i64 54 x) 59)).alloc (.cells (aR .i64 54 zero) 59)=W at *;rw[h]at hmay
 go_wp2_with (first
  | (refine wpList_load_row (o:=⟨some 15,_,_,_,_,_⟩) (by rfl) 59 (.tmp 5) (by rfl) w.heap.size (by rfl) 59 (aR .i64 54 x) (0,0) _ hx0.out Tryz.underlying59 (by rfl) (by rw[bB]; exact iM) ?_)
  | (go_at_call 72; refine(hmay.out _).mono ?_; rintro e w1 ⟨rfl,hb1⟩; have hz1:Hid _:=(hb1.block (w.heap.size+1) hs0).trans hz0.out; have hx1:Hid _:=(hb1.block w.heap.size (by omega)).trans hx0.out; have hB1:=hb0.trans (hb1.mono hb0.size); have hs1:=n_ hs0 hb1.size)
  | (refine(hm.out _ hB1).mono ?_; rintro e w2 ⟨rfl,hb2⟩; have hz2:Hid _:=(hb2.block (w.heap.size+1) hs1).trans hz1.out; have hx2:Hid _:=(hb2.block w.heap.size (by omega)).trans hx1.out; have hB2:=hB1.trans (hb2.mono hB1.size); have hs2:=n_ hs1 hb2.size)
  | (refine(hn.out _ _ hB2).mono ?_; rintro e w3 ⟨rfl,hb3⟩; have hz3:Hid _:=(hb3.block (w.heap.size+1) hs2).trans hz2.out; have hx3:=(hb3.block w.heap.size (by omega)).trans hx2.out; have hB3:=hB2.trans (hb3.mono hB2.size); have hs3:=n_ hs2 hb3.size; have hc3:=fO hx3 off hoff; have hf3:=frozen_of_row w3 w.heap.size off _ _ hx3; have Zn:Hid ((w3.setCell ⟨w.heap.size,off,none⟩ (.int .i64 (v+n))).heap[w.heap.size+1]? = some (.cells (aR .i64 54 zero) 59 (0,0))):=(heap_setCell_other _ _ _ _ (by simp)).trans hz3.out; have hx4:Hid ((w3.setCell ⟨w.heap.size,off,none⟩ (.int .i64 (v+n))).heap[w.heap.size]? = some (.cells (aR .i64 54 (upd x off (v+n))) 59 (0,0))):=by { unfold Hid; rw[heap_setCell_same _ _ _ _ _ _ hx3,Ec] }; have hB4:Below w.heap.size w (w3.setCell ⟨w.heap.size,off,none⟩ (.int .i64 (v+n))):=hB3.setCell (z_ _) _; clear hx3; rw[hv]at hc3)
  | (refine wpList_store_row (o:=⟨none,.store 59 (.tmp 10) (.tmp 45),_,_,_,_⟩) (by rfl) 59 (.tmp 10) (.tmp 45) (by rfl) (w.heap.size+1) (aR .i64 54 zero) (by rfl) (by rfl) 59 (aR .i64 54 zero) Zn.out (by rw[bB]; exact iM) (by rw[bB]) (kK _ _ _) ?_))
 have hend:=iG hB4 (by omega) Zn.out zero;exact mQ hT.out rfl rfl rfl hend.1 hend.2
set_option maxRecDepth 100000 in
set_option maxHeartbeats 2000000 in
theorem Mi(x:Nat->Int)(n:Int)(fm fn:FuncId)(cm cn:Array Value)(em:Int)(off:Nat)(w:World)(h:may x=true)(hn1:1<=n)(hn2:n<=1125899906842624)(em0:em=0)(hoff:off<54)(v:Int)(hv:x off=v)(hv2:0<=v/\v<=1125899906842624)(hs:v+n<=1125899906842624)(hcm : ∀(args:Array Value) (w:World),(callFunc fm args).run Tryz.prog w = .ok (.enter fm args) w)(hm:Hid (∀ w',Below w.heap.size w w'->Calls Tryz.prog fm cm w' fun e w''=>e = .returned (.int .i64 em)/\Below w'.heap.size w' w''))(hcn : ∀(args:Array Value) (w:World),(callFunc fn args).run Tryz.prog w = .ok (.enter fn args) w)(hn:Hid (∀ w' g,Below w.heap.size w w'->Calls Tryz.prog fn (#[.pointer (some ⟨g,0,none⟩)]++cn) w' fun e w''=>e = .returned (.pointer (some ⟨g,off,none⟩))/\Below w'.heap.size w' w'')) :
 Calls Tryz.prog 188 #[.agg (aR .i64 54 x),.int .i64 n,.bool true,.func (.func fm) #[] cm,.func (.func fn) #[] cn] w (jL x n true em off w):=by
 have hT:Hid (bU x n true em off=(upd x off (v+n),0)):=by unfold Hid bU; rw[h,f_ hn1,f_ hn2]; simp only[Bool.and_self,if_true]; rw[d_ em0,hv,d_ (by omega)]
 subst em0;have hmay:Hid (∀ w',Calls Tryz.prog 72 #[.agg (aR .i64 54 x)] w' fun e w''=>e = .returned (.bool (may x))/\Below w'.heap.size w' w''):=fun w'=>sZ x w'
 go_enter Tryz.func188,Tryz.ntmps188
 go_upto_region 1 with (fail)
 rw[<- oO];have hx0:Hid (((w.alloc (.cells (aR .i64 54 x) 59)).alloc (.cells (aR .i64 54 zero) 59)).heap[w.heap.size]? = some (.cells (aR .i64 54 x) 59 (0,0))):=heap_alloc2_old w _ _;have hz0:Hid (((w.alloc (.cells (aR .i64 54 x) 59)).alloc (.cells (aR .i64 54 zero) 59)).heap[w.heap.size+1]? = some (.cells (aR .i64 54 zero) 59 (0,0))):=heap_alloc2_new w _ _;have hb0:Below w.heap.size w ((w.alloc (.cells (aR .i64 54 x) 59)).alloc (.cells (aR .i64 54 zero) 59)):=((Below.refl _ _).alloc (z_ _) _).alloc (by simp) _;have hs0:w.heap.size+1<((w.alloc (.cells (aR .i64 54 x) 59)).alloc (.cells (aR .i64 54 zero) 59)).heap.size:=by simp
 generalize (w.alloc (.cells (aR .i64 54 x) 59)).alloc (.cells (aR .i64 54 zero) 59)=W at *;rw[h]at hmay
 go_wp2_with (first
  | (refine wpList_load_row (o:=⟨some 15,_,_,_,_,_⟩) (by rfl) 59 (.tmp 5) (by rfl) w.heap.size (by rfl) 59 (aR .i64 54 x) (0,0) _ hx0.out Tryz.underlying59 (by rfl) (by rw[bB]; exact iM) ?_)
  | (go_at_call 72; refine(hmay.out _).mono ?_; rintro e w1 ⟨rfl,hb1⟩; have hz1:Hid _:=(hb1.block (w.heap.size+1) hs0).trans hz0.out; have hx1:Hid _:=(hb1.block w.heap.size (by omega)).trans hx0.out; have hB1:=hb0.trans (hb1.mono hb0.size); have hs1:=n_ hs0 hb1.size)
  | (refine(hm.out _ hB1).mono ?_; rintro e w2 ⟨rfl,hb2⟩; have hz2:Hid _:=(hb2.block (w.heap.size+1) hs1).trans hz1.out; have hx2:Hid _:=(hb2.block w.heap.size (by omega)).trans hx1.out; have hB2:=hB1.trans (hb2.mono hB1.size); have hs2:=n_ hs1 hb2.size)
  | (refine(hn.out _ _ hB2).mono ?_; rintro e w3 ⟨rfl,hb3⟩; have hz3:Hid _:=(hb3.block (w.heap.size+1) hs2).trans hz2.out; have hx3:=(hb3.block w.heap.size (by omega)).trans hx2.out; have hB3:=hB2.trans (hb3.mono hB2.size); have hs3:=n_ hs2 hb3.size; have hc3:=fO hx3 off hoff; have hf3:=frozen_of_row w3 w.heap.size off _ _ hx3; have Zn:Hid ((w3.setCell ⟨w.heap.size,off,none⟩ (.int .i64 (v+n))).heap[w.heap.size+1]? = some (.cells (aR .i64 54 zero) 59 (0,0))):=(heap_setCell_other _ _ _ _ (by simp)).trans hz3.out; have hx4:Hid ((w3.setCell ⟨w.heap.size,off,none⟩ (.int .i64 (v+n))).heap[w.heap.size]? = some (.cells (aR .i64 54 (upd x off (v+n))) 59 (0,0))):=by { unfold Hid; rw[heap_setCell_same _ _ _ _ _ _ hx3,Ec] }; have hB4:Below w.heap.size w (w3.setCell ⟨w.heap.size,off,none⟩ (.int .i64 (v+n))):=hB3.setCell (z_ _) _; clear hx3; rw[hv]at hc3)
  | (refine wpList_load_row (o:=⟨some 46,_,_,_,_,_⟩) (by rfl) 59 (.tmp 5) (by rfl) w.heap.size (by rfl) 59 (aR .i64 54 (upd x off (v+n))) (0,0) _ hx4.out Tryz.underlying59 (by rfl) (by rw[bB]; exact iM) ?_)
  | (refine wpList_store_row (o:=⟨none,.store 59 (.tmp 10) (.tmp 46),_,_,_,_⟩) (by rfl) 59 (.tmp 10) (.tmp 46) (by rfl) (w.heap.size+1) (aR .i64 54 (upd x off (v+n))) (by rfl) (by rfl) 59 (aR .i64 54 zero) Zn.out (by rw[bB]; exact iM) (by rw[bB,bB]) (kK _ _ _) ?_))
 have hend:=iG hB4 (by omega) Zn.out (upd x off (v+n));exact mQ hT.out rfl rfl rfl hend.1 hend.2
theorem wo(x:Nat->Int)(n:Int)(is:Bool)(a b:FuncId)(d f:Array Value)(c:Int)(off:Nat)(w:World)(q:is=true->off<54)(hx:is=true->may x=true->0<=x off/\x off<=1125899906842624)
 (k : ∀(i:Array Value) (w:World),(callFunc a i).run Tryz.prog w = .ok (.enter a i) w)
 (o : ∀(i:Array Value) (w:World),(callFunc b i).run Tryz.prog w = .ok (.enter b i) w)
 (l:may x=true->1<=n->n<=1125899906842624->is=true -> ∀ w',Below w.heap.size w w'->Calls Tryz.prog a d w' fun e m=>e = .returned (.int .i64 c)/\Below w'.heap.size w' m)
 (p:is=true -> ∀ w' g,Below w.heap.size w w'->Calls Tryz.prog b (#[.pointer (some ⟨g,0,none⟩)]++f) w' fun e m=>e = .returned (.pointer (some ⟨g,off,none⟩))/\Below w'.heap.size w' m) :
 Calls Tryz.prog 188 #[.agg (aR .i64 54 x),.int .i64 n,.bool is,.func (.func a) #[] d,.func (.func b) #[] f] w (jL x n is c off w):=by
 by_cases h:may x=true
 ·by_cases r:n<1
  ·exact Md x n is a b d f c off w h r
  by_cases s:1125899906842624<n
  ·exact Me x n is a b d f c off w h s
  cases is
  ·exact Mf x n a b d f c off w h (by omega) (by omega)
  by_cases j:c=0
  ·by_cases t:1125899906842624<x off+n
   ·exact Mh x n a b d f c off w h (by omega) (by omega) j (q rfl) _ rfl (hx rfl h) t k (l h (by omega) (by omega) rfl) o (p rfl)
   exact Mi x n a b d f c off w h (by omega) (by omega) j (q rfl) _ rfl (hx rfl h) (by omega) k (l h (by omega) (by omega) rfl) o (p rfl)
  exact Mg x n a b d f c off w h (by omega) (by omega) j k (l h (by omega) (by omega) rfl)
 exact Mc x n is a b d f c off w (by simpa using h)
section
namespace Rt
def own(p:Nat):Nat:=if p<6 then p else if p<12 then p-6 else if p<18 then p-12 else(p-18) / 6
end Rt
def JS(a:World)(g:Nat)(x y:Nat->Int)(w':World):Prop:=w'.heap[g]? = some (.cells (aR .i64 54 x) 59 (0,0))/\w'.heap[g+1]? = some (.cells (aR .i64 54 y) 59 (0,0))/\w'.heap[g+1+1]? = some (.cells (aR .i64 54 zero) 59 (0,0))/\Below g a w'
theorem JS.drew{a w:World}{g:Nat}{x y:Nat->Int}(h:JS a g x y w):JS a g x y w.drew:=⟨h.1,h.2.1,h.2.2.1,bN h.2.2.2 1⟩
theorem JS.a{b w:World}{g:Nat}{x y:Nat->Int}(h:JS b g x y w)(i:Nat)(hi:i<54):w.cell? ⟨g,i,none⟩=some (.int .i64 (x i)):=fO h.1 i hi
theorem JS.b{a w:World}{g:Nat}{x y:Nat->Int}(h:JS a g x y w)(i:Nat)(hi:i<54):w.cell? ⟨g+1,i,none⟩=some (.int .i64 (y i)):=fO h.2.1 i hi
theorem JS.fr{a w:World}{g:Nat}{x y:Nat->Int}(h:JS a g x y w)(i:Nat):w.frozen? ⟨g,i,none⟩=false:=frozen_of_row w g i _ _ h.1
theorem JS.set{d w:World}{g:Nat}{x y:Nat->Int}(h:JS d g x y w)(i:Nat)(v:Int):JS d g (upd x i v) y (w.setCell ⟨g,i,none⟩ (.int .i64 v)):=by
 obtain⟨a,b,z,c⟩:=h;refine⟨?_,?_,?_,?_⟩
 ·rw[heap_setCell_same _ _ _ _ _ _ a,Ec]
 ·rw[heap_setCell_other _ _ _ _ (by simp)]; exact b
 ·rw[heap_setCell_other _ _ _ _ (by simp; omega)]; exact z
 exact c.setCell (z_ _) _
theorem JS.congr{a w:World}{g:Nat}{x y b:Nat->Int}(h:JS a g x y w)(hx : ∀ i,i<54->x i=b i):JS a g b y w:=by
 unfold JS at *; rw[<- Lx hx]; exact h
def JSb(c:World)(g:Nat)(x y:Nat->Int)(b:Bool)(w':World):Prop := ∃ a,JS c g a y w'/\(b=false->a=x)
theorem JSb.a{b w:World}{g:Nat}{x y:Nat->Int}(h:JSb b g x y false w)(i:Nat)(hi:i<54):w.cell? ⟨g,i,none⟩=some (.int .i64 (x i)):=by
 obtain⟨c,h,e⟩:=h;rw[<- e rfl]; exact h.a i hi
attribute [local irreducible] Oper.wp wpList Code.wp
end
section
set_option maxHeartbeats 400000 in
theorem uO(is:Bool)(e:Int)(w:World) :
 Calls Tryz.prog 190 #[.bool is,.int .i64 e] w fun r w'=>r = .returned (.int .i64 (if is then e else 0))/\w'=w:=by
 cases is
 all_goals
  go_enter Tryz.func190,Tryz.ntmps190
  go_wp2
  go_ret
  exact⟨rfl,rfl⟩
def NP(r:(Nat->Int) × Int)(w:World)(e:Ending)(w':World):Prop :=
 e = .returned (.tuple #[.agg (aR .i64 54 r.1),.int .i64 r.2])/\Below w.heap.size w w'
theorem tu{c:Func}{p q:Tmp}(j:c.results = #[.cell p 59,.tmp q]){b w:World}{a:Act}{g:Nat}{r:(Nat->Int) × Int}(e:a.defers = [])
 (h:a.tmps.getD p undef = .pointer (some ⟨g,0,none⟩)) (i:a.tmps.getD q undef = .int .i64 r.2) (f:w.heap[g]? = some (.cells (aR .i64 54 r.1) 59 (0,0))) (d:Below b.heap.size b w) :
 bodyPost Tryz.prog c (NP r b) .ret a w :=
 bodyPost_ret (by rw[results_cell_tmp j a.tmps w g 59 _ (0,0) _ h f Tryz.underlying59 rfl (by rw[bB]; exact iM),i]) e ⟨rfl,d⟩
def RS2(x:Nat->Int)(g:Nat)(i n:Int)(w':World):Prop:=w'.heap[g]? = some (.cells (aR .i64 54 x) 59 (0,0))/\w'.cell? ⟨g+1,0,none⟩=some (.int .i64 i)/\w'.cell? ⟨g+1+1,0,none⟩=some (.int .i64 n)
theorem nJ(i:Int):gH i=true<->1<=i/\i<=6:=by unfold gH; simp
attribute [local irreducible] Oper.wp wpList Code.wp
end
section
namespace Rt
def qA(x:Nat->Int)(i n:Int):Int:=if decide (fE x i<n)then 11 else 0
def bC(x:Nat->Int)(i n:Int):(Nat->Int) × Int:=bU x n (gH i) (qA x i n) (6+(i.toNat-1))
theorem Gy(x:Nat->Int)(i:Int) : -(1125899906842624*8)<=fE x i/\fE x i<=1125899906842624*8:=by
 unfold fE;split
 ·exact Pn x _
 omega
end Rt
attribute [local irreducible] Oper.wp wpList Code.wp in
set_option maxRecDepth 100000 in
set_option maxHeartbeats 1000000 in
theorem Po(x:Nat->Int)(i n:Int)(g h hi:Nat)(w:World)(hn:1<=n/\n<=1125899906842624)(hib : -9223372036854775808<=i/\i<=9223372036854775807)(hx:Hid (w.heap[g]? = some (.cells (aR .i64 54 x) 59 (0,0))))(hc:w.cell? ⟨h,0,none⟩=some (.int .i64 n))(hci:w.cell? ⟨hi,0,none⟩=some (.int .i64 i)) :
 Calls Tryz.prog 189 #[.pointer (some ⟨h,0,none⟩),.pointer (some ⟨g,0,none⟩),.pointer (some ⟨hi,0,none⟩)] w fun e w'=>e = .returned (.int .i64 (qA x i n))/\Below w.heap.size w w':=by
 have HE:Hid (qA x i n=if decide (fE x i<n)then 11 else 0):=rfl;have hb:=Gy x i;have hlh:=block_lt_of_cell hc;have Pp:=block_lt_of_cell hci;have VX:g<w.heap.size:=(Array.getElem?_eq_some_iff.1 hx.out).1
 dsimp only at hlh Pp
 have hB0:Below w.heap.size w w.drew:=jl w 1;have hs:Hid (∀ w',Calls Tryz.prog 48 #[.agg (aR .i64 54 x),.int .i64 i] w' fun e w''=>e = .returned (.int .i64 (fE x i))/\Below w'.heap.size w' w''):=fun w'=>wm x i w' hib;generalize fE x i=s1 at *;by_cases hd:s1<n
 ·rw[f_ hd,d_ rfl]at HE
  go_enter Tryz.func189,Tryz.ntmps189
  go_upto_region 1 with (fail)
  rename_i K0 Jj;refine wp_region_noPanic<|wp_region_held_drew (S:=Below w.heap.size w) (by kernel_rfl) hB0 fun hS => ?_;refine wpAnyH_take (i:=0) (v := .int .i64 n) rfl (by kernel_rfl) (by kernel_rfl) (by kernel_rfl) (fun _ _ _ h=>h) (.inl ⟨by rfl,fun w' hw => ?_⟩) hS ?_
  ·have h2:=(hw.cell (p:=⟨h,0,none⟩) hlh).trans hc;clear hw hc hci
   go_simp
  refine wpAnyH_take (i:=1) (v := .agg (aR .i64 54 x)) rfl (by kernel_rfl) (by kernel_rfl) (by kernel_rfl) (fun _ _ _ h=>h) (.inl ⟨by rfl,fun w' hw => ?_⟩) hS ?_
  ·exact jd 59 (.tmp 1) (by rfl) g (by rfl) 59 (aR .i64 54 x) (0,0) _ ((hw.block _ VX).trans hx.out) Tryz.underlying59 (by rfl) (by rw[bB]; exact iM)
  refine wpAnyH_take (i:=2) (v := .int .i64 i) rfl (by kernel_rfl) (by kernel_rfl) (by kernel_rfl) (fun _ _ _ h=>h) (.inl ⟨by rfl,fun w' hw => ?_⟩) hS ?_
  ·have h2:=(hw.cell (p:=⟨hi,0,none⟩) Pp).trans hci;clear hw hc hci
   go_simp
  refine wpAnyH_all (rs := [3]) (by kernel_rfl) (by decide) ?_;intro j hj;obtain rfl:j=3:=by simpa using hj
  refine wpOp_step rfl<|fun K hK => ?_;clear hj
  go_simp
  refine(hs.out _).mono ?_;rintro e w1 ⟨rfl,hb1⟩;have hS:=Jg hS hb1;refine hK _ _ ⟨hS,?_⟩;clear hK K;refine wpAnyH_take (i:=4) (v := .bool true) rfl (by kernel_rfl) (by kernel_rfl) (by kernel_rfl) (fun _ _ _ h=>h) (.inl ⟨by rfl,fun w' hw => ?_⟩) hS ?_
  ·clear hw hc hci
   go_simp
  refine wpAnyH_all (rs := [5]) (by kernel_rfl) (by decide) ?_;intro j hj;obtain rfl:j=5:=by simpa using hj
  refine wpOp_step rfl<|fun K hK => ?_;clear hj
  go_simp
  refine(uO _ _ _).mono ?_;rintro e w2 ⟨rfl,rfl⟩;refine hK _ _ ⟨hS,?_⟩;clear hK K;refine wpAnyH_take (i:=6) (v := .int .i64 11) rfl (by kernel_rfl) (by kernel_rfl) (by kernel_rfl) (fun _ _ _ h=>h) (.inl ⟨by rfl,fun w' hw => ?_⟩) hS ?_
  ·clear hw hc hci
   go_simp
  refine wpAnyH_done (by kernel_rfl) ?_ _;refine Jj _ _ ?_
  go_wp2
  go_ret
  rw[HE.out];exact⟨rfl,hS⟩
 rw[g_ hd,b_ (by decide)]at HE
 go_enter Tryz.func189,Tryz.ntmps189
 go_upto_region 1 with (fail)
 rename_i K0 Jj;refine wp_region_noPanic<|wp_region_held_drew (S:=Below w.heap.size w) (by kernel_rfl) hB0 fun hS => ?_;refine wpAnyH_take (i:=0) (v := .int .i64 n) rfl (by kernel_rfl) (by kernel_rfl) (by kernel_rfl) (fun _ _ _ h=>h) (.inl ⟨by rfl,fun w' hw => ?_⟩) hS ?_
 ·have h2:=(hw.cell (p:=⟨h,0,none⟩) hlh).trans hc;clear hw hc hci
  go_simp
 refine wpAnyH_take (i:=1) (v := .agg (aR .i64 54 x)) rfl (by kernel_rfl) (by kernel_rfl) (by kernel_rfl) (fun _ _ _ h=>h) (.inl ⟨by rfl,fun w' hw => ?_⟩) hS ?_
 ·exact jd 59 (.tmp 1) (by rfl) g (by rfl) 59 (aR .i64 54 x) (0,0) _ ((hw.block _ VX).trans hx.out) Tryz.underlying59 (by rfl) (by rw[bB]; exact iM)
 refine wpAnyH_take (i:=2) (v := .int .i64 i) rfl (by kernel_rfl) (by kernel_rfl) (by kernel_rfl) (fun _ _ _ h=>h) (.inl ⟨by rfl,fun w' hw => ?_⟩) hS ?_
 ·have h2:=(hw.cell (p:=⟨hi,0,none⟩) Pp).trans hci;clear hw hc hci
  go_simp
 refine wpAnyH_all (rs := [3]) (by kernel_rfl) (by decide) ?_;intro j hj;obtain rfl:j=3:=by simpa using hj
 refine wpOp_step rfl<|fun K hK => ?_;clear hj
 go_simp
 refine(hs.out _).mono ?_;rintro e w1 ⟨rfl,hb1⟩;have hS:=Jg hS hb1;refine hK _ _ ⟨hS,?_⟩;clear hK K;refine wpAnyH_take (i:=4) (v := .bool false) rfl (by kernel_rfl) (by kernel_rfl) (by kernel_rfl) (fun _ _ _ h=>h) (.inl ⟨by rfl,fun w' hw => ?_⟩) hS ?_
 ·clear hw hc hci
  go_simp
 refine wpAnyH_all (rs := [5]) (by kernel_rfl) (by decide) ?_;intro j hj;obtain rfl:j=5:=by simpa using hj
 refine wpOp_step rfl<|fun K hK => ?_;clear hj
 go_simp
 refine(uO _ _ _).mono ?_;rintro e w2 ⟨rfl,rfl⟩;refine hK _ _ ⟨hS,?_⟩;clear hK K;refine wpAnyH_take (i:=6) (v := .int .i64 0) rfl (by kernel_rfl) (by kernel_rfl) (by kernel_rfl) (fun _ _ _ h=>h) (.inl ⟨by rfl,fun w' hw => ?_⟩) hS ?_
 ·clear hw hc hci
  go_simp
 refine wpAnyH_done (by kernel_rfl) ?_ _;refine Jj _ _ ?_
 go_wp2
 go_ret
 rw[HE.out];exact⟨rfl,hS⟩
set_option maxHeartbeats 400000 in
theorem Pq(g h:Nat)(i:Int)(w:World)(hi:1<=i/\i<=6)(hc:w.cell? ⟨h,0,none⟩=some (.int .i64 i)) :
 Calls Tryz.prog 191 #[.pointer (some ⟨g,0,none⟩),.pointer (some ⟨h,0,none⟩)] w fun e w'=>e = .returned (.pointer (some ⟨g,6+(i.toNat-1),none⟩))/\Below w.heap.size w w':=by
 obtain⟨k,hk⟩:=Int.eq_ofNat_of_zero_le (show 0<=i-1 by omega);obtain rfl:i=(k:Int)+1:=by omega
 have hk6:(k:Int)<6:=by omega
 have HE:Hid (((k:Int)+1).toNat-1=k):=by unfold Hid; omega
 clear hk
 go_enter Tryz.func191,Tryz.ntmps191
 go_wp2_with fail
 go_quiet (fail)
 go_wp2
 go_ret
 rw[HE.out];exact⟨rfl,bN (Below.refl _ _) _⟩
theorem SL(args:Array Value)(w:World):(callFunc 189 args).run Tryz.prog w = .ok (.enter 189 args) w:=jQ Tryz.func189 rfl rfl args w
theorem SN(args:Array Value)(w:World):(callFunc 191 args).run Tryz.prog w = .ok (.enter 191 args) w:=jQ Tryz.func191 rfl rfl args w
attribute [local irreducible] Oper.wp wpList Code.wp
set_option maxRecDepth 100000 in
set_option maxHeartbeats 1000000 in
theorem SQ(x:Nat->Int)(i n:Int)(w:World)(hi : -9223372036854775808<=i/\i<=9223372036854775807) :
 Calls Tryz.prog 176 #[.agg (aR .i64 54 x),.int .i64 i,.int .i64 n] w (NP (bC x i n) w):=by
 have hmf : ∀(fn:Fn) (first cap:Array Value) (w:World),(Instr.makeFunc fn first cap).run Tryz.prog w = .ok (.func fn first cap) w:=fun _ _ _ _=>rfl
 go_enter Tryz.func176,Tryz.ntmps176
 go_upto_region 1 with (fail)
 rename_i K0 Jj;rw[<- oO];have ha:=QN w (.cells (aR .i64 54 x) 59) (.cells #[.int .i64 i] 3) (.cells #[.int .i64 n] 2) (.cells (aR .i64 54 zero) 59);generalize (((w.alloc (.cells (aR .i64 54 x) 59)).alloc (.cells #[.int .i64 i] 3)).alloc (.cells #[.int .i64 n] 2)).alloc (.cells (aR .i64 54 zero) 59)=W at *;obtain⟨hx,hI,hN,hz,hs,hB⟩:=ha;have cI:=qU hI;have cN:=qU hN;have Hx:Hid _:=hx;have Hz:Hid _:=hz;have HI:Hid _:=hI;have HN:Hid _:=hN;have Hs:Hid _:=hs;clear hx hz hI hN hs;refine wp_region_noPanic<|wp_region_held_drew (S:=RS2 x w.heap.size i n) (by kernel_rfl) ⟨Hx.out,cI,cN⟩ fun hS => ?_;refine wpAnyH_take (i:=0) (v := .agg (aR .i64 54 x)) rfl (by kernel_rfl) (by kernel_rfl) (by kernel_rfl) (fun _ _ _ h=>h) (.inl ⟨by rfl,fun w' hw => ?_⟩) hS ?_
 ·exact jd 59 (.tmp 3) (by rfl) w.heap.size (by rfl) 59 (aR .i64 54 x) (0,0) _ hw.1 Tryz.underlying59 (by rfl) (by rw[bB]; exact iM)
 refine wpAnyH_take (i:=1) (v := .int .i64 n) rfl (by kernel_rfl) (by kernel_rfl) (by kernel_rfl) (fun _ _ _ h=>h) (.inl ⟨by rfl,fun w' hw => ?_⟩) hS ?_
 ·have h2:=hw.2.2
  go_simp
 refine wpAnyH_take (i:=2) (v := .int .i64 i) rfl (by kernel_rfl) (by kernel_rfl) (by kernel_rfl) (fun _ _ _ h=>h) (.inl ⟨by rfl,fun w' hw => ?_⟩) hS ?_
 ·have h2:=hw.2.1;have h3:=hw.2.2;clear hw
  go_simp
 refine wpAnyH_take (i:=4) (v := .func (.func 189) #[] #[.pointer (some ⟨w.heap.size+1+1,0,none⟩),.pointer (some ⟨w.heap.size,0,none⟩),.pointer (some ⟨w.heap.size+1,0,none⟩)]) rfl (by kernel_rfl) (by kernel_rfl) (by kernel_rfl) (fun _ _ _ h=>h) (.inl ⟨by rfl,fun w' hw => ?_⟩) hS ?_
 ·have h2:=hw.2.1;have h3:=hw.2.2;clear hw
  go_simp
 refine wpAnyH_take (i:=5) (v := .func (.func 191) #[] #[.pointer (some ⟨w.heap.size+1,0,none⟩)]) rfl (by kernel_rfl) (by kernel_rfl) (by kernel_rfl) (fun _ _ _ h=>h) (.inl ⟨by rfl,fun w' hw => ?_⟩) hS ?_
 ·have h2:=hw.2.1;have h3:=hw.2.2;clear hw
  go_simp
 refine wpAnyH_all (rs := [3]) (by kernel_rfl) (by decide) ?_;intro j hj;obtain rfl:j=3:=by simpa using hj
 refine wpOp_step rfl<|fun K hK => ?_;clear hj
 go_simp
 refine(rF i _ hi).mono ?_;rintro e w' ⟨rfl,rfl⟩;refine hK _ _ ⟨hS,?_⟩;clear hK K;refine wpAnyH_all (rs := [6]) (by kernel_rfl) (by decide) ?_;intro j hj;obtain rfl:j=6:=by simpa using hj
 refine wpOp_step rfl<|fun K hK => ?_;clear hj
 go_simp
 have hlx:w.heap.size<W.drew.heap.size:=(Array.getElem?_eq_some_iff.1 hS.1).1;have WX:=block_lt_of_cell hS.2.1;have hlN:=block_lt_of_cell hS.2.2
 dsimp only at WX hlN
 refine(wo x n (gH i) 189 191 _ _ (qA x i n) (6+(i.toNat-1)) W.drew ?o1 ?o2 SL SN ?o3 ?o4).mono ?_
 case o1=>intro h; have:=(nJ i).1 h; omega
 case o2=>intro h hm; have:=(nJ i).1 h; exact(wh hm (i.toNat-1) (by omega)).c
 case o3 =>
  intro hm h1 h2 h3 w' hb;exact Po x i n _ _ _ w' ⟨h1,h2⟩ hi ((hb.block _ hlx).trans hS.1) ((hb.cell (p:=⟨w.heap.size+1+1,0,none⟩) hlN).trans hS.2.2) ((hb.cell (p:=⟨w.heap.size+1,0,none⟩) WX).trans hS.2.1)
 case o4 =>
  intro h w' g hb;exact Pq g _ i w' ((nJ i).1 h) ((hb.cell (p:=⟨w.heap.size+1,0,none⟩) WX).trans hS.2.1)
 rintro e w2 ⟨rfl,hb2⟩;have hHR:Hid (bC x i n=bU x n (gH i) (qA x i n) (6+(i.toNat-1))):=rfl;generalize bU x n (gH i) (qA x i n) (6+(i.toNat-1))=r at *;have hS2:RS2 x w.heap.size i n w2:=⟨(hb2.block _ hlx).trans hS.1,(hb2.cell (p:=⟨w.heap.size+1,0,none⟩) WX).trans hS.2.1,(hb2.cell (p:=⟨w.heap.size+1+1,0,none⟩) hlN).trans hS.2.2⟩;have hz2:Hid (w2.heap[w.heap.size+1+1+1]? = some (.cells (aR .i64 54 zero) 59 (0,0))):=(hb2.block _ (by show _<W.heap.size; have:=Hs.out; omega)).trans Hz.out;have hB2:Below w.heap.size w w2:=hB.trans ((bdr hb2).mono hB.size);refine hK _ _ ⟨hS2,?_⟩;clear hK K hS hb2;refine wpAnyH_take (i:=7) (v := .agg (aR .i64 54 r.1)) rfl (by kernel_rfl) (by kernel_rfl) (by kernel_rfl) (fun _ _ _ h=>h) (.inl ⟨by rfl,fun w' hw => ?_⟩) hS2 ?_
 ·clear hw
  go_simp
 refine wpAnyH_take (i:=8) (v := .int .i64 r.2) rfl (by kernel_rfl) (by kernel_rfl) (by kernel_rfl) (fun _ _ _ h=>h) (.inl ⟨by rfl,fun w' hw => ?_⟩) hS2 ?_
 ·clear hw
  go_simp
 refine wpAnyH_all (rs := [9]) (by kernel_rfl) (by decide) ?_;intro j hj;obtain rfl:j=9:=by simpa using hj
 clear hj;refine vH (by rfl) (by rfl)<|fun K hK => ?_;refine wp_store_row 59 (.tmp 6) (.tmp 15) (by rfl) (w.heap.size+1+1+1) (aR .i64 54 r.1) (by rfl) (by rfl) 59 (aR .i64 54 zero) hz2.out (by rw[bB]; exact iM) (by rw[bB,bB]) (kK _ _ _) ?_;have hend:=iG hB2 (by omega) hz2.out r.1;have hS3:RS2 x w.heap.size i n (w2.setRow (w.heap.size+1+1+1) (aR .i64 54 r.1)):=⟨(setRow_other _ _ _ _ (by omega)).trans hS2.1,(World.cell?_of_block (setRow_other _ _ _ _ (by show w.heap.size+1≠_; omega))).trans hS2.2.1,(World.cell?_of_block (setRow_other _ _ _ _ (by show w.heap.size+1+1≠_; omega))).trans hS2.2.2⟩;refine hK _ _ ⟨hS3,?_⟩;clear hK K hz2 hB2 hS2;generalize w2.setRow (w.heap.size+1+1+1) (aR .i64 54 r.1)=w3 at *;refine wpAnyH_take (i:=10) (v := .int .i64 r.2) rfl (by kernel_rfl) (by kernel_rfl) (by kernel_rfl) (fun _ _ _ h=>h) (.inl ⟨by rfl,fun w' hw => ?_⟩) hS3 ?_
 ·clear hw
  go_simp
 refine wpAnyH_done (by kernel_rfl) ?_ _;refine Jj _ _<|wp_ret ?_;rw[hHR.out];exact tu (p:=6) (q:=7) (by kernel_rfl) (by kernel_rfl) (by kernel_rfl) (by kernel_rfl) hend.1 hend.2
end
section
namespace Rt
def qB(x:Nat->Int)(i n:Int):Int:=if decide (C x (i.toNat-1)-F x (i.toNat-1)<n)then 12 else 0
def bG(x:Nat->Int)(i n:Int):(Nat->Int) × Int:=bU x n (gH i) (qB x i n) (12+(i.toNat-1))
end Rt
attribute [local irreducible] Oper.wp wpList Code.wp in
set_option maxRecDepth 100000 in
set_option maxHeartbeats 1000000 in
theorem Pt(x:Nat->Int)(i n:Int)(g h hi:Nat)(w:World)(hn:1<=n/\n<=1125899906842624)(hib:1<=i/\i<=6)(hm:may x=true)(hx:Hid (w.heap[g]? = some (.cells (aR .i64 54 x) 59 (0,0))))(hc:w.cell? ⟨h,0,none⟩=some (.int .i64 n))(hci:w.cell? ⟨hi,0,none⟩=some (.int .i64 i)) :
 Calls Tryz.prog 192 #[.pointer (some ⟨h,0,none⟩),.pointer (some ⟨g,0,none⟩),.pointer (some ⟨hi,0,none⟩)] w fun e w'=>e = .returned (.int .i64 (qB x i n))/\Below w.heap.size w w':=by
 obtain⟨k,hk⟩:=Int.eq_ofNat_of_zero_le (show 0<=i-1 by omega);obtain rfl:i=(k:Int)+1:=by omega
 have hk6:k<6:=by omega
 have ho:=wh hm k hk6;have h1:=ho.c;have h2:=ho.f;have h3:=ho.fc;have c6:w.cell? ⟨g,6+k,none⟩=some (.int .i64 (C x k)):=fO hx.out (6+k) (by omega);have c12:w.cell? ⟨g,12+k,none⟩=some (.int .i64 (F x k)):=fO hx.out (12+k) (by omega);have HE:Hid (qB x ((k:Int)+1) n=if decide (C x k-F x k<n)then 12 else 0):=by
  unfold Hid qB;rw[show((k:Int)+1).toNat-1=k by omega]
 clear ho hm hk;generalize C x k=c at *;generalize F x k=f at *;have hlh:=block_lt_of_cell hc;have Pp:=block_lt_of_cell hci;have VX:g<w.heap.size:=(Array.getElem?_eq_some_iff.1 hx.out).1
 dsimp only at hlh Pp
 have hB0:Below w.heap.size w w.drew:=jl w 1;by_cases hd:c-f<n
 ·rw[f_ hd,d_ rfl]at HE
  go_enter Tryz.func192,Tryz.ntmps192
  go_upto_region 1 with (fail)
  rename_i K0 Jj;refine wp_region_noPanic<|wp_region_held_drew (S:=Below w.heap.size w) (by kernel_rfl) hB0 fun hS => ?_;refine wpAnyH_take (i:=0) (v := .int .i64 n) rfl (by kernel_rfl) (by kernel_rfl) (by kernel_rfl) (fun _ _ _ h=>h) (.inl ⟨by rfl,fun w' hw => ?_⟩) hS ?_
  ·have h2:=(hw.cell (p:=⟨h,0,none⟩) hlh).trans hc;clear hw hc hci
   go_simp
  refine wpAnyH_take (i:=1) (v := .int .i64 ((k:Int)+1)) rfl (by kernel_rfl) (by kernel_rfl) (by kernel_rfl) (fun _ _ _ h=>h) (.inl ⟨by rfl,fun w' hw => ?_⟩) hS ?_
  ·have h2:=(hw.cell (p:=⟨hi,0,none⟩) Pp).trans hci;clear hw hc hci
   go_simp
  refine wpAnyH_take (i:=2) (v := .int .i64 (k:Int)) rfl (by kernel_rfl) (by kernel_rfl) (by kernel_rfl) (fun _ _ _ h=>h) (.inl ⟨by rfl,fun w' hw => ?_⟩) hS ?_
  ·clear hw hc hci
   go_simp
   exact IntWalk.i64_in _ (by omega)
  refine wpAnyH_take (i:=3) (v := .pointer (some ⟨g,6,none⟩)) rfl (by kernel_rfl) (by kernel_rfl) (by kernel_rfl) (fun _ _ _ h=>h) (.inl ⟨by rfl,fun w' hw => ?_⟩) hS ?_
  ·clear hw hc hci
   go_simp
  refine wpAnyH_take (i:=4) (v := .pointer (some ⟨g,6+k,none⟩)) rfl (by kernel_rfl) (by kernel_rfl) (by kernel_rfl) (fun _ _ _ h=>h) (.inl ⟨by rfl,fun w' hw => ?_⟩) hS ?_
  ·have hk7:(k:Int)<6:=(by omega);clear hw hc hci
   go_simp
  refine wpAnyH_take (i:=5) (v := .int .i64 c) rfl (by kernel_rfl) (by kernel_rfl) (by kernel_rfl) (fun _ _ _ h=>h) (.inl ⟨by rfl,fun w' hw => ?_⟩) hS ?_
  ·have h2:=(hw.cell (p:=⟨g,6+k,none⟩) VX).trans c6;clear hw hc hci
   go_simp
  refine wpAnyH_take (i:=6) (v := .int .i64 ((k:Int)+1)) rfl (by kernel_rfl) (by kernel_rfl) (by kernel_rfl) (fun _ _ _ h=>h) (.inl ⟨by rfl,fun w' hw => ?_⟩) hS ?_
  ·have h2:=(hw.cell (p:=⟨hi,0,none⟩) Pp).trans hci;clear hw hc hci
   go_simp
  refine wpAnyH_take (i:=7) (v := .int .i64 (k:Int)) rfl (by kernel_rfl) (by kernel_rfl) (by kernel_rfl) (fun _ _ _ h=>h) (.inl ⟨by rfl,fun w' hw => ?_⟩) hS ?_
  ·clear hw hc hci
   go_simp
   exact IntWalk.i64_in _ (by omega)
  refine wpAnyH_take (i:=8) (v := .pointer (some ⟨g,12,none⟩)) rfl (by kernel_rfl) (by kernel_rfl) (by kernel_rfl) (fun _ _ _ h=>h) (.inl ⟨by rfl,fun w' hw => ?_⟩) hS ?_
  ·clear hw hc hci
   go_simp
  refine wpAnyH_take (i:=9) (v := .pointer (some ⟨g,12+k,none⟩)) rfl (by kernel_rfl) (by kernel_rfl) (by kernel_rfl) (fun _ _ _ h=>h) (.inl ⟨by rfl,fun w' hw => ?_⟩) hS ?_
  ·have hk7:(k:Int)<6:=(by omega);clear hw hc hci
   go_simp
  refine wpAnyH_take (i:=10) (v := .int .i64 f) rfl (by kernel_rfl) (by kernel_rfl) (by kernel_rfl) (fun _ _ _ h=>h) (.inl ⟨by rfl,fun w' hw => ?_⟩) hS ?_
  ·have h2:=(hw.cell (p:=⟨g,12+k,none⟩) VX).trans c12;clear hw hc hci
   go_simp
  refine wpAnyH_take (i:=11) (v := .int .i64 (c-f)) rfl (by kernel_rfl) (by kernel_rfl) (by kernel_rfl) (fun _ _ _ h=>h) (.inl ⟨by rfl,fun w' hw => ?_⟩) hS ?_
  ·clear hw hc hci
   go_simp
   exact IntWalk.i64_in _ (by omega)
  refine wpAnyH_take (i:=12) (v := .bool true) rfl (by kernel_rfl) (by kernel_rfl) (by kernel_rfl) (fun _ _ _ h=>h) (.inl ⟨by rfl,fun w' hw => ?_⟩) hS ?_
  ·clear hw hc hci
   go_simp
  refine wpAnyH_all (rs := [13]) (by kernel_rfl) (by decide) ?_;intro j hj;obtain rfl:j=13:=by simpa using hj
  refine wpOp_step rfl<|fun K hK => ?_;clear hj
  go_simp
  refine(uO _ _ _).mono ?_;rintro e w2 ⟨rfl,rfl⟩;refine hK _ _ ⟨hS,?_⟩;clear hK K;refine wpAnyH_take (i:=14) (v := .int .i64 12) rfl (by kernel_rfl) (by kernel_rfl) (by kernel_rfl) (fun _ _ _ h=>h) (.inl ⟨by rfl,fun w' hw => ?_⟩) hS ?_
  ·clear hw hc hci
   go_simp
  refine wpAnyH_done (by kernel_rfl) ?_ _;refine Jj _ _ ?_
  go_wp2
  go_ret
  rw[HE.out];exact⟨rfl,hS⟩
 rw[g_ hd,b_ (by decide)]at HE
 go_enter Tryz.func192,Tryz.ntmps192
 go_upto_region 1 with (fail)
 rename_i K0 Jj;refine wp_region_noPanic<|wp_region_held_drew (S:=Below w.heap.size w) (by kernel_rfl) hB0 fun hS => ?_;refine wpAnyH_take (i:=0) (v := .int .i64 n) rfl (by kernel_rfl) (by kernel_rfl) (by kernel_rfl) (fun _ _ _ h=>h) (.inl ⟨by rfl,fun w' hw => ?_⟩) hS ?_
 ·have h2:=(hw.cell (p:=⟨h,0,none⟩) hlh).trans hc;clear hw hc hci
  go_simp
 refine wpAnyH_take (i:=1) (v := .int .i64 ((k:Int)+1)) rfl (by kernel_rfl) (by kernel_rfl) (by kernel_rfl) (fun _ _ _ h=>h) (.inl ⟨by rfl,fun w' hw => ?_⟩) hS ?_
 ·have h2:=(hw.cell (p:=⟨hi,0,none⟩) Pp).trans hci;clear hw hc hci
  go_simp
 refine wpAnyH_take (i:=2) (v := .int .i64 (k:Int)) rfl (by kernel_rfl) (by kernel_rfl) (by kernel_rfl) (fun _ _ _ h=>h) (.inl ⟨by rfl,fun w' hw => ?_⟩) hS ?_
 ·clear hw hc hci
  go_simp
  exact IntWalk.i64_in _ (by omega)
 refine wpAnyH_take (i:=3) (v := .pointer (some ⟨g,6,none⟩)) rfl (by kernel_rfl) (by kernel_rfl) (by kernel_rfl) (fun _ _ _ h=>h) (.inl ⟨by rfl,fun w' hw => ?_⟩) hS ?_
 ·clear hw hc hci
  go_simp
 refine wpAnyH_take (i:=4) (v := .pointer (some ⟨g,6+k,none⟩)) rfl (by kernel_rfl) (by kernel_rfl) (by kernel_rfl) (fun _ _ _ h=>h) (.inl ⟨by rfl,fun w' hw => ?_⟩) hS ?_
 ·have hk7:(k:Int)<6:=by omega
  clear hw hc hci
  go_simp
 refine wpAnyH_take (i:=5) (v := .int .i64 c) rfl (by kernel_rfl) (by kernel_rfl) (by kernel_rfl) (fun _ _ _ h=>h) (.inl ⟨by rfl,fun w' hw => ?_⟩) hS ?_
 ·have h2:=(hw.cell (p:=⟨g,6+k,none⟩) VX).trans c6;clear hw hc hci
  go_simp
 refine wpAnyH_take (i:=6) (v := .int .i64 ((k:Int)+1)) rfl (by kernel_rfl) (by kernel_rfl) (by kernel_rfl) (fun _ _ _ h=>h) (.inl ⟨by rfl,fun w' hw => ?_⟩) hS ?_
 ·have h2:=(hw.cell (p:=⟨hi,0,none⟩) Pp).trans hci;clear hw hc hci
  go_simp
 refine wpAnyH_take (i:=7) (v := .int .i64 (k:Int)) rfl (by kernel_rfl) (by kernel_rfl) (by kernel_rfl) (fun _ _ _ h=>h) (.inl ⟨by rfl,fun w' hw => ?_⟩) hS ?_
 ·clear hw hc hci
  go_simp
  exact IntWalk.i64_in _ (by omega)
 refine wpAnyH_take (i:=8) (v := .pointer (some ⟨g,12,none⟩)) rfl (by kernel_rfl) (by kernel_rfl) (by kernel_rfl) (fun _ _ _ h=>h) (.inl ⟨by rfl,fun w' hw => ?_⟩) hS ?_
 ·clear hw hc hci
  go_simp
 refine wpAnyH_take (i:=9) (v := .pointer (some ⟨g,12+k,none⟩)) rfl (by kernel_rfl) (by kernel_rfl) (by kernel_rfl) (fun _ _ _ h=>h) (.inl ⟨by rfl,fun w' hw => ?_⟩) hS ?_
 ·have hk7:(k:Int)<6:=by omega
  clear hw hc hci
  go_simp
 refine wpAnyH_take (i:=10) (v := .int .i64 f) rfl (by kernel_rfl) (by kernel_rfl) (by kernel_rfl) (fun _ _ _ h=>h) (.inl ⟨by rfl,fun w' hw => ?_⟩) hS ?_
 ·have h2:=(hw.cell (p:=⟨g,12+k,none⟩) VX).trans c12;clear hw hc hci
  go_simp
 refine wpAnyH_take (i:=11) (v := .int .i64 (c-f)) rfl (by kernel_rfl) (by kernel_rfl) (by kernel_rfl) (fun _ _ _ h=>h) (.inl ⟨by rfl,fun w' hw => ?_⟩) hS ?_
 ·clear hw hc hci
  go_simp
  exact IntWalk.i64_in _ (by omega)
 refine wpAnyH_take (i:=12) (v := .bool false) rfl (by kernel_rfl) (by kernel_rfl) (by kernel_rfl) (fun _ _ _ h=>h) (.inl ⟨by rfl,fun w' hw => ?_⟩) hS ?_
 ·clear hw hc hci
  go_simp
 refine wpAnyH_all (rs := [13]) (by kernel_rfl) (by decide) ?_;intro j hj;obtain rfl:j=13:=by simpa using hj
 refine wpOp_step rfl<|fun K hK => ?_;clear hj
 go_simp
 refine(uO _ _ _).mono ?_;rintro e w2 ⟨rfl,rfl⟩;refine hK _ _ ⟨hS,?_⟩;clear hK K;refine wpAnyH_take (i:=14) (v := .int .i64 0) rfl (by kernel_rfl) (by kernel_rfl) (by kernel_rfl) (fun _ _ _ h=>h) (.inl ⟨by rfl,fun w' hw => ?_⟩) hS ?_
 ·clear hw hc hci
  go_simp
 refine wpAnyH_done (by kernel_rfl) ?_ _;refine Jj _ _ ?_
 go_wp2
 go_ret
 rw[HE.out];exact⟨rfl,hS⟩
attribute [local irreducible] Oper.wp wpList Code.wp
set_option maxHeartbeats 400000 in
theorem Pv(g h:Nat)(i:Int)(w:World)(hi:1<=i/\i<=6)(hc:w.cell? ⟨h,0,none⟩=some (.int .i64 i)) :
 Calls Tryz.prog 193 #[.pointer (some ⟨g,0,none⟩),.pointer (some ⟨h,0,none⟩)] w fun e w'=>e = .returned (.pointer (some ⟨g,12+(i.toNat-1),none⟩))/\Below w.heap.size w w':=by
 obtain⟨k,hk⟩:=Int.eq_ofNat_of_zero_le (show 0<=i-1 by omega);obtain rfl:i=(k:Int)+1:=by omega
 have hk6:(k:Int)<6:=by omega
 have HE:Hid (((k:Int)+1).toNat-1=k):=by unfold Hid; omega
 clear hk
 go_enter Tryz.func193,Tryz.ntmps193
 go_wp2_with fail
 go_quiet (fail)
 go_wp2
 go_ret
 rw[HE.out];exact⟨rfl,bN (Below.refl _ _) _⟩
theorem SS(args:Array Value)(w:World):(callFunc 192 args).run Tryz.prog w = .ok (.enter 192 args) w:=jQ Tryz.func192 rfl rfl args w
theorem SV(args:Array Value)(w:World):(callFunc 193 args).run Tryz.prog w = .ok (.enter 193 args) w:=jQ Tryz.func193 rfl rfl args w
set_option maxRecDepth 100000 in
set_option maxHeartbeats 1000000 in
theorem SX(x:Nat->Int)(i n:Int)(w:World)(hi : -9223372036854775808<=i/\i<=9223372036854775807) :
 Calls Tryz.prog 179 #[.agg (aR .i64 54 x),.int .i64 i,.int .i64 n] w (NP (bG x i n) w):=by
 have hmf : ∀(fn:Fn) (first cap:Array Value) (w:World),(Instr.makeFunc fn first cap).run Tryz.prog w = .ok (.func fn first cap) w:=fun _ _ _ _=>rfl
 go_enter Tryz.func179,Tryz.ntmps179
 go_upto_region 1 with (fail)
 rename_i K0 Jj;rw[<- oO];have ha:=QN w (.cells (aR .i64 54 x) 59) (.cells #[.int .i64 i] 3) (.cells #[.int .i64 n] 2) (.cells (aR .i64 54 zero) 59);generalize (((w.alloc (.cells (aR .i64 54 x) 59)).alloc (.cells #[.int .i64 i] 3)).alloc (.cells #[.int .i64 n] 2)).alloc (.cells (aR .i64 54 zero) 59)=W at *;obtain⟨hx,hI,hN,hz,hs,hB⟩:=ha;have cI:=qU hI;have cN:=qU hN;have Hx:Hid _:=hx;have Hz:Hid _:=hz;have HI:Hid _:=hI;have HN:Hid _:=hN;have Hs:Hid _:=hs;clear hx hz hI hN hs;refine wp_region_noPanic<|wp_region_held_drew (S:=RS2 x w.heap.size i n) (by kernel_rfl) ⟨Hx.out,cI,cN⟩ fun hS => ?_;refine wpAnyH_take (i:=0) (v := .agg (aR .i64 54 x)) rfl (by kernel_rfl) (by kernel_rfl) (by kernel_rfl) (fun _ _ _ h=>h) (.inl ⟨by rfl,fun w' hw => ?_⟩) hS ?_
 ·exact jd 59 (.tmp 3) (by rfl) w.heap.size (by rfl) 59 (aR .i64 54 x) (0,0) _ hw.1 Tryz.underlying59 (by rfl) (by rw[bB]; exact iM)
 refine wpAnyH_take (i:=1) (v := .int .i64 n) rfl (by kernel_rfl) (by kernel_rfl) (by kernel_rfl) (fun _ _ _ h=>h) (.inl ⟨by rfl,fun w' hw => ?_⟩) hS ?_
 ·have h2:=hw.2.2
  go_simp
 refine wpAnyH_take (i:=2) (v := .int .i64 i) rfl (by kernel_rfl) (by kernel_rfl) (by kernel_rfl) (fun _ _ _ h=>h) (.inl ⟨by rfl,fun w' hw => ?_⟩) hS ?_
 ·have h2:=hw.2.1;have h3:=hw.2.2;clear hw
  go_simp
 refine wpAnyH_take (i:=4) (v := .func (.func 192) #[] #[.pointer (some ⟨w.heap.size+1+1,0,none⟩),.pointer (some ⟨w.heap.size,0,none⟩),.pointer (some ⟨w.heap.size+1,0,none⟩)]) rfl (by kernel_rfl) (by kernel_rfl) (by kernel_rfl) (fun _ _ _ h=>h) (.inl ⟨by rfl,fun w' hw => ?_⟩) hS ?_
 ·have h2:=hw.2.1;have h3:=hw.2.2;clear hw
  go_simp
 refine wpAnyH_take (i:=5) (v := .func (.func 193) #[] #[.pointer (some ⟨w.heap.size+1,0,none⟩)]) rfl (by kernel_rfl) (by kernel_rfl) (by kernel_rfl) (fun _ _ _ h=>h) (.inl ⟨by rfl,fun w' hw => ?_⟩) hS ?_
 ·have h2:=hw.2.1;have h3:=hw.2.2;clear hw
  go_simp
 refine wpAnyH_all (rs := [3]) (by kernel_rfl) (by decide) ?_;intro j hj;obtain rfl:j=3:=by simpa using hj
 refine wpOp_step rfl<|fun K hK => ?_;clear hj
 go_simp
 refine(rF i _ hi).mono ?_;rintro e w' ⟨rfl,rfl⟩;refine hK _ _ ⟨hS,?_⟩;clear hK K;refine wpAnyH_all (rs := [6]) (by kernel_rfl) (by decide) ?_;intro j hj;obtain rfl:j=6:=by simpa using hj
 refine wpOp_step rfl<|fun K hK => ?_;clear hj
 go_simp
 have hlx:w.heap.size<W.drew.heap.size:=(Array.getElem?_eq_some_iff.1 hS.1).1;have WX:=block_lt_of_cell hS.2.1;have hlN:=block_lt_of_cell hS.2.2
 dsimp only at WX hlN
 refine(wo x n (gH i) 192 193 _ _ (qB x i n) (12+(i.toNat-1)) W.drew ?o1 ?o2 SS SV ?o3 ?o4).mono ?_
 case o1=>intro h; have:=(nJ i).1 h; omega
 case o2=>intro h hm; have:=(nJ i).1 h; exact(wh hm (i.toNat-1) (by omega)).f
 case o3 =>
  intro hm h1 h2 h3 w' hb;exact Pt x i n _ _ _ w' ⟨h1,h2⟩ ((nJ i).1 h3) hm ((hb.block _ hlx).trans hS.1) ((hb.cell (p:=⟨w.heap.size+1+1,0,none⟩) hlN).trans hS.2.2) ((hb.cell (p:=⟨w.heap.size+1,0,none⟩) WX).trans hS.2.1)
 case o4 =>
  intro h w' g hb;exact Pv g _ i w' ((nJ i).1 h) ((hb.cell (p:=⟨w.heap.size+1,0,none⟩) WX).trans hS.2.1)
 rintro e w2 ⟨rfl,hb2⟩;have hHR:Hid (bG x i n=bU x n (gH i) (qB x i n) (12+(i.toNat-1))):=rfl;generalize bU x n (gH i) (qB x i n) (12+(i.toNat-1))=r at *;have hS2:RS2 x w.heap.size i n w2:=⟨(hb2.block _ hlx).trans hS.1,(hb2.cell (p:=⟨w.heap.size+1,0,none⟩) WX).trans hS.2.1,(hb2.cell (p:=⟨w.heap.size+1+1,0,none⟩) hlN).trans hS.2.2⟩;have hz2:Hid (w2.heap[w.heap.size+1+1+1]? = some (.cells (aR .i64 54 zero) 59 (0,0))):=(hb2.block _ (by show _<W.heap.size; have:=Hs.out; omega)).trans Hz.out;have hB2:Below w.heap.size w w2:=hB.trans ((bdr hb2).mono hB.size);refine hK _ _ ⟨hS2,?_⟩;clear hK K hS hb2;refine wpAnyH_take (i:=7) (v := .agg (aR .i64 54 r.1)) rfl (by kernel_rfl) (by kernel_rfl) (by kernel_rfl) (fun _ _ _ h=>h) (.inl ⟨by rfl,fun w' hw => ?_⟩) hS2 ?_
 ·clear hw
  go_simp
 refine wpAnyH_take (i:=8) (v := .int .i64 r.2) rfl (by kernel_rfl) (by kernel_rfl) (by kernel_rfl) (fun _ _ _ h=>h) (.inl ⟨by rfl,fun w' hw => ?_⟩) hS2 ?_
 ·clear hw
  go_simp
 refine wpAnyH_all (rs := [9]) (by kernel_rfl) (by decide) ?_;intro j hj;obtain rfl:j=9:=by simpa using hj
 clear hj;refine vH (by rfl) (by rfl)<|fun K hK => ?_;refine wp_store_row 59 (.tmp 6) (.tmp 15) (by rfl) (w.heap.size+1+1+1) (aR .i64 54 r.1) (by rfl) (by rfl) 59 (aR .i64 54 zero) hz2.out (by rw[bB]; exact iM) (by rw[bB,bB]) (kK _ _ _) ?_;have hend:=iG hB2 (by omega) hz2.out r.1;have hS3:RS2 x w.heap.size i n (w2.setRow (w.heap.size+1+1+1) (aR .i64 54 r.1)):=⟨(setRow_other _ _ _ _ (by omega)).trans hS2.1,(World.cell?_of_block (setRow_other _ _ _ _ (by show w.heap.size+1≠_; omega))).trans hS2.2.1,(World.cell?_of_block (setRow_other _ _ _ _ (by show w.heap.size+1+1≠_; omega))).trans hS2.2.2⟩;refine hK _ _ ⟨hS3,?_⟩;clear hK K hz2 hB2 hS2;generalize w2.setRow (w.heap.size+1+1+1) (aR .i64 54 r.1)=w3 at *;refine wpAnyH_take (i:=10) (v := .int .i64 r.2) rfl (by kernel_rfl) (by kernel_rfl) (by kernel_rfl) (fun _ _ _ h=>h) (.inl ⟨by rfl,fun w' hw => ?_⟩) hS3 ?_
 ·clear hw
  go_simp
 refine wpAnyH_done (by kernel_rfl) ?_ _;refine Jj _ _<|wp_ret ?_;rw[hHR.out];exact tu (p:=6) (q:=7) (by kernel_rfl) (by kernel_rfl) (by kernel_rfl) (by kernel_rfl) hend.1 hend.2
end
namespace Rt
def nK(x:Nat->Int)(i j n:Int):Int:=if i=j then 1 else if decide (fE x i<n)then 11 else 0
def kN(i j:Int):Nat:=18+(i.toNat-1)*6+(j.toNat-1)
def dn(x:Nat->Int)(i j n:Int):(Nat->Int) × Int:=bU x n (gH i&&gH j) (nK x i j n) (kN i j)
end Rt
attribute [local irreducible] Oper.wp wpList Code.wp in
set_option maxRecDepth 100000 in
set_option maxHeartbeats 1000000 in
theorem Gz(x:Nat->Int)(i j0 n:Int)(g h hi hj:Nat)(w:World)(hn:1<=n/\n<=1125899906842624)(hib : -9223372036854775808<=i/\i<=9223372036854775807)(hjb : -9223372036854775808<=j0/\j0<=9223372036854775807)(hx:Hid (w.heap[g]? = some (.cells (aR .i64 54 x) 59 (0,0))))(hc:w.cell? ⟨h,0,none⟩=some (.int .i64 n))(hci:w.cell? ⟨hi,0,none⟩=some (.int .i64 i))(hcj:w.cell? ⟨hj,0,none⟩=some (.int .i64 j0)) :
 Calls Tryz.prog 194 #[.pointer (some ⟨hi,0,none⟩),.pointer (some ⟨hj,0,none⟩),.pointer (some ⟨h,0,none⟩),.pointer (some ⟨g,0,none⟩)] w fun e w'=>e = .returned (.int .i64 (nK x i j0 n))/\Below w.heap.size w w':=by
 have HE:Hid (nK x i j0 n=if i=j0 then 1 else if decide (fE x i<n)then 11 else 0):=rfl;have hb:=Gy x i;have hlh:=block_lt_of_cell hc;have Pp:=block_lt_of_cell hci;have VX:g<w.heap.size:=(Array.getElem?_eq_some_iff.1 hx.out).1
 dsimp only at hlh Pp
 have hB0:Below w.heap.size w w.drew:=jl w 1;have hs:Hid (∀ w',Calls Tryz.prog 48 #[.agg (aR .i64 54 x),.int .i64 i] w' fun e w''=>e = .returned (.int .i64 (fE x i))/\Below w'.heap.size w' w''):=fun w'=>wm x i w' hib;generalize fE x i=s1 at *;by_cases he:i=j0
 ·rw[d_ he]at HE;subst he
  go_enter Tryz.func194,Tryz.ntmps194
  go_wp2
  go_ret
  rw[HE.out];exact⟨rfl,Below.refl _ _⟩
 rw[b_ he]at HE;have hne:(i==j0)=false:=by simpa using he
 clear he;by_cases hd:s1<n
 ·rw[f_ hd,d_ rfl]at HE
  go_enter Tryz.func194,Tryz.ntmps194
  go_upto_region 3 with (fail)
  rename_i K0 Jj;refine wp_region_noPanic<|wp_region_held_drew (S:=Below w.heap.size w) (by kernel_rfl) hB0 fun hS => ?_;refine wpAnyH_take (i:=0) (v := .int .i64 n) rfl (by kernel_rfl) (by kernel_rfl) (by kernel_rfl) (fun _ _ _ h=>h) (.inl ⟨by rfl,fun w' hw => ?_⟩) hS ?_
  ·have h2:=(hw.cell (p:=⟨h,0,none⟩) hlh).trans hc;clear hw hc hci
   go_simp
  refine wpAnyH_take (i:=1) (v := .agg (aR .i64 54 x)) rfl (by kernel_rfl) (by kernel_rfl) (by kernel_rfl) (fun _ _ _ h=>h) (.inl ⟨by rfl,fun w' hw => ?_⟩) hS ?_
  ·exact jd 59 (.tmp 3) (by rfl) g (by rfl) 59 (aR .i64 54 x) (0,0) _ ((hw.block _ VX).trans hx.out) Tryz.underlying59 (by rfl) (by rw[bB]; exact iM)
  refine wpAnyH_take (i:=2) (v := .int .i64 i) rfl (by kernel_rfl) (by kernel_rfl) (by kernel_rfl) (fun _ _ _ h=>h) (.inl ⟨by rfl,fun w' hw => ?_⟩) hS ?_
  ·have h2:=(hw.cell (p:=⟨hi,0,none⟩) Pp).trans hci;clear hw hc hci
   go_simp
  refine wpAnyH_all (rs := [3]) (by kernel_rfl) (by decide) ?_;intro j hj;obtain rfl:j=3:=by simpa using hj
  refine wpOp_step rfl<|fun K hK => ?_;clear hj
  go_simp
  refine(hs.out _).mono ?_;rintro e w1 ⟨rfl,hb1⟩;have hS:=Jg hS hb1;refine hK _ _ ⟨hS,?_⟩;clear hK K;refine wpAnyH_take (i:=4) (v := .bool true) rfl (by kernel_rfl) (by kernel_rfl) (by kernel_rfl) (fun _ _ _ h=>h) (.inl ⟨by rfl,fun w' hw => ?_⟩) hS ?_
  ·clear hw hc hci
   go_simp
  refine wpAnyH_all (rs := [5]) (by kernel_rfl) (by decide) ?_;intro j hj;obtain rfl:j=5:=by simpa using hj
  refine wpOp_step rfl<|fun K hK => ?_;clear hj
  go_simp
  refine(uO _ _ _).mono ?_;rintro e w2 ⟨rfl,rfl⟩;refine hK _ _ ⟨hS,?_⟩;clear hK K;refine wpAnyH_take (i:=6) (v := .int .i64 11) rfl (by kernel_rfl) (by kernel_rfl) (by kernel_rfl) (fun _ _ _ h=>h) (.inl ⟨by rfl,fun w' hw => ?_⟩) hS ?_
  ·clear hw hc hci
   go_simp
  refine wpAnyH_done (by kernel_rfl) ?_ _;refine Jj _ _ ?_
  go_wp2
  go_ret
  rw[HE.out];exact⟨rfl,hS⟩
 rw[g_ hd,b_ (by decide)]at HE
 go_enter Tryz.func194,Tryz.ntmps194
 go_upto_region 3 with (fail)
 rename_i K0 Jj;refine wp_region_noPanic<|wp_region_held_drew (S:=Below w.heap.size w) (by kernel_rfl) hB0 fun hS => ?_;refine wpAnyH_take (i:=0) (v := .int .i64 n) rfl (by kernel_rfl) (by kernel_rfl) (by kernel_rfl) (fun _ _ _ h=>h) (.inl ⟨by rfl,fun w' hw => ?_⟩) hS ?_
 ·have h2:=(hw.cell (p:=⟨h,0,none⟩) hlh).trans hc;clear hw hc hci
  go_simp
 refine wpAnyH_take (i:=1) (v := .agg (aR .i64 54 x)) rfl (by kernel_rfl) (by kernel_rfl) (by kernel_rfl) (fun _ _ _ h=>h) (.inl ⟨by rfl,fun w' hw => ?_⟩) hS ?_
 ·exact jd 59 (.tmp 3) (by rfl) g (by rfl) 59 (aR .i64 54 x) (0,0) _ ((hw.block _ VX).trans hx.out) Tryz.underlying59 (by rfl) (by rw[bB]; exact iM)
 refine wpAnyH_take (i:=2) (v := .int .i64 i) rfl (by kernel_rfl) (by kernel_rfl) (by kernel_rfl) (fun _ _ _ h=>h) (.inl ⟨by rfl,fun w' hw => ?_⟩) hS ?_
 ·have h2:=(hw.cell (p:=⟨hi,0,none⟩) Pp).trans hci;clear hw hc hci
  go_simp
 refine wpAnyH_all (rs := [3]) (by kernel_rfl) (by decide) ?_;intro j hj;obtain rfl:j=3:=by simpa using hj
 refine wpOp_step rfl<|fun K hK => ?_;clear hj
 go_simp
 refine(hs.out _).mono ?_;rintro e w1 ⟨rfl,hb1⟩;have hS:=Jg hS hb1;refine hK _ _ ⟨hS,?_⟩;clear hK K;refine wpAnyH_take (i:=4) (v := .bool false) rfl (by kernel_rfl) (by kernel_rfl) (by kernel_rfl) (fun _ _ _ h=>h) (.inl ⟨by rfl,fun w' hw => ?_⟩) hS ?_
 ·clear hw hc hci
  go_simp
 refine wpAnyH_all (rs := [5]) (by kernel_rfl) (by decide) ?_;intro j hj;obtain rfl:j=5:=by simpa using hj
 refine wpOp_step rfl<|fun K hK => ?_;clear hj
 go_simp
 refine(uO _ _ _).mono ?_;rintro e w2 ⟨rfl,rfl⟩;refine hK _ _ ⟨hS,?_⟩;clear hK K;refine wpAnyH_take (i:=6) (v := .int .i64 0) rfl (by kernel_rfl) (by kernel_rfl) (by kernel_rfl) (fun _ _ _ h=>h) (.inl ⟨by rfl,fun w' hw => ?_⟩) hS ?_
 ·clear hw hc hci
  go_simp
 refine wpAnyH_done (by kernel_rfl) ?_ _;refine Jj _ _ ?_
 go_wp2
 go_ret
 rw[HE.out];exact⟨rfl,hS⟩
set_option maxHeartbeats 400000 in
theorem GA(g h1 h2:Nat)(i j:Int)(w:World)(hi:1<=i/\i<=6)(hj:1<=j/\j<=6)(hci:w.cell? ⟨h1,0,none⟩=some (.int .i64 i))(hcj:w.cell? ⟨h2,0,none⟩=some (.int .i64 j)) :
 Calls Tryz.prog 195 #[.pointer (some ⟨g,0,none⟩),.pointer (some ⟨h1,0,none⟩),.pointer (some ⟨h2,0,none⟩)] w fun e w'=>e = .returned (.pointer (some ⟨g,kN i j,none⟩))/\Below w.heap.size w w':=by
 obtain⟨k,hk⟩:=Int.eq_ofNat_of_zero_le (show 0<=i-1 by omega);obtain rfl:i=(k:Int)+1:=by omega
 obtain⟨l,hl⟩:=Int.eq_ofNat_of_zero_le (show 0<=j-1 by omega);obtain rfl:j=(l:Int)+1:=by omega
 have hk6:(k:Int)<6:=by omega
 have hl6:(l:Int)<6:=by omega
 have HE:Hid (kN ((k:Int)+1) ((l:Int)+1)=18+k*6+l):=by unfold Hid kN; omega
 clear hk hl
 go_enter Tryz.func195,Tryz.ntmps195
 go_wp2_with fail
 go_quiet (fail)
 go_wp2
 go_ret
 rw[HE.out];exact⟨rfl,bN (Below.refl _ _) _⟩
theorem J6(args:Array Value)(w:World):(callFunc 194 args).run Tryz.prog w = .ok (.enter 194 args) w:=jQ Tryz.func194 rfl rfl args w
theorem J7(args:Array Value)(w:World):(callFunc 195 args).run Tryz.prog w = .ok (.enter 195 args) w:=jQ Tryz.func195 rfl rfl args w
section
def Ll(x:Nat->Int)(g:Nat)(i j n:Int)(w':World):Prop:=w'.heap[g]? = some (.cells (aR .i64 54 x) 59 (0,0))/\w'.cell? ⟨g+1,0,none⟩=some (.int .i64 i)/\w'.cell? ⟨g+1+1,0,none⟩=some (.int .i64 j)/\w'.cell? ⟨g+1+1+1,0,none⟩=some (.int .i64 n)
theorem Ll.up{x:Nat->Int}{g:Nat}{i j n:Int}{w w':World}(h:Ll x g i j n w)(e:Below w.heap.size w w'):Ll x g i j n w':=by
 obtain⟨a,b,c,d⟩:=h;exact⟨(e.block _ (Array.getElem?_eq_some_iff.1 a).1).trans a,(e.cell (p:=⟨g+1,0,none⟩) (block_lt_of_cell b)).trans b,(e.cell (p:=⟨g+1+1,0,none⟩) (block_lt_of_cell c)).trans c,(e.cell (p:=⟨g+1+1+1,0,none⟩) (block_lt_of_cell d)).trans d⟩
instance {x:Nat->Int} {g:Nat} {i j n:Int} {w w':World}:Rt.Tr w w' (Ll x g i j n w) (Ll x g i j n w'):=⟨fun b h=>h.up b⟩
theorem Ll.row{x:Nat->Int}{g:Nat}{i j n:Int}{w:World}(h:Ll x g i j n w)(cs:Array Value):Ll x g i j n (w.setRow (g+1+1+1+1) cs):=by
 obtain⟨a,b,c,d⟩:=h;exact⟨(setRow_other _ _ _ _ (by omega)).trans a,(World.cell?_of_block (setRow_other _ _ _ _ (by show g+1≠_; omega))).trans b,(World.cell?_of_block (setRow_other _ _ _ _ (by show g+1+1≠_; omega))).trans c,(World.cell?_of_block (setRow_other _ _ _ _ (by show g+1+1+1≠_; omega))).trans d⟩
attribute [local irreducible] Oper.wp wpList Code.wp
set_option maxRecDepth 100000 in
set_option maxHeartbeats 2000000 in
theorem SY(x:Nat->Int)(i j n:Int)(w:World)(hi : -9223372036854775808<=i/\i<=9223372036854775807)(hj0 : -9223372036854775808<=j/\j<=9223372036854775807) :
 Calls Tryz.prog 181 #[.agg (aR .i64 54 x),.int .i64 i,.int .i64 j,.int .i64 n] w (NP (dn x i j n) w):=by
 have HM:Hid (dn x i j n=bU x n (gH i&&gH j) (nK x i j n) (kN i j)):=rfl;have hri:=nJ i;have hrj:=nJ j;have SK:Hid (∀ w',Calls Tryz.prog 71 #[.int .i64 i] w' fun e w''=>e = .returned (.bool (gH i))/\w''=w'):=fun w'=>rF i w' hi;have afm:Hid (∀ w',Calls Tryz.prog 71 #[.int .i64 j] w' fun e w''=>e = .returned (.bool (gH j))/\w''=w'):=fun w'=>rF j w' hj0;generalize gH i=bi at *;generalize gH j=bj at *;have Hri:Hid _:=hri;have Hrj:Hid _:=hrj;clear hri hrj;have hmf : ∀(fn:Fn) (first cap:Array Value) (w:World),(Instr.makeFunc fn first cap).run Tryz.prog w = .ok (.func fn first cap) w:=fun _ _ _ _=>rfl
 cases bi
 all_goals
  go_enter Tryz.func181,Tryz.ntmps181
  go_upto_region 1 with (fail)
  rename_i K0 Jj;rw[<- oO];have ha:=ZQ w (.cells (aR .i64 54 x) 59) (.cells #[.int .i64 i] 3) (.cells #[.int .i64 j] 3) (.cells #[.int .i64 n] 2) (.cells (aR .i64 54 zero) 59);generalize ((((w.alloc (.cells (aR .i64 54 x) 59)).alloc (.cells #[.int .i64 i] 3)).alloc (.cells #[.int .i64 j] 3)).alloc (.cells #[.int .i64 n] 2)).alloc (.cells (aR .i64 54 zero) 59)=W at *;obtain⟨hx,hI,hJ,hN,hz,hs,hB⟩:=ha;have hS0:Ll x w.heap.size i j n W.drew:=⟨hx,qU (w:=W) hI,qU (w:=W) hJ,qU (w:=W) hN⟩;have Hz:Hid _:=hz;have Hs:Hid _:=hs;clear hx hz hI hJ hN hs;refine wp_region_noPanic<|wp_region_held_drew (S:=Ll x w.heap.size i j n) (by kernel_rfl) hS0 fun hS => ?_;refine wpAnyH_take (i:=0) (v := .agg (aR .i64 54 x)) rfl (by kernel_rfl) (by kernel_rfl) (by kernel_rfl) (fun _ _ _ h=>h) (.inl ⟨by rfl,fun w' hw => ?_⟩) hS ?_
  ·exact jd 59 (.tmp 4) (by rfl) w.heap.size (by rfl) 59 (aR .i64 54 x) (0,0) _ hw.1 Tryz.underlying59 (by rfl) (by rw[bB]; exact iM)
  refine wpAnyH_take (i:=1) (v := .int .i64 n) rfl (by kernel_rfl) (by kernel_rfl) (by kernel_rfl) (fun _ _ _ h=>h) (.inl ⟨by rfl,fun w' hw => ?_⟩) hS ?_
  ·have h2:=hw.2.2.2;clear hw
   go_simp
  refine wpAnyH_take (i:=2) (v := .int .i64 i) rfl (by kernel_rfl) (by kernel_rfl) (by kernel_rfl) (fun _ _ _ h=>h) (.inl ⟨by rfl,fun w' hw => ?_⟩) hS ?_
  ·have h2:=hw.2.1;clear hw
   go_simp
  refine wpAnyH_take (i:=8) (v := .func (.func 194) #[] #[.pointer (some ⟨w.heap.size+1,0,none⟩),.pointer (some ⟨w.heap.size+1+1,0,none⟩),.pointer (some ⟨w.heap.size+1+1+1,0,none⟩),.pointer (some ⟨w.heap.size,0,none⟩)]) rfl (by kernel_rfl) (by kernel_rfl) (by kernel_rfl) (fun _ _ _ h=>h) (.inl ⟨by rfl,fun w' hw => ?_⟩) hS ?_
  ·clear hw
   go_simp
  refine wpAnyH_take (i:=9) (v := .func (.func 195) #[] #[.pointer (some ⟨w.heap.size+1,0,none⟩),.pointer (some ⟨w.heap.size+1+1,0,none⟩)]) rfl (by kernel_rfl) (by kernel_rfl) (by kernel_rfl) (fun _ _ _ h=>h) (.inl ⟨by rfl,fun w' hw => ?_⟩) hS ?_
  ·clear hw
   go_simp
  refine wpAnyH_all (rs := [3]) (by kernel_rfl) (by decide) ?_;intro j hj;obtain rfl:j=3:=by simpa using hj
  refine wpOp_step rfl<|fun K hK => ?_;clear hj
  go_simp
  refine(SK.out _).mono ?_;rintro e w' ⟨rfl,rfl⟩;refine hK _ _ ⟨hS,?_⟩;clear hK K
 ·have hoff:false=true->kN i j<54:=nofun;have hcell:false=true->may x=true->0<=x (kN i j)/\x (kN i j)<=1125899906842624:=nofun;have hbd:false=true->(1<=i/\i<=6)/\(1<=j/\j<=6):=nofun;refine wpAnyH_take (i:=4) (v := .bool false) rfl (by kernel_rfl) (by kernel_rfl) (by kernel_rfl) (fun _ _ _ h=>h) (.inl ⟨by rfl,fun w' hw => ?_⟩) hS ?_
  ·clear hw
   go_simp
  refine wpAnyH_take (i:=5) (v:=undef) rfl (by kernel_rfl) (by kernel_rfl) (by kernel_rfl) (fun _ _ _ h=>h) (.inr ⟨by rfl,rfl⟩) hS ?_;refine wpAnyH_take (i:=6) (v:=undef) rfl (by kernel_rfl) (by kernel_rfl) (by kernel_rfl) (fun _ _ _ h=>h) (.inr ⟨by rfl,rfl⟩) hS ?_;refine wpAnyH_take (i:=7) (v := .bool false) rfl (by kernel_rfl) (by kernel_rfl) (by kernel_rfl) (fun _ _ _ h=>h) (.inl ⟨by rfl,fun w' hw => ?_⟩) hS ?_
  ·clear hw
   go_simp
  have HM:Hid (dn x i j n=bU x n false (nK x i j n) (kN i j)):=HM;refine wpAnyH_all (rs := [10]) (by kernel_rfl) (by decide) ?_;intro j hj;obtain rfl:j=10:=by simpa using hj
  refine wpOp_step rfl<|fun K hK => ?_;clear hj
  go_simp
  have hlz:w.heap.size+1+1+1+1<W.drew.heap.size:=by show _<W.heap.size; have:=Hs.out; omega
  refine(wo x n false 194 195 _ _ (nK x i j n) (kN i j) W.drew ?o1 ?o2 J6 J7 ?o3 ?o4).mono ?_
  case o1=>exact hoff
  case o2=>exact hcell
  case o3=>exact fun hm h1 h2 h3 w' hb=>have hq:=Ll.up hS hb; Gz x i j n _ _ _ _ w' ⟨h1,h2⟩ hi hj0 hq.1 hq.2.2.2 hq.2.1 hq.2.2.1
  case o4=>exact fun h w' g hb=>have hq:=Ll.up hS hb; GA g _ _ i j w' (hbd h).1 (hbd h).2 hq.2.1 hq.2.2.1
  rintro e w2 ⟨rfl,hb2⟩;generalize bU x n false (nK x i j n) (kN i j)=r at *;have hz2:Hid (w2.heap[w.heap.size+1+1+1+1]? = some (.cells (aR .i64 54 zero) 59 (0,0))):=(hb2.block _ hlz).trans Hz.out;have hB2:Below w.heap.size w w2:=hB.trans ((bdr hb2).mono hB.size);have hS:=Ll.up hS hb2;refine hK _ _ ⟨hS,?_⟩;clear hK K;clear hb2;refine wpAnyH_take (i:=11) (v := .agg (aR .i64 54 r.1)) rfl (by kernel_rfl) (by kernel_rfl) (by kernel_rfl) (fun _ _ _ h=>h) (.inl ⟨by rfl,fun w' hw => ?_⟩) hS ?_
  ·clear hw
   go_simp
  refine wpAnyH_take (i:=12) (v := .int .i64 r.2) rfl (by kernel_rfl) (by kernel_rfl) (by kernel_rfl) (fun _ _ _ h=>h) (.inl ⟨by rfl,fun w' hw => ?_⟩) hS ?_
  ·clear hw
   go_simp
  refine wpAnyH_all (rs := [13]) (by kernel_rfl) (by decide) ?_;intro j' hj';obtain rfl:j'=13:=by simpa using hj'
  clear hj';refine vH (by rfl) (by rfl)<|fun K hK => ?_;refine wp_store_row 59 (.tmp 8) (.tmp 21) (by rfl) (w.heap.size+1+1+1+1) (aR .i64 54 r.1) (by rfl) (by rfl) 59 (aR .i64 54 zero) hz2.out (by rw[bB]; exact iM) (by rw[bB,bB]) (kK _ _ _) ?_;have hend:=iG hB2 (by omega) hz2.out r.1;have hS:=hS.row (aR .i64 54 r.1);refine hK _ _ ⟨hS,?_⟩;clear hK K hz2 hB2;generalize w2.setRow (w.heap.size+1+1+1+1) (aR .i64 54 r.1)=w3 at *;refine wpAnyH_take (i:=14) (v := .int .i64 r.2) rfl (by kernel_rfl) (by kernel_rfl) (by kernel_rfl) (fun _ _ _ h=>h) (.inl ⟨by rfl,fun w' hw => ?_⟩) hS ?_
  ·clear hw
   go_simp
  refine wpAnyH_done (by kernel_rfl) ?_ _;refine Jj _ _<|wp_ret ?_;rw[HM.out];exact tu (p:=8) (q:=9) (by kernel_rfl) (by kernel_rfl) (by kernel_rfl) (by kernel_rfl) hend.1 hend.2
 have hi6:=Hri.out.1 rfl;have hbd:bj=true->(1<=i/\i<=6)/\(1<=j/\j<=6):=fun h=>⟨hi6,Hrj.out.1 h⟩;have hoff:bj=true->kN i j<54:=fun h=>by have:=hbd h; unfold kN; omega
 have hcell:bj=true->may x=true->0<=x (kN i j)/\x (kN i j)<=1125899906842624:=fun h hm=>by
  have:=hbd h;exact(wh hm (i.toNat-1) (by omega)).r (j.toNat-1) (by omega)
 refine wpAnyH_take (i:=4) (v := .bool true) rfl (by kernel_rfl) (by kernel_rfl) (by kernel_rfl) (fun _ _ _ h=>h) (.inl ⟨by rfl,fun w' hw => ?_⟩) hS ?_
 ·clear hw
  go_simp
 refine wpAnyH_take (i:=5) (v := .int .i64 j) rfl (by kernel_rfl) (by kernel_rfl) (by kernel_rfl) (fun _ _ _ h=>h) (.inl ⟨by rfl,fun w' hw => ?_⟩) hS ?_
 ·have h2:=hw.2.2.1;clear hw
  go_simp
 refine wpAnyH_all (rs := [6]) (by kernel_rfl) (by decide) ?_;intro j hj;obtain rfl:j=6:=by simpa using hj
 refine wpOp_step rfl<|fun K hK => ?_;clear hj
 go_simp
 refine(afm.out _).mono ?_;rintro e w' ⟨rfl,rfl⟩;refine hK _ _ ⟨hS,?_⟩;clear hK K;refine wpAnyH_take (i:=7) (v := .bool bj) rfl (by kernel_rfl) (by kernel_rfl) (by kernel_rfl) (fun _ _ _ h=>h) (.inl ⟨by rfl,fun w' hw => ?_⟩) hS ?_
 ·clear hw
  go_simp
 have HM:Hid (dn x i j n=bU x n bj (nK x i j n) (kN i j)):=HM;refine wpAnyH_all (rs := [10]) (by kernel_rfl) (by decide) ?_;intro j hj;obtain rfl:j=10:=by simpa using hj
 refine wpOp_step rfl<|fun K hK => ?_;clear hj
 go_simp
 have hlz:w.heap.size+1+1+1+1<W.drew.heap.size:=by show _<W.heap.size; have:=Hs.out; omega
 refine(wo x n bj 194 195 _ _ (nK x i j n) (kN i j) W.drew ?o1 ?o2 J6 J7 ?o3 ?o4).mono ?_
 case o1=>exact hoff
 case o2=>exact hcell
 case o3=>exact fun hm h1 h2 h3 w' hb=>have hq:=Ll.up hS hb; Gz x i j n _ _ _ _ w' ⟨h1,h2⟩ hi hj0 hq.1 hq.2.2.2 hq.2.1 hq.2.2.1
 case o4=>exact fun h w' g hb=>have hq:=Ll.up hS hb; GA g _ _ i j w' (hbd h).1 (hbd h).2 hq.2.1 hq.2.2.1
 rintro e w2 ⟨rfl,hb2⟩;generalize bU x n bj (nK x i j n) (kN i j)=r at *;have hz2:Hid (w2.heap[w.heap.size+1+1+1+1]? = some (.cells (aR .i64 54 zero) 59 (0,0))):=(hb2.block _ hlz).trans Hz.out;have hB2:Below w.heap.size w w2:=hB.trans ((bdr hb2).mono hB.size);have hS:=Ll.up hS hb2;refine hK _ _ ⟨hS,?_⟩;clear hK K;clear hb2;refine wpAnyH_take (i:=11) (v := .agg (aR .i64 54 r.1)) rfl (by kernel_rfl) (by kernel_rfl) (by kernel_rfl) (fun _ _ _ h=>h) (.inl ⟨by rfl,fun w' hw => ?_⟩) hS ?_
 ·clear hw
  go_simp
 refine wpAnyH_take (i:=12) (v := .int .i64 r.2) rfl (by kernel_rfl) (by kernel_rfl) (by kernel_rfl) (fun _ _ _ h=>h) (.inl ⟨by rfl,fun w' hw => ?_⟩) hS ?_
 ·clear hw
  go_simp
 refine wpAnyH_all (rs := [13]) (by kernel_rfl) (by decide) ?_;intro j' hj';obtain rfl:j'=13:=by simpa using hj'
 clear hj';refine vH (by rfl) (by rfl)<|fun K hK => ?_;refine wp_store_row 59 (.tmp 8) (.tmp 21) (by rfl) (w.heap.size+1+1+1+1) (aR .i64 54 r.1) (by rfl) (by rfl) 59 (aR .i64 54 zero) hz2.out (by rw[bB]; exact iM) (by rw[bB,bB]) (kK _ _ _) ?_;have hend:=iG hB2 (by omega) hz2.out r.1;have hS:=hS.row (aR .i64 54 r.1);refine hK _ _ ⟨hS,?_⟩;clear hK K hz2 hB2;generalize w2.setRow (w.heap.size+1+1+1+1) (aR .i64 54 r.1)=w3 at *;refine wpAnyH_take (i:=14) (v := .int .i64 r.2) rfl (by kernel_rfl) (by kernel_rfl) (by kernel_rfl) (fun _ _ _ h=>h) (.inl ⟨by rfl,fun w' hw => ?_⟩) hS ?_
 ·clear hw
  go_simp
 refine wpAnyH_done (by kernel_rfl) ?_ _;refine Jj _ _<|wp_ret ?_;rw[HM.out];exact tu (p:=8) (q:=9) (by kernel_rfl) (by kernel_rfl) (by kernel_rfl) (by kernel_rfl) hend.1 hend.2
end
namespace Rt
def L(x:Nat->Int)(k:Nat):Int:=G x k+F x k+R x 0 k+R x 1 k+R x 2 k+R x 3 k+R x 4 k+R x 5 k-C x k-R x k 0-R x k 1-R x k 2-R x k 3-R x k 4-R x k 5
def Pw(x:Nat->Int):Prop := ∀ p,p<54->0<=x p/\x p<=1125899906842624
def All(x:Nat->Int):Prop := ∀ k,k<6->0<=L x k/\F x k<=C x k/\R x k k=0
def oD(x:Nat->Int):Int:=G x 0+G x 1+G x 2+G x 3+G x 4+G x 5
theorem DK{l:List Int}(h:lV l=true):mP l=(l.sum,true):=by unfold mP; rw[d_ h]
theorem Pw.outs{x:Nat->Int}(h:Pw x)(k:Nat)(b:k<6):lV (outs x k 6)=true:=by
 have e:=fun j (hj:j<6)=>h (18+k*6+j) (by omega);have c:=h (6+k) (by omega);unfold lV;rw[List.all_eq_true];intro n a;have:n=x (6+k)\/n=x (18+k*6+0)\/n=x (18+k*6+1)\/n=x (18+k*6+2)\/n=x (18+k*6+3)\/n=x (18+k*6+4)\/n=x (18+k*6+5):=by
  simpa [Rt.outs,C,R,or_assoc] using a
 unfold zJ;rw[R_,decide_eq_true_eq,decide_eq_true_eq]
 rcases this with h|h|h|h|h|h|h <;> subst h
 ·exact c
 all_goals exact e _ (by omega)
theorem Pw.ins{x:Nat->Int}(h:Pw x)(k:Nat)(b:k<6):lV (ins x k 6)=true:=by
 have e:=fun j (hj:j<6)=>h (18+j*6+k) (by omega);have c:=h k (by omega);have f:=h (12+k) (by omega);unfold lV;rw[List.all_eq_true];intro n a;have:n=x k\/n=x (12+k)\/n=x (18+0*6+k)\/n=x (18+1*6+k)\/n=x (18+2*6+k)\/n=x (18+3*6+k)\/n=x (18+4*6+k)\/n=x (18+5*6+k):=by
  simpa [Rt.ins,G,F,R,or_assoc] using a
 unfold zJ;rw[R_,decide_eq_true_eq,decide_eq_true_eq]
 rcases this with h|h|h|h|h|h|h|h <;> subst h
 ·exact c
 ·exact f
 all_goals exact e _ (by omega)
theorem S9(x:Nat->Int)(k:Nat):(Rt.outs x k 6).sum=C x k+R x k 0+R x k 1+R x k 2+R x k 3+R x k 4+R x k 5:=by simp[Rt.outs]; omega
theorem WY(x:Nat->Int)(k:Nat):(Rt.ins x k 6).sum=G x k+F x k+R x 0 k+R x 1 k+R x 2 k+R x 3 k+R x 4 k+R x 5 k:=by simp[Rt.ins]; omega
theorem uP{x:Nat->Int}(h:Pw x)(k:Nat)(a:k<6):localM x k=(L x k,true):=by
 unfold localM;rw[DK (h.outs k a),DK (h.ins k a),S9,WY];unfold L;refine Prod.ext ?_ rfl
 dsimp only
 omega
theorem iw{x:Nat->Int}(h:may x=true):Pw x:=by
 intro p e;by_cases a:p<6
 ·exact(wh h p a).g
 by_cases b:p<12
 ·have:=(wh h (p-6) (by omega)).c;unfold C at this; rwa [show 6+(p-6)=p by omega]at this
 by_cases d:p<18
 ·have:=(wh h (p-12) (by omega)).f;unfold F at this; rwa [show 12+(p-12)=p by omega]at this
 have:=(wh h ((p-18) / 6) (by omega)).r ((p-18) % 6) (by omega);unfold R at this; rwa [show 18+(p-18) / 6*6+(p-18) % 6=p by omega]at this
theorem Zr{x:Nat->Int}(h:Pw x):lV (gs x)=true:=by
 unfold lV;rw[List.all_eq_true];intro n a;have:n=x 0\/n=x 1\/n=x 2\/n=x 3\/n=x 4\/n=x 5:=by simpa [gs,or_assoc] using a
 unfold zJ;rw[R_,decide_eq_true_eq,decide_eq_true_eq]
 rcases this with e|e|e|e|e|e <;> subst e <;> exact h _ (by omega)
theorem Ta(x:Nat->Int):(gs x).sum=oD x:=by simp[gs,oD,G]; omega
theorem jy(x:Nat->Int):may x=true<->Pw x/\All x/\oD x<=1125899906842624:=by
 constructor
 ·intro h;have e:=iw h;refine⟨e,fun k d => ?_,?_⟩
  ·have o:=wh h k d;have:=o.l;rw[uP e k d]at this;exact⟨this,o.fc,o.rkk⟩
  unfold may at h;rw[R_,R_,DK (Zr e),Ta]at h
  simpa using h.2.2
 rintro ⟨e,g,i⟩;have d : ∀ k,k<6->Bu x k=true:=by
  intro k d;obtain⟨a,b,c⟩:=g k d;unfold Bu;rw[uP e k d];simp only[R_,decide_eq_true_eq,beq_iff_eq];exact⟨⟨⟨trivial,a⟩,b⟩,c⟩
 have f : ∀ n,n<=6->Dn x n=true:=by
  intro n
  induction n with
  | zero=>intro _; rfl
  | succ n ih=>intro f; rw[show Dn x (n+1)=(Dn x n&&Bu x n)from rfl,ih (by omega),d n (by omega)]; rfl
 unfold may;rw[f 6 (by omega),DK (Zr e),Ta,f_ i];rfl
theorem nL{x:Nat->Int}(h:may x=true)(k:Nat)(a:k<6):fE x ((k:Int)+1)=L x k:=by
 unfold fE;rw[h,Bool.and_true,d_ (by unfold gH; simp; omega),show((k:Int)+1).toNat-1=k by omega,uP (iw h) k a]
def kH(x:Nat->Int):Int:=(C x 0-F x 0)+(C x 1-F x 1)+(C x 2-F x 2)+(C x 3-F x 3)+(C x 4-F x 4)+(C x 5-F x 5)
theorem wX(x:Nat->Int)(i j:Nat)(hi:i<6)(g:j<6)(d:Int)(a b:Nat)(ha:a<6)(f:b<6) :
 R (upd x (18+i*6+j) (x (18+i*6+j)+d)) a b=R x a b+(if a=i then if b=j then d else 0 else 0):=by
 unfold R upd;by_cases c:a=i
 ·by_cases e:b=j
  ·subst c e; simp
  rw[b_ (by omega),d_ c,b_ e]; omega
 rw[b_ (by omega),b_ c]; omega
theorem abl(x:Nat->Int)(i j:Nat)(hi:i<6)(a:j<6)(d:Int)(k:Nat)(b:k<6) :
 L (upd x (18+i*6+j) (x (18+i*6+j)+d)) k=L x k+(if k=j then d else 0)-(if k=i then d else 0):=by
 have l:G (upd x (18+i*6+j) (x (18+i*6+j)+d)) k=G x k:=fZ _ _ _ _ (by omega);have f:C (upd x (18+i*6+j) (x (18+i*6+j)+d)) k=C x k:=fZ _ _ _ _ (by omega);have g:F (upd x (18+i*6+j) (x (18+i*6+j)+d)) k=F x k:=fZ _ _ _ _ (by omega);unfold L
 rw[l,f,g,wX x i j hi a d 0 k (by omega) b,wX x i j hi a d 1 k (by omega) b,wX x i j hi a d 2 k (by omega) b,wX x i j hi a d 3 k (by omega) b,wX x i j hi a d 4 k (by omega) b,wX x i j hi a d 5 k (by omega) b,
  wX x i j hi a d k 0 b (by omega),wX x i j hi a d k 1 b (by omega),wX x i j hi a d k 2 b (by omega),wX x i j hi a d k 3 b (by omega),wX x i j hi a d k 4 b (by omega),wX x i j hi a d k 5 b (by omega)]
 have c:(if 0=i then if k=j then d else 0 else 0)+(if 1=i then if k=j then d else 0 else 0)+(if 2=i then if k=j then d else 0 else 0)+(if 3=i then if k=j then d else 0 else 0)+(if 4=i then if k=j then d else 0 else 0)+(if 5=i then if k=j then d else 0 else 0)=(if k=j then d else 0):=by
  have:i=0\/i=1\/i=2\/i=3\/i=4\/i=5:=by omega
  rcases this with h|h|h|h|h|h <;> subst h <;> simp
 have e:(if k=i then if 0=j then d else 0 else 0)+(if k=i then if 1=j then d else 0 else 0)+(if k=i then if 2=j then d else 0 else 0)+(if k=i then if 3=j then d else 0 else 0)+(if k=i then if 4=j then d else 0 else 0)+(if k=i then if 5=j then d else 0 else 0)=(if k=i then d else 0):=by
  have:j=0\/j=1\/j=2\/j=3\/j=4\/j=5:=by omega
  rcases this with h|h|h|h|h|h <;> subst h <;> simp
 generalize (if 0=i then if k=j then d else 0 else 0)=a0 at *;generalize (if 1=i then if k=j then d else 0 else 0)=a1 at *;generalize (if 2=i then if k=j then d else 0 else 0)=a2 at *;generalize (if 3=i then if k=j then d else 0 else 0)=a3 at *;generalize (if 4=i then if k=j then d else 0 else 0)=a4 at *;generalize (if 5=i then if k=j then d else 0 else 0)=a5 at *;generalize (if k=i then if 0=j then d else 0 else 0)=b0 at *;generalize (if k=i then if 1=j then d else 0 else 0)=b1 at *;generalize (if k=i then if 2=j then d else 0 else 0)=b2 at *;generalize (if k=i then if 3=j then d else 0 else 0)=b3 at *;generalize (if k=i then if 4=j then d else 0 else 0)=b4 at *;generalize (if k=i then if 5=j then d else 0 else 0)=b5 at *;rw[<- c,<- e];omega
end Rt
structure DL where
 inn:Nat->Bool
 left:Nat->Bool
 known:Nat->Int
 na:Option Addr
 nn:Nat
 nc:Nat
 ga:Option Addr
 gn:Nat
 gc:Nat
def pX(s:DL):Nat->Value:=fun p=>if p<6 then .bool (s.inn p)else if p<12 then .bool (s.left (p-6))else if p<18 then aF (s.known (p-12))else if p=18 then .slice s.na s.nn s.nc else .slice s.ga s.gn s.gc
theorem Ew(s:DL){p:Nat}(h:p<6):pX s p = .bool (s.inn p):=by unfold pX; rw[d_ h]
theorem J8(s:DL){p q:Nat}(h:p<6)(e:q=p+6):pX s q = .bool (s.left p):=by subst e; unfold pX; rw[b_ (by omega),d_ (by omega),Nat.add_sub_cancel]
theorem mW(s:DL){p q:Nat}(h:p<6)(e:q=p+12):pX s q=aF (s.known p):=by subst e; unfold pX; rw[b_ (by omega),b_ (by omega),d_ (by omega),Nat.add_sub_cancel]
def lY(id par:Int)(R:Nat->Int):Nat->Value:=fun p=>if p=0 then aF id else if p=1 then aF par else au (R (p-2))
theorem Iw(id par:Int)(R:Nat->Int)(q:Nat):lY id par R (2+q)=rv .i64 R q:=by unfold lY rv; rw[b_ (by omega),b_ (by omega),Nat.add_sub_cancel_left]
def Nds(w:World)(a:Option Addr)(n:Nat)(id par:Nat->Int)(R:Nat->Nat->Int):Prop := ∀ k,k<n -> ∃ b c,a=some ⟨b,c,none⟩/\iU w b (c+56*k) 56 (lY (id k) (par k) (R k))
theorem Nds.below{w w':World}{a:Option Addr}{n:Nat}{id par:Nat->Int}{R:Nat->Nat->Int}(h:Nds w a n id par R)(d:Below w.heap.size w w'):Nds w' a n id par R:=fun k f=>by
 obtain⟨b,g,e,c⟩:=h k f;exact⟨b,g,e,c.below d (c.lt (by omega))⟩
section
structure kX where
 s:DL
 id:Nat->Int
 par:Nat->Int
 R:Nat->Nat->Int
 g:Nat->Nat->Int
 tb:Nat
 ta:Option Addr
 tn:Nat
 tc:Nat
 t:Nat->Nat->Int
 ra:Nat->Option Addr
 rn:Nat->Nat
 rc:Nat->Nat
 rq:Nat->Nat->Int
structure fP where
 inn:Nat->Bool
 left:Nat->Bool
 known:Nat->Int
 nn:Nat
 id:Nat->Int
 par:Nat->Int
 R:Nat->Nat->Int
 gn:Nat
 g:Nat->Nat->Int
 tn:Nat
 t:Nat->Nat->Int
 rn:Nat->Nat
 rq:Nat->Nat->Int
def kX.core(m:kX):fP:=⟨m.s.inn,m.s.left,m.s.known,m.s.nn,m.id,m.par,m.R,m.s.gn,m.g,m.tn,m.t,m.rn,m.rq⟩
def mF(m:kX):Nat->Value:=fun p=>if p<20 then pX m.s p else if p=20 then(pt m.tb)else .slice (m.ra (p-21)) (m.rn (p-21)) (m.rc (p-21))
theorem lM(m:kX){p:Nat}{v:Value}(h:p<20)(e:pX m.s p=v):mF m p=v:=by unfold mF; rw[d_ h]; exact e
theorem wu(m:kX){p q:Nat}(e:q=p+21):mF m q = .slice (m.ra p) (m.rn p) (m.rc p):=by
 subst e; unfold mF; rw[b_ (by omega),b_ (by omega),Nat.add_sub_cancel]
def jf(x:Nat->Int):Nat->Value:=fun p=>if p=0 then au (x 0)else if p=3 then au (x 3)else aF (x p)
def Jk(m:kX):Nat->Value:=flat 56 fun k=>lY (m.id k) (m.par k) (m.R k)
def Iy(m:kX):Nat->Value:=flat 5 fun k=>jf (m.g k)
def kP(c:Nat->Nat->Int):Nat->Int:=fun p=>c (p / 2) (p % 2)
def Px(t:Nat->Nat->Int):Nat->Value:=flat 2 fun k=>rv .u64 (t k)
structure Cx(w:World)(p:Nat)(m:kX):Prop where
 c:iU w p 0 27 (mF m)
 an:ou w m.s.na m.s.nn 56 (Jk m)
 ag:ou w m.s.ga m.s.gn 5 (Iy m)
 tc:iU w m.tb 0 1 (fun _ => .slice m.ta m.tn m.tc)
 at2:ou w m.ta m.tn 2 (Px m.t)
 ar : ∀ i,i<6->ou w (m.ra i) (m.rn i) 1 (rv .u64 (m.rq i))
 bn:m.s.nn<=1000000
 bg:m.s.gn<=1000000
 bt:m.tn<=1000000
 br : ∀ i,i<6->m.rn i<=1000000
section
variable {w w':World} {p:Nat} {m:kX}
theorem Cx.n(h:Cx w p m):Nds w m.s.na m.s.nn m.id m.par m.R:=fun _ a=>h.an.at a
theorem Cx.g(h:Cx w p m) : ∀ k,k<m.s.gn -> ∃ b a,m.s.ga=some ⟨b,a,none⟩/\iU w b (a+5*k) 5 (jf (m.g k)):=fun _ c=>h.ag.at c
theorem Cx.t(h:Cx w p m) : ∀ k,k<m.tn -> ∃ b a,m.ta=some ⟨b,a,none⟩/\iU w b (a+2*k) 2 (rv .u64 (m.t k)):=fun _ c=>h.at2.at c
theorem Cx.r(h:Cx w p m) : ∀ i,i<6 -> ∀ k,k<m.rn i -> ∃ b a,m.ra i=some ⟨b,a,none⟩/\iU w b (a+k) 1 (fun _=>aF (m.rq i k)):=fun i d k g=>by
 obtain⟨b,a,e,c⟩:=h.ar i d (by omega);refine⟨b,a,e,fun j f => ?_⟩;obtain rfl:j=0:=by omega
 exact c k (by omega)
theorem Cx.below(h:Cx w p m)(a:Below w.heap.size w w'):Cx w' p m where
 c:=h.c.below a (h.c.lt (by omega))
 an:=h.an.up a rfl
 ag:=h.ag.up a rfl
 tc:=h.tc.below a (h.tc.lt (by omega))
 at2:=h.at2.up a rfl
 ar:=fun i b=>(h.ar i b).up a rfl
 bn:=h.bn
 bg:=h.bg
 bt:=h.bt
 br:=h.br
end
def gU(P:Nat->Bool):Nat->Int
 | 0 => -1
 | n+1=>if 0<=gU P n then gU P n else if P n then(n:Int)else -1
theorem mX{P:Nat->Bool} : ∀ {n:Nat},(∀ i,i<n->P i=false)->gU P n = -1
 | 0,_=>rfl
 | n+1,h=>by
   have:=mX (P:=P) (n:=n) fun i a=>h i (by omega);simp only[gU]; rw[this,b_ (by omega),h n (by omega)]; rfl
theorem rG{P:Nat->Bool}{k:Nat}(a : ∀ i,i<k->P i=false)(b:P k=true) : ∀ {n:Nat},k<n->gU P n=(k:Int)
 | 0,h=>L_ h (by omega)
 | n+1,h=>by
   simp only[gU];by_cases e:k=n
   ·subst e; rw[mX a,b_ (by omega),b]; rfl
   ·rw[rG a b (n:=n) (by omega),d_ (by omega)]
theorem jJ(P:Nat->Bool) : ∀ n:Nat,(∃ k:Nat,k<n/\gU P n=(k:Int)/\P k=true)\/(gU P n = -1 /\ ∀ i,i<n->P i=false)
 | 0 => .inr ⟨rfl,fun i h=>L_ h (by omega)⟩
 | n+1=>by
   rcases jJ P n with ⟨k,d,e,a⟩|⟨e,a⟩
   ·exact .inl ⟨k,by omega,by simp only[gU]; rw[e,d_ (by omega)],a⟩
   ·by_cases h:P n=true
    ·exact .inl ⟨n,by omega,by simp only[gU]; rw[e,b_ (by omega),h]; rfl,h⟩
    ·rw[S_]at h;refine .inr ⟨by simp only[gU]; rw[e,b_ (by omega),h]; rfl,fun i c => ?_⟩;by_cases b:i=n
     ·subst b; exact h
     ·exact a i (by omega)
theorem uQ{P:Nat->Bool}{k:Nat}(h : ∀ i,i<k->P i=false)(a:P k=false) : ∀ i,i<k+1->P i=false:=fun i b=>by
 by_cases e:i=k
 ·subst e; exact a
 ·exact h i (by omega)
def kX.node(m:kX)(id:Int):Int:=gU (fun i=>decide (m.id i=id)) m.s.nn
def kX.grant(m:kX)(o r:Int):Int:=gU (fun i=>decide (m.g i 0=o)&&decide (m.g i 1=r)) m.s.gn
def kX.kQ(m:kX)(a:Nat)(r:Int):Int:=gU (fun i=>decide (m.rq a i=r)) (m.rn a)
structure Ey(w:World)(tb:Nat)(ta:Option Addr)(tn tc:Nat)(t:Nat->Nat->Int):Prop where
 tc:iU w tb 0 1 (fun _ => .slice ta tn tc)
 t : ∀ k,k<tn -> ∃ b off,ta=some ⟨b,off,none⟩/\iU w b (off+2*k) 2 (rv .u64 (t k))
 bt:tn<=1000000
theorem Ey.below{w w':World}{f:Nat}{d:Option Addr}{tn g:Nat}{t:Nat->Nat->Int}(h:Ey w f d tn g t)(a:Below w.heap.size w w'):Ey w' f d tn g t where
 tc:=h.tc.below a (h.tc.lt (by omega))
 t:=fun k i=>by obtain⟨b,j,e,c⟩:=h.t k i; exact⟨b,j,e,c.below a (c.lt (by omega))⟩
 bt:=h.bt
def bE(t:Nat->Nat->Int)(tn:Nat)(x:Int):Int:=gU (fun i=>decide (t i 0=x)) tn
def bA(t:Nat->Nat->Int)(tn:Nat):Nat->Int->Int
 | 0,x=>x
 | k+1,x=>t (bE t tn (bA t tn k x)).toNat 1
def abm:Value->Nat
 | .slice _ n _=>n
 | _=>0
end
theorem Iz(m:kX)(p:Nat)(x:Int)(w:World)(h:Cx w p m) :
 Calls Tryz.prog 56 #[(pt p),aF x] w fun e w'=>e = .returned (au (m.node x))/\Below w.heap.size w w':=by
 have v:=h.c;have J:p<w.heap.size:=v.lt (by omega);have E:=h.bn;have D:=h.bg;have F:=h.bt;refine Kent Tryz.func56 28 ?_;refine ay<|av (au 0)<|aD<|Ws<|ay<|av (au 0)<|aD<|Wb<|Wo (fun f z => ∃ k:Nat,k<=m.s.nn/\(∀ i,i<k->(fun i=>decide (m.id i=x)) i=false)/\f 0=(pt p)/\f 1=aF x/\f 5=au (k:Int)/\iU z p 0 27 (mF m)/\Below w.heap.size w z) (fun f _=>(m.s.nn-(intOf (f 5)).toNat)) ⟨0,by omega,(fun i h=>L_ h (by omega)),(by rfl),Fx.ic,Fx.ic,v,(Below.refl w.heap.size w)⟩ ?_;rintro G K ⟨k,I,l,j,t,a,o,d⟩;refine Ws<|ay<|aX a<|aX j<|av (pt p)<|av (pt p)<|av (pf p 18)<|Lv (.slice m.s.na (m.s.nn) (m.s.nc)) (aN o 18)<|av (au m.s.nn) ?_;by_cases r:(k:Int)<(m.s.nn:Int)
 ·refine Lv aH (gV r)<|aD<|aO<|Wk<|sN<|Ws<|Wb<|Ws ?_;obtain⟨b,y,A,u⟩:=h.n k (by omega);have B:b<w.heap.size:=u.lt (by omega);have C:=u.below d B;refine Wl<|aX j<|av (pt p)<|av (pt p)<|av (pf p 18)<|Lv (.slice m.s.na (m.s.nn) (m.s.nc)) (aN o 18)<|aX a<|Lv (pf b (56*k+y)) (dh 56 (hx:=(rfl.trans (K_ (fun q=>Value.slice q (m.s.nn) (m.s.nc)) A))))<|av (pf b (56*k+y))<|Lv (aF (m.id k)) (aN C 0)<|aX t ?_;by_cases g:(m.id k)=x
  ·refine Lv aH (eZ g)<|aD<|aO<|ay<|aX a<|av (au k)<|aD<|Wr<|bM<|sR<|qb<|bM<|sR<|aK (au k) ?_;exact⟨pz (Eq.symm (rG l (f_ g) (by omega))),d⟩
  refine Lv aG (fM g)<|aD<|aL<|Wk<|bQ<|sN<|Wl<|aX a<|Lv (au ((k:Int)+1)) eY<|av (au ((k:Int)+1))<|Ln<|gT ⟨k+1,by omega,(uQ l (g_ g)),j,(t.trans Fx.ic),Fx.ic,o,d⟩ ?_;show(m.s.nn-(intOf (au ((k:Int)+1))).toNat)<_;simp only[a,intOf]; omega
 refine Lv aG (gW r)<|aD<|aL<|Wx<|cu<|gJ<|cB<|sN<|ay<|av (au (-1))<|aD<|Wr<|aK (au (-1)) ?_;exact⟨pz (Eq.symm (mX (fun i H=>l i (by omega)))),d⟩
theorem Mj(a:Nat)(l:Option Addr)(tn d:Nat)(t:Nat->Nat->Int)(x:Int)(w:World)(h:Ey w a l tn d t) :
 Calls Tryz.prog 55 #[(pt a),aF x] w fun e w'=>e = .returned (au (bE t tn x))/\Below w.heap.size w w':=by
 have u:=h.tc;have G:a<w.heap.size:=u.lt (by omega);have C:=h.bt;refine Kent Tryz.func55 26 ?_;refine ay<|av (au 0)<|aD<|Ws<|ay<|av (au 0)<|aD<|Wb<|Wo (fun f y => ∃ k:Nat,k<=tn/\(∀ i,i<k->(fun i=>decide (t i 0=x)) i=false)/\f 0=(pt a)/\f 1=aF x/\f 5=au (k:Int)/\iU y a 0 1 (fun _ => .slice l tn d)/\Below w.heap.size w y) (fun f _=>(tn-(intOf (f 5)).toNat)) ⟨0,by omega,(fun i h=>L_ h (by omega)),(by rfl),Fx.ic,Fx.ic,u,(Below.refl w.heap.size w)⟩ ?_;rintro D H ⟨k,F,n,m,r,c,o,g⟩;refine Ws<|ay<|aX c<|aX m<|av (pt a)<|av (pt a)<|Lv (.slice l (tn) (d)) (aN o 0)<|av (au tn) ?_;by_cases p:(k:Int)<(tn:Int)
 ·refine Lv aH (gV p)<|aD<|aO<|Wk<|sN<|Ws<|Wb<|Ws ?_;obtain⟨b,v,z,s⟩:=h.t k (by omega);have A:b<w.heap.size:=s.lt (by omega);have B:=s.below g A;refine Wl<|aX m<|av (pt a)<|av (pt a)<|Lv (.slice l (tn) (d)) (aN o 0)<|aX c<|Lv (pf b (2*k+v)) (dh 2 (hx:=(rfl.trans (K_ (fun q=>Value.slice q (tn) (d)) z))))<|av (pf b (2*k+v))<|Lv (aF ((t k) 0)) (aN B 0)<|aX r ?_;by_cases j:((t k) 0)=x
  ·refine Lv aH (eZ j)<|aD<|aO<|ay<|aX c<|av (au k)<|aD<|Wr<|bM<|sR<|qb<|bM<|sR<|aK (au k) ?_;exact⟨pz (Eq.symm (rG n (f_ j) (by omega))),g⟩
  refine Lv aG (fM j)<|aD<|aL<|Wk<|bQ<|sN<|Wl<|aX c<|Lv (au ((k:Int)+1)) eY<|av (au ((k:Int)+1))<|Ln<|gT ⟨k+1,by omega,(uQ n (g_ j)),m,(r.trans Fx.ic),Fx.ic,o,g⟩ ?_;show(tn-(intOf (au ((k:Int)+1))).toNat)<_;simp only[c,intOf]; omega
 refine Lv aG (gW p)<|aD<|aL<|Wx<|cu<|gJ<|cB<|sN<|ay<|av (au (-1))<|aD<|Wr<|aK (au (-1)) ?_;exact⟨pz (Eq.symm (mX (fun i E=>n i (by omega)))),g⟩
theorem WZ{a b:Prop} [Decidable a] [Decidable b](h : ¬ a):(decide a&&decide b)=false:=by rw[g_ h]; rfl
theorem W9{a b:Prop} [Decidable a] [Decidable b](h : ¬ b):(decide a&&decide b)=false:=by rw[g_ h,H_]
theorem Xa{a b:Prop} [Decidable a] [Decidable b](h:a)(c:b):(decide a&&decide b)=true:=by rw[f_ h,f_ c]; rfl
theorem Xb(m:kX)(p:Nat)(x r:Int)(w:World)(h:Cx w p m) :
 Calls Tryz.prog 110 #[(pt p),au x,aF r] w fun e w'=>e = .returned (au (m.grant x r))/\Below w.heap.size w w':=by
 have C:=h.c;have M:p<w.heap.size:=C.lt (by omega);have H:=h.bn;have G:=h.bg;have I:=h.bt;refine Kent Tryz.func110 43 ?_;refine ay<|av (au 0)<|aD<|Ws<|ay<|av (au 0)<|aD<|Wb<|Wo (fun f E => ∃ k:Nat,k<=m.s.gn/\(∀ i,i<k->(fun i=>decide (m.g i 0=x)&&decide (m.g i 1=r)) i=false)/\f 0=(pt p)/\f 1=au x/\f 2=aF r/\f 7=au (k:Int)/\iU E p 0 27 (mF m)/\Below w.heap.size w E) (fun f _=>(m.s.gn-(intOf (f 7)).toNat)) ⟨0,by omega,(fun i h=>L_ h (by omega)),(by rfl),Fx.ic,Fx.ic,Fx.ic,C,(Below.refl w.heap.size w)⟩ ?_;rintro J N ⟨k,L,t,j,v,y,a,l,d⟩;refine Ws<|ay<|aX a<|aX j<|av (pt p)<|av (pt p)<|av (pf p 19)<|Lv (.slice m.s.ga (m.s.gn) (m.s.gc)) (aN l 19)<|av (au m.s.gn) ?_;by_cases z:(k:Int)<(m.s.gn:Int)
 ·refine Lv aH (gV z)<|aD<|aO<|Wk<|sN<|Ws<|Wb<|Ws ?_;obtain⟨b,u,A,B⟩:=h.g k (by omega);have F:b<w.heap.size:=B.lt (by omega);have D:=B.below d F;refine Wl<|aX j<|av (pt p)<|av (pt p)<|av (pf p 19)<|Lv (.slice m.s.ga (m.s.gn) (m.s.gc)) (aN l 19)<|aX a<|Lv (pf b (5*k+u)) (dh 5 (hx:=(rfl.trans (K_ (fun q=>Value.slice q (m.s.gn) (m.s.gc)) A))))<|av (pf b (5*k+u))<|Lv (au (m.g k 0)) (aN D 0)<|aX v ?_;by_cases n:(m.g k 0)=x
  ·refine Lv aH (eZ n)<|av aH<|aX j<|av (pt p)<|av (pt p)<|av (pf p 19)<|Lv (.slice m.s.ga (m.s.gn) (m.s.gc)) (aN l 19)<|aX a<|Lv (pf b (5*k+u)) (dh 5 (hx:=(rfl.trans (K_ (fun q=>Value.slice q (m.s.gn) (m.s.gc)) A))))<|av (pf b (5*k+u+1))<|Lv (aF (m.g k 1)) (aN D 1)<|aX y ?_;by_cases o:(m.g k 1)=r
   ·refine Lv aH (eZ o)<|av aH<|aD<|aO<|ay<|aX a<|av (au k)<|aD<|Wr<|bM<|sR<|qb<|bM<|sR<|aK (au k) ?_;exact⟨pz (Eq.symm (rG t (Xa n o) (by omega))),d⟩
   refine Lv aG (fM o)<|av aG<|aD<|aL<|Wk<|bQ<|sN<|Wl<|aX a<|Lv (au ((k:Int)+1)) eY<|av (au ((k:Int)+1))<|Ln<|gT ⟨k+1,by omega,(uQ t (W9 o)),j,(v.trans Fx.ic),(y.trans Fx.ic),Fx.ic,l,d⟩ ?_;show(m.s.gn-(intOf (au ((k:Int)+1))).toNat)<_;simp only[a,intOf]; omega
  refine Lv aG (fM n)<|av aG<|dB<|dB<|dB<|dB<|dB<|dB<|dB<|dB<|dB<|dB<|dB<|av aG<|aD<|aL<|Wk<|bQ<|sN<|Wl<|aX a<|Lv (au ((k:Int)+1)) eY<|av (au ((k:Int)+1))<|Ln<|gT ⟨k+1,by omega,(uQ t (WZ n)),j,(v.trans Fx.ic),(y.trans Fx.ic),Fx.ic,l,d⟩ ?_;show(m.s.gn-(intOf (au ((k:Int)+1))).toNat)<_;simp only[a,intOf]; omega
 refine Lv aG (gW z)<|aD<|aL<|Wx<|cu<|gJ<|cB<|sN<|ay<|av (au (-1))<|aD<|Wr<|aK (au (-1)) ?_;exact⟨pz (Eq.symm (mX (fun i K=>t i (by omega)))),d⟩
theorem abn{n:Int}{k:Nat}(h:n=(k:Int)):decide (0<=n)=true:=f_ (by omega)
theorem abo{n:Int}(h:n = -1):decide (0<=n)=false:=g_ (by omega)
theorem Xc(m:kX)(p a:Nat)(r:Int)(w:World)(h:Cx w p m)(ha:a<6) :
 Calls Tryz.prog 108 #[(pt p),au ((a:Int)+1),aF r] w fun e w'=>e = .returned (.bool (decide (0<=m.kQ a r)))/\Below w.heap.size w w':=by
 have x:=h.c;have K:p<w.heap.size:=x.lt (by omega);have E:=h.bn;have D:=h.bg;have G:=h.bt;have F:=h.br a ha;refine Kent Tryz.func108 32 ?_;refine ay<|av aG<|aD<|Ws<|ay<|av (au 0)<|aD<|Wb<|Wo (fun f y => ∃ k:Nat,k<=m.rn a/\(∀ i,i<k->(fun i=>decide (m.rq a i=r)) i=false)/\f 0=(pt p)/\f 1=au ((a:Int)+1)/\f 2=aF r/\f 7=au (k:Int)/\iU y p 0 27 (mF m)/\Below w.heap.size w y) (fun f _=>(m.rn a-(intOf (f 7)).toNat)) ⟨0,by omega,(fun i h=>L_ h (by omega)),(by rfl),Fx.ic,Fx.ic,Fx.ic,x,(Below.refl w.heap.size w)⟩ ?_;rintro H L ⟨k,J,o,l,n,u,j,s,d⟩;refine Ws<|ay<|aX j<|aX l<|aX n<|Lv (au a) gu<|av (pt p)<|av (pf p 21)<|Lv (pf p (a+21)) (jE 6 1)<|Lv (.slice (m.ra a) (m.rn a) (m.rc a)) (aN s (a+21) (wu _ (by omega)))<|av (au (((m.rn a):Nat):Int)) ?_;by_cases t:(k:Int)<(((m.rn a):Nat):Int)
 ·refine Lv aH (gV t)<|aD<|aO<|Wk<|sN<|Ws<|Wb<|Ws ?_;obtain⟨b,C,z,v⟩:=h.r a ha k (by omega);have A:b<w.heap.size:=v.lt (by omega);have B:=v.below d A;refine Wl<|aX l<|aX n<|Lv (au a) gu<|av (pt p)<|av (pf p 21)<|Lv (pf p (a+21)) (jE 6 1)<|Lv (.slice (m.ra a) (m.rn a) (m.rc a)) (aN s (a+21) (wu _ (by omega)))<|aX j<|Lv (pf b (k+C)) (dh 1 (hx:=(rfl.trans (K_ (fun q=>Value.slice q (m.rn a) (m.rc a)) z))))<|Lv (aF (m.rq a k)) (aN B 0)<|aX u ?_;by_cases g:(m.rq a k)=r
  ·refine Lv aH (eZ g)<|aD<|aO<|ay<|av aH<|aD<|Wr<|bM<|sR<|qb<|bM<|sR<|aK aH ?_;exact⟨gZ (Eq.symm (abn (rG o (f_ g) (by omega)))),d⟩
  refine Lv aG (fM g)<|aD<|aL<|Wk<|bQ<|sN<|Wl<|aX j<|Lv (au ((k:Int)+1)) eY<|av (au ((k:Int)+1))<|Ln<|gT ⟨k+1,by omega,(uQ o (g_ g)),l,(n.trans Fx.ic),(u.trans Fx.ic),Fx.ic,s,d⟩ ?_;show(m.rn a-(intOf (au ((k:Int)+1))).toNat)<_;simp only[j,intOf]; omega
 refine Lv aG (gW t)<|aD<|aL<|Wx<|cu<|gJ<|cB<|sN<|ay<|av aG<|aD<|Wr<|aK aG ?_;exact⟨gZ (Eq.symm (abo (mX (fun i I=>o i (by omega))))),d⟩
namespace Rt
theorem Py{k:Nat}{X:Nat->Int}{z:Int}(a:X k=z) : ∀ j,j<(k+1)*1->iB (rv .u64 X) (k*1) (bI (fun j=>rv .u64 (fun _=>0) (j % 1)) (0*1) 1 (fun _=>aF z)) j=rv .u64 X j:=by
 intro j b;unfold iB;by_cases h:j<k*1
 ·rw[d_ h]
 rw[b_ h];have e:j=k:=by omega
 subst e;unfold bI rv;rw[d_ (by omega),a]
theorem NQ{t:Nat->Nat->Int}{tn k D:Nat}{x:Int}(a:k<=D)(b:bE t tn (bA t tn D x)<0)(h:0<=bE t tn (bA t tn k x)):k+1<=D:=Nat.lt_of_le_of_ne a fun e=>by subst e; omega
theorem Td{t:Nat->Nat->Int}{tn k:Nat}{x:Int}(h : ∀ i,i<k->0<=bE t tn (bA t tn i x))(a:0<=bE t tn (bA t tn k x)) : ∀ i,i<k+1->0<=bE t tn (bA t tn i x):=fun i b=>by
 by_cases e:i=k
 ·subst e; exact a
 ·exact h i (by omega)
theorem uR{t:Nat->Nat->Int}{tn:Nat}{x:Int}(h:0<=bE t tn x) : ∃ j:Nat,j<tn/\bE t tn x=(j:Int)/\t j 0=x:=by
 rcases jJ (fun i=>decide (t i 0=x)) tn with ⟨k,a,e,b⟩|⟨e,_⟩
 ·exact⟨k,a,e,h_ b⟩
 unfold bE at h; rw[e]at h; omega
theorem Pz{t:Nat->Nat->Int}{tn k j:Nat}{x:Int}(h:bE t tn (bA t tn k x)=(j:Int)):t j 1=bA t tn (k+1) x:=by
 show _=t (bE t tn (bA t tn k x)).toNat 1;rw[h]; rfl
end Rt
theorem NR(a:Nat)(d:Option Addr)(tn f:Nat)(t:Nat->Nat->Int)(x:Int)(w:World)(h:Ey w a d tn f t) :
 Calls Tryz.prog 126 #[(pt a),aF x] w fun e w'=>e = .returned (.bool (decide (0<=bE t tn x)))/\Below w.heap.size w w':=by
 have i:=h.tc;have k:a<w.heap.size:=i.lt (by omega);have j:=h.bt;refine Kent Tryz.func126 9 ?_;refine ay<|av aG<|aD<|ay<|av (pt a)<|av (aF x)<|eB (Mj a d tn f t x _ (h.below (Below.refl w.heap.size w))) _ rfl ?_;intro l g;have c:=bH g (Below.refl w.heap.size w);by_cases b:0<=(bE t tn x)
 ·refine Lv aH (ko b)<|av aH<|aD<|Wr<|aK aH ?_;exact⟨gZ (Eq.symm (f_ b)),c⟩
 refine Lv aG (jU b)<|av aG<|aD<|Wr<|aK aG ?_;exact⟨gZ (Eq.symm (g_ b)),c⟩
theorem IB(c:Nat)(p:Option Addr)(tn d:Nat)(t:Nat->Nat->Int)(x:Int)(D:Nat)(w:World)(h:Ey w c p tn d t)(R:bE t tn (bA t tn D x)<0)(hD2:D<=1000) :
 Calls Tryz.prog 27 #[(pt c),aF x] w fun e w' => ∃ K v,e = .returned v/\Fx.Own w' w.heap.size 28 1 v K (rv .u64 (fun i=>bA t tn i x))/\(∀ i,i<K->0<=bE t tn (bA t tn i x))/\bE t tn (bA t tn K x)<0/\Below w.heap.size w w':=by
 have U:=h.tc;have lp:c<w.heap.size:=U.lt (by omega);have bt:=h.bt;refine Kent Tryz.func27 25 ?_;refine ay<|av (.slice none 0 0)<|aD<|ay<|av (.slice none 0 0)<|aD<|Ws<|Wb ?_;have m1:Fx.Own w w.heap.size 28 1 (.slice none 0 0) 0 (rv .u64 (fun i=>bA t tn i x)):=wZ _ _ _ _ _;refine Wo (fun f N => ∃ k:Nat,∃ a:Option Addr,∃ l:Nat,k<=D/\(∀ i,i<k->0<=bE t tn (bA t tn i x))/\f 0=(pt c)/\f 1=aF (bA t tn k x)/\f 5 = .slice a (k) (l)/\iU N c 0 1 (fun _ => .slice p tn d)/\Fx.Own N w.heap.size 28 1 (.slice a k l) k (rv .u64 (fun i=>bA t tn i x))/\Below w.heap.size w N) (fun f _=>(D-abm (f 5))) ⟨0,none,0,by omega,(fun i h=>L_ h (by omega)),(by rfl),(by rfl),(by rfl),U,m1,(Below.refl w.heap.size w)⟩ ?_;rintro f1 w1 ⟨k,a,l,X,S,z,n,G,m2,m3,O⟩;refine Ws<|ay<|aX z<|aX n<|eB (Mj c p tn d t (bA t tn k x) _ (h.below O)) _ rfl ?_;intro w2 hb1;have⟨Z,I,A⟩:=ku hb1 m2 m3 O;by_cases g:0<=(bE t tn (bA t tn k x))
 ·refine Lv aH (ko g)<|aD<|aO<|Wk<|sN<|Wb<|Ws ?_;obtain⟨j,W,P,_⟩:=uR g;refine Wl<|aX G<|aX n<|yN (vs := [(0,aF (bA t tn k x))]) (s:=1) (zc:=rv .u64 (fun _=>0)) (y:=bI (fun j=>(rv .u64 (fun _=>0)) (j % 1)) (0*1) 1 (fun _=>aF (bA t tn k x))) (by rfl) rfl rfl Tryz.underlying63 (by kernel_rfl) (by rfl) (by rfl) (by kernel_rfl) (by rw[bF (off:=0*1) (s:=1) (y:=fun _=>aF (bA t tn k x)) rfl (cells_one (by rfl)) (by rfl)]; rfl) rfl fun Q w3 F m6 s2 z1 => ?_;have⟨m7,J,C⟩:=ku s2.old Z I A;have uG:=jI F A.size;have zx:c≠Q:=by rw[F]; exact t_ (Z.lt (by omega))
  have J9:(.slice a k l:Value).ownBlock≠some Q:=by rw[F]; exact I.jT (z_ _)
  have wO:=m6.lt;refine zh (B:=w.heap.size) (s:=1) (bytes:=8) (k:=k) (m:=1) (by rfl) rfl rfl rfl Tryz.underlying63 (by kernel_rfl) (by kernel_rfl) rfl rfl J m6.aI (fun j W=>by rcases j with _|j <;> first|rfl|omega) (by omega) (by omega) (by omega) C.size fun u r M ho1 V vU hlt1 => ?_
  have H:iU M c 0 1 (fun _ => .slice p tn d):=m7.grown V (J.not (by omega));have m9:Fx.Own M w.heap.size 28 1 (bL u (k+1) r) (k+1) (rv .u64 (fun i=>bA t tn i x)):=ho1.congr (Py rfl);have E:Below w.heap.size w M:=zf C V C.size (fun q hq=>(J.ge hq).1);refine av (bL u (k+1) r)<|aD ?_;obtain⟨b,off,ea,T⟩:=h.t j W;have lb:b<w.heap.size:=T.lt (by omega);have Y:=T.below E lb;refine mO<|dX z<|aT (pt c)<|aT (pt c)<|Qv (.slice p (tn) (d)) (fun L o=>aN (H.below o (H.lt (by omega))) 0)<|dX z<|dX n<|yO (fun L o=>((Mj c p tn d t (bA t tn k x) _ (h.below (Jg E o))).mono fun e w2 n=>(⟨n.1.trans (by rw[P]),n.2⟩:e = .returned (au (j:Int))/\_))) _ rfl<|Qv (pf b (2*j+off)) (fun L o=>dh 2 (hx:=(rfl.trans (K_ (fun q=>Value.slice q (tn) (d)) ea))))<|aT (pf b (2*j+off+1))<|Qv (aF ((t j) 1)) (fun L o=>aN (Y.below o (Y.lt (by omega))) 1)<|aT (aF ((t j) 1))<|Qn ?_;intro WI sP;have⟨m12,m13,b5⟩:=ku sP H m9 E;refine bQ ?_;have kD:=NQ X R g;refine gT ⟨k+1,(some ⟨u,0,none⟩),r,(NQ X R g),(Td S g),z,(K_ (Value.int .u64) (Pz P)),(by rfl),m12,m13,b5⟩ ?_;show(D-abm (bL u (k+1) r))<_;simp only[G,intOf,abm]; omega
 refine Lv aG (jU g)<|aD<|aL<|Wx<|cu<|gJ<|cB<|sN<|ay<|aX G<|av (.slice a (k) (l))<|aD<|Wr<|aK (.slice a (k) (l)) ?_;exact⟨k,_,rfl,I,S,by omega,A⟩
namespace Rt
def jW(k a:Nat):kX := { s:=⟨fun i=>decide (i<k),fun _=>false,fun _=>0,none,0,0,none,0,0⟩,id:=fun _=>0,par:=fun _=>0,R:=fun _ _=>0,g:=fun _ _=>0,tb:=a,ta:=none,tn:=0,tc:=0,t:=fun _ _=>0,ra:=fun _=>none,rn:=fun _=>0,rc:=fun _=>0,rq:=fun _ _=>0 }
theorem PD(k c:Nat)(d:k<6):dA (mF (jW k c)) k (.bool true)=mF (jW (k+1) c):=by
 funext p
 unfold dA;by_cases e:p=k
 ·subst e; rw[d_ rfl];exact(lM _ (by omega) ((Ew _ d).trans (K_ Value.bool (f_ (show p<p+1 by omega))))).symm
 rw[b_ e];unfold mF;by_cases h:p<20
 ·rw[d_ h,d_ h];unfold pX;by_cases a:p<6
  ·rw[d_ a,d_ a];show Value.bool (decide (p<k))=Value.bool (decide (p<k+1));by_cases b:p<k
   ·rw[f_ b,f_ (show p<k+1 by omega)]
   rw[g_ b,g_ (show ¬ p<k+1 by omega)]
  rw[b_ a,b_ a]; rfl
 rw[b_ h,b_ h]; rfl
end Rt
set_option maxRecDepth 10000 in
theorem afn(n:Nat)(w:World)(h1:1<=n)(S:n<=6) :
 Calls Tryz.prog 24 #[au (n:Int)] w fun e w' => ∃ p h,e = .returned (.tuple #[(pt p),au 0])/\w.heap.size<=p/\Cx w' p (jW n h)/\Below w.heap.size w w'/\aS w' p 27 (mF (jW n h)) 71/\aS w' h 1 (fun _ => .slice none 0 0) 123/\w.heap.size<=h:=by
 refine Kent Tryz.func24 28 ?_;refine ay<|av (.pointer none)<|av (au 0)<|aD<|Ws<|ay<|av (au n)<|Lv aG Cq<|av aG<|av (au n)<|Lv aG wM<|av aG<|aD<|aL<|Wk<|sN<|ay<|av (.agg (aC 1 (fun _ => .slice none 0 0)))<|rU fun b Y D q N z1 => ?_;have u:=bH N.old (Below.refl w.heap.size w);have G:=iE D;have W:=q.lt;refine av (.agg (aC 27 (bI (fun i=>(#[.bool false,.bool false,.bool false,.bool false,.bool false,.bool false,.bool false,.bool false,.bool false,.bool false,.bool false,.bool false,aF 0,aF 0,aF 0,aF 0,aF 0,aF 0,.slice none 0 0,.slice none 0 0,.pointer none,.slice none 0 0,.slice none 0 0,.slice none 0 0,.slice none 0 0,.slice none 0 0,.slice none 0 0]:Array Value).getD i undef) 20 1 (fun _=>(pt b)))))<|Dw (m:=27) (y:=bI (fun i=>(#[.bool false,.bool false,.bool false,.bool false,.bool false,.bool false,.bool false,.bool false,.bool false,.bool false,.bool false,.bool false,aF 0,aF 0,aF 0,aF 0,aF 0,aF 0,.slice none 0 0,.slice none 0 0,.pointer none,.slice none 0 0,.slice none 0 0,.slice none 0 0,.slice none 0 0,.slice none 0 0,.slice none 0 0]:Array Value).getD i undef) 20 1 (fun _=>(pt b))) (by rfl) rfl rfl (bJ _ _) rfl fun a P x z O z2 => ?_;have⟨I,B⟩:=fC O.old q u;have H:=jI x u.size;have V:=cO x q.lt;have X:=z.lt;refine av (pt a)<|aD<|Ws<|ay<|av (au 0)<|aD<|Wb ?_;have J:aS P a 27 (mF (jW 0 b)) 71:=z.congr (fun j T=>by rcases j with _|_|_|_|_|_|_|_|_|_|_|_|_|_|_|_|_|_|_|_|_|_|_|_|_|_|_|j <;> first|rfl|omega)
 refine Wo (fun f t => ∃ k:Nat,k<=n/\f 0=au (n:Int)/\f 4=(pt a)/\f 5=au (k:Int)/\aS t b 1 (fun _ => .slice none 0 0) 123/\aS t a 27 (mF (jW k b)) 71/\Below w.heap.size w t) (fun f _=>(n-(intOf (f 5)).toNat)) ⟨0,by omega,Fx.ic,(by rfl),Fx.ic,I,J,B⟩ ?_;rintro R Z ⟨k,U,h1,o,g,r,s,l⟩;refine Ws<|ay<|aX g<|aX h1 ?_;by_cases v:(k:Int)<(n:Int)
 ·refine Lv aH (gV v)<|aD<|aO<|Wk<|sN<|Ws<|Wb<|Wl<|aX o<|aX g<|av (pt a)<|av (pt a)<|av (pt a)<|Lv (pf a k) (jE 6 1)<|jm s k aH fun Q K A z3 => ?_;have L:=r.cZ A (by omega);have C:=A.below l l.size (by omega);refine Ln<|bQ<|sN<|Wl<|aX g<|Lv (au ((k:Int)+1)) eY<|av (au ((k:Int)+1))<|Ln ?_;have M:aS Q a 27 (mF (jW (k+1) b)) 71:=K.to (PD k b (by omega))
  skip
  refine gT ⟨k+1,by omega,(h1.trans Fx.ic),o,Fx.ic,L,M,C⟩ ?_;show(n-(intOf (au ((k:Int)+1))).toNat)<_;simp only[g,intOf]; omega
 refine Lv aG (gW v)<|aD<|aL<|Wx<|cu<|gJ<|cB<|sN<|ay<|aX o<|av (pt a)<|av (au 0)<|aD<|Wr<|aK (.tuple #[(pt a),au 0]) ?_;have E:k=n:=by omega
 subst E;exact⟨_,_,rfl,H,{ c:=s.aI,an:=fun d=>L_ d (Nat.lt_irrefl 0),ag:=fun d=>L_ d (Nat.lt_irrefl 0),tc:=r.aI,at2:=fun d=>L_ d (Nat.lt_irrefl 0),ar:=fun i F d=>L_ d (Nat.lt_irrefl 0),bn:=J_ _,bg:=J_ _,bt:=J_ _,br:=fun i F=>J_ _ },l,s,r,G⟩
end Go.Proofs.YtahbiajdgealnaaGreatDoor
