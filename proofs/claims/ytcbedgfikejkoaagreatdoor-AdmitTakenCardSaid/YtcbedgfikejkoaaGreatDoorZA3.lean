/-
  What the proof of the law rests on, part 3: walks of functions, and plain laws; each says its conditions itself.
-/
import Derived.Test.YtcbedgfikejkoaaGreatDoorRows
import Derived.BigRegion
import Derived.Deep.DeepCutAuto
import Derived.Test.YtcbedgfikejkoaaGreatDoorZA2
set_option maxRecDepth 20000
set_option linter.unusedVariables false
namespace Go.Proofs.YtcbedgfikejkoaaGreatDoor
theorem wT0{P:Program}{ops:Array Oper}{Q:Exit->Act->World->Prop}{md:Region.Mode}{S:World->Prop}(i:Nat){oi:Oper}(v:Value){fuel:Nat}{l:Array Bool}{a:Act}{w:World}(hi:ops[i]? = some oi)(hv : ∀ w,S w->(execOp a.eval oi).run P w = .ok (.value v) w)(hS:S w)(h:wpAnyH P md ops Q S fuel (l.setIfInBounds i true) (a.put oi.dst v) w)(hy:Region.wanted oi (yielded ops a.tmps)=true:=by rfl)(hs:Region.noSelect ops=true:=by kernel_rfl)(hf:Region.free md ops l i=true:=by kernel_rfl)(hr:(Region.ready md ops l).contains i=true:=by kernel_rfl)(hQ : ∀ c a w,Q (.panic c) (a.put oi.dst v) w->Q (.panic c) a w:=by exact fun _ _ _ h=>h):wpAnyH P md ops Q S (fuel+1) l a w:=wpAnyH_take hi hs hf hr hQ (.inl ⟨hy,hv⟩) hS h
end Go.Proofs.YtcbedgfikejkoaaGreatDoor
set_option maxHeartbeats 1600000
set_option linter.unusedSimpArgs false
namespace Go.Proofs.YtcbedgfikejkoaaGreatDoor
open Go.RowKit Rt
open Fx (dw Lv sN Ln Ws Qv Wl Wr Wk sR Wb Wx Wo DI Qn wX C8 rv iO iC wY jP bL bR bZ cu gL ig pO)
section
open Rt
theorem abK{c f:Int}(a b:Nat)(i:c=(a:Int))(j:f=(b:Int))(B g n cap:Nat)(d:Array Int)(w:World)(h:Fx.Own w B 23 1 (bO g n cap) n (rv .u64 (gA d)))(k:B<=w.heap.size)(m:d.size=n)(o:n<=1000)(ha:a<=b)(l:b<=n) :
 Calls Tryz.prog 176 #[bO g n cap,au c,au f] w fun e w'=>e = .returned (.tuple #[])/\Fx.Own w' B 23 1 (bO g n cap) n (rv .u64 (gA (Sort.insertionSort Sort.ltInt d a b)))/\Below B w w':=by
 subst i j; exact afQ a b B g n cap d w h k m o ha l
theorem XF{c f:Int}(a b:Nat)(i:c=(a:Int))(j:f=(b:Int))(B g n cap:Nat)(d:Array Int)(w:World)(h:Fx.Own w B 23 1 (bO g n cap) n (rv .u64 (gA d)))(k:B<=w.heap.size)(m:d.size=n)(o:n<=1000)(ha:a<b)(l:b<=n) :
 Calls Tryz.prog 177 #[bO g n cap,au c,au f] w fun e w'=>e = .returned (.tuple #[])/\Fx.Own w' B 23 1 (bO g n cap) n (rv .u64 (gA (Sort.heapSort Sort.ltInt d a b)))/\Below B w w':=by
 subst i j; exact abx a b B g n cap d w h k m o ha l
theorem abL{c f:Int}(a b:Nat)(i:c=(a:Int))(j:f=(b:Int))(B g n cap:Nat)(d:Array Int)(w:World)(h:Fx.Own w B 23 1 (bO g n cap) n (rv .u64 (gA d)))(k:B<=w.heap.size)(m:d.size=n)(o:n<=1000)(ha:a<b)(l:b<=n) :
 Calls Tryz.prog 180 #[bO g n cap,au c,au f] w fun e w'=>e = .returned (.tuple #[])/\Fx.Own w' B 23 1 (bO g n cap) n (rv .u64 (gA (Sort.reverseRange d a b)))/\Below B w w':=by
 subst i j; exact afS a b B g n cap d w h k m o ha l
def aad(m:Nat):Prop := ∀(i j k:Int) (a b l:Nat) (B g n f:Nat) (d:Array Int) (w:World) (h:Fx.Own w B 23 1 (bO g n f) n (rv .u64 (gA d))) (hB:B<=w.heap.size) (hn:d.size=n) (hs:n<=1000) (h50:n<50) (hl:l<=1000) (hab:a<=b) (hb:b<=n) (hBel:Sort.Below Sort.ltInt a b d),i=(a:Int)->j=(b:Int)->k=(l:Int)->b-a<m ->
    Calls Tryz.prog 163 #[bO g n f,au i,au j,au k] w fun e w' => ∃ c:Array Int,e = .returned (.tuple #[])/\c.size=n/\Sort.PermIn a b d c/\Sort.SortedIn Sort.ltInt a b c/\Fx.Own w' B 23 1 (bO g n f) n (rv .u64 (gA c))/\Below B w w'
theorem abM(m:Nat)(ih:aad m)(a b lim:Nat)(B g n cap:Nat)(d:Array Int)(w:World)(h:Fx.Own w B 23 1 (bO g n cap) n (rv .u64 (gA d)))(r:B<=w.heap.size)(hn:d.size=n)(x:n<=1000)(V:n<50)(hl:lim<=1000)(hab:a<=b)(hb:b<=n)(hBel:Sort.Below Sort.ltInt a b d)(hm:b-a<m+1) :
 Calls Tryz.prog 163 #[bO g n cap,au (a:Int),au (b:Int),au (lim:Int)] w fun e w' => ∃ d2:Array Int,e = .returned (.tuple #[])/\d2.size=n/\Sort.PermIn a b d d2/\Sort.SortedIn Sort.ltInt a b d2/\Fx.Own w' B 23 1 (bO g n cap) n (rv .u64 (gA d2))/\Below B w w':=by
 refine Kent Tryz.func163 134 ?_;refine ay<|av aG<|aD<|ay<|av aG<|aD<|Wb<|DI (fun kk f A => ∃ c:Nat,∃ i:Nat,∃ N:Nat,∃ v:Array Int,∃ O:Bool,∃ wp:Bool,v.size=n/\Sort.Below Sort.ltInt c i v/\(∀ R,Sort.PermIn c i v R->Sort.SortedIn Sort.ltInt c i R->Sort.PermIn a b d R/\Sort.SortedIn Sort.ltInt a b R)/\(c<=i/\i<=n/\N<=1000/\i-c<=b-a)/\kk=i-c/\f 0=bO g n cap/\f 1=au (c:Int)/\f 2=au (i:Int)/\f 3=au (N:Int)/\f 8 = .bool O/\f 9 = .bool wp/\Fx.Own A B 23 1 (bO g n cap) n (rv .u64 (gA v))/\Below B w A) (b-a) ⟨a,b,lim,d,true,true,hn,hBel,(fun R U J=>⟨U,J⟩),(by omega),rfl,(by rfl),Fx.ic,Fx.ic,Fx.ic,(by rfl),(by rfl),h,(Below.refl B w)⟩ ?_;rintro kk f1 w1 ⟨c,i,N,v,O,wp,hk,hBl,K,auZ,hkk,U,J,h3,h4,h5,h6,m1,S⟩;refine Wb<|ay<|bf h3<|bf J<|Lv (au ((i:Int)-(c:Int))) gD<|av (au ((i:Int)-(c:Int)))<|aD<|Ws<|ay<|av (au ((i:Int)-(c:Int))) ?_;by_cases c23:((i:Int)-(c:Int))<=12
 ·refine Lv aG (mZ c23)<|aD<|aO<|ay<|bf U<|bf J<|bf h3<|dJ (abK c i (by omega) (by omega) B g n cap v _ m1 (m_ r S.size) hk x (by omega) (by omega)) (ax := #[bO g n cap,au (c:Int),au (i:Int)]) _ rfl ?_;rintro w2 ⟨m2,hb1⟩;have b2:=S.trans hb1;refine aD (Wr (sR (bL (pO (bL (⟨.tuple #[],iO Tryz.results163,?_⟩))))));have Y:=(Sort.insertionSort_holds Sort.swo_ltInt v c i (by omega) (by omega));have M:=K _ Y.1 Y.2;exact⟨_,rfl,Y.1.1.trans hk,M.1,M.2,m2,b2⟩
 refine Lv aF (nP c23)<|aD<|aK<|Wk<|sN<|Ws<|ay<|bf h4 ?_;by_cases c29:(N:Int)=0
 ·refine Lv aG (eO c29)<|aD<|aO<|ay<|bf U<|bf J<|bf h3<|dJ (XF c i (by omega) (by omega) B g n cap v _ m1 (m_ r S.size) hk x (by omega) (by omega)) (ax := #[bO g n cap,au (c:Int),au (i:Int)]) _ rfl ?_;rintro w3 ⟨m3,hb2⟩;have b3:=S.trans hb2;refine aD (Wr (sR (bL (pO (bL (⟨.tuple #[],iO Tryz.results163,?_⟩))))));have Y:=(Sort.heapSort_holds Sort.swo_ltInt v c i (by omega) (by omega));have M:=K _ Y.1 Y.2;exact⟨_,rfl,Y.1.1.trans hk,M.1,M.2,m3,b3⟩
 refine Lv aF (fO c29)<|aD<|aK<|Wk<|sN<|C8 (fun f A => ∃ p:Nat,∃ I:Array Int,I.size=n/\Sort.PermIn c i v I/\p<=1000/\f 0=bO g n cap/\f 1=au (c:Int)/\f 2=au (i:Int)/\f 3=au (p:Int)/\f 8 = .bool O/\f 9 = .bool wp/\f 10=au ((i:Int)-(c:Int))/\Fx.Own A B 23 1 (bO g n cap) n (rv .u64 (gA I))/\Below B w A) ?_ ?_
 ·refine ay ?_;by_cases c34:O=true
  ·refine bf (h5.trans (L_ Value.bool c34))<|av aF<|aD<|aK<|Wk ?_;exact wY ⟨N,v,hk,(Sort.permIn_refl _ _ _),(by omega),U,(J.trans Fx.ic),(h3.trans Fx.ic),(h4.trans Fx.ic),h5,h6,Fx.ic,m1,S⟩
  rw[T_]at c34;refine bf (h5.trans (L_ Value.bool c34))<|av aG<|aD<|aO<|ay<|bf U<|bf J<|bf h3<|mh (afV c i B g n cap v _ m1 (m_ r S.size) hk x (by omega) (by omega) V) ?_;rintro D w4 ⟨dn1,l,hz1,hP1,m4,hb3⟩;have b4:=S.trans hb3;refine⟨_,l,?_⟩;clear l;refine aD<|Wl<|bf h4<|Lv (au ((N:Int)-1)) gD<|av (au ((N:Int)-1))<|Ln ?_;exact wY ⟨N-1,dn1,hz1,hP1,(by omega),U,(J.trans Fx.ic),(h3.trans Fx.ic),Fx.ic,h5,h6,Fx.ic,m4,b4⟩
 rintro f2 w5 ⟨p,I,hk1,hP1,hl2,h7,h8,h9,h10,h11,h12,SI,m5,b5⟩;refine ay<|bf h7<|bf h8<|bf h9<|mh (afX c i B g n cap I _ m5 (m_ r b5.size) hk1 x (by omega) (by omega) V) ?_;rintro D w6 ⟨H,ht1,l,hu1,G,m6,hb4⟩;have b6:=b5.trans hb4;refine⟨_,l,?_⟩;clear l;refine av (.tuple #[au (H:Int),au ht1])<|av (au H)<|av (au ht1)<|av (au H)<|av (au ht1)<|aD<|C8 (fun f A => ∃ q:Nat,∃ hint:Int,∃ o:Array Int,o.size=n/\Sort.PermIn c i v o/\(c<=q/\q<i)/\f 0=bO g n cap/\f 1=au (c:Int)/\f 2=au (i:Int)/\f 3=au (p:Int)/\f 8 = .bool O/\f 9 = .bool wp/\f 10=au ((i:Int)-(c:Int))/\f 11=au (q:Int)/\f 12=au hint/\Fx.Own A B 23 1 (bO g n cap) n (rv .u64 (gA o))/\Below B w A) ?_ ?_
 ·refine ay<|av (au ht1) ?_;by_cases c50:ht1=2
  ·refine Lv aG (eO c50)<|aD<|aO<|ay<|bf h7<|bf h8<|bf h9<|dJ (abL c i (by omega) (by omega) B g n cap I _ m6 (m_ r b6.size) hk1 x (by omega) (by omega)) (ax := #[bO g n cap,au (c:Int),au (i:Int)]) _ rfl ?_;rintro w7 ⟨m7,hb5⟩;have b7:=b6.trans hb5;refine aD<|ay<|bf h9<|Lv (au ((i:Int)-1)) gD<|av (au H)<|bf h8<|Lv (au ((H:Int)-(c:Int))) gD<|Lv (au ((c:Int)+(i:Int)-(H:Int)-1)) gD<|av (au ((c:Int)+(i:Int)-(H:Int)-1))<|aD<|Wl<|av (au 1)<|Ln ?_;exact wY ⟨c+i-H-1,1,Sort.reverseRange I c i,((Sort.reverseRange_holds _ _ _ (by omega) (by omega)).1.trans hk1),(Sort.permIn_trans _ _ _ _ _ hP1 (Sort.reverseRange_holds _ _ _ (by omega) (by omega))),(by omega),h7,(h8.trans Fx.ic),(h9.trans Fx.ic),(h10.trans Fx.ic),h11,h12,(SI.trans Fx.ic),Fx.ic,Fx.ic,m7,b7⟩
  refine Lv aF (fO c50)<|aD<|aK<|Wk ?_;exact wY ⟨H,ht1,I,hk1,hP1,(by omega),h7,(h8.trans Fx.ic),(h9.trans Fx.ic),(h10.trans Fx.ic),h11,h12,(SI.trans Fx.ic),Fx.ic,Fx.ic,m6,b6⟩
 rintro f3 w8 ⟨q,hint,o,hk2,F,L,XB,h15,h16,XC,h18,h19,h20,h21,h22,m8,b8⟩;obtain⟨hpv1,hpv2⟩:=L;have L:=And.intro hpv1 hpv2;refine C8 (fun f A=>f 0=bO g n cap/\f 1=au (c:Int)/\f 2=au (i:Int)/\f 3=au (p:Int)/\f 8 = .bool O/\f 9 = .bool wp/\f 10=au ((i:Int)-(c:Int))/\f 11=au (q:Int)/\Fx.Own A B 23 1 (bO g n cap) n (rv .u64 (gA o))/\Below B w A) ?_ ?_
 ·refine ay ?_;by_cases c61:O=true
  ·refine bf (h18.trans (L_ Value.bool c61))<|av aG ?_;by_cases c63:wp=true
   ·refine bf (h19.trans (L_ Value.bool c63))<|av aG<|av aG<|bf h22 ?_;by_cases c67:hint=1
    ·refine Lv aG (eO c67)<|av aG<|aD<|aO<|ay<|bf XB<|bf h15<|bf h16<|mh (abD c i B g n cap o _ m8 (m_ r b8.size) hk2 x (by omega) (by omega) V) ?_;rintro D w9 ⟨r1,l,hS1,m9,hb6⟩;have b9:=b8.trans hb6
     rcases r1 with _|_
     ·refine⟨_,l,?_⟩;clear l;refine aD<|aK<|Wk ?_;exact wY ⟨XB,(h15.trans Fx.ic),(h16.trans Fx.ic),(XC.trans Fx.ic),h18,h19,(h20.trans Fx.ic),(h21.trans Fx.ic),m9,b9⟩
     refine⟨_,l,?_⟩;clear l;refine aD (aO (Wr (Fx.jnR (bL (pO (bL (⟨.tuple #[],iO Tryz.results163,?_⟩)))))));have M:=K _ F (hS1 rfl);exact⟨_,rfl,hk2,M.1,M.2,m9,b9⟩
    refine Lv aF (fO c67)<|av aF<|aD<|aK<|Wk ?_;exact wY ⟨XB,(h15.trans Fx.ic),(h16.trans Fx.ic),(XC.trans Fx.ic),h18,h19,(h20.trans Fx.ic),(h21.trans Fx.ic),m8,b8⟩
   rw[T_]at c63;refine bf (h19.trans (L_ Value.bool c63))<|av aF<|av aF<|dB<|dB<|av aF<|aD<|aK<|Wk ?_;exact wY ⟨XB,(h15.trans Fx.ic),(h16.trans Fx.ic),(XC.trans Fx.ic),h18,h19,(h20.trans Fx.ic),(h21.trans Fx.ic),m8,b8⟩
  rw[T_]at c61;refine bf (h18.trans (L_ Value.bool c61))<|av aF<|dB<|av aF<|av aF<|dB<|dB<|av aF<|aD<|aK<|Wk ?_;exact wY ⟨XB,(h15.trans Fx.ic),(h16.trans Fx.ic),(XC.trans Fx.ic),h18,h19,(h20.trans Fx.ic),(h21.trans Fx.ic),m8,b8⟩
 rintro f4 sO ⟨s,y,C,E,h27,h28,h29,h30,m10,b10⟩;refine Ws<|Ws ?_;refine nu<|dZ y ?_;by_cases c74:0<(c:Int)
 ·refine Qv aG (fun v1 G=>ng c74)<|aX aG<|dZ s<|dZ y<|Qv (au ((c:Int)-1)) (fun v1 G=>gD)<|Qv (pf g (c-1)) (fun v1 G=>dh 1)<|Qv (aC ((gA o) (c-1))) (fun v1 G=>aM (m10.cb G) (c-1))<|dZ s<|dZ h30<|Qv (pf g q) (fun v1 G=>dh 1)<|Qv (aC ((gA o) q)) (fun v1 G=>aM (m10.cb G) q) ?_;by_cases c85:(decide ((gA o) (c-1)<(gA o) q))=true
  ·refine qo (fun _ _=>dQ ((gA o) (c-1)) ((gA o) q) _) aG (by rw[c85])<|aX aF<|aX aF<|Qn ?_;intro Xz tK;have m11:=bE tK m10;have b11:=eZ tK b10 r;refine sN<|aK<|Wk<|sN<|ay<|bf s<|bf y<|bf C<|bf h30<|mh (afY c i q B g n cap o _ m11 (m_ r b11.size) hk2 x (by omega) (by omega) (by omega)) ?_;rintro D Gi ⟨j,P,dn2,l,hu2,hv2,hz2,m12,hb7⟩;have b12:=b11.trans hb7;have hx:Sort.partition Sort.ltInt o c i q=(j,(Sort.partition Sort.ltInt o c i q).2.1,dn2):=Prod.ext hu2 (Prod.ext rfl hv2);obtain⟨r1,r2,r3,r4,r5,r6,r7⟩:=Sort.round_part Sort.swo_ltInt (Sort.partition_holds _) L.1 L.2 (by omega) (hBl.perm (by omega) F) hx;clear hx;refine⟨_,l,?_⟩;clear l;refine av (.tuple #[au (j:Int),.bool P])<|av (au j)<|av (.bool P)<|av (au j)<|av (.bool P)<|aD<|ay<|av (.bool P)<|av (.bool P)<|aD<|ay<|av (au j)<|bf y<|Lv (au ((j:Int)-(c:Int))) gD<|bf C<|av (au j)<|Lv (au ((i:Int)-(j:Int))) gD<|av (au ((j:Int)-(c:Int)))<|av (au ((i:Int)-(j:Int)))<|aD<|ay<|bf h29<|Lv (au ((i-c) / 8:Nat)) (Fx.CX rfl rfl rfl (by omega) (iC (by omega) (by rw[Int.tdiv_eq_ediv_of_nonneg (by omega)]; omega)))<|av (au ((i-c) / 8:Nat))<|aD<|ay<|av (au ((j:Int)-(c:Int)))<|av (au ((i:Int)-(j:Int))) ?_;by_cases TA:((j:Int)-(c:Int))<((i:Int)-(j:Int))
   ·refine Lv aG (iq TA)<|aD<|aO<|ay<|av (au ((j:Int)-(c:Int)))<|av (au ((i-c) / 8:Nat))<|Lv (.bool (decide (((i-c) / 8:Nat)<=((j:Int)-(c:Int))))) (Fx.EB rfl rfl rfl)<|av (.bool (decide (((i-c) / 8:Nat)<=((j:Int)-(c:Int)))))<|aD<|ay<|bf s<|bf y<|av (au j)<|bf E<|mh (ih _ _ _ c j p B g n cap dn2 _ m12 (m_ r b12.size) hz2 x V (by omega) (by omega) (by omega) r4 (by omega) (by omega) (by omega) (by omega)) (ax := #[bO g n cap,au (c:Int),au (j:Int),au (p:Int)]) ?_;rintro D BR ⟨T,l,Z,W,X,m13,hb8⟩;refine⟨_,l,?_⟩;clear l;have b13:=b12.trans hb8;obtain⟨q1,z⟩:=r6 _ W X;refine aD (Wl (av (au j) (Lv (au ((j:Int)+1)) fC (av (au ((j:Int)+1)) (Ln (bR (ig ⟨i-(j+1),(by omega),j+1,i,p,T,(decide (((i-c) / 8:Nat)<=((j:Int)-(c:Int)))),(P),Z,q1,(fun R t u=>K R (Sort.permIn_trans _ _ _ _ _ F (z R t u).1) (z R t u).2),(by omega),rfl,s,Fx.ic,(C.trans Fx.ic),(E.trans Fx.ic),(by rfl),(by rfl),m13,b13⟩ (by decide))))))))
   refine Lv aF (iw TA)<|aD<|aK<|ay<|av (au ((i:Int)-(j:Int)))<|av (au ((i-c) / 8:Nat))<|Lv (.bool (decide (((i-c) / 8:Nat)<=((i:Int)-(j:Int))))) (Fx.EB rfl rfl rfl)<|av (.bool (decide (((i-c) / 8:Nat)<=((i:Int)-(j:Int)))))<|aD<|ay<|bf s<|av (au j)<|Lv (au ((j:Int)+1)) fC<|bf C<|bf E<|mh (ih _ _ _ (j+1) i p B g n cap dn2 _ m12 (m_ r b12.size) hz2 x V (by omega) (by omega) (by omega) r5 (by omega) (by omega) (by omega) (by omega)) (ax := #[bO g n cap,au ((j:Int)+1),au (i:Int),au (p:Int)]) ?_;rintro D Gt ⟨T,l,Z,W,X,m14,hb9⟩;refine⟨_,l,?_⟩;clear l;have b14:=b12.trans hb9;obtain⟨q1,z⟩:=r7 _ W X;refine aD (Wl (av (au j) (av (au j) (Ln (bR (ig ⟨j-c,(by omega),c,j,p,T,(decide (((i-c) / 8:Nat)<=((i:Int)-(j:Int)))),(P),Z,q1,(fun R t u=>K R (Sort.permIn_trans _ _ _ _ _ F (z R t u).1) (z R t u).2),(by omega),rfl,s,(y.trans Fx.ic),Fx.ic,(E.trans Fx.ic),(by rfl),(by rfl),m14,b14⟩ (by decide)))))))
  rw[T_]at c85;refine qo (fun _ _=>dQ ((gA o) (c-1)) ((gA o) q) _) aF (by rw[c85])<|aX aG<|aX aG<|Qn ?_;intro Z7 xg;have m15:=bE xg m10;have b15:=eZ xg b10 r;refine sN<|aO<|ay<|bf s<|bf y<|bf C<|bf h30<|mh (akX c i q B g n cap o _ m15 (m_ r b15.size) hk2 x (by omega) (by omega) (by omega)) ?_;rintro D Mi ⟨TD,dn3,l,hx1,hz3,m16,XG⟩;have b16:=b15.trans XG;obtain⟨r1,r2,r3,r4,r5⟩:=Sort.round_eq Sort.swo_ltInt (Sort.partitionEqual_holds _) (by omega) L.1 L.2 (by omega) (hBl.perm (by omega) F) (wZ (j_ c85)) hx1;refine⟨_,l,?_⟩;clear l;refine av (au TD) (aD (ay (av (au TD) (av (au TD) (aD (Wx (bZ (cu (ig ⟨i-TD,(by omega),TD,i,p,dn3,(O),(wp),hz3,r4,(fun R t u=>K R (Sort.permIn_trans _ _ _ _ _ F (r5 R t u).1) (r5 R t u).2),(by omega),rfl,s,Fx.ic,(C.trans Fx.ic),(E.trans Fx.ic),h27,h28,m16,b16⟩ (by decide))))))))))
 refine Qv aF (fun v1 G=>ni c74)<|aX aF<|aP<|aP<|aP<|aP<|aP<|aP<|aP<|aP<|aP<|aP<|aP<|aX aF<|Qn ?_;intro wb3 xk;have m17:=bE xk m10;have b17:=eZ xk b10 r;refine sN<|aK<|Wk<|sN<|ay<|bf s<|bf y<|bf C<|bf h30<|mh (afY c i q B g n cap o _ m17 (m_ r b17.size) hk2 x (by omega) (by omega) (by omega)) ?_;rintro D Mj ⟨k,Q,dn4,l,hu3,hv3,hz4,m18,abO⟩;have b18:=b17.trans abO;have hx:Sort.partition Sort.ltInt o c i q=(k,(Sort.partition Sort.ltInt o c i q).2.1,dn4):=Prod.ext hu3 (Prod.ext rfl hv3);obtain⟨r1,r2,r3,r4,r5,r6,r7⟩:=Sort.round_part Sort.swo_ltInt (Sort.partition_holds _) L.1 L.2 (by omega) (hBl.perm (by omega) F) hx;clear hx;refine⟨_,l,?_⟩;clear l;refine av (.tuple #[au (k:Int),.bool Q])<|av (au k)<|av (.bool Q)<|av (au k)<|av (.bool Q)<|aD<|ay<|av (.bool Q)<|av (.bool Q)<|aD<|ay<|av (au k)<|bf y<|Lv (au ((k:Int)-(c:Int))) gD<|bf C<|av (au k)<|Lv (au ((i:Int)-(k:Int))) gD<|av (au ((k:Int)-(c:Int)))<|av (au ((i:Int)-(k:Int)))<|aD<|ay<|bf h29<|Lv (au ((i-c) / 8:Nat)) (Fx.CX rfl rfl rfl (by omega) (iC (by omega) (by rw[Int.tdiv_eq_ediv_of_nonneg (by omega)]; omega)))<|av (au ((i-c) / 8:Nat))<|aD<|ay<|av (au ((k:Int)-(c:Int)))<|av (au ((i:Int)-(k:Int))) ?_;by_cases TA:((k:Int)-(c:Int))<((i:Int)-(k:Int))
 ·refine Lv aG (iq TA)<|aD<|aO<|ay<|av (au ((k:Int)-(c:Int)))<|av (au ((i-c) / 8:Nat))<|Lv (.bool (decide (((i-c) / 8:Nat)<=((k:Int)-(c:Int))))) (Fx.EB rfl rfl rfl)<|av (.bool (decide (((i-c) / 8:Nat)<=((k:Int)-(c:Int)))))<|aD<|ay<|bf s<|bf y<|av (au k)<|bf E<|mh (ih _ _ _ c k p B g n cap dn4 _ m18 (m_ r b18.size) hz4 x V (by omega) (by omega) (by omega) r4 (by omega) (by omega) (by omega) (by omega)) (ax := #[bO g n cap,au (c:Int),au (k:Int),au (p:Int)]) ?_;rintro D w16 ⟨T,l,Z,W,X,m19,abP⟩;refine⟨_,l,?_⟩;clear l;have b19:=b18.trans abP;obtain⟨q1,z⟩:=r6 _ W X;refine aD (Wl (av (au k) (Lv (au ((k:Int)+1)) fC (av (au ((k:Int)+1)) (Ln (bR (ig ⟨i-(k+1),(by omega),k+1,i,p,T,(decide (((i-c) / 8:Nat)<=((k:Int)-(c:Int)))),(Q),Z,q1,(fun R t u=>K R (Sort.permIn_trans _ _ _ _ _ F (z R t u).1) (z R t u).2),(by omega),rfl,s,Fx.ic,(C.trans Fx.ic),(E.trans Fx.ic),(by rfl),(by rfl),m19,b19⟩ (by decide))))))))
 refine Lv aF (iw TA)<|aD<|aK<|ay<|av (au ((i:Int)-(k:Int)))<|av (au ((i-c) / 8:Nat))<|Lv (.bool (decide (((i-c) / 8:Nat)<=((i:Int)-(k:Int))))) (Fx.EB rfl rfl rfl)<|av (.bool (decide (((i-c) / 8:Nat)<=((i:Int)-(k:Int)))))<|aD<|ay<|bf s<|av (au k)<|Lv (au ((k:Int)+1)) fC<|bf C<|bf E<|mh (ih _ _ _ (k+1) i p B g n cap dn4 _ m18 (m_ r b18.size) hz4 x V (by omega) (by omega) (by omega) r5 (by omega) (by omega) (by omega) (by omega)) (ax := #[bO g n cap,au ((k:Int)+1),au (i:Int),au (p:Int)]) ?_;rintro D WZ ⟨T,l,Z,W,X,m20,alp⟩;refine⟨_,l,?_⟩;clear l;have b20:=b18.trans alp;obtain⟨q1,z⟩:=r7 _ W X;refine aD (Wl (av (au k) (av (au k) (Ln (bR (ig ⟨k-c,(by omega),c,k,p,T,(decide (((i-c) / 8:Nat)<=((i:Int)-(k:Int)))),(Q),Z,q1,(fun R t u=>K R (Sort.permIn_trans _ _ _ _ _ F (z R t u).1) (z R t u).2),(by omega),rfl,s,(y.trans Fx.ic),Fx.ic,(E.trans Fx.ic),(by rfl),(by rfl),m20,b20⟩ (by decide)))))))
end
section
open Rt
theorem aaf : ∀ m,aad m
 | 0=>by
   intro v x y a b u B g n c d w h k s t j q o p l e f i r;omega
 | m+1=>by
   intro v x y a b u B g n c d w h k s t j q o p l e f i r;subst e f i;exact abM m (aaf m) a b u B g n c d w h k s t j q o p l r
theorem XH(B g n cap:Nat)(d:Array Int)(w:World)(h:Fx.Own w B 23 1 (bO g n cap) n (rv .u64 (gA d)))(j:B<=w.heap.size)(o:d.size=n)(p:n<=1000)(i:n<50) :
 Calls Tryz.prog 128 #[bO g n cap] w fun e w' => ∃ a:Array Int,e = .returned (.tuple #[])/\a.size=n/\Sort.PermIn 0 n d a/\Sort.SortedIn Sort.ltInt 0 n a/\Fx.Own w' B 23 1 (bO g n cap) n (rv .u64 (gA a))/\Below B w w':=by
 have t:=OA (show n<64 by omega);refine Kent Tryz.func128 11 ?_;refine ay<|av (bO g n cap)<|av (au n)<|av (au n)<|aD<|Wl<|av (bO g n cap)<|av (au n)<|av (au n)<|Lv (aC n) (dw rfl rfl (by kernel_rfl) Tryz.underlying161 (jP (by omega) rfl))<|lU (SH n _ (by omega)) _ rfl<|mh (aaf (n+1) _ _ _ 0 n (Sort.bitsLen n) B g n cap d _ h (m_ j (Below.refl B w).size) o p i (by omega) (by omega) (by omega) (.inl rfl) rfl rfl rfl (by omega)) (ax := #[bO g n cap,au 0,au (n:Int),au (Sort.bitsLen n:Int)]) ?_;rintro s u ⟨f,b,q,k,l,r,m⟩;refine⟨_,b,?_⟩;clear b;have c:=(Below.refl B w).trans m;refine Ln (⟨.tuple #[],iO Tryz.results128,?_⟩);exact⟨f,rfl,q,k,l,r,c⟩
theorem abQ(w:World) :
 Calls Tryz.prog 176 #[.slice none 0 0,au 0,au 0] w fun e w'=>e = .returned (.tuple #[])/\Below w.heap.size w w':=by
 refine Kent Tryz.func176 49 ?_;refine ay<|av (au 0)<|Lv (au 1) fC<|av (au 1)<|aD<|Wb<|Wo (fun f d=>f 1=au 0/\f 2=au 0/\f 6=au 1/\Below w.heap.size w d) (fun f _=>0) ⟨Fx.ic,Fx.ic,Fx.ic,(Below.refl w.heap.size w)⟩ ?_;rintro g i ⟨h,b,c,a⟩;refine Ws (ay (bf c (bf b (Lv aF GR (aD (aK (Wx (bZ (gL (cu (⟨.tuple #[],iO Tryz.results176,?_⟩)))))))))));exact⟨rfl,a⟩
theorem abR(w:World) :
 Calls Tryz.prog 163 #[.slice none 0 0,au 0,au 0,au 0] w fun e w'=>e = .returned (.tuple #[])/\Below w.heap.size w w':=by
 refine Kent Tryz.func163 134 ?_;refine ay<|av aG<|aD<|ay<|av aG<|aD<|Wb<|Wo (fun f i=>f 0 = .slice none 0 0/\f 1=au 0/\f 2=au 0/\Below w.heap.size w i) (fun f _=>0) ⟨(by rfl),Fx.ic,Fx.ic,(Below.refl w.heap.size w)⟩ ?_;rintro j k ⟨g,a,b,c⟩;refine Wb<|ay<|bf b<|bf a<|Lv (au 0) gD<|av (au 0)<|aD<|Ws<|ay<|av (au 0)<|Lv aG afz<|aD<|aO<|ay<|bf g<|bf a<|bf b<|dJ (abQ _) _ rfl ?_;intro l h;have d:=bE h c;refine aD (Wr (sR (bL (pO (bL (⟨.tuple #[],iO Tryz.results163,?_⟩))))));exact⟨rfl,d⟩
theorem abS(w:World):Calls Tryz.prog 87 #[aC 0] w fun e w'=>e = .returned (au 0)/\w'=w:=SH 0 w (by omega)
theorem XI(w:World) :
 Calls Tryz.prog 128 #[.slice none 0 0] w fun e w'=>e = .returned (.tuple #[])/\Below w.heap.size w w':=by
 refine Kent Tryz.func128 11 ?_;refine ay<|av (.slice none 0 0)<|av (au 0)<|av (au 0)<|aD<|Wl<|av (.slice none 0 0)<|av (au 0)<|av (au 0)<|Lv (aC 0) (dw rfl rfl (by kernel_rfl) Tryz.underlying161 (jP (by omega) rfl))<|lU (abS _) _ rfl<|dJ (abR _) _ rfl ?_;intro c b;have a:=bE b (Below.refl w.heap.size w);refine Ln (⟨.tuple #[],iO Tryz.results128,?_⟩);exact⟨rfl,a⟩
theorem abT{w:World}{B n cap:Nat}{a:Option Addr}{d:Array Int}(h:Fx.Own w B 23 1 (.slice a n cap) n (rv .u64 (gA d)))(f:B<=w.heap.size)(k:d.size=n)(p:n<50) :
 Calls Tryz.prog 128 #[.slice a n cap] w fun e w' => ∃ b:Array Int,e = .returned (.tuple #[])/\b.size=n/\Sort.PermIn 0 n d b/\Sort.SortedIn Sort.ltInt 0 n b/\Fx.Own w' B 23 1 (.slice a n cap) n (rv .u64 (gA b))/\Below B w w':=by
 rcases h.2 with ⟨c,l⟩|⟨g,c2,cur,c,_⟩
 ·subst l
  cases c
  exact(XI w).mono fun e w' ⟨m,o⟩=>⟨d,m,k,Sort.permIn_refl _ _ _,fun i j _ q r=>by omega,wX _ _ _ _ _,o.mono f⟩
 simp only[Value.slice.injEq]at c;obtain⟨rfl,_,rfl⟩:=c;exact XH B g n cap d w h f k (by omega) p
end
end Go.Proofs.YtcbedgfikejkoaaGreatDoor
namespace Go.Proofs.YtcbedgfikejkoaaGreatDoor
open Go.RowKit Go
namespace Rt
def dT(x:Nat->Int)(τ:Nat->Nat)(m:Nat):Array Int:=((List.range m).map fun q=>x (τ q)).toArray
section
variable {n m kk:Nat} {x:Nat->Int} {Q:Int->Prop} {S:Nat->Bool} {τ:Nat->Nat}
theorem OC:(dT x τ m).size=m:=by unfold dT; simp
theorem abU{q:Nat}(a:q<m):gA (dT x τ m) q=x (τ q):=by
 unfold gA dT;rw[getElem!_pos _ q (by simpa using a)]; simp
theorem agl : ∀ j,j<m*1->Value.int .u64 (x (τ j))=Fx.rv .u64 (gA (dT x τ m)) j:=fun j a=>by
 show _=Value.int .u64 (gA (dT x τ m) j);rw[abU (by omega)]
theorem abV{d:Array Int} : ∀ j,j<d.size*1->Fx.rv .u64 (gA d) j=xO d.toList j:=fun j a=>by
 show Value.int .u64 d[j]! = Value.int .u64 (d.toList.getD j 0);rw[getElem!_pos d j (by omega),r_,o_ (by simpa using (show j<d.size by omega))];simp
theorem Qc{c:Array Int}(h:Sw n (fun i=>Q (x i)) S m τ kk)(y : ∀ i,i<n->S i=true)(A : ∀ a b,a<n->b<n->x a=x b->a=b)
 (B:Sort.PermIn 0 m (dT x τ m) c) (C:Sort.SortedIn Sort.ltInt 0 m c) (D:c.size=m):c.toList.Pairwise (· < ·) /\ ∀ k,k∈c.toList<->(dS x n k=true/\Q k):=by
 have u:c.toList.Perm ((List.range m).map fun q=>x (τ q)):=by
  have s:=B.2.2;have v:c.extract 0 m=c:=by rw[<- D]; simp
  have w : ∀ d:Array Int,d.size=m->d.extract 0 m=d:=fun d z=>by rw[<- z]; simp
  rw[v,w _ OC]at s;exact s
 have t:c.toList.Nodup:=by
  refine(u.nodup_iff).2 ?_;rw[List.Nodup,List.pairwise_iff_getElem];intro i j f g r;simp only[List.getElem_map,List.getElem_range];simp only[List.length_map,List.length_range]at f g;exact fun e=>M_ (h.inj i j f g (A _ _ (h.lt i f) (h.lt j g) e)) (by omega)
 refine⟨?_,fun k => ?_⟩
 ·rw[List.pairwise_iff_getElem];intro i j f g r;simp only[Array.length_toList]at f g;have o:=j_ (C i j (K_ _) r (by omega));rw[getElem!_pos c i f,getElem!_pos c j g]at o;rw[List.Nodup,List.pairwise_iff_getElem]at t;have p:=t i j (by simpa using f) (by simpa using g) r;simp only[Array.getElem_toList]at p ⊢;omega
 rw[u.mem_iff];simp only[List.mem_map,O_];constructor
 ·rintro ⟨q,l,rfl⟩;exact⟨jN (h.lt q l) rfl,h.yes q l⟩
 rintro ⟨o,p⟩;obtain⟨i,f,rfl⟩:=gU o;obtain⟨q,l,rfl⟩:=h.mem i f (y i f) p;exact⟨q,l,rfl⟩
theorem XJ{z:Nat->Value}{i:Nat} : ∀ j,j<(m+1)*1->Fx.iF (fun q=>aC (x (τ q))) (m*1) (Fx.bK z (0*1) 1 (fun _=>aC (x i))) j=aC (x (Fx.aN τ m i j)):=fun j a=>by
 unfold Fx.iF Fx.bK Fx.aN;by_cases e:j=m
 ·subst e; rw[b_ (by omega),d_ (by omega),d_ rfl]
 ·rw[d_ (by omega),b_ e]
end
end Rt
open Rt
theorem abW{w:World}{B m cap:Nat}{a:Option Addr}{x:Nat->Int}{τ:Nat->Nat}(h:Fx.Own w B 23 1 (.slice a m cap) m (fun q=>aC (x (τ q))))(n:B<=w.heap.size)(p:m<=32) :
 Calls Tryz.prog 128 #[.slice a m cap] w fun e w'=>e = .returned (.tuple #[]) /\ ∃ b:Array Int,b.size=m/\Sort.PermIn 0 m (dT x τ m) b/\Sort.SortedIn Sort.ltInt 0 m b/\Fx.Own w' B 23 1 (.slice a m cap) m (xO b.toList)/\Below B w w' :=
 (abT (d:=dT x τ m) (h.congr agl) n OC (by omega)).mono fun e w' ⟨b,c,f,g,i,k,l⟩=>⟨c,b,f,g,i,k.congr fun j o=>abV j (by omega),l⟩
end Go.Proofs.YtcbedgfikejkoaaGreatDoor
namespace Go.Proofs.YtcbedgfikejkoaaGreatDoor.Fx
open Go.RowKit
section
variable {P:Program} {n0:Nat} {Q:Post} {f:Nat->Value} {w:World} {ops:Array Oper} {rest:List Oper} {o:Oper}
theorem L.lo{T E:TypeId}{x lo:Operand}{a:Option Addr}{B n c s m:Nat}{k:IntKind}{j:Nat}{y:Nat->Value}(u:Region.wanted o (yf ops f)=true)(e:inn n0 o.dst=true)(q:o.op = .slice T x (some lo) none none)(hx:ev f x = .slice a n c)(l:ev f lo = .int k (j:Int))(t:P.underlying T=some (.slice E))(r:(P.info? E).map (·.size)=some s)(H:n=j+m)(C:Own w B E s (.slice a n c) n y)
 (d : ∀ v,mY w v m s (fun p=>y (j*s+p))->L P n0 ops Q rest (put f o.dst (.slice v m (c-j))) w):L P n0 ops Q (o::rest) f w:=by
 by_cases D:n=0
 ·obtain rfl:j=0:=by omega
  obtain rfl:m=0:=by omega
  subst D
  rcases C.2 with ⟨b,_⟩|⟨g,cap,cur,b,_,_,hn,_⟩
  ·simp only[Value.slice.injEq]at b;obtain⟨rfl,_,rfl⟩:=b;obtain⟨i,G,_⟩:=Option.map_eq_some_iff.1 r;refine Lv _ (?_:Runs P f o w (.slice none 0 0)) (d none fun h=>M_ h (Nat.lt_irrefl 0)) u e;unfold Runs execOp;simp only[q,hx,l,Option.map_some,Option.map_none];simp[Instr.sliceAt,Instr.slice,underlying,t,Instr.sliceBounds,Instr.sliceBound,asIntOf,sizeOf,typeInfo,G]
  simp only[Value.slice.injEq]at b;obtain⟨rfl,_,rfl⟩:=b;exact Lv _ (zP (A:=if c=0 then some ⟨g,0,none⟩else some ⟨g,0+0*s,none⟩) (n':=0) (c':=c-0) q hx l t r (A_ _) rfl rfl rfl) (d _ fun h=>M_ h (Nat.lt_irrefl 0)) u e
 obtain⟨g,J,z,K,M,O,F⟩:=C.form (by omega);simp only[Value.slice.injEq]at z;obtain⟨rfl,_,rfl⟩:=z;refine Lv _ (zP (A:=if c=j then some ⟨g,0,none⟩else some ⟨g,0+j*s,none⟩) (n':=m) (c':=c-j) q hx l t r (by omega) rfl (by omega) rfl) (d _ fun N => ?_) u e;rw[b_ (by omega)];refine⟨g,_,rfl,fun p R => ?_⟩;have I:j*s+p<n*s:=by
  have:n*s=j*s+m*s:=by rw[H,Nat.add_mul]
  omega
 have:=F (j*s+p) I;rw[G_]at this;rw[G_]; exact this
theorem Own.agm{B n c s j:Nat}{E:TypeId}{a:Option Addr}{y:Nat->Value}(h:Own w B E s (.slice a n c) n y)(e:j<=n):mY w a j s y:=fun k=>by
 obtain⟨g,i,b,l,m,o,d⟩:=h.form (by omega);simp only[Value.slice.injEq]at b;refine⟨g,0,b.1,fun p f=>d p ?_⟩;exact n_ f (Nat.mul_le_mul_right s e)
theorem Own.weak{B a n s:Nat}{E:TypeId}{v:Value}{y:Nat->Value}(h:Own w B E s v n y)(b:a<=B):Own w a E s v n y:=by
 refine⟨h.1,?_⟩
 rcases h.2 with hn|⟨g,cap,cur,hv,hb,rest⟩
 ·exact .inl hn
 exact .inr ⟨g,cap,cur,hv,m_ b hb,rest⟩
end
end Go.Proofs.YtcbedgfikejkoaaGreatDoor.Fx
namespace Go.Proofs.YtcbedgfikejkoaaGreatDoor
open Go.RowKit Rt
open Fx (Lv sN Ln Ws Wl Wr Wk Wb Wx DI Au yK zk zl wX zi rv aR bK aN Mp bG cells_one unseen bR bZ cu gL ig)
section
open Rt
theorem TF(x p:Nat->Int)(n tp mb:Nat)(w:World)(U:aR w tp 1 (fun _ => .map (some mb)) 165)(R:Mp w mb n x (fun j=>aC (p j)))(h:BF n x p) :
 Calls Tryz.prog 84 #[(pt tp),.func (.func 85) #[] #[]] w fun e w' => ∃ a c l,e = .returned (.slice a (List.length l) c)/\Fx.Own w' w.heap.size 23 1 (.slice a l.length c) l.length (xO l)/\l.Pairwise (· < ·)/\(∀ k,k∈l<->(dS x n k=true/\True))/\l.length<=32/\Below w.heap.size w w':=by
 have hsm:=h.small;refine Kent Tryz.func84 27 ?_;refine ay<|av (.slice none 0 0)<|aD<|Ws<|ay<|av (pt tp)<|Lv aF (Fx.mP rfl rfl rfl (by kernel_rfl))<|aD<|aK<|Wk<|sN<|Ws<|ay<|av (pt tp)<|av (pt tp)<|av (pt tp)<|Lv (.map (some mb)) (aM U.aH 0)<|Fx.L.range (by rfl) rfl rfl rfl R Tryz.underlying108 fun O w1 mo Z s1 z1 => ?_;have⟨m2,m3,b1⟩:=iy s1.old U R (Below.refl w.heap.size w);have sM:=gT mo;have ug:=Z.lt;refine aD<|Wb ?_;have m4:Fx.Own w1 w.heap.size 23 1 (.slice none 0 0) 0 (fun q=>aC (x ((fun _=>0:Nat->Nat) q))):=wX _ _ _ _ _;refine DI (fun kk f g => ∃ m:Nat,∃ τ:Nat->Nat,∃ S:Nat->Bool,∃ a:Option Addr,∃ d:Nat,Sw n (fun i=>(fun k=>True) (x i)) S m τ kk/\f 0=(pt tp)/\f 1 = .func (.func 85) #[] #[]/\f 4 = .slice a (m) (d)/\f 12=(pt O)/\aR g tp 1 (fun _ => .map (some mb)) 165/\Mp g mb n x (fun j=>aC (p j))/\Fx.It g O mb n S/\Fx.Own g w.heap.size 23 1 (.slice a (m) (d)) m (fun q=>aC (x (τ q)))/\Below w.heap.size w g) (unseen (fun _=>false) n) ⟨0,(fun _=>0),(fun _=>false),none,0,(Sw.start n _ _),(by rfl),(by rfl),(by rfl),(by rfl),m2,m3,Z,m4,b1⟩ ?_;rintro kk N w2 ⟨m,τ,S,a,d,r,P,C,D,E,m5,m6,J,m8,o⟩;have hml:=r.le;refine ay<|Fx.L.next (by rfl) rfl rfl E m6 J (fun rZ => ?_)<|fun b w3 G T m9 mc1 s2 z2 => ?_
 ·skip
  refine av aF<|aD<|Ws<|aK<|Wx<|bZ<|gL<|cu<|sN<|ay<|bf D<|dJ (abW m8 o.size (by omega)) _ rfl ?_;rintro w4 ⟨M,Y,hp2,hs2,aa,hb1⟩;have b3:=o.trans hb1;refine aD<|ay<|bf D<|av (.slice a (m) (d))<|aD<|Wr<|aJ (.slice a (m) (d)) ?_;obtain⟨N,f2⟩:=Qc (Q:=fun k=>True) r rZ h.inj hp2 hs2 Y;have X:m<=32:=by omega
  rw[show m=M.toList.length by rw[Array.length_toList]; exact Y.symm]at aa X ⊢;exact⟨a,d,M.toList,rfl,aa,N,f2,X,b3⟩
 skip
 have F:=J.BN s2;have ab:=m5.dX F;have H:=m6.dX F (J.rb.symm);have ac:=m8.dX F;have K:=s2.below o o.size (by omega);refine av aG<|aD<|Ws<|aO<|Wk<|sN<|Wb<|ay<|Lv (.tuple #[aC (x b),aC (p b)]) (Fx.Ow (key:=x) (val:=fun j=>aC (p j)) (i:=b) rfl E H mc1 G)<|av (aC (x b))<|av (aC (x b))<|aD<|ay<|bf C<|av (aC (x b))<|Au (by rfl) (Fx.ED (args := [aC (x b)]) rfl rfl rfl (all := #[aC (x b)]) rfl Tryz.func85 rfl rfl) rfl<|(afN _ _).mono ?_;rintro e v1 ⟨V,hv1⟩;subst v1;refine⟨.bool true,by rw[V],?_⟩;clear V;refine aD<|aO<|Wl<|bf D<|av (aC (x b))<|yK (vs := [(0,aC (x b))]) (s:=1) (zc:=rv .u64 (fun _=>0)) (y:=bK (fun j=>(rv .u64 (fun _=>0)) (j % 1)) (0*1) 1 (fun _=>aC (x b))) (by rfl) rfl rfl Tryz.underlying53 (by kernel_rfl) (by rfl) (by rfl) (by kernel_rfl) (by rw[bG (off:=0*1) (s:=1) (y:=fun _=>aC (x b)) rfl (cells_one (by rfl)) (by rfl)]; rfl) rfl fun g2 w5 z ad s3 z3 => ?_;have⟨m15,m16,I,m19,t⟩:=qU s3.old ab H ac m9 K;have ru:=iQ z K.size;have⟨BS,TG⟩:=wh z ab.lt H.lt;have TH:(.slice a (m) (d):Value).ownBlock≠some g2:=by rw[z]; exact ac.ko (A_ _)
 have zK:=ad.lt;refine zk (B:=w.heap.size) (s:=1) (bytes:=8) (k:=m) (m:=1) (v := .slice a (m) (d)) (x:=fun q=>aC (x (τ q))) (by rfl) rfl rfl rfl Tryz.underlying53 (by kernel_rfl) (by kernel_rfl) rfl rfl I ad.aH (fun j hj=>by unfold bK; split <;> rfl) (by omega) (by omega) (by omega) t.size fun A u w6 ho1 W wB hlt1 => ?_
 have gV:=zl W I;have⟨m21,m22,m24⟩:=DF gV m15 m16 m19;have m20:Fx.Own w6 w.heap.size 23 1 (bO A (m+1) u) (m+1) (fun q=>aC (x (aN τ m b q))):=(ho1.congr XJ);have b6:Below w.heap.size w w6:=zi t W t.size (fun q hq=>(I.ge hq).1);refine av (bO A (m+1) u)<|Ln<|bR ?_
 skip
 refine ig ⟨unseen (aN S b true) n,(by have P:=Fx.oK T n G; have C:=r.kk; omega),m+1,aN τ m b,aN S b true,(some ⟨A,0,none⟩),u,(r.take G T trivial),P,C,(by rfl),E,m21,m22,m24,m20,b6⟩ (by decide)
theorem abX(x p:Nat->Int)(n tp mb:Nat)(w:World)(o:aR w tp 1 (fun _ => .map (some mb)) 165)(m:Mp w mb n x (fun j=>aC (p j)))(h:BF n x p) :
 Calls Tryz.prog 46 #[(pt tp)] w fun e w' => ∃ a c l,e = .returned (.slice a (List.length l) c)/\Fx.Own w' w.heap.size 23 1 (.slice a l.length c) l.length (xO l)/\l.Pairwise (· < ·)/\(∀ k,k∈l<->(dS x n k=true/\True))/\l.length<=32/\Below w.heap.size w w':=by
 refine Kent Tryz.func46 5 ?_;refine ay<|av (.slice none 0 0)<|aD<|ay<|av (pt tp)<|mh (TF x p n tp mb _ o m h) ?_;rintro v y ⟨b,d,f,i,u,r,s,t,q⟩;refine⟨_,i,?_⟩;clear i;have g:=bE q (Below.refl w.heap.size w);refine av (.slice b (f.length) (d))<|aD<|Wr<|aJ (.slice b (f.length) (d)) ?_;exact⟨b,d,f,rfl,u.weak (by have:=g.size; first|exact A_ _|exact(Below.refl w.heap.size w).size),r,s,t,g⟩
end
end Go.Proofs.YtcbedgfikejkoaaGreatDoor
namespace Go.Proofs.YtcbedgfikejkoaaGreatDoor
open Go.RowKit Go Rt
namespace Rt
structure dN where
 n:Nat
 x:Nat->Int
 p:Nat->Int
def dN.zero:dN:=⟨0,fun _=>0,fun _=>0⟩
def dN.has(T:dN)(k:Int):Bool:=dS T.x T.n k
def dN.par(T:dN)(k:Int):Int:=iH T.x T.p T.n k
def dN.path(T:dN)(k:Int):List Int:=jG T.x T.p T.n 4 k
def dN.err(T:dN)(id pa:Int):Int:=qW T.x T.p T.n id pa
def dN.put(T:dN)(id pa:Int):dN:=⟨T.n+1,Fx.aN T.x T.n id,Fx.aN T.p T.n pa⟩
def dN.add(T:dN)(id pa:Int):dN:=if T.err id pa=0 then T.put id pa else T
abbrev dN.ok(T:dN):Prop:=BF T.n T.x T.p
theorem dN.I8{T:dN}(h:T.ok){id pa:Int}(a:0<=id/\id<=18446744073709551615):(T.add id pa).ok:=by
 unfold dN.add;split
 ·rename_i hc; exact BF.put h hc a
 exact h
structure sj(w:World)(B tp mb:Nat)(T:dN):Prop where
 blk:Fx.aR w tp 1 (fun _ => .map (some mb)) 165
 map:Fx.Mp w mb T.n T.x (fun j => .int .u64 (T.p j))
 inv:T.ok
 gt:B<=tp
 gm:B<=mb
section
variable {w w':World} {B tp mb r:Nat} {T:dN} {id pa k:Int}
theorem sj.up(h:sj w B tp mb T)(a:Below w.heap.size w w'):sj w' B tp mb T:=⟨h.blk.cO (Fx.Sb a) (u_ h.blk.lt),h.map.up a,h.inv,h.gt,h.gm⟩
instance:Rt.Tr w w' (sj w B tp mb T) (sj w' B tp mb T):=⟨fun b h=>h.up b⟩
theorem sj.kN{a:List TypeId}(h:sj w B tp mb T)(b:Fx.iP a w w')(h1:a.contains 165=false):sj w' B tp mb T:=⟨h.blk.kN b h1,h.map.kN b trivial,h.inv,h.gt,h.gm⟩
instance {a:List TypeId}:Rt.Tc a w w' (sj w B tp mb T) (sj w' B tp mb T) (!(a.contains 165)):=⟨fun b h e=>h.kN b (by simpa using e)⟩
theorem sj.BN(h:sj w B tp mb T)(a:Fx.Stp mb w w'):Fx.P5 mb w w':=h.map.BN a
theorem sj.dX(h:sj w B tp mb T)(a:Fx.P5 r w w')(b:mb≠r):sj w' B tp mb T:=⟨h.blk.dX a,h.map.dX a b,h.inv,h.gt,h.gm⟩
theorem sj.weak{a:Nat}(h:sj w B tp mb T)(b:a<=B):sj w a tp mb T:=⟨h.blk,h.map,h.inv,m_ b h.gt,m_ b h.gm⟩
theorem sj.lt(h:sj w B tp mb T):mb<w.heap.size:=h.map.lt
end
end Rt
theorem aag(w:World):Calls Tryz.prog 58 #[] w fun e w' => ∃ tp mb,e = .returned (.pointer (some ⟨tp,0,none⟩))/\w.heap.size<=mb/\sj w' w.heap.size tp mb dN.zero/\Below w.heap.size w w' :=
 (afL (fun _=>0) (fun _=>0) w).mono fun e w' ⟨tp,mb,b,c,a,d,f,g⟩=>⟨tp,mb,b,a,⟨d,f,BF.zero _ _,c,a⟩,g⟩
theorem KD{w:World}{B tp mb:Nat}{T:dN}(id pa:Int)(h:sj w B tp mb T)(i:0<=id/\id<=18446744073709551615) :
 Calls Tryz.prog 217 #[.pointer (some ⟨tp,0,none⟩),.int .u64 id,.int .u64 pa] w fun e w'=>e = .returned (.int .i64 (T.err id pa))/\sj w' B tp mb (T.add id pa)/\Fx.Stp mb w w' :=
 (afM T.x T.p T.n tp mb id pa w h.blk h.map h.inv).mono fun e w' ⟨c,k,m,l,b,j,d,f,g⟩=>by
  cases j with
  | no a h0 =>
    have a:T.err id pa=c:=a;subst a;refine⟨b,⟨d,?_,dN.I8 h.inv i,h.gt,h.gm⟩,g⟩;unfold dN.add;rw[b_ h0]; exact f
  | yes a =>
    have a:T.err id pa=0:=a;refine⟨by rw[a]; exact b,⟨d,?_,dN.I8 h.inv i,h.gt,h.gm⟩,g⟩;unfold dN.add;rw[d_ a]; exact f
theorem aah{w:World}{B tp mb:Nat}{T:dN}(k:Int)(h:sj w B tp mb T) :
 Calls Tryz.prog 145 #[.pointer (some ⟨tp,0,none⟩),.int .u64 k] w fun e w'=>e = .returned (.bool (T.has k))/\w'=w:=EN T.x T.p T.n tp mb k w h.blk h.map
def Xb(w:World)(B:Nat)(a:Option Addr)(c:Nat)(l:List Int):Prop:=Fx.Own w B 23 1 (.slice a l.length c) l.length (xO l)
theorem Xb.up{w w':World}{B c:Nat}{a:Option Addr}{l:List Int}(h:Xb w B a c l)(b:Below w.heap.size w w'):Xb w' B a c l:=Fx.Own.up h b
instance {w w':World} {B c:Nat} {a:Option Addr} {l:List Int}:Rt.Tr w w' (Xb w B a c l) (Xb w' B a c l):=⟨fun b h=>h.up b⟩
theorem I9{w:World}{B tp mb:Nat}{T:dN}(k:Int)(h:sj w B tp mb T) :
 Calls Tryz.prog 59 #[.pointer (some ⟨tp,0,none⟩),.int .u64 k] w fun e w' => ∃ a c,e = .returned (.slice a (T.path k).length c)/\Xb w' w.heap.size a c (T.path k)/\Below w.heap.size w w' :=
 MR T.x T.p T.n tp mb 4 k w h.blk h.map h.inv.inj (h.inv.stop k) (h.inv.len k)
theorem TI{w:World}{B tp mb:Nat}{T:dN}(h:sj w B tp mb T) :
 Calls Tryz.prog 46 #[.pointer (some ⟨tp,0,none⟩)] w fun e w' => ∃ a c l,e = .returned (.slice a (List.length l) c)/\Xb w' w.heap.size a c l/\(l.Pairwise (· < ·) /\ ∀ k,k∈l<->T.has k=true)/\l.length<=32/\Below w.heap.size w w' :=
 (abX T.x T.p T.n tp mb w h.blk h.map h.inv).mono fun e w' ⟨a,c,l,b,d,f,g,i⟩=>⟨a,c,l,b,d,⟨f,fun k=>by have:=g k; rw[and_true]at this; exact this⟩,i⟩
namespace Rt
section
variable {T U:dN} {id pa k:Int}
structure uU(U T:dN):Prop where
 has : ∀ k,U.has k=true->T.has k=true
 par : ∀ k,U.has k=true->U.par k=T.par k
theorem uU.same(h:uU U T)(hx : ∀ k,T.has k=true->U.has k=true) : ∀ k,U.path k=T.path k:=fun k=>by
 have e : ∀ k,U.has k=T.has k:=fun k=>by
  cases h1:U.has k with
  | true=>exact(h.has k h1).symm
  | false =>
    cases h2:T.has k with
    | false=>rfl
    | true=>rw[hx k h2]at h1; cases h1
 exact GZ e (fun k a=>h.par k (hx k a)) 4 k
theorem dN.jK(T:dN)(id pa k:Int):(T.put id pa).has k=(T.has k || decide (id=k)):=Rt.jK id k
theorem dN.tH(T:dN)(id pa k:Int):(T.put id pa).par k=if id=k then pa else T.par k:=Rt.tH id pa k
end
end Rt
namespace Fx
theorem abY{P:Program}{f:Nat->Value}{w:World}{o:Oper}{T T':TypeId}{x y:Operand}{a b:Nat}(d:o.op = .binOp .or T x y T')(hx:ev f x = .int .u64 (1099511627776*(a:Int)))(hy:ev f y = .int .u64 (b:Int))(ha:a<=8388607)(g:b<1099511627776):Runs P f o w (.int .u64 (1099511627776*(a:Int)+b)) :=
 tu d hx hy (by
  have e:((BitVec.ofInt 64 (1099511627776*(a:Int)) ||| BitVec.ofInt 64 (b:Int)).toNat:Int)=1099511627776*(a:Int)+b:=by
   rw[BitVec.toNat_or,BitVec.toNat_ofInt,BitVec.toNat_ofInt];rw[show((1099511627776*(a:Int)) % ((2^64:Nat):Int)).toNat=1099511627776*a by omega,show((b:Int) % ((2^64:Nat):Int)).toNat=b by omega];have h:=Nat.shiftLeft_add_eq_or_of_lt (i:=40) (b:=b) (by omega) a;rw[Nat.shiftLeft_eq]at h;rw[show 1099511627776*a=a*2^40 by omega,<- h];omega
  have h:=jP (c:=1099511627776*(a:Int)+b) (by omega) rfl;simp only[binOp,Op.intBits];show(pure (Value.int .u64 (IntKind.u64.wrap ((BitVec.ofInt 64 (1099511627776*(a:Int)) ||| BitVec.ofInt 64 (b:Int)).toNat:Int))):Sem Value).run P w=_;rw[e,h]; rfl)
theorem abZ{w:World}{B c:Nat}{a:Option Addr}{l:List Int}(h:Xb w B a c l):Fx.mY w a l.length 1 (xO l):=Own.agm h (A_ _)
end Fx
end Go.Proofs.YtcbedgfikejkoaaGreatDoor
namespace Go.Proofs.YtcbedgfikejkoaaGreatDoor
open Go.RowKit Rt
open Fx (Lv sN Ln Ws Qv Wl Wr Sb Wk rV sR Wb Wx Wo Qn yK zk Dy wX zi C8 rv aA aR bK Stp aS flat dD aW iN bG mY bI cells_one wY iF bL bR bZ cu gL ig pO)
namespace Rt
structure EvM where
 o:Int
 seq:Int
 deps:Nat->Int
 kind:Int
 node:Int
 dst:Int
 aQ:Int
 req:Int
 of:Int
def bM(v:EvM):Nat->Value:=fun p=>if p=0 then au v.o else if p=1 then aC v.seq else if p<8 then aC (v.deps (p-2))else if p=8 then .int .u8 v.kind else if p=9 then aC v.node else if p=10 then au v.dst else if p=11 then au v.aQ else if p=12 then aC v.req else aC v.of
theorem mJ(v:EvM){p j:Nat}(h:p=j+2)(a:j<6):bM v p=aC (v.deps j):=by
 subst h; unfold bM; rw[b_ (by omega),b_ (by omega),d_ (by omega),show j+2-2=j by omega]
theorem fV(v:EvM) : ∀ j,j<14->(bM v j).oneCell'=true:=fun j _=>by unfold bM; repeat (first|rfl|split)
def jH(i:Int):Bool:=decide (1<=i)&&decide (i<=6)
def kX(v:EvM):EvM :=
 if v.kind=1 then { v with dst:=0,req:=0,of:=0 } else if v.kind=2 then { v with dst:=0,req:=0,of:=0 } else if v.kind=3 then { v with dst:=0,of:=0 }
 else if v.kind=4 then { v with node:=0,dst:=0,aQ:=0 } else if v.kind=5 then { v with req:=0,of:=0 } else if v.kind=6 then { v with node:=0,aQ:=0,req:=0,of:=0 }
 else { v with node:=0,dst:=0,aQ:=0,req:=0,of:=0 }
def someE(v:EvM):Bool:=decide (1<=v.aQ)&&decide (v.aQ<=1125899906842624)
def mD(v:EvM):Bool:=jH v.dst && !decide (v.dst=v.o)
def dM(v:EvM):Bool :=
 if v.kind=1 then decide (0<=v.aQ)&&decide (v.aQ<=1125899906842624)else if v.kind=2 then someE v else if v.kind=3 then someE v&&decide (1<=v.req)
 else if v.kind=4 then decide (1<=v.req)&&decide (1<=v.of) && !decide (v.req=v.of)else if v.kind=5 then someE v&&mD v else if v.kind=6 then mD v else decide (v.kind=7)
end Rt
theorem A9(n:Int)(w:World) :
 Calls Tryz.prog 121 #[au n] w fun e w'=>e = .returned (.bool (jH n))/\w'=w:=by
 refine Kent Tryz.func121 9 ?_;refine ay<|av aF<|aD<|ay<|av (au n) ?_;by_cases a:1<=n
 ·refine Lv aG (kP a)<|av aG<|av (au n) ?_;by_cases b:n<=6
  ·refine Lv aG (mZ b)<|av aG<|av aG<|aD<|Wr<|aJ aG ?_;exact⟨iG (by simp only[jH]; first|(symm; simp; omega)|(symm; simp; done)),rfl⟩
  refine Lv aF (nP b)<|av aF<|av aF<|aD<|Wr<|aJ aF ?_;exact⟨iG (by simp only[jH]; first|(symm; simp; omega)|(symm; simp; done)),rfl⟩
 refine Lv aF (kr a)<|av aF<|dB<|dB<|av aF<|av aF<|aD<|Wr<|aJ aF ?_;exact⟨iG (by simp only[jH]; first|(symm; simp; omega)|(symm; simp; done)),rfl⟩
theorem agn(v:EvM)(w:World) :
 Calls Tryz.prog 122 #[.agg (aA 14 (bM v))] w fun e w'=>e = .returned (.agg (aA 14 (bM (kX v))))/\Below w.heap.size w w':=by
 refine Kent Tryz.func122 60 ?_;refine ay<|pR fun b w1 mo x s1 z1 => ?_;have U:=bE s1.old (Below.refl w.heap.size w);have sM:=gT mo;have ug:=x.lt;refine rR 14 (fun i=>(#[au 0,aC 0,aC 0,aC 0,aC 0,aC 0,aC 0,aC 0,.int .u8 (0),aC 0,au 0,au 0,aC 0,aC 0]:Array Value).getD i undef) fun m w2 AA y s2 z2 => ?_;have⟨s,b2⟩:=fq s2.old x U;have ru:=iQ AA U.size;have KE:=cK AA x.lt;have zK:=y.lt;refine aD<|ay<|av (pt b)<|Lv (au v.o) (aM s.aH 0)<|av (pf b 1)<|Lv (aC v.seq) (aM s.aH 1)<|av (pf b 2)<|Lv (.agg (aA 6 (rv .u64 v.deps))) (fD s.aH 2 (fun j c=>mJ _ (by omega) c))<|av (pf b 8)<|Lv (.int .u8 (v.kind)) (aM s.aH 8)<|av (.agg (aA 14 (bK (bK (bK (bK (fun i=>(#[au 0,aC 0,aC 0,aC 0,aC 0,aC 0,aC 0,aC 0,.int .u8 (0),aC 0,au 0,au 0,aC 0,aC 0]:Array Value).getD i undef) 0 1 (fun _=>au v.o)) 1 1 (fun _=>aC v.seq)) 2 6 (rv .u64 v.deps)) 8 1 (fun _ => .int .u8 (v.kind)))))<|rR 14 (fun i=>(#[au 0,aC 0,aC 0,aC 0,aC 0,aC 0,aC 0,aC 0,.int .u8 (0),aC 0,au 0,au 0,aC 0,aC 0]:Array Value).getD i undef) fun a w3 zZ m4 s3 z3 => ?_;have⟨m5,m6,b3⟩:=iy s3.old s y b2;have C9:=iQ zZ b2.size;have⟨agp,ash⟩:=wh zZ s.lt y.lt;have JR:=m4.lt;refine eP m4 0 (h1:=(fun j c=>by rcases j with _|_|_|_|_|_|_|_|_|_|_|_|_|_|j <;> first|rfl|omega)) fun w4 m7 O z4 => ?_
 have m8:aR w4 a 14 (bK (bK (bK (bK (fun i=>(#[au 0,aC 0,aC 0,aC 0,aC 0,aC 0,aC 0,aC 0,.int .u8 (0),aC 0,au 0,au 0,aC 0,aC 0]:Array Value).getD i undef) 0 1 (fun _=>au v.o)) 1 1 (fun _=>aC v.seq)) 2 6 (rv .u64 v.deps)) 8 1 (fun _ => .int .u8 (v.kind))) 37:=aS m7;have k:aR w4 a 14 (bM ⟨v.o,v.seq,v.deps,v.kind,0,0,0,0,0⟩) 37:=m8.congr (fun j c=>by rcases j with _|_|_|_|_|_|_|_|_|_|_|_|_|_|j <;> first|rfl|omega)
 have f:=m5.cO O (by omega);have n:=m6.cO O (by omega);have d:=O.below b3 b3.size (by omega);refine aD<|Ws<|ay<|av (pf b 8)<|Lv (.int .u8 (v.kind)) (aM f.aH 8)<|aD<|Wb<|Ws<|ay ?_;by_cases g:v.kind=1
 ·refine Lv aG (eO g)<|av aG<|aD<|aO<|Wk<|sN<|aO<|ay<|av (pf b 9)<|Lv (aC v.node) (aM f.aH 9)<|av (pf a 9)<|jg k 9 (aC v.node) fun w5 m12 P z5 => ?_;have m13:aR w5 a 14 (bM ⟨v.o,v.seq,v.deps,v.kind,v.node,0,0,0,0⟩) 37:=m12.congr (fun j c=>by rcases j with _|_|_|_|_|_|_|_|_|_|_|_|_|_|j <;> first|rfl|omega)
  have m14:=f.cO P (by omega);have m15:=n.cO P (by omega);have b5:=P.below d d.size (by omega);refine aD<|Wl<|av (pf b 11)<|Lv (au v.aQ) (aM m14.aH 11)<|av (pf a 11)<|jg m13 11 (au v.aQ) fun w6 m16 Q z6 => ?_;have m17:aR w6 a 14 (bM ⟨v.o,v.seq,v.deps,v.kind,v.node,0,v.aQ,0,0⟩) 37:=m16.congr (fun j c=>by rcases j with _|_|_|_|_|_|_|_|_|_|_|_|_|_|j <;> first|rfl|omega)
  have m18:=m14.cO Q (by omega);have m19:=m15.cO Q (by omega);have b6:=Q.below b5 b5.size (by omega);refine Ln<|bR<|sN<|ay<|Lv (.agg (aA 14 (bM ⟨v.o,v.seq,v.deps,v.kind,v.node,0,v.aQ,0,0⟩))) (fD m17.aH 0)<|eP m19 0 (h1:=(fV _)) fun w7 m20 R z7 => ?_;have m21:aR w7 m 14 (bM ⟨v.o,v.seq,v.deps,v.kind,v.node,0,v.aQ,0,0⟩) 37:=aS m20;have m22:=m18.cO R (by omega);have m23:=m17.cO R (by omega);have b7:=R.below b6 b6.size (by omega);refine aD (Wr (⟨.agg (aA 14 (bM ⟨v.o,v.seq,v.deps,v.kind,v.node,0,v.aQ,0,0⟩)),rV Tryz.results122 ⟨_,rfl,aW m21.aH (by kernel_rfl) (by kernel_rfl)⟩,?_⟩));refine⟨L_ (fun q=>Ending.returned (Value.agg q)) (Fx.dW fun i r => ?_),b7⟩;unfold kX; rw[d_ g]
 refine Lv aF (fO g)<|av aF<|aD<|aK<|Wl ?_;by_cases h:v.kind=2
 ·refine Lv aG (eO h)<|av aG<|aD<|aO<|ay<|av (pf b 9)<|Lv (aC v.node) (aM f.aH 9)<|av (pf a 9)<|jg k 9 (aC v.node) fun w8 m24 S z8 => ?_;have mQ:aR w8 a 14 (bM ⟨v.o,v.seq,v.deps,v.kind,v.node,0,0,0,0⟩) 37:=m24.congr (fun j c=>by rcases j with _|_|_|_|_|_|_|_|_|_|_|_|_|_|j <;> first|rfl|omega)
  have nH:=f.cO S (by omega);have oq:=n.cO S (by omega);have b8:=S.below d d.size (by omega);refine aD<|Wl<|av (pf b 11)<|Lv (au v.aQ) (aM nH.aH 11)<|av (pf a 11)<|jg mQ 11 (au v.aQ) fun w9 oL T z9 => ?_;have oM:aR w9 a 14 (bM ⟨v.o,v.seq,v.deps,v.kind,v.node,0,v.aQ,0,0⟩) 37:=oL.congr (fun j c=>by rcases j with _|_|_|_|_|_|_|_|_|_|_|_|_|_|j <;> first|rfl|omega)
  have oC:=nH.cO T (by omega);have mI:=oq.cO T (by omega);have b9:=T.below b8 b8.size (by omega);refine Ln<|bR<|sN<|ay<|Lv (.agg (aA 14 (bM ⟨v.o,v.seq,v.deps,v.kind,v.node,0,v.aQ,0,0⟩))) (fD oM.aH 0)<|eP mI 0 (h1:=(fV _)) fun sO m32 z z10 => ?_;have qB:aR sO m 14 (bM ⟨v.o,v.seq,v.deps,v.kind,v.node,0,v.aQ,0,0⟩) 37:=aS m32;have nV:=oC.cO z (by omega);have qC:=oM.cO z (by omega);have b10:=z.below b9 b9.size (by omega);refine aD (Wr (⟨.agg (aA 14 (bM ⟨v.o,v.seq,v.deps,v.kind,v.node,0,v.aQ,0,0⟩)),rV Tryz.results122 ⟨_,rfl,aW qB.aH (by kernel_rfl) (by kernel_rfl)⟩,?_⟩));refine⟨L_ (fun q=>Ending.returned (Value.agg q)) (Fx.dW fun i r => ?_),b10⟩;unfold kX; rw[b_ g,d_ h]
 refine Lv aF (fO h)<|av aF<|aD<|aK<|ay ?_;by_cases l:v.kind=3
 ·refine Lv aG (eO l)<|av aG<|aD<|aO<|ay<|av (pf b 9)<|Lv (aC v.node) (aM f.aH 9)<|av (pf a 9)<|jg k 9 (aC v.node) fun Gi oN A z11 => ?_;have sP:aR Gi a 14 (bM ⟨v.o,v.seq,v.deps,v.kind,v.node,0,0,0,0⟩) 37:=oN.congr (fun j c=>by rcases j with _|_|_|_|_|_|_|_|_|_|_|_|_|_|j <;> first|rfl|omega)
  have qX:=f.cO A (by omega);have qY:=n.cO A (by omega);have V:=A.below d d.size (by omega);refine aD<|ay<|av (pf b 11)<|Lv (au v.aQ) (aM qX.aH 11)<|av (pf a 11)<|jg sP 11 (au v.aQ) fun BR uI B z12 => ?_;have nI:aR BR a 14 (bM ⟨v.o,v.seq,v.deps,v.kind,v.node,0,v.aQ,0,0⟩) 37:=uI.congr (fun j c=>by rcases j with _|_|_|_|_|_|_|_|_|_|_|_|_|_|j <;> first|rfl|omega)
  have nJ:=qX.cO B (by omega);have nK:=qY.cO B (by omega);have W:=B.below V V.size (by omega);refine aD<|Wl<|av (pf b 12)<|Lv (aC v.req) (aM nJ.aH 12)<|av (pf a 12)<|jg nI 12 (aC v.req) fun Gt rY C z13 => ?_;have qK:aR Gt a 14 (bM ⟨v.o,v.seq,v.deps,v.kind,v.node,0,v.aQ,v.req,0⟩) 37:=rY.congr (fun j c=>by rcases j with _|_|_|_|_|_|_|_|_|_|_|_|_|_|j <;> first|rfl|omega)
  have oO:=nJ.cO C (by omega);have sQ:=nK.cO C (by omega);have X:=C.below W W.size (by omega);refine Ln<|bR<|sN<|ay<|Lv (.agg (aA 14 (bM ⟨v.o,v.seq,v.deps,v.kind,v.node,0,v.aQ,v.req,0⟩))) (fD qK.aH 0)<|eP sQ 0 (h1:=(fV _)) fun Mi xE D z14 => ?_;have uh:aR Mi m 14 (bM ⟨v.o,v.seq,v.deps,v.kind,v.node,0,v.aQ,v.req,0⟩) 37:=aS xE;have tL:=oO.cO D (by omega);have xq:=qK.cO D (by omega);have b14:=D.below X X.size (by omega);refine aD (Wr (⟨.agg (aA 14 (bM ⟨v.o,v.seq,v.deps,v.kind,v.node,0,v.aQ,v.req,0⟩)),rV Tryz.results122 ⟨_,rfl,aW uh.aH (by kernel_rfl) (by kernel_rfl)⟩,?_⟩));refine⟨L_ (fun q=>Ending.returned (Value.agg q)) (Fx.dW fun i r => ?_),b14⟩;unfold kX; rw[b_ g,b_ h,d_ l]
 refine Lv aF (fO l)<|av aF<|aD<|aK<|ay ?_;by_cases p:v.kind=4
 ·refine Lv aG (eO p)<|av aG<|aD<|aO<|ay<|av (pf b 12)<|Lv (aC v.req) (aM f.aH 12)<|av (pf a 12)<|jg k 12 (aC v.req) fun Mj wC E z15 => ?_;have uJ:aR Mj a 14 (bM ⟨v.o,v.seq,v.deps,v.kind,0,0,0,v.req,0⟩) 37:=wC.congr (fun j c=>by rcases j with _|_|_|_|_|_|_|_|_|_|_|_|_|_|j <;> first|rfl|omega)
  have wD:=f.cO E (by omega);have xY:=n.cO E (by omega);have Y:=E.below d d.size (by omega);refine aD<|Wl<|av (pf b 13)<|Lv (aC v.of) (aM wD.aH 13)<|av (pf a 13)<|jg uJ 13 (aC v.of) fun w16 uK F z16 => ?_;have sU:aR w16 a 14 (bM ⟨v.o,v.seq,v.deps,v.kind,0,0,0,v.req,v.of⟩) 37:=uK.congr (fun j c=>by rcases j with _|_|_|_|_|_|_|_|_|_|_|_|_|_|j <;> first|rfl|omega)
  have tN:=wD.cO F (by omega);have xZ:=xY.cO F (by omega);have Z:=F.below Y Y.size (by omega);refine Ln<|bR<|sN<|ay<|Lv (.agg (aA 14 (bM ⟨v.o,v.seq,v.deps,v.kind,0,0,0,v.req,v.of⟩))) (fD sU.aH 0)<|eP xZ 0 (h1:=(fV _)) fun WZ qZ G z17 => ?_;have vN:aR WZ m 14 (bM ⟨v.o,v.seq,v.deps,v.kind,0,0,0,v.req,v.of⟩) 37:=aS qZ;have oD:=tN.cO G (by omega);have uj:=sU.cO G (by omega);have b17:=G.below Z Z.size (by omega);refine aD (Wr (⟨.agg (aA 14 (bM ⟨v.o,v.seq,v.deps,v.kind,0,0,0,v.req,v.of⟩)),rV Tryz.results122 ⟨_,rfl,aW vN.aH (by kernel_rfl) (by kernel_rfl)⟩,?_⟩));refine⟨L_ (fun q=>Ending.returned (Value.agg q)) (Fx.dW fun i r => ?_),b17⟩;unfold kX; rw[b_ g,b_ h,b_ l,d_ p]
 refine Lv aF (fO p)<|av aF<|aD<|aK<|ay ?_;by_cases t:v.kind=5
 ·refine Lv aG (eO t)<|av aG<|aD<|aO<|ay<|av (pf b 9)<|Lv (aC v.node) (aM f.aH 9)<|av (pf a 9)<|jg k 9 (aC v.node) fun W9 m64 H z18 => ?_;have xG:aR W9 a 14 (bM ⟨v.o,v.seq,v.deps,v.kind,v.node,0,0,0,0⟩) 37:=m64.congr (fun j c=>by rcases j with _|_|_|_|_|_|_|_|_|_|_|_|_|_|j <;> first|rfl|omega)
  have xu:=f.cO H (by omega);have vO:=n.cO H (by omega);have aa:=H.below d d.size (by omega);refine aD<|ay<|av (pf b 11)<|Lv (au v.aQ) (aM xu.aH 11)<|av (pf a 11)<|jg xG 11 (au v.aQ) fun w19 xH I z19 => ?_;have sV:aR w19 a 14 (bM ⟨v.o,v.seq,v.deps,v.kind,v.node,0,v.aQ,0,0⟩) 37:=xH.congr (fun j c=>by rcases j with _|_|_|_|_|_|_|_|_|_|_|_|_|_|j <;> first|rfl|omega)
  have vP:=xu.cO I (by omega);have uT:=vO.cO I (by omega);have ab:=I.below aa aa.size (by omega);refine aD<|Wl<|av (pf b 10)<|Lv (au v.dst) (aM vP.aH 10)<|av (pf a 10)<|jg sV 10 (au v.dst) fun Xa vQ J z20 => ?_;have vR:aR Xa a 14 (bM ⟨v.o,v.seq,v.deps,v.kind,v.node,v.dst,v.aQ,0,0⟩) 37:=vQ.congr (fun j c=>by rcases j with _|_|_|_|_|_|_|_|_|_|_|_|_|_|j <;> first|rfl|omega)
  have zJ:=vP.cO J (by omega);have xw:=uT.cO J (by omega);have b20:=J.below ab ab.size (by omega);refine Ln<|bR<|sN<|ay<|Lv (.agg (aA 14 (bM ⟨v.o,v.seq,v.deps,v.kind,v.node,v.dst,v.aQ,0,0⟩))) (fD vR.aH 0)<|eP xw 0 (h1:=(fV _)) fun w21 zq K z21 => ?_;have zu:aR w21 m 14 (bM ⟨v.o,v.seq,v.deps,v.kind,v.node,v.dst,v.aQ,0,0⟩) 37:=aS zq;have yP:=zJ.cO K (by omega);have xA:=vR.cO K (by omega);have Qb:=K.below b20 b20.size (by omega);refine aD (Wr (⟨.agg (aA 14 (bM ⟨v.o,v.seq,v.deps,v.kind,v.node,v.dst,v.aQ,0,0⟩)),rV Tryz.results122 ⟨_,rfl,aW zu.aH (by kernel_rfl) (by kernel_rfl)⟩,?_⟩));refine⟨L_ (fun q=>Ending.returned (Value.agg q)) (Fx.dW fun i r => ?_),Qb⟩;unfold kX; rw[b_ g,b_ h,b_ l,b_ p,d_ t]
 refine Lv aF (fO t)<|av aF<|aD<|aK<|ay ?_;by_cases u:v.kind=6
 ·refine Lv aG (eO u)<|av aG<|aD<|aO<|Wl<|av (pf b 10)<|Lv (au v.dst) (aM f.aH 10)<|av (pf a 10)<|jg k 10 (au v.dst) fun w22 wE L z22 => ?_;have wF:aR w22 a 14 (bM ⟨v.o,v.seq,v.deps,v.kind,0,v.dst,0,0,0⟩) 37:=wE.congr (fun j c=>by rcases j with _|_|_|_|_|_|_|_|_|_|_|_|_|_|j <;> first|rfl|omega)
  have yc:=f.cO L (by omega);have zW:=n.cO L (by omega);have OB:=L.below d d.size (by omega);refine Ln<|bR<|sN<|ay<|Lv (.agg (aA 14 (bM ⟨v.o,v.seq,v.deps,v.kind,0,v.dst,0,0,0⟩))) (fD wF.aH 0)<|eP zW 0 (h1:=(fV _)) fun w23 yg M z23 => ?_;have AZ:aR w23 m 14 (bM ⟨v.o,v.seq,v.deps,v.kind,0,v.dst,0,0,0⟩) 37:=aS yg;have Ay:=yc.cO M (by omega);have Az:=wF.cO M (by omega);have XD:=M.below OB OB.size (by omega);refine aD (Wr (⟨.agg (aA 14 (bM ⟨v.o,v.seq,v.deps,v.kind,0,v.dst,0,0,0⟩)),rV Tryz.results122 ⟨_,rfl,aW AZ.aH (by kernel_rfl) (by kernel_rfl)⟩,?_⟩));refine⟨L_ (fun q=>Ending.returned (Value.agg q)) (Fx.dW fun i r => ?_),XD⟩;unfold kX; rw[b_ g,b_ h,b_ l,b_ p,b_ t,d_ u]
 refine Lv aF (fO u)<|av aF<|aD<|aK<|Wk<|bR<|sN<|ay<|Lv (.agg (aA 14 (bM ⟨v.o,v.seq,v.deps,v.kind,0,0,0,0,0⟩))) (fD k.aH 0)<|eP n 0 (h1:=(fV _)) fun w24 zX N z24 => ?_;have zY:aR w24 m 14 (bM ⟨v.o,v.seq,v.deps,v.kind,0,0,0,0,0⟩) 37:=aS zX;have A8:=f.cO N (by omega);have ET:=k.cO N (by omega);have XE:=N.below d d.size (by omega);refine aD (Wr (⟨.agg (aA 14 (bM ⟨v.o,v.seq,v.deps,v.kind,0,0,0,0,0⟩)),rV Tryz.results122 ⟨_,rfl,aW zY.aH (by kernel_rfl) (by kernel_rfl)⟩,?_⟩));refine⟨L_ (fun q=>Ending.returned (Value.agg q)) (Fx.dW fun i r => ?_),XE⟩;unfold kX; rw[b_ g,b_ h,b_ l,b_ p,b_ t,b_ u]
set_option linter.unusedSimpArgs false in
set_option maxHeartbeats 2000000 in
theorem KF(v:EvM)(w:World) :
 Calls Tryz.prog 123 #[.agg (aA 14 (bM v))] w fun e w'=>e = .returned (.bool (dM v))/\Below w.heap.size w w':=by
 refine Kent Tryz.func123 75 ?_;refine ay<|pR fun g S M B N V => ?_;have I:=bE N.old (Below.refl w.heap.size w);have Q:=gT M;have R:=B.lt;refine av aF<|aD<|C8 (fun f F=>f 1=(pt g)/\f 3 = .bool (someE v)/\aR F g 14 (bM v) 37/\Below w.heap.size w F) ?_ ?_
 ·refine Wl<|av (pf g 11)<|Lv (au v.aQ) (aM B.aH 11) ?_;by_cases D:1<=v.aQ
  ·refine Lv aG (kP D)<|av aG<|av (pf g 11)<|Lv (au v.aQ) (aM B.aH 11) ?_;by_cases G:v.aQ<=1125899906842624
   ·refine Lv aG (mZ G)<|av aG<|av aG<|Ln ?_;exact wY ⟨(by rfl),(by show Value.bool true=Value.bool (someE v); unfold someE; rw[f_ D,f_ G]; rfl),B,I⟩
   refine Lv aF (nP G)<|av aF<|av aF<|Ln ?_;exact wY ⟨(by rfl),(by show Value.bool false=Value.bool (someE v); unfold someE; rw[f_ D,g_ G]; rfl),B,I⟩
  refine Lv aF (kr D)<|av aF<|dB<|dB<|dB<|av aF<|av aF<|Ln ?_;exact wY ⟨(by rfl),(by show Value.bool false=Value.bool (someE v); unfold someE; rw[g_ D]; rfl),B,I⟩
 rintro O T ⟨A,K,C,J⟩;refine C8 (fun f F=>f 1=(pt g)/\f 3 = .bool (someE v)/\f 4 = .bool (mD v)/\aR F g 14 (bM v) 37/\Below w.heap.size w F) ?_ ?_
 ·refine Wl<|Lv (pf g 10) (jD A 10)<|Lv (au v.dst) (aM C.aH 10) ?_;by_cases t:(jH v.dst)=true
  ·refine lU (A9 v.dst _) aG (by rw[t])<|av aG<|Lv (pf g 10) (jD A 10)<|Lv (au v.dst) (aM C.aH 10)<|Lv (pt g) (jD A 0)<|Lv (au v.o) (aM C.aH 0) ?_;by_cases H:v.dst=v.o
   ·refine Lv aF (jQ H)<|av aF<|av aF<|Ln ?_;exact wY ⟨A,K,(by show Value.bool false=Value.bool (mD v); unfold mD; rw[t,f_ H]; rfl),C,J⟩
   refine Lv aG (nk H)<|av aG<|av aG<|Ln ?_;exact wY ⟨A,K,(by show Value.bool true=Value.bool (mD v); unfold mD; rw[t,g_ H]; rfl),C,J⟩
  rw[T_]at t;refine lU (A9 v.dst _) aF (by rw[t])<|av aF<|dB<|dB<|dB<|dB<|dB<|av aF<|av aF<|Ln ?_;exact wY ⟨A,K,(by show Value.bool false=Value.bool (mD v); unfold mD; rw[t]; rfl),C,J⟩
 rintro P U ⟨m,E,L,n,h⟩;refine Ws<|ay<|Lv (pf g 8) (jD m 8)<|Lv (.int .u8 (v.kind)) (aM n.aH 8)<|aD<|Wb<|ay ?_;by_cases a:v.kind=1
 ·refine Lv aG (eO a)<|av aG<|aD<|aO<|ay<|Lv (pf g 11) (jD m 11)<|Lv (au v.aQ) (aM n.aH 11) ?_;by_cases p:0<=v.aQ
  ·refine Lv aG (kP p)<|av aG<|Lv (pf g 11) (jD m 11)<|Lv (au v.aQ) (aM n.aH 11) ?_;by_cases u:v.aQ<=1125899906842624
   ·refine Lv aG (mZ u)<|av aG<|av aG<|aD<|Wr<|bL<|sR<|aJ aG ?_;exact⟨iG (Eq.symm (by unfold dM; first|(rw[d_ a]; done)|(rw[d_ a]; first|(simp[p,u]; done)|(simp[p,u]; omega)))),h⟩
   refine Lv aF (nP u)<|av aF<|av aF<|aD<|Wr<|bL<|sR<|aJ aF ?_;exact⟨iG (Eq.symm (by unfold dM; first|(rw[d_ a]; done)|(rw[d_ a]; first|(simp[p,u]; done)|(simp[p,u]; omega)))),h⟩
  refine Lv aF (kr p)<|av aF<|dB<|dB<|dB<|av aF<|av aF<|aD<|Wr<|bL<|sR<|aJ aF ?_;exact⟨iG (Eq.symm (by unfold dM; first|(rw[d_ a]; done)|(rw[d_ a]; first|(simp[p]; done)|(simp[p]; omega)))),h⟩
 refine Lv aF (fO a)<|av aF<|aD<|aK<|ay ?_;by_cases b:v.kind=2
 ·refine Lv aG (eO b)<|av aG<|aD<|aO<|ay<|bf E<|av (.bool (someE v))<|aD<|Wr<|bL<|sR<|aJ (.bool (someE v)) ?_;exact⟨iG (Eq.symm (by unfold dM; first|(rw[b_ a,d_ b]; done)|(rw[b_ a,d_ b]; first|(simp[]; done)|(simp[]; omega)))),h⟩
 refine Lv aF (fO b)<|av aF<|aD<|aK<|ay ?_;by_cases c:v.kind=3
 ·refine Lv aG (eO c)<|av aG<|aD<|aO<|ay ?_;by_cases k:(someE v)=true
  ·refine bf (E.trans (L_ Value.bool k))<|av aG<|Lv (pf g 12) (jD m 12)<|Lv (aC v.req) (aM n.aH 12) ?_;by_cases x:1<=v.req
   ·refine Lv aG (kP x)<|av aG<|av aG<|aD<|Wr<|bL<|sR<|aJ aG ?_;exact⟨iG (Eq.symm (by unfold dM; first|(rw[b_ a,b_ b,d_ c]; done)|(rw[b_ a,b_ b,d_ c]; first|(simp[k,x]; done)|(simp[k,x]; omega)))),h⟩
   refine Lv aF (kr x)<|av aF<|av aF<|aD<|Wr<|bL<|sR<|aJ aF ?_;exact⟨iG (Eq.symm (by unfold dM; first|(rw[b_ a,b_ b,d_ c]; done)|(rw[b_ a,b_ b,d_ c]; first|(simp[k,x]; done)|(simp[k,x]; omega)))),h⟩
  rw[T_]at k;refine bf (E.trans (L_ Value.bool k))<|av aF<|dB<|dB<|dB<|av aF<|av aF<|aD<|Wr<|bL<|sR<|aJ aF ?_;exact⟨iG (Eq.symm (by unfold dM; first|(rw[b_ a,b_ b,d_ c]; done)|(rw[b_ a,b_ b,d_ c]; first|(simp[k]; done)|(simp[k]; omega)))),h⟩
 refine Lv aF (fO c)<|av aF<|aD<|aK<|ay ?_;by_cases d:v.kind=4
 ·refine Lv aG (eO d)<|av aG<|aD<|aO<|ay<|Lv (pf g 12) (jD m 12)<|Lv (aC v.req) (aM n.aH 12) ?_;by_cases j:1<=v.req
  ·refine Lv aG (kP j)<|av aG<|Lv (pf g 13) (jD m 13)<|Lv (aC v.of) (aM n.aH 13) ?_;by_cases q:1<=v.of
   ·refine Lv aG (kP q)<|av aG<|av aG<|Lv (pf g 12) (jD m 12)<|Lv (aC v.req) (aM n.aH 12)<|Lv (pf g 13) (jD m 13)<|Lv (aC v.of) (aM n.aH 13) ?_;by_cases y:v.req=v.of
    ·refine Lv aF (jQ y)<|av aF<|av aF<|aD<|Wr<|bL<|sR<|aJ aF ?_;exact⟨iG (Eq.symm (by unfold dM; first|(rw[b_ a,b_ b,b_ c,d_ d]; done)|(rw[b_ a,b_ b,b_ c,d_ d]; first|(simp[j,q,y]; done)|(simp[j,q,y]; omega)))),h⟩
    refine Lv aG (nk y)<|av aG<|av aG<|aD<|Wr<|bL<|sR<|aJ aG ?_;exact⟨iG (Eq.symm (by unfold dM; first|(rw[b_ a,b_ b,b_ c,d_ d]; done)|(rw[b_ a,b_ b,b_ c,d_ d]; first|(simp[j,q,y]; done)|(simp[j,q,y]; omega)))),h⟩
   refine Lv aF (kr q)<|av aF<|av aF<|dB<|dB<|dB<|dB<|dB<|av aF<|av aF<|aD<|Wr<|bL<|sR<|aJ aF ?_;exact⟨iG (Eq.symm (by unfold dM; first|(rw[b_ a,b_ b,b_ c,d_ d]; done)|(rw[b_ a,b_ b,b_ c,d_ d]; first|(simp[j,q]; done)|(simp[j,q]; omega)))),h⟩
  refine Lv aF (kr j)<|av aF<|dB<|dB<|dB<|av aF<|av aF<|dB<|dB<|dB<|dB<|dB<|av aF<|av aF<|aD<|Wr<|bL<|sR<|aJ aF ?_;exact⟨iG (Eq.symm (by unfold dM; first|(rw[b_ a,b_ b,b_ c,d_ d]; done)|(rw[b_ a,b_ b,b_ c,d_ d]; first|(simp[j]; done)|(simp[j]; omega)))),h⟩
 refine Lv aF (fO d)<|av aF<|aD<|aK<|ay ?_;by_cases i:v.kind=5
 ·refine Lv aG (eO i)<|av aG<|aD<|aO<|ay ?_;by_cases l:(someE v)=true
  ·refine bf (E.trans (L_ Value.bool l))<|av aG ?_;by_cases s:(mD v)=true
   ·refine bf (L.trans (L_ Value.bool s))<|av aG<|av aG<|aD<|Wr<|bL<|sR<|aJ aG ?_;exact⟨iG (Eq.symm (by unfold dM; first|(rw[b_ a,b_ b,b_ c,b_ d,d_ i]; done)|(rw[b_ a,b_ b,b_ c,b_ d,d_ i]; first|(simp[l,s]; done)|(simp[l,s]; omega)))),h⟩
   rw[T_]at s;refine bf (L.trans (L_ Value.bool s))<|av aF<|av aF<|aD<|Wr<|bL<|sR<|aJ aF ?_;exact⟨iG (Eq.symm (by unfold dM; first|(rw[b_ a,b_ b,b_ c,b_ d,d_ i]; done)|(rw[b_ a,b_ b,b_ c,b_ d,d_ i]; first|(simp[l,s]; done)|(simp[l,s]; omega)))),h⟩
  rw[T_]at l;refine bf (E.trans (L_ Value.bool l))<|av aF<|dB<|av aF<|av aF<|aD<|Wr<|bL<|sR<|aJ aF ?_;exact⟨iG (Eq.symm (by unfold dM; first|(rw[b_ a,b_ b,b_ c,b_ d,d_ i]; done)|(rw[b_ a,b_ b,b_ c,b_ d,d_ i]; first|(simp[l]; done)|(simp[l]; omega)))),h⟩
 refine Lv aF (fO i)<|av aF<|aD<|aK<|ay ?_;by_cases r:v.kind=6
 ·refine Lv aG (eO r)<|av aG<|aD<|aO<|ay<|bf L<|av (.bool (mD v))<|aD<|Wr<|bL<|sR<|aJ (.bool (mD v)) ?_;exact⟨iG (Eq.symm (by unfold dM; first|(rw[b_ a,b_ b,b_ c,b_ d,b_ i,d_ r]; done)|(rw[b_ a,b_ b,b_ c,b_ d,b_ i,d_ r]; first|(simp[]; done)|(simp[]; omega)))),h⟩
 refine Lv aF (fO r)<|av aF<|aD<|aK<|Wk<|bR<|sN<|ay<|Lv (pf g 8) (jD m 8)<|Lv (.int .u8 (v.kind)) (aM n.aH 8) ?_;by_cases z:v.kind=7
 ·refine Lv aG (eO z)<|av aG<|aD<|Wr<|aJ aG ?_;exact⟨iG (Eq.symm (by unfold dM; first|(rw[b_ a,b_ b,b_ c,b_ d,b_ i,b_ r]; done)|(rw[b_ a,b_ b,b_ c,b_ d,b_ i,b_ r]; first|(simp[z]; done)|(simp[z]; omega)))),h⟩
 refine Lv aF (fO z)<|av aF<|aD<|Wr<|aJ aF ?_;exact⟨iG (Eq.symm (by unfold dM; first|(rw[b_ a,b_ b,b_ c,b_ d,b_ i,b_ r]; done)|(rw[b_ a,b_ b,b_ c,b_ d,b_ i,b_ r]; first|(simp[z]; done)|(simp[z]; omega)))),h⟩
namespace Rt
def iA(n:Int):Prop:=0<=n/\n<=18446744073709551615
def pV(n:Int):Prop := -9223372036854775808<=n/\n<=9223372036854775807
structure gu(v:EvM):Prop where
 o:pV v.o
 seq:iA v.seq
 deps : ∀ i,i<6->iA (v.deps i)
 kind:0<=v.kind/\v.kind<=255
 node:iA v.node
 dst:pV v.dst
 aQ:pV v.aQ
 req:iA v.req
 of:iA v.of
theorem gu.own{v:EvM}(h:gu v):gu (kX v):=by
 have z:iA 0:=⟨by decide,by decide⟩;have y:pV 0:=⟨by decide,by decide⟩;unfold kX;split
 ·exact⟨h.o,h.seq,h.deps,h.kind,h.node,y,h.aQ,z,z⟩
 split
 ·exact⟨h.o,h.seq,h.deps,h.kind,h.node,y,h.aQ,z,z⟩
 split
 ·exact⟨h.o,h.seq,h.deps,h.kind,h.node,y,h.aQ,h.req,z⟩
 split
 ·exact⟨h.o,h.seq,h.deps,h.kind,z,y,y,h.req,h.of⟩
 split
 ·exact⟨h.o,h.seq,h.deps,h.kind,h.node,h.dst,h.aQ,z,z⟩
 split
 ·exact⟨h.o,h.seq,h.deps,h.kind,z,h.dst,y,z,z⟩
 exact⟨h.o,h.seq,h.deps,h.kind,z,y,y,z,z⟩
theorem tO{v:EvM}(h:gu v):Fx.Kd [(some .i64),(some .u64),(some .u64),(some .u64),(some .u64),(some .u64),(some .u64),(some .u64),(some .u8),(some .u64),(some .i64),(some .i64),(some .u64),(some .u64)] (bM v):=by
 have a : ∀(k:IntKind) (n:Int),(Lit.int k n).wf=true -> ∃ l,oz (some k) (.int k n)=some l:=fun k n d=>by
  obtain⟨l,c⟩:=Fx.J6 (k:=k) (n:=1) (x:=fun _=>n) (fun _ _=>d) 0 (by simp);exact⟨l,c⟩
 intro i b;have e:i<14:=b
 rcases i with _|_|_|_|_|_|_|_|_|_|_|_|_|_|i
 ·exact a .i64 v.o (Fx.RQ h.o)
 ·exact a .u64 v.seq (Fx.tC h.seq)
 ·exact a .u64 (v.deps 0) (Fx.tC (h.deps 0 (by decide)))
 ·exact a .u64 (v.deps 1) (Fx.tC (h.deps 1 (by decide)))
 ·exact a .u64 (v.deps 2) (Fx.tC (h.deps 2 (by decide)))
 ·exact a .u64 (v.deps 3) (Fx.tC (h.deps 3 (by decide)))
 ·exact a .u64 (v.deps 4) (Fx.tC (h.deps 4 (by decide)))
 ·exact a .u64 (v.deps 5) (Fx.tC (h.deps 5 (by decide)))
 ·exact a .u8 v.kind (Fx.akC h.kind)
 ·exact a .u64 v.node (Fx.tC h.node)
 ·exact a .i64 v.dst (Fx.RQ h.dst)
 ·exact a .i64 v.aQ (Fx.RQ h.aQ)
 ·exact a .u64 v.req (Fx.tC h.req)
 ·exact a .u64 v.of (Fx.tC h.of)
 omega
def Aa(v:EvM):Bool:=(List.range 6).all fun i=>decide (v.deps i<1099511627776)
def su(v:EvM):Bool:=decide (v.node=(kX v).node)&&decide (v.dst=(kX v).dst)&&decide (v.aQ=(kX v).aQ)&&decide (v.req=(kX v).req)&&decide (v.of=(kX v).of)
def bQ(v:EvM):Bool:=jH v.o&&decide (1<=v.seq)&&decide (v.seq<1099511627776)&&decide (v.deps (v.o-1).toNat=v.seq-1)&&Aa v&&su v&&dM v
theorem TJ(v:EvM):(kX v).o=v.o/\(kX v).seq=v.seq/\(kX v).deps=v.deps/\(kX v).kind=v.kind:=by
 unfold kX; repeat (first|exact⟨rfl,rfl,rfl,rfl⟩|split)
theorem BU(v:EvM):su v=true <-> ∀ i,i<14->bM v i=bM (kX v) i:=by
 obtain⟨m,n,p,q⟩:=TJ v;unfold su;simp only[S_,decide_eq_true_eq];constructor
 ·rintro ⟨⟨⟨⟨a,b⟩,c⟩,d⟩,e⟩ i r;have:kX v=v:=by
   cases hv:kX v with
   | mk o seq deps kind node dst aQ req of =>
     rw[hv]at m n p q a b c d e
     cases v; simp_all
  rw[this]
 intro h;have l:Value.int .u64 v.node=aC (kX v).node:=h 9 (by decide);have f:Value.int .i64 v.dst=au (kX v).dst:=h 10 (by decide);have g:Value.int .i64 v.aQ=au (kX v).aQ:=h 11 (by decide);have j:Value.int .u64 v.req=aC (kX v).req:=h 12 (by decide);have k:Value.int .u64 v.of=aC (kX v).of:=h 13 (by decide);simp only[Value.int.injEq,true_and]at l f g j k;exact⟨⟨⟨⟨l,f⟩,g⟩,j⟩,k⟩
theorem eU{i:Int}(h:jH i=true) : ∃ a:Nat,a<6/\i=(a:Int)+1:=by
 unfold jH at h; simp at h;obtain⟨a,b⟩:=Int.eq_ofNat_of_zero_le (show 0<=i-1 by omega);exact⟨a,by omega,by omega⟩
theorem He{v:EvM}{k:Nat}(a:k<6)(h:1099511627776<=v.deps k):Aa v=false:=by
 unfold Aa; rw[List.all_eq_false]; exact⟨k,O_.2 a,by simp; omega⟩
theorem wG{v:EvM}{k:Nat}(b : ¬ (k:Int)<6)(h : ∀ i,i<k->v.deps i<1099511627776):Aa v=true:=by
 unfold Aa; rw[List.all_eq_true]; intro i a; have:=O_.1 a; simp; exact h i (by omega)
theorem Qd{v:EvM}{k:Nat}(h : ∀ i,i<k->v.deps i<1099511627776)(a:v.deps k<1099511627776) : ∀ i,i<k+1->v.deps i<1099511627776:=fun i b=>by
 by_cases e:i=k
 ·subst e; exact a
 ·exact h i (by omega)
theorem iV{v:EvM}(h:bQ v=true):jH v.o=true:=by
 unfold bQ at h; simp only[S_]at h; exact h.1.1.1.1.1.1
end Rt
set_option maxHeartbeats 2000000 in
theorem Hf(v:EvM)(w:World)(D:gu v) :
 Calls Tryz.prog 78 #[.agg (aA 14 (bM v))] w fun e w'=>e = .returned (.bool (bQ v))/\Below w.heap.size w w':=by
 refine Kent Tryz.func78 47 ?_;refine ay<|pR fun m w1 Q q s1 z1 => ?_;have t:=bE s1.old (Below.refl w.heap.size w);have sM:=gT Q;have ug:=q.lt;refine av aF<|aD<|Ws<|Ws ?_;refine nu<|aX (pt m)<|Qv (au v.o) (fun c b=>aM (q.cb b) 0) ?_;by_cases j:(jH v.o)=true
 ·obtain⟨a,ha,ea⟩:=eU j;refine qo (fun _ _=>A9 v.o _) aG (by rw[j])<|aX aF<|aX aF<|aX (pf m 1)<|Qv (aC v.seq) (fun c b=>aM (q.cb b) 1) ?_;by_cases F:v.seq<1
  ·refine Qv aG (fun c b=>iq F)<|aX aG<|aX aG<|aP<|aP<|aP<|aX aG<|aX aG<|aP<|aP<|aP<|aP<|aP<|aP<|aP<|aP<|aP<|aP<|aX aG<|Qn ?_;intro Xz R;have⟨d,J⟩:=fq R q t;refine sN<|aO<|ay<|av aF<|aD<|Wr<|sR<|aJ aF ?_;have d:decide (1<=v.seq)=false:=g_ (by omega);exact⟨iG (Eq.symm (by unfold bQ; rw[j,d]; rfl)),J⟩
  refine Qv aF (fun c b=>iw F)<|aX aF<|aX aF<|aX (pf m 1)<|Qv (aC v.seq) (fun c b=>aM (q.cb b) 1) ?_;by_cases G:1099511627776<=v.seq
  ·refine Qv aG (fun c b=>kP G)<|aX aG<|aX aG<|aP<|aP<|aP<|aP<|aP<|aP<|aP<|aP<|aP<|aP<|aX aG<|Qn ?_;intro Z7 S;have⟨l,K⟩:=fq S q t;refine sN<|aO<|ay<|av aF<|aD<|Wr<|sR<|aJ aF ?_;have d:decide (1<=v.seq)=true:=f_ (by omega);have l:decide (v.seq<1099511627776)=false:=g_ (by omega);exact⟨iG (Eq.symm (by unfold bQ; rw[j,d,l]; rfl)),K⟩
  refine Qv aF (fun c b=>kr G)<|aX aF<|aX aF<|aX (pt m)<|Qv (au v.o) (fun c b=>aM (q.cb b) 0)<|Qv (au a) (fun c b=>gD)<|aX (pf m 2)<|Qv (pf m (a+2)) (fun c b=>jM 6 1)<|Qv (aC (v.deps a)) (fun c b=>aM (q.cb b) (a+2) (mJ _ (by omega) (by omega)))<|aX (pf m 1)<|Qv (aC v.seq) (fun c b=>aM (q.cb b) 1)<|Qv (aC (v.seq-1)) (fun c b=>gD) ?_;by_cases r:(v.deps a)=(v.seq-1)
  ·refine Qv aF (fun c b=>jQ r)<|aX aF<|Qn ?_;intro wb3 T;have⟨p,L⟩:=fq T q t;refine sN<|aK<|Wk<|sN<|Ws<|ay<|av (au 0)<|aD<|Wb<|Wo (fun f H => ∃ k:Nat,k<=6/\(∀ i,i<k->v.deps i<1099511627776)/\f 1=(pt m)/\f 3=au (k:Int)/\aR H m 14 (bM v) 37/\Below w.heap.size w H) (fun f _=>(6-(intOf (f 3)).toNat)) ⟨0,by omega,(fun i h=>M_ h (by omega)),(by rfl),Fx.ic,p,L⟩ ?_;rintro f1 w2 ⟨k,hk,C,A,B,g,u⟩;refine Ws<|ay<|bf B ?_;by_cases x:(k:Int)<6
   ·refine Lv aG (iq x)<|aD<|aO<|Wk<|sN<|Ws<|Wb<|ay<|bf B<|Lv (pf m 2) (jD A 2)<|Lv (pf m (k+2)) (jM 6 1)<|Lv (aC (v.deps k)) (aM g.aH (k+2) (mJ _ (by omega) (by omega))) ?_;by_cases E:1099511627776<=(v.deps k)
    ·refine Lv aG (kP E)<|aD<|aO<|ay<|av aF<|aD<|Wr<|bL<|sR<|pO<|bL<|sR<|aJ aF ?_;have d:decide (1<=v.seq)=true:=f_ (by omega);have l:decide (v.seq<1099511627776)=true:=f_ (by omega);have p:decide (v.deps (v.o-1).toNat=v.seq-1)=true:=f_ (by rw[show(v.o-1).toNat=a by omega]; exact r);have g:=He (by omega) E;exact⟨iG (Eq.symm (by unfold bQ; rw[j,d,l,p,g]; rfl)),u⟩
    refine Lv aF (kr E)<|aD<|aK<|Wk<|bR<|sN<|Wl<|bf B<|Lv (au ((k:Int)+1)) fC<|av (au ((k:Int)+1))<|Ln<|ig ⟨k+1,by omega,(Qd C (by omega)),A,Fx.ic,g,u⟩ ?_;show(6-(intOf (au ((k:Int)+1))).toNat)<_;simp only[B,intOf]; omega
   refine Lv aF (iw x)<|aD<|aK<|Wx<|bZ<|gL<|cu<|sN<|Ws ?_;refine nu<|Qv (.agg (aA 14 (bM v))) (fun c b=>fD (g.cb b) 0 (ha:=A))<|Qv (.agg (aA 14 (bM v))) (fun c b=>fD (g.cb b) 0 (ha:=A))<|zm (fun _ _=>agn v _) _ rfl ?_;by_cases y : ∀ i,i<14->(bM v) i=(bM (kX v)) i
   ·refine Qv aG (fun c b=>Fx.rQ (n:=14) (ks := [(some .i64),(some .u64),(some .u64),(some .u64),(some .u64),(some .u64),(some .u64),(some .u64),(some .u8),(some .u64),(some .i64),(some .i64),(some .u64),(some .u64)]) (X:=bM v) (Y:=bM (kX v)) 12 true rfl rfl rfl (Fx.Dz y) (tO D) (tO D.own) rfl (by kernel_rfl) (by kernel_rfl) (by kernel_rfl) (by kernel_rfl) (by kernel_rfl))<|aX aG<|Qv (.agg (aA 14 (bM v))) (fun c b=>fD (g.cb b) 0 (ha:=A)) ?_;by_cases z:(dM v)=true
    ·refine zm (fun _ _=>KF v _) aG (by rw[z])<|aX aG<|aX aG<|Qn ?_;intro wb4 U;have⟨s,M⟩:=fq U g u;refine sN<|Wr<|aJ aG ?_;have d:decide (1<=v.seq)=true:=f_ (by omega);have l:decide (v.seq<1099511627776)=true:=f_ (by omega);have p:decide (v.deps (v.o-1).toNat=v.seq-1)=true:=f_ (by rw[show(v.o-1).toNat=a by omega]; exact r);have g:=wG x C;have s:=(BU v).2 y;exact⟨iG (Eq.symm (by unfold bQ; rw[j,d,l,p,g,s,z]; rfl)),M⟩
    rw[T_]at z;refine zm (fun _ _=>KF v _) aF (by rw[z])<|aX aF<|aX aF<|Qn ?_;intro wb5 V;have N:=bE V u;refine sN<|Wr<|aJ aF ?_;have d:decide (1<=v.seq)=true:=f_ (by omega);have l:decide (v.seq<1099511627776)=true:=f_ (by omega);have p:decide (v.deps (v.o-1).toNat=v.seq-1)=true:=f_ (by rw[show(v.o-1).toNat=a by omega]; exact r);have g:=wG x C;have s:=(BU v).2 y;exact⟨iG (Eq.symm (by unfold bQ; rw[j,d,l,p,g,s,z]; rfl)),N⟩
   refine Qv aF (fun c b=>Fx.rQ (n:=14) (ks := [(some .i64),(some .u64),(some .u64),(some .u64),(some .u64),(some .u64),(some .u64),(some .u64),(some .u8),(some .u64),(some .i64),(some .i64),(some .u64),(some .u64)]) (X:=bM v) (Y:=bM (kX v)) 12 false rfl rfl rfl (Fx.nob y) (tO D) (tO D.own) rfl (by kernel_rfl) (by kernel_rfl) (by kernel_rfl) (by kernel_rfl) (by kernel_rfl))<|aX aF<|aP<|aP<|aX aF<|aX aF<|Qn ?_;intro wb6 W;have O:=bE W u;refine sN<|Wr<|aJ aF ?_;have d:decide (1<=v.seq)=true:=f_ (by omega);have l:decide (v.seq<1099511627776)=true:=f_ (by omega);have p:decide (v.deps (v.o-1).toNat=v.seq-1)=true:=f_ (by rw[show(v.o-1).toNat=a by omega]; exact r);have g:=wG x C;have s:su v=false:=Bool.eq_false_iff.2 (fun h=>y ((BU v).1 h));exact⟨iG (Eq.symm (by unfold bQ; rw[j,d,l,p,g,s]; rfl)),O⟩
  refine Qv aG (fun c b=>nk r)<|aX aG<|Qn ?_;intro wb7 Z;have P:=bE Z t;refine sN<|aO<|ay<|av aF<|aD<|Wr<|sR<|aJ aF ?_;have d:decide (1<=v.seq)=true:=f_ (by omega);have l:decide (v.seq<1099511627776)=true:=f_ (by omega);have p:decide (v.deps (v.o-1).toNat=v.seq-1)=false:=g_ (by rw[show(v.o-1).toNat=a by omega]; exact r);exact⟨iG (Eq.symm (by unfold bQ; rw[j,d,l,p]; rfl)),P⟩
 rw[T_]at j;refine qo (fun _ _=>A9 v.o _) aF (by rw[j])<|aX aG<|aX aG<|aP<|aP<|aP<|aX aG<|aX aG<|aP<|aP<|aP<|aX aG<|aX aG<|aP<|aP<|aP<|aP<|aP<|aP<|aP<|aP<|aP<|aP<|aX aG<|Qn ?_;intro wb8 aa;have I:=bE aa t;refine sN<|aO<|ay<|av aF<|aD<|Wr<|sR<|aJ aF ?_;exact⟨iG (Eq.symm (by unfold bQ; rw[j]; rfl)),I⟩
namespace Rt
def jY(K:Nat->Int)(v:EvM):Bool:=bQ v&&decide (v.seq<=K (v.o-1).toNat)
def yh(D K:Nat->Int):Bool:=(List.range 6).all fun i=>decide (D i<=K i)
def dz(K:Nat->Int)(v:EvM):Bool:=bQ v&&decide (v.seq=K (v.o-1).toNat+1)&&yh v.deps K
theorem TK{D K:Nat->Int}{k:Nat}(a:k<6)(h:K k<D k):yh D K=false:=by
 unfold yh; rw[List.all_eq_false]; exact⟨k,O_.2 a,by simp; omega⟩
theorem Qe{D K:Nat->Int}{k:Nat}(b : ¬ (k:Int)<6)(h : ∀ i,i<k->D i<=K i):yh D K=true:=by
 unfold yh; rw[List.all_eq_true]; intro i a; have:=O_.1 a; simp; exact h i (by omega)
theorem le_step{D K:Nat->Int}{k:Nat}(h : ∀ i,i<k->D i<=K i)(b : ¬ K k<D k) : ∀ i,i<k+1->D i<=K i:=fun i a=>by
 by_cases e:i=k
 ·subst e; omega
 ·exact h i (by omega)
def BX(K:Nat->Int):Prop := ∀ i,i<6->0<=K i/\K i<1099511627776
theorem Eb{v:EvM}(h:bQ v=true):1<=v.seq/\v.seq<1099511627776:=by
 unfold bQ at h; simp only[S_,decide_eq_true_eq]at h; exact⟨h.1.1.1.1.1.2,h.1.1.1.1.2⟩
end Rt
theorem TL(K:Nat->Int)(v:EvM)(w:World)(m:gu v) :
 Calls Tryz.prog 79 #[.agg (aA 6 (rv .u64 K)),.agg (aA 14 (bM v))] w fun e w'=>e = .returned (.bool (jY K v))/\Below w.heap.size w w':=by
 refine Kent Tryz.func79 17 ?_;refine ay<|pR fun s I r i z O => ?_;have j:=bE z.old (Below.refl w.heap.size w);have D:=gT r;have G:=i.lt;refine pR fun l J k c A P => ?_;have⟨y,h⟩:=fq A.old i j;have E:=iQ k j.size;have F:=cK k i.lt;have H:=c.lt;refine av aF<|aD<|Ws ?_;refine nu<|Qv (.agg (aA 14 (bM v))) (fun f b=>fD (c.cb b) 0) ?_;by_cases d:(bQ v)=true
 ·obtain⟨a,C,B⟩:=eU (iV d);refine zm (fun _ _=>Hf v _ m) aG (by rw[d])<|aX aG<|aX (pf l 1)<|Qv (aC v.seq) (fun f b=>aM (c.cb b) 1)<|aX (pt l)<|Qv (au v.o) (fun f b=>aM (c.cb b) 0)<|Qv (au a) (fun f b=>gD)<|Qv (pf s a) (fun f b=>jM 6 1)<|Qv (aC (K a)) (fun f b=>aM (y.cb b) a) ?_;by_cases g:v.seq<=(K a)
  ·refine Qv aG (fun f b=>mZ g)<|aX aG<|aX aG<|Qn ?_;intro L t;have n:=bE t h;refine sN<|Wr<|aJ aG ?_;have c:decide (v.seq<=K (v.o-1).toNat)=true:=f_ (by rw[show(v.o-1).toNat=a by omega]; exact g);exact⟨iG (Eq.symm (by unfold jY; rw[d,c]; rfl)),n⟩
  refine Qv aF (fun f b=>nP g)<|aX aF<|aX aF<|Qn ?_;intro M u;have p:=bE u h;refine sN<|Wr<|aJ aF ?_;have c:decide (v.seq<=K (v.o-1).toNat)=false:=g_ (by rw[show(v.o-1).toNat=a by omega]; exact g);exact⟨iG (Eq.symm (by unfold jY; rw[d,c]; rfl)),p⟩
 rw[T_]at d;refine zm (fun _ _=>Hf v _ m) aF (by rw[d])<|aX aF<|aP<|aP<|aP<|aP<|aP<|aP<|aP<|aP<|aX aF<|aX aF<|Qn ?_;intro N x;have q:=bE x h;refine sN<|Wr<|aJ aF ?_;exact⟨iG (Eq.symm (by unfold jY; rw[d]; rfl)),q⟩
theorem OD(K:Nat->Int)(v:EvM)(w:World)(H:gu v)(R:BX K) :
 Calls Tryz.prog 80 #[.agg (aA 6 (rv .u64 K)),.agg (aA 14 (bM v))] w fun e w'=>e = .returned (.bool (dz K v))/\Below w.heap.size w w':=by
 refine Kent Tryz.func80 32 ?_;refine ay<|pR fun s w1 Q A s1 z1 => ?_;have C:=bE s1.old (Below.refl w.heap.size w);have sM:=gT Q;have ug:=A.lt;refine pR fun l w2 D d s2 z2 => ?_;have⟨m,t⟩:=fq s2.old A C;have ru:=iQ D C.size;have KE:=cK D A.lt;have zK:=d.lt;refine av aF<|aD<|Ws<|Ws ?_;refine nu<|Qv (.agg (aA 14 (bM v))) (fun c b=>fD (d.cb b) 0) ?_;by_cases g:(bQ v)=true
 ·obtain⟨a,S,ea⟩:=eU (iV g);have ka:=R a S;refine zm (fun _ _=>Hf v _ H) aG (by rw[g])<|aX aF<|aX aF<|aX (pf l 1)<|Qv (aC v.seq) (fun c b=>aM (d.cb b) 1)<|aX (pt l)<|Qv (au v.o) (fun c b=>aM (d.cb b) 0)<|Qv (au a) (fun c b=>gD)<|Qv (pf s a) (fun c b=>jM 6 1)<|Qv (aC (K a)) (fun c b=>aM (m.cb b) a)<|Qv (aC ((K a)+1)) (fun c b=>fC) ?_;by_cases n:v.seq=((K a)+1)
  ·refine Qv aF (fun c b=>jQ n)<|aX aF<|Qn ?_;intro Xz T;have⟨Y,Z,L⟩:=iy T m d t;refine sN<|aK<|Wk<|sN<|Ws<|ay<|av (au 0)<|aD<|Wb<|Wo (fun f B => ∃ k:Nat,k<=6/\(∀ i,i<k->v.deps i<=K i)/\f 2=(pt s)/\f 3=(pt l)/\f 5=au (k:Int)/\aR B s 6 (rv .u64 K) 35/\aR B l 14 (bM v) 37/\Below w.heap.size w B) (fun f _=>(6-(intOf (f 5)).toNat)) ⟨0,by omega,(fun i h=>M_ h (by omega)),(by rfl),(by rfl),Fx.ic,Y,Z,L⟩ ?_;rintro f1 j ⟨k,hk,G,E,F,p,I,J,u⟩;refine Ws<|ay<|bf p ?_;by_cases x:(k:Int)<6
   ·refine Lv aG (iq x)<|aD<|aO<|Wk<|sN<|Ws<|Wb<|Ws ?_;refine uO<|dZ p<|Qv (pf l 2) (fun c b=>jD F 2)<|Qv (pf l (k+2)) (fun c b=>jM 6 1)<|Qv (aC (v.deps k)) (fun c b=>aM (J.aH.dr b) (k+2) (mJ _ (by omega) (by omega)))<|dZ p<|Qv (pf s k) (fun c b=>jM 6 1 (hx:=E))<|Qv (aC (K k)) (fun c b=>aM (I.aH.dr b) k) ?_;by_cases r:(K k)<(v.deps k)
    ·refine Qv aG (fun c b=>ng r)<|Qn ?_;rintro _ ⟨q,rfl⟩;obtain⟨BZ,y⟩ : ∃ c,c=World.drewN j q:=⟨_,rfl⟩;rw[<- y];have s4:Stp j.heap.size j BZ:=(by rw[y]; exact Sb (je j q));have M:=bE s4.old u;clear y;refine sN<|aO<|ay<|av aF<|aD<|Wr<|bL<|sR<|pO<|bL<|sR<|aJ aF ?_;have d:decide (v.seq=K (v.o-1).toNat+1)=true:=f_ (by rw[show(v.o-1).toNat=a by omega]; exact n);have m:=TK (by omega) r;exact⟨iG (Eq.symm (by unfold dz; rw[g,d,m]; rfl)),M⟩
    refine Qv aF (fun c b=>ni r)<|Qn ?_;rintro _ ⟨q,rfl⟩;obtain⟨wq2,z⟩ : ∃ c,c=World.drewN j q:=⟨_,rfl⟩;rw[<- z];have s5:Stp j.heap.size j wq2:=(by rw[z]; exact Sb (je j q));have⟨W,X,N⟩:=iy s5.old I J u;clear z;refine sN<|aK<|Wk<|bR<|sN<|Wl<|bf p<|Lv (au ((k:Int)+1)) fC<|av (au ((k:Int)+1))<|Ln<|ig ⟨k+1,by omega,(le_step G r),E,F,Fx.ic,W,X,N⟩ ?_;show(6-(intOf (au ((k:Int)+1))).toNat)<_;simp only[p,intOf]; omega
   refine Lv aF (iw x)<|aD<|aK<|Wx<|bZ<|gL<|cu<|sN<|ay<|av aG<|aD<|Wr<|aJ aG ?_;have d:decide (v.seq=K (v.o-1).toNat+1)=true:=f_ (by rw[show(v.o-1).toNat=a by omega]; exact n);have m:=Qe x G;exact⟨iG (Eq.symm (by unfold dz; rw[g,d,m]; rfl)),u⟩
  refine Qv aG (fun c b=>nk n)<|aX aG<|Qn ?_;intro Z7 U;have O:=bE U t;refine sN<|aO<|ay<|av aF<|aD<|Wr<|sR<|aJ aF ?_;have d:decide (v.seq=K (v.o-1).toNat+1)=false:=g_ (by rw[show(v.o-1).toNat=a by omega]; exact n);exact⟨iG (Eq.symm (by unfold dz; rw[g,d]; rfl)),O⟩
 rw[T_]at g;refine zm (fun _ _=>Hf v _ H) aF (by rw[g])<|aX aG<|aX aG<|aP<|aP<|aP<|aP<|aP<|aP<|aP<|aP<|aP<|aX aG<|Qn ?_;intro wb3 V;have P:=bE V t;refine sN<|aO<|ay<|av aF<|aD<|Wr<|sR<|aJ aF ?_;exact⟨iG (Eq.symm (by unfold dz; rw[g]; rfl)),P⟩
set_option maxHeartbeats 400000 in
theorem Ja(a:Option Addr)(len cap:Nat)(l:List Int)(w:World)(hlen:len<=100)(hl:Hid (l.length=len))(hr:RdI .i64 w a l) :
 Calls Tryz.prog 146 #[.slice a len cap] w fun e w'=>e = .returned (.tuple #[.int .i64 (nA l).1,.bool (nA l).2])/\w'=w:=by
 go_enter Tryz.func146,Tryz.ntmps146
 go_wp2
 go_loop [2,3,8] (fun v o i=>o = .bool false /\ ∃ k:Nat,k<=len/\i = .int .i64 k/\mH (l.take k)=true/\v = .int .i64 (l.take k).sum) (fun _ _ i=>len-(intOf i).toNat)
 case atStart=>exact⟨rfl,0,K_ _,rfl,rfl,rfl⟩
 case round =>
  obtain⟨rfl,k,hk,rfl,hok,rfl⟩:=hrel;by_cases hk2:k<len
  ·have hk3:k<l.length:=(by rw[hl.out]; exact hk2);obtain⟨b,off,rfl,hc⟩:=hr k hk3;have hb:=BO _ hok;have hle:(l.take k).length<=k:=List.length_take_le _ _;have HS:Hid _:=Gr l k hk3;have HO:Hid _:=DL l k hk3;have HF:Hid (zU l[k]=false->nA l=(0,false)):=(by intro h; unfold nA; rw[b_ (by rw[Gs hk3 h]; decide)]);have Hok:Hid _:=hok;clear hr hok;generalize l[k]=x at *;generalize hs:(l.take k).sum=s at *;clear hs;by_cases h0:x<0
   ·have hn:zU x=false:=(by unfold zU; simp; omega);have HR:Hid _:=HF.out hn;clear HF hn HS HO
    go_wp2
    go_ret2
    rw[HR.out]; exact⟨rfl,rfl⟩
   ·by_cases h1:1125899906842624<x
    ·have hn:zU x=false:=(by unfold zU; simp; omega);have HR:Hid _:=HF.out hn;clear HF hn HS HO
     go_wp2
     go_ret2
     rw[HR.out]; exact⟨rfl,rfl⟩
    ·have hy:Hid (zU x=true):=(by unfold zU Hid; simp; omega);clear HF
     go_wp2
     go_round
     case rel=>exact⟨rfl,k+1,by omega,by go_num,by rw[HO.out,Hok.out,hy.out]; rfl,by rw[HS.out]⟩
     case measure=>simp[intOf]; omega
  ·have hT:Hid (l.take k=l):=List.take_of_length_le (by rw[hl.out]; omega);rw[hT.out]at hok ⊢;have HR:Hid (nA l=(l.sum,true)):=(by unfold nA Hid; rw[d_ hok]);clear hok;generalize l.sum=s at *
   go_wp2
   go_ret2
   rw[HR.out]; exact⟨rfl,rfl⟩
def Two(a w:World)(d f:Nat)(b:List Int)(e g:Nat)(c:List Int):Prop :=
 w.ownsRow a.heap.size 2 1 (.slice (some ⟨d,0,none⟩) b.length f) b.length (b.map (Value.int .i64)) /\
 w.ownsRow a.heap.size 2 1 (.slice (some ⟨e,0,none⟩) c.length g) c.length (c.map (Value.int .i64))/\d≠e/\Below a.heap.size a w
theorem Two.alloc{g w:World}{c a:Nat}{e:List Int}{d b:Nat}{f:List Int}(h:Two g w c a e d b f)(o:Obj):Two g (w.alloc o) c a e d b f :=
 ⟨World.ownsRow.alloc h.1 o,World.ownsRow.alloc h.2.1 o,h.2.2.1,h.2.2.2.alloc h.2.2.2.size o⟩
theorem Two.drew{g w:World}{c a:Nat}{e:List Int}{d b:Nat}{f:List Int}(h:Two g w c a e d b f):Two g w.drew c a e d b f :=
 ⟨h.1,h.2.1,h.2.2.1,h.2.2.2.drew⟩
theorem Two.swap{g w:World}{c a:Nat}{e:List Int}{d b:Nat}{f:List Int}(h:Two g w c a e d b f):Two g w d b f c a e:=⟨h.2.1,h.1,h.2.2.1.symm,h.2.2.2⟩
theorem XK:(Tryz.prog.info? 2).map (fun i=>(i.zero,i.size,i.bytes))=some (some (.int .i64 0),1,8):=by kernel_rfl
theorem KG{ops:Array Oper}{o:Oper}{a:Act}{q w:World}{K:Act->World->Prop}{Q:Exit->Act->World->Prop}{E:Prop}(C:o.guard=none)(s x:Operand)
 (I:o.op = .call { callee := .builtin .append,args := #[s,x],argTypes := #[178,178] }) (l r:Nat) (d:List Int) (m t:Nat) (y:List Int) (h:Two q w l r d m t y)
 (n:Nat) (G:d.length=n) (J:a.eval s = .slice (some ⟨l,0,none⟩) n r) (i:Nat) (v:Int) (hx:a.eval x = .slice (some ⟨i,0,none⟩) 1 1) (B:w.cell? ⟨i,0,none⟩=some (.int .i64 v)) (R:n<=100)
 (A : ∀ g f w',Two q w' g f (d ++ [v]) m t y->(∀ a u,w.cell? a=some u->a.block≠l->w'.cell? a=some u)->K (a.put o.dst (.slice (some ⟨g,0,none⟩) (n+1) f)) w') :
 if Region.wanted o (yielded ops a.tmps)=true then Oper.wp Tryz.prog o a w K Q else E:=by
 obtain⟨O,D,L,M,N⟩:=info_parts XK;subst G
 refine step_append_lies w C s x 178 I q.heap.size 2 O (.int .i64 0) 1 8 Tryz.underlying178 D L M N rfl (by decide) _ d.length (d.map (Value.int .i64)) J h.1 ⟨i,0,none⟩ 1 1 [.int .i64 v] hx rfl
  (by intro j u b; cases j with
   | zero=>simp at b; subst b; rw[addr_add]; exact B
   | succ j=>simp at b) (by intro u b; simp at b; subst b; rfl) (by decide) (by unfold maxLen; omega) (by omega) h.2.2.2.size w.heap.size rfl ?_
 intro g f w' z p c P;refine A g f w' ⟨?_,?_,?_,?_⟩ (fun a u b H=>p.cell b (by simp[Value.ownBlock]; exact H))
 ·rw[E_,List.map_append]; exact z
 ·exact World.ownsRow.kept h.2.1 p (.inr (by simp[Value.ownBlock]; exact fun e=>h.2.2.1 e.symm))
 ·have S:=World.ownsRow.lt h.2.1 m rfl
  rcases c with c|c
  ·simp[Value.ownBlock]at c; subst c; exact h.2.2.1
  omega
 exact h.2.2.2.grown p h.2.2.2.size (fun k F=>(World.ownsRow.lt h.1 k F).1)
theorem Two.rd1{j w:World}{a c:Nat}{b:List Int}{e d:Nat}{g:List Int}(h:Two j w a c b e d g):RdI .i64 w (some ⟨a,0,none⟩) b:=by
 intro i f;refine⟨a,0,rfl,?_⟩;rw[G_,World.ownsRow.cellAt h.1 i (by omega)];simp[f]
theorem Two.start(w:World)(v a b:Int):Two w ((w.alloc (.cells #[.int .i64 v] 2)).alloc (.cells #[.int .i64 a,.int .i64 b] 2)) w.heap.size 1 [v] (w.heap.size+1) 2 [a,b]:=by
 refine⟨World.ownsRow.alloc (World.ownsRow_lit w #[.int .i64 v] 1 (A_ _) (by unfold maxLen; omega) rfl) _,?_,by omega,((Below.refl _ _).alloc (A_ _) _).alloc (by simp) _⟩;have:=World.ownsRow_lit (base:=w.heap.size) (e:=2) (size:=1) (w.alloc (.cells #[.int .i64 v] 2)) #[.int .i64 a,.int .i64 b] 2 (by simp) (by unfold maxLen; omega) rfl
 simpa using this
theorem Two.acd(w:World)(v a b:Int):Two w ((w.alloc (.cells #[.int .i64 a,.int .i64 b] 2)).alloc (.cells #[.int .i64 v] 2)) (w.heap.size+1) 1 [v] w.heap.size 2 [a,b]:=by
 refine⟨?_,World.ownsRow.alloc (World.ownsRow_lit w #[.int .i64 a,.int .i64 b] 2 (A_ _) (by unfold maxLen; omega) rfl) _,by omega,((Below.refl _ _).alloc (A_ _) _).alloc (by simp) _⟩;have:=World.ownsRow_lit (base:=w.heap.size) (e:=2) (size:=1) (w.alloc (.cells #[.int .i64 a,.int .i64 b] 2)) #[.int .i64 v] 1 (by simp) (by unfold maxLen; omega) rfl
 simpa using this
theorem Two.at{c w:World}{g d:Nat}{k:List Int}{j e:Nat}{l:List Int}(h:Two c w g d k j e l){b:Nat}{x:Nat->Int}{T:TypeId}{f:Nat × Nat}(a:c.heap[b]? = some (.cells (aU .i64 54 x) T f))(i:Nat)(hi:i<54) :
 w.cell? ⟨b,i,none⟩=some (.int .i64 (x i)) :=
 fZ ((h.2.2.2.block b (t_.1 a).1).trans a) i hi
theorem Two.lt{a w:World}{e c:Nat}{i:List Int}{f d:Nat}{j:List Int}(h:Two a w e c i f d j){b:Nat}(g:b<a.heap.size):b<w.heap.size:=n_ g h.2.2.2.size
theorem EU(x:Nat->Int)(k:Nat) : ∀ j,(outs x k j).length=j+1
 | 0=>rfl
 | j+1=>by rw[outs,E_,EU x k j]; rfl
theorem Jb(x:Nat->Int)(k:Nat) : ∀ j,(ins x k j).length=j+2
 | 0=>rfl
 | j+1=>by rw[ins,E_,Jb x k j]; rfl
def agq(w:World)(x:Nat->Int)(k j:Nat)(e f:Value)(g:World):Prop :=
 ∃ c a d b,e = .slice (some ⟨c,0,none⟩) (j+1) a/\f = .slice (some ⟨d,0,none⟩) (j+2) b/\Two w g c a (outs x k j) d b (ins x k j)
set_option maxHeartbeats 4000000 in
theorem Hg(b:Nat)(T:TypeId)(fz:Nat × Nat)(x:Nat->Int)(k:Nat)(w:World)(hk:k<6)(hb:Hid (w.heap[b]? = some (.cells (aU .i64 54 x) T fz))) :
 Calls Tryz.prog 96 #[.pointer (some ⟨b,0,none⟩),.int .i64 k] w fun e w'=>e = .returned (.tuple #[.int .i64 (localM x k).1,.bool (localM x k).2])/\Below w.heap.size w w':=by
 have hlt:b<w.heap.size:=(t_.1 hb.out).1;have hki:(k:Int)<6:=by omega
 go_enter Tryz.func96,Tryz.ntmps96
 go_upto_region 1 with (fail)
 go_cut [6,7] (fun s6 s7 wx=>agq w x k 0 s6 s7 wx)
 case first =>
  have c1:=fZ hb.out (6+k) (by omega);have c2:=fZ hb.out k (by omega);have c3:=fZ hb.out (12+k) (by omega)
  go_wp2
  go_region
  all_goals go_wp2
  all_goals go_meet
  case rel=>exact⟨_,_,_,_,rfl,rfl,(Two.start w (x (6+k)) (x k) (x (12+k))).drew⟩
  case rel=>exact⟨_,_,_,_,rfl,rfl,(Two.acd w (x (6+k)) (x k) (x (12+k))).drew⟩
 case rest =>
  clear hlt
  go_wp2
  go_loopw [6,7,33] (fun s6 s7 i wx => ∃ j:Nat,j<=6/\i = .int .i64 j/\agq w x k j s6 s7 wx) (fun _ _ i _=>6-(intOf i).toNat)
  case atStart=>exact⟨0,K_ _,rfl,hcut⟩
  case round =>
   obtain⟨j,hj,rfl,g1,c1,g2,c2,rfl,rfl,hT⟩:=hrel;by_cases hj2:j<6
   ·have hji:(j:Int)<6:=(by omega);have hlt:b<w.heap.size:=(t_.1 hb.out).1;have hrow:wr.heap[b]? = some (.cells (aU .i64 54 x) T fz):=(hT.2.2.2.block b hlt).trans hb.out;have e1:=fZ hrow (18+k*6+j) (by omega);have e2:=fZ hrow (18+j*6+k) (by omega);have hlt2:b<wr.heap.size:=(t_.1 hrow).1;have TM:Hid _:=hrow;have hg1:g1<wr.heap.size:=(World.ownsRow.lt hT.1 g1 rfl).2;have hg2:g2<wr.heap.size:=(World.ownsRow.lt hT.2.1 g2 rfl).2;clear hrow;have HO:Hid ((outs x k j).length=j+1):=EU x k j;have HI:Hid ((ins x k j).length=j+2):=Jb x k j
    go_wp2
    go_region_law (first
     | (refine KG (o:=⟨some 46,_,_,_,_,_⟩) (by rfl) (.tmp 36) (.tmp 45) (by rfl) g1 c1 (outs x k j) _ _ _ (by first|assumption|exact Two.alloc (by assumption) _|exact Two.alloc (Two.alloc (by assumption) _) _|exact hT.drew.alloc _|exact(hT.drew.alloc _).alloc _) (j+1) HO.out (by rfl) _ (x (18+k*6+j)) (by rfl) (by first|(go_simp; done)|exact hkp _ _ (by go_simp; done) (by simp; omega)) (by omega) ?_; intro g cp w1 hT1 hkp; have e1':=hT1.at hb.out (18+k*6+j) (by omega); have e2':=hT1.at hb.out (18+j*6+k) (by omega); have hlt':=hT1.lt hlt)
     | (refine KG (o:=⟨some 57,_,_,_,_,_⟩) (by rfl) (.tmp 47) (.tmp 56) (by rfl) g2 c2 (ins x k j) _ _ _ (by first|exact Two.swap (by assumption)|exact(Two.alloc (by assumption) _).swap|exact(Two.alloc (Two.alloc (by assumption) _) _).swap|exact(hT.drew.alloc _).swap|exact((hT.drew.alloc _).alloc _).swap) (j+2) HI.out (by rfl) _ (x (18+j*6+k)) (by rfl) (by first|(go_simp; done)|exact hkp _ _ (by go_simp; done) (by simp; omega)) (by omega) ?_; intro g cp w1 hT1 hkp; have e1':=hT1.at hb.out (18+k*6+j) (by omega); have e2':=hT1.at hb.out (18+j*6+k) (by omega); have hlt':=hT1.lt hlt))
    all_goals go_wp2
    all_goals go_roundw
    all_goals first
     | (simp[intOf]; omega)
     | exact⟨j+1,by omega,by go_num,_,_,_,_,rfl,rfl,hT1.swap⟩
   ·obtain rfl:j=6:=(by omega);have r1:=hT.rd1;have r2:=hT.swap.rd1;have hbel:=hT.2.2.2;have HO:Hid ((outs x k 6).length=7):=EU x k 6;have HI:Hid ((ins x k 6).length=8):=Jb x k 6;have b1:=wz (outs x k 6);have b2:=wz (ins x k 6);rw[HO.out]at b1;rw[HI.out]at b2;have HL:Hid (localM x k=((nA (ins x k 6)).1-(nA (outs x k 6)).1,(nA (outs x k 6)).2&&(nA (ins x k 6)).2)):=rfl;generalize outs x k 6=lo at *;generalize ins x k 6=li at *;clear hT
    go_wp2_with fail
    refine(Ja _ 7 c1 lo _ (by omega) HO r1).mono ?_;rintro e w1 ⟨rfl,rfl⟩
    go_wp2_with fail
    refine(Ja _ 8 c2 li _ (by omega) HI r2).mono ?_;rintro e w2 ⟨rfl,rfl⟩;generalize (nA li).1=n2 at *;generalize (nA lo).1=n1 at *;generalize (nA li).2=o2 at *;generalize (nA lo).2=o1 at *
    cases o1
    all_goals
     go_wp2_with fail
     go_ret2
     rw[HL.out]; exact⟨rfl,hbel⟩
namespace Rt
def Ca(x:Nat->Int)(k:Nat):Bool:=(localM x k).2&&decide (0<=(localM x k).1)&&decide (F x k<=C x k)&&(R x k k==0)
def DN(x:Nat->Int):Nat->Bool
 | 0=>true
 | k+1=>DN x k&&Ca x k
def gs(x:Nat->Int):List Int := [x 0,x 1,x 2,x 3,x 4,x 5]
def may(x:Nat->Int):Bool:=DN x 6&&((nA (gs x)).2&&decide ((nA (gs x)).1<=1125899906842624))
theorem EW(x:Nat->Int)(k:Nat)(h:Ca x k=false) : ∀ n,k<n->DN x n=false
 | 0,hn=>M_ hn (by omega)
 | n+1,hn=>by
   rw[DN];by_cases e:k=n
   ·subst e; rw[h,I_]
   ·rw[EW x k h n (by omega),Bool.false_and]
theorem Qf(x:Nat->Int)(k:Nat)(a:k<6)(h:Ca x k=false):may x=false:=by
 unfold may; rw[EW x k h 6 a,Bool.false_and]
end Rt
theorem agr{w:World}{g:Nat}{x:Nat->Int}{t:TypeId}{a:Nat × Nat}(h:w.heap[g]? = some (.cells (aU .i64 54 x) t a)):RdI .i64 w (some ⟨g,0,none⟩) (gs x):=by
 intro i b;have c:i<6:=b;refine⟨g,0,rfl,?_⟩;rw[G_,fZ h i (by omega)]
 rcases(show i=0\/i=1\/i=2\/i=3\/i=4\/i=5 by omega)with rfl|rfl|rfl|rfl|rfl|rfl <;> rfl
set_option maxHeartbeats 1000000 in
theorem tQ(x:Nat->Int)(w:World) :
 Calls Tryz.prog 95 #[.agg (aU .i64 54 x)] w fun e w'=>e = .returned (.bool (may x))/\Below w.heap.size w w':=by
 go_enter Tryz.func95,Tryz.ntmps95
 go_wp2
 go_loopw [2,3,8] (fun r _ i wr=>r = .bool false /\ ∃ k:Nat,k<=6/\i = .int .i64 k/\DN x k=true/\wr.heap[w.heap.size]? = some (.cells (aU .i64 54 x) 82 (0,0))/\Below w.heap.size w wr) (fun _ _ i _=>6-(intOf i).toNat)
 case atStart=>exact⟨rfl,0,K_ _,rfl,rfl,heap_alloc_new w _,(Below.refl _ _).alloc (A_ _) _⟩
 case round =>
  obtain⟨rfl,k,hk,rfl,hN,hrow,hbel⟩:=hrel;have hlt:w.heap.size<wr.heap.size:=(t_.1 hrow).1;have TM:Hid _:=hrow;have HN:Hid _:=hN;clear hrow hN;by_cases hk2:k<6
  ·have hki:(k:Int)<6:=(by omega);have HM:Hid (DN x (k+1)=(DN x k&&Ca x k)):=rfl;have HF:Hid (Ca x k=false->may x=false):=fun h=>Qf x k hk2 h;have HK:Hid (Ca x k=((localM x k).2&&decide (0<=(localM x k).1)&&decide (F x k<=C x k)&&(R x k k==0))):=rfl
   go_wp2_with fail
   refine(Hg w.heap.size _ _ x k wr hk2 TM).mono ?_;rintro e w1 ⟨rfl,hb1⟩;have KH:=(hb1.block _ hlt).trans TM.out;have KI:=hbel.trans (hb1.mono (Nat.le_of_lt hlt));have c1:=fZ KH (12+k) (by omega);have c2:=fZ KH (6+k) (by omega);have c3:=fZ KH (18+k*6+k) (by omega);have ags:Hid _:=KH;clear KH TM hbel hb1;generalize (localM x k).1=n at *;generalize hF:F x k=f at *;generalize hC:C x k=c at *;generalize hR:R x k k=r at *;unfold F at hF; unfold C at hC; unfold R at hR;rw[hF]at c1; rw[hC]at c2; rw[hR]at c3;clear hF hC hR
   cases his:(localM x k).2
   ·rw[his]at HK;clear his;have HR:Hid _:=HF.out (by rw[HK.out]; rfl);clear HK HF HM
    go_wp2_with fail
    go_quiet (fail)
    go_wp2
    go_ret
    rw[HR.out]; exact⟨rfl,bN KI _⟩
   ·rw[his]at HK;clear his;by_cases h1:n<0
    ·have d1:decide (n<0)=true:=(by simpa using h1);have d1':decide (0<=n)=false:=(by simp; omega);have HR:Hid _:=HF.out (by rw[HK.out]; rw[d1']; rfl);clear HK HF HM
     go_wp2_with fail
     go_quiet (fail)
     go_wp2
     go_ret
     rw[HR.out]; exact⟨rfl,bN KI _⟩
    ·have d1:decide (n<0)=false:=(by simp; omega);have d1':Hid (decide (0<=n)=true):=(by unfold Hid; simp; omega);by_cases h2:c<f
     ·have d2:decide (c<f)=true:=(by simpa using h2);have d2':decide (f<=c)=false:=(by simp; omega);have HR:Hid _:=HF.out (by rw[HK.out]; rw[d2',I_,Bool.false_and]);clear HK HF HM
      go_wp2_with fail
      go_quiet (fail)
      go_wp2
      go_ret
      rw[HR.out]; exact⟨rfl,bN KI _⟩
     ·have d2:decide (c<f)=false:=(by simp; omega);have d2':Hid (decide (f<=c)=true):=(by unfold Hid; simp; omega);by_cases h3:r=0
      ·subst h3
       go_wp2_with fail
       go_quiet (fail)
       go_wp2
       go_roundw
       case rel=>exact⟨rfl,k+1,by omega,by go_num,by rw[HM.out,HN.out,HK.out,d1'.out,d2'.out]; rfl,ags.out,bN KI _⟩
       case measure=>simp[intOf]; omega
      ·have d3:(r != 0)=true:=(by simpa using h3);have d3':(r==0)=false:=(by simpa using h3);have HR:Hid _:=HF.out (by rw[HK.out]; rw[d3',I_]);clear HK HF HM
       go_wp2_with fail
       go_quiet (fail)
       go_wp2
       go_ret
       rw[HR.out]; exact⟨rfl,bN KI _⟩
  ·obtain rfl:k=6:=(by omega);have HV:Hid (may x=((nA (gs x)).2&&decide ((nA (gs x)).1<=1125899906842624))):=(by unfold Hid may; rw[HN.out,Bool.true_and]);have hg:RdI .i64 wr (some ⟨w.heap.size,0,none⟩) (gs x):=agr TM.out;have HL:Hid ((gs x).length=6):=rfl;generalize gs x=l at *;clear HN
   go_wp2_with fail
   refine(Ja _ 6 _ l _ (by omega) HL hg).mono ?_;rintro e w1 ⟨rfl,rfl⟩;generalize (nA l).1=n at *
   cases h:(nA l).2
   ·rw[h]at HV;clear h
    go_wp2_with fail
    go_ret
    rw[HV.out]; exact⟨rfl,hbel⟩
   ·rw[h]at HV;clear h
    go_wp2_with fail
    go_ret
    rw[HV.out]; exact⟨rfl,hbel⟩
namespace Rt
def gW(i:Int):Bool:=decide (1<=i)&&decide (i<=6)
def fJ(x:Nat->Int)(i:Int):Int:=if gW i&&may x then(localM x (i.toNat-1)).1 else 0
theorem Ac{n:Int}(h:zU n=true):0<=n/\n<=1125899906842624:=by unfold zU at h; simpa using h
theorem OE{l:List Int}(h:(nA l).2=true):mH l=true:=by
 unfold nA at h;by_cases a:mH l=true
 ·exact a
 rw[b_ a]at h; exact M_ h (by decide)
theorem yQ{l:List Int}(h:mH l=true){n:Int}(a:n∈l):0<=n/\n<=1125899906842624:=by
 unfold mH at h;rw[List.all_eq_true]at h;exact Ac (h n a)
theorem KJ(x:Nat->Int)(k:Nat) : ∀ j,C x k∈outs x k j
 | 0=>by simp[outs]
 | j+1=>by rw[outs]; exact List.mem_append_left _ (KJ x k j)
theorem Hl(x:Nat->Int)(k i:Nat) : ∀ j,i<j->R x k i∈outs x k j
 | 0,h=>M_ h (by omega)
 | j+1,h=>by
   rw[outs];by_cases e:i=j
   ·subst e; simp
   ·exact List.mem_append_left _ (Hl x k i j (by omega))
theorem Ec(x:Nat->Int)(k:Nat) : ∀ j,G x k∈ins x k j/\F x k∈ins x k j
 | 0=>by simp[ins]
 | j+1=>by rw[ins]; exact⟨List.mem_append_left _ (Ec x k j).1,List.mem_append_left _ (Ec x k j).2⟩
theorem OG(x:Nat->Int)(k:Nat) : ∀ n,DN x n=true->k<n->Ca x k=true
 | 0,_,hk=>M_ hk (by omega)
 | n+1,h,hk=>by
   rw[DN,S_]at h;by_cases e:k=n
   ·subst e; exact h.2
   ·exact OG x k n h.1 (by omega)
theorem TN{x:Nat->Int}(h:may x=true)(k:Nat)(a:k<6):Ca x k=true:=by
 unfold may at h; rw[S_]at h; exact OG x k 6 h.1 a
structure DJ(x:Nat->Int)(k:Nat):Prop where
 g:0<=G x k/\G x k<=1125899906842624
 c:0<=C x k/\C x k<=1125899906842624
 f:0<=F x k/\F x k<=1125899906842624
 fc:F x k<=C x k
 r : ∀ i,i<6->0<=R x k i/\R x k i<=1125899906842624
 l:0<=(localM x k).1
 rkk:R x k k=0
 l2:(localM x k).2=true
theorem XL{x:Nat->Int}{k:Nat}(h:Ca x k=true):DJ x k:=by
 unfold Ca at h;rw[S_,S_,S_]at h;obtain⟨⟨⟨a,e⟩,h3⟩,h4⟩:=h;have d:=a;unfold localM at a;rw[S_]at a;have c:=OE a.1;have b:=OE a.2;exact⟨yQ b (Ec x k 6).1,yQ c (KJ x k 6),yQ b (Ec x k 6).2,by simpa using h3,fun i f=>yQ c (Hl x k i 6 f),by simpa using e,by simpa using h4,d⟩
theorem wH{x:Nat->Int}(h:may x=true)(k:Nat)(a:k<6):DJ x k:=XL (TN h k a)
theorem Qg(x:Nat->Int)(k:Nat) : -(1125899906842624*8)<=(localM x k).1/\(localM x k).1<=1125899906842624*8:=by
 have a:=wz (ins x k 6);have b:=wz (outs x k 6);rw[Sn]at a;rw[P9]at b;unfold localM;simp only;omega
end Rt
set_option maxHeartbeats 400000 in
theorem sw(i:Int)(w:World)(hi : -9223372036854775808<=i/\i<=9223372036854775807) :
 Calls Tryz.prog 94 #[.int .i64 i] w fun e w'=>e = .returned (.bool (gW i))/\w'=w:=by
 unfold gW;by_cases h1:i<1
 ·have d1:decide (1<=i)=false:=by simp; omega
  have D1:Hid _:=d1
  go_enter Tryz.func94,Tryz.ntmps94
  go_wp2
  go_ret
  first|exact⟨rfl,rfl⟩|(rw[D1.out]; exact⟨rfl,rfl⟩)
 have d1:decide (1<=i)=true:=by simp; omega
 have D1:Hid _:=d1
 go_enter Tryz.func94,Tryz.ntmps94
 go_wp2
 go_ret
 first|exact⟨rfl,rfl⟩|(rw[D1.out]; exact⟨rfl,rfl⟩)
theorem iW:(Tryz.prog.info? 82).map (·.size)=some 54:=by kernel_rfl
set_option maxRecDepth 100000 in
set_option maxHeartbeats 400000 in
theorem wI(x:Nat->Int)(i:Int)(w:World)(hi : -9223372036854775808<=i/\i<=9223372036854775807) :
 Calls Tryz.prog 60 #[.agg (aU .i64 54 x),.int .i64 i] w fun e w'=>e = .returned (.int .i64 (fJ x i))/\Below w.heap.size w w':=by
 have HV:Hid (fJ x i=if gW i&&may x then(localM x (i.toNat-1)).1 else 0):=rfl;have hrow:Hid ((w.alloc (.cells (aU .i64 54 x) 82)).heap[w.heap.size]? = some (.cells (aU .i64 54 x) 82 (0,0))):=heap_alloc_new w _;have HR:Hid (gW i=true<->1<=i/\i<=6):=by unfold Hid gW; simp
 have TP:Hid (∀ w',Calls Tryz.prog 94 #[.int .i64 i] w' fun e w''=>e = .returned (.bool (gW i))/\w''=w'):=fun w'=>sw i w' hi;have hmay:Hid (∀ w',Calls Tryz.prog 95 #[.agg (aU .i64 54 x)] w' fun e w''=>e = .returned (.bool (may x))/\Below w'.heap.size w' w''):=fun w'=>tQ x w';generalize gW i=r at *
 cases r
 ·go_enter Tryz.func60,Tryz.ntmps60
  go_wp2_with (go_at_call 94; refine(TP.out _).mono ?_; rintro e w' ⟨rfl,rfl⟩)
  go_ret
  rw[HV.out]; exact⟨rfl,(Below.refl _ _).alloc (A_ _) _⟩
 have hb:1<=i/\i<=6:=HR.out.1 rfl;obtain⟨k,hk⟩:=Int.eq_ofNat_of_zero_le (show 0<=i-1 by omega);have Hk:Hid (i-1=(k:Int)):=hk;have hk6:k<6:=by omega
 have hkt:Hid (i.toNat-1=k):=by unfold Hid; omega
 clear hk;generalize may x=m at *
 cases m
 ·go_enter Tryz.func60,Tryz.ntmps60
  go_wp2_with (first
   | (go_at_call 94; refine(TP.out _).mono ?_; rintro e w' ⟨rfl,rfl⟩)
   | (refine zB (by rfl) (wp_load_row (o:=⟨some 11,_,_,_,_,_⟩) 82 (.tmp 2) (by rfl) w.heap.size (by rfl) 82 (aU .i64 54 x) (0,0) _ hrow.out Tryz.underlying82 (by rfl) (by rw[bB]; exact iW) ?_))
   | (go_at_call 95; refine(hmay.out _).mono ?_; rintro e w1 ⟨rfl,hb1⟩))
  go_ret
  rw[HV.out]; exact⟨rfl,bal hb1⟩
 go_enter Tryz.func60,Tryz.ntmps60
 go_wp2_with (first
  | (go_at_call 94; refine(TP.out _).mono ?_; rintro e w' ⟨rfl,rfl⟩)
  | (refine zB (by rfl) (wp_load_row (o:=⟨some 11,_,_,_,_,_⟩) 82 (.tmp 2) (by rfl) w.heap.size (by rfl) 82 (aU .i64 54 x) (0,0) _ hrow.out Tryz.underlying82 (by rfl) (by rw[bB]; exact iW) ?_))
  | (go_at_call 95; refine(hmay.out _).mono ?_; rintro e w1 ⟨rfl,hb1⟩)
  | (go_at_call 96; rw[Hk.out]; refine(Hg w.heap.size 82 (0,0) x k w1 hk6 ((hb1.block _ (by simp)).trans hrow.out)).mono ?_; rintro e w2 ⟨rfl,hb2⟩))
 go_ret
 rw[HV.out,hkt.out]; exact⟨rfl,JN (bal hb1) hb2⟩
namespace Rt
def zero:Nat->Int:=fun _=>0
def bT(x:Nat->Int)(n:Int)(is:Bool)(a:Int)(off:Nat):(Nat->Int) × Int :=
 if may x&&decide (1<=n)&&decide (n<=1125899906842624)then
  if is then
   if a=0 then
    if x off+n<=1125899906842624 then(upd x off (x off+n),0)else(zero,6)
   else(zero,a)
  else(zero,10)
 else(zero,1)
end Rt
theorem pG(T:TypeId)(a:Nat × Nat):Obj.cells (aU .i64 54 zero) T a = .cells #[.int .i64 0,.int .i64 0,.int .i64 0,.int .i64 0,.int .i64 0,.int .i64 0,.int .i64 0,.int .i64 0,.int .i64 0,.int .i64 0,.int .i64 0,.int .i64 0,.int .i64 0,.int .i64 0,.int .i64 0,.int .i64 0,.int .i64 0,.int .i64 0,.int .i64 0,.int .i64 0,.int .i64 0,.int .i64 0,.int .i64 0,.int .i64 0,.int .i64 0,.int .i64 0,.int .i64 0,.int .i64 0,.int .i64 0,.int .i64 0,.int .i64 0,.int .i64 0,.int .i64 0,.int .i64 0,.int .i64 0,.int .i64 0,.int .i64 0,.int .i64 0,.int .i64 0,.int .i64 0,.int .i64 0,.int .i64 0,.int .i64 0,.int .i64 0,.int .i64 0,.int .i64 0,.int .i64 0,.int .i64 0,.int .i64 0,.int .i64 0,.int .i64 0,.int .i64 0,.int .i64 0,.int .i64 0] T a:=by rfl
theorem results_cell_tmp{P:Program}{b:Func}{p q:Tmp}{ty:TypeId}(h:b.results = #[.cell p ty,.tmp q])(a:Array Value)(w:World)(g:Nat)(t:TypeId)(cs:Array Value)(c:Nat × Nat)(d:TypeDesc)
 (i:a.getD p undef = .pointer (some ⟨g,0,none⟩)) (f:w.heap[g]? = some (.cells cs t c))
 (k:P.underlying ty=some d) (e:(match d with | .struct _ | .array _ _=>true|_=>false)=true) (hi:(P.info? ty).map (·.size)=some cs.size) :
 (results b a).run P w = .ok (.tuple #[.agg cs,a.getD q undef]) w:=by
 have j:a[p]?.getD undef = .pointer (some ⟨g,0,none⟩):=by simpa using i
 simp[results,h,j,asAddr,run_loadVar_row w g t ty cs c d f k e hi]
def jS(x:Nat->Int)(n:Int)(is:Bool)(a:Int)(off:Nat)(w:World)(e:Ending)(w':World):Prop :=
 e = .returned (.tuple #[.agg (aU .i64 54 (bT x n is a off).1),.int .i64 (bT x n is a off).2])/\Below w.heap.size w w'
theorem iR{w a:World}{B g:Nat}{e:Array Value}(c:Below B w a)(b:B<=g)(d:a.heap[g]? = some (.cells e 82 (0,0)))(y:Nat->Int) :
 (a.setRow g (aU .i64 54 y)).heap[g]? = some (.cells (aU .i64 54 y) 82 (0,0))/\Below B w (a.setRow g (aU .i64 54 y)) :=
 ⟨setRow_heap _ _ _ _ _ _ d,akB c b⟩
theorem nC{x:Nat->Int}{n:Int}{is:Bool}{c:Int}{off:Nat}{w b:World}{a:Act}{g:Nat}{y:Nat->Int}{k:Int}(d:bT x n is c off=(y,k))(f:a.defers = [])
 (i:a.tmps.getD 10 undef = .pointer (some ⟨g,0,none⟩)) (j:a.tmps.getD 11 undef = .int .i64 k) (h:b.heap[g]? = some (.cells (aU .i64 54 y) 82 (0,0))) (e:Below w.heap.size w b) :
 bodyPost Tryz.prog Tryz.f233 (jS x n is c off w) .ret a b:=by
 refine bodyPost_ret (v := .tuple #[.agg (aU .i64 54 y),.int .i64 k]) ?_ f ⟨?_,e⟩
 ·rw[results_cell_tmp rfl a.tmps b g 82 _ (0,0) _ i h Tryz.underlying82 rfl (by rw[bB]; exact iW),j]
 rw[d]
set_option maxRecDepth 100000 in
set_option maxHeartbeats 2000000 in
theorem MW(x:Nat->Int)(n:Int)(is:Bool)(fm fn:FuncId)(cm cn:Array Value)(em:Int)(off:Nat)(w:World)(h:may x=false) :
 Calls Tryz.prog 233 #[.agg (aU .i64 54 x),.int .i64 n,.bool is,.func (.func fm) #[] cm,.func (.func fn) #[] cn] w (jS x n is em off w):=by
 have hT:Hid (bT x n is em off=(zero,1)):=by unfold Hid bT; rw[h]; rfl
 have hmay:Hid (∀ w',Calls Tryz.prog 95 #[.agg (aU .i64 54 x)] w' fun e w''=>e = .returned (.bool (may x))/\Below w'.heap.size w' w''):=fun w'=>tQ x w'
 go_enter Tryz.func233,Tryz.ntmps233
 go_upto_region 1 with (fail)
 rw[<- pG];have hx0:Hid (((w.alloc (.cells (aU .i64 54 x) 82)).alloc (.cells (aU .i64 54 zero) 82)).heap[w.heap.size]? = some (.cells (aU .i64 54 x) 82 (0,0))):=heap_alloc2_old w _ _;have hz0:Hid (((w.alloc (.cells (aU .i64 54 x) 82)).alloc (.cells (aU .i64 54 zero) 82)).heap[w.heap.size+1]? = some (.cells (aU .i64 54 zero) 82 (0,0))):=heap_alloc2_new w _ _;have hb0:Below w.heap.size w ((w.alloc (.cells (aU .i64 54 x) 82)).alloc (.cells (aU .i64 54 zero) 82)):=((Below.refl _ _).alloc (A_ _) _).alloc (by simp) _;have hs0:w.heap.size+1<((w.alloc (.cells (aU .i64 54 x) 82)).alloc (.cells (aU .i64 54 zero) 82)).heap.size:=by simp
 generalize (w.alloc (.cells (aU .i64 54 x) 82)).alloc (.cells (aU .i64 54 zero) 82)=W at *;rw[h]at hmay
 go_wp2_with (first
  | (refine wpList_load_row (o:=⟨some 15,_,_,_,_,_⟩) (by rfl) 82 (.tmp 5) (by rfl) w.heap.size (by rfl) 82 (aU .i64 54 x) (0,0) _ hx0.out Tryz.underlying82 (by rfl) (by rw[bB]; exact iW) ?_)
  | (go_at_call 95; refine(hmay.out _).mono ?_; rintro e w1 ⟨rfl,hb1⟩; have hz1:Hid _:=(hb1.block (w.heap.size+1) hs0).trans hz0.out; have hx1:Hid _:=(hb1.block w.heap.size (by omega)).trans hx0.out; have hB1:=hb0.trans (hb1.mono hb0.size); have hs1:=n_ hs0 hb1.size)
  | (refine wpList_store_row (o:=⟨none,.store 82 (.tmp 10) (.tmp 22),_,_,_,_⟩) (by rfl) 82 (.tmp 10) (.tmp 22) (by rfl) (w.heap.size+1) (aU .i64 54 zero) (by rfl) (by rfl) 82 (aU .i64 54 zero) hz1.out (by rw[bB]; exact iW) (by rw[bB]) (kU _ _ _) ?_))
 have hend:=iR hB1 (by omega) hz1.out zero;exact nC hT.out rfl rfl rfl hend.1 hend.2
set_option maxRecDepth 100000 in
set_option maxHeartbeats 2000000 in
theorem MX(x:Nat->Int)(n:Int)(is:Bool)(fm fn:FuncId)(cm cn:Array Value)(em:Int)(off:Nat)(w:World)(h:may x=true)(hn1:n<1) :
 Calls Tryz.prog 233 #[.agg (aU .i64 54 x),.int .i64 n,.bool is,.func (.func fm) #[] cm,.func (.func fn) #[] cn] w (jS x n is em off w):=by
 have hT:Hid (bT x n is em off=(zero,1)):=by unfold Hid bT; rw[h,g_ (show ¬ 1<=n by omega)]; rfl
 have hmay:Hid (∀ w',Calls Tryz.prog 95 #[.agg (aU .i64 54 x)] w' fun e w''=>e = .returned (.bool (may x))/\Below w'.heap.size w' w''):=fun w'=>tQ x w'
 go_enter Tryz.func233,Tryz.ntmps233
 go_upto_region 1 with (fail)
 rw[<- pG];have hx0:Hid (((w.alloc (.cells (aU .i64 54 x) 82)).alloc (.cells (aU .i64 54 zero) 82)).heap[w.heap.size]? = some (.cells (aU .i64 54 x) 82 (0,0))):=heap_alloc2_old w _ _;have hz0:Hid (((w.alloc (.cells (aU .i64 54 x) 82)).alloc (.cells (aU .i64 54 zero) 82)).heap[w.heap.size+1]? = some (.cells (aU .i64 54 zero) 82 (0,0))):=heap_alloc2_new w _ _;have hb0:Below w.heap.size w ((w.alloc (.cells (aU .i64 54 x) 82)).alloc (.cells (aU .i64 54 zero) 82)):=((Below.refl _ _).alloc (A_ _) _).alloc (by simp) _;have hs0:w.heap.size+1<((w.alloc (.cells (aU .i64 54 x) 82)).alloc (.cells (aU .i64 54 zero) 82)).heap.size:=by simp
 generalize (w.alloc (.cells (aU .i64 54 x) 82)).alloc (.cells (aU .i64 54 zero) 82)=W at *;rw[h]at hmay
 go_wp2_with (first
  | (refine wpList_load_row (o:=⟨some 15,_,_,_,_,_⟩) (by rfl) 82 (.tmp 5) (by rfl) w.heap.size (by rfl) 82 (aU .i64 54 x) (0,0) _ hx0.out Tryz.underlying82 (by rfl) (by rw[bB]; exact iW) ?_)
  | (go_at_call 95; refine(hmay.out _).mono ?_; rintro e w1 ⟨rfl,hb1⟩; have hz1:Hid _:=(hb1.block (w.heap.size+1) hs0).trans hz0.out; have hx1:Hid _:=(hb1.block w.heap.size (by omega)).trans hx0.out; have hB1:=hb0.trans (hb1.mono hb0.size); have hs1:=n_ hs0 hb1.size)
  | (refine wpList_store_row (o:=⟨none,.store 82 (.tmp 10) (.tmp 22),_,_,_,_⟩) (by rfl) 82 (.tmp 10) (.tmp 22) (by rfl) (w.heap.size+1) (aU .i64 54 zero) (by rfl) (by rfl) 82 (aU .i64 54 zero) hz1.out (by rw[bB]; exact iW) (by rw[bB]) (kU _ _ _) ?_))
 have hend:=iR hB1 (by omega) hz1.out zero;exact nC hT.out rfl rfl rfl hend.1 hend.2
set_option maxRecDepth 100000 in
set_option maxHeartbeats 2000000 in
theorem MZ(x:Nat->Int)(n:Int)(is:Bool)(fm fn:FuncId)(cm cn:Array Value)(em:Int)(off:Nat)(w:World)(h:may x=true)(hn1:1125899906842624<n) :
 Calls Tryz.prog 233 #[.agg (aU .i64 54 x),.int .i64 n,.bool is,.func (.func fm) #[] cm,.func (.func fn) #[] cn] w (jS x n is em off w):=by
 have hT:Hid (bT x n is em off=(zero,1)):=by unfold Hid bT; rw[g_ (show ¬ n<=1125899906842624 by omega),I_]; rfl
 have hmay:Hid (∀ w',Calls Tryz.prog 95 #[.agg (aU .i64 54 x)] w' fun e w''=>e = .returned (.bool (may x))/\Below w'.heap.size w' w''):=fun w'=>tQ x w'
 go_enter Tryz.func233,Tryz.ntmps233
 go_upto_region 1 with (fail)
 rw[<- pG];have hx0:Hid (((w.alloc (.cells (aU .i64 54 x) 82)).alloc (.cells (aU .i64 54 zero) 82)).heap[w.heap.size]? = some (.cells (aU .i64 54 x) 82 (0,0))):=heap_alloc2_old w _ _;have hz0:Hid (((w.alloc (.cells (aU .i64 54 x) 82)).alloc (.cells (aU .i64 54 zero) 82)).heap[w.heap.size+1]? = some (.cells (aU .i64 54 zero) 82 (0,0))):=heap_alloc2_new w _ _;have hb0:Below w.heap.size w ((w.alloc (.cells (aU .i64 54 x) 82)).alloc (.cells (aU .i64 54 zero) 82)):=((Below.refl _ _).alloc (A_ _) _).alloc (by simp) _;have hs0:w.heap.size+1<((w.alloc (.cells (aU .i64 54 x) 82)).alloc (.cells (aU .i64 54 zero) 82)).heap.size:=by simp
 generalize (w.alloc (.cells (aU .i64 54 x) 82)).alloc (.cells (aU .i64 54 zero) 82)=W at *;rw[h]at hmay
 go_wp2_with (first
  | (refine wpList_load_row (o:=⟨some 15,_,_,_,_,_⟩) (by rfl) 82 (.tmp 5) (by rfl) w.heap.size (by rfl) 82 (aU .i64 54 x) (0,0) _ hx0.out Tryz.underlying82 (by rfl) (by rw[bB]; exact iW) ?_)
  | (go_at_call 95; refine(hmay.out _).mono ?_; rintro e w1 ⟨rfl,hb1⟩; have hz1:Hid _:=(hb1.block (w.heap.size+1) hs0).trans hz0.out; have hx1:Hid _:=(hb1.block w.heap.size (by omega)).trans hx0.out; have hB1:=hb0.trans (hb1.mono hb0.size); have hs1:=n_ hs0 hb1.size)
  | (refine wpList_store_row (o:=⟨none,.store 82 (.tmp 10) (.tmp 22),_,_,_,_⟩) (by rfl) 82 (.tmp 10) (.tmp 22) (by rfl) (w.heap.size+1) (aU .i64 54 zero) (by rfl) (by rfl) 82 (aU .i64 54 zero) hz1.out (by rw[bB]; exact iW) (by rw[bB]) (kU _ _ _) ?_))
 have hend:=iR hB1 (by omega) hz1.out zero;exact nC hT.out rfl rfl rfl hend.1 hend.2
set_option maxRecDepth 100000 in
set_option maxHeartbeats 2000000 in
theorem M4(x:Nat->Int)(n:Int)(fm fn:FuncId)(cm cn:Array Value)(em:Int)(off:Nat)(w:World)(h:may x=true)(hn1:1<=n)(hn2:n<=1125899906842624) :
 Calls Tryz.prog 233 #[.agg (aU .i64 54 x),.int .i64 n,.bool false,.func (.func fm) #[] cm,.func (.func fn) #[] cn] w (jS x n false em off w):=by
 have hT:Hid (bT x n false em off=(zero,10)):=by unfold Hid bT; rw[h,f_ hn1,f_ hn2]; simp only[Bool.and_self,if_true]; rfl
 have hmay:Hid (∀ w',Calls Tryz.prog 95 #[.agg (aU .i64 54 x)] w' fun e w''=>e = .returned (.bool (may x))/\Below w'.heap.size w' w''):=fun w'=>tQ x w'
 go_enter Tryz.func233,Tryz.ntmps233
 go_upto_region 1 with (fail)
 rw[<- pG];have hx0:Hid (((w.alloc (.cells (aU .i64 54 x) 82)).alloc (.cells (aU .i64 54 zero) 82)).heap[w.heap.size]? = some (.cells (aU .i64 54 x) 82 (0,0))):=heap_alloc2_old w _ _;have hz0:Hid (((w.alloc (.cells (aU .i64 54 x) 82)).alloc (.cells (aU .i64 54 zero) 82)).heap[w.heap.size+1]? = some (.cells (aU .i64 54 zero) 82 (0,0))):=heap_alloc2_new w _ _;have hb0:Below w.heap.size w ((w.alloc (.cells (aU .i64 54 x) 82)).alloc (.cells (aU .i64 54 zero) 82)):=((Below.refl _ _).alloc (A_ _) _).alloc (by simp) _;have hs0:w.heap.size+1<((w.alloc (.cells (aU .i64 54 x) 82)).alloc (.cells (aU .i64 54 zero) 82)).heap.size:=by simp
 generalize (w.alloc (.cells (aU .i64 54 x) 82)).alloc (.cells (aU .i64 54 zero) 82)=W at *;rw[h]at hmay
 go_wp2_with (first
  | (refine wpList_load_row (o:=⟨some 15,_,_,_,_,_⟩) (by rfl) 82 (.tmp 5) (by rfl) w.heap.size (by rfl) 82 (aU .i64 54 x) (0,0) _ hx0.out Tryz.underlying82 (by rfl) (by rw[bB]; exact iW) ?_)
  | (go_at_call 95; refine(hmay.out _).mono ?_; rintro e w1 ⟨rfl,hb1⟩; have hz1:Hid _:=(hb1.block (w.heap.size+1) hs0).trans hz0.out; have hx1:Hid _:=(hb1.block w.heap.size (by omega)).trans hx0.out; have hB1:=hb0.trans (hb1.mono hb0.size); have hs1:=n_ hs0 hb1.size)
  | (refine wpList_store_row (o:=⟨none,.store 82 (.tmp 10) (.tmp 26),_,_,_,_⟩) (by rfl) 82 (.tmp 10) (.tmp 26) (by rfl) (w.heap.size+1) (aU .i64 54 zero) (by rfl) (by rfl) 82 (aU .i64 54 zero) hz1.out (by rw[bB]; exact iW) (by rw[bB]) (kU _ _ _) ?_))
 have hend:=iR hB1 (by omega) hz1.out zero;exact nC hT.out rfl rfl rfl hend.1 hend.2
set_option maxRecDepth 100000 in
set_option maxHeartbeats 2000000 in
theorem M5(x:Nat->Int)(n:Int)(fm fn:FuncId)(cm cn:Array Value)(em:Int)(off:Nat)(w:World)(h:may x=true)(hn1:1<=n)(hn2:n<=1125899906842624)(hem:em≠0)(hcm : ∀(args:Array Value) (w:World),(callFunc fm args).run Tryz.prog w = .ok (.enter fm args) w)(hm:Hid (∀ w',Below w.heap.size w w'->Calls Tryz.prog fm cm w' fun e w''=>e = .returned (.int .i64 em)/\Below w'.heap.size w' w'')) :
 Calls Tryz.prog 233 #[.agg (aU .i64 54 x),.int .i64 n,.bool true,.func (.func fm) #[] cm,.func (.func fn) #[] cn] w (jS x n true em off w):=by
 have hT:Hid (bT x n true em off=(zero,em)):=by unfold Hid bT; rw[h,f_ hn1,f_ hn2]; simp only[Bool.and_self,if_true]; rw[b_ hem]
 have avg:(em != 0)=true:=by simpa using hem
 have hmay:Hid (∀ w',Calls Tryz.prog 95 #[.agg (aU .i64 54 x)] w' fun e w''=>e = .returned (.bool (may x))/\Below w'.heap.size w' w''):=fun w'=>tQ x w'
 go_enter Tryz.func233,Tryz.ntmps233
 go_upto_region 1 with (fail)
 rw[<- pG];have hx0:Hid (((w.alloc (.cells (aU .i64 54 x) 82)).alloc (.cells (aU .i64 54 zero) 82)).heap[w.heap.size]? = some (.cells (aU .i64 54 x) 82 (0,0))):=heap_alloc2_old w _ _;have hz0:Hid (((w.alloc (.cells (aU .i64 54 x) 82)).alloc (.cells (aU .i64 54 zero) 82)).heap[w.heap.size+1]? = some (.cells (aU .i64 54 zero) 82 (0,0))):=heap_alloc2_new w _ _;have hb0:Below w.heap.size w ((w.alloc (.cells (aU .i64 54 x) 82)).alloc (.cells (aU .i64 54 zero) 82)):=((Below.refl _ _).alloc (A_ _) _).alloc (by simp) _;have hs0:w.heap.size+1<((w.alloc (.cells (aU .i64 54 x) 82)).alloc (.cells (aU .i64 54 zero) 82)).heap.size:=by simp
 generalize (w.alloc (.cells (aU .i64 54 x) 82)).alloc (.cells (aU .i64 54 zero) 82)=W at *;rw[h]at hmay
 go_wp2_with (first
  | (refine wpList_load_row (o:=⟨some 15,_,_,_,_,_⟩) (by rfl) 82 (.tmp 5) (by rfl) w.heap.size (by rfl) 82 (aU .i64 54 x) (0,0) _ hx0.out Tryz.underlying82 (by rfl) (by rw[bB]; exact iW) ?_)
  | (go_at_call 95; refine(hmay.out _).mono ?_; rintro e w1 ⟨rfl,hb1⟩; have hz1:Hid _:=(hb1.block (w.heap.size+1) hs0).trans hz0.out; have hx1:Hid _:=(hb1.block w.heap.size (by omega)).trans hx0.out; have hB1:=hb0.trans (hb1.mono hb0.size); have hs1:=n_ hs0 hb1.size)
  | (refine(hm.out _ hB1).mono ?_; rintro e w2 ⟨rfl,hb2⟩; have hz2:Hid _:=(hb2.block (w.heap.size+1) hs1).trans hz1.out; have hx2:Hid _:=(hb2.block w.heap.size (by omega)).trans hx1.out; have hB2:=hB1.trans (hb2.mono hB1.size); have hs2:=n_ hs1 hb2.size)
  | (refine wpList_store_row (o:=⟨none,.store 82 (.tmp 10) (.tmp 31),_,_,_,_⟩) (by rfl) 82 (.tmp 10) (.tmp 31) (by rfl) (w.heap.size+1) (aU .i64 54 zero) (by rfl) (by rfl) 82 (aU .i64 54 zero) hz2.out (by rw[bB]; exact iW) (by rw[bB]) (kU _ _ _) ?_))
 have hend:=iR hB2 (by omega) hz2.out zero;exact nC hT.out rfl rfl rfl hend.1 hend.2
set_option maxRecDepth 100000 in
set_option maxHeartbeats 2000000 in
theorem M6(x:Nat->Int)(n:Int)(fm fn:FuncId)(cm cn:Array Value)(em:Int)(off:Nat)(w:World)(h:may x=true)(hn1:1<=n)(hn2:n<=1125899906842624)(em0:em=0)(hoff:off<54)(v:Int)(hv:x off=v)(hv2:0<=v/\v<=1125899906842624)(hs:1125899906842624<v+n)(hcm : ∀(args:Array Value) (w:World),(callFunc fm args).run Tryz.prog w = .ok (.enter fm args) w)(hm:Hid (∀ w',Below w.heap.size w w'->Calls Tryz.prog fm cm w' fun e w''=>e = .returned (.int .i64 em)/\Below w'.heap.size w' w''))(hcn : ∀(args:Array Value) (w:World),(callFunc fn args).run Tryz.prog w = .ok (.enter fn args) w)(hn:Hid (∀ w' g,Below w.heap.size w w'->Calls Tryz.prog fn (#[.pointer (some ⟨g,0,none⟩)]++cn) w' fun e w''=>e = .returned (.pointer (some ⟨g,off,none⟩))/\Below w'.heap.size w' w'')) :
 Calls Tryz.prog 233 #[.agg (aU .i64 54 x),.int .i64 n,.bool true,.func (.func fm) #[] cm,.func (.func fn) #[] cn] w (jS x n true em off w):=by
 have hT:Hid (bT x n true em off=(zero,6)):=by unfold Hid bT; rw[h,f_ hn1,f_ hn2]; simp only[Bool.and_self,if_true]; rw[d_ em0,hv,b_ (by omega)]
 subst em0;have hmay:Hid (∀ w',Calls Tryz.prog 95 #[.agg (aU .i64 54 x)] w' fun e w''=>e = .returned (.bool (may x))/\Below w'.heap.size w' w''):=fun w'=>tQ x w'
 go_enter Tryz.func233,Tryz.ntmps233
 go_upto_region 1 with (fail)
 rw[<- pG];have hx0:Hid (((w.alloc (.cells (aU .i64 54 x) 82)).alloc (.cells (aU .i64 54 zero) 82)).heap[w.heap.size]? = some (.cells (aU .i64 54 x) 82 (0,0))):=heap_alloc2_old w _ _;have hz0:Hid (((w.alloc (.cells (aU .i64 54 x) 82)).alloc (.cells (aU .i64 54 zero) 82)).heap[w.heap.size+1]? = some (.cells (aU .i64 54 zero) 82 (0,0))):=heap_alloc2_new w _ _;have hb0:Below w.heap.size w ((w.alloc (.cells (aU .i64 54 x) 82)).alloc (.cells (aU .i64 54 zero) 82)):=((Below.refl _ _).alloc (A_ _) _).alloc (by simp) _;have hs0:w.heap.size+1<((w.alloc (.cells (aU .i64 54 x) 82)).alloc (.cells (aU .i64 54 zero) 82)).heap.size:=by simp
 generalize (w.alloc (.cells (aU .i64 54 x) 82)).alloc (.cells (aU .i64 54 zero) 82)=W at *;rw[h]at hmay
 go_wp2_with (first
  | (refine wpList_load_row (o:=⟨some 15,_,_,_,_,_⟩) (by rfl) 82 (.tmp 5) (by rfl) w.heap.size (by rfl) 82 (aU .i64 54 x) (0,0) _ hx0.out Tryz.underlying82 (by rfl) (by rw[bB]; exact iW) ?_)
  | (go_at_call 95; refine(hmay.out _).mono ?_; rintro e w1 ⟨rfl,hb1⟩; have hz1:Hid _:=(hb1.block (w.heap.size+1) hs0).trans hz0.out; have hx1:Hid _:=(hb1.block w.heap.size (by omega)).trans hx0.out; have hB1:=hb0.trans (hb1.mono hb0.size); have hs1:=n_ hs0 hb1.size)
  | (refine(hm.out _ hB1).mono ?_; rintro e w2 ⟨rfl,hb2⟩; have hz2:Hid _:=(hb2.block (w.heap.size+1) hs1).trans hz1.out; have hx2:Hid _:=(hb2.block w.heap.size (by omega)).trans hx1.out; have hB2:=hB1.trans (hb2.mono hB1.size); have hs2:=n_ hs1 hb2.size)
  | (refine(hn.out _ _ hB2).mono ?_; rintro e w3 ⟨rfl,hb3⟩; have hz3:Hid _:=(hb3.block (w.heap.size+1) hs2).trans hz2.out; have hx3:=(hb3.block w.heap.size (by omega)).trans hx2.out; have hB3:=hB2.trans (hb3.mono hB2.size); have hs3:=n_ hs2 hb3.size; have hc3:=fZ hx3 off hoff; have hf3:=frozen_of_row w3 w.heap.size off _ _ hx3; have hz4:Hid ((w3.setCell ⟨w.heap.size,off,none⟩ (.int .i64 (v+n))).heap[w.heap.size+1]? = some (.cells (aU .i64 54 zero) 82 (0,0))):=(heap_setCell_other _ _ _ _ (by simp)).trans hz3.out; have hx4:Hid ((w3.setCell ⟨w.heap.size,off,none⟩ (.int .i64 (v+n))).heap[w.heap.size]? = some (.cells (aU .i64 54 (upd x off (v+n))) 82 (0,0))):=by { unfold Hid; rw[heap_setCell_same _ _ _ _ _ _ hx3,Ey] }; have hB4:Below w.heap.size w (w3.setCell ⟨w.heap.size,off,none⟩ (.int .i64 (v+n))):=hB3.setCell (A_ _) _; clear hx3; rw[hv]at hc3)
  | (refine wpList_store_row (o:=⟨none,.store 82 (.tmp 10) (.tmp 45),_,_,_,_⟩) (by rfl) 82 (.tmp 10) (.tmp 45) (by rfl) (w.heap.size+1) (aU .i64 54 zero) (by rfl) (by rfl) 82 (aU .i64 54 zero) hz4.out (by rw[bB]; exact iW) (by rw[bB]) (kU _ _ _) ?_))
 have hend:=iR hB4 (by omega) hz4.out zero;exact nC hT.out rfl rfl rfl hend.1 hend.2
set_option maxRecDepth 100000 in
set_option maxHeartbeats 2000000 in
theorem M7(x:Nat->Int)(n:Int)(fm fn:FuncId)(cm cn:Array Value)(em:Int)(off:Nat)(w:World)(h:may x=true)(hn1:1<=n)(hn2:n<=1125899906842624)(em0:em=0)(hoff:off<54)(v:Int)(hv:x off=v)(hv2:0<=v/\v<=1125899906842624)(hs:v+n<=1125899906842624)(hcm : ∀(args:Array Value) (w:World),(callFunc fm args).run Tryz.prog w = .ok (.enter fm args) w)(hm:Hid (∀ w',Below w.heap.size w w'->Calls Tryz.prog fm cm w' fun e w''=>e = .returned (.int .i64 em)/\Below w'.heap.size w' w''))(hcn : ∀(args:Array Value) (w:World),(callFunc fn args).run Tryz.prog w = .ok (.enter fn args) w)(hn:Hid (∀ w' g,Below w.heap.size w w'->Calls Tryz.prog fn (#[.pointer (some ⟨g,0,none⟩)]++cn) w' fun e w''=>e = .returned (.pointer (some ⟨g,off,none⟩))/\Below w'.heap.size w' w'')) :
 Calls Tryz.prog 233 #[.agg (aU .i64 54 x),.int .i64 n,.bool true,.func (.func fm) #[] cm,.func (.func fn) #[] cn] w (jS x n true em off w):=by
 have hT:Hid (bT x n true em off=(upd x off (v+n),0)):=by unfold Hid bT; rw[h,f_ hn1,f_ hn2]; simp only[Bool.and_self,if_true]; rw[d_ em0,hv,d_ (by omega)]
 subst em0;have hmay:Hid (∀ w',Calls Tryz.prog 95 #[.agg (aU .i64 54 x)] w' fun e w''=>e = .returned (.bool (may x))/\Below w'.heap.size w' w''):=fun w'=>tQ x w'
 go_enter Tryz.func233,Tryz.ntmps233
 go_upto_region 1 with (fail)
 rw[<- pG];have hx0:Hid (((w.alloc (.cells (aU .i64 54 x) 82)).alloc (.cells (aU .i64 54 zero) 82)).heap[w.heap.size]? = some (.cells (aU .i64 54 x) 82 (0,0))):=heap_alloc2_old w _ _;have hz0:Hid (((w.alloc (.cells (aU .i64 54 x) 82)).alloc (.cells (aU .i64 54 zero) 82)).heap[w.heap.size+1]? = some (.cells (aU .i64 54 zero) 82 (0,0))):=heap_alloc2_new w _ _;have hb0:Below w.heap.size w ((w.alloc (.cells (aU .i64 54 x) 82)).alloc (.cells (aU .i64 54 zero) 82)):=((Below.refl _ _).alloc (A_ _) _).alloc (by simp) _;have hs0:w.heap.size+1<((w.alloc (.cells (aU .i64 54 x) 82)).alloc (.cells (aU .i64 54 zero) 82)).heap.size:=by simp
 generalize (w.alloc (.cells (aU .i64 54 x) 82)).alloc (.cells (aU .i64 54 zero) 82)=W at *;rw[h]at hmay
 go_wp2_with (first
  | (refine wpList_load_row (o:=⟨some 15,_,_,_,_,_⟩) (by rfl) 82 (.tmp 5) (by rfl) w.heap.size (by rfl) 82 (aU .i64 54 x) (0,0) _ hx0.out Tryz.underlying82 (by rfl) (by rw[bB]; exact iW) ?_)
  | (go_at_call 95; refine(hmay.out _).mono ?_; rintro e w1 ⟨rfl,hb1⟩; have hz1:Hid _:=(hb1.block (w.heap.size+1) hs0).trans hz0.out; have hx1:Hid _:=(hb1.block w.heap.size (by omega)).trans hx0.out; have hB1:=hb0.trans (hb1.mono hb0.size); have hs1:=n_ hs0 hb1.size)
  | (refine(hm.out _ hB1).mono ?_; rintro e w2 ⟨rfl,hb2⟩; have hz2:Hid _:=(hb2.block (w.heap.size+1) hs1).trans hz1.out; have hx2:Hid _:=(hb2.block w.heap.size (by omega)).trans hx1.out; have hB2:=hB1.trans (hb2.mono hB1.size); have hs2:=n_ hs1 hb2.size)
  | (refine(hn.out _ _ hB2).mono ?_; rintro e w3 ⟨rfl,hb3⟩; have hz3:Hid _:=(hb3.block (w.heap.size+1) hs2).trans hz2.out; have hx3:=(hb3.block w.heap.size (by omega)).trans hx2.out; have hB3:=hB2.trans (hb3.mono hB2.size); have hs3:=n_ hs2 hb3.size; have hc3:=fZ hx3 off hoff; have hf3:=frozen_of_row w3 w.heap.size off _ _ hx3; have hz4:Hid ((w3.setCell ⟨w.heap.size,off,none⟩ (.int .i64 (v+n))).heap[w.heap.size+1]? = some (.cells (aU .i64 54 zero) 82 (0,0))):=(heap_setCell_other _ _ _ _ (by simp)).trans hz3.out; have hx4:Hid ((w3.setCell ⟨w.heap.size,off,none⟩ (.int .i64 (v+n))).heap[w.heap.size]? = some (.cells (aU .i64 54 (upd x off (v+n))) 82 (0,0))):=by { unfold Hid; rw[heap_setCell_same _ _ _ _ _ _ hx3,Ey] }; have hB4:Below w.heap.size w (w3.setCell ⟨w.heap.size,off,none⟩ (.int .i64 (v+n))):=hB3.setCell (A_ _) _; clear hx3; rw[hv]at hc3)
  | (refine wpList_load_row (o:=⟨some 46,_,_,_,_,_⟩) (by rfl) 82 (.tmp 5) (by rfl) w.heap.size (by rfl) 82 (aU .i64 54 (upd x off (v+n))) (0,0) _ hx4.out Tryz.underlying82 (by rfl) (by rw[bB]; exact iW) ?_)
  | (refine wpList_store_row (o:=⟨none,.store 82 (.tmp 10) (.tmp 46),_,_,_,_⟩) (by rfl) 82 (.tmp 10) (.tmp 46) (by rfl) (w.heap.size+1) (aU .i64 54 (upd x off (v+n))) (by rfl) (by rfl) 82 (aU .i64 54 zero) hz4.out (by rw[bB]; exact iW) (by rw[bB,bB]) (kU _ _ _) ?_))
 have hend:=iR hB4 (by omega) hz4.out (upd x off (v+n));exact nC hT.out rfl rfl rfl hend.1 hend.2
theorem wJ(x:Nat->Int)(n:Int)(is:Bool)(a b:FuncId)(d f:Array Value)(c:Int)(off:Nat)(w:World)(q:is=true->off<54)(hx:is=true->may x=true->0<=x off/\x off<=1125899906842624)
 (k : ∀(i:Array Value) (w:World),(callFunc a i).run Tryz.prog w = .ok (.enter a i) w)
 (o : ∀(i:Array Value) (w:World),(callFunc b i).run Tryz.prog w = .ok (.enter b i) w)
 (l:may x=true->1<=n->n<=1125899906842624->is=true -> ∀ w',Below w.heap.size w w'->Calls Tryz.prog a d w' fun e m=>e = .returned (.int .i64 c)/\Below w'.heap.size w' m)
 (p:is=true -> ∀ w' g,Below w.heap.size w w'->Calls Tryz.prog b (#[.pointer (some ⟨g,0,none⟩)]++f) w' fun e m=>e = .returned (.pointer (some ⟨g,off,none⟩))/\Below w'.heap.size w' m) :
 Calls Tryz.prog 233 #[.agg (aU .i64 54 x),.int .i64 n,.bool is,.func (.func a) #[] d,.func (.func b) #[] f] w (jS x n is c off w):=by
 by_cases h:may x=true
 ·by_cases r:n<1
  ·exact MX x n is a b d f c off w h r
  by_cases s:1125899906842624<n
  ·exact MZ x n is a b d f c off w h s
  cases is
  ·exact M4 x n a b d f c off w h (by omega) (by omega)
  by_cases j:c=0
  ·by_cases t:1125899906842624<x off+n
   ·exact M6 x n a b d f c off w h (by omega) (by omega) j (q rfl) _ rfl (hx rfl h) t k (l h (by omega) (by omega) rfl) o (p rfl)
   exact M7 x n a b d f c off w h (by omega) (by omega) j (q rfl) _ rfl (hx rfl h) (by omega) k (l h (by omega) (by omega) rfl) o (p rfl)
  exact M5 x n a b d f c off w h (by omega) (by omega) j k (l h (by omega) (by omega) rfl)
 exact MW x n is a b d f c off w (by simpa using h)
section
namespace Rt
def own(p:Nat):Nat:=if p<6 then p else if p<12 then p-6 else if p<18 then p-12 else(p-18) / 6
end Rt
def JS(a:World)(g:Nat)(x y:Nat->Int)(w':World):Prop:=w'.heap[g]? = some (.cells (aU .i64 54 x) 82 (0,0))/\w'.heap[g+1]? = some (.cells (aU .i64 54 y) 82 (0,0))/\w'.heap[g+1+1]? = some (.cells (aU .i64 54 zero) 82 (0,0))/\Below g a w'
theorem JS.drew{a w:World}{g:Nat}{x y:Nat->Int}(h:JS a g x y w):JS a g x y w.drew:=⟨h.1,h.2.1,h.2.2.1,bN h.2.2.2 1⟩
theorem JS.a{b w:World}{g:Nat}{x y:Nat->Int}(h:JS b g x y w)(i:Nat)(hi:i<54):w.cell? ⟨g,i,none⟩=some (.int .i64 (x i)):=fZ h.1 i hi
theorem JS.b{a w:World}{g:Nat}{x y:Nat->Int}(h:JS a g x y w)(i:Nat)(hi:i<54):w.cell? ⟨g+1,i,none⟩=some (.int .i64 (y i)):=fZ h.2.1 i hi
theorem JS.fr{a w:World}{g:Nat}{x y:Nat->Int}(h:JS a g x y w)(i:Nat):w.frozen? ⟨g,i,none⟩=false:=frozen_of_row w g i _ _ h.1
theorem JS.set{d w:World}{g:Nat}{x y:Nat->Int}(h:JS d g x y w)(i:Nat)(v:Int):JS d g (upd x i v) y (w.setCell ⟨g,i,none⟩ (.int .i64 v)):=by
 obtain⟨a,b,z,c⟩:=h;refine⟨?_,?_,?_,?_⟩
 ·rw[heap_setCell_same _ _ _ _ _ _ a,Ey]
 ·rw[heap_setCell_other _ _ _ _ (by simp)]; exact b
 ·rw[heap_setCell_other _ _ _ _ (by simp; omega)]; exact z
 exact c.setCell (A_ _) _
theorem JS.congr{a w:World}{g:Nat}{x y b:Nat->Int}(h:JS a g x y w)(hx : ∀ i,i<54->x i=b i):JS a g b y w:=by
 unfold JS at *; rw[<- Mw hx]; exact h
def JSb(c:World)(g:Nat)(x y:Nat->Int)(b:Bool)(w':World):Prop := ∃ a,JS c g a y w'/\(b=false->a=x)
theorem JSb.a{b w:World}{g:Nat}{x y:Nat->Int}(h:JSb b g x y false w)(i:Nat)(hi:i<54):w.cell? ⟨g,i,none⟩=some (.int .i64 (x i)):=by
 obtain⟨c,h,e⟩:=h;rw[<- e rfl]; exact h.a i hi
attribute [local irreducible] Oper.wp wpList Code.wp
end
section
set_option maxHeartbeats 400000 in
theorem uV(is:Bool)(e:Int)(w:World) :
 Calls Tryz.prog 235 #[.bool is,.int .i64 e] w fun r w'=>r = .returned (.int .i64 (if is then e else 0))/\w'=w:=by
 cases is
 all_goals
  go_enter Tryz.func235,Tryz.ntmps235
  go_wp2
  go_ret
  exact⟨rfl,rfl⟩
def OH(r:(Nat->Int) × Int)(w:World)(e:Ending)(w':World):Prop :=
 e = .returned (.tuple #[.agg (aU .i64 54 r.1),.int .i64 r.2])/\Below w.heap.size w w'
theorem tT{c:Func}{p q:Tmp}(j:c.results = #[.cell p 82,.tmp q]){b w:World}{a:Act}{g:Nat}{r:(Nat->Int) × Int}(e:a.defers = [])
 (h:a.tmps.getD p undef = .pointer (some ⟨g,0,none⟩)) (i:a.tmps.getD q undef = .int .i64 r.2) (f:w.heap[g]? = some (.cells (aU .i64 54 r.1) 82 (0,0))) (d:Below b.heap.size b w) :
 bodyPost Tryz.prog c (OH r b) .ret a w :=
 bodyPost_ret (by rw[results_cell_tmp j a.tmps w g 82 _ (0,0) _ h f Tryz.underlying82 rfl (by rw[bB]; exact iW),i]) e ⟨rfl,d⟩
def RS2(x:Nat->Int)(g:Nat)(i n:Int)(w':World):Prop:=w'.heap[g]? = some (.cells (aU .i64 54 x) 82 (0,0))/\w'.cell? ⟨g+1,0,none⟩=some (.int .i64 i)/\w'.cell? ⟨g+1+1,0,none⟩=some (.int .i64 n)
theorem nW(i:Int):gW i=true<->1<=i/\i<=6:=by unfold gW; simp
attribute [local irreducible] Oper.wp wpList Code.wp
end
section
namespace Rt
def pW(x:Nat->Int)(i n:Int):Int:=if decide (fJ x i<n)then 11 else 0
def bD(x:Nat->Int)(i n:Int):(Nat->Int) × Int:=bT x n (gW i) (pW x i n) (6+(i.toNat-1))
theorem Ho(x:Nat->Int)(i:Int) : -(1125899906842624*8)<=fJ x i/\fJ x i<=1125899906842624*8:=by
 unfold fJ;split
 ·exact Qg x _
 omega
end Rt
attribute [local irreducible] Oper.wp wpList Code.wp in
set_option maxRecDepth 100000 in
set_option maxHeartbeats 1000000 in
theorem Qh(x:Nat->Int)(i n:Int)(g h hi:Nat)(w:World)(hn:1<=n/\n<=1125899906842624)(hib : -9223372036854775808<=i/\i<=9223372036854775807)(hx:Hid (w.heap[g]? = some (.cells (aU .i64 54 x) 82 (0,0))))(hc:w.cell? ⟨h,0,none⟩=some (.int .i64 n))(hci:w.cell? ⟨hi,0,none⟩=some (.int .i64 i)) :
 Calls Tryz.prog 234 #[.pointer (some ⟨h,0,none⟩),.pointer (some ⟨g,0,none⟩),.pointer (some ⟨hi,0,none⟩)] w fun e w'=>e = .returned (.int .i64 (pW x i n))/\Below w.heap.size w w':=by
 have HE:Hid (pW x i n=if decide (fJ x i<n)then 11 else 0):=rfl;have hb:=Ho x i;have hlh:=block_lt_of_cell hc;have Qi:=block_lt_of_cell hci;have Xc:g<w.heap.size:=(t_.1 hx.out).1
 dsimp only at hlh Qi
 have hB0:Below w.heap.size w w.drew:=je w 1;have hs:Hid (∀ w',Calls Tryz.prog 60 #[.agg (aU .i64 54 x),.int .i64 i] w' fun e w''=>e = .returned (.int .i64 (fJ x i))/\Below w'.heap.size w' w''):=fun w'=>wI x i w' hib;generalize fJ x i=s1 at *;by_cases hd:s1<n
 ·rw[f_ hd,d_ rfl]at HE
  go_enter Tryz.func234,Tryz.ntmps234
  go_upto_region 1 with (fail)
  rename_i K0 JU;refine wp_region_noPanic<|wp_region_held_drew (S:=Below w.heap.size w) (by kernel_rfl) hB0 fun hS => ?_;refine wT0 0 (.int .i64 n) rfl (fun w' hw=>?_) hS ?_
  ·have h2:=(hw.cell (p:=⟨h,0,none⟩) hlh).trans hc;clear hw hc hci
   go_simp
  refine wT0 1 (.agg (aU .i64 54 x)) rfl (fun w' hw=>?_) hS ?_
  ·exact jr 82 (.tmp 1) (by rfl) g (by rfl) 82 (aU .i64 54 x) (0,0) _ ((hw.block _ Xc).trans hx.out) Tryz.underlying82 (by rfl) (by rw[bB]; exact iW)
  refine wT0 2 (.int .i64 i) rfl (fun w' hw=>?_) hS ?_
  ·have h2:=(hw.cell (p:=⟨hi,0,none⟩) Qi).trans hci;clear hw hc hci
   go_simp
  refine wpAnyH_all (rs := [3]) (by kernel_rfl) (by decide) ?_;intro j hj;obtain rfl:j=3:=by simpa using hj
  refine wpOp_step rfl<|fun K hK => ?_;clear hj
  go_simp
  refine(hs.out _).mono ?_;rintro e w1 ⟨rfl,hb1⟩;have hS:=JN hS hb1;refine hK _ _ ⟨hS,?_⟩;clear hK K;refine wT0 4 (.bool true) rfl (fun w' hw=>?_) hS ?_
  ·clear hw hc hci
   go_simp
  refine wpAnyH_all (rs := [5]) (by kernel_rfl) (by decide) ?_;intro j hj;obtain rfl:j=5:=by simpa using hj
  refine wpOp_step rfl<|fun K hK => ?_;clear hj
  go_simp
  refine(uV _ _ _).mono ?_;rintro e w2 ⟨rfl,rfl⟩;refine hK _ _ ⟨hS,?_⟩;clear hK K;refine wT0 6 (.int .i64 11) rfl (fun w' hw=>?_) hS ?_
  ·clear hw hc hci
   go_simp
  refine wpAnyH_done (by kernel_rfl) ?_ _;refine JU _ _ ?_
  go_wp2
  go_ret
  rw[HE.out];exact⟨rfl,hS⟩
 rw[g_ hd,b_ (by decide)]at HE
 go_enter Tryz.func234,Tryz.ntmps234
 go_upto_region 1 with (fail)
 rename_i K0 JU;refine wp_region_noPanic<|wp_region_held_drew (S:=Below w.heap.size w) (by kernel_rfl) hB0 fun hS => ?_;refine wT0 0 (.int .i64 n) rfl (fun w' hw=>?_) hS ?_
 ·have h2:=(hw.cell (p:=⟨h,0,none⟩) hlh).trans hc;clear hw hc hci
  go_simp
 refine wT0 1 (.agg (aU .i64 54 x)) rfl (fun w' hw=>?_) hS ?_
 ·exact jr 82 (.tmp 1) (by rfl) g (by rfl) 82 (aU .i64 54 x) (0,0) _ ((hw.block _ Xc).trans hx.out) Tryz.underlying82 (by rfl) (by rw[bB]; exact iW)
 refine wT0 2 (.int .i64 i) rfl (fun w' hw=>?_) hS ?_
 ·have h2:=(hw.cell (p:=⟨hi,0,none⟩) Qi).trans hci;clear hw hc hci
  go_simp
 refine wpAnyH_all (rs := [3]) (by kernel_rfl) (by decide) ?_;intro j hj;obtain rfl:j=3:=by simpa using hj
 refine wpOp_step rfl<|fun K hK => ?_;clear hj
 go_simp
 refine(hs.out _).mono ?_;rintro e w1 ⟨rfl,hb1⟩;have hS:=JN hS hb1;refine hK _ _ ⟨hS,?_⟩;clear hK K;refine wT0 4 (.bool false) rfl (fun w' hw=>?_) hS ?_
 ·clear hw hc hci
  go_simp
 refine wpAnyH_all (rs := [5]) (by kernel_rfl) (by decide) ?_;intro j hj;obtain rfl:j=5:=by simpa using hj
 refine wpOp_step rfl<|fun K hK => ?_;clear hj
 go_simp
 refine(uV _ _ _).mono ?_;rintro e w2 ⟨rfl,rfl⟩;refine hK _ _ ⟨hS,?_⟩;clear hK K;refine wT0 6 (.int .i64 0) rfl (fun w' hw=>?_) hS ?_
 ·clear hw hc hci
  go_simp
 refine wpAnyH_done (by kernel_rfl) ?_ _;refine JU _ _ ?_
 go_wp2
 go_ret
 rw[HE.out];exact⟨rfl,hS⟩
set_option maxHeartbeats 400000 in
theorem Qj(g h:Nat)(i:Int)(w:World)(hi:1<=i/\i<=6)(hc:w.cell? ⟨h,0,none⟩=some (.int .i64 i)) :
 Calls Tryz.prog 236 #[.pointer (some ⟨g,0,none⟩),.pointer (some ⟨h,0,none⟩)] w fun e w'=>e = .returned (.pointer (some ⟨g,6+(i.toNat-1),none⟩))/\Below w.heap.size w w':=by
 obtain⟨k,hk⟩:=Int.eq_ofNat_of_zero_le (show 0<=i-1 by omega);obtain rfl:i=(k:Int)+1:=by omega
 have hk6:(k:Int)<6:=by omega
 have HE:Hid (((k:Int)+1).toNat-1=k):=by unfold Hid; omega
 clear hk
 go_enter Tryz.func236,Tryz.ntmps236
 go_wp2_with fail
 go_quiet (fail)
 go_wp2
 go_ret
 rw[HE.out];exact⟨rfl,bN (Below.refl _ _) _⟩
theorem TQ(args:Array Value)(w:World):(callFunc 234 args).run Tryz.prog w = .ok (.enter 234 args) w:=jZ Tryz.func234 rfl rfl args w
theorem TR(args:Array Value)(w:World):(callFunc 236 args).run Tryz.prog w = .ok (.enter 236 args) w:=jZ Tryz.func236 rfl rfl args w
attribute [local irreducible] Oper.wp wpList Code.wp
set_option maxRecDepth 100000 in
set_option maxHeartbeats 1000000 in
theorem TS(x:Nat->Int)(i n:Int)(w:World)(hi : -9223372036854775808<=i/\i<=9223372036854775807) :
 Calls Tryz.prog 221 #[.agg (aU .i64 54 x),.int .i64 i,.int .i64 n] w (OH (bD x i n) w):=by
 have hmf : ∀(fn:Fn) (first cap:Array Value) (w:World),(Instr.makeFunc fn first cap).run Tryz.prog w = .ok (.func fn first cap) w:=fun _ _ _ _=>rfl
 go_enter Tryz.func221,Tryz.ntmps221
 go_upto_region 1 with (fail)
 rename_i K0 JU;rw[<- pG];have ha:=RD w (.cells (aU .i64 54 x) 82) (.cells #[.int .i64 i] 3) (.cells #[.int .i64 n] 2) (.cells (aU .i64 54 zero) 82);generalize (((w.alloc (.cells (aU .i64 54 x) 82)).alloc (.cells #[.int .i64 i] 3)).alloc (.cells #[.int .i64 n] 2)).alloc (.cells (aU .i64 54 zero) 82)=W at *;obtain⟨hx,hI,hN,hz,hs,hB⟩:=ha;have cI:=rO hI;have cN:=rO hN;have Hx:Hid _:=hx;have Hz:Hid _:=hz;have HI:Hid _:=hI;have HN:Hid _:=hN;have Hs:Hid _:=hs;clear hx hz hI hN hs;refine wp_region_noPanic<|wp_region_held_drew (S:=RS2 x w.heap.size i n) (by kernel_rfl) ⟨Hx.out,cI,cN⟩ fun hS => ?_;refine wT0 0 (.agg (aU .i64 54 x)) rfl (fun w' hw=>?_) hS ?_
 ·exact jr 82 (.tmp 3) (by rfl) w.heap.size (by rfl) 82 (aU .i64 54 x) (0,0) _ hw.1 Tryz.underlying82 (by rfl) (by rw[bB]; exact iW)
 refine wT0 1 (.int .i64 n) rfl (fun w' hw=>?_) hS ?_
 ·have h2:=hw.2.2
  go_simp
 refine wT0 2 (.int .i64 i) rfl (fun w' hw=>?_) hS ?_
 ·have h2:=hw.2.1;have h3:=hw.2.2;clear hw
  go_simp
 refine wT0 4 (.func (.func 234) #[] #[.pointer (some ⟨w.heap.size+1+1,0,none⟩),.pointer (some ⟨w.heap.size,0,none⟩),.pointer (some ⟨w.heap.size+1,0,none⟩)]) rfl (fun w' hw=>?_) hS ?_
 ·have h2:=hw.2.1;have h3:=hw.2.2;clear hw
  go_simp
 refine wT0 5 (.func (.func 236) #[] #[.pointer (some ⟨w.heap.size+1,0,none⟩)]) rfl (fun w' hw=>?_) hS ?_
 ·have h2:=hw.2.1;have h3:=hw.2.2;clear hw
  go_simp
 refine wpAnyH_all (rs := [3]) (by kernel_rfl) (by decide) ?_;intro j hj;obtain rfl:j=3:=by simpa using hj
 refine wpOp_step rfl<|fun K hK => ?_;clear hj
 go_simp
 refine(sw i _ hi).mono ?_;rintro e w' ⟨rfl,rfl⟩;refine hK _ _ ⟨hS,?_⟩;clear hK K;refine wpAnyH_all (rs := [6]) (by kernel_rfl) (by decide) ?_;intro j hj;obtain rfl:j=6:=by simpa using hj
 refine wpOp_step rfl<|fun K hK => ?_;clear hj
 go_simp
 have hlx:w.heap.size<W.drew.heap.size:=(t_.1 hS.1).1;have XM:=block_lt_of_cell hS.2.1;have hlN:=block_lt_of_cell hS.2.2
 dsimp only at XM hlN
 refine(wJ x n (gW i) 234 236 _ _ (pW x i n) (6+(i.toNat-1)) W.drew ?o1 ?o2 TQ TR ?o3 ?o4).mono ?_
 case o1=>intro h; have:=(nW i).1 h; omega
 case o2=>intro h hm; have:=(nW i).1 h; exact(wH hm (i.toNat-1) (by omega)).c
 case o3 =>
  intro hm h1 h2 h3 w' hb;exact Qh x i n _ _ _ w' ⟨h1,h2⟩ hi ((hb.block _ hlx).trans hS.1) ((hb.cell (p:=⟨w.heap.size+1+1,0,none⟩) hlN).trans hS.2.2) ((hb.cell (p:=⟨w.heap.size+1,0,none⟩) XM).trans hS.2.1)
 case o4 =>
  intro h w' g hb;exact Qj g _ i w' ((nW i).1 h) ((hb.cell (p:=⟨w.heap.size+1,0,none⟩) XM).trans hS.2.1)
 rintro e w2 ⟨rfl,hb2⟩;have hHR:Hid (bD x i n=bT x n (gW i) (pW x i n) (6+(i.toNat-1))):=rfl;generalize bT x n (gW i) (pW x i n) (6+(i.toNat-1))=r at *;have hS2:RS2 x w.heap.size i n w2:=⟨(hb2.block _ hlx).trans hS.1,(hb2.cell (p:=⟨w.heap.size+1,0,none⟩) XM).trans hS.2.1,(hb2.cell (p:=⟨w.heap.size+1+1,0,none⟩) hlN).trans hS.2.2⟩;have hz2:Hid (w2.heap[w.heap.size+1+1+1]? = some (.cells (aU .i64 54 zero) 82 (0,0))):=(hb2.block _ (by show _<W.heap.size; have:=Hs.out; omega)).trans Hz.out;have hB2:Below w.heap.size w w2:=hB.trans ((bdr hb2).mono hB.size);refine hK _ _ ⟨hS2,?_⟩;clear hK K hS hb2;refine wT0 7 (.agg (aU .i64 54 r.1)) rfl (fun w' hw=>?_) hS2 ?_
 ·clear hw
  go_simp
 refine wT0 8 (.int .i64 r.2) rfl (fun w' hw=>?_) hS2 ?_
 ·clear hw
  go_simp
 refine wpAnyH_all (rs := [9]) (by kernel_rfl) (by decide) ?_;intro j hj;obtain rfl:j=9:=by simpa using hj
 clear hj;refine vT (by rfl) (by rfl)<|fun K hK => ?_;refine wp_store_row 82 (.tmp 6) (.tmp 15) (by rfl) (w.heap.size+1+1+1) (aU .i64 54 r.1) (by rfl) (by rfl) 82 (aU .i64 54 zero) hz2.out (by rw[bB]; exact iW) (by rw[bB,bB]) (kU _ _ _) ?_;have hend:=iR hB2 (by omega) hz2.out r.1;have hS3:RS2 x w.heap.size i n (w2.setRow (w.heap.size+1+1+1) (aU .i64 54 r.1)):=⟨(setRow_other _ _ _ _ (by omega)).trans hS2.1,(World.cell?_of_block (setRow_other _ _ _ _ (by show w.heap.size+1≠_; omega))).trans hS2.2.1,(World.cell?_of_block (setRow_other _ _ _ _ (by show w.heap.size+1+1≠_; omega))).trans hS2.2.2⟩;refine hK _ _ ⟨hS3,?_⟩;clear hK K hz2 hB2 hS2;generalize w2.setRow (w.heap.size+1+1+1) (aU .i64 54 r.1)=w3 at *;refine wT0 10 (.int .i64 r.2) rfl (fun w' hw=>?_) hS3 ?_
 ·clear hw
  go_simp
 refine wpAnyH_done (by kernel_rfl) ?_ _;refine JU _ _<|wp_ret ?_;rw[hHR.out];exact tT (p:=6) (q:=7) (by kernel_rfl) (by kernel_rfl) (by kernel_rfl) (by kernel_rfl) hend.1 hend.2
end
section
namespace Rt
def qL(x:Nat->Int)(i n:Int):Int:=if decide (C x (i.toNat-1)-F x (i.toNat-1)<n)then 12 else 0
def bH(x:Nat->Int)(i n:Int):(Nat->Int) × Int:=bT x n (gW i) (qL x i n) (12+(i.toNat-1))
end Rt
attribute [local irreducible] Oper.wp wpList Code.wp in
set_option maxRecDepth 100000 in
set_option maxHeartbeats 1000000 in
theorem Qk(x:Nat->Int)(i n:Int)(g h hi:Nat)(w:World)(hn:1<=n/\n<=1125899906842624)(hib:1<=i/\i<=6)(hm:may x=true)(hx:Hid (w.heap[g]? = some (.cells (aU .i64 54 x) 82 (0,0))))(hc:w.cell? ⟨h,0,none⟩=some (.int .i64 n))(hci:w.cell? ⟨hi,0,none⟩=some (.int .i64 i)) :
 Calls Tryz.prog 237 #[.pointer (some ⟨h,0,none⟩),.pointer (some ⟨g,0,none⟩),.pointer (some ⟨hi,0,none⟩)] w fun e w'=>e = .returned (.int .i64 (qL x i n))/\Below w.heap.size w w':=by
 obtain⟨k,hk⟩:=Int.eq_ofNat_of_zero_le (show 0<=i-1 by omega);obtain rfl:i=(k:Int)+1:=by omega
 have hk6:k<6:=by omega
 have ho:=wH hm k hk6;have h1:=ho.c;have h2:=ho.f;have h3:=ho.fc;have c6:w.cell? ⟨g,6+k,none⟩=some (.int .i64 (C x k)):=fZ hx.out (6+k) (by omega);have c12:w.cell? ⟨g,12+k,none⟩=some (.int .i64 (F x k)):=fZ hx.out (12+k) (by omega);have HE:Hid (qL x ((k:Int)+1) n=if decide (C x k-F x k<n)then 12 else 0):=by
  unfold Hid qL;rw[show((k:Int)+1).toNat-1=k by omega]
 clear ho hm hk;generalize C x k=c at *;generalize F x k=f at *;have hlh:=block_lt_of_cell hc;have Qi:=block_lt_of_cell hci;have Xc:g<w.heap.size:=(t_.1 hx.out).1
 dsimp only at hlh Qi
 have hB0:Below w.heap.size w w.drew:=je w 1;by_cases hd:c-f<n
 ·rw[f_ hd,d_ rfl]at HE
  go_enter Tryz.func237,Tryz.ntmps237
  go_upto_region 1 with (fail)
  rename_i K0 JU;refine wp_region_noPanic<|wp_region_held_drew (S:=Below w.heap.size w) (by kernel_rfl) hB0 fun hS => ?_;refine wT0 0 (.int .i64 n) rfl (fun w' hw=>?_) hS ?_
  ·have h2:=(hw.cell (p:=⟨h,0,none⟩) hlh).trans hc;clear hw hc hci
   go_simp
  refine wT0 1 (.int .i64 ((k:Int)+1)) rfl (fun w' hw=>?_) hS ?_
  ·have h2:=(hw.cell (p:=⟨hi,0,none⟩) Qi).trans hci;clear hw hc hci
   go_simp
  refine wT0 2 (.int .i64 (k:Int)) rfl (fun w' hw=>?_) hS ?_
  ·clear hw hc hci
   go_simp
   exact IntWalk.i64_in _ (by omega)
  refine wT0 3 (.pointer (some ⟨g,6,none⟩)) rfl (fun w' hw=>?_) hS ?_
  ·clear hw hc hci
   go_simp
  refine wT0 4 (.pointer (some ⟨g,6+k,none⟩)) rfl (fun w' hw=>?_) hS ?_
  ·have hk7:(k:Int)<6:=(by omega);clear hw hc hci
   go_simp
  refine wT0 5 (.int .i64 c) rfl (fun w' hw=>?_) hS ?_
  ·have h2:=(hw.cell (p:=⟨g,6+k,none⟩) Xc).trans c6;clear hw hc hci
   go_simp
  refine wT0 6 (.int .i64 ((k:Int)+1)) rfl (fun w' hw=>?_) hS ?_
  ·have h2:=(hw.cell (p:=⟨hi,0,none⟩) Qi).trans hci;clear hw hc hci
   go_simp
  refine wT0 7 (.int .i64 (k:Int)) rfl (fun w' hw=>?_) hS ?_
  ·clear hw hc hci
   go_simp
   exact IntWalk.i64_in _ (by omega)
  refine wT0 8 (.pointer (some ⟨g,12,none⟩)) rfl (fun w' hw=>?_) hS ?_
  ·clear hw hc hci
   go_simp
  refine wT0 9 (.pointer (some ⟨g,12+k,none⟩)) rfl (fun w' hw=>?_) hS ?_
  ·have hk7:(k:Int)<6:=(by omega);clear hw hc hci
   go_simp
  refine wT0 10 (.int .i64 f) rfl (fun w' hw=>?_) hS ?_
  ·have h2:=(hw.cell (p:=⟨g,12+k,none⟩) Xc).trans c12;clear hw hc hci
   go_simp
  refine wT0 11 (.int .i64 (c-f)) rfl (fun w' hw=>?_) hS ?_
  ·clear hw hc hci
   go_simp
   exact IntWalk.i64_in _ (by omega)
  refine wT0 12 (.bool true) rfl (fun w' hw=>?_) hS ?_
  ·clear hw hc hci
   go_simp
  refine wpAnyH_all (rs := [13]) (by kernel_rfl) (by decide) ?_;intro j hj;obtain rfl:j=13:=by simpa using hj
  refine wpOp_step rfl<|fun K hK => ?_;clear hj
  go_simp
  refine(uV _ _ _).mono ?_;rintro e w2 ⟨rfl,rfl⟩;refine hK _ _ ⟨hS,?_⟩;clear hK K;refine wT0 14 (.int .i64 12) rfl (fun w' hw=>?_) hS ?_
  ·clear hw hc hci
   go_simp
  refine wpAnyH_done (by kernel_rfl) ?_ _;refine JU _ _ ?_
  go_wp2
  go_ret
  rw[HE.out];exact⟨rfl,hS⟩
 rw[g_ hd,b_ (by decide)]at HE
 go_enter Tryz.func237,Tryz.ntmps237
 go_upto_region 1 with (fail)
 rename_i K0 JU;refine wp_region_noPanic<|wp_region_held_drew (S:=Below w.heap.size w) (by kernel_rfl) hB0 fun hS => ?_;refine wT0 0 (.int .i64 n) rfl (fun w' hw=>?_) hS ?_
 ·have h2:=(hw.cell (p:=⟨h,0,none⟩) hlh).trans hc;clear hw hc hci
  go_simp
 refine wT0 1 (.int .i64 ((k:Int)+1)) rfl (fun w' hw=>?_) hS ?_
 ·have h2:=(hw.cell (p:=⟨hi,0,none⟩) Qi).trans hci;clear hw hc hci
  go_simp
 refine wT0 2 (.int .i64 (k:Int)) rfl (fun w' hw=>?_) hS ?_
 ·clear hw hc hci
  go_simp
  exact IntWalk.i64_in _ (by omega)
 refine wT0 3 (.pointer (some ⟨g,6,none⟩)) rfl (fun w' hw=>?_) hS ?_
 ·clear hw hc hci
  go_simp
 refine wT0 4 (.pointer (some ⟨g,6+k,none⟩)) rfl (fun w' hw=>?_) hS ?_
 ·have hk7:(k:Int)<6:=by omega
  clear hw hc hci
  go_simp
 refine wT0 5 (.int .i64 c) rfl (fun w' hw=>?_) hS ?_
 ·have h2:=(hw.cell (p:=⟨g,6+k,none⟩) Xc).trans c6;clear hw hc hci
  go_simp
 refine wT0 6 (.int .i64 ((k:Int)+1)) rfl (fun w' hw=>?_) hS ?_
 ·have h2:=(hw.cell (p:=⟨hi,0,none⟩) Qi).trans hci;clear hw hc hci
  go_simp
 refine wT0 7 (.int .i64 (k:Int)) rfl (fun w' hw=>?_) hS ?_
 ·clear hw hc hci
  go_simp
  exact IntWalk.i64_in _ (by omega)
 refine wT0 8 (.pointer (some ⟨g,12,none⟩)) rfl (fun w' hw=>?_) hS ?_
 ·clear hw hc hci
  go_simp
 refine wT0 9 (.pointer (some ⟨g,12+k,none⟩)) rfl (fun w' hw=>?_) hS ?_
 ·have hk7:(k:Int)<6:=by omega
  clear hw hc hci
  go_simp
 refine wT0 10 (.int .i64 f) rfl (fun w' hw=>?_) hS ?_
 ·have h2:=(hw.cell (p:=⟨g,12+k,none⟩) Xc).trans c12;clear hw hc hci
  go_simp
 refine wT0 11 (.int .i64 (c-f)) rfl (fun w' hw=>?_) hS ?_
 ·clear hw hc hci
  go_simp
  exact IntWalk.i64_in _ (by omega)
 refine wT0 12 (.bool false) rfl (fun w' hw=>?_) hS ?_
 ·clear hw hc hci
  go_simp
 refine wpAnyH_all (rs := [13]) (by kernel_rfl) (by decide) ?_;intro j hj;obtain rfl:j=13:=by simpa using hj
 refine wpOp_step rfl<|fun K hK => ?_;clear hj
 go_simp
 refine(uV _ _ _).mono ?_;rintro e w2 ⟨rfl,rfl⟩;refine hK _ _ ⟨hS,?_⟩;clear hK K;refine wT0 14 (.int .i64 0) rfl (fun w' hw=>?_) hS ?_
 ·clear hw hc hci
  go_simp
 refine wpAnyH_done (by kernel_rfl) ?_ _;refine JU _ _ ?_
 go_wp2
 go_ret
 rw[HE.out];exact⟨rfl,hS⟩
attribute [local irreducible] Oper.wp wpList Code.wp
set_option maxHeartbeats 400000 in
theorem Ql(g h:Nat)(i:Int)(w:World)(hi:1<=i/\i<=6)(hc:w.cell? ⟨h,0,none⟩=some (.int .i64 i)) :
 Calls Tryz.prog 238 #[.pointer (some ⟨g,0,none⟩),.pointer (some ⟨h,0,none⟩)] w fun e w'=>e = .returned (.pointer (some ⟨g,12+(i.toNat-1),none⟩))/\Below w.heap.size w w':=by
 obtain⟨k,hk⟩:=Int.eq_ofNat_of_zero_le (show 0<=i-1 by omega);obtain rfl:i=(k:Int)+1:=by omega
 have hk6:(k:Int)<6:=by omega
 have HE:Hid (((k:Int)+1).toNat-1=k):=by unfold Hid; omega
 clear hk
 go_enter Tryz.func238,Tryz.ntmps238
 go_wp2_with fail
 go_quiet (fail)
 go_wp2
 go_ret
 rw[HE.out];exact⟨rfl,bN (Below.refl _ _) _⟩
theorem TT(args:Array Value)(w:World):(callFunc 237 args).run Tryz.prog w = .ok (.enter 237 args) w:=jZ Tryz.func237 rfl rfl args w
theorem TU(args:Array Value)(w:World):(callFunc 238 args).run Tryz.prog w = .ok (.enter 238 args) w:=jZ Tryz.func238 rfl rfl args w
set_option maxRecDepth 100000 in
set_option maxHeartbeats 1000000 in
theorem TV(x:Nat->Int)(i n:Int)(w:World)(hi : -9223372036854775808<=i/\i<=9223372036854775807) :
 Calls Tryz.prog 224 #[.agg (aU .i64 54 x),.int .i64 i,.int .i64 n] w (OH (bH x i n) w):=by
 have hmf : ∀(fn:Fn) (first cap:Array Value) (w:World),(Instr.makeFunc fn first cap).run Tryz.prog w = .ok (.func fn first cap) w:=fun _ _ _ _=>rfl
 go_enter Tryz.func224,Tryz.ntmps224
 go_upto_region 1 with (fail)
 rename_i K0 JU;rw[<- pG];have ha:=RD w (.cells (aU .i64 54 x) 82) (.cells #[.int .i64 i] 3) (.cells #[.int .i64 n] 2) (.cells (aU .i64 54 zero) 82);generalize (((w.alloc (.cells (aU .i64 54 x) 82)).alloc (.cells #[.int .i64 i] 3)).alloc (.cells #[.int .i64 n] 2)).alloc (.cells (aU .i64 54 zero) 82)=W at *;obtain⟨hx,hI,hN,hz,hs,hB⟩:=ha;have cI:=rO hI;have cN:=rO hN;have Hx:Hid _:=hx;have Hz:Hid _:=hz;have HI:Hid _:=hI;have HN:Hid _:=hN;have Hs:Hid _:=hs;clear hx hz hI hN hs;refine wp_region_noPanic<|wp_region_held_drew (S:=RS2 x w.heap.size i n) (by kernel_rfl) ⟨Hx.out,cI,cN⟩ fun hS => ?_;refine wT0 0 (.agg (aU .i64 54 x)) rfl (fun w' hw=>?_) hS ?_
 ·exact jr 82 (.tmp 3) (by rfl) w.heap.size (by rfl) 82 (aU .i64 54 x) (0,0) _ hw.1 Tryz.underlying82 (by rfl) (by rw[bB]; exact iW)
 refine wT0 1 (.int .i64 n) rfl (fun w' hw=>?_) hS ?_
 ·have h2:=hw.2.2
  go_simp
 refine wT0 2 (.int .i64 i) rfl (fun w' hw=>?_) hS ?_
 ·have h2:=hw.2.1;have h3:=hw.2.2;clear hw
  go_simp
 refine wT0 4 (.func (.func 237) #[] #[.pointer (some ⟨w.heap.size+1+1,0,none⟩),.pointer (some ⟨w.heap.size,0,none⟩),.pointer (some ⟨w.heap.size+1,0,none⟩)]) rfl (fun w' hw=>?_) hS ?_
 ·have h2:=hw.2.1;have h3:=hw.2.2;clear hw
  go_simp
 refine wT0 5 (.func (.func 238) #[] #[.pointer (some ⟨w.heap.size+1,0,none⟩)]) rfl (fun w' hw=>?_) hS ?_
 ·have h2:=hw.2.1;have h3:=hw.2.2;clear hw
  go_simp
 refine wpAnyH_all (rs := [3]) (by kernel_rfl) (by decide) ?_;intro j hj;obtain rfl:j=3:=by simpa using hj
 refine wpOp_step rfl<|fun K hK => ?_;clear hj
 go_simp
 refine(sw i _ hi).mono ?_;rintro e w' ⟨rfl,rfl⟩;refine hK _ _ ⟨hS,?_⟩;clear hK K;refine wpAnyH_all (rs := [6]) (by kernel_rfl) (by decide) ?_;intro j hj;obtain rfl:j=6:=by simpa using hj
 refine wpOp_step rfl<|fun K hK => ?_;clear hj
 go_simp
 have hlx:w.heap.size<W.drew.heap.size:=(t_.1 hS.1).1;have XM:=block_lt_of_cell hS.2.1;have hlN:=block_lt_of_cell hS.2.2
 dsimp only at XM hlN
 refine(wJ x n (gW i) 237 238 _ _ (qL x i n) (12+(i.toNat-1)) W.drew ?o1 ?o2 TT TU ?o3 ?o4).mono ?_
 case o1=>intro h; have:=(nW i).1 h; omega
 case o2=>intro h hm; have:=(nW i).1 h; exact(wH hm (i.toNat-1) (by omega)).f
 case o3 =>
  intro hm h1 h2 h3 w' hb;exact Qk x i n _ _ _ w' ⟨h1,h2⟩ ((nW i).1 h3) hm ((hb.block _ hlx).trans hS.1) ((hb.cell (p:=⟨w.heap.size+1+1,0,none⟩) hlN).trans hS.2.2) ((hb.cell (p:=⟨w.heap.size+1,0,none⟩) XM).trans hS.2.1)
 case o4 =>
  intro h w' g hb;exact Ql g _ i w' ((nW i).1 h) ((hb.cell (p:=⟨w.heap.size+1,0,none⟩) XM).trans hS.2.1)
 rintro e w2 ⟨rfl,hb2⟩;have hHR:Hid (bH x i n=bT x n (gW i) (qL x i n) (12+(i.toNat-1))):=rfl;generalize bT x n (gW i) (qL x i n) (12+(i.toNat-1))=r at *;have hS2:RS2 x w.heap.size i n w2:=⟨(hb2.block _ hlx).trans hS.1,(hb2.cell (p:=⟨w.heap.size+1,0,none⟩) XM).trans hS.2.1,(hb2.cell (p:=⟨w.heap.size+1+1,0,none⟩) hlN).trans hS.2.2⟩;have hz2:Hid (w2.heap[w.heap.size+1+1+1]? = some (.cells (aU .i64 54 zero) 82 (0,0))):=(hb2.block _ (by show _<W.heap.size; have:=Hs.out; omega)).trans Hz.out;have hB2:Below w.heap.size w w2:=hB.trans ((bdr hb2).mono hB.size);refine hK _ _ ⟨hS2,?_⟩;clear hK K hS hb2;refine wT0 7 (.agg (aU .i64 54 r.1)) rfl (fun w' hw=>?_) hS2 ?_
 ·clear hw
  go_simp
 refine wT0 8 (.int .i64 r.2) rfl (fun w' hw=>?_) hS2 ?_
 ·clear hw
  go_simp
 refine wpAnyH_all (rs := [9]) (by kernel_rfl) (by decide) ?_;intro j hj;obtain rfl:j=9:=by simpa using hj
 clear hj;refine vT (by rfl) (by rfl)<|fun K hK => ?_;refine wp_store_row 82 (.tmp 6) (.tmp 15) (by rfl) (w.heap.size+1+1+1) (aU .i64 54 r.1) (by rfl) (by rfl) 82 (aU .i64 54 zero) hz2.out (by rw[bB]; exact iW) (by rw[bB,bB]) (kU _ _ _) ?_;have hend:=iR hB2 (by omega) hz2.out r.1;have hS3:RS2 x w.heap.size i n (w2.setRow (w.heap.size+1+1+1) (aU .i64 54 r.1)):=⟨(setRow_other _ _ _ _ (by omega)).trans hS2.1,(World.cell?_of_block (setRow_other _ _ _ _ (by show w.heap.size+1≠_; omega))).trans hS2.2.1,(World.cell?_of_block (setRow_other _ _ _ _ (by show w.heap.size+1+1≠_; omega))).trans hS2.2.2⟩;refine hK _ _ ⟨hS3,?_⟩;clear hK K hz2 hB2 hS2;generalize w2.setRow (w.heap.size+1+1+1) (aU .i64 54 r.1)=w3 at *;refine wT0 10 (.int .i64 r.2) rfl (fun w' hw=>?_) hS3 ?_
 ·clear hw
  go_simp
 refine wpAnyH_done (by kernel_rfl) ?_ _;refine JU _ _<|wp_ret ?_;rw[hHR.out];exact tT (p:=6) (q:=7) (by kernel_rfl) (by kernel_rfl) (by kernel_rfl) (by kernel_rfl) hend.1 hend.2
end
namespace Rt
def nX(x:Nat->Int)(i j n:Int):Int:=if i=j then 1 else if decide (fJ x i<n)then 11 else 0
def kY(i j:Int):Nat:=18+(i.toNat-1)*6+(j.toNat-1)
def dn(x:Nat->Int)(i j n:Int):(Nat->Int) × Int:=bT x n (gW i&&gW j) (nX x i j n) (kY i j)
end Rt
attribute [local irreducible] Oper.wp wpList Code.wp in
set_option maxRecDepth 100000 in
set_option maxHeartbeats 1000000 in
theorem Hq(x:Nat->Int)(i j0 n:Int)(g h hi hj:Nat)(w:World)(hn:1<=n/\n<=1125899906842624)(hib : -9223372036854775808<=i/\i<=9223372036854775807)(hjb : -9223372036854775808<=j0/\j0<=9223372036854775807)(hx:Hid (w.heap[g]? = some (.cells (aU .i64 54 x) 82 (0,0))))(hc:w.cell? ⟨h,0,none⟩=some (.int .i64 n))(hci:w.cell? ⟨hi,0,none⟩=some (.int .i64 i))(hcj:w.cell? ⟨hj,0,none⟩=some (.int .i64 j0)) :
 Calls Tryz.prog 239 #[.pointer (some ⟨hi,0,none⟩),.pointer (some ⟨hj,0,none⟩),.pointer (some ⟨h,0,none⟩),.pointer (some ⟨g,0,none⟩)] w fun e w'=>e = .returned (.int .i64 (nX x i j0 n))/\Below w.heap.size w w':=by
 have HE:Hid (nX x i j0 n=if i=j0 then 1 else if decide (fJ x i<n)then 11 else 0):=rfl;have hb:=Ho x i;have hlh:=block_lt_of_cell hc;have Qi:=block_lt_of_cell hci;have Xc:g<w.heap.size:=(t_.1 hx.out).1
 dsimp only at hlh Qi
 have hB0:Below w.heap.size w w.drew:=je w 1;have hs:Hid (∀ w',Calls Tryz.prog 60 #[.agg (aU .i64 54 x),.int .i64 i] w' fun e w''=>e = .returned (.int .i64 (fJ x i))/\Below w'.heap.size w' w''):=fun w'=>wI x i w' hib;generalize fJ x i=s1 at *;by_cases he:i=j0
 ·rw[d_ he]at HE;subst he
  go_enter Tryz.func239,Tryz.ntmps239
  go_wp2
  go_ret
  rw[HE.out];exact⟨rfl,Below.refl _ _⟩
 rw[b_ he]at HE;have hne:(i==j0)=false:=by simpa using he
 clear he;by_cases hd:s1<n
 ·rw[f_ hd,d_ rfl]at HE
  go_enter Tryz.func239,Tryz.ntmps239
  go_upto_region 3 with (fail)
  rename_i K0 JU;refine wp_region_noPanic<|wp_region_held_drew (S:=Below w.heap.size w) (by kernel_rfl) hB0 fun hS => ?_;refine wT0 0 (.int .i64 n) rfl (fun w' hw=>?_) hS ?_
  ·have h2:=(hw.cell (p:=⟨h,0,none⟩) hlh).trans hc;clear hw hc hci
   go_simp
  refine wT0 1 (.agg (aU .i64 54 x)) rfl (fun w' hw=>?_) hS ?_
  ·exact jr 82 (.tmp 3) (by rfl) g (by rfl) 82 (aU .i64 54 x) (0,0) _ ((hw.block _ Xc).trans hx.out) Tryz.underlying82 (by rfl) (by rw[bB]; exact iW)
  refine wT0 2 (.int .i64 i) rfl (fun w' hw=>?_) hS ?_
  ·have h2:=(hw.cell (p:=⟨hi,0,none⟩) Qi).trans hci;clear hw hc hci
   go_simp
  refine wpAnyH_all (rs := [3]) (by kernel_rfl) (by decide) ?_;intro j hj;obtain rfl:j=3:=by simpa using hj
  refine wpOp_step rfl<|fun K hK => ?_;clear hj
  go_simp
  refine(hs.out _).mono ?_;rintro e w1 ⟨rfl,hb1⟩;have hS:=JN hS hb1;refine hK _ _ ⟨hS,?_⟩;clear hK K;refine wT0 4 (.bool true) rfl (fun w' hw=>?_) hS ?_
  ·clear hw hc hci
   go_simp
  refine wpAnyH_all (rs := [5]) (by kernel_rfl) (by decide) ?_;intro j hj;obtain rfl:j=5:=by simpa using hj
  refine wpOp_step rfl<|fun K hK => ?_;clear hj
  go_simp
  refine(uV _ _ _).mono ?_;rintro e w2 ⟨rfl,rfl⟩;refine hK _ _ ⟨hS,?_⟩;clear hK K;refine wT0 6 (.int .i64 11) rfl (fun w' hw=>?_) hS ?_
  ·clear hw hc hci
   go_simp
  refine wpAnyH_done (by kernel_rfl) ?_ _;refine JU _ _ ?_
  go_wp2
  go_ret
  rw[HE.out];exact⟨rfl,hS⟩
 rw[g_ hd,b_ (by decide)]at HE
 go_enter Tryz.func239,Tryz.ntmps239
 go_upto_region 3 with (fail)
 rename_i K0 JU;refine wp_region_noPanic<|wp_region_held_drew (S:=Below w.heap.size w) (by kernel_rfl) hB0 fun hS => ?_;refine wT0 0 (.int .i64 n) rfl (fun w' hw=>?_) hS ?_
 ·have h2:=(hw.cell (p:=⟨h,0,none⟩) hlh).trans hc;clear hw hc hci
  go_simp
 refine wT0 1 (.agg (aU .i64 54 x)) rfl (fun w' hw=>?_) hS ?_
 ·exact jr 82 (.tmp 3) (by rfl) g (by rfl) 82 (aU .i64 54 x) (0,0) _ ((hw.block _ Xc).trans hx.out) Tryz.underlying82 (by rfl) (by rw[bB]; exact iW)
 refine wT0 2 (.int .i64 i) rfl (fun w' hw=>?_) hS ?_
 ·have h2:=(hw.cell (p:=⟨hi,0,none⟩) Qi).trans hci;clear hw hc hci
  go_simp
 refine wpAnyH_all (rs := [3]) (by kernel_rfl) (by decide) ?_;intro j hj;obtain rfl:j=3:=by simpa using hj
 refine wpOp_step rfl<|fun K hK => ?_;clear hj
 go_simp
 refine(hs.out _).mono ?_;rintro e w1 ⟨rfl,hb1⟩;have hS:=JN hS hb1;refine hK _ _ ⟨hS,?_⟩;clear hK K;refine wT0 4 (.bool false) rfl (fun w' hw=>?_) hS ?_
 ·clear hw hc hci
  go_simp
 refine wpAnyH_all (rs := [5]) (by kernel_rfl) (by decide) ?_;intro j hj;obtain rfl:j=5:=by simpa using hj
 refine wpOp_step rfl<|fun K hK => ?_;clear hj
 go_simp
 refine(uV _ _ _).mono ?_;rintro e w2 ⟨rfl,rfl⟩;refine hK _ _ ⟨hS,?_⟩;clear hK K;refine wT0 6 (.int .i64 0) rfl (fun w' hw=>?_) hS ?_
 ·clear hw hc hci
  go_simp
 refine wpAnyH_done (by kernel_rfl) ?_ _;refine JU _ _ ?_
 go_wp2
 go_ret
 rw[HE.out];exact⟨rfl,hS⟩
set_option maxHeartbeats 400000 in
theorem Hr(g h1 h2:Nat)(i j:Int)(w:World)(hi:1<=i/\i<=6)(hj:1<=j/\j<=6)(hci:w.cell? ⟨h1,0,none⟩=some (.int .i64 i))(hcj:w.cell? ⟨h2,0,none⟩=some (.int .i64 j)) :
 Calls Tryz.prog 240 #[.pointer (some ⟨g,0,none⟩),.pointer (some ⟨h1,0,none⟩),.pointer (some ⟨h2,0,none⟩)] w fun e w'=>e = .returned (.pointer (some ⟨g,kY i j,none⟩))/\Below w.heap.size w w':=by
 obtain⟨k,hk⟩:=Int.eq_ofNat_of_zero_le (show 0<=i-1 by omega);obtain rfl:i=(k:Int)+1:=by omega
 obtain⟨l,hl⟩:=Int.eq_ofNat_of_zero_le (show 0<=j-1 by omega);obtain rfl:j=(l:Int)+1:=by omega
 have hk6:(k:Int)<6:=by omega
 have hl6:(l:Int)<6:=by omega
 have HE:Hid (kY ((k:Int)+1) ((l:Int)+1)=18+k*6+l):=by unfold Hid kY; omega
 clear hk hl
 go_enter Tryz.func240,Tryz.ntmps240
 go_wp2_with fail
 go_quiet (fail)
 go_wp2
 go_ret
 rw[HE.out];exact⟨rfl,bN (Below.refl _ _) _⟩
theorem KL(args:Array Value)(w:World):(callFunc 239 args).run Tryz.prog w = .ok (.enter 239 args) w:=jZ Tryz.func239 rfl rfl args w
theorem KM(args:Array Value)(w:World):(callFunc 240 args).run Tryz.prog w = .ok (.enter 240 args) w:=jZ Tryz.func240 rfl rfl args w
section
def Ml(x:Nat->Int)(g:Nat)(i j n:Int)(w':World):Prop:=w'.heap[g]? = some (.cells (aU .i64 54 x) 82 (0,0))/\w'.cell? ⟨g+1,0,none⟩=some (.int .i64 i)/\w'.cell? ⟨g+1+1,0,none⟩=some (.int .i64 j)/\w'.cell? ⟨g+1+1+1,0,none⟩=some (.int .i64 n)
theorem Ml.up{x:Nat->Int}{g:Nat}{i j n:Int}{w w':World}(h:Ml x g i j n w)(e:Below w.heap.size w w'):Ml x g i j n w':=by
 obtain⟨a,b,c,d⟩:=h;exact⟨(e.block _ (t_.1 a).1).trans a,(e.cell (p:=⟨g+1,0,none⟩) (block_lt_of_cell b)).trans b,(e.cell (p:=⟨g+1+1,0,none⟩) (block_lt_of_cell c)).trans c,(e.cell (p:=⟨g+1+1+1,0,none⟩) (block_lt_of_cell d)).trans d⟩
instance {x:Nat->Int} {g:Nat} {i j n:Int} {w w':World}:Rt.Tr w w' (Ml x g i j n w) (Ml x g i j n w'):=⟨fun b h=>h.up b⟩
theorem Ml.row{x:Nat->Int}{g:Nat}{i j n:Int}{w:World}(h:Ml x g i j n w)(cs:Array Value):Ml x g i j n (w.setRow (g+1+1+1+1) cs):=by
 obtain⟨a,b,c,d⟩:=h;exact⟨(setRow_other _ _ _ _ (by omega)).trans a,(World.cell?_of_block (setRow_other _ _ _ _ (by show g+1≠_; omega))).trans b,(World.cell?_of_block (setRow_other _ _ _ _ (by show g+1+1≠_; omega))).trans c,(World.cell?_of_block (setRow_other _ _ _ _ (by show g+1+1+1≠_; omega))).trans d⟩
attribute [local irreducible] Oper.wp wpList Code.wp
set_option maxRecDepth 100000 in
set_option maxHeartbeats 2000000 in
theorem TW(x:Nat->Int)(i j n:Int)(w:World)(hi : -9223372036854775808<=i/\i<=9223372036854775807)(hj0 : -9223372036854775808<=j/\j<=9223372036854775807) :
 Calls Tryz.prog 226 #[.agg (aU .i64 54 x),.int .i64 i,.int .i64 j,.int .i64 n] w (OH (dn x i j n) w):=by
 have HM:Hid (dn x i j n=bT x n (gW i&&gW j) (nX x i j n) (kY i j)):=rfl;have hri:=nW i;have hrj:=nW j;have TP:Hid (∀ w',Calls Tryz.prog 94 #[.int .i64 i] w' fun e w''=>e = .returned (.bool (gW i))/\w''=w'):=fun w'=>sw i w' hi;have agu:Hid (∀ w',Calls Tryz.prog 94 #[.int .i64 j] w' fun e w''=>e = .returned (.bool (gW j))/\w''=w'):=fun w'=>sw j w' hj0;generalize gW i=bi at *;generalize gW j=bj at *;have Hri:Hid _:=hri;have Hrj:Hid _:=hrj;clear hri hrj;have hmf : ∀(fn:Fn) (first cap:Array Value) (w:World),(Instr.makeFunc fn first cap).run Tryz.prog w = .ok (.func fn first cap) w:=fun _ _ _ _=>rfl
 cases bi
 all_goals
  go_enter Tryz.func226,Tryz.ntmps226
  go_upto_region 1 with (fail)
  rename_i K0 JU;rw[<- pG];have ha:=aaG w (.cells (aU .i64 54 x) 82) (.cells #[.int .i64 i] 3) (.cells #[.int .i64 j] 3) (.cells #[.int .i64 n] 2) (.cells (aU .i64 54 zero) 82);generalize ((((w.alloc (.cells (aU .i64 54 x) 82)).alloc (.cells #[.int .i64 i] 3)).alloc (.cells #[.int .i64 j] 3)).alloc (.cells #[.int .i64 n] 2)).alloc (.cells (aU .i64 54 zero) 82)=W at *;obtain⟨hx,hI,hJ,hN,hz,hs,hB⟩:=ha;have hS0:Ml x w.heap.size i j n W.drew:=⟨hx,rO (w:=W) hI,rO (w:=W) hJ,rO (w:=W) hN⟩;have Hz:Hid _:=hz;have Hs:Hid _:=hs;clear hx hz hI hJ hN hs;refine wp_region_noPanic<|wp_region_held_drew (S:=Ml x w.heap.size i j n) (by kernel_rfl) hS0 fun hS => ?_;refine wT0 0 (.agg (aU .i64 54 x)) rfl (fun w' hw=>?_) hS ?_
  ·exact jr 82 (.tmp 4) (by rfl) w.heap.size (by rfl) 82 (aU .i64 54 x) (0,0) _ hw.1 Tryz.underlying82 (by rfl) (by rw[bB]; exact iW)
  refine wT0 1 (.int .i64 n) rfl (fun w' hw=>?_) hS ?_
  ·have h2:=hw.2.2.2;clear hw
   go_simp
  refine wT0 2 (.int .i64 i) rfl (fun w' hw=>?_) hS ?_
  ·have h2:=hw.2.1;clear hw
   go_simp
  refine wT0 8 (.func (.func 239) #[] #[.pointer (some ⟨w.heap.size+1,0,none⟩),.pointer (some ⟨w.heap.size+1+1,0,none⟩),.pointer (some ⟨w.heap.size+1+1+1,0,none⟩),.pointer (some ⟨w.heap.size,0,none⟩)]) rfl (fun w' hw=>?_) hS ?_
  ·clear hw
   go_simp
  refine wT0 9 (.func (.func 240) #[] #[.pointer (some ⟨w.heap.size+1,0,none⟩),.pointer (some ⟨w.heap.size+1+1,0,none⟩)]) rfl (fun w' hw=>?_) hS ?_
  ·clear hw
   go_simp
  refine wpAnyH_all (rs := [3]) (by kernel_rfl) (by decide) ?_;intro j hj;obtain rfl:j=3:=by simpa using hj
  refine wpOp_step rfl<|fun K hK => ?_;clear hj
  go_simp
  refine(TP.out _).mono ?_;rintro e w' ⟨rfl,rfl⟩;refine hK _ _ ⟨hS,?_⟩;clear hK K
 ·have hoff:false=true->kY i j<54:=nofun;have hcell:false=true->may x=true->0<=x (kY i j)/\x (kY i j)<=1125899906842624:=nofun;have hbd:false=true->(1<=i/\i<=6)/\(1<=j/\j<=6):=nofun;refine wT0 4 (.bool false) rfl (fun w' hw=>?_) hS ?_
  ·clear hw
   go_simp
  refine wpAnyH_take (i:=5) (v:=undef) rfl (by kernel_rfl) (by kernel_rfl) (by kernel_rfl) (fun _ _ _ h=>h) (.inr ⟨by rfl,rfl⟩) hS ?_;refine wpAnyH_take (i:=6) (v:=undef) rfl (by kernel_rfl) (by kernel_rfl) (by kernel_rfl) (fun _ _ _ h=>h) (.inr ⟨by rfl,rfl⟩) hS ?_;refine wT0 7 (.bool false) rfl (fun w' hw=>?_) hS ?_
  ·clear hw
   go_simp
  have HM:Hid (dn x i j n=bT x n false (nX x i j n) (kY i j)):=HM;refine wpAnyH_all (rs := [10]) (by kernel_rfl) (by decide) ?_;intro j hj;obtain rfl:j=10:=by simpa using hj
  refine wpOp_step rfl<|fun K hK => ?_;clear hj
  go_simp
  have hlz:w.heap.size+1+1+1+1<W.drew.heap.size:=by show _<W.heap.size; have:=Hs.out; omega
  refine(wJ x n false 239 240 _ _ (nX x i j n) (kY i j) W.drew ?o1 ?o2 KL KM ?o3 ?o4).mono ?_
  case o1=>exact hoff
  case o2=>exact hcell
  case o3=>exact fun hm h1 h2 h3 w' hb=>have hq:=Ml.up hS hb; Hq x i j n _ _ _ _ w' ⟨h1,h2⟩ hi hj0 hq.1 hq.2.2.2 hq.2.1 hq.2.2.1
  case o4=>exact fun h w' g hb=>have hq:=Ml.up hS hb; Hr g _ _ i j w' (hbd h).1 (hbd h).2 hq.2.1 hq.2.2.1
  rintro e w2 ⟨rfl,hb2⟩;generalize bT x n false (nX x i j n) (kY i j)=r at *;have hz2:Hid (w2.heap[w.heap.size+1+1+1+1]? = some (.cells (aU .i64 54 zero) 82 (0,0))):=(hb2.block _ hlz).trans Hz.out;have hB2:Below w.heap.size w w2:=hB.trans ((bdr hb2).mono hB.size);have hS:=Ml.up hS hb2;refine hK _ _ ⟨hS,?_⟩;clear hK K;clear hb2;refine wT0 11 (.agg (aU .i64 54 r.1)) rfl (fun w' hw=>?_) hS ?_
  ·clear hw
   go_simp
  refine wT0 12 (.int .i64 r.2) rfl (fun w' hw=>?_) hS ?_
  ·clear hw
   go_simp
  refine wpAnyH_all (rs := [13]) (by kernel_rfl) (by decide) ?_;intro j' hj';obtain rfl:j'=13:=by simpa using hj'
  clear hj';refine vT (by rfl) (by rfl)<|fun K hK => ?_;refine wp_store_row 82 (.tmp 8) (.tmp 21) (by rfl) (w.heap.size+1+1+1+1) (aU .i64 54 r.1) (by rfl) (by rfl) 82 (aU .i64 54 zero) hz2.out (by rw[bB]; exact iW) (by rw[bB,bB]) (kU _ _ _) ?_;have hend:=iR hB2 (by omega) hz2.out r.1;have hS:=hS.row (aU .i64 54 r.1);refine hK _ _ ⟨hS,?_⟩;clear hK K hz2 hB2;generalize w2.setRow (w.heap.size+1+1+1+1) (aU .i64 54 r.1)=w3 at *;refine wT0 14 (.int .i64 r.2) rfl (fun w' hw=>?_) hS ?_
  ·clear hw
   go_simp
  refine wpAnyH_done (by kernel_rfl) ?_ _;refine JU _ _<|wp_ret ?_;rw[HM.out];exact tT (p:=8) (q:=9) (by kernel_rfl) (by kernel_rfl) (by kernel_rfl) (by kernel_rfl) hend.1 hend.2
 have hi6:=Hri.out.1 rfl;have hbd:bj=true->(1<=i/\i<=6)/\(1<=j/\j<=6):=fun h=>⟨hi6,Hrj.out.1 h⟩;have hoff:bj=true->kY i j<54:=fun h=>by have:=hbd h; unfold kY; omega
 have hcell:bj=true->may x=true->0<=x (kY i j)/\x (kY i j)<=1125899906842624:=fun h hm=>by
  have:=hbd h;exact(wH hm (i.toNat-1) (by omega)).r (j.toNat-1) (by omega)
 refine wT0 4 (.bool true) rfl (fun w' hw=>?_) hS ?_
 ·clear hw
  go_simp
 refine wT0 5 (.int .i64 j) rfl (fun w' hw=>?_) hS ?_
 ·have h2:=hw.2.2.1;clear hw
  go_simp
 refine wpAnyH_all (rs := [6]) (by kernel_rfl) (by decide) ?_;intro j hj;obtain rfl:j=6:=by simpa using hj
 refine wpOp_step rfl<|fun K hK => ?_;clear hj
 go_simp
 refine(agu.out _).mono ?_;rintro e w' ⟨rfl,rfl⟩;refine hK _ _ ⟨hS,?_⟩;clear hK K;refine wT0 7 (.bool bj) rfl (fun w' hw=>?_) hS ?_
 ·clear hw
  go_simp
 have HM:Hid (dn x i j n=bT x n bj (nX x i j n) (kY i j)):=HM;refine wpAnyH_all (rs := [10]) (by kernel_rfl) (by decide) ?_;intro j hj;obtain rfl:j=10:=by simpa using hj
 refine wpOp_step rfl<|fun K hK => ?_;clear hj
 go_simp
 have hlz:w.heap.size+1+1+1+1<W.drew.heap.size:=by show _<W.heap.size; have:=Hs.out; omega
 refine(wJ x n bj 239 240 _ _ (nX x i j n) (kY i j) W.drew ?o1 ?o2 KL KM ?o3 ?o4).mono ?_
 case o1=>exact hoff
 case o2=>exact hcell
 case o3=>exact fun hm h1 h2 h3 w' hb=>have hq:=Ml.up hS hb; Hq x i j n _ _ _ _ w' ⟨h1,h2⟩ hi hj0 hq.1 hq.2.2.2 hq.2.1 hq.2.2.1
 case o4=>exact fun h w' g hb=>have hq:=Ml.up hS hb; Hr g _ _ i j w' (hbd h).1 (hbd h).2 hq.2.1 hq.2.2.1
 rintro e w2 ⟨rfl,hb2⟩;generalize bT x n bj (nX x i j n) (kY i j)=r at *;have hz2:Hid (w2.heap[w.heap.size+1+1+1+1]? = some (.cells (aU .i64 54 zero) 82 (0,0))):=(hb2.block _ hlz).trans Hz.out;have hB2:Below w.heap.size w w2:=hB.trans ((bdr hb2).mono hB.size);have hS:=Ml.up hS hb2;refine hK _ _ ⟨hS,?_⟩;clear hK K;clear hb2;refine wT0 11 (.agg (aU .i64 54 r.1)) rfl (fun w' hw=>?_) hS ?_
 ·clear hw
  go_simp
 refine wT0 12 (.int .i64 r.2) rfl (fun w' hw=>?_) hS ?_
 ·clear hw
  go_simp
 refine wpAnyH_all (rs := [13]) (by kernel_rfl) (by decide) ?_;intro j' hj';obtain rfl:j'=13:=by simpa using hj'
 clear hj';refine vT (by rfl) (by rfl)<|fun K hK => ?_;refine wp_store_row 82 (.tmp 8) (.tmp 21) (by rfl) (w.heap.size+1+1+1+1) (aU .i64 54 r.1) (by rfl) (by rfl) 82 (aU .i64 54 zero) hz2.out (by rw[bB]; exact iW) (by rw[bB,bB]) (kU _ _ _) ?_;have hend:=iR hB2 (by omega) hz2.out r.1;have hS:=hS.row (aU .i64 54 r.1);refine hK _ _ ⟨hS,?_⟩;clear hK K hz2 hB2;generalize w2.setRow (w.heap.size+1+1+1+1) (aU .i64 54 r.1)=w3 at *;refine wT0 14 (.int .i64 r.2) rfl (fun w' hw=>?_) hS ?_
 ·clear hw
  go_simp
 refine wpAnyH_done (by kernel_rfl) ?_ _;refine JU _ _<|wp_ret ?_;rw[HM.out];exact tT (p:=8) (q:=9) (by kernel_rfl) (by kernel_rfl) (by kernel_rfl) (by kernel_rfl) hend.1 hend.2
end
namespace Rt
def L(x:Nat->Int)(k:Nat):Int:=G x k+F x k+R x 0 k+R x 1 k+R x 2 k+R x 3 k+R x 4 k+R x 5 k-C x k-R x k 0-R x k 1-R x k 2-R x k 3-R x k 4-R x k 5
def Qm(x:Nat->Int):Prop := ∀ p,p<54->0<=x p/\x p<=1125899906842624
def All(x:Nat->Int):Prop := ∀ k,k<6->0<=L x k/\F x k<=C x k/\R x k k=0
def sD(x:Nat->Int):Int:=G x 0+G x 1+G x 2+G x 3+G x 4+G x 5
theorem Ed{l:List Int}(h:mH l=true):nA l=(l.sum,true):=by unfold nA; rw[d_ h]
theorem Qm.outs{x:Nat->Int}(h:Qm x)(k:Nat)(b:k<6):mH (outs x k 6)=true:=by
 have e:=fun j (hj:j<6)=>h (18+k*6+j) (by omega);have c:=h (6+k) (by omega);unfold mH;rw[List.all_eq_true];intro n a;have:n=x (6+k)\/n=x (18+k*6+0)\/n=x (18+k*6+1)\/n=x (18+k*6+2)\/n=x (18+k*6+3)\/n=x (18+k*6+4)\/n=x (18+k*6+5):=by
  simpa [Rt.outs,C,R,or_assoc] using a
 unfold zU;rw[S_,decide_eq_true_eq,decide_eq_true_eq]
 rcases this with h|h|h|h|h|h|h <;> subst h
 ·exact c
 all_goals exact e _ (by omega)
theorem Qm.ins{x:Nat->Int}(h:Qm x)(k:Nat)(b:k<6):mH (ins x k 6)=true:=by
 have e:=fun j (hj:j<6)=>h (18+j*6+k) (by omega);have c:=h k (by omega);have f:=h (12+k) (by omega);unfold mH;rw[List.all_eq_true];intro n a;have:n=x k\/n=x (12+k)\/n=x (18+0*6+k)\/n=x (18+1*6+k)\/n=x (18+2*6+k)\/n=x (18+3*6+k)\/n=x (18+4*6+k)\/n=x (18+5*6+k):=by
  simpa [Rt.ins,G,F,R,or_assoc] using a
 unfold zU;rw[S_,decide_eq_true_eq,decide_eq_true_eq]
 rcases this with h|h|h|h|h|h|h|h <;> subst h
 ·exact c
 ·exact f
 all_goals exact e _ (by omega)
theorem TY(x:Nat->Int)(k:Nat):(Rt.outs x k 6).sum=C x k+R x k 0+R x k 1+R x k 2+R x k 3+R x k 4+R x k 5:=by simp[Rt.outs]; omega
theorem XO(x:Nat->Int)(k:Nat):(Rt.ins x k 6).sum=G x k+F x k+R x 0 k+R x 1 k+R x 2 k+R x 3 k+R x 4 k+R x 5 k:=by simp[Rt.ins]; omega
theorem uW{x:Nat->Int}(h:Qm x)(k:Nat)(a:k<6):localM x k=(L x k,true):=by
 unfold localM;rw[Ed (h.outs k a),Ed (h.ins k a),TY,XO];unfold L;refine Prod.ext ?_ rfl
 dsimp only
 omega
theorem lV{x:Nat->Int}(h:may x=true):Qm x:=by
 intro p e;by_cases a:p<6
 ·exact(wH h p a).g
 by_cases b:p<12
 ·have:=(wH h (p-6) (by omega)).c;unfold C at this; rwa [show 6+(p-6)=p by omega]at this
 by_cases d:p<18
 ·have:=(wH h (p-12) (by omega)).f;unfold F at this; rwa [show 12+(p-12)=p by omega]at this
 have:=(wH h ((p-18) / 6) (by omega)).r ((p-18) % 6) (by omega);unfold R at this; rwa [show 18+(p-18) / 6*6+(p-18) % 6=p by omega]at this
theorem aai{x:Nat->Int}(h:Qm x):mH (gs x)=true:=by
 unfold mH;rw[List.all_eq_true];intro n a;have:n=x 0\/n=x 1\/n=x 2\/n=x 3\/n=x 4\/n=x 5:=by simpa [gs,or_assoc] using a
 unfold zU;rw[S_,decide_eq_true_eq,decide_eq_true_eq]
 rcases this with e|e|e|e|e|e <;> subst e <;> exact h _ (by omega)
theorem T9(x:Nat->Int):(gs x).sum=sD x:=by simp[gs,sD,G]; omega
theorem jT(x:Nat->Int):may x=true<->Qm x/\All x/\sD x<=1125899906842624:=by
 constructor
 ·intro h;have e:=lV h;refine⟨e,fun k d => ?_,?_⟩
  ·have o:=wH h k d;have:=o.l;rw[uW e k d]at this;exact⟨this,o.fc,o.rkk⟩
  unfold may at h;rw[S_,S_,Ed (aai e),T9]at h
  simpa using h.2.2
 rintro ⟨e,g,i⟩;have d : ∀ k,k<6->Ca x k=true:=by
  intro k d;obtain⟨a,b,c⟩:=g k d;unfold Ca;rw[uW e k d];simp only[S_,decide_eq_true_eq,beq_iff_eq];exact⟨⟨⟨trivial,a⟩,b⟩,c⟩
 have f : ∀ n,n<=6->DN x n=true:=by
  intro n
  induction n with
  | zero=>intro _; rfl
  | succ n ih=>intro f; rw[show DN x (n+1)=(DN x n&&Ca x n)from rfl,ih (by omega),d n (by omega)]; rfl
 unfold may;rw[f 6 (by omega),Ed (aai e),T9,f_ i];rfl
theorem nY{x:Nat->Int}(h:may x=true)(k:Nat)(a:k<6):fJ x ((k:Int)+1)=L x k:=by
 unfold fJ;rw[h,Bool.and_true,d_ (by unfold gW; simp; omega),show((k:Int)+1).toNat-1=k by omega,uW (lV h) k a]
def nZ(x:Nat->Int):Int:=(C x 0-F x 0)+(C x 1-F x 1)+(C x 2-F x 2)+(C x 3-F x 3)+(C x 4-F x 4)+(C x 5-F x 5)
theorem xB(x:Nat->Int)(i j:Nat)(hi:i<6)(g:j<6)(d:Int)(a b:Nat)(ha:a<6)(f:b<6) :
 R (upd x (18+i*6+j) (x (18+i*6+j)+d)) a b=R x a b+(if a=i then if b=j then d else 0 else 0):=by
 unfold R upd;by_cases c:a=i
 ·by_cases e:b=j
  ·subst c e; simp
  rw[b_ (by omega),d_ c,b_ e]; omega
 rw[b_ (by omega),b_ c]; omega
theorem acf(x:Nat->Int)(i j:Nat)(hi:i<6)(a:j<6)(d:Int)(k:Nat)(b:k<6) :
 L (upd x (18+i*6+j) (x (18+i*6+j)+d)) k=L x k+(if k=j then d else 0)-(if k=i then d else 0):=by
 have l:G (upd x (18+i*6+j) (x (18+i*6+j)+d)) k=G x k:=gI _ _ _ _ (by omega);have f:C (upd x (18+i*6+j) (x (18+i*6+j)+d)) k=C x k:=gI _ _ _ _ (by omega);have g:F (upd x (18+i*6+j) (x (18+i*6+j)+d)) k=F x k:=gI _ _ _ _ (by omega);unfold L
 rw[l,f,g,xB x i j hi a d 0 k (by omega) b,xB x i j hi a d 1 k (by omega) b,xB x i j hi a d 2 k (by omega) b,xB x i j hi a d 3 k (by omega) b,xB x i j hi a d 4 k (by omega) b,xB x i j hi a d 5 k (by omega) b,
  xB x i j hi a d k 0 b (by omega),xB x i j hi a d k 1 b (by omega),xB x i j hi a d k 2 b (by omega),xB x i j hi a d k 3 b (by omega),xB x i j hi a d k 4 b (by omega),xB x i j hi a d k 5 b (by omega)]
 have c:(if 0=i then if k=j then d else 0 else 0)+(if 1=i then if k=j then d else 0 else 0)+(if 2=i then if k=j then d else 0 else 0)+(if 3=i then if k=j then d else 0 else 0)+(if 4=i then if k=j then d else 0 else 0)+(if 5=i then if k=j then d else 0 else 0)=(if k=j then d else 0):=by
  have:i=0\/i=1\/i=2\/i=3\/i=4\/i=5:=by omega
  rcases this with h|h|h|h|h|h <;> subst h <;> simp
 have e:(if k=i then if 0=j then d else 0 else 0)+(if k=i then if 1=j then d else 0 else 0)+(if k=i then if 2=j then d else 0 else 0)+(if k=i then if 3=j then d else 0 else 0)+(if k=i then if 4=j then d else 0 else 0)+(if k=i then if 5=j then d else 0 else 0)=(if k=i then d else 0):=by
  have:j=0\/j=1\/j=2\/j=3\/j=4\/j=5:=by omega
  rcases this with h|h|h|h|h|h <;> subst h <;> simp
 generalize (if 0=i then if k=j then d else 0 else 0)=a0 at *;generalize (if 1=i then if k=j then d else 0 else 0)=a1 at *;generalize (if 2=i then if k=j then d else 0 else 0)=a2 at *;generalize (if 3=i then if k=j then d else 0 else 0)=a3 at *;generalize (if 4=i then if k=j then d else 0 else 0)=a4 at *;generalize (if 5=i then if k=j then d else 0 else 0)=a5 at *;generalize (if k=i then if 0=j then d else 0 else 0)=b0 at *;generalize (if k=i then if 1=j then d else 0 else 0)=b1 at *;generalize (if k=i then if 2=j then d else 0 else 0)=b2 at *;generalize (if k=i then if 3=j then d else 0 else 0)=b3 at *;generalize (if k=i then if 4=j then d else 0 else 0)=b4 at *;generalize (if k=i then if 5=j then d else 0 else 0)=b5 at *;rw[<- c,<- e];omega
end Rt
structure DR where
 inn:Nat->Bool
 left:Nat->Bool
 known:Nat->Int
 na:Option Addr
 nn:Nat
 nc:Nat
 ga:Option Addr
 gn:Nat
 gc:Nat
def nQ(s:DR):Nat->Value:=fun p=>if p<6 then .bool (s.inn p)else if p<12 then .bool (s.left (p-6))else if p<18 then aC (s.known (p-12))else if p=18 then .slice s.na s.nn s.nc else .slice s.ga s.gn s.gc
theorem Ad(s:DR){p:Nat}(h:p<6):nQ s p = .bool (s.inn p):=by unfold nQ; rw[d_ h]
theorem Ba(s:DR){p q:Nat}(h:p<6)(e:q=p+6):nQ s q = .bool (s.left p):=by subst e; unfold nQ; rw[b_ (by omega),d_ (by omega),Nat.add_sub_cancel]
theorem jO(s:DR){p q:Nat}(h:p<6)(e:q=p+12):nQ s q=aC (s.known p):=by subst e; unfold nQ; rw[b_ (by omega),b_ (by omega),d_ (by omega),Nat.add_sub_cancel]
def mG(id par:Int)(R:Nat->Int):Nat->Value:=fun p=>if p=0 then aC id else if p=1 then aC par else au (R (p-2))
theorem Jc(id par:Int)(R:Nat->Int)(q:Nat):mG id par R (2+q)=rv .i64 R q:=by unfold mG rv; rw[b_ (by omega),b_ (by omega),Nat.add_sub_cancel_left]
def Nds(w:World)(a:Option Addr)(n:Nat)(id par:Nat->Int)(R:Nat->Nat->Int):Prop := ∀ k,k<n -> ∃ b c,a=some ⟨b,c,none⟩/\iN w b (c+56*k) 56 (mG (id k) (par k) (R k))
theorem Nds.below{w w':World}{a:Option Addr}{n:Nat}{id par:Nat->Int}{R:Nat->Nat->Int}(h:Nds w a n id par R)(d:Below w.heap.size w w'):Nds w' a n id par R:=fun k f=>by
 obtain⟨b,g,e,c⟩:=h k f;exact⟨b,g,e,c.below d (c.lt (by omega))⟩
section
structure kR where
 s:DR
 id:Nat->Int
 par:Nat->Int
 R:Nat->Nat->Int
 g:Nat->Nat->Int
 tb:Nat
 ta:Option Addr
 tn:Nat
 tc:Nat
 t:Nat->Nat->Int
 ra:Nat->Option Addr
 rn:Nat->Nat
 rc:Nat->Nat
 rq:Nat->Nat->Int
structure eY where
 inn:Nat->Bool
 left:Nat->Bool
 known:Nat->Int
 nn:Nat
 id:Nat->Int
 par:Nat->Int
 R:Nat->Nat->Int
 gn:Nat
 g:Nat->Nat->Int
 tn:Nat
 t:Nat->Nat->Int
 rn:Nat->Nat
 rq:Nat->Nat->Int
def kR.core(m:kR):eY:=⟨m.s.inn,m.s.left,m.s.known,m.s.nn,m.id,m.par,m.R,m.s.gn,m.g,m.tn,m.t,m.rn,m.rq⟩
def lZ(m:kR):Nat->Value:=fun p=>if p<20 then nQ m.s p else if p=20 then(pt m.tb)else .slice (m.ra (p-21)) (m.rn (p-21)) (m.rc (p-21))
theorem kF(m:kR){p:Nat}{v:Value}(h:p<20)(e:nQ m.s p=v):lZ m p=v:=by unfold lZ; rw[d_ h]; exact e
theorem wK(m:kR){p q:Nat}(e:q=p+21):lZ m q = .slice (m.ra p) (m.rn p) (m.rc p):=by
 subst e; unfold lZ; rw[b_ (by omega),b_ (by omega),Nat.add_sub_cancel]
def jm(x:Nat->Int):Nat->Value:=fun p=>if p=0 then au (x 0)else if p=3 then au (x 3)else aC (x p)
def JV(m:kR):Nat->Value:=flat 56 fun k=>mG (m.id k) (m.par k) (m.R k)
def Jd(m:kR):Nat->Value:=flat 5 fun k=>jm (m.g k)
def kZ(c:Nat->Nat->Int):Nat->Int:=fun p=>c (p / 2) (p % 2)
def Qo(t:Nat->Nat->Int):Nat->Value:=flat 2 fun k=>rv .u64 (t k)
structure Cb(w:World)(p:Nat)(m:kR):Prop where
 c:iN w p 0 27 (lZ m)
 an:mY w m.s.na m.s.nn 56 (JV m)
 ag:mY w m.s.ga m.s.gn 5 (Jd m)
 tc:iN w m.tb 0 1 (fun _ => .slice m.ta m.tn m.tc)
 at2:mY w m.ta m.tn 2 (Qo m.t)
 ar : ∀ i,i<6->mY w (m.ra i) (m.rn i) 1 (rv .u64 (m.rq i))
 bn:m.s.nn<=1000000
 bg:m.s.gn<=1000000
 bt:m.tn<=1000000
 br : ∀ i,i<6->m.rn i<=1000000
section
variable {w w':World} {p:Nat} {m:kR}
theorem Cb.n(h:Cb w p m):Nds w m.s.na m.s.nn m.id m.par m.R:=fun _ a=>h.an.at a
theorem Cb.g(h:Cb w p m) : ∀ k,k<m.s.gn -> ∃ b a,m.s.ga=some ⟨b,a,none⟩/\iN w b (a+5*k) 5 (jm (m.g k)):=fun _ c=>h.ag.at c
theorem Cb.t(h:Cb w p m) : ∀ k,k<m.tn -> ∃ b a,m.ta=some ⟨b,a,none⟩/\iN w b (a+2*k) 2 (rv .u64 (m.t k)):=fun _ c=>h.at2.at c
theorem Cb.r(h:Cb w p m) : ∀ i,i<6 -> ∀ k,k<m.rn i -> ∃ b a,m.ra i=some ⟨b,a,none⟩/\iN w b (a+k) 1 (fun _=>aC (m.rq i k)):=fun i d k g=>by
 obtain⟨b,a,e,c⟩:=h.ar i d (by omega);refine⟨b,a,e,fun j f => ?_⟩;obtain rfl:j=0:=by omega
 exact c k (by omega)
theorem Cb.below(h:Cb w p m)(a:Below w.heap.size w w'):Cb w' p m where
 c:=h.c.below a (h.c.lt (by omega))
 an:=h.an.up a rfl
 ag:=h.ag.up a rfl
 tc:=h.tc.below a (h.tc.lt (by omega))
 at2:=h.at2.up a rfl
 ar:=fun i b=>(h.ar i b).up a rfl
 bn:=h.bn
 bg:=h.bg
 bt:=h.bt
 br:=h.br
end
def gX(P:Nat->Bool):Nat->Int
 | 0 => -1
 | n+1=>if 0<=gX P n then gX P n else if P n then(n:Int)else -1
theorem lu{P:Nat->Bool} : ∀ {n:Nat},(∀ i,i<n->P i=false)->gX P n = -1
 | 0,_=>rfl
 | n+1,h=>by
   have:=lu (P:=P) (n:=n) fun i a=>h i (by omega);simp only[gX]; rw[this,b_ (by omega),h n (by omega)]; rfl
theorem oP{P:Nat->Bool}{k:Nat}(a : ∀ i,i<k->P i=false)(b:P k=true) : ∀ {n:Nat},k<n->gX P n=(k:Int)
 | 0,h=>M_ h (by omega)
 | n+1,h=>by
   simp only[gX];by_cases e:k=n
   ·subst e; rw[lu a,b_ (by omega),b]; rfl
   ·rw[oP a b (n:=n) (by omega),d_ (by omega)]
theorem jh(P:Nat->Bool) : ∀ n:Nat,(∃ k:Nat,k<n/\gX P n=(k:Int)/\P k=true)\/(gX P n = -1 /\ ∀ i,i<n->P i=false)
 | 0 => .inr ⟨rfl,fun i h=>M_ h (by omega)⟩
 | n+1=>by
   rcases jh P n with ⟨k,d,e,a⟩|⟨e,a⟩
   ·exact .inl ⟨k,by omega,by simp only[gX]; rw[e,d_ (by omega)],a⟩
   ·by_cases h:P n=true
    ·exact .inl ⟨n,by omega,by simp only[gX]; rw[e,b_ (by omega),h]; rfl,h⟩
    ·rw[T_]at h;refine .inr ⟨by simp only[gX]; rw[e,b_ (by omega),h]; rfl,fun i c => ?_⟩;by_cases b:i=n
     ·subst b; exact h
     ·exact a i (by omega)
theorem uX{P:Nat->Bool}{k:Nat}(h : ∀ i,i<k->P i=false)(a:P k=false) : ∀ i,i<k+1->P i=false:=fun i b=>by
 by_cases e:i=k
 ·subst e; exact a
 ·exact h i (by omega)
def kR.node(m:kR)(id:Int):Int:=gX (fun i=>decide (m.id i=id)) m.s.nn
def kR.grant(m:kR)(o r:Int):Int:=gX (fun i=>decide (m.g i 0=o)&&decide (m.g i 1=r)) m.s.gn
def kR.lD(m:kR)(a:Nat)(r:Int):Int:=gX (fun i=>decide (m.rq a i=r)) (m.rn a)
structure EX(w:World)(tb:Nat)(ta:Option Addr)(tn tc:Nat)(t:Nat->Nat->Int):Prop where
 tc:iN w tb 0 1 (fun _ => .slice ta tn tc)
 t : ∀ k,k<tn -> ∃ b off,ta=some ⟨b,off,none⟩/\iN w b (off+2*k) 2 (rv .u64 (t k))
 bt:tn<=1000000
theorem EX.below{w w':World}{f:Nat}{d:Option Addr}{tn g:Nat}{t:Nat->Nat->Int}(h:EX w f d tn g t)(a:Below w.heap.size w w'):EX w' f d tn g t where
 tc:=h.tc.below a (h.tc.lt (by omega))
 t:=fun k i=>by obtain⟨b,j,e,c⟩:=h.t k i; exact⟨b,j,e,c.below a (c.lt (by omega))⟩
 bt:=h.bt
def bF(t:Nat->Nat->Int)(tn:Nat)(x:Int):Int:=gX (fun i=>decide (t i 0=x)) tn
def aT(t:Nat->Nat->Int)(tn:Nat):Nat->Int->Int
 | 0,x=>x
 | k+1,x=>t (bF t tn (aT t tn k x)).toNat 1
def acg:Value->Nat
 | .slice _ n _=>n
 | _=>0
end
theorem Je(m:kR)(p:Nat)(x:Int)(w:World)(h:Cb w p m) :
 Calls Tryz.prog 63 #[(pt p),aC x] w fun e w'=>e = .returned (au (m.node x))/\Below w.heap.size w w':=by
 have v:=h.c;have J:p<w.heap.size:=v.lt (by omega);have E:=h.bn;have D:=h.bg;have F:=h.bt;refine Kent Tryz.func63 28 ?_;refine ay<|av (au 0)<|aD<|Ws<|ay<|av (au 0)<|aD<|Wb<|Wo (fun f z => ∃ k:Nat,k<=m.s.nn/\(∀ i,i<k->(fun i=>decide (m.id i=x)) i=false)/\f 0=(pt p)/\f 1=aC x/\f 5=au (k:Int)/\iN z p 0 27 (lZ m)/\Below w.heap.size w z) (fun f _=>(m.s.nn-(intOf (f 5)).toNat)) ⟨0,by omega,(fun i h=>M_ h (by omega)),(by rfl),Fx.ic,Fx.ic,v,(Below.refl w.heap.size w)⟩ ?_;rintro G K ⟨k,I,l,j,t,a,o,d⟩;refine Ws<|ay<|bf a<|bf j<|av (pt p)<|av (pt p)<|av (pf p 18)<|Lv (.slice m.s.na (m.s.nn) (m.s.nc)) (aM o 18)<|av (au m.s.nn) ?_;by_cases r:(k:Int)<(m.s.nn:Int)
 ·refine Lv aG (iq r)<|aD<|aO<|Wk<|sN<|Ws<|Wb<|Ws ?_;obtain⟨b,y,A,u⟩:=h.n k (by omega);have B:b<w.heap.size:=u.lt (by omega);have C:=u.below d B;refine Wl<|bf j<|av (pt p)<|av (pt p)<|av (pf p 18)<|Lv (.slice m.s.na (m.s.nn) (m.s.nc)) (aM o 18)<|bf a<|Lv (pf b (56*k+y)) (dh 56 (hx:=(rfl.trans (L_ (fun q=>Value.slice q (m.s.nn) (m.s.nc)) A))))<|av (pf b (56*k+y))<|Lv (aC (m.id k)) (aM C 0)<|bf t ?_;by_cases g:(m.id k)=x
  ·refine Lv aG (eO g)<|aD<|aO<|ay<|bf a<|av (au k)<|aD<|Wr<|bL<|sR<|pO<|bL<|sR<|aJ (au k) ?_;exact⟨pU (Eq.symm (oP l (f_ g) (by omega))),d⟩
  refine Lv aF (fO g)<|aD<|aK<|Wk<|bR<|sN<|Wl<|bf a<|Lv (au ((k:Int)+1)) fC<|av (au ((k:Int)+1))<|Ln<|ig ⟨k+1,by omega,(uX l (g_ g)),j,(t.trans Fx.ic),Fx.ic,o,d⟩ ?_;show(m.s.nn-(intOf (au ((k:Int)+1))).toNat)<_;simp only[a,intOf]; omega
 refine Lv aF (iw r)<|aD<|aK<|Wx<|bZ<|gL<|cu<|sN<|ay<|av (au (-1))<|aD<|Wr<|aJ (au (-1)) ?_;exact⟨pU (Eq.symm (lu (fun i H=>l i (by omega)))),d⟩
theorem M8(a:Nat)(l:Option Addr)(tn d:Nat)(t:Nat->Nat->Int)(x:Int)(w:World)(h:EX w a l tn d t) :
 Calls Tryz.prog 83 #[(pt a),aC x] w fun e w'=>e = .returned (au (bF t tn x))/\Below w.heap.size w w':=by
 have u:=h.tc;have G:a<w.heap.size:=u.lt (by omega);have C:=h.bt;refine Kent Tryz.func83 26 ?_;refine ay<|av (au 0)<|aD<|Ws<|ay<|av (au 0)<|aD<|Wb<|Wo (fun f y => ∃ k:Nat,k<=tn/\(∀ i,i<k->(fun i=>decide (t i 0=x)) i=false)/\f 0=(pt a)/\f 1=aC x/\f 5=au (k:Int)/\iN y a 0 1 (fun _ => .slice l tn d)/\Below w.heap.size w y) (fun f _=>(tn-(intOf (f 5)).toNat)) ⟨0,by omega,(fun i h=>M_ h (by omega)),(by rfl),Fx.ic,Fx.ic,u,(Below.refl w.heap.size w)⟩ ?_;rintro D H ⟨k,F,n,m,r,c,o,g⟩;refine Ws<|ay<|bf c<|bf m<|av (pt a)<|av (pt a)<|Lv (.slice l (tn) (d)) (aM o 0)<|av (au tn) ?_;by_cases p:(k:Int)<(tn:Int)
 ·refine Lv aG (iq p)<|aD<|aO<|Wk<|sN<|Ws<|Wb<|Ws ?_;obtain⟨b,v,z,s⟩:=h.t k (by omega);have A:b<w.heap.size:=s.lt (by omega);have B:=s.below g A;refine Wl<|bf m<|av (pt a)<|av (pt a)<|Lv (.slice l (tn) (d)) (aM o 0)<|bf c<|Lv (pf b (2*k+v)) (dh 2 (hx:=(rfl.trans (L_ (fun q=>Value.slice q (tn) (d)) z))))<|av (pf b (2*k+v))<|Lv (aC ((t k) 0)) (aM B 0)<|bf r ?_;by_cases j:((t k) 0)=x
  ·refine Lv aG (eO j)<|aD<|aO<|ay<|bf c<|av (au k)<|aD<|Wr<|bL<|sR<|pO<|bL<|sR<|aJ (au k) ?_;exact⟨pU (Eq.symm (oP n (f_ j) (by omega))),g⟩
  refine Lv aF (fO j)<|aD<|aK<|Wk<|bR<|sN<|Wl<|bf c<|Lv (au ((k:Int)+1)) fC<|av (au ((k:Int)+1))<|Ln<|ig ⟨k+1,by omega,(uX n (g_ j)),m,(r.trans Fx.ic),Fx.ic,o,g⟩ ?_;show(tn-(intOf (au ((k:Int)+1))).toNat)<_;simp only[c,intOf]; omega
 refine Lv aF (iw p)<|aD<|aK<|Wx<|bZ<|gL<|cu<|sN<|ay<|av (au (-1))<|aD<|Wr<|aJ (au (-1)) ?_;exact⟨pU (Eq.symm (lu (fun i E=>n i (by omega)))),g⟩
theorem XP{a b:Prop} [Decidable a] [Decidable b](h : ¬ a):(decide a&&decide b)=false:=by rw[g_ h]; rfl
theorem XQ{a b:Prop} [Decidable a] [Decidable b](h : ¬ b):(decide a&&decide b)=false:=by rw[g_ h,I_]
theorem XR{a b:Prop} [Decidable a] [Decidable b](h:a)(c:b):(decide a&&decide b)=true:=by rw[f_ h,f_ c]; rfl
theorem XT(m:kR)(p:Nat)(x r:Int)(w:World)(h:Cb w p m) :
 Calls Tryz.prog 160 #[(pt p),au x,aC r] w fun e w'=>e = .returned (au (m.grant x r))/\Below w.heap.size w w':=by
 have C:=h.c;have M:p<w.heap.size:=C.lt (by omega);have H:=h.bn;have G:=h.bg;have I:=h.bt;refine Kent Tryz.func160 43 ?_;refine ay<|av (au 0)<|aD<|Ws<|ay<|av (au 0)<|aD<|Wb<|Wo (fun f E => ∃ k:Nat,k<=m.s.gn/\(∀ i,i<k->(fun i=>decide (m.g i 0=x)&&decide (m.g i 1=r)) i=false)/\f 0=(pt p)/\f 1=au x/\f 2=aC r/\f 7=au (k:Int)/\iN E p 0 27 (lZ m)/\Below w.heap.size w E) (fun f _=>(m.s.gn-(intOf (f 7)).toNat)) ⟨0,by omega,(fun i h=>M_ h (by omega)),(by rfl),Fx.ic,Fx.ic,Fx.ic,C,(Below.refl w.heap.size w)⟩ ?_;rintro J N ⟨k,L,t,j,v,y,a,l,d⟩;refine Ws<|ay<|bf a<|bf j<|av (pt p)<|av (pt p)<|av (pf p 19)<|Lv (.slice m.s.ga (m.s.gn) (m.s.gc)) (aM l 19)<|av (au m.s.gn) ?_;by_cases z:(k:Int)<(m.s.gn:Int)
 ·refine Lv aG (iq z)<|aD<|aO<|Wk<|sN<|Ws<|Wb<|Ws ?_;obtain⟨b,u,A,B⟩:=h.g k (by omega);have F:b<w.heap.size:=B.lt (by omega);have D:=B.below d F;refine Wl<|bf j<|av (pt p)<|av (pt p)<|av (pf p 19)<|Lv (.slice m.s.ga (m.s.gn) (m.s.gc)) (aM l 19)<|bf a<|Lv (pf b (5*k+u)) (dh 5 (hx:=(rfl.trans (L_ (fun q=>Value.slice q (m.s.gn) (m.s.gc)) A))))<|av (pf b (5*k+u))<|Lv (au (m.g k 0)) (aM D 0)<|bf v ?_;by_cases n:(m.g k 0)=x
  ·refine Lv aG (eO n)<|av aG<|bf j<|av (pt p)<|av (pt p)<|av (pf p 19)<|Lv (.slice m.s.ga (m.s.gn) (m.s.gc)) (aM l 19)<|bf a<|Lv (pf b (5*k+u)) (dh 5 (hx:=(rfl.trans (L_ (fun q=>Value.slice q (m.s.gn) (m.s.gc)) A))))<|av (pf b (5*k+u+1))<|Lv (aC (m.g k 1)) (aM D 1)<|bf y ?_;by_cases o:(m.g k 1)=r
   ·refine Lv aG (eO o)<|av aG<|aD<|aO<|ay<|bf a<|av (au k)<|aD<|Wr<|bL<|sR<|pO<|bL<|sR<|aJ (au k) ?_;exact⟨pU (Eq.symm (oP t (XR n o) (by omega))),d⟩
   refine Lv aF (fO o)<|av aF<|aD<|aK<|Wk<|bR<|sN<|Wl<|bf a<|Lv (au ((k:Int)+1)) fC<|av (au ((k:Int)+1))<|Ln<|ig ⟨k+1,by omega,(uX t (XQ o)),j,(v.trans Fx.ic),(y.trans Fx.ic),Fx.ic,l,d⟩ ?_;show(m.s.gn-(intOf (au ((k:Int)+1))).toNat)<_;simp only[a,intOf]; omega
  refine Lv aF (fO n)<|av aF<|dB<|dB<|dB<|dB<|dB<|dB<|dB<|dB<|dB<|dB<|dB<|av aF<|aD<|aK<|Wk<|bR<|sN<|Wl<|bf a<|Lv (au ((k:Int)+1)) fC<|av (au ((k:Int)+1))<|Ln<|ig ⟨k+1,by omega,(uX t (XP n)),j,(v.trans Fx.ic),(y.trans Fx.ic),Fx.ic,l,d⟩ ?_;show(m.s.gn-(intOf (au ((k:Int)+1))).toNat)<_;simp only[a,intOf]; omega
 refine Lv aF (iw z)<|aD<|aK<|Wx<|bZ<|gL<|cu<|sN<|ay<|av (au (-1))<|aD<|Wr<|aJ (au (-1)) ?_;exact⟨pU (Eq.symm (lu (fun i K=>t i (by omega)))),d⟩
theorem ach{n:Int}{k:Nat}(h:n=(k:Int)):decide (0<=n)=true:=f_ (by omega)
theorem aci{n:Int}(h:n = -1):decide (0<=n)=false:=g_ (by omega)
theorem XU(m:kR)(p a:Nat)(r:Int)(w:World)(h:Cb w p m)(ha:a<6) :
 Calls Tryz.prog 158 #[(pt p),au ((a:Int)+1),aC r] w fun e w'=>e = .returned (.bool (decide (0<=m.lD a r)))/\Below w.heap.size w w':=by
 have x:=h.c;have K:p<w.heap.size:=x.lt (by omega);have E:=h.bn;have D:=h.bg;have G:=h.bt;have F:=h.br a ha;refine Kent Tryz.func158 32 ?_;refine ay<|av aF<|aD<|Ws<|ay<|av (au 0)<|aD<|Wb<|Wo (fun f y => ∃ k:Nat,k<=m.rn a/\(∀ i,i<k->(fun i=>decide (m.rq a i=r)) i=false)/\f 0=(pt p)/\f 1=au ((a:Int)+1)/\f 2=aC r/\f 7=au (k:Int)/\iN y p 0 27 (lZ m)/\Below w.heap.size w y) (fun f _=>(m.rn a-(intOf (f 7)).toNat)) ⟨0,by omega,(fun i h=>M_ h (by omega)),(by rfl),Fx.ic,Fx.ic,Fx.ic,x,(Below.refl w.heap.size w)⟩ ?_;rintro H L ⟨k,J,o,l,n,u,j,s,d⟩;refine Ws<|ay<|bf j<|bf l<|bf n<|Lv (au a) gD<|av (pt p)<|av (pf p 21)<|Lv (pf p (a+21)) (jM 6 1)<|Lv (.slice (m.ra a) (m.rn a) (m.rc a)) (aM s (a+21) (wK _ (by omega)))<|av (au (((m.rn a):Nat):Int)) ?_;by_cases t:(k:Int)<(((m.rn a):Nat):Int)
 ·refine Lv aG (iq t)<|aD<|aO<|Wk<|sN<|Ws<|Wb<|Ws ?_;obtain⟨b,C,z,v⟩:=h.r a ha k (by omega);have A:b<w.heap.size:=v.lt (by omega);have B:=v.below d A;refine Wl<|bf l<|bf n<|Lv (au a) gD<|av (pt p)<|av (pf p 21)<|Lv (pf p (a+21)) (jM 6 1)<|Lv (.slice (m.ra a) (m.rn a) (m.rc a)) (aM s (a+21) (wK _ (by omega)))<|bf j<|Lv (pf b (k+C)) (dh 1 (hx:=(rfl.trans (L_ (fun q=>Value.slice q (m.rn a) (m.rc a)) z))))<|Lv (aC (m.rq a k)) (aM B 0)<|bf u ?_;by_cases g:(m.rq a k)=r
  ·refine Lv aG (eO g)<|aD<|aO<|ay<|av aG<|aD<|Wr<|bL<|sR<|pO<|bL<|sR<|aJ aG ?_;exact⟨iG (Eq.symm (ach (oP o (f_ g) (by omega)))),d⟩
  refine Lv aF (fO g)<|aD<|aK<|Wk<|bR<|sN<|Wl<|bf j<|Lv (au ((k:Int)+1)) fC<|av (au ((k:Int)+1))<|Ln<|ig ⟨k+1,by omega,(uX o (g_ g)),l,(n.trans Fx.ic),(u.trans Fx.ic),Fx.ic,s,d⟩ ?_;show(m.rn a-(intOf (au ((k:Int)+1))).toNat)<_;simp only[j,intOf]; omega
 refine Lv aF (iw t)<|aD<|aK<|Wx<|bZ<|gL<|cu<|sN<|ay<|av aF<|aD<|Wr<|aJ aF ?_;exact⟨iG (Eq.symm (aci (lu (fun i I=>o i (by omega))))),d⟩
namespace Rt
theorem Qp{k:Nat}{X:Nat->Int}{z:Int}(a:X k=z) : ∀ j,j<(k+1)*1->iF (rv .u64 X) (k*1) (bK (fun j=>rv .u64 (fun _=>0) (j % 1)) (0*1) 1 (fun _=>aC z)) j=rv .u64 X j:=by
 intro j b;unfold iF;by_cases h:j<k*1
 ·rw[d_ h]
 rw[b_ h];have e:j=k:=by omega
 subst e;unfold bK rv;rw[d_ (by omega),a]
theorem OI{t:Nat->Nat->Int}{tn k D:Nat}{x:Int}(a:k<=D)(b:bF t tn (aT t tn D x)<0)(h:0<=bF t tn (aT t tn k x)):k+1<=D:=Nat.lt_of_le_of_ne a fun e=>by subst e; omega
theorem Ua{t:Nat->Nat->Int}{tn k:Nat}{x:Int}(h : ∀ i,i<k->0<=bF t tn (aT t tn i x))(a:0<=bF t tn (aT t tn k x)) : ∀ i,i<k+1->0<=bF t tn (aT t tn i x):=fun i b=>by
 by_cases e:i=k
 ·subst e; exact a
 ·exact h i (by omega)
theorem uY{t:Nat->Nat->Int}{tn:Nat}{x:Int}(h:0<=bF t tn x) : ∃ j:Nat,j<tn/\bF t tn x=(j:Int)/\t j 0=x:=by
 rcases jh (fun i=>decide (t i 0=x)) tn with ⟨k,a,e,b⟩|⟨e,_⟩
 ·exact⟨k,a,e,h_ b⟩
 unfold bF at h; rw[e]at h; omega
theorem Qq{t:Nat->Nat->Int}{tn k j:Nat}{x:Int}(h:bF t tn (aT t tn k x)=(j:Int)):t j 1=aT t tn (k+1) x:=by
 show _=t (bF t tn (aT t tn k x)).toNat 1;rw[h]; rfl
end Rt
theorem OJ(a:Nat)(d:Option Addr)(tn f:Nat)(t:Nat->Nat->Int)(x:Int)(w:World)(h:EX w a d tn f t) :
 Calls Tryz.prog 175 #[(pt a),aC x] w fun e w'=>e = .returned (.bool (decide (0<=bF t tn x)))/\Below w.heap.size w w':=by
 have i:=h.tc;have k:a<w.heap.size:=i.lt (by omega);have j:=h.bt;refine Kent Tryz.func175 9 ?_;refine ay<|av aF<|aD<|ay<|av (pt a)<|av (aC x)<|dJ (M8 a d tn f t x _ (h.below (Below.refl w.heap.size w))) _ rfl ?_;intro l g;have c:=bE g (Below.refl w.heap.size w);by_cases b:0<=(bF t tn x)
 ·refine Lv aG (kP b)<|av aG<|aD<|Wr<|aJ aG ?_;exact⟨iG (Eq.symm (f_ b)),c⟩
 refine Lv aF (kr b)<|av aF<|aD<|Wr<|aJ aF ?_;exact⟨iG (Eq.symm (g_ b)),c⟩
theorem Jf(c:Nat)(p:Option Addr)(tn d:Nat)(t:Nat->Nat->Int)(x:Int)(D:Nat)(w:World)(h:EX w c p tn d t)(R:bF t tn (aT t tn D x)<0)(hD2:D<=1000) :
 Calls Tryz.prog 45 #[(pt c),aC x] w fun e w' => ∃ K v,e = .returned v/\Fx.Own w' w.heap.size 23 1 v K (rv .u64 (fun i=>aT t tn i x))/\(∀ i,i<K->0<=bF t tn (aT t tn i x))/\bF t tn (aT t tn K x)<0/\Below w.heap.size w w':=by
 have U:=h.tc;have lp:c<w.heap.size:=U.lt (by omega);have bt:=h.bt;refine Kent Tryz.func45 25 ?_;refine ay<|av (.slice none 0 0)<|aD<|ay<|av (.slice none 0 0)<|aD<|Ws<|Wb ?_;have m1:Fx.Own w w.heap.size 23 1 (.slice none 0 0) 0 (rv .u64 (fun i=>aT t tn i x)):=wX _ _ _ _ _;refine Wo (fun f N => ∃ k:Nat,∃ a:Option Addr,∃ l:Nat,k<=D/\(∀ i,i<k->0<=bF t tn (aT t tn i x))/\f 0=(pt c)/\f 1=aC (aT t tn k x)/\f 5 = .slice a (k) (l)/\iN N c 0 1 (fun _ => .slice p tn d)/\Fx.Own N w.heap.size 23 1 (.slice a k l) k (rv .u64 (fun i=>aT t tn i x))/\Below w.heap.size w N) (fun f _=>(D-acg (f 5))) ⟨0,none,0,by omega,(fun i h=>M_ h (by omega)),(by rfl),(by rfl),(by rfl),U,m1,(Below.refl w.heap.size w)⟩ ?_;rintro f1 w1 ⟨k,a,l,X,S,z,n,G,m2,m3,O⟩;refine Ws<|ay<|bf z<|bf n<|dJ (M8 c p tn d t (aT t tn k x) _ (h.below O)) _ rfl ?_;intro w2 hb1;have⟨Z,I,A⟩:=iy hb1 m2 m3 O;by_cases g:0<=(bF t tn (aT t tn k x))
 ·refine Lv aG (kP g)<|aD<|aO<|Wk<|sN<|Wb<|Ws ?_;obtain⟨j,W,P,_⟩:=uY g;refine Wl<|bf G<|bf n<|yK (vs := [(0,aC (aT t tn k x))]) (s:=1) (zc:=rv .u64 (fun _=>0)) (y:=bK (fun j=>(rv .u64 (fun _=>0)) (j % 1)) (0*1) 1 (fun _=>aC (aT t tn k x))) (by rfl) rfl rfl Tryz.underlying53 (by kernel_rfl) (by rfl) (by rfl) (by kernel_rfl) (by rw[bG (off:=0*1) (s:=1) (y:=fun _=>aC (aT t tn k x)) rfl (cells_one (by rfl)) (by rfl)]; rfl) rfl fun Q w3 F m6 s2 z1 => ?_;have⟨m7,J,C⟩:=iy s2.old Z I A;have sM:=iQ F A.size;have zL:c≠Q:=by rw[F]; exact u_ (Z.lt (by omega))
  have KN:(.slice a k l:Value).ownBlock≠some Q:=by rw[F]; exact I.ko (A_ _)
  have ug:=m6.lt;refine zk (B:=w.heap.size) (s:=1) (bytes:=8) (k:=k) (m:=1) (by rfl) rfl rfl rfl Tryz.underlying53 (by kernel_rfl) (by kernel_rfl) rfl rfl J m6.aH (fun j W=>by rcases j with _|j <;> first|rfl|omega) (by omega) (by omega) (by omega) C.size fun u r M ho1 V wB hlt1 => ?_
  have H:iN M c 0 1 (fun _ => .slice p tn d):=m7.grown V (J.not (by omega));have m9:Fx.Own M w.heap.size 23 1 (bO u (k+1) r) (k+1) (rv .u64 (fun i=>aT t tn i x)):=ho1.congr (Qp rfl);have E:Below w.heap.size w M:=zi C V C.size (fun q hq=>(J.ge hq).1);refine av (bO u (k+1) r)<|aD ?_;obtain⟨b,off,ea,T⟩:=h.t j W;have lb:b<w.heap.size:=T.lt (by omega);have Y:=T.below E lb;refine nu<|dZ z<|aX (pt c)<|aX (pt c)<|Qv (.slice p (tn) (d)) (fun L o=>aM (H.below o (H.lt (by omega))) 0)<|dZ z<|dZ n<|zm (fun L o=>((M8 c p tn d t (aT t tn k x) _ (h.below (JN E o))).mono fun e w2 n=>(⟨n.1.trans (by rw[P]),n.2⟩:e = .returned (au (j:Int))/\_))) _ rfl<|Qv (pf b (2*j+off)) (fun L o=>dh 2 (hx:=(rfl.trans (L_ (fun q=>Value.slice q (tn) (d)) ea))))<|aX (pf b (2*j+off+1))<|Qv (aC ((t j) 1)) (fun L o=>aM (Y.below o (Y.lt (by omega))) 1)<|aX (aC ((t j) 1))<|Qn ?_;intro Xz tK;have⟨m12,m13,b5⟩:=iy tK H m9 E;refine bR ?_;have kD:=OI X R g;refine ig ⟨k+1,(some ⟨u,0,none⟩),r,(OI X R g),(Ua S g),z,(L_ (Value.int .u64) (Qq P)),(by rfl),m12,m13,b5⟩ ?_;show(D-acg (bO u (k+1) r))<_;simp only[G,intOf,acg]; omega
 refine Lv aF (kr g)<|aD<|aK<|Wx<|bZ<|gL<|cu<|sN<|ay<|bf G<|av (.slice a (k) (l))<|aD<|Wr<|aJ (.slice a (k) (l)) ?_;exact⟨k,_,rfl,I,S,by omega,A⟩
namespace Rt
theorem alu{k n r:Nat}(e:r=k % n)(_hn:0<n)(_hk:k<=1000000):Int.tmod (k:Int) (n:Int)=(r:Int):=by
 rw[Int.tmod_eq_emod_of_nonneg (by omega),e];exact(Int.natCast_emod k n).symm
def EY(m:kR)(k:Nat):Int:=if m.s.nn=0 then 0 else m.id (k % m.s.nn)
def kH(k a:Nat):kR := { s:=⟨fun i=>decide (i<k),fun _=>false,fun _=>0,none,0,0,none,0,0⟩,id:=fun _=>0,par:=fun _=>0,R:=fun _ _=>0,g:=fun _ _=>0,tb:=a,ta:=none,tn:=0,tc:=0,t:=fun _ _=>0,ra:=fun _=>none,rn:=fun _=>0,rc:=fun _=>0,rq:=fun _ _=>0 }
theorem Qr(k c:Nat)(d:k<6):dD (lZ (kH k c)) k (.bool true)=lZ (kH (k+1) c):=by
 funext p
 unfold dD;by_cases e:p=k
 ·subst e; rw[d_ rfl];exact(kF _ (by omega) ((Ad _ d).trans (L_ Value.bool (f_ (show p<p+1 by omega))))).symm
 rw[b_ e];unfold lZ;by_cases h:p<20
 ·rw[d_ h,d_ h];unfold nQ;by_cases a:p<6
  ·rw[d_ a,d_ a];show Value.bool (decide (p<k))=Value.bool (decide (p<k+1));by_cases b:p<k
   ·rw[f_ b,f_ (show p<k+1 by omega)]
   rw[g_ b,g_ (show ¬ p<k+1 by omega)]
  rw[b_ a,b_ a]; rfl
 rw[b_ h,b_ h]; rfl
end Rt
theorem Ub(m:kR)(p k:Nat)(w:World)(h:Cb w p m)(F:k<=1000000) :
 Calls Tryz.prog 12 #[(pt p),au (k:Int)] w fun e w'=>e = .returned (aC (EY m k))/\Below w.heap.size w w':=by
 have f:=h.c;have G:p<w.heap.size:=f.lt (by omega);have D:=h.bn;have C:=h.bg;have E:=h.bt;refine Kent Tryz.func12 28 ?_;refine ay<|av (aC 0)<|aD<|Ws<|ay<|av (pt p)<|av (pt p)<|av (pt p)<|av (pf p 18)<|Lv (.slice m.s.na (m.s.nn) (m.s.nc)) (aM f 18)<|av (au m.s.nn) ?_;by_cases j:(m.s.nn:Int)=0
 ·refine Lv aG (eO j)<|aD<|aO<|ay<|av (aC 0)<|aD<|Wr<|sR<|aJ (aC 0) ?_;exact⟨L_ (fun q=>Ending.returned (Value.int .u64 q)) (by unfold EY; rw[d_ (by omega)]),(Below.refl w.heap.size w)⟩
 refine Lv aF (fO j)<|aD<|aK<|Wk<|sN<|Ws ?_;obtain⟨r,g⟩ : ∃ r,r=k % m.s.nn:=⟨_,rfl⟩;have x:r<m.s.nn:=by rw[g]; exact J_ _ (by omega)
 obtain⟨b,o,v,l⟩:=h.n r x;have y:b<w.heap.size:=l.lt (by omega);have z:=l.below (Below.refl w.heap.size w) y;refine uO<|aX (pt p)<|aX (pt p)<|aX (pt p)<|aX (pf p 18)<|Qv (.slice m.s.na (m.s.nn) (m.s.nc)) (fun d a=>aM (f.dr a) 18)<|aX (au k)<|aX (pt p)<|aX (pt p)<|aX (pt p)<|aX (pf p 18)<|Qv (.slice m.s.na (m.s.nn) (m.s.nc)) (fun d a=>aM (f.dr a) 18)<|aX (au m.s.nn)<|Qv (au r) (fun d a=>Fx.uL rfl rfl rfl (by omega) (alu g (by omega) (by omega)))<|Qv (pf b (o+56*r)) (fun d a=>dh 56 (hx:=(rfl.trans (L_ (fun q=>Value.slice q (m.s.nn) (m.s.nc)) v))))<|aX (pf b (o+56*r))<|Qv (aC (m.id r)) (fun d a=>aM (z.dr a) 0)<|aX (aC (m.id r))<|Qn ?_;rintro _ ⟨t,rfl⟩;obtain⟨B,i⟩ : ∃ d,d=World.drewN w t:=⟨_,rfl⟩;rw[<- i];have A:Stp w.heap.size w B:=by rw[i]; exact Sb (je w t)
 have u:=bE A.old (Below.refl w.heap.size w);clear i;refine sN<|Wr<|aJ (aC (m.id r)) ?_;exact⟨L_ (fun q=>Ending.returned (Value.int .u64 q)) (by unfold EY; rw[b_ (by omega),g]),u⟩
set_option maxRecDepth 10000 in
theorem agv(n:Nat)(w:World)(h1:1<=n)(S:n<=6) :
 Calls Tryz.prog 55 #[au (n:Int)] w fun e w' => ∃ p h,e = .returned (.tuple #[(pt p),au 0])/\w.heap.size<=p/\Cb w' p (kH n h)/\Below w.heap.size w w'/\aR w' p 27 (lZ (kH n h)) 56/\aR w' h 1 (fun _ => .slice none 0 0) 156/\w.heap.size<=h:=by
 refine Kent Tryz.func55 28 ?_;refine ay<|av (.pointer none)<|av (au 0)<|aD<|Ws<|ay<|av (au n)<|Lv aF GR<|av aF<|av (au n)<|Lv aF xU<|av aF<|aD<|aK<|Wk<|sN<|ay<|av (.agg (aA 1 (fun _ => .slice none 0 0)))<|pR fun b Y D q N z1 => ?_;have u:=bE N.old (Below.refl w.heap.size w);have G:=gT D;have W:=q.lt;refine av (.agg (aA 27 (bK (fun i=>(#[.bool false,.bool false,.bool false,.bool false,.bool false,.bool false,.bool false,.bool false,.bool false,.bool false,.bool false,.bool false,aC 0,aC 0,aC 0,aC 0,aC 0,aC 0,.slice none 0 0,.slice none 0 0,.pointer none,.slice none 0 0,.slice none 0 0,.slice none 0 0,.slice none 0 0,.slice none 0 0,.slice none 0 0]:Array Value).getD i undef) 20 1 (fun _=>(pt b)))))<|Dy (m:=27) (y:=bK (fun i=>(#[.bool false,.bool false,.bool false,.bool false,.bool false,.bool false,.bool false,.bool false,.bool false,.bool false,.bool false,.bool false,aC 0,aC 0,aC 0,aC 0,aC 0,aC 0,.slice none 0 0,.slice none 0 0,.pointer none,.slice none 0 0,.slice none 0 0,.slice none 0 0,.slice none 0 0,.slice none 0 0,.slice none 0 0]:Array Value).getD i undef) 20 1 (fun _=>(pt b))) (by rfl) rfl rfl (bI _ _) rfl fun a P x z O z2 => ?_;have⟨I,B⟩:=fq O.old q u;have H:=iQ x u.size;have V:=cK x q.lt;have X:=z.lt;refine av (pt a)<|aD<|Ws<|ay<|av (au 0)<|aD<|Wb ?_;have J:aR P a 27 (lZ (kH 0 b)) 56:=z.congr (fun j T=>by rcases j with _|_|_|_|_|_|_|_|_|_|_|_|_|_|_|_|_|_|_|_|_|_|_|_|_|_|_|j <;> first|rfl|omega)
 refine Wo (fun f t => ∃ k:Nat,k<=n/\f 0=au (n:Int)/\f 4=(pt a)/\f 5=au (k:Int)/\aR t b 1 (fun _ => .slice none 0 0) 156/\aR t a 27 (lZ (kH k b)) 56/\Below w.heap.size w t) (fun f _=>(n-(intOf (f 5)).toNat)) ⟨0,by omega,Fx.ic,(by rfl),Fx.ic,I,J,B⟩ ?_;rintro R Z ⟨k,U,h1,o,g,r,s,l⟩;refine Ws<|ay<|bf g<|bf h1 ?_;by_cases v:(k:Int)<(n:Int)
 ·refine Lv aG (iq v)<|aD<|aO<|Wk<|sN<|Ws<|Wb<|Wl<|bf o<|bf g<|av (pt a)<|av (pt a)<|av (pt a)<|Lv (pf a k) (jM 6 1)<|jg s k aG fun Q K A z3 => ?_;have L:=r.cO A (by omega);have C:=A.below l l.size (by omega);refine Ln<|bR<|sN<|Wl<|bf g<|Lv (au ((k:Int)+1)) fC<|av (au ((k:Int)+1))<|Ln ?_;have M:aR Q a 27 (lZ (kH (k+1) b)) 56:=K.to (Qr k b (by omega))
  skip
  refine ig ⟨k+1,by omega,(h1.trans Fx.ic),o,Fx.ic,L,M,C⟩ ?_;show(n-(intOf (au ((k:Int)+1))).toNat)<_;simp only[g,intOf]; omega
 refine Lv aF (iw v)<|aD<|aK<|Wx<|bZ<|gL<|cu<|sN<|ay<|bf o<|av (pt a)<|av (au 0)<|aD<|Wr<|aJ (.tuple #[(pt a),au 0]) ?_;have E:k=n:=by omega
 subst E;exact⟨_,_,rfl,H,{ c:=s.aH,an:=fun d=>M_ d (Nat.lt_irrefl 0),ag:=fun d=>M_ d (Nat.lt_irrefl 0),tc:=r.aH,at2:=fun d=>M_ d (Nat.lt_irrefl 0),ar:=fun i F d=>M_ d (Nat.lt_irrefl 0),bn:=K_ _,bg:=K_ _,bt:=K_ _,br:=fun i F=>K_ _ },l,s,r,G⟩
end Go.Proofs.YtcbedgfikejkoaaGreatDoor
