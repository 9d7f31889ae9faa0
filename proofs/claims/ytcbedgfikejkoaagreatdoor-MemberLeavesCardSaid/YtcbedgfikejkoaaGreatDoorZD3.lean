/-
  What the proof of the law rests on, part 3: walks of functions, and plain laws; each says its conditions itself.
-/
import Derived.Test.YtcbedgfikejkoaaGreatDoorRows
import Derived.BigRegion
import Derived.Deep.DeepCutAuto
import Derived.Test.YtcbedgfikejkoaaGreatDoorZD2
set_option maxRecDepth 20000
set_option linter.unusedVariables false
namespace Go.Proofs.YtcbedgfikejkoaaGreatDoor
theorem wT0{P:Program}{ops:Array Oper}{Q:Exit->Act->World->Prop}{md:Region.Mode}{S:World->Prop}(i:Nat){oi:Oper}(v:Value){fuel:Nat}{l:Array Bool}{a:Act}{w:World}(hi:ops[i]? = some oi)(hv : ∀ w,S w->(execOp a.eval oi).run P w = .ok (.value v) w)(hS:S w)(h:wpAnyH P md ops Q S fuel (l.setIfInBounds i true) (a.put oi.dst v) w)(hy:Region.wanted oi (yielded ops a.tmps)=true:=by rfl)(hs:Region.noSelect ops=true:=by kernel_rfl)(hf:Region.free md ops l i=true:=by kernel_rfl)(hr:(Region.ready md ops l).contains i=true:=by kernel_rfl)(hQ : ∀ c a w,Q (.panic c) (a.put oi.dst v) w->Q (.panic c) a w:=by exact fun _ _ _ h=>h):wpAnyH P md ops Q S (fuel+1) l a w:=wpAnyH_take hi hs hf hr hQ (.inl ⟨hy,hv⟩) hS h
end Go.Proofs.YtcbedgfikejkoaaGreatDoor
set_option maxHeartbeats 1600000
set_option linter.unusedSimpArgs false
namespace Go.Proofs.YtcbedgfikejkoaaGreatDoor
open Go.RowKit Rt
open Fx (dA Lv sN Ln Ws Qv Wl Wr Wk sR Wb Wx Wo DU Qn tK Bo rv iJ iN rT jS bL bP bX bY gP gW pV)
section
open Rt
theorem ads{c f:Int}(a b:Nat)(i:c=(a:Int))(j:f=(b:Int))(B g n cap:Nat)(d:Array Int)(w:World)(h:Fx.Own w B 23 1 (bK g n cap) n (rv .u64 (gA d)))(k:B<=w.heap.size)(m:d.size=n)(o:n<=1000)(ha:a<=b)(l:b<=n) :
 Calls Tryz.prog 176 #[bK g n cap,au c,au f] w fun e w'=>e = .returned (.tuple #[])/\Fx.Own w' B 23 1 (bK g n cap) n (rv .u64 (gA (Sort.insertionSort Sort.ltInt d a b)))/\Below B w w':=by
 subst i j; exact ahA a b B g n cap d w h k m o ha l
theorem YP{c f:Int}(a b:Nat)(i:c=(a:Int))(j:f=(b:Int))(B g n cap:Nat)(d:Array Int)(w:World)(h:Fx.Own w B 23 1 (bK g n cap) n (rv .u64 (gA d)))(k:B<=w.heap.size)(m:d.size=n)(o:n<=1000)(ha:a<b)(l:b<=n) :
 Calls Tryz.prog 177 #[bK g n cap,au c,au f] w fun e w'=>e = .returned (.tuple #[])/\Fx.Own w' B 23 1 (bK g n cap) n (rv .u64 (gA (Sort.heapSort Sort.ltInt d a b)))/\Below B w w':=by
 subst i j; exact adg a b B g n cap d w h k m o ha l
theorem adt{c f:Int}(a b:Nat)(i:c=(a:Int))(j:f=(b:Int))(B g n cap:Nat)(d:Array Int)(w:World)(h:Fx.Own w B 23 1 (bK g n cap) n (rv .u64 (gA d)))(k:B<=w.heap.size)(m:d.size=n)(o:n<=1000)(ha:a<b)(l:b<=n) :
 Calls Tryz.prog 180 #[bK g n cap,au c,au f] w fun e w'=>e = .returned (.tuple #[])/\Fx.Own w' B 23 1 (bK g n cap) n (rv .u64 (gA (Sort.reverseRange d a b)))/\Below B w w':=by
 subst i j; exact ahC a b B g n cap d w h k m o ha l
def abz(m:Nat):Prop := ∀(i j k:Int) (a b l:Nat) (B g n f:Nat) (d:Array Int) (w:World) (h:Fx.Own w B 23 1 (bK g n f) n (rv .u64 (gA d))) (hB:B<=w.heap.size) (hn:d.size=n) (hs:n<=1000) (h50:n<50) (hl:l<=1000) (hab:a<=b) (hb:b<=n) (hBel:Sort.Below Sort.ltInt a b d),i=(a:Int)->j=(b:Int)->k=(l:Int)->b-a<m ->
    Calls Tryz.prog 163 #[bK g n f,au i,au j,au k] w fun e w' => ∃ c:Array Int,e = .returned (.tuple #[])/\c.size=n/\Sort.PermIn a b d c/\Sort.SortedIn Sort.ltInt a b c/\Fx.Own w' B 23 1 (bK g n f) n (rv .u64 (gA c))/\Below B w w'
theorem adu(m:Nat)(ih:abz m)(a b lim:Nat)(B g n cap:Nat)(d:Array Int)(w:World)(h:Fx.Own w B 23 1 (bK g n cap) n (rv .u64 (gA d)))(r:B<=w.heap.size)(hn:d.size=n)(x:n<=1000)(V:n<50)(hl:lim<=1000)(hab:a<=b)(hb:b<=n)(hBel:Sort.Below Sort.ltInt a b d)(hm:b-a<m+1) :
 Calls Tryz.prog 163 #[bK g n cap,au (a:Int),au (b:Int),au (lim:Int)] w fun e w' => ∃ d2:Array Int,e = .returned (.tuple #[])/\d2.size=n/\Sort.PermIn a b d d2/\Sort.SortedIn Sort.ltInt a b d2/\Fx.Own w' B 23 1 (bK g n cap) n (rv .u64 (gA d2))/\Below B w w':=by
 refine Kent Tryz.func163 134 ?_;refine ay<|av aG<|aC<|ay<|av aG<|aC<|Wb<|DU (fun kk f A => ∃ c:Nat,∃ i:Nat,∃ N:Nat,∃ v:Array Int,∃ O:Bool,∃ wp:Bool,v.size=n/\Sort.Below Sort.ltInt c i v/\(∀ R,Sort.PermIn c i v R->Sort.SortedIn Sort.ltInt c i R->Sort.PermIn a b d R/\Sort.SortedIn Sort.ltInt a b R)/\(c<=i/\i<=n/\N<=1000/\i-c<=b-a)/\kk=i-c/\f 0=bK g n cap/\f 1=au (c:Int)/\f 2=au (i:Int)/\f 3=au (N:Int)/\f 8 = .bool O/\f 9 = .bool wp/\Fx.Own A B 23 1 (bK g n cap) n (rv .u64 (gA v))/\Below B w A) (b-a) ⟨a,b,lim,d,true,true,hn,hBel,(fun R U J=>⟨U,J⟩),(by omega),rfl,(by rfl),Fx.ic,Fx.ic,Fx.ic,(by rfl),(by rfl),h,(Below.refl B w)⟩ ?_;rintro kk f1 w1 ⟨c,i,N,v,O,wp,hk,hBl,K,axf,hkk,U,J,h3,h4,h5,h6,m1,S⟩;refine Wb<|ay<|aU h3<|aU J<|Lv (au ((i:Int)-(c:Int))) gQ<|av (au ((i:Int)-(c:Int)))<|aC<|Ws<|ay<|av (au ((i:Int)-(c:Int))) ?_;by_cases c23:((i:Int)-(c:Int))<=12
 ·refine Lv aG (nL c23)<|aC<|aM<|ay<|aU U<|aU J<|aU h3<|dH (ads c i (by omega) (by omega) B g n cap v _ m1 (m_ r S.size) hk x (by omega) (by omega)) (ax := #[bK g n cap,au (c:Int),au (i:Int)]) _ rfl ?_;rintro w2 ⟨m2,hb1⟩;have b2:=S.trans hb1;refine aC (Wr (sR (bL (pV (bL (⟨.tuple #[],iJ Tryz.results163,?_⟩))))));have Y:=(Sort.insertionSort_holds Sort.swo_ltInt v c i (by omega) (by omega));have M:=K _ Y.1 Y.2;exact⟨_,rfl,Y.1.1.trans hk,M.1,M.2,m2,b2⟩
 refine Lv aF (ow c23)<|aC<|aK<|Wk<|sN<|Ws<|ay<|aU h4 ?_;by_cases c29:(N:Int)=0
 ·refine Lv aG (eH c29)<|aC<|aM<|ay<|aU U<|aU J<|aU h3<|dH (YP c i (by omega) (by omega) B g n cap v _ m1 (m_ r S.size) hk x (by omega) (by omega)) (ax := #[bK g n cap,au (c:Int),au (i:Int)]) _ rfl ?_;rintro w3 ⟨m3,hb2⟩;have b3:=S.trans hb2;refine aC (Wr (sR (bL (pV (bL (⟨.tuple #[],iJ Tryz.results163,?_⟩))))));have Y:=(Sort.heapSort_holds Sort.swo_ltInt v c i (by omega) (by omega));have M:=K _ Y.1 Y.2;exact⟨_,rfl,Y.1.1.trans hk,M.1,M.2,m3,b3⟩
 refine Lv aF (fC c29)<|aC<|aK<|Wk<|sN<|Bo (fun f A => ∃ p:Nat,∃ I:Array Int,I.size=n/\Sort.PermIn c i v I/\p<=1000/\f 0=bK g n cap/\f 1=au (c:Int)/\f 2=au (i:Int)/\f 3=au (p:Int)/\f 8 = .bool O/\f 9 = .bool wp/\f 10=au ((i:Int)-(c:Int))/\Fx.Own A B 23 1 (bK g n cap) n (rv .u64 (gA I))/\Below B w A) ?_ ?_
 ·refine ay ?_;by_cases c34:O=true
  ·refine aU (h5.trans (L_ Value.bool c34))<|av aF<|aC<|aK<|Wk ?_;exact rT ⟨N,v,hk,(Sort.permIn_refl _ _ _),(by omega),U,(J.trans Fx.ic),(h3.trans Fx.ic),(h4.trans Fx.ic),h5,h6,Fx.ic,m1,S⟩
  rw[U_]at c34;refine aU (h5.trans (L_ Value.bool c34))<|av aG<|aC<|aM<|ay<|aU U<|aU J<|aU h3<|lD (ahF c i B g n cap v _ m1 (m_ r S.size) hk x (by omega) (by omega) V) ?_;rintro D w4 ⟨dn1,l,hz1,hP1,m4,hb3⟩;have b4:=S.trans hb3;refine⟨_,l,?_⟩;clear l;refine aC<|Wl<|aU h4<|Lv (au ((N:Int)-1)) gQ<|av (au ((N:Int)-1))<|Ln ?_;exact rT ⟨N-1,dn1,hz1,hP1,(by omega),U,(J.trans Fx.ic),(h3.trans Fx.ic),Fx.ic,h5,h6,Fx.ic,m4,b4⟩
 rintro f2 w5 ⟨p,I,hk1,hP1,hl2,h7,h8,h9,h10,h11,h12,Rl,m5,b5⟩;refine ay<|aU h7<|aU h8<|aU h9<|lD (ahH c i B g n cap I _ m5 (m_ r b5.size) hk1 x (by omega) (by omega) V) ?_;rintro D w6 ⟨H,ht1,l,hu1,G,m6,hb4⟩;have b6:=b5.trans hb4;refine⟨_,l,?_⟩;clear l;refine av (.tuple #[au (H:Int),au ht1])<|av (au H)<|av (au ht1)<|av (au H)<|av (au ht1)<|aC<|Bo (fun f A => ∃ q:Nat,∃ hint:Int,∃ o:Array Int,o.size=n/\Sort.PermIn c i v o/\(c<=q/\q<i)/\f 0=bK g n cap/\f 1=au (c:Int)/\f 2=au (i:Int)/\f 3=au (p:Int)/\f 8 = .bool O/\f 9 = .bool wp/\f 10=au ((i:Int)-(c:Int))/\f 11=au (q:Int)/\f 12=au hint/\Fx.Own A B 23 1 (bK g n cap) n (rv .u64 (gA o))/\Below B w A) ?_ ?_
 ·refine ay<|av (au ht1) ?_;by_cases c50:ht1=2
  ·refine Lv aG (eH c50)<|aC<|aM<|ay<|aU h7<|aU h8<|aU h9<|dH (adt c i (by omega) (by omega) B g n cap I _ m6 (m_ r b6.size) hk1 x (by omega) (by omega)) (ax := #[bK g n cap,au (c:Int),au (i:Int)]) _ rfl ?_;rintro w7 ⟨m7,hb5⟩;have b7:=b6.trans hb5;refine aC<|ay<|aU h9<|Lv (au ((i:Int)-1)) gQ<|av (au H)<|aU h8<|Lv (au ((H:Int)-(c:Int))) gQ<|Lv (au ((c:Int)+(i:Int)-(H:Int)-1)) gQ<|av (au ((c:Int)+(i:Int)-(H:Int)-1))<|aC<|Wl<|av (au 1)<|Ln ?_;exact rT ⟨c+i-H-1,1,Sort.reverseRange I c i,((Sort.reverseRange_holds _ _ _ (by omega) (by omega)).1.trans hk1),(Sort.permIn_trans _ _ _ _ _ hP1 (Sort.reverseRange_holds _ _ _ (by omega) (by omega))),(by omega),h7,(h8.trans Fx.ic),(h9.trans Fx.ic),(h10.trans Fx.ic),h11,h12,(Rl.trans Fx.ic),Fx.ic,Fx.ic,m7,b7⟩
  refine Lv aF (fC c50)<|aC<|aK<|Wk ?_;exact rT ⟨H,ht1,I,hk1,hP1,(by omega),h7,(h8.trans Fx.ic),(h9.trans Fx.ic),(h10.trans Fx.ic),h11,h12,(Rl.trans Fx.ic),Fx.ic,Fx.ic,m6,b6⟩
 rintro f3 w8 ⟨q,hint,o,hk2,F,L,SV,Ym,h16,PN,h18,h19,h20,h21,h22,m8,b8⟩;obtain⟨hpv1,hpv2⟩:=L;have L:=And.intro hpv1 hpv2;refine Bo (fun f A=>f 0=bK g n cap/\f 1=au (c:Int)/\f 2=au (i:Int)/\f 3=au (p:Int)/\f 8 = .bool O/\f 9 = .bool wp/\f 10=au ((i:Int)-(c:Int))/\f 11=au (q:Int)/\Fx.Own A B 23 1 (bK g n cap) n (rv .u64 (gA o))/\Below B w A) ?_ ?_
 ·refine ay ?_;by_cases c61:O=true
  ·refine aU (h18.trans (L_ Value.bool c61))<|av aG ?_;by_cases c63:wp=true
   ·refine aU (h19.trans (L_ Value.bool c63))<|av aG<|av aG<|aU h22 ?_;by_cases c67:hint=1
    ·refine Lv aG (eH c67)<|av aG<|aC<|aM<|ay<|aU SV<|aU Ym<|aU h16<|lD (adn c i B g n cap o _ m8 (m_ r b8.size) hk2 x (by omega) (by omega) V) ?_;rintro D w9 ⟨r1,l,hS1,m9,hb6⟩;have b9:=b8.trans hb6
     rcases r1 with _|_
     ·refine⟨_,l,?_⟩;clear l;refine aC<|aK<|Wk ?_;exact rT ⟨SV,(Ym.trans Fx.ic),(h16.trans Fx.ic),(PN.trans Fx.ic),h18,h19,(h20.trans Fx.ic),(h21.trans Fx.ic),m9,b9⟩
     refine⟨_,l,?_⟩;clear l;refine aC (aM (Wr (Fx.jnR (bL (pV (bL (⟨.tuple #[],iJ Tryz.results163,?_⟩)))))));have M:=K _ F (hS1 rfl);exact⟨_,rfl,hk2,M.1,M.2,m9,b9⟩
    refine Lv aF (fC c67)<|av aF<|aC<|aK<|Wk ?_;exact rT ⟨SV,(Ym.trans Fx.ic),(h16.trans Fx.ic),(PN.trans Fx.ic),h18,h19,(h20.trans Fx.ic),(h21.trans Fx.ic),m8,b8⟩
   rw[U_]at c63;refine aU (h19.trans (L_ Value.bool c63))<|av aF<|av aF<|bO<|bO<|av aF<|aC<|aK<|Wk ?_;exact rT ⟨SV,(Ym.trans Fx.ic),(h16.trans Fx.ic),(PN.trans Fx.ic),h18,h19,(h20.trans Fx.ic),(h21.trans Fx.ic),m8,b8⟩
  rw[U_]at c61;refine aU (h18.trans (L_ Value.bool c61))<|av aF<|bO<|av aF<|av aF<|bO<|bO<|av aF<|aC<|aK<|Wk ?_;exact rT ⟨SV,(Ym.trans Fx.ic),(h16.trans Fx.ic),(PN.trans Fx.ic),h18,h19,(h20.trans Fx.ic),(h21.trans Fx.ic),m8,b8⟩
 rintro f4 pJ ⟨s,y,C,E,h27,h28,h29,h30,m10,b10⟩;refine Ws<|Ws ?_;refine nM<|eG y ?_;by_cases c74:0<(c:Int)
 ·refine Qv aG (fun v1 G=>ni c74)<|aW aG<|eG s<|eG y<|Qv (au ((c:Int)-1)) (fun v1 G=>gQ)<|Qv (pf g (c-1)) (fun v1 G=>dw 1)<|Qv (aD ((gA o) (c-1))) (fun v1 G=>aL (m10.cb G) (c-1))<|eG s<|eG h30<|Qv (pf g q) (fun v1 G=>dw 1)<|Qv (aD ((gA o) q)) (fun v1 G=>aL (m10.cb G) q) ?_;by_cases c85:(decide ((gA o) (c-1)<(gA o) q))=true
  ·refine qQ (fun _ _=>dS ((gA o) (c-1)) ((gA o) q) _) aG (by rw[c85])<|aW aF<|aW aF<|Qn ?_;intro YL uO;have m11:=bf uO m10;have b11:=eZ uO b10 r;refine sN<|aK<|Wk<|sN<|ay<|aU s<|aU y<|aU C<|aU h30<|lD (ahI c i q B g n cap o _ m11 (m_ r b11.size) hk2 x (by omega) (by omega) (by omega)) ?_;rintro D DV ⟨j,P,dn2,l,hu2,hv2,hz2,m12,hb7⟩;have b12:=b11.trans hb7;have hx:Sort.partition Sort.ltInt o c i q=(j,(Sort.partition Sort.ltInt o c i q).2.1,dn2):=Prod.ext hu2 (Prod.ext rfl hv2);obtain⟨r1,r2,r3,r4,r5,r6,r7⟩:=Sort.round_part Sort.swo_ltInt (Sort.partition_holds _) L.1 L.2 (by omega) (hBl.perm (by omega) F) hx;clear hx;refine⟨_,l,?_⟩;clear l;refine av (.tuple #[au (j:Int),.bool P])<|av (au j)<|av (.bool P)<|av (au j)<|av (.bool P)<|aC<|ay<|av (.bool P)<|av (.bool P)<|aC<|ay<|av (au j)<|aU y<|Lv (au ((j:Int)-(c:Int))) gQ<|aU C<|av (au j)<|Lv (au ((i:Int)-(j:Int))) gQ<|av (au ((j:Int)-(c:Int)))<|av (au ((i:Int)-(j:Int)))<|aC<|ay<|aU h29<|Lv (au ((i-c) / 8:Nat)) (Fx.DL rfl rfl rfl (by omega) (iN (by omega) (by rw[Int.tdiv_eq_ediv_of_nonneg (by omega)]; omega)))<|av (au ((i-c) / 8:Nat))<|aC<|ay<|av (au ((j:Int)-(c:Int)))<|av (au ((i:Int)-(j:Int))) ?_;by_cases UR:((j:Int)-(c:Int))<((i:Int)-(j:Int))
   ·refine Lv aG (gM UR)<|aC<|aM<|ay<|av (au ((j:Int)-(c:Int)))<|av (au ((i-c) / 8:Nat))<|Lv (.bool (decide (((i-c) / 8:Nat)<=((j:Int)-(c:Int))))) (Fx.Fj rfl rfl rfl)<|av (.bool (decide (((i-c) / 8:Nat)<=((j:Int)-(c:Int)))))<|aC<|ay<|aU s<|aU y<|av (au j)<|aU E<|lD (ih _ _ _ c j p B g n cap dn2 _ m12 (m_ r b12.size) hz2 x V (by omega) (by omega) (by omega) r4 (by omega) (by omega) (by omega) (by omega)) (ax := #[bK g n cap,au (c:Int),au (j:Int),au (p:Int)]) ?_;rintro D Ct ⟨T,l,Z,W,X,m13,hb8⟩;refine⟨_,l,?_⟩;clear l;have b13:=b12.trans hb8;obtain⟨q1,z⟩:=r6 _ W X;refine aC (Wl (av (au j) (Lv (au ((j:Int)+1)) fA (av (au ((j:Int)+1)) (Ln (bP (gW ⟨i-(j+1),(by omega),j+1,i,p,T,(decide (((i-c) / 8:Nat)<=((j:Int)-(c:Int)))),(P),Z,q1,(fun R t u=>K R (Sort.permIn_trans _ _ _ _ _ F (z R t u).1) (z R t u).2),(by omega),rfl,s,Fx.ic,(C.trans Fx.ic),(E.trans Fx.ic),(by rfl),(by rfl),m13,b13⟩ (by decide))))))))
   refine Lv aF (gN UR)<|aC<|aK<|ay<|av (au ((i:Int)-(j:Int)))<|av (au ((i-c) / 8:Nat))<|Lv (.bool (decide (((i-c) / 8:Nat)<=((i:Int)-(j:Int))))) (Fx.Fj rfl rfl rfl)<|av (.bool (decide (((i-c) / 8:Nat)<=((i:Int)-(j:Int)))))<|aC<|ay<|aU s<|av (au j)<|Lv (au ((j:Int)+1)) fA<|aU C<|aU E<|lD (ih _ _ _ (j+1) i p B g n cap dn2 _ m12 (m_ r b12.size) hz2 x V (by omega) (by omega) (by omega) r5 (by omega) (by omega) (by omega) (by omega)) (ax := #[bK g n cap,au ((j:Int)+1),au (i:Int),au (p:Int)]) ?_;rintro D EM ⟨T,l,Z,W,X,m14,Yn⟩;refine⟨_,l,?_⟩;clear l;have b14:=b12.trans Yn;obtain⟨q1,z⟩:=r7 _ W X;refine aC (Wl (av (au j) (av (au j) (Ln (bP (gW ⟨j-c,(by omega),c,j,p,T,(decide (((i-c) / 8:Nat)<=((i:Int)-(j:Int)))),(P),Z,q1,(fun R t u=>K R (Sort.permIn_trans _ _ _ _ _ F (z R t u).1) (z R t u).2),(by omega),rfl,s,(y.trans Fx.ic),Fx.ic,(E.trans Fx.ic),(by rfl),(by rfl),m14,b14⟩ (by decide)))))))
  rw[U_]at c85;refine qQ (fun _ _=>dS ((gA o) (c-1)) ((gA o) q) _) aF (by rw[c85])<|aW aG<|aW aG<|Qn ?_;intro wb2 yh;have m15:=bf yh m10;have b15:=eZ yh b10 r;refine sN<|aM<|ay<|aU s<|aU y<|aU C<|aU h30<|lD (amR c i q B g n cap o _ m15 (m_ r b15.size) hk2 x (by omega) (by omega) (by omega)) ?_;rintro D KD ⟨UU,dn3,l,hx1,hz3,m16,anj⟩;have b16:=b15.trans anj;obtain⟨r1,r2,r3,r4,r5⟩:=Sort.round_eq Sort.swo_ltInt (Sort.partitionEqual_holds _) (by omega) L.1 L.2 (by omega) (hBl.perm (by omega) F) (yg (j_ c85)) hx1;refine⟨_,l,?_⟩;clear l;refine av (au UU) (aC (ay (av (au UU) (av (au UU) (aC (Wx (bX (bY (gW ⟨i-UU,(by omega),UU,i,p,dn3,(O),(wp),hz3,r4,(fun R t u=>K R (Sort.permIn_trans _ _ _ _ _ F (r5 R t u).1) (r5 R t u).2),(by omega),rfl,s,Fx.ic,(C.trans Fx.ic),(E.trans Fx.ic),h27,h28,m16,b16⟩ (by decide))))))))))
 refine Qv aF (fun v1 G=>nk c74)<|aW aF<|aR<|aR<|aR<|aR<|aR<|aR<|aR<|aR<|aR<|aR<|aR<|aW aF<|Qn ?_;intro wb3 yj;have m17:=bf yj m10;have b17:=eZ yj b10 r;refine sN<|aK<|Wk<|sN<|ay<|aU s<|aU y<|aU C<|aU h30<|lD (ahI c i q B g n cap o _ m17 (m_ r b17.size) hk2 x (by omega) (by omega) (by omega)) ?_;rintro D Lp ⟨k,Q,dn4,l,hu3,hv3,hz4,m18,anl⟩;have b18:=b17.trans anl;have hx:Sort.partition Sort.ltInt o c i q=(k,(Sort.partition Sort.ltInt o c i q).2.1,dn4):=Prod.ext hu3 (Prod.ext rfl hv3);obtain⟨r1,r2,r3,r4,r5,r6,r7⟩:=Sort.round_part Sort.swo_ltInt (Sort.partition_holds _) L.1 L.2 (by omega) (hBl.perm (by omega) F) hx;clear hx;refine⟨_,l,?_⟩;clear l;refine av (.tuple #[au (k:Int),.bool Q])<|av (au k)<|av (.bool Q)<|av (au k)<|av (.bool Q)<|aC<|ay<|av (.bool Q)<|av (.bool Q)<|aC<|ay<|av (au k)<|aU y<|Lv (au ((k:Int)-(c:Int))) gQ<|aU C<|av (au k)<|Lv (au ((i:Int)-(k:Int))) gQ<|av (au ((k:Int)-(c:Int)))<|av (au ((i:Int)-(k:Int)))<|aC<|ay<|aU h29<|Lv (au ((i-c) / 8:Nat)) (Fx.DL rfl rfl rfl (by omega) (iN (by omega) (by rw[Int.tdiv_eq_ediv_of_nonneg (by omega)]; omega)))<|av (au ((i-c) / 8:Nat))<|aC<|ay<|av (au ((k:Int)-(c:Int)))<|av (au ((i:Int)-(k:Int))) ?_;by_cases UR:((k:Int)-(c:Int))<((i:Int)-(k:Int))
 ·refine Lv aG (gM UR)<|aC<|aM<|ay<|av (au ((k:Int)-(c:Int)))<|av (au ((i-c) / 8:Nat))<|Lv (.bool (decide (((i-c) / 8:Nat)<=((k:Int)-(c:Int))))) (Fx.Fj rfl rfl rfl)<|av (.bool (decide (((i-c) / 8:Nat)<=((k:Int)-(c:Int)))))<|aC<|ay<|aU s<|aU y<|av (au k)<|aU E<|lD (ih _ _ _ c k p B g n cap dn4 _ m18 (m_ r b18.size) hz4 x V (by omega) (by omega) (by omega) r4 (by omega) (by omega) (by omega) (by omega)) (ax := #[bK g n cap,au (c:Int),au (k:Int),au (p:Int)]) ?_;rintro D w16 ⟨T,l,Z,W,X,m19,anm⟩;refine⟨_,l,?_⟩;clear l;have b19:=b18.trans anm;obtain⟨q1,z⟩:=r6 _ W X;refine aC (Wl (av (au k) (Lv (au ((k:Int)+1)) fA (av (au ((k:Int)+1)) (Ln (bP (gW ⟨i-(k+1),(by omega),k+1,i,p,T,(decide (((i-c) / 8:Nat)<=((k:Int)-(c:Int)))),(Q),Z,q1,(fun R t u=>K R (Sort.permIn_trans _ _ _ _ _ F (z R t u).1) (z R t u).2),(by omega),rfl,s,Fx.ic,(C.trans Fx.ic),(E.trans Fx.ic),(by rfl),(by rfl),m19,b19⟩ (by decide))))))))
 refine Lv aF (gN UR)<|aC<|aK<|ay<|av (au ((i:Int)-(k:Int)))<|av (au ((i-c) / 8:Nat))<|Lv (.bool (decide (((i-c) / 8:Nat)<=((i:Int)-(k:Int))))) (Fx.Fj rfl rfl rfl)<|av (.bool (decide (((i-c) / 8:Nat)<=((i:Int)-(k:Int)))))<|aC<|ay<|aU s<|av (au k)<|Lv (au ((k:Int)+1)) fA<|aU C<|aU E<|lD (ih _ _ _ (k+1) i p B g n cap dn4 _ m18 (m_ r b18.size) hz4 x V (by omega) (by omega) (by omega) r5 (by omega) (by omega) (by omega) (by omega)) (ax := #[bK g n cap,au ((k:Int)+1),au (i:Int),au (p:Int)]) ?_;rintro D Ur ⟨T,l,Z,W,X,m20,ano⟩;refine⟨_,l,?_⟩;clear l;have b20:=b18.trans ano;obtain⟨q1,z⟩:=r7 _ W X;refine aC (Wl (av (au k) (av (au k) (Ln (bP (gW ⟨k-c,(by omega),c,k,p,T,(decide (((i-c) / 8:Nat)<=((i:Int)-(k:Int)))),(Q),Z,q1,(fun R t u=>K R (Sort.permIn_trans _ _ _ _ _ F (z R t u).1) (z R t u).2),(by omega),rfl,s,(y.trans Fx.ic),Fx.ic,(E.trans Fx.ic),(by rfl),(by rfl),m20,b20⟩ (by decide)))))))
end
section
open Rt
theorem abA : ∀ m,abz m
 | 0=>by
   intro v x y a b u B g n c d w h k s t j q o p l e f i r;omega
 | m+1=>by
   intro v x y a b u B g n c d w h k s t j q o p l e f i r;subst e f i;exact adu m (abA m) a b u B g n c d w h k s t j q o p l r
theorem YQ(B g n cap:Nat)(d:Array Int)(w:World)(h:Fx.Own w B 23 1 (bK g n cap) n (rv .u64 (gA d)))(j:B<=w.heap.size)(o:d.size=n)(p:n<=1000)(i:n<50) :
 Calls Tryz.prog 128 #[bK g n cap] w fun e w' => ∃ a:Array Int,e = .returned (.tuple #[])/\a.size=n/\Sort.PermIn 0 n d a/\Sort.SortedIn Sort.ltInt 0 n a/\Fx.Own w' B 23 1 (bK g n cap) n (rv .u64 (gA a))/\Below B w w':=by
 have t:=PK (show n<64 by omega);refine Kent Tryz.func128 11 ?_;refine ay<|av (bK g n cap)<|av (au n)<|av (au n)<|aC<|Wl<|av (bK g n cap)<|av (au n)<|av (au n)<|Lv (aD n) (dA rfl rfl (by kernel_rfl) Tryz.underlying161 (jS (by omega) rfl))<|lH (Uj n _ (by omega)) _ rfl<|lD (abA (n+1) _ _ _ 0 n (Sort.bitsLen n) B g n cap d _ h (m_ j (Below.refl B w).size) o p i (by omega) (by omega) (by omega) (.inl rfl) rfl rfl rfl (by omega)) (ax := #[bK g n cap,au 0,au (n:Int),au (Sort.bitsLen n:Int)]) ?_;rintro s u ⟨f,b,q,k,l,r,m⟩;refine⟨_,b,?_⟩;clear b;have c:=(Below.refl B w).trans m;refine Ln (⟨.tuple #[],iJ Tryz.results128,?_⟩);exact⟨f,rfl,q,k,l,r,c⟩
theorem adw(w:World) :
 Calls Tryz.prog 176 #[.slice none 0 0,au 0,au 0] w fun e w'=>e = .returned (.tuple #[])/\Below w.heap.size w w':=by
 refine Kent Tryz.func176 49 ?_;refine ay<|av (au 0)<|Lv (au 1) fA<|av (au 1)<|aC<|Wb<|Wo (fun f d=>f 1=au 0/\f 2=au 0/\f 6=au 1/\Below w.heap.size w d) (fun f _=>0) ⟨Fx.ic,Fx.ic,Fx.ic,(Below.refl w.heap.size w)⟩ ?_;rintro g i ⟨h,b,c,a⟩;refine Ws (ay (aU c (aU b (Lv aF Ij (aC (aK (Wx (bX (gP (bY (⟨.tuple #[],iJ Tryz.results176,?_⟩)))))))))));exact⟨rfl,a⟩
theorem adx(w:World) :
 Calls Tryz.prog 163 #[.slice none 0 0,au 0,au 0,au 0] w fun e w'=>e = .returned (.tuple #[])/\Below w.heap.size w w':=by
 refine Kent Tryz.func163 134 ?_;refine ay<|av aG<|aC<|ay<|av aG<|aC<|Wb<|Wo (fun f i=>f 0 = .slice none 0 0/\f 1=au 0/\f 2=au 0/\Below w.heap.size w i) (fun f _=>0) ⟨(by rfl),Fx.ic,Fx.ic,(Below.refl w.heap.size w)⟩ ?_;rintro j k ⟨g,a,b,c⟩;refine Wb<|ay<|aU b<|aU a<|Lv (au 0) gQ<|av (au 0)<|aC<|Ws<|ay<|av (au 0)<|Lv aG ahk<|aC<|aM<|ay<|aU g<|aU a<|aU b<|dH (adw _) _ rfl ?_;intro l h;have d:=bf h c;refine aC (Wr (sR (bL (pV (bL (⟨.tuple #[],iJ Tryz.results163,?_⟩))))));exact⟨rfl,d⟩
theorem ady(w:World):Calls Tryz.prog 87 #[aD 0] w fun e w'=>e = .returned (au 0)/\w'=w:=Uj 0 w (by omega)
theorem YR(w:World) :
 Calls Tryz.prog 128 #[.slice none 0 0] w fun e w'=>e = .returned (.tuple #[])/\Below w.heap.size w w':=by
 refine Kent Tryz.func128 11 ?_;refine ay<|av (.slice none 0 0)<|av (au 0)<|av (au 0)<|aC<|Wl<|av (.slice none 0 0)<|av (au 0)<|av (au 0)<|Lv (aD 0) (dA rfl rfl (by kernel_rfl) Tryz.underlying161 (jS (by omega) rfl))<|lH (ady _) _ rfl<|dH (adx _) _ rfl ?_;intro c b;have a:=bf b (Below.refl w.heap.size w);refine Ln (⟨.tuple #[],iJ Tryz.results128,?_⟩);exact⟨rfl,a⟩
theorem adz{w:World}{B n cap:Nat}{a:Option Addr}{d:Array Int}(h:Fx.Own w B 23 1 (.slice a n cap) n (rv .u64 (gA d)))(f:B<=w.heap.size)(k:d.size=n)(p:n<50) :
 Calls Tryz.prog 128 #[.slice a n cap] w fun e w' => ∃ b:Array Int,e = .returned (.tuple #[])/\b.size=n/\Sort.PermIn 0 n d b/\Sort.SortedIn Sort.ltInt 0 n b/\Fx.Own w' B 23 1 (.slice a n cap) n (rv .u64 (gA b))/\Below B w w':=by
 rcases h.2 with ⟨c,l⟩|⟨g,c2,cur,c,_⟩
 ·subst l
  cases c
  exact(YR w).mono fun e w' ⟨m,o⟩=>⟨d,m,k,Sort.permIn_refl _ _ _,fun i j _ q r=>by omega,tK _ _ _ _ _,o.mono f⟩
 simp only[Value.slice.injEq]at c;obtain⟨rfl,_,rfl⟩:=c;exact YQ B g n cap d w h f k (by omega) p
end
end Go.Proofs.YtcbedgfikejkoaaGreatDoor
namespace Go.Proofs.YtcbedgfikejkoaaGreatDoor
open Go.RowKit Go
namespace Rt
def dT(x:Nat->Int)(τ:Nat->Nat)(m:Nat):Array Int:=((List.range m).map fun q=>x (τ q)).toArray
section
variable {n m kk:Nat} {x:Nat->Int} {Q:Int->Prop} {S:Nat->Bool} {τ:Nat->Nat}
theorem PO:(dT x τ m).size=m:=by unfold dT; simp
theorem adA{q:Nat}(a:q<m):gA (dT x τ m) q=x (τ q):=by
 unfold gA dT;rw[getElem!_pos _ q (by simpa using a)]; simp
theorem ahT : ∀ j,j<m*1->Value.int .u64 (x (τ j))=Fx.rv .u64 (gA (dT x τ m)) j:=fun j a=>by
 show _=Value.int .u64 (gA (dT x τ m) j);rw[adA (by omega)]
theorem adB{d:Array Int} : ∀ j,j<d.size*1->Fx.rv .u64 (gA d) j=yH d.toList j:=fun j a=>by
 show Value.int .u64 d[j]! = Value.int .u64 (d.toList.getD j 0);rw[getElem!_pos d j (by omega),r_,o_ (by simpa using (show j<d.size by omega))];simp
theorem Rm{c:Array Int}(h:Ua n (fun i=>Q (x i)) S m τ kk)(y : ∀ i,i<n->S i=true)(A : ∀ a b,a<n->b<n->x a=x b->a=b)
 (B:Sort.PermIn 0 m (dT x τ m) c) (C:Sort.SortedIn Sort.ltInt 0 m c) (D:c.size=m):c.toList.Pairwise (· < ·) /\ ∀ k,k∈c.toList<->(dW x n k=true/\Q k):=by
 have u:c.toList.Perm ((List.range m).map fun q=>x (τ q)):=by
  have s:=B.2.2;have v:c.extract 0 m=c:=by rw[<- D]; simp
  have w : ∀ d:Array Int,d.size=m->d.extract 0 m=d:=fun d z=>by rw[<- z]; simp
  rw[v,w _ PO]at s;exact s
 have t:c.toList.Nodup:=by
  refine(u.nodup_iff).2 ?_;rw[List.Nodup,List.pairwise_iff_getElem];intro i j f g r;simp only[List.getElem_map,List.getElem_range];simp only[List.length_map,List.length_range]at f g;exact fun e=>M_ (h.inj i j f g (A _ _ (h.lt i f) (h.lt j g) e)) (by omega)
 refine⟨?_,fun k => ?_⟩
 ·rw[List.pairwise_iff_getElem];intro i j f g r;simp only[Array.length_toList]at f g;have o:=j_ (C i j (K_ _) r (by omega));rw[getElem!_pos c i f,getElem!_pos c j g]at o;rw[List.Nodup,List.pairwise_iff_getElem]at t;have p:=t i j (by simpa using f) (by simpa using g) r;simp only[Array.getElem_toList]at p ⊢;omega
 rw[u.mem_iff];simp only[List.mem_map,O_];constructor
 ·rintro ⟨q,l,rfl⟩;exact⟨jU (h.lt q l) rfl,h.yes q l⟩
 rintro ⟨o,p⟩;obtain⟨i,f,rfl⟩:=iA o;obtain⟨q,l,rfl⟩:=h.mem i f (y i f) p;exact⟨q,l,rfl⟩
theorem YS{z:Nat->Value}{i:Nat} : ∀ j,j<(m+1)*1->Fx.ig (fun q=>aD (x (τ q))) (m*1) (Fx.bB z (0*1) 1 (fun _=>aD (x i))) j=aD (x (Fx.aO τ m i j)):=fun j a=>by
 unfold Fx.ig Fx.bB Fx.aO;by_cases e:j=m
 ·subst e; rw[b_ (by omega),d_ (by omega),d_ rfl]
 ·rw[d_ (by omega),b_ e]
end
end Rt
open Rt
theorem adC{w:World}{B m cap:Nat}{a:Option Addr}{x:Nat->Int}{τ:Nat->Nat}(h:Fx.Own w B 23 1 (.slice a m cap) m (fun q=>aD (x (τ q))))(n:B<=w.heap.size)(p:m<=32) :
 Calls Tryz.prog 128 #[.slice a m cap] w fun e w'=>e = .returned (.tuple #[]) /\ ∃ b:Array Int,b.size=m/\Sort.PermIn 0 m (dT x τ m) b/\Sort.SortedIn Sort.ltInt 0 m b/\Fx.Own w' B 23 1 (.slice a m cap) m (yH b.toList)/\Below B w w' :=
 (adz (d:=dT x τ m) (h.congr ahT) n PO (by omega)).mono fun e w' ⟨b,c,f,g,i,k,l⟩=>⟨c,b,f,g,i,k.congr fun j o=>adB j (by omega),l⟩
end Go.Proofs.YtcbedgfikejkoaaGreatDoor
namespace Go.Proofs.YtcbedgfikejkoaaGreatDoor.Fx
open Go.RowKit
section
variable {P:Program} {n0:Nat} {Q:Post} {f:Nat->Value} {w:World} {ops:Array Oper} {rest:List Oper} {o:Oper}
theorem Own.ahU{B n c s j:Nat}{E:TypeId}{a:Option Addr}{y:Nat->Value}(h:Own w B E s (.slice a n c) n y)(e:j<=n):mP w a j s y:=fun k=>by
 obtain⟨g,i,b,l,m,o,d⟩:=h.form (by omega);simp only[Value.slice.injEq]at b;refine⟨g,0,b.1,fun p f=>d p ?_⟩;exact n_ f (Nat.mul_le_mul_right s e)
theorem Own.weak{B a n s:Nat}{E:TypeId}{v:Value}{y:Nat->Value}(h:Own w B E s v n y)(b:a<=B):Own w a E s v n y:=by
 refine⟨h.1,?_⟩
 rcases h.2 with hn|⟨g,cap,cur,hv,hb,rest⟩
 ·exact .inl hn
 exact .inr ⟨g,cap,cur,hv,m_ b hb,rest⟩
end
end Go.Proofs.YtcbedgfikejkoaaGreatDoor.Fx
namespace Go.Proofs.YtcbedgfikejkoaaGreatDoor
open Go.RowKit Rt
open Fx (Lv sN Ln Ws Wl Wr Wk Wb Wx DU zx wV yc yC tK xZ rv aP bB aO Mp aZ cells_one unseen bP bX bY gP gW)
section
open Rt
theorem UW(x p:Nat->Int)(n tp mb:Nat)(w:World)(U:aP w tp 1 (fun _ => .map (some mb)) 165)(R:Mp w mb n x (fun j=>aD (p j)))(h:Cq n x p) :
 Calls Tryz.prog 84 #[(pt tp),.func (.func 85) #[] #[]] w fun e w' => ∃ a c l,e = .returned (.slice a (List.length l) c)/\Fx.Own w' w.heap.size 23 1 (.slice a l.length c) l.length (yH l)/\l.Pairwise (· < ·)/\(∀ k,k∈l<->(dW x n k=true/\True))/\l.length<=32/\Below w.heap.size w w':=by
 have hsm:=h.small;refine Kent Tryz.func84 27 ?_;refine ay<|av (.slice none 0 0)<|aC<|Ws<|ay<|av (pt tp)<|Lv aF (Fx.oH rfl rfl rfl (by kernel_rfl))<|aC<|aK<|Wk<|sN<|Ws<|ay<|av (pt tp)<|av (pt tp)<|av (pt tp)<|Lv (.map (some mb)) (aL U.aH 0)<|Fx.L.range (by rfl) rfl rfl rfl R Tryz.underlying108 fun O w1 kQ Z s1 z1 => ?_;have⟨m2,m3,b1⟩:=iy s1.old U R (Below.refl w.heap.size w);have rF:=gD kQ;have sQ:=Z.lt;refine aC<|Wb ?_;have m4:Fx.Own w1 w.heap.size 23 1 (.slice none 0 0) 0 (fun q=>aD (x ((fun _=>0:Nat->Nat) q))):=tK _ _ _ _ _;refine DU (fun kk f g => ∃ m:Nat,∃ τ:Nat->Nat,∃ S:Nat->Bool,∃ a:Option Addr,∃ d:Nat,Ua n (fun i=>(fun k=>True) (x i)) S m τ kk/\f 0=(pt tp)/\f 1 = .func (.func 85) #[] #[]/\f 4 = .slice a (m) (d)/\f 12=(pt O)/\aP g tp 1 (fun _ => .map (some mb)) 165/\Mp g mb n x (fun j=>aD (p j))/\Fx.It g O mb n S/\Fx.Own g w.heap.size 23 1 (.slice a (m) (d)) m (fun q=>aD (x (τ q)))/\Below w.heap.size w g) (unseen (fun _=>false) n) ⟨0,(fun _=>0),(fun _=>false),none,0,(Ua.start n _ _),(by rfl),(by rfl),(by rfl),(by rfl),m2,m3,Z,m4,b1⟩ ?_;rintro kk N w2 ⟨m,τ,S,a,d,r,P,C,D,E,m5,m6,J,m8,o⟩;have hml:=r.le;refine ay<|Fx.L.next (by rfl) rfl rfl E m6 J (fun tX => ?_)<|fun b w3 G T m9 mc1 s2 z2 => ?_
 ·skip
  refine av aF<|aC<|Ws<|aK<|Wx<|bX<|gP<|bY<|sN<|ay<|aU D<|dH (adC m8 o.size (by omega)) _ rfl ?_;rintro w4 ⟨M,Y,hp2,hs2,aa,hb1⟩;have b3:=o.trans hb1;refine aC<|ay<|aU D<|av (.slice a (m) (d))<|aC<|Wr<|aJ (.slice a (m) (d)) ?_;obtain⟨N,f2⟩:=Rm (Q:=fun k=>True) r tX h.inj hp2 hs2 Y;have X:m<=32:=by omega
  rw[show m=M.toList.length by rw[Array.length_toList]; exact Y.symm]at aa X ⊢;exact⟨a,d,M.toList,rfl,aa,N,f2,X,b3⟩
 skip
 have F:=J.Cy s2;have ab:=m5.eB F;have H:=m6.eB F (J.rb.symm);have ac:=m8.eB F;have K:=s2.below o o.size (by omega);refine av aG<|aC<|Ws<|aM<|Wk<|sN<|Wb<|ay<|Lv (.tuple #[aD (x b),aD (p b)]) (Fx.Pz (key:=x) (val:=fun j=>aD (p j)) (i:=b) rfl E H mc1 G)<|av (aD (x b))<|av (aD (x b))<|aC<|ay<|aU C<|av (aD (x b))<|zx (by rfl) (Fx.Ai (args := [aD (x b)]) rfl rfl rfl (all := #[aD (x b)]) rfl Tryz.func85 rfl rfl) rfl<|(ahx _ _).mono ?_;rintro e v1 ⟨V,hv1⟩;subst v1;refine⟨.bool true,by rw[V],?_⟩;clear V;refine aC<|aM<|Wl<|aU D<|av (aD (x b))<|wV (vs := [(0,aD (x b))]) (s:=1) (zc:=rv .u64 (fun _=>0)) (y:=bB (fun j=>(rv .u64 (fun _=>0)) (j % 1)) (0*1) 1 (fun _=>aD (x b))) (by rfl) rfl rfl Tryz.underlying53 (by kernel_rfl) (by rfl) (by rfl) (by kernel_rfl) (by rw[aZ (off:=0*1) (s:=1) (y:=fun _=>aD (x b)) rfl (cells_one (by rfl)) (by rfl)]; rfl) rfl fun g2 w5 z ad s3 z3 => ?_;have⟨m15,m16,I,m19,t⟩:=nN s3.old ab H ac m9 K;have pO:=iw z K.size;have⟨AV,NV⟩:=sF z ab.lt H.lt;have UY:(.slice a (m) (d):Value).ownBlock≠some g2:=by rw[z]; exact ac.jF (A_ _)
 have yu:=ad.lt;refine yc (B:=w.heap.size) (s:=1) (bytes:=8) (k:=m) (m:=1) (v := .slice a (m) (d)) (x:=fun q=>aD (x (τ q))) (by rfl) rfl rfl rfl Tryz.underlying53 (by kernel_rfl) (by kernel_rfl) rfl rfl I ad.aH (fun j hj=>by unfold bB; split <;> rfl) (by omega) (by omega) (by omega) t.size fun A u w6 ho1 W tO hlt1 => ?_
 have fV:=yC W I;have⟨m21,m22,m24⟩:=zZ fV m15 m16 m19;have m20:Fx.Own w6 w.heap.size 23 1 (bK A (m+1) u) (m+1) (fun q=>aD (x (aO τ m b q))):=(ho1.congr YS);have b6:Below w.heap.size w w6:=xZ t W t.size (fun q hq=>(I.ge hq).1);refine av (bK A (m+1) u)<|Ln<|bP ?_
 skip
 refine gW ⟨unseen (aO S b true) n,(by have P:=Fx.qb T n G; have C:=r.kk; omega),m+1,aO τ m b,aO S b true,(some ⟨A,0,none⟩),u,(r.take G T trivial),P,C,(by rfl),E,m21,m22,m24,m20,b6⟩ (by decide)
theorem adD(x p:Nat->Int)(n tp mb:Nat)(w:World)(o:aP w tp 1 (fun _ => .map (some mb)) 165)(m:Mp w mb n x (fun j=>aD (p j)))(h:Cq n x p) :
 Calls Tryz.prog 46 #[(pt tp)] w fun e w' => ∃ a c l,e = .returned (.slice a (List.length l) c)/\Fx.Own w' w.heap.size 23 1 (.slice a l.length c) l.length (yH l)/\l.Pairwise (· < ·)/\(∀ k,k∈l<->(dW x n k=true/\True))/\l.length<=32/\Below w.heap.size w w':=by
 refine Kent Tryz.func46 5 ?_;refine ay<|av (.slice none 0 0)<|aC<|ay<|av (pt tp)<|lD (UW x p n tp mb _ o m h) ?_;rintro v y ⟨b,d,f,i,u,r,s,t,q⟩;refine⟨_,i,?_⟩;clear i;have g:=bf q (Below.refl w.heap.size w);refine av (.slice b (f.length) (d))<|aC<|Wr<|aJ (.slice b (f.length) (d)) ?_;exact⟨b,d,f,rfl,u.weak (by have:=g.size; first|exact A_ _|exact(Below.refl w.heap.size w).size),r,s,t,g⟩
end
end Go.Proofs.YtcbedgfikejkoaaGreatDoor
namespace Go.Proofs.YtcbedgfikejkoaaGreatDoor
open Go.RowKit Go Rt
namespace Rt
structure dM where
 n:Nat
 x:Nat->Int
 p:Nat->Int
def dM.zero:dM:=⟨0,fun _=>0,fun _=>0⟩
def dM.has(T:dM)(k:Int):Bool:=dW T.x T.n k
def dM.par(T:dM)(k:Int):Int:=iO T.x T.p T.n k
def dM.path(T:dM)(k:Int):List Int:=jO T.x T.p T.n 4 k
def dM.err(T:dM)(id pa:Int):Int:=sG T.x T.p T.n id pa
def dM.put(T:dM)(id pa:Int):dM:=⟨T.n+1,Fx.aO T.x T.n id,Fx.aO T.p T.n pa⟩
def dM.add(T:dM)(id pa:Int):dM:=if T.err id pa=0 then T.put id pa else T
abbrev dM.ok(T:dM):Prop:=Cq T.n T.x T.p
theorem dM.JL{T:dM}(h:T.ok){id pa:Int}(a:0<=id/\id<=18446744073709551615):(T.add id pa).ok:=by
 unfold dM.add;split
 ·rename_i hc; exact Cq.put h hc a
 exact h
structure tY(w:World)(B tp mb:Nat)(T:dM):Prop where
 blk:Fx.aP w tp 1 (fun _ => .map (some mb)) 165
 map:Fx.Mp w mb T.n T.x (fun j => .int .u64 (T.p j))
 inv:T.ok
 gt:B<=tp
 gm:B<=mb
section
variable {w w':World} {B tp mb r:Nat} {T:dM} {id pa k:Int}
theorem tY.up(h:tY w B tp mb T)(a:Below w.heap.size w w'):tY w' B tp mb T:=⟨h.blk.cZ (Fx.Sb a) (u_ h.blk.lt),h.map.up a,h.inv,h.gt,h.gm⟩
instance:Rt.Tr w w' (tY w B tp mb T) (tY w' B tp mb T):=⟨fun b h=>h.up b⟩
theorem tY.lu{a:List TypeId}(h:tY w B tp mb T)(b:Fx.iF a w w')(h1:a.contains 165=false):tY w' B tp mb T:=⟨h.blk.lu b h1,h.map.lu b trivial,h.inv,h.gt,h.gm⟩
instance {a:List TypeId}:Rt.Tc a w w' (tY w B tp mb T) (tY w' B tp mb T) (!(a.contains 165)):=⟨fun b h e=>h.lu b (by simpa using e)⟩
theorem tY.Cy(h:tY w B tp mb T)(a:Fx.Stp mb w w'):Fx.Rb mb w w':=h.map.Cy a
theorem tY.eB(h:tY w B tp mb T)(a:Fx.Rb r w w')(b:mb≠r):tY w' B tp mb T:=⟨h.blk.eB a,h.map.eB a b,h.inv,h.gt,h.gm⟩
theorem tY.weak{a:Nat}(h:tY w B tp mb T)(b:a<=B):tY w a tp mb T:=⟨h.blk,h.map,h.inv,m_ b h.gt,m_ b h.gm⟩
theorem tY.lt(h:tY w B tp mb T):mb<w.heap.size:=h.map.lt
end
end Rt
theorem abB(w:World):Calls Tryz.prog 58 #[] w fun e w' => ∃ tp mb,e = .returned (.pointer (some ⟨tp,0,none⟩))/\w.heap.size<=mb/\tY w' w.heap.size tp mb dM.zero/\Below w.heap.size w w' :=
 (ahv (fun _=>0) (fun _=>0) w).mono fun e w' ⟨tp,mb,b,c,a,d,f,g⟩=>⟨tp,mb,b,a,⟨d,f,Cq.zero _ _,c,a⟩,g⟩
theorem Lu{w:World}{B tp mb:Nat}{T:dM}(id pa:Int)(h:tY w B tp mb T)(i:0<=id/\id<=18446744073709551615) :
 Calls Tryz.prog 217 #[.pointer (some ⟨tp,0,none⟩),.int .u64 id,.int .u64 pa] w fun e w'=>e = .returned (.int .i64 (T.err id pa))/\tY w' B tp mb (T.add id pa)/\Fx.Stp mb w w' :=
 (ahw T.x T.p T.n tp mb id pa w h.blk h.map h.inv).mono fun e w' ⟨c,k,m,l,b,j,d,f,g⟩=>by
  cases j with
  | no a h0 =>
    have a:T.err id pa=c:=a;subst a;refine⟨b,⟨d,?_,dM.JL h.inv i,h.gt,h.gm⟩,g⟩;unfold dM.add;rw[b_ h0]; exact f
  | yes a =>
    have a:T.err id pa=0:=a;refine⟨by rw[a]; exact b,⟨d,?_,dM.JL h.inv i,h.gt,h.gm⟩,g⟩;unfold dM.add;rw[d_ a]; exact f
theorem abC{w:World}{B tp mb:Nat}{T:dM}(k:Int)(h:tY w B tp mb T) :
 Calls Tryz.prog 145 #[.pointer (some ⟨tp,0,none⟩),.int .u64 k] w fun e w'=>e = .returned (.bool (T.has k))/\w'=w:=FD T.x T.p T.n tp mb k w h.blk h.map
def OwL(w:World)(B:Nat)(a:Option Addr)(c:Nat)(l:List Int):Prop:=Fx.Own w B 23 1 (.slice a l.length c) l.length (yH l)
theorem OwL.up{w w':World}{B c:Nat}{a:Option Addr}{l:List Int}(h:OwL w B a c l)(b:Below w.heap.size w w'):OwL w' B a c l:=Fx.Own.up h b
instance {w w':World} {B c:Nat} {a:Option Addr} {l:List Int}:Rt.Tr w w' (OwL w B a c l) (OwL w' B a c l):=⟨fun b h=>h.up b⟩
theorem NW{w:World}{B tp mb:Nat}{T:dM}(k:Int)(h:tY w B tp mb T) :
 Calls Tryz.prog 59 #[.pointer (some ⟨tp,0,none⟩),.int .u64 k] w fun e w' => ∃ a c,e = .returned (.slice a (T.path k).length c)/\OwL w' w.heap.size a c (T.path k)/\Below w.heap.size w w' :=
 NR T.x T.p T.n tp mb 4 k w h.blk h.map h.inv.inj (h.inv.stop k) (h.inv.len k)
theorem UZ{w:World}{B tp mb:Nat}{T:dM}(h:tY w B tp mb T) :
 Calls Tryz.prog 46 #[.pointer (some ⟨tp,0,none⟩)] w fun e w' => ∃ a c l,e = .returned (.slice a (List.length l) c)/\OwL w' w.heap.size a c l/\(l.Pairwise (· < ·) /\ ∀ k,k∈l<->T.has k=true)/\l.length<=32/\Below w.heap.size w w' :=
 (adD T.x T.p T.n tp mb w h.blk h.map h.inv).mono fun e w' ⟨a,c,l,b,d,f,g,i⟩=>⟨a,c,l,b,d,⟨f,fun k=>by have:=g k; rw[and_true]at this; exact this⟩,i⟩
namespace Rt
section
variable {T U:dM} {id pa k:Int}
structure wu(U T:dM):Prop where
 has : ∀ k,U.has k=true->T.has k=true
 par : ∀ k,U.has k=true->U.par k=T.par k
theorem dM.jQ(T:dM)(id pa k:Int):(T.put id pa).has k=(T.has k || decide (id=k)):=Rt.jQ id k
theorem dM.uM(T:dM)(id pa k:Int):(T.put id pa).par k=if id=k then pa else T.par k:=Rt.uM id pa k
end
end Rt
namespace Fx
theorem adE{P:Program}{f:Nat->Value}{w:World}{o:Oper}{T T':TypeId}{x y:Operand}{a b:Nat}(d:o.op = .binOp .or T x y T')(hx:ev f x = .int .u64 (1099511627776*(a:Int)))(hy:ev f y = .int .u64 (b:Int))(ha:a<=8388607)(g:b<1099511627776):Runs P f o w (.int .u64 (1099511627776*(a:Int)+b)) :=
 uK d hx hy (by
  have e:((BitVec.ofInt 64 (1099511627776*(a:Int)) ||| BitVec.ofInt 64 (b:Int)).toNat:Int)=1099511627776*(a:Int)+b:=by
   rw[BitVec.toNat_or,BitVec.toNat_ofInt,BitVec.toNat_ofInt];rw[show((1099511627776*(a:Int)) % ((2^64:Nat):Int)).toNat=1099511627776*a by omega,show((b:Int) % ((2^64:Nat):Int)).toNat=b by omega];have h:=Nat.shiftLeft_add_eq_or_of_lt (i:=40) (b:=b) (by omega) a;rw[Nat.shiftLeft_eq]at h;rw[show 1099511627776*a=a*2^40 by omega,<- h];omega
  have h:=jS (c:=1099511627776*(a:Int)+b) (by omega) rfl;simp only[binOp,Op.intBits];show(pure (Value.int .u64 (IntKind.u64.wrap ((BitVec.ofInt 64 (1099511627776*(a:Int)) ||| BitVec.ofInt 64 (b:Int)).toNat:Int))):Sem Value).run P w=_;rw[e,h]; rfl)
theorem adF{w:World}{B c:Nat}{a:Option Addr}{l:List Int}(h:OwL w B a c l):Fx.mP w a l.length 1 (yH l):=Own.ahU h (A_ _)
end Fx
end Go.Proofs.YtcbedgfikejkoaaGreatDoor
namespace Go.Proofs.YtcbedgfikejkoaaGreatDoor
open Go.RowKit Rt
open Fx (dA Lv sN Ln Ws Qv Wl Wr Sb Wk rV sR Wb Wx Wo Wt Qn wV yc DN qO uW tK xZ Bo rv aA aP bB Stp aQ flat dB aS iU aZ down jM mP bE cells_one iF rT jS ig dD bL bP bX bY gP gW pV)
namespace Rt
structure EvM where
 o:Int
 seq:Int
 deps:Nat->Int
 kind:Int
 node:Int
 dst:Int
 aT:Int
 req:Int
 of:Int
def bM(v:EvM):Nat->Value:=fun p=>if p=0 then au v.o else if p=1 then aD v.seq else if p<8 then aD (v.deps (p-2))else if p=8 then .int .u8 v.kind else if p=9 then aD v.node else if p=10 then au v.dst else if p=11 then au v.aT else if p=12 then aD v.req else aD v.of
theorem nA(v:EvM){p j:Nat}(h:p=j+2)(a:j<6):bM v p=aD (v.deps j):=by
 subst h; unfold bM; rw[b_ (by omega),b_ (by omega),d_ (by omega),show j+2-2=j by omega]
theorem gK(v:EvM) : ∀ j,j<14->(bM v j).oneCell'=true:=fun j _=>by unfold bM; repeat (first|rfl|split)
def jh(i:Int):Bool:=decide (1<=i)&&decide (i<=6)
def kU(v:EvM):EvM :=
 if v.kind=1 then { v with dst:=0,req:=0,of:=0 } else if v.kind=2 then { v with dst:=0,req:=0,of:=0 } else if v.kind=3 then { v with dst:=0,of:=0 }
 else if v.kind=4 then { v with node:=0,dst:=0,aT:=0 } else if v.kind=5 then { v with req:=0,of:=0 } else if v.kind=6 then { v with node:=0,aT:=0,req:=0,of:=0 }
 else { v with node:=0,dst:=0,aT:=0,req:=0,of:=0 }
def someE(v:EvM):Bool:=decide (1<=v.aT)&&decide (v.aT<=1125899906842624)
def lN(v:EvM):Bool:=jh v.dst && !decide (v.dst=v.o)
def dG(v:EvM):Bool :=
 if v.kind=1 then decide (0<=v.aT)&&decide (v.aT<=1125899906842624)else if v.kind=2 then someE v else if v.kind=3 then someE v&&decide (1<=v.req)
 else if v.kind=4 then decide (1<=v.req)&&decide (1<=v.of) && !decide (v.req=v.of)else if v.kind=5 then someE v&&lN v else if v.kind=6 then lN v else decide (v.kind=7)
end Rt
theorem BK(n:Int)(w:World) :
 Calls Tryz.prog 121 #[au n] w fun e w'=>e = .returned (.bool (jh n))/\w'=w:=by
 refine Kent Tryz.func121 9 ?_;refine ay<|av aF<|aC<|ay<|av (au n) ?_;by_cases a:1<=n
 ·refine Lv aG (kR a)<|av aG<|av (au n) ?_;by_cases b:n<=6
  ·refine Lv aG (nL b)<|av aG<|av aG<|aC<|Wr<|aJ aG ?_;exact⟨iD (by simp only[jh]; first|(symm; simp; omega)|(symm; simp; done)),rfl⟩
  refine Lv aF (ow b)<|av aF<|av aF<|aC<|Wr<|aJ aF ?_;exact⟨iD (by simp only[jh]; first|(symm; simp; omega)|(symm; simp; done)),rfl⟩
 refine Lv aF (kJ a)<|av aF<|bO<|bO<|av aF<|av aF<|aC<|Wr<|aJ aF ?_;exact⟨iD (by simp only[jh]; first|(symm; simp; omega)|(symm; simp; done)),rfl⟩
theorem ahV(v:EvM)(w:World) :
 Calls Tryz.prog 122 #[.agg (aA 14 (bM v))] w fun e w'=>e = .returned (.agg (aA 14 (bM (kU v))))/\Below w.heap.size w w':=by
 refine Kent Tryz.func122 60 ?_;refine ay<|oz fun b w1 kQ x s1 z1 => ?_;have U:=bf s1.old (Below.refl w.heap.size w);have rF:=gD kQ;have sQ:=x.lt;refine qR 14 (fun i=>(#[au 0,aD 0,aD 0,aD 0,aD 0,aD 0,aD 0,aD 0,.int .u8 (0),aD 0,au 0,au 0,aD 0,aD 0]:Array Value).getD i undef) fun m w2 yw y s2 z2 => ?_;have⟨s,b2⟩:=eU s2.old x U;have pO:=iw yw U.size;have FK:=cu yw x.lt;have yu:=y.lt;refine aC<|ay<|av (pt b)<|Lv (au v.o) (aL s.aH 0)<|av (pf b 1)<|Lv (aD v.seq) (aL s.aH 1)<|av (pf b 2)<|Lv (.agg (aA 6 (rv .u64 v.deps))) (eT s.aH 2 (fun j c=>nA _ (by omega) c))<|av (pf b 8)<|Lv (.int .u8 (v.kind)) (aL s.aH 8)<|av (.agg (aA 14 (bB (bB (bB (bB (fun i=>(#[au 0,aD 0,aD 0,aD 0,aD 0,aD 0,aD 0,aD 0,.int .u8 (0),aD 0,au 0,au 0,aD 0,aD 0]:Array Value).getD i undef) 0 1 (fun _=>au v.o)) 1 1 (fun _=>aD v.seq)) 2 6 (rv .u64 v.deps)) 8 1 (fun _ => .int .u8 (v.kind)))))<|qR 14 (fun i=>(#[au 0,aD 0,aD 0,aD 0,aD 0,aD 0,aD 0,aD 0,.int .u8 (0),aD 0,au 0,au 0,aD 0,aD 0]:Array Value).getD i undef) fun a w3 yE m4 s3 z3 => ?_;have⟨m5,m6,b3⟩:=iy s3.old s y b2;have Bp:=iw yE b2.size;have⟨U0,abE⟩:=sF yE s.lt y.lt;have Hg:=m4.lt;refine dU m4 0 (h1:=(fun j c=>by rcases j with _|_|_|_|_|_|_|_|_|_|_|_|_|_|j <;> first|rfl|omega)) fun w4 m7 O z4 => ?_
 have m8:aP w4 a 14 (bB (bB (bB (bB (fun i=>(#[au 0,aD 0,aD 0,aD 0,aD 0,aD 0,aD 0,aD 0,.int .u8 (0),aD 0,au 0,au 0,aD 0,aD 0]:Array Value).getD i undef) 0 1 (fun _=>au v.o)) 1 1 (fun _=>aD v.seq)) 2 6 (rv .u64 v.deps)) 8 1 (fun _ => .int .u8 (v.kind))) 37:=aQ m7;have k:aP w4 a 14 (bM ⟨v.o,v.seq,v.deps,v.kind,0,0,0,0,0⟩) 37:=m8.congr (fun j c=>by rcases j with _|_|_|_|_|_|_|_|_|_|_|_|_|_|j <;> first|rfl|omega)
 have f:=m5.cZ O (by omega);have n:=m6.cZ O (by omega);have d:=O.below b3 b3.size (by omega);refine aC<|Ws<|ay<|av (pf b 8)<|Lv (.int .u8 (v.kind)) (aL f.aH 8)<|aC<|Wb<|Ws<|ay ?_;by_cases g:v.kind=1
 ·refine Lv aG (eH g)<|av aG<|aC<|aM<|Wk<|sN<|aM<|ay<|av (pf b 9)<|Lv (aD v.node) (aL f.aH 9)<|av (pf a 9)<|ji k 9 (aD v.node) fun w5 m12 P z5 => ?_;have m13:aP w5 a 14 (bM ⟨v.o,v.seq,v.deps,v.kind,v.node,0,0,0,0⟩) 37:=m12.congr (fun j c=>by rcases j with _|_|_|_|_|_|_|_|_|_|_|_|_|_|j <;> first|rfl|omega)
  have m14:=f.cZ P (by omega);have m15:=n.cZ P (by omega);have b5:=P.below d d.size (by omega);refine aC<|Wl<|av (pf b 11)<|Lv (au v.aT) (aL m14.aH 11)<|av (pf a 11)<|ji m13 11 (au v.aT) fun w6 m16 Q z6 => ?_;have m17:aP w6 a 14 (bM ⟨v.o,v.seq,v.deps,v.kind,v.node,0,v.aT,0,0⟩) 37:=m16.congr (fun j c=>by rcases j with _|_|_|_|_|_|_|_|_|_|_|_|_|_|j <;> first|rfl|omega)
  have m18:=m14.cZ Q (by omega);have m19:=m15.cZ Q (by omega);have b6:=Q.below b5 b5.size (by omega);refine Ln<|bP<|sN<|ay<|Lv (.agg (aA 14 (bM ⟨v.o,v.seq,v.deps,v.kind,v.node,0,v.aT,0,0⟩))) (eT m17.aH 0)<|dU m19 0 (h1:=(gK _)) fun w7 m20 R z7 => ?_;have m21:aP w7 m 14 (bM ⟨v.o,v.seq,v.deps,v.kind,v.node,0,v.aT,0,0⟩) 37:=aQ m20;have m22:=m18.cZ R (by omega);have m23:=m17.cZ R (by omega);have b7:=R.below b6 b6.size (by omega);refine aC (Wr (⟨.agg (aA 14 (bM ⟨v.o,v.seq,v.deps,v.kind,v.node,0,v.aT,0,0⟩)),rV Tryz.results122 ⟨_,rfl,aS m21.aH (by kernel_rfl) (by kernel_rfl)⟩,?_⟩));refine⟨L_ (fun q=>Ending.returned (Value.agg q)) (Fx.dZ fun i r => ?_),b7⟩;unfold kU; rw[d_ g]
 refine Lv aF (fC g)<|av aF<|aC<|aK<|Wl ?_;by_cases h:v.kind=2
 ·refine Lv aG (eH h)<|av aG<|aC<|aM<|ay<|av (pf b 9)<|Lv (aD v.node) (aL f.aH 9)<|av (pf a 9)<|ji k 9 (aD v.node) fun w8 m24 S z8 => ?_;have mZ:aP w8 a 14 (bM ⟨v.o,v.seq,v.deps,v.kind,v.node,0,0,0,0⟩) 37:=m24.congr (fun j c=>by rcases j with _|_|_|_|_|_|_|_|_|_|_|_|_|_|j <;> first|rfl|omega)
  have nQ:=f.cZ S (by omega);have nH:=n.cZ S (by omega);have b8:=S.below d d.size (by omega);refine aC<|Wl<|av (pf b 11)<|Lv (au v.aT) (aL nQ.aH 11)<|av (pf a 11)<|ji mZ 11 (au v.aT) fun w9 og T z9 => ?_;have oh:aP w9 a 14 (bM ⟨v.o,v.seq,v.deps,v.kind,v.node,0,v.aT,0,0⟩) 37:=og.congr (fun j c=>by rcases j with _|_|_|_|_|_|_|_|_|_|_|_|_|_|j <;> first|rfl|omega)
  have oD:=nQ.cZ T (by omega);have lI:=nH.cZ T (by omega);have b9:=T.below b8 b8.size (by omega);refine Ln<|bP<|sN<|ay<|Lv (.agg (aA 14 (bM ⟨v.o,v.seq,v.deps,v.kind,v.node,0,v.aT,0,0⟩))) (eT oh.aH 0)<|dU lI 0 (h1:=(gK _)) fun pJ m32 z z10 => ?_;have pE:aP pJ m 14 (bM ⟨v.o,v.seq,v.deps,v.kind,v.node,0,v.aT,0,0⟩) 37:=aQ m32;have nR:=oD.cZ z (by omega);have pF:=oh.cZ z (by omega);have b10:=z.below b9 b9.size (by omega);refine aC (Wr (⟨.agg (aA 14 (bM ⟨v.o,v.seq,v.deps,v.kind,v.node,0,v.aT,0,0⟩)),rV Tryz.results122 ⟨_,rfl,aS pE.aH (by kernel_rfl) (by kernel_rfl)⟩,?_⟩));refine⟨L_ (fun q=>Ending.returned (Value.agg q)) (Fx.dZ fun i r => ?_),b10⟩;unfold kU; rw[b_ g,d_ h]
 refine Lv aF (fC h)<|av aF<|aC<|aK<|ay ?_;by_cases l:v.kind=3
 ·refine Lv aG (eH l)<|av aG<|aC<|aM<|ay<|av (pf b 9)<|Lv (aD v.node) (aL f.aH 9)<|av (pf a 9)<|ji k 9 (aD v.node) fun DV nS A z11 => ?_;have qW:aP DV a 14 (bM ⟨v.o,v.seq,v.deps,v.kind,v.node,0,0,0,0⟩) 37:=nS.congr (fun j c=>by rcases j with _|_|_|_|_|_|_|_|_|_|_|_|_|_|j <;> first|rfl|omega)
  have qB:=f.cZ A (by omega);have pK:=n.cZ A (by omega);have V:=A.below d d.size (by omega);refine aC<|ay<|av (pf b 11)<|Lv (au v.aT) (aL qB.aH 11)<|av (pf a 11)<|ji qW 11 (au v.aT) fun Ct sS B z12 => ?_;have mh:aP Ct a 14 (bM ⟨v.o,v.seq,v.deps,v.kind,v.node,0,v.aT,0,0⟩) 37:=sS.congr (fun j c=>by rcases j with _|_|_|_|_|_|_|_|_|_|_|_|_|_|j <;> first|rfl|omega)
  have lM:=qB.cZ B (by omega);have mH:=pK.cZ B (by omega);have W:=B.below V V.size (by omega);refine aC<|Wl<|av (pf b 12)<|Lv (aD v.req) (aL lM.aH 12)<|av (pf a 12)<|ji mh 12 (aD v.req) fun EM qg C z13 => ?_;have qh:aP EM a 14 (bM ⟨v.o,v.seq,v.deps,v.kind,v.node,0,v.aT,v.req,0⟩) 37:=qg.congr (fun j c=>by rcases j with _|_|_|_|_|_|_|_|_|_|_|_|_|_|j <;> first|rfl|omega)
  have om:=lM.cZ C (by omega);have rW:=mH.cZ C (by omega);have X:=C.below W W.size (by omega);refine Ln<|bP<|sN<|ay<|Lv (.agg (aA 14 (bM ⟨v.o,v.seq,v.deps,v.kind,v.node,0,v.aT,v.req,0⟩))) (eT qh.aH 0)<|dU rW 0 (h1:=(gK _)) fun KD wh D z14 => ?_;have uD:aP KD m 14 (bM ⟨v.o,v.seq,v.deps,v.kind,v.node,0,v.aT,v.req,0⟩) 37:=aQ wh;have qX:=om.cZ D (by omega);have vJ:=qh.cZ D (by omega);have b14:=D.below X X.size (by omega);refine aC (Wr (⟨.agg (aA 14 (bM ⟨v.o,v.seq,v.deps,v.kind,v.node,0,v.aT,v.req,0⟩)),rV Tryz.results122 ⟨_,rfl,aS uD.aH (by kernel_rfl) (by kernel_rfl)⟩,?_⟩));refine⟨L_ (fun q=>Ending.returned (Value.agg q)) (Fx.dZ fun i r => ?_),b14⟩;unfold kU; rw[b_ g,b_ h,d_ l]
 refine Lv aF (fC l)<|av aF<|aC<|aK<|ay ?_;by_cases p:v.kind=4
 ·refine Lv aG (eH p)<|av aG<|aC<|aM<|ay<|av (pf b 12)<|Lv (aD v.req) (aL f.aH 12)<|av (pf a 12)<|ji k 12 (aD v.req) fun Lp uZ E z15 => ?_;have uE:aP Lp a 14 (bM ⟨v.o,v.seq,v.deps,v.kind,0,0,0,v.req,0⟩) 37:=uZ.congr (fun j c=>by rcases j with _|_|_|_|_|_|_|_|_|_|_|_|_|_|j <;> first|rfl|omega)
  have wm:=f.cZ E (by omega);have wo:=n.cZ E (by omega);have Y:=E.below d d.size (by omega);refine aC<|Wl<|av (pf b 13)<|Lv (aD v.of) (aL wm.aH 13)<|av (pf a 13)<|ji uE 13 (aD v.of) fun w16 tQ F z16 => ?_;have tT:aP w16 a 14 (bM ⟨v.o,v.seq,v.deps,v.kind,0,0,0,v.req,v.of⟩) 37:=tQ.congr (fun j c=>by rcases j with _|_|_|_|_|_|_|_|_|_|_|_|_|_|j <;> first|rfl|omega)
  have uF:=wm.cZ F (by omega);have yD:=wo.cZ F (by omega);have Z:=F.below Y Y.size (by omega);refine Ln<|bP<|sN<|ay<|Lv (.agg (aA 14 (bM ⟨v.o,v.seq,v.deps,v.kind,0,0,0,v.req,v.of⟩))) (eT tT.aH 0)<|dU yD 0 (h1:=(gK _)) fun Ur rG G z17 => ?_;have vK:aP Ur m 14 (bM ⟨v.o,v.seq,v.deps,v.kind,0,0,0,v.req,v.of⟩) 37:=aQ rG;have pz:=uF.cZ G (by omega);have uI:=tT.cZ G (by omega);have b17:=G.below Z Z.size (by omega);refine aC (Wr (⟨.agg (aA 14 (bM ⟨v.o,v.seq,v.deps,v.kind,0,0,0,v.req,v.of⟩)),rV Tryz.results122 ⟨_,rfl,aS vK.aH (by kernel_rfl) (by kernel_rfl)⟩,?_⟩));refine⟨L_ (fun q=>Ending.returned (Value.agg q)) (Fx.dZ fun i r => ?_),b17⟩;unfold kU; rw[b_ g,b_ h,b_ l,d_ p]
 refine Lv aF (fC p)<|av aF<|aC<|aK<|ay ?_;by_cases t:v.kind=5
 ·refine Lv aG (eH t)<|av aG<|aC<|aM<|ay<|av (pf b 9)<|Lv (aD v.node) (aL f.aH 9)<|av (pf a 9)<|ji k 9 (aD v.node) fun Ut m64 H z18 => ?_;have xw:aP Ut a 14 (bM ⟨v.o,v.seq,v.deps,v.kind,v.node,0,0,0,0⟩) 37:=m64.congr (fun j c=>by rcases j with _|_|_|_|_|_|_|_|_|_|_|_|_|_|j <;> first|rfl|omega)
  have wN:=f.cZ H (by omega);have vL:=n.cZ H (by omega);have aa:=H.below d d.size (by omega);refine aC<|ay<|av (pf b 11)<|Lv (au v.aT) (aL wN.aH 11)<|av (pf a 11)<|ji xw 11 (au v.aT) fun w19 xA I z19 => ?_;have tV:aP w19 a 14 (bM ⟨v.o,v.seq,v.deps,v.kind,v.node,0,v.aT,0,0⟩) 37:=xA.congr (fun j c=>by rcases j with _|_|_|_|_|_|_|_|_|_|_|_|_|_|j <;> first|rfl|omega)
  have vM:=wN.cZ I (by omega);have uP:=vL.cZ I (by omega);have ab:=I.below aa aa.size (by omega);refine aC<|Wl<|av (pf b 10)<|Lv (au v.dst) (aL vM.aH 10)<|av (pf a 10)<|ji tV 10 (au v.dst) fun Uw vN J z20 => ?_;have vO:aP Uw a 14 (bM ⟨v.o,v.seq,v.deps,v.kind,v.node,v.dst,v.aT,0,0⟩) 37:=vN.congr (fun j c=>by rcases j with _|_|_|_|_|_|_|_|_|_|_|_|_|_|j <;> first|rfl|omega)
  have zI:=vM.cZ J (by omega);have wO:=uP.cZ J (by omega);have b20:=J.below ab ab.size (by omega);refine Ln<|bP<|sN<|ay<|Lv (.agg (aA 14 (bM ⟨v.o,v.seq,v.deps,v.kind,v.node,v.dst,v.aT,0,0⟩))) (eT vO.aH 0)<|dU wO 0 (h1:=(gK _)) fun w21 yI K z21 => ?_;have yJ:aP w21 m 14 (bM ⟨v.o,v.seq,v.deps,v.kind,v.node,v.dst,v.aT,0,0⟩) 37:=aQ yI;have yK:=zI.cZ K (by omega);have yt:=vO.cZ K (by omega);have NU:=K.below b20 b20.size (by omega);refine aC (Wr (⟨.agg (aA 14 (bM ⟨v.o,v.seq,v.deps,v.kind,v.node,v.dst,v.aT,0,0⟩)),rV Tryz.results122 ⟨_,rfl,aS yJ.aH (by kernel_rfl) (by kernel_rfl)⟩,?_⟩));refine⟨L_ (fun q=>Ending.returned (Value.agg q)) (Fx.dZ fun i r => ?_),NU⟩;unfold kU; rw[b_ g,b_ h,b_ l,b_ p,d_ t]
 refine Lv aF (fC t)<|av aF<|aC<|aK<|ay ?_;by_cases u:v.kind=6
 ·refine Lv aG (eH u)<|av aG<|aC<|aM<|Wl<|av (pf b 10)<|Lv (au v.dst) (aL f.aH 10)<|av (pf a 10)<|ji k 10 (au v.dst) fun w22 xB L z22 => ?_;have xC:aP w22 a 14 (bM ⟨v.o,v.seq,v.deps,v.kind,0,v.dst,0,0,0⟩) 37:=xB.congr (fun j c=>by rcases j with _|_|_|_|_|_|_|_|_|_|_|_|_|_|j <;> first|rfl|omega)
  have yR:=f.cZ L (by omega);have AP:=n.cZ L (by omega);have PL:=L.below d d.size (by omega);refine Ln<|bP<|sN<|ay<|Lv (.agg (aA 14 (bM ⟨v.o,v.seq,v.deps,v.kind,0,v.dst,0,0,0⟩))) (eT xC.aH 0)<|dU AP 0 (h1:=(gK _)) fun w23 yS M z23 => ?_;have BI:aP w23 m 14 (bM ⟨v.o,v.seq,v.deps,v.kind,0,v.dst,0,0,0⟩) 37:=aQ yS;have Bq:=yR.cZ M (by omega);have Br:=xC.cZ M (by omega);have YN:=M.below PL PL.size (by omega);refine aC (Wr (⟨.agg (aA 14 (bM ⟨v.o,v.seq,v.deps,v.kind,0,v.dst,0,0,0⟩)),rV Tryz.results122 ⟨_,rfl,aS BI.aH (by kernel_rfl) (by kernel_rfl)⟩,?_⟩));refine⟨L_ (fun q=>Ending.returned (Value.agg q)) (Fx.dZ fun i r => ?_),YN⟩;unfold kU; rw[b_ g,b_ h,b_ l,b_ p,b_ t,d_ u]
 refine Lv aF (fC u)<|av aF<|aC<|aK<|Wk<|bP<|sN<|ay<|Lv (.agg (aA 14 (bM ⟨v.o,v.seq,v.deps,v.kind,0,0,0,0,0⟩))) (eT k.aH 0)<|dU n 0 (h1:=(gK _)) fun w24 AQ N z24 => ?_;have AU:aP w24 m 14 (bM ⟨v.o,v.seq,v.deps,v.kind,0,0,0,0,0⟩) 37:=aQ AQ;have BJ:=f.cZ N (by omega);have FL:=k.cZ N (by omega);have YO:=N.below d d.size (by omega);refine aC (Wr (⟨.agg (aA 14 (bM ⟨v.o,v.seq,v.deps,v.kind,0,0,0,0,0⟩)),rV Tryz.results122 ⟨_,rfl,aS AU.aH (by kernel_rfl) (by kernel_rfl)⟩,?_⟩));refine⟨L_ (fun q=>Ending.returned (Value.agg q)) (Fx.dZ fun i r => ?_),YO⟩;unfold kU; rw[b_ g,b_ h,b_ l,b_ p,b_ t,b_ u]
set_option linter.unusedSimpArgs false in
set_option maxHeartbeats 2000000 in
theorem Lx(v:EvM)(w:World) :
 Calls Tryz.prog 123 #[.agg (aA 14 (bM v))] w fun e w'=>e = .returned (.bool (dG v))/\Below w.heap.size w w':=by
 refine Kent Tryz.func123 75 ?_;refine ay<|oz fun g S M B N V => ?_;have I:=bf N.old (Below.refl w.heap.size w);have Q:=gD M;have R:=B.lt;refine av aF<|aC<|Bo (fun f F=>f 1=(pt g)/\f 3 = .bool (someE v)/\aP F g 14 (bM v) 37/\Below w.heap.size w F) ?_ ?_
 ·refine Wl<|av (pf g 11)<|Lv (au v.aT) (aL B.aH 11) ?_;by_cases D:1<=v.aT
  ·refine Lv aG (kR D)<|av aG<|av (pf g 11)<|Lv (au v.aT) (aL B.aH 11) ?_;by_cases G:v.aT<=1125899906842624
   ·refine Lv aG (nL G)<|av aG<|av aG<|Ln ?_;exact rT ⟨(by rfl),(by show Value.bool true=Value.bool (someE v); unfold someE; rw[f_ D,f_ G]; rfl),B,I⟩
   refine Lv aF (ow G)<|av aF<|av aF<|Ln ?_;exact rT ⟨(by rfl),(by show Value.bool false=Value.bool (someE v); unfold someE; rw[f_ D,g_ G]; rfl),B,I⟩
  refine Lv aF (kJ D)<|av aF<|bO<|bO<|bO<|av aF<|av aF<|Ln ?_;exact rT ⟨(by rfl),(by show Value.bool false=Value.bool (someE v); unfold someE; rw[g_ D]; rfl),B,I⟩
 rintro O T ⟨A,K,C,J⟩;refine Bo (fun f F=>f 1=(pt g)/\f 3 = .bool (someE v)/\f 4 = .bool (lN v)/\aP F g 14 (bM v) 37/\Below w.heap.size w F) ?_ ?_
 ·refine Wl<|Lv (pf g 10) (iL A 10)<|Lv (au v.dst) (aL C.aH 10) ?_;by_cases t:(jh v.dst)=true
  ·refine lH (BK v.dst _) aG (by rw[t])<|av aG<|Lv (pf g 10) (iL A 10)<|Lv (au v.dst) (aL C.aH 10)<|Lv (pt g) (iL A 0)<|Lv (au v.o) (aL C.aH 0) ?_;by_cases H:v.dst=v.o
   ·refine Lv aF (jG H)<|av aF<|av aF<|Ln ?_;exact rT ⟨A,K,(by show Value.bool false=Value.bool (lN v); unfold lN; rw[t,f_ H]; rfl),C,J⟩
   refine Lv aG (mG H)<|av aG<|av aG<|Ln ?_;exact rT ⟨A,K,(by show Value.bool true=Value.bool (lN v); unfold lN; rw[t,g_ H]; rfl),C,J⟩
  rw[U_]at t;refine lH (BK v.dst _) aF (by rw[t])<|av aF<|bO<|bO<|bO<|bO<|bO<|av aF<|av aF<|Ln ?_;exact rT ⟨A,K,(by show Value.bool false=Value.bool (lN v); unfold lN; rw[t]; rfl),C,J⟩
 rintro P U ⟨m,E,L,n,h⟩;refine Ws<|ay<|Lv (pf g 8) (iL m 8)<|Lv (.int .u8 (v.kind)) (aL n.aH 8)<|aC<|Wb<|ay ?_;by_cases a:v.kind=1
 ·refine Lv aG (eH a)<|av aG<|aC<|aM<|ay<|Lv (pf g 11) (iL m 11)<|Lv (au v.aT) (aL n.aH 11) ?_;by_cases p:0<=v.aT
  ·refine Lv aG (kR p)<|av aG<|Lv (pf g 11) (iL m 11)<|Lv (au v.aT) (aL n.aH 11) ?_;by_cases u:v.aT<=1125899906842624
   ·refine Lv aG (nL u)<|av aG<|av aG<|aC<|Wr<|bL<|sR<|aJ aG ?_;exact⟨iD (Eq.symm (by unfold dG; first|(rw[d_ a]; done)|(rw[d_ a]; first|(simp[p,u]; done)|(simp[p,u]; omega)))),h⟩
   refine Lv aF (ow u)<|av aF<|av aF<|aC<|Wr<|bL<|sR<|aJ aF ?_;exact⟨iD (Eq.symm (by unfold dG; first|(rw[d_ a]; done)|(rw[d_ a]; first|(simp[p,u]; done)|(simp[p,u]; omega)))),h⟩
  refine Lv aF (kJ p)<|av aF<|bO<|bO<|bO<|av aF<|av aF<|aC<|Wr<|bL<|sR<|aJ aF ?_;exact⟨iD (Eq.symm (by unfold dG; first|(rw[d_ a]; done)|(rw[d_ a]; first|(simp[p]; done)|(simp[p]; omega)))),h⟩
 refine Lv aF (fC a)<|av aF<|aC<|aK<|ay ?_;by_cases b:v.kind=2
 ·refine Lv aG (eH b)<|av aG<|aC<|aM<|ay<|aU E<|av (.bool (someE v))<|aC<|Wr<|bL<|sR<|aJ (.bool (someE v)) ?_;exact⟨iD (Eq.symm (by unfold dG; first|(rw[b_ a,d_ b]; done)|(rw[b_ a,d_ b]; first|(simp[]; done)|(simp[]; omega)))),h⟩
 refine Lv aF (fC b)<|av aF<|aC<|aK<|ay ?_;by_cases c:v.kind=3
 ·refine Lv aG (eH c)<|av aG<|aC<|aM<|ay ?_;by_cases k:(someE v)=true
  ·refine aU (E.trans (L_ Value.bool k))<|av aG<|Lv (pf g 12) (iL m 12)<|Lv (aD v.req) (aL n.aH 12) ?_;by_cases x:1<=v.req
   ·refine Lv aG (kR x)<|av aG<|av aG<|aC<|Wr<|bL<|sR<|aJ aG ?_;exact⟨iD (Eq.symm (by unfold dG; first|(rw[b_ a,b_ b,d_ c]; done)|(rw[b_ a,b_ b,d_ c]; first|(simp[k,x]; done)|(simp[k,x]; omega)))),h⟩
   refine Lv aF (kJ x)<|av aF<|av aF<|aC<|Wr<|bL<|sR<|aJ aF ?_;exact⟨iD (Eq.symm (by unfold dG; first|(rw[b_ a,b_ b,d_ c]; done)|(rw[b_ a,b_ b,d_ c]; first|(simp[k,x]; done)|(simp[k,x]; omega)))),h⟩
  rw[U_]at k;refine aU (E.trans (L_ Value.bool k))<|av aF<|bO<|bO<|bO<|av aF<|av aF<|aC<|Wr<|bL<|sR<|aJ aF ?_;exact⟨iD (Eq.symm (by unfold dG; first|(rw[b_ a,b_ b,d_ c]; done)|(rw[b_ a,b_ b,d_ c]; first|(simp[k]; done)|(simp[k]; omega)))),h⟩
 refine Lv aF (fC c)<|av aF<|aC<|aK<|ay ?_;by_cases d:v.kind=4
 ·refine Lv aG (eH d)<|av aG<|aC<|aM<|ay<|Lv (pf g 12) (iL m 12)<|Lv (aD v.req) (aL n.aH 12) ?_;by_cases j:1<=v.req
  ·refine Lv aG (kR j)<|av aG<|Lv (pf g 13) (iL m 13)<|Lv (aD v.of) (aL n.aH 13) ?_;by_cases q:1<=v.of
   ·refine Lv aG (kR q)<|av aG<|av aG<|Lv (pf g 12) (iL m 12)<|Lv (aD v.req) (aL n.aH 12)<|Lv (pf g 13) (iL m 13)<|Lv (aD v.of) (aL n.aH 13) ?_;by_cases y:v.req=v.of
    ·refine Lv aF (jG y)<|av aF<|av aF<|aC<|Wr<|bL<|sR<|aJ aF ?_;exact⟨iD (Eq.symm (by unfold dG; first|(rw[b_ a,b_ b,b_ c,d_ d]; done)|(rw[b_ a,b_ b,b_ c,d_ d]; first|(simp[j,q,y]; done)|(simp[j,q,y]; omega)))),h⟩
    refine Lv aG (mG y)<|av aG<|av aG<|aC<|Wr<|bL<|sR<|aJ aG ?_;exact⟨iD (Eq.symm (by unfold dG; first|(rw[b_ a,b_ b,b_ c,d_ d]; done)|(rw[b_ a,b_ b,b_ c,d_ d]; first|(simp[j,q,y]; done)|(simp[j,q,y]; omega)))),h⟩
   refine Lv aF (kJ q)<|av aF<|av aF<|bO<|bO<|bO<|bO<|bO<|av aF<|av aF<|aC<|Wr<|bL<|sR<|aJ aF ?_;exact⟨iD (Eq.symm (by unfold dG; first|(rw[b_ a,b_ b,b_ c,d_ d]; done)|(rw[b_ a,b_ b,b_ c,d_ d]; first|(simp[j,q]; done)|(simp[j,q]; omega)))),h⟩
  refine Lv aF (kJ j)<|av aF<|bO<|bO<|bO<|av aF<|av aF<|bO<|bO<|bO<|bO<|bO<|av aF<|av aF<|aC<|Wr<|bL<|sR<|aJ aF ?_;exact⟨iD (Eq.symm (by unfold dG; first|(rw[b_ a,b_ b,b_ c,d_ d]; done)|(rw[b_ a,b_ b,b_ c,d_ d]; first|(simp[j]; done)|(simp[j]; omega)))),h⟩
 refine Lv aF (fC d)<|av aF<|aC<|aK<|ay ?_;by_cases i:v.kind=5
 ·refine Lv aG (eH i)<|av aG<|aC<|aM<|ay ?_;by_cases l:(someE v)=true
  ·refine aU (E.trans (L_ Value.bool l))<|av aG ?_;by_cases s:(lN v)=true
   ·refine aU (L.trans (L_ Value.bool s))<|av aG<|av aG<|aC<|Wr<|bL<|sR<|aJ aG ?_;exact⟨iD (Eq.symm (by unfold dG; first|(rw[b_ a,b_ b,b_ c,b_ d,d_ i]; done)|(rw[b_ a,b_ b,b_ c,b_ d,d_ i]; first|(simp[l,s]; done)|(simp[l,s]; omega)))),h⟩
   rw[U_]at s;refine aU (L.trans (L_ Value.bool s))<|av aF<|av aF<|aC<|Wr<|bL<|sR<|aJ aF ?_;exact⟨iD (Eq.symm (by unfold dG; first|(rw[b_ a,b_ b,b_ c,b_ d,d_ i]; done)|(rw[b_ a,b_ b,b_ c,b_ d,d_ i]; first|(simp[l,s]; done)|(simp[l,s]; omega)))),h⟩
  rw[U_]at l;refine aU (E.trans (L_ Value.bool l))<|av aF<|bO<|av aF<|av aF<|aC<|Wr<|bL<|sR<|aJ aF ?_;exact⟨iD (Eq.symm (by unfold dG; first|(rw[b_ a,b_ b,b_ c,b_ d,d_ i]; done)|(rw[b_ a,b_ b,b_ c,b_ d,d_ i]; first|(simp[l]; done)|(simp[l]; omega)))),h⟩
 refine Lv aF (fC i)<|av aF<|aC<|aK<|ay ?_;by_cases r:v.kind=6
 ·refine Lv aG (eH r)<|av aG<|aC<|aM<|ay<|aU L<|av (.bool (lN v))<|aC<|Wr<|bL<|sR<|aJ (.bool (lN v)) ?_;exact⟨iD (Eq.symm (by unfold dG; first|(rw[b_ a,b_ b,b_ c,b_ d,b_ i,d_ r]; done)|(rw[b_ a,b_ b,b_ c,b_ d,b_ i,d_ r]; first|(simp[]; done)|(simp[]; omega)))),h⟩
 refine Lv aF (fC r)<|av aF<|aC<|aK<|Wk<|bP<|sN<|ay<|Lv (pf g 8) (iL m 8)<|Lv (.int .u8 (v.kind)) (aL n.aH 8) ?_;by_cases z:v.kind=7
 ·refine Lv aG (eH z)<|av aG<|aC<|Wr<|aJ aG ?_;exact⟨iD (Eq.symm (by unfold dG; first|(rw[b_ a,b_ b,b_ c,b_ d,b_ i,b_ r]; done)|(rw[b_ a,b_ b,b_ c,b_ d,b_ i,b_ r]; first|(simp[z]; done)|(simp[z]; omega)))),h⟩
 refine Lv aF (fC z)<|av aF<|aC<|Wr<|aJ aF ?_;exact⟨iD (Eq.symm (by unfold dG; first|(rw[b_ a,b_ b,b_ c,b_ d,b_ i,b_ r]; done)|(rw[b_ a,b_ b,b_ c,b_ d,b_ i,b_ r]; first|(simp[z]; done)|(simp[z]; omega)))),h⟩
namespace Rt
def iY(n:Int):Prop:=0<=n/\n<=18446744073709551615
def oM(n:Int):Prop := -9223372036854775808<=n/\n<=9223372036854775807
structure gL(v:EvM):Prop where
 o:oM v.o
 seq:iY v.seq
 deps : ∀ i,i<6->iY (v.deps i)
 kind:0<=v.kind/\v.kind<=255
 node:iY v.node
 dst:oM v.dst
 aT:oM v.aT
 req:iY v.req
 of:iY v.of
theorem gL.own{v:EvM}(h:gL v):gL (kU v):=by
 have z:iY 0:=⟨by decide,by decide⟩;have y:oM 0:=⟨by decide,by decide⟩;unfold kU;split
 ·exact⟨h.o,h.seq,h.deps,h.kind,h.node,y,h.aT,z,z⟩
 split
 ·exact⟨h.o,h.seq,h.deps,h.kind,h.node,y,h.aT,z,z⟩
 split
 ·exact⟨h.o,h.seq,h.deps,h.kind,h.node,y,h.aT,h.req,z⟩
 split
 ·exact⟨h.o,h.seq,h.deps,h.kind,z,y,y,h.req,h.of⟩
 split
 ·exact⟨h.o,h.seq,h.deps,h.kind,h.node,h.dst,h.aT,z,z⟩
 split
 ·exact⟨h.o,h.seq,h.deps,h.kind,z,h.dst,y,z,z⟩
 exact⟨h.o,h.seq,h.deps,h.kind,z,y,y,z,z⟩
theorem Ap{v:EvM}(h:gL v):Fx.Kd [(some .i64),(some .u64),(some .u64),(some .u64),(some .u64),(some .u64),(some .u64),(some .u64),(some .u8),(some .u64),(some .i64),(some .i64),(some .u64),(some .u64)] (bM v):=by
 have a : ∀(k:IntKind) (n:Int),(Lit.int k n).wf=true -> ∃ l,oG (some k) (.int k n)=some l:=fun k n d=>by
  obtain⟨l,c⟩:=Fx.Ie (k:=k) (n:=1) (x:=fun _=>n) (fun _ _=>d) 0 (by simp);exact⟨l,c⟩
 intro i b;have e:i<14:=b
 rcases i with _|_|_|_|_|_|_|_|_|_|_|_|_|_|i
 ·exact a .i64 v.o (Fx.NC h.o)
 ·exact a .u64 v.seq (Fx.qA h.seq)
 ·exact a .u64 (v.deps 0) (Fx.qA (h.deps 0 (by decide)))
 ·exact a .u64 (v.deps 1) (Fx.qA (h.deps 1 (by decide)))
 ·exact a .u64 (v.deps 2) (Fx.qA (h.deps 2 (by decide)))
 ·exact a .u64 (v.deps 3) (Fx.qA (h.deps 3 (by decide)))
 ·exact a .u64 (v.deps 4) (Fx.qA (h.deps 4 (by decide)))
 ·exact a .u64 (v.deps 5) (Fx.qA (h.deps 5 (by decide)))
 ·exact a .u8 v.kind (Fx.ahg h.kind)
 ·exact a .u64 v.node (Fx.qA h.node)
 ·exact a .i64 v.dst (Fx.NC h.dst)
 ·exact a .i64 v.aT (Fx.NC h.aT)
 ·exact a .u64 v.req (Fx.qA h.req)
 ·exact a .u64 v.of (Fx.qA h.of)
 omega
def xD(v:EvM):Bool:=(List.range 6).all fun i=>decide (v.deps i<1099511627776)
def pQ(v:EvM):Bool:=decide (v.node=(kU v).node)&&decide (v.dst=(kU v).dst)&&decide (v.aT=(kU v).aT)&&decide (v.req=(kU v).req)&&decide (v.of=(kU v).of)
def bR(v:EvM):Bool:=jh v.o&&decide (1<=v.seq)&&decide (v.seq<1099511627776)&&decide (v.deps (v.o-1).toNat=v.seq-1)&&xD v&&pQ v&&dG v
theorem U1(v:EvM):(kU v).o=v.o/\(kU v).seq=v.seq/\(kU v).deps=v.deps/\(kU v).kind=v.kind:=by
 unfold kU; repeat (first|exact⟨rfl,rfl,rfl,rfl⟩|split)
theorem CK(v:EvM):pQ v=true <-> ∀ i,i<14->bM v i=bM (kU v) i:=by
 obtain⟨m,n,p,q⟩:=U1 v;unfold pQ;simp only[T_,decide_eq_true_eq];constructor
 ·rintro ⟨⟨⟨⟨a,b⟩,c⟩,d⟩,e⟩ i r;have:kU v=v:=by
   cases hv:kU v with
   | mk o seq deps kind node dst aT req of =>
     rw[hv]at m n p q a b c d e
     cases v; simp_all
  rw[this]
 intro h;have l:Value.int .u64 v.node=aD (kU v).node:=h 9 (by decide);have f:Value.int .i64 v.dst=au (kU v).dst:=h 10 (by decide);have g:Value.int .i64 v.aT=au (kU v).aT:=h 11 (by decide);have j:Value.int .u64 v.req=aD (kU v).req:=h 12 (by decide);have k:Value.int .u64 v.of=aD (kU v).of:=h 13 (by decide);simp only[Value.int.injEq,true_and]at l f g j k;exact⟨⟨⟨⟨l,f⟩,g⟩,j⟩,k⟩
theorem fq{i:Int}(h:jh i=true) : ∃ a:Nat,a<6/\i=(a:Int)+1:=by
 unfold jh at h; simp at h;obtain⟨a,b⟩:=Int.eq_ofNat_of_zero_le (show 0<=i-1 by omega);exact⟨a,by omega,by omega⟩
theorem Iz{v:EvM}{k:Nat}(a:k<6)(h:1099511627776<=v.deps k):xD v=false:=by
 unfold xD; rw[List.all_eq_false]; exact⟨k,O_.2 a,by simp; omega⟩
theorem xE{v:EvM}{k:Nat}(b : ¬ (k:Int)<6)(h : ∀ i,i<k->v.deps i<1099511627776):xD v=true:=by
 unfold xD; rw[List.all_eq_true]; intro i a; have:=O_.1 a; simp; exact h i (by omega)
theorem Ro{v:EvM}{k:Nat}(h : ∀ i,i<k->v.deps i<1099511627776)(a:v.deps k<1099511627776) : ∀ i,i<k+1->v.deps i<1099511627776:=fun i b=>by
 by_cases e:i=k
 ·subst e; exact a
 ·exact h i (by omega)
theorem jg{v:EvM}(h:bR v=true):jh v.o=true:=by
 unfold bR at h; simp only[T_]at h; exact h.1.1.1.1.1.1
end Rt
set_option maxHeartbeats 2000000 in
theorem IB(v:EvM)(w:World)(D:gL v) :
 Calls Tryz.prog 78 #[.agg (aA 14 (bM v))] w fun e w'=>e = .returned (.bool (bR v))/\Below w.heap.size w w':=by
 refine Kent Tryz.func78 47 ?_;refine ay<|oz fun m w1 Q q s1 z1 => ?_;have t:=bf s1.old (Below.refl w.heap.size w);have rF:=gD Q;have sQ:=q.lt;refine av aF<|aC<|Ws<|Ws ?_;refine nM<|aW (pt m)<|Qv (au v.o) (fun c b=>aL (q.cb b) 0) ?_;by_cases j:(jh v.o)=true
 ·obtain⟨a,ha,ea⟩:=fq j;refine qQ (fun _ _=>BK v.o _) aG (by rw[j])<|aW aF<|aW aF<|aW (pf m 1)<|Qv (aD v.seq) (fun c b=>aL (q.cb b) 1) ?_;by_cases F:v.seq<1
  ·refine Qv aG (fun c b=>gM F)<|aW aG<|aW aG<|aR<|aR<|aR<|aW aG<|aW aG<|aR<|aR<|aR<|aR<|aR<|aR<|aR<|aR<|aR<|aR<|aW aG<|Qn ?_;intro YL R;have⟨d,J⟩:=eU R q t;refine sN<|aM<|ay<|av aF<|aC<|Wr<|sR<|aJ aF ?_;have d:decide (1<=v.seq)=false:=g_ (by omega);exact⟨iD (Eq.symm (by unfold bR; rw[j,d]; rfl)),J⟩
  refine Qv aF (fun c b=>gN F)<|aW aF<|aW aF<|aW (pf m 1)<|Qv (aD v.seq) (fun c b=>aL (q.cb b) 1) ?_;by_cases G:1099511627776<=v.seq
  ·refine Qv aG (fun c b=>kR G)<|aW aG<|aW aG<|aR<|aR<|aR<|aR<|aR<|aR<|aR<|aR<|aR<|aR<|aW aG<|Qn ?_;intro wb2 S;have⟨l,K⟩:=eU S q t;refine sN<|aM<|ay<|av aF<|aC<|Wr<|sR<|aJ aF ?_;have d:decide (1<=v.seq)=true:=f_ (by omega);have l:decide (v.seq<1099511627776)=false:=g_ (by omega);exact⟨iD (Eq.symm (by unfold bR; rw[j,d,l]; rfl)),K⟩
  refine Qv aF (fun c b=>kJ G)<|aW aF<|aW aF<|aW (pt m)<|Qv (au v.o) (fun c b=>aL (q.cb b) 0)<|Qv (au a) (fun c b=>gQ)<|aW (pf m 2)<|Qv (pf m (a+2)) (fun c b=>jJ 6 1)<|Qv (aD (v.deps a)) (fun c b=>aL (q.cb b) (a+2) (nA _ (by omega) (by omega)))<|aW (pf m 1)<|Qv (aD v.seq) (fun c b=>aL (q.cb b) 1)<|Qv (aD (v.seq-1)) (fun c b=>gQ) ?_;by_cases r:(v.deps a)=(v.seq-1)
  ·refine Qv aF (fun c b=>jG r)<|aW aF<|Qn ?_;intro wb3 T;have⟨p,L⟩:=eU T q t;refine sN<|aK<|Wk<|sN<|Ws<|ay<|av (au 0)<|aC<|Wb<|Wo (fun f H => ∃ k:Nat,k<=6/\(∀ i,i<k->v.deps i<1099511627776)/\f 1=(pt m)/\f 3=au (k:Int)/\aP H m 14 (bM v) 37/\Below w.heap.size w H) (fun f _=>(6-(intOf (f 3)).toNat)) ⟨0,by omega,(fun i h=>M_ h (by omega)),(by rfl),Fx.ic,p,L⟩ ?_;rintro f1 w2 ⟨k,hk,C,A,B,g,u⟩;refine Ws<|ay<|aU B ?_;by_cases x:(k:Int)<6
   ·refine Lv aG (gM x)<|aC<|aM<|Wk<|sN<|Ws<|Wb<|ay<|aU B<|Lv (pf m 2) (iL A 2)<|Lv (pf m (k+2)) (jJ 6 1)<|Lv (aD (v.deps k)) (aL g.aH (k+2) (nA _ (by omega) (by omega))) ?_;by_cases E:1099511627776<=(v.deps k)
    ·refine Lv aG (kR E)<|aC<|aM<|ay<|av aF<|aC<|Wr<|bL<|sR<|pV<|bL<|sR<|aJ aF ?_;have d:decide (1<=v.seq)=true:=f_ (by omega);have l:decide (v.seq<1099511627776)=true:=f_ (by omega);have p:decide (v.deps (v.o-1).toNat=v.seq-1)=true:=f_ (by rw[show(v.o-1).toNat=a by omega]; exact r);have g:=Iz (by omega) E;exact⟨iD (Eq.symm (by unfold bR; rw[j,d,l,p,g]; rfl)),u⟩
    refine Lv aF (kJ E)<|aC<|aK<|Wk<|bP<|sN<|Wl<|aU B<|Lv (au ((k:Int)+1)) fA<|av (au ((k:Int)+1))<|Ln<|gW ⟨k+1,by omega,(Ro C (by omega)),A,Fx.ic,g,u⟩ ?_;show(6-(intOf (au ((k:Int)+1))).toNat)<_;simp only[B,intOf]; omega
   refine Lv aF (gN x)<|aC<|aK<|Wx<|bX<|gP<|bY<|sN<|Ws ?_;refine nM<|Qv (.agg (aA 14 (bM v))) (fun c b=>eT (g.cb b) 0 (ha:=A))<|Qv (.agg (aA 14 (bM v))) (fun c b=>eT (g.cb b) 0 (ha:=A))<|zY (fun _ _=>ahV v _) _ rfl ?_;by_cases y : ∀ i,i<14->(bM v) i=(bM (kU v)) i
   ·refine Qv aG (fun c b=>Fx.uV (n:=14) (ks := [(some .i64),(some .u64),(some .u64),(some .u64),(some .u64),(some .u64),(some .u64),(some .u64),(some .u8),(some .u64),(some .i64),(some .i64),(some .u64),(some .u64)]) (X:=bM v) (Y:=bM (kU v)) 12 true rfl rfl rfl (Fx.Ht y) (Ap D) (Ap D.own) rfl (by kernel_rfl) (by kernel_rfl) (by kernel_rfl) (by kernel_rfl) (by kernel_rfl))<|aW aG<|Qv (.agg (aA 14 (bM v))) (fun c b=>eT (g.cb b) 0 (ha:=A)) ?_;by_cases z:(dG v)=true
    ·refine zY (fun _ _=>Lx v _) aG (by rw[z])<|aW aG<|aW aG<|Qn ?_;intro wb4 U;have⟨s,M⟩:=eU U g u;refine sN<|Wr<|aJ aG ?_;have d:decide (1<=v.seq)=true:=f_ (by omega);have l:decide (v.seq<1099511627776)=true:=f_ (by omega);have p:decide (v.deps (v.o-1).toNat=v.seq-1)=true:=f_ (by rw[show(v.o-1).toNat=a by omega]; exact r);have g:=xE x C;have s:=(CK v).2 y;exact⟨iD (Eq.symm (by unfold bR; rw[j,d,l,p,g,s,z]; rfl)),M⟩
    rw[U_]at z;refine zY (fun _ _=>Lx v _) aF (by rw[z])<|aW aF<|aW aF<|Qn ?_;intro wb5 V;have N:=bf V u;refine sN<|Wr<|aJ aF ?_;have d:decide (1<=v.seq)=true:=f_ (by omega);have l:decide (v.seq<1099511627776)=true:=f_ (by omega);have p:decide (v.deps (v.o-1).toNat=v.seq-1)=true:=f_ (by rw[show(v.o-1).toNat=a by omega]; exact r);have g:=xE x C;have s:=(CK v).2 y;exact⟨iD (Eq.symm (by unfold bR; rw[j,d,l,p,g,s,z]; rfl)),N⟩
   refine Qv aF (fun c b=>Fx.uV (n:=14) (ks := [(some .i64),(some .u64),(some .u64),(some .u64),(some .u64),(some .u64),(some .u64),(some .u64),(some .u8),(some .u64),(some .i64),(some .i64),(some .u64),(some .u64)]) (X:=bM v) (Y:=bM (kU v)) 12 false rfl rfl rfl (Fx.nob y) (Ap D) (Ap D.own) rfl (by kernel_rfl) (by kernel_rfl) (by kernel_rfl) (by kernel_rfl) (by kernel_rfl))<|aW aF<|aR<|aR<|aW aF<|aW aF<|Qn ?_;intro wb6 W;have O:=bf W u;refine sN<|Wr<|aJ aF ?_;have d:decide (1<=v.seq)=true:=f_ (by omega);have l:decide (v.seq<1099511627776)=true:=f_ (by omega);have p:decide (v.deps (v.o-1).toNat=v.seq-1)=true:=f_ (by rw[show(v.o-1).toNat=a by omega]; exact r);have g:=xE x C;have s:pQ v=false:=Bool.eq_false_iff.2 (fun h=>y ((CK v).1 h));exact⟨iD (Eq.symm (by unfold bR; rw[j,d,l,p,g,s]; rfl)),O⟩
  refine Qv aG (fun c b=>mG r)<|aW aG<|Qn ?_;intro wb7 Z;have P:=bf Z t;refine sN<|aM<|ay<|av aF<|aC<|Wr<|sR<|aJ aF ?_;have d:decide (1<=v.seq)=true:=f_ (by omega);have l:decide (v.seq<1099511627776)=true:=f_ (by omega);have p:decide (v.deps (v.o-1).toNat=v.seq-1)=false:=g_ (by rw[show(v.o-1).toNat=a by omega]; exact r);exact⟨iD (Eq.symm (by unfold bR; rw[j,d,l,p]; rfl)),P⟩
 rw[U_]at j;refine qQ (fun _ _=>BK v.o _) aF (by rw[j])<|aW aG<|aW aG<|aR<|aR<|aR<|aW aG<|aW aG<|aR<|aR<|aR<|aW aG<|aW aG<|aR<|aR<|aR<|aR<|aR<|aR<|aR<|aR<|aR<|aR<|aW aG<|Qn ?_;intro wb8 aa;have I:=bf aa t;refine sN<|aM<|ay<|av aF<|aC<|Wr<|sR<|aJ aF ?_;exact⟨iD (Eq.symm (by unfold bR; rw[j]; rfl)),I⟩
namespace Rt
def lQ(K:Nat->Int)(v:EvM):Bool:=bR v&&decide (v.seq<=K (v.o-1).toNat)
def yT(D K:Nat->Int):Bool:=(List.range 6).all fun i=>decide (D i<=K i)
def dJ(K:Nat->Int)(v:EvM):Bool:=bR v&&decide (v.seq=K (v.o-1).toNat+1)&&yT v.deps K
theorem U2{D K:Nat->Int}{k:Nat}(a:k<6)(h:K k<D k):yT D K=false:=by
 unfold yT; rw[List.all_eq_false]; exact⟨k,O_.2 a,by simp; omega⟩
theorem Rq{D K:Nat->Int}{k:Nat}(b : ¬ (k:Int)<6)(h : ∀ i,i<k->D i<=K i):yT D K=true:=by
 unfold yT; rw[List.all_eq_true]; intro i a; have:=O_.1 a; simp; exact h i (by omega)
theorem le_step{D K:Nat->Int}{k:Nat}(h : ∀ i,i<k->D i<=K i)(b : ¬ K k<D k) : ∀ i,i<k+1->D i<=K i:=fun i a=>by
 by_cases e:i=k
 ·subst e; omega
 ·exact h i (by omega)
def BL(K:Nat->Int):Prop := ∀ i,i<6->0<=K i/\K i<1099511627776
theorem EN{v:EvM}(h:bR v=true):1<=v.seq/\v.seq<1099511627776:=by
 unfold bR at h; simp only[T_,decide_eq_true_eq]at h; exact⟨h.1.1.1.1.1.2,h.1.1.1.1.2⟩
end Rt
theorem U3(K:Nat->Int)(v:EvM)(w:World)(m:gL v) :
 Calls Tryz.prog 79 #[.agg (aA 6 (rv .u64 K)),.agg (aA 14 (bM v))] w fun e w'=>e = .returned (.bool (lQ K v))/\Below w.heap.size w w':=by
 refine Kent Tryz.func79 17 ?_;refine ay<|oz fun s I r i z O => ?_;have j:=bf z.old (Below.refl w.heap.size w);have D:=gD r;have G:=i.lt;refine oz fun l J k c A P => ?_;have⟨y,h⟩:=eU A.old i j;have E:=iw k j.size;have F:=cu k i.lt;have H:=c.lt;refine av aF<|aC<|Ws ?_;refine nM<|Qv (.agg (aA 14 (bM v))) (fun f b=>eT (c.cb b) 0) ?_;by_cases d:(bR v)=true
 ·obtain⟨a,C,B⟩:=fq (jg d);refine zY (fun _ _=>IB v _ m) aG (by rw[d])<|aW aG<|aW (pf l 1)<|Qv (aD v.seq) (fun f b=>aL (c.cb b) 1)<|aW (pt l)<|Qv (au v.o) (fun f b=>aL (c.cb b) 0)<|Qv (au a) (fun f b=>gQ)<|Qv (pf s a) (fun f b=>jJ 6 1)<|Qv (aD (K a)) (fun f b=>aL (y.cb b) a) ?_;by_cases g:v.seq<=(K a)
  ·refine Qv aG (fun f b=>nL g)<|aW aG<|aW aG<|Qn ?_;intro L t;have n:=bf t h;refine sN<|Wr<|aJ aG ?_;have c:decide (v.seq<=K (v.o-1).toNat)=true:=f_ (by rw[show(v.o-1).toNat=a by omega]; exact g);exact⟨iD (Eq.symm (by unfold lQ; rw[d,c]; rfl)),n⟩
  refine Qv aF (fun f b=>ow g)<|aW aF<|aW aF<|Qn ?_;intro M u;have p:=bf u h;refine sN<|Wr<|aJ aF ?_;have c:decide (v.seq<=K (v.o-1).toNat)=false:=g_ (by rw[show(v.o-1).toNat=a by omega]; exact g);exact⟨iD (Eq.symm (by unfold lQ; rw[d,c]; rfl)),p⟩
 rw[U_]at d;refine zY (fun _ _=>IB v _ m) aF (by rw[d])<|aW aF<|aR<|aR<|aR<|aR<|aR<|aR<|aR<|aR<|aW aF<|aW aF<|Qn ?_;intro N x;have q:=bf x h;refine sN<|Wr<|aJ aF ?_;exact⟨iD (Eq.symm (by unfold lQ; rw[d]; rfl)),q⟩
theorem PS(K:Nat->Int)(v:EvM)(w:World)(H:gL v)(R:BL K) :
 Calls Tryz.prog 80 #[.agg (aA 6 (rv .u64 K)),.agg (aA 14 (bM v))] w fun e w'=>e = .returned (.bool (dJ K v))/\Below w.heap.size w w':=by
 refine Kent Tryz.func80 32 ?_;refine ay<|oz fun s w1 Q A s1 z1 => ?_;have C:=bf s1.old (Below.refl w.heap.size w);have rF:=gD Q;have sQ:=A.lt;refine oz fun l w2 D d s2 z2 => ?_;have⟨m,t⟩:=eU s2.old A C;have pO:=iw D C.size;have FK:=cu D A.lt;have yu:=d.lt;refine av aF<|aC<|Ws<|Ws ?_;refine nM<|Qv (.agg (aA 14 (bM v))) (fun c b=>eT (d.cb b) 0) ?_;by_cases g:(bR v)=true
 ·obtain⟨a,S,ea⟩:=fq (jg g);have ka:=R a S;refine zY (fun _ _=>IB v _ H) aG (by rw[g])<|aW aF<|aW aF<|aW (pf l 1)<|Qv (aD v.seq) (fun c b=>aL (d.cb b) 1)<|aW (pt l)<|Qv (au v.o) (fun c b=>aL (d.cb b) 0)<|Qv (au a) (fun c b=>gQ)<|Qv (pf s a) (fun c b=>jJ 6 1)<|Qv (aD (K a)) (fun c b=>aL (m.cb b) a)<|Qv (aD ((K a)+1)) (fun c b=>fA) ?_;by_cases n:v.seq=((K a)+1)
  ·refine Qv aF (fun c b=>jG n)<|aW aF<|Qn ?_;intro YL T;have⟨Y,Z,L⟩:=iy T m d t;refine sN<|aK<|Wk<|sN<|Ws<|ay<|av (au 0)<|aC<|Wb<|Wo (fun f B => ∃ k:Nat,k<=6/\(∀ i,i<k->v.deps i<=K i)/\f 2=(pt s)/\f 3=(pt l)/\f 5=au (k:Int)/\aP B s 6 (rv .u64 K) 35/\aP B l 14 (bM v) 37/\Below w.heap.size w B) (fun f _=>(6-(intOf (f 5)).toNat)) ⟨0,by omega,(fun i h=>M_ h (by omega)),(by rfl),(by rfl),Fx.ic,Y,Z,L⟩ ?_;rintro f1 j ⟨k,hk,G,E,F,p,I,J,u⟩;refine Ws<|ay<|aU p ?_;by_cases x:(k:Int)<6
   ·refine Lv aG (gM x)<|aC<|aM<|Wk<|sN<|Ws<|Wb<|Ws ?_;refine vV<|eG p<|Qv (pf l 2) (fun c b=>iL F 2)<|Qv (pf l (k+2)) (fun c b=>jJ 6 1)<|Qv (aD (v.deps k)) (fun c b=>aL (J.aH.dr b) (k+2) (nA _ (by omega) (by omega)))<|eG p<|Qv (pf s k) (fun c b=>jJ 6 1 (hx:=E))<|Qv (aD (K k)) (fun c b=>aL (I.aH.dr b) k) ?_;by_cases r:(K k)<(v.deps k)
    ·refine Qv aG (fun c b=>ni r)<|Qn ?_;rintro _ ⟨q,rfl⟩;obtain⟨BM,y⟩ : ∃ c,c=World.drewN j q:=⟨_,rfl⟩;rw[<- y];have s4:Stp j.heap.size j BM:=(by rw[y]; exact Sb (jA j q));have M:=bf s4.old u;clear y;refine sN<|aM<|ay<|av aF<|aC<|Wr<|bL<|sR<|pV<|bL<|sR<|aJ aF ?_;have d:decide (v.seq=K (v.o-1).toNat+1)=true:=f_ (by rw[show(v.o-1).toNat=a by omega]; exact n);have m:=U2 (by omega) r;exact⟨iD (Eq.symm (by unfold dJ; rw[g,d,m]; rfl)),M⟩
    refine Qv aF (fun c b=>nk r)<|Qn ?_;rintro _ ⟨q,rfl⟩;obtain⟨wq2,z⟩ : ∃ c,c=World.drewN j q:=⟨_,rfl⟩;rw[<- z];have s5:Stp j.heap.size j wq2:=(by rw[z]; exact Sb (jA j q));have⟨W,X,N⟩:=iy s5.old I J u;clear z;refine sN<|aK<|Wk<|bP<|sN<|Wl<|aU p<|Lv (au ((k:Int)+1)) fA<|av (au ((k:Int)+1))<|Ln<|gW ⟨k+1,by omega,(le_step G r),E,F,Fx.ic,W,X,N⟩ ?_;show(6-(intOf (au ((k:Int)+1))).toNat)<_;simp only[p,intOf]; omega
   refine Lv aF (gN x)<|aC<|aK<|Wx<|bX<|gP<|bY<|sN<|ay<|av aG<|aC<|Wr<|aJ aG ?_;have d:decide (v.seq=K (v.o-1).toNat+1)=true:=f_ (by rw[show(v.o-1).toNat=a by omega]; exact n);have m:=Rq x G;exact⟨iD (Eq.symm (by unfold dJ; rw[g,d,m]; rfl)),u⟩
  refine Qv aG (fun c b=>mG n)<|aW aG<|Qn ?_;intro wb2 U;have O:=bf U t;refine sN<|aM<|ay<|av aF<|aC<|Wr<|sR<|aJ aF ?_;have d:decide (v.seq=K (v.o-1).toNat+1)=false:=g_ (by rw[show(v.o-1).toNat=a by omega]; exact n);exact⟨iD (Eq.symm (by unfold dJ; rw[g,d]; rfl)),O⟩
 rw[U_]at g;refine zY (fun _ _=>IB v _ H) aF (by rw[g])<|aW aG<|aW aG<|aR<|aR<|aR<|aR<|aR<|aR<|aR<|aR<|aR<|aW aG<|Qn ?_;intro wb3 V;have P:=bf V t;refine sN<|aM<|ay<|av aF<|aC<|Wr<|sR<|aJ aF ?_;exact⟨iD (Eq.symm (by unfold dJ; rw[g]; rfl)),P⟩
set_option maxHeartbeats 400000 in
theorem JM(a:Option Addr)(len cap:Nat)(l:List Int)(w:World)(hlen:len<=100)(hl:Hid (l.length=len))(hr:RdI .i64 w a l) :
 Calls Tryz.prog 146 #[.slice a len cap] w fun e w'=>e = .returned (.tuple #[.int .i64 (nP l).1,.bool (nP l).2])/\w'=w:=by
 go_enter Tryz.func146,Tryz.ntmps146
 go_wp2
 go_loop [2,3,8] (fun v o i=>o = .bool false /\ ∃ k:Nat,k<=len/\i = .int .i64 k/\nu (l.take k)=true/\v = .int .i64 (l.take k).sum) (fun _ _ i=>len-(intOf i).toNat)
 case atStart=>exact⟨rfl,0,K_ _,rfl,rfl,rfl⟩
 case round =>
  obtain⟨rfl,k,hk,rfl,hok,rfl⟩:=hrel;by_cases hk2:k<len
  ·have hk3:k<l.length:=(by rw[hl.out]; exact hk2);obtain⟨b,off,rfl,hc⟩:=hr k hk3;have hb:=CB _ hok;have hle:(l.take k).length<=k:=List.length_take_le _ _;have HS:Hid _:=Hw l k hk3;have HO:Hid _:=Ep l k hk3;have HF:Hid (AO l[k]=false->nP l=(0,false)):=(by intro h; unfold nP; rw[b_ (by rw[Hy hk3 h]; decide)]);have Hok:Hid _:=hok;clear hr hok;generalize l[k]=x at *;generalize hs:(l.take k).sum=s at *;clear hs;by_cases h0:x<0
   ·have hn:AO x=false:=(by unfold AO; simp; omega);have HR:Hid _:=HF.out hn;clear HF hn HS HO
    go_wp2
    go_ret2
    rw[HR.out]; exact⟨rfl,rfl⟩
   ·by_cases h1:1125899906842624<x
    ·have hn:AO x=false:=(by unfold AO; simp; omega);have HR:Hid _:=HF.out hn;clear HF hn HS HO
     go_wp2
     go_ret2
     rw[HR.out]; exact⟨rfl,rfl⟩
    ·have hy:Hid (AO x=true):=(by unfold AO Hid; simp; omega);clear HF
     go_wp2
     go_round
     case rel=>exact⟨rfl,k+1,by omega,by go_num,by rw[HO.out,Hok.out,hy.out]; rfl,by rw[HS.out]⟩
     case measure=>simp[intOf]; omega
  ·have hT:Hid (l.take k=l):=List.take_of_length_le (by rw[hl.out]; omega);rw[hT.out]at hok ⊢;have HR:Hid (nP l=(l.sum,true)):=(by unfold nP Hid; rw[d_ hok]);clear hok;generalize l.sum=s at *
   go_wp2
   go_ret2
   rw[HR.out]; exact⟨rfl,rfl⟩
def Two(a w:World)(d f:Nat)(b:List Int)(e g:Nat)(c:List Int):Prop :=
 w.ownsRow a.heap.size 2 1 (.slice (some ⟨d,0,none⟩) b.length f) b.length (b.map (Value.int .i64)) /\
 w.ownsRow a.heap.size 2 1 (.slice (some ⟨e,0,none⟩) c.length g) c.length (c.map (Value.int .i64))/\d≠e/\Below a.heap.size a w
theorem Two.alloc{g w:World}{c a:Nat}{e:List Int}{d b:Nat}{f:List Int}(h:Two g w c a e d b f)(o:Obj):Two g (w.alloc o) c a e d b f :=
 ⟨World.ownsRow.alloc h.1 o,World.ownsRow.alloc h.2.1 o,h.2.2.1,h.2.2.2.alloc h.2.2.2.size o⟩
theorem Two.drew{g w:World}{c a:Nat}{e:List Int}{d b:Nat}{f:List Int}(h:Two g w c a e d b f):Two g w.drew c a e d b f :=
 ⟨h.1,h.2.1,h.2.2.1,h.2.2.2.drew⟩
theorem Two.swap{g w:World}{c a:Nat}{e:List Int}{d b:Nat}{f:List Int}(h:Two g w c a e d b f):Two g w d b f c a e:=⟨h.2.1,h.1,h.2.2.1.symm,h.2.2.2⟩
theorem YT:(Tryz.prog.info? 2).map (fun i=>(i.zero,i.size,i.bytes))=some (some (.int .i64 0),1,8):=by kernel_rfl
theorem LA{ops:Array Oper}{o:Oper}{a:Act}{q w:World}{K:Act->World->Prop}{Q:Exit->Act->World->Prop}{E:Prop}(C:o.guard=none)(s x:Operand)
 (I:o.op = .call { callee := .builtin .append,args := #[s,x],argTypes := #[178,178] }) (l r:Nat) (d:List Int) (m t:Nat) (y:List Int) (h:Two q w l r d m t y)
 (n:Nat) (G:d.length=n) (J:a.eval s = .slice (some ⟨l,0,none⟩) n r) (i:Nat) (v:Int) (hx:a.eval x = .slice (some ⟨i,0,none⟩) 1 1) (B:w.cell? ⟨i,0,none⟩=some (.int .i64 v)) (R:n<=100)
 (A : ∀ g f w',Two q w' g f (d ++ [v]) m t y->(∀ a u,w.cell? a=some u->a.block≠l->w'.cell? a=some u)->K (a.put o.dst (.slice (some ⟨g,0,none⟩) (n+1) f)) w') :
 if Region.wanted o (yielded ops a.tmps)=true then Oper.wp Tryz.prog o a w K Q else E:=by
 obtain⟨O,D,L,M,N⟩:=info_parts YT;subst G
 refine step_append_lies w C s x 178 I q.heap.size 2 O (.int .i64 0) 1 8 Tryz.underlying178 D L M N rfl (by decide) _ d.length (d.map (Value.int .i64)) J h.1 ⟨i,0,none⟩ 1 1 [.int .i64 v] hx rfl
  (by intro j u b; cases j with
   | zero=>simp at b; subst b; rw[addr_add]; exact B
   | succ j=>simp at b) (by intro u b; simp at b; subst b; rfl) (by decide) (by unfold maxLen; omega) (by omega) h.2.2.2.size w.heap.size rfl ?_
 intro g f w' z p c P;refine A g f w' ⟨?_,?_,?_,?_⟩ (fun a u b H=>p.cell b (by simp[Value.ownBlock]; exact H))
 ·rw[E_,List.map_append]; exact z
 ·exact World.ownsRow.kept h.2.1 p (.inr (by simp[Value.ownBlock]; exact fun e=>h.2.2.1 e.symm))
 ·have S:=World.ownsRow.lt h.2.1 m rfl
  rcases c with c|c
  ·simp[Value.ownBlock]at c; subst c; exact h.2.2.1
  omega
 exact h.2.2.2.grown p h.2.2.2.size (fun k F=>(World.ownsRow.lt h.1 k F).1)
theorem Two.rd1{j w:World}{a c:Nat}{b:List Int}{e d:Nat}{g:List Int}(h:Two j w a c b e d g):RdI .i64 w (some ⟨a,0,none⟩) b:=by
 intro i f;refine⟨a,0,rfl,?_⟩;rw[G_,World.ownsRow.cellAt h.1 i (by omega)];simp[f]
theorem Two.start(w:World)(v a b:Int):Two w ((w.alloc (.cells #[.int .i64 v] 2)).alloc (.cells #[.int .i64 a,.int .i64 b] 2)) w.heap.size 1 [v] (w.heap.size+1) 2 [a,b]:=by
 refine⟨World.ownsRow.alloc (World.ownsRow_lit w #[.int .i64 v] 1 (A_ _) (by unfold maxLen; omega) rfl) _,?_,by omega,((Below.refl _ _).alloc (A_ _) _).alloc (by simp) _⟩;have:=World.ownsRow_lit (base:=w.heap.size) (e:=2) (size:=1) (w.alloc (.cells #[.int .i64 v] 2)) #[.int .i64 a,.int .i64 b] 2 (by simp) (by unfold maxLen; omega) rfl
 simpa using this
theorem Two.adG(w:World)(v a b:Int):Two w ((w.alloc (.cells #[.int .i64 a,.int .i64 b] 2)).alloc (.cells #[.int .i64 v] 2)) (w.heap.size+1) 1 [v] w.heap.size 2 [a,b]:=by
 refine⟨?_,World.ownsRow.alloc (World.ownsRow_lit w #[.int .i64 a,.int .i64 b] 2 (A_ _) (by unfold maxLen; omega) rfl) _,by omega,((Below.refl _ _).alloc (A_ _) _).alloc (by simp) _⟩;have:=World.ownsRow_lit (base:=w.heap.size) (e:=2) (size:=1) (w.alloc (.cells #[.int .i64 a,.int .i64 b] 2)) #[.int .i64 v] 1 (by simp) (by unfold maxLen; omega) rfl
 simpa using this
theorem Two.at{c w:World}{g d:Nat}{k:List Int}{j e:Nat}{l:List Int}(h:Two c w g d k j e l){b:Nat}{x:Nat->Int}{T:TypeId}{f:Nat × Nat}(a:c.heap[b]? = some (.cells (bU .i64 54 x) T f))(i:Nat)(hi:i<54) :
 w.cell? ⟨b,i,none⟩=some (.int .i64 (x i)) :=
 gX ((h.2.2.2.block b (t_.1 a).1).trans a) i hi
theorem Two.lt{a w:World}{e c:Nat}{i:List Int}{f d:Nat}{j:List Int}(h:Two a w e c i f d j){b:Nat}(g:b<a.heap.size):b<w.heap.size:=n_ g h.2.2.2.size
theorem FM(x:Nat->Int)(k:Nat) : ∀ j,(outs x k j).length=j+1
 | 0=>rfl
 | j+1=>by rw[outs,E_,FM x k j]; rfl
theorem JN(x:Nat->Int)(k:Nat) : ∀ j,(ins x k j).length=j+2
 | 0=>rfl
 | j+1=>by rw[ins,E_,JN x k j]; rfl
def ahW(w:World)(x:Nat->Int)(k j:Nat)(e f:Value)(g:World):Prop :=
 ∃ c a d b,e = .slice (some ⟨c,0,none⟩) (j+1) a/\f = .slice (some ⟨d,0,none⟩) (j+2) b/\Two w g c a (outs x k j) d b (ins x k j)
set_option maxHeartbeats 4000000 in
theorem IC(b:Nat)(T:TypeId)(fz:Nat × Nat)(x:Nat->Int)(k:Nat)(w:World)(hk:k<6)(hb:Hid (w.heap[b]? = some (.cells (bU .i64 54 x) T fz))) :
 Calls Tryz.prog 96 #[.pointer (some ⟨b,0,none⟩),.int .i64 k] w fun e w'=>e = .returned (.tuple #[.int .i64 (localM x k).1,.bool (localM x k).2])/\Below w.heap.size w w':=by
 have hlt:b<w.heap.size:=(t_.1 hb.out).1;have hki:(k:Int)<6:=by omega
 go_enter Tryz.func96,Tryz.ntmps96
 go_upto_region 1 with (fail)
 go_cut [6,7] (fun s6 s7 wx=>ahW w x k 0 s6 s7 wx)
 case first =>
  have c1:=gX hb.out (6+k) (by omega);have c2:=gX hb.out k (by omega);have c3:=gX hb.out (12+k) (by omega)
  go_wp2
  go_region
  all_goals go_wp2
  all_goals go_meet
  case rel=>exact⟨_,_,_,_,rfl,rfl,(Two.start w (x (6+k)) (x k) (x (12+k))).drew⟩
  case rel=>exact⟨_,_,_,_,rfl,rfl,(Two.adG w (x (6+k)) (x k) (x (12+k))).drew⟩
 case rest =>
  clear hlt
  go_wp2
  go_loopw [6,7,33] (fun s6 s7 i wx => ∃ j:Nat,j<=6/\i = .int .i64 j/\ahW w x k j s6 s7 wx) (fun _ _ i _=>6-(intOf i).toNat)
  case atStart=>exact⟨0,K_ _,rfl,hcut⟩
  case round =>
   obtain⟨j,hj,rfl,g1,c1,g2,c2,rfl,rfl,hT⟩:=hrel;by_cases hj2:j<6
   ·have hji:(j:Int)<6:=(by omega);have hlt:b<w.heap.size:=(t_.1 hb.out).1;have hrow:wr.heap[b]? = some (.cells (bU .i64 54 x) T fz):=(hT.2.2.2.block b hlt).trans hb.out;have e1:=gX hrow (18+k*6+j) (by omega);have e2:=gX hrow (18+j*6+k) (by omega);have hlt2:b<wr.heap.size:=(t_.1 hrow).1;have U4:Hid _:=hrow;have hg1:g1<wr.heap.size:=(World.ownsRow.lt hT.1 g1 rfl).2;have hg2:g2<wr.heap.size:=(World.ownsRow.lt hT.2.1 g2 rfl).2;clear hrow;have HO:Hid ((outs x k j).length=j+1):=FM x k j;have HI:Hid ((ins x k j).length=j+2):=JN x k j
    go_wp2
    go_region_law (first
     | (refine LA (o:=⟨some 46,_,_,_,_,_⟩) (by rfl) (.tmp 36) (.tmp 45) (by rfl) g1 c1 (outs x k j) _ _ _ (by first|assumption|exact Two.alloc (by assumption) _|exact Two.alloc (Two.alloc (by assumption) _) _|exact hT.drew.alloc _|exact(hT.drew.alloc _).alloc _) (j+1) HO.out (by rfl) _ (x (18+k*6+j)) (by rfl) (by first|(go_simp; done)|exact hkp _ _ (by go_simp; done) (by simp; omega)) (by omega) ?_; intro g cp w1 hT1 hkp; have e1':=hT1.at hb.out (18+k*6+j) (by omega); have e2':=hT1.at hb.out (18+j*6+k) (by omega); have hlt':=hT1.lt hlt)
     | (refine LA (o:=⟨some 57,_,_,_,_,_⟩) (by rfl) (.tmp 47) (.tmp 56) (by rfl) g2 c2 (ins x k j) _ _ _ (by first|exact Two.swap (by assumption)|exact(Two.alloc (by assumption) _).swap|exact(Two.alloc (Two.alloc (by assumption) _) _).swap|exact(hT.drew.alloc _).swap|exact((hT.drew.alloc _).alloc _).swap) (j+2) HI.out (by rfl) _ (x (18+j*6+k)) (by rfl) (by first|(go_simp; done)|exact hkp _ _ (by go_simp; done) (by simp; omega)) (by omega) ?_; intro g cp w1 hT1 hkp; have e1':=hT1.at hb.out (18+k*6+j) (by omega); have e2':=hT1.at hb.out (18+j*6+k) (by omega); have hlt':=hT1.lt hlt))
    all_goals go_wp2
    all_goals go_roundw
    all_goals first
     | (simp[intOf]; omega)
     | exact⟨j+1,by omega,by go_num,_,_,_,_,rfl,rfl,hT1.swap⟩
   ·obtain rfl:j=6:=(by omega);have r1:=hT.rd1;have r2:=hT.swap.rd1;have hbel:=hT.2.2.2;have HO:Hid ((outs x k 6).length=7):=FM x k 6;have HI:Hid ((ins x k 6).length=8):=JN x k 6;have b1:=xq (outs x k 6);have b2:=xq (ins x k 6);rw[HO.out]at b1;rw[HI.out]at b2;have HL:Hid (localM x k=((nP (ins x k 6)).1-(nP (outs x k 6)).1,(nP (outs x k 6)).2&&(nP (ins x k 6)).2)):=rfl;generalize outs x k 6=lo at *;generalize ins x k 6=li at *;clear hT
    go_wp2_with fail
    refine(JM _ 7 c1 lo _ (by omega) HO r1).mono ?_;rintro e w1 ⟨rfl,rfl⟩
    go_wp2_with fail
    refine(JM _ 8 c2 li _ (by omega) HI r2).mono ?_;rintro e w2 ⟨rfl,rfl⟩;generalize (nP li).1=n2 at *;generalize (nP lo).1=n1 at *;generalize (nP li).2=o2 at *;generalize (nP lo).2=o1 at *
    cases o1
    all_goals
     go_wp2_with fail
     go_ret2
     rw[HL.out]; exact⟨rfl,hbel⟩
namespace Rt
def CO(x:Nat->Int)(k:Nat):Bool:=(localM x k).2&&decide (0<=(localM x k).1)&&decide (F x k<=C x k)&&(R x k k==0)
def Er(x:Nat->Int):Nat->Bool
 | 0=>true
 | k+1=>Er x k&&CO x k
def gs(x:Nat->Int):List Int := [x 0,x 1,x 2,x 3,x 4,x 5]
def may(x:Nat->Int):Bool:=Er x 6&&((nP (gs x)).2&&decide ((nP (gs x)).1<=1125899906842624))
theorem FN(x:Nat->Int)(k:Nat)(h:CO x k=false) : ∀ n,k<n->Er x n=false
 | 0,hn=>M_ hn (by omega)
 | n+1,hn=>by
   rw[Er];by_cases e:k=n
   ·subst e; rw[h,I_]
   ·rw[FN x k h n (by omega),Bool.false_and]
theorem Ru(x:Nat->Int)(k:Nat)(a:k<6)(h:CO x k=false):may x=false:=by
 unfold may; rw[FN x k h 6 a,Bool.false_and]
end Rt
theorem ahX{w:World}{g:Nat}{x:Nat->Int}{t:TypeId}{a:Nat × Nat}(h:w.heap[g]? = some (.cells (bU .i64 54 x) t a)):RdI .i64 w (some ⟨g,0,none⟩) (gs x):=by
 intro i b;have c:i<6:=b;refine⟨g,0,rfl,?_⟩;rw[G_,gX h i (by omega)]
 rcases(show i=0\/i=1\/i=2\/i=3\/i=4\/i=5 by omega)with rfl|rfl|rfl|rfl|rfl|rfl <;> rfl
set_option maxHeartbeats 1000000 in
theorem PU(x:Nat->Int)(w:World) :
 Calls Tryz.prog 95 #[.agg (bU .i64 54 x)] w fun e w'=>e = .returned (.bool (may x))/\Below w.heap.size w w':=by
 go_enter Tryz.func95,Tryz.ntmps95
 go_wp2
 go_loopw [2,3,8] (fun r _ i wr=>r = .bool false /\ ∃ k:Nat,k<=6/\i = .int .i64 k/\Er x k=true/\wr.heap[w.heap.size]? = some (.cells (bU .i64 54 x) 82 (0,0))/\Below w.heap.size w wr) (fun _ _ i _=>6-(intOf i).toNat)
 case atStart=>exact⟨rfl,0,K_ _,rfl,rfl,heap_alloc_new w _,(Below.refl _ _).alloc (A_ _) _⟩
 case round =>
  obtain⟨rfl,k,hk,rfl,hN,hrow,hbel⟩:=hrel;have hlt:w.heap.size<wr.heap.size:=(t_.1 hrow).1;have U4:Hid _:=hrow;have HN:Hid _:=hN;clear hrow hN;by_cases hk2:k<6
  ·have hki:(k:Int)<6:=(by omega);have HM:Hid (Er x (k+1)=(Er x k&&CO x k)):=rfl;have HF:Hid (CO x k=false->may x=false):=fun h=>Ru x k hk2 h;have HK:Hid (CO x k=((localM x k).2&&decide (0<=(localM x k).1)&&decide (F x k<=C x k)&&(R x k k==0))):=rfl
   go_wp2_with fail
   refine(IC w.heap.size _ _ x k wr hk2 U4).mono ?_;rintro e w1 ⟨rfl,hb1⟩;have LB:=(hb1.block _ hlt).trans U4.out;have LC:=hbel.trans (hb1.mono (Nat.le_of_lt hlt));have c1:=gX LB (12+k) (by omega);have c2:=gX LB (6+k) (by omega);have c3:=gX LB (18+k*6+k) (by omega);have ahY:Hid _:=LB;clear LB U4 hbel hb1;generalize (localM x k).1=n at *;generalize hF:F x k=f at *;generalize hC:C x k=c at *;generalize hR:R x k k=r at *;unfold F at hF; unfold C at hC; unfold R at hR;rw[hF]at c1; rw[hC]at c2; rw[hR]at c3;clear hF hC hR
   cases his:(localM x k).2
   ·rw[his]at HK;clear his;have HR:Hid _:=HF.out (by rw[HK.out]; rfl);clear HK HF HM
    go_wp2_with fail
    go_quiet (fail)
    go_wp2
    go_ret
    rw[HR.out]; exact⟨rfl,bN LC _⟩
   ·rw[his]at HK;clear his;by_cases h1:n<0
    ·have d1:decide (n<0)=true:=(by simpa using h1);have d1':decide (0<=n)=false:=(by simp; omega);have HR:Hid _:=HF.out (by rw[HK.out]; rw[d1']; rfl);clear HK HF HM
     go_wp2_with fail
     go_quiet (fail)
     go_wp2
     go_ret
     rw[HR.out]; exact⟨rfl,bN LC _⟩
    ·have d1:decide (n<0)=false:=(by simp; omega);have d1':Hid (decide (0<=n)=true):=(by unfold Hid; simp; omega);by_cases h2:c<f
     ·have d2:decide (c<f)=true:=(by simpa using h2);have d2':decide (f<=c)=false:=(by simp; omega);have HR:Hid _:=HF.out (by rw[HK.out]; rw[d2',I_,Bool.false_and]);clear HK HF HM
      go_wp2_with fail
      go_quiet (fail)
      go_wp2
      go_ret
      rw[HR.out]; exact⟨rfl,bN LC _⟩
     ·have d2:decide (c<f)=false:=(by simp; omega);have d2':Hid (decide (f<=c)=true):=(by unfold Hid; simp; omega);by_cases h3:r=0
      ·subst h3
       go_wp2_with fail
       go_quiet (fail)
       go_wp2
       go_roundw
       case rel=>exact⟨rfl,k+1,by omega,by go_num,by rw[HM.out,HN.out,HK.out,d1'.out,d2'.out]; rfl,ahY.out,bN LC _⟩
       case measure=>simp[intOf]; omega
      ·have d3:(r != 0)=true:=(by simpa using h3);have d3':(r==0)=false:=(by simpa using h3);have HR:Hid _:=HF.out (by rw[HK.out]; rw[d3',I_]);clear HK HF HM
       go_wp2_with fail
       go_quiet (fail)
       go_wp2
       go_ret
       rw[HR.out]; exact⟨rfl,bN LC _⟩
  ·obtain rfl:k=6:=(by omega);have HV:Hid (may x=((nP (gs x)).2&&decide ((nP (gs x)).1<=1125899906842624))):=(by unfold Hid may; rw[HN.out,Bool.true_and]);have hg:RdI .i64 wr (some ⟨w.heap.size,0,none⟩) (gs x):=ahX U4.out;have HL:Hid ((gs x).length=6):=rfl;generalize gs x=l at *;clear HN
   go_wp2_with fail
   refine(JM _ 6 _ l _ (by omega) HL hg).mono ?_;rintro e w1 ⟨rfl,rfl⟩;generalize (nP l).1=n at *
   cases h:(nP l).2
   ·rw[h]at HV;clear h
    go_wp2_with fail
    go_ret
    rw[HV.out]; exact⟨rfl,hbel⟩
   ·rw[h]at HV;clear h
    go_wp2_with fail
    go_ret
    rw[HV.out]; exact⟨rfl,hbel⟩
namespace Rt
def gG(i:Int):Bool:=decide (1<=i)&&decide (i<=6)
def bT(x:Nat->Int)(i:Int):Int:=if gG i&&may x then(localM x (i.toNat-1)).1 else 0
theorem AX{n:Int}(h:AO n=true):0<=n/\n<=1125899906842624:=by unfold AO at h; simpa using h
theorem PV{l:List Int}(h:(nP l).2=true):nu l=true:=by
 unfold nP at h;by_cases a:nu l=true
 ·exact a
 rw[b_ a]at h; exact M_ h (by decide)
theorem zJ{l:List Int}(h:nu l=true){n:Int}(a:n∈l):0<=n/\n<=1125899906842624:=by
 unfold nu at h;rw[List.all_eq_true]at h;exact AX (h n a)
theorem LD(x:Nat->Int)(k:Nat) : ∀ j,C x k∈outs x k j
 | 0=>by simp[outs]
 | j+1=>by rw[outs]; exact List.mem_append_left _ (LD x k j)
theorem IE(x:Nat->Int)(k i:Nat) : ∀ j,i<j->R x k i∈outs x k j
 | 0,h=>M_ h (by omega)
 | j+1,h=>by
   rw[outs];by_cases e:i=j
   ·subst e; simp
   ·exact List.mem_append_left _ (IE x k i j (by omega))
theorem EO(x:Nat->Int)(k:Nat) : ∀ j,G x k∈ins x k j/\F x k∈ins x k j
 | 0=>by simp[ins]
 | j+1=>by rw[ins]; exact⟨List.mem_append_left _ (EO x k j).1,List.mem_append_left _ (EO x k j).2⟩
theorem PW(x:Nat->Int)(k:Nat) : ∀ n,Er x n=true->k<n->CO x k=true
 | 0,_,hk=>M_ hk (by omega)
 | n+1,h,hk=>by
   rw[Er,T_]at h;by_cases e:k=n
   ·subst e; exact h.2
   ·exact PW x k n h.1 (by omega)
theorem U5{x:Nat->Int}(h:may x=true)(k:Nat)(a:k<6):CO x k=true:=by
 unfold may at h; rw[T_]at h; exact PW x k 6 h.1 a
structure En(x:Nat->Int)(k:Nat):Prop where
 g:0<=G x k/\G x k<=1125899906842624
 c:0<=C x k/\C x k<=1125899906842624
 f:0<=F x k/\F x k<=1125899906842624
 fc:F x k<=C x k
 r : ∀ i,i<6->0<=R x k i/\R x k i<=1125899906842624
 l:0<=(localM x k).1
 rkk:R x k k=0
 l2:(localM x k).2=true
theorem YU{x:Nat->Int}{k:Nat}(h:CO x k=true):En x k:=by
 unfold CO at h;rw[T_,T_,T_]at h;obtain⟨⟨⟨a,e⟩,h3⟩,h4⟩:=h;have d:=a;unfold localM at a;rw[T_]at a;have c:=PV a.1;have b:=PV a.2;exact⟨zJ b (EO x k 6).1,zJ c (LD x k 6),zJ b (EO x k 6).2,by simpa using h3,fun i f=>zJ c (IE x k i 6 f),by simpa using e,by simpa using h4,d⟩
theorem xG{x:Nat->Int}(h:may x=true)(k:Nat)(a:k<6):En x k:=YU (U5 h k a)
theorem Rv(x:Nat->Int)(k:Nat) : -(1125899906842624*8)<=(localM x k).1/\(localM x k).1<=1125899906842624*8:=by
 have a:=xq (ins x k 6);have b:=xq (outs x k 6);rw[TV]at a;rw[Ri]at b;unfold localM;simp only;omega
end Rt
set_option maxHeartbeats 400000 in
theorem tZ(i:Int)(w:World)(hi : -9223372036854775808<=i/\i<=9223372036854775807) :
 Calls Tryz.prog 94 #[.int .i64 i] w fun e w'=>e = .returned (.bool (gG i))/\w'=w:=by
 unfold gG;by_cases h1:i<1
 ·have d1:decide (1<=i)=false:=by simp; omega
  have D1:Hid _:=d1
  go_enter Tryz.func94,Tryz.ntmps94
  go_wp2
  go_ret
  first|exact⟨rfl,rfl⟩|(rw[D1.out]; exact⟨rfl,rfl⟩)
 have d1:decide (1<=i)=true:=by simp; omega
 have D1:Hid _:=d1
 go_enter Tryz.func94,Tryz.ntmps94
 go_wp2
 go_ret
 first|exact⟨rfl,rfl⟩|(rw[D1.out]; exact⟨rfl,rfl⟩)
theorem oo:(Tryz.prog.info? 82).map (·.size)=some 54:=by kernel_rfl
theorem IG(x:Nat->Int)(i:Int)(h:(gG i&&may x)=false):bT x i=0:=by unfold bT; rw[b_ (by rw[h]; decide)]
set_option maxRecDepth 100000 in
set_option maxHeartbeats 400000 in
theorem uf(x:Nat->Int)(i:Int)(w:World)(hi : -9223372036854775808<=i/\i<=9223372036854775807) :
 Calls Tryz.prog 60 #[.agg (bU .i64 54 x),.int .i64 i] w fun e w'=>e = .returned (.int .i64 (bT x i))/\Below w.heap.size w w':=by
 have HV:Hid (bT x i=if gG i&&may x then(localM x (i.toNat-1)).1 else 0):=rfl;have hrow:Hid ((w.alloc (.cells (bU .i64 54 x) 82)).heap[w.heap.size]? = some (.cells (bU .i64 54 x) 82 (0,0))):=heap_alloc_new w _;have HR:Hid (gG i=true<->1<=i/\i<=6):=by unfold Hid gG; simp
 have U6:Hid (∀ w',Calls Tryz.prog 94 #[.int .i64 i] w' fun e w''=>e = .returned (.bool (gG i))/\w''=w'):=fun w'=>tZ i w' hi;have hmay:Hid (∀ w',Calls Tryz.prog 95 #[.agg (bU .i64 54 x)] w' fun e w''=>e = .returned (.bool (may x))/\Below w'.heap.size w' w''):=fun w'=>PU x w';generalize gG i=r at *
 cases r
 ·go_enter Tryz.func60,Tryz.ntmps60
  go_wp2_with (go_at_call 94; refine(U6.out _).mono ?_; rintro e w' ⟨rfl,rfl⟩)
  go_ret
  rw[HV.out]; exact⟨rfl,(Below.refl _ _).alloc (A_ _) _⟩
 have hb:1<=i/\i<=6:=HR.out.1 rfl;obtain⟨k,hk⟩:=Int.eq_ofNat_of_zero_le (show 0<=i-1 by omega);have Hk:Hid (i-1=(k:Int)):=hk;have hk6:k<6:=by omega
 have hkt:Hid (i.toNat-1=k):=by unfold Hid; omega
 clear hk;generalize may x=m at *
 cases m
 ·go_enter Tryz.func60,Tryz.ntmps60
  go_wp2_with (first
   | (go_at_call 94; refine(U6.out _).mono ?_; rintro e w' ⟨rfl,rfl⟩)
   | (refine Ah (by rfl) (wp_load_row (o:=⟨some 11,_,_,_,_,_⟩) 82 (.tmp 2) (by rfl) w.heap.size (by rfl) 82 (bU .i64 54 x) (0,0) _ hrow.out Tryz.underlying82 (by rfl) (by rw[bQ]; exact oo) ?_))
   | (go_at_call 95; refine(hmay.out _).mono ?_; rintro e w1 ⟨rfl,hb1⟩))
  go_ret
  rw[HV.out]; exact⟨rfl,bal hb1⟩
 go_enter Tryz.func60,Tryz.ntmps60
 go_wp2_with (first
  | (go_at_call 94; refine(U6.out _).mono ?_; rintro e w' ⟨rfl,rfl⟩)
  | (refine Ah (by rfl) (wp_load_row (o:=⟨some 11,_,_,_,_,_⟩) 82 (.tmp 2) (by rfl) w.heap.size (by rfl) 82 (bU .i64 54 x) (0,0) _ hrow.out Tryz.underlying82 (by rfl) (by rw[bQ]; exact oo) ?_))
  | (go_at_call 95; refine(hmay.out _).mono ?_; rintro e w1 ⟨rfl,hb1⟩)
  | (go_at_call 96; rw[Hk.out]; refine(IC w.heap.size 82 (0,0) x k w1 hk6 ((hb1.block _ (by simp)).trans hrow.out)).mono ?_; rintro e w2 ⟨rfl,hb2⟩))
 go_ret
 rw[HV.out,hkt.out]; exact⟨rfl,Nn (bal hb1) hb2⟩
namespace Rt
def zero:Nat->Int:=fun _=>0
def dh(x:Nat->Int)(n:Int)(is:Bool)(a:Int)(off:Nat):(Nat->Int) × Int :=
 if may x&&decide (1<=n)&&decide (n<=1125899906842624)then
  if is then
   if a=0 then
    if x off+n<=1125899906842624 then(upd x off (x off+n),0)else(zero,6)
   else(zero,a)
  else(zero,10)
 else(zero,1)
end Rt
theorem EP(T:TypeId)(a:Nat × Nat):Obj.cells (bU .i64 54 zero) T a = .cells #[.int .i64 0,.int .i64 0,.int .i64 0,.int .i64 0,.int .i64 0,.int .i64 0,.int .i64 0,.int .i64 0,.int .i64 0,.int .i64 0,.int .i64 0,.int .i64 0,.int .i64 0,.int .i64 0,.int .i64 0,.int .i64 0,.int .i64 0,.int .i64 0,.int .i64 0,.int .i64 0,.int .i64 0,.int .i64 0,.int .i64 0,.int .i64 0,.int .i64 0,.int .i64 0,.int .i64 0,.int .i64 0,.int .i64 0,.int .i64 0,.int .i64 0,.int .i64 0,.int .i64 0,.int .i64 0,.int .i64 0,.int .i64 0,.int .i64 0,.int .i64 0,.int .i64 0,.int .i64 0,.int .i64 0,.int .i64 0,.int .i64 0,.int .i64 0,.int .i64 0,.int .i64 0,.int .i64 0,.int .i64 0,.int .i64 0,.int .i64 0,.int .i64 0,.int .i64 0,.int .i64 0,.int .i64 0] T a:=by rfl
theorem results_cell_tmp{P:Program}{b:Func}{p q:Tmp}{ty:TypeId}(h:b.results = #[.cell p ty,.tmp q])(a:Array Value)(w:World)(g:Nat)(t:TypeId)(cs:Array Value)(c:Nat × Nat)(d:TypeDesc)
 (i:a.getD p undef = .pointer (some ⟨g,0,none⟩)) (f:w.heap[g]? = some (.cells cs t c))
 (k:P.underlying ty=some d) (e:(match d with | .struct _ | .array _ _=>true|_=>false)=true) (hi:(P.info? ty).map (·.size)=some cs.size) :
 (results b a).run P w = .ok (.tuple #[.agg cs,a.getD q undef]) w:=by
 have j:a[p]?.getD undef = .pointer (some ⟨g,0,none⟩):=by simpa using i
 simp[results,h,j,asAddr,run_loadVar_row w g t ty cs c d f k e hi]
def FP(x:Nat->Int)(n:Int)(is:Bool)(a:Int)(off:Nat)(w:World)(e:Ending)(w':World):Prop :=
 e = .returned (.tuple #[.agg (bU .i64 54 (dh x n is a off).1),.int .i64 (dh x n is a off).2])/\Below w.heap.size w w'
theorem ko{w a:World}{B g:Nat}{e:Array Value}(c:Below B w a)(b:B<=g)(d:a.heap[g]? = some (.cells e 82 (0,0)))(y:Nat->Int) :
 (a.setRow g (bU .i64 54 y)).heap[g]? = some (.cells (bU .i64 54 y) 82 (0,0))/\Below B w (a.setRow g (bU .i64 54 y)) :=
 ⟨setRow_heap _ _ _ _ _ _ d,amv c b⟩
theorem xH{x:Nat->Int}{n:Int}{is:Bool}{c:Int}{off:Nat}{w b:World}{a:Act}{g:Nat}{y:Nat->Int}{k:Int}(d:dh x n is c off=(y,k))(f:a.defers = [])
 (i:a.tmps.getD 10 undef = .pointer (some ⟨g,0,none⟩)) (j:a.tmps.getD 11 undef = .int .i64 k) (h:b.heap[g]? = some (.cells (bU .i64 54 y) 82 (0,0))) (e:Below w.heap.size w b) :
 bodyPost Tryz.prog Tryz.f233 (FP x n is c off w) .ret a b:=by
 refine bodyPost_ret (v := .tuple #[.agg (bU .i64 54 y),.int .i64 k]) ?_ f ⟨?_,e⟩
 ·rw[results_cell_tmp rfl a.tmps b g 82 _ (0,0) _ i h Tryz.underlying82 rfl (by rw[bQ]; exact oo),j]
 rw[d]
theorem U7(x:Nat->Int)(n:Int)(is:Bool)(a:Int)(off:Nat)(v:Int)(f:x off=v) :
 (may x=false/\Hid (dh x n is a off=(zero,1)))\/(may x=true/\n<1/\Hid (dh x n is a off=(zero,1)))\/(may x=true/\1125899906842624<n/\Hid (dh x n is a off=(zero,1))) \/
 (may x=true/\1<=n/\n<=1125899906842624/\is=false/\Hid (dh x n is a off=(zero,10)))\/(may x=true/\1<=n/\n<=1125899906842624/\is=true/\(a != 0)=true/\Hid (dh x n is a off=(zero,a))) \/
 (may x=true/\1<=n/\n<=1125899906842624/\is=true/\a=0/\1125899906842624<v+n/\Hid (dh x n is a off=(zero,6)))\/(may x=true/\1<=n/\n<=1125899906842624/\is=true/\a=0/\v+n<=1125899906842624/\Hid (dh x n is a off=(upd x off (v+n),0))):=by
 unfold Hid dh; rw[f]
 cases may x
 ·exact .inl ⟨rfl,rfl⟩
 by_cases b:n<1
 ·exact .inr (.inl ⟨rfl,b,by rw[g_ (show ¬ 1<=n by omega)]; rfl⟩)
 by_cases c:1125899906842624<n
 ·exact .inr (.inr (.inl ⟨rfl,c,by rw[g_ (show ¬ n<=1125899906842624 by omega),I_]; rfl⟩))
 rw[f_ (show 1<=n by omega),f_ (show n<=1125899906842624 by omega)];have b:1<=n:=by omega
 have c:n<=1125899906842624:=by omega
 cases is
 ·exact .inr (.inr (.inr (.inl ⟨rfl,b,c,rfl,rfl⟩)))
 by_cases d:a=0
 ·subst d;by_cases e:v+n<=1125899906842624
  ·exact .inr (.inr (.inr (.inr (.inr (.inr ⟨rfl,b,c,rfl,rfl,e,by rw[d_ e]; rfl⟩)))))
  exact .inr (.inr (.inr (.inr (.inr (.inl ⟨rfl,b,c,rfl,rfl,by omega,by rw[b_ e]; rfl⟩)))))
 exact .inr (.inr (.inr (.inr (.inl ⟨rfl,b,c,rfl,by simpa using d,by rw[b_ d]; rfl⟩))))
set_option maxRecDepth 100000 in
set_option maxHeartbeats 14000000 in
theorem xI(x:Nat->Int)(n:Int)(is:Bool)(fm fn:FuncId)(cm cn:Array Value)(em:Int)(off:Nat)(w:World)(hoff:is=true->off<54)(hx:is=true->may x=true->0<=x off/\x off<=1125899906842624)
 (hcm : ∀(args:Array Value) (w:World),(callFunc fm args).run Tryz.prog w = .ok (.enter fm args) w)
 (hcn : ∀(args:Array Value) (w:World),(callFunc fn args).run Tryz.prog w = .ok (.enter fn args) w)
 (hm:may x=true->1<=n->n<=1125899906842624->is=true -> ∀ w',Below w.heap.size w w'->Calls Tryz.prog fm cm w' fun e w''=>e = .returned (.int .i64 em)/\Below w'.heap.size w' w'')
 (hn:is=true -> ∀ w' g,Below w.heap.size w w'->Calls Tryz.prog fn (#[.pointer (some ⟨g,0,none⟩)]++cn) w' fun e w''=>e = .returned (.pointer (some ⟨g,off,none⟩))/\Below w'.heap.size w' w'') :
 Calls Tryz.prog 233 #[.agg (bU .i64 54 x),.int .i64 n,.bool is,.func (.func fm) #[] cm,.func (.func fn) #[] cn] w (FP x n is em off w):=by
 have hmay:Hid (∀ w',Calls Tryz.prog 95 #[.agg (bU .i64 54 x)] w' fun e w''=>e = .returned (.bool (may x))/\Below w'.heap.size w' w''):=fun w'=>PU x w';obtain⟨v,hv⟩ : ∃ v,x off=v:=⟨_,rfl⟩;rw[hv]at hx
 rcases U7 x n is em off v hv with ⟨h,hT⟩|⟨h,h1,hT⟩|⟨h,h1,hT⟩|⟨h,h1,h2,rfl,hT⟩|⟨h,h1,h2,rfl,h3,hT⟩|⟨h,h1,h2,rfl,rfl,h3,hT⟩|⟨h,h1,h2,rfl,rfl,h3,hT⟩
 all_goals
  try replace hm:Hid _:=hm h h1 h2 rfl
  try replace hn:Hid _:=hn rfl
  try replace hoff:=hoff rfl
  try replace hx:=hx rfl h
  go_enter Tryz.func233,Tryz.ntmps233
  go_upto_region 1 with (fail)
  rw[<- EP];have hx0:Hid (((w.alloc (.cells (bU .i64 54 x) 82)).alloc (.cells (bU .i64 54 zero) 82)).heap[w.heap.size]? = some (.cells (bU .i64 54 x) 82 (0,0))):=heap_alloc2_old w _ _;have hz0:Hid (((w.alloc (.cells (bU .i64 54 x) 82)).alloc (.cells (bU .i64 54 zero) 82)).heap[w.heap.size+1]? = some (.cells (bU .i64 54 zero) 82 (0,0))):=heap_alloc2_new w _ _;have hb0:Below w.heap.size w ((w.alloc (.cells (bU .i64 54 x) 82)).alloc (.cells (bU .i64 54 zero) 82)):=((Below.refl _ _).alloc (A_ _) _).alloc (by simp) _;have hs0:w.heap.size+1<((w.alloc (.cells (bU .i64 54 x) 82)).alloc (.cells (bU .i64 54 zero) 82)).heap.size:=by simp
  generalize (w.alloc (.cells (bU .i64 54 x) 82)).alloc (.cells (bU .i64 54 zero) 82)=W at *;rw[h]at hmay
  go_wp2_with (first
   | (refine wpList_load_row (o:=⟨some 15,_,_,_,_,_⟩) (by rfl) 82 (.tmp 5) (by rfl) w.heap.size (by rfl) 82 (bU .i64 54 x) (0,0) _ hx0.out Tryz.underlying82 (by rfl) (by rw[bQ]; exact oo) ?_)
   | (go_at_call 95; refine(hmay.out _).mono ?_; rintro e w1 ⟨rfl,hb1⟩; have hz1:Hid _:=(hb1.block (w.heap.size+1) hs0).trans hz0.out; have hx1:Hid _:=(hb1.block w.heap.size (by omega)).trans hx0.out; have hB1:=hb0.trans (hb1.mono hb0.size); have hs1:=n_ hs0 hb1.size)
   | (refine(hm.out _ hB1).mono ?_; rintro e w2 ⟨rfl,hb2⟩; have hz2:Hid _:=(hb2.block (w.heap.size+1) hs1).trans hz1.out; have hx2:Hid _:=(hb2.block w.heap.size (by omega)).trans hx1.out; have hB2:=hB1.trans (hb2.mono hB1.size); have hs2:=n_ hs1 hb2.size)
   | (refine(hn.out _ _ hB2).mono ?_; rintro e w3 ⟨rfl,hb3⟩; have hz3:Hid _:=(hb3.block (w.heap.size+1) hs2).trans hz2.out; have hx3:=(hb3.block w.heap.size (by omega)).trans hx2.out; have hB3:=hB2.trans (hb3.mono hB2.size); have hs3:=n_ hs2 hb3.size; have hc3:=gX hx3 off hoff; have hf3:=frozen_of_row w3 w.heap.size off _ _ hx3; have hz4:Hid ((w3.setCell ⟨w.heap.size,off,none⟩ (.int .i64 (v+n))).heap[w.heap.size+1]? = some (.cells (bU .i64 54 zero) 82 (0,0))):=(heap_setCell_other _ _ _ _ (by simp)).trans hz3.out; have hx4:Hid ((w3.setCell ⟨w.heap.size,off,none⟩ (.int .i64 (v+n))).heap[w.heap.size]? = some (.cells (bU .i64 54 (upd x off (v+n))) 82 (0,0))):=by { unfold Hid; rw[heap_setCell_same _ _ _ _ _ _ hx3,KR] }; have hB4:Below w.heap.size w (w3.setCell ⟨w.heap.size,off,none⟩ (.int .i64 (v+n))):=hB3.setCell (A_ _) _; clear hx3; rw[hv]at hc3)
   | (refine wpList_load_row (o:=⟨some 46,_,_,_,_,_⟩) (by rfl) 82 (.tmp 5) (by rfl) w.heap.size (by rfl) 82 (bU .i64 54 (upd x off (v+n))) (0,0) _ hx4.out Tryz.underlying82 (by rfl) (by rw[bQ]; exact oo) ?_)
   | (refine wpList_store_row (o:=⟨none,.store 82 (.tmp 10) (.tmp 45),_,_,_,_⟩) (by rfl) 82 (.tmp 10) (.tmp 45) (by rfl) (w.heap.size+1) (bU .i64 54 zero) (by rfl) (by rfl) 82 (bU .i64 54 zero) hz4.out (by rw[bQ]; exact oo) (by rw[bQ]) (oF _ _ _) ?_)
   | (refine wpList_store_row (o:=⟨none,.store 82 (.tmp 10) (.tmp 46),_,_,_,_⟩) (by rfl) 82 (.tmp 10) (.tmp 46) (by rfl) (w.heap.size+1) (bU .i64 54 (upd x off (v+n))) (by rfl) (by rfl) 82 (bU .i64 54 zero) hz4.out (by rw[bQ]; exact oo) (by rw[bQ,bQ]) (oF _ _ _) ?_)
   | (refine wpList_store_row (o:=⟨none,.store 82 (.tmp 10) (.tmp 31),_,_,_,_⟩) (by rfl) 82 (.tmp 10) (.tmp 31) (by rfl) (w.heap.size+1) (bU .i64 54 zero) (by rfl) (by rfl) 82 (bU .i64 54 zero) hz2.out (by rw[bQ]; exact oo) (by rw[bQ]) (oF _ _ _) ?_)
   | (refine wpList_store_row (o:=⟨none,.store 82 (.tmp 10) (.tmp 26),_,_,_,_⟩) (by rfl) 82 (.tmp 10) (.tmp 26) (by rfl) (w.heap.size+1) (bU .i64 54 zero) (by rfl) (by rfl) 82 (bU .i64 54 zero) hz1.out (by rw[bQ]; exact oo) (by rw[bQ]) (oF _ _ _) ?_)
   | (refine wpList_store_row (o:=⟨none,.store 82 (.tmp 10) (.tmp 22),_,_,_,_⟩) (by rfl) 82 (.tmp 10) (.tmp 22) (by rfl) (w.heap.size+1) (bU .i64 54 zero) (by rfl) (by rfl) 82 (bU .i64 54 zero) hz1.out (by rw[bQ]; exact oo) (by rw[bQ]) (oF _ _ _) ?_))
  try exact xH hT.out rfl rfl rfl (ko hB1 (by omega) hz1.out _).1 (ko hB1 (by omega) hz1.out _).2
 ·have hend:=ko hB2 (by omega) hz2.out zero;exact xH hT.out rfl rfl rfl hend.1 hend.2
 ·have hend:=ko hB4 (by omega) hz4.out zero;exact xH hT.out rfl rfl rfl hend.1 hend.2
 have hend:=ko hB4 (by omega) hz4.out (upd x off (v+n));exact xH hT.out rfl rfl rfl hend.1 hend.2
section
namespace Rt
def own(p:Nat):Nat:=if p<6 then p else if p<12 then p-6 else if p<18 then p-12 else(p-18) / 6
end Rt
attribute [local irreducible] Oper.wp wpList Code.wp
end
section
set_option maxHeartbeats 400000 in
theorem FQ(is:Bool)(e:Int)(w:World) :
 Calls Tryz.prog 235 #[.bool is,.int .i64 e] w fun r w'=>r = .returned (.int .i64 (if is then e else 0))/\w'=w:=by
 cases is
 all_goals
  go_enter Tryz.func235,Tryz.ntmps235
  go_wp2
  go_ret
  exact⟨rfl,rfl⟩
def PX(r:(Nat->Int) × Int)(w:World)(e:Ending)(w':World):Prop :=
 e = .returned (.tuple #[.agg (bU .i64 54 r.1),.int .i64 r.2])/\Below w.heap.size w w'
theorem uQ{c:Func}{p q:Tmp}(j:c.results = #[.cell p 82,.tmp q]){b w:World}{a:Act}{g:Nat}{r:(Nat->Int) × Int}(e:a.defers = [])
 (h:a.tmps.getD p undef = .pointer (some ⟨g,0,none⟩)) (i:a.tmps.getD q undef = .int .i64 r.2) (f:w.heap[g]? = some (.cells (bU .i64 54 r.1) 82 (0,0))) (d:Below b.heap.size b w) :
 bodyPost Tryz.prog c (PX r b) .ret a w :=
 bodyPost_ret (by rw[results_cell_tmp j a.tmps w g 82 _ (0,0) _ h f Tryz.underlying82 rfl (by rw[bQ]; exact oo),i]) e ⟨rfl,d⟩
def RS2(x:Nat->Int)(g:Nat)(i n:Int)(w':World):Prop:=w'.heap[g]? = some (.cells (bU .i64 54 x) 82 (0,0))/\w'.cell? ⟨g+1,0,none⟩=some (.int .i64 i)/\w'.cell? ⟨g+1+1,0,none⟩=some (.int .i64 n)
theorem oN(i:Int):gG i=true<->1<=i/\i<=6:=by unfold gG; simp
attribute [local irreducible] Oper.wp wpList Code.wp
end
section
namespace Rt
def qC(x:Nat->Int)(i n:Int):Int:=if decide (bT x i<n)then 11 else 0
def bG(x:Nat->Int)(i n:Int):(Nat->Int) × Int:=dh x n (gG i) (qC x i n) (6+(i.toNat-1))
theorem CP(x:Nat->Int)(i:Int) : -(1125899906842624*8)<=bT x i/\bT x i<=1125899906842624*8:=by
 unfold bT;split
 ·exact Rv x _
 omega
end Rt
attribute [local irreducible] Oper.wp wpList Code.wp in
set_option maxRecDepth 100000 in
set_option maxHeartbeats 1000000 in
theorem Rw(x:Nat->Int)(i n:Int)(g h hi:Nat)(w:World)(hn:1<=n/\n<=1125899906842624)(hib : -9223372036854775808<=i/\i<=9223372036854775807)(hx:Hid (w.heap[g]? = some (.cells (bU .i64 54 x) 82 (0,0))))(hc:w.cell? ⟨h,0,none⟩=some (.int .i64 n))(hci:w.cell? ⟨hi,0,none⟩=some (.int .i64 i)) :
 Calls Tryz.prog 234 #[.pointer (some ⟨h,0,none⟩),.pointer (some ⟨g,0,none⟩),.pointer (some ⟨hi,0,none⟩)] w fun e w'=>e = .returned (.int .i64 (qC x i n))/\Below w.heap.size w w':=by
 have HE:Hid (qC x i n=if decide (bT x i<n)then 11 else 0):=rfl;have hb:=CP x i;have hlh:=block_lt_of_cell hc;have YV:=block_lt_of_cell hci;have hlg:g<w.heap.size:=(t_.1 hx.out).1
 dsimp only at hlh YV
 have hB0:Below w.heap.size w w.drew:=jA w 1;have hs:Hid (∀ w',Calls Tryz.prog 60 #[.agg (bU .i64 54 x),.int .i64 i] w' fun e w''=>e = .returned (.int .i64 (bT x i))/\Below w'.heap.size w' w''):=fun w'=>uf x i w' hib;generalize bT x i=s1 at *;obtain⟨b,r,hd,HE⟩ : ∃(b:Bool) (r:Int),(b=true/\r=11/\s1<n\/b=false/\r=0 /\ ¬ s1<n)/\Hid (qC x i n=r):=by
  by_cases hd:s1<n
  ·exact⟨true,11,.inl ⟨rfl,rfl,hd⟩,by rw[f_ hd,d_ rfl]at HE; exact HE⟩
  ·exact⟨false,0,.inr ⟨rfl,rfl,hd⟩,by rw[g_ hd,b_ (by decide)]at HE; exact HE⟩
 go_enter Tryz.func234,Tryz.ntmps234
 go_upto_region 1 with (fail)
 rename_i K0 SX;refine wp_region_noPanic<|wp_region_held_drew (S:=Below w.heap.size w) (by kernel_rfl) hB0 fun hS => ?_;refine wT0 0 (.int .i64 n) rfl (fun w' hw=>?_) hS ?_
 ·have h2:=(hw.cell (p:=⟨h,0,none⟩) hlh).trans hc;clear hw hc hci
  go_simp
 refine wT0 1 (.agg (bU .i64 54 x)) rfl (fun w' hw=>?_) hS ?_
 ·exact ng 82 (.tmp 1) (by rfl) g (by rfl) 82 (bU .i64 54 x) (0,0) _ ((hw.block _ hlg).trans hx.out) Tryz.underlying82 (by rfl) (by rw[bQ]; exact oo)
 refine wT0 2 (.int .i64 i) rfl (fun w' hw=>?_) hS ?_
 ·have h2:=(hw.cell (p:=⟨hi,0,none⟩) YV).trans hci;clear hw hc hci
  go_simp
 refine wpAnyH_all (rs := [3]) (by kernel_rfl) (by decide) ?_;intro j hj;obtain rfl:j=3:=by simpa using hj
 refine wpOp_step rfl<|fun K hK => ?_;clear hj
 go_simp
 refine(hs.out _).mono ?_;rintro e w1 ⟨rfl,hb1⟩;have hS:=Nn hS hb1;refine hK _ _ ⟨hS,?_⟩;clear hK K;refine wT0 4 (.bool b) rfl (fun w' hw=>?_) hS ?_
 ·clear hw hc hci
  rcases hd with ⟨rfl,rfl,hd⟩|⟨rfl,rfl,hd⟩ <;> go_simp
 refine wpAnyH_all (rs := [5]) (by kernel_rfl) (by decide) ?_;intro j hj;obtain rfl:j=5:=by simpa using hj
 refine wpOp_step rfl<|fun K hK => ?_;clear hj
 go_simp
 refine(FQ _ _ _).mono ?_;rintro e w2 ⟨rfl,rfl⟩;refine hK _ _ ⟨hS,?_⟩;clear hK K;refine wT0 6 (.int .i64 r) rfl (fun w' hw=>?_) hS ?_
 ·clear hw hc hci
  rcases hd with ⟨rfl,rfl,hd⟩|⟨rfl,rfl,hd⟩ <;> go_simp
 refine wpAnyH_done (by kernel_rfl) ?_ _;refine SX _ _ ?_
 rcases hd with ⟨rfl,rfl,hd⟩|⟨rfl,rfl,hd⟩ <;> (go_wp2; go_ret; rw[HE.out]; exact⟨rfl,hS⟩)
set_option maxHeartbeats 400000 in
theorem Rx(g h:Nat)(i:Int)(w:World)(hi:1<=i/\i<=6)(hc:w.cell? ⟨h,0,none⟩=some (.int .i64 i)) :
 Calls Tryz.prog 236 #[.pointer (some ⟨g,0,none⟩),.pointer (some ⟨h,0,none⟩)] w fun e w'=>e = .returned (.pointer (some ⟨g,6+(i.toNat-1),none⟩))/\Below w.heap.size w w':=by
 obtain⟨k,hk⟩:=Int.eq_ofNat_of_zero_le (show 0<=i-1 by omega);obtain rfl:i=(k:Int)+1:=by omega
 have hk6:(k:Int)<6:=by omega
 have HE:Hid (((k:Int)+1).toNat-1=k):=by unfold Hid; omega
 clear hk
 go_enter Tryz.func236,Tryz.ntmps236
 go_wp2_with fail
 go_quiet (fail)
 go_wp2
 go_ret
 rw[HE.out];exact⟨rfl,bN (Below.refl _ _) _⟩
theorem U8(args:Array Value)(w:World):(callFunc 234 args).run Tryz.prog w = .ok (.enter 234 args) w:=kN Tryz.func234 rfl rfl args w
theorem U9(args:Array Value)(w:World):(callFunc 236 args).run Tryz.prog w = .ok (.enter 236 args) w:=kN Tryz.func236 rfl rfl args w
attribute [local irreducible] Oper.wp wpList Code.wp
set_option maxRecDepth 100000 in
set_option maxHeartbeats 1000000 in
theorem Va(x:Nat->Int)(i n:Int)(w:World)(hi : -9223372036854775808<=i/\i<=9223372036854775807) :
 Calls Tryz.prog 221 #[.agg (bU .i64 54 x),.int .i64 i,.int .i64 n] w (PX (bG x i n) w):=by
 have hmf : ∀(fn:Fn) (first cap:Array Value) (w:World),(Instr.makeFunc fn first cap).run Tryz.prog w = .ok (.func fn first cap) w:=fun _ _ _ _=>rfl
 go_enter Tryz.func221,Tryz.ntmps221
 go_upto_region 1 with (fail)
 rename_i K0 SX;rw[<- EP];have ha:=Tg w (.cells (bU .i64 54 x) 82) (.cells #[.int .i64 i] 3) (.cells #[.int .i64 n] 2) (.cells (bU .i64 54 zero) 82);generalize (((w.alloc (.cells (bU .i64 54 x) 82)).alloc (.cells #[.int .i64 i] 3)).alloc (.cells #[.int .i64 n] 2)).alloc (.cells (bU .i64 54 zero) 82)=W at *;obtain⟨hx,hI,hN,hz,hs,hB⟩:=ha;have cI:=tH hI;have cN:=tH hN;have Hx:Hid _:=hx;have Hz:Hid _:=hz;have HI:Hid _:=hI;have HN:Hid _:=hN;have Hs:Hid _:=hs;clear hx hz hI hN hs;refine wp_region_noPanic<|wp_region_held_drew (S:=RS2 x w.heap.size i n) (by kernel_rfl) ⟨Hx.out,cI,cN⟩ fun hS => ?_;refine wT0 0 (.agg (bU .i64 54 x)) rfl (fun w' hw=>?_) hS ?_
 ·exact ng 82 (.tmp 3) (by rfl) w.heap.size (by rfl) 82 (bU .i64 54 x) (0,0) _ hw.1 Tryz.underlying82 (by rfl) (by rw[bQ]; exact oo)
 refine wT0 1 (.int .i64 n) rfl (fun w' hw=>?_) hS ?_
 ·have h2:=hw.2.2
  go_simp
 refine wT0 2 (.int .i64 i) rfl (fun w' hw=>?_) hS ?_
 ·have h2:=hw.2.1;have h3:=hw.2.2;clear hw
  go_simp
 refine wT0 4 (.func (.func 234) #[] #[.pointer (some ⟨w.heap.size+1+1,0,none⟩),.pointer (some ⟨w.heap.size,0,none⟩),.pointer (some ⟨w.heap.size+1,0,none⟩)]) rfl (fun w' hw=>?_) hS ?_
 ·have h2:=hw.2.1;have h3:=hw.2.2;clear hw
  go_simp
 refine wT0 5 (.func (.func 236) #[] #[.pointer (some ⟨w.heap.size+1,0,none⟩)]) rfl (fun w' hw=>?_) hS ?_
 ·have h2:=hw.2.1;have h3:=hw.2.2;clear hw
  go_simp
 refine wpAnyH_all (rs := [3]) (by kernel_rfl) (by decide) ?_;intro j hj;obtain rfl:j=3:=by simpa using hj
 refine wpOp_step rfl<|fun K hK => ?_;clear hj
 go_simp
 refine(tZ i _ hi).mono ?_;rintro e w' ⟨rfl,rfl⟩;refine hK _ _ ⟨hS,?_⟩;clear hK K;refine wpAnyH_all (rs := [6]) (by kernel_rfl) (by decide) ?_;intro j hj;obtain rfl:j=6:=by simpa using hj
 refine wpOp_step rfl<|fun K hK => ?_;clear hj
 go_simp
 have hlx:w.heap.size<W.drew.heap.size:=(t_.1 hS.1).1;have YW:=block_lt_of_cell hS.2.1;have hlN:=block_lt_of_cell hS.2.2
 dsimp only at YW hlN
 refine(xI x n (gG i) 234 236 _ _ (qC x i n) (6+(i.toNat-1)) W.drew ?o1 ?o2 U8 U9 ?o3 ?o4).mono ?_
 case o1=>intro h; have:=(oN i).1 h; omega
 case o2=>intro h hm; have:=(oN i).1 h; exact(xG hm (i.toNat-1) (by omega)).c
 case o3 =>
  intro hm h1 h2 h3 w' hb;exact Rw x i n _ _ _ w' ⟨h1,h2⟩ hi ((hb.block _ hlx).trans hS.1) ((hb.cell (p:=⟨w.heap.size+1+1,0,none⟩) hlN).trans hS.2.2) ((hb.cell (p:=⟨w.heap.size+1,0,none⟩) YW).trans hS.2.1)
 case o4 =>
  intro h w' g hb;exact Rx g _ i w' ((oN i).1 h) ((hb.cell (p:=⟨w.heap.size+1,0,none⟩) YW).trans hS.2.1)
 rintro e w2 ⟨rfl,hb2⟩;have hHR:Hid (bG x i n=dh x n (gG i) (qC x i n) (6+(i.toNat-1))):=rfl;generalize dh x n (gG i) (qC x i n) (6+(i.toNat-1))=r at *;have hS2:RS2 x w.heap.size i n w2:=⟨(hb2.block _ hlx).trans hS.1,(hb2.cell (p:=⟨w.heap.size+1,0,none⟩) YW).trans hS.2.1,(hb2.cell (p:=⟨w.heap.size+1+1,0,none⟩) hlN).trans hS.2.2⟩;have hz2:Hid (w2.heap[w.heap.size+1+1+1]? = some (.cells (bU .i64 54 zero) 82 (0,0))):=(hb2.block _ (by show _<W.heap.size; have:=Hs.out; omega)).trans Hz.out;have hB2:Below w.heap.size w w2:=hB.trans ((bdr hb2).mono hB.size);refine hK _ _ ⟨hS2,?_⟩;clear hK K hS hb2;refine wT0 7 (.agg (bU .i64 54 r.1)) rfl (fun w' hw=>?_) hS2 ?_
 ·clear hw
  go_simp
 refine wT0 8 (.int .i64 r.2) rfl (fun w' hw=>?_) hS2 ?_
 ·clear hw
  go_simp
 refine wpAnyH_all (rs := [9]) (by kernel_rfl) (by decide) ?_;intro j hj;obtain rfl:j=9:=by simpa using hj
 clear hj;refine wQ (by rfl) (by rfl)<|fun K hK => ?_;refine wp_store_row 82 (.tmp 6) (.tmp 15) (by rfl) (w.heap.size+1+1+1) (bU .i64 54 r.1) (by rfl) (by rfl) 82 (bU .i64 54 zero) hz2.out (by rw[bQ]; exact oo) (by rw[bQ,bQ]) (oF _ _ _) ?_;have hend:=ko hB2 (by omega) hz2.out r.1;have hS3:RS2 x w.heap.size i n (w2.setRow (w.heap.size+1+1+1) (bU .i64 54 r.1)):=⟨(setRow_other _ _ _ _ (by omega)).trans hS2.1,(World.cell?_of_block (setRow_other _ _ _ _ (by show w.heap.size+1≠_; omega))).trans hS2.2.1,(World.cell?_of_block (setRow_other _ _ _ _ (by show w.heap.size+1+1≠_; omega))).trans hS2.2.2⟩;refine hK _ _ ⟨hS3,?_⟩;clear hK K hz2 hB2 hS2;generalize w2.setRow (w.heap.size+1+1+1) (bU .i64 54 r.1)=w3 at *;refine wT0 10 (.int .i64 r.2) rfl (fun w' hw=>?_) hS3 ?_
 ·clear hw
  go_simp
 refine wpAnyH_done (by kernel_rfl) ?_ _;refine SX _ _<|wp_ret ?_;rw[hHR.out];exact uQ (p:=6) (q:=7) (by kernel_rfl) (by kernel_rfl) (by kernel_rfl) (by kernel_rfl) hend.1 hend.2
end
section
namespace Rt
def qD(x:Nat->Int)(i n:Int):Int:=if decide (C x (i.toNat-1)-F x (i.toNat-1)<n)then 12 else 0
def bH(x:Nat->Int)(i n:Int):(Nat->Int) × Int:=dh x n (gG i) (qD x i n) (12+(i.toNat-1))
end Rt
attribute [local irreducible] Oper.wp wpList Code.wp in
set_option maxRecDepth 100000 in
set_option maxHeartbeats 1000000 in
theorem Ry(x:Nat->Int)(i n:Int)(g h hi:Nat)(w:World)(hn:1<=n/\n<=1125899906842624)(hib:1<=i/\i<=6)(hm:may x=true)(hx:Hid (w.heap[g]? = some (.cells (bU .i64 54 x) 82 (0,0))))(hc:w.cell? ⟨h,0,none⟩=some (.int .i64 n))(hci:w.cell? ⟨hi,0,none⟩=some (.int .i64 i)) :
 Calls Tryz.prog 237 #[.pointer (some ⟨h,0,none⟩),.pointer (some ⟨g,0,none⟩),.pointer (some ⟨hi,0,none⟩)] w fun e w'=>e = .returned (.int .i64 (qD x i n))/\Below w.heap.size w w':=by
 obtain⟨k,hk⟩:=Int.eq_ofNat_of_zero_le (show 0<=i-1 by omega);obtain rfl:i=(k:Int)+1:=by omega
 have hk6:k<6:=by omega
 have ho:=xG hm k hk6;have h1:=ho.c;have h2:=ho.f;have h3:=ho.fc;have c6:w.cell? ⟨g,6+k,none⟩=some (.int .i64 (C x k)):=gX hx.out (6+k) (by omega);have c12:w.cell? ⟨g,12+k,none⟩=some (.int .i64 (F x k)):=gX hx.out (12+k) (by omega);have HE:Hid (qD x ((k:Int)+1) n=if decide (C x k-F x k<n)then 12 else 0):=by
  unfold Hid qD;rw[show((k:Int)+1).toNat-1=k by omega]
 clear ho hm hk;generalize C x k=c at *;generalize F x k=f at *;have hlh:=block_lt_of_cell hc;have YV:=block_lt_of_cell hci;have hlg:g<w.heap.size:=(t_.1 hx.out).1
 dsimp only at hlh YV
 have hB0:Below w.heap.size w w.drew:=jA w 1;obtain⟨b,r,hd,HE⟩ : ∃(b:Bool) (r:Int),(b=true/\r=12/\c-f<n\/b=false/\r=0 /\ ¬ c-f<n)/\Hid (qD x ((k:Int)+1) n=r):=by
  by_cases hd:c-f<n
  ·exact⟨true,12,.inl ⟨rfl,rfl,hd⟩,by rw[f_ hd,d_ rfl]at HE; exact HE⟩
  ·exact⟨false,0,.inr ⟨rfl,rfl,hd⟩,by rw[g_ hd,b_ (by decide)]at HE; exact HE⟩
 go_enter Tryz.func237,Tryz.ntmps237
 go_upto_region 1 with (fail)
 rename_i K0 SX;refine wp_region_noPanic<|wp_region_held_drew (S:=Below w.heap.size w) (by kernel_rfl) hB0 fun hS => ?_;refine wT0 0 (.int .i64 n) rfl (fun w' hw=>?_) hS ?_
 ·have h2:=(hw.cell (p:=⟨h,0,none⟩) hlh).trans hc;clear hw hc hci
  go_simp
 refine wT0 1 (.int .i64 ((k:Int)+1)) rfl (fun w' hw=>?_) hS ?_
 ·have h2:=(hw.cell (p:=⟨hi,0,none⟩) YV).trans hci;clear hw hc hci
  go_simp
 refine wT0 2 (.int .i64 (k:Int)) rfl (fun w' hw=>?_) hS ?_
 ·clear hw hc hci
  go_simp
  exact IntWalk.i64_in _ (by omega)
 refine wT0 3 (.pointer (some ⟨g,6,none⟩)) rfl (fun w' hw=>?_) hS ?_
 ·clear hw hc hci
  go_simp
 refine wT0 4 (.pointer (some ⟨g,6+k,none⟩)) rfl (fun w' hw=>?_) hS ?_
 ·have hk7:(k:Int)<6:=by omega
  clear hw hc hci
  go_simp
 refine wT0 5 (.int .i64 c) rfl (fun w' hw=>?_) hS ?_
 ·have h2:=(hw.cell (p:=⟨g,6+k,none⟩) hlg).trans c6;clear hw hc hci
  go_simp
 refine wT0 6 (.int .i64 ((k:Int)+1)) rfl (fun w' hw=>?_) hS ?_
 ·have h2:=(hw.cell (p:=⟨hi,0,none⟩) YV).trans hci;clear hw hc hci
  go_simp
 refine wT0 7 (.int .i64 (k:Int)) rfl (fun w' hw=>?_) hS ?_
 ·clear hw hc hci
  go_simp
  exact IntWalk.i64_in _ (by omega)
 refine wT0 8 (.pointer (some ⟨g,12,none⟩)) rfl (fun w' hw=>?_) hS ?_
 ·clear hw hc hci
  go_simp
 refine wT0 9 (.pointer (some ⟨g,12+k,none⟩)) rfl (fun w' hw=>?_) hS ?_
 ·have hk7:(k:Int)<6:=by omega
  clear hw hc hci
  go_simp
 refine wT0 10 (.int .i64 f) rfl (fun w' hw=>?_) hS ?_
 ·have h2:=(hw.cell (p:=⟨g,12+k,none⟩) hlg).trans c12;clear hw hc hci
  go_simp
 refine wT0 11 (.int .i64 (c-f)) rfl (fun w' hw=>?_) hS ?_
 ·clear hw hc hci
  go_simp
  exact IntWalk.i64_in _ (by omega)
 refine wT0 12 (.bool b) rfl (fun w' hw=>?_) hS ?_
 ·clear hw hc hci
  rcases hd with ⟨rfl,rfl,hd⟩|⟨rfl,rfl,hd⟩ <;> go_simp
 refine wpAnyH_all (rs := [13]) (by kernel_rfl) (by decide) ?_;intro j hj;obtain rfl:j=13:=by simpa using hj
 refine wpOp_step rfl<|fun K hK => ?_;clear hj
 go_simp
 refine(FQ _ _ _).mono ?_;rintro e w2 ⟨rfl,rfl⟩;refine hK _ _ ⟨hS,?_⟩;clear hK K;refine wT0 14 (.int .i64 r) rfl (fun w' hw=>?_) hS ?_
 ·clear hw hc hci
  rcases hd with ⟨rfl,rfl,hd⟩|⟨rfl,rfl,hd⟩ <;> go_simp
 refine wpAnyH_done (by kernel_rfl) ?_ _;refine SX _ _ ?_
 rcases hd with ⟨rfl,rfl,hd⟩|⟨rfl,rfl,hd⟩ <;> (go_wp2; go_ret; rw[HE.out]; exact⟨rfl,hS⟩)
attribute [local irreducible] Oper.wp wpList Code.wp
set_option maxHeartbeats 400000 in
theorem Rz(g h:Nat)(i:Int)(w:World)(hi:1<=i/\i<=6)(hc:w.cell? ⟨h,0,none⟩=some (.int .i64 i)) :
 Calls Tryz.prog 238 #[.pointer (some ⟨g,0,none⟩),.pointer (some ⟨h,0,none⟩)] w fun e w'=>e = .returned (.pointer (some ⟨g,12+(i.toNat-1),none⟩))/\Below w.heap.size w w':=by
 obtain⟨k,hk⟩:=Int.eq_ofNat_of_zero_le (show 0<=i-1 by omega);obtain rfl:i=(k:Int)+1:=by omega
 have hk6:(k:Int)<6:=by omega
 have HE:Hid (((k:Int)+1).toNat-1=k):=by unfold Hid; omega
 clear hk
 go_enter Tryz.func238,Tryz.ntmps238
 go_wp2_with fail
 go_quiet (fail)
 go_wp2
 go_ret
 rw[HE.out];exact⟨rfl,bN (Below.refl _ _) _⟩
theorem Vb(args:Array Value)(w:World):(callFunc 237 args).run Tryz.prog w = .ok (.enter 237 args) w:=kN Tryz.func237 rfl rfl args w
theorem Vd(args:Array Value)(w:World):(callFunc 238 args).run Tryz.prog w = .ok (.enter 238 args) w:=kN Tryz.func238 rfl rfl args w
set_option maxRecDepth 100000 in
set_option maxHeartbeats 1000000 in
theorem Ve(x:Nat->Int)(i n:Int)(w:World)(hi : -9223372036854775808<=i/\i<=9223372036854775807) :
 Calls Tryz.prog 224 #[.agg (bU .i64 54 x),.int .i64 i,.int .i64 n] w (PX (bH x i n) w):=by
 have hmf : ∀(fn:Fn) (first cap:Array Value) (w:World),(Instr.makeFunc fn first cap).run Tryz.prog w = .ok (.func fn first cap) w:=fun _ _ _ _=>rfl
 go_enter Tryz.func224,Tryz.ntmps224
 go_upto_region 1 with (fail)
 rename_i K0 SX;rw[<- EP];have ha:=Tg w (.cells (bU .i64 54 x) 82) (.cells #[.int .i64 i] 3) (.cells #[.int .i64 n] 2) (.cells (bU .i64 54 zero) 82);generalize (((w.alloc (.cells (bU .i64 54 x) 82)).alloc (.cells #[.int .i64 i] 3)).alloc (.cells #[.int .i64 n] 2)).alloc (.cells (bU .i64 54 zero) 82)=W at *;obtain⟨hx,hI,hN,hz,hs,hB⟩:=ha;have cI:=tH hI;have cN:=tH hN;have Hx:Hid _:=hx;have Hz:Hid _:=hz;have HI:Hid _:=hI;have HN:Hid _:=hN;have Hs:Hid _:=hs;clear hx hz hI hN hs;refine wp_region_noPanic<|wp_region_held_drew (S:=RS2 x w.heap.size i n) (by kernel_rfl) ⟨Hx.out,cI,cN⟩ fun hS => ?_;refine wT0 0 (.agg (bU .i64 54 x)) rfl (fun w' hw=>?_) hS ?_
 ·exact ng 82 (.tmp 3) (by rfl) w.heap.size (by rfl) 82 (bU .i64 54 x) (0,0) _ hw.1 Tryz.underlying82 (by rfl) (by rw[bQ]; exact oo)
 refine wT0 1 (.int .i64 n) rfl (fun w' hw=>?_) hS ?_
 ·have h2:=hw.2.2
  go_simp
 refine wT0 2 (.int .i64 i) rfl (fun w' hw=>?_) hS ?_
 ·have h2:=hw.2.1;have h3:=hw.2.2;clear hw
  go_simp
 refine wT0 4 (.func (.func 237) #[] #[.pointer (some ⟨w.heap.size+1+1,0,none⟩),.pointer (some ⟨w.heap.size,0,none⟩),.pointer (some ⟨w.heap.size+1,0,none⟩)]) rfl (fun w' hw=>?_) hS ?_
 ·have h2:=hw.2.1;have h3:=hw.2.2;clear hw
  go_simp
 refine wT0 5 (.func (.func 238) #[] #[.pointer (some ⟨w.heap.size+1,0,none⟩)]) rfl (fun w' hw=>?_) hS ?_
 ·have h2:=hw.2.1;have h3:=hw.2.2;clear hw
  go_simp
 refine wpAnyH_all (rs := [3]) (by kernel_rfl) (by decide) ?_;intro j hj;obtain rfl:j=3:=by simpa using hj
 refine wpOp_step rfl<|fun K hK => ?_;clear hj
 go_simp
 refine(tZ i _ hi).mono ?_;rintro e w' ⟨rfl,rfl⟩;refine hK _ _ ⟨hS,?_⟩;clear hK K;refine wpAnyH_all (rs := [6]) (by kernel_rfl) (by decide) ?_;intro j hj;obtain rfl:j=6:=by simpa using hj
 refine wpOp_step rfl<|fun K hK => ?_;clear hj
 go_simp
 have hlx:w.heap.size<W.drew.heap.size:=(t_.1 hS.1).1;have YW:=block_lt_of_cell hS.2.1;have hlN:=block_lt_of_cell hS.2.2
 dsimp only at YW hlN
 refine(xI x n (gG i) 237 238 _ _ (qD x i n) (12+(i.toNat-1)) W.drew ?o1 ?o2 Vb Vd ?o3 ?o4).mono ?_
 case o1=>intro h; have:=(oN i).1 h; omega
 case o2=>intro h hm; have:=(oN i).1 h; exact(xG hm (i.toNat-1) (by omega)).f
 case o3 =>
  intro hm h1 h2 h3 w' hb;exact Ry x i n _ _ _ w' ⟨h1,h2⟩ ((oN i).1 h3) hm ((hb.block _ hlx).trans hS.1) ((hb.cell (p:=⟨w.heap.size+1+1,0,none⟩) hlN).trans hS.2.2) ((hb.cell (p:=⟨w.heap.size+1,0,none⟩) YW).trans hS.2.1)
 case o4 =>
  intro h w' g hb;exact Rz g _ i w' ((oN i).1 h) ((hb.cell (p:=⟨w.heap.size+1,0,none⟩) YW).trans hS.2.1)
 rintro e w2 ⟨rfl,hb2⟩;have hHR:Hid (bH x i n=dh x n (gG i) (qD x i n) (12+(i.toNat-1))):=rfl;generalize dh x n (gG i) (qD x i n) (12+(i.toNat-1))=r at *;have hS2:RS2 x w.heap.size i n w2:=⟨(hb2.block _ hlx).trans hS.1,(hb2.cell (p:=⟨w.heap.size+1,0,none⟩) YW).trans hS.2.1,(hb2.cell (p:=⟨w.heap.size+1+1,0,none⟩) hlN).trans hS.2.2⟩;have hz2:Hid (w2.heap[w.heap.size+1+1+1]? = some (.cells (bU .i64 54 zero) 82 (0,0))):=(hb2.block _ (by show _<W.heap.size; have:=Hs.out; omega)).trans Hz.out;have hB2:Below w.heap.size w w2:=hB.trans ((bdr hb2).mono hB.size);refine hK _ _ ⟨hS2,?_⟩;clear hK K hS hb2;refine wT0 7 (.agg (bU .i64 54 r.1)) rfl (fun w' hw=>?_) hS2 ?_
 ·clear hw
  go_simp
 refine wT0 8 (.int .i64 r.2) rfl (fun w' hw=>?_) hS2 ?_
 ·clear hw
  go_simp
 refine wpAnyH_all (rs := [9]) (by kernel_rfl) (by decide) ?_;intro j hj;obtain rfl:j=9:=by simpa using hj
 clear hj;refine wQ (by rfl) (by rfl)<|fun K hK => ?_;refine wp_store_row 82 (.tmp 6) (.tmp 15) (by rfl) (w.heap.size+1+1+1) (bU .i64 54 r.1) (by rfl) (by rfl) 82 (bU .i64 54 zero) hz2.out (by rw[bQ]; exact oo) (by rw[bQ,bQ]) (oF _ _ _) ?_;have hend:=ko hB2 (by omega) hz2.out r.1;have hS3:RS2 x w.heap.size i n (w2.setRow (w.heap.size+1+1+1) (bU .i64 54 r.1)):=⟨(setRow_other _ _ _ _ (by omega)).trans hS2.1,(World.cell?_of_block (setRow_other _ _ _ _ (by show w.heap.size+1≠_; omega))).trans hS2.2.1,(World.cell?_of_block (setRow_other _ _ _ _ (by show w.heap.size+1+1≠_; omega))).trans hS2.2.2⟩;refine hK _ _ ⟨hS3,?_⟩;clear hK K hz2 hB2 hS2;generalize w2.setRow (w.heap.size+1+1+1) (bU .i64 54 r.1)=w3 at *;refine wT0 10 (.int .i64 r.2) rfl (fun w' hw=>?_) hS3 ?_
 ·clear hw
  go_simp
 refine wpAnyH_done (by kernel_rfl) ?_ _;refine SX _ _<|wp_ret ?_;rw[hHR.out];exact uQ (p:=6) (q:=7) (by kernel_rfl) (by kernel_rfl) (by kernel_rfl) (by kernel_rfl) hend.1 hend.2
end
namespace Rt
def mR(x:Nat->Int)(i j n:Int):Int:=if i=j then 1 else if decide (bT x i<n)then 11 else 0
def jZ(i j:Int):Nat:=18+(i.toNat-1)*6+(j.toNat-1)
def dn(x:Nat->Int)(i j n:Int):(Nat->Int) × Int:=dh x n (gG i&&gG j) (mR x i j n) (jZ i j)
end Rt
attribute [local irreducible] Oper.wp wpList Code.wp in
set_option maxRecDepth 100000 in
set_option maxHeartbeats 1000000 in
theorem II(x:Nat->Int)(i j0 n:Int)(g h hi hj:Nat)(w:World)(hn:1<=n/\n<=1125899906842624)(hib : -9223372036854775808<=i/\i<=9223372036854775807)(hjb : -9223372036854775808<=j0/\j0<=9223372036854775807)(hx:Hid (w.heap[g]? = some (.cells (bU .i64 54 x) 82 (0,0))))(hc:w.cell? ⟨h,0,none⟩=some (.int .i64 n))(hci:w.cell? ⟨hi,0,none⟩=some (.int .i64 i))(hcj:w.cell? ⟨hj,0,none⟩=some (.int .i64 j0)) :
 Calls Tryz.prog 239 #[.pointer (some ⟨hi,0,none⟩),.pointer (some ⟨hj,0,none⟩),.pointer (some ⟨h,0,none⟩),.pointer (some ⟨g,0,none⟩)] w fun e w'=>e = .returned (.int .i64 (mR x i j0 n))/\Below w.heap.size w w':=by
 have HE:Hid (mR x i j0 n=if i=j0 then 1 else if decide (bT x i<n)then 11 else 0):=rfl;have hb:=CP x i;have hlh:=block_lt_of_cell hc;have YV:=block_lt_of_cell hci;have hlg:g<w.heap.size:=(t_.1 hx.out).1
 dsimp only at hlh YV
 have hB0:Below w.heap.size w w.drew:=jA w 1;have hs:Hid (∀ w',Calls Tryz.prog 60 #[.agg (bU .i64 54 x),.int .i64 i] w' fun e w''=>e = .returned (.int .i64 (bT x i))/\Below w'.heap.size w' w''):=fun w'=>uf x i w' hib;generalize bT x i=s1 at *;by_cases he:i=j0
 ·rw[d_ he]at HE;subst he
  go_enter Tryz.func239,Tryz.ntmps239
  go_wp2
  go_ret
  rw[HE.out];exact⟨rfl,Below.refl _ _⟩
 rw[b_ he]at HE;have hne:(i==j0)=false:=by simpa using he
 clear he;obtain⟨b,r,hd,HE⟩ : ∃(b:Bool) (r:Int),(b=true/\r=11/\s1<n\/b=false/\r=0 /\ ¬ s1<n)/\Hid (mR x i j0 n=r):=by
  by_cases hd:s1<n
  ·exact⟨true,11,.inl ⟨rfl,rfl,hd⟩,by rw[f_ hd,d_ rfl]at HE; exact HE⟩
  ·exact⟨false,0,.inr ⟨rfl,rfl,hd⟩,by rw[g_ hd,b_ (by decide)]at HE; exact HE⟩
 go_enter Tryz.func239,Tryz.ntmps239
 go_upto_region 3 with (fail)
 rename_i K0 SX;refine wp_region_noPanic<|wp_region_held_drew (S:=Below w.heap.size w) (by kernel_rfl) hB0 fun hS => ?_;refine wT0 0 (.int .i64 n) rfl (fun w' hw=>?_) hS ?_
 ·have h2:=(hw.cell (p:=⟨h,0,none⟩) hlh).trans hc;clear hw hc hci
  go_simp
 refine wT0 1 (.agg (bU .i64 54 x)) rfl (fun w' hw=>?_) hS ?_
 ·exact ng 82 (.tmp 3) (by rfl) g (by rfl) 82 (bU .i64 54 x) (0,0) _ ((hw.block _ hlg).trans hx.out) Tryz.underlying82 (by rfl) (by rw[bQ]; exact oo)
 refine wT0 2 (.int .i64 i) rfl (fun w' hw=>?_) hS ?_
 ·have h2:=(hw.cell (p:=⟨hi,0,none⟩) YV).trans hci;clear hw hc hci
  go_simp
 refine wpAnyH_all (rs := [3]) (by kernel_rfl) (by decide) ?_;intro j hj;obtain rfl:j=3:=by simpa using hj
 refine wpOp_step rfl<|fun K hK => ?_;clear hj
 go_simp
 refine(hs.out _).mono ?_;rintro e w1 ⟨rfl,hb1⟩;have hS:=Nn hS hb1;refine hK _ _ ⟨hS,?_⟩;clear hK K;refine wT0 4 (.bool b) rfl (fun w' hw=>?_) hS ?_
 ·clear hw hc hci
  rcases hd with ⟨rfl,rfl,hd⟩|⟨rfl,rfl,hd⟩ <;> go_simp
 refine wpAnyH_all (rs := [5]) (by kernel_rfl) (by decide) ?_;intro j hj;obtain rfl:j=5:=by simpa using hj
 refine wpOp_step rfl<|fun K hK => ?_;clear hj
 go_simp
 refine(FQ _ _ _).mono ?_;rintro e w2 ⟨rfl,rfl⟩;refine hK _ _ ⟨hS,?_⟩;clear hK K;refine wT0 6 (.int .i64 r) rfl (fun w' hw=>?_) hS ?_
 ·clear hw hc hci
  rcases hd with ⟨rfl,rfl,hd⟩|⟨rfl,rfl,hd⟩ <;> go_simp
 refine wpAnyH_done (by kernel_rfl) ?_ _;refine SX _ _ ?_
 rcases hd with ⟨rfl,rfl,hd⟩|⟨rfl,rfl,hd⟩ <;> (go_wp2; go_ret; rw[HE.out]; exact⟨rfl,hS⟩)
set_option maxHeartbeats 400000 in
theorem IJ(g h1 h2:Nat)(i j:Int)(w:World)(hi:1<=i/\i<=6)(hj:1<=j/\j<=6)(hci:w.cell? ⟨h1,0,none⟩=some (.int .i64 i))(hcj:w.cell? ⟨h2,0,none⟩=some (.int .i64 j)) :
 Calls Tryz.prog 240 #[.pointer (some ⟨g,0,none⟩),.pointer (some ⟨h1,0,none⟩),.pointer (some ⟨h2,0,none⟩)] w fun e w'=>e = .returned (.pointer (some ⟨g,jZ i j,none⟩))/\Below w.heap.size w w':=by
 obtain⟨k,hk⟩:=Int.eq_ofNat_of_zero_le (show 0<=i-1 by omega);obtain rfl:i=(k:Int)+1:=by omega
 obtain⟨l,hl⟩:=Int.eq_ofNat_of_zero_le (show 0<=j-1 by omega);obtain rfl:j=(l:Int)+1:=by omega
 have hk6:(k:Int)<6:=by omega
 have hl6:(l:Int)<6:=by omega
 have HE:Hid (jZ ((k:Int)+1) ((l:Int)+1)=18+k*6+l):=by unfold Hid jZ; omega
 clear hk hl
 go_enter Tryz.func240,Tryz.ntmps240
 go_wp2_with fail
 go_quiet (fail)
 go_wp2
 go_ret
 rw[HE.out];exact⟨rfl,bN (Below.refl _ _) _⟩
theorem LG(args:Array Value)(w:World):(callFunc 239 args).run Tryz.prog w = .ok (.enter 239 args) w:=kN Tryz.func239 rfl rfl args w
theorem LH(args:Array Value)(w:World):(callFunc 240 args).run Tryz.prog w = .ok (.enter 240 args) w:=kN Tryz.func240 rfl rfl args w
section
def Np(x:Nat->Int)(g:Nat)(i j n:Int)(w':World):Prop:=w'.heap[g]? = some (.cells (bU .i64 54 x) 82 (0,0))/\w'.cell? ⟨g+1,0,none⟩=some (.int .i64 i)/\w'.cell? ⟨g+1+1,0,none⟩=some (.int .i64 j)/\w'.cell? ⟨g+1+1+1,0,none⟩=some (.int .i64 n)
theorem Np.up{x:Nat->Int}{g:Nat}{i j n:Int}{w w':World}(h:Np x g i j n w)(e:Below w.heap.size w w'):Np x g i j n w':=by
 obtain⟨a,b,c,d⟩:=h;exact⟨(e.block _ (t_.1 a).1).trans a,(e.cell (p:=⟨g+1,0,none⟩) (block_lt_of_cell b)).trans b,(e.cell (p:=⟨g+1+1,0,none⟩) (block_lt_of_cell c)).trans c,(e.cell (p:=⟨g+1+1+1,0,none⟩) (block_lt_of_cell d)).trans d⟩
instance {x:Nat->Int} {g:Nat} {i j n:Int} {w w':World}:Rt.Tr w w' (Np x g i j n w) (Np x g i j n w'):=⟨fun b h=>h.up b⟩
theorem Np.row{x:Nat->Int}{g:Nat}{i j n:Int}{w:World}(h:Np x g i j n w)(cs:Array Value):Np x g i j n (w.setRow (g+1+1+1+1) cs):=by
 obtain⟨a,b,c,d⟩:=h;exact⟨(setRow_other _ _ _ _ (by omega)).trans a,(World.cell?_of_block (setRow_other _ _ _ _ (by show g+1≠_; omega))).trans b,(World.cell?_of_block (setRow_other _ _ _ _ (by show g+1+1≠_; omega))).trans c,(World.cell?_of_block (setRow_other _ _ _ _ (by show g+1+1+1≠_; omega))).trans d⟩
attribute [local irreducible] Oper.wp wpList Code.wp
set_option maxRecDepth 100000 in
set_option maxHeartbeats 2000000 in
theorem Vf(x:Nat->Int)(i j n:Int)(w:World)(hi : -9223372036854775808<=i/\i<=9223372036854775807)(hj0 : -9223372036854775808<=j/\j<=9223372036854775807) :
 Calls Tryz.prog 226 #[.agg (bU .i64 54 x),.int .i64 i,.int .i64 j,.int .i64 n] w (PX (dn x i j n) w):=by
 have HM:Hid (dn x i j n=dh x n (gG i&&gG j) (mR x i j n) (jZ i j)):=rfl;have hri:=oN i;have hrj:=oN j;have U6:Hid (∀ w',Calls Tryz.prog 94 #[.int .i64 i] w' fun e w''=>e = .returned (.bool (gG i))/\w''=w'):=fun w'=>tZ i w' hi;have ahZ:Hid (∀ w',Calls Tryz.prog 94 #[.int .i64 j] w' fun e w''=>e = .returned (.bool (gG j))/\w''=w'):=fun w'=>tZ j w' hj0;generalize gG i=bi at *;generalize gG j=bj at *;have Hri:Hid _:=hri;have Hrj:Hid _:=hrj;clear hri hrj;have hmf : ∀(fn:Fn) (first cap:Array Value) (w:World),(Instr.makeFunc fn first cap).run Tryz.prog w = .ok (.func fn first cap) w:=fun _ _ _ _=>rfl
 cases bi
 all_goals
  go_enter Tryz.func226,Tryz.ntmps226
  go_upto_region 1 with (fail)
  rename_i K0 SX;rw[<- EP];have ha:=acn w (.cells (bU .i64 54 x) 82) (.cells #[.int .i64 i] 3) (.cells #[.int .i64 j] 3) (.cells #[.int .i64 n] 2) (.cells (bU .i64 54 zero) 82);generalize ((((w.alloc (.cells (bU .i64 54 x) 82)).alloc (.cells #[.int .i64 i] 3)).alloc (.cells #[.int .i64 j] 3)).alloc (.cells #[.int .i64 n] 2)).alloc (.cells (bU .i64 54 zero) 82)=W at *;obtain⟨hx,hI,hJ,hN,hz,hs,hB⟩:=ha;have hS0:Np x w.heap.size i j n W.drew:=⟨hx,tH (w:=W) hI,tH (w:=W) hJ,tH (w:=W) hN⟩;have Hz:Hid _:=hz;have Hs:Hid _:=hs;clear hx hz hI hJ hN hs;refine wp_region_noPanic<|wp_region_held_drew (S:=Np x w.heap.size i j n) (by kernel_rfl) hS0 fun hS => ?_;refine wT0 0 (.agg (bU .i64 54 x)) rfl (fun w' hw=>?_) hS ?_
  ·exact ng 82 (.tmp 4) (by rfl) w.heap.size (by rfl) 82 (bU .i64 54 x) (0,0) _ hw.1 Tryz.underlying82 (by rfl) (by rw[bQ]; exact oo)
  refine wT0 1 (.int .i64 n) rfl (fun w' hw=>?_) hS ?_
  ·have h2:=hw.2.2.2;clear hw
   go_simp
  refine wT0 2 (.int .i64 i) rfl (fun w' hw=>?_) hS ?_
  ·have h2:=hw.2.1;clear hw
   go_simp
  refine wT0 8 (.func (.func 239) #[] #[.pointer (some ⟨w.heap.size+1,0,none⟩),.pointer (some ⟨w.heap.size+1+1,0,none⟩),.pointer (some ⟨w.heap.size+1+1+1,0,none⟩),.pointer (some ⟨w.heap.size,0,none⟩)]) rfl (fun w' hw=>?_) hS ?_
  ·clear hw
   go_simp
  refine wT0 9 (.func (.func 240) #[] #[.pointer (some ⟨w.heap.size+1,0,none⟩),.pointer (some ⟨w.heap.size+1+1,0,none⟩)]) rfl (fun w' hw=>?_) hS ?_
  ·clear hw
   go_simp
  refine wpAnyH_all (rs := [3]) (by kernel_rfl) (by decide) ?_;intro j hj;obtain rfl:j=3:=by simpa using hj
  refine wpOp_step rfl<|fun K hK => ?_;clear hj
  go_simp
  refine(U6.out _).mono ?_;rintro e w' ⟨rfl,rfl⟩;refine hK _ _ ⟨hS,?_⟩;clear hK K
 ·have hoff:false=true->jZ i j<54:=nofun;have hcell:false=true->may x=true->0<=x (jZ i j)/\x (jZ i j)<=1125899906842624:=nofun;have hbd:false=true->(1<=i/\i<=6)/\(1<=j/\j<=6):=nofun;refine wT0 4 (.bool false) rfl (fun w' hw=>?_) hS ?_
  ·clear hw
   go_simp
  refine wpAnyH_take (i:=5) (v:=undef) rfl (by kernel_rfl) (by kernel_rfl) (by kernel_rfl) (fun _ _ _ h=>h) (.inr ⟨by rfl,rfl⟩) hS ?_;refine wpAnyH_take (i:=6) (v:=undef) rfl (by kernel_rfl) (by kernel_rfl) (by kernel_rfl) (fun _ _ _ h=>h) (.inr ⟨by rfl,rfl⟩) hS ?_;refine wT0 7 (.bool false) rfl (fun w' hw=>?_) hS ?_
  ·clear hw
   go_simp
  have HM:Hid (dn x i j n=dh x n false (mR x i j n) (jZ i j)):=HM;refine wpAnyH_all (rs := [10]) (by kernel_rfl) (by decide) ?_;intro j hj;obtain rfl:j=10:=by simpa using hj
  refine wpOp_step rfl<|fun K hK => ?_;clear hj
  go_simp
  have hlz:w.heap.size+1+1+1+1<W.drew.heap.size:=by show _<W.heap.size; have:=Hs.out; omega
  refine(xI x n false 239 240 _ _ (mR x i j n) (jZ i j) W.drew ?o1 ?o2 LG LH ?o3 ?o4).mono ?_
  case o1=>exact hoff
  case o2=>exact hcell
  case o3=>exact fun hm h1 h2 h3 w' hb=>have hq:=Np.up hS hb; II x i j n _ _ _ _ w' ⟨h1,h2⟩ hi hj0 hq.1 hq.2.2.2 hq.2.1 hq.2.2.1
  case o4=>exact fun h w' g hb=>have hq:=Np.up hS hb; IJ g _ _ i j w' (hbd h).1 (hbd h).2 hq.2.1 hq.2.2.1
  rintro e w2 ⟨rfl,hb2⟩;generalize dh x n false (mR x i j n) (jZ i j)=r at *;have hz2:Hid (w2.heap[w.heap.size+1+1+1+1]? = some (.cells (bU .i64 54 zero) 82 (0,0))):=(hb2.block _ hlz).trans Hz.out;have hB2:Below w.heap.size w w2:=hB.trans ((bdr hb2).mono hB.size);have hS:=Np.up hS hb2;refine hK _ _ ⟨hS,?_⟩;clear hK K;clear hb2;refine wT0 11 (.agg (bU .i64 54 r.1)) rfl (fun w' hw=>?_) hS ?_
  ·clear hw
   go_simp
  refine wT0 12 (.int .i64 r.2) rfl (fun w' hw=>?_) hS ?_
  ·clear hw
   go_simp
  refine wpAnyH_all (rs := [13]) (by kernel_rfl) (by decide) ?_;intro j' hj';obtain rfl:j'=13:=by simpa using hj'
  clear hj';refine wQ (by rfl) (by rfl)<|fun K hK => ?_;refine wp_store_row 82 (.tmp 8) (.tmp 21) (by rfl) (w.heap.size+1+1+1+1) (bU .i64 54 r.1) (by rfl) (by rfl) 82 (bU .i64 54 zero) hz2.out (by rw[bQ]; exact oo) (by rw[bQ,bQ]) (oF _ _ _) ?_;have hend:=ko hB2 (by omega) hz2.out r.1;have hS:=hS.row (bU .i64 54 r.1);refine hK _ _ ⟨hS,?_⟩;clear hK K hz2 hB2;generalize w2.setRow (w.heap.size+1+1+1+1) (bU .i64 54 r.1)=w3 at *;refine wT0 14 (.int .i64 r.2) rfl (fun w' hw=>?_) hS ?_
  ·clear hw
   go_simp
  refine wpAnyH_done (by kernel_rfl) ?_ _;refine SX _ _<|wp_ret ?_;rw[HM.out];exact uQ (p:=8) (q:=9) (by kernel_rfl) (by kernel_rfl) (by kernel_rfl) (by kernel_rfl) hend.1 hend.2
 have hi6:=Hri.out.1 rfl;have hbd:bj=true->(1<=i/\i<=6)/\(1<=j/\j<=6):=fun h=>⟨hi6,Hrj.out.1 h⟩;have hoff:bj=true->jZ i j<54:=fun h=>by have:=hbd h; unfold jZ; omega
 have hcell:bj=true->may x=true->0<=x (jZ i j)/\x (jZ i j)<=1125899906842624:=fun h hm=>by
  have:=hbd h;exact(xG hm (i.toNat-1) (by omega)).r (j.toNat-1) (by omega)
 refine wT0 4 (.bool true) rfl (fun w' hw=>?_) hS ?_
 ·clear hw
  go_simp
 refine wT0 5 (.int .i64 j) rfl (fun w' hw=>?_) hS ?_
 ·have h2:=hw.2.2.1;clear hw
  go_simp
 refine wpAnyH_all (rs := [6]) (by kernel_rfl) (by decide) ?_;intro j hj;obtain rfl:j=6:=by simpa using hj
 refine wpOp_step rfl<|fun K hK => ?_;clear hj
 go_simp
 refine(ahZ.out _).mono ?_;rintro e w' ⟨rfl,rfl⟩;refine hK _ _ ⟨hS,?_⟩;clear hK K;refine wT0 7 (.bool bj) rfl (fun w' hw=>?_) hS ?_
 ·clear hw
  go_simp
 have HM:Hid (dn x i j n=dh x n bj (mR x i j n) (jZ i j)):=HM;refine wpAnyH_all (rs := [10]) (by kernel_rfl) (by decide) ?_;intro j hj;obtain rfl:j=10:=by simpa using hj
 refine wpOp_step rfl<|fun K hK => ?_;clear hj
 go_simp
 have hlz:w.heap.size+1+1+1+1<W.drew.heap.size:=by show _<W.heap.size; have:=Hs.out; omega
 refine(xI x n bj 239 240 _ _ (mR x i j n) (jZ i j) W.drew ?o1 ?o2 LG LH ?o3 ?o4).mono ?_
 case o1=>exact hoff
 case o2=>exact hcell
 case o3=>exact fun hm h1 h2 h3 w' hb=>have hq:=Np.up hS hb; II x i j n _ _ _ _ w' ⟨h1,h2⟩ hi hj0 hq.1 hq.2.2.2 hq.2.1 hq.2.2.1
 case o4=>exact fun h w' g hb=>have hq:=Np.up hS hb; IJ g _ _ i j w' (hbd h).1 (hbd h).2 hq.2.1 hq.2.2.1
 rintro e w2 ⟨rfl,hb2⟩;generalize dh x n bj (mR x i j n) (jZ i j)=r at *;have hz2:Hid (w2.heap[w.heap.size+1+1+1+1]? = some (.cells (bU .i64 54 zero) 82 (0,0))):=(hb2.block _ hlz).trans Hz.out;have hB2:Below w.heap.size w w2:=hB.trans ((bdr hb2).mono hB.size);have hS:=Np.up hS hb2;refine hK _ _ ⟨hS,?_⟩;clear hK K;clear hb2;refine wT0 11 (.agg (bU .i64 54 r.1)) rfl (fun w' hw=>?_) hS ?_
 ·clear hw
  go_simp
 refine wT0 12 (.int .i64 r.2) rfl (fun w' hw=>?_) hS ?_
 ·clear hw
  go_simp
 refine wpAnyH_all (rs := [13]) (by kernel_rfl) (by decide) ?_;intro j' hj';obtain rfl:j'=13:=by simpa using hj'
 clear hj';refine wQ (by rfl) (by rfl)<|fun K hK => ?_;refine wp_store_row 82 (.tmp 8) (.tmp 21) (by rfl) (w.heap.size+1+1+1+1) (bU .i64 54 r.1) (by rfl) (by rfl) 82 (bU .i64 54 zero) hz2.out (by rw[bQ]; exact oo) (by rw[bQ,bQ]) (oF _ _ _) ?_;have hend:=ko hB2 (by omega) hz2.out r.1;have hS:=hS.row (bU .i64 54 r.1);refine hK _ _ ⟨hS,?_⟩;clear hK K hz2 hB2;generalize w2.setRow (w.heap.size+1+1+1+1) (bU .i64 54 r.1)=w3 at *;refine wT0 14 (.int .i64 r.2) rfl (fun w' hw=>?_) hS ?_
 ·clear hw
  go_simp
 refine wpAnyH_done (by kernel_rfl) ?_ _;refine SX _ _<|wp_ret ?_;rw[HM.out];exact uQ (p:=8) (q:=9) (by kernel_rfl) (by kernel_rfl) (by kernel_rfl) (by kernel_rfl) hend.1 hend.2
end
namespace Rt
def L(x:Nat->Int)(k:Nat):Int:=G x k+F x k+R x 0 k+R x 1 k+R x 2 k+R x 3 k+R x 4 k+R x 5 k-C x k-R x k 0-R x k 1-R x k 2-R x k 3-R x k 4-R x k 5
def RA(x:Nat->Int):Prop := ∀ p,p<54->0<=x p/\x p<=1125899906842624
def All(x:Nat->Int):Prop := ∀ k,k<6->0<=L x k/\F x k<=C x k/\R x k k=0
def nT(x:Nat->Int):Int:=G x 0+G x 1+G x 2+G x 3+G x 4+G x 5
theorem ER{l:List Int}(h:nu l=true):nP l=(l.sum,true):=by unfold nP; rw[d_ h]
theorem RA.outs{x:Nat->Int}(h:RA x)(k:Nat)(b:k<6):nu (outs x k 6)=true:=by
 have e:=fun j (hj:j<6)=>h (18+k*6+j) (by omega);have c:=h (6+k) (by omega);unfold nu;rw[List.all_eq_true];intro n a;have:n=x (6+k)\/n=x (18+k*6+0)\/n=x (18+k*6+1)\/n=x (18+k*6+2)\/n=x (18+k*6+3)\/n=x (18+k*6+4)\/n=x (18+k*6+5):=by
  simpa [Rt.outs,C,R,or_assoc] using a
 unfold AO;rw[T_,decide_eq_true_eq,decide_eq_true_eq]
 rcases this with h|h|h|h|h|h|h <;> subst h
 ·exact c
 all_goals exact e _ (by omega)
theorem RA.ins{x:Nat->Int}(h:RA x)(k:Nat)(b:k<6):nu (ins x k 6)=true:=by
 have e:=fun j (hj:j<6)=>h (18+j*6+k) (by omega);have c:=h k (by omega);have f:=h (12+k) (by omega);unfold nu;rw[List.all_eq_true];intro n a;have:n=x k\/n=x (12+k)\/n=x (18+0*6+k)\/n=x (18+1*6+k)\/n=x (18+2*6+k)\/n=x (18+3*6+k)\/n=x (18+4*6+k)\/n=x (18+5*6+k):=by
  simpa [Rt.ins,G,F,R,or_assoc] using a
 unfold AO;rw[T_,decide_eq_true_eq,decide_eq_true_eq]
 rcases this with h|h|h|h|h|h|h|h <;> subst h
 ·exact c
 ·exact f
 all_goals exact e _ (by omega)
theorem Vg(x:Nat->Int)(k:Nat):(Rt.outs x k 6).sum=C x k+R x k 0+R x k 1+R x k 2+R x k 3+R x k 4+R x k 5:=by simp[Rt.outs]; omega
theorem YX(x:Nat->Int)(k:Nat):(Rt.ins x k 6).sum=G x k+F x k+R x 0 k+R x 1 k+R x 2 k+R x 3 k+R x 4 k+R x 5 k:=by simp[Rt.ins]; omega
theorem zK{x:Nat->Int}(h:RA x)(k:Nat)(a:k<6):localM x k=(L x k,true):=by
 unfold localM;rw[ER (h.outs k a),ER (h.ins k a),Vg,YX];unfold L;refine Prod.ext ?_ rfl
 dsimp only
 omega
theorem mI{x:Nat->Int}(h:may x=true):RA x:=by
 intro p e;by_cases a:p<6
 ·exact(xG h p a).g
 by_cases b:p<12
 ·have:=(xG h (p-6) (by omega)).c;unfold C at this; rwa [show 6+(p-6)=p by omega]at this
 by_cases d:p<18
 ·have:=(xG h (p-12) (by omega)).f;unfold F at this; rwa [show 12+(p-12)=p by omega]at this
 have:=(xG h ((p-18) / 6) (by omega)).r ((p-18) % 6) (by omega);unfold R at this; rwa [show 18+(p-18) / 6*6+(p-18) % 6=p by omega]at this
theorem abF{x:Nat->Int}(h:RA x):nu (gs x)=true:=by
 unfold nu;rw[List.all_eq_true];intro n a;have:n=x 0\/n=x 1\/n=x 2\/n=x 3\/n=x 4\/n=x 5:=by simpa [gs,or_assoc] using a
 unfold AO;rw[T_,decide_eq_true_eq,decide_eq_true_eq]
 rcases this with e|e|e|e|e|e <;> subst e <;> exact h _ (by omega)
theorem Vh(x:Nat->Int):(gs x).sum=nT x:=by simp[gs,nT,G]; omega
theorem kr(x:Nat->Int):may x=true<->RA x/\All x/\nT x<=1125899906842624:=by
 constructor
 ·intro h;have e:=mI h;refine⟨e,fun k d => ?_,?_⟩
  ·have o:=xG h k d;have:=o.l;rw[zK e k d]at this;exact⟨this,o.fc,o.rkk⟩
  unfold may at h;rw[T_,T_,ER (abF e),Vh]at h
  simpa using h.2.2
 rintro ⟨e,g,i⟩;have d : ∀ k,k<6->CO x k=true:=by
  intro k d;obtain⟨a,b,c⟩:=g k d;unfold CO;rw[zK e k d];simp only[T_,decide_eq_true_eq,beq_iff_eq];exact⟨⟨⟨trivial,a⟩,b⟩,c⟩
 have f : ∀ n,n<=6->Er x n=true:=by
  intro n
  induction n with
  | zero=>intro _; rfl
  | succ n ih=>intro f; rw[show Er x (n+1)=(Er x n&&CO x n)from rfl,ih (by omega),d n (by omega)]; rfl
 unfold may;rw[f 6 (by omega),ER (abF e),Vh,f_ i];rfl
theorem iZ{x:Nat->Int}(h:may x=true)(k:Nat)(a:k<6):bT x ((k:Int)+1)=L x k:=by
 unfold bT;rw[h,Bool.and_true,d_ (by unfold gG; simp; omega),show((k:Int)+1).toNat-1=k by omega,zK (mI h) k a]
def mV(x:Nat->Int):Int:=(C x 0-F x 0)+(C x 1-F x 1)+(C x 2-F x 2)+(C x 3-F x 3)+(C x 4-F x 4)+(C x 5-F x 5)
theorem yx(x:Nat->Int)(i j:Nat)(hi:i<6)(g:j<6)(d:Int)(a b:Nat)(ha:a<6)(f:b<6) :
 R (upd x (18+i*6+j) (x (18+i*6+j)+d)) a b=R x a b+(if a=i then if b=j then d else 0 else 0):=by
 unfold R upd;by_cases c:a=i
 ·by_cases e:b=j
  ·subst c e; simp
  rw[b_ (by omega),d_ c,b_ e]; omega
 rw[b_ (by omega),b_ c]; omega
theorem adI(x:Nat->Int)(i j:Nat)(hi:i<6)(a:j<6)(d:Int)(k:Nat)(b:k<6) :
 L (upd x (18+i*6+j) (x (18+i*6+j)+d)) k=L x k+(if k=j then d else 0)-(if k=i then d else 0):=by
 have l:G (upd x (18+i*6+j) (x (18+i*6+j)+d)) k=G x k:=gY _ _ _ _ (by omega);have f:C (upd x (18+i*6+j) (x (18+i*6+j)+d)) k=C x k:=gY _ _ _ _ (by omega);have g:F (upd x (18+i*6+j) (x (18+i*6+j)+d)) k=F x k:=gY _ _ _ _ (by omega);unfold L
 rw[l,f,g,yx x i j hi a d 0 k (by omega) b,yx x i j hi a d 1 k (by omega) b,yx x i j hi a d 2 k (by omega) b,yx x i j hi a d 3 k (by omega) b,yx x i j hi a d 4 k (by omega) b,yx x i j hi a d 5 k (by omega) b,
  yx x i j hi a d k 0 b (by omega),yx x i j hi a d k 1 b (by omega),yx x i j hi a d k 2 b (by omega),yx x i j hi a d k 3 b (by omega),yx x i j hi a d k 4 b (by omega),yx x i j hi a d k 5 b (by omega)]
 have c:(if 0=i then if k=j then d else 0 else 0)+(if 1=i then if k=j then d else 0 else 0)+(if 2=i then if k=j then d else 0 else 0)+(if 3=i then if k=j then d else 0 else 0)+(if 4=i then if k=j then d else 0 else 0)+(if 5=i then if k=j then d else 0 else 0)=(if k=j then d else 0):=by
  have:i=0\/i=1\/i=2\/i=3\/i=4\/i=5:=by omega
  rcases this with h|h|h|h|h|h <;> subst h <;> simp
 have e:(if k=i then if 0=j then d else 0 else 0)+(if k=i then if 1=j then d else 0 else 0)+(if k=i then if 2=j then d else 0 else 0)+(if k=i then if 3=j then d else 0 else 0)+(if k=i then if 4=j then d else 0 else 0)+(if k=i then if 5=j then d else 0 else 0)=(if k=i then d else 0):=by
  have:j=0\/j=1\/j=2\/j=3\/j=4\/j=5:=by omega
  rcases this with h|h|h|h|h|h <;> subst h <;> simp
 generalize (if 0=i then if k=j then d else 0 else 0)=a0 at *;generalize (if 1=i then if k=j then d else 0 else 0)=a1 at *;generalize (if 2=i then if k=j then d else 0 else 0)=a2 at *;generalize (if 3=i then if k=j then d else 0 else 0)=a3 at *;generalize (if 4=i then if k=j then d else 0 else 0)=a4 at *;generalize (if 5=i then if k=j then d else 0 else 0)=a5 at *;generalize (if k=i then if 0=j then d else 0 else 0)=b0 at *;generalize (if k=i then if 1=j then d else 0 else 0)=b1 at *;generalize (if k=i then if 2=j then d else 0 else 0)=b2 at *;generalize (if k=i then if 3=j then d else 0 else 0)=b3 at *;generalize (if k=i then if 4=j then d else 0 else 0)=b4 at *;generalize (if k=i then if 5=j then d else 0 else 0)=b5 at *;rw[<- c,<- e];omega
end Rt
structure uR where
 inn:Nat->Bool
 left:Nat->Bool
 known:Nat->Int
 na:Option Addr
 nn:Nat
 nc:Nat
 ga:Option Addr
 gn:Nat
 gc:Nat
def kI(s:uR):Nat->Value:=fun p=>if p<6 then .bool (s.inn p)else if p<12 then .bool (s.left (p-6))else if p<18 then aD (s.known (p-12))else if p=18 then .slice s.na s.nn s.nc else .slice s.ga s.gn s.gc
theorem yU(s:uR){p:Nat}(h:p<6):kI s p = .bool (s.inn p):=by unfold kI; rw[d_ h]
theorem ug(s:uR){p q:Nat}(h:p<6)(e:q=p+6):kI s q = .bool (s.left p):=by subst e; unfold kI; rw[b_ (by omega),d_ (by omega),Nat.add_sub_cancel]
theorem jV(s:uR){p q:Nat}(h:p<6)(e:q=p+12):kI s q=aD (s.known p):=by subst e; unfold kI; rw[b_ (by omega),b_ (by omega),d_ (by omega),Nat.add_sub_cancel]
def jW(id par:Int)(R:Nat->Int):Nat->Value:=fun p=>if p=0 then aD id else if p=1 then aD par else au (R (p-2))
theorem BN(id par:Int)(R:Nat->Int)(q:Nat):jW id par R (2+q)=rv .i64 R q:=by unfold jW rv; rw[b_ (by omega),b_ (by omega),Nat.add_sub_cancel_left]
def Nds(w:World)(a:Option Addr)(n:Nat)(id par:Nat->Int)(R:Nat->Nat->Int):Prop := ∀ k,k<n -> ∃ b c,a=some ⟨b,c,none⟩/\iU w b (c+56*k) 56 (jW (id k) (par k) (R k))
section
structure mo where
 s:uR
 id:Nat->Int
 par:Nat->Int
 R:Nat->Nat->Int
 g:Nat->Nat->Int
 tb:Nat
 ta:Option Addr
 tn:Nat
 tc:Nat
 t:Nat->Nat->Int
 ra:Nat->Option Addr
 rn:Nat->Nat
 rc:Nat->Nat
 rq:Nat->Nat->Int
structure dP where
 inn:Nat->Bool
 left:Nat->Bool
 known:Nat->Int
 nn:Nat
 id:Nat->Int
 par:Nat->Int
 R:Nat->Nat->Int
 gn:Nat
 g:Nat->Nat->Int
 tn:Nat
 t:Nat->Nat->Int
 rn:Nat->Nat
 rq:Nat->Nat->Int
def mo.core(m:mo):dP:=⟨m.s.inn,m.s.left,m.s.known,m.s.nn,m.id,m.par,m.R,m.s.gn,m.g,m.tn,m.t,m.rn,m.rq⟩
def mD(m:mo):Nat->Value:=fun p=>if p<20 then kI m.s p else if p=20 then(pt m.tb)else .slice (m.ra (p-21)) (m.rn (p-21)) (m.rc (p-21))
theorem kV(m:mo){p:Nat}{v:Value}(h:p<20)(e:kI m.s p=v):mD m p=v:=by unfold mD; rw[d_ h]; exact e
theorem xJ(m:mo){p q:Nat}(e:q=p+21):mD m q = .slice (m.ra p) (m.rn p) (m.rc p):=by
 subst e; unfold mD; rw[b_ (by omega),b_ (by omega),Nat.add_sub_cancel]
def jc(x:Nat->Int):Nat->Value:=fun p=>if p=0 then au (x 0)else if p=3 then au (x 3)else aD (x p)
def KE(m:mo):Nat->Value:=flat 56 fun k=>jW (m.id k) (m.par k) (m.R k)
def JO(m:mo):Nat->Value:=flat 5 fun k=>jc (m.g k)
def lS(c:Nat->Nat->Int):Nat->Int:=fun p=>c (p / 2) (p % 2)
def RB(t:Nat->Nat->Int):Nat->Value:=flat 2 fun k=>rv .u64 (t k)
structure CQ(w:World)(p:Nat)(m:mo):Prop where
 c:iU w p 0 27 (mD m)
 an:mP w m.s.na m.s.nn 56 (KE m)
 ag:mP w m.s.ga m.s.gn 5 (JO m)
 tc:iU w m.tb 0 1 (fun _ => .slice m.ta m.tn m.tc)
 at2:mP w m.ta m.tn 2 (RB m.t)
 ar : ∀ i,i<6->mP w (m.ra i) (m.rn i) 1 (rv .u64 (m.rq i))
 bn:m.s.nn<=1000000
 bg:m.s.gn<=1000000
 bt:m.tn<=1000000
 br : ∀ i,i<6->m.rn i<=1000000
section
variable {w w':World} {p:Nat} {m:mo}
theorem CQ.n(h:CQ w p m):Nds w m.s.na m.s.nn m.id m.par m.R:=fun _ a=>h.an.at a
theorem CQ.g(h:CQ w p m) : ∀ k,k<m.s.gn -> ∃ b a,m.s.ga=some ⟨b,a,none⟩/\iU w b (a+5*k) 5 (jc (m.g k)):=fun _ c=>h.ag.at c
theorem CQ.r(h:CQ w p m) : ∀ i,i<6 -> ∀ k,k<m.rn i -> ∃ b a,m.ra i=some ⟨b,a,none⟩/\iU w b (a+k) 1 (fun _=>aD (m.rq i k)):=fun i d k g=>by
 obtain⟨b,a,e,c⟩:=h.ar i d (by omega);refine⟨b,a,e,fun j f => ?_⟩;obtain rfl:j=0:=by omega
 exact c k (by omega)
end
def fK(P:Nat->Bool):Nat->Int
 | 0 => -1
 | n+1=>if 0<=fK P n then fK P n else if P n then(n:Int)else -1
theorem kg{P:Nat->Bool} : ∀ {n:Nat},(∀ i,i<n->P i=false)->fK P n = -1
 | 0,_=>rfl
 | n+1,h=>by
   have:=kg (P:=P) (n:=n) fun i a=>h i (by omega);simp only[fK]; rw[this,b_ (by omega),h n (by omega)]; rfl
theorem nU{P:Nat->Bool}{k:Nat}(a : ∀ i,i<k->P i=false)(b:P k=true) : ∀ {n:Nat},k<n->fK P n=(k:Int)
 | 0,h=>M_ h (by omega)
 | n+1,h=>by
   simp only[fK];by_cases e:k=n
   ·subst e; rw[kg a,b_ (by omega),b]; rfl
   ·rw[nU a b (n:=n) (by omega),d_ (by omega)]
theorem iR(P:Nat->Bool) : ∀ n:Nat,(∃ k:Nat,k<n/\fK P n=(k:Int)/\P k=true)\/(fK P n = -1 /\ ∀ i,i<n->P i=false)
 | 0 => .inr ⟨rfl,fun i h=>M_ h (by omega)⟩
 | n+1=>by
   rcases iR P n with ⟨k,d,e,a⟩|⟨e,a⟩
   ·exact .inl ⟨k,by omega,by simp only[fK]; rw[e,d_ (by omega)],a⟩
   ·by_cases h:P n=true
    ·exact .inl ⟨n,by omega,by simp only[fK]; rw[e,b_ (by omega),h]; rfl,h⟩
    ·rw[U_]at h;refine .inr ⟨by simp only[fK]; rw[e,b_ (by omega),h]; rfl,fun i c => ?_⟩;by_cases b:i=n
     ·subst b; exact h
     ·exact a i (by omega)
theorem sU{P:Nat->Bool}{k:Nat}(h : ∀ i,i<k->P i=false)(a:P k=false) : ∀ i,i<k+1->P i=false:=fun i b=>by
 by_cases e:i=k
 ·subst e; exact a
 ·exact h i (by omega)
def mo.node(m:mo)(id:Int):Int:=fK (fun i=>decide (m.id i=id)) m.s.nn
def mo.grant(m:mo)(o r:Int):Int:=fK (fun i=>decide (m.g i 0=o)&&decide (m.g i 1=r)) m.s.gn
def mo.lU(m:mo)(a:Nat)(r:Int):Int:=fK (fun i=>decide (m.rq a i=r)) (m.rn a)
structure FT(w:World)(tb:Nat)(ta:Option Addr)(tn tc:Nat)(t:Nat->Nat->Int):Prop where
 tc:iU w tb 0 1 (fun _ => .slice ta tn tc)
 t : ∀ k,k<tn -> ∃ b off,ta=some ⟨b,off,none⟩/\iU w b (off+2*k) 2 (rv .u64 (t k))
 bt:tn<=1000000
theorem FT.below{w w':World}{tb:Nat}{ta:Option Addr}{tn tc:Nat}{t:Nat->Nat->Int}(h:FT w tb ta tn tc t)(a:Below w.heap.size w w'):FT w' tb ta tn tc t where
 tc:=h.tc.below a (h.tc.lt (by omega))
 t:=fun k d=>by obtain⟨b,f,e,c⟩:=h.t k d; exact⟨b,f,e,c.below a (c.lt (by omega))⟩
 bt:=h.bt
def bC(t:Nat->Nat->Int)(tn:Nat)(x:Int):Int:=fK (fun i=>decide (t i 0=x)) tn
def bF(t:Nat->Nat->Int)(tn:Nat):Nat->Int->Int
 | 0,x=>x
 | k+1,x=>t (bC t tn (bF t tn k x)).toNat 1
def adJ:Value->Nat
 | .slice _ n _=>n
 | _=>0
end
theorem FU(m:mo)(p:Nat)(x:Int)(w:World)(h:CQ w p m) :
 Calls Tryz.prog 63 #[(pt p),aD x] w fun e w'=>e = .returned (au (m.node x))/\Below w.heap.size w w':=by
 have v:=h.c;have J:p<w.heap.size:=v.lt (by omega);have E:=h.bn;have D:=h.bg;have F:=h.bt;refine Kent Tryz.func63 28 ?_;refine ay<|av (au 0)<|aC<|Ws<|ay<|av (au 0)<|aC<|Wb<|Wo (fun f z => ∃ k:Nat,k<=m.s.nn/\(∀ i,i<k->(fun i=>decide (m.id i=x)) i=false)/\f 0=(pt p)/\f 1=aD x/\f 5=au (k:Int)/\iU z p 0 27 (mD m)/\Below w.heap.size w z) (fun f _=>(m.s.nn-(intOf (f 5)).toNat)) ⟨0,by omega,(fun i h=>M_ h (by omega)),(by rfl),Fx.ic,Fx.ic,v,(Below.refl w.heap.size w)⟩ ?_;rintro G K ⟨k,I,l,j,t,a,o,d⟩;refine Ws<|ay<|aU a<|aU j<|av (pt p)<|av (pt p)<|av (pf p 18)<|Lv (.slice m.s.na (m.s.nn) (m.s.nc)) (aL o 18)<|av (au m.s.nn) ?_;by_cases r:(k:Int)<(m.s.nn:Int)
 ·refine Lv aG (gM r)<|aC<|aM<|Wk<|sN<|Ws<|Wb<|Ws ?_;obtain⟨b,y,A,u⟩:=h.n k (by omega);have B:b<w.heap.size:=u.lt (by omega);have C:=u.below d B;refine Wl<|aU j<|av (pt p)<|av (pt p)<|av (pf p 18)<|Lv (.slice m.s.na (m.s.nn) (m.s.nc)) (aL o 18)<|aU a<|Lv (pf b (56*k+y)) (dw 56 (hx:=(rfl.trans (L_ (fun q=>Value.slice q (m.s.nn) (m.s.nc)) A))))<|av (pf b (56*k+y))<|Lv (aD (m.id k)) (aL C 0)<|aU t ?_;by_cases g:(m.id k)=x
  ·refine Lv aG (eH g)<|aC<|aM<|ay<|aU a<|av (au k)<|aC<|Wr<|bL<|sR<|pV<|bL<|sR<|aJ (au k) ?_;exact⟨oL (Eq.symm (nU l (f_ g) (by omega))),d⟩
  refine Lv aF (fC g)<|aC<|aK<|Wk<|bP<|sN<|Wl<|aU a<|Lv (au ((k:Int)+1)) fA<|av (au ((k:Int)+1))<|Ln<|gW ⟨k+1,by omega,(sU l (g_ g)),j,(t.trans Fx.ic),Fx.ic,o,d⟩ ?_;show(m.s.nn-(intOf (au ((k:Int)+1))).toNat)<_;simp only[a,intOf]; omega
 refine Lv aF (gN r)<|aC<|aK<|Wx<|bX<|gP<|bY<|sN<|ay<|av (au (-1))<|aC<|Wr<|aJ (au (-1)) ?_;exact⟨oL (Eq.symm (kg (fun i H=>l i (by omega)))),d⟩
theorem NY(tb:Nat)(ta:Option Addr)(tn tc:Nat)(t:Nat->Nat->Int)(x:Int)(w:World)(h:FT w tb ta tn tc t) :
 Calls Tryz.prog 83 #[(pt tb),aD x] w fun e w'=>e = .returned (au (bC t tn x))/\Below w.heap.size w w':=by
 have p:=h.tc;have D:tb<w.heap.size:=p.lt (by omega);have z:=h.bt;refine Kent Tryz.func83 26 ?_;refine ay<|av (au 0)<|aC<|Ws<|ay<|av (au 0)<|aC<|Wb<|Wo (fun f s => ∃ k:Nat,k<=tn/\(∀ i,i<k->(fun i=>decide (t i 0=x)) i=false)/\f 0=(pt tb)/\f 1=aD x/\f 5=au (k:Int)/\iU s tb 0 1 (fun _ => .slice ta tn tc)/\Below w.heap.size w s) (fun f _=>(tn-(intOf (f 5)).toNat)) ⟨0,by omega,(fun i h=>M_ h (by omega)),(by rfl),Fx.ic,Fx.ic,p,(Below.refl w.heap.size w)⟩ ?_;rintro A E ⟨k,C,j,g,n,a,l,c⟩;refine Ws<|ay<|aU a<|aU g<|av (pt tb)<|av (pt tb)<|Lv (.slice ta (tn) (tc)) (aL l 0)<|av (au tn) ?_;by_cases m:(k:Int)<(tn:Int)
 ·refine Lv aG (gM m)<|aC<|aM<|Wk<|sN<|Ws<|Wb<|Ws ?_;obtain⟨b,r,u,o⟩:=h.t k (by omega);have v:b<w.heap.size:=o.lt (by omega);have y:=o.below c v;refine Wl<|aU g<|av (pt tb)<|av (pt tb)<|Lv (.slice ta (tn) (tc)) (aL l 0)<|aU a<|Lv (pf b (2*k+r)) (dw 2 (hx:=(rfl.trans (L_ (fun q=>Value.slice q (tn) (tc)) u))))<|av (pf b (2*k+r))<|Lv (aD ((t k) 0)) (aL y 0)<|aU n ?_;by_cases d:((t k) 0)=x
  ·refine Lv aG (eH d)<|aC<|aM<|ay<|aU a<|av (au k)<|aC<|Wr<|bL<|sR<|pV<|bL<|sR<|aJ (au k) ?_;exact⟨oL (Eq.symm (nU j (f_ d) (by omega))),c⟩
  refine Lv aF (fC d)<|aC<|aK<|Wk<|bP<|sN<|Wl<|aU a<|Lv (au ((k:Int)+1)) fA<|av (au ((k:Int)+1))<|Ln<|gW ⟨k+1,by omega,(sU j (g_ d)),g,(n.trans Fx.ic),Fx.ic,l,c⟩ ?_;show(tn-(intOf (au ((k:Int)+1))).toNat)<_;simp only[a,intOf]; omega
 refine Lv aF (gN m)<|aC<|aK<|Wx<|bX<|gP<|bY<|sN<|ay<|av (au (-1))<|aC<|Wr<|aJ (au (-1)) ?_;exact⟨oL (Eq.symm (kg (fun i B=>j i (by omega)))),c⟩
theorem YZ{a b:Prop} [Decidable a] [Decidable b](h : ¬ a):(decide a&&decide b)=false:=by rw[g_ h]; rfl
theorem Y0{a b:Prop} [Decidable a] [Decidable b](h : ¬ b):(decide a&&decide b)=false:=by rw[g_ h,I_]
theorem Y1{a b:Prop} [Decidable a] [Decidable b](h:a)(c:b):(decide a&&decide b)=true:=by rw[f_ h,f_ c]; rfl
theorem Y2(m:mo)(p:Nat)(x r:Int)(w:World)(h:CQ w p m) :
 Calls Tryz.prog 160 #[(pt p),au x,aD r] w fun e w'=>e = .returned (au (m.grant x r))/\Below w.heap.size w w':=by
 have C:=h.c;have M:p<w.heap.size:=C.lt (by omega);have H:=h.bn;have G:=h.bg;have I:=h.bt;refine Kent Tryz.func160 43 ?_;refine ay<|av (au 0)<|aC<|Ws<|ay<|av (au 0)<|aC<|Wb<|Wo (fun f E => ∃ k:Nat,k<=m.s.gn/\(∀ i,i<k->(fun i=>decide (m.g i 0=x)&&decide (m.g i 1=r)) i=false)/\f 0=(pt p)/\f 1=au x/\f 2=aD r/\f 7=au (k:Int)/\iU E p 0 27 (mD m)/\Below w.heap.size w E) (fun f _=>(m.s.gn-(intOf (f 7)).toNat)) ⟨0,by omega,(fun i h=>M_ h (by omega)),(by rfl),Fx.ic,Fx.ic,Fx.ic,C,(Below.refl w.heap.size w)⟩ ?_;rintro J N ⟨k,L,t,j,v,y,a,l,d⟩;refine Ws<|ay<|aU a<|aU j<|av (pt p)<|av (pt p)<|av (pf p 19)<|Lv (.slice m.s.ga (m.s.gn) (m.s.gc)) (aL l 19)<|av (au m.s.gn) ?_;by_cases z:(k:Int)<(m.s.gn:Int)
 ·refine Lv aG (gM z)<|aC<|aM<|Wk<|sN<|Ws<|Wb<|Ws ?_;obtain⟨b,u,A,B⟩:=h.g k (by omega);have F:b<w.heap.size:=B.lt (by omega);have D:=B.below d F;refine Wl<|aU j<|av (pt p)<|av (pt p)<|av (pf p 19)<|Lv (.slice m.s.ga (m.s.gn) (m.s.gc)) (aL l 19)<|aU a<|Lv (pf b (5*k+u)) (dw 5 (hx:=(rfl.trans (L_ (fun q=>Value.slice q (m.s.gn) (m.s.gc)) A))))<|av (pf b (5*k+u))<|Lv (au (m.g k 0)) (aL D 0)<|aU v ?_;by_cases n:(m.g k 0)=x
  ·refine Lv aG (eH n)<|av aG<|aU j<|av (pt p)<|av (pt p)<|av (pf p 19)<|Lv (.slice m.s.ga (m.s.gn) (m.s.gc)) (aL l 19)<|aU a<|Lv (pf b (5*k+u)) (dw 5 (hx:=(rfl.trans (L_ (fun q=>Value.slice q (m.s.gn) (m.s.gc)) A))))<|av (pf b (5*k+u+1))<|Lv (aD (m.g k 1)) (aL D 1)<|aU y ?_;by_cases o:(m.g k 1)=r
   ·refine Lv aG (eH o)<|av aG<|aC<|aM<|ay<|aU a<|av (au k)<|aC<|Wr<|bL<|sR<|pV<|bL<|sR<|aJ (au k) ?_;exact⟨oL (Eq.symm (nU t (Y1 n o) (by omega))),d⟩
   refine Lv aF (fC o)<|av aF<|aC<|aK<|Wk<|bP<|sN<|Wl<|aU a<|Lv (au ((k:Int)+1)) fA<|av (au ((k:Int)+1))<|Ln<|gW ⟨k+1,by omega,(sU t (Y0 o)),j,(v.trans Fx.ic),(y.trans Fx.ic),Fx.ic,l,d⟩ ?_;show(m.s.gn-(intOf (au ((k:Int)+1))).toNat)<_;simp only[a,intOf]; omega
  refine Lv aF (fC n)<|av aF<|bO<|bO<|bO<|bO<|bO<|bO<|bO<|bO<|bO<|bO<|bO<|av aF<|aC<|aK<|Wk<|bP<|sN<|Wl<|aU a<|Lv (au ((k:Int)+1)) fA<|av (au ((k:Int)+1))<|Ln<|gW ⟨k+1,by omega,(sU t (YZ n)),j,(v.trans Fx.ic),(y.trans Fx.ic),Fx.ic,l,d⟩ ?_;show(m.s.gn-(intOf (au ((k:Int)+1))).toNat)<_;simp only[a,intOf]; omega
 refine Lv aF (gN z)<|aC<|aK<|Wx<|bX<|gP<|bY<|sN<|ay<|av (au (-1))<|aC<|Wr<|aJ (au (-1)) ?_;exact⟨oL (Eq.symm (kg (fun i K=>t i (by omega)))),d⟩
theorem adK{n:Int}{k:Nat}(h:n=(k:Int)):decide (0<=n)=true:=f_ (by omega)
theorem adL{n:Int}(h:n = -1):decide (0<=n)=false:=g_ (by omega)
theorem Y3(m:mo)(p a:Nat)(r:Int)(w:World)(h:CQ w p m)(ha:a<6) :
 Calls Tryz.prog 158 #[(pt p),au ((a:Int)+1),aD r] w fun e w'=>e = .returned (.bool (decide (0<=m.lU a r)))/\Below w.heap.size w w':=by
 have x:=h.c;have K:p<w.heap.size:=x.lt (by omega);have E:=h.bn;have D:=h.bg;have G:=h.bt;have F:=h.br a ha;refine Kent Tryz.func158 32 ?_;refine ay<|av aF<|aC<|Ws<|ay<|av (au 0)<|aC<|Wb<|Wo (fun f y => ∃ k:Nat,k<=m.rn a/\(∀ i,i<k->(fun i=>decide (m.rq a i=r)) i=false)/\f 0=(pt p)/\f 1=au ((a:Int)+1)/\f 2=aD r/\f 7=au (k:Int)/\iU y p 0 27 (mD m)/\Below w.heap.size w y) (fun f _=>(m.rn a-(intOf (f 7)).toNat)) ⟨0,by omega,(fun i h=>M_ h (by omega)),(by rfl),Fx.ic,Fx.ic,Fx.ic,x,(Below.refl w.heap.size w)⟩ ?_;rintro H L ⟨k,J,o,l,n,u,j,s,d⟩;refine Ws<|ay<|aU j<|aU l<|aU n<|Lv (au a) gQ<|av (pt p)<|av (pf p 21)<|Lv (pf p (a+21)) (jJ 6 1)<|Lv (.slice (m.ra a) (m.rn a) (m.rc a)) (aL s (a+21) (xJ _ (by omega)))<|av (au (((m.rn a):Nat):Int)) ?_;by_cases t:(k:Int)<(((m.rn a):Nat):Int)
 ·refine Lv aG (gM t)<|aC<|aM<|Wk<|sN<|Ws<|Wb<|Ws ?_;obtain⟨b,C,z,v⟩:=h.r a ha k (by omega);have A:b<w.heap.size:=v.lt (by omega);have B:=v.below d A;refine Wl<|aU l<|aU n<|Lv (au a) gQ<|av (pt p)<|av (pf p 21)<|Lv (pf p (a+21)) (jJ 6 1)<|Lv (.slice (m.ra a) (m.rn a) (m.rc a)) (aL s (a+21) (xJ _ (by omega)))<|aU j<|Lv (pf b (k+C)) (dw 1 (hx:=(rfl.trans (L_ (fun q=>Value.slice q (m.rn a) (m.rc a)) z))))<|Lv (aD (m.rq a k)) (aL B 0)<|aU u ?_;by_cases g:(m.rq a k)=r
  ·refine Lv aG (eH g)<|aC<|aM<|ay<|av aG<|aC<|Wr<|bL<|sR<|pV<|bL<|sR<|aJ aG ?_;exact⟨iD (Eq.symm (adK (nU o (f_ g) (by omega)))),d⟩
  refine Lv aF (fC g)<|aC<|aK<|Wk<|bP<|sN<|Wl<|aU j<|Lv (au ((k:Int)+1)) fA<|av (au ((k:Int)+1))<|Ln<|gW ⟨k+1,by omega,(sU o (g_ g)),l,(n.trans Fx.ic),(u.trans Fx.ic),Fx.ic,s,d⟩ ?_;show(m.rn a-(intOf (au ((k:Int)+1))).toNat)<_;simp only[j,intOf]; omega
 refine Lv aF (gN t)<|aC<|aK<|Wx<|bX<|gP<|bY<|sN<|ay<|av aF<|aC<|Wr<|aJ aF ?_;exact⟨iD (Eq.symm (adL (kg (fun i I=>o i (by omega))))),d⟩
namespace Rt
theorem RD{k:Nat}{X:Nat->Int}{z:Int}(a:X k=z) : ∀ j,j<(k+1)*1->ig (rv .u64 X) (k*1) (bB (fun j=>rv .u64 (fun _=>0) (j % 1)) (0*1) 1 (fun _=>aD z)) j=rv .u64 X j:=by
 intro j b;unfold ig;by_cases h:j<k*1
 ·rw[d_ h]
 rw[b_ h];have e:j=k:=by omega
 subst e;unfold bB rv;rw[d_ (by omega),a]
theorem PY{t:Nat->Nat->Int}{tn k D:Nat}{x:Int}(a:k<=D)(b:bC t tn (bF t tn D x)<0)(h:0<=bC t tn (bF t tn k x)):k+1<=D:=Nat.lt_of_le_of_ne a fun e=>by subst e; omega
theorem Vi{t:Nat->Nat->Int}{tn k:Nat}{x:Int}(h : ∀ i,i<k->0<=bC t tn (bF t tn i x))(a:0<=bC t tn (bF t tn k x)) : ∀ i,i<k+1->0<=bC t tn (bF t tn i x):=fun i b=>by
 by_cases e:i=k
 ·subst e; exact a
 ·exact h i (by omega)
theorem wz{t:Nat->Nat->Int}{tn:Nat}{x:Int}(h:0<=bC t tn x) : ∃ j:Nat,j<tn/\bC t tn x=(j:Int)/\t j 0=x:=by
 rcases iR (fun i=>decide (t i 0=x)) tn with ⟨k,a,e,b⟩|⟨e,_⟩
 ·exact⟨k,a,e,h_ b⟩
 unfold bC at h; rw[e]at h; omega
theorem RF{t:Nat->Nat->Int}{tn k j:Nat}{x:Int}(h:bC t tn (bF t tn k x)=(j:Int)):t j 1=bF t tn (k+1) x:=by
 show _=t (bC t tn (bF t tn k x)).toNat 1;rw[h]; rfl
end Rt
theorem PZ(tb:Nat)(ta:Option Addr)(tn tc:Nat)(t:Nat->Nat->Int)(x:Int)(w:World)(h:FT w tb ta tn tc t) :
 Calls Tryz.prog 175 #[(pt tb),aD x] w fun e w'=>e = .returned (.bool (decide (0<=bC t tn x)))/\Below w.heap.size w w':=by
 have d:=h.tc;have g:tb<w.heap.size:=d.lt (by omega);have f:=h.bt;refine Kent Tryz.func175 9 ?_;refine ay<|av aF<|aC<|ay<|av (pt tb)<|av (aD x)<|dH (NY tb ta tn tc t x _ (h.below (Below.refl w.heap.size w))) _ rfl ?_;intro i c;have b:=bf c (Below.refl w.heap.size w);by_cases a:0<=(bC t tn x)
 ·refine Lv aG (kR a)<|av aG<|aC<|Wr<|aJ aG ?_;exact⟨iD (Eq.symm (f_ a)),b⟩
 refine Lv aF (kJ a)<|av aF<|aC<|Wr<|aJ aF ?_;exact⟨iD (Eq.symm (g_ a)),b⟩
theorem JQ(tb:Nat)(ta:Option Addr)(tn tc:Nat)(t:Nat->Nat->Int)(x:Int)(D:Nat)(w:World)(h:FT w tb ta tn tc t)(O:bC t tn (bF t tn D x)<0)(hD2:D<=1000) :
 Calls Tryz.prog 45 #[(pt tb),aD x] w fun e w' => ∃ K v,e = .returned v/\Fx.Own w' w.heap.size 23 1 v K (rv .u64 (fun i=>bF t tn i x))/\(∀ i,i<K->0<=bC t tn (bF t tn i x))/\bC t tn (bF t tn K x)<0/\Below w.heap.size w w':=by
 have R:=h.tc;have lp:tb<w.heap.size:=R.lt (by omega);have bt:=h.bt;refine Kent Tryz.func45 25 ?_;refine ay<|av (.slice none 0 0)<|aC<|ay<|av (.slice none 0 0)<|aC<|Ws<|Wb ?_;have m1:Fx.Own w w.heap.size 23 1 (.slice none 0 0) 0 (rv .u64 (fun i=>bF t tn i x)):=tK _ _ _ _ _;refine Wo (fun f J => ∃ k:Nat,∃ a:Option Addr,∃ d:Nat,k<=D/\(∀ i,i<k->0<=bC t tn (bF t tn i x))/\f 0=(pt tb)/\f 1=aD (bF t tn k x)/\f 5 = .slice a (k) (d)/\iU J tb 0 1 (fun _ => .slice ta tn tc)/\Fx.Own J w.heap.size 23 1 (.slice a k d) k (rv .u64 (fun i=>bF t tn i x))/\Below w.heap.size w J) (fun f _=>(D-adJ (f 5))) ⟨0,none,0,by omega,(fun i h=>M_ h (by omega)),(by rfl),(by rfl),(by rfl),R,m1,(Below.refl w.heap.size w)⟩ ?_;rintro f1 w1 ⟨k,a,d,U,P,p,g,C,m2,m3,L⟩;refine Ws<|ay<|aU p<|aU g<|dH (NY tb ta tn tc t (bF t tn k x) _ (h.below L)) _ rfl ?_;intro w2 hb1;have⟨W,F,r⟩:=iy hb1 m2 m3 L;by_cases c:0<=(bC t tn (bF t tn k x))
 ·refine Lv aG (kR c)<|aC<|aM<|Wk<|sN<|Wb<|Ws ?_;obtain⟨j,T,M,_⟩:=wz c;refine Wl<|aU C<|aU g<|wV (vs := [(0,aD (bF t tn k x))]) (s:=1) (zc:=rv .u64 (fun _=>0)) (y:=bB (fun j=>(rv .u64 (fun _=>0)) (j % 1)) (0*1) 1 (fun _=>aD (bF t tn k x))) (by rfl) rfl rfl Tryz.underlying53 (by kernel_rfl) (by rfl) (by rfl) (by kernel_rfl) (by rw[aZ (off:=0*1) (s:=1) (y:=fun _=>aD (bF t tn k x)) rfl (cells_one (by rfl)) (by rfl)]; rfl) rfl fun N w3 A X s2 z1 => ?_;have⟨m7,G,u⟩:=iy s2.old W F r;have rF:=iw A r.size;have Aq:tb≠N:=by rw[A]; exact u_ (W.lt (by omega))
  have LJ:(.slice a k d:Value).ownBlock≠some N:=by rw[A]; exact F.jF (A_ _)
  have sQ:=X.lt;refine yc (B:=w.heap.size) (s:=1) (bytes:=8) (k:=k) (m:=1) (by rfl) rfl rfl rfl Tryz.underlying53 (by kernel_rfl) (by kernel_rfl) rfl rfl G X.aH (fun j T=>by rcases j with _|j <;> first|rfl|omega) (by omega) (by omega) (by omega) u.size fun o n I ho1 S tO hlt1 => ?_
  have E:iU I tb 0 1 (fun _ => .slice ta tn tc):=m7.grown S (G.not (by omega));have m9:Fx.Own I w.heap.size 23 1 (bK o (k+1) n) (k+1) (rv .u64 (fun i=>bF t tn i x)):=ho1.congr (RD rfl);have z:Below w.heap.size w I:=xZ u S u.size (fun q hq=>(G.ge hq).1);refine av (bK o (k+1) n)<|aC ?_;obtain⟨b,Y,ea,Q⟩:=h.t j T;have lb:b<w.heap.size:=Q.lt (by omega);have V:=Q.below z lb;refine nM<|eG p<|aW (pt tb)<|aW (pt tb)<|Qv (.slice ta (tn) (tc)) (fun H l=>aL (E.below l (E.lt (by omega))) 0)<|eG p<|eG g<|zY (fun H l=>((NY tb ta tn tc t (bF t tn k x) _ (h.below (Nn z l))).mono fun e w2 g=>(⟨g.1.trans (by rw[M]),g.2⟩:e = .returned (au (j:Int))/\_))) _ rfl<|Qv (pf b (2*j+Y)) (fun H l=>dw 2 (hx:=(rfl.trans (L_ (fun q=>Value.slice q (tn) (tc)) ea))))<|aW (pf b (2*j+Y+1))<|Qv (aD ((t j) 1)) (fun H l=>aL (V.below l (V.lt (by omega))) 1)<|aW (aD ((t j) 1))<|Qn ?_;intro YL uO;have⟨m12,m13,Z⟩:=iy uO E m9 z;refine bP ?_;have kD:=PY U O c;refine gW ⟨k+1,(some ⟨o,0,none⟩),n,(PY U O c),(Vi P c),p,(L_ (Value.int .u64) (RF M)),(by rfl),m12,m13,Z⟩ ?_;show(D-adJ (bK o (k+1) n))<_;simp only[C,intOf,adJ]; omega
 refine Lv aF (kJ c)<|aC<|aK<|Wx<|bX<|gP<|bY<|sN<|ay<|aU C<|av (.slice a (k) (d))<|aC<|Wr<|aJ (.slice a (k) (d)) ?_;exact⟨k,_,rfl,F,P,by omega,r⟩
namespace Rt
def mJ(k tb:Nat):mo := { s:=⟨fun i=>decide (i<k),fun _=>false,fun _=>0,none,0,0,none,0,0⟩,id:=fun _=>0,par:=fun _=>0,R:=fun _ _=>0,g:=fun _ _=>0,tb:=tb,ta:=none,tn:=0,tc:=0,t:=fun _ _=>0,ra:=fun _=>none,rn:=fun _=>0,rc:=fun _=>0,rq:=fun _ _=>0 }
theorem RG(k tb:Nat)(c:k<6):dB (mD (mJ k tb)) k (.bool true)=mD (mJ (k+1) tb):=by
 funext p
 unfold dB;by_cases e:p=k
 ·subst e; rw[d_ rfl];exact(kV _ (by omega) ((yU _ c).trans (L_ Value.bool (f_ (show p<p+1 by omega))))).symm
 rw[b_ e];unfold mD;by_cases h:p<20
 ·rw[d_ h,d_ h];unfold kI;by_cases a:p<6
  ·rw[d_ a,d_ a];show Value.bool (decide (p<k))=Value.bool (decide (p<k+1));by_cases b:p<k
   ·rw[f_ b,f_ (show p<k+1 by omega)]
   rw[g_ b,g_ (show ¬ p<k+1 by omega)]
  rw[b_ a,b_ a]; rfl
 rw[b_ h,b_ h]; rfl
end Rt
set_option maxRecDepth 10000 in
theorem aib(n:Nat)(w:World)(h1:1<=n)(R:n<=6) :
 Calls Tryz.prog 55 #[au (n:Int)] w fun e w' => ∃ p tb,e = .returned (.tuple #[(pt p),au 0])/\w.heap.size<=p/\CQ w' p (mJ n tb)/\Below w.heap.size w w'/\aP w' p 27 (mD (mJ n tb)) 56/\aP w' tb 1 (fun _ => .slice none 0 0) 156/\w.heap.size<=tb:=by
 refine Kent Tryz.func55 28 ?_;refine ay<|av (.pointer none)<|av (au 0)<|aC<|Ws<|ay<|av (au n)<|Lv aF Ij<|av aF<|av (au n)<|Lv aF yO<|av aF<|aC<|aK<|Wk<|sN<|ay<|av (.agg (aA 1 (fun _ => .slice none 0 0)))<|oz fun b X C o M Z => ?_;have t:=bf M.old (Below.refl w.heap.size w);have F:=gD C;have V:=o.lt;refine av (.agg (aA 27 (bB (fun i=>(#[.bool false,.bool false,.bool false,.bool false,.bool false,.bool false,.bool false,.bool false,.bool false,.bool false,.bool false,.bool false,aD 0,aD 0,aD 0,aD 0,aD 0,aD 0,.slice none 0 0,.slice none 0 0,.pointer none,.slice none 0 0,.slice none 0 0,.slice none 0 0,.slice none 0 0,.slice none 0 0,.slice none 0 0]:Array Value).getD i undef) 20 1 (fun _=>(pt b)))))<|DN (m:=27) (y:=bB (fun i=>(#[.bool false,.bool false,.bool false,.bool false,.bool false,.bool false,.bool false,.bool false,.bool false,.bool false,.bool false,.bool false,aD 0,aD 0,aD 0,aD 0,aD 0,aD 0,.slice none 0 0,.slice none 0 0,.pointer none,.slice none 0 0,.slice none 0 0,.slice none 0 0,.slice none 0 0,.slice none 0 0,.slice none 0 0]:Array Value).getD i undef) 20 1 (fun _=>(pt b))) (by rfl) rfl rfl (bE _ _) rfl fun a O v x N z2 => ?_;have⟨H,A⟩:=eU N.old o t;have G:=iw v t.size;have U:=cu v o.lt;have W:=x.lt;refine av (pt a)<|aC<|Ws<|ay<|av (au 0)<|aC<|Wb ?_;have I:aP O a 27 (mD (mJ 0 b)) 56:=x.congr (fun j S=>by rcases j with _|_|_|_|_|_|_|_|_|_|_|_|_|_|_|_|_|_|_|_|_|_|_|_|_|_|_|j <;> first|rfl|omega)
 refine Wo (fun f s => ∃ k:Nat,k<=n/\f 0=au (n:Int)/\f 4=(pt a)/\f 5=au (k:Int)/\aP s b 1 (fun _ => .slice none 0 0) 156/\aP s a 27 (mD (mJ k b)) 56/\Below w.heap.size w s) (fun f _=>(n-(intOf (f 5)).toNat)) ⟨0,by omega,Fx.ic,(by rfl),Fx.ic,H,I,A⟩ ?_;rintro Q Y ⟨k,T,h1,l,g,q,r,h⟩;refine Ws<|ay<|aU g<|aU h1 ?_;by_cases u:(k:Int)<(n:Int)
 ·refine Lv aG (gM u)<|aC<|aM<|Wk<|sN<|Ws<|Wb<|Wl<|aU l<|aU g<|av (pt a)<|av (pt a)<|av (pt a)<|Lv (pf a k) (jJ 6 1)<|ji r k aG fun P J z z3 => ?_;have K:=q.cZ z (by omega);have B:=z.below h h.size (by omega);refine Ln<|bP<|sN<|Wl<|aU g<|Lv (au ((k:Int)+1)) fA<|av (au ((k:Int)+1))<|Ln ?_;have L:aP P a 27 (mD (mJ (k+1) b)) 56:=J.to (RG k b (by omega))
  skip
  refine gW ⟨k+1,by omega,(h1.trans Fx.ic),l,Fx.ic,K,L,B⟩ ?_;show(n-(intOf (au ((k:Int)+1))).toNat)<_;simp only[g,intOf]; omega
 refine Lv aF (gN u)<|aC<|aK<|Wx<|bX<|gP<|bY<|sN<|ay<|aU l<|av (pt a)<|av (au 0)<|aC<|Wr<|aJ (.tuple #[(pt a),au 0]) ?_;have D:k=n:=by omega
 subst D;exact⟨_,_,rfl,G,{ c:=r.aH,an:=fun d=>M_ d (Nat.lt_irrefl 0),ag:=fun d=>M_ d (Nat.lt_irrefl 0),tc:=q.aH,at2:=fun d=>M_ d (Nat.lt_irrefl 0),ar:=fun i E d=>M_ d (Nat.lt_irrefl 0),bn:=K_ _,bg:=K_ _,bt:=K_ _,br:=fun i E=>K_ _ },h,r,q,F⟩
namespace Rt
def CS(t:Nat->Nat->Int)(n k:Nat):Nat->Nat->Int:=fun i=>if i<=k then(if i<n then t i else fun _=>0)else t (i-1)
def qj(t:Nat->Nat->Int)(k:Nat)(id par:Int):Nat->Nat->Int:=fun i=>if i<k then t i else if i=k then(fun j=>if j=0 then id else par)else t (i-1)
theorem uS{w:World}{B tb tn tc:Nat}{ta:Option Addr}{t:Nat->Nat->Int}(b:aP w tb 1 (fun _ => .slice ta tn tc) 156)(a:Fx.Own w B 153 2 (.slice ta tn tc) tn (rv .u64 (lS t)))(j:tn<=1000):FT w tb ta tn tc t where
 tc:=b.aH
 t:=fun k h=>by
  obtain⟨g,d,e,_,_,_,c⟩:=a.form (by omega);simp only[Value.slice.injEq,true_and]at e;refine⟨g,0,e.1,fun i f => ?_⟩;have:=c (2*k+i) (by omega);rw[G_]at this;rw[G_,this];show some (Value.int .u64 (t ((2*k+i) / 2) ((2*k+i) % 2)))=some (Value.int .u64 (t k i));rw[show(2*k+i) / 2=k by omega,show(2*k+i) % 2=i by omega]
 bt:=by omega
theorem yN(t:Nat->Nat->Int)(n:Nat) : ∀ j,j<(n+1)*2->ig (rv .u64 (lS t)) (n*2) (bB (fun j=>rv .u64 (fun _=>0) (j % 2)) (0*2) 2 (rv .u64 (fun _=>0))) j=rv .u64 (lS (CS t n n)) j:=fun j a=>by
 unfold ig;by_cases h:j<n*2
 ·rw[d_ h];show Value.int .u64 (t (j / 2) (j % 2))=Value.int .u64 (CS t n n (j / 2) (j % 2));unfold CS; rw[d_ (by omega),d_ (by omega)]
 ·rw[b_ h];unfold bB; rw[d_ (by omega)];show Value.int .u64 0=Value.int .u64 (CS t n n (j / 2) (j % 2));unfold CS; rw[d_ (by omega),b_ (by omega)]
theorem Aj{t:Nat->Nat->Int}{n k j p:Nat}(a:p=2*j)(h:j<k)(b:k<=n):rv .u64 (lS (CS t n k)) p=aD (t j 0):=by
 subst a;show Value.int .u64 (CS t n k (2*j / 2) (2*j % 2))=_;unfold CS; rw[d_ (by omega),d_ (by omega),show 2*j / 2=j by omega,show 2*j % 2=0 by omega]
theorem Vj{t:Nat->Nat->Int}{n k j i:Nat}(h:j<k)(a:k<=n)(hi:i<2):rv .u64 (lS (CS t n k)) (2*j+i)=rv .u64 (t j) i:=by
 show Value.int .u64 (CS t n k ((2*j+i) / 2) ((2*j+i) % 2))=Value.int .u64 (t j i);unfold CS; rw[d_ (by omega),d_ (by omega),show(2*j+i) / 2=j by omega,show(2*j+i) % 2=i by omega]
theorem zB{t:Nat->Nat->Int}{n k j:Nat}(e:k=j+1)(_hk:k<=n) : ∀ p,p<(n+1)*2->bB (rv .u64 (lS (CS t n k))) (2*k) 2 (rv .u64 (t j)) p=rv .u64 (lS (CS t n j)) p:=fun p b=>by
 unfold bB;by_cases h:2*k<=p/\p<2*k+2
 ·rw[d_ h];show Value.int .u64 (t j (p-2*k))=Value.int .u64 (CS t n j (p / 2) (p % 2));unfold CS; rw[b_ (by omega),show p / 2-1=j by omega,show p-2*k=p % 2 by omega]
 ·rw[b_ h];show Value.int .u64 (CS t n k (p / 2) (p % 2))=Value.int .u64 (CS t n j (p / 2) (p % 2));unfold CS;by_cases a:p / 2<=j
  ·rw[d_ (by omega),d_ a]
  ·rw[b_ (by omega),b_ a]
theorem uL{t:Nat->Nat->Int}{n k:Nat}{id par:Int}(_hk:k<=n) : ∀ p,p<(n+1)*2->bB (rv .u64 (lS (CS t n k))) (2*k) 2 (bB (bB (rv .u64 (fun _=>0)) 0 1 (fun _=>aD id)) 1 1 (fun _=>aD par)) p=rv .u64 (lS (qj t k id par)) p:=fun p c=>by
 by_cases h:2*k<=p/\p<2*k+2
 ·rw[bB,d_ h];show _=Value.int .u64 (qj t k id par (p / 2) (p % 2));unfold qj; rw[b_ (by omega),d_ (by omega)];by_cases b:p=2*k
  ·subst b; rw[show 2*k-2*k=0 by omega,d_ (by omega)]; rfl
  ·rw[show p-2*k=1 by omega,b_ (by omega)]; rfl
 ·rw[bB,b_ h];show Value.int .u64 (CS t n k (p / 2) (p % 2))=Value.int .u64 (qj t k id par (p / 2) (p % 2));unfold CS qj;by_cases a:p / 2<k
  ·rw[d_ (by omega),d_ (by omega),d_ a]
  ·rw[b_ (by omega),b_ a,b_ (by omega)]
def DW(t:Nat->Nat->Int)(tn:Nat)(x:Int):Prop := ∀ i,i<4->0<=bC t tn (bF t tn i x)
theorem LK{t:Nat->Nat->Int}{tn K:Nat}{x:Int}(h : ∀ i,i<K->0<=bC t tn (bF t tn i x))(a:4<=K):DW t tn x:=fun i b=>h i (by omega)
theorem ES{t:Nat->Nat->Int}{tn K:Nat}{x:Int}(h:bC t tn (bF t tn K x)<0)(a:K<4) : ¬ DW t tn x:=fun b=>by have:=b K a; omega
open Classical in
noncomputable def jP(t:Nat->Nat->Int)(tn:Nat)(id par:Int):Int:=if id=0 then 1 else if 0<=bC t tn id then 14 else if par≠0/\bC t tn par<0 then 9 else if 32<=tn\/DW t tn par then 6 else 0
theorem P5{t:Nat->Nat->Int}{n k j:Nat}{id:Int}(e:k=j+1)(h : ∀ i,k<=i->i<n->id<t i 0)(c:id<t j 0) : ∀ i,j<=i->i<n->id<t i 0:=fun i d b=>by
 by_cases a:i=j
 ·subst a; exact c
 ·exact h i (by omega) b
end Rt
set_option maxRecDepth 10000 in
theorem aic(B:Nat)(tb:Nat)(ta:Option Addr)(tn tc:Nat)(t:Nat->Nat->Int)(id par:Int)(D:Nat)(w:World)(P:aP w tb 1 (fun _ => .slice ta tn tc) 156)(X:Fx.Own w B 153 2 (.slice ta tn tc) tn (rv .u64 (lS t)))(hne:(Value.slice ta tn tc).ownBlock≠some tb)(hB:B<=w.heap.size)(Q:tn<=1000)(hD:bC t tn (bF t tn D par)<0)(hD2:D<=1000) :
 Calls Tryz.prog 157 #[(pt tb),aD id,aD par] w fun e w'=>e = .returned (au (jP t tn id par))/\jM (fun k=>k=tb\/(Value.slice ta tn tc).ownBlock=some k) w w'/\((jP t tn id par≠0/\aP w' tb 1 (fun _ => .slice ta tn tc) 156/\Fx.Own w' B 153 2 (.slice ta tn tc) tn (rv .u64 (lS t)))\/(jP t tn id par=0 /\ ∃ g cap,aP w' tb 1 (fun _=>bK g (tn+1) cap) 156/\Fx.Own w' B 153 2 (bK g (tn+1) cap) (tn+1) (rv .u64 (lS (qj t (down (fun i=>decide (id<t i 0)) tn) id par)))/\(Value.slice (some ⟨g,0,none⟩) (tn+1) cap).ownBlock≠some tb)):=by
 have lp:tb<w.heap.size:=P.lt;refine Kent Tryz.func157 89 ?_;refine ay<|av (au 0)<|aC<|Ws<|ay<|av (aD id) ?_;by_cases q:id=0
 ·refine Lv aG (eH q)<|aC<|aM<|ay<|av (au 1)<|aC<|Wr<|sR<|aJ (au 1) ?_;have c:jP t tn id par=1:=by unfold jP; rw[d_ q]
  exact⟨oL c.symm,(uW (fun k=>k=tb\/(Value.slice ta tn tc).ownBlock=some k) w),.inl ⟨by rw[c]; decide,P,X⟩⟩
 refine Lv aF (fC q)<|aC<|aK<|Wk<|sN<|Ws<|ay<|av (pt tb)<|av (aD id) ?_;by_cases p:(decide (0<=bC t tn id))=true
 ·refine dH (PZ tb ta tn tc t id _ (uS P X Q)) aG (by rw[p]) ?_;intro w1 hb1;have s1:=Sb hb1;have⟨m1,m2⟩:=eU hb1 P X;have b1:=(uW (fun k=>k=tb\/(Value.slice ta tn tc).ownBlock=some k) w).then s1 (.inr (uW (fun k=>k=tb\/(Value.slice ta tn tc).ownBlock=some k) w).size);refine aC<|aM<|ay<|av (au 14)<|aC<|Wr<|sR<|aJ (au 14) ?_;have c:jP t tn id par=14:=by unfold jP; rw[b_ q,d_ (h_ p)]
  exact⟨oL c.symm,b1,.inl ⟨by rw[c]; decide,m1,m2⟩⟩
 rw[U_]at p;refine dH (PZ tb ta tn tc t id _ (uS P X Q)) aF (by rw[p]) ?_;intro w2 hb2;have s2:=Sb hb2;have⟨E,L⟩:=eU hb2 P X;have F:=(uW (fun k=>k=tb\/(Value.slice ta tn tc).ownBlock=some k) w).then s2 (.inr (uW (fun k=>k=tb\/(Value.slice ta tn tc).ownBlock=some k) w).size);refine aC<|aK<|Wk<|sN<|Ws<|ay<|av (aD par) ?_;by_cases G:par=0
 ·refine Lv aF (jG G)<|av aF<|bO<|bO<|bO<|bO<|av aF<|aC<|aK<|Wk<|sN<|Ws<|ay<|av (pt tb)<|av (pt tb)<|av (pt tb)<|Lv (.slice ta (tn) (tc)) (aL E.aH 0)<|av (au tn) ?_;by_cases T:32<=(tn:Int)
  ·refine Lv aG (kR T)<|av aG<|bO<|bO<|bO<|bO<|bO<|av aG<|aC<|aM<|ay<|av (au 6)<|aC<|Wr<|sR<|aJ (au 6) ?_;have c:jP t tn id par=6:=(by unfold jP; rw[b_ q,b_ (j_ p),b_ (fun h=>h.1 G),d_ (.inl (by omega))]);exact⟨oL c.symm,F,.inl ⟨by rw[c]; decide,E,L⟩⟩
  refine Lv aF (kJ T)<|av aF<|av (pt tb)<|av (aD par)<|lD (JQ tb ta tn tc t par D _ (uS E L Q) hD hD2) ?_;rintro e w3 ⟨K,vv,Y,hown,tX,W,hb3⟩;obtain⟨a1,n,rfl⟩:=hown.val;refine⟨.slice a1 K n,Y,?_⟩;clear Y hown;have s3:=Sb hb3;have⟨m5,m6⟩:=eU hb3 E L;have b3:=F.then s3 (.inr F.size);refine av (au K) ?_;by_cases U:4<=(K:Int)
  ·refine Lv aG (kR U)<|av aG<|aC<|aM<|ay<|av (au 6)<|aC<|Wr<|sR<|aJ (au 6) ?_;have c:jP t tn id par=6:=(by unfold jP; rw[b_ q,b_ (j_ p),b_ (fun h=>h.1 G),d_ (.inr (LK tX (by omega)))]);exact⟨oL c.symm,b3,.inl ⟨by rw[c]; decide,m5,m6⟩⟩
  refine Lv aF (kJ U)<|av aF<|aC<|aK<|Wk<|sN<|ay<|av (pt tb)<|av (pt tb)<|av (pt tb)<|Lv (.slice ta (tn) (tc)) (aL m5.aH 0)<|av (au tn)<|av (au tn)<|aC<|ay<|av (pt tb)<|av (pt tb)<|av (pt tb)<|av (pt tb)<|Lv (.slice ta (tn) (tc)) (aL m5.aH 0)<|av (.agg (aA 2 (rv .u64 (fun _=>0))))<|wV (vs := [(0,.agg (aA 2 (rv .u64 (fun _=>0))))]) (s:=2) (zc:=rv .u64 (fun _=>0)) (y:=bB (fun j=>(rv .u64 (fun _=>0)) (j % 2)) (0*2) 2 (rv .u64 (fun _=>0))) (by rfl) rfl rfl Tryz.underlying154 (by kernel_rfl) (by rfl) (by rfl) (by kernel_rfl) (by rw[aZ (off:=0*2) (s:=2) (y:=rv .u64 (fun _=>0)) rfl (bE _ _) (by rfl)]; rfl) rfl fun g1 w4 kQ m7 s4 z1 => ?_;have⟨m8,m9⟩:=eU s4.old m5 m6;have b4:=b3.then s4 (.inr b3.size);have rF:=iw kQ b3.size;have LJ:=cu kQ m5.lt;have aie:(.slice ta tn tc:Value).ownBlock≠some g1:=by rw[kQ]; exact m6.jF (A_ _)
  have sQ:=m7.lt;refine yc (B:=B) (s:=2) (bytes:=16) (k:=tn) (m:=1) (v := .slice ta tn tc) (by rfl) rfl rfl rfl Tryz.underlying154 (by kernel_rfl) (by kernel_rfl) rfl rfl m9 m7.aH (fun j Z=>by rcases j with _|_|j <;> first|rfl|omega) (by omega) (by omega) (by omega) (m_ hB b4.size) fun d n w5 ho1 hg1 tO hlt1 => ?_
  have m11:aP w5 tb 1 (fun _ => .slice ta tn tc) 156:=m8.grown hg1 hne;have aif:tb≠d:=fun e=>tO.elim (fun x=>hne (by rw[x,e])) (fun x=>by have:=m8.lt; omega);have m10:Fx.Own w5 B 153 2 (bK d (tn+1) n) (tn+1) (rv .u64 (lS (CS t tn tn))):=ho1.congr (yN t tn);have b5:jM (fun k=>k=tb\/(Value.slice ta tn tc).ownBlock=some k) w w5:=Fx.jM.grow b4 hg1 (fun k e => .inl (.inr e));have adM:(fun k=>k=tb\/(Value.slice ta tn tc).ownBlock=some k) d\/w.heap.size<=d:=tO.elim (fun e => .inl (.inr e)) (fun e => .inr (by rw[e]; exact b4.size));refine av (pt tb)<|av (pt tb)<|ji m11 0 (bK d (tn+1) n) fun w6 m12 s5 z2 => ?_;have m13:aP w6 tb 1 (fun _=>bK d (tn+1) n) 156:=dD m12;have m14:=m10.acL s5 (by omega);have b6:=b5.then s5 (.inl (.inl rfl));refine aC<|Ws<|Wb<|Wo (fun f M => ∃ k:Nat,k<=tn/\(∀ i,k<=i->i<tn->id<t i 0)/\f 0=(pt tb)/\f 1=aD id/\f 2=aD par/\f 7=au (k:Int)/\aP M tb 1 (fun _=>bK d (tn+1) n) 156/\Fx.Own M B 153 2 (bK d (tn+1) n) (tn+1) (rv .u64 (lS (CS t tn k)))/\jM (fun k=>k=tb\/(Value.slice ta tn tc).ownBlock=some k) w M) (fun f _=>(intOf (f 7)).toNat) ⟨tn,by omega,(fun i r N=>M_ r (by omega)),(by rfl),Fx.ic,Fx.ic,Fx.ic,m13,m14,b6⟩ ?_;rintro f1 w7 ⟨k,hk,J,r,N,h3,A,R,m16,b7⟩;refine Ws<|ay<|aU A ?_;by_cases V:0<(k:Int)
  ·obtain⟨j,H⟩ : ∃ j,k=j+1:=⟨k-1,by omega⟩;refine Lv aG (ni V)<|av aG<|aU r<|av (pt tb)<|av (pt tb)<|Lv (bK d (tn+1) n) (aL R.aH 0)<|aU A<|Lv (au j) gQ<|Lv (pf d (2*j)) (dw 2)<|av (pf d (2*j))<|Lv (aD (t j 0)) (aL m16.aH (2*j) (Aj (by omega) (by omega) (by omega)))<|aU N ?_;by_cases u:id<(t j 0)
   ·refine Lv aG (ni u)<|av aG<|aC<|aM<|Wk<|sN<|Wb<|Ws ?_;refine Wt 14 (by kernel_rfl) (by kernel_rfl) fun rE dR iK => ?_;have s6:Stp w7.heap.size w7 rE:=Sb dR;have⟨m17,m18⟩:=eU dR R m16;have b8:=b7.then s6 (.inr b7.size);refine qO (pt tb) (TI r)<|Fy (pt tb)<|Fy (pt tb)<|qO (bK d (tn+1) n) (aL m17.aH 0)<|qO (au k) (TI A)<|qO (pt tb) (TI r)<|Fy (pt tb)<|Fy (pt tb)<|qO (bK d (tn+1) n) (aL m17.aH 0)<|qO (au k) (TI A)<|qO (au j) gQ<|qO (pf d (2*j)) (dw 2)<|qO (.agg (aA 2 (rv .u64 (t j)))) (eT m18.aH (2*j) (fun i hi=>Vj (by omega) (by omega) hi))<|qO (pf d (2*k)) (dw 2)<|Fx.St.nil ?_;refine AB m18 (2*k) fun w8 m19 s7 z3 => ?_;have m20:=m17.cZ s7 (by omega);have b9:=b8.then s7 adM;have m21:Fx.Own w8 B 153 2 (bK d (tn+1) n) (tn+1) (rv .u64 (lS (CS t tn j))):=m19.congr (zB H (by omega));refine aC<|Wl<|aU A<|Lv (au j) gQ<|av (au j)<|Ln<|bP<|gW ⟨j,by omega,(P5 H J u),r,(N.trans Fx.ic),(h3.trans Fx.ic),Fx.ic,m20,m21,b9⟩ ?_;show(intOf (au j)).toNat<_;simp only[A,intOf]; omega
   refine Lv aF (nk u)<|av aF<|aC<|aK<|Wx<|bX<|gP<|bY<|sN<|ay<|aU r<|av (pt tb)<|av (pt tb)<|Lv (bK d (tn+1) n) (aL R.aH 0)<|aU A<|aU N<|aU h3<|av (.agg (aA 2 (bB (bB (rv .u64 (fun _=>0)) 0 1 (fun _=>aD id)) 1 1 (fun _=>aD par))))<|Lv (pf d (2*k)) (dw 2)<|AB m16 (2*k) (h1:=(fun j Z=>by rcases j with _|_|j <;> first|rfl|omega)) fun w9 m22 s8 z4 => ?_
   have m23:=R.cZ s8 (by omega);have b10:=b7.then s8 adM;have m24:Fx.Own w9 B 153 2 (bK d (tn+1) n) (tn+1) (rv .u64 (lS (qj t k id par))):=m22.congr (uL (by omega));refine aC<|ay<|av (au 0)<|aC<|Wr<|aJ (au 0) ?_;have c:jP t tn id par=0:=(by unfold jP; rw[b_ q,b_ (j_ p),b_ (fun h=>h.1 G),b_ (fun h=>h.elim (fun h=>by omega) (ES W (by omega)))]);have I:k=down (fun i=>decide (id<t i 0)) tn:=Fx.qo hk (fun i a b=>f_ (J i a b)) (.inr (fun j e=>by have x:j=_:=Nat.succ.inj (e.symm.trans H); subst x; exact g_ u));exact⟨oL c.symm,b10,.inr ⟨c,d,n,m23,by rw[<- I]; exact m24,fun e=>aif (C_ e).symm⟩⟩
  refine Lv aF (nk V)<|av aF<|bO<|bO<|bO<|bO<|bO<|bO<|bO<|bO<|bO<|bO<|bO<|av aF<|aC<|aK<|Wx<|bX<|gP<|bY<|sN<|ay<|aU r<|av (pt tb)<|av (pt tb)<|Lv (bK d (tn+1) n) (aL R.aH 0)<|aU A<|aU N<|aU h3<|av (.agg (aA 2 (bB (bB (rv .u64 (fun _=>0)) 0 1 (fun _=>aD id)) 1 1 (fun _=>aD par))))<|Lv (pf d (2*k)) (dw 2)<|AB m16 (2*k) (h1:=(fun j Z=>by rcases j with _|_|j <;> first|rfl|omega)) fun pJ mZ s9 z5 => ?_
  have nQ:=R.cZ s9 (by omega);have b11:=b7.then s9 adM;have nH:Fx.Own pJ B 153 2 (bK d (tn+1) n) (tn+1) (rv .u64 (lS (qj t k id par))):=mZ.congr (uL (by omega));refine aC<|ay<|av (au 0)<|aC<|Wr<|aJ (au 0) ?_;have c:jP t tn id par=0:=by unfold jP; rw[b_ q,b_ (j_ p),b_ (fun h=>h.1 G),b_ (fun h=>h.elim (fun h=>by omega) (ES W (by omega)))]
  have I:k=down (fun i=>decide (id<t i 0)) tn:=Fx.qo hk (fun i a b=>f_ (J i a b)) (.inl (by omega));exact⟨oL c.symm,b11,.inr ⟨c,d,n,nQ,by rw[<- I]; exact nH,fun e=>aif (C_ e).symm⟩⟩
 refine Lv aG (mG G)<|av aG<|av (pt tb)<|av (aD par) ?_;by_cases z:(decide (0<=bC t tn par))=true
 ·refine dH (PZ tb ta tn tc t par _ (uS E L Q)) aG (by rw[z]) ?_;intro DV hb4;have s10:=Sb hb4;have⟨og,oh⟩:=eU hb4 E L;have b12:=F.then s10 (.inr F.size);refine av aF<|av aF<|aC<|aK<|Wk<|sN<|Ws<|ay<|av (pt tb)<|av (pt tb)<|av (pt tb)<|Lv (.slice ta (tn) (tc)) (aL og.aH 0)<|av (au tn) ?_;by_cases T:32<=(tn:Int)
  ·refine Lv aG (kR T)<|av aG<|bO<|bO<|bO<|bO<|bO<|av aG<|aC<|aM<|ay<|av (au 6)<|aC<|Wr<|sR<|aJ (au 6) ?_;have c:jP t tn id par=6:=(by unfold jP; rw[b_ q,b_ (j_ p),b_ (fun h=>by have:=h_ z; omega),d_ (.inl (by omega))]);exact⟨oL c.symm,b12,.inl ⟨by rw[c]; decide,og,oh⟩⟩
  refine Lv aF (kJ T)<|av aF<|av (pt tb)<|av (aD par)<|lD (JQ tb ta tn tc t par D _ (uS og oh Q) hD hD2) ?_;rintro e Ct ⟨K,vv,Y,hown,tX,W,hb5⟩;obtain⟨a1,n,rfl⟩:=hown.val;refine⟨.slice a1 K n,Y,?_⟩;clear Y hown;have s11:=Sb hb5;have⟨oD,lI⟩:=eU hb5 og oh;have b13:=b12.then s11 (.inr b12.size);refine av (au K) ?_;by_cases U:4<=(K:Int)
  ·refine Lv aG (kR U)<|av aG<|aC<|aM<|ay<|av (au 6)<|aC<|Wr<|sR<|aJ (au 6) ?_;have c:jP t tn id par=6:=(by unfold jP; rw[b_ q,b_ (j_ p),b_ (fun h=>by have:=h_ z; omega),d_ (.inr (LK tX (by omega)))]);exact⟨oL c.symm,b13,.inl ⟨by rw[c]; decide,oD,lI⟩⟩
  refine Lv aF (kJ U)<|av aF<|aC<|aK<|Wk<|sN<|ay<|av (pt tb)<|av (pt tb)<|av (pt tb)<|Lv (.slice ta (tn) (tc)) (aL oD.aH 0)<|av (au tn)<|av (au tn)<|aC<|ay<|av (pt tb)<|av (pt tb)<|av (pt tb)<|av (pt tb)<|Lv (.slice ta (tn) (tc)) (aL oD.aH 0)<|av (.agg (aA 2 (rv .u64 (fun _=>0))))<|wV (vs := [(0,.agg (aA 2 (rv .u64 (fun _=>0))))]) (s:=2) (zc:=rv .u64 (fun _=>0)) (y:=bB (fun j=>(rv .u64 (fun _=>0)) (j % 2)) (0*2) 2 (rv .u64 (fun _=>0))) (by rfl) rfl rfl Tryz.underlying154 (by kernel_rfl) (by rfl) (by rfl) (by kernel_rfl) (by rw[aZ (off:=0*2) (s:=2) (y:=rv .u64 (fun _=>0)) rfl (bE _ _) (by rfl)]; rfl) rfl fun g3 EM yE m32 s12 z6 => ?_;have⟨pE,nR⟩:=eU s12.old oD lI;have b14:=b13.then s12 (.inr b13.size);have Bp:=iw yE b13.size;have anr:=cu yE oD.lt;have ant:(.slice ta tn tc:Value).ownBlock≠some g3:=by rw[yE]; exact lI.jF (A_ _)
  have Hg:=m32.lt;refine yc (B:=B) (s:=2) (bytes:=16) (k:=tn) (m:=1) (v := .slice ta tn tc) (by rfl) rfl rfl rfl Tryz.underlying154 (by kernel_rfl) (by kernel_rfl) rfl rfl nR m32.aH (fun j Z=>by rcases j with _|_|j <;> first|rfl|omega) (by omega) (by omega) (by omega) (m_ hB b14.size) fun l o KD ho2 hg2 NZ hlt2 => ?_
  have nS:aP KD tb 1 (fun _ => .slice ta tn tc) 156:=pE.grown hg2 hne;have aii:tb≠l:=fun e=>NZ.elim (fun x=>hne (by rw[x,e])) (fun x=>by have:=pE.lt; omega);have pF:Fx.Own KD B 153 2 (bK l (tn+1) o) (tn+1) (rv .u64 (lS (CS t tn tn))):=ho2.congr (yN t tn);have b15:jM (fun k=>k=tb\/(Value.slice ta tn tc).ownBlock=some k) w KD:=Fx.jM.grow b14 hg2 (fun k e => .inl (.inr e));have adN:(fun k=>k=tb\/(Value.slice ta tn tc).ownBlock=some k) l\/w.heap.size<=l:=NZ.elim (fun e => .inl (.inr e)) (fun e => .inr (by rw[e]; exact b14.size));refine av (pt tb)<|av (pt tb)<|ji nS 0 (bK l (tn+1) o) fun Lp qW s13 z7 => ?_;have qB:aP Lp tb 1 (fun _=>bK l (tn+1) o) 156:=dD qW;have pK:=pF.acL s13 (by omega);have b16:=b15.then s13 (.inl (.inl rfl));refine aC<|Ws<|Wb<|Wo (fun f M => ∃ k:Nat,k<=tn/\(∀ i,k<=i->i<tn->id<t i 0)/\f 0=(pt tb)/\f 1=aD id/\f 2=aD par/\f 7=au (k:Int)/\aP M tb 1 (fun _=>bK l (tn+1) o) 156/\Fx.Own M B 153 2 (bK l (tn+1) o) (tn+1) (rv .u64 (lS (CS t tn k)))/\jM (fun k=>k=tb\/(Value.slice ta tn tc).ownBlock=some k) w M) (fun f _=>(intOf (f 7)).toNat) ⟨tn,by omega,(fun i r N=>M_ r (by omega)),(by rfl),Fx.ic,Fx.ic,Fx.ic,qB,pK,b16⟩ ?_;rintro f2 w16 ⟨k,hk,J,O,h6,h7,C,S,mh,b17⟩;refine Ws<|ay<|aU C ?_;by_cases V:0<(k:Int)
  ·obtain⟨j,H⟩ : ∃ j,k=j+1:=⟨k-1,by omega⟩;refine Lv aG (ni V)<|av aG<|aU O<|av (pt tb)<|av (pt tb)<|Lv (bK l (tn+1) o) (aL S.aH 0)<|aU C<|Lv (au j) gQ<|Lv (pf l (2*j)) (dw 2)<|av (pf l (2*j))<|Lv (aD (t j 0)) (aL mh.aH (2*j) (Aj (by omega) (by omega) (by omega)))<|aU h6 ?_;by_cases u:id<(t j 0)
   ·refine Lv aG (ni u)<|av aG<|aC<|aM<|Wk<|sN<|Wb<|Ws ?_;refine Wt 14 (by kernel_rfl) (by kernel_rfl) fun CJ gJ nZ => ?_;have Cr:Stp w16.heap.size w16 CJ:=Sb gJ;have⟨lM,mH⟩:=eU gJ S mh;have b18:=b17.then Cr (.inr b17.size);refine qO (pt tb) (TI O)<|Fy (pt tb)<|Fy (pt tb)<|qO (bK l (tn+1) o) (aL lM.aH 0)<|qO (au k) (TI C)<|qO (pt tb) (TI O)<|Fy (pt tb)<|Fy (pt tb)<|qO (bK l (tn+1) o) (aL lM.aH 0)<|qO (au k) (TI C)<|qO (au j) gQ<|qO (pf l (2*j)) (dw 2)<|qO (.agg (aA 2 (rv .u64 (t j)))) (eT mH.aH (2*j) (fun i hi=>Vj (by omega) (by omega) hi))<|qO (pf l (2*k)) (dw 2)<|Fx.St.nil ?_;refine AB mH (2*k) fun Ur qg s15 z8 => ?_;have qh:=lM.cZ s15 (by omega);have b19:=b18.then s15 adN;have om:Fx.Own Ur B 153 2 (bK l (tn+1) o) (tn+1) (rv .u64 (lS (CS t tn j))):=qg.congr (zB H (by omega));refine aC<|Wl<|aU C<|Lv (au j) gQ<|av (au j)<|Ln<|bP<|gW ⟨j,by omega,(P5 H J u),O,(h6.trans Fx.ic),(h7.trans Fx.ic),Fx.ic,qh,om,b19⟩ ?_;show(intOf (au j)).toNat<_;simp only[C,intOf]; omega
   refine Lv aF (nk u)<|av aF<|aC<|aK<|Wx<|bX<|gP<|bY<|sN<|ay<|aU O<|av (pt tb)<|av (pt tb)<|Lv (bK l (tn+1) o) (aL S.aH 0)<|aU C<|aU h6<|aU h7<|av (.agg (aA 2 (bB (bB (rv .u64 (fun _=>0)) 0 1 (fun _=>aD id)) 1 1 (fun _=>aD par))))<|Lv (pf l (2*k)) (dw 2)<|AB mh (2*k) (h1:=(fun j Z=>by rcases j with _|_|j <;> first|rfl|omega)) fun Ut rW s16 z9 => ?_
   have wh:=S.cZ s16 (by omega);have b20:=b17.then s16 adN;have uD:Fx.Own Ut B 153 2 (bK l (tn+1) o) (tn+1) (rv .u64 (lS (qj t k id par))):=rW.congr (uL (by omega));refine aC<|ay<|av (au 0)<|aC<|Wr<|aJ (au 0) ?_;have c:jP t tn id par=0:=(by unfold jP; rw[b_ q,b_ (j_ p),b_ (fun h=>by have:=h_ z; omega),b_ (fun h=>h.elim (fun h=>by omega) (ES W (by omega)))]);have I:k=down (fun i=>decide (id<t i 0)) tn:=Fx.qo hk (fun i a b=>f_ (J i a b)) (.inr (fun j e=>by have x:j=_:=Nat.succ.inj (e.symm.trans H); subst x; exact g_ u));exact⟨oL c.symm,b20,.inr ⟨c,l,o,wh,by rw[<- I]; exact uD,fun e=>aii (C_ e).symm⟩⟩
  refine Lv aF (nk V)<|av aF<|bO<|bO<|bO<|bO<|bO<|bO<|bO<|bO<|bO<|bO<|bO<|av aF<|aC<|aK<|Wx<|bX<|gP<|bY<|sN<|ay<|aU O<|av (pt tb)<|av (pt tb)<|Lv (bK l (tn+1) o) (aL S.aH 0)<|aU C<|aU h6<|aU h7<|av (.agg (aA 2 (bB (bB (rv .u64 (fun _=>0)) 0 1 (fun _=>aD id)) 1 1 (fun _=>aD par))))<|Lv (pf l (2*k)) (dw 2)<|AB mh (2*k) (h1:=(fun j Z=>by rcases j with _|_|j <;> first|rfl|omega)) fun w19 qX KC z10 => ?_
  have vJ:=S.cZ KC (by omega);have NU:=b17.then KC adN;have uZ:Fx.Own w19 B 153 2 (bK l (tn+1) o) (tn+1) (rv .u64 (lS (qj t k id par))):=qX.congr (uL (by omega));refine aC<|ay<|av (au 0)<|aC<|Wr<|aJ (au 0) ?_;have c:jP t tn id par=0:=by unfold jP; rw[b_ q,b_ (j_ p),b_ (fun h=>by have:=h_ z; omega),b_ (fun h=>h.elim (fun h=>by omega) (ES W (by omega)))]
  have I:k=down (fun i=>decide (id<t i 0)) tn:=Fx.qo hk (fun i a b=>f_ (J i a b)) (.inl (by omega));exact⟨oL c.symm,NU,.inr ⟨c,l,o,vJ,by rw[<- I]; exact uZ,fun e=>aii (C_ e).symm⟩⟩
 rw[U_]at z;refine dH (PZ tb ta tn tc t par _ (uS E L Q)) aF (by rw[z]) ?_;intro Uw hb6;have Nq:=Sb hb6;have⟨uE,wm⟩:=eU hb6 E L;have PL:=F.then Nq (.inr F.size);refine av aG<|av aG<|aC<|aM<|ay<|av (au 9)<|aC<|Wr<|sR<|aJ (au 9) ?_;have c:jP t tn id par=9:=by unfold jP; rw[b_ q,b_ (j_ p),d_ ⟨G,by have:=j_ z; omega⟩]
 exact⟨oL c.symm,PL,.inl ⟨by rw[c]; decide,uE,wm⟩⟩
namespace Rt
def jE(o a:Int):Int:=if 1<=o/\o<=6/\1<=a/\a<1099511627776 then 1099511627776*o+a else 0
end Rt
theorem anu(o a:Int)(w:World) :
 Calls Tryz.prog 156 #[au o,aD a] w fun e w'=>e = .returned (aD (jE o a))/\w'=w:=by
 refine Kent Tryz.func156 24 ?_;refine ay<|av (aD 0)<|aC<|Ws<|ay<|av (au o) ?_;by_cases f:o<1
 ·refine Lv aG (gM f)<|av aG<|bO<|bO<|av aG<|av aG<|bO<|bO<|av aG<|av aG<|bO<|bO<|av aG<|aC<|aM<|ay<|av (aD 0)<|aC<|Wr<|sR<|aJ (aD 0) ?_;exact⟨L_ (fun q=>Ending.returned (Value.int .u64 q)) (Eq.symm (by unfold jE; rw[b_ (by omega)])),rfl⟩
 refine Lv aF (gN f)<|av aF<|av (au o) ?_;by_cases g:6<o
 ·refine Lv aG (ni g)<|av aG<|av aG<|bO<|bO<|av aG<|av aG<|bO<|bO<|av aG<|aC<|aM<|ay<|av (aD 0)<|aC<|Wr<|sR<|aJ (aD 0) ?_;exact⟨L_ (fun q=>Ending.returned (Value.int .u64 q)) (Eq.symm (by unfold jE; rw[b_ (by omega)])),rfl⟩
 refine Lv aF (nk g)<|av aF<|av aF<|av (aD a) ?_;by_cases c:a<1
 ·refine Lv aG (gM c)<|av aG<|av aG<|bO<|bO<|av aG<|aC<|aM<|ay<|av (aD 0)<|aC<|Wr<|sR<|aJ (aD 0) ?_;exact⟨L_ (fun q=>Ending.returned (Value.int .u64 q)) (Eq.symm (by unfold jE; rw[b_ (by omega)])),rfl⟩
 refine Lv aF (gN c)<|av aF<|av aF<|av (aD a) ?_;by_cases d:1099511627776<=a
 ·refine Lv aG (kR d)<|av aG<|aC<|aM<|ay<|av (aD 0)<|aC<|Wr<|sR<|aJ (aD 0) ?_;exact⟨L_ (fun q=>Ending.returned (Value.int .u64 q)) (Eq.symm (by unfold jE; rw[b_ (by omega)])),rfl⟩
 refine Lv aF (kJ d)<|av aF<|aC<|aK<|Wk<|sN<|ay<|av (au o)<|Lv (aD o) (dA rfl rfl (by kernel_rfl) Tryz.underlying23 (jS (by omega) rfl))<|Lv (aD (1099511627776*o)) (Fx.KX (b:=40) rfl rfl rfl (by decide) (jS (by omega) (by omega)))<|av (aD a)<|Lv (aD (1099511627776*o+a)) fA<|av (aD (1099511627776*o+a))<|aC<|Wr<|aJ (aD (1099511627776*o+a)) ?_;exact⟨L_ (fun q=>Ending.returned (Value.int .u64 q)) (Eq.symm (by unfold jE; rw[d_ (by omega)])),rfl⟩
theorem abG(a:Option Addr)(n cap:Nat)(w:World) :
 Calls Tryz.prog 9 #[.slice a (n) (cap)] w fun e w'=>e = .returned (.bool (decide ((n:Int)<=60)))/\w'=w:=by
 refine Kent Tryz.func9 6 ?_;refine ay<|av aF<|aC<|ay<|av (.slice a (n) (cap))<|av (au n) ?_;by_cases b:(n:Int)<=60
 ·refine Lv aG (nL b)<|av aG<|aC<|Wr<|aJ aG ?_;exact⟨iD (Eq.symm (f_ b)),rfl⟩
 refine Lv aF (ow b)<|av aF<|aC<|Wr<|aJ aF ?_;exact⟨iD (Eq.symm (g_ b)),rfl⟩
section
theorem app0{s:Nat}{x y:Nat->Value}(j:Nat):ig x (0*s) y j=y j:=by unfold ig; rw[Nat.zero_mul,b_ (z_ _)]; rfl
theorem qE(id par:Int)(R:Nat->Int)(j:Nat):(jW id par R j).oneCell'=true:=by unfold jW; split <;> (try split) <;> rfl
theorem N7(id par:Int)(R:Nat->Int){q p:Nat}(h:q=p+2):jW id par R q=au (R p):=by subst h; unfold jW; rw[b_ (by omega),b_ (by omega),Nat.add_sub_cancel]
theorem sH(x:Nat->Int)(j:Nat):(jc x j).oneCell'=true:=by unfold jc; split <;> (try split) <;> rfl
theorem Y4(m:mo)(j:Nat):(KE m j).oneCell'=true:=qE _ _ _ _
theorem Y5(m:mo)(j:Nat):(JO m j).oneCell'=true:=sH _ _
theorem P6(m:uR)(j:Nat):(kI m j).oneCell'=true:=by unfold kI; repeat (first|rfl|split)
def uJ(m:mo)(i:Nat):Value := .slice (m.ra i) (m.rn i) (m.rc i)
def xK(w:World)(B k:Nat)(m:mo):Prop :=
 (∀ i,i<k->Fx.Own w B 23 1 (uJ m i) (m.rn i) (rv .u64 (m.rq i))) /\ ∀ i j,i<k->j<k->i≠j -> ∀ g,(uJ m i).ownBlock=some g->(uJ m j).ownBlock≠some g
section
variable {w w':World} {B k:Nat} {m:mo}
theorem xK.up(h:xK w B k m)(a:Below w.heap.size w w'):xK w' B k m:=⟨fun i b=>(h.1 i b).up a,h.2⟩
instance:Rt.Tr w w' (xK w B k m) (xK w' B k m):=⟨fun b h=>h.up b⟩
theorem xK.lu{a:List TypeId}(h:xK w B k m)(c:iF a w w')(d:a.contains 23=false):xK w' B k m:=⟨fun i b=>(h.1 i b).lu c d,h.2⟩
instance {a:List TypeId}:Rt.Tc a w w' (xK w B k m) (xK w' B k m) (!(a.contains 23)):=⟨fun b h e=>h.lu b (by simpa using e)⟩
theorem xK.zero(w:World)(B:Nat)(m:mo):xK w B 0 m:=⟨fun _ h=>M_ h (z_ _),fun _ _ h=>M_ h (z_ _)⟩
theorem xK.fresh(h:xK w B k m){v:Value}(c:v = .slice none 0 0\/v.ownBlock=(Value.slice none 0 0).ownBlock\/v.ownBlock=some w.heap.size) : ∀ i,i<k -> ∀ g,(uJ m i).ownBlock=some g->v.ownBlock≠some g:=fun i b g a e=>by
 have d:=((h.1 i b).ge a).2
 rcases c with rfl|e2|e2
 ·cases e
 ·rw[e]at e2; cases e2
 ·rw[e]at e2; have:=C_ e2; omega
theorem xK.snoc{a:mo}(h:xK w B k m)(c : ∀ i,i<k->uJ a i=uJ m i/\a.rn i=m.rn i/\a.rq i=m.rq i)(s:Fx.Own w B 23 1 (uJ a k) (a.rn k) (rv .u64 (a.rq k)))(l : ∀ i,i<k -> ∀ g,(uJ m i).ownBlock=some g->(uJ a k).ownBlock≠some g):xK w B (k+1) a:=by
 refine⟨fun i t => ?_,fun i j t u n g b => ?_⟩
 ·by_cases e:i=k
  ·subst e; exact s
  obtain⟨p,q,r⟩:=c i (by omega);rw[p,q,r]; exact h.1 i (by omega)
 by_cases o:i=k
 ·subst o;by_cases d:j=i
  ·exact M_ d.symm n
  intro f;rw[(c j (by omega)).1]at f;exact l j (by omega) g f b
 rw[(c i (by omega)).1]at b;by_cases d:j=k
 ·subst d; exact l i (by omega) g b
 rw[(c j (by omega)).1]; exact h.2 i j (by omega) (by omega) n g b
end
structure uh(w:World)(B p:Nat)(m:mo):Prop where
 c:aP w p 27 (mD m) 56
 n:Fx.Own w B 84 56 (.slice m.s.na m.s.nn m.s.nc) m.s.nn (KE m)
 g:Fx.Own w B 106 5 (.slice m.s.ga m.s.gn m.s.gc) m.s.gn (JO m)
 tc:aP w m.tb 1 (fun _ => .slice m.ta m.tn m.tc) 156
 t:Fx.Own w B 153 2 (.slice m.ta m.tn m.tc) m.tn (RB m.t)
 r:xK w B 6 m
 pB:B<=p
 tB:B<=m.tb
 bn:m.s.nn<=1000
 bg:m.s.gn<=1000000
 bt:m.tn<=1000
 br : ∀ i,i<6->m.rn i<=1000000
section
variable {w w':World} {B p:Nat} {m:mo}
theorem uh.ldg(h:uh w B p m):CQ w p m where
 c:=h.c.aH
 an:=h.n.arr
 ag:=h.g.arr
 tc:=h.tc.aH
 at2:=h.t.arr
 ar:=fun i a=>(h.r.1 i a).arr
 bn:=by have:=h.bn; omega
 bg:=h.bg
 bt:=by have:=h.bt; omega
 br:=h.br
theorem uh.up(h:uh w B p m)(a:Below w.heap.size w w'):uh w' B p m := { h with c:=h.c.cZ (Sb a) (u_ h.c.lt),n:=h.n.up a,g:=h.g.up a,tc:=h.tc.cZ (Sb a) (u_ h.tc.lt),t:=h.t.up a,r:=h.r.up a }
instance:Rt.Tr w w' (uh w B p m) (uh w' B p m):=⟨fun b h=>h.up b⟩
def LM:List Nat := [56,84,106,156,153,23]
theorem uh.lu{e:List TypeId}(h:uh w B p m)(b:iF e w w')(i:(LM.all fun T => !e.contains T)=true):uh w' B p m:=by
 have a : ∀ d∈LM,e.contains d=false:=fun d f=>by
  have:=List.all_eq_true.1 i d f
  simpa using this
 exact { h with
  c:=h.c.lu b (a _ (by decide)),n:=h.n.lu b (a _ (by decide)),g:=h.g.lu b (a _ (by decide)),tc:=h.tc.lu b (a _ (by decide)),t:=h.t.lu b (a _ (by decide)),r:=h.r.lu b (a _ (by decide)) }
instance {a:List TypeId}:Rt.Tc a w w' (uh w B p m) (uh w' B p m) (LM.all fun T => !a.contains T):=⟨fun b h e=>h.lu b (by simpa using e)⟩
theorem uh.mono{b:Nat}(h:uh w B p m)(a:b<=B):uh w b p m := { h with n:=h.n.mono a,g:=h.g.mono a,t:=h.t.mono a,r:=⟨fun i c=>(h.r.1 i c).mono a,h.r.2⟩,pB:=m_ a h.pB,tB:=m_ a h.tB }
end
def LP(m:mo)(na:Option Addr)(nc:Nat)(ga:Option Addr)(gc tb:Nat)(ta:Option Addr)(tc:Nat)(ra:Nat->Option Addr)(rc:Nat->Nat)(k:Nat):mo :=
 { m with s := { m.s with na:=na,nc:=nc,ga:=ga,gc:=gc },tb:=tb,ta:=ta,tc:=tc,ra:=fun i=>if i<k then ra i else none,rn:=fun i=>if i<k then m.rn i else 0,rc:=fun i=>if i<k then rc i else 0 }
def aI{a:Type}(f:Nat->a)(k:Nat)(v:a):Nat->a:=fun i=>if i=k then v else f i
section
variable {m:mo} {na:Option Addr} {nc:Nat} {ga:Option Addr} {gc tb:Nat} {ta:Option Addr} {tc:Nat} {ra:Nat->Option Addr} {rc:Nat->Nat} {k:Nat}
theorem Y6{q:Nat}(h:q=k+21):mD (LP m na nc ga gc tb ta tc ra rc k) q = .slice none 0 0:=by
 subst h;rw[xJ (p:=k) _ rfl];show Value.slice (if k<k then ra k else none) (if k<k then m.rn k else 0) (if k<k then rc k else 0)=_;rw[b_ (Nat.lt_irrefl _),b_ (Nat.lt_irrefl _),b_ (Nat.lt_irrefl _)]
theorem zL{i:Nat}(h:i<k):uJ (LP m na nc ga gc tb ta tc ra rc k) i = .slice (ra i) (m.rn i) (rc i):=by
 show Value.slice (if i<k then ra i else none) (if i<k then m.rn i else 0) (if i<k then rc i else 0)=_;rw[d_ h,d_ h,d_ h]
theorem Vk{a:Option Addr}{c q:Nat}(f:q=k+21):dB (mD (LP m na nc ga gc tb ta tc ra rc k)) q (.slice a (m.rn k) c)=mD (LP m na nc ga gc tb ta tc (aI ra k a) (aI rc k c) (k+1)):=by
 subst f
 funext p
 unfold dB;by_cases e:p=k+21
 ·subst e; rw[d_ rfl];rw[xJ (p:=k) _ rfl];show _=Value.slice (if k<k+1 then aI ra k a k else none) (if k<k+1 then m.rn k else 0) (if k<k+1 then aI rc k c k else 0);simp[aI]
 rw[b_ e];unfold mD;by_cases h:p<20
 ·rw[d_ h,d_ h]; rfl
 rw[b_ h,b_ h];by_cases b:p=20
 ·rw[d_ b,d_ b]; rfl
 rw[b_ b,b_ b];show Value.slice (if p-21<k then ra (p-21)else none) (if p-21<k then m.rn (p-21)else 0) (if p-21<k then rc (p-21)else 0)=Value.slice (if p-21<k+1 then aI ra k a (p-21)else none) (if p-21<k+1 then m.rn (p-21)else 0) (if p-21<k+1 then aI rc k c (p-21)else 0);by_cases d:p-21<k
 ·simp[aI,d,show p-21<k+1 by omega,show ¬ p-21=k by omega]
 simp[d,show ¬ p-21<k+1 by omega]
theorem Y7{w:World}{B:Nat}{a:Option Addr}{c:Nat}(h:xK w B k (LP m na nc ga gc tb ta tc ra rc k))(e:Fx.Own w B 23 1 (.slice a (m.rn k) c) (m.rn k) (rv .u64 (m.rq k)))
 (f : ∀ i,i<k -> ∀ g,(uJ (LP m na nc ga gc tb ta tc ra rc k) i).ownBlock=some g->(Value.slice a (m.rn k) c).ownBlock≠some g):xK w B (k+1) (LP m na nc ga gc tb ta tc (aI ra k a) (aI rc k c) (k+1)):=by
 have b:uJ (LP m na nc ga gc tb ta tc (aI ra k a) (aI rc k c) (k+1)) k = .slice a (m.rn k) c:=by
  rw[zL (by omega)]; unfold aI; rw[d_ rfl,d_ rfl]
 refine h.snoc (fun i d=>⟨?_,?_,rfl⟩) ?_ ?_
 ·rw[zL (by omega),zL d]; unfold aI; rw[b_ (by omega),b_ (by omega)]
 ·show(if i<k+1 then m.rn i else 0)=(if i<k then m.rn i else 0);rw[d_ (by omega),d_ d]
 ·rw[b];show Fx.Own w B 23 1 _ (if k<k+1 then m.rn k else 0) _;rw[d_ (by omega)]; exact e
 rw[b]; exact f
end
def atM(m:mo)(na:Option Addr)(nc:Nat)(ga:Option Addr)(gc tb:Nat)(ta:Option Addr)(tc:Nat)(ra:Nat->Option Addr)(rc:Nat->Nat):mo :=
 { m with s := { m.s with na:=na,nc:=nc,ga:=ga,gc:=gc },tb:=tb,ta:=ta,tc:=tc,ra:=ra,rc:=rc }
section
variable {m:mo} {na:Option Addr} {nc:Nat} {ga:Option Addr} {gc tb:Nat} {ta:Option Addr} {tc:Nat} {ra:Nat->Option Addr} {rc:Nat->Nat}
theorem aij : ∀ j,j<27->mD (LP m na nc ga gc tb ta tc ra rc 6) j=mD (atM m na nc ga gc tb ta tc ra rc) j:=fun j b=>by
 unfold mD;by_cases h:j<20
 ·rw[d_ h,d_ h]; rfl
 ·rw[b_ h,b_ h];by_cases a:j=20
  ·rw[d_ a,d_ a]; rfl
  ·rw[b_ a,b_ a];show Value.slice (if j-21<6 then ra (j-21)else none) (if j-21<6 then m.rn (j-21)else 0) (if j-21<6 then rc (j-21)else 0)=Value.slice (ra (j-21)) (m.rn (j-21)) (rc (j-21));rw[d_ (by omega),d_ (by omega),d_ (by omega)]
theorem Y8{w:World}{B:Nat}(h:xK w B 6 (LP m na nc ga gc tb ta tc ra rc 6)):xK w B 6 (atM m na nc ga gc tb ta tc ra rc):=by
 refine⟨fun i a => ?_,fun i j a b d g c => ?_⟩
 ·have:=h.1 i a;rw[zL a]at this;have e:(LP m na nc ga gc tb ta tc ra rc 6).rn i=m.rn i:=by show(if i<6 then m.rn i else 0)=_; rw[d_ a]
  rw[e]at this;exact this
 have:=h.2 i j a b d g;rw[zL a,zL b]at this;exact this c
end
end
end Go.Proofs.YtcbedgfikejkoaaGreatDoor
