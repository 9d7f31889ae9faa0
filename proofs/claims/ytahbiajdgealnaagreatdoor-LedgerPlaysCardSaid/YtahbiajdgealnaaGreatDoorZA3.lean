/-
  What the proof of the law rests on, part 3: walks of functions, and plain laws; each says its conditions itself.
-/
import Derived.Test.YtahbiajdgealnaaGreatDoorRows
import Derived.BigRegion
import Derived.Deep.DeepCutAuto
import Derived.Test.YtahbiajdgealnaaGreatDoorZA2
set_option maxHeartbeats 1600000
set_option linter.unusedVariables false
set_option linter.unusedSimpArgs false
namespace Go.Proofs.YtahbiajdgealnaaGreatDoor
open Go.RowKit Rt
open Fx (fD eT fI bC gL gK dw dR fZ iL dZ jg fP jh iV Lv sN Ln Ws Qv Wl Rp Wc Qs Wr Sb Lk Wk rC rV sR Rs Rn Rd Rk Wb Wx Wo Dw Wt qQ Qn EI Ao yj yI Ca Dl pG gY yL lZ sO uq vP wB xR Cy Ak rv aA aP bG aQ ev bX Stp dG aU flat dz Mp eX aT gN iF bD down iH jB iA ku bH bJ cells_one iG bT wD unseen jr gM bU dH bK bP bV bW fU gJ oQ gG)
section
open Rt
set_option maxRecDepth 10000
theorem Zh{c f:Int}(a b:Nat)(i:c=(a:Int))(j:f=(b:Int))(B g n cap:Nat)(d:Array Int)(w:World)(h:Fx.Own w B 28 1 (bI g n cap) n (rv .u64 (gA d)))(k:B<=w.heap.size)(m:d.size=n)(o:n<=1000)(ha:a<=b)(l:b<=n) :
 Calls Tryz.prog 129 #[bI g n cap,au c,au f] w fun e w'=>e = .returned (.tuple #[])/\Fx.Own w' B 28 1 (bI g n cap) n (rv .u64 (gA (Sort.insertionSort Sort.ltInt d a b)))/\Below B w w':=by
 subst i j; exact acR a b B g n cap d w h k m o ha l
theorem UZ{c f:Int}(a b:Nat)(i:c=(a:Int))(j:f=(b:Int))(B g n cap:Nat)(d:Array Int)(w:World)(h:Fx.Own w B 28 1 (bI g n cap) n (rv .u64 (gA d)))(k:B<=w.heap.size)(m:d.size=n)(o:n<=1000)(ha:a<b)(l:b<=n) :
 Calls Tryz.prog 130 #[bI g n cap,au c,au f] w fun e w'=>e = .returned (.tuple #[])/\Fx.Own w' B 28 1 (bI g n cap) n (rv .u64 (gA (Sort.heapSort Sort.ltInt d a b)))/\Below B w w':=by
 subst i j; exact Y5 a b B g n cap d w h k m o ha l
theorem Zi{c f:Int}(a b:Nat)(i:c=(a:Int))(j:f=(b:Int))(B g n cap:Nat)(d:Array Int)(w:World)(h:Fx.Own w B 28 1 (bI g n cap) n (rv .u64 (gA d)))(k:B<=w.heap.size)(m:d.size=n)(o:n<=1000)(ha:a<b)(l:b<=n) :
 Calls Tryz.prog 133 #[bI g n cap,au c,au f] w fun e w'=>e = .returned (.tuple #[])/\Fx.Own w' B 28 1 (bI g n cap) n (rv .u64 (gA (Sort.reverseRange d a b)))/\Below B w w':=by
 subst i j; exact acT a b B g n cap d w h k m o ha l
def XR(m:Nat):Prop := ∀(i j k:Int) (a b l:Nat) (B g n f:Nat) (d:Array Int) (w:World) (h:Fx.Own w B 28 1 (bI g n f) n (rv .u64 (gA d))) (hB:B<=w.heap.size) (hn:d.size=n) (hs:n<=1000) (h50:n<50) (hl:l<=1000) (hab:a<=b) (hb:b<=n) (hBel:Sort.Below Sort.ltInt a b d),i=(a:Int)->j=(b:Int)->k=(l:Int)->b-a<m ->
    Calls Tryz.prog 120 #[bI g n f,au i,au j,au k] w fun e w' => ∃ c:Array Int,e = .returned (.tuple #[])/\c.size=n/\Sort.PermIn a b d c/\Sort.SortedIn Sort.ltInt a b c/\Fx.Own w' B 28 1 (bI g n f) n (rv .u64 (gA c))/\Below B w w'
theorem Zj(m:Nat)(ih:XR m)(a b lim:Nat)(B g n cap:Nat)(d:Array Int)(w:World)(h:Fx.Own w B 28 1 (bI g n cap) n (rv .u64 (gA d)))(r:B<=w.heap.size)(hn:d.size=n)(x:n<=1000)(V:n<50)(hl:lim<=1000)(hab:a<=b)(hb:b<=n)(hBel:Sort.Below Sort.ltInt a b d)(hm:b-a<m+1) :
 Calls Tryz.prog 120 #[bI g n cap,au ((a:Int)),au ((b:Int)),au ((lim:Int))] w fun e w' => ∃ d2:Array Int,e = .returned (.tuple #[])/\d2.size=n/\Sort.PermIn a b d d2/\Sort.SortedIn Sort.ltInt a b d2/\Fx.Own w' B 28 1 (bI g n cap) n (rv .u64 (gA d2))/\Below B w w':=by
 refine Kent Tryz.func120 134 ?_
 refine ay<|av aG<|aC<|ay<|av aG<|aC<|Wb<|Dw (fun kk f A => ∃ c:Nat,∃ i:Nat,∃ N:Nat,∃ v:Array Int,∃ O:Bool,∃ wp:Bool,v.size=n/\Sort.Below Sort.ltInt c i v/\(∀ R,Sort.PermIn c i v R->Sort.SortedIn Sort.ltInt c i R->Sort.PermIn a b d R/\Sort.SortedIn Sort.ltInt a b R)/\(c<=i/\i<=n/\N<=1000/\i-c<=b-a)/\kk=i-c/\f 0=bI g n cap/\f 1=au ((c:Int))/\f 2=au ((i:Int))/\f 3=au ((N:Int))/\f 8 = .bool O/\f 9 = .bool wp/\Fx.Own A B 28 1 (bI g n cap) n (rv .u64 (gA v))/\Below B w A) (b-a) ⟨a,b,lim,d,true,true,hn,hBel,(fun R U J=>⟨U,J⟩),(by omega),rfl,(by rfl),Fx.ic,Fx.ic,Fx.ic,(by rfl),(by rfl),h,(Below.refl B w)⟩ ?_
 rintro kk f1 w1 ⟨c,i,N,v,O,wp,hk,hBl,K,arE,hkk,U,J,h3,h4,h5,h6,m1,S⟩
 refine Wb<|ay<|aS h3<|aS J<|Lv (au ((i:Int)-(c:Int))) fO<|av (au ((i:Int)-(c:Int)))<|aC<|Ws<|ay<|av (au ((i:Int)-(c:Int))) ?_
 by_cases c23:((i:Int)-(c:Int))<=12
 ·refine Lv aG (mD c23)<|aC<|aM<|ay<|aS U<|aS J<|aS h3<|dA (Zh c i (by omega) (by omega) B g n cap v _ m1 (Nat.le_trans r S.size) hk x (by omega) (by omega)) (ax := #[bI g n cap,au ((c:Int)),au ((i:Int))]) _ rfl ?_
  rintro w2 ⟨m2,hb1⟩
  have b2:=S.trans hb1
  refine aC (Wr (sR (bK (oQ (bK (⟨.tuple #[],iH Tryz.results120,?_⟩))))))
  have Y:=(Sort.insertionSort_holds Sort.swo_ltInt v c i (by omega) (by omega))
  have M:=K _ Y.1 Y.2
  exact⟨_,rfl,Y.1.1.trans hk,M.1,M.2,m2,b2⟩
 refine Lv aF (mV c23)<|aC<|aK<|Wk<|sN<|Ws<|ay<|aS h4 ?_
 by_cases c29:(N:Int)=0
 ·refine Lv aG (eP c29)<|aC<|aM<|ay<|aS U<|aS J<|aS h3<|dA (UZ c i (by omega) (by omega) B g n cap v _ m1 (Nat.le_trans r S.size) hk x (by omega) (by omega)) (ax := #[bI g n cap,au ((c:Int)),au ((i:Int))]) _ rfl ?_
  rintro w3 ⟨m3,hb2⟩
  have b3:=S.trans hb2
  refine aC (Wr (sR (bK (oQ (bK (⟨.tuple #[],iH Tryz.results120,?_⟩))))))
  have Y:=(Sort.heapSort_holds Sort.swo_ltInt v c i (by omega) (by omega))
  have M:=K _ Y.1 Y.2
  exact⟨_,rfl,Y.1.1.trans hk,M.1,M.2,m3,b3⟩
 refine Lv aF (fF c29)<|aC<|aK<|Wk<|sN<|Cy (fun f A => ∃ p:Nat,∃ I:Array Int,I.size=n/\Sort.PermIn c i v I/\p<=1000/\f 0=bI g n cap/\f 1=au ((c:Int))/\f 2=au ((i:Int))/\f 3=au ((p:Int))/\f 8 = .bool O/\f 9 = .bool wp/\f 10=au ((i:Int)-(c:Int))/\Fx.Own A B 28 1 (bI g n cap) n (rv .u64 (gA I))/\Below B w A) ?_ ?_
 ·refine ay ?_
  by_cases c34:O=true
  ·refine aS (h5.trans (congrArg Value.bool c34))<|av aF<|aC<|aK<|Wk ?_
   exact wD ⟨N,v,hk,(Sort.permIn_refl _ _ _),(by omega),U,(J.trans Fx.ic),(h3.trans Fx.ic),(h4.trans Fx.ic),h5,h6,Fx.ic,m1,S⟩
  rw[Bool.not_eq_true]at c34
  refine aS (h5.trans (congrArg Value.bool c34))<|av aG<|aC<|aM<|ay<|aS U<|aS J<|aS h3<|jM (acW c i B g n cap v _ m1 (Nat.le_trans r S.size) hk x (by omega) (by omega) V) ?_
  rintro D w4 ⟨dn1,l,hz1,hP1,m4,hb3⟩
  have b4:=S.trans hb3
  refine⟨_,l,?_⟩
  clear l
  refine aC<|Wl<|aS h4<|Lv (au ((N:Int)-1)) fO<|av (au ((N:Int)-1))<|Ln ?_
  exact wD ⟨N-1,dn1,hz1,hP1,(by omega),U,(J.trans Fx.ic),(h3.trans Fx.ic),Fx.ic,h5,h6,Fx.ic,m4,b4⟩
 rintro f2 w5 ⟨p,I,hk1,hP1,hl2,h7,h8,h9,h10,h11,h12,KO,m5,b5⟩
 refine ay<|aS h7<|aS h8<|aS h9<|jM (acY c i B g n cap I _ m5 (Nat.le_trans r b5.size) hk1 x (by omega) (by omega) V) ?_
 rintro D w6 ⟨H,ht1,l,hu1,G,m6,hb4⟩
 have b6:=b5.trans hb4
 refine⟨_,l,?_⟩
 clear l
 refine av (.tuple #[au ((H:Int)),au ht1])<|av (au H)<|av (au ht1)<|av (au H)<|av (au ht1)<|aC<|Cy (fun f A => ∃ q:Nat,∃ hint:Int,∃ o:Array Int,o.size=n/\Sort.PermIn c i v o/\(c<=q/\q<i)/\f 0=bI g n cap/\f 1=au ((c:Int))/\f 2=au ((i:Int))/\f 3=au ((p:Int))/\f 8 = .bool O/\f 9 = .bool wp/\f 10=au ((i:Int)-(c:Int))/\f 11=au ((q:Int))/\f 12=au hint/\Fx.Own A B 28 1 (bI g n cap) n (rv .u64 (gA o))/\Below B w A) ?_ ?_
 ·refine ay<|av (au ht1) ?_
  by_cases c50:ht1=2
  ·refine Lv aG (eP c50)<|aC<|aM<|ay<|aS h7<|aS h8<|aS h9<|dA (Zi c i (by omega) (by omega) B g n cap I _ m6 (Nat.le_trans r b6.size) hk1 x (by omega) (by omega)) (ax := #[bI g n cap,au ((c:Int)),au ((i:Int))]) _ rfl ?_
   rintro w7 ⟨m7,hb5⟩
   have b7:=b6.trans hb5
   refine aC<|ay<|aS h9<|Lv (au ((i:Int)-1)) fO<|av (au H)<|aS h8<|Lv (au ((H:Int)-(c:Int))) fO<|Lv (au ((c:Int)+(i:Int)-(H:Int)-1)) fO<|av (au ((c:Int)+(i:Int)-(H:Int)-1))<|aC<|Wl<|av (au 1)<|Ln ?_
   exact wD ⟨c+i-H-1,1,Sort.reverseRange I c i,((Sort.reverseRange_holds _ _ _ (by omega) (by omega)).1.trans hk1),(Sort.permIn_trans _ _ _ _ _ hP1 (Sort.reverseRange_holds _ _ _ (by omega) (by omega))),(by omega),h7,(h8.trans Fx.ic),(h9.trans Fx.ic),(h10.trans Fx.ic),h11,h12,(KO.trans Fx.ic),Fx.ic,Fx.ic,m7,b7⟩
  refine Lv aF (fF c50)<|aC<|aK<|Wk ?_
  exact wD ⟨H,ht1,I,hk1,hP1,(by omega),h7,(h8.trans Fx.ic),(h9.trans Fx.ic),(h10.trans Fx.ic),h11,h12,(KO.trans Fx.ic),Fx.ic,Fx.ic,m6,b6⟩
 rintro f3 w8 ⟨q,hint,o,hk2,F,L,Pf,Ul,h16,Pg,h18,h19,h20,h21,h22,m8,b8⟩
 obtain⟨hpv1,hpv2⟩:=L
 have L:=And.intro hpv1 hpv2
 refine Cy (fun f A=>f 0=bI g n cap/\f 1=au ((c:Int))/\f 2=au ((i:Int))/\f 3=au ((p:Int))/\f 8 = .bool O/\f 9 = .bool wp/\f 10=au ((i:Int)-(c:Int))/\f 11=au ((q:Int))/\Fx.Own A B 28 1 (bI g n cap) n (rv .u64 (gA o))/\Below B w A) ?_ ?_
 ·refine ay ?_
  by_cases c61:O=true
  ·refine aS (h18.trans (congrArg Value.bool c61))<|av aG ?_
   by_cases c63:wp=true
   ·refine aS (h19.trans (congrArg Value.bool c63))<|av aG<|av aG<|aS h22 ?_
    by_cases c67:hint=1
    ·refine Lv aG (eP c67)<|av aG<|aC<|aM<|ay<|aS Pf<|aS Ul<|aS h16<|jM (Zb c i B g n cap o _ m8 (Nat.le_trans r b8.size) hk2 x (by omega) (by omega) V) ?_
     rintro D w9 ⟨r1,l,hS1,m9,hb6⟩
     have b9:=b8.trans hb6
     rcases r1 with _|_
     ·refine⟨_,l,?_⟩
      clear l
      refine aC<|aK<|Wk ?_
      exact wD ⟨Pf,(Ul.trans Fx.ic),(h16.trans Fx.ic),(Pg.trans Fx.ic),h18,h19,(h20.trans Fx.ic),(h21.trans Fx.ic),m9,b9⟩
     refine⟨_,l,?_⟩
     clear l
     refine aC (aM (Wr (Fx.jnR (bK (oQ (bK (⟨.tuple #[],iH Tryz.results120,?_⟩)))))))
     have M:=K _ F (hS1 rfl)
     exact⟨_,rfl,hk2,M.1,M.2,m9,b9⟩
    refine Lv aF (fF c67)<|av aF<|aC<|aK<|Wk ?_
    exact wD ⟨Pf,(Ul.trans Fx.ic),(h16.trans Fx.ic),(Pg.trans Fx.ic),h18,h19,(h20.trans Fx.ic),(h21.trans Fx.ic),m8,b8⟩
   rw[Bool.not_eq_true]at c63
   refine aS (h19.trans (congrArg Value.bool c63))<|av aF<|av aF<|cB<|cB<|av aF<|aC<|aK<|Wk ?_
   exact wD ⟨Pf,(Ul.trans Fx.ic),(h16.trans Fx.ic),(Pg.trans Fx.ic),h18,h19,(h20.trans Fx.ic),(h21.trans Fx.ic),m8,b8⟩
  rw[Bool.not_eq_true]at c61
  refine aS (h18.trans (congrArg Value.bool c61))<|av aF<|cB<|av aF<|av aF<|cB<|cB<|av aF<|aC<|aK<|Wk ?_
  exact wD ⟨Pf,(Ul.trans Fx.ic),(h16.trans Fx.ic),(Pg.trans Fx.ic),h18,h19,(h20.trans Fx.ic),(h21.trans Fx.ic),m8,b8⟩
 rintro f4 rJ ⟨s,y,C,E,h27,h28,h29,h30,m10,b10⟩
 refine Ws<|Ws ?_
 -- region 17 draws
 refine kZ<|dS y ?_
 by_cases c74:0<(c:Int)
 ·refine Qv aG (fun v1 G=>jY c74)<|aR aG<|dS s<|dS y<|Qv (au ((c:Int)-1)) (fun v1 G=>fO)<|Qv ((pf g (c-1))) (fun v1 G=>cu 1)<|Qv (aD ((gA o) (c-1))) (fun v1 G=>aL (m10.cb G) (c-1))<|dS s<|dS h30<|Qv ((pf g q)) (fun v1 G=>cu 1)<|Qv (aD ((gA o) q)) (fun v1 G=>aL (m10.cb G) q) ?_
  by_cases c85:(decide ((gA o) (c-1)<(gA o) q))=true
  ·refine oz (fun _ _=>dI ((gA o) (c-1)) ((gA o) q) _) aG (by rw[c85])<|aR aF<|aR aF<|Qn ?_
   intro UR rH
   have m11:=aY rH m10
   have b11:=dX rH b10 r
   refine sN<|aK<|Wk<|sN<|ay<|aS s<|aS y<|aS C<|aS h30<|jM (acZ c i q B g n cap o _ m11 (Nat.le_trans r b11.size) hk2 x (by omega) (by omega) (by omega)) ?_
   rintro D DI ⟨j,P,dn2,l,hu2,hv2,hz2,m12,hb7⟩
   have b12:=b11.trans hb7
   have hx:Sort.partition Sort.ltInt o c i q=(j,(Sort.partition Sort.ltInt o c i q).2.1,dn2):=Prod.ext hu2 (Prod.ext rfl hv2)
   obtain⟨r1,r2,r3,r4,r5,r6,r7⟩:=Sort.round_part Sort.swo_ltInt (Sort.partition_holds _) L.1 L.2 (by omega) (hBl.perm (by omega) F) hx
   clear hx
   refine⟨_,l,?_⟩
   clear l
   refine av (.tuple #[au ((j:Int)),.bool P])<|av (au j)<|av (.bool P)<|av (au j)<|av (.bool P)<|aC<|ay<|av (.bool P)<|av (.bool P)<|aC<|ay<|av (au j)<|aS y<|Lv (au ((j:Int)-(c:Int))) fO<|aS C<|av (au j)<|Lv (au ((i:Int)-(j:Int))) fO<|av (au ((j:Int)-(c:Int)))<|av (au ((i:Int)-(j:Int)))<|aC<|ay<|aS h29<|Lv (au ((i-c) / 8:Nat)) (Fx.BF rfl rfl rfl (by omega) (iA (by omega) (by rw[Int.tdiv_eq_ediv_of_nonneg (by omega)]; omega)))<|av (au ((i-c) / 8:Nat))<|aC<|ay<|av (au ((j:Int)-(c:Int)))<|av (au ((i:Int)-(j:Int))) ?_
   by_cases QX:((j:Int)-(c:Int))<((i:Int)-(j:Int))
   ·refine Lv aG (gy QX)<|aC<|aM<|ay<|av (au ((j:Int)-(c:Int)))<|av (au ((i-c) / 8:Nat))<|Lv (.bool (decide (((i-c) / 8:Nat)<=((j:Int)-(c:Int))))) (Fx.Dj rfl rfl rfl)<|av (.bool (decide (((i-c) / 8:Nat)<=((j:Int)-(c:Int)))))<|aC<|ay<|aS s<|aS y<|av (au j)<|aS E<|jM (ih _ _ _ c j p B g n cap dn2 _ m12 (Nat.le_trans r b12.size) hz2 x V (by omega) (by omega) (by omega) r4 (by omega) (by omega) (by omega) (by omega)) (ax := #[bI g n cap,au ((c:Int)),au ((j:Int)),au ((p:Int))]) ?_
    rintro D Ch ⟨T,l,Z,W,X,m13,hb8⟩
    refine⟨_,l,?_⟩
    clear l
    have b13:=b12.trans hb8
    obtain⟨q1,z⟩:=r6 _ W X
    refine aC (Wl (av (au j) (Lv (au ((j:Int)+1)) eZ (av (au ((j:Int)+1)) (Ln (bP (gJ ⟨i-(j+1),(by omega),j+1,i,p,T,(decide (((i-c) / 8:Nat)<=((j:Int)-(c:Int)))),(P),Z,q1,(fun R t u=>K R (Sort.permIn_trans _ _ _ _ _ F (z R t u).1) (z R t u).2),(by omega),rfl,s,Fx.ic,(C.trans Fx.ic),(E.trans Fx.ic),(by rfl),(by rfl),m13,b13⟩ (by decide))))))))
   refine Lv aF (gD QX)<|aC<|aK<|ay<|av (au ((i:Int)-(j:Int)))<|av (au ((i-c) / 8:Nat))<|Lv (.bool (decide (((i-c) / 8:Nat)<=((i:Int)-(j:Int))))) (Fx.Dj rfl rfl rfl)<|av (.bool (decide (((i-c) / 8:Nat)<=((i:Int)-(j:Int)))))<|aC<|ay<|aS s<|av (au j)<|Lv (au ((j:Int)+1)) eZ<|aS C<|aS E<|jM (ih _ _ _ (j+1) i p B g n cap dn2 _ m12 (Nat.le_trans r b12.size) hz2 x V (by omega) (by omega) (by omega) r5 (by omega) (by omega) (by omega) (by omega)) (ax := #[bI g n cap,au ((j:Int)+1),au ((i:Int)),au ((p:Int))]) ?_
   rintro D EN ⟨T,l,Z,W,X,m14,XT⟩
   refine⟨_,l,?_⟩
   clear l
   have b14:=b12.trans XT
   obtain⟨q1,z⟩:=r7 _ W X
   refine aC (Wl (av (au j) (av (au j) (Ln (bP (gJ ⟨j-c,(by omega),c,j,p,T,(decide (((i-c) / 8:Nat)<=((i:Int)-(j:Int)))),(P),Z,q1,(fun R t u=>K R (Sort.permIn_trans _ _ _ _ _ F (z R t u).1) (z R t u).2),(by omega),rfl,s,(y.trans Fx.ic),Fx.ic,(E.trans Fx.ic),(by rfl),(by rfl),m14,b14⟩ (by decide)))))))
  rw[Bool.not_eq_true]at c85
  refine oz (fun _ _=>dI ((gA o) (c-1)) ((gA o) q) _) aF (by rw[c85])<|aR aG<|aR aG<|Qn ?_
  intro XL vS
  have m15:=aY vS m10
  have b15:=dX vS b10 r
  refine sN<|aM<|ay<|aS s<|aS y<|aS C<|aS h30<|jM (ahE c i q B g n cap o _ m15 (Nat.le_trans r b15.size) hk2 x (by omega) (by omega) (by omega)) ?_
  rintro D Mv ⟨QY,dn3,l,hx1,hz3,m16,U0⟩
  have b16:=b15.trans U0
  obtain⟨r1,r2,r3,r4,r5⟩:=Sort.round_eq Sort.swo_ltInt (Sort.partitionEqual_holds _) (by omega) L.1 L.2 (by omega) (hBl.perm (by omega) F) (vQ (of_decide_eq_false c85)) hx1
  refine⟨_,l,?_⟩
  clear l
  refine av (au QY) (aC (ay (av (au QY) (av (au QY) (aC (Wx (bV (bW (gJ ⟨i-QY,(by omega),QY,i,p,dn3,(O),(wp),hz3,r4,(fun R t u=>K R (Sort.permIn_trans _ _ _ _ _ F (r5 R t u).1) (r5 R t u).2),(by omega),rfl,s,Fx.ic,(C.trans Fx.ic),(E.trans Fx.ic),h27,h28,m16,b16⟩ (by decide))))))))))
 refine Qv aF (fun v1 G=>jZ c74)<|aR aF<|aN<|aN<|aN<|aN<|aN<|aN<|aN<|aN<|aN<|aN<|aN<|aR aF<|Qn ?_
 intro Y3 vT
 have m17:=aY vT m10
 have b17:=dX vT b10 r
 refine sN<|aK<|Wk<|sN<|ay<|aS s<|aS y<|aS C<|aS h30<|jM (acZ c i q B g n cap o _ m17 (Nat.le_trans r b17.size) hk2 x (by omega) (by omega) (by omega)) ?_
 rintro D Mw ⟨k,Q,dn4,l,hu3,hv3,XU,m18,Zk⟩
 have b18:=b17.trans Zk
 have hx:Sort.partition Sort.ltInt o c i q=(k,(Sort.partition Sort.ltInt o c i q).2.1,dn4):=Prod.ext hu3 (Prod.ext rfl hv3)
 obtain⟨r1,r2,r3,r4,r5,r6,r7⟩:=Sort.round_part Sort.swo_ltInt (Sort.partition_holds _) L.1 L.2 (by omega) (hBl.perm (by omega) F) hx
 clear hx
 refine⟨_,l,?_⟩
 clear l
 refine av (.tuple #[au ((k:Int)),.bool Q])<|av (au k)<|av (.bool Q)<|av (au k)<|av (.bool Q)<|aC<|ay<|av (.bool Q)<|av (.bool Q)<|aC<|ay<|av (au k)<|aS y<|Lv (au ((k:Int)-(c:Int))) fO<|aS C<|av (au k)<|Lv (au ((i:Int)-(k:Int))) fO<|av (au ((k:Int)-(c:Int)))<|av (au ((i:Int)-(k:Int)))<|aC<|ay<|aS h29<|Lv (au ((i-c) / 8:Nat)) (Fx.BF rfl rfl rfl (by omega) (iA (by omega) (by rw[Int.tdiv_eq_ediv_of_nonneg (by omega)]; omega)))<|av (au ((i-c) / 8:Nat))<|aC<|ay<|av (au ((k:Int)-(c:Int)))<|av (au ((i:Int)-(k:Int))) ?_
 by_cases QX:((k:Int)-(c:Int))<((i:Int)-(k:Int))
 ·refine Lv aG (gy QX)<|aC<|aM<|ay<|av (au ((k:Int)-(c:Int)))<|av (au ((i-c) / 8:Nat))<|Lv (.bool (decide (((i-c) / 8:Nat)<=((k:Int)-(c:Int))))) (Fx.Dj rfl rfl rfl)<|av (.bool (decide (((i-c) / 8:Nat)<=((k:Int)-(c:Int)))))<|aC<|ay<|aS s<|aS y<|av (au k)<|aS E<|jM (ih _ _ _ c k p B g n cap dn4 _ m18 (Nat.le_trans r b18.size) XU x V (by omega) (by omega) (by omega) r4 (by omega) (by omega) (by omega) (by omega)) (ax := #[bI g n cap,au ((c:Int)),au ((k:Int)),au ((p:Int))]) ?_
  rintro D w16 ⟨T,l,Z,W,X,m19,Zl⟩
  refine⟨_,l,?_⟩
  clear l
  have b19:=b18.trans Zl
  obtain⟨q1,z⟩:=r6 _ W X
  refine aC (Wl (av (au k) (Lv (au ((k:Int)+1)) eZ (av (au ((k:Int)+1)) (Ln (bP (gJ ⟨i-(k+1),(by omega),k+1,i,p,T,(decide (((i-c) / 8:Nat)<=((k:Int)-(c:Int)))),(Q),Z,q1,(fun R t u=>K R (Sort.permIn_trans _ _ _ _ _ F (z R t u).1) (z R t u).2),(by omega),rfl,s,Fx.ic,(C.trans Fx.ic),(E.trans Fx.ic),(by rfl),(by rfl),m19,b19⟩ (by decide))))))))
 refine Lv aF (gD QX)<|aC<|aK<|ay<|av (au ((i:Int)-(k:Int)))<|av (au ((i-c) / 8:Nat))<|Lv (.bool (decide (((i-c) / 8:Nat)<=((i:Int)-(k:Int))))) (Fx.Dj rfl rfl rfl)<|av (.bool (decide (((i-c) / 8:Nat)<=((i:Int)-(k:Int)))))<|aC<|ay<|aS s<|av (au k)<|Lv (au ((k:Int)+1)) eZ<|aS C<|aS E<|jM (ih _ _ _ (k+1) i p B g n cap dn4 _ m18 (Nat.le_trans r b18.size) XU x V (by omega) (by omega) (by omega) r5 (by omega) (by omega) (by omega) (by omega)) (ax := #[bI g n cap,au ((k:Int)+1),au ((i:Int)),au ((p:Int))]) ?_
 rintro D Qy ⟨T,l,Z,W,X,m20,Zm⟩
 refine⟨_,l,?_⟩
 clear l
 have b20:=b18.trans Zm
 obtain⟨q1,z⟩:=r7 _ W X
 refine aC (Wl (av (au k) (av (au k) (Ln (bP (gJ ⟨k-c,(by omega),c,k,p,T,(decide (((i-c) / 8:Nat)<=((i:Int)-(k:Int)))),(Q),Z,q1,(fun R t u=>K R (Sort.permIn_trans _ _ _ _ _ F (z R t u).1) (z R t u).2),(by omega),rfl,s,(y.trans Fx.ic),Fx.ic,(E.trans Fx.ic),(by rfl),(by rfl),m20,b20⟩ (by decide)))))))
end
section
open Rt
set_option maxRecDepth 10000
theorem XV : ∀ m,XR m
 | 0=>by
   intro v x y a b u B g n c d w h k s t j q o p l e f i r
   omega
 | m+1=>by
   intro v x y a b u B g n c d w h k s t j q o p l e f i r
   subst e f i
   exact Zj m (XV m) a b u B g n c d w h k s t j q o p l r
theorem U1(B g n cap:Nat)(d:Array Int)(w:World)(h:Fx.Own w B 28 1 (bI g n cap) n (rv .u64 (gA d)))(j:B<=w.heap.size)(o:d.size=n)(p:n<=1000)(i:n<50) :
 Calls Tryz.prog 93 #[bI g n cap] w fun e w' => ∃ a:Array Int,e = .returned (.tuple #[])/\a.size=n/\Sort.PermIn 0 n d a/\Sort.SortedIn Sort.ltInt 0 n a/\Fx.Own w' B 28 1 (bI g n cap) n (rv .u64 (gA a))/\Below B w w':=by
 have t:=Mt (show n<64 by omega)
 refine Kent Tryz.func93 11 ?_
 refine ay<|av (bI g n cap)<|av (au n)<|av (au n)<|aC<|Wl<|av (bI g n cap)<|av (au n)<|av (au n)<|Lv (aD n) (dw rfl rfl (by kernel_rfl) Tryz.underlying142 (jr (by omega) rfl))<|kg (Ql n _ (by omega)) _ rfl<|jM (XV (n+1) _ _ _ 0 n (Sort.bitsLen n) B g n cap d _ h (Nat.le_trans j (Below.refl B w).size) o p i (by omega) (by omega) (by omega) (.inl rfl) rfl rfl rfl (by omega)) (ax := #[bI g n cap,au 0,au ((n:Int)),au ((Sort.bitsLen n:Int))]) ?_
 rintro s u ⟨f,b,q,k,l,r,m⟩
 refine⟨_,b,?_⟩
 clear b
 have c:=(Below.refl B w).trans m
 refine Ln (⟨.tuple #[],iH Tryz.results93,?_⟩)
 exact⟨f,rfl,q,k,l,r,c⟩
theorem Zn(w:World) :
 Calls Tryz.prog 129 #[.slice none 0 0,au 0,au 0] w fun e w'=>e = .returned (.tuple #[])/\Below w.heap.size w w':=by
 refine Kent Tryz.func129 49 ?_
 refine ay<|av (au 0)<|Lv (au 1) eZ<|av (au 1)<|aC<|Wb<|Wo (fun f d=>f 1=au 0/\f 2=au 0/\f 6=au 1/\Below w.heap.size w d) (fun f _=>0) ⟨Fx.ic,Fx.ic,Fx.ic,(Below.refl w.heap.size w)⟩ ?_
 rintro g i ⟨h,b,c,a⟩
 refine Ws (ay (aS c (aS b (Lv aF Dq (aC (aK (Wx (bV (fU (bW (⟨.tuple #[],iH Tryz.results129,?_⟩)))))))))))
 exact⟨rfl,a⟩
theorem Zo(w:World) :
 Calls Tryz.prog 120 #[.slice none 0 0,au 0,au 0,au 0] w fun e w'=>e = .returned (.tuple #[])/\Below w.heap.size w w':=by
 refine Kent Tryz.func120 134 ?_
 refine ay<|av aG<|aC<|ay<|av aG<|aC<|Wb<|Wo (fun f i=>f 0 = .slice none 0 0/\f 1=au 0/\f 2=au 0/\Below w.heap.size w i) (fun f _=>0) ⟨(by rfl),Fx.ic,Fx.ic,(Below.refl w.heap.size w)⟩ ?_
 rintro j k ⟨g,a,b,c⟩
 refine Wb<|ay<|aS b<|aS a<|Lv (au 0) fO<|av (au 0)<|aC<|Ws<|ay<|av (au 0)<|Lv aG acA<|aC<|aM<|ay<|aS g<|aS a<|aS b<|dA (Zn _) _ rfl ?_
 intro l h
 have d:=aY h c
 refine aC (Wr (sR (bK (oQ (bK (⟨.tuple #[],iH Tryz.results120,?_⟩))))))
 exact⟨rfl,d⟩
theorem Zp(w:World):Calls Tryz.prog 68 #[aD 0] w fun e w'=>e = .returned (au 0)/\w'=w:=Ql 0 w (by omega)
theorem U2(w:World) :
 Calls Tryz.prog 93 #[.slice none 0 0] w fun e w'=>e = .returned (.tuple #[])/\Below w.heap.size w w':=by
 refine Kent Tryz.func93 11 ?_
 refine ay<|av (.slice none 0 0)<|av (au 0)<|av (au 0)<|aC<|Wl<|av (.slice none 0 0)<|av (au 0)<|av (au 0)<|Lv (aD 0) (dw rfl rfl (by kernel_rfl) Tryz.underlying142 (jr (by omega) rfl))<|kg (Zp _) _ rfl<|dA (Zo _) _ rfl ?_
 intro c b
 have a:=aY b (Below.refl w.heap.size w)
 refine Ln (⟨.tuple #[],iH Tryz.results93,?_⟩)
 exact⟨rfl,a⟩
theorem Zq{w:World}{B n cap:Nat}{a:Option Addr}{d:Array Int}(h:Fx.Own w B 28 1 (.slice a n cap) n (rv .u64 (gA d)))(f:B<=w.heap.size)(k:d.size=n)(p:n<50) :
 Calls Tryz.prog 93 #[.slice a n cap] w fun e w' => ∃ b:Array Int,e = .returned (.tuple #[])/\b.size=n/\Sort.PermIn 0 n d b/\Sort.SortedIn Sort.ltInt 0 n b/\Fx.Own w' B 28 1 (.slice a n cap) n (rv .u64 (gA b))/\Below B w w':=by
 rcases h.2 with ⟨c,l⟩|⟨g,c2,cur,c,_⟩
 ·subst l
  cases c
  exact(U2 w).mono fun e w' ⟨m,o⟩=>⟨d,m,k,Sort.permIn_refl _ _ _,fun i j _ q r=>by omega,wB _ _ _ _ _,o.mono f⟩
 simp only[Value.slice.injEq]at c
 obtain⟨rfl,_,rfl⟩:=c
 exact U1 B g n cap d w h f k (by omega) p
end
end Go.Proofs.YtahbiajdgealnaaGreatDoor
namespace Go.Proofs.YtahbiajdgealnaaGreatDoor
open Go.RowKit Go
set_option linter.unusedVariables false
namespace Rt
def dT(x:Nat->Int)(τ:Nat->Nat)(m:Nat):Array Int:=((List.range m).map fun q=>x (τ q)).toArray
section
variable {n m kk:Nat} {x:Nat->Int} {Q:Int->Prop} {S:Nat->Bool} {τ:Nat->Nat}
theorem MB:(dT x τ m).size=m:=by unfold dT; simp
theorem Zr{q:Nat}(a:q<m):gA (dT x τ m) q=x (τ q):=by
 unfold gA dT
 rw[getElem!_pos _ q (by simpa using a)]; simp
theorem adl : ∀ j,j<m*1->Value.int .u64 (x (τ j))=Fx.rv .u64 (gA (dT x τ m)) j:=fun j a=>by
 show _=Value.int .u64 (gA (dT x τ m) j)
 rw[Zr (by omega)]
theorem Zt{d:Array Int} : ∀ j,j<d.size*1->Fx.rv .u64 (gA d) j=wE d.toList j:=fun j a=>by
 show Value.int .u64 d[j]! = Value.int .u64 (d.toList.getD j 0)
 rw[getElem!_pos d j (by omega),List.getD_eq_getElem?_getD,List.getElem?_eq_getElem (by simpa using (show j<d.size by omega))]
 simp
theorem N7{c:Array Int}(h:Qc n (fun i=>Q (x i)) S m τ kk)(y : ∀ i,i<n->S i=true)(A : ∀ a b,a<n->b<n->x a=x b->a=b)
 (B:Sort.PermIn 0 m (dT x τ m) c) (C:Sort.SortedIn Sort.ltInt 0 m c) (D:c.size=m):c.toList.Pairwise (· < ·) /\ ∀ k,k∈c.toList<->(dP x n k=true/\Q k):=by
 have u:c.toList.Perm ((List.range m).map fun q=>x (τ q)):=by
  have s:=B.2.2
  have v:c.extract 0 m=c:=by rw[<- D]; simp
  have w : ∀ d:Array Int,d.size=m->d.extract 0 m=d:=fun d z=>by rw[<- z]; simp
  rw[v,w _ MB]at s
  exact s
 have t:c.toList.Nodup:=by
  refine(u.nodup_iff).2 ?_
  rw[List.Nodup,List.pairwise_iff_getElem]
  intro i j f g r
  simp only[List.getElem_map,List.getElem_range]
  simp only[List.length_map,List.length_range]at f g
  exact fun e=>absurd (h.inj i j f g (A _ _ (h.lt i f) (h.lt j g) e)) (by omega)
 refine⟨?_,fun k => ?_⟩
 ·rw[List.pairwise_iff_getElem]
  intro i j f g r
  simp only[Array.length_toList]at f g
  have o:=of_decide_eq_false (C i j (Nat.zero_le _) r (by omega))
  rw[getElem!_pos c i f,getElem!_pos c j g]at o
  rw[List.Nodup,List.pairwise_iff_getElem]at t
  have p:=t i j (by simpa using f) (by simpa using g) r
  simp only[Array.getElem_toList]at p ⊢
  omega
 rw[u.mem_iff]
 simp only[List.mem_map,List.mem_range]
 constructor
 ·rintro ⟨q,l,rfl⟩
  exact⟨iW (h.lt q l) rfl,h.yes q l⟩
 rintro ⟨o,p⟩
 obtain⟨i,f,rfl⟩:=fT o
 obtain⟨q,l,rfl⟩:=h.mem i f (y i f) p
 exact⟨q,l,rfl⟩
theorem U3{z:Nat->Value}{i:Nat} : ∀ j,j<(m+1)*1->Fx.gM (fun q=>aD (x (τ q))) (m*1) (Fx.bG z (0*1) 1 (fun _=>aD (x i))) j=aD (x (Fx.aQ τ m i j)):=fun j a=>by
 unfold Fx.gM Fx.bG Fx.aQ
 by_cases e:j=m
 ·subst e; rw[if_neg (by omega),if_pos (by omega),if_pos rfl]
 ·rw[if_pos (by omega),if_neg e]
end
end Rt
open Rt
theorem Zu{w:World}{B m cap:Nat}{a:Option Addr}{x:Nat->Int}{τ:Nat->Nat}(h:Fx.Own w B 28 1 (.slice a m cap) m (fun q=>aD (x (τ q))))(n:B<=w.heap.size)(p:m<=32) :
 Calls Tryz.prog 93 #[.slice a m cap] w fun e w'=>e = .returned (.tuple #[]) /\ ∃ b:Array Int,b.size=m/\Sort.PermIn 0 m (dT x τ m) b/\Sort.SortedIn Sort.ltInt 0 m b/\Fx.Own w' B 28 1 (.slice a m cap) m (wE b.toList)/\Below B w w' :=
 (Zq (d:=dT x τ m) (h.congr adl) n MB (by omega)).mono fun e w' ⟨b,c,f,g,i,k,l⟩=>⟨c,b,f,g,i,k.congr fun j o=>Zt j (by omega),l⟩
end Go.Proofs.YtahbiajdgealnaaGreatDoor
namespace Go.Proofs.YtahbiajdgealnaaGreatDoor.Fx
open Go.RowKit
section
variable {P:Program} {n0:Nat} {Q:Post} {f:Nat->Value} {w:World} {ops:Array Oper} {rest:List Oper} {o:Oper}
theorem L.lo{T E:TypeId}{x lo:Operand}{a:Option Addr}{B n c s m:Nat}{k:IntKind}{j:Nat}{y:Nat->Value}(u:Region.wanted o (yf ops f)=true)(e:inn n0 o.dst=true)(q:o.op = .slice T x (some lo) none none)(hx:ev f x = .slice a n c)(l:ev f lo = .int k (j:Int))(t:P.underlying T=some (.slice E))(r:(P.info? E).map (·.size)=some s)(H:n=j+m)(C:Own w B E s (.slice a n c) n y)
 (d : ∀ v,ku w v m s (fun p=>y (j*s+p))->L P n0 ops Q rest (put f o.dst (.slice v m (c-j))) w):L P n0 ops Q (o::rest) f w:=by
 by_cases D:n=0
 ·obtain rfl:j=0:=by omega
  obtain rfl:m=0:=by omega
  subst D
  rcases C.2 with ⟨b,_⟩|⟨g,cap,cur,b,_,_,hn,_⟩
  ·simp only[Value.slice.injEq]at b
   obtain⟨rfl,_,rfl⟩:=b
   obtain⟨i,G,_⟩:=Option.map_eq_some_iff.1 r
   refine Lv _ (?_:Runs P f o w (.slice none 0 0)) (d none fun h=>absurd h (Nat.lt_irrefl 0)) u e
   unfold Runs execOp
   simp only[q,hx,l,Option.map_some,Option.map_none]
   simp[Instr.sliceAt,Instr.slice,underlying,t,Instr.sliceBounds,Instr.sliceBound,asIntOf,sizeOf,typeInfo,G]
  simp only[Value.slice.injEq]at b
  obtain⟨rfl,_,rfl⟩:=b
  exact Lv _ (yJ (A:=if c=0 then some ⟨g,0,none⟩else some ⟨g,0+0*s,none⟩) (n':=0) (c':=c-0) q hx l t r (Nat.le_refl _) rfl rfl rfl) (d _ fun h=>absurd h (Nat.lt_irrefl 0)) u e
 obtain⟨g,J,z,K,M,O,F⟩:=C.form (by omega)
 simp only[Value.slice.injEq]at z
 obtain⟨rfl,_,rfl⟩:=z
 refine Lv _ (yJ (A:=if c=j then some ⟨g,0,none⟩else some ⟨g,0+j*s,none⟩) (n':=m) (c':=c-j) q hx l t r (by omega) rfl (by omega) rfl) (d _ fun N => ?_) u e
 rw[if_neg (by omega)]
 refine⟨g,_,rfl,fun p R => ?_⟩
 have I:j*s+p<n*s:=by
  have:n*s=j*s+m*s:=by rw[H,Nat.add_mul]
  omega
 have:=F (j*s+p) I
 rw[Nat.zero_add]at this
 rw[Nat.zero_add]; exact this
theorem Own.adn{B n c s j:Nat}{E:TypeId}{a:Option Addr}{y:Nat->Value}(h:Own w B E s (.slice a n c) n y)(e:j<=n):ku w a j s y:=fun k=>by
 obtain⟨g,i,b,l,m,o,d⟩:=h.form (by omega)
 simp only[Value.slice.injEq]at b
 refine⟨g,0,b.1,fun p f=>d p ?_⟩
 exact Nat.lt_of_lt_of_le f (Nat.mul_le_mul_right s e)
theorem Own.weak{B a n s:Nat}{E:TypeId}{v:Value}{y:Nat->Value}(h:Own w B E s v n y)(b:a<=B):Own w a E s v n y:=by
 refine⟨h.1,?_⟩
 rcases h.2 with hn|⟨g,cap,cur,hv,hb,rest⟩
 ·exact .inl hn
 exact .inr ⟨g,cap,cur,hv,Nat.le_trans b hb,rest⟩
end
end Go.Proofs.YtahbiajdgealnaaGreatDoor.Fx
namespace Go.Proofs.YtahbiajdgealnaaGreatDoor
open Go.RowKit Rt
open Fx (fD eT fI bC gL gK dw dR fZ iL dZ jg fP jh iV Lv sN Ln Ws Qv Wl Rp Wc Qs Wr Sb Lk Wk rC rV sR Rs Rn Rd Rk Wb Wx Wo Dw Wt qQ Qn EI Ao yj yI Ca Dl pG gY yL lZ sO uq vP wB xR Cy Ak rv aA aP bG aQ ev bX Stp dG aU flat dz Mp eX aT gN iF bD down iH jB iA ku bH bJ cells_one iG bT wD unseen jr gM bU dH bK bP bV bW fU gJ oQ gG)
section
open Rt
set_option maxRecDepth 10000
theorem QZ(x p:Nat->Int)(n tp mb:Nat)(w:World)(U:aP w tp 1 (fun _ => .map (some mb)) 135)(R:Mp w mb n x (fun j=>aD (p j)))(h:AO n x p) :
 Calls Tryz.prog 65 #[(pt tp),.func (.func 66) #[] #[]] w fun e w' => ∃ a c l,e = .returned (.slice a (List.length l) c)/\Fx.Own w' w.heap.size 28 1 (.slice a l.length c) l.length (wE l)/\l.Pairwise (· < ·)/\(∀ k,k∈l<->(dP x n k=true/\True))/\l.length<=32/\Below w.heap.size w w':=by
 have hsm:=h.small
 refine Kent Tryz.func65 27 ?_
 refine ay<|av (.slice none 0 0)<|aC<|Ws<|ay<|av ((pt tp))<|Lv aF (Fx.nQ rfl rfl rfl (by kernel_rfl))<|aC<|aK<|Wk<|sN<|Ws<|ay<|av ((pt tp))<|av ((pt tp))<|av ((pt tp))<|Lv (.map (some mb)) (aL U.aH 0)<|Fx.L.range (by rfl) rfl rfl rfl R Tryz.underlying100 fun O w1 kV Z s1 z1 => ?_
 have⟨m2,m3,b1⟩:=jk s1.old U R (Below.refl w.heap.size w)
 have tL:=gH kV
 have vR:=Z.lt
 refine aC<|Wb ?_
 have m4:Fx.Own w1 w.heap.size 28 1 (.slice none 0 0) 0 (fun q=>aD (x ((fun _=>0:Nat->Nat) q))):=wB _ _ _ _ _
 refine Dw (fun kk f g => ∃ m:Nat,∃ τ:Nat->Nat,∃ S:Nat->Bool,∃ a:Option Addr,∃ d:Nat,Qc n (fun i=>(fun k=>True) (x i)) S m τ kk/\f 0=(pt tp)/\f 1 = .func (.func 66) #[] #[]/\f 4 = .slice a (m) (d)/\f 12=(pt O)/\aP g tp 1 (fun _ => .map (some mb)) 135/\Mp g mb n x (fun j=>aD (p j))/\Fx.It g O mb n S/\Fx.Own g w.heap.size 28 1 (.slice a (m) (d)) m (fun q=>aD (x (τ q)))/\Below w.heap.size w g) (unseen (fun _=>false) n) ⟨0,(fun _=>0),(fun _=>false),none,0,(Qc.start n _ _),(by rfl),(by rfl),(by rfl),(by rfl),m2,m3,Z,m4,b1⟩ ?_
 rintro kk N w2 ⟨m,τ,S,a,d,r,P,C,D,E,m5,m6,J,m8,o⟩
 have hml:=r.le
 refine ay<|Fx.L.next (by rfl) rfl rfl E m6 J (fun nZ => ?_)<|fun b w3 G T m9 mc1 s2 z2 => ?_
 ·skip
  refine av aF<|aC<|Ws<|aK<|Wx<|bV<|fU<|bW<|sN<|ay<|aS D<|dA (Zu m8 o.size (by omega)) _ rfl ?_
  rintro w4 ⟨M,Y,hp2,hs2,aa,hb1⟩
  have b3:=o.trans hb1
  refine aC<|ay<|aS D<|av (.slice a (m) (d))<|aC<|Wr<|aI (.slice a (m) (d)) ?_
  obtain⟨N,f2⟩:=N7 (Q:=fun k=>True) r nZ h.inj hp2 hs2 Y
  have X:m<=32:=by omega
  rw[show m=M.toList.length by rw[Array.length_toList]; exact Y.symm]at aa X ⊢
  exact⟨a,d,M.toList,rfl,aa,N,f2,X,b3⟩
 skip
 have F:=J.AB s2
 have ab:=m5.dJ F
 have H:=m6.dJ F (J.rb.symm)
 have ac:=m8.dJ F
 have K:=s2.below o o.size (by omega)
 refine av aG<|aC<|Ws<|aM<|Wk<|sN<|Wb<|ay<|Lv (.tuple #[aD (x b),aD (p b)]) (Fx.Ml (key:=x) (val:=fun j=>aD (p j)) (i:=b) rfl E H mc1 G)<|av (aD (x b))<|av (aD (x b))<|aC<|ay<|aS C<|av (aD (x b))<|Ao (by rfl) (Fx.E8 (args := [aD (x b)]) rfl rfl rfl (all := #[aD (x b)]) rfl Tryz.func66 rfl rfl) rfl<|(acO _ _).mono ?_
 rintro e v1 ⟨V,hv1⟩
 subst v1
 refine⟨.bool true,by rw[V],?_⟩
 clear V
 refine aC<|aM<|Wl<|aS D<|av (aD (x b))<|yj (vs := [(0,aD (x b))]) (s:=1) (zc:=rv .u64 (fun _=>0)) (y:=bG (fun j=>(rv .u64 (fun _=>0)) (j % 1)) (0*1) 1 (fun _=>aD (x b))) (by rfl) rfl rfl Tryz.underlying63 (by kernel_rfl) (by rfl) (by rfl) (by kernel_rfl) (by rw[bD (off:=0*1) (s:=1) (y:=fun _=>aD (x b)) rfl (cells_one (by rfl)) (by rfl)]; rfl) rfl fun g2 w5 z ad s3 z3 => ?_
 have⟨m15,m16,I,m19,t⟩:=qm s3.old ab H ac m9 K
 have qO:=jc z K.size
 have⟨AU,Q0⟩:=wM z ab.lt H.lt
 have Q5:(.slice a (m) (d):Value).ownBlock≠some g2:=by rw[z]; exact ac.jC (Nat.le_refl _)
 have zJ:=ad.lt
 refine yI (B:=w.heap.size) (s:=1) (bytes:=8) (k:=m) (m:=1) (v := .slice a (m) (d)) (x:=fun q=>aD (x (τ q))) (by rfl) rfl rfl rfl Tryz.underlying63 (by kernel_rfl) (by kernel_rfl) rfl rfl I ad.aH (fun j hj=>by unfold bG; split <;> rfl) (by omega) (by omega) (by omega) t.size fun A u w6 ho1 W tJ hlt1 => ?_
 have gI:=yL W I
 have⟨m21,m22,m24⟩:=EK gI m15 m16 m19
 have m20:Fx.Own w6 w.heap.size 28 1 (bI A (m+1) u) (m+1) (fun q=>aD (x (aQ τ m b q))):=(ho1.congr U3)
 have b6:Below w.heap.size w w6:=xR t W t.size (fun q hq=>(I.ge hq).1)
 refine av (bI A (m+1) u)<|Ln<|bP ?_
 skip
 refine gJ ⟨unseen (aQ S b true) n,(by have P:=Fx.nC T n G; have C:=r.kk; omega),m+1,aQ τ m b,aQ S b true,(some ⟨A,0,none⟩),u,(r.take G T trivial),P,C,(by rfl),E,m21,m22,m24,m20,b6⟩ (by decide)
theorem Zv(x p:Nat->Int)(n tp mb:Nat)(w:World)(o:aP w tp 1 (fun _ => .map (some mb)) 135)(m:Mp w mb n x (fun j=>aD (p j)))(h:AO n x p) :
 Calls Tryz.prog 42 #[(pt tp)] w fun e w' => ∃ a c l,e = .returned (.slice a (List.length l) c)/\Fx.Own w' w.heap.size 28 1 (.slice a l.length c) l.length (wE l)/\l.Pairwise (· < ·)/\(∀ k,k∈l<->(dP x n k=true/\True))/\l.length<=32/\Below w.heap.size w w':=by
 refine Kent Tryz.func42 5 ?_
 refine ay<|av (.slice none 0 0)<|aC<|ay<|av ((pt tp))<|jM (QZ x p n tp mb _ o m h) ?_
 rintro v y ⟨b,d,f,i,u,r,s,t,q⟩
 refine⟨_,i,?_⟩
 clear i
 have g:=aY q (Below.refl w.heap.size w)
 refine av (.slice b (f.length) (d))<|aC<|Wr<|aI (.slice b (f.length) (d)) ?_
 exact⟨b,d,f,rfl,u.weak (by have:=g.size; first|exact Nat.le_refl _|exact(Below.refl w.heap.size w).size),r,s,t,g⟩
-- (*tree.Tree).Below is not in this seat
end
end Go.Proofs.YtahbiajdgealnaaGreatDoor
namespace Go.Proofs.YtahbiajdgealnaaGreatDoor
open Go.RowKit Go Rt
set_option linter.unusedVariables false
namespace Rt
structure dN where
 n:Nat
 x:Nat->Int
 p:Nat->Int
def dN.zero:dN:=⟨0,fun _=>0,fun _=>0⟩
def dN.has(T:dN)(k:Int):Bool:=dP T.x T.n k
def dN.par(T:dN)(k:Int):Int:=gZ T.x T.p T.n k
def dN.path(T:dN)(k:Int):List Int:=iX T.x T.p T.n 4 k
def dN.err(T:dN)(id pa:Int):Int:=qV T.x T.p T.n id pa
def dN.put(T:dN)(id pa:Int):dN:=⟨T.n+1,Fx.aQ T.x T.n id,Fx.aQ T.p T.n pa⟩
def dN.add(T:dN)(id pa:Int):dN:=if T.err id pa=0 then T.put id pa else T
abbrev dN.ok(T:dN):Prop:=AO T.n T.x T.p
theorem dN.GD{T:dN}(h:T.ok){id pa:Int}(a:0<=id/\id<=18446744073709551615):(T.add id pa).ok:=by
 unfold dN.add
 split
 ·rename_i hc; exact AO.put h hc a
 exact h
structure qz(w:World)(B tp mb:Nat)(T:dN):Prop where
 blk:Fx.aP w tp 1 (fun _ => .map (some mb)) 135
 map:Fx.Mp w mb T.n T.x (fun j => .int .u64 (T.p j))
 inv:T.ok
 gt:B<=tp
 gm:B<=mb
section
variable {w w':World} {B tp mb r:Nat} {T:dN} {id pa k:Int}
theorem qz.up(h:qz w B tp mb T)(a:Below w.heap.size w w'):qz w' B tp mb T:=⟨h.blk.bZ (Fx.Sb a) (Nat.ne_of_lt h.blk.lt),h.map.up a,h.inv,h.gt,h.gm⟩
instance:Rt.Tr w w' (qz w B tp mb T) (qz w' B tp mb T):=⟨fun b h=>h.up b⟩
theorem qz.jG{a:List TypeId}(h:qz w B tp mb T)(b:Fx.iG a w w')(h1:a.contains 135=false):qz w' B tp mb T:=⟨h.blk.jG b h1,h.map.jG b trivial,h.inv,h.gt,h.gm⟩
instance {a:List TypeId}:Rt.Tc a w w' (qz w B tp mb T) (qz w' B tp mb T) (!(a.contains 135)):=⟨fun b h e=>h.jG b (by simpa using e)⟩
theorem qz.AB(h:qz w B tp mb T)(a:Fx.Stp mb w w'):Fx.NT mb w w':=h.map.AB a
theorem qz.dJ(h:qz w B tp mb T)(a:Fx.NT r w w')(b:mb≠r):qz w' B tp mb T:=⟨h.blk.dJ a,h.map.dJ a b,h.inv,h.gt,h.gm⟩
theorem qz.weak{a:Nat}(h:qz w B tp mb T)(b:a<=B):qz w a tp mb T:=⟨h.blk,h.map,h.inv,Nat.le_trans b h.gt,Nat.le_trans b h.gm⟩
theorem qz.lt(h:qz w B tp mb T):mb<w.heap.size:=h.map.lt
end
end Rt
theorem XW(w:World):Calls Tryz.prog 39 #[] w fun e w' => ∃ tp mb,e = .returned (.pointer (some ⟨tp,0,none⟩))/\w.heap.size<=mb/\qz w' w.heap.size tp mb dN.zero/\Below w.heap.size w w' :=
 (acM (fun _=>0) (fun _=>0) w).mono fun e w' ⟨tp,mb,b,c,a,d,f,g⟩=>⟨tp,mb,b,a,⟨d,f,AO.zero _ _,c,a⟩,g⟩
theorem IX{w:World}{B tp mb:Nat}{T:dN}(id pa:Int)(h:qz w B tp mb T)(i:0<=id/\id<=18446744073709551615) :
 Calls Tryz.prog 172 #[.pointer (some ⟨tp,0,none⟩),.int .u64 id,.int .u64 pa] w fun e w'=>e = .returned (.int .i64 (T.err id pa))/\qz w' B tp mb (T.add id pa)/\Fx.Stp mb w w' :=
 (acN T.x T.p T.n tp mb id pa w h.blk h.map h.inv).mono fun e w' ⟨c,k,m,l,b,j,d,f,g⟩=>by
  cases j with
  | no a h0 =>
    have a:T.err id pa=c:=a
    subst a
    refine⟨b,⟨d,?_,dN.GD h.inv i,h.gt,h.gm⟩,g⟩
    unfold dN.add
    rw[if_neg h0]; exact f
  | yes a =>
    have a:T.err id pa=0:=a
    refine⟨by rw[a]; exact b,⟨d,?_,dN.GD h.inv i,h.gt,h.gm⟩,g⟩
    unfold dN.add
    rw[if_pos a]; exact f
theorem XY{w:World}{B tp mb:Nat}{T:dN}(k:Int)(h:qz w B tp mb T) :
 Calls Tryz.prog 106 #[.pointer (some ⟨tp,0,none⟩),.int .u64 k] w fun e w'=>e = .returned (.bool (T.has k))/\w'=w:=Dx T.x T.p T.n tp mb k w h.blk h.map
def Un(w:World)(B:Nat)(a:Option Addr)(c:Nat)(l:List Int):Prop:=Fx.Own w B 28 1 (.slice a l.length c) l.length (wE l)
theorem Un.up{w w':World}{B c:Nat}{a:Option Addr}{l:List Int}(h:Un w B a c l)(b:Below w.heap.size w w'):Un w' B a c l:=Fx.Own.up h b
instance {w w':World} {B c:Nat} {a:Option Addr} {l:List Int}:Rt.Tr w w' (Un w B a c l) (Un w' B a c l):=⟨fun b h=>h.up b⟩
theorem GH{w:World}{B tp mb:Nat}{T:dN}(k:Int)(h:qz w B tp mb T) :
 Calls Tryz.prog 49 #[.pointer (some ⟨tp,0,none⟩),.int .u64 k] w fun e w' => ∃ a c,e = .returned (.slice a (T.path k).length c)/\Un w' w.heap.size a c (T.path k)/\Below w.heap.size w w' :=
 KI T.x T.p T.n tp mb 4 k w h.blk h.map h.inv.inj (h.inv.stop k) (h.inv.len k)
theorem Q6{w:World}{B tp mb:Nat}{T:dN}(h:qz w B tp mb T) :
 Calls Tryz.prog 42 #[.pointer (some ⟨tp,0,none⟩)] w fun e w' => ∃ a c l,e = .returned (.slice a (List.length l) c)/\Un w' w.heap.size a c l/\(l.Pairwise (· < ·) /\ ∀ k,k∈l<->T.has k=true)/\l.length<=32/\Below w.heap.size w w' :=
 (Zv T.x T.p T.n tp mb w h.blk h.map h.inv).mono fun e w' ⟨a,c,l,b,d,f,g,i⟩=>⟨a,c,l,b,d,⟨f,fun k=>by have:=g k; rw[and_true]at this; exact this⟩,i⟩
namespace Rt
section
variable {T U:dN} {id pa k:Int}
structure tO(U T:dN):Prop where
 has : ∀ k,U.has k=true->T.has k=true
 par : ∀ k,U.has k=true->U.par k=T.par k
theorem tO.same(h:tO U T)(hx : ∀ k,T.has k=true->U.has k=true) : ∀ k,U.path k=T.path k:=fun k=>by
 have e : ∀ k,U.has k=T.has k:=fun k=>by
  cases h1:U.has k with
  | true=>exact(h.has k h1).symm
  | false =>
    cases h2:T.has k with
    | false=>rfl
    | true=>rw[hx k h2]at h1; cases h1
 exact Fj e (fun k a=>h.par k (hx k a)) 4 k
theorem dN.jH(T:dN)(id pa k:Int):(T.put id pa).has k=(T.has k || decide (id=k)):=Rt.jH id k
theorem dN.uR(T:dN)(id pa k:Int):(T.put id pa).par k=if id=k then pa else T.par k:=Rt.uR id pa k
end
end Rt
namespace Fx
theorem Zw{P:Program}{f:Nat->Value}{w:World}{o:Oper}{T T':TypeId}{x y:Operand}{a b:Nat}(d:o.op = .binOp .or T x y T')(hx:ev f x = .int .u64 (1099511627776*(a:Int)))(hy:ev f y = .int .u64 (b:Int))(ha:a<=8388607)(g:b<1099511627776):Runs P f o w (.int .u64 (1099511627776*(a:Int)+b)) :=
 rD d hx hy (by
  have e:((BitVec.ofInt 64 (1099511627776*(a:Int)) ||| BitVec.ofInt 64 (b:Int)).toNat:Int)=1099511627776*(a:Int)+b:=by
   rw[BitVec.toNat_or,BitVec.toNat_ofInt,BitVec.toNat_ofInt]
   rw[show((1099511627776*(a:Int)) % ((2^64:Nat):Int)).toNat=1099511627776*a by omega,show((b:Int) % ((2^64:Nat):Int)).toNat=b by omega]
   have h:=Nat.shiftLeft_add_eq_or_of_lt (i:=40) (b:=b) (by omega) a
   rw[Nat.shiftLeft_eq]at h
   rw[show 1099511627776*a=a*2^40 by omega,<- h]
   omega
  have h:=jr (c:=1099511627776*(a:Int)+b) (by omega) rfl
  simp only[binOp,Op.intBits]
  show(pure (Value.int .u64 (IntKind.u64.wrap ((BitVec.ofInt 64 (1099511627776*(a:Int)) ||| BitVec.ofInt 64 (b:Int)).toNat:Int))):Sem Value).run P w=_
  rw[e,h]; rfl)
theorem Zx{w:World}{B c:Nat}{a:Option Addr}{l:List Int}(h:Un w B a c l):Fx.ku w a l.length 1 (wE l):=Own.adn h (Nat.le_refl _)
end Fx
end Go.Proofs.YtahbiajdgealnaaGreatDoor
namespace Go.Proofs.YtahbiajdgealnaaGreatDoor
open Go.RowKit Rt
open Fx (fD eT fI bC gL gK dw dR fZ iL dZ jg fP jh iV Lv sN Ln Ws Qv Wl Rp Wc Qs Wr Sb Lk Wk rC rV sR Rs Rn Rd Rk Wb Wx Wo Dw Wt qQ Qn EI Ao yj yI Ca Dl pG gY yL lZ sO uq vP wB xR Cy Ak rv aA aP bG aQ ev bX Stp dG aU flat dz Mp eX aT gN iF bD down iH jB iA ku bH bJ cells_one iG bT wD unseen jr gM bU dH bK bP bV bW fU gJ oQ gG)
namespace Rt
structure EvM where
 o:Int
 seq:Int
 deps:Nat->Int
 kind:Int
 node:Int
 dst:Int
 aX:Int
 req:Int
 of:Int
def bO(v:EvM):Nat->Value:=fun p=>if p=0 then au v.o else if p=1 then aD v.seq else if p<8 then aD (v.deps (p-2))else if p=8 then .int .u8 v.kind else if p=9 then aD v.node else if p=10 then au v.dst else if p=11 then au v.aX else if p=12 then aD v.req else aD v.of
theorem kW(v:EvM){p j:Nat}(h:p=j+2)(a:j<6):bO v p=aD (v.deps j):=by
 subst h; unfold bO; rw[if_neg (by omega),if_neg (by omega),if_pos (by omega),show j+2-2=j by omega]
theorem gu(v:EvM) : ∀ j,j<14->(bO v j).oneCell'=true:=fun j _=>by unfold bO; repeat (first|rfl|split)
def oK(i:Int):Bool:=decide (1<=i)&&decide (i<=6)
def kI(v:EvM):EvM :=
 if v.kind=1 then { v with dst:=0,req:=0,of:=0 } else if v.kind=2 then { v with dst:=0,req:=0,of:=0 } else if v.kind=3 then { v with dst:=0,of:=0 }
 else if v.kind=4 then { v with node:=0,dst:=0,aX:=0 } else if v.kind=5 then { v with req:=0,of:=0 } else if v.kind=6 then { v with node:=0,aX:=0,req:=0,of:=0 }
 else { v with node:=0,dst:=0,aX:=0,req:=0,of:=0 }
def someE(v:EvM):Bool:=decide (1<=v.aX)&&decide (v.aX<=1125899906842624)
def lI(v:EvM):Bool:=oK v.dst && !decide (v.dst=v.o)
def dK(v:EvM):Bool :=
 if v.kind=1 then decide (0<=v.aX)&&decide (v.aX<=1125899906842624)else if v.kind=2 then someE v else if v.kind=3 then someE v&&decide (1<=v.req)
 else if v.kind=4 then decide (1<=v.req)&&decide (1<=v.of) && !decide (v.req=v.of)else if v.kind=5 then someE v&&lI v else if v.kind=6 then lI v else decide (v.kind=7)
end Rt
theorem zK(n:Int)(w:World) :
 Calls Tryz.prog 75 #[au n] w fun e w'=>e = .returned (.bool (oK n))/\w'=w:=by
 refine Kent Tryz.func75 9 ?_
 refine ay<|av aF<|aC<|ay<|av (au n) ?_
 by_cases a:1<=n
 ·refine Lv aG (jv a)<|av aG<|av (au n) ?_
  by_cases b:n<=6
  ·refine Lv aG (mD b)<|av aG<|av aG<|aC<|Wr<|aI aG ?_
   exact⟨gP (by simp only[oK]; first|(symm; simp; omega)|(symm; simp; done)),rfl⟩
  refine Lv aF (mV b)<|av aF<|av aF<|aC<|Wr<|aI aF ?_
  exact⟨gP (by simp only[oK]; first|(symm; simp; omega)|(symm; simp; done)),rfl⟩
 refine Lv aF (ji a)<|av aF<|cB<|cB<|av aF<|av aF<|aC<|Wr<|aI aF ?_
 exact⟨gP (by simp only[oK]; first|(symm; simp; omega)|(symm; simp; done)),rfl⟩
theorem ado(v:EvM)(w:World) :
 Calls Tryz.prog 76 #[.agg (aA 14 (bO v))] w fun e w'=>e = .returned (.agg (aA 14 (bO (kI v))))/\Below w.heap.size w w':=by
 refine Kent Tryz.func76 60 ?_
 refine ay<|pK fun b w1 kV x s1 z1 => ?_
 have U:=aY s1.old (Below.refl w.heap.size w)
 have tL:=gH kV
 have vR:=x.lt
 refine wC 14 (fun i=>(#[au 0,aD 0,aD 0,aD 0,aD 0,aD 0,aD 0,aD 0,.int .u8 (0),aD 0,au 0,au 0,aD 0,aD 0]:Array Value).getD i undef) fun m w2 xH y s2 z2 => ?_
 have⟨s,b2⟩:=eG s2.old x U
 have qO:=jc xH U.size
 have IY:=bY xH x.lt
 have zJ:=y.lt
 refine aC<|ay<|av ((pt b))<|Lv (au v.o) (aL s.aH 0)<|av ((pf b 1))<|Lv (aD v.seq) (aL s.aH 1)<|av ((pf b 2))<|Lv (.agg (aA 6 (rv .u64 v.deps))) (fA s.aH 2 (fun j c=>kW _ (by omega) c))<|av ((pf b 8))<|Lv (.int .u8 (v.kind)) (aL s.aH 8)<|av (.agg (aA 14 (bG (bG (bG (bG (fun i=>(#[au 0,aD 0,aD 0,aD 0,aD 0,aD 0,aD 0,aD 0,.int .u8 (0),aD 0,au 0,au 0,aD 0,aD 0]:Array Value).getD i undef) 0 1 (fun _=>au v.o)) 1 1 (fun _=>aD v.seq)) 2 6 (rv .u64 v.deps)) 8 1 (fun _ => .int .u8 (v.kind)))))<|wC 14 (fun i=>(#[au 0,aD 0,aD 0,aD 0,aD 0,aD 0,aD 0,aD 0,.int .u8 (0),aD 0,au 0,au 0,aD 0,aD 0]:Array Value).getD i undef) fun a w3 yT m4 s3 z3 => ?_
 have⟨m5,m6,b3⟩:=jk s3.old s y b2
 have Dy:=jc yT b2.size
 have⟨adp,aoG⟩:=wM yT s.lt y.lt
 have KQ:=m4.lt
 refine fB m4 0 (h1:=(fun j c=>by rcases j with _|_|_|_|_|_|_|_|_|_|_|_|_|_|j <;> first|rfl|omega)) fun w4 m7 O z4 => ?_
 have m8:aP w4 a 14 (bG (bG (bG (bG (fun i=>(#[au 0,aD 0,aD 0,aD 0,aD 0,aD 0,aD 0,aD 0,.int .u8 (0),aD 0,au 0,au 0,aD 0,aD 0]:Array Value).getD i undef) 0 1 (fun _=>au v.o)) 1 1 (fun _=>aD v.seq)) 2 6 (rv .u64 v.deps)) 8 1 (fun _ => .int .u8 (v.kind))) 32:=aU m7
 have k:aP w4 a 14 (bO ⟨v.o,v.seq,v.deps,v.kind,0,0,0,0,0⟩) 32:=m8.congr (fun j c=>by rcases j with _|_|_|_|_|_|_|_|_|_|_|_|_|_|j <;> first|rfl|omega)
 have f:=m5.bZ O (by omega)
 have n:=m6.bZ O (by omega)
 have d:=O.below b3 b3.size (by omega)
 refine aC<|Ws<|ay<|av ((pf b 8))<|Lv (.int .u8 (v.kind)) (aL f.aH 8)<|aC<|Wb<|Ws<|ay ?_
 by_cases g:v.kind=1
 ·refine Lv aG (eP g)<|av aG<|aC<|aM<|Wk<|sN<|aM<|ay<|av ((pf b 9))<|Lv (aD v.node) (aL f.aH 9)<|av ((pf a 9))<|iQ k 9 (aD v.node) fun w5 m12 P z5 => ?_
  have m13:aP w5 a 14 (bO ⟨v.o,v.seq,v.deps,v.kind,v.node,0,0,0,0⟩) 32:=m12.congr (fun j c=>by rcases j with _|_|_|_|_|_|_|_|_|_|_|_|_|_|j <;> first|rfl|omega)
  have m14:=f.bZ P (by omega)
  have m15:=n.bZ P (by omega)
  have b5:=P.below d d.size (by omega)
  refine aC<|Wl<|av ((pf b 11))<|Lv (au v.aX) (aL m14.aH 11)<|av ((pf a 11))<|iQ m13 11 (au v.aX) fun w6 m16 Q z6 => ?_
  have m17:aP w6 a 14 (bO ⟨v.o,v.seq,v.deps,v.kind,v.node,0,v.aX,0,0⟩) 32:=m16.congr (fun j c=>by rcases j with _|_|_|_|_|_|_|_|_|_|_|_|_|_|j <;> first|rfl|omega)
  have m18:=m14.bZ Q (by omega)
  have m19:=m15.bZ Q (by omega)
  have b6:=Q.below b5 b5.size (by omega)
  refine Ln<|bP<|sN<|ay<|Lv (.agg (aA 14 (bO ⟨v.o,v.seq,v.deps,v.kind,v.node,0,v.aX,0,0⟩))) (fA m17.aH 0)<|fB m19 0 (h1:=(gu _)) fun w7 m20 R z7 => ?_
  have m21:aP w7 m 14 (bO ⟨v.o,v.seq,v.deps,v.kind,v.node,0,v.aX,0,0⟩) 32:=aU m20
  have m22:=m18.bZ R (by omega)
  have m23:=m17.bZ R (by omega)
  have b7:=R.below b6 b6.size (by omega)
  refine aC (Wr (⟨.agg (aA 14 (bO ⟨v.o,v.seq,v.deps,v.kind,v.node,0,v.aX,0,0⟩)),rV Tryz.results76 ⟨_,rfl,aT m21.aH (by kernel_rfl) (by kernel_rfl)⟩,?_⟩))
  refine⟨congrArg (fun q=>Ending.returned (Value.agg q)) (Fx.eH fun i r => ?_),b7⟩
  unfold kI; rw[if_pos g]
 refine Lv aF (fF g)<|av aF<|aC<|aK<|Wl ?_
 by_cases h:v.kind=2
 ·refine Lv aG (eP h)<|av aG<|aC<|aM<|ay<|av ((pf b 9))<|Lv (aD v.node) (aL f.aH 9)<|av ((pf a 9))<|iQ k 9 (aD v.node) fun w8 m24 S z8 => ?_
  have lW:aP w8 a 14 (bO ⟨v.o,v.seq,v.deps,v.kind,v.node,0,0,0,0⟩) 32:=m24.congr (fun j c=>by rcases j with _|_|_|_|_|_|_|_|_|_|_|_|_|_|j <;> first|rfl|omega)
  have mR:=f.bZ S (by omega)
  have nY:=n.bZ S (by omega)
  have b8:=S.below d d.size (by omega)
  refine aC<|Wl<|av ((pf b 11))<|Lv (au v.aX) (aL mR.aH 11)<|av ((pf a 11))<|iQ lW 11 (au v.aX) fun w9 nT T z9 => ?_
  have oF:aP w9 a 14 (bO ⟨v.o,v.seq,v.deps,v.kind,v.node,0,v.aX,0,0⟩) 32:=nT.congr (fun j c=>by rcases j with _|_|_|_|_|_|_|_|_|_|_|_|_|_|j <;> first|rfl|omega)
  have nE:=mR.bZ T (by omega)
  have lH:=nY.bZ T (by omega)
  have b9:=T.below b8 b8.size (by omega)
  refine Ln<|bP<|sN<|ay<|Lv (.agg (aA 14 (bO ⟨v.o,v.seq,v.deps,v.kind,v.node,0,v.aX,0,0⟩))) (fA oF.aH 0)<|fB lH 0 (h1:=(gu _)) fun rJ m32 z z10 => ?_
  have oI:aP rJ m 14 (bO ⟨v.o,v.seq,v.deps,v.kind,v.node,0,v.aX,0,0⟩) 32:=aU m32
  have nG:=nE.bZ z (by omega)
  have oJ:=oF.bZ z (by omega)
  have b10:=z.below b9 b9.size (by omega)
  refine aC (Wr (⟨.agg (aA 14 (bO ⟨v.o,v.seq,v.deps,v.kind,v.node,0,v.aX,0,0⟩)),rV Tryz.results76 ⟨_,rfl,aT oI.aH (by kernel_rfl) (by kernel_rfl)⟩,?_⟩))
  refine⟨congrArg (fun q=>Ending.returned (Value.agg q)) (Fx.eH fun i r => ?_),b10⟩
  unfold kI; rw[if_neg g,if_pos h]
 refine Lv aF (fF h)<|av aF<|aC<|aK<|ay ?_
 by_cases l:v.kind=3
 ·refine Lv aG (eP l)<|av aG<|aC<|aM<|ay<|av ((pf b 9))<|Lv (aD v.node) (aL f.aH 9)<|av ((pf a 9))<|iQ k 9 (aD v.node) fun DI pO A z11 => ?_
  have qL:aP DI a 14 (bO ⟨v.o,v.seq,v.deps,v.kind,v.node,0,0,0,0⟩) 32:=pO.congr (fun j c=>by rcases j with _|_|_|_|_|_|_|_|_|_|_|_|_|_|j <;> first|rfl|omega)
  have qM:=f.bZ A (by omega)
  have pQ:=n.bZ A (by omega)
  have V:=A.below d d.size (by omega)
  refine aC<|ay<|av ((pf b 11))<|Lv (au v.aX) (aL qM.aH 11)<|av ((pf a 11))<|iQ qL 11 (au v.aX) fun Ch qW B z12 => ?_
  have mW:aP Ch a 14 (bO ⟨v.o,v.seq,v.deps,v.kind,v.node,0,v.aX,0,0⟩) 32:=qW.congr (fun j c=>by rcases j with _|_|_|_|_|_|_|_|_|_|_|_|_|_|j <;> first|rfl|omega)
  have lY:=qM.bZ B (by omega)
  have lX:=pQ.bZ B (by omega)
  have W:=B.below V V.size (by omega)
  refine aC<|Wl<|av ((pf b 12))<|Lv (aD v.req) (aL lY.aH 12)<|av ((pf a 12))<|iQ mW 12 (aD v.req) fun EN qX C z13 => ?_
  have oZ:aP EN a 14 (bO ⟨v.o,v.seq,v.deps,v.kind,v.node,0,v.aX,v.req,0⟩) 32:=qX.congr (fun j c=>by rcases j with _|_|_|_|_|_|_|_|_|_|_|_|_|_|j <;> first|rfl|omega)
  have mX:=lY.bZ C (by omega)
  have rM:=lX.bZ C (by omega)
  have X:=C.below W W.size (by omega)
  refine Ln<|bP<|sN<|ay<|Lv (.agg (aA 14 (bO ⟨v.o,v.seq,v.deps,v.kind,v.node,0,v.aX,v.req,0⟩))) (fA oZ.aH 0)<|fB rM 0 (h1:=(gu _)) fun Mv vU D z14 => ?_
  have qY:aP Mv m 14 (bO ⟨v.o,v.seq,v.deps,v.kind,v.node,0,v.aX,v.req,0⟩) 32:=aU vU
  have qZ:=mX.bZ D (by omega)
  have uw:=oZ.bZ D (by omega)
  have b14:=D.below X X.size (by omega)
  refine aC (Wr (⟨.agg (aA 14 (bO ⟨v.o,v.seq,v.deps,v.kind,v.node,0,v.aX,v.req,0⟩)),rV Tryz.results76 ⟨_,rfl,aT qY.aH (by kernel_rfl) (by kernel_rfl)⟩,?_⟩))
  refine⟨congrArg (fun q=>Ending.returned (Value.agg q)) (Fx.eH fun i r => ?_),b14⟩
  unfold kI; rw[if_neg g,if_neg h,if_pos l]
 refine Lv aF (fF l)<|av aF<|aC<|aK<|ay ?_
 by_cases p:v.kind=4
 ·refine Lv aG (eP p)<|av aG<|aC<|aM<|ay<|av ((pf b 12))<|Lv (aD v.req) (aL f.aH 12)<|av ((pf a 12))<|iQ k 12 (aD v.req) fun Mw uS E z15 => ?_
  have rZ:aP Mw a 14 (bO ⟨v.o,v.seq,v.deps,v.kind,0,0,0,v.req,0⟩) 32:=uS.congr (fun j c=>by rcases j with _|_|_|_|_|_|_|_|_|_|_|_|_|_|j <;> first|rfl|omega)
  have sP:=f.bZ E (by omega)
  have wP:=n.bZ E (by omega)
  have Y:=E.below d d.size (by omega)
  refine aC<|Wl<|av ((pf b 13))<|Lv (aD v.of) (aL sP.aH 13)<|av ((pf a 13))<|iQ rZ 13 (aD v.of) fun w16 sQ F z16 => ?_
  have sS:aP w16 a 14 (bO ⟨v.o,v.seq,v.deps,v.kind,0,0,0,v.req,v.of⟩) 32:=sQ.congr (fun j c=>by rcases j with _|_|_|_|_|_|_|_|_|_|_|_|_|_|j <;> first|rfl|omega)
  have rO:=sP.bZ F (by omega)
  have vV:=wP.bZ F (by omega)
  have Z:=F.below Y Y.size (by omega)
  refine Ln<|bP<|sN<|ay<|Lv (.agg (aA 14 (bO ⟨v.o,v.seq,v.deps,v.kind,0,0,0,v.req,v.of⟩))) (fA sS.aH 0)<|fB vV 0 (h1:=(gu _)) fun Qy pR G z17 => ?_
  have vW:aP Qy m 14 (bO ⟨v.o,v.seq,v.deps,v.kind,0,0,0,v.req,v.of⟩) 32:=aU pR
  have mU:=rO.bZ G (by omega)
  have qN:=sS.bZ G (by omega)
  have b17:=G.below Z Z.size (by omega)
  refine aC (Wr (⟨.agg (aA 14 (bO ⟨v.o,v.seq,v.deps,v.kind,0,0,0,v.req,v.of⟩)),rV Tryz.results76 ⟨_,rfl,aT vW.aH (by kernel_rfl) (by kernel_rfl)⟩,?_⟩))
  refine⟨congrArg (fun q=>Ending.returned (Value.agg q)) (Fx.eH fun i r => ?_),b17⟩
  unfold kI; rw[if_neg g,if_neg h,if_neg l,if_pos p]
 refine Lv aF (fF p)<|av aF<|aC<|aK<|ay ?_
 by_cases t:v.kind=5
 ·refine Lv aG (eP t)<|av aG<|aC<|aM<|ay<|av ((pf b 9))<|Lv (aD v.node) (aL f.aH 9)<|av ((pf a 9))<|iQ k 9 (aD v.node) fun Qz m64 H z18 => ?_
  have wm:aP Qz a 14 (bO ⟨v.o,v.seq,v.deps,v.kind,v.node,0,0,0,0⟩) 32:=m64.congr (fun j c=>by rcases j with _|_|_|_|_|_|_|_|_|_|_|_|_|_|j <;> first|rfl|omega)
  have uy:=f.bZ H (by omega)
  have uz:=n.bZ H (by omega)
  have aa:=H.below d d.size (by omega)
  refine aC<|ay<|av ((pf b 11))<|Lv (au v.aX) (aL uy.aH 11)<|av ((pf a 11))<|iQ wm 11 (au v.aX) fun XO sj I z19 => ?_
  have ru:aP XO a 14 (bO ⟨v.o,v.seq,v.deps,v.kind,v.node,0,v.aX,0,0⟩) 32:=sj.congr (fun j c=>by rcases j with _|_|_|_|_|_|_|_|_|_|_|_|_|_|j <;> first|rfl|omega)
  have sU:=uy.bZ I (by omega)
  have sV:=uz.bZ I (by omega)
  have ab:=I.below aa aa.size (by omega)
  refine aC<|Wl<|av ((pf b 10))<|Lv (au v.dst) (aL sU.aH 10)<|av ((pf a 10))<|iQ ru 10 (au v.dst) fun Mx uD J z20 => ?_
  have sZ:aP Mx a 14 (bO ⟨v.o,v.seq,v.deps,v.kind,v.node,v.dst,v.aX,0,0⟩) 32:=uD.congr (fun j c=>by rcases j with _|_|_|_|_|_|_|_|_|_|_|_|_|_|j <;> first|rfl|omega)
  have yB:=sU.bZ J (by omega)
  have uE:=sV.bZ J (by omega)
  have b20:=J.below ab ab.size (by omega)
  refine Ln<|bP<|sN<|ay<|Lv (.agg (aA 14 (bO ⟨v.o,v.seq,v.deps,v.kind,v.node,v.dst,v.aX,0,0⟩))) (fA sZ.aH 0)<|fB uE 0 (h1:=(gu _)) fun Um wQ K z21 => ?_
  have wF:aP Um m 14 (bO ⟨v.o,v.seq,v.deps,v.kind,v.node,v.dst,v.aX,0,0⟩) 32:=aU wQ
  have wR:=yB.bZ K (by omega)
  have vX:=sZ.bZ K (by omega)
  have KP:=K.below b20 b20.size (by omega)
  refine aC (Wr (⟨.agg (aA 14 (bO ⟨v.o,v.seq,v.deps,v.kind,v.node,v.dst,v.aX,0,0⟩)),rV Tryz.results76 ⟨_,rfl,aT wF.aH (by kernel_rfl) (by kernel_rfl)⟩,?_⟩))
  refine⟨congrArg (fun q=>Ending.returned (Value.agg q)) (Fx.eH fun i r => ?_),KP⟩
  unfold kI; rw[if_neg g,if_neg h,if_neg l,if_neg p,if_pos t]
 refine Lv aF (fF t)<|av aF<|aC<|aK<|ay ?_
 by_cases u:v.kind=6
 ·refine Lv aG (eP u)<|av aG<|aC<|aM<|Wl<|av ((pf b 10))<|Lv (au v.dst) (aL f.aH 10)<|av ((pf a 10))<|iQ k 10 (au v.dst) fun w22 uT L z22 => ?_
  have tN:aP w22 a 14 (bO ⟨v.o,v.seq,v.deps,v.kind,0,v.dst,0,0,0⟩) 32:=uT.congr (fun j c=>by rcases j with _|_|_|_|_|_|_|_|_|_|_|_|_|_|j <;> first|rfl|omega)
  have wo:=f.bZ L (by omega)
  have xW:=n.bZ L (by omega)
  have Kg:=L.below d d.size (by omega)
  refine Ln<|bP<|sN<|ay<|Lv (.agg (aA 14 (bO ⟨v.o,v.seq,v.deps,v.kind,0,v.dst,0,0,0⟩))) (fA tN.aH 0)<|fB xW 0 (h1:=(gu _)) fun w23 wu M z23 => ?_
  have yR:aP w23 m 14 (bO ⟨v.o,v.seq,v.deps,v.kind,0,v.dst,0,0,0⟩) 32:=aU wu
  have yC:=wo.bZ M (by omega)
  have xX:=tN.bZ M (by omega)
  have Qp:=M.below Kg Kg.size (by omega)
  refine aC (Wr (⟨.agg (aA 14 (bO ⟨v.o,v.seq,v.deps,v.kind,0,v.dst,0,0,0⟩)),rV Tryz.results76 ⟨_,rfl,aT yR.aH (by kernel_rfl) (by kernel_rfl)⟩,?_⟩))
  refine⟨congrArg (fun q=>Ending.returned (Value.agg q)) (Fx.eH fun i r => ?_),Qp⟩
  unfold kI; rw[if_neg g,if_neg h,if_neg l,if_neg p,if_neg t,if_pos u]
 refine Lv aF (fF u)<|av aF<|aC<|aK<|Wk<|bP<|sN<|ay<|Lv (.agg (aA 14 (bO ⟨v.o,v.seq,v.deps,v.kind,0,0,0,0,0⟩))) (fA k.aH 0)<|fB n 0 (h1:=(gu _)) fun w24 xG N z24 => ?_
 have xY:aP w24 m 14 (bO ⟨v.o,v.seq,v.deps,v.kind,0,0,0,0,0⟩) 32:=aU xG
 have yS:=f.bZ N (by omega)
 have Ci:=k.bZ N (by omega)
 have Qq:=N.below d d.size (by omega)
 refine aC (Wr (⟨.agg (aA 14 (bO ⟨v.o,v.seq,v.deps,v.kind,0,0,0,0,0⟩)),rV Tryz.results76 ⟨_,rfl,aT xY.aH (by kernel_rfl) (by kernel_rfl)⟩,?_⟩))
 refine⟨congrArg (fun q=>Ending.returned (Value.agg q)) (Fx.eH fun i r => ?_),Qq⟩
 unfold kI; rw[if_neg g,if_neg h,if_neg l,if_neg p,if_neg t,if_neg u]
set_option linter.unusedSimpArgs false in
set_option maxHeartbeats 2000000 in
theorem IZ(v:EvM)(w:World) :
 Calls Tryz.prog 77 #[.agg (aA 14 (bO v))] w fun e w'=>e = .returned (.bool (dK v))/\Below w.heap.size w w':=by
 refine Kent Tryz.func77 75 ?_
 refine ay<|pK fun g S M B N V => ?_
 have I:=aY N.old (Below.refl w.heap.size w)
 have Q:=gH M
 have R:=B.lt
 refine av aF<|aC<|Cy (fun f F=>f 1=(pt g)/\f 3 = .bool (someE v)/\aP F g 14 (bO v) 32/\Below w.heap.size w F) ?_ ?_
 ·refine Wl<|av ((pf g 11))<|Lv (au v.aX) (aL B.aH 11) ?_
  by_cases D:1<=v.aX
  ·refine Lv aG (jv D)<|av aG<|av ((pf g 11))<|Lv (au v.aX) (aL B.aH 11) ?_
   by_cases G:v.aX<=1125899906842624
   ·refine Lv aG (mD G)<|av aG<|av aG<|Ln ?_
    exact wD ⟨(by rfl),(by show Value.bool true=Value.bool (someE v); unfold someE; rw[decide_eq_true D,decide_eq_true G]; rfl),B,I⟩
   refine Lv aF (mV G)<|av aF<|av aF<|Ln ?_
   exact wD ⟨(by rfl),(by show Value.bool false=Value.bool (someE v); unfold someE; rw[decide_eq_true D,decide_eq_false G]; rfl),B,I⟩
  refine Lv aF (ji D)<|av aF<|cB<|cB<|cB<|av aF<|av aF<|Ln ?_
  exact wD ⟨(by rfl),(by show Value.bool false=Value.bool (someE v); unfold someE; rw[decide_eq_false D]; rfl),B,I⟩
 rintro O T ⟨A,K,C,J⟩
 refine Cy (fun f F=>f 1=(pt g)/\f 3 = .bool (someE v)/\f 4 = .bool (lI v)/\aP F g 14 (bO v) 32/\Below w.heap.size w F) ?_ ?_
 ·refine Wl<|Lv ((pf g 10)) (iN A 10)<|Lv (au v.dst) (aL C.aH 10) ?_
  by_cases t:(oK v.dst)=true
  ·refine kg (zK v.dst _) aG (by rw[t])<|av aG<|Lv ((pf g 10)) (iN A 10)<|Lv (au v.dst) (aL C.aH 10)<|Lv ((pt g)) (iN A 0)<|Lv (au v.o) (aL C.aH 0) ?_
   by_cases H:v.dst=v.o
   ·refine Lv aF (jJ H)<|av aF<|av aF<|Ln ?_
    exact wD ⟨A,K,(by show Value.bool false=Value.bool (lI v); unfold lI; rw[t,decide_eq_true H]; rfl),C,J⟩
   refine Lv aG (mE H)<|av aG<|av aG<|Ln ?_
   exact wD ⟨A,K,(by show Value.bool true=Value.bool (lI v); unfold lI; rw[t,decide_eq_false H]; rfl),C,J⟩
  rw[Bool.not_eq_true]at t
  refine kg (zK v.dst _) aF (by rw[t])<|av aF<|cB<|cB<|cB<|cB<|cB<|av aF<|av aF<|Ln ?_
  exact wD ⟨A,K,(by show Value.bool false=Value.bool (lI v); unfold lI; rw[t]; rfl),C,J⟩
 rintro P U ⟨m,E,L,n,h⟩
 refine Ws<|ay<|Lv ((pf g 8)) (iN m 8)<|Lv (.int .u8 (v.kind)) (aL n.aH 8)<|aC<|Wb<|ay ?_
 by_cases a:v.kind=1
 ·refine Lv aG (eP a)<|av aG<|aC<|aM<|ay<|Lv ((pf g 11)) (iN m 11)<|Lv (au v.aX) (aL n.aH 11) ?_
  by_cases p:0<=v.aX
  ·refine Lv aG (jv p)<|av aG<|Lv ((pf g 11)) (iN m 11)<|Lv (au v.aX) (aL n.aH 11) ?_
   by_cases u:v.aX<=1125899906842624
   ·refine Lv aG (mD u)<|av aG<|av aG<|aC<|Wr<|bK<|sR<|aI aG ?_
    exact⟨gP (Eq.symm (by unfold dK; first|(rw[if_pos a]; done)|(rw[if_pos a]; first|(simp[p,u]; done)|(simp[p,u]; omega)))),h⟩
   refine Lv aF (mV u)<|av aF<|av aF<|aC<|Wr<|bK<|sR<|aI aF ?_
   exact⟨gP (Eq.symm (by unfold dK; first|(rw[if_pos a]; done)|(rw[if_pos a]; first|(simp[p,u]; done)|(simp[p,u]; omega)))),h⟩
  refine Lv aF (ji p)<|av aF<|cB<|cB<|cB<|av aF<|av aF<|aC<|Wr<|bK<|sR<|aI aF ?_
  exact⟨gP (Eq.symm (by unfold dK; first|(rw[if_pos a]; done)|(rw[if_pos a]; first|(simp[p]; done)|(simp[p]; omega)))),h⟩
 refine Lv aF (fF a)<|av aF<|aC<|aK<|ay ?_
 by_cases b:v.kind=2
 ·refine Lv aG (eP b)<|av aG<|aC<|aM<|ay<|aS E<|av (.bool (someE v))<|aC<|Wr<|bK<|sR<|aI (.bool (someE v)) ?_
  exact⟨gP (Eq.symm (by unfold dK; first|(rw[if_neg a,if_pos b]; done)|(rw[if_neg a,if_pos b]; first|(simp[]; done)|(simp[]; omega)))),h⟩
 refine Lv aF (fF b)<|av aF<|aC<|aK<|ay ?_
 by_cases c:v.kind=3
 ·refine Lv aG (eP c)<|av aG<|aC<|aM<|ay ?_
  by_cases k:(someE v)=true
  ·refine aS (E.trans (congrArg Value.bool k))<|av aG<|Lv ((pf g 12)) (iN m 12)<|Lv (aD v.req) (aL n.aH 12) ?_
   by_cases x:1<=v.req
   ·refine Lv aG (jv x)<|av aG<|av aG<|aC<|Wr<|bK<|sR<|aI aG ?_
    exact⟨gP (Eq.symm (by unfold dK; first|(rw[if_neg a,if_neg b,if_pos c]; done)|(rw[if_neg a,if_neg b,if_pos c]; first|(simp[k,x]; done)|(simp[k,x]; omega)))),h⟩
   refine Lv aF (ji x)<|av aF<|av aF<|aC<|Wr<|bK<|sR<|aI aF ?_
   exact⟨gP (Eq.symm (by unfold dK; first|(rw[if_neg a,if_neg b,if_pos c]; done)|(rw[if_neg a,if_neg b,if_pos c]; first|(simp[k,x]; done)|(simp[k,x]; omega)))),h⟩
  rw[Bool.not_eq_true]at k
  refine aS (E.trans (congrArg Value.bool k))<|av aF<|cB<|cB<|cB<|av aF<|av aF<|aC<|Wr<|bK<|sR<|aI aF ?_
  exact⟨gP (Eq.symm (by unfold dK; first|(rw[if_neg a,if_neg b,if_pos c]; done)|(rw[if_neg a,if_neg b,if_pos c]; first|(simp[k]; done)|(simp[k]; omega)))),h⟩
 refine Lv aF (fF c)<|av aF<|aC<|aK<|ay ?_
 by_cases d:v.kind=4
 ·refine Lv aG (eP d)<|av aG<|aC<|aM<|ay<|Lv ((pf g 12)) (iN m 12)<|Lv (aD v.req) (aL n.aH 12) ?_
  by_cases j:1<=v.req
  ·refine Lv aG (jv j)<|av aG<|Lv ((pf g 13)) (iN m 13)<|Lv (aD v.of) (aL n.aH 13) ?_
   by_cases q:1<=v.of
   ·refine Lv aG (jv q)<|av aG<|av aG<|Lv ((pf g 12)) (iN m 12)<|Lv (aD v.req) (aL n.aH 12)<|Lv ((pf g 13)) (iN m 13)<|Lv (aD v.of) (aL n.aH 13) ?_
    by_cases y:v.req=v.of
    ·refine Lv aF (jJ y)<|av aF<|av aF<|aC<|Wr<|bK<|sR<|aI aF ?_
     exact⟨gP (Eq.symm (by unfold dK; first|(rw[if_neg a,if_neg b,if_neg c,if_pos d]; done)|(rw[if_neg a,if_neg b,if_neg c,if_pos d]; first|(simp[j,q,y]; done)|(simp[j,q,y]; omega)))),h⟩
    refine Lv aG (mE y)<|av aG<|av aG<|aC<|Wr<|bK<|sR<|aI aG ?_
    exact⟨gP (Eq.symm (by unfold dK; first|(rw[if_neg a,if_neg b,if_neg c,if_pos d]; done)|(rw[if_neg a,if_neg b,if_neg c,if_pos d]; first|(simp[j,q,y]; done)|(simp[j,q,y]; omega)))),h⟩
   refine Lv aF (ji q)<|av aF<|av aF<|cB<|cB<|cB<|cB<|cB<|av aF<|av aF<|aC<|Wr<|bK<|sR<|aI aF ?_
   exact⟨gP (Eq.symm (by unfold dK; first|(rw[if_neg a,if_neg b,if_neg c,if_pos d]; done)|(rw[if_neg a,if_neg b,if_neg c,if_pos d]; first|(simp[j,q]; done)|(simp[j,q]; omega)))),h⟩
  refine Lv aF (ji j)<|av aF<|cB<|cB<|cB<|av aF<|av aF<|cB<|cB<|cB<|cB<|cB<|av aF<|av aF<|aC<|Wr<|bK<|sR<|aI aF ?_
  exact⟨gP (Eq.symm (by unfold dK; first|(rw[if_neg a,if_neg b,if_neg c,if_pos d]; done)|(rw[if_neg a,if_neg b,if_neg c,if_pos d]; first|(simp[j]; done)|(simp[j]; omega)))),h⟩
 refine Lv aF (fF d)<|av aF<|aC<|aK<|ay ?_
 by_cases i:v.kind=5
 ·refine Lv aG (eP i)<|av aG<|aC<|aM<|ay ?_
  by_cases l:(someE v)=true
  ·refine aS (E.trans (congrArg Value.bool l))<|av aG ?_
   by_cases s:(lI v)=true
   ·refine aS (L.trans (congrArg Value.bool s))<|av aG<|av aG<|aC<|Wr<|bK<|sR<|aI aG ?_
    exact⟨gP (Eq.symm (by unfold dK; first|(rw[if_neg a,if_neg b,if_neg c,if_neg d,if_pos i]; done)|(rw[if_neg a,if_neg b,if_neg c,if_neg d,if_pos i]; first|(simp[l,s]; done)|(simp[l,s]; omega)))),h⟩
   rw[Bool.not_eq_true]at s
   refine aS (L.trans (congrArg Value.bool s))<|av aF<|av aF<|aC<|Wr<|bK<|sR<|aI aF ?_
   exact⟨gP (Eq.symm (by unfold dK; first|(rw[if_neg a,if_neg b,if_neg c,if_neg d,if_pos i]; done)|(rw[if_neg a,if_neg b,if_neg c,if_neg d,if_pos i]; first|(simp[l,s]; done)|(simp[l,s]; omega)))),h⟩
  rw[Bool.not_eq_true]at l
  refine aS (E.trans (congrArg Value.bool l))<|av aF<|cB<|av aF<|av aF<|aC<|Wr<|bK<|sR<|aI aF ?_
  exact⟨gP (Eq.symm (by unfold dK; first|(rw[if_neg a,if_neg b,if_neg c,if_neg d,if_pos i]; done)|(rw[if_neg a,if_neg b,if_neg c,if_neg d,if_pos i]; first|(simp[l]; done)|(simp[l]; omega)))),h⟩
 refine Lv aF (fF i)<|av aF<|aC<|aK<|ay ?_
 by_cases r:v.kind=6
 ·refine Lv aG (eP r)<|av aG<|aC<|aM<|ay<|aS L<|av (.bool (lI v))<|aC<|Wr<|bK<|sR<|aI (.bool (lI v)) ?_
  exact⟨gP (Eq.symm (by unfold dK; first|(rw[if_neg a,if_neg b,if_neg c,if_neg d,if_neg i,if_pos r]; done)|(rw[if_neg a,if_neg b,if_neg c,if_neg d,if_neg i,if_pos r]; first|(simp[]; done)|(simp[]; omega)))),h⟩
 refine Lv aF (fF r)<|av aF<|aC<|aK<|Wk<|bP<|sN<|ay<|Lv ((pf g 8)) (iN m 8)<|Lv (.int .u8 (v.kind)) (aL n.aH 8) ?_
 by_cases z:v.kind=7
 ·refine Lv aG (eP z)<|av aG<|aC<|Wr<|aI aG ?_
  exact⟨gP (Eq.symm (by unfold dK; first|(rw[if_neg a,if_neg b,if_neg c,if_neg d,if_neg i,if_neg r]; done)|(rw[if_neg a,if_neg b,if_neg c,if_neg d,if_neg i,if_neg r]; first|(simp[z]; done)|(simp[z]; omega)))),h⟩
 refine Lv aF (fF z)<|av aF<|aC<|Wr<|aI aF ?_
 exact⟨gP (Eq.symm (by unfold dK; first|(rw[if_neg a,if_neg b,if_neg c,if_neg d,if_neg i,if_neg r]; done)|(rw[if_neg a,if_neg b,if_neg c,if_neg d,if_neg i,if_neg r]; first|(simp[z]; done)|(simp[z]; omega)))),h⟩
namespace Rt
def iD(n:Int):Prop:=0<=n/\n<=18446744073709551615
def oL(n:Int):Prop := -9223372036854775808<=n/\n<=9223372036854775807
structure fC(v:EvM):Prop where
 o:oL v.o
 seq:iD v.seq
 deps : ∀ i,i<6->iD (v.deps i)
 kind:0<=v.kind/\v.kind<=255
 node:iD v.node
 dst:oL v.dst
 aX:oL v.aX
 req:iD v.req
 of:iD v.of
theorem fC.own{v:EvM}(h:fC v):fC (kI v):=by
 have z:iD 0:=⟨by decide,by decide⟩
 have y:oL 0:=⟨by decide,by decide⟩
 unfold kI
 split
 ·exact⟨h.o,h.seq,h.deps,h.kind,h.node,y,h.aX,z,z⟩
 split
 ·exact⟨h.o,h.seq,h.deps,h.kind,h.node,y,h.aX,z,z⟩
 split
 ·exact⟨h.o,h.seq,h.deps,h.kind,h.node,y,h.aX,h.req,z⟩
 split
 ·exact⟨h.o,h.seq,h.deps,h.kind,z,y,y,h.req,h.of⟩
 split
 ·exact⟨h.o,h.seq,h.deps,h.kind,h.node,h.dst,h.aX,z,z⟩
 split
 ·exact⟨h.o,h.seq,h.deps,h.kind,z,h.dst,y,z,z⟩
 exact⟨h.o,h.seq,h.deps,h.kind,z,y,y,z,z⟩
theorem BH{v:EvM}(h:fC v):Fx.Kd [(some .i64),(some .u64),(some .u64),(some .u64),(some .u64),(some .u64),(some .u64),(some .u64),(some .u8),(some .u64),(some .i64),(some .i64),(some .u64),(some .u64)] (bO v):=by
 have a : ∀(k:IntKind) (n:Int),(Lit.int k n).wf=true -> ∃ l,mZ (some k) (.int k n)=some l:=fun k n d=>by
  obtain⟨l,c⟩:=Fx.Dm (k:=k) (n:=1) (x:=fun _=>n) (fun _ _=>d) 0 (by simp)
  exact⟨l,c⟩
 intro i b
 have e:i<14:=b
 rcases i with _|_|_|_|_|_|_|_|_|_|_|_|_|_|i
 ·exact a .i64 v.o (Fx.Py h.o)
 ·exact a .u64 v.seq (Fx.rE h.seq)
 ·exact a .u64 (v.deps 0) (Fx.rE (h.deps 0 (by decide)))
 ·exact a .u64 (v.deps 1) (Fx.rE (h.deps 1 (by decide)))
 ·exact a .u64 (v.deps 2) (Fx.rE (h.deps 2 (by decide)))
 ·exact a .u64 (v.deps 3) (Fx.rE (h.deps 3 (by decide)))
 ·exact a .u64 (v.deps 4) (Fx.rE (h.deps 4 (by decide)))
 ·exact a .u64 (v.deps 5) (Fx.rE (h.deps 5 (by decide)))
 ·exact a .u8 v.kind (Fx.ahk h.kind)
 ·exact a .u64 v.node (Fx.rE h.node)
 ·exact a .i64 v.dst (Fx.Py h.dst)
 ·exact a .i64 v.aX (Fx.Py h.aX)
 ·exact a .u64 v.req (Fx.rE h.req)
 ·exact a .u64 v.of (Fx.rE h.of)
 omega
def yU(v:EvM):Bool:=(List.range 6).all fun i=>decide (v.deps i<1099511627776)
def tQ(v:EvM):Bool:=decide (v.node=(kI v).node)&&decide (v.dst=(kI v).dst)&&decide (v.aX=(kI v).aX)&&decide (v.req=(kI v).req)&&decide (v.of=(kI v).of)
def dh(v:EvM):Bool:=oK v.o&&decide (1<=v.seq)&&decide (v.seq<1099511627776)&&decide (v.deps (v.o-1).toNat=v.seq-1)&&yU v&&tQ v&&dK v
theorem Q7(v:EvM):(kI v).o=v.o/\(kI v).seq=v.seq/\(kI v).deps=v.deps/\(kI v).kind=v.kind:=by
 unfold kI; repeat (first|exact⟨rfl,rfl,rfl,rfl⟩|split)
theorem AV(v:EvM):tQ v=true <-> ∀ i,i<14->bO v i=bO (kI v) i:=by
 obtain⟨m,n,p,q⟩:=Q7 v
 unfold tQ
 simp only[Bool.and_eq_true,decide_eq_true_eq]
 constructor
 ·rintro ⟨⟨⟨⟨a,b⟩,c⟩,d⟩,e⟩ i r
  have:kI v=v:=by
   cases hv:kI v with
   | mk o seq deps kind node dst aX req of =>
     rw[hv]at m n p q a b c d e
     cases v; simp_all
  rw[this]
 intro h
 have l:Value.int .u64 v.node=aD (kI v).node:=h 9 (by decide)
 have f:Value.int .i64 v.dst=au (kI v).dst:=h 10 (by decide)
 have g:Value.int .i64 v.aX=au (kI v).aX:=h 11 (by decide)
 have j:Value.int .u64 v.req=aD (kI v).req:=h 12 (by decide)
 have k:Value.int .u64 v.of=aD (kI v).of:=h 13 (by decide)
 simp only[Value.int.injEq,true_and]at l f g j k
 exact⟨⟨⟨⟨l,f⟩,g⟩,j⟩,k⟩
theorem eY{i:Int}(h:oK i=true) : ∃ a:Nat,a<6/\i=(a:Int)+1:=by
 unfold oK at h; simp at h
 obtain⟨a,b⟩:=Int.eq_ofNat_of_zero_le (show 0<=i-1 by omega)
 exact⟨a,by omega,by omega⟩
theorem Fw{v:EvM}{k:Nat}(a:k<6)(h:1099511627776<=v.deps k):yU v=false:=by
 unfold yU; rw[List.all_eq_false]; exact⟨k,List.mem_range.2 a,by simp; omega⟩
theorem uU{v:EvM}{k:Nat}(b : ¬ (k:Int)<6)(h : ∀ i,i<k->v.deps i<1099511627776):yU v=true:=by
 unfold yU; rw[List.all_eq_true]; intro i a; have:=List.mem_range.1 a; simp; exact h i (by omega)
theorem N8{v:EvM}{k:Nat}(h : ∀ i,i<k->v.deps i<1099511627776)(a:v.deps k<1099511627776) : ∀ i,i<k+1->v.deps i<1099511627776:=fun i b=>by
 by_cases e:i=k
 ·subst e; exact a
 ·exact h i (by omega)
theorem iy{v:EvM}(h:dh v=true):oK v.o=true:=by
 unfold dh at h; simp only[Bool.and_eq_true]at h; exact h.1.1.1.1.1.1
end Rt
set_option maxHeartbeats 2000000 in
theorem Fy(v:EvM)(w:World)(D:fC v) :
 Calls Tryz.prog 51 #[.agg (aA 14 (bO v))] w fun e w'=>e = .returned (.bool (dh v))/\Below w.heap.size w w':=by
 refine Kent Tryz.func51 47 ?_
 refine ay<|pK fun m w1 Q q s1 z1 => ?_
 have t:=aY s1.old (Below.refl w.heap.size w)
 have tL:=gH Q
 have vR:=q.lt
 refine av aF<|aC<|Ws<|Ws ?_
 -- region 1 draws
 refine kZ<|aR ((pt m))<|Qv (au v.o) (fun c b=>aL (q.cb b) 0) ?_
 by_cases j:(oK v.o)=true
 ·obtain⟨a,ha,ea⟩:=eY j
  refine oz (fun _ _=>zK v.o _) aG (by rw[j])<|aR aF<|aR aF<|aR ((pf m 1))<|Qv (aD v.seq) (fun c b=>aL (q.cb b) 1) ?_
  by_cases F:v.seq<1
  ·refine Qv aG (fun c b=>gy F)<|aR aG<|aR aG<|aN<|aN<|aN<|aR aG<|aR aG<|aN<|aN<|aN<|aN<|aN<|aN<|aN<|aN<|aN<|aN<|aR aG<|Qn ?_
   intro UR R
   have⟨d,J⟩:=eG R q t
   refine sN<|aM<|ay<|av aF<|aC<|Wr<|sR<|aI aF ?_
   have d:decide (1<=v.seq)=false:=decide_eq_false (by omega)
   exact⟨gP (Eq.symm (by unfold dh; rw[j,d]; rfl)),J⟩
  refine Qv aF (fun c b=>gD F)<|aR aF<|aR aF<|aR ((pf m 1))<|Qv (aD v.seq) (fun c b=>aL (q.cb b) 1) ?_
  by_cases G:1099511627776<=v.seq
  ·refine Qv aG (fun c b=>jv G)<|aR aG<|aR aG<|aN<|aN<|aN<|aN<|aN<|aN<|aN<|aN<|aN<|aN<|aR aG<|Qn ?_
   intro XL S
   have⟨l,K⟩:=eG S q t
   refine sN<|aM<|ay<|av aF<|aC<|Wr<|sR<|aI aF ?_
   have d:decide (1<=v.seq)=true:=decide_eq_true (by omega)
   have l:decide (v.seq<1099511627776)=false:=decide_eq_false (by omega)
   exact⟨gP (Eq.symm (by unfold dh; rw[j,d,l]; rfl)),K⟩
  refine Qv aF (fun c b=>ji G)<|aR aF<|aR aF<|aR ((pt m))<|Qv (au v.o) (fun c b=>aL (q.cb b) 0)<|Qv (au a) (fun c b=>fO)<|aR ((pf m 2))<|Qv ((pf m (a+2))) (fun c b=>je 6 1)<|Qv (aD (v.deps a)) (fun c b=>aL (q.cb b) (a+2) (kW _ (by omega) (by omega)))<|aR ((pf m 1))<|Qv (aD v.seq) (fun c b=>aL (q.cb b) 1)<|Qv (aD (v.seq-1)) (fun c b=>fO) ?_
  by_cases r:(v.deps a)=(v.seq-1)
  ·refine Qv aF (fun c b=>jJ r)<|aR aF<|Qn ?_
   intro Y3 T
   have⟨p,L⟩:=eG T q t
   refine sN<|aK<|Wk<|sN<|Ws<|ay<|av (au 0)<|aC<|Wb<|Wo (fun f H => ∃ k:Nat,k<=6/\(∀ i,i<k->v.deps i<1099511627776)/\f 1=(pt m)/\f 3=au ((k:Int))/\aP H m 14 (bO v) 32/\Below w.heap.size w H) (fun f _=>(6-(intOf (f 3)).toNat)) ⟨0,by omega,(fun i h=>absurd h (by omega)),(by rfl),Fx.ic,p,L⟩ ?_
   rintro f1 w2 ⟨k,hk,C,A,B,g,u⟩
   refine Ws<|ay<|aS B ?_
   by_cases x:(k:Int)<6
   ·refine Lv aG (gy x)<|aC<|aM<|Wk<|sN<|Ws<|Wb<|ay<|aS B<|Lv ((pf m 2)) (iN A 2)<|Lv ((pf m (k+2))) (je 6 1)<|Lv (aD (v.deps k)) (aL g.aH (k+2) (kW _ (by omega) (by omega))) ?_
    by_cases E:1099511627776<=(v.deps k)
    ·refine Lv aG (jv E)<|aC<|aM<|ay<|av aF<|aC<|Wr<|bK<|sR<|oQ<|bK<|sR<|aI aF ?_
     have d:decide (1<=v.seq)=true:=decide_eq_true (by omega)
     have l:decide (v.seq<1099511627776)=true:=decide_eq_true (by omega)
     have p:decide (v.deps (v.o-1).toNat=v.seq-1)=true:=decide_eq_true (by rw[show(v.o-1).toNat=a by omega]; exact r)
     have g:=Fw (by omega) E
     exact⟨gP (Eq.symm (by unfold dh; rw[j,d,l,p,g]; rfl)),u⟩
    refine Lv aF (ji E)<|aC<|aK<|Wk<|bP<|sN<|Wl<|aS B<|Lv (au ((k:Int)+1)) eZ<|av (au ((k:Int)+1))<|Ln<|gJ ⟨k+1,by omega,(N8 C (by omega)),A,Fx.ic,g,u⟩ ?_
    show(6-(intOf ((au ((k:Int)+1)))).toNat)<_
    simp only[B,intOf]; omega
   refine Lv aF (gD x)<|aC<|aK<|Wx<|bV<|fU<|bW<|sN<|Ws ?_
   -- region 8 draws
   refine kZ<|Qv (.agg (aA 14 (bO v))) (fun c b=>fA (g.cb b) 0 (ha:=A))<|Qv (.agg (aA 14 (bO v))) (fun c b=>fA (g.cb b) 0 (ha:=A))<|xS (fun _ _=>ado v _) _ rfl ?_
   by_cases y : ∀ i,i<14->(bO v) i=(bO (kI v)) i
   ·refine Qv aG (fun c b=>Fx.wH (n:=14) (ks := [(some .i64),(some .u64),(some .u64),(some .u64),(some .u64),(some .u64),(some .u64),(some .u64),(some .u8),(some .u64),(some .i64),(some .i64),(some .u64),(some .u64)]) (X:=bO v) (Y:=bO (kI v)) 12 true rfl rfl rfl (Fx.EJ y) (BH D) (BH D.own) rfl (by kernel_rfl) (by kernel_rfl) (by kernel_rfl) (by kernel_rfl) (by kernel_rfl))<|aR aG<|Qv (.agg (aA 14 (bO v))) (fun c b=>fA (g.cb b) 0 (ha:=A)) ?_
    by_cases z:(dK v)=true
    ·refine xS (fun _ _=>IZ v _) aG (by rw[z])<|aR aG<|aR aG<|Qn ?_
     intro wb4 U
     have⟨s,M⟩:=eG U g u
     refine sN<|Wr<|aI aG ?_
     have d:decide (1<=v.seq)=true:=decide_eq_true (by omega)
     have l:decide (v.seq<1099511627776)=true:=decide_eq_true (by omega)
     have p:decide (v.deps (v.o-1).toNat=v.seq-1)=true:=decide_eq_true (by rw[show(v.o-1).toNat=a by omega]; exact r)
     have g:=uU x C
     have s:=(AV v).2 y
     exact⟨gP (Eq.symm (by unfold dh; rw[j,d,l,p,g,s,z]; rfl)),M⟩
    rw[Bool.not_eq_true]at z
    refine xS (fun _ _=>IZ v _) aF (by rw[z])<|aR aF<|aR aF<|Qn ?_
    intro wb5 V
    have N:=aY V u
    refine sN<|Wr<|aI aF ?_
    have d:decide (1<=v.seq)=true:=decide_eq_true (by omega)
    have l:decide (v.seq<1099511627776)=true:=decide_eq_true (by omega)
    have p:decide (v.deps (v.o-1).toNat=v.seq-1)=true:=decide_eq_true (by rw[show(v.o-1).toNat=a by omega]; exact r)
    have g:=uU x C
    have s:=(AV v).2 y
    exact⟨gP (Eq.symm (by unfold dh; rw[j,d,l,p,g,s,z]; rfl)),N⟩
   refine Qv aF (fun c b=>Fx.wH (n:=14) (ks := [(some .i64),(some .u64),(some .u64),(some .u64),(some .u64),(some .u64),(some .u64),(some .u64),(some .u8),(some .u64),(some .i64),(some .i64),(some .u64),(some .u64)]) (X:=bO v) (Y:=bO (kI v)) 12 false rfl rfl rfl (Fx.nob y) (BH D) (BH D.own) rfl (by kernel_rfl) (by kernel_rfl) (by kernel_rfl) (by kernel_rfl) (by kernel_rfl))<|aR aF<|aN<|aN<|aR aF<|aR aF<|Qn ?_
   intro wb6 W
   have O:=aY W u
   refine sN<|Wr<|aI aF ?_
   have d:decide (1<=v.seq)=true:=decide_eq_true (by omega)
   have l:decide (v.seq<1099511627776)=true:=decide_eq_true (by omega)
   have p:decide (v.deps (v.o-1).toNat=v.seq-1)=true:=decide_eq_true (by rw[show(v.o-1).toNat=a by omega]; exact r)
   have g:=uU x C
   have s:tQ v=false:=Bool.eq_false_iff.2 (fun h=>y ((AV v).1 h))
   exact⟨gP (Eq.symm (by unfold dh; rw[j,d,l,p,g,s]; rfl)),O⟩
  refine Qv aG (fun c b=>mE r)<|aR aG<|Qn ?_
  intro wb7 Z
  have P:=aY Z t
  refine sN<|aM<|ay<|av aF<|aC<|Wr<|sR<|aI aF ?_
  have d:decide (1<=v.seq)=true:=decide_eq_true (by omega)
  have l:decide (v.seq<1099511627776)=true:=decide_eq_true (by omega)
  have p:decide (v.deps (v.o-1).toNat=v.seq-1)=false:=decide_eq_false (by rw[show(v.o-1).toNat=a by omega]; exact r)
  exact⟨gP (Eq.symm (by unfold dh; rw[j,d,l,p]; rfl)),P⟩
 rw[Bool.not_eq_true]at j
 refine oz (fun _ _=>zK v.o _) aF (by rw[j])<|aR aG<|aR aG<|aN<|aN<|aN<|aR aG<|aR aG<|aN<|aN<|aN<|aR aG<|aR aG<|aN<|aN<|aN<|aN<|aN<|aN<|aN<|aN<|aN<|aN<|aR aG<|Qn ?_
 intro wb8 aa
 have I:=aY aa t
 refine sN<|aM<|ay<|av aF<|aC<|Wr<|sR<|aI aF ?_
 exact⟨gP (Eq.symm (by unfold dh; rw[j]; rfl)),I⟩
namespace Rt
def ng(K:Nat->Int)(v:EvM):Bool:=dh v&&decide (v.seq<=K (v.o-1).toNat)
def wS(D K:Nat->Int):Bool:=(List.range 6).all fun i=>decide (D i<=K i)
def eO(K:Nat->Int)(v:EvM):Bool:=dh v&&decide (v.seq=K (v.o-1).toNat+1)&&wS v.deps K
theorem Q8{D K:Nat->Int}{k:Nat}(a:k<6)(h:K k<D k):wS D K=false:=by
 unfold wS; rw[List.all_eq_false]; exact⟨k,List.mem_range.2 a,by simp; omega⟩
theorem N9{D K:Nat->Int}{k:Nat}(b : ¬ (k:Int)<6)(h : ∀ i,i<k->D i<=K i):wS D K=true:=by
 unfold wS; rw[List.all_eq_true]; intro i a; have:=List.mem_range.1 a; simp; exact h i (by omega)
theorem le_step{D K:Nat->Int}{k:Nat}(h : ∀ i,i<k->D i<=K i)(b : ¬ K k<D k) : ∀ i,i<k+1->D i<=K i:=fun i a=>by
 by_cases e:i=k
 ·subst e; omega
 ·exact h i (by omega)
def EO(K:Nat->Int):Prop := ∀ i,i<6->0<=K i/\K i<1099511627776
theorem CG{v:EvM}(h:dh v=true):1<=v.seq/\v.seq<1099511627776:=by
 unfold dh at h; simp only[Bool.and_eq_true,decide_eq_true_eq]at h; exact⟨h.1.1.1.1.1.2,h.1.1.1.1.2⟩
end Rt
theorem Q9(K:Nat->Int)(v:EvM)(w:World)(m:fC v) :
 Calls Tryz.prog 52 #[.agg (aA 6 (rv .u64 K)),.agg (aA 14 (bO v))] w fun e w'=>e = .returned (.bool (ng K v))/\Below w.heap.size w w':=by
 refine Kent Tryz.func52 17 ?_
 refine ay<|pK fun s I r i z O => ?_
 have j:=aY z.old (Below.refl w.heap.size w)
 have D:=gH r
 have G:=i.lt
 refine pK fun l J k c A P => ?_
 have⟨y,h⟩:=eG A.old i j
 have E:=jc k j.size
 have F:=bY k i.lt
 have H:=c.lt
 refine av aF<|aC<|Ws ?_
 -- region 1 draws
 refine kZ<|Qv (.agg (aA 14 (bO v))) (fun f b=>fA (c.cb b) 0) ?_
 by_cases d:(dh v)=true
 ·obtain⟨a,C,B⟩:=eY (iy d)
  refine xS (fun _ _=>Fy v _ m) aG (by rw[d])<|aR aG<|aR ((pf l 1))<|Qv (aD v.seq) (fun f b=>aL (c.cb b) 1)<|aR ((pt l))<|Qv (au v.o) (fun f b=>aL (c.cb b) 0)<|Qv (au a) (fun f b=>fO)<|Qv ((pf s a)) (fun f b=>je 6 1)<|Qv (aD (K a)) (fun f b=>aL (y.cb b) a) ?_
  by_cases g:v.seq<=(K a)
  ·refine Qv aG (fun f b=>mD g)<|aR aG<|aR aG<|Qn ?_
   intro L t
   have n:=aY t h
   refine sN<|Wr<|aI aG ?_
   have c:decide (v.seq<=K (v.o-1).toNat)=true:=decide_eq_true (by rw[show(v.o-1).toNat=a by omega]; exact g)
   exact⟨gP (Eq.symm (by unfold ng; rw[d,c]; rfl)),n⟩
  refine Qv aF (fun f b=>mV g)<|aR aF<|aR aF<|Qn ?_
  intro M u
  have p:=aY u h
  refine sN<|Wr<|aI aF ?_
  have c:decide (v.seq<=K (v.o-1).toNat)=false:=decide_eq_false (by rw[show(v.o-1).toNat=a by omega]; exact g)
  exact⟨gP (Eq.symm (by unfold ng; rw[d,c]; rfl)),p⟩
 rw[Bool.not_eq_true]at d
 refine xS (fun _ _=>Fy v _ m) aF (by rw[d])<|aR aF<|aN<|aN<|aN<|aN<|aN<|aN<|aN<|aN<|aR aF<|aR aF<|Qn ?_
 intro N x
 have q:=aY x h
 refine sN<|Wr<|aI aF ?_
 exact⟨gP (Eq.symm (by unfold ng; rw[d]; rfl)),q⟩
theorem MC(K:Nat->Int)(v:EvM)(w:World)(H:fC v)(R:EO K) :
 Calls Tryz.prog 41 #[.agg (aA 6 (rv .u64 K)),.agg (aA 14 (bO v))] w fun e w'=>e = .returned (.bool (eO K v))/\Below w.heap.size w w':=by
 refine Kent Tryz.func41 32 ?_
 refine ay<|pK fun s w1 Q A s1 z1 => ?_
 have C:=aY s1.old (Below.refl w.heap.size w)
 have tL:=gH Q
 have vR:=A.lt
 refine pK fun l w2 D d s2 z2 => ?_
 have⟨m,t⟩:=eG s2.old A C
 have qO:=jc D C.size
 have IY:=bY D A.lt
 have zJ:=d.lt
 refine av aF<|aC<|Ws<|Ws ?_
 -- region 1 draws
 refine kZ<|Qv (.agg (aA 14 (bO v))) (fun c b=>fA (d.cb b) 0) ?_
 by_cases g:(dh v)=true
 ·obtain⟨a,S,ea⟩:=eY (iy g)
  have ka:=R a S
  refine xS (fun _ _=>Fy v _ H) aG (by rw[g])<|aR aF<|aR aF<|aR ((pf l 1))<|Qv (aD v.seq) (fun c b=>aL (d.cb b) 1)<|aR ((pt l))<|Qv (au v.o) (fun c b=>aL (d.cb b) 0)<|Qv (au a) (fun c b=>fO)<|Qv ((pf s a)) (fun c b=>je 6 1)<|Qv (aD (K a)) (fun c b=>aL (m.cb b) a)<|Qv (aD ((K a)+1)) (fun c b=>eZ) ?_
  by_cases n:v.seq=((K a)+1)
  ·refine Qv aF (fun c b=>jJ n)<|aR aF<|Qn ?_
   intro UR T
   have⟨Y,Z,L⟩:=jk T m d t
   refine sN<|aK<|Wk<|sN<|Ws<|ay<|av (au 0)<|aC<|Wb<|Wo (fun f B => ∃ k:Nat,k<=6/\(∀ i,i<k->v.deps i<=K i)/\f 2=(pt s)/\f 3=(pt l)/\f 5=au ((k:Int))/\aP B s 6 (rv .u64 K) 30/\aP B l 14 (bO v) 32/\Below w.heap.size w B) (fun f _=>(6-(intOf (f 5)).toNat)) ⟨0,by omega,(fun i h=>absurd h (by omega)),(by rfl),(by rfl),Fx.ic,Y,Z,L⟩ ?_
   rintro f1 j ⟨k,hk,G,E,F,p,I,J,u⟩
   refine Ws<|ay<|aS p ?_
   by_cases x:(k:Int)<6
   ·refine Lv aG (gy x)<|aC<|aM<|Wk<|sN<|Ws<|Wb<|Ws ?_
    -- region 6 draws
    refine wh<|dS p<|Qv ((pf l 2)) (fun c b=>iN F 2)<|Qv ((pf l (k+2))) (fun c b=>je 6 1)<|Qv (aD (v.deps k)) (fun c b=>aL (J.aH.dr b) (k+2) (kW _ (by omega) (by omega)))<|dS p<|Qv ((pf s k)) (fun c b=>je 6 1 (hx:=E))<|Qv (aD (K k)) (fun c b=>aL (I.aH.dr b) k) ?_
    by_cases r:(K k)<(v.deps k)
    ·refine Qv aG (fun c b=>jY r)<|Qn ?_
     rintro _ ⟨q,rfl⟩
     obtain⟨BI,y⟩ : ∃ c,c=World.drewN j q:=⟨_,rfl⟩
     rw[<- y]
     have s4:Stp j.heap.size j BI:=by rw[y]; exact Sb (iU j q)
     have M:=aY s4.old u
     clear y
     refine sN<|aM<|ay<|av aF<|aC<|Wr<|bK<|sR<|oQ<|bK<|sR<|aI aF ?_
     have d:decide (v.seq=K (v.o-1).toNat+1)=true:=decide_eq_true (by rw[show(v.o-1).toNat=a by omega]; exact n)
     have m:=Q8 (by omega) r
     exact⟨gP (Eq.symm (by unfold eO; rw[g,d,m]; rfl)),M⟩
    refine Qv aF (fun c b=>jZ r)<|Qn ?_
    rintro _ ⟨q,rfl⟩
    obtain⟨wq2,z⟩ : ∃ c,c=World.drewN j q:=⟨_,rfl⟩
    rw[<- z]
    have s5:Stp j.heap.size j wq2:=by rw[z]; exact Sb (iU j q)
    have⟨W,X,N⟩:=jk s5.old I J u
    clear z
    refine sN<|aK<|Wk<|bP<|sN<|Wl<|aS p<|Lv (au ((k:Int)+1)) eZ<|av (au ((k:Int)+1))<|Ln<|gJ ⟨k+1,by omega,(le_step G r),E,F,Fx.ic,W,X,N⟩ ?_
    show(6-(intOf ((au ((k:Int)+1)))).toNat)<_
    simp only[p,intOf]; omega
   refine Lv aF (gD x)<|aC<|aK<|Wx<|bV<|fU<|bW<|sN<|ay<|av aG<|aC<|Wr<|aI aG ?_
   have d:decide (v.seq=K (v.o-1).toNat+1)=true:=decide_eq_true (by rw[show(v.o-1).toNat=a by omega]; exact n)
   have m:=N9 x G
   exact⟨gP (Eq.symm (by unfold eO; rw[g,d,m]; rfl)),u⟩
  refine Qv aG (fun c b=>mE n)<|aR aG<|Qn ?_
  intro XL U
  have O:=aY U t
  refine sN<|aM<|ay<|av aF<|aC<|Wr<|sR<|aI aF ?_
  have d:decide (v.seq=K (v.o-1).toNat+1)=false:=decide_eq_false (by rw[show(v.o-1).toNat=a by omega]; exact n)
  exact⟨gP (Eq.symm (by unfold eO; rw[g,d]; rfl)),O⟩
 rw[Bool.not_eq_true]at g
 refine xS (fun _ _=>Fy v _ H) aF (by rw[g])<|aR aG<|aR aG<|aN<|aN<|aN<|aN<|aN<|aN<|aN<|aN<|aN<|aR aG<|Qn ?_
 intro Y3 V
 have P:=aY V t
 refine sN<|aM<|ay<|av aF<|aC<|Wr<|sR<|aI aF ?_
 exact⟨gP (Eq.symm (by unfold eO; rw[g]; rfl)),P⟩
set_option maxHeartbeats 400000 in
theorem GI(a:Option Addr)(len cap:Nat)(l:List Int)(w:World)(hlen:len<=100)(hl:Hid (l.length=len))(hr:RdI .i64 w a l) :
 Calls Tryz.prog 104 #[.slice a len cap] w fun e w'=>e = .returned (.tuple #[.int .i64 (lD l).1,.bool (lD l).2])/\w'=w:=by
 go_enter Tryz.func104,Tryz.ntmps104
 go_wp2
 go_loop [2,3,8] (fun v o i=>o = .bool false /\ ∃ k:Nat,k<=len/\i = .int .i64 k/\kU (l.take k)=true/\v = .int .i64 (l.take k).sum) (fun _ _ i=>len-(intOf i).toNat)
 case atStart=>exact⟨rfl,0,Nat.zero_le _,rfl,rfl,rfl⟩
 case round =>
  obtain⟨rfl,k,hk,rfl,hok,rfl⟩:=hrel
  by_cases hk2:k<len
  ·have hk3:k<l.length:=by rw[hl.out]; exact hk2
   obtain⟨b,off,rfl,hc⟩:=hr k hk3
   have hb:=AJ _ hok
   have hle:(l.take k).length<=k:=List.length_take_le _ _
   have HS:Hid _:=EL l k hk3
   have HO:Hid _:=Cg l k hk3
   have HF:Hid (yO l[k]=false->lD l=(0,false)):=by intro h; unfold lD; rw[if_neg (by rw[EM hk3 h]; decide)]
   have Hok:Hid _:=hok
   clear hr hok
   generalize l[k]=x at *
   generalize hs:(l.take k).sum=s at *
   clear hs
   by_cases h0:x<0
   ·have hn:yO x=false:=by unfold yO; simp; omega
    have HR:Hid _:=HF.out hn
    clear HF hn HS HO
    go_wp2
    go_ret2
    rw[HR.out]; exact⟨rfl,rfl⟩
   ·by_cases h1:1125899906842624<x
    ·have hn:yO x=false:=by unfold yO; simp; omega
     have HR:Hid _:=HF.out hn
     clear HF hn HS HO
     go_wp2
     go_ret2
     rw[HR.out]; exact⟨rfl,rfl⟩
    ·have hy:Hid (yO x=true):=by unfold yO Hid; simp; omega
     clear HF
     go_wp2
     go_round
     case rel=>exact⟨rfl,k+1,by omega,by go_num,by rw[HO.out,Hok.out,hy.out]; rfl,by rw[HS.out]⟩
     case measure=>simp[intOf]; omega
  ·have hT:Hid (l.take k=l):=List.take_of_length_le (by rw[hl.out]; omega)
   rw[hT.out]at hok ⊢
   have HR:Hid (lD l=(l.sum,true)):=by unfold lD Hid; rw[if_pos hok]
   clear hok
   generalize l.sum=s at *
   go_wp2
   go_ret2
   rw[HR.out]; exact⟨rfl,rfl⟩
def Two(a w:World)(d f:Nat)(b:List Int)(e g:Nat)(c:List Int):Prop :=
 w.ownsRow a.heap.size 2 1 (.slice (some ⟨d,0,none⟩) b.length f) b.length (b.map (Value.int .i64)) /\
 w.ownsRow a.heap.size 2 1 (.slice (some ⟨e,0,none⟩) c.length g) c.length (c.map (Value.int .i64))/\d≠e/\Below a.heap.size a w
theorem Two.alloc{g w:World}{c a:Nat}{e:List Int}{d b:Nat}{f:List Int}(h:Two g w c a e d b f)(o:Obj):Two g (w.alloc o) c a e d b f :=
 ⟨World.ownsRow.alloc h.1 o,World.ownsRow.alloc h.2.1 o,h.2.2.1,h.2.2.2.alloc h.2.2.2.size o⟩
theorem Two.drew{g w:World}{c a:Nat}{e:List Int}{d b:Nat}{f:List Int}(h:Two g w c a e d b f):Two g w.drew c a e d b f :=
 ⟨h.1,h.2.1,h.2.2.1,h.2.2.2.drew⟩
theorem Two.swap{g w:World}{c a:Nat}{e:List Int}{d b:Nat}{f:List Int}(h:Two g w c a e d b f):Two g w d b f c a e:=⟨h.2.1,h.1,h.2.2.1.symm,h.2.2.2⟩
theorem U4:(Tryz.prog.info? 2).map (fun i=>(i.zero,i.size,i.bytes))=some (some (.int .i64 0),1,8):=by kernel_rfl
theorem I4{ops:Array Oper}{o:Oper}{a:Act}{q w:World}{K:Act->World->Prop}{Q:Exit->Act->World->Prop}{E:Prop}(C:o.guard=none)(s x:Operand)
 (I:o.op = .call { callee := .builtin .append,args := #[s,x],argTypes := #[175,175] }) (l r:Nat) (d:List Int) (m t:Nat) (y:List Int) (h:Two q w l r d m t y)
 (n:Nat) (G:d.length=n) (J:a.eval s = .slice (some ⟨l,0,none⟩) n r) (i:Nat) (v:Int) (hx:a.eval x = .slice (some ⟨i,0,none⟩) 1 1) (B:w.cell? ⟨i,0,none⟩=some (.int .i64 v)) (R:n<=100)
 (A : ∀ g f w',Two q w' g f (d ++ [v]) m t y->(∀ a u,w.cell? a=some u->a.block≠l->w'.cell? a=some u)->K (a.put o.dst (.slice (some ⟨g,0,none⟩) (n+1) f)) w') :
 if Region.wanted o (yielded ops a.tmps)=true then Oper.wp Tryz.prog o a w K Q else E:=by
 obtain⟨O,D,L,M,N⟩:=info_parts U4
 subst G
 refine step_append_lies w C s x 175 I q.heap.size 2 O (.int .i64 0) 1 8 Tryz.underlying175 D L M N rfl (by decide) _ d.length (d.map (Value.int .i64)) J h.1 ⟨i,0,none⟩ 1 1 [.int .i64 v] hx rfl
  (by intro j u b; cases j with
   | zero=>simp at b; subst b; rw[addr_add]; exact B
   | succ j=>simp at b) (by intro u b; simp at b; subst b; rfl) (by decide) (by unfold maxLen; omega) (by omega) h.2.2.2.size w.heap.size rfl ?_
 intro g f w' z p c P
 refine A g f w' ⟨?_,?_,?_,?_⟩ (fun a u b H=>p.cell b (by simp[Value.ownBlock]; exact H))
 ·rw[List.length_append,List.map_append]; exact z
 ·exact World.ownsRow.kept h.2.1 p (.inr (by simp[Value.ownBlock]; exact fun e=>h.2.2.1 e.symm))
 ·have S:=World.ownsRow.lt h.2.1 m rfl
  rcases c with c|c
  ·simp[Value.ownBlock]at c; subst c; exact h.2.2.1
  omega
 exact h.2.2.2.grown p h.2.2.2.size (fun k F=>(World.ownsRow.lt h.1 k F).1)
theorem Two.rd1{j w:World}{a c:Nat}{b:List Int}{e d:Nat}{g:List Int}(h:Two j w a c b e d g):RdI .i64 w (some ⟨a,0,none⟩) b:=by
 intro i f
 refine⟨a,0,rfl,?_⟩
 rw[Nat.zero_add,World.ownsRow.cellAt h.1 i (by omega)]
 simp[f]
theorem Two.start(w:World)(v a b:Int):Two w ((w.alloc (.cells #[.int .i64 v] 2)).alloc (.cells #[.int .i64 a,.int .i64 b] 2)) w.heap.size 1 [v] (w.heap.size+1) 2 [a,b]:=by
 refine⟨World.ownsRow.alloc (World.ownsRow_lit w #[.int .i64 v] 1 (Nat.le_refl _) (by unfold maxLen; omega) rfl) _,?_,by omega,((Below.refl _ _).alloc (Nat.le_refl _) _).alloc (by simp) _⟩
 have:=World.ownsRow_lit (base:=w.heap.size) (e:=2) (size:=1) (w.alloc (.cells #[.int .i64 v] 2)) #[.int .i64 a,.int .i64 b] 2 (by simp) (by unfold maxLen; omega) rfl
 simpa using this
theorem Two.Zy(w:World)(v a b:Int):Two w ((w.alloc (.cells #[.int .i64 a,.int .i64 b] 2)).alloc (.cells #[.int .i64 v] 2)) (w.heap.size+1) 1 [v] w.heap.size 2 [a,b]:=by
 refine⟨?_,World.ownsRow.alloc (World.ownsRow_lit w #[.int .i64 a,.int .i64 b] 2 (Nat.le_refl _) (by unfold maxLen; omega) rfl) _,by omega,((Below.refl _ _).alloc (Nat.le_refl _) _).alloc (by simp) _⟩
 have:=World.ownsRow_lit (base:=w.heap.size) (e:=2) (size:=1) (w.alloc (.cells #[.int .i64 a,.int .i64 b] 2)) #[.int .i64 v] 1 (by simp) (by unfold maxLen; omega) rfl
 simpa using this
theorem Two.at{c w:World}{g d:Nat}{k:List Int}{j e:Nat}{l:List Int}(h:Two c w g d k j e l){b:Nat}{x:Nat->Int}{T:TypeId}{f:Nat × Nat}(a:c.heap[b]? = some (.cells (aO .i64 54 x) T f))(i:Nat)(hi:i<54) :
 w.cell? ⟨b,i,none⟩=some (.int .i64 (x i)) :=
 fH ((h.2.2.2.block b (Array.getElem?_eq_some_iff.1 a).1).trans a) i hi
theorem Two.lt{a w:World}{e c:Nat}{i:List Int}{f d:Nat}{j:List Int}(h:Two a w e c i f d j){b:Nat}(g:b<a.heap.size):b<w.heap.size:=Nat.lt_of_lt_of_le g h.2.2.2.size
theorem DJ(x:Nat->Int)(k:Nat) : ∀ j,(outs x k j).length=j+1
 | 0=>rfl
 | j+1=>by rw[outs,List.length_append,DJ x k j]; rfl
theorem GJ(x:Nat->Int)(k:Nat) : ∀ j,(ins x k j).length=j+2
 | 0=>rfl
 | j+1=>by rw[ins,List.length_append,GJ x k j]; rfl
def adq(w:World)(x:Nat->Int)(k j:Nat)(e f:Value)(g:World):Prop :=
 ∃ c a d b,e = .slice (some ⟨c,0,none⟩) (j+1) a/\f = .slice (some ⟨d,0,none⟩) (j+2) b/\Two w g c a (outs x k j) d b (ins x k j)
set_option maxHeartbeats 4000000 in
theorem Fz(b:Nat)(T:TypeId)(fz:Nat × Nat)(x:Nat->Int)(k:Nat)(w:World)(hk:k<6)(hb:Hid (w.heap[b]? = some (.cells (aO .i64 54 x) T fz))) :
 Calls Tryz.prog 73 #[.pointer (some ⟨b,0,none⟩),.int .i64 k] w fun e w'=>e = .returned (.tuple #[.int .i64 (localM x k).1,.bool (localM x k).2])/\Below w.heap.size w w':=by
 have hlt:b<w.heap.size:=(Array.getElem?_eq_some_iff.1 hb.out).1
 have hki:(k:Int)<6:=by omega
 go_enter Tryz.func73,Tryz.ntmps73
 go_upto_region 1 with (fail)
 go_cut [6,7] (fun s6 s7 wx=>adq w x k 0 s6 s7 wx)
 case first =>
  have c1:=fH hb.out (6+k) (by omega)
  have c2:=fH hb.out k (by omega)
  have c3:=fH hb.out (12+k) (by omega)
  go_wp2
  go_region
  all_goals go_wp2
  all_goals go_meet
  case rel=>exact⟨_,_,_,_,rfl,rfl,(Two.start w (x (6+k)) (x k) (x (12+k))).drew⟩
  case rel=>exact⟨_,_,_,_,rfl,rfl,(Two.Zy w (x (6+k)) (x k) (x (12+k))).drew⟩
 case rest =>
  clear hlt
  go_wp2
  go_loopw [6,7,33] (fun s6 s7 i wx => ∃ j:Nat,j<=6/\i = .int .i64 j/\adq w x k j s6 s7 wx) (fun _ _ i _=>6-(intOf i).toNat)
  case atStart=>exact⟨0,Nat.zero_le _,rfl,hcut⟩
  case round =>
   obtain⟨j,hj,rfl,g1,c1,g2,c2,rfl,rfl,hT⟩:=hrel
   by_cases hj2:j<6
   ·have hji:(j:Int)<6:=by omega
    have hlt:b<w.heap.size:=(Array.getElem?_eq_some_iff.1 hb.out).1
    have hrow:wr.heap[b]? = some (.cells (aO .i64 54 x) T fz):=(hT.2.2.2.block b hlt).trans hb.out
    have e1:=fH hrow (18+k*6+j) (by omega)
    have e2:=fH hrow (18+j*6+k) (by omega)
    have hlt2:b<wr.heap.size:=(Array.getElem?_eq_some_iff.1 hrow).1
    have Ra:Hid _:=hrow
    have hg1:g1<wr.heap.size:=(World.ownsRow.lt hT.1 g1 rfl).2
    have hg2:g2<wr.heap.size:=(World.ownsRow.lt hT.2.1 g2 rfl).2
    clear hrow
    have HO:Hid ((outs x k j).length=j+1):=DJ x k j
    have HI:Hid ((ins x k j).length=j+2):=GJ x k j
    go_wp2
    go_region_law (first
     | (refine I4 (o:=⟨some 46,_,_,_,_,_⟩) (by rfl) (.tmp 36) (.tmp 45) (by rfl) g1 c1 (outs x k j) _ _ _ (by first|assumption|exact Two.alloc (by assumption) _|exact Two.alloc (Two.alloc (by assumption) _) _|exact hT.drew.alloc _|exact(hT.drew.alloc _).alloc _) (j+1) HO.out (by rfl) _ (x (18+k*6+j)) (by rfl) (by first|(go_simp; done)|exact hkp _ _ (by go_simp; done) (by simp; omega)) (by omega) ?_; intro g cp w1 hT1 hkp; have e1':=hT1.at hb.out (18+k*6+j) (by omega); have e2':=hT1.at hb.out (18+j*6+k) (by omega); have hlt':=hT1.lt hlt)
     | (refine I4 (o:=⟨some 57,_,_,_,_,_⟩) (by rfl) (.tmp 47) (.tmp 56) (by rfl) g2 c2 (ins x k j) _ _ _ (by first|exact Two.swap (by assumption)|exact(Two.alloc (by assumption) _).swap|exact(Two.alloc (Two.alloc (by assumption) _) _).swap|exact(hT.drew.alloc _).swap|exact((hT.drew.alloc _).alloc _).swap) (j+2) HI.out (by rfl) _ (x (18+j*6+k)) (by rfl) (by first|(go_simp; done)|exact hkp _ _ (by go_simp; done) (by simp; omega)) (by omega) ?_; intro g cp w1 hT1 hkp; have e1':=hT1.at hb.out (18+k*6+j) (by omega); have e2':=hT1.at hb.out (18+j*6+k) (by omega); have hlt':=hT1.lt hlt))
    all_goals go_wp2
    all_goals go_roundw
    all_goals first
     | (simp[intOf]; omega)
     | exact⟨j+1,by omega,by go_num,_,_,_,_,rfl,rfl,hT1.swap⟩
   ·obtain rfl:j=6:=by omega
    have r1:=hT.rd1
    have r2:=hT.swap.rd1
    have hbel:=hT.2.2.2
    have HO:Hid ((outs x k 6).length=7):=DJ x k 6
    have HI:Hid ((ins x k 6).length=8):=GJ x k 6
    have b1:=uQ (outs x k 6)
    have b2:=uQ (ins x k 6)
    rw[HO.out]at b1
    rw[HI.out]at b2
    have HL:Hid (localM x k=((lD (ins x k 6)).1-(lD (outs x k 6)).1,(lD (outs x k 6)).2&&(lD (ins x k 6)).2)):=rfl
    generalize outs x k 6=lo at *
    generalize ins x k 6=li at *
    clear hT
    go_wp2_with fail
    refine(GI _ 7 c1 lo _ (by omega) HO r1).mono ?_
    rintro e w1 ⟨rfl,rfl⟩
    go_wp2_with fail
    refine(GI _ 8 c2 li _ (by omega) HI r2).mono ?_
    rintro e w2 ⟨rfl,rfl⟩
    generalize (lD li).1=n2 at *
    generalize (lD lo).1=n1 at *
    generalize (lD li).2=o2 at *
    generalize (lD lo).2=o1 at *
    cases o1
    all_goals
     go_wp2_with fail
     go_ret2
     rw[HL.out]; exact⟨rfl,hbel⟩
namespace Rt
def AX(x:Nat->Int)(k:Nat):Bool:=(localM x k).2&&decide (0<=(localM x k).1)&&decide (F x k<=C x k)&&(R x k k==0)
def Cj(x:Nat->Int):Nat->Bool
 | 0=>true
 | k+1=>Cj x k&&AX x k
def gs(x:Nat->Int):List Int := [x 0,x 1,x 2,x 3,x 4,x 5]
def may(x:Nat->Int):Bool:=Cj x 6&&((lD (gs x)).2&&decide ((lD (gs x)).1<=1125899906842624))
theorem DK(x:Nat->Int)(k:Nat)(h:AX x k=false) : ∀ n,k<n->Cj x n=false
 | 0,hn=>absurd hn (by omega)
 | n+1,hn=>by
   rw[Cj]
   by_cases e:k=n
   ·subst e; rw[h,Bool.and_false]
   ·rw[DK x k h n (by omega),Bool.false_and]
theorem Oa(x:Nat->Int)(k:Nat)(a:k<6)(h:AX x k=false):may x=false:=by
 unfold may; rw[DK x k h 6 a,Bool.false_and]
end Rt
theorem adr{w:World}{g:Nat}{x:Nat->Int}{t:TypeId}{a:Nat × Nat}(h:w.heap[g]? = some (.cells (aO .i64 54 x) t a)):RdI .i64 w (some ⟨g,0,none⟩) (gs x):=by
 intro i b
 have c:i<6:=b
 refine⟨g,0,rfl,?_⟩
 rw[Nat.zero_add,fH h i (by omega)]
 rcases(show i=0\/i=1\/i=2\/i=3\/i=4\/i=5 by omega)with rfl|rfl|rfl|rfl|rfl|rfl <;> rfl
set_option maxHeartbeats 1000000 in
theorem rP(x:Nat->Int)(w:World) :
 Calls Tryz.prog 72 #[.agg (aO .i64 54 x)] w fun e w'=>e = .returned (.bool (may x))/\Below w.heap.size w w':=by
 go_enter Tryz.func72,Tryz.ntmps72
 go_wp2
 go_loopw [2,3,8] (fun r _ i wr=>r = .bool false /\ ∃ k:Nat,k<=6/\i = .int .i64 k/\Cj x k=true/\wr.heap[w.heap.size]? = some (.cells (aO .i64 54 x) 59 (0,0))/\Below w.heap.size w wr) (fun _ _ i _=>6-(intOf i).toNat)
 case atStart=>exact⟨rfl,0,Nat.zero_le _,rfl,rfl,heap_alloc_new w _,(Below.refl _ _).alloc (Nat.le_refl _) _⟩
 case round =>
  obtain⟨rfl,k,hk,rfl,hN,hrow,hbel⟩:=hrel
  have hlt:w.heap.size<wr.heap.size:=(Array.getElem?_eq_some_iff.1 hrow).1
  have Ra:Hid _:=hrow
  have HN:Hid _:=hN
  clear hrow hN
  by_cases hk2:k<6
  ·have hki:(k:Int)<6:=by omega
   have HM:Hid (Cj x (k+1)=(Cj x k&&AX x k)):=rfl
   have HF:Hid (AX x k=false->may x=false):=fun h=>Oa x k hk2 h
   have HK:Hid (AX x k=((localM x k).2&&decide (0<=(localM x k).1)&&decide (F x k<=C x k)&&(R x k k==0))):=rfl
   go_wp2_with fail
   refine(Fz w.heap.size _ _ x k wr hk2 Ra).mono ?_
   rintro e w1 ⟨rfl,hb1⟩
   have I5:=(hb1.block _ hlt).trans Ra.out
   have I6:=hbel.trans (hb1.mono (Nat.le_of_lt hlt))
   have c1:=fH I5 (12+k) (by omega)
   have c2:=fH I5 (6+k) (by omega)
   have c3:=fH I5 (18+k*6+k) (by omega)
   have ads:Hid _:=I5
   clear I5 Ra hbel hb1
   generalize (localM x k).1=n at *
   generalize hF:F x k=f at *
   generalize hC:C x k=c at *
   generalize hR:R x k k=r at *
   unfold F at hF; unfold C at hC; unfold R at hR
   rw[hF]at c1; rw[hC]at c2; rw[hR]at c3
   clear hF hC hR
   cases his:(localM x k).2
   ·rw[his]at HK
    clear his
    have HR:Hid _:=HF.out (by rw[HK.out]; rfl)
    clear HK HF HM
    go_wp2_with fail
    go_quiet (fail)
    go_wp2
    go_ret
    rw[HR.out]; exact⟨rfl,bN I6 _⟩
   ·rw[his]at HK
    clear his
    by_cases h1:n<0
    ·have d1:decide (n<0)=true:=by simpa using h1
     have d1':decide (0<=n)=false:=by simp; omega
     have HR:Hid _:=HF.out (by rw[HK.out]; rw[d1']; rfl)
     clear HK HF HM
     go_wp2_with fail
     go_quiet (fail)
     go_wp2
     go_ret
     rw[HR.out]; exact⟨rfl,bN I6 _⟩
    ·have d1:decide (n<0)=false:=by simp; omega
     have d1':Hid (decide (0<=n)=true):=by unfold Hid; simp; omega
     by_cases h2:c<f
     ·have d2:decide (c<f)=true:=by simpa using h2
      have d2':decide (f<=c)=false:=by simp; omega
      have HR:Hid _:=HF.out (by rw[HK.out]; rw[d2',Bool.and_false,Bool.false_and])
      clear HK HF HM
      go_wp2_with fail
      go_quiet (fail)
      go_wp2
      go_ret
      rw[HR.out]; exact⟨rfl,bN I6 _⟩
     ·have d2:decide (c<f)=false:=by simp; omega
      have d2':Hid (decide (f<=c)=true):=by unfold Hid; simp; omega
      by_cases h3:r=0
      ·subst h3
       go_wp2_with fail
       go_quiet (fail)
       go_wp2
       go_roundw
       case rel=>exact⟨rfl,k+1,by omega,by go_num,by rw[HM.out,HN.out,HK.out,d1'.out,d2'.out]; rfl,ads.out,bN I6 _⟩
       case measure=>simp[intOf]; omega
      ·have d3:(r != 0)=true:=by simpa using h3
       have d3':(r==0)=false:=by simpa using h3
       have HR:Hid _:=HF.out (by rw[HK.out]; rw[d3',Bool.and_false])
       clear HK HF HM
       go_wp2_with fail
       go_quiet (fail)
       go_wp2
       go_ret
       rw[HR.out]; exact⟨rfl,bN I6 _⟩
  ·obtain rfl:k=6:=by omega
   have HV:Hid (may x=((lD (gs x)).2&&decide ((lD (gs x)).1<=1125899906842624))):=by unfold Hid may; rw[HN.out,Bool.true_and]
   have hg:RdI .i64 wr (some ⟨w.heap.size,0,none⟩) (gs x):=adr Ra.out
   have HL:Hid ((gs x).length=6):=rfl
   generalize gs x=l at *
   clear HN
   go_wp2_with fail
   refine(GI _ 6 _ l _ (by omega) HL hg).mono ?_
   rintro e w1 ⟨rfl,rfl⟩
   generalize (lD l).1=n at *
   cases h:(lD l).2
   ·rw[h]at HV
    clear h
    go_wp2_with fail
    go_ret
    rw[HV.out]; exact⟨rfl,hbel⟩
   ·rw[h]at HV
    clear h
    go_wp2_with fail
    go_ret
    rw[HV.out]; exact⟨rfl,hbel⟩
namespace Rt
def fV(i:Int):Bool:=decide (1<=i)&&decide (i<=6)
def dV(x:Nat->Int)(i:Int):Int:=if fV i&&may x then(localM x (i.toNat-1)).1 else 0
theorem yV{n:Int}(h:yO n=true):0<=n/\n<=1125899906842624:=by unfold yO at h; simpa using h
theorem ME{l:List Int}(h:(lD l).2=true):kU l=true:=by
 unfold lD at h
 by_cases a:kU l=true
 ·exact a
 rw[if_neg a]at h; exact absurd h (by decide)
theorem xI{l:List Int}(h:kU l=true){n:Int}(a:n∈l):0<=n/\n<=1125899906842624:=by
 unfold kU at h
 rw[List.all_eq_true]at h
 exact yV (h n a)
theorem I7(x:Nat->Int)(k:Nat) : ∀ j,C x k∈outs x k j
 | 0=>by simp[outs]
 | j+1=>by rw[outs]; exact List.mem_append_left _ (I7 x k j)
theorem FB(x:Nat->Int)(k i:Nat) : ∀ j,i<j->R x k i∈outs x k j
 | 0,h=>absurd h (by omega)
 | j+1,h=>by
   rw[outs]
   by_cases e:i=j
   ·subst e; simp
   ·exact List.mem_append_left _ (FB x k i j (by omega))
theorem CJ(x:Nat->Int)(k:Nat) : ∀ j,G x k∈ins x k j/\F x k∈ins x k j
 | 0=>by simp[ins]
 | j+1=>by rw[ins]; exact⟨List.mem_append_left _ (CJ x k j).1,List.mem_append_left _ (CJ x k j).2⟩
theorem MF(x:Nat->Int)(k:Nat) : ∀ n,Cj x n=true->k<n->AX x k=true
 | 0,_,hk=>absurd hk (by omega)
 | n+1,h,hk=>by
   rw[Cj,Bool.and_eq_true]at h
   by_cases e:k=n
   ·subst e; exact h.2
   ·exact MF x k n h.1 (by omega)
theorem Rb{x:Nat->Int}(h:may x=true)(k:Nat)(a:k<6):AX x k=true:=by
 unfold may at h; rw[Bool.and_eq_true]at h; exact MF x k 6 h.1 a
structure Cc(x:Nat->Int)(k:Nat):Prop where
 g:0<=G x k/\G x k<=1125899906842624
 c:0<=C x k/\C x k<=1125899906842624
 f:0<=F x k/\F x k<=1125899906842624
 fc:F x k<=C x k
 r : ∀ i,i<6->0<=R x k i/\R x k i<=1125899906842624
 l:0<=(localM x k).1
 rkk:R x k k=0
 l2:(localM x k).2=true
theorem U5{x:Nat->Int}{k:Nat}(h:AX x k=true):Cc x k:=by
 unfold AX at h
 rw[Bool.and_eq_true,Bool.and_eq_true,Bool.and_eq_true]at h
 obtain⟨⟨⟨a,e⟩,h3⟩,h4⟩:=h
 have d:=a
 unfold localM at a
 rw[Bool.and_eq_true]at a
 have c:=ME a.1
 have b:=ME a.2
 exact⟨xI b (CJ x k 6).1,xI c (I7 x k 6),xI b (CJ x k 6).2,by simpa using h3,fun i f=>xI c (FB x k i 6 f),by simpa using e,by simpa using h4,d⟩
theorem uV{x:Nat->Int}(h:may x=true)(k:Nat)(a:k<6):Cc x k:=U5 (Rb h k a)
theorem Ob(x:Nat->Int)(k:Nat) : -(1125899906842624*8)<=(localM x k).1/\(localM x k).1<=1125899906842624*8:=by
 have a:=uQ (ins x k 6)
 have b:=uQ (outs x k 6)
 rw[P8]at a
 rw[NY]at b
 unfold localM
 simp only
 omega
end Rt
set_option maxHeartbeats 400000 in
theorem qA(i:Int)(w:World)(hi : -9223372036854775808<=i/\i<=9223372036854775807) :
 Calls Tryz.prog 71 #[.int .i64 i] w fun e w'=>e = .returned (.bool (fV i))/\w'=w:=by
 unfold fV
 by_cases h1:i<1
 ·have d1:decide (1<=i)=false:=by simp; omega
  have D1:Hid _:=d1
  go_enter Tryz.func71,Tryz.ntmps71
  go_wp2
  go_ret
  first|exact⟨rfl,rfl⟩|(rw[D1.out]; exact⟨rfl,rfl⟩)
 have d1:decide (1<=i)=true:=by simp; omega
 have D1:Hid _:=d1
 go_enter Tryz.func71,Tryz.ntmps71
 go_wp2
 go_ret
 first|exact⟨rfl,rfl⟩|(rw[D1.out]; exact⟨rfl,rfl⟩)
theorem iB:(Tryz.prog.info? 59).map (·.size)=some 54:=by kernel_rfl
theorem FC(x:Nat->Int)(i:Int)(h:(fV i&&may x)=false):dV x i=0:=by unfold dV; rw[if_neg (by rw[h]; decide)]
set_option maxRecDepth 100000 in
set_option maxHeartbeats 400000 in
theorem uW(x:Nat->Int)(i:Int)(w:World)(hi : -9223372036854775808<=i/\i<=9223372036854775807) :
 Calls Tryz.prog 48 #[.agg (aO .i64 54 x),.int .i64 i] w fun e w'=>e = .returned (.int .i64 (dV x i))/\Below w.heap.size w w':=by
 have HV:Hid (dV x i=if fV i&&may x then(localM x (i.toNat-1)).1 else 0):=rfl
 have hrow:Hid ((w.alloc (.cells (aO .i64 54 x) 59)).heap[w.heap.size]? = some (.cells (aO .i64 54 x) 59 (0,0))):=heap_alloc_new w _
 have HR:Hid ((fV i=true<->1<=i/\i<=6)):=by unfold Hid fV; simp
 have Rc:Hid (∀ w',Calls Tryz.prog 71 #[.int .i64 i] w' fun e w''=>e = .returned (.bool (fV i))/\w''=w'):=fun w'=>qA i w' hi
 have hmay:Hid (∀ w',Calls Tryz.prog 72 #[.agg (aO .i64 54 x)] w' fun e w''=>e = .returned (.bool (may x))/\Below w'.heap.size w' w''):=fun w'=>rP x w'
 generalize fV i=r at *
 cases r
 ·go_enter Tryz.func48,Tryz.ntmps48
  go_wp2_with (go_at_call 71; refine(Rc.out _).mono ?_; rintro e w' ⟨rfl,rfl⟩)
  go_ret
  rw[HV.out]; exact⟨rfl,(Below.refl _ _).alloc (Nat.le_refl _) _⟩
 have hb:1<=i/\i<=6:=HR.out.1 rfl
 obtain⟨k,hk⟩:=Int.eq_ofNat_of_zero_le (show 0<=i-1 by omega)
 have Hk:Hid (i-1=(k:Int)):=hk
 have hk6:k<6:=by omega
 have hkt:Hid (i.toNat-1=k):=by unfold Hid; omega
 clear hk
 generalize may x=m at *
 cases m
 ·go_enter Tryz.func48,Tryz.ntmps48
  go_wp2_with (first
   | (go_at_call 71; refine(Rc.out _).mono ?_; rintro e w' ⟨rfl,rfl⟩)
   | (refine yh (by rfl) (wp_load_row (o:=⟨some 11,_,_,_,_,_⟩) 59 (.tmp 2) (by rfl) w.heap.size (by rfl) 59 (aO .i64 54 x) (0,0) _ hrow.out Tryz.underlying59 (by rfl) (by rw[aZ]; exact iB) ?_))
   | (go_at_call 72; refine(hmay.out _).mono ?_; rintro e w1 ⟨rfl,hb1⟩))
  go_ret
  rw[HV.out]; exact⟨rfl,bal hb1⟩
 go_enter Tryz.func48,Tryz.ntmps48
 go_wp2_with (first
  | (go_at_call 71; refine(Rc.out _).mono ?_; rintro e w' ⟨rfl,rfl⟩)
  | (refine yh (by rfl) (wp_load_row (o:=⟨some 11,_,_,_,_,_⟩) 59 (.tmp 2) (by rfl) w.heap.size (by rfl) 59 (aO .i64 54 x) (0,0) _ hrow.out Tryz.underlying59 (by rfl) (by rw[aZ]; exact iB) ?_))
  | (go_at_call 72; refine(hmay.out _).mono ?_; rintro e w1 ⟨rfl,hb1⟩)
  | (go_at_call 73; rw[Hk.out]; refine(Fz w.heap.size 59 (0,0) x k w1 hk6 ((hb1.block _ (by simp)).trans hrow.out)).mono ?_; rintro e w2 ⟨rfl,hb2⟩))
 go_ret
 rw[HV.out,hkt.out]; exact⟨rfl,HZ (bal hb1) hb2⟩
namespace Rt
def zero:Nat->Int:=fun _=>0
def bR(x:Nat->Int)(n:Int)(is:Bool)(a:Int)(off:Nat):(Nat->Int) × Int :=
 if may x&&decide (1<=n)&&decide (n<=1125899906842624)then
  if is then
   if a=0 then
    if x off+n<=1125899906842624 then(upd x off (x off+n),0)else(zero,6)
   else(zero,a)
  else(zero,10)
 else(zero,1)
end Rt
theorem nU(T:TypeId)(a:Nat × Nat):Obj.cells (aO .i64 54 zero) T a = .cells #[.int .i64 0,.int .i64 0,.int .i64 0,.int .i64 0,.int .i64 0,.int .i64 0,.int .i64 0,.int .i64 0,.int .i64 0,.int .i64 0,.int .i64 0,.int .i64 0,.int .i64 0,.int .i64 0,.int .i64 0,.int .i64 0,.int .i64 0,.int .i64 0,.int .i64 0,.int .i64 0,.int .i64 0,.int .i64 0,.int .i64 0,.int .i64 0,.int .i64 0,.int .i64 0,.int .i64 0,.int .i64 0,.int .i64 0,.int .i64 0,.int .i64 0,.int .i64 0,.int .i64 0,.int .i64 0,.int .i64 0,.int .i64 0,.int .i64 0,.int .i64 0,.int .i64 0,.int .i64 0,.int .i64 0,.int .i64 0,.int .i64 0,.int .i64 0,.int .i64 0,.int .i64 0,.int .i64 0,.int .i64 0,.int .i64 0,.int .i64 0,.int .i64 0,.int .i64 0,.int .i64 0,.int .i64 0] T a:=by rfl
theorem results_cell_tmp{P:Program}{b:Func}{p q:Tmp}{ty:TypeId}(h:b.results = #[.cell p ty,.tmp q])(a:Array Value)(w:World)(g:Nat)(t:TypeId)(cs:Array Value)(c:Nat × Nat)(d:TypeDesc)
 (i:a.getD p undef = .pointer (some ⟨g,0,none⟩)) (f:w.heap[g]? = some (.cells cs t c))
 (k:P.underlying ty=some d) (e:(match d with | .struct _ | .array _ _=>true|_=>false)=true) (hi:(P.info? ty).map (·.size)=some cs.size) :
 (results b a).run P w = .ok (.tuple #[.agg cs,a.getD q undef]) w:=by
 have j:a[p]?.getD undef = .pointer (some ⟨g,0,none⟩):=by simpa using i
 simp[results,h,j,asAddr,run_loadVar_row w g t ty cs c d f k e hi]
def jm(x:Nat->Int)(n:Int)(is:Bool)(a:Int)(off:Nat)(w:World)(e:Ending)(w':World):Prop :=
 e = .returned (.tuple #[.agg (aO .i64 54 (bR x n is a off).1),.int .i64 (bR x n is a off).2])/\Below w.heap.size w w'
theorem ig{w a:World}{B g:Nat}{e:Array Value}(c:Below B w a)(b:B<=g)(d:a.heap[g]? = some (.cells e 59 (0,0)))(y:Nat->Int) :
 (a.setRow g (aO .i64 54 y)).heap[g]? = some (.cells (aO .i64 54 y) 59 (0,0))/\Below B w (a.setRow g (aO .i64 54 y)) :=
 ⟨setRow_heap _ _ _ _ _ _ d,ahj c b⟩
theorem lJ{x:Nat->Int}{n:Int}{is:Bool}{c:Int}{off:Nat}{w b:World}{a:Act}{g:Nat}{y:Nat->Int}{k:Int}(d:bR x n is c off=(y,k))(f:a.defers = [])
 (i:a.tmps.getD 10 undef = .pointer (some ⟨g,0,none⟩)) (j:a.tmps.getD 11 undef = .int .i64 k) (h:b.heap[g]? = some (.cells (aO .i64 54 y) 59 (0,0))) (e:Below w.heap.size w b) :
 bodyPost Tryz.prog Tryz.f188 (jm x n is c off w) .ret a b:=by
 refine bodyPost_ret (v := .tuple #[.agg (aO .i64 54 y),.int .i64 k]) ?_ f ⟨?_,e⟩
 ·rw[results_cell_tmp rfl a.tmps b g 59 _ (0,0) _ i h Tryz.underlying59 rfl (by rw[aZ]; exact iB),j]
 rw[d]
set_option maxRecDepth 100000 in
set_option maxHeartbeats 2000000 in
theorem KR(x:Nat->Int)(n:Int)(is:Bool)(fm fn:FuncId)(cm cn:Array Value)(em:Int)(off:Nat)(w:World)(h:may x=false) :
 Calls Tryz.prog 188 #[.agg (aO .i64 54 x),.int .i64 n,.bool is,.func (.func fm) #[] cm,.func (.func fn) #[] cn] w (jm x n is em off w):=by
 have hT:Hid (bR x n is em off=(zero,1)):=by unfold Hid bR; rw[h]; rfl
 have hmay:Hid (∀ w',Calls Tryz.prog 72 #[.agg (aO .i64 54 x)] w' fun e w''=>e = .returned (.bool (may x))/\Below w'.heap.size w' w''):=fun w'=>rP x w'
 go_enter Tryz.func188,Tryz.ntmps188
 go_upto_region 1 with (fail)
 rw[<- nU]
 have hx0:Hid (((w.alloc (.cells (aO .i64 54 x) 59)).alloc (.cells (aO .i64 54 zero) 59)).heap[w.heap.size]? = some (.cells (aO .i64 54 x) 59 (0,0))):=heap_alloc2_old w _ _
 have hz0:Hid (((w.alloc (.cells (aO .i64 54 x) 59)).alloc (.cells (aO .i64 54 zero) 59)).heap[w.heap.size+1]? = some (.cells (aO .i64 54 zero) 59 (0,0))):=heap_alloc2_new w _ _
 have hb0:Below w.heap.size w ((w.alloc (.cells (aO .i64 54 x) 59)).alloc (.cells (aO .i64 54 zero) 59)):=((Below.refl _ _).alloc (Nat.le_refl _) _).alloc (by simp) _
 have hs0:w.heap.size+1<((w.alloc (.cells (aO .i64 54 x) 59)).alloc (.cells (aO .i64 54 zero) 59)).heap.size:=by simp
 generalize (w.alloc (.cells (aO .i64 54 x) 59)).alloc (.cells (aO .i64 54 zero) 59)=W at *
 rw[h]at hmay
 go_wp2_with (first
  | (refine wpList_load_row (o:=⟨some 15,_,_,_,_,_⟩) (by rfl) 59 (.tmp 5) (by rfl) w.heap.size (by rfl) 59 (aO .i64 54 x) (0,0) _ hx0.out Tryz.underlying59 (by rfl) (by rw[aZ]; exact iB) ?_)
  | (go_at_call 72; refine(hmay.out _).mono ?_; rintro e w1 ⟨rfl,hb1⟩; have hz1:Hid _:=(hb1.block (w.heap.size+1) hs0).trans hz0.out; have hx1:Hid _:=(hb1.block w.heap.size (by omega)).trans hx0.out; have hB1:=hb0.trans (hb1.mono hb0.size); have hs1:=Nat.lt_of_lt_of_le hs0 hb1.size)
  | (refine wpList_store_row (o:=⟨none,.store 59 (.tmp 10) (.tmp 22),_,_,_,_⟩) (by rfl) 59 (.tmp 10) (.tmp 22) (by rfl) (w.heap.size+1) (aO .i64 54 zero) (by rfl) (by rfl) 59 (aO .i64 54 zero) hz1.out (by rw[aZ]; exact iB) (by rw[aZ]) (jL _ _ _) ?_))
 have hend:=ig hB1 (by omega) hz1.out zero
 exact lJ hT.out rfl rfl rfl hend.1 hend.2
set_option maxRecDepth 100000 in
set_option maxHeartbeats 2000000 in
theorem KS(x:Nat->Int)(n:Int)(is:Bool)(fm fn:FuncId)(cm cn:Array Value)(em:Int)(off:Nat)(w:World)(h:may x=true)(hn1:n<1) :
 Calls Tryz.prog 188 #[.agg (aO .i64 54 x),.int .i64 n,.bool is,.func (.func fm) #[] cm,.func (.func fn) #[] cn] w (jm x n is em off w):=by
 have hT:Hid (bR x n is em off=(zero,1)):=by unfold Hid bR; rw[h,decide_eq_false (show ¬ 1<=n by omega)]; rfl
 have hmay:Hid (∀ w',Calls Tryz.prog 72 #[.agg (aO .i64 54 x)] w' fun e w''=>e = .returned (.bool (may x))/\Below w'.heap.size w' w''):=fun w'=>rP x w'
 go_enter Tryz.func188,Tryz.ntmps188
 go_upto_region 1 with (fail)
 rw[<- nU]
 have hx0:Hid (((w.alloc (.cells (aO .i64 54 x) 59)).alloc (.cells (aO .i64 54 zero) 59)).heap[w.heap.size]? = some (.cells (aO .i64 54 x) 59 (0,0))):=heap_alloc2_old w _ _
 have hz0:Hid (((w.alloc (.cells (aO .i64 54 x) 59)).alloc (.cells (aO .i64 54 zero) 59)).heap[w.heap.size+1]? = some (.cells (aO .i64 54 zero) 59 (0,0))):=heap_alloc2_new w _ _
 have hb0:Below w.heap.size w ((w.alloc (.cells (aO .i64 54 x) 59)).alloc (.cells (aO .i64 54 zero) 59)):=((Below.refl _ _).alloc (Nat.le_refl _) _).alloc (by simp) _
 have hs0:w.heap.size+1<((w.alloc (.cells (aO .i64 54 x) 59)).alloc (.cells (aO .i64 54 zero) 59)).heap.size:=by simp
 generalize (w.alloc (.cells (aO .i64 54 x) 59)).alloc (.cells (aO .i64 54 zero) 59)=W at *
 rw[h]at hmay
 go_wp2_with (first
  | (refine wpList_load_row (o:=⟨some 15,_,_,_,_,_⟩) (by rfl) 59 (.tmp 5) (by rfl) w.heap.size (by rfl) 59 (aO .i64 54 x) (0,0) _ hx0.out Tryz.underlying59 (by rfl) (by rw[aZ]; exact iB) ?_)
  | (go_at_call 72; refine(hmay.out _).mono ?_; rintro e w1 ⟨rfl,hb1⟩; have hz1:Hid _:=(hb1.block (w.heap.size+1) hs0).trans hz0.out; have hx1:Hid _:=(hb1.block w.heap.size (by omega)).trans hx0.out; have hB1:=hb0.trans (hb1.mono hb0.size); have hs1:=Nat.lt_of_lt_of_le hs0 hb1.size)
  | (refine wpList_store_row (o:=⟨none,.store 59 (.tmp 10) (.tmp 22),_,_,_,_⟩) (by rfl) 59 (.tmp 10) (.tmp 22) (by rfl) (w.heap.size+1) (aO .i64 54 zero) (by rfl) (by rfl) 59 (aO .i64 54 zero) hz1.out (by rw[aZ]; exact iB) (by rw[aZ]) (jL _ _ _) ?_))
 have hend:=ig hB1 (by omega) hz1.out zero
 exact lJ hT.out rfl rfl rfl hend.1 hend.2
set_option maxRecDepth 100000 in
set_option maxHeartbeats 2000000 in
theorem KT(x:Nat->Int)(n:Int)(is:Bool)(fm fn:FuncId)(cm cn:Array Value)(em:Int)(off:Nat)(w:World)(h:may x=true)(hn1:1125899906842624<n) :
 Calls Tryz.prog 188 #[.agg (aO .i64 54 x),.int .i64 n,.bool is,.func (.func fm) #[] cm,.func (.func fn) #[] cn] w (jm x n is em off w):=by
 have hT:Hid (bR x n is em off=(zero,1)):=by unfold Hid bR; rw[decide_eq_false (show ¬ n<=1125899906842624 by omega),Bool.and_false]; rfl
 have hmay:Hid (∀ w',Calls Tryz.prog 72 #[.agg (aO .i64 54 x)] w' fun e w''=>e = .returned (.bool (may x))/\Below w'.heap.size w' w''):=fun w'=>rP x w'
 go_enter Tryz.func188,Tryz.ntmps188
 go_upto_region 1 with (fail)
 rw[<- nU]
 have hx0:Hid (((w.alloc (.cells (aO .i64 54 x) 59)).alloc (.cells (aO .i64 54 zero) 59)).heap[w.heap.size]? = some (.cells (aO .i64 54 x) 59 (0,0))):=heap_alloc2_old w _ _
 have hz0:Hid (((w.alloc (.cells (aO .i64 54 x) 59)).alloc (.cells (aO .i64 54 zero) 59)).heap[w.heap.size+1]? = some (.cells (aO .i64 54 zero) 59 (0,0))):=heap_alloc2_new w _ _
 have hb0:Below w.heap.size w ((w.alloc (.cells (aO .i64 54 x) 59)).alloc (.cells (aO .i64 54 zero) 59)):=((Below.refl _ _).alloc (Nat.le_refl _) _).alloc (by simp) _
 have hs0:w.heap.size+1<((w.alloc (.cells (aO .i64 54 x) 59)).alloc (.cells (aO .i64 54 zero) 59)).heap.size:=by simp
 generalize (w.alloc (.cells (aO .i64 54 x) 59)).alloc (.cells (aO .i64 54 zero) 59)=W at *
 rw[h]at hmay
 go_wp2_with (first
  | (refine wpList_load_row (o:=⟨some 15,_,_,_,_,_⟩) (by rfl) 59 (.tmp 5) (by rfl) w.heap.size (by rfl) 59 (aO .i64 54 x) (0,0) _ hx0.out Tryz.underlying59 (by rfl) (by rw[aZ]; exact iB) ?_)
  | (go_at_call 72; refine(hmay.out _).mono ?_; rintro e w1 ⟨rfl,hb1⟩; have hz1:Hid _:=(hb1.block (w.heap.size+1) hs0).trans hz0.out; have hx1:Hid _:=(hb1.block w.heap.size (by omega)).trans hx0.out; have hB1:=hb0.trans (hb1.mono hb0.size); have hs1:=Nat.lt_of_lt_of_le hs0 hb1.size)
  | (refine wpList_store_row (o:=⟨none,.store 59 (.tmp 10) (.tmp 22),_,_,_,_⟩) (by rfl) 59 (.tmp 10) (.tmp 22) (by rfl) (w.heap.size+1) (aO .i64 54 zero) (by rfl) (by rfl) 59 (aO .i64 54 zero) hz1.out (by rw[aZ]; exact iB) (by rw[aZ]) (jL _ _ _) ?_))
 have hend:=ig hB1 (by omega) hz1.out zero
 exact lJ hT.out rfl rfl rfl hend.1 hend.2
set_option maxRecDepth 100000 in
set_option maxHeartbeats 2000000 in
theorem KU(x:Nat->Int)(n:Int)(fm fn:FuncId)(cm cn:Array Value)(em:Int)(off:Nat)(w:World)(h:may x=true)(hn1:1<=n)(hn2:n<=1125899906842624) :
 Calls Tryz.prog 188 #[.agg (aO .i64 54 x),.int .i64 n,.bool false,.func (.func fm) #[] cm,.func (.func fn) #[] cn] w (jm x n false em off w):=by
 have hT:Hid (bR x n false em off=(zero,10)):=by unfold Hid bR; rw[h,decide_eq_true hn1,decide_eq_true hn2]; simp only[Bool.and_self,if_true]; rfl
 have hmay:Hid (∀ w',Calls Tryz.prog 72 #[.agg (aO .i64 54 x)] w' fun e w''=>e = .returned (.bool (may x))/\Below w'.heap.size w' w''):=fun w'=>rP x w'
 go_enter Tryz.func188,Tryz.ntmps188
 go_upto_region 1 with (fail)
 rw[<- nU]
 have hx0:Hid (((w.alloc (.cells (aO .i64 54 x) 59)).alloc (.cells (aO .i64 54 zero) 59)).heap[w.heap.size]? = some (.cells (aO .i64 54 x) 59 (0,0))):=heap_alloc2_old w _ _
 have hz0:Hid (((w.alloc (.cells (aO .i64 54 x) 59)).alloc (.cells (aO .i64 54 zero) 59)).heap[w.heap.size+1]? = some (.cells (aO .i64 54 zero) 59 (0,0))):=heap_alloc2_new w _ _
 have hb0:Below w.heap.size w ((w.alloc (.cells (aO .i64 54 x) 59)).alloc (.cells (aO .i64 54 zero) 59)):=((Below.refl _ _).alloc (Nat.le_refl _) _).alloc (by simp) _
 have hs0:w.heap.size+1<((w.alloc (.cells (aO .i64 54 x) 59)).alloc (.cells (aO .i64 54 zero) 59)).heap.size:=by simp
 generalize (w.alloc (.cells (aO .i64 54 x) 59)).alloc (.cells (aO .i64 54 zero) 59)=W at *
 rw[h]at hmay
 go_wp2_with (first
  | (refine wpList_load_row (o:=⟨some 15,_,_,_,_,_⟩) (by rfl) 59 (.tmp 5) (by rfl) w.heap.size (by rfl) 59 (aO .i64 54 x) (0,0) _ hx0.out Tryz.underlying59 (by rfl) (by rw[aZ]; exact iB) ?_)
  | (go_at_call 72; refine(hmay.out _).mono ?_; rintro e w1 ⟨rfl,hb1⟩; have hz1:Hid _:=(hb1.block (w.heap.size+1) hs0).trans hz0.out; have hx1:Hid _:=(hb1.block w.heap.size (by omega)).trans hx0.out; have hB1:=hb0.trans (hb1.mono hb0.size); have hs1:=Nat.lt_of_lt_of_le hs0 hb1.size)
  | (refine wpList_store_row (o:=⟨none,.store 59 (.tmp 10) (.tmp 26),_,_,_,_⟩) (by rfl) 59 (.tmp 10) (.tmp 26) (by rfl) (w.heap.size+1) (aO .i64 54 zero) (by rfl) (by rfl) 59 (aO .i64 54 zero) hz1.out (by rw[aZ]; exact iB) (by rw[aZ]) (jL _ _ _) ?_))
 have hend:=ig hB1 (by omega) hz1.out zero
 exact lJ hT.out rfl rfl rfl hend.1 hend.2
set_option maxRecDepth 100000 in
set_option maxHeartbeats 2000000 in
theorem KV(x:Nat->Int)(n:Int)(fm fn:FuncId)(cm cn:Array Value)(em:Int)(off:Nat)(w:World)(h:may x=true)(hn1:1<=n)(hn2:n<=1125899906842624)(hem:em≠0)(hcm : ∀(args:Array Value) (w:World),(callFunc fm args).run Tryz.prog w = .ok (.enter fm args) w)(hm:Hid (∀ w',Below w.heap.size w w'->Calls Tryz.prog fm cm w' fun e w''=>e = .returned (.int .i64 em)/\Below w'.heap.size w' w'')) :
 Calls Tryz.prog 188 #[.agg (aO .i64 54 x),.int .i64 n,.bool true,.func (.func fm) #[] cm,.func (.func fn) #[] cn] w (jm x n true em off w):=by
 have hT:Hid (bR x n true em off=(zero,em)):=by unfold Hid bR; rw[h,decide_eq_true hn1,decide_eq_true hn2]; simp only[Bool.and_self,if_true]; rw[if_neg hem]
 have arL:(em != 0)=true:=by simpa using hem
 have hmay:Hid (∀ w',Calls Tryz.prog 72 #[.agg (aO .i64 54 x)] w' fun e w''=>e = .returned (.bool (may x))/\Below w'.heap.size w' w''):=fun w'=>rP x w'
 go_enter Tryz.func188,Tryz.ntmps188
 go_upto_region 1 with (fail)
 rw[<- nU]
 have hx0:Hid (((w.alloc (.cells (aO .i64 54 x) 59)).alloc (.cells (aO .i64 54 zero) 59)).heap[w.heap.size]? = some (.cells (aO .i64 54 x) 59 (0,0))):=heap_alloc2_old w _ _
 have hz0:Hid (((w.alloc (.cells (aO .i64 54 x) 59)).alloc (.cells (aO .i64 54 zero) 59)).heap[w.heap.size+1]? = some (.cells (aO .i64 54 zero) 59 (0,0))):=heap_alloc2_new w _ _
 have hb0:Below w.heap.size w ((w.alloc (.cells (aO .i64 54 x) 59)).alloc (.cells (aO .i64 54 zero) 59)):=((Below.refl _ _).alloc (Nat.le_refl _) _).alloc (by simp) _
 have hs0:w.heap.size+1<((w.alloc (.cells (aO .i64 54 x) 59)).alloc (.cells (aO .i64 54 zero) 59)).heap.size:=by simp
 generalize (w.alloc (.cells (aO .i64 54 x) 59)).alloc (.cells (aO .i64 54 zero) 59)=W at *
 rw[h]at hmay
 go_wp2_with (first
  | (refine wpList_load_row (o:=⟨some 15,_,_,_,_,_⟩) (by rfl) 59 (.tmp 5) (by rfl) w.heap.size (by rfl) 59 (aO .i64 54 x) (0,0) _ hx0.out Tryz.underlying59 (by rfl) (by rw[aZ]; exact iB) ?_)
  | (go_at_call 72; refine(hmay.out _).mono ?_; rintro e w1 ⟨rfl,hb1⟩; have hz1:Hid _:=(hb1.block (w.heap.size+1) hs0).trans hz0.out; have hx1:Hid _:=(hb1.block w.heap.size (by omega)).trans hx0.out; have hB1:=hb0.trans (hb1.mono hb0.size); have hs1:=Nat.lt_of_lt_of_le hs0 hb1.size)
  | (refine(hm.out _ hB1).mono ?_; rintro e w2 ⟨rfl,hb2⟩; have hz2:Hid _:=(hb2.block (w.heap.size+1) hs1).trans hz1.out; have hx2:Hid _:=(hb2.block w.heap.size (by omega)).trans hx1.out; have hB2:=hB1.trans (hb2.mono hB1.size); have hs2:=Nat.lt_of_lt_of_le hs1 hb2.size)
  | (refine wpList_store_row (o:=⟨none,.store 59 (.tmp 10) (.tmp 31),_,_,_,_⟩) (by rfl) 59 (.tmp 10) (.tmp 31) (by rfl) (w.heap.size+1) (aO .i64 54 zero) (by rfl) (by rfl) 59 (aO .i64 54 zero) hz2.out (by rw[aZ]; exact iB) (by rw[aZ]) (jL _ _ _) ?_))
 have hend:=ig hB2 (by omega) hz2.out zero
 exact lJ hT.out rfl rfl rfl hend.1 hend.2
set_option maxRecDepth 100000 in
set_option maxHeartbeats 2000000 in
theorem KW(x:Nat->Int)(n:Int)(fm fn:FuncId)(cm cn:Array Value)(em:Int)(off:Nat)(w:World)(h:may x=true)(hn1:1<=n)(hn2:n<=1125899906842624)(em0:em=0)(hoff:off<54)(v:Int)(hv:x off=v)(hv2:0<=v/\v<=1125899906842624)(hs:1125899906842624<v+n)(hcm : ∀(args:Array Value) (w:World),(callFunc fm args).run Tryz.prog w = .ok (.enter fm args) w)(hm:Hid (∀ w',Below w.heap.size w w'->Calls Tryz.prog fm cm w' fun e w''=>e = .returned (.int .i64 em)/\Below w'.heap.size w' w''))(hcn : ∀(args:Array Value) (w:World),(callFunc fn args).run Tryz.prog w = .ok (.enter fn args) w)(hn:Hid (∀ w' g,Below w.heap.size w w'->Calls Tryz.prog fn (#[.pointer (some ⟨g,0,none⟩)]++cn) w' fun e w''=>e = .returned (.pointer (some ⟨g,off,none⟩))/\Below w'.heap.size w' w'')) :
 Calls Tryz.prog 188 #[.agg (aO .i64 54 x),.int .i64 n,.bool true,.func (.func fm) #[] cm,.func (.func fn) #[] cn] w (jm x n true em off w):=by
 have hT:Hid (bR x n true em off=(zero,6)):=by unfold Hid bR; rw[h,decide_eq_true hn1,decide_eq_true hn2]; simp only[Bool.and_self,if_true]; rw[if_pos em0,hv,if_neg (by omega)]
 subst em0
 have hmay:Hid (∀ w',Calls Tryz.prog 72 #[.agg (aO .i64 54 x)] w' fun e w''=>e = .returned (.bool (may x))/\Below w'.heap.size w' w''):=fun w'=>rP x w'
 go_enter Tryz.func188,Tryz.ntmps188
 go_upto_region 1 with (fail)
 rw[<- nU]
 have hx0:Hid (((w.alloc (.cells (aO .i64 54 x) 59)).alloc (.cells (aO .i64 54 zero) 59)).heap[w.heap.size]? = some (.cells (aO .i64 54 x) 59 (0,0))):=heap_alloc2_old w _ _
 have hz0:Hid (((w.alloc (.cells (aO .i64 54 x) 59)).alloc (.cells (aO .i64 54 zero) 59)).heap[w.heap.size+1]? = some (.cells (aO .i64 54 zero) 59 (0,0))):=heap_alloc2_new w _ _
 have hb0:Below w.heap.size w ((w.alloc (.cells (aO .i64 54 x) 59)).alloc (.cells (aO .i64 54 zero) 59)):=((Below.refl _ _).alloc (Nat.le_refl _) _).alloc (by simp) _
 have hs0:w.heap.size+1<((w.alloc (.cells (aO .i64 54 x) 59)).alloc (.cells (aO .i64 54 zero) 59)).heap.size:=by simp
 generalize (w.alloc (.cells (aO .i64 54 x) 59)).alloc (.cells (aO .i64 54 zero) 59)=W at *
 rw[h]at hmay
 go_wp2_with (first
  | (refine wpList_load_row (o:=⟨some 15,_,_,_,_,_⟩) (by rfl) 59 (.tmp 5) (by rfl) w.heap.size (by rfl) 59 (aO .i64 54 x) (0,0) _ hx0.out Tryz.underlying59 (by rfl) (by rw[aZ]; exact iB) ?_)
  | (go_at_call 72; refine(hmay.out _).mono ?_; rintro e w1 ⟨rfl,hb1⟩; have hz1:Hid _:=(hb1.block (w.heap.size+1) hs0).trans hz0.out; have hx1:Hid _:=(hb1.block w.heap.size (by omega)).trans hx0.out; have hB1:=hb0.trans (hb1.mono hb0.size); have hs1:=Nat.lt_of_lt_of_le hs0 hb1.size)
  | (refine(hm.out _ hB1).mono ?_; rintro e w2 ⟨rfl,hb2⟩; have hz2:Hid _:=(hb2.block (w.heap.size+1) hs1).trans hz1.out; have hx2:Hid _:=(hb2.block w.heap.size (by omega)).trans hx1.out; have hB2:=hB1.trans (hb2.mono hB1.size); have hs2:=Nat.lt_of_lt_of_le hs1 hb2.size)
  | (refine(hn.out _ _ hB2).mono ?_; rintro e w3 ⟨rfl,hb3⟩; have hz3:Hid _:=(hb3.block (w.heap.size+1) hs2).trans hz2.out; have hx3:=(hb3.block w.heap.size (by omega)).trans hx2.out; have hB3:=hB2.trans (hb3.mono hB2.size); have hs3:=Nat.lt_of_lt_of_le hs2 hb3.size; have hc3:=fH hx3 off hoff; have hf3:=frozen_of_row w3 w.heap.size off _ _ hx3; have XU:Hid ((w3.setCell ⟨w.heap.size,off,none⟩ (.int .i64 (v+n))).heap[w.heap.size+1]? = some (.cells (aO .i64 54 zero) 59 (0,0))):=(heap_setCell_other _ _ _ _ (by simp)).trans hz3.out; have hx4:Hid ((w3.setCell ⟨w.heap.size,off,none⟩ (.int .i64 (v+n))).heap[w.heap.size]? = some (.cells (aO .i64 54 (upd x off (v+n))) 59 (0,0))):=by { unfold Hid; rw[heap_setCell_same _ _ _ _ _ _ hx3,Dh] }; have hB4:Below w.heap.size w (w3.setCell ⟨w.heap.size,off,none⟩ (.int .i64 (v+n))):=hB3.setCell (Nat.le_refl _) _; clear hx3; rw[hv]at hc3)
  | (refine wpList_store_row (o:=⟨none,.store 59 (.tmp 10) (.tmp 45),_,_,_,_⟩) (by rfl) 59 (.tmp 10) (.tmp 45) (by rfl) (w.heap.size+1) (aO .i64 54 zero) (by rfl) (by rfl) 59 (aO .i64 54 zero) XU.out (by rw[aZ]; exact iB) (by rw[aZ]) (jL _ _ _) ?_))
 have hend:=ig hB4 (by omega) XU.out zero
 exact lJ hT.out rfl rfl rfl hend.1 hend.2
set_option maxRecDepth 100000 in
set_option maxHeartbeats 2000000 in
theorem KX(x:Nat->Int)(n:Int)(fm fn:FuncId)(cm cn:Array Value)(em:Int)(off:Nat)(w:World)(h:may x=true)(hn1:1<=n)(hn2:n<=1125899906842624)(em0:em=0)(hoff:off<54)(v:Int)(hv:x off=v)(hv2:0<=v/\v<=1125899906842624)(hs:v+n<=1125899906842624)(hcm : ∀(args:Array Value) (w:World),(callFunc fm args).run Tryz.prog w = .ok (.enter fm args) w)(hm:Hid (∀ w',Below w.heap.size w w'->Calls Tryz.prog fm cm w' fun e w''=>e = .returned (.int .i64 em)/\Below w'.heap.size w' w''))(hcn : ∀(args:Array Value) (w:World),(callFunc fn args).run Tryz.prog w = .ok (.enter fn args) w)(hn:Hid (∀ w' g,Below w.heap.size w w'->Calls Tryz.prog fn (#[.pointer (some ⟨g,0,none⟩)]++cn) w' fun e w''=>e = .returned (.pointer (some ⟨g,off,none⟩))/\Below w'.heap.size w' w'')) :
 Calls Tryz.prog 188 #[.agg (aO .i64 54 x),.int .i64 n,.bool true,.func (.func fm) #[] cm,.func (.func fn) #[] cn] w (jm x n true em off w):=by
 have hT:Hid (bR x n true em off=(upd x off (v+n),0)):=by unfold Hid bR; rw[h,decide_eq_true hn1,decide_eq_true hn2]; simp only[Bool.and_self,if_true]; rw[if_pos em0,hv,if_pos (by omega)]
 subst em0
 have hmay:Hid (∀ w',Calls Tryz.prog 72 #[.agg (aO .i64 54 x)] w' fun e w''=>e = .returned (.bool (may x))/\Below w'.heap.size w' w''):=fun w'=>rP x w'
 go_enter Tryz.func188,Tryz.ntmps188
 go_upto_region 1 with (fail)
 rw[<- nU]
 have hx0:Hid (((w.alloc (.cells (aO .i64 54 x) 59)).alloc (.cells (aO .i64 54 zero) 59)).heap[w.heap.size]? = some (.cells (aO .i64 54 x) 59 (0,0))):=heap_alloc2_old w _ _
 have hz0:Hid (((w.alloc (.cells (aO .i64 54 x) 59)).alloc (.cells (aO .i64 54 zero) 59)).heap[w.heap.size+1]? = some (.cells (aO .i64 54 zero) 59 (0,0))):=heap_alloc2_new w _ _
 have hb0:Below w.heap.size w ((w.alloc (.cells (aO .i64 54 x) 59)).alloc (.cells (aO .i64 54 zero) 59)):=((Below.refl _ _).alloc (Nat.le_refl _) _).alloc (by simp) _
 have hs0:w.heap.size+1<((w.alloc (.cells (aO .i64 54 x) 59)).alloc (.cells (aO .i64 54 zero) 59)).heap.size:=by simp
 generalize (w.alloc (.cells (aO .i64 54 x) 59)).alloc (.cells (aO .i64 54 zero) 59)=W at *
 rw[h]at hmay
 go_wp2_with (first
  | (refine wpList_load_row (o:=⟨some 15,_,_,_,_,_⟩) (by rfl) 59 (.tmp 5) (by rfl) w.heap.size (by rfl) 59 (aO .i64 54 x) (0,0) _ hx0.out Tryz.underlying59 (by rfl) (by rw[aZ]; exact iB) ?_)
  | (go_at_call 72; refine(hmay.out _).mono ?_; rintro e w1 ⟨rfl,hb1⟩; have hz1:Hid _:=(hb1.block (w.heap.size+1) hs0).trans hz0.out; have hx1:Hid _:=(hb1.block w.heap.size (by omega)).trans hx0.out; have hB1:=hb0.trans (hb1.mono hb0.size); have hs1:=Nat.lt_of_lt_of_le hs0 hb1.size)
  | (refine(hm.out _ hB1).mono ?_; rintro e w2 ⟨rfl,hb2⟩; have hz2:Hid _:=(hb2.block (w.heap.size+1) hs1).trans hz1.out; have hx2:Hid _:=(hb2.block w.heap.size (by omega)).trans hx1.out; have hB2:=hB1.trans (hb2.mono hB1.size); have hs2:=Nat.lt_of_lt_of_le hs1 hb2.size)
  | (refine(hn.out _ _ hB2).mono ?_; rintro e w3 ⟨rfl,hb3⟩; have hz3:Hid _:=(hb3.block (w.heap.size+1) hs2).trans hz2.out; have hx3:=(hb3.block w.heap.size (by omega)).trans hx2.out; have hB3:=hB2.trans (hb3.mono hB2.size); have hs3:=Nat.lt_of_lt_of_le hs2 hb3.size; have hc3:=fH hx3 off hoff; have hf3:=frozen_of_row w3 w.heap.size off _ _ hx3; have XU:Hid ((w3.setCell ⟨w.heap.size,off,none⟩ (.int .i64 (v+n))).heap[w.heap.size+1]? = some (.cells (aO .i64 54 zero) 59 (0,0))):=(heap_setCell_other _ _ _ _ (by simp)).trans hz3.out; have hx4:Hid ((w3.setCell ⟨w.heap.size,off,none⟩ (.int .i64 (v+n))).heap[w.heap.size]? = some (.cells (aO .i64 54 (upd x off (v+n))) 59 (0,0))):=by { unfold Hid; rw[heap_setCell_same _ _ _ _ _ _ hx3,Dh] }; have hB4:Below w.heap.size w (w3.setCell ⟨w.heap.size,off,none⟩ (.int .i64 (v+n))):=hB3.setCell (Nat.le_refl _) _; clear hx3; rw[hv]at hc3)
  | (refine wpList_load_row (o:=⟨some 46,_,_,_,_,_⟩) (by rfl) 59 (.tmp 5) (by rfl) w.heap.size (by rfl) 59 (aO .i64 54 (upd x off (v+n))) (0,0) _ hx4.out Tryz.underlying59 (by rfl) (by rw[aZ]; exact iB) ?_)
  | (refine wpList_store_row (o:=⟨none,.store 59 (.tmp 10) (.tmp 46),_,_,_,_⟩) (by rfl) 59 (.tmp 10) (.tmp 46) (by rfl) (w.heap.size+1) (aO .i64 54 (upd x off (v+n))) (by rfl) (by rfl) 59 (aO .i64 54 zero) XU.out (by rw[aZ]; exact iB) (by rw[aZ,aZ]) (jL _ _ _) ?_))
 have hend:=ig hB4 (by omega) XU.out (upd x off (v+n))
 exact lJ hT.out rfl rfl rfl hend.1 hend.2
theorem uX(x:Nat->Int)(n:Int)(is:Bool)(a b:FuncId)(d f:Array Value)(c:Int)(off:Nat)(w:World)(q:is=true->off<54)(hx:is=true->may x=true->0<=x off/\x off<=1125899906842624)
 (k : ∀(i:Array Value) (w:World),(callFunc a i).run Tryz.prog w = .ok (.enter a i) w)
 (o : ∀(i:Array Value) (w:World),(callFunc b i).run Tryz.prog w = .ok (.enter b i) w)
 (l:may x=true->1<=n->n<=1125899906842624->is=true -> ∀ w',Below w.heap.size w w'->Calls Tryz.prog a d w' fun e m=>e = .returned (.int .i64 c)/\Below w'.heap.size w' m)
 (p:is=true -> ∀ w' g,Below w.heap.size w w'->Calls Tryz.prog b (#[.pointer (some ⟨g,0,none⟩)]++f) w' fun e m=>e = .returned (.pointer (some ⟨g,off,none⟩))/\Below w'.heap.size w' m) :
 Calls Tryz.prog 188 #[.agg (aO .i64 54 x),.int .i64 n,.bool is,.func (.func a) #[] d,.func (.func b) #[] f] w (jm x n is c off w):=by
 by_cases h:may x=true
 ·by_cases r:n<1
  ·exact KS x n is a b d f c off w h r
  by_cases s:1125899906842624<n
  ·exact KT x n is a b d f c off w h s
  cases is
  ·exact KU x n a b d f c off w h (by omega) (by omega)
  by_cases j:c=0
  ·by_cases t:1125899906842624<x off+n
   ·exact KW x n a b d f c off w h (by omega) (by omega) j (q rfl) _ rfl (hx rfl h) t k (l h (by omega) (by omega) rfl) o (p rfl)
   exact KX x n a b d f c off w h (by omega) (by omega) j (q rfl) _ rfl (hx rfl h) (by omega) k (l h (by omega) (by omega) rfl) o (p rfl)
  exact KV x n a b d f c off w h (by omega) (by omega) j k (l h (by omega) (by omega) rfl)
 exact KR x n is a b d f c off w (by simpa using h)
section
namespace Rt
def own(p:Nat):Nat:=if p<6 then p else if p<12 then p-6 else if p<18 then p-12 else(p-18) / 6
end Rt
def JS(a:World)(g:Nat)(x y:Nat->Int)(w':World):Prop:=w'.heap[g]? = some (.cells (aO .i64 54 x) 59 (0,0))/\w'.heap[g+1]? = some (.cells (aO .i64 54 y) 59 (0,0))/\w'.heap[g+1+1]? = some (.cells (aO .i64 54 zero) 59 (0,0))/\Below g a w'
theorem JS.drew{a w:World}{g:Nat}{x y:Nat->Int}(h:JS a g x y w):JS a g x y w.drew:=⟨h.1,h.2.1,h.2.2.1,bN h.2.2.2 1⟩
theorem JS.a{b w:World}{g:Nat}{x y:Nat->Int}(h:JS b g x y w)(i:Nat)(hi:i<54):w.cell? ⟨g,i,none⟩=some (.int .i64 (x i)):=fH h.1 i hi
theorem JS.b{a w:World}{g:Nat}{x y:Nat->Int}(h:JS a g x y w)(i:Nat)(hi:i<54):w.cell? ⟨g+1,i,none⟩=some (.int .i64 (y i)):=fH h.2.1 i hi
theorem JS.fr{a w:World}{g:Nat}{x y:Nat->Int}(h:JS a g x y w)(i:Nat):w.frozen? ⟨g,i,none⟩=false:=frozen_of_row w g i _ _ h.1
theorem JS.set{d w:World}{g:Nat}{x y:Nat->Int}(h:JS d g x y w)(i:Nat)(v:Int):JS d g (upd x i v) y (w.setCell ⟨g,i,none⟩ (.int .i64 v)):=by
 obtain⟨a,b,z,c⟩:=h
 refine⟨?_,?_,?_,?_⟩
 ·rw[heap_setCell_same _ _ _ _ _ _ a,Dh]
 ·rw[heap_setCell_other _ _ _ _ (by simp)]; exact b
 ·rw[heap_setCell_other _ _ _ _ (by simp; omega)]; exact z
 exact c.setCell (Nat.le_refl _) _
theorem JS.congr{a w:World}{g:Nat}{x y b:Nat->Int}(h:JS a g x y w)(hx : ∀ i,i<54->x i=b i):JS a g b y w:=by
 unfold JS at *; rw[<- Kl hx]; exact h
def JSb(c:World)(g:Nat)(x y:Nat->Int)(b:Bool)(w':World):Prop := ∃ a,JS c g a y w'/\(b=false->a=x)
theorem JSb.a{b w:World}{g:Nat}{x y:Nat->Int}(h:JSb b g x y false w)(i:Nat)(hi:i<54):w.cell? ⟨g,i,none⟩=some (.int .i64 (x i)):=by
 obtain⟨c,h,e⟩:=h
 rw[<- e rfl]; exact h.a i hi
attribute [local irreducible] Oper.wp wpList Code.wp
end
section
set_option maxHeartbeats 400000 in
theorem tT(is:Bool)(e:Int)(w:World) :
 Calls Tryz.prog 190 #[.bool is,.int .i64 e] w fun r w'=>r = .returned (.int .i64 (if is then e else 0))/\w'=w:=by
 cases is
 all_goals
  go_enter Tryz.func190,Tryz.ntmps190
  go_wp2
  go_ret
  exact⟨rfl,rfl⟩
def MG(r:(Nat->Int) × Int)(w:World)(e:Ending)(w':World):Prop :=
 e = .returned (.tuple #[.agg (aO .i64 54 r.1),.int .i64 r.2])/\Below w.heap.size w w'
theorem rQ{c:Func}{p q:Tmp}(j:c.results = #[.cell p 59,.tmp q]){b w:World}{a:Act}{g:Nat}{r:(Nat->Int) × Int}(e:a.defers = [])
 (h:a.tmps.getD p undef = .pointer (some ⟨g,0,none⟩)) (i:a.tmps.getD q undef = .int .i64 r.2) (f:w.heap[g]? = some (.cells (aO .i64 54 r.1) 59 (0,0))) (d:Below b.heap.size b w) :
 bodyPost Tryz.prog c (MG r b) .ret a w :=
 bodyPost_ret (by rw[results_cell_tmp j a.tmps w g 59 _ (0,0) _ h f Tryz.underlying59 rfl (by rw[aZ]; exact iB),i]) e ⟨rfl,d⟩
def RS2(x:Nat->Int)(g:Nat)(i n:Int)(w':World):Prop:=w'.heap[g]? = some (.cells (aO .i64 54 x) 59 (0,0))/\w'.cell? ⟨g+1,0,none⟩=some (.int .i64 i)/\w'.cell? ⟨g+1+1,0,none⟩=some (.int .i64 n)
theorem mI(i:Int):fV i=true<->1<=i/\i<=6:=by unfold fV; simp
attribute [local irreducible] Oper.wp wpList Code.wp
end
section
namespace Rt
def rR(x:Nat->Int)(i n:Int):Int:=if decide (dV x i<n)then 11 else 0
def bE(x:Nat->Int)(i n:Int):(Nat->Int) × Int:=bR x n (fV i) (rR x i n) (6+(i.toNat-1))
theorem FD(x:Nat->Int)(i:Int) : -(1125899906842624*8)<=dV x i/\dV x i<=1125899906842624*8:=by
 unfold dV
 split
 ·exact Ob x _
 omega
end Rt
attribute [local irreducible] Oper.wp wpList Code.wp in
set_option maxRecDepth 100000 in
set_option maxHeartbeats 1000000 in
theorem Oc(x:Nat->Int)(i n:Int)(g h hi:Nat)(w:World)(hn:1<=n/\n<=1125899906842624)(hib : -9223372036854775808<=i/\i<=9223372036854775807)(hx:Hid (w.heap[g]? = some (.cells (aO .i64 54 x) 59 (0,0))))(hc:w.cell? ⟨h,0,none⟩=some (.int .i64 n))(hci:w.cell? ⟨hi,0,none⟩=some (.int .i64 i)) :
 Calls Tryz.prog 189 #[.pointer (some ⟨h,0,none⟩),.pointer (some ⟨g,0,none⟩),.pointer (some ⟨hi,0,none⟩)] w fun e w'=>e = .returned (.int .i64 (rR x i n))/\Below w.heap.size w w':=by
 have HE:Hid (rR x i n=if decide (dV x i<n)then 11 else 0):=rfl
 have hb:=FD x i
 have hlh:=block_lt_of_cell hc
 have Od:=block_lt_of_cell hci
 have Uo:g<w.heap.size:=(Array.getElem?_eq_some_iff.1 hx.out).1
 dsimp only at hlh Od
 have hB0:Below w.heap.size w w.drew:=iU w 1
 have hs:Hid (∀ w',Calls Tryz.prog 48 #[.agg (aO .i64 54 x),.int .i64 i] w' fun e w''=>e = .returned (.int .i64 (dV x i))/\Below w'.heap.size w' w''):=fun w'=>uW x i w' hib
 generalize dV x i=s1 at *
 by_cases hd:s1<n
 ·rw[decide_eq_true hd,if_pos rfl]at HE
  go_enter Tryz.func189,Tryz.ntmps189
  go_upto_region 1 with (fail)
  rename_i K0 H8
  refine wp_region_noPanic<|wp_region_held_drew (S:=Below w.heap.size w) (by kernel_rfl) hB0 fun hS => ?_
  refine wpAnyH_take (i:=0) (v := .int .i64 n) rfl (by kernel_rfl) (by kernel_rfl) (by kernel_rfl) (fun _ _ _ h=>h) (.inl ⟨by rfl,fun w' hw => ?_⟩) hS ?_
  ·have h2:=(hw.cell (p:=⟨h,0,none⟩) hlh).trans hc
   clear hw hc hci
   go_simp
  refine wpAnyH_take (i:=1) (v := .agg (aO .i64 54 x)) rfl (by kernel_rfl) (by kernel_rfl) (by kernel_rfl) (fun _ _ _ h=>h) (.inl ⟨by rfl,fun w' hw => ?_⟩) hS ?_
  ·exact iK 59 (.tmp 1) (by rfl) g (by rfl) 59 (aO .i64 54 x) (0,0) _ ((hw.block _ Uo).trans hx.out) Tryz.underlying59 (by rfl) (by rw[aZ]; exact iB)
  refine wpAnyH_take (i:=2) (v := .int .i64 i) rfl (by kernel_rfl) (by kernel_rfl) (by kernel_rfl) (fun _ _ _ h=>h) (.inl ⟨by rfl,fun w' hw => ?_⟩) hS ?_
  ·have h2:=(hw.cell (p:=⟨hi,0,none⟩) Od).trans hci
   clear hw hc hci
   go_simp
  refine wpAnyH_all (rs := [3]) (by kernel_rfl) (by decide) ?_
  intro j hj
  obtain rfl:j=3:=by simpa using hj
  refine wpOp_step rfl<|fun K hK => ?_
  clear hj
  go_simp
  refine(hs.out _).mono ?_
  rintro e w1 ⟨rfl,hb1⟩
  have hS:=HZ hS hb1
  refine hK _ _ ⟨hS,?_⟩
  clear hK K
  refine wpAnyH_take (i:=4) (v := .bool true) rfl (by kernel_rfl) (by kernel_rfl) (by kernel_rfl) (fun _ _ _ h=>h) (.inl ⟨by rfl,fun w' hw => ?_⟩) hS ?_
  ·clear hw hc hci
   go_simp
  refine wpAnyH_all (rs := [5]) (by kernel_rfl) (by decide) ?_
  intro j hj
  obtain rfl:j=5:=by simpa using hj
  refine wpOp_step rfl<|fun K hK => ?_
  clear hj
  go_simp
  refine(tT _ _ _).mono ?_
  rintro e w2 ⟨rfl,rfl⟩
  refine hK _ _ ⟨hS,?_⟩
  clear hK K
  refine wpAnyH_take (i:=6) (v := .int .i64 11) rfl (by kernel_rfl) (by kernel_rfl) (by kernel_rfl) (fun _ _ _ h=>h) (.inl ⟨by rfl,fun w' hw => ?_⟩) hS ?_
  ·clear hw hc hci
   go_simp
  refine wpAnyH_done (by kernel_rfl) ?_ _
  refine H8 _ _ ?_
  go_wp2
  go_ret
  rw[HE.out]
  exact⟨rfl,hS⟩
 rw[decide_eq_false hd,if_neg (by decide)]at HE
 go_enter Tryz.func189,Tryz.ntmps189
 go_upto_region 1 with (fail)
 rename_i K0 H8
 refine wp_region_noPanic<|wp_region_held_drew (S:=Below w.heap.size w) (by kernel_rfl) hB0 fun hS => ?_
 refine wpAnyH_take (i:=0) (v := .int .i64 n) rfl (by kernel_rfl) (by kernel_rfl) (by kernel_rfl) (fun _ _ _ h=>h) (.inl ⟨by rfl,fun w' hw => ?_⟩) hS ?_
 ·have h2:=(hw.cell (p:=⟨h,0,none⟩) hlh).trans hc
  clear hw hc hci
  go_simp
 refine wpAnyH_take (i:=1) (v := .agg (aO .i64 54 x)) rfl (by kernel_rfl) (by kernel_rfl) (by kernel_rfl) (fun _ _ _ h=>h) (.inl ⟨by rfl,fun w' hw => ?_⟩) hS ?_
 ·exact iK 59 (.tmp 1) (by rfl) g (by rfl) 59 (aO .i64 54 x) (0,0) _ ((hw.block _ Uo).trans hx.out) Tryz.underlying59 (by rfl) (by rw[aZ]; exact iB)
 refine wpAnyH_take (i:=2) (v := .int .i64 i) rfl (by kernel_rfl) (by kernel_rfl) (by kernel_rfl) (fun _ _ _ h=>h) (.inl ⟨by rfl,fun w' hw => ?_⟩) hS ?_
 ·have h2:=(hw.cell (p:=⟨hi,0,none⟩) Od).trans hci
  clear hw hc hci
  go_simp
 refine wpAnyH_all (rs := [3]) (by kernel_rfl) (by decide) ?_
 intro j hj
 obtain rfl:j=3:=by simpa using hj
 refine wpOp_step rfl<|fun K hK => ?_
 clear hj
 go_simp
 refine(hs.out _).mono ?_
 rintro e w1 ⟨rfl,hb1⟩
 have hS:=HZ hS hb1
 refine hK _ _ ⟨hS,?_⟩
 clear hK K
 refine wpAnyH_take (i:=4) (v := .bool false) rfl (by kernel_rfl) (by kernel_rfl) (by kernel_rfl) (fun _ _ _ h=>h) (.inl ⟨by rfl,fun w' hw => ?_⟩) hS ?_
 ·clear hw hc hci
  go_simp
 refine wpAnyH_all (rs := [5]) (by kernel_rfl) (by decide) ?_
 intro j hj
 obtain rfl:j=5:=by simpa using hj
 refine wpOp_step rfl<|fun K hK => ?_
 clear hj
 go_simp
 refine(tT _ _ _).mono ?_
 rintro e w2 ⟨rfl,rfl⟩
 refine hK _ _ ⟨hS,?_⟩
 clear hK K
 refine wpAnyH_take (i:=6) (v := .int .i64 0) rfl (by kernel_rfl) (by kernel_rfl) (by kernel_rfl) (fun _ _ _ h=>h) (.inl ⟨by rfl,fun w' hw => ?_⟩) hS ?_
 ·clear hw hc hci
  go_simp
 refine wpAnyH_done (by kernel_rfl) ?_ _
 refine H8 _ _ ?_
 go_wp2
 go_ret
 rw[HE.out]
 exact⟨rfl,hS⟩
set_option maxHeartbeats 400000 in
theorem Oe(g h:Nat)(i:Int)(w:World)(hi:1<=i/\i<=6)(hc:w.cell? ⟨h,0,none⟩=some (.int .i64 i)) :
 Calls Tryz.prog 191 #[.pointer (some ⟨g,0,none⟩),.pointer (some ⟨h,0,none⟩)] w fun e w'=>e = .returned (.pointer (some ⟨g,6+(i.toNat-1),none⟩))/\Below w.heap.size w w':=by
 obtain⟨k,hk⟩:=Int.eq_ofNat_of_zero_le (show 0<=i-1 by omega)
 obtain rfl:i=(k:Int)+1:=by omega
 have hk6:(k:Int)<6:=by omega
 have HE:Hid (((k:Int)+1).toNat-1=k):=by unfold Hid; omega
 clear hk
 go_enter Tryz.func191,Tryz.ntmps191
 go_wp2_with fail
 go_quiet (fail)
 go_wp2
 go_ret
 rw[HE.out]
 exact⟨rfl,bN (Below.refl _ _) _⟩
theorem Rf(args:Array Value)(w:World):(callFunc 189 args).run Tryz.prog w = .ok (.enter 189 args) w:=jy Tryz.func189 rfl rfl args w
theorem Rh(args:Array Value)(w:World):(callFunc 191 args).run Tryz.prog w = .ok (.enter 191 args) w:=jy Tryz.func191 rfl rfl args w
attribute [local irreducible] Oper.wp wpList Code.wp
set_option maxRecDepth 100000 in
set_option maxHeartbeats 1000000 in
theorem Ri(x:Nat->Int)(i n:Int)(w:World)(hi : -9223372036854775808<=i/\i<=9223372036854775807) :
 Calls Tryz.prog 176 #[.agg (aO .i64 54 x),.int .i64 i,.int .i64 n] w (MG (bE x i n) w):=by
 have hmf : ∀(fn:Fn) (first cap:Array Value) (w:World),(Instr.makeFunc fn first cap).run Tryz.prog w = .ok (.func fn first cap) w:=fun _ _ _ _=>rfl
 go_enter Tryz.func176,Tryz.ntmps176
 go_upto_region 1 with (fail)
 rename_i K0 H8
 rw[<- nU]
 have ha:=Pm w (.cells (aO .i64 54 x) 59) (.cells #[.int .i64 i] 3) (.cells #[.int .i64 n] 2) (.cells (aO .i64 54 zero) 59)
 generalize (((w.alloc (.cells (aO .i64 54 x) 59)).alloc (.cells #[.int .i64 i] 3)).alloc (.cells #[.int .i64 n] 2)).alloc (.cells (aO .i64 54 zero) 59)=W at *
 obtain⟨hx,hI,hN,hz,hs,hB⟩:=ha
 have cI:=qj hI
 have cN:=qj hN
 have Hx:Hid _:=hx
 have Hz:Hid _:=hz
 have HI:Hid _:=hI
 have HN:Hid _:=hN
 have Hs:Hid _:=hs
 clear hx hz hI hN hs
 refine wp_region_noPanic<|wp_region_held_drew (S:=RS2 x w.heap.size i n) (by kernel_rfl) ⟨Hx.out,cI,cN⟩ fun hS => ?_
 refine wpAnyH_take (i:=0) (v := .agg (aO .i64 54 x)) rfl (by kernel_rfl) (by kernel_rfl) (by kernel_rfl) (fun _ _ _ h=>h) (.inl ⟨by rfl,fun w' hw => ?_⟩) hS ?_
 ·exact iK 59 (.tmp 3) (by rfl) w.heap.size (by rfl) 59 (aO .i64 54 x) (0,0) _ hw.1 Tryz.underlying59 (by rfl) (by rw[aZ]; exact iB)
 refine wpAnyH_take (i:=1) (v := .int .i64 n) rfl (by kernel_rfl) (by kernel_rfl) (by kernel_rfl) (fun _ _ _ h=>h) (.inl ⟨by rfl,fun w' hw => ?_⟩) hS ?_
 ·have h2:=hw.2.2
  go_simp
 refine wpAnyH_take (i:=2) (v := .int .i64 i) rfl (by kernel_rfl) (by kernel_rfl) (by kernel_rfl) (fun _ _ _ h=>h) (.inl ⟨by rfl,fun w' hw => ?_⟩) hS ?_
 ·have h2:=hw.2.1
  have h3:=hw.2.2
  clear hw
  go_simp
 refine wpAnyH_take (i:=4) (v := .func (.func 189) #[] #[.pointer (some ⟨w.heap.size+1+1,0,none⟩),.pointer (some ⟨w.heap.size,0,none⟩),.pointer (some ⟨w.heap.size+1,0,none⟩)]) rfl (by kernel_rfl) (by kernel_rfl) (by kernel_rfl) (fun _ _ _ h=>h) (.inl ⟨by rfl,fun w' hw => ?_⟩) hS ?_
 ·have h2:=hw.2.1
  have h3:=hw.2.2
  clear hw
  go_simp
 refine wpAnyH_take (i:=5) (v := .func (.func 191) #[] #[.pointer (some ⟨w.heap.size+1,0,none⟩)]) rfl (by kernel_rfl) (by kernel_rfl) (by kernel_rfl) (fun _ _ _ h=>h) (.inl ⟨by rfl,fun w' hw => ?_⟩) hS ?_
 ·have h2:=hw.2.1
  have h3:=hw.2.2
  clear hw
  go_simp
 refine wpAnyH_all (rs := [3]) (by kernel_rfl) (by decide) ?_
 intro j hj
 obtain rfl:j=3:=by simpa using hj
 refine wpOp_step rfl<|fun K hK => ?_
 clear hj
 go_simp
 refine(qA i _ hi).mono ?_
 rintro e w' ⟨rfl,rfl⟩
 refine hK _ _ ⟨hS,?_⟩
 clear hK K
 refine wpAnyH_all (rs := [6]) (by kernel_rfl) (by decide) ?_
 intro j hj
 obtain rfl:j=6:=by simpa using hj
 refine wpOp_step rfl<|fun K hK => ?_
 clear hj
 go_simp
 have hlx:w.heap.size<W.drew.heap.size:=(Array.getElem?_eq_some_iff.1 hS.1).1
 have U6:=block_lt_of_cell hS.2.1
 have Zz:=block_lt_of_cell hS.2.2
 dsimp only at U6 Zz
 refine(uX x n (fV i) 189 191 _ _ (rR x i n) (6+(i.toNat-1)) W.drew ?o1 ?o2 Rf Rh ?o3 ?o4).mono ?_
 case o1=>intro h; have:=(mI i).1 h; omega
 case o2=>intro h hm; have:=(mI i).1 h; exact(uV hm (i.toNat-1) (by omega)).c
 case o3 =>
  intro hm h1 h2 h3 w' hb
  exact Oc x i n _ _ _ w' ⟨h1,h2⟩ hi ((hb.block _ hlx).trans hS.1) ((hb.cell (p:=⟨w.heap.size+1+1,0,none⟩) Zz).trans hS.2.2) ((hb.cell (p:=⟨w.heap.size+1,0,none⟩) U6).trans hS.2.1)
 case o4 =>
  intro h w' g hb
  exact Oe g _ i w' ((mI i).1 h) ((hb.cell (p:=⟨w.heap.size+1,0,none⟩) U6).trans hS.2.1)
 rintro e w2 ⟨rfl,hb2⟩
 have hHR:Hid (bE x i n=bR x n (fV i) (rR x i n) (6+(i.toNat-1))):=rfl
 generalize bR x n (fV i) (rR x i n) (6+(i.toNat-1))=r at *
 have hS2:RS2 x w.heap.size i n w2:=⟨(hb2.block _ hlx).trans hS.1,(hb2.cell (p:=⟨w.heap.size+1,0,none⟩) U6).trans hS.2.1,(hb2.cell (p:=⟨w.heap.size+1+1,0,none⟩) Zz).trans hS.2.2⟩
 have hz2:Hid (w2.heap[w.heap.size+1+1+1]? = some (.cells (aO .i64 54 zero) 59 (0,0))):=(hb2.block _ (by show _<W.heap.size; have:=Hs.out; omega)).trans Hz.out
 have hB2:Below w.heap.size w w2:=hB.trans ((bdr hb2).mono hB.size)
 refine hK _ _ ⟨hS2,?_⟩
 clear hK K hS hb2
 refine wpAnyH_take (i:=7) (v := .agg (aO .i64 54 r.1)) rfl (by kernel_rfl) (by kernel_rfl) (by kernel_rfl) (fun _ _ _ h=>h) (.inl ⟨by rfl,fun w' hw => ?_⟩) hS2 ?_
 ·clear hw
  go_simp
 refine wpAnyH_take (i:=8) (v := .int .i64 r.2) rfl (by kernel_rfl) (by kernel_rfl) (by kernel_rfl) (fun _ _ _ h=>h) (.inl ⟨by rfl,fun w' hw => ?_⟩) hS2 ?_
 ·clear hw
  go_simp
 refine wpAnyH_all (rs := [9]) (by kernel_rfl) (by decide) ?_
 intro j hj
 obtain rfl:j=9:=by simpa using hj
 clear hj
 refine uG (by rfl) (by rfl)<|fun K hK => ?_
 refine wp_store_row 59 (.tmp 6) (.tmp 15) (by rfl) (w.heap.size+1+1+1) (aO .i64 54 r.1) (by rfl) (by rfl) 59 (aO .i64 54 zero) hz2.out (by rw[aZ]; exact iB) (by rw[aZ,aZ]) (jL _ _ _) ?_
 have hend:=ig hB2 (by omega) hz2.out r.1
 have YD:RS2 x w.heap.size i n (w2.setRow (w.heap.size+1+1+1) (aO .i64 54 r.1)):=⟨(setRow_other _ _ _ _ (by omega)).trans hS2.1,(World.cell?_of_block (setRow_other _ _ _ _ (by show w.heap.size+1≠_; omega))).trans hS2.2.1,(World.cell?_of_block (setRow_other _ _ _ _ (by show w.heap.size+1+1≠_; omega))).trans hS2.2.2⟩
 refine hK _ _ ⟨YD,?_⟩
 clear hK K hz2 hB2 hS2
 generalize w2.setRow (w.heap.size+1+1+1) (aO .i64 54 r.1)=w3 at *
 refine wpAnyH_take (i:=10) (v := .int .i64 r.2) rfl (by kernel_rfl) (by kernel_rfl) (by kernel_rfl) (fun _ _ _ h=>h) (.inl ⟨by rfl,fun w' hw => ?_⟩) YD ?_
 ·clear hw
  go_simp
 refine wpAnyH_done (by kernel_rfl) ?_ _
 refine H8 _ _<|wp_ret ?_
 rw[hHR.out]
 exact rQ (p:=6) (q:=7) (by kernel_rfl) (by kernel_rfl) (by kernel_rfl) (by kernel_rfl) hend.1 hend.2
end
section
namespace Rt
def rT(x:Nat->Int)(i n:Int):Int:=if decide (C x (i.toNat-1)-F x (i.toNat-1)<n)then 12 else 0
def bF(x:Nat->Int)(i n:Int):(Nat->Int) × Int:=bR x n (fV i) (rT x i n) (12+(i.toNat-1))
end Rt
attribute [local irreducible] Oper.wp wpList Code.wp in
set_option maxRecDepth 100000 in
set_option maxHeartbeats 1000000 in
theorem Og(x:Nat->Int)(i n:Int)(g h hi:Nat)(w:World)(hn:1<=n/\n<=1125899906842624)(hib:1<=i/\i<=6)(hm:may x=true)(hx:Hid (w.heap[g]? = some (.cells (aO .i64 54 x) 59 (0,0))))(hc:w.cell? ⟨h,0,none⟩=some (.int .i64 n))(hci:w.cell? ⟨hi,0,none⟩=some (.int .i64 i)) :
 Calls Tryz.prog 192 #[.pointer (some ⟨h,0,none⟩),.pointer (some ⟨g,0,none⟩),.pointer (some ⟨hi,0,none⟩)] w fun e w'=>e = .returned (.int .i64 (rT x i n))/\Below w.heap.size w w':=by
 obtain⟨k,hk⟩:=Int.eq_ofNat_of_zero_le (show 0<=i-1 by omega)
 obtain rfl:i=(k:Int)+1:=by omega
 have hk6:k<6:=by omega
 have ho:=uV hm k hk6
 have h1:=ho.c
 have h2:=ho.f
 have h3:=ho.fc
 have c6:w.cell? ⟨g,6+k,none⟩=some (.int .i64 (C x k)):=fH hx.out (6+k) (by omega)
 have c12:w.cell? ⟨g,12+k,none⟩=some (.int .i64 (F x k)):=fH hx.out (12+k) (by omega)
 have HE:Hid (rT x ((k:Int)+1) n=if decide (C x k-F x k<n)then 12 else 0):=by
  unfold Hid rT
  rw[show((k:Int)+1).toNat-1=k by omega]
 clear ho hm hk
 generalize C x k=c at *
 generalize F x k=f at *
 have hlh:=block_lt_of_cell hc
 have Od:=block_lt_of_cell hci
 have Uo:g<w.heap.size:=(Array.getElem?_eq_some_iff.1 hx.out).1
 dsimp only at hlh Od
 have hB0:Below w.heap.size w w.drew:=iU w 1
 by_cases hd:c-f<n
 ·rw[decide_eq_true hd,if_pos rfl]at HE
  go_enter Tryz.func192,Tryz.ntmps192
  go_upto_region 1 with (fail)
  rename_i K0 H8
  refine wp_region_noPanic<|wp_region_held_drew (S:=Below w.heap.size w) (by kernel_rfl) hB0 fun hS => ?_
  refine wpAnyH_take (i:=0) (v := .int .i64 n) rfl (by kernel_rfl) (by kernel_rfl) (by kernel_rfl) (fun _ _ _ h=>h) (.inl ⟨by rfl,fun w' hw => ?_⟩) hS ?_
  ·have h2:=(hw.cell (p:=⟨h,0,none⟩) hlh).trans hc
   clear hw hc hci
   go_simp
  refine wpAnyH_take (i:=1) (v := .int .i64 ((k:Int)+1)) rfl (by kernel_rfl) (by kernel_rfl) (by kernel_rfl) (fun _ _ _ h=>h) (.inl ⟨by rfl,fun w' hw => ?_⟩) hS ?_
  ·have h2:=(hw.cell (p:=⟨hi,0,none⟩) Od).trans hci
   clear hw hc hci
   go_simp
  refine wpAnyH_take (i:=2) (v := .int .i64 (k:Int)) rfl (by kernel_rfl) (by kernel_rfl) (by kernel_rfl) (fun _ _ _ h=>h) (.inl ⟨by rfl,fun w' hw => ?_⟩) hS ?_
  ·clear hw hc hci
   go_simp
   exact IntWalk.i64_in _ (by omega)
  refine wpAnyH_take (i:=3) (v := .pointer (some ⟨g,6,none⟩)) rfl (by kernel_rfl) (by kernel_rfl) (by kernel_rfl) (fun _ _ _ h=>h) (.inl ⟨by rfl,fun w' hw => ?_⟩) hS ?_
  ·clear hw hc hci
   go_simp
  refine wpAnyH_take (i:=4) (v := .pointer (some ⟨g,6+k,none⟩)) rfl (by kernel_rfl) (by kernel_rfl) (by kernel_rfl) (fun _ _ _ h=>h) (.inl ⟨by rfl,fun w' hw => ?_⟩) hS ?_
  ·have hk7:(k:Int)<6:=by omega
   clear hw hc hci
   go_simp
  refine wpAnyH_take (i:=5) (v := .int .i64 c) rfl (by kernel_rfl) (by kernel_rfl) (by kernel_rfl) (fun _ _ _ h=>h) (.inl ⟨by rfl,fun w' hw => ?_⟩) hS ?_
  ·have h2:=(hw.cell (p:=⟨g,6+k,none⟩) Uo).trans c6
   clear hw hc hci
   go_simp
  refine wpAnyH_take (i:=6) (v := .int .i64 ((k:Int)+1)) rfl (by kernel_rfl) (by kernel_rfl) (by kernel_rfl) (fun _ _ _ h=>h) (.inl ⟨by rfl,fun w' hw => ?_⟩) hS ?_
  ·have h2:=(hw.cell (p:=⟨hi,0,none⟩) Od).trans hci
   clear hw hc hci
   go_simp
  refine wpAnyH_take (i:=7) (v := .int .i64 (k:Int)) rfl (by kernel_rfl) (by kernel_rfl) (by kernel_rfl) (fun _ _ _ h=>h) (.inl ⟨by rfl,fun w' hw => ?_⟩) hS ?_
  ·clear hw hc hci
   go_simp
   exact IntWalk.i64_in _ (by omega)
  refine wpAnyH_take (i:=8) (v := .pointer (some ⟨g,12,none⟩)) rfl (by kernel_rfl) (by kernel_rfl) (by kernel_rfl) (fun _ _ _ h=>h) (.inl ⟨by rfl,fun w' hw => ?_⟩) hS ?_
  ·clear hw hc hci
   go_simp
  refine wpAnyH_take (i:=9) (v := .pointer (some ⟨g,12+k,none⟩)) rfl (by kernel_rfl) (by kernel_rfl) (by kernel_rfl) (fun _ _ _ h=>h) (.inl ⟨by rfl,fun w' hw => ?_⟩) hS ?_
  ·have hk7:(k:Int)<6:=by omega
   clear hw hc hci
   go_simp
  refine wpAnyH_take (i:=10) (v := .int .i64 f) rfl (by kernel_rfl) (by kernel_rfl) (by kernel_rfl) (fun _ _ _ h=>h) (.inl ⟨by rfl,fun w' hw => ?_⟩) hS ?_
  ·have h2:=(hw.cell (p:=⟨g,12+k,none⟩) Uo).trans c12
   clear hw hc hci
   go_simp
  refine wpAnyH_take (i:=11) (v := .int .i64 (c-f)) rfl (by kernel_rfl) (by kernel_rfl) (by kernel_rfl) (fun _ _ _ h=>h) (.inl ⟨by rfl,fun w' hw => ?_⟩) hS ?_
  ·clear hw hc hci
   go_simp
   exact IntWalk.i64_in _ (by omega)
  refine wpAnyH_take (i:=12) (v := .bool true) rfl (by kernel_rfl) (by kernel_rfl) (by kernel_rfl) (fun _ _ _ h=>h) (.inl ⟨by rfl,fun w' hw => ?_⟩) hS ?_
  ·clear hw hc hci
   go_simp
  refine wpAnyH_all (rs := [13]) (by kernel_rfl) (by decide) ?_
  intro j hj
  obtain rfl:j=13:=by simpa using hj
  refine wpOp_step rfl<|fun K hK => ?_
  clear hj
  go_simp
  refine(tT _ _ _).mono ?_
  rintro e w2 ⟨rfl,rfl⟩
  refine hK _ _ ⟨hS,?_⟩
  clear hK K
  refine wpAnyH_take (i:=14) (v := .int .i64 12) rfl (by kernel_rfl) (by kernel_rfl) (by kernel_rfl) (fun _ _ _ h=>h) (.inl ⟨by rfl,fun w' hw => ?_⟩) hS ?_
  ·clear hw hc hci
   go_simp
  refine wpAnyH_done (by kernel_rfl) ?_ _
  refine H8 _ _ ?_
  go_wp2
  go_ret
  rw[HE.out]
  exact⟨rfl,hS⟩
 rw[decide_eq_false hd,if_neg (by decide)]at HE
 go_enter Tryz.func192,Tryz.ntmps192
 go_upto_region 1 with (fail)
 rename_i K0 H8
 refine wp_region_noPanic<|wp_region_held_drew (S:=Below w.heap.size w) (by kernel_rfl) hB0 fun hS => ?_
 refine wpAnyH_take (i:=0) (v := .int .i64 n) rfl (by kernel_rfl) (by kernel_rfl) (by kernel_rfl) (fun _ _ _ h=>h) (.inl ⟨by rfl,fun w' hw => ?_⟩) hS ?_
 ·have h2:=(hw.cell (p:=⟨h,0,none⟩) hlh).trans hc
  clear hw hc hci
  go_simp
 refine wpAnyH_take (i:=1) (v := .int .i64 ((k:Int)+1)) rfl (by kernel_rfl) (by kernel_rfl) (by kernel_rfl) (fun _ _ _ h=>h) (.inl ⟨by rfl,fun w' hw => ?_⟩) hS ?_
 ·have h2:=(hw.cell (p:=⟨hi,0,none⟩) Od).trans hci
  clear hw hc hci
  go_simp
 refine wpAnyH_take (i:=2) (v := .int .i64 (k:Int)) rfl (by kernel_rfl) (by kernel_rfl) (by kernel_rfl) (fun _ _ _ h=>h) (.inl ⟨by rfl,fun w' hw => ?_⟩) hS ?_
 ·clear hw hc hci
  go_simp
  exact IntWalk.i64_in _ (by omega)
 refine wpAnyH_take (i:=3) (v := .pointer (some ⟨g,6,none⟩)) rfl (by kernel_rfl) (by kernel_rfl) (by kernel_rfl) (fun _ _ _ h=>h) (.inl ⟨by rfl,fun w' hw => ?_⟩) hS ?_
 ·clear hw hc hci
  go_simp
 refine wpAnyH_take (i:=4) (v := .pointer (some ⟨g,6+k,none⟩)) rfl (by kernel_rfl) (by kernel_rfl) (by kernel_rfl) (fun _ _ _ h=>h) (.inl ⟨by rfl,fun w' hw => ?_⟩) hS ?_
 ·have hk7:(k:Int)<6:=by omega
  clear hw hc hci
  go_simp
 refine wpAnyH_take (i:=5) (v := .int .i64 c) rfl (by kernel_rfl) (by kernel_rfl) (by kernel_rfl) (fun _ _ _ h=>h) (.inl ⟨by rfl,fun w' hw => ?_⟩) hS ?_
 ·have h2:=(hw.cell (p:=⟨g,6+k,none⟩) Uo).trans c6
  clear hw hc hci
  go_simp
 refine wpAnyH_take (i:=6) (v := .int .i64 ((k:Int)+1)) rfl (by kernel_rfl) (by kernel_rfl) (by kernel_rfl) (fun _ _ _ h=>h) (.inl ⟨by rfl,fun w' hw => ?_⟩) hS ?_
 ·have h2:=(hw.cell (p:=⟨hi,0,none⟩) Od).trans hci
  clear hw hc hci
  go_simp
 refine wpAnyH_take (i:=7) (v := .int .i64 (k:Int)) rfl (by kernel_rfl) (by kernel_rfl) (by kernel_rfl) (fun _ _ _ h=>h) (.inl ⟨by rfl,fun w' hw => ?_⟩) hS ?_
 ·clear hw hc hci
  go_simp
  exact IntWalk.i64_in _ (by omega)
 refine wpAnyH_take (i:=8) (v := .pointer (some ⟨g,12,none⟩)) rfl (by kernel_rfl) (by kernel_rfl) (by kernel_rfl) (fun _ _ _ h=>h) (.inl ⟨by rfl,fun w' hw => ?_⟩) hS ?_
 ·clear hw hc hci
  go_simp
 refine wpAnyH_take (i:=9) (v := .pointer (some ⟨g,12+k,none⟩)) rfl (by kernel_rfl) (by kernel_rfl) (by kernel_rfl) (fun _ _ _ h=>h) (.inl ⟨by rfl,fun w' hw => ?_⟩) hS ?_
 ·have hk7:(k:Int)<6:=by omega
  clear hw hc hci
  go_simp
 refine wpAnyH_take (i:=10) (v := .int .i64 f) rfl (by kernel_rfl) (by kernel_rfl) (by kernel_rfl) (fun _ _ _ h=>h) (.inl ⟨by rfl,fun w' hw => ?_⟩) hS ?_
 ·have h2:=(hw.cell (p:=⟨g,12+k,none⟩) Uo).trans c12
  clear hw hc hci
  go_simp
 refine wpAnyH_take (i:=11) (v := .int .i64 (c-f)) rfl (by kernel_rfl) (by kernel_rfl) (by kernel_rfl) (fun _ _ _ h=>h) (.inl ⟨by rfl,fun w' hw => ?_⟩) hS ?_
 ·clear hw hc hci
  go_simp
  exact IntWalk.i64_in _ (by omega)
 refine wpAnyH_take (i:=12) (v := .bool false) rfl (by kernel_rfl) (by kernel_rfl) (by kernel_rfl) (fun _ _ _ h=>h) (.inl ⟨by rfl,fun w' hw => ?_⟩) hS ?_
 ·clear hw hc hci
  go_simp
 refine wpAnyH_all (rs := [13]) (by kernel_rfl) (by decide) ?_
 intro j hj
 obtain rfl:j=13:=by simpa using hj
 refine wpOp_step rfl<|fun K hK => ?_
 clear hj
 go_simp
 refine(tT _ _ _).mono ?_
 rintro e w2 ⟨rfl,rfl⟩
 refine hK _ _ ⟨hS,?_⟩
 clear hK K
 refine wpAnyH_take (i:=14) (v := .int .i64 0) rfl (by kernel_rfl) (by kernel_rfl) (by kernel_rfl) (fun _ _ _ h=>h) (.inl ⟨by rfl,fun w' hw => ?_⟩) hS ?_
 ·clear hw hc hci
  go_simp
 refine wpAnyH_done (by kernel_rfl) ?_ _
 refine H8 _ _ ?_
 go_wp2
 go_ret
 rw[HE.out]
 exact⟨rfl,hS⟩
attribute [local irreducible] Oper.wp wpList Code.wp
set_option maxHeartbeats 400000 in
theorem Oh(g h:Nat)(i:Int)(w:World)(hi:1<=i/\i<=6)(hc:w.cell? ⟨h,0,none⟩=some (.int .i64 i)) :
 Calls Tryz.prog 193 #[.pointer (some ⟨g,0,none⟩),.pointer (some ⟨h,0,none⟩)] w fun e w'=>e = .returned (.pointer (some ⟨g,12+(i.toNat-1),none⟩))/\Below w.heap.size w w':=by
 obtain⟨k,hk⟩:=Int.eq_ofNat_of_zero_le (show 0<=i-1 by omega)
 obtain rfl:i=(k:Int)+1:=by omega
 have hk6:(k:Int)<6:=by omega
 have HE:Hid (((k:Int)+1).toNat-1=k):=by unfold Hid; omega
 clear hk
 go_enter Tryz.func193,Tryz.ntmps193
 go_wp2_with fail
 go_quiet (fail)
 go_wp2
 go_ret
 rw[HE.out]
 exact⟨rfl,bN (Below.refl _ _) _⟩
theorem Rj(args:Array Value)(w:World):(callFunc 192 args).run Tryz.prog w = .ok (.enter 192 args) w:=jy Tryz.func192 rfl rfl args w
theorem Rl(args:Array Value)(w:World):(callFunc 193 args).run Tryz.prog w = .ok (.enter 193 args) w:=jy Tryz.func193 rfl rfl args w
set_option maxRecDepth 100000 in
set_option maxHeartbeats 1000000 in
theorem Rm(x:Nat->Int)(i n:Int)(w:World)(hi : -9223372036854775808<=i/\i<=9223372036854775807) :
 Calls Tryz.prog 179 #[.agg (aO .i64 54 x),.int .i64 i,.int .i64 n] w (MG (bF x i n) w):=by
 have hmf : ∀(fn:Fn) (first cap:Array Value) (w:World),(Instr.makeFunc fn first cap).run Tryz.prog w = .ok (.func fn first cap) w:=fun _ _ _ _=>rfl
 go_enter Tryz.func179,Tryz.ntmps179
 go_upto_region 1 with (fail)
 rename_i K0 H8
 rw[<- nU]
 have ha:=Pm w (.cells (aO .i64 54 x) 59) (.cells #[.int .i64 i] 3) (.cells #[.int .i64 n] 2) (.cells (aO .i64 54 zero) 59)
 generalize (((w.alloc (.cells (aO .i64 54 x) 59)).alloc (.cells #[.int .i64 i] 3)).alloc (.cells #[.int .i64 n] 2)).alloc (.cells (aO .i64 54 zero) 59)=W at *
 obtain⟨hx,hI,hN,hz,hs,hB⟩:=ha
 have cI:=qj hI
 have cN:=qj hN
 have Hx:Hid _:=hx
 have Hz:Hid _:=hz
 have HI:Hid _:=hI
 have HN:Hid _:=hN
 have Hs:Hid _:=hs
 clear hx hz hI hN hs
 refine wp_region_noPanic<|wp_region_held_drew (S:=RS2 x w.heap.size i n) (by kernel_rfl) ⟨Hx.out,cI,cN⟩ fun hS => ?_
 refine wpAnyH_take (i:=0) (v := .agg (aO .i64 54 x)) rfl (by kernel_rfl) (by kernel_rfl) (by kernel_rfl) (fun _ _ _ h=>h) (.inl ⟨by rfl,fun w' hw => ?_⟩) hS ?_
 ·exact iK 59 (.tmp 3) (by rfl) w.heap.size (by rfl) 59 (aO .i64 54 x) (0,0) _ hw.1 Tryz.underlying59 (by rfl) (by rw[aZ]; exact iB)
 refine wpAnyH_take (i:=1) (v := .int .i64 n) rfl (by kernel_rfl) (by kernel_rfl) (by kernel_rfl) (fun _ _ _ h=>h) (.inl ⟨by rfl,fun w' hw => ?_⟩) hS ?_
 ·have h2:=hw.2.2
  go_simp
 refine wpAnyH_take (i:=2) (v := .int .i64 i) rfl (by kernel_rfl) (by kernel_rfl) (by kernel_rfl) (fun _ _ _ h=>h) (.inl ⟨by rfl,fun w' hw => ?_⟩) hS ?_
 ·have h2:=hw.2.1
  have h3:=hw.2.2
  clear hw
  go_simp
 refine wpAnyH_take (i:=4) (v := .func (.func 192) #[] #[.pointer (some ⟨w.heap.size+1+1,0,none⟩),.pointer (some ⟨w.heap.size,0,none⟩),.pointer (some ⟨w.heap.size+1,0,none⟩)]) rfl (by kernel_rfl) (by kernel_rfl) (by kernel_rfl) (fun _ _ _ h=>h) (.inl ⟨by rfl,fun w' hw => ?_⟩) hS ?_
 ·have h2:=hw.2.1
  have h3:=hw.2.2
  clear hw
  go_simp
 refine wpAnyH_take (i:=5) (v := .func (.func 193) #[] #[.pointer (some ⟨w.heap.size+1,0,none⟩)]) rfl (by kernel_rfl) (by kernel_rfl) (by kernel_rfl) (fun _ _ _ h=>h) (.inl ⟨by rfl,fun w' hw => ?_⟩) hS ?_
 ·have h2:=hw.2.1
  have h3:=hw.2.2
  clear hw
  go_simp
 refine wpAnyH_all (rs := [3]) (by kernel_rfl) (by decide) ?_
 intro j hj
 obtain rfl:j=3:=by simpa using hj
 refine wpOp_step rfl<|fun K hK => ?_
 clear hj
 go_simp
 refine(qA i _ hi).mono ?_
 rintro e w' ⟨rfl,rfl⟩
 refine hK _ _ ⟨hS,?_⟩
 clear hK K
 refine wpAnyH_all (rs := [6]) (by kernel_rfl) (by decide) ?_
 intro j hj
 obtain rfl:j=6:=by simpa using hj
 refine wpOp_step rfl<|fun K hK => ?_
 clear hj
 go_simp
 have hlx:w.heap.size<W.drew.heap.size:=(Array.getElem?_eq_some_iff.1 hS.1).1
 have U6:=block_lt_of_cell hS.2.1
 have Zz:=block_lt_of_cell hS.2.2
 dsimp only at U6 Zz
 refine(uX x n (fV i) 192 193 _ _ (rT x i n) (12+(i.toNat-1)) W.drew ?o1 ?o2 Rj Rl ?o3 ?o4).mono ?_
 case o1=>intro h; have:=(mI i).1 h; omega
 case o2=>intro h hm; have:=(mI i).1 h; exact(uV hm (i.toNat-1) (by omega)).f
 case o3 =>
  intro hm h1 h2 h3 w' hb
  exact Og x i n _ _ _ w' ⟨h1,h2⟩ ((mI i).1 h3) hm ((hb.block _ hlx).trans hS.1) ((hb.cell (p:=⟨w.heap.size+1+1,0,none⟩) Zz).trans hS.2.2) ((hb.cell (p:=⟨w.heap.size+1,0,none⟩) U6).trans hS.2.1)
 case o4 =>
  intro h w' g hb
  exact Oh g _ i w' ((mI i).1 h) ((hb.cell (p:=⟨w.heap.size+1,0,none⟩) U6).trans hS.2.1)
 rintro e w2 ⟨rfl,hb2⟩
 have hHR:Hid (bF x i n=bR x n (fV i) (rT x i n) (12+(i.toNat-1))):=rfl
 generalize bR x n (fV i) (rT x i n) (12+(i.toNat-1))=r at *
 have hS2:RS2 x w.heap.size i n w2:=⟨(hb2.block _ hlx).trans hS.1,(hb2.cell (p:=⟨w.heap.size+1,0,none⟩) U6).trans hS.2.1,(hb2.cell (p:=⟨w.heap.size+1+1,0,none⟩) Zz).trans hS.2.2⟩
 have hz2:Hid (w2.heap[w.heap.size+1+1+1]? = some (.cells (aO .i64 54 zero) 59 (0,0))):=(hb2.block _ (by show _<W.heap.size; have:=Hs.out; omega)).trans Hz.out
 have hB2:Below w.heap.size w w2:=hB.trans ((bdr hb2).mono hB.size)
 refine hK _ _ ⟨hS2,?_⟩
 clear hK K hS hb2
 refine wpAnyH_take (i:=7) (v := .agg (aO .i64 54 r.1)) rfl (by kernel_rfl) (by kernel_rfl) (by kernel_rfl) (fun _ _ _ h=>h) (.inl ⟨by rfl,fun w' hw => ?_⟩) hS2 ?_
 ·clear hw
  go_simp
 refine wpAnyH_take (i:=8) (v := .int .i64 r.2) rfl (by kernel_rfl) (by kernel_rfl) (by kernel_rfl) (fun _ _ _ h=>h) (.inl ⟨by rfl,fun w' hw => ?_⟩) hS2 ?_
 ·clear hw
  go_simp
 refine wpAnyH_all (rs := [9]) (by kernel_rfl) (by decide) ?_
 intro j hj
 obtain rfl:j=9:=by simpa using hj
 clear hj
 refine uG (by rfl) (by rfl)<|fun K hK => ?_
 refine wp_store_row 59 (.tmp 6) (.tmp 15) (by rfl) (w.heap.size+1+1+1) (aO .i64 54 r.1) (by rfl) (by rfl) 59 (aO .i64 54 zero) hz2.out (by rw[aZ]; exact iB) (by rw[aZ,aZ]) (jL _ _ _) ?_
 have hend:=ig hB2 (by omega) hz2.out r.1
 have YD:RS2 x w.heap.size i n (w2.setRow (w.heap.size+1+1+1) (aO .i64 54 r.1)):=⟨(setRow_other _ _ _ _ (by omega)).trans hS2.1,(World.cell?_of_block (setRow_other _ _ _ _ (by show w.heap.size+1≠_; omega))).trans hS2.2.1,(World.cell?_of_block (setRow_other _ _ _ _ (by show w.heap.size+1+1≠_; omega))).trans hS2.2.2⟩
 refine hK _ _ ⟨YD,?_⟩
 clear hK K hz2 hB2 hS2
 generalize w2.setRow (w.heap.size+1+1+1) (aO .i64 54 r.1)=w3 at *
 refine wpAnyH_take (i:=10) (v := .int .i64 r.2) rfl (by kernel_rfl) (by kernel_rfl) (by kernel_rfl) (fun _ _ _ h=>h) (.inl ⟨by rfl,fun w' hw => ?_⟩) YD ?_
 ·clear hw
  go_simp
 refine wpAnyH_done (by kernel_rfl) ?_ _
 refine H8 _ _<|wp_ret ?_
 rw[hHR.out]
 exact rQ (p:=6) (q:=7) (by kernel_rfl) (by kernel_rfl) (by kernel_rfl) (by kernel_rfl) hend.1 hend.2
end
namespace Rt
def ni(x:Nat->Int)(i j n:Int):Int:=if i=j then 1 else if decide (dV x i<n)then 11 else 0
def jO(i j:Int):Nat:=18+(i.toNat-1)*6+(j.toNat-1)
def cK(x:Nat->Int)(i j n:Int):(Nat->Int) × Int:=bR x n (fV i&&fV j) (ni x i j n) (jO i j)
end Rt
attribute [local irreducible] Oper.wp wpList Code.wp in
set_option maxRecDepth 100000 in
set_option maxHeartbeats 1000000 in
theorem FE(x:Nat->Int)(i j0 n:Int)(g h hi hj:Nat)(w:World)(hn:1<=n/\n<=1125899906842624)(hib : -9223372036854775808<=i/\i<=9223372036854775807)(hjb : -9223372036854775808<=j0/\j0<=9223372036854775807)(hx:Hid (w.heap[g]? = some (.cells (aO .i64 54 x) 59 (0,0))))(hc:w.cell? ⟨h,0,none⟩=some (.int .i64 n))(hci:w.cell? ⟨hi,0,none⟩=some (.int .i64 i))(hcj:w.cell? ⟨hj,0,none⟩=some (.int .i64 j0)) :
 Calls Tryz.prog 194 #[.pointer (some ⟨hi,0,none⟩),.pointer (some ⟨hj,0,none⟩),.pointer (some ⟨h,0,none⟩),.pointer (some ⟨g,0,none⟩)] w fun e w'=>e = .returned (.int .i64 (ni x i j0 n))/\Below w.heap.size w w':=by
 have HE:Hid (ni x i j0 n=if i=j0 then 1 else if decide (dV x i<n)then 11 else 0):=rfl
 have hb:=FD x i
 have hlh:=block_lt_of_cell hc
 have Od:=block_lt_of_cell hci
 have Uo:g<w.heap.size:=(Array.getElem?_eq_some_iff.1 hx.out).1
 dsimp only at hlh Od
 have hB0:Below w.heap.size w w.drew:=iU w 1
 have hs:Hid (∀ w',Calls Tryz.prog 48 #[.agg (aO .i64 54 x),.int .i64 i] w' fun e w''=>e = .returned (.int .i64 (dV x i))/\Below w'.heap.size w' w''):=fun w'=>uW x i w' hib
 generalize dV x i=s1 at *
 by_cases he:i=j0
 ·rw[if_pos he]at HE
  subst he
  go_enter Tryz.func194,Tryz.ntmps194
  go_wp2
  go_ret
  rw[HE.out]
  exact⟨rfl,Below.refl _ _⟩
 rw[if_neg he]at HE
 have hne:(i==j0)=false:=by simpa using he
 clear he
 by_cases hd:s1<n
 ·rw[decide_eq_true hd,if_pos rfl]at HE
  go_enter Tryz.func194,Tryz.ntmps194
  go_upto_region 3 with (fail)
  rename_i K0 H8
  refine wp_region_noPanic<|wp_region_held_drew (S:=Below w.heap.size w) (by kernel_rfl) hB0 fun hS => ?_
  refine wpAnyH_take (i:=0) (v := .int .i64 n) rfl (by kernel_rfl) (by kernel_rfl) (by kernel_rfl) (fun _ _ _ h=>h) (.inl ⟨by rfl,fun w' hw => ?_⟩) hS ?_
  ·have h2:=(hw.cell (p:=⟨h,0,none⟩) hlh).trans hc
   clear hw hc hci
   go_simp
  refine wpAnyH_take (i:=1) (v := .agg (aO .i64 54 x)) rfl (by kernel_rfl) (by kernel_rfl) (by kernel_rfl) (fun _ _ _ h=>h) (.inl ⟨by rfl,fun w' hw => ?_⟩) hS ?_
  ·exact iK 59 (.tmp 3) (by rfl) g (by rfl) 59 (aO .i64 54 x) (0,0) _ ((hw.block _ Uo).trans hx.out) Tryz.underlying59 (by rfl) (by rw[aZ]; exact iB)
  refine wpAnyH_take (i:=2) (v := .int .i64 i) rfl (by kernel_rfl) (by kernel_rfl) (by kernel_rfl) (fun _ _ _ h=>h) (.inl ⟨by rfl,fun w' hw => ?_⟩) hS ?_
  ·have h2:=(hw.cell (p:=⟨hi,0,none⟩) Od).trans hci
   clear hw hc hci
   go_simp
  refine wpAnyH_all (rs := [3]) (by kernel_rfl) (by decide) ?_
  intro j hj
  obtain rfl:j=3:=by simpa using hj
  refine wpOp_step rfl<|fun K hK => ?_
  clear hj
  go_simp
  refine(hs.out _).mono ?_
  rintro e w1 ⟨rfl,hb1⟩
  have hS:=HZ hS hb1
  refine hK _ _ ⟨hS,?_⟩
  clear hK K
  refine wpAnyH_take (i:=4) (v := .bool true) rfl (by kernel_rfl) (by kernel_rfl) (by kernel_rfl) (fun _ _ _ h=>h) (.inl ⟨by rfl,fun w' hw => ?_⟩) hS ?_
  ·clear hw hc hci
   go_simp
  refine wpAnyH_all (rs := [5]) (by kernel_rfl) (by decide) ?_
  intro j hj
  obtain rfl:j=5:=by simpa using hj
  refine wpOp_step rfl<|fun K hK => ?_
  clear hj
  go_simp
  refine(tT _ _ _).mono ?_
  rintro e w2 ⟨rfl,rfl⟩
  refine hK _ _ ⟨hS,?_⟩
  clear hK K
  refine wpAnyH_take (i:=6) (v := .int .i64 11) rfl (by kernel_rfl) (by kernel_rfl) (by kernel_rfl) (fun _ _ _ h=>h) (.inl ⟨by rfl,fun w' hw => ?_⟩) hS ?_
  ·clear hw hc hci
   go_simp
  refine wpAnyH_done (by kernel_rfl) ?_ _
  refine H8 _ _ ?_
  go_wp2
  go_ret
  rw[HE.out]
  exact⟨rfl,hS⟩
 rw[decide_eq_false hd,if_neg (by decide)]at HE
 go_enter Tryz.func194,Tryz.ntmps194
 go_upto_region 3 with (fail)
 rename_i K0 H8
 refine wp_region_noPanic<|wp_region_held_drew (S:=Below w.heap.size w) (by kernel_rfl) hB0 fun hS => ?_
 refine wpAnyH_take (i:=0) (v := .int .i64 n) rfl (by kernel_rfl) (by kernel_rfl) (by kernel_rfl) (fun _ _ _ h=>h) (.inl ⟨by rfl,fun w' hw => ?_⟩) hS ?_
 ·have h2:=(hw.cell (p:=⟨h,0,none⟩) hlh).trans hc
  clear hw hc hci
  go_simp
 refine wpAnyH_take (i:=1) (v := .agg (aO .i64 54 x)) rfl (by kernel_rfl) (by kernel_rfl) (by kernel_rfl) (fun _ _ _ h=>h) (.inl ⟨by rfl,fun w' hw => ?_⟩) hS ?_
 ·exact iK 59 (.tmp 3) (by rfl) g (by rfl) 59 (aO .i64 54 x) (0,0) _ ((hw.block _ Uo).trans hx.out) Tryz.underlying59 (by rfl) (by rw[aZ]; exact iB)
 refine wpAnyH_take (i:=2) (v := .int .i64 i) rfl (by kernel_rfl) (by kernel_rfl) (by kernel_rfl) (fun _ _ _ h=>h) (.inl ⟨by rfl,fun w' hw => ?_⟩) hS ?_
 ·have h2:=(hw.cell (p:=⟨hi,0,none⟩) Od).trans hci
  clear hw hc hci
  go_simp
 refine wpAnyH_all (rs := [3]) (by kernel_rfl) (by decide) ?_
 intro j hj
 obtain rfl:j=3:=by simpa using hj
 refine wpOp_step rfl<|fun K hK => ?_
 clear hj
 go_simp
 refine(hs.out _).mono ?_
 rintro e w1 ⟨rfl,hb1⟩
 have hS:=HZ hS hb1
 refine hK _ _ ⟨hS,?_⟩
 clear hK K
 refine wpAnyH_take (i:=4) (v := .bool false) rfl (by kernel_rfl) (by kernel_rfl) (by kernel_rfl) (fun _ _ _ h=>h) (.inl ⟨by rfl,fun w' hw => ?_⟩) hS ?_
 ·clear hw hc hci
  go_simp
 refine wpAnyH_all (rs := [5]) (by kernel_rfl) (by decide) ?_
 intro j hj
 obtain rfl:j=5:=by simpa using hj
 refine wpOp_step rfl<|fun K hK => ?_
 clear hj
 go_simp
 refine(tT _ _ _).mono ?_
 rintro e w2 ⟨rfl,rfl⟩
 refine hK _ _ ⟨hS,?_⟩
 clear hK K
 refine wpAnyH_take (i:=6) (v := .int .i64 0) rfl (by kernel_rfl) (by kernel_rfl) (by kernel_rfl) (fun _ _ _ h=>h) (.inl ⟨by rfl,fun w' hw => ?_⟩) hS ?_
 ·clear hw hc hci
  go_simp
 refine wpAnyH_done (by kernel_rfl) ?_ _
 refine H8 _ _ ?_
 go_wp2
 go_ret
 rw[HE.out]
 exact⟨rfl,hS⟩
set_option maxHeartbeats 400000 in
theorem FH(g h1 h2:Nat)(i j:Int)(w:World)(hi:1<=i/\i<=6)(hj:1<=j/\j<=6)(hci:w.cell? ⟨h1,0,none⟩=some (.int .i64 i))(hcj:w.cell? ⟨h2,0,none⟩=some (.int .i64 j)) :
 Calls Tryz.prog 195 #[.pointer (some ⟨g,0,none⟩),.pointer (some ⟨h1,0,none⟩),.pointer (some ⟨h2,0,none⟩)] w fun e w'=>e = .returned (.pointer (some ⟨g,jO i j,none⟩))/\Below w.heap.size w w':=by
 obtain⟨k,hk⟩:=Int.eq_ofNat_of_zero_le (show 0<=i-1 by omega)
 obtain rfl:i=(k:Int)+1:=by omega
 obtain⟨l,hl⟩:=Int.eq_ofNat_of_zero_le (show 0<=j-1 by omega)
 obtain rfl:j=(l:Int)+1:=by omega
 have hk6:(k:Int)<6:=by omega
 have hl6:(l:Int)<6:=by omega
 have HE:Hid (jO ((k:Int)+1) ((l:Int)+1)=18+k*6+l):=by unfold Hid jO; omega
 clear hk hl
 go_enter Tryz.func195,Tryz.ntmps195
 go_wp2_with fail
 go_quiet (fail)
 go_wp2
 go_ret
 rw[HE.out]
 exact⟨rfl,bN (Below.refl _ _) _⟩
theorem I8(args:Array Value)(w:World):(callFunc 194 args).run Tryz.prog w = .ok (.enter 194 args) w:=jy Tryz.func194 rfl rfl args w
theorem I9(args:Array Value)(w:World):(callFunc 195 args).run Tryz.prog w = .ok (.enter 195 args) w:=jy Tryz.func195 rfl rfl args w
section
def Kh(x:Nat->Int)(g:Nat)(i j n:Int)(w':World):Prop:=w'.heap[g]? = some (.cells (aO .i64 54 x) 59 (0,0))/\w'.cell? ⟨g+1,0,none⟩=some (.int .i64 i)/\w'.cell? ⟨g+1+1,0,none⟩=some (.int .i64 j)/\w'.cell? ⟨g+1+1+1,0,none⟩=some (.int .i64 n)
theorem Kh.up{x:Nat->Int}{g:Nat}{i j n:Int}{w w':World}(h:Kh x g i j n w)(e:Below w.heap.size w w'):Kh x g i j n w':=by
 obtain⟨a,b,c,d⟩:=h
 exact⟨(e.block _ (Array.getElem?_eq_some_iff.1 a).1).trans a,(e.cell (p:=⟨g+1,0,none⟩) (block_lt_of_cell b)).trans b,(e.cell (p:=⟨g+1+1,0,none⟩) (block_lt_of_cell c)).trans c,(e.cell (p:=⟨g+1+1+1,0,none⟩) (block_lt_of_cell d)).trans d⟩
instance {x:Nat->Int} {g:Nat} {i j n:Int} {w w':World}:Rt.Tr w w' (Kh x g i j n w) (Kh x g i j n w'):=⟨fun b h=>h.up b⟩
theorem Kh.row{x:Nat->Int}{g:Nat}{i j n:Int}{w:World}(h:Kh x g i j n w)(cs:Array Value):Kh x g i j n (w.setRow (g+1+1+1+1) cs):=by
 obtain⟨a,b,c,d⟩:=h
 exact⟨(setRow_other _ _ _ _ (by omega)).trans a,(World.cell?_of_block (setRow_other _ _ _ _ (by show g+1≠_; omega))).trans b,(World.cell?_of_block (setRow_other _ _ _ _ (by show g+1+1≠_; omega))).trans c,(World.cell?_of_block (setRow_other _ _ _ _ (by show g+1+1+1≠_; omega))).trans d⟩
attribute [local irreducible] Oper.wp wpList Code.wp
set_option maxRecDepth 100000 in
set_option maxHeartbeats 2000000 in
theorem Ro(x:Nat->Int)(i j n:Int)(w:World)(hi : -9223372036854775808<=i/\i<=9223372036854775807)(hj0 : -9223372036854775808<=j/\j<=9223372036854775807) :
 Calls Tryz.prog 181 #[.agg (aO .i64 54 x),.int .i64 i,.int .i64 j,.int .i64 n] w (MG (cK x i j n) w):=by
 have HM:Hid (cK x i j n=bR x n (fV i&&fV j) (ni x i j n) (jO i j)):=rfl
 have hri:=mI i
 have hrj:=mI j
 have Rc:Hid (∀ w',Calls Tryz.prog 71 #[.int .i64 i] w' fun e w''=>e = .returned (.bool (fV i))/\w''=w'):=fun w'=>qA i w' hi
 have adu:Hid (∀ w',Calls Tryz.prog 71 #[.int .i64 j] w' fun e w''=>e = .returned (.bool (fV j))/\w''=w'):=fun w'=>qA j w' hj0
 generalize fV i=bi at *
 generalize fV j=bj at *
 have Hri:Hid _:=hri
 have Hrj:Hid _:=hrj
 clear hri hrj
 have hmf : ∀(fn:Fn) (first cap:Array Value) (w:World),(Instr.makeFunc fn first cap).run Tryz.prog w = .ok (.func fn first cap) w:=fun _ _ _ _=>rfl
 cases bi
 all_goals
  go_enter Tryz.func181,Tryz.ntmps181
  go_upto_region 1 with (fail)
  rename_i K0 H8
  rw[<- nU]
  have ha:=Yp w (.cells (aO .i64 54 x) 59) (.cells #[.int .i64 i] 3) (.cells #[.int .i64 j] 3) (.cells #[.int .i64 n] 2) (.cells (aO .i64 54 zero) 59)
  generalize ((((w.alloc (.cells (aO .i64 54 x) 59)).alloc (.cells #[.int .i64 i] 3)).alloc (.cells #[.int .i64 j] 3)).alloc (.cells #[.int .i64 n] 2)).alloc (.cells (aO .i64 54 zero) 59)=W at *
  obtain⟨hx,hI,hJ,hN,hz,hs,hB⟩:=ha
  have hS0:Kh x w.heap.size i j n W.drew:=⟨hx,qj (w:=W) hI,qj (w:=W) hJ,qj (w:=W) hN⟩
  have Hz:Hid _:=hz
  have Hs:Hid _:=hs
  clear hx hz hI hJ hN hs
  refine wp_region_noPanic<|wp_region_held_drew (S:=Kh x w.heap.size i j n) (by kernel_rfl) hS0 fun hS => ?_
  refine wpAnyH_take (i:=0) (v := .agg (aO .i64 54 x)) rfl (by kernel_rfl) (by kernel_rfl) (by kernel_rfl) (fun _ _ _ h=>h) (.inl ⟨by rfl,fun w' hw => ?_⟩) hS ?_
  ·exact iK 59 (.tmp 4) (by rfl) w.heap.size (by rfl) 59 (aO .i64 54 x) (0,0) _ hw.1 Tryz.underlying59 (by rfl) (by rw[aZ]; exact iB)
  refine wpAnyH_take (i:=1) (v := .int .i64 n) rfl (by kernel_rfl) (by kernel_rfl) (by kernel_rfl) (fun _ _ _ h=>h) (.inl ⟨by rfl,fun w' hw => ?_⟩) hS ?_
  ·have h2:=hw.2.2.2
   clear hw
   go_simp
  refine wpAnyH_take (i:=2) (v := .int .i64 i) rfl (by kernel_rfl) (by kernel_rfl) (by kernel_rfl) (fun _ _ _ h=>h) (.inl ⟨by rfl,fun w' hw => ?_⟩) hS ?_
  ·have h2:=hw.2.1
   clear hw
   go_simp
  refine wpAnyH_take (i:=8) (v := .func (.func 194) #[] #[.pointer (some ⟨w.heap.size+1,0,none⟩),.pointer (some ⟨w.heap.size+1+1,0,none⟩),.pointer (some ⟨w.heap.size+1+1+1,0,none⟩),.pointer (some ⟨w.heap.size,0,none⟩)]) rfl (by kernel_rfl) (by kernel_rfl) (by kernel_rfl) (fun _ _ _ h=>h) (.inl ⟨by rfl,fun w' hw => ?_⟩) hS ?_
  ·clear hw
   go_simp
  refine wpAnyH_take (i:=9) (v := .func (.func 195) #[] #[.pointer (some ⟨w.heap.size+1,0,none⟩),.pointer (some ⟨w.heap.size+1+1,0,none⟩)]) rfl (by kernel_rfl) (by kernel_rfl) (by kernel_rfl) (fun _ _ _ h=>h) (.inl ⟨by rfl,fun w' hw => ?_⟩) hS ?_
  ·clear hw
   go_simp
  refine wpAnyH_all (rs := [3]) (by kernel_rfl) (by decide) ?_
  intro j hj
  obtain rfl:j=3:=by simpa using hj
  refine wpOp_step rfl<|fun K hK => ?_
  clear hj
  go_simp
  refine(Rc.out _).mono ?_
  rintro e w' ⟨rfl,rfl⟩
  refine hK _ _ ⟨hS,?_⟩
  clear hK K
 ·have hoff:false=true->jO i j<54:=nofun
  have hcell:false=true->may x=true->0<=x (jO i j)/\x (jO i j)<=1125899906842624:=nofun
  have hbd:false=true->(1<=i/\i<=6)/\(1<=j/\j<=6):=nofun
  refine wpAnyH_take (i:=4) (v := .bool false) rfl (by kernel_rfl) (by kernel_rfl) (by kernel_rfl) (fun _ _ _ h=>h) (.inl ⟨by rfl,fun w' hw => ?_⟩) hS ?_
  ·clear hw
   go_simp
  refine wpAnyH_take (i:=5) (v:=undef) rfl (by kernel_rfl) (by kernel_rfl) (by kernel_rfl) (fun _ _ _ h=>h) (.inr ⟨by rfl,rfl⟩) hS ?_
  refine wpAnyH_take (i:=6) (v:=undef) rfl (by kernel_rfl) (by kernel_rfl) (by kernel_rfl) (fun _ _ _ h=>h) (.inr ⟨by rfl,rfl⟩) hS ?_
  refine wpAnyH_take (i:=7) (v := .bool false) rfl (by kernel_rfl) (by kernel_rfl) (by kernel_rfl) (fun _ _ _ h=>h) (.inl ⟨by rfl,fun w' hw => ?_⟩) hS ?_
  ·clear hw
   go_simp
  have HM:Hid (cK x i j n=bR x n false (ni x i j n) (jO i j)):=HM
  refine wpAnyH_all (rs := [10]) (by kernel_rfl) (by decide) ?_
  intro j hj
  obtain rfl:j=10:=by simpa using hj
  refine wpOp_step rfl<|fun K hK => ?_
  clear hj
  go_simp
  have hlz:w.heap.size+1+1+1+1<W.drew.heap.size:=by show _<W.heap.size; have:=Hs.out; omega
  refine(uX x n false 194 195 _ _ (ni x i j n) (jO i j) W.drew ?o1 ?o2 I8 I9 ?o3 ?o4).mono ?_
  case o1=>exact hoff
  case o2=>exact hcell
  case o3=>exact fun hm h1 h2 h3 w' hb=>have hq:=Kh.up hS hb; FE x i j n _ _ _ _ w' ⟨h1,h2⟩ hi hj0 hq.1 hq.2.2.2 hq.2.1 hq.2.2.1
  case o4=>exact fun h w' g hb=>have hq:=Kh.up hS hb; FH g _ _ i j w' (hbd h).1 (hbd h).2 hq.2.1 hq.2.2.1
  rintro e w2 ⟨rfl,hb2⟩
  generalize bR x n false (ni x i j n) (jO i j)=r at *
  have hz2:Hid (w2.heap[w.heap.size+1+1+1+1]? = some (.cells (aO .i64 54 zero) 59 (0,0))):=(hb2.block _ hlz).trans Hz.out
  have hB2:Below w.heap.size w w2:=hB.trans ((bdr hb2).mono hB.size)
  have hS:=Kh.up hS hb2
  refine hK _ _ ⟨hS,?_⟩
  clear hK K
  clear hb2
  refine wpAnyH_take (i:=11) (v := .agg (aO .i64 54 r.1)) rfl (by kernel_rfl) (by kernel_rfl) (by kernel_rfl) (fun _ _ _ h=>h) (.inl ⟨by rfl,fun w' hw => ?_⟩) hS ?_
  ·clear hw
   go_simp
  refine wpAnyH_take (i:=12) (v := .int .i64 r.2) rfl (by kernel_rfl) (by kernel_rfl) (by kernel_rfl) (fun _ _ _ h=>h) (.inl ⟨by rfl,fun w' hw => ?_⟩) hS ?_
  ·clear hw
   go_simp
  refine wpAnyH_all (rs := [13]) (by kernel_rfl) (by decide) ?_
  intro j' hj'
  obtain rfl:j'=13:=by simpa using hj'
  clear hj'
  refine uG (by rfl) (by rfl)<|fun K hK => ?_
  refine wp_store_row 59 (.tmp 8) (.tmp 21) (by rfl) (w.heap.size+1+1+1+1) (aO .i64 54 r.1) (by rfl) (by rfl) 59 (aO .i64 54 zero) hz2.out (by rw[aZ]; exact iB) (by rw[aZ,aZ]) (jL _ _ _) ?_
  have hend:=ig hB2 (by omega) hz2.out r.1
  have hS:=hS.row (aO .i64 54 r.1)
  refine hK _ _ ⟨hS,?_⟩
  clear hK K hz2 hB2
  generalize w2.setRow (w.heap.size+1+1+1+1) (aO .i64 54 r.1)=w3 at *
  refine wpAnyH_take (i:=14) (v := .int .i64 r.2) rfl (by kernel_rfl) (by kernel_rfl) (by kernel_rfl) (fun _ _ _ h=>h) (.inl ⟨by rfl,fun w' hw => ?_⟩) hS ?_
  ·clear hw
   go_simp
  refine wpAnyH_done (by kernel_rfl) ?_ _
  refine H8 _ _<|wp_ret ?_
  rw[HM.out]
  exact rQ (p:=8) (q:=9) (by kernel_rfl) (by kernel_rfl) (by kernel_rfl) (by kernel_rfl) hend.1 hend.2
 have hi6:=Hri.out.1 rfl
 have hbd:bj=true->(1<=i/\i<=6)/\(1<=j/\j<=6):=fun h=>⟨hi6,Hrj.out.1 h⟩
 have hoff:bj=true->jO i j<54:=fun h=>by have:=hbd h; unfold jO; omega
 have hcell:bj=true->may x=true->0<=x (jO i j)/\x (jO i j)<=1125899906842624:=fun h hm=>by
  have:=hbd h
  exact(uV hm (i.toNat-1) (by omega)).r (j.toNat-1) (by omega)
 refine wpAnyH_take (i:=4) (v := .bool true) rfl (by kernel_rfl) (by kernel_rfl) (by kernel_rfl) (fun _ _ _ h=>h) (.inl ⟨by rfl,fun w' hw => ?_⟩) hS ?_
 ·clear hw
  go_simp
 refine wpAnyH_take (i:=5) (v := .int .i64 j) rfl (by kernel_rfl) (by kernel_rfl) (by kernel_rfl) (fun _ _ _ h=>h) (.inl ⟨by rfl,fun w' hw => ?_⟩) hS ?_
 ·have h2:=hw.2.2.1
  clear hw
  go_simp
 refine wpAnyH_all (rs := [6]) (by kernel_rfl) (by decide) ?_
 intro j hj
 obtain rfl:j=6:=by simpa using hj
 refine wpOp_step rfl<|fun K hK => ?_
 clear hj
 go_simp
 refine(adu.out _).mono ?_
 rintro e w' ⟨rfl,rfl⟩
 refine hK _ _ ⟨hS,?_⟩
 clear hK K
 refine wpAnyH_take (i:=7) (v := .bool bj) rfl (by kernel_rfl) (by kernel_rfl) (by kernel_rfl) (fun _ _ _ h=>h) (.inl ⟨by rfl,fun w' hw => ?_⟩) hS ?_
 ·clear hw
  go_simp
 have HM:Hid (cK x i j n=bR x n bj (ni x i j n) (jO i j)):=HM
 refine wpAnyH_all (rs := [10]) (by kernel_rfl) (by decide) ?_
 intro j hj
 obtain rfl:j=10:=by simpa using hj
 refine wpOp_step rfl<|fun K hK => ?_
 clear hj
 go_simp
 have hlz:w.heap.size+1+1+1+1<W.drew.heap.size:=by show _<W.heap.size; have:=Hs.out; omega
 refine(uX x n bj 194 195 _ _ (ni x i j n) (jO i j) W.drew ?o1 ?o2 I8 I9 ?o3 ?o4).mono ?_
 case o1=>exact hoff
 case o2=>exact hcell
 case o3=>exact fun hm h1 h2 h3 w' hb=>have hq:=Kh.up hS hb; FE x i j n _ _ _ _ w' ⟨h1,h2⟩ hi hj0 hq.1 hq.2.2.2 hq.2.1 hq.2.2.1
 case o4=>exact fun h w' g hb=>have hq:=Kh.up hS hb; FH g _ _ i j w' (hbd h).1 (hbd h).2 hq.2.1 hq.2.2.1
 rintro e w2 ⟨rfl,hb2⟩
 generalize bR x n bj (ni x i j n) (jO i j)=r at *
 have hz2:Hid (w2.heap[w.heap.size+1+1+1+1]? = some (.cells (aO .i64 54 zero) 59 (0,0))):=(hb2.block _ hlz).trans Hz.out
 have hB2:Below w.heap.size w w2:=hB.trans ((bdr hb2).mono hB.size)
 have hS:=Kh.up hS hb2
 refine hK _ _ ⟨hS,?_⟩
 clear hK K
 clear hb2
 refine wpAnyH_take (i:=11) (v := .agg (aO .i64 54 r.1)) rfl (by kernel_rfl) (by kernel_rfl) (by kernel_rfl) (fun _ _ _ h=>h) (.inl ⟨by rfl,fun w' hw => ?_⟩) hS ?_
 ·clear hw
  go_simp
 refine wpAnyH_take (i:=12) (v := .int .i64 r.2) rfl (by kernel_rfl) (by kernel_rfl) (by kernel_rfl) (fun _ _ _ h=>h) (.inl ⟨by rfl,fun w' hw => ?_⟩) hS ?_
 ·clear hw
  go_simp
 refine wpAnyH_all (rs := [13]) (by kernel_rfl) (by decide) ?_
 intro j' hj'
 obtain rfl:j'=13:=by simpa using hj'
 clear hj'
 refine uG (by rfl) (by rfl)<|fun K hK => ?_
 refine wp_store_row 59 (.tmp 8) (.tmp 21) (by rfl) (w.heap.size+1+1+1+1) (aO .i64 54 r.1) (by rfl) (by rfl) 59 (aO .i64 54 zero) hz2.out (by rw[aZ]; exact iB) (by rw[aZ,aZ]) (jL _ _ _) ?_
 have hend:=ig hB2 (by omega) hz2.out r.1
 have hS:=hS.row (aO .i64 54 r.1)
 refine hK _ _ ⟨hS,?_⟩
 clear hK K hz2 hB2
 generalize w2.setRow (w.heap.size+1+1+1+1) (aO .i64 54 r.1)=w3 at *
 refine wpAnyH_take (i:=14) (v := .int .i64 r.2) rfl (by kernel_rfl) (by kernel_rfl) (by kernel_rfl) (fun _ _ _ h=>h) (.inl ⟨by rfl,fun w' hw => ?_⟩) hS ?_
 ·clear hw
  go_simp
 refine wpAnyH_done (by kernel_rfl) ?_ _
 refine H8 _ _<|wp_ret ?_
 rw[HM.out]
 exact rQ (p:=8) (q:=9) (by kernel_rfl) (by kernel_rfl) (by kernel_rfl) (by kernel_rfl) hend.1 hend.2
end
namespace Rt
def L(x:Nat->Int)(k:Nat):Int:=G x k+F x k+R x 0 k+R x 1 k+R x 2 k+R x 3 k+R x 4 k+R x 5 k-C x k-R x k 0-R x k 1-R x k 2-R x k 3-R x k 4-R x k 5
def Oi(x:Nat->Int):Prop := ∀ p,p<54->0<=x p/\x p<=1125899906842624
def All(x:Nat->Int):Prop := ∀ k,k<6->0<=L x k/\F x k<=C x k/\R x k k=0
def rz(x:Nat->Int):Int:=G x 0+G x 1+G x 2+G x 3+G x 4+G x 5
theorem CK{l:List Int}(h:kU l=true):lD l=(l.sum,true):=by unfold lD; rw[if_pos h]
theorem Oi.outs{x:Nat->Int}(h:Oi x)(k:Nat)(b:k<6):kU (outs x k 6)=true:=by
 have e:=fun j (hj:j<6)=>h (18+k*6+j) (by omega)
 have c:=h (6+k) (by omega)
 unfold kU
 rw[List.all_eq_true]
 intro n a
 have:n=x (6+k)\/n=x (18+k*6+0)\/n=x (18+k*6+1)\/n=x (18+k*6+2)\/n=x (18+k*6+3)\/n=x (18+k*6+4)\/n=x (18+k*6+5):=by
  simpa [Rt.outs,C,R,or_assoc] using a
 unfold yO
 rw[Bool.and_eq_true,decide_eq_true_eq,decide_eq_true_eq]
 rcases this with h|h|h|h|h|h|h <;> subst h
 ·exact c
 all_goals exact e _ (by omega)
theorem Oi.ins{x:Nat->Int}(h:Oi x)(k:Nat)(b:k<6):kU (ins x k 6)=true:=by
 have e:=fun j (hj:j<6)=>h (18+j*6+k) (by omega)
 have c:=h k (by omega)
 have f:=h (12+k) (by omega)
 unfold kU
 rw[List.all_eq_true]
 intro n a
 have:n=x k\/n=x (12+k)\/n=x (18+0*6+k)\/n=x (18+1*6+k)\/n=x (18+2*6+k)\/n=x (18+3*6+k)\/n=x (18+4*6+k)\/n=x (18+5*6+k):=by
  simpa [Rt.ins,G,F,R,or_assoc] using a
 unfold yO
 rw[Bool.and_eq_true,decide_eq_true_eq,decide_eq_true_eq]
 rcases this with h|h|h|h|h|h|h|h <;> subst h
 ·exact c
 ·exact f
 all_goals exact e _ (by omega)
theorem Rq(x:Nat->Int)(k:Nat):(Rt.outs x k 6).sum=C x k+R x k 0+R x k 1+R x k 2+R x k 3+R x k 4+R x k 5:=by simp[Rt.outs]; omega
theorem U7(x:Nat->Int)(k:Nat):(Rt.ins x k 6).sum=G x k+F x k+R x 0 k+R x 1 k+R x 2 k+R x 3 k+R x 4 k+R x 5 k:=by simp[Rt.ins]; omega
theorem xJ{x:Nat->Int}(h:Oi x)(k:Nat)(a:k<6):localM x k=(L x k,true):=by
 unfold localM
 rw[CK (h.outs k a),CK (h.ins k a),Rq,U7]
 unfold L
 refine Prod.ext ?_ rfl
 dsimp only
 omega
theorem ko{x:Nat->Int}(h:may x=true):Oi x:=by
 intro p e
 by_cases a:p<6
 ·exact(uV h p a).g
 by_cases b:p<12
 ·have:=(uV h (p-6) (by omega)).c
  unfold C at this; rwa [show 6+(p-6)=p by omega]at this
 by_cases d:p<18
 ·have:=(uV h (p-12) (by omega)).f
  unfold F at this; rwa [show 12+(p-12)=p by omega]at this
 have:=(uV h ((p-18) / 6) (by omega)).r ((p-18) % 6) (by omega)
 unfold R at this; rwa [show 18+(p-18) / 6*6+(p-18) % 6=p by omega]at this
theorem XZ{x:Nat->Int}(h:Oi x):kU (gs x)=true:=by
 unfold kU
 rw[List.all_eq_true]
 intro n a
 have:n=x 0\/n=x 1\/n=x 2\/n=x 3\/n=x 4\/n=x 5:=by simpa [gs,or_assoc] using a
 unfold yO
 rw[Bool.and_eq_true,decide_eq_true_eq,decide_eq_true_eq]
 rcases this with e|e|e|e|e|e <;> subst e <;> exact h _ (by omega)
theorem Ru(x:Nat->Int):(gs x).sum=rz x:=by simp[gs,rz,G]; omega
theorem jI(x:Nat->Int):may x=true<->Oi x/\All x/\rz x<=1125899906842624:=by
 constructor
 ·intro h
  have e:=ko h
  refine⟨e,fun k d => ?_,?_⟩
  ·have o:=uV h k d
   have:=o.l
   rw[xJ e k d]at this
   exact⟨this,o.fc,o.rkk⟩
  unfold may at h
  rw[Bool.and_eq_true,Bool.and_eq_true,CK (XZ e),Ru]at h
  simpa using h.2.2
 rintro ⟨e,g,i⟩
 have d : ∀ k,k<6->AX x k=true:=by
  intro k d
  obtain⟨a,b,c⟩:=g k d
  unfold AX
  rw[xJ e k d]
  simp only[Bool.and_eq_true,decide_eq_true_eq,beq_iff_eq]
  exact⟨⟨⟨trivial,a⟩,b⟩,c⟩
 have f : ∀ n,n<=6->Cj x n=true:=by
  intro n
  induction n with
  | zero=>intro _; rfl
  | succ n ih=>intro f; rw[show Cj x (n+1)=(Cj x n&&AX x n)from rfl,ih (by omega),d n (by omega)]; rfl
 unfold may
 rw[f 6 (by omega),CK (XZ e),Ru,decide_eq_true i]
 rfl
theorem mJ{x:Nat->Int}(h:may x=true)(k:Nat)(a:k<6):dV x ((k:Int)+1)=L x k:=by
 unfold dV
 rw[h,Bool.and_true,if_pos (by unfold fV; simp; omega),show((k:Int)+1).toNat-1=k by omega,xJ (ko h) k a]
def mK(x:Nat->Int):Int:=(C x 0-F x 0)+(C x 1-F x 1)+(C x 2-F x 2)+(C x 3-F x 3)+(C x 4-F x 4)+(C x 5-F x 5)
theorem vY(x:Nat->Int)(i j:Nat)(hi:i<6)(g:j<6)(d:Int)(a b:Nat)(ha:a<6)(f:b<6) :
 R (upd x (18+i*6+j) (x (18+i*6+j)+d)) a b=R x a b+(if a=i then if b=j then d else 0 else 0):=by
 unfold R upd
 by_cases c:a=i
 ·by_cases e:b=j
  ·subst c e; simp
  rw[if_neg (by omega),if_pos c,if_neg e]; omega
 rw[if_neg (by omega),if_neg c]; omega
theorem ZA(x:Nat->Int)(i j:Nat)(hi:i<6)(a:j<6)(d:Int)(k:Nat)(b:k<6) :
 L (upd x (18+i*6+j) (x (18+i*6+j)+d)) k=L x k+(if k=j then d else 0)-(if k=i then d else 0):=by
 have l:G (upd x (18+i*6+j) (x (18+i*6+j)+d)) k=G x k:=fM _ _ _ _ (by omega)
 have f:C (upd x (18+i*6+j) (x (18+i*6+j)+d)) k=C x k:=fM _ _ _ _ (by omega)
 have g:F (upd x (18+i*6+j) (x (18+i*6+j)+d)) k=F x k:=fM _ _ _ _ (by omega)
 unfold L
 rw[l,f,g,vY x i j hi a d 0 k (by omega) b,vY x i j hi a d 1 k (by omega) b,vY x i j hi a d 2 k (by omega) b,vY x i j hi a d 3 k (by omega) b,vY x i j hi a d 4 k (by omega) b,vY x i j hi a d 5 k (by omega) b,
  vY x i j hi a d k 0 b (by omega),vY x i j hi a d k 1 b (by omega),vY x i j hi a d k 2 b (by omega),vY x i j hi a d k 3 b (by omega),vY x i j hi a d k 4 b (by omega),vY x i j hi a d k 5 b (by omega)]
 have c:(if 0=i then if k=j then d else 0 else 0)+(if 1=i then if k=j then d else 0 else 0)+(if 2=i then if k=j then d else 0 else 0)+(if 3=i then if k=j then d else 0 else 0)+(if 4=i then if k=j then d else 0 else 0)+(if 5=i then if k=j then d else 0 else 0)=(if k=j then d else 0):=by
  have:i=0\/i=1\/i=2\/i=3\/i=4\/i=5:=by omega
  rcases this with h|h|h|h|h|h <;> subst h <;> simp
 have e:(if k=i then if 0=j then d else 0 else 0)+(if k=i then if 1=j then d else 0 else 0)+(if k=i then if 2=j then d else 0 else 0)+(if k=i then if 3=j then d else 0 else 0)+(if k=i then if 4=j then d else 0 else 0)+(if k=i then if 5=j then d else 0 else 0)=(if k=i then d else 0):=by
  have:j=0\/j=1\/j=2\/j=3\/j=4\/j=5:=by omega
  rcases this with h|h|h|h|h|h <;> subst h <;> simp
 generalize (if 0=i then if k=j then d else 0 else 0)=a0 at *
 generalize (if 1=i then if k=j then d else 0 else 0)=a1 at *
 generalize (if 2=i then if k=j then d else 0 else 0)=a2 at *
 generalize (if 3=i then if k=j then d else 0 else 0)=a3 at *
 generalize (if 4=i then if k=j then d else 0 else 0)=a4 at *
 generalize (if 5=i then if k=j then d else 0 else 0)=a5 at *
 generalize (if k=i then if 0=j then d else 0 else 0)=b0 at *
 generalize (if k=i then if 1=j then d else 0 else 0)=b1 at *
 generalize (if k=i then if 2=j then d else 0 else 0)=b2 at *
 generalize (if k=i then if 3=j then d else 0 else 0)=b3 at *
 generalize (if k=i then if 4=j then d else 0 else 0)=b4 at *
 generalize (if k=i then if 5=j then d else 0 else 0)=b5 at *
 rw[<- c,<- e]
 omega
end Rt
structure CO where
 inn:Nat->Bool
 left:Nat->Bool
 known:Nat->Int
 na:Option Addr
 nn:Nat
 nc:Nat
 ga:Option Addr
 gn:Nat
 gc:Nat
def nH(s:CO):Nat->Value:=fun p=>if p<6 then .bool (s.inn p)else if p<12 then .bool (s.left (p-6))else if p<18 then aD (s.known (p-12))else if p=18 then .slice s.na s.nn s.nc else .slice s.ga s.gn s.gc
theorem yX(s:CO){p:Nat}(h:p<6):nH s p = .bool (s.inn p):=by unfold nH; rw[if_pos h]
theorem zL(s:CO){p q:Nat}(h:p<6)(e:q=p+6):nH s q = .bool (s.left p):=by subst e; unfold nH; rw[if_neg (by omega),if_pos (by omega),Nat.add_sub_cancel]
theorem iY(s:CO){p q:Nat}(h:p<6)(e:q=p+12):nH s q=aD (s.known p):=by subst e; unfold nH; rw[if_neg (by omega),if_neg (by omega),if_pos (by omega),Nat.add_sub_cancel]
def kQ(id par:Int)(R:Nat->Int):Nat->Value:=fun p=>if p=0 then aD id else if p=1 then aD par else au (R (p-2))
theorem CP(id par:Int)(R:Nat->Int)(q:Nat):kQ id par R (2+q)=rv .i64 R q:=by unfold kQ rv; rw[if_neg (by omega),if_neg (by omega),Nat.add_sub_cancel_left]
def Nds(w:World)(a:Option Addr)(n:Nat)(id par:Nat->Int)(R:Nat->Nat->Int):Prop := ∀ k,k<n -> ∃ b c,a=some ⟨b,c,none⟩/\iF w b (c+56*k) 56 (kQ (id k) (par k) (R k))
theorem Nds.below{w w':World}{a:Option Addr}{n:Nat}{id par:Nat->Int}{R:Nat->Nat->Int}(h:Nds w a n id par R)(d:Below w.heap.size w w'):Nds w' a n id par R:=fun k f=>by
 obtain⟨b,g,e,c⟩:=h k f
 exact⟨b,g,e,c.below d (c.lt (by omega))⟩
section
structure jK where
 s:CO
 id:Nat->Int
 par:Nat->Int
 R:Nat->Nat->Int
 g:Nat->Nat->Int
 tb:Nat
 ta:Option Addr
 tn:Nat
 tc:Nat
 t:Nat->Nat->Int
 ra:Nat->Option Addr
 rn:Nat->Nat
 rc:Nat->Nat
 rq:Nat->Nat->Int
structure gV where
 inn:Nat->Bool
 left:Nat->Bool
 known:Nat->Int
 nn:Nat
 id:Nat->Int
 par:Nat->Int
 R:Nat->Nat->Int
 gn:Nat
 g:Nat->Nat->Int
 tn:Nat
 t:Nat->Nat->Int
 rn:Nat->Nat
 rq:Nat->Nat->Int
def jK.core(m:jK):gV:=⟨m.s.inn,m.s.left,m.s.known,m.s.nn,m.id,m.par,m.R,m.s.gn,m.g,m.tn,m.t,m.rn,m.rq⟩
def kJ(m:jK):Nat->Value:=fun p=>if p<20 then nH m.s p else if p=20 then(pt m.tb)else .slice (m.ra (p-21)) (m.rn (p-21)) (m.rc (p-21))
theorem jD(m:jK){p:Nat}{v:Value}(h:p<20)(e:nH m.s p=v):kJ m p=v:=by unfold kJ; rw[if_pos h]; exact e
theorem uY(m:jK){p q:Nat}(e:q=p+21):kJ m q = .slice (m.ra p) (m.rn p) (m.rc p):=by
 subst e; unfold kJ; rw[if_neg (by omega),if_neg (by omega),Nat.add_sub_cancel]
def iM(x:Nat->Int):Nat->Value:=fun p=>if p=0 then au (x 0)else if p=3 then au (x 3)else aD (x p)
def H9(m:jK):Nat->Value:=flat 56 fun k=>kQ (m.id k) (m.par k) (m.R k)
def GK(m:jK):Nat->Value:=flat 5 fun k=>iM (m.g k)
def jP(c:Nat->Nat->Int):Nat->Int:=fun p=>c (p / 2) (p % 2)
def Oj(t:Nat->Nat->Int):Nat->Value:=flat 2 fun k=>rv .u64 (t k)
structure Al(w:World)(p:Nat)(m:jK):Prop where
 c:iF w p 0 27 (kJ m)
 an:ku w m.s.na m.s.nn 56 (H9 m)
 ag:ku w m.s.ga m.s.gn 5 (GK m)
 tc:iF w m.tb 0 1 (fun _ => .slice m.ta m.tn m.tc)
 at2:ku w m.ta m.tn 2 (Oj m.t)
 ar : ∀ i,i<6->ku w (m.ra i) (m.rn i) 1 (rv .u64 (m.rq i))
 bn:m.s.nn<=1000000
 bg:m.s.gn<=1000000
 bt:m.tn<=1000000
 br : ∀ i,i<6->m.rn i<=1000000
section
variable {w w':World} {p:Nat} {m:jK}
theorem Al.n(h:Al w p m):Nds w m.s.na m.s.nn m.id m.par m.R:=fun _ a=>h.an.at a
theorem Al.g(h:Al w p m) : ∀ k,k<m.s.gn -> ∃ b a,m.s.ga=some ⟨b,a,none⟩/\iF w b (a+5*k) 5 (iM (m.g k)):=fun _ c=>h.ag.at c
theorem Al.t(h:Al w p m) : ∀ k,k<m.tn -> ∃ b a,m.ta=some ⟨b,a,none⟩/\iF w b (a+2*k) 2 (rv .u64 (m.t k)):=fun _ c=>h.at2.at c
theorem Al.r(h:Al w p m) : ∀ i,i<6 -> ∀ k,k<m.rn i -> ∃ b a,m.ra i=some ⟨b,a,none⟩/\iF w b (a+k) 1 (fun _=>aD (m.rq i k)):=fun i d k g=>by
 obtain⟨b,a,e,c⟩:=h.ar i d (by omega)
 refine⟨b,a,e,fun j f => ?_⟩
 obtain rfl:j=0:=by omega
 exact c k (by omega)
theorem Al.below(h:Al w p m)(a:Below w.heap.size w w'):Al w' p m where
 c:=h.c.below a (h.c.lt (by omega))
 an:=h.an.up a rfl
 ag:=h.ag.up a rfl
 tc:=h.tc.below a (h.tc.lt (by omega))
 at2:=h.at2.up a rfl
 ar:=fun i b=>(h.ar i b).up a rfl
 bn:=h.bn
 bg:=h.bg
 bt:=h.bt
 br:=h.br
end
def gF(P:Nat->Bool):Nat->Int
 | 0 => -1
 | n+1=>if 0<=gF P n then gF P n else if P n then(n:Int)else -1
theorem lS{P:Nat->Bool} : ∀ {n:Nat},(∀ i,i<n->P i=false)->gF P n = -1
 | 0,_=>rfl
 | n+1,h=>by
   have:=lS (P:=P) (n:=n) fun i a=>h i (by omega)
   simp only[gF]; rw[this,if_neg (by omega),h n (by omega)]; rfl
theorem qB{P:Nat->Bool}{k:Nat}(a : ∀ i,i<k->P i=false)(b:P k=true) : ∀ {n:Nat},k<n->gF P n=(k:Int)
 | 0,h=>absurd h (by omega)
 | n+1,h=>by
   simp only[gF]
   by_cases e:k=n
   ·subst e; rw[lS a,if_neg (by omega),b]; rfl
   ·rw[qB a b (n:=n) (by omega),if_pos (by omega)]
theorem jf(P:Nat->Bool) : ∀ n:Nat,(∃ k:Nat,k<n/\gF P n=(k:Int)/\P k=true)\/(gF P n = -1 /\ ∀ i,i<n->P i=false)
 | 0 => .inr ⟨rfl,fun i h=>absurd h (by omega)⟩
 | n+1=>by
   rcases jf P n with ⟨k,d,e,a⟩|⟨e,a⟩
   ·exact .inl ⟨k,by omega,by simp only[gF]; rw[e,if_pos (by omega)],a⟩
   ·by_cases h:P n=true
    ·exact .inl ⟨n,by omega,by simp only[gF]; rw[e,if_neg (by omega),h]; rfl,h⟩
    ·rw[Bool.not_eq_true]at h
     refine .inr ⟨by simp only[gF]; rw[e,if_neg (by omega),h]; rfl,fun i c => ?_⟩
     by_cases b:i=n
     ·subst b; exact h
     ·exact a i (by omega)
theorem tV{P:Nat->Bool}{k:Nat}(h : ∀ i,i<k->P i=false)(a:P k=false) : ∀ i,i<k+1->P i=false:=fun i b=>by
 by_cases e:i=k
 ·subst e; exact a
 ·exact h i (by omega)
def jK.node(m:jK)(id:Int):Int:=gF (fun i=>decide (m.id i=id)) m.s.nn
def jK.grant(m:jK)(o r:Int):Int:=gF (fun i=>decide (m.g i 0=o)&&decide (m.g i 1=r)) m.s.gn
def jK.jQ(m:jK)(a:Nat)(r:Int):Int:=gF (fun i=>decide (m.rq a i=r)) (m.rn a)
structure DL(w:World)(tb:Nat)(ta:Option Addr)(tn tc:Nat)(t:Nat->Nat->Int):Prop where
 tc:iF w tb 0 1 (fun _ => .slice ta tn tc)
 t : ∀ k,k<tn -> ∃ b off,ta=some ⟨b,off,none⟩/\iF w b (off+2*k) 2 (rv .u64 (t k))
 bt:tn<=1000000
theorem DL.below{w w':World}{f:Nat}{d:Option Addr}{tn g:Nat}{t:Nat->Nat->Int}(h:DL w f d tn g t)(a:Below w.heap.size w w'):DL w' f d tn g t where
 tc:=h.tc.below a (h.tc.lt (by omega))
 t:=fun k i=>by obtain⟨b,j,e,c⟩:=h.t k i; exact⟨b,j,e,c.below a (c.lt (by omega))⟩
 bt:=h.bt
def bB(t:Nat->Nat->Int)(tn:Nat)(x:Int):Int:=gF (fun i=>decide (t i 0=x)) tn
def bf(t:Nat->Nat->Int)(tn:Nat):Nat->Int->Int
 | 0,x=>x
 | k+1,x=>t (bB t tn (bf t tn k x)).toNat 1
def ZB:Value->Nat
 | .slice _ n _=>n
 | _=>0
end
theorem DN(m:jK)(p:Nat)(x:Int)(w:World)(h:Al w p m) :
 Calls Tryz.prog 56 #[(pt p),aD x] w fun e w'=>e = .returned (au (m.node x))/\Below w.heap.size w w':=by
 have v:=h.c
 have J:p<w.heap.size:=v.lt (by omega)
 have E:=h.bn
 have D:=h.bg
 have F:=h.bt
 refine Kent Tryz.func56 28 ?_
 refine ay<|av (au 0)<|aC<|Ws<|ay<|av (au 0)<|aC<|Wb<|Wo (fun f z => ∃ k:Nat,k<=m.s.nn/\(∀ i,i<k->(fun i=>decide (m.id i=x)) i=false)/\f 0=(pt p)/\f 1=aD x/\f 5=au ((k:Int))/\iF z p 0 27 (kJ m)/\Below w.heap.size w z) (fun f _=>(m.s.nn-(intOf (f 5)).toNat)) ⟨0,by omega,(fun i h=>absurd h (by omega)),(by rfl),Fx.ic,Fx.ic,v,(Below.refl w.heap.size w)⟩ ?_
 rintro G K ⟨k,I,l,j,t,a,o,d⟩
 refine Ws<|ay<|aS a<|aS j<|av ((pt p))<|av ((pt p))<|av ((pf p 18))<|Lv (.slice m.s.na (m.s.nn) (m.s.nc)) (aL o 18)<|av (au m.s.nn) ?_
 by_cases r:(k:Int)<(m.s.nn:Int)
 ·refine Lv aG (gy r)<|aC<|aM<|Wk<|sN<|Ws<|Wb<|Ws ?_
  obtain⟨b,y,A,u⟩:=h.n k (by omega)
  have B:b<w.heap.size:=u.lt (by omega)
  have C:=u.below d B
  refine Wl<|aS j<|av ((pt p))<|av ((pt p))<|av ((pf p 18))<|Lv (.slice m.s.na (m.s.nn) (m.s.nc)) (aL o 18)<|aS a<|Lv ((pf b (56*k+y))) (cu 56 (hx:=(rfl.trans (congrArg (fun q=>Value.slice q (m.s.nn) (m.s.nc)) A))))<|av ((pf b (56*k+y)))<|Lv (aD (m.id k)) (aL C 0)<|aS t ?_
  by_cases g:(m.id k)=x
  ·refine Lv aG (eP g)<|aC<|aM<|ay<|aS a<|av (au k)<|aC<|Wr<|bK<|sR<|oQ<|bK<|sR<|aI (au k) ?_
   exact⟨nD (Eq.symm (qB l (decide_eq_true g) (by omega))),d⟩
  refine Lv aF (fF g)<|aC<|aK<|Wk<|bP<|sN<|Wl<|aS a<|Lv (au ((k:Int)+1)) eZ<|av (au ((k:Int)+1))<|Ln<|gJ ⟨k+1,by omega,(tV l (decide_eq_false g)),j,(t.trans Fx.ic),Fx.ic,o,d⟩ ?_
  show(m.s.nn-(intOf ((au ((k:Int)+1)))).toNat)<_
  simp only[a,intOf]; omega
 refine Lv aF (gD r)<|aC<|aK<|Wx<|bV<|fU<|bW<|sN<|ay<|av (au (-1))<|aC<|Wr<|aI (au (-1)) ?_
 exact⟨nD (Eq.symm (lS (fun i H=>l i (by omega)))),d⟩
theorem KY(a:Nat)(l:Option Addr)(tn d:Nat)(t:Nat->Nat->Int)(x:Int)(w:World)(h:DL w a l tn d t) :
 Calls Tryz.prog 55 #[(pt a),aD x] w fun e w'=>e = .returned (au (bB t tn x))/\Below w.heap.size w w':=by
 have u:=h.tc
 have G:a<w.heap.size:=u.lt (by omega)
 have C:=h.bt
 refine Kent Tryz.func55 26 ?_
 refine ay<|av (au 0)<|aC<|Ws<|ay<|av (au 0)<|aC<|Wb<|Wo (fun f y => ∃ k:Nat,k<=tn/\(∀ i,i<k->(fun i=>decide (t i 0=x)) i=false)/\f 0=(pt a)/\f 1=aD x/\f 5=au ((k:Int))/\iF y a 0 1 (fun _ => .slice l tn d)/\Below w.heap.size w y) (fun f _=>(tn-(intOf (f 5)).toNat)) ⟨0,by omega,(fun i h=>absurd h (by omega)),(by rfl),Fx.ic,Fx.ic,u,(Below.refl w.heap.size w)⟩ ?_
 rintro D H ⟨k,F,n,m,r,c,o,g⟩
 refine Ws<|ay<|aS c<|aS m<|av ((pt a))<|av ((pt a))<|Lv (.slice l (tn) (d)) (aL o 0)<|av (au tn) ?_
 by_cases p:(k:Int)<(tn:Int)
 ·refine Lv aG (gy p)<|aC<|aM<|Wk<|sN<|Ws<|Wb<|Ws ?_
  obtain⟨b,v,z,s⟩:=h.t k (by omega)
  have A:b<w.heap.size:=s.lt (by omega)
  have B:=s.below g A
  refine Wl<|aS m<|av ((pt a))<|av ((pt a))<|Lv (.slice l (tn) (d)) (aL o 0)<|aS c<|Lv ((pf b (2*k+v))) (cu 2 (hx:=(rfl.trans (congrArg (fun q=>Value.slice q (tn) (d)) z))))<|av ((pf b (2*k+v)))<|Lv (aD ((t k) 0)) (aL B 0)<|aS r ?_
  by_cases j:((t k) 0)=x
  ·refine Lv aG (eP j)<|aC<|aM<|ay<|aS c<|av (au k)<|aC<|Wr<|bK<|sR<|oQ<|bK<|sR<|aI (au k) ?_
   exact⟨nD (Eq.symm (qB n (decide_eq_true j) (by omega))),g⟩
  refine Lv aF (fF j)<|aC<|aK<|Wk<|bP<|sN<|Wl<|aS c<|Lv (au ((k:Int)+1)) eZ<|av (au ((k:Int)+1))<|Ln<|gJ ⟨k+1,by omega,(tV n (decide_eq_false j)),m,(r.trans Fx.ic),Fx.ic,o,g⟩ ?_
  show(tn-(intOf ((au ((k:Int)+1)))).toNat)<_
  simp only[c,intOf]; omega
 refine Lv aF (gD p)<|aC<|aK<|Wx<|bV<|fU<|bW<|sN<|ay<|av (au (-1))<|aC<|Wr<|aI (au (-1)) ?_
 exact⟨nD (Eq.symm (lS (fun i E=>n i (by omega)))),g⟩
theorem U8{a b:Prop} [Decidable a] [Decidable b](h : ¬ a):(decide a&&decide b)=false:=by rw[decide_eq_false h]; rfl
theorem U9{a b:Prop} [Decidable a] [Decidable b](h : ¬ b):(decide a&&decide b)=false:=by rw[decide_eq_false h,Bool.and_false]
theorem Va{a b:Prop} [Decidable a] [Decidable b](h:a)(c:b):(decide a&&decide b)=true:=by rw[decide_eq_true h,decide_eq_true c]; rfl
theorem Vb(m:jK)(p:Nat)(x r:Int)(w:World)(h:Al w p m) :
 Calls Tryz.prog 110 #[(pt p),au x,aD r] w fun e w'=>e = .returned (au (m.grant x r))/\Below w.heap.size w w':=by
 have C:=h.c
 have M:p<w.heap.size:=C.lt (by omega)
 have H:=h.bn
 have G:=h.bg
 have I:=h.bt
 refine Kent Tryz.func110 43 ?_
 refine ay<|av (au 0)<|aC<|Ws<|ay<|av (au 0)<|aC<|Wb<|Wo (fun f E => ∃ k:Nat,k<=m.s.gn/\(∀ i,i<k->(fun i=>decide (m.g i 0=x)&&decide (m.g i 1=r)) i=false)/\f 0=(pt p)/\f 1=au x/\f 2=aD r/\f 7=au ((k:Int))/\iF E p 0 27 (kJ m)/\Below w.heap.size w E) (fun f _=>(m.s.gn-(intOf (f 7)).toNat)) ⟨0,by omega,(fun i h=>absurd h (by omega)),(by rfl),Fx.ic,Fx.ic,Fx.ic,C,(Below.refl w.heap.size w)⟩ ?_
 rintro J N ⟨k,L,t,j,v,y,a,l,d⟩
 refine Ws<|ay<|aS a<|aS j<|av ((pt p))<|av ((pt p))<|av ((pf p 19))<|Lv (.slice m.s.ga (m.s.gn) (m.s.gc)) (aL l 19)<|av (au m.s.gn) ?_
 by_cases z:(k:Int)<(m.s.gn:Int)
 ·refine Lv aG (gy z)<|aC<|aM<|Wk<|sN<|Ws<|Wb<|Ws ?_
  obtain⟨b,u,A,B⟩:=h.g k (by omega)
  have F:b<w.heap.size:=B.lt (by omega)
  have D:=B.below d F
  refine Wl<|aS j<|av ((pt p))<|av ((pt p))<|av ((pf p 19))<|Lv (.slice m.s.ga (m.s.gn) (m.s.gc)) (aL l 19)<|aS a<|Lv ((pf b (5*k+u))) (cu 5 (hx:=(rfl.trans (congrArg (fun q=>Value.slice q (m.s.gn) (m.s.gc)) A))))<|av ((pf b (5*k+u)))<|Lv (au (m.g k 0)) (aL D 0)<|aS v ?_
  by_cases n:(m.g k 0)=x
  ·refine Lv aG (eP n)<|av aG<|aS j<|av ((pt p))<|av ((pt p))<|av ((pf p 19))<|Lv (.slice m.s.ga (m.s.gn) (m.s.gc)) (aL l 19)<|aS a<|Lv ((pf b (5*k+u))) (cu 5 (hx:=(rfl.trans (congrArg (fun q=>Value.slice q (m.s.gn) (m.s.gc)) A))))<|av ((pf b (5*k+u+1)))<|Lv (aD (m.g k 1)) (aL D 1)<|aS y ?_
   by_cases o:(m.g k 1)=r
   ·refine Lv aG (eP o)<|av aG<|aC<|aM<|ay<|aS a<|av (au k)<|aC<|Wr<|bK<|sR<|oQ<|bK<|sR<|aI (au k) ?_
    exact⟨nD (Eq.symm (qB t (Va n o) (by omega))),d⟩
   refine Lv aF (fF o)<|av aF<|aC<|aK<|Wk<|bP<|sN<|Wl<|aS a<|Lv (au ((k:Int)+1)) eZ<|av (au ((k:Int)+1))<|Ln<|gJ ⟨k+1,by omega,(tV t (U9 o)),j,(v.trans Fx.ic),(y.trans Fx.ic),Fx.ic,l,d⟩ ?_
   show(m.s.gn-(intOf ((au ((k:Int)+1)))).toNat)<_
   simp only[a,intOf]; omega
  refine Lv aF (fF n)<|av aF<|cB<|cB<|cB<|cB<|cB<|cB<|cB<|cB<|cB<|cB<|cB<|av aF<|aC<|aK<|Wk<|bP<|sN<|Wl<|aS a<|Lv (au ((k:Int)+1)) eZ<|av (au ((k:Int)+1))<|Ln<|gJ ⟨k+1,by omega,(tV t (U8 n)),j,(v.trans Fx.ic),(y.trans Fx.ic),Fx.ic,l,d⟩ ?_
  show(m.s.gn-(intOf ((au ((k:Int)+1)))).toNat)<_
  simp only[a,intOf]; omega
 refine Lv aF (gD z)<|aC<|aK<|Wx<|bV<|fU<|bW<|sN<|ay<|av (au (-1))<|aC<|Wr<|aI (au (-1)) ?_
 exact⟨nD (Eq.symm (lS (fun i K=>t i (by omega)))),d⟩
theorem ZC{n:Int}{k:Nat}(h:n=(k:Int)):decide (0<=n)=true:=decide_eq_true (by omega)
theorem ZE{n:Int}(h:n = -1):decide (0<=n)=false:=decide_eq_false (by omega)
theorem Vd(m:jK)(p a:Nat)(r:Int)(w:World)(h:Al w p m)(ha:a<6) :
 Calls Tryz.prog 108 #[(pt p),au ((a:Int)+1),aD r] w fun e w'=>e = .returned (.bool (decide (0<=m.jQ a r)))/\Below w.heap.size w w':=by
 have x:=h.c
 have K:p<w.heap.size:=x.lt (by omega)
 have E:=h.bn
 have D:=h.bg
 have G:=h.bt
 have F:=h.br a ha
 refine Kent Tryz.func108 32 ?_
 refine ay<|av aF<|aC<|Ws<|ay<|av (au 0)<|aC<|Wb<|Wo (fun f y => ∃ k:Nat,k<=m.rn a/\(∀ i,i<k->(fun i=>decide (m.rq a i=r)) i=false)/\f 0=(pt p)/\f 1=au ((a:Int)+1)/\f 2=aD r/\f 7=au ((k:Int))/\iF y p 0 27 (kJ m)/\Below w.heap.size w y) (fun f _=>(m.rn a-(intOf (f 7)).toNat)) ⟨0,by omega,(fun i h=>absurd h (by omega)),(by rfl),Fx.ic,Fx.ic,Fx.ic,x,(Below.refl w.heap.size w)⟩ ?_
 rintro H L ⟨k,J,o,l,n,u,j,s,d⟩
 refine Ws<|ay<|aS j<|aS l<|aS n<|Lv (au a) fO<|av ((pt p))<|av ((pf p 21))<|Lv ((pf p (a+21))) (je 6 1)<|Lv (.slice (m.ra a) ((m.rn a)) ((m.rc a))) (aL s (a+21) (uY _ (by omega)))<|av (au (((m.rn a):Nat):Int)) ?_
 by_cases t:(k:Int)<(((m.rn a):Nat):Int)
 ·refine Lv aG (gy t)<|aC<|aM<|Wk<|sN<|Ws<|Wb<|Ws ?_
  obtain⟨b,C,z,v⟩:=h.r a ha k (by omega)
  have A:b<w.heap.size:=v.lt (by omega)
  have B:=v.below d A
  refine Wl<|aS l<|aS n<|Lv (au a) fO<|av ((pt p))<|av ((pf p 21))<|Lv ((pf p (a+21))) (je 6 1)<|Lv (.slice (m.ra a) ((m.rn a)) ((m.rc a))) (aL s (a+21) (uY _ (by omega)))<|aS j<|Lv ((pf b (k+C))) (cu 1 (hx:=(rfl.trans (congrArg (fun q=>Value.slice q ((m.rn a)) ((m.rc a))) z))))<|Lv (aD (m.rq a k)) (aL B 0)<|aS u ?_
  by_cases g:(m.rq a k)=r
  ·refine Lv aG (eP g)<|aC<|aM<|ay<|av aG<|aC<|Wr<|bK<|sR<|oQ<|bK<|sR<|aI aG ?_
   exact⟨gP (Eq.symm (ZC (qB o (decide_eq_true g) (by omega)))),d⟩
  refine Lv aF (fF g)<|aC<|aK<|Wk<|bP<|sN<|Wl<|aS j<|Lv (au ((k:Int)+1)) eZ<|av (au ((k:Int)+1))<|Ln<|gJ ⟨k+1,by omega,(tV o (decide_eq_false g)),l,(n.trans Fx.ic),(u.trans Fx.ic),Fx.ic,s,d⟩ ?_
  show(m.rn a-(intOf ((au ((k:Int)+1)))).toNat)<_
  simp only[j,intOf]; omega
 refine Lv aF (gD t)<|aC<|aK<|Wx<|bV<|fU<|bW<|sN<|ay<|av aF<|aC<|Wr<|aI aF ?_
 exact⟨gP (Eq.symm (ZE (lS (fun i I=>o i (by omega))))),d⟩
namespace Rt
theorem Ol{k:Nat}{X:Nat->Int}{z:Int}(a:X k=z) : ∀ j,j<(k+1)*1->gM (rv .u64 X) (k*1) (bG (fun j=>rv .u64 (fun _=>0) (j % 1)) (0*1) 1 (fun _=>aD z)) j=rv .u64 X j:=by
 intro j b
 unfold gM
 by_cases h:j<k*1
 ·rw[if_pos h]
 rw[if_neg h]
 have e:j=k:=by omega
 subst e
 unfold bG rv
 rw[if_pos (by omega),a]
theorem MH{t:Nat->Nat->Int}{tn k D:Nat}{x:Int}(a:k<=D)(b:bB t tn (bf t tn D x)<0)(h:0<=bB t tn (bf t tn k x)):k+1<=D:=Nat.lt_of_le_of_ne a fun e=>by subst e; omega
theorem Rv{t:Nat->Nat->Int}{tn k:Nat}{x:Int}(h : ∀ i,i<k->0<=bB t tn (bf t tn i x))(a:0<=bB t tn (bf t tn k x)) : ∀ i,i<k+1->0<=bB t tn (bf t tn i x):=fun i b=>by
 by_cases e:i=k
 ·subst e; exact a
 ·exact h i (by omega)
theorem tX{t:Nat->Nat->Int}{tn:Nat}{x:Int}(h:0<=bB t tn x) : ∃ j:Nat,j<tn/\bB t tn x=(j:Int)/\t j 0=x:=by
 rcases jf (fun i=>decide (t i 0=x)) tn with ⟨k,a,e,b⟩|⟨e,_⟩
 ·exact⟨k,a,e,of_decide_eq_true b⟩
 unfold bB at h; rw[e]at h; omega
theorem Om{t:Nat->Nat->Int}{tn k j:Nat}{x:Int}(h:bB t tn (bf t tn k x)=(j:Int)):t j 1=bf t tn (k+1) x:=by
 show _=t (bB t tn (bf t tn k x)).toNat 1
 rw[h]; rfl
end Rt
theorem MI(a:Nat)(d:Option Addr)(tn f:Nat)(t:Nat->Nat->Int)(x:Int)(w:World)(h:DL w a d tn f t) :
 Calls Tryz.prog 126 #[(pt a),aD x] w fun e w'=>e = .returned (.bool (decide (0<=bB t tn x)))/\Below w.heap.size w w':=by
 have i:=h.tc
 have k:a<w.heap.size:=i.lt (by omega)
 have j:=h.bt
 refine Kent Tryz.func126 9 ?_
 refine ay<|av aF<|aC<|ay<|av ((pt a))<|av (aD x)<|dA (KY a d tn f t x _ (h.below (Below.refl w.heap.size w))) _ rfl ?_
 intro l g
 have c:=aY g (Below.refl w.heap.size w)
 by_cases b:0<=(bB t tn x)
 ·refine Lv aG (jv b)<|av aG<|aC<|Wr<|aI aG ?_
  exact⟨gP (Eq.symm (decide_eq_true b)),c⟩
 refine Lv aF (ji b)<|av aF<|aC<|Wr<|aI aF ?_
 exact⟨gP (Eq.symm (decide_eq_false b)),c⟩
theorem DR(c:Nat)(p:Option Addr)(tn d:Nat)(t:Nat->Nat->Int)(x:Int)(D:Nat)(w:World)(h:DL w c p tn d t)(R:bB t tn (bf t tn D x)<0)(hD2:D<=1000) :
 Calls Tryz.prog 27 #[(pt c),aD x] w fun e w' => ∃ K v,e = .returned v/\Fx.Own w' w.heap.size 28 1 v K (rv .u64 (fun i=>bf t tn i x))/\(∀ i,i<K->0<=bB t tn (bf t tn i x))/\bB t tn (bf t tn K x)<0/\Below w.heap.size w w':=by
 have U:=h.tc
 have lp:c<w.heap.size:=U.lt (by omega)
 have bt:=h.bt
 refine Kent Tryz.func27 25 ?_
 refine ay<|av (.slice none 0 0)<|aC<|ay<|av (.slice none 0 0)<|aC<|Ws<|Wb ?_
 have m1:Fx.Own w w.heap.size 28 1 (.slice none 0 0) 0 (rv .u64 (fun i=>bf t tn i x)):=wB _ _ _ _ _
 refine Wo (fun f N => ∃ k:Nat,∃ a:Option Addr,∃ l:Nat,k<=D/\(∀ i,i<k->0<=bB t tn (bf t tn i x))/\f 0=(pt c)/\f 1=aD (bf t tn k x)/\f 5 = .slice a (k) (l)/\iF N c 0 1 (fun _ => .slice p tn d)/\Fx.Own N w.heap.size 28 1 (.slice a k l) k (rv .u64 (fun i=>bf t tn i x))/\Below w.heap.size w N) (fun f _=>(D-ZB (f 5))) ⟨0,none,0,by omega,(fun i h=>absurd h (by omega)),(by rfl),(by rfl),(by rfl),U,m1,(Below.refl w.heap.size w)⟩ ?_
 rintro f1 w1 ⟨k,a,l,X,S,z,n,G,m2,m3,O⟩
 refine Ws<|ay<|aS z<|aS n<|dA (KY c p tn d t (bf t tn k x) _ (h.below O)) _ rfl ?_
 intro w2 hb1
 have⟨Z,I,A⟩:=jk hb1 m2 m3 O
 by_cases g:0<=(bB t tn (bf t tn k x))
 ·refine Lv aG (jv g)<|aC<|aM<|Wk<|sN<|Wb<|Ws ?_
  obtain⟨j,W,P,_⟩:=tX g
  refine Wl<|aS G<|aS n<|yj (vs := [(0,aD (bf t tn k x))]) (s:=1) (zc:=rv .u64 (fun _=>0)) (y:=bG (fun j=>(rv .u64 (fun _=>0)) (j % 1)) (0*1) 1 (fun _=>aD (bf t tn k x))) (by rfl) rfl rfl Tryz.underlying63 (by kernel_rfl) (by rfl) (by rfl) (by kernel_rfl) (by rw[bD (off:=0*1) (s:=1) (y:=fun _=>aD (bf t tn k x)) rfl (cells_one (by rfl)) (by rfl)]; rfl) rfl fun Q w3 F m6 s2 z1 => ?_
  have⟨m7,J,C⟩:=jk s2.old Z I A
  have tL:=jc F A.size
  have yD:c≠Q:=by rw[F]; exact Nat.ne_of_lt (Z.lt (by omega))
  have Ja:(.slice a k l:Value).ownBlock≠some Q:=by rw[F]; exact I.jC (Nat.le_refl _)
  have vR:=m6.lt
  refine yI (B:=w.heap.size) (s:=1) (bytes:=8) (k:=k) (m:=1) (by rfl) rfl rfl rfl Tryz.underlying63 (by kernel_rfl) (by kernel_rfl) rfl rfl J m6.aH (fun j W=>by rcases j with _|j <;> first|rfl|omega) (by omega) (by omega) (by omega) C.size fun u r M ho1 V tJ hlt1 => ?_
  have H:iF M c 0 1 (fun _ => .slice p tn d):=m7.grown V (J.not (by omega))
  have m9:Fx.Own M w.heap.size 28 1 (bI u (k+1) r) (k+1) (rv .u64 (fun i=>bf t tn i x)):=ho1.congr (Ol rfl)
  have E:Below w.heap.size w M:=xR C V C.size (fun q hq=>(J.ge hq).1)
  refine av (bI u (k+1) r)<|aC ?_
  obtain⟨b,off,ea,T⟩:=h.t j W
  have lb:b<w.heap.size:=T.lt (by omega)
  have Y:=T.below E lb
  -- region 4 draws
  refine kZ<|dS z<|aR ((pt c))<|aR ((pt c))<|Qv (.slice p (tn) (d)) (fun L o=>aL (H.below o (H.lt (by omega))) 0)<|dS z<|dS n<|xS (fun L o=>((KY c p tn d t (bf t tn k x) _ (h.below (HZ E o))).mono fun e w2 n=>(⟨n.1.trans (by rw[P]),n.2⟩:e = .returned (au (j:Int))/\_))) _ rfl<|Qv ((pf b (2*j+off))) (fun L o=>cu 2 (hx:=(rfl.trans (congrArg (fun q=>Value.slice q (tn) (d)) ea))))<|aR ((pf b (2*j+off+1)))<|Qv (aD ((t j) 1)) (fun L o=>aL (Y.below o (Y.lt (by omega))) 1)<|aR (aD ((t j) 1))<|Qn ?_
  intro UR rH
  have⟨m12,m13,b5⟩:=jk rH H m9 E
  refine bP ?_
  have kD:=MH X R g
  refine gJ ⟨k+1,(some ⟨u,0,none⟩),r,(MH X R g),(Rv S g),z,(congrArg (Value.int .u64) (Om P)),(by rfl),m12,m13,b5⟩ ?_
  show(D-ZB ((bI u (k+1) r)))<_
  simp only[G,intOf,ZB]; omega
 refine Lv aF (ji g)<|aC<|aK<|Wx<|bV<|fU<|bW<|sN<|ay<|aS G<|av (.slice a (k) (l))<|aC<|Wr<|aI (.slice a (k) (l)) ?_
 exact⟨k,_,rfl,I,S,by omega,A⟩
namespace Rt
theorem aib{k n r:Nat}(e:r=k % n)(_hn:0<n)(_hk:k<=1000000):Int.tmod (k:Int) (n:Int)=(r:Int):=by
 rw[Int.tmod_eq_emod_of_nonneg (by omega),e]
 exact(Int.natCast_emod k n).symm
def fJ(m:jK)(k:Nat):Int:=if m.s.nn=0 then 0 else m.id (k % m.s.nn)
def jR(k a:Nat):jK := { s:=⟨fun i=>decide (i<k),fun _=>false,fun _=>0,none,0,0,none,0,0⟩,id:=fun _=>0,par:=fun _=>0,R:=fun _ _=>0,g:=fun _ _=>0,tb:=a,ta:=none,tn:=0,tc:=0,t:=fun _ _=>0,ra:=fun _=>none,rn:=fun _=>0,rc:=fun _=>0,rq:=fun _ _=>0 }
theorem Oo(k c:Nat)(d:k<6):dz (kJ (jR k c)) k (.bool true)=kJ (jR (k+1) c):=by
 funext p
 unfold dz
 by_cases e:p=k
 ·subst e; rw[if_pos rfl]
  exact(jD _ (by omega) ((yX _ d).trans (congrArg Value.bool (decide_eq_true (show p<p+1 by omega))))).symm
 rw[if_neg e]
 unfold kJ
 by_cases h:p<20
 ·rw[if_pos h,if_pos h]
  unfold nH
  by_cases a:p<6
  ·rw[if_pos a,if_pos a]
   show Value.bool (decide (p<k))=Value.bool (decide (p<k+1))
   by_cases b:p<k
   ·rw[decide_eq_true b,decide_eq_true (show p<k+1 by omega)]
   rw[decide_eq_false b,decide_eq_false (show ¬ p<k+1 by omega)]
  rw[if_neg a,if_neg a]; rfl
 rw[if_neg h,if_neg h]; rfl
end Rt
theorem Rw(m:jK)(p k:Nat)(w:World)(h:Al w p m)(F:k<=1000000) :
 Calls Tryz.prog 26 #[(pt p),au ((k:Int))] w fun e w'=>e = .returned (aD (fJ m k))/\Below w.heap.size w w':=by
 have f:=h.c
 have G:p<w.heap.size:=f.lt (by omega)
 have D:=h.bn
 have C:=h.bg
 have E:=h.bt
 refine Kent Tryz.func26 28 ?_
 refine ay<|av (aD 0)<|aC<|Ws<|ay<|av ((pt p))<|av ((pt p))<|av ((pt p))<|av ((pf p 18))<|Lv (.slice m.s.na (m.s.nn) (m.s.nc)) (aL f 18)<|av (au m.s.nn) ?_
 by_cases j:(m.s.nn:Int)=0
 ·refine Lv aG (eP j)<|aC<|aM<|ay<|av (aD 0)<|aC<|Wr<|sR<|aI (aD 0) ?_
  exact⟨congrArg (fun q=>Ending.returned (Value.int .u64 q)) (by unfold fJ; rw[if_pos (by omega)]),(Below.refl w.heap.size w)⟩
 refine Lv aF (fF j)<|aC<|aK<|Wk<|sN<|Ws ?_
 obtain⟨r,g⟩ : ∃ r,r=k % m.s.nn:=⟨_,rfl⟩
 have x:r<m.s.nn:=by rw[g]; exact Nat.mod_lt _ (by omega)
 obtain⟨b,o,v,l⟩:=h.n r x
 have y:b<w.heap.size:=l.lt (by omega)
 have z:=l.below (Below.refl w.heap.size w) y
 -- region 3 draws
 refine wh<|aR ((pt p))<|aR ((pt p))<|aR ((pt p))<|aR ((pf p 18))<|Qv (.slice m.s.na (m.s.nn) (m.s.nc)) (fun d a=>aL (f.dr a) 18)<|aR (au k)<|aR ((pt p))<|aR ((pt p))<|aR ((pt p))<|aR ((pf p 18))<|Qv (.slice m.s.na (m.s.nn) (m.s.nc)) (fun d a=>aL (f.dr a) 18)<|aR (au m.s.nn)<|Qv (au r) (fun d a=>Fx.tu rfl rfl rfl (by omega) (aib g (by omega) (by omega)))<|Qv ((pf b (o+56*r))) (fun d a=>cu 56 (hx:=(rfl.trans (congrArg (fun q=>Value.slice q (m.s.nn) (m.s.nc)) v))))<|aR ((pf b (o+56*r)))<|Qv (aD (m.id r)) (fun d a=>aL (z.dr a) 0)<|aR (aD (m.id r))<|Qn ?_
 rintro _ ⟨t,rfl⟩
 obtain⟨B,i⟩ : ∃ d,d=World.drewN w t:=⟨_,rfl⟩
 rw[<- i]
 have A:Stp w.heap.size w B:=by rw[i]; exact Sb (iU w t)
 have u:=aY A.old (Below.refl w.heap.size w)
 clear i
 refine sN<|Wr<|aI (aD (m.id r)) ?_
 exact⟨congrArg (fun q=>Ending.returned (Value.int .u64 q)) (by unfold fJ; rw[if_neg (by omega),g]),u⟩
set_option maxRecDepth 10000 in
theorem X0(n:Nat)(w:World)(h1:1<=n)(S:n<=6) :
 Calls Tryz.prog 24 #[au ((n:Int))] w fun e w' => ∃ p h,e = .returned (.tuple #[(pt p),au 0])/\w.heap.size<=p/\Al w' p (jR n h)/\Below w.heap.size w w'/\aP w' p 27 (kJ (jR n h)) 71/\aP w' h 1 (fun _ => .slice none 0 0) 123/\w.heap.size<=h:=by
 refine Kent Tryz.func24 28 ?_
 refine ay<|av (.pointer none)<|av (au 0)<|aC<|Ws<|ay<|av (au n)<|Lv aF Dq<|av aF<|av (au n)<|Lv aF wL<|av aF<|aC<|aK<|Wk<|sN<|ay<|av (.agg (aA 1 (fun _ => .slice none 0 0)))<|pK fun b Y D q N z1 => ?_
 have u:=aY N.old (Below.refl w.heap.size w)
 have G:=gH D
 have W:=q.lt
 refine av (.agg (aA 27 (bG (fun i=>(#[.bool false,.bool false,.bool false,.bool false,.bool false,.bool false,.bool false,.bool false,.bool false,.bool false,.bool false,.bool false,aD 0,aD 0,aD 0,aD 0,aD 0,aD 0,.slice none 0 0,.slice none 0 0,.pointer none,.slice none 0 0,.slice none 0 0,.slice none 0 0,.slice none 0 0,.slice none 0 0,.slice none 0 0]:Array Value).getD i undef) 20 1 (fun _=>(pt b)))))<|Dl (m:=27) (y:=bG (fun i=>(#[.bool false,.bool false,.bool false,.bool false,.bool false,.bool false,.bool false,.bool false,.bool false,.bool false,.bool false,.bool false,aD 0,aD 0,aD 0,aD 0,aD 0,aD 0,.slice none 0 0,.slice none 0 0,.pointer none,.slice none 0 0,.slice none 0 0,.slice none 0 0,.slice none 0 0,.slice none 0 0,.slice none 0 0]:Array Value).getD i undef) 20 1 (fun _=>(pt b))) (by rfl) rfl rfl (bJ _ _) rfl fun a P x z O z2 => ?_
 have⟨I,B⟩:=eG O.old q u
 have H:=jc x u.size
 have V:=bY x q.lt
 have X:=z.lt
 refine av ((pt a))<|aC<|Ws<|ay<|av (au 0)<|aC<|Wb ?_
 have J:aP P a 27 (kJ (jR 0 b)) 71:=z.congr (fun j T=>by rcases j with _|_|_|_|_|_|_|_|_|_|_|_|_|_|_|_|_|_|_|_|_|_|_|_|_|_|_|j <;> first|rfl|omega)
 refine Wo (fun f t => ∃ k:Nat,k<=n/\f 0=au ((n:Int))/\f 4=(pt a)/\f 5=au ((k:Int))/\aP t b 1 (fun _ => .slice none 0 0) 123/\aP t a 27 (kJ (jR k b)) 71/\Below w.heap.size w t) (fun f _=>(n-(intOf (f 5)).toNat)) ⟨0,by omega,Fx.ic,(by rfl),Fx.ic,I,J,B⟩ ?_
 rintro R Z ⟨k,U,h1,o,g,r,s,l⟩
 refine Ws<|ay<|aS g<|aS h1 ?_
 by_cases v:(k:Int)<(n:Int)
 ·refine Lv aG (gy v)<|aC<|aM<|Wk<|sN<|Ws<|Wb<|Wl<|aS o<|aS g<|av ((pt a))<|av ((pt a))<|av ((pt a))<|Lv ((pf a k)) (je 6 1)<|iQ s k aG fun Q K A z3 => ?_
  have L:=r.bZ A (by omega)
  have C:=A.below l l.size (by omega)
  refine Ln<|bP<|sN<|Wl<|aS g<|Lv (au ((k:Int)+1)) eZ<|av (au ((k:Int)+1))<|Ln ?_
  have M:aP Q a 27 (kJ (jR (k+1) b)) 71:=K.to (Oo k b (by omega))
  skip
  refine gJ ⟨k+1,by omega,(h1.trans Fx.ic),o,Fx.ic,L,M,C⟩ ?_
  show(n-(intOf ((au ((k:Int)+1)))).toNat)<_
  simp only[g,intOf]; omega
 refine Lv aF (gD v)<|aC<|aK<|Wx<|bV<|fU<|bW<|sN<|ay<|aS o<|av ((pt a))<|av (au 0)<|aC<|Wr<|aI (.tuple #[(pt a),au 0]) ?_
 have E:k=n:=by omega
 subst E
 exact⟨_,_,rfl,H,{ c:=s.aH,an:=fun d=>absurd d (Nat.lt_irrefl 0),ag:=fun d=>absurd d (Nat.lt_irrefl 0),tc:=r.aH,at2:=fun d=>absurd d (Nat.lt_irrefl 0),ar:=fun i F d=>absurd d (Nat.lt_irrefl 0),bn:=Nat.zero_le _,bg:=Nat.zero_le _,bt:=Nat.zero_le _,br:=fun i F=>Nat.zero_le _ },l,s,r,G⟩
end Go.Proofs.YtahbiajdgealnaaGreatDoor
