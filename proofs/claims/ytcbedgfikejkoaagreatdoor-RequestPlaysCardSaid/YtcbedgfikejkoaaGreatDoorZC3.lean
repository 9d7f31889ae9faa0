/-
  What the proof of the law rests on, part 3: walks of functions, and plain laws; each says its conditions itself.
-/
import Derived.Test.YtcbedgfikejkoaaGreatDoorRows
import Derived.BigRegion
import Derived.Deep.DeepCutAuto
import Derived.Test.YtcbedgfikejkoaaGreatDoorZC2
set_option maxRecDepth 20000
set_option linter.unusedVariables false
namespace Go.Proofs.YtcbedgfikejkoaaGreatDoor
theorem wT0{P:Program}{ops:Array Oper}{Q:Exit->Act->World->Prop}{md:Region.Mode}{S:World->Prop}(i:Nat){oi:Oper}(v:Value){fuel:Nat}{l:Array Bool}{a:Act}{w:World}(hi:ops[i]? = some oi)(hv : ∀ w,S w->(execOp a.eval oi).run P w = .ok (.value v) w)(hS:S w)(h:wpAnyH P md ops Q S fuel (l.setIfInBounds i true) (a.put oi.dst v) w)(hy:Region.wanted oi (yielded ops a.tmps)=true:=by rfl)(hs:Region.noSelect ops=true:=by kernel_rfl)(hf:Region.free md ops l i=true:=by kernel_rfl)(hr:(Region.ready md ops l).contains i=true:=by kernel_rfl)(hQ : ∀ c a w,Q (.panic c) (a.put oi.dst v) w->Q (.panic c) a w:=by exact fun _ _ _ h=>h):wpAnyH P md ops Q S (fuel+1) l a w:=wpAnyH_take hi hs hf hr hQ (.inl ⟨hy,hv⟩) hS h
end Go.Proofs.YtcbedgfikejkoaaGreatDoor
set_option maxHeartbeats 1600000
set_option linter.unusedSimpArgs false
namespace Go.Proofs.YtcbedgfikejkoaaGreatDoor
open Go.RowKit Rt
open Fx (dD Lv sN Ln Ws Qv Wl Wr Wk sR Wb Wx Wo D8 Qn xM zn rv jd je nE jU bM bS cB bZ gW iG pE)
section
open Rt
theorem acQ{c f:Int}(a b:Nat)(i:c=(a:Int))(j:f=(b:Int))(B g n cap:Nat)(d:Array Int)(w:World)(h:Fx.Own w B 23 1 (bO g n cap) n (rv .u64 (gA d)))(k:B<=w.heap.size)(m:d.size=n)(o:n<=1000)(ha:a<=b)(l:b<=n) :
 Calls Tryz.prog 176 #[bO g n cap,au c,au f] w fun e w'=>e = .returned (.tuple #[])/\Fx.Own w' B 23 1 (bO g n cap) n (rv .u64 (gA (Sort.insertionSort Sort.ltInt d a b)))/\Below B w w':=by
 subst i j; exact agW a b B g n cap d w h k m o ha l
theorem Yv{c f:Int}(a b:Nat)(i:c=(a:Int))(j:f=(b:Int))(B g n cap:Nat)(d:Array Int)(w:World)(h:Fx.Own w B 23 1 (bO g n cap) n (rv .u64 (gA d)))(k:B<=w.heap.size)(m:d.size=n)(o:n<=1000)(ha:a<b)(l:b<=n) :
 Calls Tryz.prog 177 #[bO g n cap,au c,au f] w fun e w'=>e = .returned (.tuple #[])/\Fx.Own w' B 23 1 (bO g n cap) n (rv .u64 (gA (Sort.heapSort Sort.ltInt d a b)))/\Below B w w':=by
 subst i j; exact acE a b B g n cap d w h k m o ha l
theorem acR{c f:Int}(a b:Nat)(i:c=(a:Int))(j:f=(b:Int))(B g n cap:Nat)(d:Array Int)(w:World)(h:Fx.Own w B 23 1 (bO g n cap) n (rv .u64 (gA d)))(k:B<=w.heap.size)(m:d.size=n)(o:n<=1000)(ha:a<b)(l:b<=n) :
 Calls Tryz.prog 180 #[bO g n cap,au c,au f] w fun e w'=>e = .returned (.tuple #[])/\Fx.Own w' B 23 1 (bO g n cap) n (rv .u64 (gA (Sort.reverseRange d a b)))/\Below B w w':=by
 subst i j; exact agY a b B g n cap d w h k m o ha l
def aaZ(m:Nat):Prop := ∀(i j k:Int) (a b l:Nat) (B g n f:Nat) (d:Array Int) (w:World) (h:Fx.Own w B 23 1 (bO g n f) n (rv .u64 (gA d))) (hB:B<=w.heap.size) (hn:d.size=n) (hs:n<=1000) (h50:n<50) (hl:l<=1000) (hab:a<=b) (hb:b<=n) (hBel:Sort.Below Sort.ltInt a b d),i=(a:Int)->j=(b:Int)->k=(l:Int)->b-a<m ->
    Calls Tryz.prog 163 #[bO g n f,au i,au j,au k] w fun e w' => ∃ c:Array Int,e = .returned (.tuple #[])/\c.size=n/\Sort.PermIn a b d c/\Sort.SortedIn Sort.ltInt a b c/\Fx.Own w' B 23 1 (bO g n f) n (rv .u64 (gA c))/\Below B w w'
theorem acS(m:Nat)(ih:aaZ m)(a b lim:Nat)(B g n cap:Nat)(d:Array Int)(w:World)(h:Fx.Own w B 23 1 (bO g n cap) n (rv .u64 (gA d)))(r:B<=w.heap.size)(hn:d.size=n)(x:n<=1000)(V:n<50)(hl:lim<=1000)(hab:a<=b)(hb:b<=n)(hBel:Sort.Below Sort.ltInt a b d)(hm:b-a<m+1) :
 Calls Tryz.prog 163 #[bO g n cap,au (a:Int),au (b:Int),au (lim:Int)] w fun e w' => ∃ d2:Array Int,e = .returned (.tuple #[])/\d2.size=n/\Sort.PermIn a b d d2/\Sort.SortedIn Sort.ltInt a b d2/\Fx.Own w' B 23 1 (bO g n cap) n (rv .u64 (gA d2))/\Below B w w':=by
 refine Kent Tryz.func163 134 ?_;refine ay<|av aG<|aD<|ay<|av aG<|aD<|Wb<|D8 (fun kk f A => ∃ c:Nat,∃ i:Nat,∃ N:Nat,∃ v:Array Int,∃ O:Bool,∃ wp:Bool,v.size=n/\Sort.Below Sort.ltInt c i v/\(∀ R,Sort.PermIn c i v R->Sort.SortedIn Sort.ltInt c i R->Sort.PermIn a b d R/\Sort.SortedIn Sort.ltInt a b R)/\(c<=i/\i<=n/\N<=1000/\i-c<=b-a)/\kk=i-c/\f 0=bO g n cap/\f 1=au (c:Int)/\f 2=au (i:Int)/\f 3=au (N:Int)/\f 8 = .bool O/\f 9 = .bool wp/\Fx.Own A B 23 1 (bO g n cap) n (rv .u64 (gA v))/\Below B w A) (b-a) ⟨a,b,lim,d,true,true,hn,hBel,(fun R U J=>⟨U,J⟩),(by omega),rfl,(by rfl),Fx.ic,Fx.ic,Fx.ic,(by rfl),(by rfl),h,(Below.refl B w)⟩ ?_;rintro kk f1 w1 ⟨c,i,N,v,O,wp,hk,hBl,K,awt,hkk,U,J,h3,h4,h5,h6,m1,S⟩;refine Wb<|ay<|aW h3<|aW J<|Lv (au ((i:Int)-(c:Int))) gN<|av (au ((i:Int)-(c:Int)))<|aD<|Ws<|ay<|av (au ((i:Int)-(c:Int))) ?_;by_cases c23:((i:Int)-(c:Int))<=12
 ·refine Lv aG (nN c23)<|aD<|aM<|ay<|aW U<|aW J<|aW h3<|dU (acQ c i (by omega) (by omega) B g n cap v _ m1 (m_ r S.size) hk x (by omega) (by omega)) (ax := #[bO g n cap,au (c:Int),au (i:Int)]) _ rfl ?_;rintro w2 ⟨m2,hb1⟩;have b2:=S.trans hb1;refine aD (Wr (sR (bM (pE (bM (⟨.tuple #[],jd Tryz.results163,?_⟩))))));have Y:=(Sort.insertionSort_holds Sort.swo_ltInt v c i (by omega) (by omega));have M:=K _ Y.1 Y.2;exact⟨_,rfl,Y.1.1.trans hk,M.1,M.2,m2,b2⟩
 refine Lv aF (oh c23)<|aD<|aK<|Wk<|sN<|Ws<|ay<|aW h4 ?_;by_cases c29:(N:Int)=0
 ·refine Lv aG (dP c29)<|aD<|aM<|ay<|aW U<|aW J<|aW h3<|dU (Yv c i (by omega) (by omega) B g n cap v _ m1 (m_ r S.size) hk x (by omega) (by omega)) (ax := #[bO g n cap,au (c:Int),au (i:Int)]) _ rfl ?_;rintro w3 ⟨m3,hb2⟩;have b3:=S.trans hb2;refine aD (Wr (sR (bM (pE (bM (⟨.tuple #[],jd Tryz.results163,?_⟩))))));have Y:=(Sort.heapSort_holds Sort.swo_ltInt v c i (by omega) (by omega));have M:=K _ Y.1 Y.2;exact⟨_,rfl,Y.1.1.trans hk,M.1,M.2,m3,b3⟩
 refine Lv aF (eO c29)<|aD<|aK<|Wk<|sN<|zn (fun f A => ∃ p:Nat,∃ I:Array Int,I.size=n/\Sort.PermIn c i v I/\p<=1000/\f 0=bO g n cap/\f 1=au (c:Int)/\f 2=au (i:Int)/\f 3=au (p:Int)/\f 8 = .bool O/\f 9 = .bool wp/\f 10=au ((i:Int)-(c:Int))/\Fx.Own A B 23 1 (bO g n cap) n (rv .u64 (gA I))/\Below B w A) ?_ ?_
 ·refine ay ?_;by_cases c34:O=true
  ·refine aW (h5.trans (L_ Value.bool c34))<|av aF<|aD<|aK<|Wk ?_;exact nE ⟨N,v,hk,(Sort.permIn_refl _ _ _),(by omega),U,(J.trans Fx.ic),(h3.trans Fx.ic),(h4.trans Fx.ic),h5,h6,Fx.ic,m1,S⟩
  rw[T_]at c34;refine aW (h5.trans (L_ Value.bool c34))<|av aG<|aD<|aM<|ay<|aW U<|aW J<|aW h3<|kU (ahb c i B g n cap v _ m1 (m_ r S.size) hk x (by omega) (by omega) V) ?_;rintro D w4 ⟨dn1,l,hz1,hP1,m4,hb3⟩;have b4:=S.trans hb3;refine⟨_,l,?_⟩;clear l;refine aD<|Wl<|aW h4<|Lv (au ((N:Int)-1)) gN<|av (au ((N:Int)-1))<|Ln ?_;exact nE ⟨N-1,dn1,hz1,hP1,(by omega),U,(J.trans Fx.ic),(h3.trans Fx.ic),Fx.ic,h5,h6,Fx.ic,m4,b4⟩
 rintro f2 w5 ⟨p,I,hk1,hP1,hl2,h7,h8,h9,h10,h11,h12,JC,m5,b5⟩;refine ay<|aW h7<|aW h8<|aW h9<|kU (ahd c i B g n cap I _ m5 (m_ r b5.size) hk1 x (by omega) (by omega) V) ?_;rintro D w6 ⟨H,ht1,l,hu1,G,m6,hb4⟩;have b6:=b5.trans hb4;refine⟨_,l,?_⟩;clear l;refine av (.tuple #[au (H:Int),au ht1])<|av (au H)<|av (au ht1)<|av (au H)<|av (au ht1)<|aD<|zn (fun f A => ∃ q:Nat,∃ hint:Int,∃ o:Array Int,o.size=n/\Sort.PermIn c i v o/\(c<=q/\q<i)/\f 0=bO g n cap/\f 1=au (c:Int)/\f 2=au (i:Int)/\f 3=au (p:Int)/\f 8 = .bool O/\f 9 = .bool wp/\f 10=au ((i:Int)-(c:Int))/\f 11=au (q:Int)/\f 12=au hint/\Fx.Own A B 23 1 (bO g n cap) n (rv .u64 (gA o))/\Below B w A) ?_ ?_
 ·refine ay<|av (au ht1) ?_;by_cases c50:ht1=2
  ·refine Lv aG (dP c50)<|aD<|aM<|ay<|aW h7<|aW h8<|aW h9<|dU (acR c i (by omega) (by omega) B g n cap I _ m6 (m_ r b6.size) hk1 x (by omega) (by omega)) (ax := #[bO g n cap,au (c:Int),au (i:Int)]) _ rfl ?_;rintro w7 ⟨m7,hb5⟩;have b7:=b6.trans hb5;refine aD<|ay<|aW h9<|Lv (au ((i:Int)-1)) gN<|av (au H)<|aW h8<|Lv (au ((H:Int)-(c:Int))) gN<|Lv (au ((c:Int)+(i:Int)-(H:Int)-1)) gN<|av (au ((c:Int)+(i:Int)-(H:Int)-1))<|aD<|Wl<|av (au 1)<|Ln ?_;exact nE ⟨c+i-H-1,1,Sort.reverseRange I c i,((Sort.reverseRange_holds _ _ _ (by omega) (by omega)).1.trans hk1),(Sort.permIn_trans _ _ _ _ _ hP1 (Sort.reverseRange_holds _ _ _ (by omega) (by omega))),(by omega),h7,(h8.trans Fx.ic),(h9.trans Fx.ic),(h10.trans Fx.ic),h11,h12,(JC.trans Fx.ic),Fx.ic,Fx.ic,m7,b7⟩
  refine Lv aF (eO c50)<|aD<|aK<|Wk ?_;exact nE ⟨H,ht1,I,hk1,hP1,(by omega),h7,(h8.trans Fx.ic),(h9.trans Fx.ic),(h10.trans Fx.ic),h11,h12,(JC.trans Fx.ic),Fx.ic,Fx.ic,m6,b6⟩
 rintro f3 w8 ⟨q,hint,o,hk2,F,L,Sc,h15,h16,Yr,h18,h19,h20,h21,h22,m8,b8⟩;obtain⟨hpv1,hpv2⟩:=L;have L:=And.intro hpv1 hpv2;refine zn (fun f A=>f 0=bO g n cap/\f 1=au (c:Int)/\f 2=au (i:Int)/\f 3=au (p:Int)/\f 8 = .bool O/\f 9 = .bool wp/\f 10=au ((i:Int)-(c:Int))/\f 11=au (q:Int)/\Fx.Own A B 23 1 (bO g n cap) n (rv .u64 (gA o))/\Below B w A) ?_ ?_
 ·refine ay ?_;by_cases c61:O=true
  ·refine aW (h18.trans (L_ Value.bool c61))<|av aG ?_;by_cases c63:wp=true
   ·refine aW (h19.trans (L_ Value.bool c63))<|av aG<|av aG<|aW h22 ?_;by_cases c67:hint=1
    ·refine Lv aG (dP c67)<|av aG<|aD<|aM<|ay<|aW Sc<|aW h15<|aW h16<|kU (acK c i B g n cap o _ m8 (m_ r b8.size) hk2 x (by omega) (by omega) V) ?_;rintro D w9 ⟨r1,l,hS1,m9,hb6⟩;have b9:=b8.trans hb6
     rcases r1 with _|_
     ·refine⟨_,l,?_⟩;clear l;refine aD<|aK<|Wk ?_;exact nE ⟨Sc,(h15.trans Fx.ic),(h16.trans Fx.ic),(Yr.trans Fx.ic),h18,h19,(h20.trans Fx.ic),(h21.trans Fx.ic),m9,b9⟩
     refine⟨_,l,?_⟩;clear l;refine aD (aM (Wr (Fx.jnR (bM (pE (bM (⟨.tuple #[],jd Tryz.results163,?_⟩)))))));have M:=K _ F (hS1 rfl);exact⟨_,rfl,hk2,M.1,M.2,m9,b9⟩
    refine Lv aF (eO c67)<|av aF<|aD<|aK<|Wk ?_;exact nE ⟨Sc,(h15.trans Fx.ic),(h16.trans Fx.ic),(Yr.trans Fx.ic),h18,h19,(h20.trans Fx.ic),(h21.trans Fx.ic),m8,b8⟩
   rw[T_]at c63;refine aW (h19.trans (L_ Value.bool c63))<|av aF<|av aF<|bF<|bF<|av aF<|aD<|aK<|Wk ?_;exact nE ⟨Sc,(h15.trans Fx.ic),(h16.trans Fx.ic),(Yr.trans Fx.ic),h18,h19,(h20.trans Fx.ic),(h21.trans Fx.ic),m8,b8⟩
  rw[T_]at c61;refine aW (h18.trans (L_ Value.bool c61))<|av aF<|bF<|av aF<|av aF<|bF<|bF<|av aF<|aD<|aK<|Wk ?_;exact nE ⟨Sc,(h15.trans Fx.ic),(h16.trans Fx.ic),(Yr.trans Fx.ic),h18,h19,(h20.trans Fx.ic),(h21.trans Fx.ic),m8,b8⟩
 rintro f4 rW ⟨s,y,C,E,h27,h28,h29,h30,m10,b10⟩;refine Ws<|Ws ?_;refine mF<|eF y ?_;by_cases c74:0<(c:Int)
 ·refine Qv aG (fun v1 G=>mo c74)<|aU aG<|eF s<|eF y<|Qv (au ((c:Int)-1)) (fun v1 G=>gN)<|Qv (pf g (c-1)) (fun v1 G=>dh 1)<|Qv (aC ((gA o) (c-1))) (fun v1 G=>aL (m10.cb G) (c-1))<|eF s<|eF h30<|Qv (pf g q) (fun v1 G=>dh 1)<|Qv (aC ((gA o) q)) (fun v1 G=>aL (m10.cb G) q) ?_;by_cases c85:(decide ((gA o) (c-1)<(gA o) q))=true
  ·refine qQ (fun _ _=>dX ((gA o) (c-1)) ((gA o) q) _) aG (by rw[c85])<|aU aF<|aU aF<|Qn ?_;intro TH pG;have m11:=bD pG m10;have b11:=fA pG b10 r;refine sN<|aK<|Wk<|sN<|ay<|aW s<|aW y<|aW C<|aW h30<|kU (ahe c i q B g n cap o _ m11 (m_ r b11.size) hk2 x (by omega) (by omega) (by omega)) ?_;rintro D Ec ⟨j,P,dn2,l,hu2,hv2,hz2,m12,hb7⟩;have b12:=b11.trans hb7;have hx:Sort.partition Sort.ltInt o c i q=(j,(Sort.partition Sort.ltInt o c i q).2.1,dn2):=Prod.ext hu2 (Prod.ext rfl hv2);obtain⟨r1,r2,r3,r4,r5,r6,r7⟩:=Sort.round_part Sort.swo_ltInt (Sort.partition_holds _) L.1 L.2 (by omega) (hBl.perm (by omega) F) hx;clear hx;refine⟨_,l,?_⟩;clear l;refine av (.tuple #[au (j:Int),.bool P])<|av (au j)<|av (.bool P)<|av (au j)<|av (.bool P)<|aD<|ay<|av (.bool P)<|av (.bool P)<|aD<|ay<|av (au j)<|aW y<|Lv (au ((j:Int)-(c:Int))) gN<|aW C<|av (au j)<|Lv (au ((i:Int)-(j:Int))) gN<|av (au ((j:Int)-(c:Int)))<|av (au ((i:Int)-(j:Int)))<|aD<|ay<|aW h29<|Lv (au ((i-c) / 8:Nat)) (Fx.Du rfl rfl rfl (by omega) (je (by omega) (by rw[Int.tdiv_eq_ediv_of_nonneg (by omega)]; omega)))<|av (au ((i-c) / 8:Nat))<|aD<|ay<|av (au ((j:Int)-(c:Int)))<|av (au ((i:Int)-(j:Int))) ?_;by_cases Um:((j:Int)-(c:Int))<((i:Int)-(j:Int))
   ·refine Lv aG (gY Um)<|aD<|aM<|ay<|av (au ((j:Int)-(c:Int)))<|av (au ((i-c) / 8:Nat))<|Lv (.bool (decide (((i-c) / 8:Nat)<=((j:Int)-(c:Int))))) (Fx.ES rfl rfl rfl)<|av (.bool (decide (((i-c) / 8:Nat)<=((j:Int)-(c:Int)))))<|aD<|ay<|aW s<|aW y<|av (au j)<|aW E<|kU (ih _ _ _ c j p B g n cap dn2 _ m12 (m_ r b12.size) hz2 x V (by omega) (by omega) (by omega) r4 (by omega) (by omega) (by omega) (by omega)) (ax := #[bO g n cap,au (c:Int),au (j:Int),au (p:Int)]) ?_;rintro D Bd ⟨T,l,Z,W,X,m13,hb8⟩;refine⟨_,l,?_⟩;clear l;have b13:=b12.trans hb8;obtain⟨q1,z⟩:=r6 _ W X;refine aD (Wl (av (au j) (Lv (au ((j:Int)+1)) fH (av (au ((j:Int)+1)) (Ln (bS (iG ⟨i-(j+1),(by omega),j+1,i,p,T,(decide (((i-c) / 8:Nat)<=((j:Int)-(c:Int)))),(P),Z,q1,(fun R t u=>K R (Sort.permIn_trans _ _ _ _ _ F (z R t u).1) (z R t u).2),(by omega),rfl,s,Fx.ic,(C.trans Fx.ic),(E.trans Fx.ic),(by rfl),(by rfl),m13,b13⟩ (by decide))))))))
   refine Lv aF (gZ Um)<|aD<|aK<|ay<|av (au ((i:Int)-(j:Int)))<|av (au ((i-c) / 8:Nat))<|Lv (.bool (decide (((i-c) / 8:Nat)<=((i:Int)-(j:Int))))) (Fx.ES rfl rfl rfl)<|av (.bool (decide (((i-c) / 8:Nat)<=((i:Int)-(j:Int)))))<|aD<|ay<|aW s<|av (au j)<|Lv (au ((j:Int)+1)) fH<|aW C<|aW E<|kU (ih _ _ _ (j+1) i p B g n cap dn2 _ m12 (m_ r b12.size) hz2 x V (by omega) (by omega) (by omega) r5 (by omega) (by omega) (by omega) (by omega)) (ax := #[bO g n cap,au ((j:Int)+1),au (i:Int),au (p:Int)]) ?_;rintro D Fh ⟨T,l,Z,W,X,m14,hb9⟩;refine⟨_,l,?_⟩;clear l;have b14:=b12.trans hb9;obtain⟨q1,z⟩:=r7 _ W X;refine aD (Wl (av (au j) (av (au j) (Ln (bS (iG ⟨j-c,(by omega),c,j,p,T,(decide (((i-c) / 8:Nat)<=((i:Int)-(j:Int)))),(P),Z,q1,(fun R t u=>K R (Sort.permIn_trans _ _ _ _ _ F (z R t u).1) (z R t u).2),(by omega),rfl,s,(y.trans Fx.ic),Fx.ic,(E.trans Fx.ic),(by rfl),(by rfl),m14,b14⟩ (by decide)))))))
  rw[T_]at c85;refine qQ (fun _ _=>dX ((gA o) (c-1)) ((gA o) q) _) aF (by rw[c85])<|aU aG<|aU aG<|Qn ?_;intro Yp uG;have m15:=bD uG m10;have b15:=fA uG b10 r;refine sN<|aM<|ay<|aW s<|aW y<|aW C<|aW h30<|kU (amk c i q B g n cap o _ m15 (m_ r b15.size) hk2 x (by omega) (by omega) (by omega)) ?_;rintro D K8 ⟨Un,dn3,l,hx1,hz3,m16,amE⟩;have b16:=b15.trans amE;obtain⟨r1,r2,r3,r4,r5⟩:=Sort.round_eq Sort.swo_ltInt (Sort.partitionEqual_holds _) (by omega) L.1 L.2 (by omega) (hBl.perm (by omega) F) (xO (j_ c85)) hx1;refine⟨_,l,?_⟩;clear l;refine av (au Un) (aD (ay (av (au Un) (av (au Un) (aD (Wx (cB (bZ (iG ⟨i-Un,(by omega),Un,i,p,dn3,(O),(wp),hz3,r4,(fun R t u=>K R (Sort.permIn_trans _ _ _ _ _ F (r5 R t u).1) (r5 R t u).2),(by omega),rfl,s,Fx.ic,(C.trans Fx.ic),(E.trans Fx.ic),h27,h28,m16,b16⟩ (by decide))))))))))
 refine Qv aF (fun v1 G=>mD c74)<|aU aF<|aS<|aS<|aS<|aS<|aS<|aS<|aS<|aS<|aS<|aS<|aS<|aU aF<|Qn ?_;intro wb3 xP;have m17:=bD xP m10;have b17:=fA xP b10 r;refine sN<|aK<|Wk<|sN<|ay<|aW s<|aW y<|aW C<|aW h30<|kU (ahe c i q B g n cap o _ m17 (m_ r b17.size) hk2 x (by omega) (by omega) (by omega)) ?_;rintro D Kv ⟨k,Q,dn4,l,hu3,hv3,hz4,m18,amG⟩;have b18:=b17.trans amG;have hx:Sort.partition Sort.ltInt o c i q=(k,(Sort.partition Sort.ltInt o c i q).2.1,dn4):=Prod.ext hu3 (Prod.ext rfl hv3);obtain⟨r1,r2,r3,r4,r5,r6,r7⟩:=Sort.round_part Sort.swo_ltInt (Sort.partition_holds _) L.1 L.2 (by omega) (hBl.perm (by omega) F) hx;clear hx;refine⟨_,l,?_⟩;clear l;refine av (.tuple #[au (k:Int),.bool Q])<|av (au k)<|av (.bool Q)<|av (au k)<|av (.bool Q)<|aD<|ay<|av (.bool Q)<|av (.bool Q)<|aD<|ay<|av (au k)<|aW y<|Lv (au ((k:Int)-(c:Int))) gN<|aW C<|av (au k)<|Lv (au ((i:Int)-(k:Int))) gN<|av (au ((k:Int)-(c:Int)))<|av (au ((i:Int)-(k:Int)))<|aD<|ay<|aW h29<|Lv (au ((i-c) / 8:Nat)) (Fx.Du rfl rfl rfl (by omega) (je (by omega) (by rw[Int.tdiv_eq_ediv_of_nonneg (by omega)]; omega)))<|av (au ((i-c) / 8:Nat))<|aD<|ay<|av (au ((k:Int)-(c:Int)))<|av (au ((i:Int)-(k:Int))) ?_;by_cases Um:((k:Int)-(c:Int))<((i:Int)-(k:Int))
 ·refine Lv aG (gY Um)<|aD<|aM<|ay<|av (au ((k:Int)-(c:Int)))<|av (au ((i-c) / 8:Nat))<|Lv (.bool (decide (((i-c) / 8:Nat)<=((k:Int)-(c:Int))))) (Fx.ES rfl rfl rfl)<|av (.bool (decide (((i-c) / 8:Nat)<=((k:Int)-(c:Int)))))<|aD<|ay<|aW s<|aW y<|av (au k)<|aW E<|kU (ih _ _ _ c k p B g n cap dn4 _ m18 (m_ r b18.size) hz4 x V (by omega) (by omega) (by omega) r4 (by omega) (by omega) (by omega) (by omega)) (ax := #[bO g n cap,au (c:Int),au (k:Int),au (p:Int)]) ?_;rintro D w16 ⟨T,l,Z,W,X,m19,amH⟩;refine⟨_,l,?_⟩;clear l;have b19:=b18.trans amH;obtain⟨q1,z⟩:=r6 _ W X;refine aD (Wl (av (au k) (Lv (au ((k:Int)+1)) fH (av (au ((k:Int)+1)) (Ln (bS (iG ⟨i-(k+1),(by omega),k+1,i,p,T,(decide (((i-c) / 8:Nat)<=((k:Int)-(c:Int)))),(Q),Z,q1,(fun R t u=>K R (Sort.permIn_trans _ _ _ _ _ F (z R t u).1) (z R t u).2),(by omega),rfl,s,Fx.ic,(C.trans Fx.ic),(E.trans Fx.ic),(by rfl),(by rfl),m19,b19⟩ (by decide))))))))
 refine Lv aF (gZ Um)<|aD<|aK<|ay<|av (au ((i:Int)-(k:Int)))<|av (au ((i-c) / 8:Nat))<|Lv (.bool (decide (((i-c) / 8:Nat)<=((i:Int)-(k:Int))))) (Fx.ES rfl rfl rfl)<|av (.bool (decide (((i-c) / 8:Nat)<=((i:Int)-(k:Int)))))<|aD<|ay<|aW s<|av (au k)<|Lv (au ((k:Int)+1)) fH<|aW C<|aW E<|kU (ih _ _ _ (k+1) i p B g n cap dn4 _ m18 (m_ r b18.size) hz4 x V (by omega) (by omega) (by omega) r5 (by omega) (by omega) (by omega) (by omega)) (ax := #[bO g n cap,au ((k:Int)+1),au (i:Int),au (p:Int)]) ?_;rintro D Sd ⟨T,l,Z,W,X,m20,amI⟩;refine⟨_,l,?_⟩;clear l;have b20:=b18.trans amI;obtain⟨q1,z⟩:=r7 _ W X;refine aD (Wl (av (au k) (av (au k) (Ln (bS (iG ⟨k-c,(by omega),c,k,p,T,(decide (((i-c) / 8:Nat)<=((i:Int)-(k:Int)))),(Q),Z,q1,(fun R t u=>K R (Sort.permIn_trans _ _ _ _ _ F (z R t u).1) (z R t u).2),(by omega),rfl,s,(y.trans Fx.ic),Fx.ic,(E.trans Fx.ic),(by rfl),(by rfl),m20,b20⟩ (by decide)))))))
end
section
open Rt
theorem abb : ∀ m,aaZ m
 | 0=>by
   intro v x y a b u B g n c d w h k s t j q o p l e f i r;omega
 | m+1=>by
   intro v x y a b u B g n c d w h k s t j q o p l e f i r;subst e f i;exact acS m (abb m) a b u B g n c d w h k s t j q o p l r
theorem Yw(B g n cap:Nat)(d:Array Int)(w:World)(h:Fx.Own w B 23 1 (bO g n cap) n (rv .u64 (gA d)))(j:B<=w.heap.size)(o:d.size=n)(p:n<=1000)(i:n<50) :
 Calls Tryz.prog 128 #[bO g n cap] w fun e w' => ∃ a:Array Int,e = .returned (.tuple #[])/\a.size=n/\Sort.PermIn 0 n d a/\Sort.SortedIn Sort.ltInt 0 n a/\Fx.Own w' B 23 1 (bO g n cap) n (rv .u64 (gA a))/\Below B w w':=by
 have t:=Pf (show n<64 by omega);refine Kent Tryz.func128 11 ?_;refine ay<|av (bO g n cap)<|av (au n)<|av (au n)<|aD<|Wl<|av (bO g n cap)<|av (au n)<|av (au n)<|Lv (aC n) (dD rfl rfl (by kernel_rfl) Tryz.underlying161 (jU (by omega) rfl))<|mE (TJ n _ (by omega)) _ rfl<|kU (abb (n+1) _ _ _ 0 n (Sort.bitsLen n) B g n cap d _ h (m_ j (Below.refl B w).size) o p i (by omega) (by omega) (by omega) (.inl rfl) rfl rfl rfl (by omega)) (ax := #[bO g n cap,au 0,au (n:Int),au (Sort.bitsLen n:Int)]) ?_;rintro s u ⟨f,b,q,k,l,r,m⟩;refine⟨_,b,?_⟩;clear b;have c:=(Below.refl B w).trans m;refine Ln (⟨.tuple #[],jd Tryz.results128,?_⟩);exact⟨f,rfl,q,k,l,r,c⟩
theorem acU(w:World) :
 Calls Tryz.prog 176 #[.slice none 0 0,au 0,au 0] w fun e w'=>e = .returned (.tuple #[])/\Below w.heap.size w w':=by
 refine Kent Tryz.func176 49 ?_;refine ay<|av (au 0)<|Lv (au 1) fH<|av (au 1)<|aD<|Wb<|Wo (fun f d=>f 1=au 0/\f 2=au 0/\f 6=au 1/\Below w.heap.size w d) (fun f _=>0) ⟨Fx.ic,Fx.ic,Fx.ic,(Below.refl w.heap.size w)⟩ ?_;rintro g i ⟨h,b,c,a⟩;refine Ws (ay (aW c (aW b (Lv aF HY (aD (aK (Wx (cB (gW (bZ (⟨.tuple #[],jd Tryz.results176,?_⟩)))))))))));exact⟨rfl,a⟩
theorem acV(w:World) :
 Calls Tryz.prog 163 #[.slice none 0 0,au 0,au 0,au 0] w fun e w'=>e = .returned (.tuple #[])/\Below w.heap.size w w':=by
 refine Kent Tryz.func163 134 ?_;refine ay<|av aG<|aD<|ay<|av aG<|aD<|Wb<|Wo (fun f i=>f 0 = .slice none 0 0/\f 1=au 0/\f 2=au 0/\Below w.heap.size w i) (fun f _=>0) ⟨(by rfl),Fx.ic,Fx.ic,(Below.refl w.heap.size w)⟩ ?_;rintro j k ⟨g,a,b,c⟩;refine Wb<|ay<|aW b<|aW a<|Lv (au 0) gN<|av (au 0)<|aD<|Ws<|ay<|av (au 0)<|Lv aG agF<|aD<|aM<|ay<|aW g<|aW a<|aW b<|dU (acU _) _ rfl ?_;intro l h;have d:=bD h c;refine aD (Wr (sR (bM (pE (bM (⟨.tuple #[],jd Tryz.results163,?_⟩))))));exact⟨rfl,d⟩
theorem acW(w:World):Calls Tryz.prog 87 #[aC 0] w fun e w'=>e = .returned (au 0)/\w'=w:=TJ 0 w (by omega)
theorem Yx(w:World) :
 Calls Tryz.prog 128 #[.slice none 0 0] w fun e w'=>e = .returned (.tuple #[])/\Below w.heap.size w w':=by
 refine Kent Tryz.func128 11 ?_;refine ay<|av (.slice none 0 0)<|av (au 0)<|av (au 0)<|aD<|Wl<|av (.slice none 0 0)<|av (au 0)<|av (au 0)<|Lv (aC 0) (dD rfl rfl (by kernel_rfl) Tryz.underlying161 (jU (by omega) rfl))<|mE (acW _) _ rfl<|dU (acV _) _ rfl ?_;intro c b;have a:=bD b (Below.refl w.heap.size w);refine Ln (⟨.tuple #[],jd Tryz.results128,?_⟩);exact⟨rfl,a⟩
theorem acX{w:World}{B n cap:Nat}{a:Option Addr}{d:Array Int}(h:Fx.Own w B 23 1 (.slice a n cap) n (rv .u64 (gA d)))(f:B<=w.heap.size)(k:d.size=n)(p:n<50) :
 Calls Tryz.prog 128 #[.slice a n cap] w fun e w' => ∃ b:Array Int,e = .returned (.tuple #[])/\b.size=n/\Sort.PermIn 0 n d b/\Sort.SortedIn Sort.ltInt 0 n b/\Fx.Own w' B 23 1 (.slice a n cap) n (rv .u64 (gA b))/\Below B w w':=by
 rcases h.2 with ⟨c,l⟩|⟨g,c2,cur,c,_⟩
 ·subst l
  cases c
  exact(Yx w).mono fun e w' ⟨m,o⟩=>⟨d,m,k,Sort.permIn_refl _ _ _,fun i j _ q r=>by omega,xM _ _ _ _ _,o.mono f⟩
 simp only[Value.slice.injEq]at c;obtain⟨rfl,_,rfl⟩:=c;exact Yw B g n cap d w h f k (by omega) p
end
end Go.Proofs.YtcbedgfikejkoaaGreatDoor
namespace Go.Proofs.YtcbedgfikejkoaaGreatDoor
open Go.RowKit Go
namespace Rt
def dT(x:Nat->Int)(τ:Nat->Nat)(m:Nat):Array Int:=((List.range m).map fun q=>x (τ q)).toArray
section
variable {n m kk:Nat} {x:Nat->Int} {Q:Int->Prop} {S:Nat->Bool} {τ:Nat->Nat}
theorem Pg:(dT x τ m).size=m:=by unfold dT; simp
theorem acY{q:Nat}(a:q<m):gA (dT x τ m) q=x (τ q):=by
 unfold gA dT;rw[getElem!_pos _ q (by simpa using a)]; simp
theorem ahp : ∀ j,j<m*1->Value.int .u64 (x (τ j))=Fx.rv .u64 (gA (dT x τ m)) j:=fun j a=>by
 show _=Value.int .u64 (gA (dT x τ m) j);rw[acY (by omega)]
theorem acZ{d:Array Int} : ∀ j,j<d.size*1->Fx.rv .u64 (gA d) j=yx d.toList j:=fun j a=>by
 show Value.int .u64 d[j]! = Value.int .u64 (d.toList.getD j 0);rw[getElem!_pos d j (by omega),r_,o_ (by simpa using (show j<d.size by omega))];simp
theorem QM{c:Array Int}(h:Tt n (fun i=>Q (x i)) S m τ kk)(y : ∀ i,i<n->S i=true)(A : ∀ a b,a<n->b<n->x a=x b->a=b)
 (B:Sort.PermIn 0 m (dT x τ m) c) (C:Sort.SortedIn Sort.ltInt 0 m c) (D:c.size=m):c.toList.Pairwise (· < ·) /\ ∀ k,k∈c.toList<->(dZ x n k=true/\Q k):=by
 have u:c.toList.Perm ((List.range m).map fun q=>x (τ q)):=by
  have s:=B.2.2;have v:c.extract 0 m=c:=by rw[<- D]; simp
  have w : ∀ d:Array Int,d.size=m->d.extract 0 m=d:=fun d z=>by rw[<- z]; simp
  rw[v,w _ Pg]at s;exact s
 have t:c.toList.Nodup:=by
  refine(u.nodup_iff).2 ?_;rw[List.Nodup,List.pairwise_iff_getElem];intro i j f g r;simp only[List.getElem_map,List.getElem_range];simp only[List.length_map,List.length_range]at f g;exact fun e=>M_ (h.inj i j f g (A _ _ (h.lt i f) (h.lt j g) e)) (by omega)
 refine⟨?_,fun k => ?_⟩
 ·rw[List.pairwise_iff_getElem];intro i j f g r;simp only[Array.length_toList]at f g;have o:=j_ (C i j (K_ _) r (by omega));rw[getElem!_pos c i f,getElem!_pos c j g]at o;rw[List.Nodup,List.pairwise_iff_getElem]at t;have p:=t i j (by simpa using f) (by simpa using g) r;simp only[Array.getElem_toList]at p ⊢;omega
 rw[u.mem_iff];simp only[List.mem_map,O_];constructor
 ·rintro ⟨q,l,rfl⟩;exact⟨jW (h.lt q l) rfl,h.yes q l⟩
 rintro ⟨o,p⟩;obtain⟨i,f,rfl⟩:=iB o;obtain⟨q,l,rfl⟩:=h.mem i f (y i f) p;exact⟨q,l,rfl⟩
theorem Yy{z:Nat->Value}{i:Nat} : ∀ j,j<(m+1)*1->Fx.iM (fun q=>aC (x (τ q))) (m*1) (Fx.bC z (0*1) 1 (fun _=>aC (x i))) j=aC (x (Fx.aQ τ m i j)):=fun j a=>by
 unfold Fx.iM Fx.bC Fx.aQ;by_cases e:j=m
 ·subst e; rw[b_ (by omega),d_ (by omega),d_ rfl]
 ·rw[d_ (by omega),b_ e]
end
end Rt
open Rt
theorem ada{w:World}{B m cap:Nat}{a:Option Addr}{x:Nat->Int}{τ:Nat->Nat}(h:Fx.Own w B 23 1 (.slice a m cap) m (fun q=>aC (x (τ q))))(n:B<=w.heap.size)(p:m<=32) :
 Calls Tryz.prog 128 #[.slice a m cap] w fun e w'=>e = .returned (.tuple #[]) /\ ∃ b:Array Int,b.size=m/\Sort.PermIn 0 m (dT x τ m) b/\Sort.SortedIn Sort.ltInt 0 m b/\Fx.Own w' B 23 1 (.slice a m cap) m (yx b.toList)/\Below B w w' :=
 (acX (d:=dT x τ m) (h.congr ahp) n Pg (by omega)).mono fun e w' ⟨b,c,f,g,i,k,l⟩=>⟨c,b,f,g,i,k.congr fun j o=>acZ j (by omega),l⟩
end Go.Proofs.YtcbedgfikejkoaaGreatDoor
namespace Go.Proofs.YtcbedgfikejkoaaGreatDoor.Fx
open Go.RowKit
section
variable {P:Program} {n0:Nat} {Q:Post} {f:Nat->Value} {w:World} {ops:Array Oper} {rest:List Oper} {o:Oper}
theorem Own.ahq{B n c s j:Nat}{E:TypeId}{a:Option Addr}{y:Nat->Value}(h:Own w B E s (.slice a n c) n y)(e:j<=n):kQ w a j s y:=fun k=>by
 obtain⟨g,i,b,l,m,o,d⟩:=h.form (by omega);simp only[Value.slice.injEq]at b;refine⟨g,0,b.1,fun p f=>d p ?_⟩;exact n_ f (Nat.mul_le_mul_right s e)
theorem Own.weak{B a n s:Nat}{E:TypeId}{v:Value}{y:Nat->Value}(h:Own w B E s v n y)(b:a<=B):Own w a E s v n y:=by
 refine⟨h.1,?_⟩
 rcases h.2 with hn|⟨g,cap,cur,hv,hb,rest⟩
 ·exact .inl hn
 exact .inr ⟨g,cap,cur,hv,m_ b hb,rest⟩
end
end Go.Proofs.YtcbedgfikejkoaaGreatDoor.Fx
namespace Go.Proofs.YtcbedgfikejkoaaGreatDoor
open Go.RowKit Rt
open Fx (Lv sN Ln Ws Wl Wr Wk Wb Wx D8 zX zi zP zQ xM zO rv aP bC aQ Mp bf cells_one unseen bS cB bZ gW iG)
section
open Rt
theorem Uo(x p:Nat->Int)(n tp mb:Nat)(w:World)(U:aP w tp 1 (fun _ => .map (some mb)) 165)(R:Mp w mb n x (fun j=>aC (p j)))(h:Ce n x p) :
 Calls Tryz.prog 84 #[(pt tp),.func (.func 85) #[] #[]] w fun e w' => ∃ a c l,e = .returned (.slice a (List.length l) c)/\Fx.Own w' w.heap.size 23 1 (.slice a l.length c) l.length (yx l)/\l.Pairwise (· < ·)/\(∀ k,k∈l<->(dZ x n k=true/\True))/\l.length<=32/\Below w.heap.size w w':=by
 have hsm:=h.small;refine Kent Tryz.func84 27 ?_;refine ay<|av (.slice none 0 0)<|aD<|Ws<|ay<|av (pt tp)<|Lv aF (Fx.nD rfl rfl rfl (by kernel_rfl))<|aD<|aK<|Wk<|sN<|Ws<|ay<|av (pt tp)<|av (pt tp)<|av (pt tp)<|Lv (.map (some mb)) (aL U.aH 0)<|Fx.L.range (by rfl) rfl rfl rfl R Tryz.underlying108 fun O w1 kM Z s1 z1 => ?_;have⟨m2,m3,b1⟩:=gL s1.old U R (Below.refl w.heap.size w);have qZ:=gI kM;have sF:=Z.lt;refine aD<|Wb ?_;have m4:Fx.Own w1 w.heap.size 23 1 (.slice none 0 0) 0 (fun q=>aC (x ((fun _=>0:Nat->Nat) q))):=xM _ _ _ _ _;refine D8 (fun kk f g => ∃ m:Nat,∃ τ:Nat->Nat,∃ S:Nat->Bool,∃ a:Option Addr,∃ d:Nat,Tt n (fun i=>(fun k=>True) (x i)) S m τ kk/\f 0=(pt tp)/\f 1 = .func (.func 85) #[] #[]/\f 4 = .slice a (m) (d)/\f 12=(pt O)/\aP g tp 1 (fun _ => .map (some mb)) 165/\Mp g mb n x (fun j=>aC (p j))/\Fx.It g O mb n S/\Fx.Own g w.heap.size 23 1 (.slice a (m) (d)) m (fun q=>aC (x (τ q)))/\Below w.heap.size w g) (unseen (fun _=>false) n) ⟨0,(fun _=>0),(fun _=>false),none,0,(Tt.start n _ _),(by rfl),(by rfl),(by rfl),(by rfl),m2,m3,Z,m4,b1⟩ ?_;rintro kk N w2 ⟨m,τ,S,a,d,r,P,C,D,E,m5,m6,J,m8,o⟩;have hml:=r.le;refine ay<|Fx.L.next (by rfl) rfl rfl E m6 J (fun tu => ?_)<|fun b w3 G T m9 mc1 s2 z2 => ?_
 ·skip
  refine av aF<|aD<|Ws<|aK<|Wx<|cB<|gW<|bZ<|sN<|ay<|aW D<|dU (ada m8 o.size (by omega)) _ rfl ?_;rintro w4 ⟨M,Y,hp2,hs2,aa,hb1⟩;have b3:=o.trans hb1;refine aD<|ay<|aW D<|av (.slice a (m) (d))<|aD<|Wr<|aJ (.slice a (m) (d)) ?_;obtain⟨N,f2⟩:=QM (Q:=fun k=>True) r tu h.inj hp2 hs2 Y;have X:m<=32:=by omega
  rw[show m=M.toList.length by rw[Array.length_toList]; exact Y.symm]at aa X ⊢;exact⟨a,d,M.toList,rfl,aa,N,f2,X,b3⟩
 skip
 have F:=J.Cm s2;have ab:=m5.eG F;have H:=m6.eG F (J.rb.symm);have ac:=m8.eG F;have K:=s2.below o o.size (by omega);refine av aG<|aD<|Ws<|aM<|Wk<|sN<|Wb<|ay<|Lv (.tuple #[aC (x b),aC (p b)]) (Fx.O6 (key:=x) (val:=fun j=>aC (p j)) (i:=b) rfl E H mc1 G)<|av (aC (x b))<|av (aC (x b))<|aD<|ay<|aW C<|av (aC (x b))<|zX (by rfl) (Fx.Bn (args := [aC (x b)]) rfl rfl rfl (all := #[aC (x b)]) rfl Tryz.func85 rfl rfl) rfl<|(agT _ _).mono ?_;rintro e v1 ⟨V,hv1⟩;subst v1;refine⟨.bool true,by rw[V],?_⟩;clear V;refine aD<|aM<|Wl<|aW D<|av (aC (x b))<|zi (vs := [(0,aC (x b))]) (s:=1) (zc:=rv .u64 (fun _=>0)) (y:=bC (fun j=>(rv .u64 (fun _=>0)) (j % 1)) (0*1) 1 (fun _=>aC (x b))) (by rfl) rfl rfl Tryz.underlying53 (by kernel_rfl) (by rfl) (by rfl) (by kernel_rfl) (by rw[bf (off:=0*1) (s:=1) (y:=fun _=>aC (x b)) rfl (cells_one (by rfl)) (by rfl)]; rfl) rfl fun g2 w5 z ad s3 z3 => ?_;have⟨m15,m16,I,m19,t⟩:=lJ s3.old ab H ac m9 K;have pK:=iw z K.size;have⟨Ct,Uq⟩:=oQ z ab.lt H.lt;have Ur:(.slice a (m) (d):Value).ownBlock≠some g2:=by rw[z]; exact ac.kP (A_ _)
 have xR:=ad.lt;refine zP (B:=w.heap.size) (s:=1) (bytes:=8) (k:=m) (m:=1) (v := .slice a (m) (d)) (x:=fun q=>aC (x (τ q))) (by rfl) rfl rfl rfl Tryz.underlying53 (by kernel_rfl) (by kernel_rfl) rfl rfl I ad.aH (fun j hj=>by unfold bC; split <;> rfl) (by omega) (by omega) (by omega) t.size fun A u w6 ho1 W wR hlt1 => ?_
 have fO:=zQ W I;have⟨m21,m22,m24⟩:=Bp fO m15 m16 m19;have m20:Fx.Own w6 w.heap.size 23 1 (bO A (m+1) u) (m+1) (fun q=>aC (x (aQ τ m b q))):=(ho1.congr Yy);have b6:Below w.heap.size w w6:=zO t W t.size (fun q hq=>(I.ge hq).1);refine av (bO A (m+1) u)<|Ln<|bS ?_
 skip
 refine iG ⟨unseen (aQ S b true) n,(by have P:=Fx.pV T n G; have C:=r.kk; omega),m+1,aQ τ m b,aQ S b true,(some ⟨A,0,none⟩),u,(r.take G T trivial),P,C,(by rfl),E,m21,m22,m24,m20,b6⟩ (by decide)
theorem adb(x p:Nat->Int)(n tp mb:Nat)(w:World)(o:aP w tp 1 (fun _ => .map (some mb)) 165)(m:Mp w mb n x (fun j=>aC (p j)))(h:Ce n x p) :
 Calls Tryz.prog 46 #[(pt tp)] w fun e w' => ∃ a c l,e = .returned (.slice a (List.length l) c)/\Fx.Own w' w.heap.size 23 1 (.slice a l.length c) l.length (yx l)/\l.Pairwise (· < ·)/\(∀ k,k∈l<->(dZ x n k=true/\True))/\l.length<=32/\Below w.heap.size w w':=by
 refine Kent Tryz.func46 5 ?_;refine ay<|av (.slice none 0 0)<|aD<|ay<|av (pt tp)<|kU (Uo x p n tp mb _ o m h) ?_;rintro v y ⟨b,d,f,i,u,r,s,t,q⟩;refine⟨_,i,?_⟩;clear i;have g:=bD q (Below.refl w.heap.size w);refine av (.slice b (f.length) (d))<|aD<|Wr<|aJ (.slice b (f.length) (d)) ?_;exact⟨b,d,f,rfl,u.weak (by have:=g.size; first|exact A_ _|exact(Below.refl w.heap.size w).size),r,s,t,g⟩
end
end Go.Proofs.YtcbedgfikejkoaaGreatDoor
namespace Go.Proofs.YtcbedgfikejkoaaGreatDoor
open Go.RowKit Go Rt
namespace Rt
structure dS where
 n:Nat
 x:Nat->Int
 p:Nat->Int
def dS.zero:dS:=⟨0,fun _=>0,fun _=>0⟩
def dS.has(T:dS)(k:Int):Bool:=dZ T.x T.n k
def dS.par(T:dS)(k:Int):Int:=iO T.x T.p T.n k
def dS.path(T:dS)(k:Int):List Int:=jO T.x T.p T.n 4 k
def dS.err(T:dS)(id pa:Int):Int:=rU T.x T.p T.n id pa
def dS.put(T:dS)(id pa:Int):dS:=⟨T.n+1,Fx.aQ T.x T.n id,Fx.aQ T.p T.n pa⟩
def dS.add(T:dS)(id pa:Int):dS:=if T.err id pa=0 then T.put id pa else T
abbrev dS.ok(T:dS):Prop:=Ce T.n T.x T.p
theorem dS.JD{T:dS}(h:T.ok){id pa:Int}(a:0<=id/\id<=18446744073709551615):(T.add id pa).ok:=by
 unfold dS.add;split
 ·rename_i hc; exact Ce.put h hc a
 exact h
structure tC(w:World)(B tp mb:Nat)(T:dS):Prop where
 blk:Fx.aP w tp 1 (fun _ => .map (some mb)) 165
 map:Fx.Mp w mb T.n T.x (fun j => .int .u64 (T.p j))
 inv:T.ok
 gt:B<=tp
 gm:B<=mb
section
variable {w w':World} {B tp mb r:Nat} {T:dS} {id pa k:Int}
theorem tC.up(h:tC w B tp mb T)(a:Below w.heap.size w w'):tC w' B tp mb T:=⟨h.blk.bW (Fx.Sb a) (u_ h.blk.lt),h.map.up a,h.inv,h.gt,h.gm⟩
instance:Rt.Tr w w' (tC w B tp mb T) (tC w' B tp mb T):=⟨fun b h=>h.up b⟩
theorem tC.lu{a:List TypeId}(h:tC w B tp mb T)(b:Fx.jm a w w')(h1:a.contains 165=false):tC w' B tp mb T:=⟨h.blk.lu b h1,h.map.lu b trivial,h.inv,h.gt,h.gm⟩
instance {a:List TypeId}:Rt.Tc a w w' (tC w B tp mb T) (tC w' B tp mb T) (!(a.contains 165)):=⟨fun b h e=>h.lu b (by simpa using e)⟩
theorem tC.Cm(h:tC w B tp mb T)(a:Fx.Stp mb w w'):Fx.QG mb w w':=h.map.Cm a
theorem tC.eG(h:tC w B tp mb T)(a:Fx.QG r w w')(b:mb≠r):tC w' B tp mb T:=⟨h.blk.eG a,h.map.eG a b,h.inv,h.gt,h.gm⟩
theorem tC.weak{a:Nat}(h:tC w B tp mb T)(b:a<=B):tC w a tp mb T:=⟨h.blk,h.map,h.inv,m_ b h.gt,m_ b h.gm⟩
theorem tC.lt(h:tC w B tp mb T):mb<w.heap.size:=h.map.lt
end
end Rt
theorem abd(w:World):Calls Tryz.prog 58 #[] w fun e w' => ∃ tp mb,e = .returned (.pointer (some ⟨tp,0,none⟩))/\w.heap.size<=mb/\tC w' w.heap.size tp mb dS.zero/\Below w.heap.size w w' :=
 (agR (fun _=>0) (fun _=>0) w).mono fun e w' ⟨tp,mb,b,c,a,d,f,g⟩=>⟨tp,mb,b,a,⟨d,f,Ce.zero _ _,c,a⟩,g⟩
theorem Lb{w:World}{B tp mb:Nat}{T:dS}(id pa:Int)(h:tC w B tp mb T)(i:0<=id/\id<=18446744073709551615) :
 Calls Tryz.prog 217 #[.pointer (some ⟨tp,0,none⟩),.int .u64 id,.int .u64 pa] w fun e w'=>e = .returned (.int .i64 (T.err id pa))/\tC w' B tp mb (T.add id pa)/\Fx.Stp mb w w' :=
 (agS T.x T.p T.n tp mb id pa w h.blk h.map h.inv).mono fun e w' ⟨c,k,m,l,b,j,d,f,g⟩=>by
  cases j with
  | no a h0 =>
    have a:T.err id pa=c:=a;subst a;refine⟨b,⟨d,?_,dS.JD h.inv i,h.gt,h.gm⟩,g⟩;unfold dS.add;rw[b_ h0]; exact f
  | yes a =>
    have a:T.err id pa=0:=a;refine⟨by rw[a]; exact b,⟨d,?_,dS.JD h.inv i,h.gt,h.gm⟩,g⟩;unfold dS.add;rw[d_ a]; exact f
theorem abe{w:World}{B tp mb:Nat}{T:dS}(k:Int)(h:tC w B tp mb T) :
 Calls Tryz.prog 145 #[.pointer (some ⟨tp,0,none⟩),.int .u64 k] w fun e w'=>e = .returned (.bool (T.has k))/\w'=w:=E9 T.x T.p T.n tp mb k w h.blk h.map
def OwL(w:World)(B:Nat)(a:Option Addr)(c:Nat)(l:List Int):Prop:=Fx.Own w B 23 1 (.slice a l.length c) l.length (yx l)
theorem OwL.up{w w':World}{B c:Nat}{a:Option Addr}{l:List Int}(h:OwL w B a c l)(b:Below w.heap.size w w'):OwL w' B a c l:=Fx.Own.up h b
instance {w w':World} {B c:Nat} {a:Option Addr} {l:List Int}:Rt.Tr w w' (OwL w B a c l) (OwL w' B a c l):=⟨fun b h=>h.up b⟩
theorem NG{w:World}{B tp mb:Nat}{T:dS}(k:Int)(h:tC w B tp mb T) :
 Calls Tryz.prog 59 #[.pointer (some ⟨tp,0,none⟩),.int .u64 k] w fun e w' => ∃ a c,e = .returned (.slice a (T.path k).length c)/\OwL w' w.heap.size a c (T.path k)/\Below w.heap.size w w' :=
 Nz T.x T.p T.n tp mb 4 k w h.blk h.map h.inv.inj (h.inv.stop k) (h.inv.len k)
theorem Ut{w:World}{B tp mb:Nat}{T:dS}(h:tC w B tp mb T) :
 Calls Tryz.prog 46 #[.pointer (some ⟨tp,0,none⟩)] w fun e w' => ∃ a c l,e = .returned (.slice a (List.length l) c)/\OwL w' w.heap.size a c l/\(l.Pairwise (· < ·) /\ ∀ k,k∈l<->T.has k=true)/\l.length<=32/\Below w.heap.size w w' :=
 (adb T.x T.p T.n tp mb w h.blk h.map h.inv).mono fun e w' ⟨a,c,l,b,d,f,g,i⟩=>⟨a,c,l,b,d,⟨f,fun k=>by have:=g k; rw[and_true]at this; exact this⟩,i⟩
namespace Rt
section
variable {T U:dS} {id pa k:Int}
structure vK(U T:dS):Prop where
 has : ∀ k,U.has k=true->T.has k=true
 par : ∀ k,U.has k=true->U.par k=T.par k
theorem dS.jS(T:dS)(id pa k:Int):(T.put id pa).has k=(T.has k || decide (id=k)):=Rt.jS id k
theorem dS.uE(T:dS)(id pa k:Int):(T.put id pa).par k=if id=k then pa else T.par k:=Rt.uE id pa k
end
end Rt
namespace Fx
theorem ade{P:Program}{f:Nat->Value}{w:World}{o:Oper}{T T':TypeId}{x y:Operand}{a b:Nat}(d:o.op = .binOp .or T x y T')(hx:ev f x = .int .u64 (1099511627776*(a:Int)))(hy:ev f y = .int .u64 (b:Int))(ha:a<=8388607)(g:b<1099511627776):Runs P f o w (.int .u64 (1099511627776*(a:Int)+b)) :=
 uw d hx hy (by
  have e:((BitVec.ofInt 64 (1099511627776*(a:Int)) ||| BitVec.ofInt 64 (b:Int)).toNat:Int)=1099511627776*(a:Int)+b:=by
   rw[BitVec.toNat_or,BitVec.toNat_ofInt,BitVec.toNat_ofInt];rw[show((1099511627776*(a:Int)) % ((2^64:Nat):Int)).toNat=1099511627776*a by omega,show((b:Int) % ((2^64:Nat):Int)).toNat=b by omega];have h:=Nat.shiftLeft_add_eq_or_of_lt (i:=40) (b:=b) (by omega) a;rw[Nat.shiftLeft_eq]at h;rw[show 1099511627776*a=a*2^40 by omega,<- h];omega
  have h:=jU (c:=1099511627776*(a:Int)+b) (by omega) rfl;simp only[binOp,Op.intBits];show(pure (Value.int .u64 (IntKind.u64.wrap ((BitVec.ofInt 64 (1099511627776*(a:Int)) ||| BitVec.ofInt 64 (b:Int)).toNat:Int))):Sem Value).run P w=_;rw[e,h]; rfl)
theorem adf{w:World}{B c:Nat}{a:Option Addr}{l:List Int}(h:OwL w B a c l):Fx.kQ w a l.length 1 (yx l):=Own.ahq h (A_ _)
end Fx
end Go.Proofs.YtcbedgfikejkoaaGreatDoor
namespace Go.Proofs.YtcbedgfikejkoaaGreatDoor
open Go.RowKit Rt
open Fx (dD Lv sN Ln Ws Qv Wl Wr Sb Wk rV sR Wb Wx Wo Wt Qn zi zP D6 qU vw xM zO zn rv aA aP bC Stp aN flat dF aR iV bf down jR kQ bK cells_one jm nE jU iM dI bM bS cB bZ gW iG pE)
namespace Rt
structure EvM where
 o:Int
 seq:Int
 deps:Nat->Int
 kind:Int
 node:Int
 dst:Int
 aT:Int
 req:Int
 of:Int
def bJ(v:EvM):Nat->Value:=fun p=>if p=0 then au v.o else if p=1 then aC v.seq else if p<8 then aC (v.deps (p-2))else if p=8 then .int .u8 v.kind else if p=9 then aC v.node else if p=10 then au v.dst else if p=11 then au v.aT else if p=12 then aC v.req else aC v.of
theorem nu(v:EvM){p j:Nat}(h:p=j+2)(a:j<6):bJ v p=aC (v.deps j):=by
 subst h; unfold bJ; rw[b_ (by omega),b_ (by omega),d_ (by omega),show j+2-2=j by omega]
theorem eH(v:EvM) : ∀ j,j<14->(bJ v j).oneCell'=true:=fun j _=>by unfold bJ; repeat (first|rfl|split)
def jl(i:Int):Bool:=decide (1<=i)&&decide (i<=6)
def lM(v:EvM):EvM :=
 if v.kind=1 then { v with dst:=0,req:=0,of:=0 } else if v.kind=2 then { v with dst:=0,req:=0,of:=0 } else if v.kind=3 then { v with dst:=0,of:=0 }
 else if v.kind=4 then { v with node:=0,dst:=0,aT:=0 } else if v.kind=5 then { v with req:=0,of:=0 } else if v.kind=6 then { v with node:=0,aT:=0,req:=0,of:=0 }
 else { v with node:=0,dst:=0,aT:=0,req:=0,of:=0 }
def someE(v:EvM):Bool:=decide (1<=v.aT)&&decide (v.aT<=1125899906842624)
def mW(v:EvM):Bool:=jl v.dst && !decide (v.dst=v.o)
def dJ(v:EvM):Bool :=
 if v.kind=1 then decide (0<=v.aT)&&decide (v.aT<=1125899906842624)else if v.kind=2 then someE v else if v.kind=3 then someE v&&decide (1<=v.req)
 else if v.kind=4 then decide (1<=v.req)&&decide (1<=v.of) && !decide (v.req=v.of)else if v.kind=5 then someE v&&mW v else if v.kind=6 then mW v else decide (v.kind=7)
end Rt
theorem BF(n:Int)(w:World) :
 Calls Tryz.prog 121 #[au n] w fun e w'=>e = .returned (.bool (jl n))/\w'=w:=by
 refine Kent Tryz.func121 9 ?_;refine ay<|av aF<|aD<|ay<|av (au n) ?_;by_cases a:1<=n
 ·refine Lv aG (lH a)<|av aG<|av (au n) ?_;by_cases b:n<=6
  ·refine Lv aG (nN b)<|av aG<|av aG<|aD<|Wr<|aJ aG ?_;exact⟨iI (by simp only[jl]; first|(symm; simp; omega)|(symm; simp; done)),rfl⟩
  refine Lv aF (oh b)<|av aF<|av aF<|aD<|Wr<|aJ aF ?_;exact⟨iI (by simp only[jl]; first|(symm; simp; omega)|(symm; simp; done)),rfl⟩
 refine Lv aF (kR a)<|av aF<|bF<|bF<|av aF<|av aF<|aD<|Wr<|aJ aF ?_;exact⟨iI (by simp only[jl]; first|(symm; simp; omega)|(symm; simp; done)),rfl⟩
theorem ahr(v:EvM)(w:World) :
 Calls Tryz.prog 122 #[.agg (aA 14 (bJ v))] w fun e w'=>e = .returned (.agg (aA 14 (bJ (lM v))))/\Below w.heap.size w w':=by
 refine Kent Tryz.func122 60 ?_;refine ay<|om fun b w1 kM x s1 z1 => ?_;have U:=bD s1.old (Below.refl w.heap.size w);have qZ:=gI kM;have sF:=x.lt;refine oC 14 (fun i=>(#[au 0,aC 0,aC 0,aC 0,aC 0,aC 0,aC 0,aC 0,.int .u8 (0),aC 0,au 0,au 0,aC 0,aC 0]:Array Value).getD i undef) fun m w2 vB y s2 z2 => ?_;have⟨s,b2⟩:=fC s2.old x U;have pK:=iw vB U.size;have Fj:=cu vB x.lt;have xR:=y.lt;refine aD<|ay<|av (pt b)<|Lv (au v.o) (aL s.aH 0)<|av (pf b 1)<|Lv (aC v.seq) (aL s.aH 1)<|av (pf b 2)<|Lv (.agg (aA 6 (rv .u64 v.deps))) (eT s.aH 2 (fun j c=>nu _ (by omega) c))<|av (pf b 8)<|Lv (.int .u8 (v.kind)) (aL s.aH 8)<|av (.agg (aA 14 (bC (bC (bC (bC (fun i=>(#[au 0,aC 0,aC 0,aC 0,aC 0,aC 0,aC 0,aC 0,.int .u8 (0),aC 0,au 0,au 0,aC 0,aC 0]:Array Value).getD i undef) 0 1 (fun _=>au v.o)) 1 1 (fun _=>aC v.seq)) 2 6 (rv .u64 v.deps)) 8 1 (fun _ => .int .u8 (v.kind)))))<|oC 14 (fun i=>(#[au 0,aC 0,aC 0,aC 0,aC 0,aC 0,aC 0,aC 0,.int .u8 (0),aC 0,au 0,au 0,aC 0,aC 0]:Array Value).getD i undef) fun a w3 uI m4 s3 z3 => ?_;have⟨m5,m6,b3⟩:=gL s3.old s y b2;have Ae:=iw uI b2.size;have⟨Uu,ahs⟩:=oQ uI s.lt y.lt;have Ed:=m4.lt;refine dG m4 0 (h1:=(fun j c=>by rcases j with _|_|_|_|_|_|_|_|_|_|_|_|_|_|j <;> first|rfl|omega)) fun w4 m7 O z4 => ?_
 have m8:aP w4 a 14 (bC (bC (bC (bC (fun i=>(#[au 0,aC 0,aC 0,aC 0,aC 0,aC 0,aC 0,aC 0,.int .u8 (0),aC 0,au 0,au 0,aC 0,aC 0]:Array Value).getD i undef) 0 1 (fun _=>au v.o)) 1 1 (fun _=>aC v.seq)) 2 6 (rv .u64 v.deps)) 8 1 (fun _ => .int .u8 (v.kind))) 37:=aN m7;have k:aP w4 a 14 (bJ ⟨v.o,v.seq,v.deps,v.kind,0,0,0,0,0⟩) 37:=m8.congr (fun j c=>by rcases j with _|_|_|_|_|_|_|_|_|_|_|_|_|_|j <;> first|rfl|omega)
 have f:=m5.bW O (by omega);have n:=m6.bW O (by omega);have d:=O.below b3 b3.size (by omega);refine aD<|Ws<|ay<|av (pf b 8)<|Lv (.int .u8 (v.kind)) (aL f.aH 8)<|aD<|Wb<|Ws<|ay ?_;by_cases g:v.kind=1
 ·refine Lv aG (dP g)<|av aG<|aD<|aM<|Wk<|sN<|aM<|ay<|av (pf b 9)<|Lv (aC v.node) (aL f.aH 9)<|av (pf a 9)<|jv k 9 (aC v.node) fun w5 m12 P z5 => ?_;have m13:aP w5 a 14 (bJ ⟨v.o,v.seq,v.deps,v.kind,v.node,0,0,0,0⟩) 37:=m12.congr (fun j c=>by rcases j with _|_|_|_|_|_|_|_|_|_|_|_|_|_|j <;> first|rfl|omega)
  have m14:=f.bW P (by omega);have m15:=n.bW P (by omega);have b5:=P.below d d.size (by omega);refine aD<|Wl<|av (pf b 11)<|Lv (au v.aT) (aL m14.aH 11)<|av (pf a 11)<|jv m13 11 (au v.aT) fun w6 m16 Q z6 => ?_;have m17:aP w6 a 14 (bJ ⟨v.o,v.seq,v.deps,v.kind,v.node,0,v.aT,0,0⟩) 37:=m16.congr (fun j c=>by rcases j with _|_|_|_|_|_|_|_|_|_|_|_|_|_|j <;> first|rfl|omega)
  have m18:=m14.bW Q (by omega);have m19:=m15.bW Q (by omega);have b6:=Q.below b5 b5.size (by omega);refine Ln<|bS<|sN<|ay<|Lv (.agg (aA 14 (bJ ⟨v.o,v.seq,v.deps,v.kind,v.node,0,v.aT,0,0⟩))) (eT m17.aH 0)<|dG m19 0 (h1:=(eH _)) fun w7 m20 R z7 => ?_;have m21:aP w7 m 14 (bJ ⟨v.o,v.seq,v.deps,v.kind,v.node,0,v.aT,0,0⟩) 37:=aN m20;have m22:=m18.bW R (by omega);have m23:=m17.bW R (by omega);have b7:=R.below b6 b6.size (by omega);refine aD (Wr (⟨.agg (aA 14 (bJ ⟨v.o,v.seq,v.deps,v.kind,v.node,0,v.aT,0,0⟩)),rV Tryz.results122 ⟨_,rfl,aR m21.aH (by kernel_rfl) (by kernel_rfl)⟩,?_⟩));refine⟨L_ (fun q=>Ending.returned (Value.agg q)) (Fx.dO fun i r => ?_),b7⟩;unfold lM; rw[d_ g]
 refine Lv aF (eO g)<|av aF<|aD<|aK<|Wl ?_;by_cases h:v.kind=2
 ·refine Lv aG (dP h)<|av aG<|aD<|aM<|ay<|av (pf b 9)<|Lv (aC v.node) (aL f.aH 9)<|av (pf a 9)<|jv k 9 (aC v.node) fun w8 m24 S z8 => ?_;have mM:aP w8 a 14 (bJ ⟨v.o,v.seq,v.deps,v.kind,v.node,0,0,0,0⟩) 37:=m24.congr (fun j c=>by rcases j with _|_|_|_|_|_|_|_|_|_|_|_|_|_|j <;> first|rfl|omega)
  have mU:=f.bW S (by omega);have oo:=n.bW S (by omega);have b8:=S.below d d.size (by omega);refine aD<|Wl<|av (pf b 11)<|Lv (au v.aT) (aL mU.aH 11)<|av (pf a 11)<|jv mM 11 (au v.aT) fun w9 ou T z9 => ?_;have nG:aP w9 a 14 (bJ ⟨v.o,v.seq,v.deps,v.kind,v.node,0,v.aT,0,0⟩) 37:=ou.congr (fun j c=>by rcases j with _|_|_|_|_|_|_|_|_|_|_|_|_|_|j <;> first|rfl|omega)
  have nk:=mU.bW T (by omega);have lI:=oo.bW T (by omega);have b9:=T.below b8 b8.size (by omega);refine Ln<|bS<|sN<|ay<|Lv (.agg (aA 14 (bJ ⟨v.o,v.seq,v.deps,v.kind,v.node,0,v.aT,0,0⟩))) (eT nG.aH 0)<|dG lI 0 (h1:=(eH _)) fun rW m32 z z10 => ?_;have oU:aP rW m 14 (bJ ⟨v.o,v.seq,v.deps,v.kind,v.node,0,v.aT,0,0⟩) 37:=aN m32;have nH:=nk.bW z (by omega);have nR:=nG.bW z (by omega);have b10:=z.below b9 b9.size (by omega);refine aD (Wr (⟨.agg (aA 14 (bJ ⟨v.o,v.seq,v.deps,v.kind,v.node,0,v.aT,0,0⟩)),rV Tryz.results122 ⟨_,rfl,aR oU.aH (by kernel_rfl) (by kernel_rfl)⟩,?_⟩));refine⟨L_ (fun q=>Ending.returned (Value.agg q)) (Fx.dO fun i r => ?_),b10⟩;unfold lM; rw[b_ g,d_ h]
 refine Lv aF (eO h)<|av aF<|aD<|aK<|ay ?_;by_cases l:v.kind=3
 ·refine Lv aG (dP l)<|av aG<|aD<|aM<|ay<|av (pf b 9)<|Lv (aC v.node) (aL f.aH 9)<|av (pf a 9)<|jv k 9 (aC v.node) fun Ec mO A z11 => ?_;have qy:aP Ec a 14 (bJ ⟨v.o,v.seq,v.deps,v.kind,v.node,0,0,0,0⟩) 37:=mO.congr (fun j c=>by rcases j with _|_|_|_|_|_|_|_|_|_|_|_|_|_|j <;> first|rfl|omega)
  have pX:=f.bW A (by omega);have pY:=n.bW A (by omega);have V:=A.below d d.size (by omega);refine aD<|ay<|av (pf b 11)<|Lv (au v.aT) (aL pX.aH 11)<|av (pf a 11)<|jv qy 11 (au v.aT) fun Bd tZ B z12 => ?_;have mP:aP Bd a 14 (bJ ⟨v.o,v.seq,v.deps,v.kind,v.node,0,v.aT,0,0⟩) 37:=tZ.congr (fun j c=>by rcases j with _|_|_|_|_|_|_|_|_|_|_|_|_|_|j <;> first|rfl|omega)
  have mQ:=pX.bW B (by omega);have mV:=pY.bW B (by omega);have W:=B.below V V.size (by omega);refine aD<|Wl<|av (pf b 12)<|Lv (aC v.req) (aL mQ.aH 12)<|av (pf a 12)<|jv mP 12 (aC v.req) fun Fh pI C z13 => ?_;have qb:aP Fh a 14 (bJ ⟨v.o,v.seq,v.deps,v.kind,v.node,0,v.aT,v.req,0⟩) 37:=pI.congr (fun j c=>by rcases j with _|_|_|_|_|_|_|_|_|_|_|_|_|_|j <;> first|rfl|omega)
  have oV:=mQ.bW C (by omega);have sG:=mV.bW C (by omega);have X:=C.below W W.size (by omega);refine Ln<|bS<|sN<|ay<|Lv (.agg (aA 14 (bJ ⟨v.o,v.seq,v.deps,v.kind,v.node,0,v.aT,v.req,0⟩))) (eT qb.aH 0)<|dG sG 0 (h1:=(eH _)) fun K8 uQ D z14 => ?_;have sH:aP K8 m 14 (bJ ⟨v.o,v.seq,v.deps,v.kind,v.node,0,v.aT,v.req,0⟩) 37:=aN uQ;have qD:=oV.bW D (by omega);have sI:=qb.bW D (by omega);have b14:=D.below X X.size (by omega);refine aD (Wr (⟨.agg (aA 14 (bJ ⟨v.o,v.seq,v.deps,v.kind,v.node,0,v.aT,v.req,0⟩)),rV Tryz.results122 ⟨_,rfl,aR sH.aH (by kernel_rfl) (by kernel_rfl)⟩,?_⟩));refine⟨L_ (fun q=>Ending.returned (Value.agg q)) (Fx.dO fun i r => ?_),b14⟩;unfold lM; rw[b_ g,b_ h,d_ l]
 refine Lv aF (eO l)<|av aF<|aD<|aK<|ay ?_;by_cases p:v.kind=4
 ·refine Lv aG (dP p)<|av aG<|aD<|aM<|ay<|av (pf b 12)<|Lv (aC v.req) (aL f.aH 12)<|av (pf a 12)<|jv k 12 (aC v.req) fun Kv uR E z15 => ?_;have sJ:aP Kv a 14 (bJ ⟨v.o,v.seq,v.deps,v.kind,0,0,0,v.req,0⟩) 37:=uR.congr (fun j c=>by rcases j with _|_|_|_|_|_|_|_|_|_|_|_|_|_|j <;> first|rfl|omega)
  have uS:=f.bW E (by omega);have wo:=n.bW E (by omega);have Y:=E.below d d.size (by omega);refine aD<|Wl<|av (pf b 13)<|Lv (aC v.of) (aL uS.aH 13)<|av (pf a 13)<|jv sJ 13 (aC v.of) fun w16 uf F z16 => ?_;have sK:aP w16 a 14 (bJ ⟨v.o,v.seq,v.deps,v.kind,0,0,0,v.req,v.of⟩) 37:=uf.congr (fun j c=>by rcases j with _|_|_|_|_|_|_|_|_|_|_|_|_|_|j <;> first|rfl|omega)
  have ug:=uS.bW F (by omega);have wS:=wo.bW F (by omega);have Z:=F.below Y Y.size (by omega);refine Ln<|bS<|sN<|ay<|Lv (.agg (aA 14 (bJ ⟨v.o,v.seq,v.deps,v.kind,0,0,0,v.req,v.of⟩))) (eT sK.aH 0)<|dG wS 0 (h1:=(eH _)) fun Sd rz G z17 => ?_;have uo:aP Sd m 14 (bJ ⟨v.o,v.seq,v.deps,v.kind,0,0,0,v.req,v.of⟩) 37:=aN rz;have pJ:=ug.bW G (by omega);have uh:=sK.bW G (by omega);have b17:=G.below Z Z.size (by omega);refine aD (Wr (⟨.agg (aA 14 (bJ ⟨v.o,v.seq,v.deps,v.kind,0,0,0,v.req,v.of⟩)),rV Tryz.results122 ⟨_,rfl,aR uo.aH (by kernel_rfl) (by kernel_rfl)⟩,?_⟩));refine⟨L_ (fun q=>Ending.returned (Value.agg q)) (Fx.dO fun i r => ?_),b17⟩;unfold lM; rw[b_ g,b_ h,b_ l,d_ p]
 refine Lv aF (eO p)<|av aF<|aD<|aK<|ay ?_;by_cases t:v.kind=5
 ·refine Lv aG (dP t)<|av aG<|aD<|aM<|ay<|av (pf b 9)<|Lv (aC v.node) (aL f.aH 9)<|av (pf a 9)<|jv k 9 (aC v.node) fun TR m64 H z18 => ?_;have wT:aP TR a 14 (bJ ⟨v.o,v.seq,v.deps,v.kind,v.node,0,0,0,0⟩) 37:=m64.congr (fun j c=>by rcases j with _|_|_|_|_|_|_|_|_|_|_|_|_|_|j <;> first|rfl|omega)
  have wu:=f.bW H (by omega);have uT:=n.bW H (by omega);have aa:=H.below d d.size (by omega);refine aD<|ay<|av (pf b 11)<|Lv (au v.aT) (aL wu.aH 11)<|av (pf a 11)<|jv wT 11 (au v.aT) fun w19 yh I z19 => ?_;have sM:aP w19 a 14 (bJ ⟨v.o,v.seq,v.deps,v.kind,v.node,0,v.aT,0,0⟩) 37:=yh.congr (fun j c=>by rcases j with _|_|_|_|_|_|_|_|_|_|_|_|_|_|j <;> first|rfl|omega)
  have wz:=wu.bW I (by omega);have uH:=uT.bW I (by omega);have ab:=I.below aa aa.size (by omega);refine aD<|Wl<|av (pf b 10)<|Lv (au v.dst) (aL wz.aH 10)<|av (pf a 10)<|jv sM 10 (au v.dst) fun XY wB J z20 => ?_;have wC:aP XY a 14 (bJ ⟨v.o,v.seq,v.deps,v.kind,v.node,v.dst,v.aT,0,0⟩) 37:=wB.congr (fun j c=>by rcases j with _|_|_|_|_|_|_|_|_|_|_|_|_|_|j <;> first|rfl|omega)
  have Ah:=wz.bW J (by omega);have wD:=uH.bW J (by omega);have b20:=J.below ab ab.size (by omega);refine Ln<|bS<|sN<|ay<|Lv (.agg (aA 14 (bJ ⟨v.o,v.seq,v.deps,v.kind,v.node,v.dst,v.aT,0,0⟩))) (eT wC.aH 0)<|dG wD 0 (h1:=(eH _)) fun w21 zR K z21 => ?_;have yJ:aP w21 m 14 (bJ ⟨v.o,v.seq,v.deps,v.kind,v.node,v.dst,v.aT,0,0⟩) 37:=aN zR;have zw:=Ah.bW K (by omega);have xQ:=wC.bW K (by omega);have ND:=K.below b20 b20.size (by omega);refine aD (Wr (⟨.agg (aA 14 (bJ ⟨v.o,v.seq,v.deps,v.kind,v.node,v.dst,v.aT,0,0⟩)),rV Tryz.results122 ⟨_,rfl,aR yJ.aH (by kernel_rfl) (by kernel_rfl)⟩,?_⟩));refine⟨L_ (fun q=>Ending.returned (Value.agg q)) (Fx.dO fun i r => ?_),ND⟩;unfold lM; rw[b_ g,b_ h,b_ l,b_ p,d_ t]
 refine Lv aF (eO t)<|av aF<|aD<|aK<|ay ?_;by_cases u:v.kind=6
 ·refine Lv aG (dP u)<|av aG<|aD<|aM<|Wl<|av (pf b 10)<|Lv (au v.dst) (aL f.aH 10)<|av (pf a 10)<|jv k 10 (au v.dst) fun w22 wU L z22 => ?_;have wV:aP w22 a 14 (bJ ⟨v.o,v.seq,v.deps,v.kind,0,v.dst,0,0,0⟩) 37:=wU.congr (fun j c=>by rcases j with _|_|_|_|_|_|_|_|_|_|_|_|_|_|j <;> first|rfl|omega)
  have yK:=f.bW L (by omega);have Ar:=n.bW L (by omega);have M6:=L.below d d.size (by omega);refine Ln<|bS<|sN<|ay<|Lv (.agg (aA 14 (bJ ⟨v.o,v.seq,v.deps,v.kind,0,v.dst,0,0,0⟩))) (eT wV.aH 0)<|dG Ar 0 (h1:=(eH _)) fun w23 yL M z23 => ?_;have BA:aP w23 m 14 (bJ ⟨v.o,v.seq,v.deps,v.kind,0,v.dst,0,0,0⟩) 37:=aN yL;have Bf:=yK.bW M (by omega);have Bg:=wV.bW M (by omega);have Yt:=M.below M6 M6.size (by omega);refine aD (Wr (⟨.agg (aA 14 (bJ ⟨v.o,v.seq,v.deps,v.kind,0,v.dst,0,0,0⟩)),rV Tryz.results122 ⟨_,rfl,aR BA.aH (by kernel_rfl) (by kernel_rfl)⟩,?_⟩));refine⟨L_ (fun q=>Ending.returned (Value.agg q)) (Fx.dO fun i r => ?_),Yt⟩;unfold lM; rw[b_ g,b_ h,b_ l,b_ p,b_ t,d_ u]
 refine Lv aF (eO u)<|av aF<|aD<|aK<|Wk<|bS<|sN<|ay<|Lv (.agg (aA 14 (bJ ⟨v.o,v.seq,v.deps,v.kind,0,0,0,0,0⟩))) (eT k.aH 0)<|dG n 0 (h1:=(eH _)) fun w24 Au N z24 => ?_;have Av:aP w24 m 14 (bJ ⟨v.o,v.seq,v.deps,v.kind,0,0,0,0,0⟩) 37:=aN Au;have BD:=f.bW N (by omega);have Fp:=k.bW N (by omega);have Yu:=N.below d d.size (by omega);refine aD (Wr (⟨.agg (aA 14 (bJ ⟨v.o,v.seq,v.deps,v.kind,0,0,0,0,0⟩)),rV Tryz.results122 ⟨_,rfl,aR Av.aH (by kernel_rfl) (by kernel_rfl)⟩,?_⟩));refine⟨L_ (fun q=>Ending.returned (Value.agg q)) (Fx.dO fun i r => ?_),Yu⟩;unfold lM; rw[b_ g,b_ h,b_ l,b_ p,b_ t,b_ u]
set_option linter.unusedSimpArgs false in
set_option maxHeartbeats 2000000 in
theorem Lc(v:EvM)(w:World) :
 Calls Tryz.prog 123 #[.agg (aA 14 (bJ v))] w fun e w'=>e = .returned (.bool (dJ v))/\Below w.heap.size w w':=by
 refine Kent Tryz.func123 75 ?_;refine ay<|om fun g S M B N V => ?_;have I:=bD N.old (Below.refl w.heap.size w);have Q:=gI M;have R:=B.lt;refine av aF<|aD<|zn (fun f F=>f 1=(pt g)/\f 3 = .bool (someE v)/\aP F g 14 (bJ v) 37/\Below w.heap.size w F) ?_ ?_
 ·refine Wl<|av (pf g 11)<|Lv (au v.aT) (aL B.aH 11) ?_;by_cases D:1<=v.aT
  ·refine Lv aG (lH D)<|av aG<|av (pf g 11)<|Lv (au v.aT) (aL B.aH 11) ?_;by_cases G:v.aT<=1125899906842624
   ·refine Lv aG (nN G)<|av aG<|av aG<|Ln ?_;exact nE ⟨(by rfl),(by show Value.bool true=Value.bool (someE v); unfold someE; rw[f_ D,f_ G]; rfl),B,I⟩
   refine Lv aF (oh G)<|av aF<|av aF<|Ln ?_;exact nE ⟨(by rfl),(by show Value.bool false=Value.bool (someE v); unfold someE; rw[f_ D,g_ G]; rfl),B,I⟩
  refine Lv aF (kR D)<|av aF<|bF<|bF<|bF<|av aF<|av aF<|Ln ?_;exact nE ⟨(by rfl),(by show Value.bool false=Value.bool (someE v); unfold someE; rw[g_ D]; rfl),B,I⟩
 rintro O T ⟨A,K,C,J⟩;refine zn (fun f F=>f 1=(pt g)/\f 3 = .bool (someE v)/\f 4 = .bool (mW v)/\aP F g 14 (bJ v) 37/\Below w.heap.size w F) ?_ ?_
 ·refine Wl<|Lv (pf g 10) (gP A 10)<|Lv (au v.dst) (aL C.aH 10) ?_;by_cases t:(jl v.dst)=true
  ·refine mE (BF v.dst _) aG (by rw[t])<|av aG<|Lv (pf g 10) (gP A 10)<|Lv (au v.dst) (aL C.aH 10)<|Lv (pt g) (gP A 0)<|Lv (au v.o) (aL C.aH 0) ?_;by_cases H:v.dst=v.o
   ·refine Lv aF (iN H)<|av aF<|av aF<|Ln ?_;exact nE ⟨A,K,(by show Value.bool false=Value.bool (mW v); unfold mW; rw[t,f_ H]; rfl),C,J⟩
   refine Lv aG (jZ H)<|av aG<|av aG<|Ln ?_;exact nE ⟨A,K,(by show Value.bool true=Value.bool (mW v); unfold mW; rw[t,g_ H]; rfl),C,J⟩
  rw[T_]at t;refine mE (BF v.dst _) aF (by rw[t])<|av aF<|bF<|bF<|bF<|bF<|bF<|av aF<|av aF<|Ln ?_;exact nE ⟨A,K,(by show Value.bool false=Value.bool (mW v); unfold mW; rw[t]; rfl),C,J⟩
 rintro P U ⟨m,E,L,n,h⟩;refine Ws<|ay<|Lv (pf g 8) (gP m 8)<|Lv (.int .u8 (v.kind)) (aL n.aH 8)<|aD<|Wb<|ay ?_;by_cases a:v.kind=1
 ·refine Lv aG (dP a)<|av aG<|aD<|aM<|ay<|Lv (pf g 11) (gP m 11)<|Lv (au v.aT) (aL n.aH 11) ?_;by_cases p:0<=v.aT
  ·refine Lv aG (lH p)<|av aG<|Lv (pf g 11) (gP m 11)<|Lv (au v.aT) (aL n.aH 11) ?_;by_cases u:v.aT<=1125899906842624
   ·refine Lv aG (nN u)<|av aG<|av aG<|aD<|Wr<|bM<|sR<|aJ aG ?_;exact⟨iI (Eq.symm (by unfold dJ; first|(rw[d_ a]; done)|(rw[d_ a]; first|(simp[p,u]; done)|(simp[p,u]; omega)))),h⟩
   refine Lv aF (oh u)<|av aF<|av aF<|aD<|Wr<|bM<|sR<|aJ aF ?_;exact⟨iI (Eq.symm (by unfold dJ; first|(rw[d_ a]; done)|(rw[d_ a]; first|(simp[p,u]; done)|(simp[p,u]; omega)))),h⟩
  refine Lv aF (kR p)<|av aF<|bF<|bF<|bF<|av aF<|av aF<|aD<|Wr<|bM<|sR<|aJ aF ?_;exact⟨iI (Eq.symm (by unfold dJ; first|(rw[d_ a]; done)|(rw[d_ a]; first|(simp[p]; done)|(simp[p]; omega)))),h⟩
 refine Lv aF (eO a)<|av aF<|aD<|aK<|ay ?_;by_cases b:v.kind=2
 ·refine Lv aG (dP b)<|av aG<|aD<|aM<|ay<|aW E<|av (.bool (someE v))<|aD<|Wr<|bM<|sR<|aJ (.bool (someE v)) ?_;exact⟨iI (Eq.symm (by unfold dJ; first|(rw[b_ a,d_ b]; done)|(rw[b_ a,d_ b]; first|(simp[]; done)|(simp[]; omega)))),h⟩
 refine Lv aF (eO b)<|av aF<|aD<|aK<|ay ?_;by_cases c:v.kind=3
 ·refine Lv aG (dP c)<|av aG<|aD<|aM<|ay ?_;by_cases k:(someE v)=true
  ·refine aW (E.trans (L_ Value.bool k))<|av aG<|Lv (pf g 12) (gP m 12)<|Lv (aC v.req) (aL n.aH 12) ?_;by_cases x:1<=v.req
   ·refine Lv aG (lH x)<|av aG<|av aG<|aD<|Wr<|bM<|sR<|aJ aG ?_;exact⟨iI (Eq.symm (by unfold dJ; first|(rw[b_ a,b_ b,d_ c]; done)|(rw[b_ a,b_ b,d_ c]; first|(simp[k,x]; done)|(simp[k,x]; omega)))),h⟩
   refine Lv aF (kR x)<|av aF<|av aF<|aD<|Wr<|bM<|sR<|aJ aF ?_;exact⟨iI (Eq.symm (by unfold dJ; first|(rw[b_ a,b_ b,d_ c]; done)|(rw[b_ a,b_ b,d_ c]; first|(simp[k,x]; done)|(simp[k,x]; omega)))),h⟩
  rw[T_]at k;refine aW (E.trans (L_ Value.bool k))<|av aF<|bF<|bF<|bF<|av aF<|av aF<|aD<|Wr<|bM<|sR<|aJ aF ?_;exact⟨iI (Eq.symm (by unfold dJ; first|(rw[b_ a,b_ b,d_ c]; done)|(rw[b_ a,b_ b,d_ c]; first|(simp[k]; done)|(simp[k]; omega)))),h⟩
 refine Lv aF (eO c)<|av aF<|aD<|aK<|ay ?_;by_cases d:v.kind=4
 ·refine Lv aG (dP d)<|av aG<|aD<|aM<|ay<|Lv (pf g 12) (gP m 12)<|Lv (aC v.req) (aL n.aH 12) ?_;by_cases j:1<=v.req
  ·refine Lv aG (lH j)<|av aG<|Lv (pf g 13) (gP m 13)<|Lv (aC v.of) (aL n.aH 13) ?_;by_cases q:1<=v.of
   ·refine Lv aG (lH q)<|av aG<|av aG<|Lv (pf g 12) (gP m 12)<|Lv (aC v.req) (aL n.aH 12)<|Lv (pf g 13) (gP m 13)<|Lv (aC v.of) (aL n.aH 13) ?_;by_cases y:v.req=v.of
    ·refine Lv aF (iN y)<|av aF<|av aF<|aD<|Wr<|bM<|sR<|aJ aF ?_;exact⟨iI (Eq.symm (by unfold dJ; first|(rw[b_ a,b_ b,b_ c,d_ d]; done)|(rw[b_ a,b_ b,b_ c,d_ d]; first|(simp[j,q,y]; done)|(simp[j,q,y]; omega)))),h⟩
    refine Lv aG (jZ y)<|av aG<|av aG<|aD<|Wr<|bM<|sR<|aJ aG ?_;exact⟨iI (Eq.symm (by unfold dJ; first|(rw[b_ a,b_ b,b_ c,d_ d]; done)|(rw[b_ a,b_ b,b_ c,d_ d]; first|(simp[j,q,y]; done)|(simp[j,q,y]; omega)))),h⟩
   refine Lv aF (kR q)<|av aF<|av aF<|bF<|bF<|bF<|bF<|bF<|av aF<|av aF<|aD<|Wr<|bM<|sR<|aJ aF ?_;exact⟨iI (Eq.symm (by unfold dJ; first|(rw[b_ a,b_ b,b_ c,d_ d]; done)|(rw[b_ a,b_ b,b_ c,d_ d]; first|(simp[j,q]; done)|(simp[j,q]; omega)))),h⟩
  refine Lv aF (kR j)<|av aF<|bF<|bF<|bF<|av aF<|av aF<|bF<|bF<|bF<|bF<|bF<|av aF<|av aF<|aD<|Wr<|bM<|sR<|aJ aF ?_;exact⟨iI (Eq.symm (by unfold dJ; first|(rw[b_ a,b_ b,b_ c,d_ d]; done)|(rw[b_ a,b_ b,b_ c,d_ d]; first|(simp[j]; done)|(simp[j]; omega)))),h⟩
 refine Lv aF (eO d)<|av aF<|aD<|aK<|ay ?_;by_cases i:v.kind=5
 ·refine Lv aG (dP i)<|av aG<|aD<|aM<|ay ?_;by_cases l:(someE v)=true
  ·refine aW (E.trans (L_ Value.bool l))<|av aG ?_;by_cases s:(mW v)=true
   ·refine aW (L.trans (L_ Value.bool s))<|av aG<|av aG<|aD<|Wr<|bM<|sR<|aJ aG ?_;exact⟨iI (Eq.symm (by unfold dJ; first|(rw[b_ a,b_ b,b_ c,b_ d,d_ i]; done)|(rw[b_ a,b_ b,b_ c,b_ d,d_ i]; first|(simp[l,s]; done)|(simp[l,s]; omega)))),h⟩
   rw[T_]at s;refine aW (L.trans (L_ Value.bool s))<|av aF<|av aF<|aD<|Wr<|bM<|sR<|aJ aF ?_;exact⟨iI (Eq.symm (by unfold dJ; first|(rw[b_ a,b_ b,b_ c,b_ d,d_ i]; done)|(rw[b_ a,b_ b,b_ c,b_ d,d_ i]; first|(simp[l,s]; done)|(simp[l,s]; omega)))),h⟩
  rw[T_]at l;refine aW (E.trans (L_ Value.bool l))<|av aF<|bF<|av aF<|av aF<|aD<|Wr<|bM<|sR<|aJ aF ?_;exact⟨iI (Eq.symm (by unfold dJ; first|(rw[b_ a,b_ b,b_ c,b_ d,d_ i]; done)|(rw[b_ a,b_ b,b_ c,b_ d,d_ i]; first|(simp[l]; done)|(simp[l]; omega)))),h⟩
 refine Lv aF (eO i)<|av aF<|aD<|aK<|ay ?_;by_cases r:v.kind=6
 ·refine Lv aG (dP r)<|av aG<|aD<|aM<|ay<|aW L<|av (.bool (mW v))<|aD<|Wr<|bM<|sR<|aJ (.bool (mW v)) ?_;exact⟨iI (Eq.symm (by unfold dJ; first|(rw[b_ a,b_ b,b_ c,b_ d,b_ i,d_ r]; done)|(rw[b_ a,b_ b,b_ c,b_ d,b_ i,d_ r]; first|(simp[]; done)|(simp[]; omega)))),h⟩
 refine Lv aF (eO r)<|av aF<|aD<|aK<|Wk<|bS<|sN<|ay<|Lv (pf g 8) (gP m 8)<|Lv (.int .u8 (v.kind)) (aL n.aH 8) ?_;by_cases z:v.kind=7
 ·refine Lv aG (dP z)<|av aG<|aD<|Wr<|aJ aG ?_;exact⟨iI (Eq.symm (by unfold dJ; first|(rw[b_ a,b_ b,b_ c,b_ d,b_ i,b_ r]; done)|(rw[b_ a,b_ b,b_ c,b_ d,b_ i,b_ r]; first|(simp[z]; done)|(simp[z]; omega)))),h⟩
 refine Lv aF (eO z)<|av aF<|aD<|Wr<|aJ aF ?_;exact⟨iI (Eq.symm (by unfold dJ; first|(rw[b_ a,b_ b,b_ c,b_ d,b_ i,b_ r]; done)|(rw[b_ a,b_ b,b_ c,b_ d,b_ i,b_ r]; first|(simp[z]; done)|(simp[z]; omega)))),h⟩
namespace Rt
def iX(n:Int):Prop:=0<=n/\n<=18446744073709551615
def qc(n:Int):Prop := -9223372036854775808<=n/\n<=9223372036854775807
structure gD(v:EvM):Prop where
 o:qc v.o
 seq:iX v.seq
 deps : ∀ i,i<6->iX (v.deps i)
 kind:0<=v.kind/\v.kind<=255
 node:iX v.node
 dst:qc v.dst
 aT:qc v.aT
 req:iX v.req
 of:iX v.of
theorem gD.own{v:EvM}(h:gD v):gD (lM v):=by
 have z:iX 0:=⟨by decide,by decide⟩;have y:qc 0:=⟨by decide,by decide⟩;unfold lM;split
 ·exact⟨h.o,h.seq,h.deps,h.kind,h.node,y,h.aT,z,z⟩
 split
 ·exact⟨h.o,h.seq,h.deps,h.kind,h.node,y,h.aT,z,z⟩
 split
 ·exact⟨h.o,h.seq,h.deps,h.kind,h.node,y,h.aT,h.req,z⟩
 split
 ·exact⟨h.o,h.seq,h.deps,h.kind,z,y,y,h.req,h.of⟩
 split
 ·exact⟨h.o,h.seq,h.deps,h.kind,h.node,h.dst,h.aT,z,z⟩
 split
 ·exact⟨h.o,h.seq,h.deps,h.kind,z,h.dst,y,z,z⟩
 exact⟨h.o,h.seq,h.deps,h.kind,z,y,y,z,z⟩
theorem xS{v:EvM}(h:gD v):Fx.Kd [(some .i64),(some .u64),(some .u64),(some .u64),(some .u64),(some .u64),(some .u64),(some .u64),(some .u8),(some .u64),(some .i64),(some .i64),(some .u64),(some .u64)] (bJ v):=by
 have a : ∀(k:IntKind) (n:Int),(Lit.int k n).wf=true -> ∃ l,pF (some k) (.int k n)=some l:=fun k n d=>by
  obtain⟨l,c⟩:=Fx.KH (k:=k) (n:=1) (x:=fun _=>n) (fun _ _=>d) 0 (by simp);exact⟨l,c⟩
 intro i b;have e:i<14:=b
 rcases i with _|_|_|_|_|_|_|_|_|_|_|_|_|_|i
 ·exact a .i64 v.o (Fx.SG h.o)
 ·exact a .u64 v.seq (Fx.uy h.seq)
 ·exact a .u64 (v.deps 0) (Fx.uy (h.deps 0 (by decide)))
 ·exact a .u64 (v.deps 1) (Fx.uy (h.deps 1 (by decide)))
 ·exact a .u64 (v.deps 2) (Fx.uy (h.deps 2 (by decide)))
 ·exact a .u64 (v.deps 3) (Fx.uy (h.deps 3 (by decide)))
 ·exact a .u64 (v.deps 4) (Fx.uy (h.deps 4 (by decide)))
 ·exact a .u64 (v.deps 5) (Fx.uy (h.deps 5 (by decide)))
 ·exact a .u8 v.kind (Fx.alQ h.kind)
 ·exact a .u64 v.node (Fx.uy h.node)
 ·exact a .i64 v.dst (Fx.SG h.dst)
 ·exact a .i64 v.aT (Fx.SG h.aT)
 ·exact a .u64 v.req (Fx.uy h.req)
 ·exact a .u64 v.of (Fx.uy h.of)
 omega
def Aw(v:EvM):Bool:=(List.range 6).all fun i=>decide (v.deps i<1099511627776)
def tF(v:EvM):Bool:=decide (v.node=(lM v).node)&&decide (v.dst=(lM v).dst)&&decide (v.aT=(lM v).aT)&&decide (v.req=(lM v).req)&&decide (v.of=(lM v).of)
def bR(v:EvM):Bool:=jl v.o&&decide (1<=v.seq)&&decide (v.seq<1099511627776)&&decide (v.deps (v.o-1).toNat=v.seq-1)&&Aw v&&tF v&&dJ v
theorem Uv(v:EvM):(lM v).o=v.o/\(lM v).seq=v.seq/\(lM v).deps=v.deps/\(lM v).kind=v.kind:=by
 unfold lM; repeat (first|exact⟨rfl,rfl,rfl,rfl⟩|split)
theorem Cu(v:EvM):tF v=true <-> ∀ i,i<14->bJ v i=bJ (lM v) i:=by
 obtain⟨m,n,p,q⟩:=Uv v;unfold tF;simp only[S_,decide_eq_true_eq];constructor
 ·rintro ⟨⟨⟨⟨a,b⟩,c⟩,d⟩,e⟩ i r;have:lM v=v:=by
   cases hv:lM v with
   | mk o seq deps kind node dst aT req of =>
     rw[hv]at m n p q a b c d e
     cases v; simp_all
  rw[this]
 intro h;have l:Value.int .u64 v.node=aC (lM v).node:=h 9 (by decide);have f:Value.int .i64 v.dst=au (lM v).dst:=h 10 (by decide);have g:Value.int .i64 v.aT=au (lM v).aT:=h 11 (by decide);have j:Value.int .u64 v.req=aC (lM v).req:=h 12 (by decide);have k:Value.int .u64 v.of=aC (lM v).of:=h 13 (by decide);simp only[Value.int.injEq,true_and]at l f g j k;exact⟨⟨⟨⟨l,f⟩,g⟩,j⟩,k⟩
theorem fq{i:Int}(h:jl i=true) : ∃ a:Nat,a<6/\i=(a:Int)+1:=by
 unfold jl at h; simp at h;obtain⟨a,b⟩:=Int.eq_ofNat_of_zero_le (show 0<=i-1 by omega);exact⟨a,by omega,by omega⟩
theorem Ih{v:EvM}{k:Nat}(a:k<6)(h:1099511627776<=v.deps k):Aw v=false:=by
 unfold Aw; rw[List.all_eq_false]; exact⟨k,O_.2 a,by simp; omega⟩
theorem wW{v:EvM}{k:Nat}(b : ¬ (k:Int)<6)(h : ∀ i,i<k->v.deps i<1099511627776):Aw v=true:=by
 unfold Aw; rw[List.all_eq_true]; intro i a; have:=O_.1 a; simp; exact h i (by omega)
theorem QN{v:EvM}{k:Nat}(h : ∀ i,i<k->v.deps i<1099511627776)(a:v.deps k<1099511627776) : ∀ i,i<k+1->v.deps i<1099511627776:=fun i b=>by
 by_cases e:i=k
 ·subst e; exact a
 ·exact h i (by omega)
theorem jk{v:EvM}(h:bR v=true):jl v.o=true:=by
 unfold bR at h; simp only[S_]at h; exact h.1.1.1.1.1.1
end Rt
set_option maxHeartbeats 2000000 in
theorem Ii(v:EvM)(w:World)(D:gD v) :
 Calls Tryz.prog 78 #[.agg (aA 14 (bJ v))] w fun e w'=>e = .returned (.bool (bR v))/\Below w.heap.size w w':=by
 refine Kent Tryz.func78 47 ?_;refine ay<|om fun m w1 Q q s1 z1 => ?_;have t:=bD s1.old (Below.refl w.heap.size w);have qZ:=gI Q;have sF:=q.lt;refine av aF<|aD<|Ws<|Ws ?_;refine mF<|aU (pt m)<|Qv (au v.o) (fun c b=>aL (q.cb b) 0) ?_;by_cases j:(jl v.o)=true
 ·obtain⟨a,ha,ea⟩:=fq j;refine qQ (fun _ _=>BF v.o _) aG (by rw[j])<|aU aF<|aU aF<|aU (pf m 1)<|Qv (aC v.seq) (fun c b=>aL (q.cb b) 1) ?_;by_cases F:v.seq<1
  ·refine Qv aG (fun c b=>gY F)<|aU aG<|aU aG<|aS<|aS<|aS<|aU aG<|aU aG<|aS<|aS<|aS<|aS<|aS<|aS<|aS<|aS<|aS<|aS<|aU aG<|Qn ?_;intro TH R;have⟨d,J⟩:=fC R q t;refine sN<|aM<|ay<|av aF<|aD<|Wr<|sR<|aJ aF ?_;have d:decide (1<=v.seq)=false:=g_ (by omega);exact⟨iI (Eq.symm (by unfold bR; rw[j,d]; rfl)),J⟩
  refine Qv aF (fun c b=>gZ F)<|aU aF<|aU aF<|aU (pf m 1)<|Qv (aC v.seq) (fun c b=>aL (q.cb b) 1) ?_;by_cases G:1099511627776<=v.seq
  ·refine Qv aG (fun c b=>lH G)<|aU aG<|aU aG<|aS<|aS<|aS<|aS<|aS<|aS<|aS<|aS<|aS<|aS<|aU aG<|Qn ?_;intro Yp S;have⟨l,K⟩:=fC S q t;refine sN<|aM<|ay<|av aF<|aD<|Wr<|sR<|aJ aF ?_;have d:decide (1<=v.seq)=true:=f_ (by omega);have l:decide (v.seq<1099511627776)=false:=g_ (by omega);exact⟨iI (Eq.symm (by unfold bR; rw[j,d,l]; rfl)),K⟩
  refine Qv aF (fun c b=>kR G)<|aU aF<|aU aF<|aU (pt m)<|Qv (au v.o) (fun c b=>aL (q.cb b) 0)<|Qv (au a) (fun c b=>gN)<|aU (pf m 2)<|Qv (pf m (a+2)) (fun c b=>jV 6 1)<|Qv (aC (v.deps a)) (fun c b=>aL (q.cb b) (a+2) (nu _ (by omega) (by omega)))<|aU (pf m 1)<|Qv (aC v.seq) (fun c b=>aL (q.cb b) 1)<|Qv (aC (v.seq-1)) (fun c b=>gN) ?_;by_cases r:(v.deps a)=(v.seq-1)
  ·refine Qv aF (fun c b=>iN r)<|aU aF<|Qn ?_;intro wb3 T;have⟨p,L⟩:=fC T q t;refine sN<|aK<|Wk<|sN<|Ws<|ay<|av (au 0)<|aD<|Wb<|Wo (fun f H => ∃ k:Nat,k<=6/\(∀ i,i<k->v.deps i<1099511627776)/\f 1=(pt m)/\f 3=au (k:Int)/\aP H m 14 (bJ v) 37/\Below w.heap.size w H) (fun f _=>(6-(intOf (f 3)).toNat)) ⟨0,by omega,(fun i h=>M_ h (by omega)),(by rfl),Fx.ic,p,L⟩ ?_;rintro f1 w2 ⟨k,hk,C,A,B,g,u⟩;refine Ws<|ay<|aW B ?_;by_cases x:(k:Int)<6
   ·refine Lv aG (gY x)<|aD<|aM<|Wk<|sN<|Ws<|Wb<|ay<|aW B<|Lv (pf m 2) (gP A 2)<|Lv (pf m (k+2)) (jV 6 1)<|Lv (aC (v.deps k)) (aL g.aH (k+2) (nu _ (by omega) (by omega))) ?_;by_cases E:1099511627776<=(v.deps k)
    ·refine Lv aG (lH E)<|aD<|aM<|ay<|av aF<|aD<|Wr<|bM<|sR<|pE<|bM<|sR<|aJ aF ?_;have d:decide (1<=v.seq)=true:=f_ (by omega);have l:decide (v.seq<1099511627776)=true:=f_ (by omega);have p:decide (v.deps (v.o-1).toNat=v.seq-1)=true:=f_ (by rw[show(v.o-1).toNat=a by omega]; exact r);have g:=Ih (by omega) E;exact⟨iI (Eq.symm (by unfold bR; rw[j,d,l,p,g]; rfl)),u⟩
    refine Lv aF (kR E)<|aD<|aK<|Wk<|bS<|sN<|Wl<|aW B<|Lv (au ((k:Int)+1)) fH<|av (au ((k:Int)+1))<|Ln<|iG ⟨k+1,by omega,(QN C (by omega)),A,Fx.ic,g,u⟩ ?_;show(6-(intOf (au ((k:Int)+1))).toNat)<_;simp only[B,intOf]; omega
   refine Lv aF (gZ x)<|aD<|aK<|Wx<|cB<|gW<|bZ<|sN<|Ws ?_;refine mF<|Qv (.agg (aA 14 (bJ v))) (fun c b=>eT (g.cb b) 0 (ha:=A))<|Qv (.agg (aA 14 (bJ v))) (fun c b=>eT (g.cb b) 0 (ha:=A))<|wM (fun _ _=>ahr v _) _ rfl ?_;by_cases y : ∀ i,i<14->(bJ v) i=(bJ (lM v)) i
   ·refine Qv aG (fun c b=>Fx.wH (n:=14) (ks := [(some .i64),(some .u64),(some .u64),(some .u64),(some .u64),(some .u64),(some .u64),(some .u64),(some .u8),(some .u64),(some .i64),(some .i64),(some .u64),(some .u64)]) (X:=bJ v) (Y:=bJ (lM v)) 12 true rfl rfl rfl (Fx.EU y) (xS D) (xS D.own) rfl (by kernel_rfl) (by kernel_rfl) (by kernel_rfl) (by kernel_rfl) (by kernel_rfl))<|aU aG<|Qv (.agg (aA 14 (bJ v))) (fun c b=>eT (g.cb b) 0 (ha:=A)) ?_;by_cases z:(dJ v)=true
    ·refine wM (fun _ _=>Lc v _) aG (by rw[z])<|aU aG<|aU aG<|Qn ?_;intro wb4 U;have⟨s,M⟩:=fC U g u;refine sN<|Wr<|aJ aG ?_;have d:decide (1<=v.seq)=true:=f_ (by omega);have l:decide (v.seq<1099511627776)=true:=f_ (by omega);have p:decide (v.deps (v.o-1).toNat=v.seq-1)=true:=f_ (by rw[show(v.o-1).toNat=a by omega]; exact r);have g:=wW x C;have s:=(Cu v).2 y;exact⟨iI (Eq.symm (by unfold bR; rw[j,d,l,p,g,s,z]; rfl)),M⟩
    rw[T_]at z;refine wM (fun _ _=>Lc v _) aF (by rw[z])<|aU aF<|aU aF<|Qn ?_;intro wb5 V;have N:=bD V u;refine sN<|Wr<|aJ aF ?_;have d:decide (1<=v.seq)=true:=f_ (by omega);have l:decide (v.seq<1099511627776)=true:=f_ (by omega);have p:decide (v.deps (v.o-1).toNat=v.seq-1)=true:=f_ (by rw[show(v.o-1).toNat=a by omega]; exact r);have g:=wW x C;have s:=(Cu v).2 y;exact⟨iI (Eq.symm (by unfold bR; rw[j,d,l,p,g,s,z]; rfl)),N⟩
   refine Qv aF (fun c b=>Fx.wH (n:=14) (ks := [(some .i64),(some .u64),(some .u64),(some .u64),(some .u64),(some .u64),(some .u64),(some .u64),(some .u8),(some .u64),(some .i64),(some .i64),(some .u64),(some .u64)]) (X:=bJ v) (Y:=bJ (lM v)) 12 false rfl rfl rfl (Fx.nob y) (xS D) (xS D.own) rfl (by kernel_rfl) (by kernel_rfl) (by kernel_rfl) (by kernel_rfl) (by kernel_rfl))<|aU aF<|aS<|aS<|aU aF<|aU aF<|Qn ?_;intro wb6 W;have O:=bD W u;refine sN<|Wr<|aJ aF ?_;have d:decide (1<=v.seq)=true:=f_ (by omega);have l:decide (v.seq<1099511627776)=true:=f_ (by omega);have p:decide (v.deps (v.o-1).toNat=v.seq-1)=true:=f_ (by rw[show(v.o-1).toNat=a by omega]; exact r);have g:=wW x C;have s:tF v=false:=Bool.eq_false_iff.2 (fun h=>y ((Cu v).1 h));exact⟨iI (Eq.symm (by unfold bR; rw[j,d,l,p,g,s]; rfl)),O⟩
  refine Qv aG (fun c b=>jZ r)<|aU aG<|Qn ?_;intro wb7 Z;have P:=bD Z t;refine sN<|aM<|ay<|av aF<|aD<|Wr<|sR<|aJ aF ?_;have d:decide (1<=v.seq)=true:=f_ (by omega);have l:decide (v.seq<1099511627776)=true:=f_ (by omega);have p:decide (v.deps (v.o-1).toNat=v.seq-1)=false:=g_ (by rw[show(v.o-1).toNat=a by omega]; exact r);exact⟨iI (Eq.symm (by unfold bR; rw[j,d,l,p]; rfl)),P⟩
 rw[T_]at j;refine qQ (fun _ _=>BF v.o _) aF (by rw[j])<|aU aG<|aU aG<|aS<|aS<|aS<|aU aG<|aU aG<|aS<|aS<|aS<|aU aG<|aU aG<|aS<|aS<|aS<|aS<|aS<|aS<|aS<|aS<|aS<|aS<|aU aG<|Qn ?_;intro wb8 aa;have I:=bD aa t;refine sN<|aM<|ay<|av aF<|aD<|Wr<|sR<|aJ aF ?_;exact⟨iI (Eq.symm (by unfold bR; rw[j]; rfl)),I⟩
namespace Rt
def lN(K:Nat->Int)(v:EvM):Bool:=bR v&&decide (v.seq<=K (v.o-1).toNat)
def yM(D K:Nat->Int):Bool:=(List.range 6).all fun i=>decide (D i<=K i)
def dL(K:Nat->Int)(v:EvM):Bool:=bR v&&decide (v.seq=K (v.o-1).toNat+1)&&yM v.deps K
theorem Uw{D K:Nat->Int}{k:Nat}(a:k<6)(h:K k<D k):yM D K=false:=by
 unfold yM; rw[List.all_eq_false]; exact⟨k,O_.2 a,by simp; omega⟩
theorem QO{D K:Nat->Int}{k:Nat}(b : ¬ (k:Int)<6)(h : ∀ i,i<k->D i<=K i):yM D K=true:=by
 unfold yM; rw[List.all_eq_true]; intro i a; have:=O_.1 a; simp; exact h i (by omega)
theorem le_step{D K:Nat->Int}{k:Nat}(h : ∀ i,i<k->D i<=K i)(b : ¬ K k<D k) : ∀ i,i<k+1->D i<=K i:=fun i a=>by
 by_cases e:i=k
 ·subst e; omega
 ·exact h i (by omega)
def Ay(K:Nat->Int):Prop := ∀ i,i<6->0<=K i/\K i<1099511627776
theorem Eu{v:EvM}(h:bR v=true):1<=v.seq/\v.seq<1099511627776:=by
 unfold bR at h; simp only[S_,decide_eq_true_eq]at h; exact⟨h.1.1.1.1.1.2,h.1.1.1.1.2⟩
end Rt
theorem Ux(K:Nat->Int)(v:EvM)(w:World)(m:gD v) :
 Calls Tryz.prog 79 #[.agg (aA 6 (rv .u64 K)),.agg (aA 14 (bJ v))] w fun e w'=>e = .returned (.bool (lN K v))/\Below w.heap.size w w':=by
 refine Kent Tryz.func79 17 ?_;refine ay<|om fun s I r i z O => ?_;have j:=bD z.old (Below.refl w.heap.size w);have D:=gI r;have G:=i.lt;refine om fun l J k c A P => ?_;have⟨y,h⟩:=fC A.old i j;have E:=iw k j.size;have F:=cu k i.lt;have H:=c.lt;refine av aF<|aD<|Ws ?_;refine mF<|Qv (.agg (aA 14 (bJ v))) (fun f b=>eT (c.cb b) 0) ?_;by_cases d:(bR v)=true
 ·obtain⟨a,C,B⟩:=fq (jk d);refine wM (fun _ _=>Ii v _ m) aG (by rw[d])<|aU aG<|aU (pf l 1)<|Qv (aC v.seq) (fun f b=>aL (c.cb b) 1)<|aU (pt l)<|Qv (au v.o) (fun f b=>aL (c.cb b) 0)<|Qv (au a) (fun f b=>gN)<|Qv (pf s a) (fun f b=>jV 6 1)<|Qv (aC (K a)) (fun f b=>aL (y.cb b) a) ?_;by_cases g:v.seq<=(K a)
  ·refine Qv aG (fun f b=>nN g)<|aU aG<|aU aG<|Qn ?_;intro L t;have n:=bD t h;refine sN<|Wr<|aJ aG ?_;have c:decide (v.seq<=K (v.o-1).toNat)=true:=f_ (by rw[show(v.o-1).toNat=a by omega]; exact g);exact⟨iI (Eq.symm (by unfold lN; rw[d,c]; rfl)),n⟩
  refine Qv aF (fun f b=>oh g)<|aU aF<|aU aF<|Qn ?_;intro M u;have p:=bD u h;refine sN<|Wr<|aJ aF ?_;have c:decide (v.seq<=K (v.o-1).toNat)=false:=g_ (by rw[show(v.o-1).toNat=a by omega]; exact g);exact⟨iI (Eq.symm (by unfold lN; rw[d,c]; rfl)),p⟩
 rw[T_]at d;refine wM (fun _ _=>Ii v _ m) aF (by rw[d])<|aU aF<|aS<|aS<|aS<|aS<|aS<|aS<|aS<|aS<|aU aF<|aU aF<|Qn ?_;intro N x;have q:=bD x h;refine sN<|Wr<|aJ aF ?_;exact⟨iI (Eq.symm (by unfold lN; rw[d]; rfl)),q⟩
theorem Ph(K:Nat->Int)(v:EvM)(w:World)(H:gD v)(R:Ay K) :
 Calls Tryz.prog 80 #[.agg (aA 6 (rv .u64 K)),.agg (aA 14 (bJ v))] w fun e w'=>e = .returned (.bool (dL K v))/\Below w.heap.size w w':=by
 refine Kent Tryz.func80 32 ?_;refine ay<|om fun s w1 Q A s1 z1 => ?_;have C:=bD s1.old (Below.refl w.heap.size w);have qZ:=gI Q;have sF:=A.lt;refine om fun l w2 D d s2 z2 => ?_;have⟨m,t⟩:=fC s2.old A C;have pK:=iw D C.size;have Fj:=cu D A.lt;have xR:=d.lt;refine av aF<|aD<|Ws<|Ws ?_;refine mF<|Qv (.agg (aA 14 (bJ v))) (fun c b=>eT (d.cb b) 0) ?_;by_cases g:(bR v)=true
 ·obtain⟨a,S,ea⟩:=fq (jk g);have ka:=R a S;refine wM (fun _ _=>Ii v _ H) aG (by rw[g])<|aU aF<|aU aF<|aU (pf l 1)<|Qv (aC v.seq) (fun c b=>aL (d.cb b) 1)<|aU (pt l)<|Qv (au v.o) (fun c b=>aL (d.cb b) 0)<|Qv (au a) (fun c b=>gN)<|Qv (pf s a) (fun c b=>jV 6 1)<|Qv (aC (K a)) (fun c b=>aL (m.cb b) a)<|Qv (aC ((K a)+1)) (fun c b=>fH) ?_;by_cases n:v.seq=((K a)+1)
  ·refine Qv aF (fun c b=>iN n)<|aU aF<|Qn ?_;intro TH T;have⟨Y,Z,L⟩:=gL T m d t;refine sN<|aK<|Wk<|sN<|Ws<|ay<|av (au 0)<|aD<|Wb<|Wo (fun f B => ∃ k:Nat,k<=6/\(∀ i,i<k->v.deps i<=K i)/\f 2=(pt s)/\f 3=(pt l)/\f 5=au (k:Int)/\aP B s 6 (rv .u64 K) 35/\aP B l 14 (bJ v) 37/\Below w.heap.size w B) (fun f _=>(6-(intOf (f 5)).toNat)) ⟨0,by omega,(fun i h=>M_ h (by omega)),(by rfl),(by rfl),Fx.ic,Y,Z,L⟩ ?_;rintro f1 j ⟨k,hk,G,E,F,p,I,J,u⟩;refine Ws<|ay<|aW p ?_;by_cases x:(k:Int)<6
   ·refine Lv aG (gY x)<|aD<|aM<|Wk<|sN<|Ws<|Wb<|Ws ?_;refine vG<|eF p<|Qv (pf l 2) (fun c b=>gP F 2)<|Qv (pf l (k+2)) (fun c b=>jV 6 1)<|Qv (aC (v.deps k)) (fun c b=>aL (J.aH.dr b) (k+2) (nu _ (by omega) (by omega)))<|eF p<|Qv (pf s k) (fun c b=>jV 6 1 (hx:=E))<|Qv (aC (K k)) (fun c b=>aL (I.aH.dr b) k) ?_;by_cases r:(K k)<(v.deps k)
    ·refine Qv aG (fun c b=>mo r)<|Qn ?_;rintro _ ⟨q,rfl⟩;obtain⟨Cv,y⟩ : ∃ c,c=World.drewN j q:=⟨_,rfl⟩;rw[<- y];have s4:Stp j.heap.size j Cv:=(by rw[y]; exact Sb (jB j q));have M:=bD s4.old u;clear y;refine sN<|aM<|ay<|av aF<|aD<|Wr<|bM<|sR<|pE<|bM<|sR<|aJ aF ?_;have d:decide (v.seq=K (v.o-1).toNat+1)=true:=f_ (by rw[show(v.o-1).toNat=a by omega]; exact n);have m:=Uw (by omega) r;exact⟨iI (Eq.symm (by unfold dL; rw[g,d,m]; rfl)),M⟩
    refine Qv aF (fun c b=>mD r)<|Qn ?_;rintro _ ⟨q,rfl⟩;obtain⟨wq2,z⟩ : ∃ c,c=World.drewN j q:=⟨_,rfl⟩;rw[<- z];have s5:Stp j.heap.size j wq2:=(by rw[z]; exact Sb (jB j q));have⟨W,X,N⟩:=gL s5.old I J u;clear z;refine sN<|aK<|Wk<|bS<|sN<|Wl<|aW p<|Lv (au ((k:Int)+1)) fH<|av (au ((k:Int)+1))<|Ln<|iG ⟨k+1,by omega,(le_step G r),E,F,Fx.ic,W,X,N⟩ ?_;show(6-(intOf (au ((k:Int)+1))).toNat)<_;simp only[p,intOf]; omega
   refine Lv aF (gZ x)<|aD<|aK<|Wx<|cB<|gW<|bZ<|sN<|ay<|av aG<|aD<|Wr<|aJ aG ?_;have d:decide (v.seq=K (v.o-1).toNat+1)=true:=f_ (by rw[show(v.o-1).toNat=a by omega]; exact n);have m:=QO x G;exact⟨iI (Eq.symm (by unfold dL; rw[g,d,m]; rfl)),u⟩
  refine Qv aG (fun c b=>jZ n)<|aU aG<|Qn ?_;intro Yp U;have O:=bD U t;refine sN<|aM<|ay<|av aF<|aD<|Wr<|sR<|aJ aF ?_;have d:decide (v.seq=K (v.o-1).toNat+1)=false:=g_ (by rw[show(v.o-1).toNat=a by omega]; exact n);exact⟨iI (Eq.symm (by unfold dL; rw[g,d]; rfl)),O⟩
 rw[T_]at g;refine wM (fun _ _=>Ii v _ H) aF (by rw[g])<|aU aG<|aU aG<|aS<|aS<|aS<|aS<|aS<|aS<|aS<|aS<|aS<|aU aG<|Qn ?_;intro wb3 V;have P:=bD V t;refine sN<|aM<|ay<|av aF<|aD<|Wr<|sR<|aJ aF ?_;exact⟨iI (Eq.symm (by unfold dL; rw[g]; rfl)),P⟩
set_option maxHeartbeats 400000 in
theorem JE(a:Option Addr)(len cap:Nat)(l:List Int)(w:World)(hlen:len<=100)(hl:Hid (l.length=len))(hr:RdI .i64 w a l) :
 Calls Tryz.prog 146 #[.slice a len cap] w fun e w'=>e = .returned (.tuple #[.int .i64 (nP l).1,.bool (nP l).2])/\w'=w:=by
 go_enter Tryz.func146,Tryz.ntmps146
 go_wp2
 go_loop [2,3,8] (fun v o i=>o = .bool false /\ ∃ k:Nat,k<=len/\i = .int .i64 k/\ni (l.take k)=true/\v = .int .i64 (l.take k).sum) (fun _ _ i=>len-(intOf i).toNat)
 case atStart=>exact⟨rfl,0,K_ _,rfl,rfl,rfl⟩
 case round =>
  obtain⟨rfl,k,hk,rfl,hok,rfl⟩:=hrel;by_cases hk2:k<len
  ·have hk3:k<l.length:=(by rw[hl.out]; exact hk2);obtain⟨b,off,rfl,hc⟩:=hr k hk3;have hb:=Cn _ hok;have hle:(l.take k).length<=k:=List.length_take_le _ _;have HS:Hid _:=GX l k hk3;have HO:Hid _:=Eb l k hk3;have HF:Hid (Aq l[k]=false->nP l=(0,false)):=(by intro h; unfold nP; rw[b_ (by rw[GY hk3 h]; decide)]);have Hok:Hid _:=hok;clear hr hok;generalize l[k]=x at *;generalize hs:(l.take k).sum=s at *;clear hs;by_cases h0:x<0
   ·have hn:Aq x=false:=(by unfold Aq; simp; omega);have HR:Hid _:=HF.out hn;clear HF hn HS HO
    go_wp2
    go_ret2
    rw[HR.out]; exact⟨rfl,rfl⟩
   ·by_cases h1:1125899906842624<x
    ·have hn:Aq x=false:=(by unfold Aq; simp; omega);have HR:Hid _:=HF.out hn;clear HF hn HS HO
     go_wp2
     go_ret2
     rw[HR.out]; exact⟨rfl,rfl⟩
    ·have hy:Hid (Aq x=true):=(by unfold Aq Hid; simp; omega);clear HF
     go_wp2
     go_round
     case rel=>exact⟨rfl,k+1,by omega,by go_num,by rw[HO.out,Hok.out,hy.out]; rfl,by rw[HS.out]⟩
     case measure=>simp[intOf]; omega
  ·have hT:Hid (l.take k=l):=List.take_of_length_le (by rw[hl.out]; omega);rw[hT.out]at hok ⊢;have HR:Hid (nP l=(l.sum,true)):=(by unfold nP Hid; rw[d_ hok]);clear hok;generalize l.sum=s at *
   go_wp2
   go_ret2
   rw[HR.out]; exact⟨rfl,rfl⟩
def Two(a w:World)(d f:Nat)(b:List Int)(e g:Nat)(c:List Int):Prop :=
 w.ownsRow a.heap.size 2 1 (.slice (some ⟨d,0,none⟩) b.length f) b.length (b.map (Value.int .i64)) /\
 w.ownsRow a.heap.size 2 1 (.slice (some ⟨e,0,none⟩) c.length g) c.length (c.map (Value.int .i64))/\d≠e/\Below a.heap.size a w
theorem Two.alloc{g w:World}{c a:Nat}{e:List Int}{d b:Nat}{f:List Int}(h:Two g w c a e d b f)(o:Obj):Two g (w.alloc o) c a e d b f :=
 ⟨World.ownsRow.alloc h.1 o,World.ownsRow.alloc h.2.1 o,h.2.2.1,h.2.2.2.alloc h.2.2.2.size o⟩
theorem Two.drew{g w:World}{c a:Nat}{e:List Int}{d b:Nat}{f:List Int}(h:Two g w c a e d b f):Two g w.drew c a e d b f :=
 ⟨h.1,h.2.1,h.2.2.1,h.2.2.2.drew⟩
theorem Two.swap{g w:World}{c a:Nat}{e:List Int}{d b:Nat}{f:List Int}(h:Two g w c a e d b f):Two g w d b f c a e:=⟨h.2.1,h.1,h.2.2.1.symm,h.2.2.2⟩
theorem Yz:(Tryz.prog.info? 2).map (fun i=>(i.zero,i.size,i.bytes))=some (some (.int .i64 0),1,8):=by kernel_rfl
theorem Ld{ops:Array Oper}{o:Oper}{a:Act}{q w:World}{K:Act->World->Prop}{Q:Exit->Act->World->Prop}{E:Prop}(C:o.guard=none)(s x:Operand)
 (I:o.op = .call { callee := .builtin .append,args := #[s,x],argTypes := #[178,178] }) (l r:Nat) (d:List Int) (m t:Nat) (y:List Int) (h:Two q w l r d m t y)
 (n:Nat) (G:d.length=n) (J:a.eval s = .slice (some ⟨l,0,none⟩) n r) (i:Nat) (v:Int) (hx:a.eval x = .slice (some ⟨i,0,none⟩) 1 1) (B:w.cell? ⟨i,0,none⟩=some (.int .i64 v)) (R:n<=100)
 (A : ∀ g f w',Two q w' g f (d ++ [v]) m t y->(∀ a u,w.cell? a=some u->a.block≠l->w'.cell? a=some u)->K (a.put o.dst (.slice (some ⟨g,0,none⟩) (n+1) f)) w') :
 if Region.wanted o (yielded ops a.tmps)=true then Oper.wp Tryz.prog o a w K Q else E:=by
 obtain⟨O,D,L,M,N⟩:=info_parts Yz;subst G
 refine step_append_lies w C s x 178 I q.heap.size 2 O (.int .i64 0) 1 8 Tryz.underlying178 D L M N rfl (by decide) _ d.length (d.map (Value.int .i64)) J h.1 ⟨i,0,none⟩ 1 1 [.int .i64 v] hx rfl
  (by intro j u b; cases j with
   | zero=>simp at b; subst b; rw[addr_add]; exact B
   | succ j=>simp at b) (by intro u b; simp at b; subst b; rfl) (by decide) (by unfold maxLen; omega) (by omega) h.2.2.2.size w.heap.size rfl ?_
 intro g f w' z p c P;refine A g f w' ⟨?_,?_,?_,?_⟩ (fun a u b H=>p.cell b (by simp[Value.ownBlock]; exact H))
 ·rw[E_,List.map_append]; exact z
 ·exact World.ownsRow.kept h.2.1 p (.inr (by simp[Value.ownBlock]; exact fun e=>h.2.2.1 e.symm))
 ·have S:=World.ownsRow.lt h.2.1 m rfl
  rcases c with c|c
  ·simp[Value.ownBlock]at c; subst c; exact h.2.2.1
  omega
 exact h.2.2.2.grown p h.2.2.2.size (fun k F=>(World.ownsRow.lt h.1 k F).1)
theorem Two.rd1{j w:World}{a c:Nat}{b:List Int}{e d:Nat}{g:List Int}(h:Two j w a c b e d g):RdI .i64 w (some ⟨a,0,none⟩) b:=by
 intro i f;refine⟨a,0,rfl,?_⟩;rw[G_,World.ownsRow.cellAt h.1 i (by omega)];simp[f]
theorem Two.start(w:World)(v a b:Int):Two w ((w.alloc (.cells #[.int .i64 v] 2)).alloc (.cells #[.int .i64 a,.int .i64 b] 2)) w.heap.size 1 [v] (w.heap.size+1) 2 [a,b]:=by
 refine⟨World.ownsRow.alloc (World.ownsRow_lit w #[.int .i64 v] 1 (A_ _) (by unfold maxLen; omega) rfl) _,?_,by omega,((Below.refl _ _).alloc (A_ _) _).alloc (by simp) _⟩;have:=World.ownsRow_lit (base:=w.heap.size) (e:=2) (size:=1) (w.alloc (.cells #[.int .i64 v] 2)) #[.int .i64 a,.int .i64 b] 2 (by simp) (by unfold maxLen; omega) rfl
 simpa using this
theorem Two.adg(w:World)(v a b:Int):Two w ((w.alloc (.cells #[.int .i64 a,.int .i64 b] 2)).alloc (.cells #[.int .i64 v] 2)) (w.heap.size+1) 1 [v] w.heap.size 2 [a,b]:=by
 refine⟨?_,World.ownsRow.alloc (World.ownsRow_lit w #[.int .i64 a,.int .i64 b] 2 (A_ _) (by unfold maxLen; omega) rfl) _,by omega,((Below.refl _ _).alloc (A_ _) _).alloc (by simp) _⟩;have:=World.ownsRow_lit (base:=w.heap.size) (e:=2) (size:=1) (w.alloc (.cells #[.int .i64 a,.int .i64 b] 2)) #[.int .i64 v] 1 (by simp) (by unfold maxLen; omega) rfl
 simpa using this
theorem Two.at{c w:World}{g d:Nat}{k:List Int}{j e:Nat}{l:List Int}(h:Two c w g d k j e l){b:Nat}{x:Nat->Int}{T:TypeId}{f:Nat × Nat}(a:c.heap[b]? = some (.cells (bU .i64 54 x) T f))(i:Nat)(hi:i<54) :
 w.cell? ⟨b,i,none⟩=some (.int .i64 (x i)) :=
 gU ((h.2.2.2.block b (t_.1 a).1).trans a) i hi
theorem Two.lt{a w:World}{e c:Nat}{i:List Int}{f d:Nat}{j:List Int}(h:Two a w e c i f d j){b:Nat}(g:b<a.heap.size):b<w.heap.size:=n_ g h.2.2.2.size
theorem Fq(x:Nat->Int)(k:Nat) : ∀ j,(outs x k j).length=j+1
 | 0=>rfl
 | j+1=>by rw[outs,E_,Fq x k j]; rfl
theorem JG(x:Nat->Int)(k:Nat) : ∀ j,(ins x k j).length=j+2
 | 0=>rfl
 | j+1=>by rw[ins,E_,JG x k j]; rfl
def aht(w:World)(x:Nat->Int)(k j:Nat)(e f:Value)(g:World):Prop :=
 ∃ c a d b,e = .slice (some ⟨c,0,none⟩) (j+1) a/\f = .slice (some ⟨d,0,none⟩) (j+2) b/\Two w g c a (outs x k j) d b (ins x k j)
set_option maxHeartbeats 4000000 in
theorem Ij(b:Nat)(T:TypeId)(fz:Nat × Nat)(x:Nat->Int)(k:Nat)(w:World)(hk:k<6)(hb:Hid (w.heap[b]? = some (.cells (bU .i64 54 x) T fz))) :
 Calls Tryz.prog 96 #[.pointer (some ⟨b,0,none⟩),.int .i64 k] w fun e w'=>e = .returned (.tuple #[.int .i64 (localM x k).1,.bool (localM x k).2])/\Below w.heap.size w w':=by
 have hlt:b<w.heap.size:=(t_.1 hb.out).1;have hki:(k:Int)<6:=by omega
 go_enter Tryz.func96,Tryz.ntmps96
 go_upto_region 1 with (fail)
 go_cut [6,7] (fun s6 s7 wx=>aht w x k 0 s6 s7 wx)
 case first =>
  have c1:=gU hb.out (6+k) (by omega);have c2:=gU hb.out k (by omega);have c3:=gU hb.out (12+k) (by omega)
  go_wp2
  go_region
  all_goals go_wp2
  all_goals go_meet
  case rel=>exact⟨_,_,_,_,rfl,rfl,(Two.start w (x (6+k)) (x k) (x (12+k))).drew⟩
  case rel=>exact⟨_,_,_,_,rfl,rfl,(Two.adg w (x (6+k)) (x k) (x (12+k))).drew⟩
 case rest =>
  clear hlt
  go_wp2
  go_loopw [6,7,33] (fun s6 s7 i wx => ∃ j:Nat,j<=6/\i = .int .i64 j/\aht w x k j s6 s7 wx) (fun _ _ i _=>6-(intOf i).toNat)
  case atStart=>exact⟨0,K_ _,rfl,hcut⟩
  case round =>
   obtain⟨j,hj,rfl,g1,c1,g2,c2,rfl,rfl,hT⟩:=hrel;by_cases hj2:j<6
   ·have hji:(j:Int)<6:=(by omega);have hlt:b<w.heap.size:=(t_.1 hb.out).1;have hrow:wr.heap[b]? = some (.cells (bU .i64 54 x) T fz):=(hT.2.2.2.block b hlt).trans hb.out;have e1:=gU hrow (18+k*6+j) (by omega);have e2:=gU hrow (18+j*6+k) (by omega);have hlt2:b<wr.heap.size:=(t_.1 hrow).1;have Uy:Hid _:=hrow;have hg1:g1<wr.heap.size:=(World.ownsRow.lt hT.1 g1 rfl).2;have hg2:g2<wr.heap.size:=(World.ownsRow.lt hT.2.1 g2 rfl).2;clear hrow;have HO:Hid ((outs x k j).length=j+1):=Fq x k j;have HI:Hid ((ins x k j).length=j+2):=JG x k j
    go_wp2
    go_region_law (first
     | (refine Ld (o:=⟨some 46,_,_,_,_,_⟩) (by rfl) (.tmp 36) (.tmp 45) (by rfl) g1 c1 (outs x k j) _ _ _ (by first|assumption|exact Two.alloc (by assumption) _|exact Two.alloc (Two.alloc (by assumption) _) _|exact hT.drew.alloc _|exact(hT.drew.alloc _).alloc _) (j+1) HO.out (by rfl) _ (x (18+k*6+j)) (by rfl) (by first|(go_simp; done)|exact hkp _ _ (by go_simp; done) (by simp; omega)) (by omega) ?_; intro g cp w1 hT1 hkp; have e1':=hT1.at hb.out (18+k*6+j) (by omega); have e2':=hT1.at hb.out (18+j*6+k) (by omega); have hlt':=hT1.lt hlt)
     | (refine Ld (o:=⟨some 57,_,_,_,_,_⟩) (by rfl) (.tmp 47) (.tmp 56) (by rfl) g2 c2 (ins x k j) _ _ _ (by first|exact Two.swap (by assumption)|exact(Two.alloc (by assumption) _).swap|exact(Two.alloc (Two.alloc (by assumption) _) _).swap|exact(hT.drew.alloc _).swap|exact((hT.drew.alloc _).alloc _).swap) (j+2) HI.out (by rfl) _ (x (18+j*6+k)) (by rfl) (by first|(go_simp; done)|exact hkp _ _ (by go_simp; done) (by simp; omega)) (by omega) ?_; intro g cp w1 hT1 hkp; have e1':=hT1.at hb.out (18+k*6+j) (by omega); have e2':=hT1.at hb.out (18+j*6+k) (by omega); have hlt':=hT1.lt hlt))
    all_goals go_wp2
    all_goals go_roundw
    all_goals first
     | (simp[intOf]; omega)
     | exact⟨j+1,by omega,by go_num,_,_,_,_,rfl,rfl,hT1.swap⟩
   ·obtain rfl:j=6:=(by omega);have r1:=hT.rd1;have r2:=hT.swap.rd1;have hbel:=hT.2.2.2;have HO:Hid ((outs x k 6).length=7):=Fq x k 6;have HI:Hid ((ins x k 6).length=8):=JG x k 6;have b1:=wQ (outs x k 6);have b2:=wQ (ins x k 6);rw[HO.out]at b1;rw[HI.out]at b2;have HL:Hid (localM x k=((nP (ins x k 6)).1-(nP (outs x k 6)).1,(nP (outs x k 6)).2&&(nP (ins x k 6)).2)):=rfl;generalize outs x k 6=lo at *;generalize ins x k 6=li at *;clear hT
    go_wp2_with fail
    refine(JE _ 7 c1 lo _ (by omega) HO r1).mono ?_;rintro e w1 ⟨rfl,rfl⟩
    go_wp2_with fail
    refine(JE _ 8 c2 li _ (by omega) HI r2).mono ?_;rintro e w2 ⟨rfl,rfl⟩;generalize (nP li).1=n2 at *;generalize (nP lo).1=n1 at *;generalize (nP li).2=o2 at *;generalize (nP lo).2=o1 at *
    cases o1
    all_goals
     go_wp2_with fail
     go_ret2
     rw[HL.out]; exact⟨rfl,hbel⟩
namespace Rt
def Cw(x:Nat->Int)(k:Nat):Bool:=(localM x k).2&&decide (0<=(localM x k).1)&&decide (F x k<=C x k)&&(R x k k==0)
def Ee(x:Nat->Int):Nat->Bool
 | 0=>true
 | k+1=>Ee x k&&Cw x k
def gs(x:Nat->Int):List Int := [x 0,x 1,x 2,x 3,x 4,x 5]
def may(x:Nat->Int):Bool:=Ee x 6&&((nP (gs x)).2&&decide ((nP (gs x)).1<=1125899906842624))
theorem Fu(x:Nat->Int)(k:Nat)(h:Cw x k=false) : ∀ n,k<n->Ee x n=false
 | 0,hn=>M_ hn (by omega)
 | n+1,hn=>by
   rw[Ee];by_cases e:k=n
   ·subst e; rw[h,I_]
   ·rw[Fu x k h n (by omega),Bool.false_and]
theorem QS(x:Nat->Int)(k:Nat)(a:k<6)(h:Cw x k=false):may x=false:=by
 unfold may; rw[Fu x k h 6 a,Bool.false_and]
end Rt
theorem ahu{w:World}{g:Nat}{x:Nat->Int}{t:TypeId}{a:Nat × Nat}(h:w.heap[g]? = some (.cells (bU .i64 54 x) t a)):RdI .i64 w (some ⟨g,0,none⟩) (gs x):=by
 intro i b;have c:i<6:=b;refine⟨g,0,rfl,?_⟩;rw[G_,gU h i (by omega)]
 rcases(show i=0\/i=1\/i=2\/i=3\/i=4\/i=5 by omega)with rfl|rfl|rfl|rfl|rfl|rfl <;> rfl
set_option maxHeartbeats 1000000 in
theorem Pj(x:Nat->Int)(w:World) :
 Calls Tryz.prog 95 #[.agg (bU .i64 54 x)] w fun e w'=>e = .returned (.bool (may x))/\Below w.heap.size w w':=by
 go_enter Tryz.func95,Tryz.ntmps95
 go_wp2
 go_loopw [2,3,8] (fun r _ i wr=>r = .bool false /\ ∃ k:Nat,k<=6/\i = .int .i64 k/\Ee x k=true/\wr.heap[w.heap.size]? = some (.cells (bU .i64 54 x) 82 (0,0))/\Below w.heap.size w wr) (fun _ _ i _=>6-(intOf i).toNat)
 case atStart=>exact⟨rfl,0,K_ _,rfl,rfl,heap_alloc_new w _,(Below.refl _ _).alloc (A_ _) _⟩
 case round =>
  obtain⟨rfl,k,hk,rfl,hN,hrow,hbel⟩:=hrel;have hlt:w.heap.size<wr.heap.size:=(t_.1 hrow).1;have Uy:Hid _:=hrow;have HN:Hid _:=hN;clear hrow hN;by_cases hk2:k<6
  ·have hki:(k:Int)<6:=(by omega);have HM:Hid (Ee x (k+1)=(Ee x k&&Cw x k)):=rfl;have HF:Hid (Cw x k=false->may x=false):=fun h=>QS x k hk2 h;have HK:Hid (Cw x k=((localM x k).2&&decide (0<=(localM x k).1)&&decide (F x k<=C x k)&&(R x k k==0))):=rfl
   go_wp2_with fail
   refine(Ij w.heap.size _ _ x k wr hk2 Uy).mono ?_;rintro e w1 ⟨rfl,hb1⟩;have Lf:=(hb1.block _ hlt).trans Uy.out;have Lg:=hbel.trans (hb1.mono (Nat.le_of_lt hlt));have c1:=gU Lf (12+k) (by omega);have c2:=gU Lf (6+k) (by omega);have c3:=gU Lf (18+k*6+k) (by omega);have ahv:Hid _:=Lf;clear Lf Uy hbel hb1;generalize (localM x k).1=n at *;generalize hF:F x k=f at *;generalize hC:C x k=c at *;generalize hR:R x k k=r at *;unfold F at hF; unfold C at hC; unfold R at hR;rw[hF]at c1; rw[hC]at c2; rw[hR]at c3;clear hF hC hR
   cases his:(localM x k).2
   ·rw[his]at HK;clear his;have HR:Hid _:=HF.out (by rw[HK.out]; rfl);clear HK HF HM
    go_wp2_with fail
    go_quiet (fail)
    go_wp2
    go_ret
    rw[HR.out]; exact⟨rfl,bN Lg _⟩
   ·rw[his]at HK;clear his;by_cases h1:n<0
    ·have d1:decide (n<0)=true:=(by simpa using h1);have d1':decide (0<=n)=false:=(by simp; omega);have HR:Hid _:=HF.out (by rw[HK.out]; rw[d1']; rfl);clear HK HF HM
     go_wp2_with fail
     go_quiet (fail)
     go_wp2
     go_ret
     rw[HR.out]; exact⟨rfl,bN Lg _⟩
    ·have d1:decide (n<0)=false:=(by simp; omega);have d1':Hid (decide (0<=n)=true):=(by unfold Hid; simp; omega);by_cases h2:c<f
     ·have d2:decide (c<f)=true:=(by simpa using h2);have d2':decide (f<=c)=false:=(by simp; omega);have HR:Hid _:=HF.out (by rw[HK.out]; rw[d2',I_,Bool.false_and]);clear HK HF HM
      go_wp2_with fail
      go_quiet (fail)
      go_wp2
      go_ret
      rw[HR.out]; exact⟨rfl,bN Lg _⟩
     ·have d2:decide (c<f)=false:=(by simp; omega);have d2':Hid (decide (f<=c)=true):=(by unfold Hid; simp; omega);by_cases h3:r=0
      ·subst h3
       go_wp2_with fail
       go_quiet (fail)
       go_wp2
       go_roundw
       case rel=>exact⟨rfl,k+1,by omega,by go_num,by rw[HM.out,HN.out,HK.out,d1'.out,d2'.out]; rfl,ahv.out,bN Lg _⟩
       case measure=>simp[intOf]; omega
      ·have d3:(r != 0)=true:=(by simpa using h3);have d3':(r==0)=false:=(by simpa using h3);have HR:Hid _:=HF.out (by rw[HK.out]; rw[d3',I_]);clear HK HF HM
       go_wp2_with fail
       go_quiet (fail)
       go_wp2
       go_ret
       rw[HR.out]; exact⟨rfl,bN Lg _⟩
  ·obtain rfl:k=6:=(by omega);have HV:Hid (may x=((nP (gs x)).2&&decide ((nP (gs x)).1<=1125899906842624))):=(by unfold Hid may; rw[HN.out,Bool.true_and]);have hg:RdI .i64 wr (some ⟨w.heap.size,0,none⟩) (gs x):=ahu Uy.out;have HL:Hid ((gs x).length=6):=rfl;generalize gs x=l at *;clear HN
   go_wp2_with fail
   refine(JE _ 6 _ l _ (by omega) HL hg).mono ?_;rintro e w1 ⟨rfl,rfl⟩;generalize (nP l).1=n at *
   cases h:(nP l).2
   ·rw[h]at HV;clear h
    go_wp2_with fail
    go_ret
    rw[HV.out]; exact⟨rfl,hbel⟩
   ·rw[h]at HV;clear h
    go_wp2_with fail
    go_ret
    rw[HV.out]; exact⟨rfl,hbel⟩
namespace Rt
def iC(i:Int):Bool:=decide (1<=i)&&decide (i<=6)
def gF(x:Nat->Int)(i:Int):Int:=if iC i&&may x then(localM x (i.toNat-1)).1 else 0
theorem Az{n:Int}(h:Aq n=true):0<=n/\n<=1125899906842624:=by unfold Aq at h; simpa using h
theorem Pk{l:List Int}(h:(nP l).2=true):ni l=true:=by
 unfold nP at h;by_cases a:ni l=true
 ·exact a
 rw[b_ a]at h; exact M_ h (by decide)
theorem zx{l:List Int}(h:ni l=true){n:Int}(a:n∈l):0<=n/\n<=1125899906842624:=by
 unfold ni at h;rw[List.all_eq_true]at h;exact Az (h n a)
theorem Lh(x:Nat->Int)(k:Nat) : ∀ j,C x k∈outs x k j
 | 0=>by simp[outs]
 | j+1=>by rw[outs]; exact List.mem_append_left _ (Lh x k j)
theorem Ik(x:Nat->Int)(k i:Nat) : ∀ j,i<j->R x k i∈outs x k j
 | 0,h=>M_ h (by omega)
 | j+1,h=>by
   rw[outs];by_cases e:i=j
   ·subst e; simp
   ·exact List.mem_append_left _ (Ik x k i j (by omega))
theorem Ev(x:Nat->Int)(k:Nat) : ∀ j,G x k∈ins x k j/\F x k∈ins x k j
 | 0=>by simp[ins]
 | j+1=>by rw[ins]; exact⟨List.mem_append_left _ (Ev x k j).1,List.mem_append_left _ (Ev x k j).2⟩
theorem Pm(x:Nat->Int)(k:Nat) : ∀ n,Ee x n=true->k<n->Cw x k=true
 | 0,_,hk=>M_ hk (by omega)
 | n+1,h,hk=>by
   rw[Ee,S_]at h;by_cases e:k=n
   ·subst e; exact h.2
   ·exact Pm x k n h.1 (by omega)
theorem Uz{x:Nat->Int}(h:may x=true)(k:Nat)(a:k<6):Cw x k=true:=by
 unfold may at h; rw[S_]at h; exact Pm x k 6 h.1 a
structure D9(x:Nat->Int)(k:Nat):Prop where
 g:0<=G x k/\G x k<=1125899906842624
 c:0<=C x k/\C x k<=1125899906842624
 f:0<=F x k/\F x k<=1125899906842624
 fc:F x k<=C x k
 r : ∀ i,i<6->0<=R x k i/\R x k i<=1125899906842624
 l:0<=(localM x k).1
 rkk:R x k k=0
 l2:(localM x k).2=true
theorem YA{x:Nat->Int}{k:Nat}(h:Cw x k=true):D9 x k:=by
 unfold Cw at h;rw[S_,S_,S_]at h;obtain⟨⟨⟨a,e⟩,h3⟩,h4⟩:=h;have d:=a;unfold localM at a;rw[S_]at a;have c:=Pk a.1;have b:=Pk a.2;exact⟨zx b (Ev x k 6).1,zx c (Lh x k 6),zx b (Ev x k 6).2,by simpa using h3,fun i f=>zx c (Ik x k i 6 f),by simpa using e,by simpa using h4,d⟩
theorem wX{x:Nat->Int}(h:may x=true)(k:Nat)(a:k<6):D9 x k:=YA (Uz h k a)
theorem QT(x:Nat->Int)(k:Nat) : -(1125899906842624*8)<=(localM x k).1/\(localM x k).1<=1125899906842624*8:=by
 have a:=wQ (ins x k 6);have b:=wQ (outs x k 6);rw[Tn]at a;rw[QK]at b;unfold localM;simp only;omega
end Rt
set_option maxHeartbeats 400000 in
theorem tH(i:Int)(w:World)(hi : -9223372036854775808<=i/\i<=9223372036854775807) :
 Calls Tryz.prog 94 #[.int .i64 i] w fun e w'=>e = .returned (.bool (iC i))/\w'=w:=by
 unfold iC;by_cases h1:i<1
 ·have d1:decide (1<=i)=false:=by simp; omega
  have D1:Hid _:=d1
  go_enter Tryz.func94,Tryz.ntmps94
  go_wp2
  go_ret
  first|exact⟨rfl,rfl⟩|(rw[D1.out]; exact⟨rfl,rfl⟩)
 have d1:decide (1<=i)=true:=by simp; omega
 have D1:Hid _:=d1
 go_enter Tryz.func94,Tryz.ntmps94
 go_wp2
 go_ret
 first|exact⟨rfl,rfl⟩|(rw[D1.out]; exact⟨rfl,rfl⟩)
theorem nV:(Tryz.prog.info? 82).map (·.size)=some 54:=by kernel_rfl
set_option maxRecDepth 100000 in
set_option maxHeartbeats 400000 in
theorem wY(x:Nat->Int)(i:Int)(w:World)(hi : -9223372036854775808<=i/\i<=9223372036854775807) :
 Calls Tryz.prog 60 #[.agg (bU .i64 54 x),.int .i64 i] w fun e w'=>e = .returned (.int .i64 (gF x i))/\Below w.heap.size w w':=by
 have HV:Hid (gF x i=if iC i&&may x then(localM x (i.toNat-1)).1 else 0):=rfl;have hrow:Hid ((w.alloc (.cells (bU .i64 54 x) 82)).heap[w.heap.size]? = some (.cells (bU .i64 54 x) 82 (0,0))):=heap_alloc_new w _;have HR:Hid (iC i=true<->1<=i/\i<=6):=by unfold Hid iC; simp
 have UA:Hid (∀ w',Calls Tryz.prog 94 #[.int .i64 i] w' fun e w''=>e = .returned (.bool (iC i))/\w''=w'):=fun w'=>tH i w' hi;have hmay:Hid (∀ w',Calls Tryz.prog 95 #[.agg (bU .i64 54 x)] w' fun e w''=>e = .returned (.bool (may x))/\Below w'.heap.size w' w''):=fun w'=>Pj x w';generalize iC i=r at *
 cases r
 ·go_enter Tryz.func60,Tryz.ntmps60
  go_wp2_with (go_at_call 94; refine(UA.out _).mono ?_; rintro e w' ⟨rfl,rfl⟩)
  go_ret
  rw[HV.out]; exact⟨rfl,(Below.refl _ _).alloc (A_ _) _⟩
 have hb:1<=i/\i<=6:=HR.out.1 rfl;obtain⟨k,hk⟩:=Int.eq_ofNat_of_zero_le (show 0<=i-1 by omega);have Hk:Hid (i-1=(k:Int)):=hk;have hk6:k<6:=by omega
 have hkt:Hid (i.toNat-1=k):=by unfold Hid; omega
 clear hk;generalize may x=m at *
 cases m
 ·go_enter Tryz.func60,Tryz.ntmps60
  go_wp2_with (first
   | (go_at_call 94; refine(UA.out _).mono ?_; rintro e w' ⟨rfl,rfl⟩)
   | (refine zW (by rfl) (wp_load_row (o:=⟨some 11,_,_,_,_,_⟩) 82 (.tmp 2) (by rfl) w.heap.size (by rfl) 82 (bU .i64 54 x) (0,0) _ hrow.out Tryz.underlying82 (by rfl) (by rw[bP]; exact nV) ?_))
   | (go_at_call 95; refine(hmay.out _).mono ?_; rintro e w1 ⟨rfl,hb1⟩))
  go_ret
  rw[HV.out]; exact⟨rfl,bal hb1⟩
 go_enter Tryz.func60,Tryz.ntmps60
 go_wp2_with (first
  | (go_at_call 94; refine(UA.out _).mono ?_; rintro e w' ⟨rfl,rfl⟩)
  | (refine zW (by rfl) (wp_load_row (o:=⟨some 11,_,_,_,_,_⟩) 82 (.tmp 2) (by rfl) w.heap.size (by rfl) 82 (bU .i64 54 x) (0,0) _ hrow.out Tryz.underlying82 (by rfl) (by rw[bP]; exact nV) ?_))
  | (go_at_call 95; refine(hmay.out _).mono ?_; rintro e w1 ⟨rfl,hb1⟩)
  | (go_at_call 96; rw[Hk.out]; refine(Ij w.heap.size 82 (0,0) x k w1 hk6 ((hb1.block _ (by simp)).trans hrow.out)).mono ?_; rintro e w2 ⟨rfl,hb2⟩))
 go_ret
 rw[HV.out,hkt.out]; exact⟨rfl,M5 (bal hb1) hb2⟩
namespace Rt
def zero:Nat->Int:=fun _=>0
def cZ(x:Nat->Int)(n:Int)(is:Bool)(a:Int)(off:Nat):(Nat->Int) × Int :=
 if may x&&decide (1<=n)&&decide (n<=1125899906842624)then
  if is then
   if a=0 then
    if x off+n<=1125899906842624 then(upd x off (x off+n),0)else(zero,6)
   else(zero,a)
  else(zero,10)
 else(zero,1)
end Rt
theorem Ew(T:TypeId)(a:Nat × Nat):Obj.cells (bU .i64 54 zero) T a = .cells #[.int .i64 0,.int .i64 0,.int .i64 0,.int .i64 0,.int .i64 0,.int .i64 0,.int .i64 0,.int .i64 0,.int .i64 0,.int .i64 0,.int .i64 0,.int .i64 0,.int .i64 0,.int .i64 0,.int .i64 0,.int .i64 0,.int .i64 0,.int .i64 0,.int .i64 0,.int .i64 0,.int .i64 0,.int .i64 0,.int .i64 0,.int .i64 0,.int .i64 0,.int .i64 0,.int .i64 0,.int .i64 0,.int .i64 0,.int .i64 0,.int .i64 0,.int .i64 0,.int .i64 0,.int .i64 0,.int .i64 0,.int .i64 0,.int .i64 0,.int .i64 0,.int .i64 0,.int .i64 0,.int .i64 0,.int .i64 0,.int .i64 0,.int .i64 0,.int .i64 0,.int .i64 0,.int .i64 0,.int .i64 0,.int .i64 0,.int .i64 0,.int .i64 0,.int .i64 0,.int .i64 0,.int .i64 0] T a:=by rfl
theorem results_cell_tmp{P:Program}{b:Func}{p q:Tmp}{ty:TypeId}(h:b.results = #[.cell p ty,.tmp q])(a:Array Value)(w:World)(g:Nat)(t:TypeId)(cs:Array Value)(c:Nat × Nat)(d:TypeDesc)
 (i:a.getD p undef = .pointer (some ⟨g,0,none⟩)) (f:w.heap[g]? = some (.cells cs t c))
 (k:P.underlying ty=some d) (e:(match d with | .struct _ | .array _ _=>true|_=>false)=true) (hi:(P.info? ty).map (·.size)=some cs.size) :
 (results b a).run P w = .ok (.tuple #[.agg cs,a.getD q undef]) w:=by
 have j:a[p]?.getD undef = .pointer (some ⟨g,0,none⟩):=by simpa using i
 simp[results,h,j,asAddr,run_loadVar_row w g t ty cs c d f k e hi]
def Fv(x:Nat->Int)(n:Int)(is:Bool)(a:Int)(off:Nat)(w:World)(e:Ending)(w':World):Prop :=
 e = .returned (.tuple #[.agg (bU .i64 54 (cZ x n is a off).1),.int .i64 (cZ x n is a off).2])/\Below w.heap.size w w'
theorem kr{w a:World}{B g:Nat}{e:Array Value}(c:Below B w a)(b:B<=g)(d:a.heap[g]? = some (.cells e 82 (0,0)))(y:Nat->Int) :
 (a.setRow g (bU .i64 54 y)).heap[g]? = some (.cells (bU .i64 54 y) 82 (0,0))/\Below B w (a.setRow g (bU .i64 54 y)) :=
 ⟨setRow_heap _ _ _ _ _ _ d,alP c b⟩
theorem wZ{x:Nat->Int}{n:Int}{is:Bool}{c:Int}{off:Nat}{w b:World}{a:Act}{g:Nat}{y:Nat->Int}{k:Int}(d:cZ x n is c off=(y,k))(f:a.defers = [])
 (i:a.tmps.getD 10 undef = .pointer (some ⟨g,0,none⟩)) (j:a.tmps.getD 11 undef = .int .i64 k) (h:b.heap[g]? = some (.cells (bU .i64 54 y) 82 (0,0))) (e:Below w.heap.size w b) :
 bodyPost Tryz.prog Tryz.f233 (Fv x n is c off w) .ret a b:=by
 refine bodyPost_ret (v := .tuple #[.agg (bU .i64 54 y),.int .i64 k]) ?_ f ⟨?_,e⟩
 ·rw[results_cell_tmp rfl a.tmps b g 82 _ (0,0) _ i h Tryz.underlying82 rfl (by rw[bP]; exact nV),j]
 rw[d]
theorem UC(x:Nat->Int)(n:Int)(is:Bool)(a:Int)(off:Nat)(v:Int)(f:x off=v) :
 (may x=false/\Hid (cZ x n is a off=(zero,1)))\/(may x=true/\n<1/\Hid (cZ x n is a off=(zero,1)))\/(may x=true/\1125899906842624<n/\Hid (cZ x n is a off=(zero,1))) \/
 (may x=true/\1<=n/\n<=1125899906842624/\is=false/\Hid (cZ x n is a off=(zero,10)))\/(may x=true/\1<=n/\n<=1125899906842624/\is=true/\(a != 0)=true/\Hid (cZ x n is a off=(zero,a))) \/
 (may x=true/\1<=n/\n<=1125899906842624/\is=true/\a=0/\1125899906842624<v+n/\Hid (cZ x n is a off=(zero,6)))\/(may x=true/\1<=n/\n<=1125899906842624/\is=true/\a=0/\v+n<=1125899906842624/\Hid (cZ x n is a off=(upd x off (v+n),0))):=by
 unfold Hid cZ; rw[f]
 cases may x
 ·exact .inl ⟨rfl,rfl⟩
 by_cases b:n<1
 ·exact .inr (.inl ⟨rfl,b,by rw[g_ (show ¬ 1<=n by omega)]; rfl⟩)
 by_cases c:1125899906842624<n
 ·exact .inr (.inr (.inl ⟨rfl,c,by rw[g_ (show ¬ n<=1125899906842624 by omega),I_]; rfl⟩))
 rw[f_ (show 1<=n by omega),f_ (show n<=1125899906842624 by omega)];have b:1<=n:=by omega
 have c:n<=1125899906842624:=by omega
 cases is
 ·exact .inr (.inr (.inr (.inl ⟨rfl,b,c,rfl,rfl⟩)))
 by_cases d:a=0
 ·subst d;by_cases e:v+n<=1125899906842624
  ·exact .inr (.inr (.inr (.inr (.inr (.inr ⟨rfl,b,c,rfl,rfl,e,by rw[d_ e]; rfl⟩)))))
  exact .inr (.inr (.inr (.inr (.inr (.inl ⟨rfl,b,c,rfl,rfl,by omega,by rw[b_ e]; rfl⟩)))))
 exact .inr (.inr (.inr (.inr (.inl ⟨rfl,b,c,rfl,by simpa using d,by rw[b_ d]; rfl⟩))))
set_option maxRecDepth 100000 in
set_option maxHeartbeats 14000000 in
theorem xg(x:Nat->Int)(n:Int)(is:Bool)(fm fn:FuncId)(cm cn:Array Value)(em:Int)(off:Nat)(w:World)(hoff:is=true->off<54)(hx:is=true->may x=true->0<=x off/\x off<=1125899906842624)
 (hcm : ∀(args:Array Value) (w:World),(callFunc fm args).run Tryz.prog w = .ok (.enter fm args) w)
 (hcn : ∀(args:Array Value) (w:World),(callFunc fn args).run Tryz.prog w = .ok (.enter fn args) w)
 (hm:may x=true->1<=n->n<=1125899906842624->is=true -> ∀ w',Below w.heap.size w w'->Calls Tryz.prog fm cm w' fun e w''=>e = .returned (.int .i64 em)/\Below w'.heap.size w' w'')
 (hn:is=true -> ∀ w' g,Below w.heap.size w w'->Calls Tryz.prog fn (#[.pointer (some ⟨g,0,none⟩)]++cn) w' fun e w''=>e = .returned (.pointer (some ⟨g,off,none⟩))/\Below w'.heap.size w' w'') :
 Calls Tryz.prog 233 #[.agg (bU .i64 54 x),.int .i64 n,.bool is,.func (.func fm) #[] cm,.func (.func fn) #[] cn] w (Fv x n is em off w):=by
 have hmay:Hid (∀ w',Calls Tryz.prog 95 #[.agg (bU .i64 54 x)] w' fun e w''=>e = .returned (.bool (may x))/\Below w'.heap.size w' w''):=fun w'=>Pj x w';obtain⟨v,hv⟩ : ∃ v,x off=v:=⟨_,rfl⟩;rw[hv]at hx
 rcases UC x n is em off v hv with ⟨h,hT⟩|⟨h,h1,hT⟩|⟨h,h1,hT⟩|⟨h,h1,h2,rfl,hT⟩|⟨h,h1,h2,rfl,h3,hT⟩|⟨h,h1,h2,rfl,rfl,h3,hT⟩|⟨h,h1,h2,rfl,rfl,h3,hT⟩
 all_goals
  try replace hm:Hid _:=hm h h1 h2 rfl
  try replace hn:Hid _:=hn rfl
  try replace hoff:=hoff rfl
  try replace hx:=hx rfl h
  go_enter Tryz.func233,Tryz.ntmps233
  go_upto_region 1 with (fail)
  rw[<- Ew];have hx0:Hid (((w.alloc (.cells (bU .i64 54 x) 82)).alloc (.cells (bU .i64 54 zero) 82)).heap[w.heap.size]? = some (.cells (bU .i64 54 x) 82 (0,0))):=heap_alloc2_old w _ _;have hz0:Hid (((w.alloc (.cells (bU .i64 54 x) 82)).alloc (.cells (bU .i64 54 zero) 82)).heap[w.heap.size+1]? = some (.cells (bU .i64 54 zero) 82 (0,0))):=heap_alloc2_new w _ _;have hb0:Below w.heap.size w ((w.alloc (.cells (bU .i64 54 x) 82)).alloc (.cells (bU .i64 54 zero) 82)):=((Below.refl _ _).alloc (A_ _) _).alloc (by simp) _;have hs0:w.heap.size+1<((w.alloc (.cells (bU .i64 54 x) 82)).alloc (.cells (bU .i64 54 zero) 82)).heap.size:=by simp
  generalize (w.alloc (.cells (bU .i64 54 x) 82)).alloc (.cells (bU .i64 54 zero) 82)=W at *;rw[h]at hmay
  go_wp2_with (first
   | (refine wpList_load_row (o:=⟨some 15,_,_,_,_,_⟩) (by rfl) 82 (.tmp 5) (by rfl) w.heap.size (by rfl) 82 (bU .i64 54 x) (0,0) _ hx0.out Tryz.underlying82 (by rfl) (by rw[bP]; exact nV) ?_)
   | (go_at_call 95; refine(hmay.out _).mono ?_; rintro e w1 ⟨rfl,hb1⟩; have hz1:Hid _:=(hb1.block (w.heap.size+1) hs0).trans hz0.out; have hx1:Hid _:=(hb1.block w.heap.size (by omega)).trans hx0.out; have hB1:=hb0.trans (hb1.mono hb0.size); have hs1:=n_ hs0 hb1.size)
   | (refine(hm.out _ hB1).mono ?_; rintro e w2 ⟨rfl,hb2⟩; have hz2:Hid _:=(hb2.block (w.heap.size+1) hs1).trans hz1.out; have hx2:Hid _:=(hb2.block w.heap.size (by omega)).trans hx1.out; have hB2:=hB1.trans (hb2.mono hB1.size); have hs2:=n_ hs1 hb2.size)
   | (refine(hn.out _ _ hB2).mono ?_; rintro e w3 ⟨rfl,hb3⟩; have hz3:Hid _:=(hb3.block (w.heap.size+1) hs2).trans hz2.out; have hx3:=(hb3.block w.heap.size (by omega)).trans hx2.out; have hB3:=hB2.trans (hb3.mono hB2.size); have hs3:=n_ hs2 hb3.size; have hc3:=gU hx3 off hoff; have hf3:=frozen_of_row w3 w.heap.size off _ _ hx3; have hz4:Hid ((w3.setCell ⟨w.heap.size,off,none⟩ (.int .i64 (v+n))).heap[w.heap.size+1]? = some (.cells (bU .i64 54 zero) 82 (0,0))):=(heap_setCell_other _ _ _ _ (by simp)).trans hz3.out; have hx4:Hid ((w3.setCell ⟨w.heap.size,off,none⟩ (.int .i64 (v+n))).heap[w.heap.size]? = some (.cells (bU .i64 54 (upd x off (v+n))) 82 (0,0))):=by { unfold Hid; rw[heap_setCell_same _ _ _ _ _ _ hx3,KF] }; have hB4:Below w.heap.size w (w3.setCell ⟨w.heap.size,off,none⟩ (.int .i64 (v+n))):=hB3.setCell (A_ _) _; clear hx3; rw[hv]at hc3)
   | (refine wpList_load_row (o:=⟨some 46,_,_,_,_,_⟩) (by rfl) 82 (.tmp 5) (by rfl) w.heap.size (by rfl) 82 (bU .i64 54 (upd x off (v+n))) (0,0) _ hx4.out Tryz.underlying82 (by rfl) (by rw[bP]; exact nV) ?_)
   | (refine wpList_store_row (o:=⟨none,.store 82 (.tmp 10) (.tmp 45),_,_,_,_⟩) (by rfl) 82 (.tmp 10) (.tmp 45) (by rfl) (w.heap.size+1) (bU .i64 54 zero) (by rfl) (by rfl) 82 (bU .i64 54 zero) hz4.out (by rw[bP]; exact nV) (by rw[bP]) (ow _ _ _) ?_)
   | (refine wpList_store_row (o:=⟨none,.store 82 (.tmp 10) (.tmp 46),_,_,_,_⟩) (by rfl) 82 (.tmp 10) (.tmp 46) (by rfl) (w.heap.size+1) (bU .i64 54 (upd x off (v+n))) (by rfl) (by rfl) 82 (bU .i64 54 zero) hz4.out (by rw[bP]; exact nV) (by rw[bP,bP]) (ow _ _ _) ?_)
   | (refine wpList_store_row (o:=⟨none,.store 82 (.tmp 10) (.tmp 31),_,_,_,_⟩) (by rfl) 82 (.tmp 10) (.tmp 31) (by rfl) (w.heap.size+1) (bU .i64 54 zero) (by rfl) (by rfl) 82 (bU .i64 54 zero) hz2.out (by rw[bP]; exact nV) (by rw[bP]) (ow _ _ _) ?_)
   | (refine wpList_store_row (o:=⟨none,.store 82 (.tmp 10) (.tmp 26),_,_,_,_⟩) (by rfl) 82 (.tmp 10) (.tmp 26) (by rfl) (w.heap.size+1) (bU .i64 54 zero) (by rfl) (by rfl) 82 (bU .i64 54 zero) hz1.out (by rw[bP]; exact nV) (by rw[bP]) (ow _ _ _) ?_)
   | (refine wpList_store_row (o:=⟨none,.store 82 (.tmp 10) (.tmp 22),_,_,_,_⟩) (by rfl) 82 (.tmp 10) (.tmp 22) (by rfl) (w.heap.size+1) (bU .i64 54 zero) (by rfl) (by rfl) 82 (bU .i64 54 zero) hz1.out (by rw[bP]; exact nV) (by rw[bP]) (ow _ _ _) ?_))
  try exact wZ hT.out rfl rfl rfl (kr hB1 (by omega) hz1.out _).1 (kr hB1 (by omega) hz1.out _).2
 ·have hend:=kr hB2 (by omega) hz2.out zero;exact wZ hT.out rfl rfl rfl hend.1 hend.2
 ·have hend:=kr hB4 (by omega) hz4.out zero;exact wZ hT.out rfl rfl rfl hend.1 hend.2
 have hend:=kr hB4 (by omega) hz4.out (upd x off (v+n));exact wZ hT.out rfl rfl rfl hend.1 hend.2
section
namespace Rt
def own(p:Nat):Nat:=if p<6 then p else if p<12 then p-6 else if p<18 then p-12 else(p-18) / 6
end Rt
attribute [local irreducible] Oper.wp wpList Code.wp
end
section
set_option maxHeartbeats 400000 in
theorem Fw(is:Bool)(e:Int)(w:World) :
 Calls Tryz.prog 235 #[.bool is,.int .i64 e] w fun r w'=>r = .returned (.int .i64 (if is then e else 0))/\w'=w:=by
 cases is
 all_goals
  go_enter Tryz.func235,Tryz.ntmps235
  go_wp2
  go_ret
  exact⟨rfl,rfl⟩
def Pn(r:(Nat->Int) × Int)(w:World)(e:Ending)(w':World):Prop :=
 e = .returned (.tuple #[.agg (bU .i64 54 r.1),.int .i64 r.2])/\Below w.heap.size w w'
theorem uJ{c:Func}{p q:Tmp}(j:c.results = #[.cell p 82,.tmp q]){b w:World}{a:Act}{g:Nat}{r:(Nat->Int) × Int}(e:a.defers = [])
 (h:a.tmps.getD p undef = .pointer (some ⟨g,0,none⟩)) (i:a.tmps.getD q undef = .int .i64 r.2) (f:w.heap[g]? = some (.cells (bU .i64 54 r.1) 82 (0,0))) (d:Below b.heap.size b w) :
 bodyPost Tryz.prog c (Pn r b) .ret a w :=
 bodyPost_ret (by rw[results_cell_tmp j a.tmps w g 82 _ (0,0) _ h f Tryz.underlying82 rfl (by rw[bP]; exact nV),i]) e ⟨rfl,d⟩
def RS2(x:Nat->Int)(g:Nat)(i n:Int)(w':World):Prop:=w'.heap[g]? = some (.cells (bU .i64 54 x) 82 (0,0))/\w'.cell? ⟨g+1,0,none⟩=some (.int .i64 i)/\w'.cell? ⟨g+1+1,0,none⟩=some (.int .i64 n)
theorem oF(i:Int):iC i=true<->1<=i/\i<=6:=by unfold iC; simp
attribute [local irreducible] Oper.wp wpList Code.wp
end
section
namespace Rt
def qE(x:Nat->Int)(i n:Int):Int:=if decide (gF x i<n)then 11 else 0
def bG(x:Nat->Int)(i n:Int):(Nat->Int) × Int:=cZ x n (iC i) (qE x i n) (6+(i.toNat-1))
theorem Il(x:Nat->Int)(i:Int) : -(1125899906842624*8)<=gF x i/\gF x i<=1125899906842624*8:=by
 unfold gF;split
 ·exact QT x _
 omega
end Rt
attribute [local irreducible] Oper.wp wpList Code.wp in
set_option maxRecDepth 100000 in
set_option maxHeartbeats 1000000 in
theorem QU(x:Nat->Int)(i n:Int)(g h hi:Nat)(w:World)(hn:1<=n/\n<=1125899906842624)(hib : -9223372036854775808<=i/\i<=9223372036854775807)(hx:Hid (w.heap[g]? = some (.cells (bU .i64 54 x) 82 (0,0))))(hc:w.cell? ⟨h,0,none⟩=some (.int .i64 n))(hci:w.cell? ⟨hi,0,none⟩=some (.int .i64 i)) :
 Calls Tryz.prog 234 #[.pointer (some ⟨h,0,none⟩),.pointer (some ⟨g,0,none⟩),.pointer (some ⟨hi,0,none⟩)] w fun e w'=>e = .returned (.int .i64 (qE x i n))/\Below w.heap.size w w':=by
 have HE:Hid (qE x i n=if decide (gF x i<n)then 11 else 0):=rfl;have hb:=Il x i;have hlh:=block_lt_of_cell hc;have YB:=block_lt_of_cell hci;have hlg:g<w.heap.size:=(t_.1 hx.out).1
 dsimp only at hlh YB
 have hB0:Below w.heap.size w w.drew:=jB w 1;have hs:Hid (∀ w',Calls Tryz.prog 60 #[.agg (bU .i64 54 x),.int .i64 i] w' fun e w''=>e = .returned (.int .i64 (gF x i))/\Below w'.heap.size w' w''):=fun w'=>wY x i w' hib;generalize gF x i=s1 at *;obtain⟨b,r,hd,HE⟩ : ∃(b:Bool) (r:Int),(b=true/\r=11/\s1<n\/b=false/\r=0 /\ ¬ s1<n)/\Hid (qE x i n=r):=by
  by_cases hd:s1<n
  ·exact⟨true,11,.inl ⟨rfl,rfl,hd⟩,by rw[f_ hd,d_ rfl]at HE; exact HE⟩
  ·exact⟨false,0,.inr ⟨rfl,rfl,hd⟩,by rw[g_ hd,b_ (by decide)]at HE; exact HE⟩
 go_enter Tryz.func234,Tryz.ntmps234
 go_upto_region 1 with (fail)
 rename_i K0 Sg;refine wp_region_noPanic<|wp_region_held_drew (S:=Below w.heap.size w) (by kernel_rfl) hB0 fun hS => ?_;refine wT0 0 (.int .i64 n) rfl (fun w' hw=>?_) hS ?_
 ·have h2:=(hw.cell (p:=⟨h,0,none⟩) hlh).trans hc;clear hw hc hci
  go_simp
 refine wT0 1 (.agg (bU .i64 54 x)) rfl (fun w' hw=>?_) hS ?_
 ·exact ng 82 (.tmp 1) (by rfl) g (by rfl) 82 (bU .i64 54 x) (0,0) _ ((hw.block _ hlg).trans hx.out) Tryz.underlying82 (by rfl) (by rw[bP]; exact nV)
 refine wT0 2 (.int .i64 i) rfl (fun w' hw=>?_) hS ?_
 ·have h2:=(hw.cell (p:=⟨hi,0,none⟩) YB).trans hci;clear hw hc hci
  go_simp
 refine wpAnyH_all (rs := [3]) (by kernel_rfl) (by decide) ?_;intro j hj;obtain rfl:j=3:=by simpa using hj
 refine wpOp_step rfl<|fun K hK => ?_;clear hj
 go_simp
 refine(hs.out _).mono ?_;rintro e w1 ⟨rfl,hb1⟩;have hS:=M5 hS hb1;refine hK _ _ ⟨hS,?_⟩;clear hK K;refine wT0 4 (.bool b) rfl (fun w' hw=>?_) hS ?_
 ·clear hw hc hci
  rcases hd with ⟨rfl,rfl,hd⟩|⟨rfl,rfl,hd⟩ <;> go_simp
 refine wpAnyH_all (rs := [5]) (by kernel_rfl) (by decide) ?_;intro j hj;obtain rfl:j=5:=by simpa using hj
 refine wpOp_step rfl<|fun K hK => ?_;clear hj
 go_simp
 refine(Fw _ _ _).mono ?_;rintro e w2 ⟨rfl,rfl⟩;refine hK _ _ ⟨hS,?_⟩;clear hK K;refine wT0 6 (.int .i64 r) rfl (fun w' hw=>?_) hS ?_
 ·clear hw hc hci
  rcases hd with ⟨rfl,rfl,hd⟩|⟨rfl,rfl,hd⟩ <;> go_simp
 refine wpAnyH_done (by kernel_rfl) ?_ _;refine Sg _ _ ?_
 rcases hd with ⟨rfl,rfl,hd⟩|⟨rfl,rfl,hd⟩ <;> (go_wp2; go_ret; rw[HE.out]; exact⟨rfl,hS⟩)
set_option maxHeartbeats 400000 in
theorem QV(g h:Nat)(i:Int)(w:World)(hi:1<=i/\i<=6)(hc:w.cell? ⟨h,0,none⟩=some (.int .i64 i)) :
 Calls Tryz.prog 236 #[.pointer (some ⟨g,0,none⟩),.pointer (some ⟨h,0,none⟩)] w fun e w'=>e = .returned (.pointer (some ⟨g,6+(i.toNat-1),none⟩))/\Below w.heap.size w w':=by
 obtain⟨k,hk⟩:=Int.eq_ofNat_of_zero_le (show 0<=i-1 by omega);obtain rfl:i=(k:Int)+1:=by omega
 have hk6:(k:Int)<6:=by omega
 have HE:Hid (((k:Int)+1).toNat-1=k):=by unfold Hid; omega
 clear hk
 go_enter Tryz.func236,Tryz.ntmps236
 go_wp2_with fail
 go_quiet (fail)
 go_wp2
 go_ret
 rw[HE.out];exact⟨rfl,bN (Below.refl _ _) _⟩
theorem UD(args:Array Value)(w:World):(callFunc 234 args).run Tryz.prog w = .ok (.enter 234 args) w:=kK Tryz.func234 rfl rfl args w
theorem UE(args:Array Value)(w:World):(callFunc 236 args).run Tryz.prog w = .ok (.enter 236 args) w:=kK Tryz.func236 rfl rfl args w
attribute [local irreducible] Oper.wp wpList Code.wp
set_option maxRecDepth 100000 in
set_option maxHeartbeats 1000000 in
theorem UF(x:Nat->Int)(i n:Int)(w:World)(hi : -9223372036854775808<=i/\i<=9223372036854775807) :
 Calls Tryz.prog 221 #[.agg (bU .i64 54 x),.int .i64 i,.int .i64 n] w (Pn (bG x i n) w):=by
 have hmf : ∀(fn:Fn) (first cap:Array Value) (w:World),(Instr.makeFunc fn first cap).run Tryz.prog w = .ok (.func fn first cap) w:=fun _ _ _ _=>rfl
 go_enter Tryz.func221,Tryz.ntmps221
 go_upto_region 1 with (fail)
 rename_i K0 Sg;rw[<- Ew];have ha:=Sq w (.cells (bU .i64 54 x) 82) (.cells #[.int .i64 i] 3) (.cells #[.int .i64 n] 2) (.cells (bU .i64 54 zero) 82);generalize (((w.alloc (.cells (bU .i64 54 x) 82)).alloc (.cells #[.int .i64 i] 3)).alloc (.cells #[.int .i64 n] 2)).alloc (.cells (bU .i64 54 zero) 82)=W at *;obtain⟨hx,hI,hN,hz,hs,hB⟩:=ha;have cI:=sS hI;have cN:=sS hN;have Hx:Hid _:=hx;have Hz:Hid _:=hz;have HI:Hid _:=hI;have HN:Hid _:=hN;have Hs:Hid _:=hs;clear hx hz hI hN hs;refine wp_region_noPanic<|wp_region_held_drew (S:=RS2 x w.heap.size i n) (by kernel_rfl) ⟨Hx.out,cI,cN⟩ fun hS => ?_;refine wT0 0 (.agg (bU .i64 54 x)) rfl (fun w' hw=>?_) hS ?_
 ·exact ng 82 (.tmp 3) (by rfl) w.heap.size (by rfl) 82 (bU .i64 54 x) (0,0) _ hw.1 Tryz.underlying82 (by rfl) (by rw[bP]; exact nV)
 refine wT0 1 (.int .i64 n) rfl (fun w' hw=>?_) hS ?_
 ·have h2:=hw.2.2
  go_simp
 refine wT0 2 (.int .i64 i) rfl (fun w' hw=>?_) hS ?_
 ·have h2:=hw.2.1;have h3:=hw.2.2;clear hw
  go_simp
 refine wT0 4 (.func (.func 234) #[] #[.pointer (some ⟨w.heap.size+1+1,0,none⟩),.pointer (some ⟨w.heap.size,0,none⟩),.pointer (some ⟨w.heap.size+1,0,none⟩)]) rfl (fun w' hw=>?_) hS ?_
 ·have h2:=hw.2.1;have h3:=hw.2.2;clear hw
  go_simp
 refine wT0 5 (.func (.func 236) #[] #[.pointer (some ⟨w.heap.size+1,0,none⟩)]) rfl (fun w' hw=>?_) hS ?_
 ·have h2:=hw.2.1;have h3:=hw.2.2;clear hw
  go_simp
 refine wpAnyH_all (rs := [3]) (by kernel_rfl) (by decide) ?_;intro j hj;obtain rfl:j=3:=by simpa using hj
 refine wpOp_step rfl<|fun K hK => ?_;clear hj
 go_simp
 refine(tH i _ hi).mono ?_;rintro e w' ⟨rfl,rfl⟩;refine hK _ _ ⟨hS,?_⟩;clear hK K;refine wpAnyH_all (rs := [6]) (by kernel_rfl) (by decide) ?_;intro j hj;obtain rfl:j=6:=by simpa using hj
 refine wpOp_step rfl<|fun K hK => ?_;clear hj
 go_simp
 have hlx:w.heap.size<W.drew.heap.size:=(t_.1 hS.1).1;have YC:=block_lt_of_cell hS.2.1;have hlN:=block_lt_of_cell hS.2.2
 dsimp only at YC hlN
 refine(xg x n (iC i) 234 236 _ _ (qE x i n) (6+(i.toNat-1)) W.drew ?o1 ?o2 UD UE ?o3 ?o4).mono ?_
 case o1=>intro h; have:=(oF i).1 h; omega
 case o2=>intro h hm; have:=(oF i).1 h; exact(wX hm (i.toNat-1) (by omega)).c
 case o3 =>
  intro hm h1 h2 h3 w' hb;exact QU x i n _ _ _ w' ⟨h1,h2⟩ hi ((hb.block _ hlx).trans hS.1) ((hb.cell (p:=⟨w.heap.size+1+1,0,none⟩) hlN).trans hS.2.2) ((hb.cell (p:=⟨w.heap.size+1,0,none⟩) YC).trans hS.2.1)
 case o4 =>
  intro h w' g hb;exact QV g _ i w' ((oF i).1 h) ((hb.cell (p:=⟨w.heap.size+1,0,none⟩) YC).trans hS.2.1)
 rintro e w2 ⟨rfl,hb2⟩;have hHR:Hid (bG x i n=cZ x n (iC i) (qE x i n) (6+(i.toNat-1))):=rfl;generalize cZ x n (iC i) (qE x i n) (6+(i.toNat-1))=r at *;have hS2:RS2 x w.heap.size i n w2:=⟨(hb2.block _ hlx).trans hS.1,(hb2.cell (p:=⟨w.heap.size+1,0,none⟩) YC).trans hS.2.1,(hb2.cell (p:=⟨w.heap.size+1+1,0,none⟩) hlN).trans hS.2.2⟩;have hz2:Hid (w2.heap[w.heap.size+1+1+1]? = some (.cells (bU .i64 54 zero) 82 (0,0))):=(hb2.block _ (by show _<W.heap.size; have:=Hs.out; omega)).trans Hz.out;have hB2:Below w.heap.size w w2:=hB.trans ((bdr hb2).mono hB.size);refine hK _ _ ⟨hS2,?_⟩;clear hK K hS hb2;refine wT0 7 (.agg (bU .i64 54 r.1)) rfl (fun w' hw=>?_) hS2 ?_
 ·clear hw
  go_simp
 refine wT0 8 (.int .i64 r.2) rfl (fun w' hw=>?_) hS2 ?_
 ·clear hw
  go_simp
 refine wpAnyH_all (rs := [9]) (by kernel_rfl) (by decide) ?_;intro j hj;obtain rfl:j=9:=by simpa using hj
 clear hj;refine wF (by rfl) (by rfl)<|fun K hK => ?_;refine wp_store_row 82 (.tmp 6) (.tmp 15) (by rfl) (w.heap.size+1+1+1) (bU .i64 54 r.1) (by rfl) (by rfl) 82 (bU .i64 54 zero) hz2.out (by rw[bP]; exact nV) (by rw[bP,bP]) (ow _ _ _) ?_;have hend:=kr hB2 (by omega) hz2.out r.1;have hS3:RS2 x w.heap.size i n (w2.setRow (w.heap.size+1+1+1) (bU .i64 54 r.1)):=⟨(setRow_other _ _ _ _ (by omega)).trans hS2.1,(World.cell?_of_block (setRow_other _ _ _ _ (by show w.heap.size+1≠_; omega))).trans hS2.2.1,(World.cell?_of_block (setRow_other _ _ _ _ (by show w.heap.size+1+1≠_; omega))).trans hS2.2.2⟩;refine hK _ _ ⟨hS3,?_⟩;clear hK K hz2 hB2 hS2;generalize w2.setRow (w.heap.size+1+1+1) (bU .i64 54 r.1)=w3 at *;refine wT0 10 (.int .i64 r.2) rfl (fun w' hw=>?_) hS3 ?_
 ·clear hw
  go_simp
 refine wpAnyH_done (by kernel_rfl) ?_ _;refine Sg _ _<|wp_ret ?_;rw[hHR.out];exact uJ (p:=6) (q:=7) (by kernel_rfl) (by kernel_rfl) (by kernel_rfl) (by kernel_rfl) hend.1 hend.2
end
section
namespace Rt
def qF(x:Nat->Int)(i n:Int):Int:=if decide (C x (i.toNat-1)-F x (i.toNat-1)<n)then 12 else 0
def bI(x:Nat->Int)(i n:Int):(Nat->Int) × Int:=cZ x n (iC i) (qF x i n) (12+(i.toNat-1))
end Rt
attribute [local irreducible] Oper.wp wpList Code.wp in
set_option maxRecDepth 100000 in
set_option maxHeartbeats 1000000 in
theorem QW(x:Nat->Int)(i n:Int)(g h hi:Nat)(w:World)(hn:1<=n/\n<=1125899906842624)(hib:1<=i/\i<=6)(hm:may x=true)(hx:Hid (w.heap[g]? = some (.cells (bU .i64 54 x) 82 (0,0))))(hc:w.cell? ⟨h,0,none⟩=some (.int .i64 n))(hci:w.cell? ⟨hi,0,none⟩=some (.int .i64 i)) :
 Calls Tryz.prog 237 #[.pointer (some ⟨h,0,none⟩),.pointer (some ⟨g,0,none⟩),.pointer (some ⟨hi,0,none⟩)] w fun e w'=>e = .returned (.int .i64 (qF x i n))/\Below w.heap.size w w':=by
 obtain⟨k,hk⟩:=Int.eq_ofNat_of_zero_le (show 0<=i-1 by omega);obtain rfl:i=(k:Int)+1:=by omega
 have hk6:k<6:=by omega
 have ho:=wX hm k hk6;have h1:=ho.c;have h2:=ho.f;have h3:=ho.fc;have c6:w.cell? ⟨g,6+k,none⟩=some (.int .i64 (C x k)):=gU hx.out (6+k) (by omega);have c12:w.cell? ⟨g,12+k,none⟩=some (.int .i64 (F x k)):=gU hx.out (12+k) (by omega);have HE:Hid (qF x ((k:Int)+1) n=if decide (C x k-F x k<n)then 12 else 0):=by
  unfold Hid qF;rw[show((k:Int)+1).toNat-1=k by omega]
 clear ho hm hk;generalize C x k=c at *;generalize F x k=f at *;have hlh:=block_lt_of_cell hc;have YB:=block_lt_of_cell hci;have hlg:g<w.heap.size:=(t_.1 hx.out).1
 dsimp only at hlh YB
 have hB0:Below w.heap.size w w.drew:=jB w 1;obtain⟨b,r,hd,HE⟩ : ∃(b:Bool) (r:Int),(b=true/\r=12/\c-f<n\/b=false/\r=0 /\ ¬ c-f<n)/\Hid (qF x ((k:Int)+1) n=r):=by
  by_cases hd:c-f<n
  ·exact⟨true,12,.inl ⟨rfl,rfl,hd⟩,by rw[f_ hd,d_ rfl]at HE; exact HE⟩
  ·exact⟨false,0,.inr ⟨rfl,rfl,hd⟩,by rw[g_ hd,b_ (by decide)]at HE; exact HE⟩
 go_enter Tryz.func237,Tryz.ntmps237
 go_upto_region 1 with (fail)
 rename_i K0 Sg;refine wp_region_noPanic<|wp_region_held_drew (S:=Below w.heap.size w) (by kernel_rfl) hB0 fun hS => ?_;refine wT0 0 (.int .i64 n) rfl (fun w' hw=>?_) hS ?_
 ·have h2:=(hw.cell (p:=⟨h,0,none⟩) hlh).trans hc;clear hw hc hci
  go_simp
 refine wT0 1 (.int .i64 ((k:Int)+1)) rfl (fun w' hw=>?_) hS ?_
 ·have h2:=(hw.cell (p:=⟨hi,0,none⟩) YB).trans hci;clear hw hc hci
  go_simp
 refine wT0 2 (.int .i64 (k:Int)) rfl (fun w' hw=>?_) hS ?_
 ·clear hw hc hci
  go_simp
  exact IntWalk.i64_in _ (by omega)
 refine wT0 3 (.pointer (some ⟨g,6,none⟩)) rfl (fun w' hw=>?_) hS ?_
 ·clear hw hc hci
  go_simp
 refine wT0 4 (.pointer (some ⟨g,6+k,none⟩)) rfl (fun w' hw=>?_) hS ?_
 ·have hk7:(k:Int)<6:=by omega
  clear hw hc hci
  go_simp
 refine wT0 5 (.int .i64 c) rfl (fun w' hw=>?_) hS ?_
 ·have h2:=(hw.cell (p:=⟨g,6+k,none⟩) hlg).trans c6;clear hw hc hci
  go_simp
 refine wT0 6 (.int .i64 ((k:Int)+1)) rfl (fun w' hw=>?_) hS ?_
 ·have h2:=(hw.cell (p:=⟨hi,0,none⟩) YB).trans hci;clear hw hc hci
  go_simp
 refine wT0 7 (.int .i64 (k:Int)) rfl (fun w' hw=>?_) hS ?_
 ·clear hw hc hci
  go_simp
  exact IntWalk.i64_in _ (by omega)
 refine wT0 8 (.pointer (some ⟨g,12,none⟩)) rfl (fun w' hw=>?_) hS ?_
 ·clear hw hc hci
  go_simp
 refine wT0 9 (.pointer (some ⟨g,12+k,none⟩)) rfl (fun w' hw=>?_) hS ?_
 ·have hk7:(k:Int)<6:=by omega
  clear hw hc hci
  go_simp
 refine wT0 10 (.int .i64 f) rfl (fun w' hw=>?_) hS ?_
 ·have h2:=(hw.cell (p:=⟨g,12+k,none⟩) hlg).trans c12;clear hw hc hci
  go_simp
 refine wT0 11 (.int .i64 (c-f)) rfl (fun w' hw=>?_) hS ?_
 ·clear hw hc hci
  go_simp
  exact IntWalk.i64_in _ (by omega)
 refine wT0 12 (.bool b) rfl (fun w' hw=>?_) hS ?_
 ·clear hw hc hci
  rcases hd with ⟨rfl,rfl,hd⟩|⟨rfl,rfl,hd⟩ <;> go_simp
 refine wpAnyH_all (rs := [13]) (by kernel_rfl) (by decide) ?_;intro j hj;obtain rfl:j=13:=by simpa using hj
 refine wpOp_step rfl<|fun K hK => ?_;clear hj
 go_simp
 refine(Fw _ _ _).mono ?_;rintro e w2 ⟨rfl,rfl⟩;refine hK _ _ ⟨hS,?_⟩;clear hK K;refine wT0 14 (.int .i64 r) rfl (fun w' hw=>?_) hS ?_
 ·clear hw hc hci
  rcases hd with ⟨rfl,rfl,hd⟩|⟨rfl,rfl,hd⟩ <;> go_simp
 refine wpAnyH_done (by kernel_rfl) ?_ _;refine Sg _ _ ?_
 rcases hd with ⟨rfl,rfl,hd⟩|⟨rfl,rfl,hd⟩ <;> (go_wp2; go_ret; rw[HE.out]; exact⟨rfl,hS⟩)
attribute [local irreducible] Oper.wp wpList Code.wp
set_option maxHeartbeats 400000 in
theorem QX(g h:Nat)(i:Int)(w:World)(hi:1<=i/\i<=6)(hc:w.cell? ⟨h,0,none⟩=some (.int .i64 i)) :
 Calls Tryz.prog 238 #[.pointer (some ⟨g,0,none⟩),.pointer (some ⟨h,0,none⟩)] w fun e w'=>e = .returned (.pointer (some ⟨g,12+(i.toNat-1),none⟩))/\Below w.heap.size w w':=by
 obtain⟨k,hk⟩:=Int.eq_ofNat_of_zero_le (show 0<=i-1 by omega);obtain rfl:i=(k:Int)+1:=by omega
 have hk6:(k:Int)<6:=by omega
 have HE:Hid (((k:Int)+1).toNat-1=k):=by unfold Hid; omega
 clear hk
 go_enter Tryz.func238,Tryz.ntmps238
 go_wp2_with fail
 go_quiet (fail)
 go_wp2
 go_ret
 rw[HE.out];exact⟨rfl,bN (Below.refl _ _) _⟩
theorem UG(args:Array Value)(w:World):(callFunc 237 args).run Tryz.prog w = .ok (.enter 237 args) w:=kK Tryz.func237 rfl rfl args w
theorem UH(args:Array Value)(w:World):(callFunc 238 args).run Tryz.prog w = .ok (.enter 238 args) w:=kK Tryz.func238 rfl rfl args w
set_option maxRecDepth 100000 in
set_option maxHeartbeats 1000000 in
theorem UJ(x:Nat->Int)(i n:Int)(w:World)(hi : -9223372036854775808<=i/\i<=9223372036854775807) :
 Calls Tryz.prog 224 #[.agg (bU .i64 54 x),.int .i64 i,.int .i64 n] w (Pn (bI x i n) w):=by
 have hmf : ∀(fn:Fn) (first cap:Array Value) (w:World),(Instr.makeFunc fn first cap).run Tryz.prog w = .ok (.func fn first cap) w:=fun _ _ _ _=>rfl
 go_enter Tryz.func224,Tryz.ntmps224
 go_upto_region 1 with (fail)
 rename_i K0 Sg;rw[<- Ew];have ha:=Sq w (.cells (bU .i64 54 x) 82) (.cells #[.int .i64 i] 3) (.cells #[.int .i64 n] 2) (.cells (bU .i64 54 zero) 82);generalize (((w.alloc (.cells (bU .i64 54 x) 82)).alloc (.cells #[.int .i64 i] 3)).alloc (.cells #[.int .i64 n] 2)).alloc (.cells (bU .i64 54 zero) 82)=W at *;obtain⟨hx,hI,hN,hz,hs,hB⟩:=ha;have cI:=sS hI;have cN:=sS hN;have Hx:Hid _:=hx;have Hz:Hid _:=hz;have HI:Hid _:=hI;have HN:Hid _:=hN;have Hs:Hid _:=hs;clear hx hz hI hN hs;refine wp_region_noPanic<|wp_region_held_drew (S:=RS2 x w.heap.size i n) (by kernel_rfl) ⟨Hx.out,cI,cN⟩ fun hS => ?_;refine wT0 0 (.agg (bU .i64 54 x)) rfl (fun w' hw=>?_) hS ?_
 ·exact ng 82 (.tmp 3) (by rfl) w.heap.size (by rfl) 82 (bU .i64 54 x) (0,0) _ hw.1 Tryz.underlying82 (by rfl) (by rw[bP]; exact nV)
 refine wT0 1 (.int .i64 n) rfl (fun w' hw=>?_) hS ?_
 ·have h2:=hw.2.2
  go_simp
 refine wT0 2 (.int .i64 i) rfl (fun w' hw=>?_) hS ?_
 ·have h2:=hw.2.1;have h3:=hw.2.2;clear hw
  go_simp
 refine wT0 4 (.func (.func 237) #[] #[.pointer (some ⟨w.heap.size+1+1,0,none⟩),.pointer (some ⟨w.heap.size,0,none⟩),.pointer (some ⟨w.heap.size+1,0,none⟩)]) rfl (fun w' hw=>?_) hS ?_
 ·have h2:=hw.2.1;have h3:=hw.2.2;clear hw
  go_simp
 refine wT0 5 (.func (.func 238) #[] #[.pointer (some ⟨w.heap.size+1,0,none⟩)]) rfl (fun w' hw=>?_) hS ?_
 ·have h2:=hw.2.1;have h3:=hw.2.2;clear hw
  go_simp
 refine wpAnyH_all (rs := [3]) (by kernel_rfl) (by decide) ?_;intro j hj;obtain rfl:j=3:=by simpa using hj
 refine wpOp_step rfl<|fun K hK => ?_;clear hj
 go_simp
 refine(tH i _ hi).mono ?_;rintro e w' ⟨rfl,rfl⟩;refine hK _ _ ⟨hS,?_⟩;clear hK K;refine wpAnyH_all (rs := [6]) (by kernel_rfl) (by decide) ?_;intro j hj;obtain rfl:j=6:=by simpa using hj
 refine wpOp_step rfl<|fun K hK => ?_;clear hj
 go_simp
 have hlx:w.heap.size<W.drew.heap.size:=(t_.1 hS.1).1;have YC:=block_lt_of_cell hS.2.1;have hlN:=block_lt_of_cell hS.2.2
 dsimp only at YC hlN
 refine(xg x n (iC i) 237 238 _ _ (qF x i n) (12+(i.toNat-1)) W.drew ?o1 ?o2 UG UH ?o3 ?o4).mono ?_
 case o1=>intro h; have:=(oF i).1 h; omega
 case o2=>intro h hm; have:=(oF i).1 h; exact(wX hm (i.toNat-1) (by omega)).f
 case o3 =>
  intro hm h1 h2 h3 w' hb;exact QW x i n _ _ _ w' ⟨h1,h2⟩ ((oF i).1 h3) hm ((hb.block _ hlx).trans hS.1) ((hb.cell (p:=⟨w.heap.size+1+1,0,none⟩) hlN).trans hS.2.2) ((hb.cell (p:=⟨w.heap.size+1,0,none⟩) YC).trans hS.2.1)
 case o4 =>
  intro h w' g hb;exact QX g _ i w' ((oF i).1 h) ((hb.cell (p:=⟨w.heap.size+1,0,none⟩) YC).trans hS.2.1)
 rintro e w2 ⟨rfl,hb2⟩;have hHR:Hid (bI x i n=cZ x n (iC i) (qF x i n) (12+(i.toNat-1))):=rfl;generalize cZ x n (iC i) (qF x i n) (12+(i.toNat-1))=r at *;have hS2:RS2 x w.heap.size i n w2:=⟨(hb2.block _ hlx).trans hS.1,(hb2.cell (p:=⟨w.heap.size+1,0,none⟩) YC).trans hS.2.1,(hb2.cell (p:=⟨w.heap.size+1+1,0,none⟩) hlN).trans hS.2.2⟩;have hz2:Hid (w2.heap[w.heap.size+1+1+1]? = some (.cells (bU .i64 54 zero) 82 (0,0))):=(hb2.block _ (by show _<W.heap.size; have:=Hs.out; omega)).trans Hz.out;have hB2:Below w.heap.size w w2:=hB.trans ((bdr hb2).mono hB.size);refine hK _ _ ⟨hS2,?_⟩;clear hK K hS hb2;refine wT0 7 (.agg (bU .i64 54 r.1)) rfl (fun w' hw=>?_) hS2 ?_
 ·clear hw
  go_simp
 refine wT0 8 (.int .i64 r.2) rfl (fun w' hw=>?_) hS2 ?_
 ·clear hw
  go_simp
 refine wpAnyH_all (rs := [9]) (by kernel_rfl) (by decide) ?_;intro j hj;obtain rfl:j=9:=by simpa using hj
 clear hj;refine wF (by rfl) (by rfl)<|fun K hK => ?_;refine wp_store_row 82 (.tmp 6) (.tmp 15) (by rfl) (w.heap.size+1+1+1) (bU .i64 54 r.1) (by rfl) (by rfl) 82 (bU .i64 54 zero) hz2.out (by rw[bP]; exact nV) (by rw[bP,bP]) (ow _ _ _) ?_;have hend:=kr hB2 (by omega) hz2.out r.1;have hS3:RS2 x w.heap.size i n (w2.setRow (w.heap.size+1+1+1) (bU .i64 54 r.1)):=⟨(setRow_other _ _ _ _ (by omega)).trans hS2.1,(World.cell?_of_block (setRow_other _ _ _ _ (by show w.heap.size+1≠_; omega))).trans hS2.2.1,(World.cell?_of_block (setRow_other _ _ _ _ (by show w.heap.size+1+1≠_; omega))).trans hS2.2.2⟩;refine hK _ _ ⟨hS3,?_⟩;clear hK K hz2 hB2 hS2;generalize w2.setRow (w.heap.size+1+1+1) (bU .i64 54 r.1)=w3 at *;refine wT0 10 (.int .i64 r.2) rfl (fun w' hw=>?_) hS3 ?_
 ·clear hw
  go_simp
 refine wpAnyH_done (by kernel_rfl) ?_ _;refine Sg _ _<|wp_ret ?_;rw[hHR.out];exact uJ (p:=6) (q:=7) (by kernel_rfl) (by kernel_rfl) (by kernel_rfl) (by kernel_rfl) hend.1 hend.2
end
namespace Rt
def nW(x:Nat->Int)(i j n:Int):Int:=if i=j then 1 else if decide (gF x i<n)then 11 else 0
def lQ(i j:Int):Nat:=18+(i.toNat-1)*6+(j.toNat-1)
def dz(x:Nat->Int)(i j n:Int):(Nat->Int) × Int:=cZ x n (iC i&&iC j) (nW x i j n) (lQ i j)
end Rt
attribute [local irreducible] Oper.wp wpList Code.wp in
set_option maxRecDepth 100000 in
set_option maxHeartbeats 1000000 in
theorem Im(x:Nat->Int)(i j0 n:Int)(g h hi hj:Nat)(w:World)(hn:1<=n/\n<=1125899906842624)(hib : -9223372036854775808<=i/\i<=9223372036854775807)(hjb : -9223372036854775808<=j0/\j0<=9223372036854775807)(hx:Hid (w.heap[g]? = some (.cells (bU .i64 54 x) 82 (0,0))))(hc:w.cell? ⟨h,0,none⟩=some (.int .i64 n))(hci:w.cell? ⟨hi,0,none⟩=some (.int .i64 i))(hcj:w.cell? ⟨hj,0,none⟩=some (.int .i64 j0)) :
 Calls Tryz.prog 239 #[.pointer (some ⟨hi,0,none⟩),.pointer (some ⟨hj,0,none⟩),.pointer (some ⟨h,0,none⟩),.pointer (some ⟨g,0,none⟩)] w fun e w'=>e = .returned (.int .i64 (nW x i j0 n))/\Below w.heap.size w w':=by
 have HE:Hid (nW x i j0 n=if i=j0 then 1 else if decide (gF x i<n)then 11 else 0):=rfl;have hb:=Il x i;have hlh:=block_lt_of_cell hc;have YB:=block_lt_of_cell hci;have hlg:g<w.heap.size:=(t_.1 hx.out).1
 dsimp only at hlh YB
 have hB0:Below w.heap.size w w.drew:=jB w 1;have hs:Hid (∀ w',Calls Tryz.prog 60 #[.agg (bU .i64 54 x),.int .i64 i] w' fun e w''=>e = .returned (.int .i64 (gF x i))/\Below w'.heap.size w' w''):=fun w'=>wY x i w' hib;generalize gF x i=s1 at *;by_cases he:i=j0
 ·rw[d_ he]at HE;subst he
  go_enter Tryz.func239,Tryz.ntmps239
  go_wp2
  go_ret
  rw[HE.out];exact⟨rfl,Below.refl _ _⟩
 rw[b_ he]at HE;have hne:(i==j0)=false:=by simpa using he
 clear he;obtain⟨b,r,hd,HE⟩ : ∃(b:Bool) (r:Int),(b=true/\r=11/\s1<n\/b=false/\r=0 /\ ¬ s1<n)/\Hid (nW x i j0 n=r):=by
  by_cases hd:s1<n
  ·exact⟨true,11,.inl ⟨rfl,rfl,hd⟩,by rw[f_ hd,d_ rfl]at HE; exact HE⟩
  ·exact⟨false,0,.inr ⟨rfl,rfl,hd⟩,by rw[g_ hd,b_ (by decide)]at HE; exact HE⟩
 go_enter Tryz.func239,Tryz.ntmps239
 go_upto_region 3 with (fail)
 rename_i K0 Sg;refine wp_region_noPanic<|wp_region_held_drew (S:=Below w.heap.size w) (by kernel_rfl) hB0 fun hS => ?_;refine wT0 0 (.int .i64 n) rfl (fun w' hw=>?_) hS ?_
 ·have h2:=(hw.cell (p:=⟨h,0,none⟩) hlh).trans hc;clear hw hc hci
  go_simp
 refine wT0 1 (.agg (bU .i64 54 x)) rfl (fun w' hw=>?_) hS ?_
 ·exact ng 82 (.tmp 3) (by rfl) g (by rfl) 82 (bU .i64 54 x) (0,0) _ ((hw.block _ hlg).trans hx.out) Tryz.underlying82 (by rfl) (by rw[bP]; exact nV)
 refine wT0 2 (.int .i64 i) rfl (fun w' hw=>?_) hS ?_
 ·have h2:=(hw.cell (p:=⟨hi,0,none⟩) YB).trans hci;clear hw hc hci
  go_simp
 refine wpAnyH_all (rs := [3]) (by kernel_rfl) (by decide) ?_;intro j hj;obtain rfl:j=3:=by simpa using hj
 refine wpOp_step rfl<|fun K hK => ?_;clear hj
 go_simp
 refine(hs.out _).mono ?_;rintro e w1 ⟨rfl,hb1⟩;have hS:=M5 hS hb1;refine hK _ _ ⟨hS,?_⟩;clear hK K;refine wT0 4 (.bool b) rfl (fun w' hw=>?_) hS ?_
 ·clear hw hc hci
  rcases hd with ⟨rfl,rfl,hd⟩|⟨rfl,rfl,hd⟩ <;> go_simp
 refine wpAnyH_all (rs := [5]) (by kernel_rfl) (by decide) ?_;intro j hj;obtain rfl:j=5:=by simpa using hj
 refine wpOp_step rfl<|fun K hK => ?_;clear hj
 go_simp
 refine(Fw _ _ _).mono ?_;rintro e w2 ⟨rfl,rfl⟩;refine hK _ _ ⟨hS,?_⟩;clear hK K;refine wT0 6 (.int .i64 r) rfl (fun w' hw=>?_) hS ?_
 ·clear hw hc hci
  rcases hd with ⟨rfl,rfl,hd⟩|⟨rfl,rfl,hd⟩ <;> go_simp
 refine wpAnyH_done (by kernel_rfl) ?_ _;refine Sg _ _ ?_
 rcases hd with ⟨rfl,rfl,hd⟩|⟨rfl,rfl,hd⟩ <;> (go_wp2; go_ret; rw[HE.out]; exact⟨rfl,hS⟩)
set_option maxHeartbeats 400000 in
theorem Io(g h1 h2:Nat)(i j:Int)(w:World)(hi:1<=i/\i<=6)(hj:1<=j/\j<=6)(hci:w.cell? ⟨h1,0,none⟩=some (.int .i64 i))(hcj:w.cell? ⟨h2,0,none⟩=some (.int .i64 j)) :
 Calls Tryz.prog 240 #[.pointer (some ⟨g,0,none⟩),.pointer (some ⟨h1,0,none⟩),.pointer (some ⟨h2,0,none⟩)] w fun e w'=>e = .returned (.pointer (some ⟨g,lQ i j,none⟩))/\Below w.heap.size w w':=by
 obtain⟨k,hk⟩:=Int.eq_ofNat_of_zero_le (show 0<=i-1 by omega);obtain rfl:i=(k:Int)+1:=by omega
 obtain⟨l,hl⟩:=Int.eq_ofNat_of_zero_le (show 0<=j-1 by omega);obtain rfl:j=(l:Int)+1:=by omega
 have hk6:(k:Int)<6:=by omega
 have hl6:(l:Int)<6:=by omega
 have HE:Hid (lQ ((k:Int)+1) ((l:Int)+1)=18+k*6+l):=by unfold Hid lQ; omega
 clear hk hl
 go_enter Tryz.func240,Tryz.ntmps240
 go_wp2_with fail
 go_quiet (fail)
 go_wp2
 go_ret
 rw[HE.out];exact⟨rfl,bN (Below.refl _ _) _⟩
theorem Li(args:Array Value)(w:World):(callFunc 239 args).run Tryz.prog w = .ok (.enter 239 args) w:=kK Tryz.func239 rfl rfl args w
theorem Lj(args:Array Value)(w:World):(callFunc 240 args).run Tryz.prog w = .ok (.enter 240 args) w:=kK Tryz.func240 rfl rfl args w
section
def M7(x:Nat->Int)(g:Nat)(i j n:Int)(w':World):Prop:=w'.heap[g]? = some (.cells (bU .i64 54 x) 82 (0,0))/\w'.cell? ⟨g+1,0,none⟩=some (.int .i64 i)/\w'.cell? ⟨g+1+1,0,none⟩=some (.int .i64 j)/\w'.cell? ⟨g+1+1+1,0,none⟩=some (.int .i64 n)
theorem M7.up{x:Nat->Int}{g:Nat}{i j n:Int}{w w':World}(h:M7 x g i j n w)(e:Below w.heap.size w w'):M7 x g i j n w':=by
 obtain⟨a,b,c,d⟩:=h;exact⟨(e.block _ (t_.1 a).1).trans a,(e.cell (p:=⟨g+1,0,none⟩) (block_lt_of_cell b)).trans b,(e.cell (p:=⟨g+1+1,0,none⟩) (block_lt_of_cell c)).trans c,(e.cell (p:=⟨g+1+1+1,0,none⟩) (block_lt_of_cell d)).trans d⟩
instance {x:Nat->Int} {g:Nat} {i j n:Int} {w w':World}:Rt.Tr w w' (M7 x g i j n w) (M7 x g i j n w'):=⟨fun b h=>h.up b⟩
theorem M7.row{x:Nat->Int}{g:Nat}{i j n:Int}{w:World}(h:M7 x g i j n w)(cs:Array Value):M7 x g i j n (w.setRow (g+1+1+1+1) cs):=by
 obtain⟨a,b,c,d⟩:=h;exact⟨(setRow_other _ _ _ _ (by omega)).trans a,(World.cell?_of_block (setRow_other _ _ _ _ (by show g+1≠_; omega))).trans b,(World.cell?_of_block (setRow_other _ _ _ _ (by show g+1+1≠_; omega))).trans c,(World.cell?_of_block (setRow_other _ _ _ _ (by show g+1+1+1≠_; omega))).trans d⟩
attribute [local irreducible] Oper.wp wpList Code.wp
set_option maxRecDepth 100000 in
set_option maxHeartbeats 2000000 in
theorem UK(x:Nat->Int)(i j n:Int)(w:World)(hi : -9223372036854775808<=i/\i<=9223372036854775807)(hj0 : -9223372036854775808<=j/\j<=9223372036854775807) :
 Calls Tryz.prog 226 #[.agg (bU .i64 54 x),.int .i64 i,.int .i64 j,.int .i64 n] w (Pn (dz x i j n) w):=by
 have HM:Hid (dz x i j n=cZ x n (iC i&&iC j) (nW x i j n) (lQ i j)):=rfl;have hri:=oF i;have hrj:=oF j;have UA:Hid (∀ w',Calls Tryz.prog 94 #[.int .i64 i] w' fun e w''=>e = .returned (.bool (iC i))/\w''=w'):=fun w'=>tH i w' hi;have ahw:Hid (∀ w',Calls Tryz.prog 94 #[.int .i64 j] w' fun e w''=>e = .returned (.bool (iC j))/\w''=w'):=fun w'=>tH j w' hj0;generalize iC i=bi at *;generalize iC j=bj at *;have Hri:Hid _:=hri;have Hrj:Hid _:=hrj;clear hri hrj;have hmf : ∀(fn:Fn) (first cap:Array Value) (w:World),(Instr.makeFunc fn first cap).run Tryz.prog w = .ok (.func fn first cap) w:=fun _ _ _ _=>rfl
 cases bi
 all_goals
  go_enter Tryz.func226,Tryz.ntmps226
  go_upto_region 1 with (fail)
  rename_i K0 Sg;rw[<- Ew];have ha:=abF w (.cells (bU .i64 54 x) 82) (.cells #[.int .i64 i] 3) (.cells #[.int .i64 j] 3) (.cells #[.int .i64 n] 2) (.cells (bU .i64 54 zero) 82);generalize ((((w.alloc (.cells (bU .i64 54 x) 82)).alloc (.cells #[.int .i64 i] 3)).alloc (.cells #[.int .i64 j] 3)).alloc (.cells #[.int .i64 n] 2)).alloc (.cells (bU .i64 54 zero) 82)=W at *;obtain⟨hx,hI,hJ,hN,hz,hs,hB⟩:=ha;have hS0:M7 x w.heap.size i j n W.drew:=⟨hx,sS (w:=W) hI,sS (w:=W) hJ,sS (w:=W) hN⟩;have Hz:Hid _:=hz;have Hs:Hid _:=hs;clear hx hz hI hJ hN hs;refine wp_region_noPanic<|wp_region_held_drew (S:=M7 x w.heap.size i j n) (by kernel_rfl) hS0 fun hS => ?_;refine wT0 0 (.agg (bU .i64 54 x)) rfl (fun w' hw=>?_) hS ?_
  ·exact ng 82 (.tmp 4) (by rfl) w.heap.size (by rfl) 82 (bU .i64 54 x) (0,0) _ hw.1 Tryz.underlying82 (by rfl) (by rw[bP]; exact nV)
  refine wT0 1 (.int .i64 n) rfl (fun w' hw=>?_) hS ?_
  ·have h2:=hw.2.2.2;clear hw
   go_simp
  refine wT0 2 (.int .i64 i) rfl (fun w' hw=>?_) hS ?_
  ·have h2:=hw.2.1;clear hw
   go_simp
  refine wT0 8 (.func (.func 239) #[] #[.pointer (some ⟨w.heap.size+1,0,none⟩),.pointer (some ⟨w.heap.size+1+1,0,none⟩),.pointer (some ⟨w.heap.size+1+1+1,0,none⟩),.pointer (some ⟨w.heap.size,0,none⟩)]) rfl (fun w' hw=>?_) hS ?_
  ·clear hw
   go_simp
  refine wT0 9 (.func (.func 240) #[] #[.pointer (some ⟨w.heap.size+1,0,none⟩),.pointer (some ⟨w.heap.size+1+1,0,none⟩)]) rfl (fun w' hw=>?_) hS ?_
  ·clear hw
   go_simp
  refine wpAnyH_all (rs := [3]) (by kernel_rfl) (by decide) ?_;intro j hj;obtain rfl:j=3:=by simpa using hj
  refine wpOp_step rfl<|fun K hK => ?_;clear hj
  go_simp
  refine(UA.out _).mono ?_;rintro e w' ⟨rfl,rfl⟩;refine hK _ _ ⟨hS,?_⟩;clear hK K
 ·have hoff:false=true->lQ i j<54:=nofun;have hcell:false=true->may x=true->0<=x (lQ i j)/\x (lQ i j)<=1125899906842624:=nofun;have hbd:false=true->(1<=i/\i<=6)/\(1<=j/\j<=6):=nofun;refine wT0 4 (.bool false) rfl (fun w' hw=>?_) hS ?_
  ·clear hw
   go_simp
  refine wpAnyH_take (i:=5) (v:=undef) rfl (by kernel_rfl) (by kernel_rfl) (by kernel_rfl) (fun _ _ _ h=>h) (.inr ⟨by rfl,rfl⟩) hS ?_;refine wpAnyH_take (i:=6) (v:=undef) rfl (by kernel_rfl) (by kernel_rfl) (by kernel_rfl) (fun _ _ _ h=>h) (.inr ⟨by rfl,rfl⟩) hS ?_;refine wT0 7 (.bool false) rfl (fun w' hw=>?_) hS ?_
  ·clear hw
   go_simp
  have HM:Hid (dz x i j n=cZ x n false (nW x i j n) (lQ i j)):=HM;refine wpAnyH_all (rs := [10]) (by kernel_rfl) (by decide) ?_;intro j hj;obtain rfl:j=10:=by simpa using hj
  refine wpOp_step rfl<|fun K hK => ?_;clear hj
  go_simp
  have hlz:w.heap.size+1+1+1+1<W.drew.heap.size:=by show _<W.heap.size; have:=Hs.out; omega
  refine(xg x n false 239 240 _ _ (nW x i j n) (lQ i j) W.drew ?o1 ?o2 Li Lj ?o3 ?o4).mono ?_
  case o1=>exact hoff
  case o2=>exact hcell
  case o3=>exact fun hm h1 h2 h3 w' hb=>have hq:=M7.up hS hb; Im x i j n _ _ _ _ w' ⟨h1,h2⟩ hi hj0 hq.1 hq.2.2.2 hq.2.1 hq.2.2.1
  case o4=>exact fun h w' g hb=>have hq:=M7.up hS hb; Io g _ _ i j w' (hbd h).1 (hbd h).2 hq.2.1 hq.2.2.1
  rintro e w2 ⟨rfl,hb2⟩;generalize cZ x n false (nW x i j n) (lQ i j)=r at *;have hz2:Hid (w2.heap[w.heap.size+1+1+1+1]? = some (.cells (bU .i64 54 zero) 82 (0,0))):=(hb2.block _ hlz).trans Hz.out;have hB2:Below w.heap.size w w2:=hB.trans ((bdr hb2).mono hB.size);have hS:=M7.up hS hb2;refine hK _ _ ⟨hS,?_⟩;clear hK K;clear hb2;refine wT0 11 (.agg (bU .i64 54 r.1)) rfl (fun w' hw=>?_) hS ?_
  ·clear hw
   go_simp
  refine wT0 12 (.int .i64 r.2) rfl (fun w' hw=>?_) hS ?_
  ·clear hw
   go_simp
  refine wpAnyH_all (rs := [13]) (by kernel_rfl) (by decide) ?_;intro j' hj';obtain rfl:j'=13:=by simpa using hj'
  clear hj';refine wF (by rfl) (by rfl)<|fun K hK => ?_;refine wp_store_row 82 (.tmp 8) (.tmp 21) (by rfl) (w.heap.size+1+1+1+1) (bU .i64 54 r.1) (by rfl) (by rfl) 82 (bU .i64 54 zero) hz2.out (by rw[bP]; exact nV) (by rw[bP,bP]) (ow _ _ _) ?_;have hend:=kr hB2 (by omega) hz2.out r.1;have hS:=hS.row (bU .i64 54 r.1);refine hK _ _ ⟨hS,?_⟩;clear hK K hz2 hB2;generalize w2.setRow (w.heap.size+1+1+1+1) (bU .i64 54 r.1)=w3 at *;refine wT0 14 (.int .i64 r.2) rfl (fun w' hw=>?_) hS ?_
  ·clear hw
   go_simp
  refine wpAnyH_done (by kernel_rfl) ?_ _;refine Sg _ _<|wp_ret ?_;rw[HM.out];exact uJ (p:=8) (q:=9) (by kernel_rfl) (by kernel_rfl) (by kernel_rfl) (by kernel_rfl) hend.1 hend.2
 have hi6:=Hri.out.1 rfl;have hbd:bj=true->(1<=i/\i<=6)/\(1<=j/\j<=6):=fun h=>⟨hi6,Hrj.out.1 h⟩;have hoff:bj=true->lQ i j<54:=fun h=>by have:=hbd h; unfold lQ; omega
 have hcell:bj=true->may x=true->0<=x (lQ i j)/\x (lQ i j)<=1125899906842624:=fun h hm=>by
  have:=hbd h;exact(wX hm (i.toNat-1) (by omega)).r (j.toNat-1) (by omega)
 refine wT0 4 (.bool true) rfl (fun w' hw=>?_) hS ?_
 ·clear hw
  go_simp
 refine wT0 5 (.int .i64 j) rfl (fun w' hw=>?_) hS ?_
 ·have h2:=hw.2.2.1;clear hw
  go_simp
 refine wpAnyH_all (rs := [6]) (by kernel_rfl) (by decide) ?_;intro j hj;obtain rfl:j=6:=by simpa using hj
 refine wpOp_step rfl<|fun K hK => ?_;clear hj
 go_simp
 refine(ahw.out _).mono ?_;rintro e w' ⟨rfl,rfl⟩;refine hK _ _ ⟨hS,?_⟩;clear hK K;refine wT0 7 (.bool bj) rfl (fun w' hw=>?_) hS ?_
 ·clear hw
  go_simp
 have HM:Hid (dz x i j n=cZ x n bj (nW x i j n) (lQ i j)):=HM;refine wpAnyH_all (rs := [10]) (by kernel_rfl) (by decide) ?_;intro j hj;obtain rfl:j=10:=by simpa using hj
 refine wpOp_step rfl<|fun K hK => ?_;clear hj
 go_simp
 have hlz:w.heap.size+1+1+1+1<W.drew.heap.size:=by show _<W.heap.size; have:=Hs.out; omega
 refine(xg x n bj 239 240 _ _ (nW x i j n) (lQ i j) W.drew ?o1 ?o2 Li Lj ?o3 ?o4).mono ?_
 case o1=>exact hoff
 case o2=>exact hcell
 case o3=>exact fun hm h1 h2 h3 w' hb=>have hq:=M7.up hS hb; Im x i j n _ _ _ _ w' ⟨h1,h2⟩ hi hj0 hq.1 hq.2.2.2 hq.2.1 hq.2.2.1
 case o4=>exact fun h w' g hb=>have hq:=M7.up hS hb; Io g _ _ i j w' (hbd h).1 (hbd h).2 hq.2.1 hq.2.2.1
 rintro e w2 ⟨rfl,hb2⟩;generalize cZ x n bj (nW x i j n) (lQ i j)=r at *;have hz2:Hid (w2.heap[w.heap.size+1+1+1+1]? = some (.cells (bU .i64 54 zero) 82 (0,0))):=(hb2.block _ hlz).trans Hz.out;have hB2:Below w.heap.size w w2:=hB.trans ((bdr hb2).mono hB.size);have hS:=M7.up hS hb2;refine hK _ _ ⟨hS,?_⟩;clear hK K;clear hb2;refine wT0 11 (.agg (bU .i64 54 r.1)) rfl (fun w' hw=>?_) hS ?_
 ·clear hw
  go_simp
 refine wT0 12 (.int .i64 r.2) rfl (fun w' hw=>?_) hS ?_
 ·clear hw
  go_simp
 refine wpAnyH_all (rs := [13]) (by kernel_rfl) (by decide) ?_;intro j' hj';obtain rfl:j'=13:=by simpa using hj'
 clear hj';refine wF (by rfl) (by rfl)<|fun K hK => ?_;refine wp_store_row 82 (.tmp 8) (.tmp 21) (by rfl) (w.heap.size+1+1+1+1) (bU .i64 54 r.1) (by rfl) (by rfl) 82 (bU .i64 54 zero) hz2.out (by rw[bP]; exact nV) (by rw[bP,bP]) (ow _ _ _) ?_;have hend:=kr hB2 (by omega) hz2.out r.1;have hS:=hS.row (bU .i64 54 r.1);refine hK _ _ ⟨hS,?_⟩;clear hK K hz2 hB2;generalize w2.setRow (w.heap.size+1+1+1+1) (bU .i64 54 r.1)=w3 at *;refine wT0 14 (.int .i64 r.2) rfl (fun w' hw=>?_) hS ?_
 ·clear hw
  go_simp
 refine wpAnyH_done (by kernel_rfl) ?_ _;refine Sg _ _<|wp_ret ?_;rw[HM.out];exact uJ (p:=8) (q:=9) (by kernel_rfl) (by kernel_rfl) (by kernel_rfl) (by kernel_rfl) hend.1 hend.2
end
namespace Rt
def L(x:Nat->Int)(k:Nat):Int:=G x k+F x k+R x 0 k+R x 1 k+R x 2 k+R x 3 k+R x 4 k+R x 5 k-C x k-R x k 0-R x k 1-R x k 2-R x k 3-R x k 4-R x k 5
def QY(x:Nat->Int):Prop := ∀ p,p<54->0<=x p/\x p<=1125899906842624
def All(x:Nat->Int):Prop := ∀ k,k<6->0<=L x k/\F x k<=C x k/\R x k k=0
def tJ(x:Nat->Int):Int:=G x 0+G x 1+G x 2+G x 3+G x 4+G x 5
theorem Ey{l:List Int}(h:ni l=true):nP l=(l.sum,true):=by unfold nP; rw[d_ h]
theorem QY.outs{x:Nat->Int}(h:QY x)(k:Nat)(b:k<6):ni (outs x k 6)=true:=by
 have e:=fun j (hj:j<6)=>h (18+k*6+j) (by omega);have c:=h (6+k) (by omega);unfold ni;rw[List.all_eq_true];intro n a;have:n=x (6+k)\/n=x (18+k*6+0)\/n=x (18+k*6+1)\/n=x (18+k*6+2)\/n=x (18+k*6+3)\/n=x (18+k*6+4)\/n=x (18+k*6+5):=by
  simpa [Rt.outs,C,R,or_assoc] using a
 unfold Aq;rw[S_,decide_eq_true_eq,decide_eq_true_eq]
 rcases this with h|h|h|h|h|h|h <;> subst h
 ·exact c
 all_goals exact e _ (by omega)
theorem QY.ins{x:Nat->Int}(h:QY x)(k:Nat)(b:k<6):ni (ins x k 6)=true:=by
 have e:=fun j (hj:j<6)=>h (18+j*6+k) (by omega);have c:=h k (by omega);have f:=h (12+k) (by omega);unfold ni;rw[List.all_eq_true];intro n a;have:n=x k\/n=x (12+k)\/n=x (18+0*6+k)\/n=x (18+1*6+k)\/n=x (18+2*6+k)\/n=x (18+3*6+k)\/n=x (18+4*6+k)\/n=x (18+5*6+k):=by
  simpa [Rt.ins,G,F,R,or_assoc] using a
 unfold Aq;rw[S_,decide_eq_true_eq,decide_eq_true_eq]
 rcases this with h|h|h|h|h|h|h|h <;> subst h
 ·exact c
 ·exact f
 all_goals exact e _ (by omega)
theorem UL(x:Nat->Int)(k:Nat):(Rt.outs x k 6).sum=C x k+R x k 0+R x k 1+R x k 2+R x k 3+R x k 4+R x k 5:=by simp[Rt.outs]; omega
theorem YD(x:Nat->Int)(k:Nat):(Rt.ins x k 6).sum=G x k+F x k+R x 0 k+R x 1 k+R x 2 k+R x 3 k+R x 4 k+R x 5 k:=by simp[Rt.ins]; omega
theorem zy{x:Nat->Int}(h:QY x)(k:Nat)(a:k<6):localM x k=(L x k,true):=by
 unfold localM;rw[Ey (h.outs k a),Ey (h.ins k a),UL,YD];unfold L;refine Prod.ext ?_ rfl
 dsimp only
 omega
theorem nI{x:Nat->Int}(h:may x=true):QY x:=by
 intro p e;by_cases a:p<6
 ·exact(wX h p a).g
 by_cases b:p<12
 ·have:=(wX h (p-6) (by omega)).c;unfold C at this; rwa [show 6+(p-6)=p by omega]at this
 by_cases d:p<18
 ·have:=(wX h (p-12) (by omega)).f;unfold F at this; rwa [show 12+(p-12)=p by omega]at this
 have:=(wX h ((p-18) / 6) (by omega)).r ((p-18) % 6) (by omega);unfold R at this; rwa [show 18+(p-18) / 6*6+(p-18) % 6=p by omega]at this
theorem abg{x:Nat->Int}(h:QY x):ni (gs x)=true:=by
 unfold ni;rw[List.all_eq_true];intro n a;have:n=x 0\/n=x 1\/n=x 2\/n=x 3\/n=x 4\/n=x 5:=by simpa [gs,or_assoc] using a
 unfold Aq;rw[S_,decide_eq_true_eq,decide_eq_true_eq]
 rcases this with e|e|e|e|e|e <;> subst e <;> exact h _ (by omega)
theorem UM(x:Nat->Int):(gs x).sum=tJ x:=by simp[gs,tJ,G]; omega
theorem lD(x:Nat->Int):may x=true<->QY x/\All x/\tJ x<=1125899906842624:=by
 constructor
 ·intro h;have e:=nI h;refine⟨e,fun k d => ?_,?_⟩
  ·have o:=wX h k d;have:=o.l;rw[zy e k d]at this;exact⟨this,o.fc,o.rkk⟩
  unfold may at h;rw[S_,S_,Ey (abg e),UM]at h
  simpa using h.2.2
 rintro ⟨e,g,i⟩;have d : ∀ k,k<6->Cw x k=true:=by
  intro k d;obtain⟨a,b,c⟩:=g k d;unfold Cw;rw[zy e k d];simp only[S_,decide_eq_true_eq,beq_iff_eq];exact⟨⟨⟨trivial,a⟩,b⟩,c⟩
 have f : ∀ n,n<=6->Ee x n=true:=by
  intro n
  induction n with
  | zero=>intro _; rfl
  | succ n ih=>intro f; rw[show Ee x (n+1)=(Ee x n&&Cw x n)from rfl,ih (by omega),d n (by omega)]; rfl
 unfold may;rw[f 6 (by omega),Ey (abg e),UM,f_ i];rfl
theorem oG{x:Nat->Int}(h:may x=true)(k:Nat)(a:k<6):gF x ((k:Int)+1)=L x k:=by
 unfold gF;rw[h,Bool.and_true,d_ (by unfold iC; simp; omega),show((k:Int)+1).toNat-1=k by omega,zy (nI h) k a]
def oH(x:Nat->Int):Int:=(C x 0-F x 0)+(C x 1-F x 1)+(C x 2-F x 2)+(C x 3-F x 3)+(C x 4-F x 4)+(C x 5-F x 5)
theorem xU(x:Nat->Int)(i j:Nat)(hi:i<6)(g:j<6)(d:Int)(a b:Nat)(ha:a<6)(f:b<6) :
 R (upd x (18+i*6+j) (x (18+i*6+j)+d)) a b=R x a b+(if a=i then if b=j then d else 0 else 0):=by
 unfold R upd;by_cases c:a=i
 ·by_cases e:b=j
  ·subst c e; simp
  rw[b_ (by omega),d_ c,b_ e]; omega
 rw[b_ (by omega),b_ c]; omega
theorem adi(x:Nat->Int)(i j:Nat)(hi:i<6)(a:j<6)(d:Int)(k:Nat)(b:k<6) :
 L (upd x (18+i*6+j) (x (18+i*6+j)+d)) k=L x k+(if k=j then d else 0)-(if k=i then d else 0):=by
 have l:G (upd x (18+i*6+j) (x (18+i*6+j)+d)) k=G x k:=gV _ _ _ _ (by omega);have f:C (upd x (18+i*6+j) (x (18+i*6+j)+d)) k=C x k:=gV _ _ _ _ (by omega);have g:F (upd x (18+i*6+j) (x (18+i*6+j)+d)) k=F x k:=gV _ _ _ _ (by omega);unfold L
 rw[l,f,g,xU x i j hi a d 0 k (by omega) b,xU x i j hi a d 1 k (by omega) b,xU x i j hi a d 2 k (by omega) b,xU x i j hi a d 3 k (by omega) b,xU x i j hi a d 4 k (by omega) b,xU x i j hi a d 5 k (by omega) b,
  xU x i j hi a d k 0 b (by omega),xU x i j hi a d k 1 b (by omega),xU x i j hi a d k 2 b (by omega),xU x i j hi a d k 3 b (by omega),xU x i j hi a d k 4 b (by omega),xU x i j hi a d k 5 b (by omega)]
 have c:(if 0=i then if k=j then d else 0 else 0)+(if 1=i then if k=j then d else 0 else 0)+(if 2=i then if k=j then d else 0 else 0)+(if 3=i then if k=j then d else 0 else 0)+(if 4=i then if k=j then d else 0 else 0)+(if 5=i then if k=j then d else 0 else 0)=(if k=j then d else 0):=by
  have:i=0\/i=1\/i=2\/i=3\/i=4\/i=5:=by omega
  rcases this with h|h|h|h|h|h <;> subst h <;> simp
 have e:(if k=i then if 0=j then d else 0 else 0)+(if k=i then if 1=j then d else 0 else 0)+(if k=i then if 2=j then d else 0 else 0)+(if k=i then if 3=j then d else 0 else 0)+(if k=i then if 4=j then d else 0 else 0)+(if k=i then if 5=j then d else 0 else 0)=(if k=i then d else 0):=by
  have:j=0\/j=1\/j=2\/j=3\/j=4\/j=5:=by omega
  rcases this with h|h|h|h|h|h <;> subst h <;> simp
 generalize (if 0=i then if k=j then d else 0 else 0)=a0 at *;generalize (if 1=i then if k=j then d else 0 else 0)=a1 at *;generalize (if 2=i then if k=j then d else 0 else 0)=a2 at *;generalize (if 3=i then if k=j then d else 0 else 0)=a3 at *;generalize (if 4=i then if k=j then d else 0 else 0)=a4 at *;generalize (if 5=i then if k=j then d else 0 else 0)=a5 at *;generalize (if k=i then if 0=j then d else 0 else 0)=b0 at *;generalize (if k=i then if 1=j then d else 0 else 0)=b1 at *;generalize (if k=i then if 2=j then d else 0 else 0)=b2 at *;generalize (if k=i then if 3=j then d else 0 else 0)=b3 at *;generalize (if k=i then if 4=j then d else 0 else 0)=b4 at *;generalize (if k=i then if 5=j then d else 0 else 0)=b5 at *;rw[<- c,<- e];omega
end Rt
structure Ef where
 inn:Nat->Bool
 left:Nat->Bool
 known:Nat->Int
 na:Option Addr
 nn:Nat
 nc:Nat
 ga:Option Addr
 gn:Nat
 gc:Nat
def lS(s:Ef):Nat->Value:=fun p=>if p<6 then .bool (s.inn p)else if p<12 then .bool (s.left (p-6))else if p<18 then aC (s.known (p-12))else if p=18 then .slice s.na s.nn s.nc else .slice s.ga s.gn s.gc
theorem AA(s:Ef){p:Nat}(h:p<6):lS s p = .bool (s.inn p):=by unfold lS; rw[d_ h]
theorem BG(s:Ef){p q:Nat}(h:p<6)(e:q=p+6):lS s q = .bool (s.left p):=by subst e; unfold lS; rw[b_ (by omega),d_ (by omega),Nat.add_sub_cancel]
theorem iY(s:Ef){p q:Nat}(h:p<6)(e:q=p+12):lS s q=aC (s.known p):=by subst e; unfold lS; rw[b_ (by omega),b_ (by omega),d_ (by omega),Nat.add_sub_cancel]
def mZ(id par:Int)(R:Nat->Int):Nat->Value:=fun p=>if p=0 then aC id else if p=1 then aC par else au (R (p-2))
theorem JH(id par:Int)(R:Nat->Int)(q:Nat):mZ id par R (2+q)=rv .i64 R q:=by unfold mZ rv; rw[b_ (by omega),b_ (by omega),Nat.add_sub_cancel_left]
def Nds(w:World)(a:Option Addr)(n:Nat)(id par:Nat->Int)(R:Nat->Nat->Int):Prop := ∀ k,k<n -> ∃ b c,a=some ⟨b,c,none⟩/\iV w b (c+56*k) 56 (mZ (id k) (par k) (R k))
section
structure kV where
 s:Ef
 id:Nat->Int
 par:Nat->Int
 R:Nat->Nat->Int
 g:Nat->Nat->Int
 tb:Nat
 ta:Option Addr
 tn:Nat
 tc:Nat
 t:Nat->Nat->Int
 ra:Nat->Option Addr
 rn:Nat->Nat
 rc:Nat->Nat
 rq:Nat->Nat->Int
structure eP where
 inn:Nat->Bool
 left:Nat->Bool
 known:Nat->Int
 nn:Nat
 id:Nat->Int
 par:Nat->Int
 R:Nat->Nat->Int
 gn:Nat
 g:Nat->Nat->Int
 tn:Nat
 t:Nat->Nat->Int
 rn:Nat->Nat
 rq:Nat->Nat->Int
def kV.core(m:kV):eP:=⟨m.s.inn,m.s.left,m.s.known,m.s.nn,m.id,m.par,m.R,m.s.gn,m.g,m.tn,m.t,m.rn,m.rq⟩
def kN(m:kV):Nat->Value:=fun p=>if p<20 then lS m.s p else if p=20 then(pt m.tb)else .slice (m.ra (p-21)) (m.rn (p-21)) (m.rc (p-21))
theorem jX(m:kV){p:Nat}{v:Value}(h:p<20)(e:lS m.s p=v):kN m p=v:=by unfold kN; rw[d_ h]; exact e
theorem xk(m:kV){p q:Nat}(e:q=p+21):kN m q = .slice (m.ra p) (m.rn p) (m.rc p):=by
 subst e; unfold kN; rw[b_ (by omega),b_ (by omega),Nat.add_sub_cancel]
def jf(x:Nat->Int):Nat->Value:=fun p=>if p=0 then au (x 0)else if p=3 then au (x 3)else aC (x p)
def Kw(m:kV):Nat->Value:=flat 56 fun k=>mZ (m.id k) (m.par k) (m.R k)
def JI(m:kV):Nat->Value:=flat 5 fun k=>jf (m.g k)
def lU(c:Nat->Nat->Int):Nat->Int:=fun p=>c (p / 2) (p % 2)
def QZ(t:Nat->Nat->Int):Nat->Value:=flat 2 fun k=>rv .u64 (t k)
structure Cx(w:World)(p:Nat)(m:kV):Prop where
 c:iV w p 0 27 (kN m)
 an:kQ w m.s.na m.s.nn 56 (Kw m)
 ag:kQ w m.s.ga m.s.gn 5 (JI m)
 tc:iV w m.tb 0 1 (fun _ => .slice m.ta m.tn m.tc)
 at2:kQ w m.ta m.tn 2 (QZ m.t)
 ar : ∀ i,i<6->kQ w (m.ra i) (m.rn i) 1 (rv .u64 (m.rq i))
 bn:m.s.nn<=1000000
 bg:m.s.gn<=1000000
 bt:m.tn<=1000000
 br : ∀ i,i<6->m.rn i<=1000000
section
variable {w w':World} {p:Nat} {m:kV}
theorem Cx.n(h:Cx w p m):Nds w m.s.na m.s.nn m.id m.par m.R:=fun _ a=>h.an.at a
theorem Cx.g(h:Cx w p m) : ∀ k,k<m.s.gn -> ∃ b a,m.s.ga=some ⟨b,a,none⟩/\iV w b (a+5*k) 5 (jf (m.g k)):=fun _ c=>h.ag.at c
theorem Cx.r(h:Cx w p m) : ∀ i,i<6 -> ∀ k,k<m.rn i -> ∃ b a,m.ra i=some ⟨b,a,none⟩/\iV w b (a+k) 1 (fun _=>aC (m.rq i k)):=fun i d k g=>by
 obtain⟨b,a,e,c⟩:=h.ar i d (by omega);refine⟨b,a,e,fun j f => ?_⟩;obtain rfl:j=0:=by omega
 exact c k (by omega)
end
def iq(P:Nat->Bool):Nat->Int
 | 0 => -1
 | n+1=>if 0<=iq P n then iq P n else if P n then(n:Int)else -1
theorem jD{P:Nat->Bool} : ∀ {n:Nat},(∀ i,i<n->P i=false)->iq P n = -1
 | 0,_=>rfl
 | n+1,h=>by
   have:=jD (P:=P) (n:=n) fun i a=>h i (by omega);simp only[iq]; rw[this,b_ (by omega),h n (by omega)]; rfl
theorem ku{P:Nat->Bool}{k:Nat}(a : ∀ i,i<k->P i=false)(b:P k=true) : ∀ {n:Nat},k<n->iq P n=(k:Int)
 | 0,h=>M_ h (by omega)
 | n+1,h=>by
   simp only[iq];by_cases e:k=n
   ·subst e; rw[jD a,b_ (by omega),b]; rfl
   ·rw[ku a b (n:=n) (by omega),d_ (by omega)]
theorem iF(P:Nat->Bool) : ∀ n:Nat,(∃ k:Nat,k<n/\iq P n=(k:Int)/\P k=true)\/(iq P n = -1 /\ ∀ i,i<n->P i=false)
 | 0 => .inr ⟨rfl,fun i h=>M_ h (by omega)⟩
 | n+1=>by
   rcases iF P n with ⟨k,d,e,a⟩|⟨e,a⟩
   ·exact .inl ⟨k,by omega,by simp only[iq]; rw[e,d_ (by omega)],a⟩
   ·by_cases h:P n=true
    ·exact .inl ⟨n,by omega,by simp only[iq]; rw[e,b_ (by omega),h]; rfl,h⟩
    ·rw[T_]at h;refine .inr ⟨by simp only[iq]; rw[e,b_ (by omega),h]; rfl,fun i c => ?_⟩;by_cases b:i=n
     ·subst b; exact h
     ·exact a i (by omega)
theorem vL{P:Nat->Bool}{k:Nat}(h : ∀ i,i<k->P i=false)(a:P k=false) : ∀ i,i<k+1->P i=false:=fun i b=>by
 by_cases e:i=k
 ·subst e; exact a
 ·exact h i (by omega)
def kV.node(m:kV)(id:Int):Int:=iq (fun i=>decide (m.id i=id)) m.s.nn
def kV.grant(m:kV)(o r:Int):Int:=iq (fun i=>decide (m.g i 0=o)&&decide (m.g i 1=r)) m.s.gn
def kV.kF(m:kV)(a:Nat)(r:Int):Int:=iq (fun i=>decide (m.rq a i=r)) (m.rn a)
structure Fy(w:World)(tb:Nat)(ta:Option Addr)(tn tc:Nat)(t:Nat->Nat->Int):Prop where
 tc:iV w tb 0 1 (fun _ => .slice ta tn tc)
 t : ∀ k,k<tn -> ∃ b off,ta=some ⟨b,off,none⟩/\iV w b (off+2*k) 2 (rv .u64 (t k))
 bt:tn<=1000000
theorem Fy.below{w w':World}{tb:Nat}{ta:Option Addr}{tn tc:Nat}{t:Nat->Nat->Int}(h:Fy w tb ta tn tc t)(a:Below w.heap.size w w'):Fy w' tb ta tn tc t where
 tc:=h.tc.below a (h.tc.lt (by omega))
 t:=fun k d=>by obtain⟨b,f,e,c⟩:=h.t k d; exact⟨b,f,e,c.below a (c.lt (by omega))⟩
 bt:=h.bt
def bE(t:Nat->Nat->Int)(tn:Nat)(x:Int):Int:=iq (fun i=>decide (t i 0=x)) tn
def bH(t:Nat->Nat->Int)(tn:Nat):Nat->Int->Int
 | 0,x=>x
 | k+1,x=>t (bE t tn (bH t tn k x)).toNat 1
def adj:Value->Nat
 | .slice _ n _=>n
 | _=>0
end
theorem JJ(m:kV)(p:Nat)(x:Int)(w:World)(h:Cx w p m) :
 Calls Tryz.prog 63 #[(pt p),aC x] w fun e w'=>e = .returned (au (m.node x))/\Below w.heap.size w w':=by
 have v:=h.c;have J:p<w.heap.size:=v.lt (by omega);have E:=h.bn;have D:=h.bg;have F:=h.bt;refine Kent Tryz.func63 28 ?_;refine ay<|av (au 0)<|aD<|Ws<|ay<|av (au 0)<|aD<|Wb<|Wo (fun f z => ∃ k:Nat,k<=m.s.nn/\(∀ i,i<k->(fun i=>decide (m.id i=x)) i=false)/\f 0=(pt p)/\f 1=aC x/\f 5=au (k:Int)/\iV z p 0 27 (kN m)/\Below w.heap.size w z) (fun f _=>(m.s.nn-(intOf (f 5)).toNat)) ⟨0,by omega,(fun i h=>M_ h (by omega)),(by rfl),Fx.ic,Fx.ic,v,(Below.refl w.heap.size w)⟩ ?_;rintro G K ⟨k,I,l,j,t,a,o,d⟩;refine Ws<|ay<|aW a<|aW j<|av (pt p)<|av (pt p)<|av (pf p 18)<|Lv (.slice m.s.na (m.s.nn) (m.s.nc)) (aL o 18)<|av (au m.s.nn) ?_;by_cases r:(k:Int)<(m.s.nn:Int)
 ·refine Lv aG (gY r)<|aD<|aM<|Wk<|sN<|Ws<|Wb<|Ws ?_;obtain⟨b,y,A,u⟩:=h.n k (by omega);have B:b<w.heap.size:=u.lt (by omega);have C:=u.below d B;refine Wl<|aW j<|av (pt p)<|av (pt p)<|av (pf p 18)<|Lv (.slice m.s.na (m.s.nn) (m.s.nc)) (aL o 18)<|aW a<|Lv (pf b (56*k+y)) (dh 56 (hx:=(rfl.trans (L_ (fun q=>Value.slice q (m.s.nn) (m.s.nc)) A))))<|av (pf b (56*k+y))<|Lv (aC (m.id k)) (aL C 0)<|aW t ?_;by_cases g:(m.id k)=x
  ·refine Lv aG (dP g)<|aD<|aM<|ay<|aW a<|av (au k)<|aD<|Wr<|bM<|sR<|pE<|bM<|sR<|aJ (au k) ?_;exact⟨pW (Eq.symm (ku l (f_ g) (by omega))),d⟩
  refine Lv aF (eO g)<|aD<|aK<|Wk<|bS<|sN<|Wl<|aW a<|Lv (au ((k:Int)+1)) fH<|av (au ((k:Int)+1))<|Ln<|iG ⟨k+1,by omega,(vL l (g_ g)),j,(t.trans Fx.ic),Fx.ic,o,d⟩ ?_;show(m.s.nn-(intOf (au ((k:Int)+1))).toNat)<_;simp only[a,intOf]; omega
 refine Lv aF (gZ r)<|aD<|aK<|Wx<|cB<|gW<|bZ<|sN<|ay<|av (au (-1))<|aD<|Wr<|aJ (au (-1)) ?_;exact⟨pW (Eq.symm (jD (fun i H=>l i (by omega)))),d⟩
theorem NH(tb:Nat)(ta:Option Addr)(tn tc:Nat)(t:Nat->Nat->Int)(x:Int)(w:World)(h:Fy w tb ta tn tc t) :
 Calls Tryz.prog 83 #[(pt tb),aC x] w fun e w'=>e = .returned (au (bE t tn x))/\Below w.heap.size w w':=by
 have p:=h.tc;have D:tb<w.heap.size:=p.lt (by omega);have z:=h.bt;refine Kent Tryz.func83 26 ?_;refine ay<|av (au 0)<|aD<|Ws<|ay<|av (au 0)<|aD<|Wb<|Wo (fun f s => ∃ k:Nat,k<=tn/\(∀ i,i<k->(fun i=>decide (t i 0=x)) i=false)/\f 0=(pt tb)/\f 1=aC x/\f 5=au (k:Int)/\iV s tb 0 1 (fun _ => .slice ta tn tc)/\Below w.heap.size w s) (fun f _=>(tn-(intOf (f 5)).toNat)) ⟨0,by omega,(fun i h=>M_ h (by omega)),(by rfl),Fx.ic,Fx.ic,p,(Below.refl w.heap.size w)⟩ ?_;rintro A E ⟨k,C,j,g,n,a,l,c⟩;refine Ws<|ay<|aW a<|aW g<|av (pt tb)<|av (pt tb)<|Lv (.slice ta (tn) (tc)) (aL l 0)<|av (au tn) ?_;by_cases m:(k:Int)<(tn:Int)
 ·refine Lv aG (gY m)<|aD<|aM<|Wk<|sN<|Ws<|Wb<|Ws ?_;obtain⟨b,r,u,o⟩:=h.t k (by omega);have v:b<w.heap.size:=o.lt (by omega);have y:=o.below c v;refine Wl<|aW g<|av (pt tb)<|av (pt tb)<|Lv (.slice ta (tn) (tc)) (aL l 0)<|aW a<|Lv (pf b (2*k+r)) (dh 2 (hx:=(rfl.trans (L_ (fun q=>Value.slice q (tn) (tc)) u))))<|av (pf b (2*k+r))<|Lv (aC ((t k) 0)) (aL y 0)<|aW n ?_;by_cases d:((t k) 0)=x
  ·refine Lv aG (dP d)<|aD<|aM<|ay<|aW a<|av (au k)<|aD<|Wr<|bM<|sR<|pE<|bM<|sR<|aJ (au k) ?_;exact⟨pW (Eq.symm (ku j (f_ d) (by omega))),c⟩
  refine Lv aF (eO d)<|aD<|aK<|Wk<|bS<|sN<|Wl<|aW a<|Lv (au ((k:Int)+1)) fH<|av (au ((k:Int)+1))<|Ln<|iG ⟨k+1,by omega,(vL j (g_ d)),g,(n.trans Fx.ic),Fx.ic,l,c⟩ ?_;show(tn-(intOf (au ((k:Int)+1))).toNat)<_;simp only[a,intOf]; omega
 refine Lv aF (gZ m)<|aD<|aK<|Wx<|cB<|gW<|bZ<|sN<|ay<|av (au (-1))<|aD<|Wr<|aJ (au (-1)) ?_;exact⟨pW (Eq.symm (jD (fun i B=>j i (by omega)))),c⟩
theorem YE{a b:Prop} [Decidable a] [Decidable b](h : ¬ a):(decide a&&decide b)=false:=by rw[g_ h]; rfl
theorem YF{a b:Prop} [Decidable a] [Decidable b](h : ¬ b):(decide a&&decide b)=false:=by rw[g_ h,I_]
theorem YG{a b:Prop} [Decidable a] [Decidable b](h:a)(c:b):(decide a&&decide b)=true:=by rw[f_ h,f_ c]; rfl
theorem YH(m:kV)(p:Nat)(x r:Int)(w:World)(h:Cx w p m) :
 Calls Tryz.prog 160 #[(pt p),au x,aC r] w fun e w'=>e = .returned (au (m.grant x r))/\Below w.heap.size w w':=by
 have C:=h.c;have M:p<w.heap.size:=C.lt (by omega);have H:=h.bn;have G:=h.bg;have I:=h.bt;refine Kent Tryz.func160 43 ?_;refine ay<|av (au 0)<|aD<|Ws<|ay<|av (au 0)<|aD<|Wb<|Wo (fun f E => ∃ k:Nat,k<=m.s.gn/\(∀ i,i<k->(fun i=>decide (m.g i 0=x)&&decide (m.g i 1=r)) i=false)/\f 0=(pt p)/\f 1=au x/\f 2=aC r/\f 7=au (k:Int)/\iV E p 0 27 (kN m)/\Below w.heap.size w E) (fun f _=>(m.s.gn-(intOf (f 7)).toNat)) ⟨0,by omega,(fun i h=>M_ h (by omega)),(by rfl),Fx.ic,Fx.ic,Fx.ic,C,(Below.refl w.heap.size w)⟩ ?_;rintro J N ⟨k,L,t,j,v,y,a,l,d⟩;refine Ws<|ay<|aW a<|aW j<|av (pt p)<|av (pt p)<|av (pf p 19)<|Lv (.slice m.s.ga (m.s.gn) (m.s.gc)) (aL l 19)<|av (au m.s.gn) ?_;by_cases z:(k:Int)<(m.s.gn:Int)
 ·refine Lv aG (gY z)<|aD<|aM<|Wk<|sN<|Ws<|Wb<|Ws ?_;obtain⟨b,u,A,B⟩:=h.g k (by omega);have F:b<w.heap.size:=B.lt (by omega);have D:=B.below d F;refine Wl<|aW j<|av (pt p)<|av (pt p)<|av (pf p 19)<|Lv (.slice m.s.ga (m.s.gn) (m.s.gc)) (aL l 19)<|aW a<|Lv (pf b (5*k+u)) (dh 5 (hx:=(rfl.trans (L_ (fun q=>Value.slice q (m.s.gn) (m.s.gc)) A))))<|av (pf b (5*k+u))<|Lv (au (m.g k 0)) (aL D 0)<|aW v ?_;by_cases n:(m.g k 0)=x
  ·refine Lv aG (dP n)<|av aG<|aW j<|av (pt p)<|av (pt p)<|av (pf p 19)<|Lv (.slice m.s.ga (m.s.gn) (m.s.gc)) (aL l 19)<|aW a<|Lv (pf b (5*k+u)) (dh 5 (hx:=(rfl.trans (L_ (fun q=>Value.slice q (m.s.gn) (m.s.gc)) A))))<|av (pf b (5*k+u+1))<|Lv (aC (m.g k 1)) (aL D 1)<|aW y ?_;by_cases o:(m.g k 1)=r
   ·refine Lv aG (dP o)<|av aG<|aD<|aM<|ay<|aW a<|av (au k)<|aD<|Wr<|bM<|sR<|pE<|bM<|sR<|aJ (au k) ?_;exact⟨pW (Eq.symm (ku t (YG n o) (by omega))),d⟩
   refine Lv aF (eO o)<|av aF<|aD<|aK<|Wk<|bS<|sN<|Wl<|aW a<|Lv (au ((k:Int)+1)) fH<|av (au ((k:Int)+1))<|Ln<|iG ⟨k+1,by omega,(vL t (YF o)),j,(v.trans Fx.ic),(y.trans Fx.ic),Fx.ic,l,d⟩ ?_;show(m.s.gn-(intOf (au ((k:Int)+1))).toNat)<_;simp only[a,intOf]; omega
  refine Lv aF (eO n)<|av aF<|bF<|bF<|bF<|bF<|bF<|bF<|bF<|bF<|bF<|bF<|bF<|av aF<|aD<|aK<|Wk<|bS<|sN<|Wl<|aW a<|Lv (au ((k:Int)+1)) fH<|av (au ((k:Int)+1))<|Ln<|iG ⟨k+1,by omega,(vL t (YE n)),j,(v.trans Fx.ic),(y.trans Fx.ic),Fx.ic,l,d⟩ ?_;show(m.s.gn-(intOf (au ((k:Int)+1))).toNat)<_;simp only[a,intOf]; omega
 refine Lv aF (gZ z)<|aD<|aK<|Wx<|cB<|gW<|bZ<|sN<|ay<|av (au (-1))<|aD<|Wr<|aJ (au (-1)) ?_;exact⟨pW (Eq.symm (jD (fun i K=>t i (by omega)))),d⟩
theorem adk{n:Int}{k:Nat}(h:n=(k:Int)):decide (0<=n)=true:=f_ (by omega)
theorem adl{n:Int}(h:n = -1):decide (0<=n)=false:=g_ (by omega)
theorem YI(m:kV)(p a:Nat)(r:Int)(w:World)(h:Cx w p m)(ha:a<6) :
 Calls Tryz.prog 158 #[(pt p),au ((a:Int)+1),aC r] w fun e w'=>e = .returned (.bool (decide (0<=m.kF a r)))/\Below w.heap.size w w':=by
 have x:=h.c;have K:p<w.heap.size:=x.lt (by omega);have E:=h.bn;have D:=h.bg;have G:=h.bt;have F:=h.br a ha;refine Kent Tryz.func158 32 ?_;refine ay<|av aF<|aD<|Ws<|ay<|av (au 0)<|aD<|Wb<|Wo (fun f y => ∃ k:Nat,k<=m.rn a/\(∀ i,i<k->(fun i=>decide (m.rq a i=r)) i=false)/\f 0=(pt p)/\f 1=au ((a:Int)+1)/\f 2=aC r/\f 7=au (k:Int)/\iV y p 0 27 (kN m)/\Below w.heap.size w y) (fun f _=>(m.rn a-(intOf (f 7)).toNat)) ⟨0,by omega,(fun i h=>M_ h (by omega)),(by rfl),Fx.ic,Fx.ic,Fx.ic,x,(Below.refl w.heap.size w)⟩ ?_;rintro H L ⟨k,J,o,l,n,u,j,s,d⟩;refine Ws<|ay<|aW j<|aW l<|aW n<|Lv (au a) gN<|av (pt p)<|av (pf p 21)<|Lv (pf p (a+21)) (jV 6 1)<|Lv (.slice (m.ra a) (m.rn a) (m.rc a)) (aL s (a+21) (xk _ (by omega)))<|av (au (((m.rn a):Nat):Int)) ?_;by_cases t:(k:Int)<(((m.rn a):Nat):Int)
 ·refine Lv aG (gY t)<|aD<|aM<|Wk<|sN<|Ws<|Wb<|Ws ?_;obtain⟨b,C,z,v⟩:=h.r a ha k (by omega);have A:b<w.heap.size:=v.lt (by omega);have B:=v.below d A;refine Wl<|aW l<|aW n<|Lv (au a) gN<|av (pt p)<|av (pf p 21)<|Lv (pf p (a+21)) (jV 6 1)<|Lv (.slice (m.ra a) (m.rn a) (m.rc a)) (aL s (a+21) (xk _ (by omega)))<|aW j<|Lv (pf b (k+C)) (dh 1 (hx:=(rfl.trans (L_ (fun q=>Value.slice q (m.rn a) (m.rc a)) z))))<|Lv (aC (m.rq a k)) (aL B 0)<|aW u ?_;by_cases g:(m.rq a k)=r
  ·refine Lv aG (dP g)<|aD<|aM<|ay<|av aG<|aD<|Wr<|bM<|sR<|pE<|bM<|sR<|aJ aG ?_;exact⟨iI (Eq.symm (adk (ku o (f_ g) (by omega)))),d⟩
  refine Lv aF (eO g)<|aD<|aK<|Wk<|bS<|sN<|Wl<|aW j<|Lv (au ((k:Int)+1)) fH<|av (au ((k:Int)+1))<|Ln<|iG ⟨k+1,by omega,(vL o (g_ g)),l,(n.trans Fx.ic),(u.trans Fx.ic),Fx.ic,s,d⟩ ?_;show(m.rn a-(intOf (au ((k:Int)+1))).toNat)<_;simp only[j,intOf]; omega
 refine Lv aF (gZ t)<|aD<|aK<|Wx<|cB<|gW<|bZ<|sN<|ay<|av aF<|aD<|Wr<|aJ aF ?_;exact⟨iI (Eq.symm (adl (jD (fun i I=>o i (by omega))))),d⟩
namespace Rt
theorem Q0{k:Nat}{X:Nat->Int}{z:Int}(a:X k=z) : ∀ j,j<(k+1)*1->iM (rv .u64 X) (k*1) (bC (fun j=>rv .u64 (fun _=>0) (j % 1)) (0*1) 1 (fun _=>aC z)) j=rv .u64 X j:=by
 intro j b;unfold iM;by_cases h:j<k*1
 ·rw[d_ h]
 rw[b_ h];have e:j=k:=by omega
 subst e;unfold bC rv;rw[d_ (by omega),a]
theorem Po{t:Nat->Nat->Int}{tn k D:Nat}{x:Int}(a:k<=D)(b:bE t tn (bH t tn D x)<0)(h:0<=bE t tn (bH t tn k x)):k+1<=D:=Nat.lt_of_le_of_ne a fun e=>by subst e; omega
theorem UN{t:Nat->Nat->Int}{tn k:Nat}{x:Int}(h : ∀ i,i<k->0<=bE t tn (bH t tn i x))(a:0<=bE t tn (bH t tn k x)) : ∀ i,i<k+1->0<=bE t tn (bH t tn i x):=fun i b=>by
 by_cases e:i=k
 ·subst e; exact a
 ·exact h i (by omega)
theorem vM{t:Nat->Nat->Int}{tn:Nat}{x:Int}(h:0<=bE t tn x) : ∃ j:Nat,j<tn/\bE t tn x=(j:Int)/\t j 0=x:=by
 rcases iF (fun i=>decide (t i 0=x)) tn with ⟨k,a,e,b⟩|⟨e,_⟩
 ·exact⟨k,a,e,h_ b⟩
 unfold bE at h; rw[e]at h; omega
theorem Q5{t:Nat->Nat->Int}{tn k j:Nat}{x:Int}(h:bE t tn (bH t tn k x)=(j:Int)):t j 1=bH t tn (k+1) x:=by
 show _=t (bE t tn (bH t tn k x)).toNat 1;rw[h]; rfl
end Rt
theorem Pp(tb:Nat)(ta:Option Addr)(tn tc:Nat)(t:Nat->Nat->Int)(x:Int)(w:World)(h:Fy w tb ta tn tc t) :
 Calls Tryz.prog 175 #[(pt tb),aC x] w fun e w'=>e = .returned (.bool (decide (0<=bE t tn x)))/\Below w.heap.size w w':=by
 have d:=h.tc;have g:tb<w.heap.size:=d.lt (by omega);have f:=h.bt;refine Kent Tryz.func175 9 ?_;refine ay<|av aF<|aD<|ay<|av (pt tb)<|av (aC x)<|dU (NH tb ta tn tc t x _ (h.below (Below.refl w.heap.size w))) _ rfl ?_;intro i c;have b:=bD c (Below.refl w.heap.size w);by_cases a:0<=(bE t tn x)
 ·refine Lv aG (lH a)<|av aG<|aD<|Wr<|aJ aG ?_;exact⟨iI (Eq.symm (f_ a)),b⟩
 refine Lv aF (kR a)<|av aF<|aD<|Wr<|aJ aF ?_;exact⟨iI (Eq.symm (g_ a)),b⟩
theorem JK(tb:Nat)(ta:Option Addr)(tn tc:Nat)(t:Nat->Nat->Int)(x:Int)(D:Nat)(w:World)(h:Fy w tb ta tn tc t)(O:bE t tn (bH t tn D x)<0)(hD2:D<=1000) :
 Calls Tryz.prog 45 #[(pt tb),aC x] w fun e w' => ∃ K v,e = .returned v/\Fx.Own w' w.heap.size 23 1 v K (rv .u64 (fun i=>bH t tn i x))/\(∀ i,i<K->0<=bE t tn (bH t tn i x))/\bE t tn (bH t tn K x)<0/\Below w.heap.size w w':=by
 have R:=h.tc;have lp:tb<w.heap.size:=R.lt (by omega);have bt:=h.bt;refine Kent Tryz.func45 25 ?_;refine ay<|av (.slice none 0 0)<|aD<|ay<|av (.slice none 0 0)<|aD<|Ws<|Wb ?_;have m1:Fx.Own w w.heap.size 23 1 (.slice none 0 0) 0 (rv .u64 (fun i=>bH t tn i x)):=xM _ _ _ _ _;refine Wo (fun f J => ∃ k:Nat,∃ a:Option Addr,∃ d:Nat,k<=D/\(∀ i,i<k->0<=bE t tn (bH t tn i x))/\f 0=(pt tb)/\f 1=aC (bH t tn k x)/\f 5 = .slice a (k) (d)/\iV J tb 0 1 (fun _ => .slice ta tn tc)/\Fx.Own J w.heap.size 23 1 (.slice a k d) k (rv .u64 (fun i=>bH t tn i x))/\Below w.heap.size w J) (fun f _=>(D-adj (f 5))) ⟨0,none,0,by omega,(fun i h=>M_ h (by omega)),(by rfl),(by rfl),(by rfl),R,m1,(Below.refl w.heap.size w)⟩ ?_;rintro f1 w1 ⟨k,a,d,U,P,p,g,C,m2,m3,L⟩;refine Ws<|ay<|aW p<|aW g<|dU (NH tb ta tn tc t (bH t tn k x) _ (h.below L)) _ rfl ?_;intro w2 hb1;have⟨W,F,r⟩:=gL hb1 m2 m3 L;by_cases c:0<=(bE t tn (bH t tn k x))
 ·refine Lv aG (lH c)<|aD<|aM<|Wk<|sN<|Wb<|Ws ?_;obtain⟨j,T,M,_⟩:=vM c;refine Wl<|aW C<|aW g<|zi (vs := [(0,aC (bH t tn k x))]) (s:=1) (zc:=rv .u64 (fun _=>0)) (y:=bC (fun j=>(rv .u64 (fun _=>0)) (j % 1)) (0*1) 1 (fun _=>aC (bH t tn k x))) (by rfl) rfl rfl Tryz.underlying53 (by kernel_rfl) (by rfl) (by rfl) (by kernel_rfl) (by rw[bf (off:=0*1) (s:=1) (y:=fun _=>aC (bH t tn k x)) rfl (cells_one (by rfl)) (by rfl)]; rfl) rfl fun N w3 A X s2 z1 => ?_;have⟨m7,G,u⟩:=gL s2.old W F r;have qZ:=iw A r.size;have yN:tb≠N:=by rw[A]; exact u_ (W.lt (by omega))
  have Ll:(.slice a k d:Value).ownBlock≠some N:=by rw[A]; exact F.kP (A_ _)
  have sF:=X.lt;refine zP (B:=w.heap.size) (s:=1) (bytes:=8) (k:=k) (m:=1) (by rfl) rfl rfl rfl Tryz.underlying53 (by kernel_rfl) (by kernel_rfl) rfl rfl G X.aH (fun j T=>by rcases j with _|j <;> first|rfl|omega) (by omega) (by omega) (by omega) u.size fun o n I ho1 S wR hlt1 => ?_
  have E:iV I tb 0 1 (fun _ => .slice ta tn tc):=m7.grown S (G.not (by omega));have m9:Fx.Own I w.heap.size 23 1 (bO o (k+1) n) (k+1) (rv .u64 (fun i=>bH t tn i x)):=ho1.congr (Q0 rfl);have z:Below w.heap.size w I:=zO u S u.size (fun q hq=>(G.ge hq).1);refine av (bO o (k+1) n)<|aD ?_;obtain⟨b,Y,ea,Q⟩:=h.t j T;have lb:b<w.heap.size:=Q.lt (by omega);have V:=Q.below z lb;refine mF<|eF p<|aU (pt tb)<|aU (pt tb)<|Qv (.slice ta (tn) (tc)) (fun H l=>aL (E.below l (E.lt (by omega))) 0)<|eF p<|eF g<|wM (fun H l=>((NH tb ta tn tc t (bH t tn k x) _ (h.below (M5 z l))).mono fun e w2 g=>(⟨g.1.trans (by rw[M]),g.2⟩:e = .returned (au (j:Int))/\_))) _ rfl<|Qv (pf b (2*j+Y)) (fun H l=>dh 2 (hx:=(rfl.trans (L_ (fun q=>Value.slice q (tn) (tc)) ea))))<|aU (pf b (2*j+Y+1))<|Qv (aC ((t j) 1)) (fun H l=>aL (V.below l (V.lt (by omega))) 1)<|aU (aC ((t j) 1))<|Qn ?_;intro TH pG;have⟨m12,m13,Z⟩:=gL pG E m9 z;refine bS ?_;have kD:=Po U O c;refine iG ⟨k+1,(some ⟨o,0,none⟩),n,(Po U O c),(UN P c),p,(L_ (Value.int .u64) (Q5 M)),(by rfl),m12,m13,Z⟩ ?_;show(D-adj (bO o (k+1) n))<_;simp only[C,intOf,adj]; omega
 refine Lv aF (kR c)<|aD<|aK<|Wx<|cB<|gW<|bZ<|sN<|ay<|aW C<|av (.slice a (k) (d))<|aD<|Wr<|aJ (.slice a (k) (d)) ?_;exact⟨k,_,rfl,F,P,by omega,r⟩
namespace Rt
theorem amL{k n r:Nat}(e:r=k % n)(_hn:0<n)(_hk:k<=1000000):Int.tmod (k:Int) (n:Int)=(r:Int):=by
 rw[Int.tmod_eq_emod_of_nonneg (by omega),e];exact(Int.natCast_emod k n).symm
def Dx(m:kV)(k:Nat):Int:=if m.s.nn=0 then 0 else m.id (k % m.s.nn)
def jP(k tb:Nat):kV := { s:=⟨fun i=>decide (i<k),fun _=>false,fun _=>0,none,0,0,none,0,0⟩,id:=fun _=>0,par:=fun _=>0,R:=fun _ _=>0,g:=fun _ _=>0,tb:=tb,ta:=none,tn:=0,tc:=0,t:=fun _ _=>0,ra:=fun _=>none,rn:=fun _=>0,rc:=fun _=>0,rq:=fun _ _=>0 }
theorem Q6(k tb:Nat)(c:k<6):dF (kN (jP k tb)) k (.bool true)=kN (jP (k+1) tb):=by
 funext p
 unfold dF;by_cases e:p=k
 ·subst e; rw[d_ rfl];exact(jX _ (by omega) ((AA _ c).trans (L_ Value.bool (f_ (show p<p+1 by omega))))).symm
 rw[b_ e];unfold kN;by_cases h:p<20
 ·rw[d_ h,d_ h];unfold lS;by_cases a:p<6
  ·rw[d_ a,d_ a];show Value.bool (decide (p<k))=Value.bool (decide (p<k+1));by_cases b:p<k
   ·rw[f_ b,f_ (show p<k+1 by omega)]
   rw[g_ b,g_ (show ¬ p<k+1 by omega)]
  rw[b_ a,b_ a]; rfl
 rw[b_ h,b_ h]; rfl
end Rt
theorem UO(m:kV)(p k:Nat)(w:World)(h:Cx w p m)(F:k<=1000000) :
 Calls Tryz.prog 12 #[(pt p),au (k:Int)] w fun e w'=>e = .returned (aC (Dx m k))/\Below w.heap.size w w':=by
 have f:=h.c;have G:p<w.heap.size:=f.lt (by omega);have D:=h.bn;have C:=h.bg;have E:=h.bt;refine Kent Tryz.func12 28 ?_;refine ay<|av (aC 0)<|aD<|Ws<|ay<|av (pt p)<|av (pt p)<|av (pt p)<|av (pf p 18)<|Lv (.slice m.s.na (m.s.nn) (m.s.nc)) (aL f 18)<|av (au m.s.nn) ?_;by_cases j:(m.s.nn:Int)=0
 ·refine Lv aG (dP j)<|aD<|aM<|ay<|av (aC 0)<|aD<|Wr<|sR<|aJ (aC 0) ?_;exact⟨L_ (fun q=>Ending.returned (Value.int .u64 q)) (by unfold Dx; rw[d_ (by omega)]),(Below.refl w.heap.size w)⟩
 refine Lv aF (eO j)<|aD<|aK<|Wk<|sN<|Ws ?_;obtain⟨r,g⟩ : ∃ r,r=k % m.s.nn:=⟨_,rfl⟩;have x:r<m.s.nn:=by rw[g]; exact J_ _ (by omega)
 obtain⟨b,o,v,l⟩:=h.n r x;have y:b<w.heap.size:=l.lt (by omega);have z:=l.below (Below.refl w.heap.size w) y;refine vG<|aU (pt p)<|aU (pt p)<|aU (pt p)<|aU (pf p 18)<|Qv (.slice m.s.na (m.s.nn) (m.s.nc)) (fun d a=>aL (f.dr a) 18)<|aU (au k)<|aU (pt p)<|aU (pt p)<|aU (pt p)<|aU (pf p 18)<|Qv (.slice m.s.na (m.s.nn) (m.s.nc)) (fun d a=>aL (f.dr a) 18)<|aU (au m.s.nn)<|Qv (au r) (fun d a=>Fx.yB rfl rfl rfl (by omega) (amL g (by omega) (by omega)))<|Qv (pf b (o+56*r)) (fun d a=>dh 56 (hx:=(rfl.trans (L_ (fun q=>Value.slice q (m.s.nn) (m.s.nc)) v))))<|aU (pf b (o+56*r))<|Qv (aC (m.id r)) (fun d a=>aL (z.dr a) 0)<|aU (aC (m.id r))<|Qn ?_;rintro _ ⟨t,rfl⟩;obtain⟨B,i⟩ : ∃ d,d=World.drewN w t:=⟨_,rfl⟩;rw[<- i];have A:Stp w.heap.size w B:=by rw[i]; exact Sb (jB w t)
 have u:=bD A.old (Below.refl w.heap.size w);clear i;refine sN<|Wr<|aJ (aC (m.id r)) ?_;exact⟨L_ (fun q=>Ending.returned (Value.int .u64 q)) (by unfold Dx; rw[b_ (by omega),g]),u⟩
set_option maxRecDepth 10000 in
theorem ahx(n:Nat)(w:World)(h1:1<=n)(R:n<=6) :
 Calls Tryz.prog 55 #[au (n:Int)] w fun e w' => ∃ p tb,e = .returned (.tuple #[(pt p),au 0])/\w.heap.size<=p/\Cx w' p (jP n tb)/\Below w.heap.size w w'/\aP w' p 27 (kN (jP n tb)) 56/\aP w' tb 1 (fun _ => .slice none 0 0) 156/\w.heap.size<=tb:=by
 refine Kent Tryz.func55 28 ?_;refine ay<|av (.pointer none)<|av (au 0)<|aD<|Ws<|ay<|av (au n)<|Lv aF HY<|av aF<|av (au n)<|Lv aF yF<|av aF<|aD<|aK<|Wk<|sN<|ay<|av (.agg (aA 1 (fun _ => .slice none 0 0)))<|om fun b X C o M Z => ?_;have t:=bD M.old (Below.refl w.heap.size w);have F:=gI C;have V:=o.lt;refine av (.agg (aA 27 (bC (fun i=>(#[.bool false,.bool false,.bool false,.bool false,.bool false,.bool false,.bool false,.bool false,.bool false,.bool false,.bool false,.bool false,aC 0,aC 0,aC 0,aC 0,aC 0,aC 0,.slice none 0 0,.slice none 0 0,.pointer none,.slice none 0 0,.slice none 0 0,.slice none 0 0,.slice none 0 0,.slice none 0 0,.slice none 0 0]:Array Value).getD i undef) 20 1 (fun _=>(pt b)))))<|D6 (m:=27) (y:=bC (fun i=>(#[.bool false,.bool false,.bool false,.bool false,.bool false,.bool false,.bool false,.bool false,.bool false,.bool false,.bool false,.bool false,aC 0,aC 0,aC 0,aC 0,aC 0,aC 0,.slice none 0 0,.slice none 0 0,.pointer none,.slice none 0 0,.slice none 0 0,.slice none 0 0,.slice none 0 0,.slice none 0 0,.slice none 0 0]:Array Value).getD i undef) 20 1 (fun _=>(pt b))) (by rfl) rfl rfl (bK _ _) rfl fun a O v x N z2 => ?_;have⟨H,A⟩:=fC N.old o t;have G:=iw v t.size;have U:=cu v o.lt;have W:=x.lt;refine av (pt a)<|aD<|Ws<|ay<|av (au 0)<|aD<|Wb ?_;have I:aP O a 27 (kN (jP 0 b)) 56:=x.congr (fun j S=>by rcases j with _|_|_|_|_|_|_|_|_|_|_|_|_|_|_|_|_|_|_|_|_|_|_|_|_|_|_|j <;> first|rfl|omega)
 refine Wo (fun f s => ∃ k:Nat,k<=n/\f 0=au (n:Int)/\f 4=(pt a)/\f 5=au (k:Int)/\aP s b 1 (fun _ => .slice none 0 0) 156/\aP s a 27 (kN (jP k b)) 56/\Below w.heap.size w s) (fun f _=>(n-(intOf (f 5)).toNat)) ⟨0,by omega,Fx.ic,(by rfl),Fx.ic,H,I,A⟩ ?_;rintro Q Y ⟨k,T,h1,l,g,q,r,h⟩;refine Ws<|ay<|aW g<|aW h1 ?_;by_cases u:(k:Int)<(n:Int)
 ·refine Lv aG (gY u)<|aD<|aM<|Wk<|sN<|Ws<|Wb<|Wl<|aW l<|aW g<|av (pt a)<|av (pt a)<|av (pt a)<|Lv (pf a k) (jV 6 1)<|jv r k aG fun P J z z3 => ?_;have K:=q.bW z (by omega);have B:=z.below h h.size (by omega);refine Ln<|bS<|sN<|Wl<|aW g<|Lv (au ((k:Int)+1)) fH<|av (au ((k:Int)+1))<|Ln ?_;have L:aP P a 27 (kN (jP (k+1) b)) 56:=J.to (Q6 k b (by omega))
  skip
  refine iG ⟨k+1,by omega,(h1.trans Fx.ic),l,Fx.ic,K,L,B⟩ ?_;show(n-(intOf (au ((k:Int)+1))).toNat)<_;simp only[g,intOf]; omega
 refine Lv aF (gZ u)<|aD<|aK<|Wx<|cB<|gW<|bZ<|sN<|ay<|aW l<|av (pt a)<|av (au 0)<|aD<|Wr<|aJ (.tuple #[(pt a),au 0]) ?_;have D:k=n:=by omega
 subst D;exact⟨_,_,rfl,G,{ c:=r.aH,an:=fun d=>M_ d (Nat.lt_irrefl 0),ag:=fun d=>M_ d (Nat.lt_irrefl 0),tc:=q.aH,at2:=fun d=>M_ d (Nat.lt_irrefl 0),ar:=fun i E d=>M_ d (Nat.lt_irrefl 0),bn:=K_ _,bg:=K_ _,bt:=K_ _,br:=fun i E=>K_ _ },h,r,q,F⟩
namespace Rt
def Cy(t:Nat->Nat->Int)(n k:Nat):Nat->Nat->Int:=fun i=>if i<=k then(if i<n then t i else fun _=>0)else t (i-1)
def qg(t:Nat->Nat->Int)(k:Nat)(id par:Int):Nat->Nat->Int:=fun i=>if i<k then t i else if i=k then(fun j=>if j=0 then id else par)else t (i-1)
theorem uK{w:World}{B tb tn tc:Nat}{ta:Option Addr}{t:Nat->Nat->Int}(b:aP w tb 1 (fun _ => .slice ta tn tc) 156)(a:Fx.Own w B 153 2 (.slice ta tn tc) tn (rv .u64 (lU t)))(j:tn<=1000):Fy w tb ta tn tc t where
 tc:=b.aH
 t:=fun k h=>by
  obtain⟨g,d,e,_,_,_,c⟩:=a.form (by omega);simp only[Value.slice.injEq,true_and]at e;refine⟨g,0,e.1,fun i f => ?_⟩;have:=c (2*k+i) (by omega);rw[G_]at this;rw[G_,this];show some (Value.int .u64 (t ((2*k+i) / 2) ((2*k+i) % 2)))=some (Value.int .u64 (t k i));rw[show(2*k+i) / 2=k by omega,show(2*k+i) % 2=i by omega]
 bt:=by omega
theorem yE(t:Nat->Nat->Int)(n:Nat) : ∀ j,j<(n+1)*2->iM (rv .u64 (lU t)) (n*2) (bC (fun j=>rv .u64 (fun _=>0) (j % 2)) (0*2) 2 (rv .u64 (fun _=>0))) j=rv .u64 (lU (Cy t n n)) j:=fun j a=>by
 unfold iM;by_cases h:j<n*2
 ·rw[d_ h];show Value.int .u64 (t (j / 2) (j % 2))=Value.int .u64 (Cy t n n (j / 2) (j % 2));unfold Cy; rw[d_ (by omega),d_ (by omega)]
 ·rw[b_ h];unfold bC; rw[d_ (by omega)];show Value.int .u64 0=Value.int .u64 (Cy t n n (j / 2) (j % 2));unfold Cy; rw[d_ (by omega),b_ (by omega)]
theorem zZ{t:Nat->Nat->Int}{n k j p:Nat}(a:p=2*j)(h:j<k)(b:k<=n):rv .u64 (lU (Cy t n k)) p=aC (t j 0):=by
 subst a;show Value.int .u64 (Cy t n k (2*j / 2) (2*j % 2))=_;unfold Cy; rw[d_ (by omega),d_ (by omega),show 2*j / 2=j by omega,show 2*j % 2=0 by omega]
theorem UQ{t:Nat->Nat->Int}{n k j i:Nat}(h:j<k)(a:k<=n)(hi:i<2):rv .u64 (lU (Cy t n k)) (2*j+i)=rv .u64 (t j) i:=by
 show Value.int .u64 (Cy t n k ((2*j+i) / 2) ((2*j+i) % 2))=Value.int .u64 (t j i);unfold Cy; rw[d_ (by omega),d_ (by omega),show(2*j+i) / 2=j by omega,show(2*j+i) % 2=i by omega]
theorem zk{t:Nat->Nat->Int}{n k j:Nat}(e:k=j+1)(_hk:k<=n) : ∀ p,p<(n+1)*2->bC (rv .u64 (lU (Cy t n k))) (2*k) 2 (rv .u64 (t j)) p=rv .u64 (lU (Cy t n j)) p:=fun p b=>by
 unfold bC;by_cases h:2*k<=p/\p<2*k+2
 ·rw[d_ h];show Value.int .u64 (t j (p-2*k))=Value.int .u64 (Cy t n j (p / 2) (p % 2));unfold Cy; rw[b_ (by omega),show p / 2-1=j by omega,show p-2*k=p % 2 by omega]
 ·rw[b_ h];show Value.int .u64 (Cy t n k (p / 2) (p % 2))=Value.int .u64 (Cy t n j (p / 2) (p % 2));unfold Cy;by_cases a:p / 2<=j
  ·rw[d_ (by omega),d_ a]
  ·rw[b_ (by omega),b_ a]
theorem uz{t:Nat->Nat->Int}{n k:Nat}{id par:Int}(_hk:k<=n) : ∀ p,p<(n+1)*2->bC (rv .u64 (lU (Cy t n k))) (2*k) 2 (bC (bC (rv .u64 (fun _=>0)) 0 1 (fun _=>aC id)) 1 1 (fun _=>aC par)) p=rv .u64 (lU (qg t k id par)) p:=fun p c=>by
 by_cases h:2*k<=p/\p<2*k+2
 ·rw[bC,d_ h];show _=Value.int .u64 (qg t k id par (p / 2) (p % 2));unfold qg; rw[b_ (by omega),d_ (by omega)];by_cases b:p=2*k
  ·subst b; rw[show 2*k-2*k=0 by omega,d_ (by omega)]; rfl
  ·rw[show p-2*k=1 by omega,b_ (by omega)]; rfl
 ·rw[bC,b_ h];show Value.int .u64 (Cy t n k (p / 2) (p % 2))=Value.int .u64 (qg t k id par (p / 2) (p % 2));unfold Cy qg;by_cases a:p / 2<k
  ·rw[d_ (by omega),d_ (by omega),d_ a]
  ·rw[b_ (by omega),b_ a,b_ (by omega)]
def Dy(t:Nat->Nat->Int)(tn:Nat)(x:Int):Prop := ∀ i,i<4->0<=bE t tn (bH t tn i x)
theorem Lm{t:Nat->Nat->Int}{tn K:Nat}{x:Int}(h : ∀ i,i<K->0<=bE t tn (bH t tn i x))(a:4<=K):Dy t tn x:=fun i b=>h i (by omega)
theorem Ez{t:Nat->Nat->Int}{tn K:Nat}{x:Int}(h:bE t tn (bH t tn K x)<0)(a:K<4) : ¬ Dy t tn x:=fun b=>by have:=b K a; omega
open Classical in
noncomputable def jQ(t:Nat->Nat->Int)(tn:Nat)(id par:Int):Int:=if id=0 then 1 else if 0<=bE t tn id then 14 else if par≠0/\bE t tn par<0 then 9 else if 32<=tn\/Dy t tn par then 6 else 0
theorem Pq{t:Nat->Nat->Int}{n k j:Nat}{id:Int}(e:k=j+1)(h : ∀ i,k<=i->i<n->id<t i 0)(c:id<t j 0) : ∀ i,j<=i->i<n->id<t i 0:=fun i d b=>by
 by_cases a:i=j
 ·subst a; exact c
 ·exact h i (by omega) b
end Rt
set_option maxRecDepth 10000 in
theorem ahy(B:Nat)(tb:Nat)(ta:Option Addr)(tn tc:Nat)(t:Nat->Nat->Int)(id par:Int)(D:Nat)(w:World)(P:aP w tb 1 (fun _ => .slice ta tn tc) 156)(X:Fx.Own w B 153 2 (.slice ta tn tc) tn (rv .u64 (lU t)))(hne:(Value.slice ta tn tc).ownBlock≠some tb)(hB:B<=w.heap.size)(Q:tn<=1000)(hD:bE t tn (bH t tn D par)<0)(hD2:D<=1000) :
 Calls Tryz.prog 157 #[(pt tb),aC id,aC par] w fun e w'=>e = .returned (au (jQ t tn id par))/\jR (fun k=>k=tb\/(Value.slice ta tn tc).ownBlock=some k) w w'/\((jQ t tn id par≠0/\aP w' tb 1 (fun _ => .slice ta tn tc) 156/\Fx.Own w' B 153 2 (.slice ta tn tc) tn (rv .u64 (lU t)))\/(jQ t tn id par=0 /\ ∃ g cap,aP w' tb 1 (fun _=>bO g (tn+1) cap) 156/\Fx.Own w' B 153 2 (bO g (tn+1) cap) (tn+1) (rv .u64 (lU (qg t (down (fun i=>decide (id<t i 0)) tn) id par)))/\(Value.slice (some ⟨g,0,none⟩) (tn+1) cap).ownBlock≠some tb)):=by
 have lp:tb<w.heap.size:=P.lt;refine Kent Tryz.func157 89 ?_;refine ay<|av (au 0)<|aD<|Ws<|ay<|av (aC id) ?_;by_cases q:id=0
 ·refine Lv aG (dP q)<|aD<|aM<|ay<|av (au 1)<|aD<|Wr<|sR<|aJ (au 1) ?_;have c:jQ t tn id par=1:=by unfold jQ; rw[d_ q]
  exact⟨pW c.symm,(vw (fun k=>k=tb\/(Value.slice ta tn tc).ownBlock=some k) w),.inl ⟨by rw[c]; decide,P,X⟩⟩
 refine Lv aF (eO q)<|aD<|aK<|Wk<|sN<|Ws<|ay<|av (pt tb)<|av (aC id) ?_;by_cases p:(decide (0<=bE t tn id))=true
 ·refine dU (Pp tb ta tn tc t id _ (uK P X Q)) aG (by rw[p]) ?_;intro w1 hb1;have s1:=Sb hb1;have⟨m1,m2⟩:=fC hb1 P X;have b1:=(vw (fun k=>k=tb\/(Value.slice ta tn tc).ownBlock=some k) w).then s1 (.inr (vw (fun k=>k=tb\/(Value.slice ta tn tc).ownBlock=some k) w).size);refine aD<|aM<|ay<|av (au 14)<|aD<|Wr<|sR<|aJ (au 14) ?_;have c:jQ t tn id par=14:=by unfold jQ; rw[b_ q,d_ (h_ p)]
  exact⟨pW c.symm,b1,.inl ⟨by rw[c]; decide,m1,m2⟩⟩
 rw[T_]at p;refine dU (Pp tb ta tn tc t id _ (uK P X Q)) aF (by rw[p]) ?_;intro w2 hb2;have s2:=Sb hb2;have⟨E,L⟩:=fC hb2 P X;have F:=(vw (fun k=>k=tb\/(Value.slice ta tn tc).ownBlock=some k) w).then s2 (.inr (vw (fun k=>k=tb\/(Value.slice ta tn tc).ownBlock=some k) w).size);refine aD<|aK<|Wk<|sN<|Ws<|ay<|av (aC par) ?_;by_cases G:par=0
 ·refine Lv aF (iN G)<|av aF<|bF<|bF<|bF<|bF<|av aF<|aD<|aK<|Wk<|sN<|Ws<|ay<|av (pt tb)<|av (pt tb)<|av (pt tb)<|Lv (.slice ta (tn) (tc)) (aL E.aH 0)<|av (au tn) ?_;by_cases T:32<=(tn:Int)
  ·refine Lv aG (lH T)<|av aG<|bF<|bF<|bF<|bF<|bF<|av aG<|aD<|aM<|ay<|av (au 6)<|aD<|Wr<|sR<|aJ (au 6) ?_;have c:jQ t tn id par=6:=(by unfold jQ; rw[b_ q,b_ (j_ p),b_ (fun h=>h.1 G),d_ (.inl (by omega))]);exact⟨pW c.symm,F,.inl ⟨by rw[c]; decide,E,L⟩⟩
  refine Lv aF (kR T)<|av aF<|av (pt tb)<|av (aC par)<|kU (JK tb ta tn tc t par D _ (uK E L Q) hD hD2) ?_;rintro e w3 ⟨K,vv,Y,hown,tu,W,hb3⟩;obtain⟨a1,n,rfl⟩:=hown.val;refine⟨.slice a1 K n,Y,?_⟩;clear Y hown;have s3:=Sb hb3;have⟨m5,m6⟩:=fC hb3 E L;have b3:=F.then s3 (.inr F.size);refine av (au K) ?_;by_cases U:4<=(K:Int)
  ·refine Lv aG (lH U)<|av aG<|aD<|aM<|ay<|av (au 6)<|aD<|Wr<|sR<|aJ (au 6) ?_;have c:jQ t tn id par=6:=(by unfold jQ; rw[b_ q,b_ (j_ p),b_ (fun h=>h.1 G),d_ (.inr (Lm tu (by omega)))]);exact⟨pW c.symm,b3,.inl ⟨by rw[c]; decide,m5,m6⟩⟩
  refine Lv aF (kR U)<|av aF<|aD<|aK<|Wk<|sN<|ay<|av (pt tb)<|av (pt tb)<|av (pt tb)<|Lv (.slice ta (tn) (tc)) (aL m5.aH 0)<|av (au tn)<|av (au tn)<|aD<|ay<|av (pt tb)<|av (pt tb)<|av (pt tb)<|av (pt tb)<|Lv (.slice ta (tn) (tc)) (aL m5.aH 0)<|av (.agg (aA 2 (rv .u64 (fun _=>0))))<|zi (vs := [(0,.agg (aA 2 (rv .u64 (fun _=>0))))]) (s:=2) (zc:=rv .u64 (fun _=>0)) (y:=bC (fun j=>(rv .u64 (fun _=>0)) (j % 2)) (0*2) 2 (rv .u64 (fun _=>0))) (by rfl) rfl rfl Tryz.underlying154 (by kernel_rfl) (by rfl) (by rfl) (by kernel_rfl) (by rw[bf (off:=0*2) (s:=2) (y:=rv .u64 (fun _=>0)) rfl (bK _ _) (by rfl)]; rfl) rfl fun g1 w4 kM m7 s4 z1 => ?_;have⟨m8,m9⟩:=fC s4.old m5 m6;have b4:=b3.then s4 (.inr b3.size);have qZ:=iw kM b3.size;have Ll:=cu kM m5.lt;have ahz:(.slice ta tn tc:Value).ownBlock≠some g1:=by rw[kM]; exact m6.kP (A_ _)
  have sF:=m7.lt;refine zP (B:=B) (s:=2) (bytes:=16) (k:=tn) (m:=1) (v := .slice ta tn tc) (by rfl) rfl rfl rfl Tryz.underlying154 (by kernel_rfl) (by kernel_rfl) rfl rfl m9 m7.aH (fun j Z=>by rcases j with _|_|j <;> first|rfl|omega) (by omega) (by omega) (by omega) (m_ hB b4.size) fun d n w5 ho1 hg1 wR hlt1 => ?_
  have m11:aP w5 tb 1 (fun _ => .slice ta tn tc) 156:=m8.grown hg1 hne;have ahA:tb≠d:=fun e=>wR.elim (fun x=>hne (by rw[x,e])) (fun x=>by have:=m8.lt; omega);have m10:Fx.Own w5 B 153 2 (bO d (tn+1) n) (tn+1) (rv .u64 (lU (Cy t tn tn))):=ho1.congr (yE t tn);have b5:jR (fun k=>k=tb\/(Value.slice ta tn tc).ownBlock=some k) w w5:=Fx.jR.grow b4 hg1 (fun k e => .inl (.inr e));have adn:(fun k=>k=tb\/(Value.slice ta tn tc).ownBlock=some k) d\/w.heap.size<=d:=wR.elim (fun e => .inl (.inr e)) (fun e => .inr (by rw[e]; exact b4.size));refine av (pt tb)<|av (pt tb)<|jv m11 0 (bO d (tn+1) n) fun w6 m12 s5 z2 => ?_;have m13:aP w6 tb 1 (fun _=>bO d (tn+1) n) 156:=dI m12;have m14:=m10.acf s5 (by omega);have b6:=b5.then s5 (.inl (.inl rfl));refine aD<|Ws<|Wb<|Wo (fun f M => ∃ k:Nat,k<=tn/\(∀ i,k<=i->i<tn->id<t i 0)/\f 0=(pt tb)/\f 1=aC id/\f 2=aC par/\f 7=au (k:Int)/\aP M tb 1 (fun _=>bO d (tn+1) n) 156/\Fx.Own M B 153 2 (bO d (tn+1) n) (tn+1) (rv .u64 (lU (Cy t tn k)))/\jR (fun k=>k=tb\/(Value.slice ta tn tc).ownBlock=some k) w M) (fun f _=>(intOf (f 7)).toNat) ⟨tn,by omega,(fun i r N=>M_ r (by omega)),(by rfl),Fx.ic,Fx.ic,Fx.ic,m13,m14,b6⟩ ?_;rintro f1 w7 ⟨k,hk,J,r,N,h3,A,R,m16,b7⟩;refine Ws<|ay<|aW A ?_;by_cases V:0<(k:Int)
  ·obtain⟨j,H⟩ : ∃ j,k=j+1:=⟨k-1,by omega⟩;refine Lv aG (mo V)<|av aG<|aW r<|av (pt tb)<|av (pt tb)<|Lv (bO d (tn+1) n) (aL R.aH 0)<|aW A<|Lv (au j) gN<|Lv (pf d (2*j)) (dh 2)<|av (pf d (2*j))<|Lv (aC (t j 0)) (aL m16.aH (2*j) (zZ (by omega) (by omega) (by omega)))<|aW N ?_;by_cases u:id<(t j 0)
   ·refine Lv aG (mo u)<|av aG<|aD<|aM<|Wk<|sN<|Wb<|Ws ?_;refine Wt 14 (by kernel_rfl) (by kernel_rfl) fun qC dN iE => ?_;have s6:Stp w7.heap.size w7 qC:=Sb dN;have⟨m17,m18⟩:=fC dN R m16;have b8:=b7.then s6 (.inr b7.size);refine qU (pt tb) (SX r)<|EY (pt tb)<|EY (pt tb)<|qU (bO d (tn+1) n) (aL m17.aH 0)<|qU (au k) (SX A)<|qU (pt tb) (SX r)<|EY (pt tb)<|EY (pt tb)<|qU (bO d (tn+1) n) (aL m17.aH 0)<|qU (au k) (SX A)<|qU (au j) gN<|qU (pf d (2*j)) (dh 2)<|qU (.agg (aA 2 (rv .u64 (t j)))) (eT m18.aH (2*j) (fun i hi=>UQ (by omega) (by omega) hi))<|qU (pf d (2*k)) (dh 2)<|Fx.St.nil ?_;refine Ao m18 (2*k) fun w8 m19 s7 z3 => ?_;have m20:=m17.bW s7 (by omega);have b9:=b8.then s7 adn;have m21:Fx.Own w8 B 153 2 (bO d (tn+1) n) (tn+1) (rv .u64 (lU (Cy t tn j))):=m19.congr (zk H (by omega));refine aD<|Wl<|aW A<|Lv (au j) gN<|av (au j)<|Ln<|bS<|iG ⟨j,by omega,(Pq H J u),r,(N.trans Fx.ic),(h3.trans Fx.ic),Fx.ic,m20,m21,b9⟩ ?_;show(intOf (au j)).toNat<_;simp only[A,intOf]; omega
   refine Lv aF (mD u)<|av aF<|aD<|aK<|Wx<|cB<|gW<|bZ<|sN<|ay<|aW r<|av (pt tb)<|av (pt tb)<|Lv (bO d (tn+1) n) (aL R.aH 0)<|aW A<|aW N<|aW h3<|av (.agg (aA 2 (bC (bC (rv .u64 (fun _=>0)) 0 1 (fun _=>aC id)) 1 1 (fun _=>aC par))))<|Lv (pf d (2*k)) (dh 2)<|Ao m16 (2*k) (h1:=(fun j Z=>by rcases j with _|_|j <;> first|rfl|omega)) fun w9 m22 s8 z4 => ?_
   have m23:=R.bW s8 (by omega);have b10:=b7.then s8 adn;have m24:Fx.Own w9 B 153 2 (bO d (tn+1) n) (tn+1) (rv .u64 (lU (qg t k id par))):=m22.congr (uz (by omega));refine aD<|ay<|av (au 0)<|aD<|Wr<|aJ (au 0) ?_;have c:jQ t tn id par=0:=(by unfold jQ; rw[b_ q,b_ (j_ p),b_ (fun h=>h.1 G),b_ (fun h=>h.elim (fun h=>by omega) (Ez W (by omega)))]);have I:k=down (fun i=>decide (id<t i 0)) tn:=Fx.qw hk (fun i a b=>f_ (J i a b)) (.inr (fun j e=>by have x:j=_:=Nat.succ.inj (e.symm.trans H); subst x; exact g_ u));exact⟨pW c.symm,b10,.inr ⟨c,d,n,m23,by rw[<- I]; exact m24,fun e=>ahA (C_ e).symm⟩⟩
  refine Lv aF (mD V)<|av aF<|bF<|bF<|bF<|bF<|bF<|bF<|bF<|bF<|bF<|bF<|bF<|av aF<|aD<|aK<|Wx<|cB<|gW<|bZ<|sN<|ay<|aW r<|av (pt tb)<|av (pt tb)<|Lv (bO d (tn+1) n) (aL R.aH 0)<|aW A<|aW N<|aW h3<|av (.agg (aA 2 (bC (bC (rv .u64 (fun _=>0)) 0 1 (fun _=>aC id)) 1 1 (fun _=>aC par))))<|Lv (pf d (2*k)) (dh 2)<|Ao m16 (2*k) (h1:=(fun j Z=>by rcases j with _|_|j <;> first|rfl|omega)) fun rW mM s9 z5 => ?_
  have mU:=R.bW s9 (by omega);have b11:=b7.then s9 adn;have oo:Fx.Own rW B 153 2 (bO d (tn+1) n) (tn+1) (rv .u64 (lU (qg t k id par))):=mM.congr (uz (by omega));refine aD<|ay<|av (au 0)<|aD<|Wr<|aJ (au 0) ?_;have c:jQ t tn id par=0:=by unfold jQ; rw[b_ q,b_ (j_ p),b_ (fun h=>h.1 G),b_ (fun h=>h.elim (fun h=>by omega) (Ez W (by omega)))]
  have I:k=down (fun i=>decide (id<t i 0)) tn:=Fx.qw hk (fun i a b=>f_ (J i a b)) (.inl (by omega));exact⟨pW c.symm,b11,.inr ⟨c,d,n,mU,by rw[<- I]; exact oo,fun e=>ahA (C_ e).symm⟩⟩
 refine Lv aG (jZ G)<|av aG<|av (pt tb)<|av (aC par) ?_;by_cases z:(decide (0<=bE t tn par))=true
 ·refine dU (Pp tb ta tn tc t par _ (uK E L Q)) aG (by rw[z]) ?_;intro Ec hb4;have s10:=Sb hb4;have⟨ou,nG⟩:=fC hb4 E L;have b12:=F.then s10 (.inr F.size);refine av aF<|av aF<|aD<|aK<|Wk<|sN<|Ws<|ay<|av (pt tb)<|av (pt tb)<|av (pt tb)<|Lv (.slice ta (tn) (tc)) (aL ou.aH 0)<|av (au tn) ?_;by_cases T:32<=(tn:Int)
  ·refine Lv aG (lH T)<|av aG<|bF<|bF<|bF<|bF<|bF<|av aG<|aD<|aM<|ay<|av (au 6)<|aD<|Wr<|sR<|aJ (au 6) ?_;have c:jQ t tn id par=6:=(by unfold jQ; rw[b_ q,b_ (j_ p),b_ (fun h=>by have:=h_ z; omega),d_ (.inl (by omega))]);exact⟨pW c.symm,b12,.inl ⟨by rw[c]; decide,ou,nG⟩⟩
  refine Lv aF (kR T)<|av aF<|av (pt tb)<|av (aC par)<|kU (JK tb ta tn tc t par D _ (uK ou nG Q) hD hD2) ?_;rintro e Bd ⟨K,vv,Y,hown,tu,W,hb5⟩;obtain⟨a1,n,rfl⟩:=hown.val;refine⟨.slice a1 K n,Y,?_⟩;clear Y hown;have s11:=Sb hb5;have⟨nk,lI⟩:=fC hb5 ou nG;have b13:=b12.then s11 (.inr b12.size);refine av (au K) ?_;by_cases U:4<=(K:Int)
  ·refine Lv aG (lH U)<|av aG<|aD<|aM<|ay<|av (au 6)<|aD<|Wr<|sR<|aJ (au 6) ?_;have c:jQ t tn id par=6:=(by unfold jQ; rw[b_ q,b_ (j_ p),b_ (fun h=>by have:=h_ z; omega),d_ (.inr (Lm tu (by omega)))]);exact⟨pW c.symm,b13,.inl ⟨by rw[c]; decide,nk,lI⟩⟩
  refine Lv aF (kR U)<|av aF<|aD<|aK<|Wk<|sN<|ay<|av (pt tb)<|av (pt tb)<|av (pt tb)<|Lv (.slice ta (tn) (tc)) (aL nk.aH 0)<|av (au tn)<|av (au tn)<|aD<|ay<|av (pt tb)<|av (pt tb)<|av (pt tb)<|av (pt tb)<|Lv (.slice ta (tn) (tc)) (aL nk.aH 0)<|av (.agg (aA 2 (rv .u64 (fun _=>0))))<|zi (vs := [(0,.agg (aA 2 (rv .u64 (fun _=>0))))]) (s:=2) (zc:=rv .u64 (fun _=>0)) (y:=bC (fun j=>(rv .u64 (fun _=>0)) (j % 2)) (0*2) 2 (rv .u64 (fun _=>0))) (by rfl) rfl rfl Tryz.underlying154 (by kernel_rfl) (by rfl) (by rfl) (by kernel_rfl) (by rw[bf (off:=0*2) (s:=2) (y:=rv .u64 (fun _=>0)) rfl (bK _ _) (by rfl)]; rfl) rfl fun g3 Fh uI m32 s12 z6 => ?_;have⟨oU,nH⟩:=fC s12.old nk lI;have b14:=b13.then s12 (.inr b13.size);have Ae:=iw uI b13.size;have amM:=cu uI nk.lt;have amN:(.slice ta tn tc:Value).ownBlock≠some g3:=by rw[uI]; exact lI.kP (A_ _)
  have Ed:=m32.lt;refine zP (B:=B) (s:=2) (bytes:=16) (k:=tn) (m:=1) (v := .slice ta tn tc) (by rfl) rfl rfl rfl Tryz.underlying154 (by kernel_rfl) (by kernel_rfl) rfl rfl nH m32.aH (fun j Z=>by rcases j with _|_|j <;> first|rfl|omega) (by omega) (by omega) (by omega) (m_ hB b14.size) fun l o K8 ho2 hg2 NI hlt2 => ?_
  have mO:aP K8 tb 1 (fun _ => .slice ta tn tc) 156:=oU.grown hg2 hne;have ahB:tb≠l:=fun e=>NI.elim (fun x=>hne (by rw[x,e])) (fun x=>by have:=oU.lt; omega);have nR:Fx.Own K8 B 153 2 (bO l (tn+1) o) (tn+1) (rv .u64 (lU (Cy t tn tn))):=ho2.congr (yE t tn);have b15:jR (fun k=>k=tb\/(Value.slice ta tn tc).ownBlock=some k) w K8:=Fx.jR.grow b14 hg2 (fun k e => .inl (.inr e));have ado:(fun k=>k=tb\/(Value.slice ta tn tc).ownBlock=some k) l\/w.heap.size<=l:=NI.elim (fun e => .inl (.inr e)) (fun e => .inr (by rw[e]; exact b14.size));refine av (pt tb)<|av (pt tb)<|jv mO 0 (bO l (tn+1) o) fun Kv qy s13 z7 => ?_;have pX:aP Kv tb 1 (fun _=>bO l (tn+1) o) 156:=dI qy;have pY:=nR.acf s13 (by omega);have b16:=b15.then s13 (.inl (.inl rfl));refine aD<|Ws<|Wb<|Wo (fun f M => ∃ k:Nat,k<=tn/\(∀ i,k<=i->i<tn->id<t i 0)/\f 0=(pt tb)/\f 1=aC id/\f 2=aC par/\f 7=au (k:Int)/\aP M tb 1 (fun _=>bO l (tn+1) o) 156/\Fx.Own M B 153 2 (bO l (tn+1) o) (tn+1) (rv .u64 (lU (Cy t tn k)))/\jR (fun k=>k=tb\/(Value.slice ta tn tc).ownBlock=some k) w M) (fun f _=>(intOf (f 7)).toNat) ⟨tn,by omega,(fun i r N=>M_ r (by omega)),(by rfl),Fx.ic,Fx.ic,Fx.ic,pX,pY,b16⟩ ?_;rintro f2 w16 ⟨k,hk,J,O,h6,h7,C,S,mP,b17⟩;refine Ws<|ay<|aW C ?_;by_cases V:0<(k:Int)
  ·obtain⟨j,H⟩ : ∃ j,k=j+1:=⟨k-1,by omega⟩;refine Lv aG (mo V)<|av aG<|aW O<|av (pt tb)<|av (pt tb)<|Lv (bO l (tn+1) o) (aL S.aH 0)<|aW C<|Lv (au j) gN<|Lv (pf l (2*j)) (dh 2)<|av (pf l (2*j))<|Lv (aC (t j 0)) (aL mP.aH (2*j) (zZ (by omega) (by omega) (by omega)))<|aW h6 ?_;by_cases u:id<(t j 0)
   ·refine Lv aG (mo u)<|av aG<|aD<|aM<|Wk<|sN<|Wb<|Ws ?_;refine Wt 14 (by kernel_rfl) (by kernel_rfl) fun Cr gK nU => ?_;have Af:Stp w16.heap.size w16 Cr:=Sb gK;have⟨mQ,mV⟩:=fC gK S mP;have b18:=b17.then Af (.inr b17.size);refine qU (pt tb) (SX O)<|EY (pt tb)<|EY (pt tb)<|qU (bO l (tn+1) o) (aL mQ.aH 0)<|qU (au k) (SX C)<|qU (pt tb) (SX O)<|EY (pt tb)<|EY (pt tb)<|qU (bO l (tn+1) o) (aL mQ.aH 0)<|qU (au k) (SX C)<|qU (au j) gN<|qU (pf l (2*j)) (dh 2)<|qU (.agg (aA 2 (rv .u64 (t j)))) (eT mV.aH (2*j) (fun i hi=>UQ (by omega) (by omega) hi))<|qU (pf l (2*k)) (dh 2)<|Fx.St.nil ?_;refine Ao mV (2*k) fun Sd pI s15 z8 => ?_;have qb:=mQ.bW s15 (by omega);have b19:=b18.then s15 ado;have oV:Fx.Own Sd B 153 2 (bO l (tn+1) o) (tn+1) (rv .u64 (lU (Cy t tn j))):=pI.congr (zk H (by omega));refine aD<|Wl<|aW C<|Lv (au j) gN<|av (au j)<|Ln<|bS<|iG ⟨j,by omega,(Pq H J u),O,(h6.trans Fx.ic),(h7.trans Fx.ic),Fx.ic,qb,oV,b19⟩ ?_;show(intOf (au j)).toNat<_;simp only[C,intOf]; omega
   refine Lv aF (mD u)<|av aF<|aD<|aK<|Wx<|cB<|gW<|bZ<|sN<|ay<|aW O<|av (pt tb)<|av (pt tb)<|Lv (bO l (tn+1) o) (aL S.aH 0)<|aW C<|aW h6<|aW h7<|av (.agg (aA 2 (bC (bC (rv .u64 (fun _=>0)) 0 1 (fun _=>aC id)) 1 1 (fun _=>aC par))))<|Lv (pf l (2*k)) (dh 2)<|Ao mP (2*k) (h1:=(fun j Z=>by rcases j with _|_|j <;> first|rfl|omega)) fun TR sG s16 z9 => ?_
   have uQ:=S.bW s16 (by omega);have b20:=b17.then s16 ado;have sH:Fx.Own TR B 153 2 (bO l (tn+1) o) (tn+1) (rv .u64 (lU (qg t k id par))):=sG.congr (uz (by omega));refine aD<|ay<|av (au 0)<|aD<|Wr<|aJ (au 0) ?_;have c:jQ t tn id par=0:=(by unfold jQ; rw[b_ q,b_ (j_ p),b_ (fun h=>by have:=h_ z; omega),b_ (fun h=>h.elim (fun h=>by omega) (Ez W (by omega)))]);have I:k=down (fun i=>decide (id<t i 0)) tn:=Fx.qw hk (fun i a b=>f_ (J i a b)) (.inr (fun j e=>by have x:j=_:=Nat.succ.inj (e.symm.trans H); subst x; exact g_ u));exact⟨pW c.symm,b20,.inr ⟨c,l,o,uQ,by rw[<- I]; exact sH,fun e=>ahB (C_ e).symm⟩⟩
  refine Lv aF (mD V)<|av aF<|bF<|bF<|bF<|bF<|bF<|bF<|bF<|bF<|bF<|bF<|bF<|av aF<|aD<|aK<|Wx<|cB<|gW<|bZ<|sN<|ay<|aW O<|av (pt tb)<|av (pt tb)<|Lv (bO l (tn+1) o) (aL S.aH 0)<|aW C<|aW h6<|aW h7<|av (.agg (aA 2 (bC (bC (rv .u64 (fun _=>0)) 0 1 (fun _=>aC id)) 1 1 (fun _=>aC par))))<|Lv (pf l (2*k)) (dh 2)<|Ao mP (2*k) (h1:=(fun j Z=>by rcases j with _|_|j <;> first|rfl|omega)) fun w19 qD Ie z10 => ?_
  have sI:=S.bW Ie (by omega);have ND:=b17.then Ie ado;have uR:Fx.Own w19 B 153 2 (bO l (tn+1) o) (tn+1) (rv .u64 (lU (qg t k id par))):=qD.congr (uz (by omega));refine aD<|ay<|av (au 0)<|aD<|Wr<|aJ (au 0) ?_;have c:jQ t tn id par=0:=by unfold jQ; rw[b_ q,b_ (j_ p),b_ (fun h=>by have:=h_ z; omega),b_ (fun h=>h.elim (fun h=>by omega) (Ez W (by omega)))]
  have I:k=down (fun i=>decide (id<t i 0)) tn:=Fx.qw hk (fun i a b=>f_ (J i a b)) (.inl (by omega));exact⟨pW c.symm,ND,.inr ⟨c,l,o,sI,by rw[<- I]; exact uR,fun e=>ahB (C_ e).symm⟩⟩
 rw[T_]at z;refine dU (Pp tb ta tn tc t par _ (uK E L Q)) aF (by rw[z]) ?_;intro XY hb6;have M8:=Sb hb6;have⟨sJ,uS⟩:=fC hb6 E L;have M6:=F.then M8 (.inr F.size);refine av aG<|av aG<|aD<|aM<|ay<|av (au 9)<|aD<|Wr<|sR<|aJ (au 9) ?_;have c:jQ t tn id par=9:=by unfold jQ; rw[b_ q,b_ (j_ p),d_ ⟨G,by have:=j_ z; omega⟩]
 exact⟨pW c.symm,M6,.inl ⟨by rw[c]; decide,sJ,uS⟩⟩
namespace Rt
def jF(o a:Int):Int:=if 1<=o/\o<=6/\1<=a/\a<1099511627776 then 1099511627776*o+a else 0
end Rt
theorem amO(o a:Int)(w:World) :
 Calls Tryz.prog 156 #[au o,aC a] w fun e w'=>e = .returned (aC (jF o a))/\w'=w:=by
 refine Kent Tryz.func156 24 ?_;refine ay<|av (aC 0)<|aD<|Ws<|ay<|av (au o) ?_;by_cases f:o<1
 ·refine Lv aG (gY f)<|av aG<|bF<|bF<|av aG<|av aG<|bF<|bF<|av aG<|av aG<|bF<|bF<|av aG<|aD<|aM<|ay<|av (aC 0)<|aD<|Wr<|sR<|aJ (aC 0) ?_;exact⟨L_ (fun q=>Ending.returned (Value.int .u64 q)) (Eq.symm (by unfold jF; rw[b_ (by omega)])),rfl⟩
 refine Lv aF (gZ f)<|av aF<|av (au o) ?_;by_cases g:6<o
 ·refine Lv aG (mo g)<|av aG<|av aG<|bF<|bF<|av aG<|av aG<|bF<|bF<|av aG<|aD<|aM<|ay<|av (aC 0)<|aD<|Wr<|sR<|aJ (aC 0) ?_;exact⟨L_ (fun q=>Ending.returned (Value.int .u64 q)) (Eq.symm (by unfold jF; rw[b_ (by omega)])),rfl⟩
 refine Lv aF (mD g)<|av aF<|av aF<|av (aC a) ?_;by_cases c:a<1
 ·refine Lv aG (gY c)<|av aG<|av aG<|bF<|bF<|av aG<|aD<|aM<|ay<|av (aC 0)<|aD<|Wr<|sR<|aJ (aC 0) ?_;exact⟨L_ (fun q=>Ending.returned (Value.int .u64 q)) (Eq.symm (by unfold jF; rw[b_ (by omega)])),rfl⟩
 refine Lv aF (gZ c)<|av aF<|av aF<|av (aC a) ?_;by_cases d:1099511627776<=a
 ·refine Lv aG (lH d)<|av aG<|aD<|aM<|ay<|av (aC 0)<|aD<|Wr<|sR<|aJ (aC 0) ?_;exact⟨L_ (fun q=>Ending.returned (Value.int .u64 q)) (Eq.symm (by unfold jF; rw[b_ (by omega)])),rfl⟩
 refine Lv aF (kR d)<|av aF<|aD<|aK<|Wk<|sN<|ay<|av (au o)<|Lv (aC o) (dD rfl rfl (by kernel_rfl) Tryz.underlying23 (jU (by omega) rfl))<|Lv (aC (1099511627776*o)) (Fx.KM (b:=40) rfl rfl rfl (by decide) (jU (by omega) (by omega)))<|av (aC a)<|Lv (aC (1099511627776*o+a)) fH<|av (aC (1099511627776*o+a))<|aD<|Wr<|aJ (aC (1099511627776*o+a)) ?_;exact⟨L_ (fun q=>Ending.returned (Value.int .u64 q)) (Eq.symm (by unfold jF; rw[d_ (by omega)])),rfl⟩
theorem abh(a:Option Addr)(n cap:Nat)(w:World) :
 Calls Tryz.prog 9 #[.slice a (n) (cap)] w fun e w'=>e = .returned (.bool (decide ((n:Int)<=60)))/\w'=w:=by
 refine Kent Tryz.func9 6 ?_;refine ay<|av aF<|aD<|ay<|av (.slice a (n) (cap))<|av (au n) ?_;by_cases b:(n:Int)<=60
 ·refine Lv aG (nN b)<|av aG<|aD<|Wr<|aJ aG ?_;exact⟨iI (Eq.symm (f_ b)),rfl⟩
 refine Lv aF (oh b)<|av aF<|aD<|Wr<|aJ aF ?_;exact⟨iI (Eq.symm (g_ b)),rfl⟩
section
theorem app0{s:Nat}{x y:Nat->Value}(j:Nat):iM x (0*s) y j=y j:=by unfold iM; rw[Nat.zero_mul,b_ (z_ _)]; rfl
theorem vN(id par:Int)(R:Nat->Int)(j:Nat):(mZ id par R j).oneCell'=true:=by unfold mZ; split <;> (try split) <;> rfl
theorem NJ(id par:Int)(R:Nat->Int){q p:Nat}(h:q=p+2):mZ id par R q=au (R p):=by subst h; unfold mZ; rw[b_ (by omega),b_ (by omega),Nat.add_sub_cancel]
theorem qz(x:Nat->Int)(j:Nat):(jf x j).oneCell'=true:=by unfold jf; split <;> (try split) <;> rfl
theorem YJ(m:kV)(j:Nat):(Kw m j).oneCell'=true:=vN _ _ _ _
theorem YK(m:kV)(j:Nat):(JI m j).oneCell'=true:=qz _ _
theorem YL(m:Ef)(j:Nat):(lS m j).oneCell'=true:=by unfold lS; repeat (first|rfl|split)
def uq(m:kV)(i:Nat):Value := .slice (m.ra i) (m.rn i) (m.rc i)
def xq(w:World)(B k:Nat)(m:kV):Prop :=
 (∀ i,i<k->Fx.Own w B 23 1 (uq m i) (m.rn i) (rv .u64 (m.rq i))) /\ ∀ i j,i<k->j<k->i≠j -> ∀ g,(uq m i).ownBlock=some g->(uq m j).ownBlock≠some g
section
variable {w w':World} {B k:Nat} {m:kV}
theorem xq.up(h:xq w B k m)(a:Below w.heap.size w w'):xq w' B k m:=⟨fun i b=>(h.1 i b).up a,h.2⟩
instance:Rt.Tr w w' (xq w B k m) (xq w' B k m):=⟨fun b h=>h.up b⟩
theorem xq.lu{a:List TypeId}(h:xq w B k m)(c:jm a w w')(d:a.contains 23=false):xq w' B k m:=⟨fun i b=>(h.1 i b).lu c d,h.2⟩
instance {a:List TypeId}:Rt.Tc a w w' (xq w B k m) (xq w' B k m) (!(a.contains 23)):=⟨fun b h e=>h.lu b (by simpa using e)⟩
theorem xq.zero(w:World)(B:Nat)(m:kV):xq w B 0 m:=⟨fun _ h=>M_ h (z_ _),fun _ _ h=>M_ h (z_ _)⟩
theorem xq.fresh(h:xq w B k m){v:Value}(c:v = .slice none 0 0\/v.ownBlock=(Value.slice none 0 0).ownBlock\/v.ownBlock=some w.heap.size) : ∀ i,i<k -> ∀ g,(uq m i).ownBlock=some g->v.ownBlock≠some g:=fun i b g a e=>by
 have d:=((h.1 i b).ge a).2
 rcases c with rfl|e2|e2
 ·cases e
 ·rw[e]at e2; cases e2
 ·rw[e]at e2; have:=C_ e2; omega
theorem xq.snoc{a:kV}(h:xq w B k m)(c : ∀ i,i<k->uq a i=uq m i/\a.rn i=m.rn i/\a.rq i=m.rq i)(s:Fx.Own w B 23 1 (uq a k) (a.rn k) (rv .u64 (a.rq k)))(l : ∀ i,i<k -> ∀ g,(uq m i).ownBlock=some g->(uq a k).ownBlock≠some g):xq w B (k+1) a:=by
 refine⟨fun i t => ?_,fun i j t u n g b => ?_⟩
 ·by_cases e:i=k
  ·subst e; exact s
  obtain⟨p,q,r⟩:=c i (by omega);rw[p,q,r]; exact h.1 i (by omega)
 by_cases o:i=k
 ·subst o;by_cases d:j=i
  ·exact M_ d.symm n
  intro f;rw[(c j (by omega)).1]at f;exact l j (by omega) g f b
 rw[(c i (by omega)).1]at b;by_cases d:j=k
 ·subst d; exact l i (by omega) g b
 rw[(c j (by omega)).1]; exact h.2 i j (by omega) (by omega) n g b
end
structure rX(w:World)(B p:Nat)(m:kV):Prop where
 c:aP w p 27 (kN m) 56
 n:Fx.Own w B 84 56 (.slice m.s.na m.s.nn m.s.nc) m.s.nn (Kw m)
 g:Fx.Own w B 106 5 (.slice m.s.ga m.s.gn m.s.gc) m.s.gn (JI m)
 tc:aP w m.tb 1 (fun _ => .slice m.ta m.tn m.tc) 156
 t:Fx.Own w B 153 2 (.slice m.ta m.tn m.tc) m.tn (QZ m.t)
 r:xq w B 6 m
 pB:B<=p
 tB:B<=m.tb
 bn:m.s.nn<=1000
 bg:m.s.gn<=1000000
 bt:m.tn<=1000
 br : ∀ i,i<6->m.rn i<=1000000
section
variable {w w':World} {B p:Nat} {m:kV}
theorem rX.XZ(h:rX w B p m):Cx w p m where
 c:=h.c.aH
 an:=h.n.arr
 ag:=h.g.arr
 tc:=h.tc.aH
 at2:=h.t.arr
 ar:=fun i a=>(h.r.1 i a).arr
 bn:=by have:=h.bn; omega
 bg:=h.bg
 bt:=by have:=h.bt; omega
 br:=h.br
theorem rX.up(h:rX w B p m)(a:Below w.heap.size w w'):rX w' B p m := { h with c:=h.c.bW (Sb a) (u_ h.c.lt),n:=h.n.up a,g:=h.g.up a,tc:=h.tc.bW (Sb a) (u_ h.tc.lt),t:=h.t.up a,r:=h.r.up a }
instance:Rt.Tr w w' (rX w B p m) (rX w' B p m):=⟨fun b h=>h.up b⟩
def Lp:List Nat := [56,84,106,156,153,23]
theorem rX.lu{e:List TypeId}(h:rX w B p m)(b:jm e w w')(i:(Lp.all fun T => !e.contains T)=true):rX w' B p m:=by
 have a : ∀ d∈Lp,e.contains d=false:=fun d f=>by
  have:=List.all_eq_true.1 i d f
  simpa using this
 exact { h with
  c:=h.c.lu b (a _ (by decide)),n:=h.n.lu b (a _ (by decide)),g:=h.g.lu b (a _ (by decide)),tc:=h.tc.lu b (a _ (by decide)),t:=h.t.lu b (a _ (by decide)),r:=h.r.lu b (a _ (by decide)) }
instance {a:List TypeId}:Rt.Tc a w w' (rX w B p m) (rX w' B p m) (Lp.all fun T => !a.contains T):=⟨fun b h e=>h.lu b (by simpa using e)⟩
theorem rX.mono{b:Nat}(h:rX w B p m)(a:b<=B):rX w b p m := { h with n:=h.n.mono a,g:=h.g.mono a,t:=h.t.mono a,r:=⟨fun i c=>(h.r.1 i c).mono a,h.r.2⟩,pB:=m_ a h.pB,tB:=m_ a h.tB }
end
def Lr(m:kV)(na:Option Addr)(nc:Nat)(ga:Option Addr)(gc tb:Nat)(ta:Option Addr)(tc:Nat)(ra:Nat->Option Addr)(rc:Nat->Nat)(k:Nat):kV :=
 { m with s := { m.s with na:=na,nc:=nc,ga:=ga,gc:=gc },tb:=tb,ta:=ta,tc:=tc,ra:=fun i=>if i<k then ra i else none,rn:=fun i=>if i<k then m.rn i else 0,rc:=fun i=>if i<k then rc i else 0 }
def aI{a:Type}(f:Nat->a)(k:Nat)(v:a):Nat->a:=fun i=>if i=k then v else f i
section
variable {m:kV} {na:Option Addr} {nc:Nat} {ga:Option Addr} {gc tb:Nat} {ta:Option Addr} {tc:Nat} {ra:Nat->Option Addr} {rc:Nat->Nat} {k:Nat}
theorem YM{q:Nat}(h:q=k+21):kN (Lr m na nc ga gc tb ta tc ra rc k) q = .slice none 0 0:=by
 subst h;rw[xk (p:=k) _ rfl];show Value.slice (if k<k then ra k else none) (if k<k then m.rn k else 0) (if k<k then rc k else 0)=_;rw[b_ (Nat.lt_irrefl _),b_ (Nat.lt_irrefl _),b_ (Nat.lt_irrefl _)]
theorem zA{i:Nat}(h:i<k):uq (Lr m na nc ga gc tb ta tc ra rc k) i = .slice (ra i) (m.rn i) (rc i):=by
 show Value.slice (if i<k then ra i else none) (if i<k then m.rn i else 0) (if i<k then rc i else 0)=_;rw[d_ h,d_ h,d_ h]
theorem UR{a:Option Addr}{c q:Nat}(f:q=k+21):dF (kN (Lr m na nc ga gc tb ta tc ra rc k)) q (.slice a (m.rn k) c)=kN (Lr m na nc ga gc tb ta tc (aI ra k a) (aI rc k c) (k+1)):=by
 subst f
 funext p
 unfold dF;by_cases e:p=k+21
 ·subst e; rw[d_ rfl];rw[xk (p:=k) _ rfl];show _=Value.slice (if k<k+1 then aI ra k a k else none) (if k<k+1 then m.rn k else 0) (if k<k+1 then aI rc k c k else 0);simp[aI]
 rw[b_ e];unfold kN;by_cases h:p<20
 ·rw[d_ h,d_ h]; rfl
 rw[b_ h,b_ h];by_cases b:p=20
 ·rw[d_ b,d_ b]; rfl
 rw[b_ b,b_ b];show Value.slice (if p-21<k then ra (p-21)else none) (if p-21<k then m.rn (p-21)else 0) (if p-21<k then rc (p-21)else 0)=Value.slice (if p-21<k+1 then aI ra k a (p-21)else none) (if p-21<k+1 then m.rn (p-21)else 0) (if p-21<k+1 then aI rc k c (p-21)else 0);by_cases d:p-21<k
 ·simp[aI,d,show p-21<k+1 by omega,show ¬ p-21=k by omega]
 simp[d,show ¬ p-21<k+1 by omega]
theorem YN{w:World}{B:Nat}{a:Option Addr}{c:Nat}(h:xq w B k (Lr m na nc ga gc tb ta tc ra rc k))(e:Fx.Own w B 23 1 (.slice a (m.rn k) c) (m.rn k) (rv .u64 (m.rq k)))
 (f : ∀ i,i<k -> ∀ g,(uq (Lr m na nc ga gc tb ta tc ra rc k) i).ownBlock=some g->(Value.slice a (m.rn k) c).ownBlock≠some g):xq w B (k+1) (Lr m na nc ga gc tb ta tc (aI ra k a) (aI rc k c) (k+1)):=by
 have b:uq (Lr m na nc ga gc tb ta tc (aI ra k a) (aI rc k c) (k+1)) k = .slice a (m.rn k) c:=by
  rw[zA (by omega)]; unfold aI; rw[d_ rfl,d_ rfl]
 refine h.snoc (fun i d=>⟨?_,?_,rfl⟩) ?_ ?_
 ·rw[zA (by omega),zA d]; unfold aI; rw[b_ (by omega),b_ (by omega)]
 ·show(if i<k+1 then m.rn i else 0)=(if i<k then m.rn i else 0);rw[d_ (by omega),d_ d]
 ·rw[b];show Fx.Own w B 23 1 _ (if k<k+1 then m.rn k else 0) _;rw[d_ (by omega)]; exact e
 rw[b]; exact f
end
def atM(m:kV)(na:Option Addr)(nc:Nat)(ga:Option Addr)(gc tb:Nat)(ta:Option Addr)(tc:Nat)(ra:Nat->Option Addr)(rc:Nat->Nat):kV :=
 { m with s := { m.s with na:=na,nc:=nc,ga:=ga,gc:=gc },tb:=tb,ta:=ta,tc:=tc,ra:=ra,rc:=rc }
section
variable {m:kV} {na:Option Addr} {nc:Nat} {ga:Option Addr} {gc tb:Nat} {ta:Option Addr} {tc:Nat} {ra:Nat->Option Addr} {rc:Nat->Nat}
theorem ahC : ∀ j,j<27->kN (Lr m na nc ga gc tb ta tc ra rc 6) j=kN (atM m na nc ga gc tb ta tc ra rc) j:=fun j b=>by
 unfold kN;by_cases h:j<20
 ·rw[d_ h,d_ h]; rfl
 ·rw[b_ h,b_ h];by_cases a:j=20
  ·rw[d_ a,d_ a]; rfl
  ·rw[b_ a,b_ a];show Value.slice (if j-21<6 then ra (j-21)else none) (if j-21<6 then m.rn (j-21)else 0) (if j-21<6 then rc (j-21)else 0)=Value.slice (ra (j-21)) (m.rn (j-21)) (rc (j-21));rw[d_ (by omega),d_ (by omega),d_ (by omega)]
theorem YO{w:World}{B:Nat}(h:xq w B 6 (Lr m na nc ga gc tb ta tc ra rc 6)):xq w B 6 (atM m na nc ga gc tb ta tc ra rc):=by
 refine⟨fun i a => ?_,fun i j a b d g c => ?_⟩
 ·have:=h.1 i a;rw[zA a]at this;have e:(Lr m na nc ga gc tb ta tc ra rc 6).rn i=m.rn i:=by show(if i<6 then m.rn i else 0)=_; rw[d_ a]
  rw[e]at this;exact this
 have:=h.2 i j a b d g;rw[zA a,zA b]at this;exact this c
end
end
end Go.Proofs.YtcbedgfikejkoaaGreatDoor
