/-
  What the proof of the law rests on, part 3: walks of functions, and plain laws; each says its conditions itself.
-/
import Derived.Test.YtahbiajdgealnaaDoorRows
import Derived.BigRegion
import Derived.Deep.DeepCutAuto
import Derived.Test.YtahbiajdgealnaaDoorZA2
namespace Go.Proofs.YtahbiajdgealnaaDoor
open Go.RowKit
open Rt
set_option maxRecDepth 10000
theorem Qm(a b:Nat)(B g n cap:Nat)(d:Array Int)(w:World)(h:Fx.Own w B 22 1 (.slice (some ⟨g,0,none⟩) n cap) n (Fx.rv .u64 (gA d)))(hB:B<=w.heap.size)(hn:d.size=n)(hs:n<=1000)(ha:a<b)(hb:b<=n)(h50:n<50) :
 Calls Tryd.prog 115 #[.slice (some ⟨g,0,none⟩) (n) (cap),.int .i64 ((a:Int)),.int .i64 ((b:Int))] w fun e w' => ∃ r:Bool,e = .returned (.bool r)/\(r=true->Sort.SortedIn Sort.ltInt a b d)/\Fx.Own w' B 22 1 (.slice (some ⟨g,0,none⟩) n cap) n (Fx.rv .u64 (gA d))/\Below B w w':=by
 refine Fx.enter Tryd.func115 rfl (n:=133) rfl (by rfl) ?_
 refine Fx.Ws (Fx.Wl (Fx.Lv (.bool false) (Fx.aj rfl rfl) (Fx.Ln (Fx.sN (Fx.Ws (Fx.Wl (Fx.Lv (.int .i64 ((a:Int))) (Fx.ah rfl rfl) (Fx.Lv (.int .i64 ((a:Int)+1)) (Fx.aS rfl rfl rfl Fx.io) (Fx.Lv (.int .i64 ((a:Int)+1)) (Fx.aj rfl rfl) (Fx.Ln (Fx.sN (Fx.Ws (Fx.Ws (Fx.Wl (Fx.Lv (.int .i64 (0)) (Fx.aj rfl rfl) (Fx.Ln (Fx.sN (Fx.W.block (Fx.W.loop (fun f w_=>f 0 = .slice (some ⟨g,0,none⟩) (n) (cap)/\f 1 = .int .i64 ((a:Int))/\f 2 = .int .i64 ((b:Int))/\f 7 = .int .i64 ((a:Int)+1)/\f 8 = .int .i64 (0)/\Fx.Own w_ B 22 1 (.slice (some ⟨g,0,none⟩) n cap) n (Fx.rv .u64 (gA d))/\Below B w w_) (fun f _=>(5-intOf (f 8)).toNat) ⟨(by rfl),Fx.ic,Fx.ic,Fx.ic,Fx.ic,h,(Below.refl B w)⟩ ?_)))))))))))))))))))
 rintro f1 w1 ⟨h1,h2,h3,h4,h5,m1,b1⟩
 refine Fx.Ws (Fx.Ws (Fx.Wl (Fx.Lv (.int .i64 (0)) (Fx.ah rfl h5) (Fx.Lv (.bool true) (Fx.eG rfl rfl rfl (by omega)) (Fx.Ln (Fx.sN (Fx.Wc (b:=true) rfl (fun _=>Fx.Wk (Fx.sN (Fx.Ws (Fx.W.block (Fx.Ws (Fx.W.block (Fx.W.loop (fun f w_ => ∃ i:Nat,Sort.SortedIn Sort.ltInt a i d/\(a<i/\i<=b)/\f 0 = .slice (some ⟨g,0,none⟩) (n) (cap)/\f 1 = .int .i64 ((a:Int))/\f 2 = .int .i64 ((b:Int))/\f 7 = .int .i64 ((i:Int))/\f 8 = .int .i64 (0)/\Fx.Own w_ B 22 1 (.slice (some ⟨g,0,none⟩) n cap) n (Fx.rv .u64 (gA d))/\Below B w w_) (fun f _=>((b:Int)-intOf (f 7)).toNat) ⟨a+1,(D7 _ _),(by omega),h1,(h2.trans Fx.ic),(h3.trans Fx.ic),(h4.trans Fx.ic),(h5.trans Fx.ic),m1,b1⟩ ?_))))))) (fun h=>nomatch h))))))))
 rintro f2 w2 ⟨i,hS,hi,h6,h7,h8,h9,h10,m2,b2⟩
 refine Fx.Ws (Fx.Ws ?_)
 -- region 5 draws
 refine Fx.W.quiet (fun v1=>Below w2.heap.size w2 v1) (by kernel_rfl) (by kernel_rfl) (Below.refl _ _).drew ?_
 refine Fx.Qv (.int .i64 ((i:Int))) (fun v1 hv1=>Fx.ah rfl h9) (Fx.Qv (.int .i64 ((b:Int))) (fun v1 hv1=>Fx.ah rfl h8) ?_)
 by_cases c19:(i:Int)<(b:Int)
 ·refine Fx.Qv (.bool true) (fun v1 hv1=>Fx.eG rfl rfl rfl c19) (Fx.Qv (.bool true) (fun v1 hv1=>Fx.ah rfl rfl) (Fx.Qv (.slice (some ⟨g,0,none⟩) (n) (cap)) (fun v1 hv1=>Fx.ah rfl h6) (Fx.Qv (.int .i64 ((i:Int))) (fun v1 hv1=>Fx.ah rfl h9) (Fx.Qv ((pf g i)) (fun v1 hv1=>Fx.av rfl rfl rfl Tryd.underlying53 (s:=1) (by kernel_rfl) (by omega) (by omega) (by omega)) (Fx.Qv (.int .u64 ((gA d) i)) (fun v1 hv1=>Fx.ak (x:=Fx.rv .u64 (gA d)) rfl rfl (by kernel_rfl) (m2.aL.below hv1 (by have:=m2.lt; omega)) (i:=i) (by omega) (by omega) rfl) (Fx.Qv (.slice (some ⟨g,0,none⟩) (n) (cap)) (fun v1 hv1=>Fx.ah rfl h6) (Fx.Qv (.int .i64 ((i:Int))) (fun v1 hv1=>Fx.ah rfl h9) (Fx.Qv (.int .i64 ((i:Int)-1)) (fun v1 hv1=>Fx.bD rfl rfl rfl Fx.io) (Fx.Qv ((pf g (i-1))) (fun v1 hv1=>Fx.av rfl rfl rfl Tryd.underlying53 (s:=1) (by kernel_rfl) (by omega) (by omega) (by omega)) (Fx.Qv (.int .u64 ((gA d) (i-1))) (fun v1 hv1=>Fx.ak (x:=Fx.rv .u64 (gA d)) rfl rfl (by kernel_rfl) (m2.aL.below hv1 (by have:=m2.lt; omega)) (i:=i-1) (by omega) (by omega) rfl) ?_))))))))))
  by_cases BX:(decide ((gA d) i<(gA d) (i-1)))=true
  ·refine Fx.Qt.call (v := .bool true) (by rfl) (fun v1 hv1=>Fx.rC (args := [.int .u64 ((gA d) i),.int .u64 ((gA d) (i-1))]) rfl rfl Tryd.func116 rfl rfl) rfl (fun v1 hv1=>(bU ((gA d) i) ((gA d) (i-1)) _).mono fun e v2 h=>⟨by rw[h.1,BX],by rw[h.2]; exact hv1⟩) ?_
   refine Fx.Qv (.bool false) (fun v1 hv1=>Fx.dZ rfl rfl) (Fx.Qv (.bool false) (fun v1 hv1=>Fx.aA rfl rfl rfl) (Fx.Qt.nil ?_))
   intro sG iN
   have s1:Fx.Stp w2.heap.size w2 sG:=Fx.Sb iN
   have m3:=m2.bO s1 (Nat.ne_of_lt (m2.lt))
   have b3:=s1.below b2 (Nat.le_trans hB b2.size) (Nat.le_trans hB b2.size)
   refine Fx.sN (Fx.Wc (b:=false) rfl (fun h=>nomatch h) (fun _=>Fx.W.exit (Fx.dQ (Fx.jC (Fx.dR (Fx.sN (Fx.Ws (Fx.Ws (Fx.Wl (Fx.Lv (.int .i64 ((i:Int))) (Fx.ah rfl h9) (Fx.Lv (.int .i64 ((b:Int))) (Fx.ah rfl h8) ?_)))))))))))
   by_cases c37:(i:Int)=(b:Int)
   ·refine Fx.Lv (.bool true) (Fx.bG rfl rfl rfl c37) (Fx.Ln (Fx.sN (Fx.Wc (b:=true) rfl (fun _=>Fx.Ws (Fx.Wl (Fx.Lv (.bool true) (Fx.aj rfl rfl) ?_))) (fun h=>nomatch h))))
    refine Fx.Ln (Fx.sN (Fx.Wr (Fx.sR (Fx.dH (Fx.sR (Fx.DT (Fx.dH (Fx.sR (⟨.bool true,Fx.rV Tryd.results115 (by exact rfl),?_⟩)))))))))
    exact⟨true,rfl,(fun _=>by rw[show b=i by omega]; exact hS),m3,b3⟩
   refine Fx.Lv (.bool false) (Fx.dn rfl rfl rfl c37) (Fx.Ln (Fx.sN (Fx.Wc (b:=false) rfl (fun h=>nomatch h) (fun _=>Fx.Wk (Fx.sN (Fx.Ws (Fx.Ws (Fx.Wl (Fx.Lv (.int .i64 ((b:Int))) (Fx.ah rfl h8) (Fx.Lv (.int .i64 ((a:Int))) (Fx.ah rfl h7) (Fx.Lv (.int .i64 ((b:Int)-(a:Int))) (Fx.bD rfl rfl rfl Fx.io) (Fx.Lv (.bool true) (Fx.eG rfl rfl rfl (by omega)) (Fx.Ln (Fx.sN (Fx.Wc (b:=true) rfl (fun _=>Fx.Ws (Fx.Wl (Fx.Lv (.bool false) (Fx.aj rfl rfl) ?_))) (fun h=>nomatch h))))))))))))))))
   refine Fx.Ln (Fx.sN (Fx.Wr (Fx.sR (Fx.dH (Fx.sR (Fx.DT (Fx.dH (Fx.sR (⟨.bool false,Fx.rV Tryd.results115 (by exact rfl),?_⟩)))))))))
   exact⟨false,rfl,(fun h=>nomatch h),m3,b3⟩
  rw[Bool.not_eq_true]at BX
  refine Fx.Qt.call (v := .bool false) (by rfl) (fun v1 hv1=>Fx.rC (args := [.int .u64 ((gA d) i),.int .u64 ((gA d) (i-1))]) rfl rfl Tryd.func116 rfl rfl) rfl (fun v1 hv1=>(bU ((gA d) i) ((gA d) (i-1)) _).mono fun e v2 h=>⟨by rw[h.1,BX],by rw[h.2]; exact hv1⟩) ?_
  refine Fx.Qv (.bool true) (fun v1 hv1=>Fx.eH rfl rfl) (Fx.Qv (.bool true) (fun v1 hv1=>Fx.aA rfl rfl rfl) (Fx.Qt.nil ?_))
  intro yI ji
  have s2:Fx.Stp w2.heap.size w2 yI:=Fx.Sb ji
  have m4:=m2.bO s2 (Nat.ne_of_lt (m2.lt))
  have b4:=s2.below b2 (Nat.le_trans hB b2.size) (Nat.le_trans hB b2.size)
  refine Fx.sN (Fx.Wc (b:=true) rfl (fun _=>Fx.Wk (Fx.sN (Fx.W.block (Fx.Wl (Fx.Lv (.int .i64 ((i:Int))) (Fx.ah rfl h9) ?_))))) (fun h=>nomatch h))
  refine Fx.Lv (.int .i64 ((i:Int)+1)) (Fx.aS rfl rfl rfl Fx.io) (Fx.Lv (.int .i64 ((i:Int)+1)) (Fx.aj rfl rfl) (Fx.Ln (Fx.dV (Fx.kg ⟨i+1,(Sort.SortedIn.snoc Sort.swo_ltInt hS (om (of_decide_eq_false BX))),(by omega),h6,(h7.trans Fx.ic),(h8.trans Fx.ic),Fx.ic,(h10.trans Fx.ic),m4,b4⟩ ?_))))
  show((b:Int)-intOf ((.int .i64 ((i:Int)+1)))).toNat<_
  simp only[h9,intOf]; omega
 refine Fx.Qv (.bool false) (fun v1 hv1=>Fx.dX rfl rfl rfl c19) (Fx.Qv (.bool false) (fun v1 hv1=>Fx.ah rfl rfl) (Fx.Qs (by rfl) rfl (Fx.Qs (by rfl) rfl (Fx.Qs (by rfl) rfl (Fx.Qs (by rfl) rfl (Fx.Qs (by rfl) rfl (Fx.Qs (by rfl) rfl (Fx.Qs (by rfl) rfl (Fx.Qs (by rfl) rfl (Fx.Qs (by rfl) rfl (Fx.Qs (by rfl) rfl (Fx.Qs (by rfl) rfl (Fx.Qv (.bool false) (fun v1 hv1=>Fx.aJ rfl rfl rfl) (Fx.Qt.nil ?_))))))))))))))
 intro yJ jV
 have s3:Fx.Stp w2.heap.size w2 yJ:=Fx.Sb jV
 have m5:=m2.bO s3 (Nat.ne_of_lt (m2.lt))
 have b5:=s3.below b2 (Nat.le_trans hB b2.size) (Nat.le_trans hB b2.size)
 refine Fx.sN (Fx.Wc (b:=false) rfl (fun h=>nomatch h) (fun _=>Fx.W.exit (Fx.dQ (Fx.jC (Fx.dR (Fx.sN (Fx.Ws (Fx.Ws (Fx.Wl (Fx.Lv (.int .i64 ((i:Int))) (Fx.ah rfl h9) (Fx.Lv (.int .i64 ((b:Int))) (Fx.ah rfl h8) ?_)))))))))))
 by_cases c37:(i:Int)=(b:Int)
 ·refine Fx.Lv (.bool true) (Fx.bG rfl rfl rfl c37) (Fx.Ln (Fx.sN (Fx.Wc (b:=true) rfl (fun _=>Fx.Ws (Fx.Wl (Fx.Lv (.bool true) (Fx.aj rfl rfl) ?_))) (fun h=>nomatch h))))
  refine Fx.Ln (Fx.sN (Fx.Wr (Fx.sR (Fx.dH (Fx.sR (Fx.DT (Fx.dH (Fx.sR (⟨.bool true,Fx.rV Tryd.results115 (by exact rfl),?_⟩)))))))))
  exact⟨true,rfl,(fun _=>by rw[show b=i by omega]; exact hS),m5,b5⟩
 refine Fx.Lv (.bool false) (Fx.dn rfl rfl rfl c37) (Fx.Ln (Fx.sN (Fx.Wc (b:=false) rfl (fun h=>nomatch h) (fun _=>Fx.Wk (Fx.sN (Fx.Ws (Fx.Ws (Fx.Wl (Fx.Lv (.int .i64 ((b:Int))) (Fx.ah rfl h8) (Fx.Lv (.int .i64 ((a:Int))) (Fx.ah rfl h7) (Fx.Lv (.int .i64 ((b:Int)-(a:Int))) (Fx.bD rfl rfl rfl Fx.io) (Fx.Lv (.bool true) (Fx.eG rfl rfl rfl (by omega)) (Fx.Ln (Fx.sN (Fx.Wc (b:=true) rfl (fun _=>Fx.Ws (Fx.Wl (Fx.Lv (.bool false) (Fx.aj rfl rfl) ?_))) (fun h=>nomatch h))))))))))))))))
 refine Fx.Ln (Fx.sN (Fx.Wr (Fx.sR (Fx.dH (Fx.sR (Fx.DT (Fx.dH (Fx.sR (⟨.bool false,Fx.rV Tryd.results115 (by exact rfl),?_⟩)))))))))
 exact⟨false,rfl,(fun h=>nomatch h),m5,b5⟩
theorem Xg(a b p:Nat)(B g n cap:Nat)(d:Array Int)(w:World)(h:Fx.Own w B 22 1 (.slice (some ⟨g,0,none⟩) n cap) n (Fx.rv .u64 (gA d)))(hB:B<=w.heap.size)(hn:d.size=n)(hs:n<=1000)(ha:a<=p)(hp:p<b)(hb:b<=n) :
 Calls Tryd.prog 117 #[.slice (some ⟨g,0,none⟩) (n) (cap),.int .i64 ((a:Int)),.int .i64 ((b:Int)),.int .i64 ((p:Int))] w fun e w' => ∃(mid:Nat) (d4:Array Int),e = .returned (.int .i64 (mid:Int))/\Sort.partitionEqual Sort.ltInt d a b p=(mid,d4)/\d4.size=n/\Fx.Own w' B 22 1 (.slice (some ⟨g,0,none⟩) n cap) n (Fx.rv .u64 (gA d4))/\Below B w w':=by
 refine Fx.enter Tryd.func117 rfl (n:=84) rfl (by rfl) ?_
 refine Fx.Ws (Fx.Wl (Fx.Lv (.int .i64 (0)) (Fx.aj rfl rfl) (Fx.Ln (Fx.sN (Fx.Ws ?_)))))
 -- region 1 draws
 refine Fx.W.bH [0,1,2,3,4,5,6,8,9,10,7,11,12,13,14,15] [0,0,0,0,0,0,0,4,0,0,0,4,0,3,0,3] Fx.Mk Fx.Mk.refl Fx.Mk.trans (aQ := [(13,7,[7]),(15,7,[7]),(13,11,[11]),(15,11,[11]),(14,13,[13]),(15,13,[13])]) (by kernel_rfl) (by kernel_rfl) (by kernel_rfl) (by kernel_rfl) (by kernel_rfl) fun jc bT fE => ?_
 have s1:Fx.Stp w.heap.size w jc:=Fx.Sb bT
 have m1:=h.bO s1 (Nat.ne_of_lt (h.lt))
 have b1:=s1.below (Below.refl B w) (Nat.le_trans hB (Below.refl B w).size) (Nat.le_trans hB (Below.refl B w).size)
 refine Fx.Rp (.slice (some ⟨g,0,none⟩) (n) (cap)) (fun v1=>Fx.ah rfl rfl) (Fx.Rp (.int .i64 ((a:Int))) (fun v1=>Fx.ah rfl rfl) (Fx.Rp (.slice (some ⟨g,0,none⟩) (n) (cap)) (fun v1=>Fx.ah rfl rfl) (Fx.Rp (.int .i64 ((p:Int))) (fun v1=>Fx.ah rfl rfl) (Fx.Rp (.slice (some ⟨g,0,none⟩) (n) (cap)) (fun v1=>Fx.ah rfl rfl) (Fx.Rp (.int .i64 ((p:Int))) (fun v1=>Fx.ah rfl rfl) (Fx.Rp ((pf g p)) (fun v1=>Fx.av rfl rfl rfl Tryd.underlying53 (s:=1) (by kernel_rfl) (by omega) (by omega) (by omega)) (Fx.Rp (.slice (some ⟨g,0,none⟩) (n) (cap)) (fun v1=>Fx.ah rfl rfl) (Fx.Rp (.int .i64 ((a:Int))) (fun v1=>Fx.ah rfl rfl) (Fx.Rp ((pf g a)) (fun v1=>Fx.av rfl rfl rfl Tryd.underlying53 (s:=1) (by kernel_rfl) (by omega) (by omega) (by omega)) (Fx.R.s (.int .u64 ((gA d) p)) (Fx.ak (x:=Fx.rv .u64 (gA d)) rfl rfl (by kernel_rfl) m1.aL (i:=p) (by omega) (by omega) rfl) ?_))))))))))
 refine Fx.R.s (.int .u64 ((gA d) a)) (Fx.ak (x:=Fx.rv .u64 (gA d)) rfl rfl (by kernel_rfl) m1.aL (i:=a) (by omega) (by omega) rfl) ?_
 refine Fx.Rp ((pf g a)) (fun v1=>Fx.av rfl rfl rfl Tryd.underlying53 (s:=1) (by kernel_rfl) (by omega) (by omega) (by omega)) (Fx.R.fP (by rfl) ?_)
 refine Fx.L.eU (x:=Fx.rv .u64 (gA d)) (u := .int .u64 ((gA d) p)) (by rfl) rfl rfl rfl rfl (by rfl) (by kernel_rfl) m1 (i:=a) (by omega) fun w1 m2 s2 z1 => ?_
 have b2:=s2.below b1 (Nat.le_trans hB b1.size) m1.blk.1
 refine Fx.Ln (Fx.Rp ((pf g p)) (fun v1=>Fx.av rfl rfl rfl Tryd.underlying53 (s:=1) (by kernel_rfl) (by omega) (by omega) (by omega)) (Fx.R.fP (by rfl) ?_))
 refine Fx.L.eU (x:=Fx.eB (Fx.rv .u64 (gA d)) a (.int .u64 ((gA d) p))) (u := .int .u64 ((gA d) a)) (by rfl) rfl rfl rfl rfl (by rfl) (by kernel_rfl) m2 (i:=p) (by omega) fun w2 m3 s3 z2 => ?_
 have b3:=s3.below b2 (Nat.le_trans hB b2.size) m2.blk.1
 have m4:Fx.Own w2 B 22 1 (.slice (some ⟨g,0,none⟩) n cap) n (Fx.rv .u64 (gA (Sort.swp d a p))):=m3.congr (eO hn (by omega) (by omega))
 refine Fx.Ln (Fx.R.nil (Fx.sN (Fx.Ws (Fx.Wl (Fx.Lv (.int .i64 ((a:Int))) (Fx.ah rfl rfl) (Fx.Lv (.int .i64 ((a:Int)+1)) (Fx.aS rfl rfl rfl Fx.io) (Fx.Lv (.int .i64 ((b:Int))) (Fx.ah rfl rfl) (Fx.Lv (.int .i64 ((b:Int)-1)) (Fx.bD rfl rfl rfl Fx.io) (Fx.Lv (.int .i64 ((a:Int)+1)) (Fx.aj rfl rfl) (Fx.Lv (.int .i64 ((b:Int)-1)) (Fx.aj rfl rfl) (Fx.Ln (Fx.sN (Fx.Ws (Fx.W.block (Fx.W.loop (fun f w_ => ∃ i:Nat,∃ j:Nat,∃ dk:Array Int,dk.size=n/\Sort.partEqLoop Sort.ltInt a i j dk=Sort.partEqLoop Sort.ltInt a (a+1) (b-1) (Sort.swp d a p)/\(a<i/\j<b/\i<=b)/\f 0 = .slice (some ⟨g,0,none⟩) (n) (cap)/\f 1 = .int .i64 ((a:Int))/\f 2 = .int .i64 ((b:Int))/\f 9 = .int .i64 ((i:Int))/\f 10 = .int .i64 ((j:Int))/\Fx.Own w_ B 22 1 (.slice (some ⟨g,0,none⟩) n cap) n (Fx.rv .u64 (gA dk))/\Below B w w_) (fun f _=>((b:Int)-intOf (f 9)).toNat) ⟨a+1,b-1,Sort.swp d a p,(dz hn _ _),rfl,(by omega),(by rfl),Fx.ic,Fx.ic,Fx.ic,Fx.ic,m4,b3⟩ ?_)))))))))))))))
 rintro f1 w3 ⟨i,j,dk,hk,hX,hij,h1,h2,h3,h4,h5,m5,b4⟩
 refine Fx.W.block (Fx.Ws (Fx.W.block (Fx.W.loop (fun f w_ => ∃ i2:Nat,Sort.partEqLoop Sort.ltInt a i2 j dk=Sort.partEqLoop Sort.ltInt a i j dk/\(i<=i2/\i2<=b)/\f 0 = .slice (some ⟨g,0,none⟩) (n) (cap)/\f 1 = .int .i64 ((a:Int))/\f 2 = .int .i64 ((b:Int))/\f 9 = .int .i64 ((i2:Int))/\f 10 = .int .i64 ((j:Int))/\Fx.Own w_ B 22 1 (.slice (some ⟨g,0,none⟩) n cap) n (Fx.rv .u64 (gA dk))/\Below B w w_) (fun f _=>((j:Int)+1-intOf (f 9)).toNat) ⟨i,rfl,(by omega),h1,(h2.trans Fx.ic),(h3.trans Fx.ic),(h4.trans Fx.ic),(h5.trans Fx.ic),m5,b4⟩ ?_)))
 rintro f2 w4 ⟨i2,hX1,hi2,h6,h7,h8,h9,h10,m6,b5⟩
 refine Fx.Ws (Fx.Ws ?_)
 -- region 3 draws
 refine Fx.W.quiet (fun v1=>Below w4.heap.size w4 v1) (by kernel_rfl) (by kernel_rfl) (Below.refl _ _).drew ?_
 refine Fx.Qv (.int .i64 ((i2:Int))) (fun v1 hv1=>Fx.ah rfl h9) (Fx.Qv (.int .i64 ((j:Int))) (fun v1 hv1=>Fx.ah rfl h10) ?_)
 by_cases c31:(i2:Int)<=(j:Int)
 ·refine Fx.Qv (.bool true) (fun v1 hv1=>Fx.gU rfl rfl rfl c31) (Fx.Qv (.bool true) (fun v1 hv1=>Fx.ah rfl rfl) (Fx.Qv (.slice (some ⟨g,0,none⟩) (n) (cap)) (fun v1 hv1=>Fx.ah rfl h6) (Fx.Qv (.int .i64 ((a:Int))) (fun v1 hv1=>Fx.ah rfl h7) (Fx.Qv ((pf g a)) (fun v1 hv1=>Fx.av rfl rfl rfl Tryd.underlying53 (s:=1) (by kernel_rfl) (by omega) (by omega) (by omega)) (Fx.Qv (.int .u64 ((gA dk) a)) (fun v1 hv1=>Fx.ak (x:=Fx.rv .u64 (gA dk)) rfl rfl (by kernel_rfl) (m6.aL.below hv1 (by have:=m6.lt; omega)) (i:=a) (by omega) (by omega) rfl) (Fx.Qv (.slice (some ⟨g,0,none⟩) (n) (cap)) (fun v1 hv1=>Fx.ah rfl h6) (Fx.Qv (.int .i64 ((i2:Int))) (fun v1 hv1=>Fx.ah rfl h9) (Fx.Qv ((pf g i2)) (fun v1 hv1=>Fx.av rfl rfl rfl Tryd.underlying53 (s:=1) (by kernel_rfl) (by omega) (by omega) (by omega)) (Fx.Qv (.int .u64 ((gA dk) i2)) (fun v1 hv1=>Fx.ak (x:=Fx.rv .u64 (gA dk)) rfl rfl (by kernel_rfl) (m6.aL.below hv1 (by have:=m6.lt; omega)) (i:=i2) (by omega) (by omega) rfl) ?_)))))))))
  by_cases Ur:(decide ((gA dk) a<(gA dk) i2))=true
  ·refine Fx.Qt.call (v := .bool true) (by rfl) (fun v1 hv1=>Fx.rC (args := [.int .u64 ((gA dk) a),.int .u64 ((gA dk) i2)]) rfl rfl Tryd.func116 rfl rfl) rfl (fun v1 hv1=>(bU ((gA dk) a) ((gA dk) i2) _).mono fun e v2 h=>⟨by rw[h.1,Ur],by rw[h.2]; exact hv1⟩) ?_
   refine Fx.Qv (.bool false) (fun v1 hv1=>Fx.dZ rfl rfl) (Fx.Qv (.bool false) (fun v1 hv1=>Fx.aA rfl rfl rfl) (Fx.Qt.nil ?_))
   intro sG iN
   have s4:Fx.Stp w4.heap.size w4 sG:=Fx.Sb iN
   have m7:=m6.bO s4 (Nat.ne_of_lt (m6.lt))
   have b6:=s4.below b5 (Nat.le_trans hB b5.size) (Nat.le_trans hB b5.size)
   refine Fx.sN (Fx.Wc (b:=false) rfl (fun h=>nomatch h) (fun _=>Fx.W.exit (Fx.dQ (Fx.jC (Fx.dR (Fx.sN (Fx.Ws (Fx.W.block (Fx.W.loop (fun f w_ => ∃ j2:Nat,Sort.partEqLoop Sort.ltInt a i2 j2 dk=Sort.partEqLoop Sort.ltInt a i2 j dk/\((j2<i2\/gA dk a<gA dk i2))/\j2<=j/\f 0 = .slice (some ⟨g,0,none⟩) (n) (cap)/\f 1 = .int .i64 ((a:Int))/\f 2 = .int .i64 ((b:Int))/\f 9 = .int .i64 ((i2:Int))/\f 10 = .int .i64 ((j2:Int))/\Fx.Own w_ B 22 1 (.slice (some ⟨g,0,none⟩) n cap) n (Fx.rv .u64 (gA dk))/\Below B w w_) (fun f _=>(intOf (f 10)).toNat) ⟨j,rfl,(.inr (of_decide_eq_true Ur)),(by omega),h6,(h7.trans Fx.ic),(h8.trans Fx.ic),(h9.trans Fx.ic),(h10.trans Fx.ic),m7,b6⟩ ?_)))))))))
   rintro f3 w5 ⟨j2,hX2,hst,hj2,h11,h12,Al,Bg,Ca,m8,b7⟩
   refine Fx.Ws (Fx.Ws ?_)
   -- region 5 draws
   refine Fx.W.quiet (fun v1=>Below w5.heap.size w5 v1) (by kernel_rfl) (by kernel_rfl) (Below.refl _ _).drew ?_
   refine Fx.Qv (.int .i64 ((i2:Int))) (fun v1 hv1=>Fx.ah rfl Bg) (Fx.Qv (.int .i64 ((j2:Int))) (fun v1 hv1=>Fx.ah rfl Ca) ?_)
   by_cases Fv:(i2:Int)<=(j2:Int)
   ·refine Fx.Qv (.bool true) (fun v1 hv1=>Fx.gU rfl rfl rfl Fv) (Fx.Qv (.bool true) (fun v1 hv1=>Fx.ah rfl rfl) (Fx.Qv (.slice (some ⟨g,0,none⟩) (n) (cap)) (fun v1 hv1=>Fx.ah rfl h11) (Fx.Qv (.int .i64 ((a:Int))) (fun v1 hv1=>Fx.ah rfl h12) (Fx.Qv ((pf g a)) (fun v1 hv1=>Fx.av rfl rfl rfl Tryd.underlying53 (s:=1) (by kernel_rfl) (by omega) (by omega) (by omega)) (Fx.Qv (.int .u64 ((gA dk) a)) (fun v1 hv1=>Fx.ak (x:=Fx.rv .u64 (gA dk)) rfl rfl (by kernel_rfl) (m8.aL.below hv1 (by have:=m8.lt; omega)) (i:=a) (by omega) (by omega) rfl) (Fx.Qv (.slice (some ⟨g,0,none⟩) (n) (cap)) (fun v1 hv1=>Fx.ah rfl h11) (Fx.Qv (.int .i64 ((j2:Int))) (fun v1 hv1=>Fx.ah rfl Ca) (Fx.Qv ((pf g j2)) (fun v1 hv1=>Fx.av rfl rfl rfl Tryd.underlying53 (s:=1) (by kernel_rfl) (by omega) (by omega) (by omega)) (Fx.Qv (.int .u64 ((gA dk) j2)) (fun v1 hv1=>Fx.ak (x:=Fx.rv .u64 (gA dk)) rfl rfl (by kernel_rfl) (m8.aL.below hv1 (by have:=m8.lt; omega)) (i:=j2) (by omega) (by omega) rfl) ?_)))))))))
    by_cases xA:(decide ((gA dk) a<(gA dk) j2))=true
    ·refine Fx.Qt.call (v := .bool true) (by rfl) (fun v1 hv1=>Fx.rC (args := [.int .u64 ((gA dk) a),.int .u64 ((gA dk) j2)]) rfl rfl Tryd.func116 rfl rfl) rfl (fun v1 hv1=>(bU ((gA dk) a) ((gA dk) j2) _).mono fun e v2 h=>⟨by rw[h.1,xA],by rw[h.2]; exact hv1⟩) ?_
     refine Fx.Qv (.bool true) (fun v1 hv1=>Fx.aA rfl rfl rfl) (Fx.Qt.nil ?_)
     intro yI ji
     have s5:Fx.Stp w5.heap.size w5 yI:=Fx.Sb ji
     have m9:=m8.bO s5 (Nat.ne_of_lt (m8.lt))
     have b8:=s5.below b7 (Nat.le_trans hB b7.size) (Nat.le_trans hB b7.size)
     refine Fx.sN (Fx.Wc (b:=true) rfl (fun _=>Fx.Wk (Fx.sN (Fx.W.block (Fx.Wl (Fx.Lv (.int .i64 ((j2:Int))) (Fx.ah rfl Ca) ?_))))) (fun h=>nomatch h))
     refine Fx.Lv (.int .i64 ((j2:Int)-1)) (Fx.bD rfl rfl rfl Fx.io) (Fx.Lv (.int .i64 ((j2:Int)-1)) (Fx.aj rfl rfl) (Fx.Ln (Fx.dV (Fx.kg ⟨j2-1,((OI (by omega) (by omega) (hst.resolve_left (by omega)) (of_decide_eq_true xA)).trans hX2),(hst.elim (fun h => .inl (by omega)) .inr),(by omega),h11,(h12.trans Fx.ic),(Al.trans Fx.ic),(Bg.trans Fx.ic),Fx.ic,m9,b8⟩ ?_))))
     show(intOf ((.int .i64 ((j2:Int)-1)))).toNat<_
     simp only[Ca,intOf]; omega
    rw[Bool.not_eq_true]at xA
    refine Fx.Qt.call (v := .bool false) (by rfl) (fun v1 hv1=>Fx.rC (args := [.int .u64 ((gA dk) a),.int .u64 ((gA dk) j2)]) rfl rfl Tryd.func116 rfl rfl) rfl (fun v1 hv1=>(bU ((gA dk) a) ((gA dk) j2) _).mono fun e v2 h=>⟨by rw[h.1,xA],by rw[h.2]; exact hv1⟩) ?_
    refine Fx.Qv (.bool false) (fun v1 hv1=>Fx.aA rfl rfl rfl) (Fx.Qt.nil ?_)
    intro yJ jV
    have s6:Fx.Stp w5.heap.size w5 yJ:=Fx.Sb jV
    have m10:=m8.bO s6 (Nat.ne_of_lt (m8.lt))
    have b9:=s6.below b7 (Nat.le_trans hB b7.size) (Nat.le_trans hB b7.size)
    refine Fx.sN (Fx.Wc (b:=false) rfl (fun h=>nomatch h) (fun _=>Fx.W.exit (Fx.dQ (Fx.jC (Fx.dR (Fx.sN (Fx.Ws (Fx.Ws (Fx.Wl (Fx.Lv (.int .i64 ((i2:Int))) (Fx.ah rfl Bg) (Fx.Lv (.int .i64 ((j2:Int))) (Fx.ah rfl Ca) (Fx.Lv (.bool false) (Fx.dw rfl rfl rfl (by omega)) (Fx.Ln (Fx.sN (Fx.Wc (b:=false) rfl (fun h=>nomatch h) (fun _=>Fx.Wk (Fx.sN (Fx.Ws ?_))))))))))))))))))
    -- region 8 draws
    refine Fx.W.bH [0,1,2,3,4,5,6,8,9,10,7,11,12,13,14,15] [0,0,0,0,0,0,0,4,0,0,0,4,0,3,0,3] Fx.Mk Fx.Mk.refl Fx.Mk.trans (aQ := [(13,7,[7]),(15,7,[7]),(13,11,[11]),(15,11,[11]),(14,13,[13]),(15,13,[13])]) (by kernel_rfl) (by kernel_rfl) (by kernel_rfl) (by kernel_rfl) (by kernel_rfl) fun sI fU mR => ?_
    have s7:Fx.Stp yJ.heap.size yJ sI:=Fx.Sb fU
    have m11:=m10.bO s7 (Nat.ne_of_lt (m10.lt))
    have b10:=s7.below b9 (Nat.le_trans hB b9.size) (Nat.le_trans hB b9.size)
    refine Fx.Rp (.slice (some ⟨g,0,none⟩) (n) (cap)) (fun v1=>Fx.ah rfl h11) (Fx.Rp (.int .i64 ((i2:Int))) (fun v1=>Fx.ah rfl Bg) (Fx.Rp (.slice (some ⟨g,0,none⟩) (n) (cap)) (fun v1=>Fx.ah rfl h11) (Fx.Rp (.int .i64 ((j2:Int))) (fun v1=>Fx.ah rfl Ca) (Fx.Rp (.slice (some ⟨g,0,none⟩) (n) (cap)) (fun v1=>Fx.ah rfl h11) (Fx.Rp (.int .i64 ((j2:Int))) (fun v1=>Fx.ah rfl Ca) (Fx.Rp ((pf g j2)) (fun v1=>Fx.av rfl rfl rfl Tryd.underlying53 (s:=1) (by kernel_rfl) (by omega) (by omega) (by omega)) (Fx.Rp (.slice (some ⟨g,0,none⟩) (n) (cap)) (fun v1=>Fx.ah rfl h11) (Fx.Rp (.int .i64 ((i2:Int))) (fun v1=>Fx.ah rfl Bg) (Fx.Rp ((pf g i2)) (fun v1=>Fx.av rfl rfl rfl Tryd.underlying53 (s:=1) (by kernel_rfl) (by omega) (by omega) (by omega)) (Fx.R.s (.int .u64 ((gA dk) j2)) (Fx.ak (x:=Fx.rv .u64 (gA dk)) rfl rfl (by kernel_rfl) m11.aL (i:=j2) (by omega) (by omega) rfl) ?_))))))))))
    refine Fx.R.s (.int .u64 ((gA dk) i2)) (Fx.ak (x:=Fx.rv .u64 (gA dk)) rfl rfl (by kernel_rfl) m11.aL (i:=i2) (by omega) (by omega) rfl) ?_
    refine Fx.Rp ((pf g i2)) (fun v1=>Fx.av rfl rfl rfl Tryd.underlying53 (s:=1) (by kernel_rfl) (by omega) (by omega) (by omega)) (Fx.R.fP (by rfl) ?_)
    refine Fx.L.eU (x:=Fx.rv .u64 (gA dk)) (u := .int .u64 ((gA dk) j2)) (by rfl) rfl rfl rfl rfl (by rfl) (by kernel_rfl) m11 (i:=i2) (by omega) fun w6 m12 s8 z3 => ?_
    have b11:=s8.below b10 (Nat.le_trans hB b10.size) m11.blk.1
    refine Fx.Ln (Fx.Rp ((pf g j2)) (fun v1=>Fx.av rfl rfl rfl Tryd.underlying53 (s:=1) (by kernel_rfl) (by omega) (by omega) (by omega)) (Fx.R.fP (by rfl) ?_))
    refine Fx.L.eU (x:=Fx.eB (Fx.rv .u64 (gA dk)) i2 (.int .u64 ((gA dk) j2))) (u := .int .u64 ((gA dk) i2)) (by rfl) rfl rfl rfl rfl (by rfl) (by kernel_rfl) m12 (i:=j2) (by omega) fun w7 m13 s9 z4 => ?_
    have b12:=s9.below b11 (Nat.le_trans hB b11.size) m12.blk.1
    have m14:Fx.Own w7 B 22 1 (.slice (some ⟨g,0,none⟩) n cap) n (Fx.rv .u64 (gA (Sort.swp dk i2 j2))):=m13.congr (eO hk (by omega) (by omega))
    refine Fx.Ln (Fx.R.nil (Fx.sN (Fx.Ws (Fx.Wl (Fx.Lv (.int .i64 ((i2:Int))) (Fx.ah rfl Bg) (Fx.Lv (.int .i64 ((i2:Int)+1)) (Fx.aS rfl rfl rfl Fx.io) (Fx.Lv (.int .i64 ((i2:Int)+1)) (Fx.aj rfl rfl) (Fx.Ln (Fx.sN (Fx.Wl (Fx.Lv (.int .i64 ((j2:Int))) (Fx.ah rfl Ca) (Fx.Lv (.int .i64 ((j2:Int)-1)) (Fx.bD rfl rfl rfl Fx.io) (Fx.Lv (.int .i64 ((j2:Int)-1)) (Fx.aj rfl rfl) (Fx.Ln (Fx.dV (Fx.kg ⟨i2+1,j2-1,Sort.swp dk i2 j2,(dz hk _ _),((OJ (by omega) (hst.resolve_left (by omega)) (of_decide_eq_false xA)).trans (hX2.trans (hX1.trans hX))),(by omega),h11,(h12.trans Fx.ic),(Al.trans Fx.ic),Fx.ic,Fx.ic,m14,b12⟩ ?_))))))))))))))))
    show((b:Int)-intOf ((.int .i64 ((i2:Int)+1)))).toNat<_
    simp only[h4,intOf]; omega
   refine Fx.Qv (.bool false) (fun v1 hv1=>Fx.dI rfl rfl rfl Fv) (Fx.Qv (.bool false) (fun v1 hv1=>Fx.ah rfl rfl) (Fx.Qs (by rfl) rfl (Fx.Qs (by rfl) rfl (Fx.Qs (by rfl) rfl (Fx.Qs (by rfl) rfl (Fx.Qs (by rfl) rfl (Fx.Qs (by rfl) rfl (Fx.Qs (by rfl) rfl (Fx.Qs (by rfl) rfl (Fx.Qs (by rfl) rfl (Fx.Qv (.bool false) (fun v1 hv1=>Fx.aJ rfl rfl rfl) (Fx.Qt.nil ?_))))))))))))
   intro D8 sH
   have s10:Fx.Stp w5.heap.size w5 D8:=Fx.Sb sH
   have m15:=m8.bO s10 (Nat.ne_of_lt (m8.lt))
   have b13:=s10.below b7 (Nat.le_trans hB b7.size) (Nat.le_trans hB b7.size)
   refine Fx.sN (Fx.Wc (b:=false) rfl (fun h=>nomatch h) (fun _=>Fx.W.exit (Fx.dQ (Fx.jC (Fx.dR (Fx.sN (Fx.Ws (Fx.Ws (Fx.Wl (Fx.Lv (.int .i64 ((i2:Int))) (Fx.ah rfl Bg) (Fx.Lv (.int .i64 ((j2:Int))) (Fx.ah rfl Ca) (Fx.Lv (.bool true) (Fx.iy rfl rfl rfl (by omega)) (Fx.Ln (Fx.sN (Fx.Wc (b:=true) rfl (fun _=>Fx.W.exit (Fx.dQ (Fx.DR rfl (Fx.jC (Fx.dR (Fx.sN (Fx.Ws (Fx.Wl (Fx.Lv (.int .i64 ((i2:Int))) (Fx.ah rfl Bg) ?_))))))))) (fun h=>nomatch h))))))))))))))))
   refine Fx.Lv (.int .i64 ((i2:Int))) (Fx.aj rfl rfl) (Fx.Ln (Fx.sN (Fx.Wr (⟨.int .i64 ((i2:Int)),Fx.rV Tryd.results117 (by exact rfl),?_⟩))))
   exact⟨i2,dk,rfl,hX.symm.trans (hX1.symm.trans (hX2.symm.trans (Jq (by omega)))),hk,m15,b13⟩
  rw[Bool.not_eq_true]at Ur
  refine Fx.Qt.call (v := .bool false) (by rfl) (fun v1 hv1=>Fx.rC (args := [.int .u64 ((gA dk) a),.int .u64 ((gA dk) i2)]) rfl rfl Tryd.func116 rfl rfl) rfl (fun v1 hv1=>(bU ((gA dk) a) ((gA dk) i2) _).mono fun e v2 h=>⟨by rw[h.1,Ur],by rw[h.2]; exact hv1⟩) ?_
  refine Fx.Qv (.bool true) (fun v1 hv1=>Fx.eH rfl rfl) (Fx.Qv (.bool true) (fun v1 hv1=>Fx.aA rfl rfl rfl) (Fx.Qt.nil ?_))
  intro Mj xw
  have s11:Fx.Stp w4.heap.size w4 Mj:=Fx.Sb xw
  have m16:=m6.bO s11 (Nat.ne_of_lt (m6.lt))
  have b14:=s11.below b5 (Nat.le_trans hB b5.size) (Nat.le_trans hB b5.size)
  refine Fx.sN (Fx.Wc (b:=true) rfl (fun _=>Fx.Wk (Fx.sN (Fx.W.block (Fx.Wl (Fx.Lv (.int .i64 ((i2:Int))) (Fx.ah rfl h9) ?_))))) (fun h=>nomatch h))
  refine Fx.Lv (.int .i64 ((i2:Int)+1)) (Fx.aS rfl rfl rfl Fx.io) (Fx.Lv (.int .i64 ((i2:Int)+1)) (Fx.aj rfl rfl) (Fx.Ln (Fx.dV (Fx.kg ⟨i2+1,((Ue (by omega) (of_decide_eq_false Ur)).trans hX1),(by omega),h6,(h7.trans Fx.ic),(h8.trans Fx.ic),Fx.ic,(h10.trans Fx.ic),m16,b14⟩ ?_))))
  show((j:Int)+1-intOf ((.int .i64 ((i2:Int)+1)))).toNat<_
  simp only[h9,intOf]; omega
 refine Fx.Qv (.bool false) (fun v1 hv1=>Fx.dI rfl rfl rfl c31) (Fx.Qv (.bool false) (fun v1 hv1=>Fx.ah rfl rfl) (Fx.Qs (by rfl) rfl (Fx.Qs (by rfl) rfl (Fx.Qs (by rfl) rfl (Fx.Qs (by rfl) rfl (Fx.Qs (by rfl) rfl (Fx.Qs (by rfl) rfl (Fx.Qs (by rfl) rfl (Fx.Qs (by rfl) rfl (Fx.Qs (by rfl) rfl (Fx.Qs (by rfl) rfl (Fx.Qv (.bool false) (fun v1 hv1=>Fx.aJ rfl rfl rfl) (Fx.Qt.nil ?_)))))))))))))
 intro Qf BP
 have s12:Fx.Stp w4.heap.size w4 Qf:=Fx.Sb BP
 have m17:=m6.bO s12 (Nat.ne_of_lt (m6.lt))
 have b15:=s12.below b5 (Nat.le_trans hB b5.size) (Nat.le_trans hB b5.size)
 refine Fx.sN (Fx.Wc (b:=false) rfl (fun h=>nomatch h) (fun _=>Fx.W.exit (Fx.dQ (Fx.jC (Fx.dR (Fx.sN (Fx.Ws (Fx.W.block (Fx.W.loop (fun f w_ => ∃ j2:Nat,Sort.partEqLoop Sort.ltInt a i2 j2 dk=Sort.partEqLoop Sort.ltInt a i2 j dk/\((j2<i2\/gA dk a<gA dk i2))/\j2<=j/\f 0 = .slice (some ⟨g,0,none⟩) (n) (cap)/\f 1 = .int .i64 ((a:Int))/\f 2 = .int .i64 ((b:Int))/\f 9 = .int .i64 ((i2:Int))/\f 10 = .int .i64 ((j2:Int))/\Fx.Own w_ B 22 1 (.slice (some ⟨g,0,none⟩) n cap) n (Fx.rv .u64 (gA dk))/\Below B w w_) (fun f _=>(intOf (f 10)).toNat) ⟨j,rfl,(.inl (by omega)),(by omega),h6,(h7.trans Fx.ic),(h8.trans Fx.ic),(h9.trans Fx.ic),(h10.trans Fx.ic),m17,b15⟩ ?_)))))))))
 rintro f4 w8 ⟨j2,hX2,hst,hj2,h16,GX,h18,h19,h20,m18,b16⟩
 refine Fx.Ws (Fx.Ws ?_)
 -- region 5 draws
 refine Fx.W.quiet (fun v1=>Below w8.heap.size w8 v1) (by kernel_rfl) (by kernel_rfl) (Below.refl _ _).drew ?_
 refine Fx.Qv (.int .i64 ((i2:Int))) (fun v1 hv1=>Fx.ah rfl h19) (Fx.Qv (.int .i64 ((j2:Int))) (fun v1 hv1=>Fx.ah rfl h20) ?_)
 by_cases Fv:(i2:Int)<=(j2:Int)
 ·refine Fx.Qv (.bool true) (fun v1 hv1=>Fx.gU rfl rfl rfl Fv) (Fx.Qv (.bool true) (fun v1 hv1=>Fx.ah rfl rfl) (Fx.Qv (.slice (some ⟨g,0,none⟩) (n) (cap)) (fun v1 hv1=>Fx.ah rfl h16) (Fx.Qv (.int .i64 ((a:Int))) (fun v1 hv1=>Fx.ah rfl GX) (Fx.Qv ((pf g a)) (fun v1 hv1=>Fx.av rfl rfl rfl Tryd.underlying53 (s:=1) (by kernel_rfl) (by omega) (by omega) (by omega)) (Fx.Qv (.int .u64 ((gA dk) a)) (fun v1 hv1=>Fx.ak (x:=Fx.rv .u64 (gA dk)) rfl rfl (by kernel_rfl) (m18.aL.below hv1 (by have:=m18.lt; omega)) (i:=a) (by omega) (by omega) rfl) (Fx.Qv (.slice (some ⟨g,0,none⟩) (n) (cap)) (fun v1 hv1=>Fx.ah rfl h16) (Fx.Qv (.int .i64 ((j2:Int))) (fun v1 hv1=>Fx.ah rfl h20) (Fx.Qv ((pf g j2)) (fun v1 hv1=>Fx.av rfl rfl rfl Tryd.underlying53 (s:=1) (by kernel_rfl) (by omega) (by omega) (by omega)) (Fx.Qv (.int .u64 ((gA dk) j2)) (fun v1 hv1=>Fx.ak (x:=Fx.rv .u64 (gA dk)) rfl rfl (by kernel_rfl) (m18.aL.below hv1 (by have:=m18.lt; omega)) (i:=j2) (by omega) (by omega) rfl) ?_)))))))))
  by_cases xA:(decide ((gA dk) a<(gA dk) j2))=true
  ·refine Fx.Qt.call (v := .bool true) (by rfl) (fun v1 hv1=>Fx.rC (args := [.int .u64 ((gA dk) a),.int .u64 ((gA dk) j2)]) rfl rfl Tryd.func116 rfl rfl) rfl (fun v1 hv1=>(bU ((gA dk) a) ((gA dk) j2) _).mono fun e v2 h=>⟨by rw[h.1,xA],by rw[h.2]; exact hv1⟩) ?_
   refine Fx.Qv (.bool true) (fun v1 hv1=>Fx.aA rfl rfl rfl) (Fx.Qt.nil ?_)
   intro Jr BQ
   have s13:Fx.Stp w8.heap.size w8 Jr:=Fx.Sb BQ
   have m19:=m18.bO s13 (Nat.ne_of_lt (m18.lt))
   have b17:=s13.below b16 (Nat.le_trans hB b16.size) (Nat.le_trans hB b16.size)
   refine Fx.sN (Fx.Wc (b:=true) rfl (fun _=>Fx.Wk (Fx.sN (Fx.W.block (Fx.Wl (Fx.Lv (.int .i64 ((j2:Int))) (Fx.ah rfl h20) ?_))))) (fun h=>nomatch h))
   refine Fx.Lv (.int .i64 ((j2:Int)-1)) (Fx.bD rfl rfl rfl Fx.io) (Fx.Lv (.int .i64 ((j2:Int)-1)) (Fx.aj rfl rfl) (Fx.Ln (Fx.dV (Fx.kg ⟨j2-1,((OI (by omega) (by omega) (hst.resolve_left (by omega)) (of_decide_eq_true xA)).trans hX2),(hst.elim (fun h => .inl (by omega)) .inr),(by omega),h16,(GX.trans Fx.ic),(h18.trans Fx.ic),(h19.trans Fx.ic),Fx.ic,m19,b17⟩ ?_))))
   show(intOf ((.int .i64 ((j2:Int)-1)))).toNat<_
   simp only[h20,intOf]; omega
  rw[Bool.not_eq_true]at xA
  refine Fx.Qt.call (v := .bool false) (by rfl) (fun v1 hv1=>Fx.rC (args := [.int .u64 ((gA dk) a),.int .u64 ((gA dk) j2)]) rfl rfl Tryd.func116 rfl rfl) rfl (fun v1 hv1=>(bU ((gA dk) a) ((gA dk) j2) _).mono fun e v2 h=>⟨by rw[h.1,xA],by rw[h.2]; exact hv1⟩) ?_
  refine Fx.Qv (.bool false) (fun v1 hv1=>Fx.aA rfl rfl rfl) (Fx.Qt.nil ?_)
  intro Js BR
  have LP:Fx.Stp w8.heap.size w8 Js:=Fx.Sb BR
  have m20:=m18.bO LP (Nat.ne_of_lt (m18.lt))
  have b18:=LP.below b16 (Nat.le_trans hB b16.size) (Nat.le_trans hB b16.size)
  refine Fx.sN (Fx.Wc (b:=false) rfl (fun h=>nomatch h) (fun _=>Fx.W.exit (Fx.dQ (Fx.jC (Fx.dR (Fx.sN (Fx.Ws (Fx.Ws (Fx.Wl (Fx.Lv (.int .i64 ((i2:Int))) (Fx.ah rfl h19) (Fx.Lv (.int .i64 ((j2:Int))) (Fx.ah rfl h20) (Fx.Lv (.bool false) (Fx.dw rfl rfl rfl (by omega)) (Fx.Ln (Fx.sN (Fx.Wc (b:=false) rfl (fun h=>nomatch h) (fun _=>Fx.Wk (Fx.sN (Fx.Ws ?_))))))))))))))))))
  -- region 8 draws
  refine Fx.W.bH [0,1,2,3,4,5,6,8,9,10,7,11,12,13,14,15] [0,0,0,0,0,0,0,4,0,0,0,4,0,3,0,3] Fx.Mk Fx.Mk.refl Fx.Mk.trans (aQ := [(13,7,[7]),(15,7,[7]),(13,11,[11]),(15,11,[11]),(14,13,[13]),(15,13,[13])]) (by kernel_rfl) (by kernel_rfl) (by kernel_rfl) (by kernel_rfl) (by kernel_rfl) fun GU oV BS => ?_
  have s15:Fx.Stp Js.heap.size Js GU:=Fx.Sb oV
  have m21:=m20.bO s15 (Nat.ne_of_lt (m20.lt))
  have b19:=s15.below b18 (Nat.le_trans hB b18.size) (Nat.le_trans hB b18.size)
  refine Fx.Rp (.slice (some ⟨g,0,none⟩) (n) (cap)) (fun v1=>Fx.ah rfl h16) (Fx.Rp (.int .i64 ((i2:Int))) (fun v1=>Fx.ah rfl h19) (Fx.Rp (.slice (some ⟨g,0,none⟩) (n) (cap)) (fun v1=>Fx.ah rfl h16) (Fx.Rp (.int .i64 ((j2:Int))) (fun v1=>Fx.ah rfl h20) (Fx.Rp (.slice (some ⟨g,0,none⟩) (n) (cap)) (fun v1=>Fx.ah rfl h16) (Fx.Rp (.int .i64 ((j2:Int))) (fun v1=>Fx.ah rfl h20) (Fx.Rp ((pf g j2)) (fun v1=>Fx.av rfl rfl rfl Tryd.underlying53 (s:=1) (by kernel_rfl) (by omega) (by omega) (by omega)) (Fx.Rp (.slice (some ⟨g,0,none⟩) (n) (cap)) (fun v1=>Fx.ah rfl h16) (Fx.Rp (.int .i64 ((i2:Int))) (fun v1=>Fx.ah rfl h19) (Fx.Rp ((pf g i2)) (fun v1=>Fx.av rfl rfl rfl Tryd.underlying53 (s:=1) (by kernel_rfl) (by omega) (by omega) (by omega)) (Fx.R.s (.int .u64 ((gA dk) j2)) (Fx.ak (x:=Fx.rv .u64 (gA dk)) rfl rfl (by kernel_rfl) m21.aL (i:=j2) (by omega) (by omega) rfl) ?_))))))))))
  refine Fx.R.s (.int .u64 ((gA dk) i2)) (Fx.ak (x:=Fx.rv .u64 (gA dk)) rfl rfl (by kernel_rfl) m21.aL (i:=i2) (by omega) (by omega) rfl) ?_
  refine Fx.Rp ((pf g i2)) (fun v1=>Fx.av rfl rfl rfl Tryd.underlying53 (s:=1) (by kernel_rfl) (by omega) (by omega) (by omega)) (Fx.R.fP (by rfl) ?_)
  refine Fx.L.eU (x:=Fx.rv .u64 (gA dk)) (u := .int .u64 ((gA dk) j2)) (by rfl) rfl rfl rfl rfl (by rfl) (by kernel_rfl) m21 (i:=i2) (by omega) fun w9 m22 s16 z5 => ?_
  have b20:=s16.below b19 (Nat.le_trans hB b19.size) m21.blk.1
  refine Fx.Ln (Fx.Rp ((pf g j2)) (fun v1=>Fx.av rfl rfl rfl Tryd.underlying53 (s:=1) (by kernel_rfl) (by omega) (by omega) (by omega)) (Fx.R.fP (by rfl) ?_))
  refine Fx.L.eU (x:=Fx.eB (Fx.rv .u64 (gA dk)) i2 (.int .u64 ((gA dk) j2))) (u := .int .u64 ((gA dk) i2)) (by rfl) rfl rfl rfl rfl (by rfl) (by kernel_rfl) m22 (i:=j2) (by omega) fun wo m23 Tn z6 => ?_
  have Xh:=Tn.below b20 (Nat.le_trans hB b20.size) m22.blk.1
  have m24:Fx.Own wo B 22 1 (.slice (some ⟨g,0,none⟩) n cap) n (Fx.rv .u64 (gA (Sort.swp dk i2 j2))):=m23.congr (eO hk (by omega) (by omega))
  refine Fx.Ln (Fx.R.nil (Fx.sN (Fx.Ws (Fx.Wl (Fx.Lv (.int .i64 ((i2:Int))) (Fx.ah rfl h19) (Fx.Lv (.int .i64 ((i2:Int)+1)) (Fx.aS rfl rfl rfl Fx.io) (Fx.Lv (.int .i64 ((i2:Int)+1)) (Fx.aj rfl rfl) (Fx.Ln (Fx.sN (Fx.Wl (Fx.Lv (.int .i64 ((j2:Int))) (Fx.ah rfl h20) (Fx.Lv (.int .i64 ((j2:Int)-1)) (Fx.bD rfl rfl rfl Fx.io) (Fx.Lv (.int .i64 ((j2:Int)-1)) (Fx.aj rfl rfl) (Fx.Ln (Fx.dV (Fx.kg ⟨i2+1,j2-1,Sort.swp dk i2 j2,(dz hk _ _),((OJ (by omega) (hst.resolve_left (by omega)) (of_decide_eq_false xA)).trans (hX2.trans (hX1.trans hX))),(by omega),h16,(GX.trans Fx.ic),(h18.trans Fx.ic),Fx.ic,Fx.ic,m24,Xh⟩ ?_))))))))))))))))
  show((b:Int)-intOf ((.int .i64 ((i2:Int)+1)))).toNat<_
  simp only[h4,intOf]; omega
 refine Fx.Qv (.bool false) (fun v1 hv1=>Fx.dI rfl rfl rfl Fv) (Fx.Qv (.bool false) (fun v1 hv1=>Fx.ah rfl rfl) (Fx.Qs (by rfl) rfl (Fx.Qs (by rfl) rfl (Fx.Qs (by rfl) rfl (Fx.Qs (by rfl) rfl (Fx.Qs (by rfl) rfl (Fx.Qs (by rfl) rfl (Fx.Qs (by rfl) rfl (Fx.Qs (by rfl) rfl (Fx.Qs (by rfl) rfl (Fx.Qv (.bool false) (fun v1 hv1=>Fx.aJ rfl rfl rfl) (Fx.Qt.nil ?_))))))))))))
 intro Uh BU
 have OL:Fx.Stp w8.heap.size w8 Uh:=Fx.Sb BU
 have qC:=m18.bO OL (Nat.ne_of_lt (m18.lt))
 have Ut:=OL.below b16 (Nat.le_trans hB b16.size) (Nat.le_trans hB b16.size)
 refine Fx.sN (Fx.Wc (b:=false) rfl (fun h=>nomatch h) (fun _=>Fx.W.exit (Fx.dQ (Fx.jC (Fx.dR (Fx.sN (Fx.Ws (Fx.Ws (Fx.Wl (Fx.Lv (.int .i64 ((i2:Int))) (Fx.ah rfl h19) (Fx.Lv (.int .i64 ((j2:Int))) (Fx.ah rfl h20) (Fx.Lv (.bool true) (Fx.iy rfl rfl rfl (by omega)) (Fx.Ln (Fx.sN (Fx.Wc (b:=true) rfl (fun _=>Fx.W.exit (Fx.dQ (Fx.DR rfl (Fx.jC (Fx.dR (Fx.sN (Fx.Ws (Fx.Wl (Fx.Lv (.int .i64 ((i2:Int))) (Fx.ah rfl h19) ?_))))))))) (fun h=>nomatch h))))))))))))))))
 refine Fx.Lv (.int .i64 ((i2:Int))) (Fx.aj rfl rfl) (Fx.Ln (Fx.sN (Fx.Wr (⟨.int .i64 ((i2:Int)),Fx.rV Tryd.results117 (by exact rfl),?_⟩))))
 exact⟨i2,dk,rfl,hX.symm.trans (hX1.symm.trans (hX2.symm.trans (Jq (by omega)))),hk,qC,Ut⟩
theorem Uu(a b p:Nat)(B g n cap:Nat)(d:Array Int)(w:World)(h:Fx.Own w B 22 1 (.slice (some ⟨g,0,none⟩) n cap) n (Fx.rv .u64 (gA d)))(hB:B<=w.heap.size)(hn:d.size=n)(hs:n<=1000)(ha:a<=p)(hp:p<b)(hb:b<=n) :
 Calls Tryd.prog 118 #[.slice (some ⟨g,0,none⟩) (n) (cap),.int .i64 ((a:Int)),.int .i64 ((b:Int)),.int .i64 ((p:Int))] w fun e w' => ∃(mid:Nat) (ap:Bool) (d4:Array Int),e = .returned (.tuple #[.int .i64 (mid:Int),.bool ap])/\(Sort.partition Sort.ltInt d a b p).1=mid/\(Sort.partition Sort.ltInt d a b p).2.2=d4/\d4.size=n/\Fx.Own w' B 22 1 (.slice (some ⟨g,0,none⟩) n cap) n (Fx.rv .u64 (gA d4))/\Below B w w':=by
 refine Fx.enter Tryd.func118 rfl (n:=168) rfl (by rfl) ?_
 refine Fx.Ws (Fx.Wl (Fx.Lv (.int .i64 (0)) (Fx.aj rfl rfl) (Fx.Lv (.bool false) (Fx.aj rfl rfl) (Fx.Ln (Fx.sN (Fx.Ws ?_))))))
 -- region 1 draws
 refine Fx.W.bH [0,1,2,3,4,5,6,8,9,10,7,11,12,13,14,15] [0,0,0,0,0,0,0,4,0,0,0,4,0,3,0,3] Fx.Mk Fx.Mk.refl Fx.Mk.trans (aQ := [(13,7,[7]),(15,7,[7]),(13,11,[11]),(15,11,[11]),(14,13,[13]),(15,13,[13])]) (by kernel_rfl) (by kernel_rfl) (by kernel_rfl) (by kernel_rfl) (by kernel_rfl) fun jc bT fE => ?_
 have s1:Fx.Stp w.heap.size w jc:=Fx.Sb bT
 have m1:=h.bO s1 (Nat.ne_of_lt (h.lt))
 have b1:=s1.below (Below.refl B w) (Nat.le_trans hB (Below.refl B w).size) (Nat.le_trans hB (Below.refl B w).size)
 refine Fx.Rp (.slice (some ⟨g,0,none⟩) (n) (cap)) (fun v1=>Fx.ah rfl rfl) (Fx.Rp (.int .i64 ((a:Int))) (fun v1=>Fx.ah rfl rfl) (Fx.Rp (.slice (some ⟨g,0,none⟩) (n) (cap)) (fun v1=>Fx.ah rfl rfl) (Fx.Rp (.int .i64 ((p:Int))) (fun v1=>Fx.ah rfl rfl) (Fx.Rp (.slice (some ⟨g,0,none⟩) (n) (cap)) (fun v1=>Fx.ah rfl rfl) (Fx.Rp (.int .i64 ((p:Int))) (fun v1=>Fx.ah rfl rfl) (Fx.Rp ((pf g p)) (fun v1=>Fx.av rfl rfl rfl Tryd.underlying53 (s:=1) (by kernel_rfl) (by omega) (by omega) (by omega)) (Fx.Rp (.slice (some ⟨g,0,none⟩) (n) (cap)) (fun v1=>Fx.ah rfl rfl) (Fx.Rp (.int .i64 ((a:Int))) (fun v1=>Fx.ah rfl rfl) (Fx.Rp ((pf g a)) (fun v1=>Fx.av rfl rfl rfl Tryd.underlying53 (s:=1) (by kernel_rfl) (by omega) (by omega) (by omega)) (Fx.R.s (.int .u64 ((gA d) p)) (Fx.ak (x:=Fx.rv .u64 (gA d)) rfl rfl (by kernel_rfl) m1.aL (i:=p) (by omega) (by omega) rfl) ?_))))))))))
 refine Fx.R.s (.int .u64 ((gA d) a)) (Fx.ak (x:=Fx.rv .u64 (gA d)) rfl rfl (by kernel_rfl) m1.aL (i:=a) (by omega) (by omega) rfl) ?_
 refine Fx.Rp ((pf g a)) (fun v1=>Fx.av rfl rfl rfl Tryd.underlying53 (s:=1) (by kernel_rfl) (by omega) (by omega) (by omega)) (Fx.R.fP (by rfl) ?_)
 refine Fx.L.eU (x:=Fx.rv .u64 (gA d)) (u := .int .u64 ((gA d) p)) (by rfl) rfl rfl rfl rfl (by rfl) (by kernel_rfl) m1 (i:=a) (by omega) fun w1 m2 s2 z1 => ?_
 have b2:=s2.below b1 (Nat.le_trans hB b1.size) m1.blk.1
 refine Fx.Ln (Fx.Rp ((pf g p)) (fun v1=>Fx.av rfl rfl rfl Tryd.underlying53 (s:=1) (by kernel_rfl) (by omega) (by omega) (by omega)) (Fx.R.fP (by rfl) ?_))
 refine Fx.L.eU (x:=Fx.eB (Fx.rv .u64 (gA d)) a (.int .u64 ((gA d) p))) (u := .int .u64 ((gA d) a)) (by rfl) rfl rfl rfl rfl (by rfl) (by kernel_rfl) m2 (i:=p) (by omega) fun w2 m3 s3 z2 => ?_
 have b3:=s3.below b2 (Nat.le_trans hB b2.size) m2.blk.1
 have m4:Fx.Own w2 B 22 1 (.slice (some ⟨g,0,none⟩) n cap) n (Fx.rv .u64 (gA (Sort.swp d a p))):=m3.congr (eO hn (by omega) (by omega))
 refine Fx.Ln (Fx.R.nil (Fx.sN (Fx.Ws (Fx.Wl (Fx.Lv (.int .i64 ((a:Int))) (Fx.ah rfl rfl) (Fx.Lv (.int .i64 ((a:Int)+1)) (Fx.aS rfl rfl rfl Fx.io) (Fx.Lv (.int .i64 ((b:Int))) (Fx.ah rfl rfl) (Fx.Lv (.int .i64 ((b:Int)-1)) (Fx.bD rfl rfl rfl Fx.io) (Fx.Lv (.int .i64 ((a:Int)+1)) (Fx.aj rfl rfl) (Fx.Lv (.int .i64 ((b:Int)-1)) (Fx.aj rfl rfl) (Fx.Ln (Fx.sN (Fx.Ws (Fx.W.block (Fx.W.loop (fun f w_ => ∃ i0:Nat,Sort.partLoop Sort.ltInt a i0 (b-1) (Sort.swp d a p)=Sort.partLoop Sort.ltInt a (a+1) (b-1) (Sort.swp d a p)/\(a+1<=i0/\i0<=b)/\f 0 = .slice (some ⟨g,0,none⟩) (n) (cap)/\f 1 = .int .i64 ((a:Int))/\f 2 = .int .i64 ((b:Int))/\f 10 = .int .i64 ((i0:Int))/\f 11 = .int .i64 ((b:Int)-1)/\Fx.Own w_ B 22 1 (.slice (some ⟨g,0,none⟩) n cap) n (Fx.rv .u64 (gA (Sort.swp d a p)))/\Below B w w_) (fun f _=>((b:Int)-intOf (f 10)).toNat) ⟨a+1,rfl,(by omega),(by rfl),Fx.ic,Fx.ic,Fx.ic,Fx.ic,m4,b3⟩ ?_)))))))))))))))
 rintro f1 w3 ⟨i0,hY0,ade,h1,h2,h3,h4,h5,m5,b4⟩
 refine Fx.Ws (Fx.Ws ?_)
 -- region 3 draws
 refine Fx.W.quiet (fun v1=>Below w3.heap.size w3 v1) (by kernel_rfl) (by kernel_rfl) (Below.refl _ _).drew ?_
 refine Fx.Qv (.int .i64 ((i0:Int))) (fun v1 hv1=>Fx.ah rfl h4) (Fx.Qv (.int .i64 ((b:Int)-1)) (fun v1 hv1=>Fx.ah rfl h5) ?_)
 by_cases c32:(i0:Int)<=((b:Int)-1)
 ·refine Fx.Qv (.bool true) (fun v1 hv1=>Fx.gU rfl rfl rfl c32) (Fx.Qv (.bool true) (fun v1 hv1=>Fx.ah rfl rfl) (Fx.Qv (.slice (some ⟨g,0,none⟩) (n) (cap)) (fun v1 hv1=>Fx.ah rfl h1) (Fx.Qv (.int .i64 ((i0:Int))) (fun v1 hv1=>Fx.ah rfl h4) (Fx.Qv ((pf g i0)) (fun v1 hv1=>Fx.av rfl rfl rfl Tryd.underlying53 (s:=1) (by kernel_rfl) (by omega) (by omega) (by omega)) (Fx.Qv (.int .u64 ((gA (Sort.swp d a p)) i0)) (fun v1 hv1=>Fx.ak (x:=Fx.rv .u64 (gA (Sort.swp d a p))) rfl rfl (by kernel_rfl) (m5.aL.below hv1 (by have:=m5.lt; omega)) (i:=i0) (by omega) (by omega) rfl) (Fx.Qv (.slice (some ⟨g,0,none⟩) (n) (cap)) (fun v1 hv1=>Fx.ah rfl h1) (Fx.Qv (.int .i64 ((a:Int))) (fun v1 hv1=>Fx.ah rfl h2) (Fx.Qv ((pf g a)) (fun v1 hv1=>Fx.av rfl rfl rfl Tryd.underlying53 (s:=1) (by kernel_rfl) (by omega) (by omega) (by omega)) (Fx.Qv (.int .u64 ((gA (Sort.swp d a p)) a)) (fun v1 hv1=>Fx.ak (x:=Fx.rv .u64 (gA (Sort.swp d a p))) rfl rfl (by kernel_rfl) (m5.aL.below hv1 (by have:=m5.lt; omega)) (i:=a) (by omega) (by omega) rfl) ?_)))))))))
  by_cases OM:(decide ((gA (Sort.swp d a p)) i0<(gA (Sort.swp d a p)) a))=true
  ·refine Fx.Qt.call (v := .bool true) (by rfl) (fun v1 hv1=>Fx.rC (args := [.int .u64 ((gA (Sort.swp d a p)) i0),.int .u64 ((gA (Sort.swp d a p)) a)]) rfl rfl Tryd.func116 rfl rfl) rfl (fun v1 hv1=>(bU ((gA (Sort.swp d a p)) i0) ((gA (Sort.swp d a p)) a) _).mono fun e v2 h=>⟨by rw[h.1,OM],by rw[h.2]; exact hv1⟩) ?_
   refine Fx.Qv (.bool true) (fun v1 hv1=>Fx.aA rfl rfl rfl) (Fx.Qt.nil ?_)
   intro sG iN
   have s4:Fx.Stp w3.heap.size w3 sG:=Fx.Sb iN
   have m6:=m5.bO s4 (Nat.ne_of_lt (m5.lt))
   have b5:=s4.below b4 (Nat.le_trans hB b4.size) (Nat.le_trans hB b4.size)
   refine Fx.sN (Fx.Wc (b:=true) rfl (fun _=>Fx.Wk (Fx.sN (Fx.W.block (Fx.Wl (Fx.Lv (.int .i64 ((i0:Int))) (Fx.ah rfl h4) ?_))))) (fun h=>nomatch h))
   refine Fx.Lv (.int .i64 ((i0:Int)+1)) (Fx.aS rfl rfl rfl Fx.io) (Fx.Lv (.int .i64 ((i0:Int)+1)) (Fx.aj rfl rfl) (Fx.Ln (Fx.dV (Fx.kg ⟨i0+1,((Jp (by omega) (of_decide_eq_true OM)).trans hY0),(by omega),h1,(h2.trans Fx.ic),(h3.trans Fx.ic),Fx.ic,(h5.trans Fx.ic),m6,b5⟩ ?_))))
   show((b:Int)-intOf ((.int .i64 ((i0:Int)+1)))).toNat<_
   simp only[h4,intOf]; omega
  rw[Bool.not_eq_true]at OM
  refine Fx.Qt.call (v := .bool false) (by rfl) (fun v1 hv1=>Fx.rC (args := [.int .u64 ((gA (Sort.swp d a p)) i0),.int .u64 ((gA (Sort.swp d a p)) a)]) rfl rfl Tryd.func116 rfl rfl) rfl (fun v1 hv1=>(bU ((gA (Sort.swp d a p)) i0) ((gA (Sort.swp d a p)) a) _).mono fun e v2 h=>⟨by rw[h.1,OM],by rw[h.2]; exact hv1⟩) ?_
  refine Fx.Qv (.bool false) (fun v1 hv1=>Fx.aA rfl rfl rfl) (Fx.Qt.nil ?_)
  intro yI ji
  have s5:Fx.Stp w3.heap.size w3 yI:=Fx.Sb ji
  have m7:=m5.bO s5 (Nat.ne_of_lt (m5.lt))
  have b6:=s5.below b4 (Nat.le_trans hB b4.size) (Nat.le_trans hB b4.size)
  refine Fx.sN (Fx.Wc (b:=false) rfl (fun h=>nomatch h) (fun _=>Fx.W.exit (Fx.dQ (Fx.jC (Fx.dR (Fx.sN (Fx.Ws (Fx.W.block (Fx.W.loop (fun f w_ => ∃ j0:Nat,Sort.partLoop Sort.ltInt a i0 j0 (Sort.swp d a p)=Sort.partLoop Sort.ltInt a (a+1) (b-1) (Sort.swp d a p)/\((j0<i0 \/ ¬ gA (Sort.swp d a p) i0<gA (Sort.swp d a p) a))/\(j0<b/\j0<=b)/\f 0 = .slice (some ⟨g,0,none⟩) (n) (cap)/\f 1 = .int .i64 ((a:Int))/\f 2 = .int .i64 ((b:Int))/\f 10 = .int .i64 ((i0:Int))/\f 11 = .int .i64 ((j0:Int))/\Fx.Own w_ B 22 1 (.slice (some ⟨g,0,none⟩) n cap) n (Fx.rv .u64 (gA (Sort.swp d a p)))/\Below B w w_) (fun f _=>(intOf (f 11)).toNat) ⟨b-1,hY0,(.inr (of_decide_eq_false OM)),(by omega),h1,(h2.trans Fx.ic),(h3.trans Fx.ic),(h4.trans Fx.ic),(h5.trans Fx.ic),m7,b6⟩ ?_)))))))))
  rintro f2 w4 ⟨j0,Qn,um,Xi,h6,h7,h8,h9,h10,m8,b7⟩
  refine Fx.Ws (Fx.Ws ?_)
  -- region 5 draws
  refine Fx.W.quiet (fun v1=>Below w4.heap.size w4 v1) (by kernel_rfl) (by kernel_rfl) (Below.refl _ _).drew ?_
  refine Fx.Qv (.int .i64 ((i0:Int))) (fun v1 hv1=>Fx.ah rfl h9) (Fx.Qv (.int .i64 ((j0:Int))) (fun v1 hv1=>Fx.ah rfl h10) ?_)
  by_cases Fv:(i0:Int)<=(j0:Int)
  ·refine Fx.Qv (.bool true) (fun v1 hv1=>Fx.gU rfl rfl rfl Fv) (Fx.Qv (.bool true) (fun v1 hv1=>Fx.ah rfl rfl) (Fx.Qv (.slice (some ⟨g,0,none⟩) (n) (cap)) (fun v1 hv1=>Fx.ah rfl h6) (Fx.Qv (.int .i64 ((j0:Int))) (fun v1 hv1=>Fx.ah rfl h10) (Fx.Qv ((pf g j0)) (fun v1 hv1=>Fx.av rfl rfl rfl Tryd.underlying53 (s:=1) (by kernel_rfl) (by omega) (by omega) (by omega)) (Fx.Qv (.int .u64 ((gA (Sort.swp d a p)) j0)) (fun v1 hv1=>Fx.ak (x:=Fx.rv .u64 (gA (Sort.swp d a p))) rfl rfl (by kernel_rfl) (m8.aL.below hv1 (by have:=m8.lt; omega)) (i:=j0) (by omega) (by omega) rfl) (Fx.Qv (.slice (some ⟨g,0,none⟩) (n) (cap)) (fun v1 hv1=>Fx.ah rfl h6) (Fx.Qv (.int .i64 ((a:Int))) (fun v1 hv1=>Fx.ah rfl h7) (Fx.Qv ((pf g a)) (fun v1 hv1=>Fx.av rfl rfl rfl Tryd.underlying53 (s:=1) (by kernel_rfl) (by omega) (by omega) (by omega)) (Fx.Qv (.int .u64 ((gA (Sort.swp d a p)) a)) (fun v1 hv1=>Fx.ak (x:=Fx.rv .u64 (gA (Sort.swp d a p))) rfl rfl (by kernel_rfl) (m8.aL.below hv1 (by have:=m8.lt; omega)) (i:=a) (by omega) (by omega) rfl) ?_)))))))))
   by_cases xA:(decide ((gA (Sort.swp d a p)) j0<(gA (Sort.swp d a p)) a))=true
   ·refine Fx.Qt.call (v := .bool true) (by rfl) (fun v1 hv1=>Fx.rC (args := [.int .u64 ((gA (Sort.swp d a p)) j0),.int .u64 ((gA (Sort.swp d a p)) a)]) rfl rfl Tryd.func116 rfl rfl) rfl (fun v1 hv1=>(bU ((gA (Sort.swp d a p)) j0) ((gA (Sort.swp d a p)) a) _).mono fun e v2 h=>⟨by rw[h.1,xA],by rw[h.2]; exact hv1⟩) ?_
    refine Fx.Qv (.bool false) (fun v1 hv1=>Fx.dZ rfl rfl) (Fx.Qv (.bool false) (fun v1 hv1=>Fx.aA rfl rfl rfl) (Fx.Qt.nil ?_))
    intro yJ jV
    have s6:Fx.Stp w4.heap.size w4 yJ:=Fx.Sb jV
    have m9:=m8.bO s6 (Nat.ne_of_lt (m8.lt))
    have b8:=s6.below b7 (Nat.le_trans hB b7.size) (Nat.le_trans hB b7.size)
    refine Fx.sN (Fx.Wc (b:=false) rfl (fun h=>nomatch h) (fun _=>Fx.W.exit (Fx.dQ (Fx.jC (Fx.dR (Fx.sN (Fx.Ws (Fx.Ws (Fx.Wl (Fx.Lv (.int .i64 ((i0:Int))) (Fx.ah rfl h9) (Fx.Lv (.int .i64 ((j0:Int))) (Fx.ah rfl h10) (Fx.Lv (.bool false) (Fx.dw rfl rfl rfl (by omega)) (Fx.Ln (Fx.sN (Fx.Wc (b:=false) rfl (fun h=>nomatch h) (fun _=>Fx.Wk (Fx.sN (Fx.Ws ?_))))))))))))))))))
    -- region 10 draws
    refine Fx.W.bH [0,1,2,3,4,5,6,8,9,10,7,11,12,13,14,15] [0,0,0,0,0,0,0,4,0,0,0,4,0,3,0,3] Fx.Mk Fx.Mk.refl Fx.Mk.trans (aQ := [(13,7,[7]),(15,7,[7]),(13,11,[11]),(15,11,[11]),(14,13,[13]),(15,13,[13])]) (by kernel_rfl) (by kernel_rfl) (by kernel_rfl) (by kernel_rfl) (by kernel_rfl) fun sI fU mR => ?_
    have s7:Fx.Stp yJ.heap.size yJ sI:=Fx.Sb fU
    have m10:=m9.bO s7 (Nat.ne_of_lt (m9.lt))
    have b9:=s7.below b8 (Nat.le_trans hB b8.size) (Nat.le_trans hB b8.size)
    refine Fx.Rp (.slice (some ⟨g,0,none⟩) (n) (cap)) (fun v1=>Fx.ah rfl h6) (Fx.Rp (.int .i64 ((i0:Int))) (fun v1=>Fx.ah rfl h9) (Fx.Rp (.slice (some ⟨g,0,none⟩) (n) (cap)) (fun v1=>Fx.ah rfl h6) (Fx.Rp (.int .i64 ((j0:Int))) (fun v1=>Fx.ah rfl h10) (Fx.Rp (.slice (some ⟨g,0,none⟩) (n) (cap)) (fun v1=>Fx.ah rfl h6) (Fx.Rp (.int .i64 ((j0:Int))) (fun v1=>Fx.ah rfl h10) (Fx.Rp ((pf g j0)) (fun v1=>Fx.av rfl rfl rfl Tryd.underlying53 (s:=1) (by kernel_rfl) (by omega) (by omega) (by omega)) (Fx.Rp (.slice (some ⟨g,0,none⟩) (n) (cap)) (fun v1=>Fx.ah rfl h6) (Fx.Rp (.int .i64 ((i0:Int))) (fun v1=>Fx.ah rfl h9) (Fx.Rp ((pf g i0)) (fun v1=>Fx.av rfl rfl rfl Tryd.underlying53 (s:=1) (by kernel_rfl) (by omega) (by omega) (by omega)) (Fx.R.s (.int .u64 ((gA (Sort.swp d a p)) j0)) (Fx.ak (x:=Fx.rv .u64 (gA (Sort.swp d a p))) rfl rfl (by kernel_rfl) m10.aL (i:=j0) (by omega) (by omega) rfl) ?_))))))))))
    refine Fx.R.s (.int .u64 ((gA (Sort.swp d a p)) i0)) (Fx.ak (x:=Fx.rv .u64 (gA (Sort.swp d a p))) rfl rfl (by kernel_rfl) m10.aL (i:=i0) (by omega) (by omega) rfl) ?_
    refine Fx.Rp ((pf g i0)) (fun v1=>Fx.av rfl rfl rfl Tryd.underlying53 (s:=1) (by kernel_rfl) (by omega) (by omega) (by omega)) (Fx.R.fP (by rfl) ?_)
    refine Fx.L.eU (x:=Fx.rv .u64 (gA (Sort.swp d a p))) (u := .int .u64 ((gA (Sort.swp d a p)) j0)) (by rfl) rfl rfl rfl rfl (by rfl) (by kernel_rfl) m10 (i:=i0) (by omega) fun w5 m11 s8 z3 => ?_
    have b10:=s8.below b9 (Nat.le_trans hB b9.size) m10.blk.1
    refine Fx.Ln (Fx.Rp ((pf g j0)) (fun v1=>Fx.av rfl rfl rfl Tryd.underlying53 (s:=1) (by kernel_rfl) (by omega) (by omega) (by omega)) (Fx.R.fP (by rfl) ?_))
    refine Fx.L.eU (x:=Fx.eB (Fx.rv .u64 (gA (Sort.swp d a p))) i0 (.int .u64 ((gA (Sort.swp d a p)) j0))) (u := .int .u64 ((gA (Sort.swp d a p)) i0)) (by rfl) rfl rfl rfl rfl (by rfl) (by kernel_rfl) m11 (i:=j0) (by omega) fun w6 m12 s9 z4 => ?_
    have b11:=s9.below b10 (Nat.le_trans hB b10.size) m11.blk.1
    have m13:Fx.Own w6 B 22 1 (.slice (some ⟨g,0,none⟩) n cap) n (Fx.rv .u64 (gA (Sort.swp (Sort.swp d a p) i0 j0))):=m12.congr (eO (dz hn _ _) (by omega) (by omega))
    refine Fx.Ln (Fx.R.nil (Fx.sN (Fx.Ws (Fx.Wl (Fx.Lv (.int .i64 ((i0:Int))) (Fx.ah rfl h9) (Fx.Lv (.int .i64 ((i0:Int)+1)) (Fx.aS rfl rfl rfl Fx.io) (Fx.Lv (.int .i64 ((i0:Int)+1)) (Fx.aj rfl rfl) (Fx.Ln (Fx.sN (Fx.Ws (Fx.Wl (Fx.Lv (.int .i64 ((j0:Int))) (Fx.ah rfl h10) (Fx.Lv (.int .i64 ((j0:Int)-1)) (Fx.bD rfl rfl rfl Fx.io) (Fx.Lv (.int .i64 ((j0:Int)-1)) (Fx.aj rfl rfl) (Fx.Ln (Fx.sN (Fx.Ws (Fx.W.block (Fx.W.loop (fun f w_ => ∃ i:Nat,∃ j:Nat,∃ dk:Array Int,dk.size=n/\Sort.partLoop Sort.ltInt a i j dk=Sort.partLoop Sort.ltInt a (a+1) (b-1) (Sort.swp d a p)/\(a<i/\j<b/\i<=b)/\f 0 = .slice (some ⟨g,0,none⟩) (n) (cap)/\f 1 = .int .i64 ((a:Int))/\f 2 = .int .i64 ((b:Int))/\f 10 = .int .i64 ((i:Int))/\f 11 = .int .i64 ((j:Int))/\Fx.Own w_ B 22 1 (.slice (some ⟨g,0,none⟩) n cap) n (Fx.rv .u64 (gA dk))/\Below B w w_) (fun f _=>((b:Int)-intOf (f 10)).toNat) ⟨i0+1,j0-1,Sort.swp (Sort.swp d a p) i0 j0,(dz (dz hn _ _) _ _),((zk (by omega) (um.resolve_left (by omega)) (of_decide_eq_true xA)).trans Qn),(by omega),h6,(h7.trans Fx.ic),(h8.trans Fx.ic),Fx.ic,Fx.ic,m13,b11⟩ ?_)))))))))))))))))))
    rintro f3 w7 ⟨i,j,dk,hk,hX,hij,h11,h12,Al,Bg,Ca,m14,b12⟩
    refine Fx.W.block (Fx.Ws (Fx.W.block (Fx.W.loop (fun f w_ => ∃ i2:Nat,Sort.partLoop Sort.ltInt a i2 j dk=Sort.partLoop Sort.ltInt a (a+1) (b-1) (Sort.swp d a p)/\(i<=i2/\i2<=b)/\f 0 = .slice (some ⟨g,0,none⟩) (n) (cap)/\f 1 = .int .i64 ((a:Int))/\f 2 = .int .i64 ((b:Int))/\f 10 = .int .i64 ((i2:Int))/\f 11 = .int .i64 ((j:Int))/\Fx.Own w_ B 22 1 (.slice (some ⟨g,0,none⟩) n cap) n (Fx.rv .u64 (gA dk))/\Below B w w_) (fun f _=>((b:Int)-intOf (f 10)).toNat) ⟨i,hX,(by omega),h11,(h12.trans Fx.ic),(Al.trans Fx.ic),(Bg.trans Fx.ic),(Ca.trans Fx.ic),m14,b12⟩ ?_)))
    rintro f4 w8 ⟨i2,hX1,Xj,h16,GX,h18,h19,h20,m15,b13⟩
    refine Fx.Ws (Fx.Ws ?_)
    -- region 13 draws
    refine Fx.W.quiet (fun v1=>Below w8.heap.size w8 v1) (by kernel_rfl) (by kernel_rfl) (Below.refl _ _).drew ?_
    refine Fx.Qv (.int .i64 ((i2:Int))) (fun v1 hv1=>Fx.ah rfl h19) (Fx.Qv (.int .i64 ((j:Int))) (fun v1 hv1=>Fx.ah rfl h20) ?_)
    by_cases Jv:(i2:Int)<=(j:Int)
    ·refine Fx.Qv (.bool true) (fun v1 hv1=>Fx.gU rfl rfl rfl Jv) (Fx.Qv (.bool true) (fun v1 hv1=>Fx.ah rfl rfl) (Fx.Qv (.slice (some ⟨g,0,none⟩) (n) (cap)) (fun v1 hv1=>Fx.ah rfl h16) (Fx.Qv (.int .i64 ((i2:Int))) (fun v1 hv1=>Fx.ah rfl h19) (Fx.Qv ((pf g i2)) (fun v1 hv1=>Fx.av rfl rfl rfl Tryd.underlying53 (s:=1) (by kernel_rfl) (by omega) (by omega) (by omega)) (Fx.Qv (.int .u64 ((gA dk) i2)) (fun v1 hv1=>Fx.ak (x:=Fx.rv .u64 (gA dk)) rfl rfl (by kernel_rfl) (m15.aL.below hv1 (by have:=m15.lt; omega)) (i:=i2) (by omega) (by omega) rfl) (Fx.Qv (.slice (some ⟨g,0,none⟩) (n) (cap)) (fun v1 hv1=>Fx.ah rfl h16) (Fx.Qv (.int .i64 ((a:Int))) (fun v1 hv1=>Fx.ah rfl GX) (Fx.Qv ((pf g a)) (fun v1 hv1=>Fx.av rfl rfl rfl Tryd.underlying53 (s:=1) (by kernel_rfl) (by omega) (by omega) (by omega)) (Fx.Qv (.int .u64 ((gA dk) a)) (fun v1 hv1=>Fx.ak (x:=Fx.rv .u64 (gA dk)) rfl rfl (by kernel_rfl) (m15.aL.below hv1 (by have:=m15.lt; omega)) (i:=a) (by omega) (by omega) rfl) ?_)))))))))
     by_cases xB:(decide ((gA dk) i2<(gA dk) a))=true
     ·refine Fx.Qt.call (v := .bool true) (by rfl) (fun v1 hv1=>Fx.rC (args := [.int .u64 ((gA dk) i2),.int .u64 ((gA dk) a)]) rfl rfl Tryd.func116 rfl rfl) rfl (fun v1 hv1=>(bU ((gA dk) i2) ((gA dk) a) _).mono fun e v2 h=>⟨by rw[h.1,xB],by rw[h.2]; exact hv1⟩) ?_
      refine Fx.Qv (.bool true) (fun v1 hv1=>Fx.aA rfl rfl rfl) (Fx.Qt.nil ?_)
      intro D8 sH
      have s10:Fx.Stp w8.heap.size w8 D8:=Fx.Sb sH
      have m16:=m15.bO s10 (Nat.ne_of_lt (m15.lt))
      have b14:=s10.below b13 (Nat.le_trans hB b13.size) (Nat.le_trans hB b13.size)
      refine Fx.sN (Fx.Wc (b:=true) rfl (fun _=>Fx.Wk (Fx.sN (Fx.W.block (Fx.Wl (Fx.Lv (.int .i64 ((i2:Int))) (Fx.ah rfl h19) ?_))))) (fun h=>nomatch h))
      refine Fx.Lv (.int .i64 ((i2:Int)+1)) (Fx.aS rfl rfl rfl Fx.io) (Fx.Lv (.int .i64 ((i2:Int)+1)) (Fx.aj rfl rfl) (Fx.Ln (Fx.dV (Fx.kg ⟨i2+1,((Jp (by omega) (of_decide_eq_true xB)).trans hX1),(by omega),h16,(GX.trans Fx.ic),(h18.trans Fx.ic),Fx.ic,(h20.trans Fx.ic),m16,b14⟩ ?_))))
      show((b:Int)-intOf ((.int .i64 ((i2:Int)+1)))).toNat<_
      simp only[h19,intOf]; omega
     rw[Bool.not_eq_true]at xB
     refine Fx.Qt.call (v := .bool false) (by rfl) (fun v1 hv1=>Fx.rC (args := [.int .u64 ((gA dk) i2),.int .u64 ((gA dk) a)]) rfl rfl Tryd.func116 rfl rfl) rfl (fun v1 hv1=>(bU ((gA dk) i2) ((gA dk) a) _).mono fun e v2 h=>⟨by rw[h.1,xB],by rw[h.2]; exact hv1⟩) ?_
     refine Fx.Qv (.bool false) (fun v1 hv1=>Fx.aA rfl rfl rfl) (Fx.Qt.nil ?_)
     intro Mj xw
     have s11:Fx.Stp w8.heap.size w8 Mj:=Fx.Sb xw
     have m17:=m15.bO s11 (Nat.ne_of_lt (m15.lt))
     have b15:=s11.below b13 (Nat.le_trans hB b13.size) (Nat.le_trans hB b13.size)
     refine Fx.sN (Fx.Wc (b:=false) rfl (fun h=>nomatch h) (fun _=>Fx.W.exit (Fx.dQ (Fx.jC (Fx.dR (Fx.sN (Fx.Ws (Fx.W.block (Fx.W.loop (fun f w_ => ∃ j2:Nat,Sort.partLoop Sort.ltInt a i2 j2 dk=Sort.partLoop Sort.ltInt a (a+1) (b-1) (Sort.swp d a p)/\((j2<i2 \/ ¬ gA dk i2<gA dk a))/\(j2<b/\j2<=j)/\f 0 = .slice (some ⟨g,0,none⟩) (n) (cap)/\f 1 = .int .i64 ((a:Int))/\f 2 = .int .i64 ((b:Int))/\f 10 = .int .i64 ((i2:Int))/\f 11 = .int .i64 ((j2:Int))/\Fx.Own w_ B 22 1 (.slice (some ⟨g,0,none⟩) n cap) n (Fx.rv .u64 (gA dk))/\Below B w w_) (fun f _=>(intOf (f 11)).toNat) ⟨j,hX1,(.inr (of_decide_eq_false xB)),(by omega),h16,(GX.trans Fx.ic),(h18.trans Fx.ic),(h19.trans Fx.ic),(h20.trans Fx.ic),m17,b15⟩ ?_)))))))))
     rintro f5 w9 ⟨j2,hX2,hst,Qo,h21,h22,h23,Ap,xC,m18,b16⟩
     refine Fx.Ws (Fx.Ws ?_)
     -- region 15 draws
     refine Fx.W.quiet (fun v1=>Below w9.heap.size w9 v1) (by kernel_rfl) (by kernel_rfl) (Below.refl _ _).drew ?_
     refine Fx.Qv (.int .i64 ((i2:Int))) (fun v1 hv1=>Fx.ah rfl Ap) (Fx.Qv (.int .i64 ((j2:Int))) (fun v1 hv1=>Fx.ah rfl xC) ?_)
     by_cases c117:(i2:Int)<=(j2:Int)
     ·refine Fx.Qv (.bool true) (fun v1 hv1=>Fx.gU rfl rfl rfl c117) (Fx.Qv (.bool true) (fun v1 hv1=>Fx.ah rfl rfl) (Fx.Qv (.slice (some ⟨g,0,none⟩) (n) (cap)) (fun v1 hv1=>Fx.ah rfl h21) (Fx.Qv (.int .i64 ((j2:Int))) (fun v1 hv1=>Fx.ah rfl xC) (Fx.Qv ((pf g j2)) (fun v1 hv1=>Fx.av rfl rfl rfl Tryd.underlying53 (s:=1) (by kernel_rfl) (by omega) (by omega) (by omega)) (Fx.Qv (.int .u64 ((gA dk) j2)) (fun v1 hv1=>Fx.ak (x:=Fx.rv .u64 (gA dk)) rfl rfl (by kernel_rfl) (m18.aL.below hv1 (by have:=m18.lt; omega)) (i:=j2) (by omega) (by omega) rfl) (Fx.Qv (.slice (some ⟨g,0,none⟩) (n) (cap)) (fun v1 hv1=>Fx.ah rfl h21) (Fx.Qv (.int .i64 ((a:Int))) (fun v1 hv1=>Fx.ah rfl h22) (Fx.Qv ((pf g a)) (fun v1 hv1=>Fx.av rfl rfl rfl Tryd.underlying53 (s:=1) (by kernel_rfl) (by omega) (by omega) (by omega)) (Fx.Qv (.int .u64 ((gA dk) a)) (fun v1 hv1=>Fx.ak (x:=Fx.rv .u64 (gA dk)) rfl rfl (by kernel_rfl) (m18.aL.below hv1 (by have:=m18.lt; omega)) (i:=a) (by omega) (by omega) rfl) ?_)))))))))
      by_cases c127:(decide ((gA dk) j2<(gA dk) a))=true
      ·refine Fx.Qt.call (v := .bool true) (by rfl) (fun v1 hv1=>Fx.rC (args := [.int .u64 ((gA dk) j2),.int .u64 ((gA dk) a)]) rfl rfl Tryd.func116 rfl rfl) rfl (fun v1 hv1=>(bU ((gA dk) j2) ((gA dk) a) _).mono fun e v2 h=>⟨by rw[h.1,c127],by rw[h.2]; exact hv1⟩) ?_
       refine Fx.Qv (.bool false) (fun v1 hv1=>Fx.dZ rfl rfl) (Fx.Qv (.bool false) (fun v1 hv1=>Fx.aA rfl rfl rfl) (Fx.Qt.nil ?_))
       intro Qf BP
       have s12:Fx.Stp w9.heap.size w9 Qf:=Fx.Sb BP
       have m19:=m18.bO s12 (Nat.ne_of_lt (m18.lt))
       have b17:=s12.below b16 (Nat.le_trans hB b16.size) (Nat.le_trans hB b16.size)
       refine Fx.sN (Fx.Wc (b:=false) rfl (fun h=>nomatch h) (fun _=>Fx.W.exit (Fx.dQ (Fx.jC (Fx.dR (Fx.sN (Fx.Ws (Fx.Ws (Fx.Wl (Fx.Lv (.int .i64 ((i2:Int))) (Fx.ah rfl Ap) (Fx.Lv (.int .i64 ((j2:Int))) (Fx.ah rfl xC) (Fx.Lv (.bool false) (Fx.dw rfl rfl rfl (by omega)) (Fx.Ln (Fx.sN (Fx.Wc (b:=false) rfl (fun h=>nomatch h) (fun _=>Fx.Wk (Fx.sN (Fx.Ws ?_))))))))))))))))))
       -- region 18 draws
       refine Fx.W.bH [0,1,2,3,4,5,6,8,9,10,7,11,12,13,14,15] [0,0,0,0,0,0,0,4,0,0,0,4,0,3,0,3] Fx.Mk Fx.Mk.refl Fx.Mk.trans (aQ := [(13,7,[7]),(15,7,[7]),(13,11,[11]),(15,11,[11]),(14,13,[13]),(15,13,[13])]) (by kernel_rfl) (by kernel_rfl) (by kernel_rfl) (by kernel_rfl) (by kernel_rfl) fun GU oV BS => ?_
       have s13:Fx.Stp Qf.heap.size Qf GU:=Fx.Sb oV
       have m20:=m19.bO s13 (Nat.ne_of_lt (m19.lt))
       have b18:=s13.below b17 (Nat.le_trans hB b17.size) (Nat.le_trans hB b17.size)
       refine Fx.Rp (.slice (some ⟨g,0,none⟩) (n) (cap)) (fun v1=>Fx.ah rfl h21) (Fx.Rp (.int .i64 ((i2:Int))) (fun v1=>Fx.ah rfl Ap) (Fx.Rp (.slice (some ⟨g,0,none⟩) (n) (cap)) (fun v1=>Fx.ah rfl h21) (Fx.Rp (.int .i64 ((j2:Int))) (fun v1=>Fx.ah rfl xC) (Fx.Rp (.slice (some ⟨g,0,none⟩) (n) (cap)) (fun v1=>Fx.ah rfl h21) (Fx.Rp (.int .i64 ((j2:Int))) (fun v1=>Fx.ah rfl xC) (Fx.Rp ((pf g j2)) (fun v1=>Fx.av rfl rfl rfl Tryd.underlying53 (s:=1) (by kernel_rfl) (by omega) (by omega) (by omega)) (Fx.Rp (.slice (some ⟨g,0,none⟩) (n) (cap)) (fun v1=>Fx.ah rfl h21) (Fx.Rp (.int .i64 ((i2:Int))) (fun v1=>Fx.ah rfl Ap) (Fx.Rp ((pf g i2)) (fun v1=>Fx.av rfl rfl rfl Tryd.underlying53 (s:=1) (by kernel_rfl) (by omega) (by omega) (by omega)) (Fx.R.s (.int .u64 ((gA dk) j2)) (Fx.ak (x:=Fx.rv .u64 (gA dk)) rfl rfl (by kernel_rfl) m20.aL (i:=j2) (by omega) (by omega) rfl) ?_))))))))))
       refine Fx.R.s (.int .u64 ((gA dk) i2)) (Fx.ak (x:=Fx.rv .u64 (gA dk)) rfl rfl (by kernel_rfl) m20.aL (i:=i2) (by omega) (by omega) rfl) ?_
       refine Fx.Rp ((pf g i2)) (fun v1=>Fx.av rfl rfl rfl Tryd.underlying53 (s:=1) (by kernel_rfl) (by omega) (by omega) (by omega)) (Fx.R.fP (by rfl) ?_)
       refine Fx.L.eU (x:=Fx.rv .u64 (gA dk)) (u := .int .u64 ((gA dk) j2)) (by rfl) rfl rfl rfl rfl (by rfl) (by kernel_rfl) m20 (i:=i2) (by omega) fun wo m21 LP z5 => ?_
       have b19:=LP.below b18 (Nat.le_trans hB b18.size) m20.blk.1
       refine Fx.Ln (Fx.Rp ((pf g j2)) (fun v1=>Fx.av rfl rfl rfl Tryd.underlying53 (s:=1) (by kernel_rfl) (by omega) (by omega) (by omega)) (Fx.R.fP (by rfl) ?_))
       refine Fx.L.eU (x:=Fx.eB (Fx.rv .u64 (gA dk)) i2 (.int .u64 ((gA dk) j2))) (u := .int .u64 ((gA dk) i2)) (by rfl) rfl rfl rfl rfl (by rfl) (by kernel_rfl) m21 (i:=j2) (by omega) fun Tq m22 s15 z6 => ?_
       have b20:=s15.below b19 (Nat.le_trans hB b19.size) m21.blk.1
       have m23:Fx.Own Tq B 22 1 (.slice (some ⟨g,0,none⟩) n cap) n (Fx.rv .u64 (gA (Sort.swp dk i2 j2))):=m22.congr (eO hk (by omega) (by omega))
       refine Fx.Ln (Fx.R.nil (Fx.sN (Fx.Ws (Fx.Wl (Fx.Lv (.int .i64 ((i2:Int))) (Fx.ah rfl Ap) (Fx.Lv (.int .i64 ((i2:Int)+1)) (Fx.aS rfl rfl rfl Fx.io) (Fx.Lv (.int .i64 ((i2:Int)+1)) (Fx.aj rfl rfl) (Fx.Ln (Fx.sN (Fx.Wl (Fx.Lv (.int .i64 ((j2:Int))) (Fx.ah rfl xC) (Fx.Lv (.int .i64 ((j2:Int)-1)) (Fx.bD rfl rfl rfl Fx.io) (Fx.Lv (.int .i64 ((j2:Int)-1)) (Fx.aj rfl rfl) (Fx.Ln (Fx.dV (Fx.kg ⟨i2+1,j2-1,Sort.swp dk i2 j2,(dz hk _ _),((zk (by omega) (hst.resolve_left (by omega)) (of_decide_eq_true c127)).trans hX2),(by omega),h21,(h22.trans Fx.ic),(h23.trans Fx.ic),Fx.ic,Fx.ic,m23,b20⟩ ?_))))))))))))))))
       show((b:Int)-intOf ((.int .i64 ((i2:Int)+1)))).toNat<_
       simp only[Bg,intOf]; omega
      rw[Bool.not_eq_true]at c127
      refine Fx.Qt.call (v := .bool false) (by rfl) (fun v1 hv1=>Fx.rC (args := [.int .u64 ((gA dk) j2),.int .u64 ((gA dk) a)]) rfl rfl Tryd.func116 rfl rfl) rfl (fun v1 hv1=>(bU ((gA dk) j2) ((gA dk) a) _).mono fun e v2 h=>⟨by rw[h.1,c127],by rw[h.2]; exact hv1⟩) ?_
      refine Fx.Qv (.bool true) (fun v1 hv1=>Fx.eH rfl rfl) (Fx.Qv (.bool true) (fun v1 hv1=>Fx.aA rfl rfl rfl) (Fx.Qt.nil ?_))
      intro Jr BQ
      have s16:Fx.Stp w9.heap.size w9 Jr:=Fx.Sb BQ
      have m24:=m18.bO s16 (Nat.ne_of_lt (m18.lt))
      have Xh:=s16.below b16 (Nat.le_trans hB b16.size) (Nat.le_trans hB b16.size)
      refine Fx.sN (Fx.Wc (b:=true) rfl (fun _=>Fx.Wk (Fx.sN (Fx.W.block (Fx.Wl (Fx.Lv (.int .i64 ((j2:Int))) (Fx.ah rfl xC) ?_))))) (fun h=>nomatch h))
      refine Fx.Lv (.int .i64 ((j2:Int)-1)) (Fx.bD rfl rfl rfl Fx.io) (Fx.Lv (.int .i64 ((j2:Int)-1)) (Fx.aj rfl rfl) (Fx.Ln (Fx.dV (Fx.kg ⟨j2-1,((zi (by omega) (by omega) (hst.resolve_left (by omega)) (of_decide_eq_false c127)).trans hX2),(hst.elim (fun h => .inl (by omega)) .inr),(by omega),h21,(h22.trans Fx.ic),(h23.trans Fx.ic),(Ap.trans Fx.ic),Fx.ic,m24,Xh⟩ ?_))))
      show(intOf ((.int .i64 ((j2:Int)-1)))).toNat<_
      simp only[xC,intOf]; omega
     refine Fx.Qv (.bool false) (fun v1 hv1=>Fx.dI rfl rfl rfl c117) (Fx.Qv (.bool false) (fun v1 hv1=>Fx.ah rfl rfl) (Fx.Qs (by rfl) rfl (Fx.Qs (by rfl) rfl (Fx.Qs (by rfl) rfl (Fx.Qs (by rfl) rfl (Fx.Qs (by rfl) rfl (Fx.Qs (by rfl) rfl (Fx.Qs (by rfl) rfl (Fx.Qs (by rfl) rfl (Fx.Qs (by rfl) rfl (Fx.Qs (by rfl) rfl (Fx.Qv (.bool false) (fun v1 hv1=>Fx.aJ rfl rfl rfl) (Fx.Qt.nil ?_)))))))))))))
     intro Js BR
     have Tn:Fx.Stp w9.heap.size w9 Js:=Fx.Sb BR
     have qC:=m18.bO Tn (Nat.ne_of_lt (m18.lt))
     have Ut:=Tn.below b16 (Nat.le_trans hB b16.size) (Nat.le_trans hB b16.size)
     refine Fx.sN (Fx.Wc (b:=false) rfl (fun h=>nomatch h) (fun _=>Fx.W.exit (Fx.dQ (Fx.jC (Fx.dR (Fx.sN (Fx.Ws (Fx.Ws (Fx.Wl (Fx.Lv (.int .i64 ((i2:Int))) (Fx.ah rfl Ap) (Fx.Lv (.int .i64 ((j2:Int))) (Fx.ah rfl xC) (Fx.Lv (.bool true) (Fx.iy rfl rfl rfl (by omega)) (Fx.Ln (Fx.sN (Fx.Wc (b:=true) rfl (fun _=>Fx.W.exit (Fx.dQ (Fx.DR rfl (Fx.jC (Fx.dR (Fx.sN (Fx.Ws ?_))))))) (fun h=>nomatch h))))))))))))))))
     -- region 21 draws
     refine Fx.W.bH [0,1,2,3,4,5,6,8,9,10,7,11,12,13,14,15] [0,0,0,0,0,0,0,4,0,0,0,4,0,3,0,3] Fx.Mk Fx.Mk.refl Fx.Mk.trans (aQ := [(13,7,[7]),(15,7,[7]),(13,11,[11]),(15,11,[11]),(14,13,[13]),(15,13,[13])]) (by kernel_rfl) (by kernel_rfl) (by kernel_rfl) (by kernel_rfl) (by kernel_rfl) fun Qp Cb OO => ?_
     have OL:Fx.Stp Js.heap.size Js Qp:=Fx.Sb Cb
     have oZ:=qC.bO OL (Nat.ne_of_lt (qC.lt))
     have b23:=OL.below Ut (Nat.le_trans hB Ut.size) (Nat.le_trans hB Ut.size)
     refine Fx.Rp (.slice (some ⟨g,0,none⟩) (n) (cap)) (fun v1=>Fx.ah rfl h21) (Fx.Rp (.int .i64 ((j2:Int))) (fun v1=>Fx.ah rfl xC) (Fx.Rp (.slice (some ⟨g,0,none⟩) (n) (cap)) (fun v1=>Fx.ah rfl h21) (Fx.Rp (.int .i64 ((a:Int))) (fun v1=>Fx.ah rfl h22) (Fx.Rp (.slice (some ⟨g,0,none⟩) (n) (cap)) (fun v1=>Fx.ah rfl h21) (Fx.Rp (.int .i64 ((a:Int))) (fun v1=>Fx.ah rfl h22) (Fx.Rp ((pf g a)) (fun v1=>Fx.av rfl rfl rfl Tryd.underlying53 (s:=1) (by kernel_rfl) (by omega) (by omega) (by omega)) (Fx.Rp (.slice (some ⟨g,0,none⟩) (n) (cap)) (fun v1=>Fx.ah rfl h21) (Fx.Rp (.int .i64 ((j2:Int))) (fun v1=>Fx.ah rfl xC) (Fx.Rp ((pf g j2)) (fun v1=>Fx.av rfl rfl rfl Tryd.underlying53 (s:=1) (by kernel_rfl) (by omega) (by omega) (by omega)) (Fx.R.s (.int .u64 ((gA dk) a)) (Fx.ak (x:=Fx.rv .u64 (gA dk)) rfl rfl (by kernel_rfl) oZ.aL (i:=a) (by omega) (by omega) rfl) ?_))))))))))
     refine Fx.R.s (.int .u64 ((gA dk) j2)) (Fx.ak (x:=Fx.rv .u64 (gA dk)) rfl rfl (by kernel_rfl) oZ.aL (i:=j2) (by omega) (by omega) rfl) ?_
     refine Fx.Rp ((pf g j2)) (fun v1=>Fx.av rfl rfl rfl Tryd.underlying53 (s:=1) (by kernel_rfl) (by omega) (by omega) (by omega)) (Fx.R.fP (by rfl) ?_)
     refine Fx.L.eU (x:=Fx.rv .u64 (gA dk)) (u := .int .u64 ((gA dk) a)) (by rfl) rfl rfl rfl rfl (by rfl) (by kernel_rfl) oZ (i:=j2) (by omega) fun Tt qU s19 z7 => ?_
     have b24:=s19.below b23 (Nat.le_trans hB b23.size) oZ.blk.1
     refine Fx.Ln (Fx.Rp ((pf g a)) (fun v1=>Fx.av rfl rfl rfl Tryd.underlying53 (s:=1) (by kernel_rfl) (by omega) (by omega) (by omega)) (Fx.R.fP (by rfl) ?_))
     refine Fx.L.eU (x:=Fx.eB (Fx.rv .u64 (gA dk)) j2 (.int .u64 ((gA dk) a))) (u := .int .u64 ((gA dk) j2)) (by rfl) rfl rfl rfl rfl (by rfl) (by kernel_rfl) qU (i:=a) (by omega) fun Uv qV s20 z8 => ?_
     have b25:=s20.below b24 (Nat.le_trans hB b24.size) qU.blk.1
     have qD:Fx.Own Uv B 22 1 (.slice (some ⟨g,0,none⟩) n cap) n (Fx.rv .u64 (gA (Sort.swp dk j2 a))):=qV.congr (eO hk (by omega) (by omega))
     refine Fx.Ln (Fx.R.nil (Fx.sN (Fx.Ws (Fx.Wl (Fx.Lv (.int .i64 ((j2:Int))) (Fx.ah rfl xC) (Fx.Lv (.int .i64 ((j2:Int))) (Fx.aj rfl rfl) (Fx.Lv (.bool false) (Fx.aj rfl rfl) (Fx.Ln (Fx.sN (Fx.Wr (⟨.tuple #[.int .i64 ((j2:Int)),.bool false],Fx.cB Tryd.results118 (by exact rfl) (by exact rfl),?_⟩)))))))))))
     have hR:=hX2.symm.trans (uq (by omega))
     exact⟨j2,false,_,rfl,by rw[Sort.partition_fst,hR],by rw[Sort.partition_arr,hR],(dz hk _ _),qD,b25⟩
    refine Fx.Qv (.bool false) (fun v1 hv1=>Fx.dI rfl rfl rfl Jv) (Fx.Qv (.bool false) (fun v1 hv1=>Fx.ah rfl rfl) (Fx.Qs (by rfl) rfl (Fx.Qs (by rfl) rfl (Fx.Qs (by rfl) rfl (Fx.Qs (by rfl) rfl (Fx.Qs (by rfl) rfl (Fx.Qs (by rfl) rfl (Fx.Qs (by rfl) rfl (Fx.Qs (by rfl) rfl (Fx.Qs (by rfl) rfl (Fx.Qv (.bool false) (fun v1 hv1=>Fx.aJ rfl rfl rfl) (Fx.Qt.nil ?_))))))))))))
    intro Uh BU
    have s21:Fx.Stp w8.heap.size w8 Uh:=Fx.Sb BU
    have sJ:=m15.bO s21 (Nat.ne_of_lt (m15.lt))
    have b26:=s21.below b13 (Nat.le_trans hB b13.size) (Nat.le_trans hB b13.size)
    refine Fx.sN (Fx.Wc (b:=false) rfl (fun h=>nomatch h) (fun _=>Fx.W.exit (Fx.dQ (Fx.jC (Fx.dR (Fx.sN (Fx.Ws (Fx.W.block (Fx.W.loop (fun f w_ => ∃ j2:Nat,Sort.partLoop Sort.ltInt a i2 j2 dk=Sort.partLoop Sort.ltInt a (a+1) (b-1) (Sort.swp d a p)/\((j2<i2 \/ ¬ gA dk i2<gA dk a))/\(j2<b/\j2<=j)/\f 0 = .slice (some ⟨g,0,none⟩) (n) (cap)/\f 1 = .int .i64 ((a:Int))/\f 2 = .int .i64 ((b:Int))/\f 10 = .int .i64 ((i2:Int))/\f 11 = .int .i64 ((j2:Int))/\Fx.Own w_ B 22 1 (.slice (some ⟨g,0,none⟩) n cap) n (Fx.rv .u64 (gA dk))/\Below B w w_) (fun f _=>(intOf (f 11)).toNat) ⟨j,hX1,(.inl (by omega)),(by omega),h16,(GX.trans Fx.ic),(h18.trans Fx.ic),(h19.trans Fx.ic),(h20.trans Fx.ic),sJ,b26⟩ ?_)))))))))
    rintro f6 Jw ⟨j2,hX2,hst,Qo,yx,h27,V6,LQ,Cc,mH,Mt⟩
    refine Fx.Ws (Fx.Ws ?_)
    -- region 15 draws
    refine Fx.W.quiet (fun v1=>Below Jw.heap.size Jw v1) (by kernel_rfl) (by kernel_rfl) (Below.refl _ _).drew ?_
    refine Fx.Qv (.int .i64 ((i2:Int))) (fun v1 hv1=>Fx.ah rfl LQ) (Fx.Qv (.int .i64 ((j2:Int))) (fun v1 hv1=>Fx.ah rfl Cc) ?_)
    by_cases c117:(i2:Int)<=(j2:Int)
    ·refine Fx.Qv (.bool true) (fun v1 hv1=>Fx.gU rfl rfl rfl c117) (Fx.Qv (.bool true) (fun v1 hv1=>Fx.ah rfl rfl) (Fx.Qv (.slice (some ⟨g,0,none⟩) (n) (cap)) (fun v1 hv1=>Fx.ah rfl yx) (Fx.Qv (.int .i64 ((j2:Int))) (fun v1 hv1=>Fx.ah rfl Cc) (Fx.Qv ((pf g j2)) (fun v1 hv1=>Fx.av rfl rfl rfl Tryd.underlying53 (s:=1) (by kernel_rfl) (by omega) (by omega) (by omega)) (Fx.Qv (.int .u64 ((gA dk) j2)) (fun v1 hv1=>Fx.ak (x:=Fx.rv .u64 (gA dk)) rfl rfl (by kernel_rfl) (mH.aL.below hv1 (by have:=mH.lt; omega)) (i:=j2) (by omega) (by omega) rfl) (Fx.Qv (.slice (some ⟨g,0,none⟩) (n) (cap)) (fun v1 hv1=>Fx.ah rfl yx) (Fx.Qv (.int .i64 ((a:Int))) (fun v1 hv1=>Fx.ah rfl h27) (Fx.Qv ((pf g a)) (fun v1 hv1=>Fx.av rfl rfl rfl Tryd.underlying53 (s:=1) (by kernel_rfl) (by omega) (by omega) (by omega)) (Fx.Qv (.int .u64 ((gA dk) a)) (fun v1 hv1=>Fx.ak (x:=Fx.rv .u64 (gA dk)) rfl rfl (by kernel_rfl) (mH.aL.below hv1 (by have:=mH.lt; omega)) (i:=a) (by omega) (by omega) rfl) ?_)))))))))
     by_cases c127:(decide ((gA dk) j2<(gA dk) a))=true
     ·refine Fx.Qt.call (v := .bool true) (by rfl) (fun v1 hv1=>Fx.rC (args := [.int .u64 ((gA dk) j2),.int .u64 ((gA dk) a)]) rfl rfl Tryd.func116 rfl rfl) rfl (fun v1 hv1=>(bU ((gA dk) j2) ((gA dk) a) _).mono fun e v2 h=>⟨by rw[h.1,c127],by rw[h.2]; exact hv1⟩) ?_
      refine Fx.Qv (.bool false) (fun v1 hv1=>Fx.dZ rfl rfl) (Fx.Qv (.bool false) (fun v1 hv1=>Fx.aA rfl rfl rfl) (Fx.Qt.nil ?_))
      intro Qq Qr
      have s22:Fx.Stp Jw.heap.size Jw Qq:=Fx.Sb Qr
      have m32:=mH.bO s22 (Nat.ne_of_lt (mH.lt))
      have Xk:=s22.below Mt (Nat.le_trans hB Mt.size) (Nat.le_trans hB Mt.size)
      refine Fx.sN (Fx.Wc (b:=false) rfl (fun h=>nomatch h) (fun _=>Fx.W.exit (Fx.dQ (Fx.jC (Fx.dR (Fx.sN (Fx.Ws (Fx.Ws (Fx.Wl (Fx.Lv (.int .i64 ((i2:Int))) (Fx.ah rfl LQ) (Fx.Lv (.int .i64 ((j2:Int))) (Fx.ah rfl Cc) (Fx.Lv (.bool false) (Fx.dw rfl rfl rfl (by omega)) (Fx.Ln (Fx.sN (Fx.Wc (b:=false) rfl (fun h=>nomatch h) (fun _=>Fx.Wk (Fx.sN (Fx.Ws ?_))))))))))))))))))
      -- region 18 draws
      refine Fx.W.bH [0,1,2,3,4,5,6,8,9,10,7,11,12,13,14,15] [0,0,0,0,0,0,0,4,0,0,0,4,0,3,0,3] Fx.Mk Fx.Mk.refl Fx.Mk.trans (aQ := [(13,7,[7]),(15,7,[7]),(13,11,[11]),(15,11,[11]),(14,13,[13]),(15,13,[13])]) (by kernel_rfl) (by kernel_rfl) (by kernel_rfl) (by kernel_rfl) (by kernel_rfl) fun Xl Jy Uw => ?_
      have s23:Fx.Stp Qq.heap.size Qq Xl:=Fx.Sb Jy
      have mI:=m32.bO s23 (Nat.ne_of_lt (m32.lt))
      have b29:=s23.below Xk (Nat.le_trans hB Xk.size) (Nat.le_trans hB Xk.size)
      refine Fx.Rp (.slice (some ⟨g,0,none⟩) (n) (cap)) (fun v1=>Fx.ah rfl yx) (Fx.Rp (.int .i64 ((i2:Int))) (fun v1=>Fx.ah rfl LQ) (Fx.Rp (.slice (some ⟨g,0,none⟩) (n) (cap)) (fun v1=>Fx.ah rfl yx) (Fx.Rp (.int .i64 ((j2:Int))) (fun v1=>Fx.ah rfl Cc) (Fx.Rp (.slice (some ⟨g,0,none⟩) (n) (cap)) (fun v1=>Fx.ah rfl yx) (Fx.Rp (.int .i64 ((j2:Int))) (fun v1=>Fx.ah rfl Cc) (Fx.Rp ((pf g j2)) (fun v1=>Fx.av rfl rfl rfl Tryd.underlying53 (s:=1) (by kernel_rfl) (by omega) (by omega) (by omega)) (Fx.Rp (.slice (some ⟨g,0,none⟩) (n) (cap)) (fun v1=>Fx.ah rfl yx) (Fx.Rp (.int .i64 ((i2:Int))) (fun v1=>Fx.ah rfl LQ) (Fx.Rp ((pf g i2)) (fun v1=>Fx.av rfl rfl rfl Tryd.underlying53 (s:=1) (by kernel_rfl) (by omega) (by omega) (by omega)) (Fx.R.s (.int .u64 ((gA dk) j2)) (Fx.ak (x:=Fx.rv .u64 (gA dk)) rfl rfl (by kernel_rfl) mI.aL (i:=j2) (by omega) (by omega) rfl) ?_))))))))))
      refine Fx.R.s (.int .u64 ((gA dk) i2)) (Fx.ak (x:=Fx.rv .u64 (gA dk)) rfl rfl (by kernel_rfl) mI.aL (i:=i2) (by omega) (by omega) rfl) ?_
      refine Fx.Rp ((pf g i2)) (fun v1=>Fx.av rfl rfl rfl Tryd.underlying53 (s:=1) (by kernel_rfl) (by omega) (by omega) (by omega)) (Fx.R.fP (by rfl) ?_)
      refine Fx.L.eU (x:=Fx.rv .u64 (gA dk)) (u := .int .u64 ((gA dk) j2)) (by rfl) rfl rfl rfl rfl (by rfl) (by kernel_rfl) mI (i:=i2) (by omega) fun Xm nO s24 z9 => ?_
      have b30:=s24.below b29 (Nat.le_trans hB b29.size) mI.blk.1
      refine Fx.Ln (Fx.Rp ((pf g j2)) (fun v1=>Fx.av rfl rfl rfl Tryd.underlying53 (s:=1) (by kernel_rfl) (by omega) (by omega) (by omega)) (Fx.R.fP (by rfl) ?_))
      refine Fx.L.eU (x:=Fx.eB (Fx.rv .u64 (gA dk)) i2 (.int .u64 ((gA dk) j2))) (u := .int .u64 ((gA dk) i2)) (by rfl) rfl rfl rfl rfl (by rfl) (by kernel_rfl) nO (i:=j2) (by omega) fun w16 qW s25 z10 => ?_
      have b31:=s25.below b30 (Nat.le_trans hB b30.size) nO.blk.1
      have nu:Fx.Own w16 B 22 1 (.slice (some ⟨g,0,none⟩) n cap) n (Fx.rv .u64 (gA (Sort.swp dk i2 j2))):=qW.congr (eO hk (by omega) (by omega))
      refine Fx.Ln (Fx.R.nil (Fx.sN (Fx.Ws (Fx.Wl (Fx.Lv (.int .i64 ((i2:Int))) (Fx.ah rfl LQ) (Fx.Lv (.int .i64 ((i2:Int)+1)) (Fx.aS rfl rfl rfl Fx.io) (Fx.Lv (.int .i64 ((i2:Int)+1)) (Fx.aj rfl rfl) (Fx.Ln (Fx.sN (Fx.Wl (Fx.Lv (.int .i64 ((j2:Int))) (Fx.ah rfl Cc) (Fx.Lv (.int .i64 ((j2:Int)-1)) (Fx.bD rfl rfl rfl Fx.io) (Fx.Lv (.int .i64 ((j2:Int)-1)) (Fx.aj rfl rfl) (Fx.Ln (Fx.dV (Fx.kg ⟨i2+1,j2-1,Sort.swp dk i2 j2,(dz hk _ _),((zk (by omega) (hst.resolve_left (by omega)) (of_decide_eq_true c127)).trans hX2),(by omega),yx,(h27.trans Fx.ic),(V6.trans Fx.ic),Fx.ic,Fx.ic,nu,b31⟩ ?_))))))))))))))))
      show((b:Int)-intOf ((.int .i64 ((i2:Int)+1)))).toNat<_
      simp only[Bg,intOf]; omega
     rw[Bool.not_eq_true]at c127
     refine Fx.Qt.call (v := .bool false) (by rfl) (fun v1 hv1=>Fx.rC (args := [.int .u64 ((gA dk) j2),.int .u64 ((gA dk) a)]) rfl rfl Tryd.func116 rfl rfl) rfl (fun v1 hv1=>(bU ((gA dk) j2) ((gA dk) a) _).mono fun e v2 h=>⟨by rw[h.1,c127],by rw[h.2]; exact hv1⟩) ?_
     refine Fx.Qv (.bool true) (fun v1 hv1=>Fx.eH rfl rfl) (Fx.Qv (.bool true) (fun v1 hv1=>Fx.aA rfl rfl rfl) (Fx.Qt.nil ?_))
     intro Xn Qu
     have s26:Fx.Stp Jw.heap.size Jw Xn:=Fx.Sb Qu
     have vL:=mH.bO s26 (Nat.ne_of_lt (mH.lt))
     have b32:=s26.below Mt (Nat.le_trans hB Mt.size) (Nat.le_trans hB Mt.size)
     refine Fx.sN (Fx.Wc (b:=true) rfl (fun _=>Fx.Wk (Fx.sN (Fx.W.block (Fx.Wl (Fx.Lv (.int .i64 ((j2:Int))) (Fx.ah rfl Cc) ?_))))) (fun h=>nomatch h))
     refine Fx.Lv (.int .i64 ((j2:Int)-1)) (Fx.bD rfl rfl rfl Fx.io) (Fx.Lv (.int .i64 ((j2:Int)-1)) (Fx.aj rfl rfl) (Fx.Ln (Fx.dV (Fx.kg ⟨j2-1,((zi (by omega) (by omega) (hst.resolve_left (by omega)) (of_decide_eq_false c127)).trans hX2),(hst.elim (fun h => .inl (by omega)) .inr),(by omega),yx,(h27.trans Fx.ic),(V6.trans Fx.ic),(LQ.trans Fx.ic),Fx.ic,vL,b32⟩ ?_))))
     show(intOf ((.int .i64 ((j2:Int)-1)))).toNat<_
     simp only[Cc,intOf]; omega
    refine Fx.Qv (.bool false) (fun v1 hv1=>Fx.dI rfl rfl rfl c117) (Fx.Qv (.bool false) (fun v1 hv1=>Fx.ah rfl rfl) (Fx.Qs (by rfl) rfl (Fx.Qs (by rfl) rfl (Fx.Qs (by rfl) rfl (Fx.Qs (by rfl) rfl (Fx.Qs (by rfl) rfl (Fx.Qs (by rfl) rfl (Fx.Qs (by rfl) rfl (Fx.Qs (by rfl) rfl (Fx.Qs (by rfl) rfl (Fx.Qs (by rfl) rfl (Fx.Qv (.bool false) (fun v1 hv1=>Fx.aJ rfl rfl rfl) (Fx.Qt.nil ?_)))))))))))))
    intro Qw Qx
    have s27:Fx.Stp Jw.heap.size Jw Qw:=Fx.Sb Qx
    have vM:=mH.bO s27 (Nat.ne_of_lt (mH.lt))
    have Xo:=s27.below Mt (Nat.le_trans hB Mt.size) (Nat.le_trans hB Mt.size)
    refine Fx.sN (Fx.Wc (b:=false) rfl (fun h=>nomatch h) (fun _=>Fx.W.exit (Fx.dQ (Fx.jC (Fx.dR (Fx.sN (Fx.Ws (Fx.Ws (Fx.Wl (Fx.Lv (.int .i64 ((i2:Int))) (Fx.ah rfl LQ) (Fx.Lv (.int .i64 ((j2:Int))) (Fx.ah rfl Cc) (Fx.Lv (.bool true) (Fx.iy rfl rfl rfl (by omega)) (Fx.Ln (Fx.sN (Fx.Wc (b:=true) rfl (fun _=>Fx.W.exit (Fx.dQ (Fx.DR rfl (Fx.jC (Fx.dR (Fx.sN (Fx.Ws ?_))))))) (fun h=>nomatch h))))))))))))))))
    -- region 21 draws
    refine Fx.W.bH [0,1,2,3,4,5,6,8,9,10,7,11,12,13,14,15] [0,0,0,0,0,0,0,4,0,0,0,4,0,3,0,3] Fx.Mk Fx.Mk.refl Fx.Mk.trans (aQ := [(13,7,[7]),(15,7,[7]),(13,11,[11]),(15,11,[11]),(14,13,[13]),(15,13,[13])]) (by kernel_rfl) (by kernel_rfl) (by kernel_rfl) (by kernel_rfl) (by kernel_rfl) fun wt6 Ux aaP => ?_
    have s28:Fx.Stp Qw.heap.size Qw wt6:=Fx.Sb Ux
    have qE:=vM.bO s28 (Nat.ne_of_lt (vM.lt))
    have b34:=s28.below Xo (Nat.le_trans hB Xo.size) (Nat.le_trans hB Xo.size)
    refine Fx.Rp (.slice (some ⟨g,0,none⟩) (n) (cap)) (fun v1=>Fx.ah rfl yx) (Fx.Rp (.int .i64 ((j2:Int))) (fun v1=>Fx.ah rfl Cc) (Fx.Rp (.slice (some ⟨g,0,none⟩) (n) (cap)) (fun v1=>Fx.ah rfl yx) (Fx.Rp (.int .i64 ((a:Int))) (fun v1=>Fx.ah rfl h27) (Fx.Rp (.slice (some ⟨g,0,none⟩) (n) (cap)) (fun v1=>Fx.ah rfl yx) (Fx.Rp (.int .i64 ((a:Int))) (fun v1=>Fx.ah rfl h27) (Fx.Rp ((pf g a)) (fun v1=>Fx.av rfl rfl rfl Tryd.underlying53 (s:=1) (by kernel_rfl) (by omega) (by omega) (by omega)) (Fx.Rp (.slice (some ⟨g,0,none⟩) (n) (cap)) (fun v1=>Fx.ah rfl yx) (Fx.Rp (.int .i64 ((j2:Int))) (fun v1=>Fx.ah rfl Cc) (Fx.Rp ((pf g j2)) (fun v1=>Fx.av rfl rfl rfl Tryd.underlying53 (s:=1) (by kernel_rfl) (by omega) (by omega) (by omega)) (Fx.R.s (.int .u64 ((gA dk) a)) (Fx.ak (x:=Fx.rv .u64 (gA dk)) rfl rfl (by kernel_rfl) qE.aL (i:=a) (by omega) (by omega) rfl) ?_))))))))))
    refine Fx.R.s (.int .u64 ((gA dk) j2)) (Fx.ak (x:=Fx.rv .u64 (gA dk)) rfl rfl (by kernel_rfl) qE.aL (i:=j2) (by omega) (by omega) rfl) ?_
    refine Fx.Rp ((pf g j2)) (fun v1=>Fx.av rfl rfl rfl Tryd.underlying53 (s:=1) (by kernel_rfl) (by omega) (by omega) (by omega)) (Fx.R.fP (by rfl) ?_)
    refine Fx.L.eU (x:=Fx.rv .u64 (gA dk)) (u := .int .u64 ((gA dk) a)) (by rfl) rfl rfl rfl rfl (by rfl) (by kernel_rfl) qE (i:=j2) (by omega) fun Xp qm s29 z11 => ?_
    have b35:=s29.below b34 (Nat.le_trans hB b34.size) qE.blk.1
    refine Fx.Ln (Fx.Rp ((pf g a)) (fun v1=>Fx.av rfl rfl rfl Tryd.underlying53 (s:=1) (by kernel_rfl) (by omega) (by omega) (by omega)) (Fx.R.fP (by rfl) ?_))
    refine Fx.L.eU (x:=Fx.eB (Fx.rv .u64 (gA dk)) j2 (.int .u64 ((gA dk) a))) (u := .int .u64 ((gA dk) j2)) (by rfl) rfl rfl rfl rfl (by rfl) (by kernel_rfl) qm (i:=a) (by omega) fun w18 nP s30 z12 => ?_
    have b36:=s30.below b35 (Nat.le_trans hB b35.size) qm.blk.1
    have oH:Fx.Own w18 B 22 1 (.slice (some ⟨g,0,none⟩) n cap) n (Fx.rv .u64 (gA (Sort.swp dk j2 a))):=nP.congr (eO hk (by omega) (by omega))
    refine Fx.Ln (Fx.R.nil (Fx.sN (Fx.Ws (Fx.Wl (Fx.Lv (.int .i64 ((j2:Int))) (Fx.ah rfl Cc) (Fx.Lv (.int .i64 ((j2:Int))) (Fx.aj rfl rfl) (Fx.Lv (.bool false) (Fx.aj rfl rfl) (Fx.Ln (Fx.sN (Fx.Wr (⟨.tuple #[.int .i64 ((j2:Int)),.bool false],Fx.cB Tryd.results118 (by exact rfl) (by exact rfl),?_⟩)))))))))))
    have hR:=hX2.symm.trans (uq (by omega))
    exact⟨j2,false,_,rfl,by rw[Sort.partition_fst,hR],by rw[Sort.partition_arr,hR],(dz hk _ _),oH,b36⟩
   rw[Bool.not_eq_true]at xA
   refine Fx.Qt.call (v := .bool false) (by rfl) (fun v1 hv1=>Fx.rC (args := [.int .u64 ((gA (Sort.swp d a p)) j0),.int .u64 ((gA (Sort.swp d a p)) a)]) rfl rfl Tryd.func116 rfl rfl) rfl (fun v1 hv1=>(bU ((gA (Sort.swp d a p)) j0) ((gA (Sort.swp d a p)) a) _).mono fun e v2 h=>⟨by rw[h.1,xA],by rw[h.2]; exact hv1⟩) ?_
   refine Fx.Qv (.bool true) (fun v1 hv1=>Fx.eH rfl rfl) (Fx.Qv (.bool true) (fun v1 hv1=>Fx.aA rfl rfl rfl) (Fx.Qt.nil ?_))
   intro Xq Qy
   have s31:Fx.Stp w4.heap.size w4 Xq:=Fx.Sb Qy
   have oo:=m8.bO s31 (Nat.ne_of_lt (m8.lt))
   have b37:=s31.below b7 (Nat.le_trans hB b7.size) (Nat.le_trans hB b7.size)
   refine Fx.sN (Fx.Wc (b:=true) rfl (fun _=>Fx.Wk (Fx.sN (Fx.W.block (Fx.Wl (Fx.Lv (.int .i64 ((j0:Int))) (Fx.ah rfl h10) ?_))))) (fun h=>nomatch h))
   refine Fx.Lv (.int .i64 ((j0:Int)-1)) (Fx.bD rfl rfl rfl Fx.io) (Fx.Lv (.int .i64 ((j0:Int)-1)) (Fx.aj rfl rfl) (Fx.Ln (Fx.dV (Fx.kg ⟨j0-1,((zi (by omega) (by omega) (um.resolve_left (by omega)) (of_decide_eq_false xA)).trans Qn),(um.elim (fun h => .inl (by omega)) .inr),(by omega),h6,(h7.trans Fx.ic),(h8.trans Fx.ic),(h9.trans Fx.ic),Fx.ic,oo,b37⟩ ?_))))
   show(intOf ((.int .i64 ((j0:Int)-1)))).toNat<_
   simp only[h10,intOf]; omega
  refine Fx.Qv (.bool false) (fun v1 hv1=>Fx.dI rfl rfl rfl Fv) (Fx.Qv (.bool false) (fun v1 hv1=>Fx.ah rfl rfl) (Fx.Qs (by rfl) rfl (Fx.Qs (by rfl) rfl (Fx.Qs (by rfl) rfl (Fx.Qs (by rfl) rfl (Fx.Qs (by rfl) rfl (Fx.Qs (by rfl) rfl (Fx.Qs (by rfl) rfl (Fx.Qs (by rfl) rfl (Fx.Qs (by rfl) rfl (Fx.Qs (by rfl) rfl (Fx.Qv (.bool false) (fun v1 hv1=>Fx.aJ rfl rfl rfl) (Fx.Qt.nil ?_)))))))))))))
  intro Qz QA
  have s32:Fx.Stp w4.heap.size w4 Qz:=Fx.Sb QA
  have tT:=m8.bO s32 (Nat.ne_of_lt (m8.lt))
  have Xr:=s32.below b7 (Nat.le_trans hB b7.size) (Nat.le_trans hB b7.size)
  refine Fx.sN (Fx.Wc (b:=false) rfl (fun h=>nomatch h) (fun _=>Fx.W.exit (Fx.dQ (Fx.jC (Fx.dR (Fx.sN (Fx.Ws (Fx.Ws (Fx.Wl (Fx.Lv (.int .i64 ((i0:Int))) (Fx.ah rfl h9) (Fx.Lv (.int .i64 ((j0:Int))) (Fx.ah rfl h10) (Fx.Lv (.bool true) (Fx.iy rfl rfl rfl (by omega)) (Fx.Ln (Fx.sN (Fx.Wc (b:=true) rfl (fun _=>Fx.Ws ?_) (fun h=>nomatch h))))))))))))))))
  -- region 8 draws
  refine Fx.W.bH [0,1,2,3,4,5,6,8,9,10,7,11,12,13,14,15] [0,0,0,0,0,0,0,4,0,0,0,4,0,3,0,3] Fx.Mk Fx.Mk.refl Fx.Mk.trans (aQ := [(13,7,[7]),(15,7,[7]),(13,11,[11]),(15,11,[11]),(14,13,[13]),(15,13,[13])]) (by kernel_rfl) (by kernel_rfl) (by kernel_rfl) (by kernel_rfl) (by kernel_rfl) fun wt7 Uy aaV => ?_
  have s33:Fx.Stp Qz.heap.size Qz wt7:=Fx.Sb Uy
  have pq:=tT.bO s33 (Nat.ne_of_lt (tT.lt))
  have b39:=s33.below Xr (Nat.le_trans hB Xr.size) (Nat.le_trans hB Xr.size)
  refine Fx.Rp (.slice (some ⟨g,0,none⟩) (n) (cap)) (fun v1=>Fx.ah rfl h6) (Fx.Rp (.int .i64 ((j0:Int))) (fun v1=>Fx.ah rfl h10) (Fx.Rp (.slice (some ⟨g,0,none⟩) (n) (cap)) (fun v1=>Fx.ah rfl h6) (Fx.Rp (.int .i64 ((a:Int))) (fun v1=>Fx.ah rfl h7) (Fx.Rp (.slice (some ⟨g,0,none⟩) (n) (cap)) (fun v1=>Fx.ah rfl h6) (Fx.Rp (.int .i64 ((a:Int))) (fun v1=>Fx.ah rfl h7) (Fx.Rp ((pf g a)) (fun v1=>Fx.av rfl rfl rfl Tryd.underlying53 (s:=1) (by kernel_rfl) (by omega) (by omega) (by omega)) (Fx.Rp (.slice (some ⟨g,0,none⟩) (n) (cap)) (fun v1=>Fx.ah rfl h6) (Fx.Rp (.int .i64 ((j0:Int))) (fun v1=>Fx.ah rfl h10) (Fx.Rp ((pf g j0)) (fun v1=>Fx.av rfl rfl rfl Tryd.underlying53 (s:=1) (by kernel_rfl) (by omega) (by omega) (by omega)) (Fx.R.s (.int .u64 ((gA (Sort.swp d a p)) a)) (Fx.ak (x:=Fx.rv .u64 (gA (Sort.swp d a p))) rfl rfl (by kernel_rfl) pq.aL (i:=a) (by omega) (by omega) rfl) ?_))))))))))
  refine Fx.R.s (.int .u64 ((gA (Sort.swp d a p)) j0)) (Fx.ak (x:=Fx.rv .u64 (gA (Sort.swp d a p))) rfl rfl (by kernel_rfl) pq.aL (i:=j0) (by omega) (by omega) rfl) ?_
  refine Fx.Rp ((pf g j0)) (fun v1=>Fx.av rfl rfl rfl Tryd.underlying53 (s:=1) (by kernel_rfl) (by omega) (by omega) (by omega)) (Fx.R.fP (by rfl) ?_)
  refine Fx.L.eU (x:=Fx.rv .u64 (gA (Sort.swp d a p))) (u := .int .u64 ((gA (Sort.swp d a p)) a)) (by rfl) rfl rfl rfl rfl (by rfl) (by kernel_rfl) pq (i:=j0) (by omega) fun w19 qX s34 z13 => ?_
  have b40:=s34.below b39 (Nat.le_trans hB b39.size) pq.blk.1
  refine Fx.Ln (Fx.Rp ((pf g a)) (fun v1=>Fx.av rfl rfl rfl Tryd.underlying53 (s:=1) (by kernel_rfl) (by omega) (by omega) (by omega)) (Fx.R.fP (by rfl) ?_))
  refine Fx.L.eU (x:=Fx.eB (Fx.rv .u64 (gA (Sort.swp d a p))) j0 (.int .u64 ((gA (Sort.swp d a p)) a))) (u := .int .u64 ((gA (Sort.swp d a p)) j0)) (by rfl) rfl rfl rfl rfl (by rfl) (by kernel_rfl) qX (i:=a) (by omega) fun w20 uZ s35 z14 => ?_
  have b41:=s35.below b40 (Nat.le_trans hB b40.size) qX.blk.1
  have zl:Fx.Own w20 B 22 1 (.slice (some ⟨g,0,none⟩) n cap) n (Fx.rv .u64 (gA (Sort.swp (Sort.swp d a p) j0 a))):=uZ.congr (eO (dz hn _ _) (by omega) (by omega))
  refine Fx.Ln (Fx.R.nil (Fx.sN (Fx.Ws (Fx.Wl (Fx.Lv (.int .i64 ((j0:Int))) (Fx.ah rfl h10) (Fx.Lv (.int .i64 ((j0:Int))) (Fx.aj rfl rfl) (Fx.Lv (.bool true) (Fx.aj rfl rfl) (Fx.Ln (Fx.sN (Fx.Wr (Fx.sR (⟨.tuple #[.int .i64 ((j0:Int)),.bool true],Fx.cB Tryd.results118 (by exact rfl) (by exact rfl),?_⟩))))))))))))
  have hR:=Qn.symm.trans (uq (by omega))
  exact⟨j0,true,_,rfl,by rw[Sort.partition_fst,hR],by rw[Sort.partition_arr,hR],(dz (dz hn _ _) _ _),zl,b41⟩
 refine Fx.Qv (.bool false) (fun v1 hv1=>Fx.dI rfl rfl rfl c32) (Fx.Qv (.bool false) (fun v1 hv1=>Fx.ah rfl rfl) (Fx.Qs (by rfl) rfl (Fx.Qs (by rfl) rfl (Fx.Qs (by rfl) rfl (Fx.Qs (by rfl) rfl (Fx.Qs (by rfl) rfl (Fx.Qs (by rfl) rfl (Fx.Qs (by rfl) rfl (Fx.Qs (by rfl) rfl (Fx.Qs (by rfl) rfl (Fx.Qv (.bool false) (fun v1 hv1=>Fx.aJ rfl rfl rfl) (Fx.Qt.nil ?_))))))))))))
 intro Xt QC
 have s36:Fx.Stp w3.heap.size w3 Xt:=Fx.Sb QC
 have sK:=m5.bO s36 (Nat.ne_of_lt (m5.lt))
 have b42:=s36.below b4 (Nat.le_trans hB b4.size) (Nat.le_trans hB b4.size)
 refine Fx.sN (Fx.Wc (b:=false) rfl (fun h=>nomatch h) (fun _=>Fx.W.exit (Fx.dQ (Fx.jC (Fx.dR (Fx.sN (Fx.Ws (Fx.W.block (Fx.W.loop (fun f w_ => ∃ j0:Nat,Sort.partLoop Sort.ltInt a i0 j0 (Sort.swp d a p)=Sort.partLoop Sort.ltInt a (a+1) (b-1) (Sort.swp d a p)/\((j0<i0 \/ ¬ gA (Sort.swp d a p) i0<gA (Sort.swp d a p) a))/\(j0<b/\j0<=b)/\f 0 = .slice (some ⟨g,0,none⟩) (n) (cap)/\f 1 = .int .i64 ((a:Int))/\f 2 = .int .i64 ((b:Int))/\f 10 = .int .i64 ((i0:Int))/\f 11 = .int .i64 ((j0:Int))/\Fx.Own w_ B 22 1 (.slice (some ⟨g,0,none⟩) n cap) n (Fx.rv .u64 (gA (Sort.swp d a p)))/\Below B w w_) (fun f _=>(intOf (f 11)).toNat) ⟨b-1,hY0,(.inl (by omega)),(by omega),h1,(h2.trans Fx.ic),(h3.trans Fx.ic),(h4.trans Fx.ic),(h5.trans Fx.ic),sK,b42⟩ ?_)))))))))
 rintro f7 OP ⟨j0,Qn,um,Xi,h31,h32,h33,QD,Iq,ny,Mv⟩
 refine Fx.Ws (Fx.Ws ?_)
 -- region 5 draws
 refine Fx.W.quiet (fun v1=>Below OP.heap.size OP v1) (by kernel_rfl) (by kernel_rfl) (Below.refl _ _).drew ?_
 refine Fx.Qv (.int .i64 ((i0:Int))) (fun v1 hv1=>Fx.ah rfl QD) (Fx.Qv (.int .i64 ((j0:Int))) (fun v1 hv1=>Fx.ah rfl Iq) ?_)
 by_cases Fv:(i0:Int)<=(j0:Int)
 ·refine Fx.Qv (.bool true) (fun v1 hv1=>Fx.gU rfl rfl rfl Fv) (Fx.Qv (.bool true) (fun v1 hv1=>Fx.ah rfl rfl) (Fx.Qv (.slice (some ⟨g,0,none⟩) (n) (cap)) (fun v1 hv1=>Fx.ah rfl h31) (Fx.Qv (.int .i64 ((j0:Int))) (fun v1 hv1=>Fx.ah rfl Iq) (Fx.Qv ((pf g j0)) (fun v1 hv1=>Fx.av rfl rfl rfl Tryd.underlying53 (s:=1) (by kernel_rfl) (by omega) (by omega) (by omega)) (Fx.Qv (.int .u64 ((gA (Sort.swp d a p)) j0)) (fun v1 hv1=>Fx.ak (x:=Fx.rv .u64 (gA (Sort.swp d a p))) rfl rfl (by kernel_rfl) (ny.aL.below hv1 (by have:=ny.lt; omega)) (i:=j0) (by omega) (by omega) rfl) (Fx.Qv (.slice (some ⟨g,0,none⟩) (n) (cap)) (fun v1 hv1=>Fx.ah rfl h31) (Fx.Qv (.int .i64 ((a:Int))) (fun v1 hv1=>Fx.ah rfl h32) (Fx.Qv ((pf g a)) (fun v1 hv1=>Fx.av rfl rfl rfl Tryd.underlying53 (s:=1) (by kernel_rfl) (by omega) (by omega) (by omega)) (Fx.Qv (.int .u64 ((gA (Sort.swp d a p)) a)) (fun v1 hv1=>Fx.ak (x:=Fx.rv .u64 (gA (Sort.swp d a p))) rfl rfl (by kernel_rfl) (ny.aL.below hv1 (by have:=ny.lt; omega)) (i:=a) (by omega) (by omega) rfl) ?_)))))))))
  by_cases xA:(decide ((gA (Sort.swp d a p)) j0<(gA (Sort.swp d a p)) a))=true
  ·refine Fx.Qt.call (v := .bool true) (by rfl) (fun v1 hv1=>Fx.rC (args := [.int .u64 ((gA (Sort.swp d a p)) j0),.int .u64 ((gA (Sort.swp d a p)) a)]) rfl rfl Tryd.func116 rfl rfl) rfl (fun v1 hv1=>(bU ((gA (Sort.swp d a p)) j0) ((gA (Sort.swp d a p)) a) _).mono fun e v2 h=>⟨by rw[h.1,xA],by rw[h.2]; exact hv1⟩) ?_
   refine Fx.Qv (.bool false) (fun v1 hv1=>Fx.dZ rfl rfl) (Fx.Qv (.bool false) (fun v1 hv1=>Fx.aA rfl rfl rfl) (Fx.Qt.nil ?_))
   intro QE QF
   have s37:Fx.Stp OP.heap.size OP QE:=Fx.Sb QF
   have qo:=ny.bO s37 (Nat.ne_of_lt (ny.lt))
   have Xu:=s37.below Mv (Nat.le_trans hB Mv.size) (Nat.le_trans hB Mv.size)
   refine Fx.sN (Fx.Wc (b:=false) rfl (fun h=>nomatch h) (fun _=>Fx.W.exit (Fx.dQ (Fx.jC (Fx.dR (Fx.sN (Fx.Ws (Fx.Ws (Fx.Wl (Fx.Lv (.int .i64 ((i0:Int))) (Fx.ah rfl QD) (Fx.Lv (.int .i64 ((j0:Int))) (Fx.ah rfl Iq) (Fx.Lv (.bool false) (Fx.dw rfl rfl rfl (by omega)) (Fx.Ln (Fx.sN (Fx.Wc (b:=false) rfl (fun h=>nomatch h) (fun _=>Fx.Wk (Fx.sN (Fx.Ws ?_))))))))))))))))))
   -- region 10 draws
   refine Fx.W.bH [0,1,2,3,4,5,6,8,9,10,7,11,12,13,14,15] [0,0,0,0,0,0,0,4,0,0,0,4,0,3,0,3] Fx.Mk Fx.Mk.refl Fx.Mk.trans (aQ := [(13,7,[7]),(15,7,[7]),(13,11,[11]),(15,11,[11]),(14,13,[13]),(15,13,[13])]) (by kernel_rfl) (by kernel_rfl) (by kernel_rfl) (by kernel_rfl) (by kernel_rfl) fun wt8 Uz abe => ?_
   have s38:Fx.Stp QE.heap.size QE wt8:=Fx.Sb Uz
   have tV:=qo.bO s38 (Nat.ne_of_lt (qo.lt))
   have b45:=s38.below Xu (Nat.le_trans hB Xu.size) (Nat.le_trans hB Xu.size)
   refine Fx.Rp (.slice (some ⟨g,0,none⟩) (n) (cap)) (fun v1=>Fx.ah rfl h31) (Fx.Rp (.int .i64 ((i0:Int))) (fun v1=>Fx.ah rfl QD) (Fx.Rp (.slice (some ⟨g,0,none⟩) (n) (cap)) (fun v1=>Fx.ah rfl h31) (Fx.Rp (.int .i64 ((j0:Int))) (fun v1=>Fx.ah rfl Iq) (Fx.Rp (.slice (some ⟨g,0,none⟩) (n) (cap)) (fun v1=>Fx.ah rfl h31) (Fx.Rp (.int .i64 ((j0:Int))) (fun v1=>Fx.ah rfl Iq) (Fx.Rp ((pf g j0)) (fun v1=>Fx.av rfl rfl rfl Tryd.underlying53 (s:=1) (by kernel_rfl) (by omega) (by omega) (by omega)) (Fx.Rp (.slice (some ⟨g,0,none⟩) (n) (cap)) (fun v1=>Fx.ah rfl h31) (Fx.Rp (.int .i64 ((i0:Int))) (fun v1=>Fx.ah rfl QD) (Fx.Rp ((pf g i0)) (fun v1=>Fx.av rfl rfl rfl Tryd.underlying53 (s:=1) (by kernel_rfl) (by omega) (by omega) (by omega)) (Fx.R.s (.int .u64 ((gA (Sort.swp d a p)) j0)) (Fx.ak (x:=Fx.rv .u64 (gA (Sort.swp d a p))) rfl rfl (by kernel_rfl) tV.aL (i:=j0) (by omega) (by omega) rfl) ?_))))))))))
   refine Fx.R.s (.int .u64 ((gA (Sort.swp d a p)) i0)) (Fx.ak (x:=Fx.rv .u64 (gA (Sort.swp d a p))) rfl rfl (by kernel_rfl) tV.aL (i:=i0) (by omega) (by omega) rfl) ?_
   refine Fx.Rp ((pf g i0)) (fun v1=>Fx.av rfl rfl rfl Tryd.underlying53 (s:=1) (by kernel_rfl) (by omega) (by omega) (by omega)) (Fx.R.fP (by rfl) ?_)
   refine Fx.L.eU (x:=Fx.rv .u64 (gA (Sort.swp d a p))) (u := .int .u64 ((gA (Sort.swp d a p)) j0)) (by rfl) rfl rfl rfl rfl (by rfl) (by kernel_rfl) tV (i:=i0) (by omega) fun w22 sM s39 z15 => ?_
   have b46:=s39.below b45 (Nat.le_trans hB b45.size) tV.blk.1
   refine Fx.Ln (Fx.Rp ((pf g j0)) (fun v1=>Fx.av rfl rfl rfl Tryd.underlying53 (s:=1) (by kernel_rfl) (by omega) (by omega) (by omega)) (Fx.R.fP (by rfl) ?_))
   refine Fx.L.eU (x:=Fx.eB (Fx.rv .u64 (gA (Sort.swp d a p))) i0 (.int .u64 ((gA (Sort.swp d a p)) j0))) (u := .int .u64 ((gA (Sort.swp d a p)) i0)) (by rfl) rfl rfl rfl rfl (by rfl) (by kernel_rfl) sM (i:=j0) (by omega) fun w23 rT s40 z16 => ?_
   have b47:=s40.below b46 (Nat.le_trans hB b46.size) sM.blk.1
   have vN:Fx.Own w23 B 22 1 (.slice (some ⟨g,0,none⟩) n cap) n (Fx.rv .u64 (gA (Sort.swp (Sort.swp d a p) i0 j0))):=rT.congr (eO (dz hn _ _) (by omega) (by omega))
   refine Fx.Ln (Fx.R.nil (Fx.sN (Fx.Ws (Fx.Wl (Fx.Lv (.int .i64 ((i0:Int))) (Fx.ah rfl QD) (Fx.Lv (.int .i64 ((i0:Int)+1)) (Fx.aS rfl rfl rfl Fx.io) (Fx.Lv (.int .i64 ((i0:Int)+1)) (Fx.aj rfl rfl) (Fx.Ln (Fx.sN (Fx.Ws (Fx.Wl (Fx.Lv (.int .i64 ((j0:Int))) (Fx.ah rfl Iq) (Fx.Lv (.int .i64 ((j0:Int)-1)) (Fx.bD rfl rfl rfl Fx.io) (Fx.Lv (.int .i64 ((j0:Int)-1)) (Fx.aj rfl rfl) (Fx.Ln (Fx.sN (Fx.Ws (Fx.W.block (Fx.W.loop (fun f w_ => ∃ i:Nat,∃ j:Nat,∃ dk:Array Int,dk.size=n/\Sort.partLoop Sort.ltInt a i j dk=Sort.partLoop Sort.ltInt a (a+1) (b-1) (Sort.swp d a p)/\(a<i/\j<b/\i<=b)/\f 0 = .slice (some ⟨g,0,none⟩) (n) (cap)/\f 1 = .int .i64 ((a:Int))/\f 2 = .int .i64 ((b:Int))/\f 10 = .int .i64 ((i:Int))/\f 11 = .int .i64 ((j:Int))/\Fx.Own w_ B 22 1 (.slice (some ⟨g,0,none⟩) n cap) n (Fx.rv .u64 (gA dk))/\Below B w w_) (fun f _=>((b:Int)-intOf (f 10)).toNat) ⟨i0+1,j0-1,Sort.swp (Sort.swp d a p) i0 j0,(dz (dz hn _ _) _ _),((zk (by omega) (um.resolve_left (by omega)) (of_decide_eq_true xA)).trans Qn),(by omega),h31,(h32.trans Fx.ic),(h33.trans Fx.ic),Fx.ic,Fx.ic,vN,b47⟩ ?_)))))))))))))))))))
   rintro f8 w24 ⟨i,j,dk,hk,hX,hij,h36,h37,h38,Xv,h40,uw,b48⟩
   refine Fx.W.block (Fx.Ws (Fx.W.block (Fx.W.loop (fun f w_ => ∃ i2:Nat,Sort.partLoop Sort.ltInt a i2 j dk=Sort.partLoop Sort.ltInt a (a+1) (b-1) (Sort.swp d a p)/\(i<=i2/\i2<=b)/\f 0 = .slice (some ⟨g,0,none⟩) (n) (cap)/\f 1 = .int .i64 ((a:Int))/\f 2 = .int .i64 ((b:Int))/\f 10 = .int .i64 ((i2:Int))/\f 11 = .int .i64 ((j:Int))/\Fx.Own w_ B 22 1 (.slice (some ⟨g,0,none⟩) n cap) n (Fx.rv .u64 (gA dk))/\Below B w w_) (fun f _=>((b:Int)-intOf (f 10)).toNat) ⟨i,hX,(by omega),h36,(h37.trans Fx.ic),(h38.trans Fx.ic),(Xv.trans Fx.ic),(h40.trans Fx.ic),uw,b48⟩ ?_)))
   rintro f9 OQ ⟨i2,hX1,Xj,UA,V7,h43,Tv,h45,nQ,Mw⟩
   refine Fx.Ws (Fx.Ws ?_)
   -- region 13 draws
   refine Fx.W.quiet (fun v1=>Below OQ.heap.size OQ v1) (by kernel_rfl) (by kernel_rfl) (Below.refl _ _).drew ?_
   refine Fx.Qv (.int .i64 ((i2:Int))) (fun v1 hv1=>Fx.ah rfl Tv) (Fx.Qv (.int .i64 ((j:Int))) (fun v1 hv1=>Fx.ah rfl h45) ?_)
   by_cases Jv:(i2:Int)<=(j:Int)
   ·refine Fx.Qv (.bool true) (fun v1 hv1=>Fx.gU rfl rfl rfl Jv) (Fx.Qv (.bool true) (fun v1 hv1=>Fx.ah rfl rfl) (Fx.Qv (.slice (some ⟨g,0,none⟩) (n) (cap)) (fun v1 hv1=>Fx.ah rfl UA) (Fx.Qv (.int .i64 ((i2:Int))) (fun v1 hv1=>Fx.ah rfl Tv) (Fx.Qv ((pf g i2)) (fun v1 hv1=>Fx.av rfl rfl rfl Tryd.underlying53 (s:=1) (by kernel_rfl) (by omega) (by omega) (by omega)) (Fx.Qv (.int .u64 ((gA dk) i2)) (fun v1 hv1=>Fx.ak (x:=Fx.rv .u64 (gA dk)) rfl rfl (by kernel_rfl) (nQ.aL.below hv1 (by have:=nQ.lt; omega)) (i:=i2) (by omega) (by omega) rfl) (Fx.Qv (.slice (some ⟨g,0,none⟩) (n) (cap)) (fun v1 hv1=>Fx.ah rfl UA) (Fx.Qv (.int .i64 ((a:Int))) (fun v1 hv1=>Fx.ah rfl V7) (Fx.Qv ((pf g a)) (fun v1 hv1=>Fx.av rfl rfl rfl Tryd.underlying53 (s:=1) (by kernel_rfl) (by omega) (by omega) (by omega)) (Fx.Qv (.int .u64 ((gA dk) a)) (fun v1 hv1=>Fx.ak (x:=Fx.rv .u64 (gA dk)) rfl rfl (by kernel_rfl) (nQ.aL.below hv1 (by have:=nQ.lt; omega)) (i:=a) (by omega) (by omega) rfl) ?_)))))))))
    by_cases xB:(decide ((gA dk) i2<(gA dk) a))=true
    ·refine Fx.Qt.call (v := .bool true) (by rfl) (fun v1 hv1=>Fx.rC (args := [.int .u64 ((gA dk) i2),.int .u64 ((gA dk) a)]) rfl rfl Tryd.func116 rfl rfl) rfl (fun v1 hv1=>(bU ((gA dk) i2) ((gA dk) a) _).mono fun e v2 h=>⟨by rw[h.1,xB],by rw[h.2]; exact hv1⟩) ?_
     refine Fx.Qv (.bool true) (fun v1 hv1=>Fx.aA rfl rfl rfl) (Fx.Qt.nil ?_)
     intro Xw QG
     have s41:Fx.Stp OQ.heap.size OQ Xw:=Fx.Sb QG
     have qY:=nQ.bO s41 (Nat.ne_of_lt (nQ.lt))
     have b50:=s41.below Mw (Nat.le_trans hB Mw.size) (Nat.le_trans hB Mw.size)
     refine Fx.sN (Fx.Wc (b:=true) rfl (fun _=>Fx.Wk (Fx.sN (Fx.W.block (Fx.Wl (Fx.Lv (.int .i64 ((i2:Int))) (Fx.ah rfl Tv) ?_))))) (fun h=>nomatch h))
     refine Fx.Lv (.int .i64 ((i2:Int)+1)) (Fx.aS rfl rfl rfl Fx.io) (Fx.Lv (.int .i64 ((i2:Int)+1)) (Fx.aj rfl rfl) (Fx.Ln (Fx.dV (Fx.kg ⟨i2+1,((Jp (by omega) (of_decide_eq_true xB)).trans hX1),(by omega),UA,(V7.trans Fx.ic),(h43.trans Fx.ic),Fx.ic,(h45.trans Fx.ic),qY,b50⟩ ?_))))
     show((b:Int)-intOf ((.int .i64 ((i2:Int)+1)))).toNat<_
     simp only[Tv,intOf]; omega
    rw[Bool.not_eq_true]at xB
    refine Fx.Qt.call (v := .bool false) (by rfl) (fun v1 hv1=>Fx.rC (args := [.int .u64 ((gA dk) i2),.int .u64 ((gA dk) a)]) rfl rfl Tryd.func116 rfl rfl) rfl (fun v1 hv1=>(bU ((gA dk) i2) ((gA dk) a) _).mono fun e v2 h=>⟨by rw[h.1,xB],by rw[h.2]; exact hv1⟩) ?_
    refine Fx.Qv (.bool false) (fun v1 hv1=>Fx.aA rfl rfl rfl) (Fx.Qt.nil ?_)
    intro Xx QH
    have s42:Fx.Stp OQ.heap.size OQ Xx:=Fx.Sb QH
    have qM:=nQ.bO s42 (Nat.ne_of_lt (nQ.lt))
    have b51:=s42.below Mw (Nat.le_trans hB Mw.size) (Nat.le_trans hB Mw.size)
    refine Fx.sN (Fx.Wc (b:=false) rfl (fun h=>nomatch h) (fun _=>Fx.W.exit (Fx.dQ (Fx.jC (Fx.dR (Fx.sN (Fx.Ws (Fx.W.block (Fx.W.loop (fun f w_ => ∃ j2:Nat,Sort.partLoop Sort.ltInt a i2 j2 dk=Sort.partLoop Sort.ltInt a (a+1) (b-1) (Sort.swp d a p)/\((j2<i2 \/ ¬ gA dk i2<gA dk a))/\(j2<b/\j2<=j)/\f 0 = .slice (some ⟨g,0,none⟩) (n) (cap)/\f 1 = .int .i64 ((a:Int))/\f 2 = .int .i64 ((b:Int))/\f 10 = .int .i64 ((i2:Int))/\f 11 = .int .i64 ((j2:Int))/\Fx.Own w_ B 22 1 (.slice (some ⟨g,0,none⟩) n cap) n (Fx.rv .u64 (gA dk))/\Below B w w_) (fun f _=>(intOf (f 11)).toNat) ⟨j,hX1,(.inr (of_decide_eq_false xB)),(by omega),UA,(V7.trans Fx.ic),(h43.trans Fx.ic),(Tv.trans Fx.ic),(h45.trans Fx.ic),qM,b51⟩ ?_)))))))))
    rintro f10 OT ⟨j2,hX2,hst,Qo,h46,h47,h48,QI,h50,lM,Mx⟩
    refine Fx.Ws (Fx.Ws ?_)
    -- region 15 draws
    refine Fx.W.quiet (fun v1=>Below OT.heap.size OT v1) (by kernel_rfl) (by kernel_rfl) (Below.refl _ _).drew ?_
    refine Fx.Qv (.int .i64 ((i2:Int))) (fun v1 hv1=>Fx.ah rfl QI) (Fx.Qv (.int .i64 ((j2:Int))) (fun v1 hv1=>Fx.ah rfl h50) ?_)
    by_cases c117:(i2:Int)<=(j2:Int)
    ·refine Fx.Qv (.bool true) (fun v1 hv1=>Fx.gU rfl rfl rfl c117) (Fx.Qv (.bool true) (fun v1 hv1=>Fx.ah rfl rfl) (Fx.Qv (.slice (some ⟨g,0,none⟩) (n) (cap)) (fun v1 hv1=>Fx.ah rfl h46) (Fx.Qv (.int .i64 ((j2:Int))) (fun v1 hv1=>Fx.ah rfl h50) (Fx.Qv ((pf g j2)) (fun v1 hv1=>Fx.av rfl rfl rfl Tryd.underlying53 (s:=1) (by kernel_rfl) (by omega) (by omega) (by omega)) (Fx.Qv (.int .u64 ((gA dk) j2)) (fun v1 hv1=>Fx.ak (x:=Fx.rv .u64 (gA dk)) rfl rfl (by kernel_rfl) (lM.aL.below hv1 (by have:=lM.lt; omega)) (i:=j2) (by omega) (by omega) rfl) (Fx.Qv (.slice (some ⟨g,0,none⟩) (n) (cap)) (fun v1 hv1=>Fx.ah rfl h46) (Fx.Qv (.int .i64 ((a:Int))) (fun v1 hv1=>Fx.ah rfl h47) (Fx.Qv ((pf g a)) (fun v1 hv1=>Fx.av rfl rfl rfl Tryd.underlying53 (s:=1) (by kernel_rfl) (by omega) (by omega) (by omega)) (Fx.Qv (.int .u64 ((gA dk) a)) (fun v1 hv1=>Fx.ak (x:=Fx.rv .u64 (gA dk)) rfl rfl (by kernel_rfl) (lM.aL.below hv1 (by have:=lM.lt; omega)) (i:=a) (by omega) (by omega) rfl) ?_)))))))))
     by_cases c127:(decide ((gA dk) j2<(gA dk) a))=true
     ·refine Fx.Qt.call (v := .bool true) (by rfl) (fun v1 hv1=>Fx.rC (args := [.int .u64 ((gA dk) j2),.int .u64 ((gA dk) a)]) rfl rfl Tryd.func116 rfl rfl) rfl (fun v1 hv1=>(bU ((gA dk) j2) ((gA dk) a) _).mono fun e v2 h=>⟨by rw[h.1,c127],by rw[h.2]; exact hv1⟩) ?_
      refine Fx.Qv (.bool false) (fun v1 hv1=>Fx.dZ rfl rfl) (Fx.Qv (.bool false) (fun v1 hv1=>Fx.aA rfl rfl rfl) (Fx.Qt.nil ?_))
      intro QJ QK
      have s43:Fx.Stp OT.heap.size OT QJ:=Fx.Sb QK
      have qN:=lM.bO s43 (Nat.ne_of_lt (lM.lt))
      have Xy:=s43.below Mx (Nat.le_trans hB Mx.size) (Nat.le_trans hB Mx.size)
      refine Fx.sN (Fx.Wc (b:=false) rfl (fun h=>nomatch h) (fun _=>Fx.W.exit (Fx.dQ (Fx.jC (Fx.dR (Fx.sN (Fx.Ws (Fx.Ws (Fx.Wl (Fx.Lv (.int .i64 ((i2:Int))) (Fx.ah rfl QI) (Fx.Lv (.int .i64 ((j2:Int))) (Fx.ah rfl h50) (Fx.Lv (.bool false) (Fx.dw rfl rfl rfl (by omega)) (Fx.Ln (Fx.sN (Fx.Wc (b:=false) rfl (fun h=>nomatch h) (fun _=>Fx.Wk (Fx.sN (Fx.Ws ?_))))))))))))))))))
      -- region 18 draws
      refine Fx.W.bH [0,1,2,3,4,5,6,8,9,10,7,11,12,13,14,15] [0,0,0,0,0,0,0,4,0,0,0,4,0,3,0,3] Fx.Mk Fx.Mk.refl Fx.Mk.trans (aQ := [(13,7,[7]),(15,7,[7]),(13,11,[11]),(15,11,[11]),(14,13,[13]),(15,13,[13])]) (by kernel_rfl) (by kernel_rfl) (by kernel_rfl) (by kernel_rfl) (by kernel_rfl) fun wt9 UC abl => ?_
      have s44:Fx.Stp QJ.heap.size QJ wt9:=Fx.Sb UC
      have oI:=qN.bO s44 (Nat.ne_of_lt (qN.lt))
      have b54:=s44.below Xy (Nat.le_trans hB Xy.size) (Nat.le_trans hB Xy.size)
      refine Fx.Rp (.slice (some ⟨g,0,none⟩) (n) (cap)) (fun v1=>Fx.ah rfl h46) (Fx.Rp (.int .i64 ((i2:Int))) (fun v1=>Fx.ah rfl QI) (Fx.Rp (.slice (some ⟨g,0,none⟩) (n) (cap)) (fun v1=>Fx.ah rfl h46) (Fx.Rp (.int .i64 ((j2:Int))) (fun v1=>Fx.ah rfl h50) (Fx.Rp (.slice (some ⟨g,0,none⟩) (n) (cap)) (fun v1=>Fx.ah rfl h46) (Fx.Rp (.int .i64 ((j2:Int))) (fun v1=>Fx.ah rfl h50) (Fx.Rp ((pf g j2)) (fun v1=>Fx.av rfl rfl rfl Tryd.underlying53 (s:=1) (by kernel_rfl) (by omega) (by omega) (by omega)) (Fx.Rp (.slice (some ⟨g,0,none⟩) (n) (cap)) (fun v1=>Fx.ah rfl h46) (Fx.Rp (.int .i64 ((i2:Int))) (fun v1=>Fx.ah rfl QI) (Fx.Rp ((pf g i2)) (fun v1=>Fx.av rfl rfl rfl Tryd.underlying53 (s:=1) (by kernel_rfl) (by omega) (by omega) (by omega)) (Fx.R.s (.int .u64 ((gA dk) j2)) (Fx.ak (x:=Fx.rv .u64 (gA dk)) rfl rfl (by kernel_rfl) oI.aL (i:=j2) (by omega) (by omega) rfl) ?_))))))))))
      refine Fx.R.s (.int .u64 ((gA dk) i2)) (Fx.ak (x:=Fx.rv .u64 (gA dk)) rfl rfl (by kernel_rfl) oI.aL (i:=i2) (by omega) (by omega) rfl) ?_
      refine Fx.Rp ((pf g i2)) (fun v1=>Fx.av rfl rfl rfl Tryd.underlying53 (s:=1) (by kernel_rfl) (by omega) (by omega) (by omega)) (Fx.R.fP (by rfl) ?_)
      refine Fx.L.eU (x:=Fx.rv .u64 (gA dk)) (u := .int .u64 ((gA dk) j2)) (by rfl) rfl rfl rfl rfl (by rfl) (by kernel_rfl) oI (i:=i2) (by omega) fun w27 sO s45 z17 => ?_
      have b55:=s45.below b54 (Nat.le_trans hB b54.size) oI.blk.1
      refine Fx.Ln (Fx.Rp ((pf g j2)) (fun v1=>Fx.av rfl rfl rfl Tryd.underlying53 (s:=1) (by kernel_rfl) (by omega) (by omega) (by omega)) (Fx.R.fP (by rfl) ?_))
      refine Fx.L.eU (x:=Fx.eB (Fx.rv .u64 (gA dk)) i2 (.int .u64 ((gA dk) j2))) (u := .int .u64 ((gA dk) i2)) (by rfl) rfl rfl rfl rfl (by rfl) (by kernel_rfl) sO (i:=j2) (by omega) fun w28 m64 s46 z18 => ?_
      have b56:=s46.below b55 (Nat.le_trans hB b55.size) sO.blk.1
      have xD:Fx.Own w28 B 22 1 (.slice (some ⟨g,0,none⟩) n cap) n (Fx.rv .u64 (gA (Sort.swp dk i2 j2))):=m64.congr (eO hk (by omega) (by omega))
      refine Fx.Ln (Fx.R.nil (Fx.sN (Fx.Ws (Fx.Wl (Fx.Lv (.int .i64 ((i2:Int))) (Fx.ah rfl QI) (Fx.Lv (.int .i64 ((i2:Int)+1)) (Fx.aS rfl rfl rfl Fx.io) (Fx.Lv (.int .i64 ((i2:Int)+1)) (Fx.aj rfl rfl) (Fx.Ln (Fx.sN (Fx.Wl (Fx.Lv (.int .i64 ((j2:Int))) (Fx.ah rfl h50) (Fx.Lv (.int .i64 ((j2:Int)-1)) (Fx.bD rfl rfl rfl Fx.io) (Fx.Lv (.int .i64 ((j2:Int)-1)) (Fx.aj rfl rfl) (Fx.Ln (Fx.dV (Fx.kg ⟨i2+1,j2-1,Sort.swp dk i2 j2,(dz hk _ _),((zk (by omega) (hst.resolve_left (by omega)) (of_decide_eq_true c127)).trans hX2),(by omega),h46,(h47.trans Fx.ic),(h48.trans Fx.ic),Fx.ic,Fx.ic,xD,b56⟩ ?_))))))))))))))))
      show((b:Int)-intOf ((.int .i64 ((i2:Int)+1)))).toNat<_
      simp only[Xv,intOf]; omega
     rw[Bool.not_eq_true]at c127
     refine Fx.Qt.call (v := .bool false) (by rfl) (fun v1 hv1=>Fx.rC (args := [.int .u64 ((gA dk) j2),.int .u64 ((gA dk) a)]) rfl rfl Tryd.func116 rfl rfl) rfl (fun v1 hv1=>(bU ((gA dk) j2) ((gA dk) a) _).mono fun e v2 h=>⟨by rw[h.1,c127],by rw[h.2]; exact hv1⟩) ?_
     refine Fx.Qv (.bool true) (fun v1 hv1=>Fx.eH rfl rfl) (Fx.Qv (.bool true) (fun v1 hv1=>Fx.aA rfl rfl rfl) (Fx.Qt.nil ?_))
     intro Xz QL
     have s47:Fx.Stp OT.heap.size OT Xz:=Fx.Sb QL
     have zm:=lM.bO s47 (Nat.ne_of_lt (lM.lt))
     have b57:=s47.below Mx (Nat.le_trans hB Mx.size) (Nat.le_trans hB Mx.size)
     refine Fx.sN (Fx.Wc (b:=true) rfl (fun _=>Fx.Wk (Fx.sN (Fx.W.block (Fx.Wl (Fx.Lv (.int .i64 ((j2:Int))) (Fx.ah rfl h50) ?_))))) (fun h=>nomatch h))
     refine Fx.Lv (.int .i64 ((j2:Int)-1)) (Fx.bD rfl rfl rfl Fx.io) (Fx.Lv (.int .i64 ((j2:Int)-1)) (Fx.aj rfl rfl) (Fx.Ln (Fx.dV (Fx.kg ⟨j2-1,((zi (by omega) (by omega) (hst.resolve_left (by omega)) (of_decide_eq_false c127)).trans hX2),(hst.elim (fun h => .inl (by omega)) .inr),(by omega),h46,(h47.trans Fx.ic),(h48.trans Fx.ic),(QI.trans Fx.ic),Fx.ic,zm,b57⟩ ?_))))
     show(intOf ((.int .i64 ((j2:Int)-1)))).toNat<_
     simp only[h50,intOf]; omega
    refine Fx.Qv (.bool false) (fun v1 hv1=>Fx.dI rfl rfl rfl c117) (Fx.Qv (.bool false) (fun v1 hv1=>Fx.ah rfl rfl) (Fx.Qs (by rfl) rfl (Fx.Qs (by rfl) rfl (Fx.Qs (by rfl) rfl (Fx.Qs (by rfl) rfl (Fx.Qs (by rfl) rfl (Fx.Qs (by rfl) rfl (Fx.Qs (by rfl) rfl (Fx.Qs (by rfl) rfl (Fx.Qs (by rfl) rfl (Fx.Qs (by rfl) rfl (Fx.Qv (.bool false) (fun v1 hv1=>Fx.aJ rfl rfl rfl) (Fx.Qt.nil ?_)))))))))))))
    intro QM QN
    have s48:Fx.Stp OT.heap.size OT QM:=Fx.Sb QN
    have yA:=lM.bO s48 (Nat.ne_of_lt (lM.lt))
    have XA:=s48.below Mx (Nat.le_trans hB Mx.size) (Nat.le_trans hB Mx.size)
    refine Fx.sN (Fx.Wc (b:=false) rfl (fun h=>nomatch h) (fun _=>Fx.W.exit (Fx.dQ (Fx.jC (Fx.dR (Fx.sN (Fx.Ws (Fx.Ws (Fx.Wl (Fx.Lv (.int .i64 ((i2:Int))) (Fx.ah rfl QI) (Fx.Lv (.int .i64 ((j2:Int))) (Fx.ah rfl h50) (Fx.Lv (.bool true) (Fx.iy rfl rfl rfl (by omega)) (Fx.Ln (Fx.sN (Fx.Wc (b:=true) rfl (fun _=>Fx.W.exit (Fx.dQ (Fx.DR rfl (Fx.jC (Fx.dR (Fx.sN (Fx.Ws ?_))))))) (fun h=>nomatch h))))))))))))))))
    -- region 21 draws
    refine Fx.W.bH [0,1,2,3,4,5,6,8,9,10,7,11,12,13,14,15] [0,0,0,0,0,0,0,4,0,0,0,4,0,3,0,3] Fx.Mk Fx.Mk.refl Fx.Mk.trans (aQ := [(13,7,[7]),(15,7,[7]),(13,11,[11]),(15,11,[11]),(14,13,[13]),(15,13,[13])]) (by kernel_rfl) (by kernel_rfl) (by kernel_rfl) (by kernel_rfl) (by kernel_rfl) fun XB QO XC => ?_
    have s49:Fx.Stp QM.heap.size QM XB:=Fx.Sb QO
    have yB:=yA.bO s49 (Nat.ne_of_lt (yA.lt))
    have b59:=s49.below XA (Nat.le_trans hB XA.size) (Nat.le_trans hB XA.size)
    refine Fx.Rp (.slice (some ⟨g,0,none⟩) (n) (cap)) (fun v1=>Fx.ah rfl h46) (Fx.Rp (.int .i64 ((j2:Int))) (fun v1=>Fx.ah rfl h50) (Fx.Rp (.slice (some ⟨g,0,none⟩) (n) (cap)) (fun v1=>Fx.ah rfl h46) (Fx.Rp (.int .i64 ((a:Int))) (fun v1=>Fx.ah rfl h47) (Fx.Rp (.slice (some ⟨g,0,none⟩) (n) (cap)) (fun v1=>Fx.ah rfl h46) (Fx.Rp (.int .i64 ((a:Int))) (fun v1=>Fx.ah rfl h47) (Fx.Rp ((pf g a)) (fun v1=>Fx.av rfl rfl rfl Tryd.underlying53 (s:=1) (by kernel_rfl) (by omega) (by omega) (by omega)) (Fx.Rp (.slice (some ⟨g,0,none⟩) (n) (cap)) (fun v1=>Fx.ah rfl h46) (Fx.Rp (.int .i64 ((j2:Int))) (fun v1=>Fx.ah rfl h50) (Fx.Rp ((pf g j2)) (fun v1=>Fx.av rfl rfl rfl Tryd.underlying53 (s:=1) (by kernel_rfl) (by omega) (by omega) (by omega)) (Fx.R.s (.int .u64 ((gA dk) a)) (Fx.ak (x:=Fx.rv .u64 (gA dk)) rfl rfl (by kernel_rfl) yB.aL (i:=a) (by omega) (by omega) rfl) ?_))))))))))
    refine Fx.R.s (.int .u64 ((gA dk) j2)) (Fx.ak (x:=Fx.rv .u64 (gA dk)) rfl rfl (by kernel_rfl) yB.aL (i:=j2) (by omega) (by omega) rfl) ?_
    refine Fx.Rp ((pf g j2)) (fun v1=>Fx.av rfl rfl rfl Tryd.underlying53 (s:=1) (by kernel_rfl) (by omega) (by omega) (by omega)) (Fx.R.fP (by rfl) ?_)
    refine Fx.L.eU (x:=Fx.rv .u64 (gA dk)) (u := .int .u64 ((gA dk) a)) (by rfl) rfl rfl rfl rfl (by rfl) (by kernel_rfl) yB (i:=j2) (by omega) fun w29 tX s50 z19 => ?_
    have b60:=s50.below b59 (Nat.le_trans hB b59.size) yB.blk.1
    refine Fx.Ln (Fx.Rp ((pf g a)) (fun v1=>Fx.av rfl rfl rfl Tryd.underlying53 (s:=1) (by kernel_rfl) (by omega) (by omega) (by omega)) (Fx.R.fP (by rfl) ?_))
    refine Fx.L.eU (x:=Fx.eB (Fx.rv .u64 (gA dk)) j2 (.int .u64 ((gA dk) a))) (u := .int .u64 ((gA dk) j2)) (by rfl) rfl rfl rfl rfl (by rfl) (by kernel_rfl) tX (i:=a) (by omega) fun w30 yK s51 z20 => ?_
    have b61:=s51.below b60 (Nat.le_trans hB b60.size) tX.blk.1
    have vO:Fx.Own w30 B 22 1 (.slice (some ⟨g,0,none⟩) n cap) n (Fx.rv .u64 (gA (Sort.swp dk j2 a))):=yK.congr (eO hk (by omega) (by omega))
    refine Fx.Ln (Fx.R.nil (Fx.sN (Fx.Ws (Fx.Wl (Fx.Lv (.int .i64 ((j2:Int))) (Fx.ah rfl h50) (Fx.Lv (.int .i64 ((j2:Int))) (Fx.aj rfl rfl) (Fx.Lv (.bool false) (Fx.aj rfl rfl) (Fx.Ln (Fx.sN (Fx.Wr (⟨.tuple #[.int .i64 ((j2:Int)),.bool false],Fx.cB Tryd.results118 (by exact rfl) (by exact rfl),?_⟩)))))))))))
    have hR:=hX2.symm.trans (uq (by omega))
    exact⟨j2,false,_,rfl,by rw[Sort.partition_fst,hR],by rw[Sort.partition_arr,hR],(dz hk _ _),vO,b61⟩
   refine Fx.Qv (.bool false) (fun v1 hv1=>Fx.dI rfl rfl rfl Jv) (Fx.Qv (.bool false) (fun v1 hv1=>Fx.ah rfl rfl) (Fx.Qs (by rfl) rfl (Fx.Qs (by rfl) rfl (Fx.Qs (by rfl) rfl (Fx.Qs (by rfl) rfl (Fx.Qs (by rfl) rfl (Fx.Qs (by rfl) rfl (Fx.Qs (by rfl) rfl (Fx.Qs (by rfl) rfl (Fx.Qs (by rfl) rfl (Fx.Qv (.bool false) (fun v1 hv1=>Fx.aJ rfl rfl rfl) (Fx.Qt.nil ?_))))))))))))
   intro XD QS
   have s52:Fx.Stp OQ.heap.size OQ XD:=Fx.Sb QS
   have xE:=nQ.bO s52 (Nat.ne_of_lt (nQ.lt))
   have b62:=s52.below Mw (Nat.le_trans hB Mw.size) (Nat.le_trans hB Mw.size)
   refine Fx.sN (Fx.Wc (b:=false) rfl (fun h=>nomatch h) (fun _=>Fx.W.exit (Fx.dQ (Fx.jC (Fx.dR (Fx.sN (Fx.Ws (Fx.W.block (Fx.W.loop (fun f w_ => ∃ j2:Nat,Sort.partLoop Sort.ltInt a i2 j2 dk=Sort.partLoop Sort.ltInt a (a+1) (b-1) (Sort.swp d a p)/\((j2<i2 \/ ¬ gA dk i2<gA dk a))/\(j2<b/\j2<=j)/\f 0 = .slice (some ⟨g,0,none⟩) (n) (cap)/\f 1 = .int .i64 ((a:Int))/\f 2 = .int .i64 ((b:Int))/\f 10 = .int .i64 ((i2:Int))/\f 11 = .int .i64 ((j2:Int))/\Fx.Own w_ B 22 1 (.slice (some ⟨g,0,none⟩) n cap) n (Fx.rv .u64 (gA dk))/\Below B w w_) (fun f _=>(intOf (f 11)).toNat) ⟨j,hX1,(.inl (by omega)),(by omega),UA,(V7.trans Fx.ic),(h43.trans Fx.ic),(Tv.trans Fx.ic),(h45.trans Fx.ic),xE,b62⟩ ?_)))))))))
   rintro f11 OU ⟨j2,hX2,hst,Qo,Ir,UD,h53,QT,Iu,sP,MB⟩
   refine Fx.Ws (Fx.Ws ?_)
   -- region 15 draws
   refine Fx.W.quiet (fun v1=>Below OU.heap.size OU v1) (by kernel_rfl) (by kernel_rfl) (Below.refl _ _).drew ?_
   refine Fx.Qv (.int .i64 ((i2:Int))) (fun v1 hv1=>Fx.ah rfl QT) (Fx.Qv (.int .i64 ((j2:Int))) (fun v1 hv1=>Fx.ah rfl Iu) ?_)
   by_cases c117:(i2:Int)<=(j2:Int)
   ·refine Fx.Qv (.bool true) (fun v1 hv1=>Fx.gU rfl rfl rfl c117) (Fx.Qv (.bool true) (fun v1 hv1=>Fx.ah rfl rfl) (Fx.Qv (.slice (some ⟨g,0,none⟩) (n) (cap)) (fun v1 hv1=>Fx.ah rfl Ir) (Fx.Qv (.int .i64 ((j2:Int))) (fun v1 hv1=>Fx.ah rfl Iu) (Fx.Qv ((pf g j2)) (fun v1 hv1=>Fx.av rfl rfl rfl Tryd.underlying53 (s:=1) (by kernel_rfl) (by omega) (by omega) (by omega)) (Fx.Qv (.int .u64 ((gA dk) j2)) (fun v1 hv1=>Fx.ak (x:=Fx.rv .u64 (gA dk)) rfl rfl (by kernel_rfl) (sP.aL.below hv1 (by have:=sP.lt; omega)) (i:=j2) (by omega) (by omega) rfl) (Fx.Qv (.slice (some ⟨g,0,none⟩) (n) (cap)) (fun v1 hv1=>Fx.ah rfl Ir) (Fx.Qv (.int .i64 ((a:Int))) (fun v1 hv1=>Fx.ah rfl UD) (Fx.Qv ((pf g a)) (fun v1 hv1=>Fx.av rfl rfl rfl Tryd.underlying53 (s:=1) (by kernel_rfl) (by omega) (by omega) (by omega)) (Fx.Qv (.int .u64 ((gA dk) a)) (fun v1 hv1=>Fx.ak (x:=Fx.rv .u64 (gA dk)) rfl rfl (by kernel_rfl) (sP.aL.below hv1 (by have:=sP.lt; omega)) (i:=a) (by omega) (by omega) rfl) ?_)))))))))
    by_cases c127:(decide ((gA dk) j2<(gA dk) a))=true
    ·refine Fx.Qt.call (v := .bool true) (by rfl) (fun v1 hv1=>Fx.rC (args := [.int .u64 ((gA dk) j2),.int .u64 ((gA dk) a)]) rfl rfl Tryd.func116 rfl rfl) rfl (fun v1 hv1=>(bU ((gA dk) j2) ((gA dk) a) _).mono fun e v2 h=>⟨by rw[h.1,c127],by rw[h.2]; exact hv1⟩) ?_
     refine Fx.Qv (.bool false) (fun v1 hv1=>Fx.dZ rfl rfl) (Fx.Qv (.bool false) (fun v1 hv1=>Fx.aA rfl rfl rfl) (Fx.Qt.nil ?_))
     intro QU QV
     have s53:Fx.Stp OU.heap.size OU QU:=Fx.Sb QV
     have zn:=sP.bO s53 (Nat.ne_of_lt (sP.lt))
     have b64:=s53.below MB (Nat.le_trans hB MB.size) (Nat.le_trans hB MB.size)
     refine Fx.sN (Fx.Wc (b:=false) rfl (fun h=>nomatch h) (fun _=>Fx.W.exit (Fx.dQ (Fx.jC (Fx.dR (Fx.sN (Fx.Ws (Fx.Ws (Fx.Wl (Fx.Lv (.int .i64 ((i2:Int))) (Fx.ah rfl QT) (Fx.Lv (.int .i64 ((j2:Int))) (Fx.ah rfl Iu) (Fx.Lv (.bool false) (Fx.dw rfl rfl rfl (by omega)) (Fx.Ln (Fx.sN (Fx.Wc (b:=false) rfl (fun h=>nomatch h) (fun _=>Fx.Wk (Fx.sN (Fx.Ws ?_))))))))))))))))))
     -- region 18 draws
     refine Fx.W.bH [0,1,2,3,4,5,6,8,9,10,7,11,12,13,14,15] [0,0,0,0,0,0,0,4,0,0,0,4,0,3,0,3] Fx.Mk Fx.Mk.refl Fx.Mk.trans (aQ := [(13,7,[7]),(15,7,[7]),(13,11,[11]),(15,11,[11]),(14,13,[13]),(15,13,[13])]) (by kernel_rfl) (by kernel_rfl) (by kernel_rfl) (by kernel_rfl) (by kernel_rfl) fun XE QW XF => ?_
     have s54:Fx.Stp QU.heap.size QU XE:=Fx.Sb QW
     have xG:=zn.bO s54 (Nat.ne_of_lt (zn.lt))
     have b65:=s54.below b64 (Nat.le_trans hB b64.size) (Nat.le_trans hB b64.size)
     refine Fx.Rp (.slice (some ⟨g,0,none⟩) (n) (cap)) (fun v1=>Fx.ah rfl Ir) (Fx.Rp (.int .i64 ((i2:Int))) (fun v1=>Fx.ah rfl QT) (Fx.Rp (.slice (some ⟨g,0,none⟩) (n) (cap)) (fun v1=>Fx.ah rfl Ir) (Fx.Rp (.int .i64 ((j2:Int))) (fun v1=>Fx.ah rfl Iu) (Fx.Rp (.slice (some ⟨g,0,none⟩) (n) (cap)) (fun v1=>Fx.ah rfl Ir) (Fx.Rp (.int .i64 ((j2:Int))) (fun v1=>Fx.ah rfl Iu) (Fx.Rp ((pf g j2)) (fun v1=>Fx.av rfl rfl rfl Tryd.underlying53 (s:=1) (by kernel_rfl) (by omega) (by omega) (by omega)) (Fx.Rp (.slice (some ⟨g,0,none⟩) (n) (cap)) (fun v1=>Fx.ah rfl Ir) (Fx.Rp (.int .i64 ((i2:Int))) (fun v1=>Fx.ah rfl QT) (Fx.Rp ((pf g i2)) (fun v1=>Fx.av rfl rfl rfl Tryd.underlying53 (s:=1) (by kernel_rfl) (by omega) (by omega) (by omega)) (Fx.R.s (.int .u64 ((gA dk) j2)) (Fx.ak (x:=Fx.rv .u64 (gA dk)) rfl rfl (by kernel_rfl) xG.aL (i:=j2) (by omega) (by omega) rfl) ?_))))))))))
     refine Fx.R.s (.int .u64 ((gA dk) i2)) (Fx.ak (x:=Fx.rv .u64 (gA dk)) rfl rfl (by kernel_rfl) xG.aL (i:=i2) (by omega) (by omega) rfl) ?_
     refine Fx.Rp ((pf g i2)) (fun v1=>Fx.av rfl rfl rfl Tryd.underlying53 (s:=1) (by kernel_rfl) (by omega) (by omega) (by omega)) (Fx.R.fP (by rfl) ?_)
     refine Fx.L.eU (x:=Fx.rv .u64 (gA dk)) (u := .int .u64 ((gA dk) j2)) (by rfl) rfl rfl rfl rfl (by rfl) (by kernel_rfl) xG (i:=i2) (by omega) fun w32 Aq s55 z21 => ?_
     have b66:=s55.below b65 (Nat.le_trans hB b65.size) xG.blk.1
     refine Fx.Ln (Fx.Rp ((pf g j2)) (fun v1=>Fx.av rfl rfl rfl Tryd.underlying53 (s:=1) (by kernel_rfl) (by omega) (by omega) (by omega)) (Fx.R.fP (by rfl) ?_))
     refine Fx.L.eU (x:=Fx.eB (Fx.rv .u64 (gA dk)) i2 (.int .u64 ((gA dk) j2))) (u := .int .u64 ((gA dk) i2)) (by rfl) rfl rfl rfl rfl (by rfl) (by kernel_rfl) Aq (i:=j2) (by omega) fun w33 Ce s56 z22 => ?_
     have b67:=s56.below b66 (Nat.le_trans hB b66.size) Aq.blk.1
     have Cg:Fx.Own w33 B 22 1 (.slice (some ⟨g,0,none⟩) n cap) n (Fx.rv .u64 (gA (Sort.swp dk i2 j2))):=Ce.congr (eO hk (by omega) (by omega))
     refine Fx.Ln (Fx.R.nil (Fx.sN (Fx.Ws (Fx.Wl (Fx.Lv (.int .i64 ((i2:Int))) (Fx.ah rfl QT) (Fx.Lv (.int .i64 ((i2:Int)+1)) (Fx.aS rfl rfl rfl Fx.io) (Fx.Lv (.int .i64 ((i2:Int)+1)) (Fx.aj rfl rfl) (Fx.Ln (Fx.sN (Fx.Wl (Fx.Lv (.int .i64 ((j2:Int))) (Fx.ah rfl Iu) (Fx.Lv (.int .i64 ((j2:Int)-1)) (Fx.bD rfl rfl rfl Fx.io) (Fx.Lv (.int .i64 ((j2:Int)-1)) (Fx.aj rfl rfl) (Fx.Ln (Fx.dV (Fx.kg ⟨i2+1,j2-1,Sort.swp dk i2 j2,(dz hk _ _),((zk (by omega) (hst.resolve_left (by omega)) (of_decide_eq_true c127)).trans hX2),(by omega),Ir,(UD.trans Fx.ic),(h53.trans Fx.ic),Fx.ic,Fx.ic,Cg,b67⟩ ?_))))))))))))))))
     show((b:Int)-intOf ((.int .i64 ((i2:Int)+1)))).toNat<_
     simp only[Xv,intOf]; omega
    rw[Bool.not_eq_true]at c127
    refine Fx.Qt.call (v := .bool false) (by rfl) (fun v1 hv1=>Fx.rC (args := [.int .u64 ((gA dk) j2),.int .u64 ((gA dk) a)]) rfl rfl Tryd.func116 rfl rfl) rfl (fun v1 hv1=>(bU ((gA dk) j2) ((gA dk) a) _).mono fun e v2 h=>⟨by rw[h.1,c127],by rw[h.2]; exact hv1⟩) ?_
    refine Fx.Qv (.bool true) (fun v1 hv1=>Fx.eH rfl rfl) (Fx.Qv (.bool true) (fun v1 hv1=>Fx.aA rfl rfl rfl) (Fx.Qt.nil ?_))
    intro XG QX
    have s57:Fx.Stp OU.heap.size OU XG:=Fx.Sb QX
    have Ch:=sP.bO s57 (Nat.ne_of_lt (sP.lt))
    have b68:=s57.below MB (Nat.le_trans hB MB.size) (Nat.le_trans hB MB.size)
    refine Fx.sN (Fx.Wc (b:=true) rfl (fun _=>Fx.Wk (Fx.sN (Fx.W.block (Fx.Wl (Fx.Lv (.int .i64 ((j2:Int))) (Fx.ah rfl Iu) ?_))))) (fun h=>nomatch h))
    refine Fx.Lv (.int .i64 ((j2:Int)-1)) (Fx.bD rfl rfl rfl Fx.io) (Fx.Lv (.int .i64 ((j2:Int)-1)) (Fx.aj rfl rfl) (Fx.Ln (Fx.dV (Fx.kg ⟨j2-1,((zi (by omega) (by omega) (hst.resolve_left (by omega)) (of_decide_eq_false c127)).trans hX2),(hst.elim (fun h => .inl (by omega)) .inr),(by omega),Ir,(UD.trans Fx.ic),(h53.trans Fx.ic),(QT.trans Fx.ic),Fx.ic,Ch,b68⟩ ?_))))
    show(intOf ((.int .i64 ((j2:Int)-1)))).toNat<_
    simp only[Iu,intOf]; omega
   refine Fx.Qv (.bool false) (fun v1 hv1=>Fx.dI rfl rfl rfl c117) (Fx.Qv (.bool false) (fun v1 hv1=>Fx.ah rfl rfl) (Fx.Qs (by rfl) rfl (Fx.Qs (by rfl) rfl (Fx.Qs (by rfl) rfl (Fx.Qs (by rfl) rfl (Fx.Qs (by rfl) rfl (Fx.Qs (by rfl) rfl (Fx.Qs (by rfl) rfl (Fx.Qs (by rfl) rfl (Fx.Qs (by rfl) rfl (Fx.Qs (by rfl) rfl (Fx.Qv (.bool false) (fun v1 hv1=>Fx.aJ rfl rfl rfl) (Fx.Qt.nil ?_)))))))))))))
   intro QY QZ
   have s58:Fx.Stp OU.heap.size OU QY:=Fx.Sb QZ
   have vP:=sP.bO s58 (Nat.ne_of_lt (sP.lt))
   have XH:=s58.below MB (Nat.le_trans hB MB.size) (Nat.le_trans hB MB.size)
   refine Fx.sN (Fx.Wc (b:=false) rfl (fun h=>nomatch h) (fun _=>Fx.W.exit (Fx.dQ (Fx.jC (Fx.dR (Fx.sN (Fx.Ws (Fx.Ws (Fx.Wl (Fx.Lv (.int .i64 ((i2:Int))) (Fx.ah rfl QT) (Fx.Lv (.int .i64 ((j2:Int))) (Fx.ah rfl Iu) (Fx.Lv (.bool true) (Fx.iy rfl rfl rfl (by omega)) (Fx.Ln (Fx.sN (Fx.Wc (b:=true) rfl (fun _=>Fx.W.exit (Fx.dQ (Fx.DR rfl (Fx.jC (Fx.dR (Fx.sN (Fx.Ws ?_))))))) (fun h=>nomatch h))))))))))))))))
   -- region 21 draws
   refine Fx.W.bH [0,1,2,3,4,5,6,8,9,10,7,11,12,13,14,15] [0,0,0,0,0,0,0,4,0,0,0,4,0,3,0,3] Fx.Mk Fx.Mk.refl Fx.Mk.trans (aQ := [(13,7,[7]),(15,7,[7]),(13,11,[11]),(15,11,[11]),(14,13,[13]),(15,13,[13])]) (by kernel_rfl) (by kernel_rfl) (by kernel_rfl) (by kernel_rfl) (by kernel_rfl) fun XI Q0 XJ => ?_
   have s59:Fx.Stp QY.heap.size QY XI:=Fx.Sb Q0
   have yC:=vP.bO s59 (Nat.ne_of_lt (vP.lt))
   have b70:=s59.below XH (Nat.le_trans hB XH.size) (Nat.le_trans hB XH.size)
   refine Fx.Rp (.slice (some ⟨g,0,none⟩) (n) (cap)) (fun v1=>Fx.ah rfl Ir) (Fx.Rp (.int .i64 ((j2:Int))) (fun v1=>Fx.ah rfl Iu) (Fx.Rp (.slice (some ⟨g,0,none⟩) (n) (cap)) (fun v1=>Fx.ah rfl Ir) (Fx.Rp (.int .i64 ((a:Int))) (fun v1=>Fx.ah rfl UD) (Fx.Rp (.slice (some ⟨g,0,none⟩) (n) (cap)) (fun v1=>Fx.ah rfl Ir) (Fx.Rp (.int .i64 ((a:Int))) (fun v1=>Fx.ah rfl UD) (Fx.Rp ((pf g a)) (fun v1=>Fx.av rfl rfl rfl Tryd.underlying53 (s:=1) (by kernel_rfl) (by omega) (by omega) (by omega)) (Fx.Rp (.slice (some ⟨g,0,none⟩) (n) (cap)) (fun v1=>Fx.ah rfl Ir) (Fx.Rp (.int .i64 ((j2:Int))) (fun v1=>Fx.ah rfl Iu) (Fx.Rp ((pf g j2)) (fun v1=>Fx.av rfl rfl rfl Tryd.underlying53 (s:=1) (by kernel_rfl) (by omega) (by omega) (by omega)) (Fx.R.s (.int .u64 ((gA dk) a)) (Fx.ak (x:=Fx.rv .u64 (gA dk)) rfl rfl (by kernel_rfl) yC.aL (i:=a) (by omega) (by omega) rfl) ?_))))))))))
   refine Fx.R.s (.int .u64 ((gA dk) j2)) (Fx.ak (x:=Fx.rv .u64 (gA dk)) rfl rfl (by kernel_rfl) yC.aL (i:=j2) (by omega) (by omega) rfl) ?_
   refine Fx.Rp ((pf g j2)) (fun v1=>Fx.av rfl rfl rfl Tryd.underlying53 (s:=1) (by kernel_rfl) (by omega) (by omega) (by omega)) (Fx.R.fP (by rfl) ?_)
   refine Fx.L.eU (x:=Fx.rv .u64 (gA dk)) (u := .int .u64 ((gA dk) a)) (by rfl) rfl rfl rfl rfl (by rfl) (by kernel_rfl) yC (i:=j2) (by omega) fun w34 Ar s60 z23 => ?_
   have b71:=s60.below b70 (Nat.le_trans hB b70.size) yC.blk.1
   refine Fx.Ln (Fx.Rp ((pf g a)) (fun v1=>Fx.av rfl rfl rfl Tryd.underlying53 (s:=1) (by kernel_rfl) (by omega) (by omega) (by omega)) (Fx.R.fP (by rfl) ?_))
   refine Fx.L.eU (x:=Fx.eB (Fx.rv .u64 (gA dk)) j2 (.int .u64 ((gA dk) a))) (u := .int .u64 ((gA dk) j2)) (by rfl) rfl rfl rfl rfl (by rfl) (by kernel_rfl) Ar (i:=a) (by omega) fun w35 DF s61 z24 => ?_
   have b72:=s61.below b71 (Nat.le_trans hB b71.size) Ar.blk.1
   have Fw:Fx.Own w35 B 22 1 (.slice (some ⟨g,0,none⟩) n cap) n (Fx.rv .u64 (gA (Sort.swp dk j2 a))):=DF.congr (eO hk (by omega) (by omega))
   refine Fx.Ln (Fx.R.nil (Fx.sN (Fx.Ws (Fx.Wl (Fx.Lv (.int .i64 ((j2:Int))) (Fx.ah rfl Iu) (Fx.Lv (.int .i64 ((j2:Int))) (Fx.aj rfl rfl) (Fx.Lv (.bool false) (Fx.aj rfl rfl) (Fx.Ln (Fx.sN (Fx.Wr (⟨.tuple #[.int .i64 ((j2:Int)),.bool false],Fx.cB Tryd.results118 (by exact rfl) (by exact rfl),?_⟩)))))))))))
   have hR:=hX2.symm.trans (uq (by omega))
   exact⟨j2,false,_,rfl,by rw[Sort.partition_fst,hR],by rw[Sort.partition_arr,hR],(dz hk _ _),Fw,b72⟩
  rw[Bool.not_eq_true]at xA
  refine Fx.Qt.call (v := .bool false) (by rfl) (fun v1 hv1=>Fx.rC (args := [.int .u64 ((gA (Sort.swp d a p)) j0),.int .u64 ((gA (Sort.swp d a p)) a)]) rfl rfl Tryd.func116 rfl rfl) rfl (fun v1 hv1=>(bU ((gA (Sort.swp d a p)) j0) ((gA (Sort.swp d a p)) a) _).mono fun e v2 h=>⟨by rw[h.1,xA],by rw[h.2]; exact hv1⟩) ?_
  refine Fx.Qv (.bool true) (fun v1 hv1=>Fx.eH rfl rfl) (Fx.Qv (.bool true) (fun v1 hv1=>Fx.aA rfl rfl rfl) (Fx.Qt.nil ?_))
  intro XK Q5
  have s62:Fx.Stp OP.heap.size OP XK:=Fx.Sb Q5
  have GY:=ny.bO s62 (Nat.ne_of_lt (ny.lt))
  have b73:=s62.below Mv (Nat.le_trans hB Mv.size) (Nat.le_trans hB Mv.size)
  refine Fx.sN (Fx.Wc (b:=true) rfl (fun _=>Fx.Wk (Fx.sN (Fx.W.block (Fx.Wl (Fx.Lv (.int .i64 ((j0:Int))) (Fx.ah rfl Iq) ?_))))) (fun h=>nomatch h))
  refine Fx.Lv (.int .i64 ((j0:Int)-1)) (Fx.bD rfl rfl rfl Fx.io) (Fx.Lv (.int .i64 ((j0:Int)-1)) (Fx.aj rfl rfl) (Fx.Ln (Fx.dV (Fx.kg ⟨j0-1,((zi (by omega) (by omega) (um.resolve_left (by omega)) (of_decide_eq_false xA)).trans Qn),(um.elim (fun h => .inl (by omega)) .inr),(by omega),h31,(h32.trans Fx.ic),(h33.trans Fx.ic),(QD.trans Fx.ic),Fx.ic,GY,b73⟩ ?_))))
  show(intOf ((.int .i64 ((j0:Int)-1)))).toNat<_
  simp only[Iq,intOf]; omega
 refine Fx.Qv (.bool false) (fun v1 hv1=>Fx.dI rfl rfl rfl Fv) (Fx.Qv (.bool false) (fun v1 hv1=>Fx.ah rfl rfl) (Fx.Qs (by rfl) rfl (Fx.Qs (by rfl) rfl (Fx.Qs (by rfl) rfl (Fx.Qs (by rfl) rfl (Fx.Qs (by rfl) rfl (Fx.Qs (by rfl) rfl (Fx.Qs (by rfl) rfl (Fx.Qs (by rfl) rfl (Fx.Qs (by rfl) rfl (Fx.Qs (by rfl) rfl (Fx.Qv (.bool false) (fun v1 hv1=>Fx.aJ rfl rfl rfl) (Fx.Qt.nil ?_)))))))))))))
 intro Q6 Q7
 have s63:Fx.Stp OP.heap.size OP Q6:=Fx.Sb Q7
 have GZ:=ny.bO s63 (Nat.ne_of_lt (ny.lt))
 have XL:=s63.below Mv (Nat.le_trans hB Mv.size) (Nat.le_trans hB Mv.size)
 refine Fx.sN (Fx.Wc (b:=false) rfl (fun h=>nomatch h) (fun _=>Fx.W.exit (Fx.dQ (Fx.jC (Fx.dR (Fx.sN (Fx.Ws (Fx.Ws (Fx.Wl (Fx.Lv (.int .i64 ((i0:Int))) (Fx.ah rfl QD) (Fx.Lv (.int .i64 ((j0:Int))) (Fx.ah rfl Iq) (Fx.Lv (.bool true) (Fx.iy rfl rfl rfl (by omega)) (Fx.Ln (Fx.sN (Fx.Wc (b:=true) rfl (fun _=>Fx.Ws ?_) (fun h=>nomatch h))))))))))))))))
 -- region 8 draws
 refine Fx.W.bH [0,1,2,3,4,5,6,8,9,10,7,11,12,13,14,15] [0,0,0,0,0,0,0,4,0,0,0,4,0,3,0,3] Fx.Mk Fx.Mk.refl Fx.Mk.trans (aQ := [(13,7,[7]),(15,7,[7]),(13,11,[11]),(15,11,[11]),(14,13,[13]),(15,13,[13])]) (by kernel_rfl) (by kernel_rfl) (by kernel_rfl) (by kernel_rfl) (by kernel_rfl) fun XM Q8 XO => ?_
 have s64:Fx.Stp Q6.heap.size Q6 XM:=Fx.Sb Q8
 have Ci:=GZ.bO s64 (Nat.ne_of_lt (GZ.lt))
 have b75:=s64.below XL (Nat.le_trans hB XL.size) (Nat.le_trans hB XL.size)
 refine Fx.Rp (.slice (some ⟨g,0,none⟩) (n) (cap)) (fun v1=>Fx.ah rfl h31) (Fx.Rp (.int .i64 ((j0:Int))) (fun v1=>Fx.ah rfl Iq) (Fx.Rp (.slice (some ⟨g,0,none⟩) (n) (cap)) (fun v1=>Fx.ah rfl h31) (Fx.Rp (.int .i64 ((a:Int))) (fun v1=>Fx.ah rfl h32) (Fx.Rp (.slice (some ⟨g,0,none⟩) (n) (cap)) (fun v1=>Fx.ah rfl h31) (Fx.Rp (.int .i64 ((a:Int))) (fun v1=>Fx.ah rfl h32) (Fx.Rp ((pf g a)) (fun v1=>Fx.av rfl rfl rfl Tryd.underlying53 (s:=1) (by kernel_rfl) (by omega) (by omega) (by omega)) (Fx.Rp (.slice (some ⟨g,0,none⟩) (n) (cap)) (fun v1=>Fx.ah rfl h31) (Fx.Rp (.int .i64 ((j0:Int))) (fun v1=>Fx.ah rfl Iq) (Fx.Rp ((pf g j0)) (fun v1=>Fx.av rfl rfl rfl Tryd.underlying53 (s:=1) (by kernel_rfl) (by omega) (by omega) (by omega)) (Fx.R.s (.int .u64 ((gA (Sort.swp d a p)) a)) (Fx.ak (x:=Fx.rv .u64 (gA (Sort.swp d a p))) rfl rfl (by kernel_rfl) Ci.aL (i:=a) (by omega) (by omega) rfl) ?_))))))))))
 refine Fx.R.s (.int .u64 ((gA (Sort.swp d a p)) j0)) (Fx.ak (x:=Fx.rv .u64 (gA (Sort.swp d a p))) rfl rfl (by kernel_rfl) Ci.aL (i:=j0) (by omega) (by omega) rfl) ?_
 refine Fx.Rp ((pf g j0)) (fun v1=>Fx.av rfl rfl rfl Tryd.underlying53 (s:=1) (by kernel_rfl) (by omega) (by omega) (by omega)) (Fx.R.fP (by rfl) ?_)
 refine Fx.L.eU (x:=Fx.rv .u64 (gA (Sort.swp d a p))) (u := .int .u64 ((gA (Sort.swp d a p)) a)) (by rfl) rfl rfl rfl rfl (by rfl) (by kernel_rfl) Ci (i:=j0) (by omega) fun w36 D9 s65 z25 => ?_
 have b76:=s65.below b75 (Nat.le_trans hB b75.size) Ci.blk.1
 refine Fx.Ln (Fx.Rp ((pf g a)) (fun v1=>Fx.av rfl rfl rfl Tryd.underlying53 (s:=1) (by kernel_rfl) (by omega) (by omega) (by omega)) (Fx.R.fP (by rfl) ?_))
 refine Fx.L.eU (x:=Fx.eB (Fx.rv .u64 (gA (Sort.swp d a p))) j0 (.int .u64 ((gA (Sort.swp d a p)) a))) (u := .int .u64 ((gA (Sort.swp d a p)) j0)) (by rfl) rfl rfl rfl rfl (by rfl) (by kernel_rfl) D9 (i:=a) (by omega) fun w37 G5 s66 z26 => ?_
 have b77:=s66.below b76 (Nat.le_trans hB b76.size) D9.blk.1
 have Fy:Fx.Own w37 B 22 1 (.slice (some ⟨g,0,none⟩) n cap) n (Fx.rv .u64 (gA (Sort.swp (Sort.swp d a p) j0 a))):=G5.congr (eO (dz hn _ _) (by omega) (by omega))
 refine Fx.Ln (Fx.R.nil (Fx.sN (Fx.Ws (Fx.Wl (Fx.Lv (.int .i64 ((j0:Int))) (Fx.ah rfl Iq) (Fx.Lv (.int .i64 ((j0:Int))) (Fx.aj rfl rfl) (Fx.Lv (.bool true) (Fx.aj rfl rfl) (Fx.Ln (Fx.sN (Fx.Wr (Fx.sR (⟨.tuple #[.int .i64 ((j0:Int)),.bool true],Fx.cB Tryd.results118 (by exact rfl) (by exact rfl),?_⟩))))))))))))
 have hR:=Qn.symm.trans (uq (by omega))
 exact⟨j0,true,_,rfl,by rw[Sort.partition_fst,hR],by rw[Sort.partition_arr,hR],(dz (dz hn _ _) _ _),Fy,b77⟩
end Go.Proofs.YtahbiajdgealnaaDoor
namespace Go.Proofs.YtahbiajdgealnaaDoor
open Go.RowKit
open Rt
set_option maxRecDepth 10000
theorem Q9{aI bI:Int}(a b:Nat)(ea:aI=(a:Int))(eb:bI=(b:Int))(B g n cap:Nat)(d:Array Int)(w:World)(h:Fx.Own w B 22 1 (.slice (some ⟨g,0,none⟩) n cap) n (Fx.rv .u64 (gA d)))(hB:B<=w.heap.size)(hn:d.size=n)(hs:n<=1000)(ha:a<=b)(hb:b<=n) :
 Calls Tryd.prog 110 #[.slice (some ⟨g,0,none⟩) (n) (cap),.int .i64 (aI),.int .i64 (bI)] w fun e w'=>e = .returned (.tuple #[])/\Fx.Own w' B 22 1 (.slice (some ⟨g,0,none⟩) n cap) n (Fx.rv .u64 (gA (Sort.insertionSort Sort.ltInt d a b)))/\Below B w w':=by
 subst ea eb; exact Ug a b B g n cap d w h hB hn hs ha hb
theorem MC{aI bI:Int}(a b:Nat)(ea:aI=(a:Int))(eb:bI=(b:Int))(B g n cap:Nat)(d:Array Int)(w:World)(h:Fx.Own w B 22 1 (.slice (some ⟨g,0,none⟩) n cap) n (Fx.rv .u64 (gA d)))(hB:B<=w.heap.size)(hn:d.size=n)(hs:n<=1000)(ha:a<b)(hb:b<=n) :
 Calls Tryd.prog 111 #[.slice (some ⟨g,0,none⟩) (n) (cap),.int .i64 (aI),.int .i64 (bI)] w fun e w'=>e = .returned (.tuple #[])/\Fx.Own w' B 22 1 (.slice (some ⟨g,0,none⟩) n cap) n (Fx.rv .u64 (gA (Sort.heapSort Sort.ltInt d a b)))/\Below B w w':=by
 subst ea eb; exact Qg a b B g n cap d w h hB hn hs ha hb
theorem Ra{aI bI:Int}(a b:Nat)(ea:aI=(a:Int))(eb:bI=(b:Int))(B g n cap:Nat)(d:Array Int)(w:World)(h:Fx.Own w B 22 1 (.slice (some ⟨g,0,none⟩) n cap) n (Fx.rv .u64 (gA d)))(hB:B<=w.heap.size)(hn:d.size=n)(hs:n<=1000)(ha:a<b)(hb:b<=n) :
 Calls Tryd.prog 114 #[.slice (some ⟨g,0,none⟩) (n) (cap),.int .i64 (aI),.int .i64 (bI)] w fun e w'=>e = .returned (.tuple #[])/\Fx.Own w' B 22 1 (.slice (some ⟨g,0,none⟩) n cap) n (Fx.rv .u64 (gA (Sort.reverseRange d a b)))/\Below B w w':=by
 subst ea eb; exact Ui a b B g n cap d w h hB hn hs ha hb
def OV(m:Nat):Prop := ∀(aI bI lI:Int) (a b lim:Nat) (B g n cap:Nat) (d:Array Int) (w:World) (h:Fx.Own w B 22 1 (.slice (some ⟨g,0,none⟩) n cap) n (Fx.rv .u64 (gA d))) (hB:B<=w.heap.size) (hn:d.size=n) (hs:n<=1000) (h50:n<50) (hl:lim<=1000) (hab:a<=b) (hb:b<=n) (hBel:Sort.Below Sort.ltInt a b d),aI=(a:Int)->bI=(b:Int)->lI=(lim:Int)->b-a<m ->
    Calls Tryd.prog 99 #[.slice (some ⟨g,0,none⟩) (n) (cap),.int .i64 aI,.int .i64 bI,.int .i64 lI] w fun e w' => ∃ d2:Array Int,e = .returned (.tuple #[])/\d2.size=n/\Sort.PermIn a b d d2/\Sort.SortedIn Sort.ltInt a b d2/\Fx.Own w' B 22 1 (.slice (some ⟨g,0,none⟩) n cap) n (Fx.rv .u64 (gA d2))/\Below B w w'
theorem Rb(m:Nat)(ih:OV m)(a b lim:Nat)(B g n cap:Nat)(d:Array Int)(w:World)(h:Fx.Own w B 22 1 (.slice (some ⟨g,0,none⟩) n cap) n (Fx.rv .u64 (gA d)))(hB:B<=w.heap.size)(hn:d.size=n)(hs:n<=1000)(h50:n<50)(hl:lim<=1000)(hab:a<=b)(hb:b<=n)(hBel:Sort.Below Sort.ltInt a b d)(hm:b-a<m+1) :
 Calls Tryd.prog 99 #[.slice (some ⟨g,0,none⟩) (n) (cap),.int .i64 ((a:Int)),.int .i64 ((b:Int)),.int .i64 ((lim:Int))] w fun e w' => ∃ d2:Array Int,e = .returned (.tuple #[])/\d2.size=n/\Sort.PermIn a b d d2/\Sort.SortedIn Sort.ltInt a b d2/\Fx.Own w' B 22 1 (.slice (some ⟨g,0,none⟩) n cap) n (Fx.rv .u64 (gA d2))/\Below B w w':=by
 refine Fx.enter Tryd.func99 rfl (n:=134) rfl (by rfl) ?_
 refine Fx.Ws (Fx.Wl (Fx.Lv (.bool true) (Fx.aj rfl rfl) (Fx.Ln (Fx.sN (Fx.Ws (Fx.Wl (Fx.Lv (.bool true) (Fx.aj rfl rfl) (Fx.Ln (Fx.sN (Fx.W.block (Fx.W.BA (fun kk f w_ => ∃ ax:Nat,∃ bx:Nat,∃ lx:Nat,∃ dk:Array Int,∃ wb:Bool,∃ wp:Bool,dk.size=n/\Sort.Below Sort.ltInt ax bx dk/\(∀ R,Sort.PermIn ax bx dk R->Sort.SortedIn Sort.ltInt ax bx R->Sort.PermIn a b d R/\Sort.SortedIn Sort.ltInt a b R)/\(ax<=bx/\bx<=n/\lx<=1000/\bx-ax<=b-a)/\kk=bx-ax/\f 0 = .slice (some ⟨g,0,none⟩) (n) (cap)/\f 1 = .int .i64 ((ax:Int))/\f 2 = .int .i64 ((bx:Int))/\f 3 = .int .i64 ((lx:Int))/\f 8 = .bool wb/\f 9 = .bool wp/\Fx.Own w_ B 22 1 (.slice (some ⟨g,0,none⟩) n cap) n (Fx.rv .u64 (gA dk))/\Below B w w_) (b-a) ⟨a,b,lim,d,true,true,hn,hBel,(fun R h1 h2=>⟨h1,h2⟩),(by omega),rfl,(by rfl),Fx.ic,Fx.ic,Fx.ic,(by rfl),(by rfl),h,(Below.refl B w)⟩ ?_)))))))))))
 rintro kk f1 w1 ⟨ax,bx,lx,dk,wb,wp,hk,hBl,hF,aej,hkk,h1,h2,h3,h4,h5,h6,m1,b1⟩
 refine Fx.W.block (Fx.Ws (Fx.Wl (Fx.Lv (.int .i64 ((bx:Int))) (Fx.ah rfl h3) (Fx.Lv (.int .i64 ((ax:Int))) (Fx.ah rfl h2) (Fx.Lv (.int .i64 ((bx:Int)-(ax:Int))) (Fx.bD rfl rfl rfl Fx.io) (Fx.Lv (.int .i64 ((bx:Int)-(ax:Int))) (Fx.aj rfl rfl) (Fx.Ln (Fx.sN (Fx.Ws (Fx.Ws (Fx.Wl (Fx.Lv (.int .i64 ((bx:Int)-(ax:Int))) (Fx.ah rfl rfl) ?_))))))))))))
 by_cases c23:((bx:Int)-(ax:Int))<=12
 ·refine Fx.Lv (.bool true) (Fx.gU rfl rfl rfl c23) (Fx.Ln (Fx.sN (Fx.Wc (b:=true) rfl (fun _=>Fx.Ws (Fx.Wl (Fx.Lv (.slice (some ⟨g,0,none⟩) (n) (cap)) (Fx.ah rfl h1) ?_))) (fun h=>nomatch h))))
  refine Fx.Lv (.int .i64 ((ax:Int))) (Fx.ah rfl h2) (Fx.Lv (.int .i64 ((bx:Int))) (Fx.ah rfl h3) (Fx.L.call (by rfl) (Fx.rC (args := [.slice (some ⟨g,0,none⟩) (n) (cap),.int .i64 ((ax:Int)),.int .i64 ((bx:Int))]) rfl rfl Tryd.func110 rfl rfl) rfl ((Q9 ax bx (by omega) (by omega) B g n cap dk _ m1 (Nat.le_trans hB b1.size) hk hs (by omega) (by omega)).mono ?_)))
  rintro e9 w2 ⟨he,m2,hb1⟩
  refine⟨_,he,?_⟩
  clear he
  have b2:=b1.trans hb1
  refine Fx.Ln (Fx.sN (Fx.Wr (Fx.sR (Fx.dH (Fx.DT (Fx.dH (⟨.tuple #[],Fx.jS Tryd.results99,?_⟩)))))))
  have hp:=(Sort.insertionSort_holds Sort.swo_ltInt dk ax bx (by omega) (by omega))
  have hq:=hF _ hp.1 hp.2
  exact⟨_,rfl,hp.1.1.trans hk,hq.1,hq.2,m2,b2⟩
 refine Fx.Lv (.bool false) (Fx.dI rfl rfl rfl c23) (Fx.Ln (Fx.sN (Fx.Wc (b:=false) rfl (fun h=>nomatch h) (fun _=>Fx.Wk (Fx.sN (Fx.Ws (Fx.Ws (Fx.Wl (Fx.Lv (.int .i64 ((lx:Int))) (Fx.ah rfl h4) ?_)))))))))
 by_cases yH:(lx:Int)=0
 ·refine Fx.Lv (.bool true) (Fx.bG rfl rfl rfl yH) (Fx.Ln (Fx.sN (Fx.Wc (b:=true) rfl (fun _=>Fx.Ws (Fx.Wl (Fx.Lv (.slice (some ⟨g,0,none⟩) (n) (cap)) (Fx.ah rfl h1) ?_))) (fun h=>nomatch h))))
  refine Fx.Lv (.int .i64 ((ax:Int))) (Fx.ah rfl h2) (Fx.Lv (.int .i64 ((bx:Int))) (Fx.ah rfl h3) (Fx.L.call (by rfl) (Fx.rC (args := [.slice (some ⟨g,0,none⟩) (n) (cap),.int .i64 ((ax:Int)),.int .i64 ((bx:Int))]) rfl rfl Tryd.func111 rfl rfl) rfl ((MC ax bx (by omega) (by omega) B g n cap dk _ m1 (Nat.le_trans hB b1.size) hk hs (by omega) (by omega)).mono ?_)))
  rintro e9 w3 ⟨he,m3,hb2⟩
  refine⟨_,he,?_⟩
  clear he
  have b3:=b1.trans hb2
  refine Fx.Ln (Fx.sN (Fx.Wr (Fx.sR (Fx.dH (Fx.DT (Fx.dH (⟨.tuple #[],Fx.jS Tryd.results99,?_⟩)))))))
  have hp:=(Sort.heapSort_holds Sort.swo_ltInt dk ax bx (by omega) (by omega))
  have hq:=hF _ hp.1 hp.2
  exact⟨_,rfl,hp.1.1.trans hk,hq.1,hq.2,m3,b3⟩
 refine Fx.Lv (.bool false) (Fx.dn rfl rfl rfl yH) (Fx.Ln (Fx.sN (Fx.Wc (b:=false) rfl (fun h=>nomatch h) (fun _=>Fx.Wk (Fx.sN (Fx.W.P6 (fun f w_ => ∃ ly:Nat,∃ dx:Array Int,dx.size=n/\Sort.PermIn ax bx dk dx/\ly<=1000/\f 0 = .slice (some ⟨g,0,none⟩) (n) (cap)/\f 1 = .int .i64 ((ax:Int))/\f 2 = .int .i64 ((bx:Int))/\f 3 = .int .i64 ((ly:Int))/\f 8 = .bool wb/\f 9 = .bool wp/\f 10 = .int .i64 ((bx:Int)-(ax:Int))/\Fx.Own w_ B 22 1 (.slice (some ⟨g,0,none⟩) n cap) n (Fx.rv .u64 (gA dx))/\Below B w w_) ?_ ?_))))))
 ·refine Fx.Ws (Fx.Wl ?_)
  by_cases c34:wb=true
  ·refine Fx.Lv (.bool true) (Fx.ah rfl (h5.trans (congrArg Value.bool c34))) (Fx.Lv (.bool false) (Fx.dZ rfl rfl) (Fx.Ln (Fx.sN (Fx.Wc (b:=false) rfl (fun h=>nomatch h) (fun _=>Fx.Wk ?_)))))
   exact Fx.OD ⟨lx,dk,hk,(Sort.permIn_refl _ _ _),(by omega),h1,(h2.trans Fx.ic),(h3.trans Fx.ic),(h4.trans Fx.ic),h5,h6,Fx.ic,m1,b1⟩
  rw[Bool.not_eq_true]at c34
  refine Fx.Lv (.bool false) (Fx.ah rfl (h5.trans (congrArg Value.bool c34))) (Fx.Lv (.bool true) (Fx.eH rfl rfl) (Fx.Ln (Fx.sN (Fx.Wc (b:=true) rfl (fun _=>Fx.Ws (Fx.Wl (Fx.Lv (.slice (some ⟨g,0,none⟩) (n) (cap)) (Fx.ah rfl h1) ?_))) (fun h=>nomatch h)))))
  refine Fx.Lv (.int .i64 ((ax:Int))) (Fx.ah rfl h2) (Fx.Lv (.int .i64 ((bx:Int))) (Fx.ah rfl h3) (Fx.L.call (by rfl) (Fx.rC (args := [.slice (some ⟨g,0,none⟩) (n) (cap),.int .i64 ((ax:Int)),.int .i64 ((bx:Int))]) rfl rfl Tryd.func112 rfl rfl) rfl ((Ul ax bx B g n cap dk _ m1 (Nat.le_trans hB b1.size) hk hs (by omega) (by omega) h50).mono ?_)))
  rintro e9 w4 ⟨dn1,he,hz1,hP1,m4,hb3⟩
  have b4:=b1.trans hb3
  refine⟨_,he,?_⟩
  clear he
  refine Fx.Ln (Fx.sN (Fx.Wl (Fx.Lv (.int .i64 ((lx:Int))) (Fx.ah rfl h4) (Fx.Lv (.int .i64 ((lx:Int)-1)) (Fx.bD rfl rfl rfl Fx.io) (Fx.Lv (.int .i64 ((lx:Int)-1)) (Fx.aj rfl rfl) (Fx.Ln ?_))))))
  exact Fx.OD ⟨lx-1,dn1,hz1,hP1,(by omega),h1,(h2.trans Fx.ic),(h3.trans Fx.ic),Fx.ic,h5,h6,Fx.ic,m4,b4⟩
 rintro f2 w5 ⟨ly,dx,hk1,hP1,hl2,h7,h8,h9,h10,h11,h12,Al,m5,b5⟩
 refine Fx.Ws (Fx.Wl (Fx.Lv (.slice (some ⟨g,0,none⟩) (n) (cap)) (Fx.ah rfl h7) (Fx.Lv (.int .i64 ((ax:Int))) (Fx.ah rfl h8) (Fx.Lv (.int .i64 ((bx:Int))) (Fx.ah rfl h9) (Fx.L.call (by rfl) (Fx.rC (args := [.slice (some ⟨g,0,none⟩) (n) (cap),.int .i64 ((ax:Int)),.int .i64 ((bx:Int))]) rfl rfl Tryd.func113 rfl rfl) rfl ((Un ax bx B g n cap dx _ m5 (Nat.le_trans hB b5.size) hk1 hs (by omega) (by omega) h50).mono ?_))))))
 rintro e9 w6 ⟨p1,ht1,he,hu1,hv1,m6,hb4⟩
 have b6:=b5.trans hb4
 refine⟨_,he,?_⟩
 clear he
 refine Fx.Lv (.tuple #[.int .i64 ((p1:Int)),.int .i64 (ht1)]) (Fx.ah rfl rfl) (Fx.Lv (.int .i64 ((p1:Int))) (Fx.aD rfl rfl rfl) (Fx.Lv (.int .i64 (ht1)) (Fx.aD rfl rfl rfl) (Fx.Lv (.int .i64 ((p1:Int))) (Fx.aj rfl rfl) (Fx.Lv (.int .i64 (ht1)) (Fx.aj rfl rfl) (Fx.Ln (Fx.sN (Fx.W.P6 (fun f w_ => ∃ pv:Nat,∃ hint:Int,∃ dy:Array Int,dy.size=n/\Sort.PermIn ax bx dk dy/\(ax<=pv/\pv<bx)/\f 0 = .slice (some ⟨g,0,none⟩) (n) (cap)/\f 1 = .int .i64 ((ax:Int))/\f 2 = .int .i64 ((bx:Int))/\f 3 = .int .i64 ((ly:Int))/\f 8 = .bool wb/\f 9 = .bool wp/\f 10 = .int .i64 ((bx:Int)-(ax:Int))/\f 11 = .int .i64 ((pv:Int))/\f 12 = .int .i64 (hint)/\Fx.Own w_ B 22 1 (.slice (some ⟨g,0,none⟩) n cap) n (Fx.rv .u64 (gA dy))/\Below B w w_) ?_ ?_)))))))
 ·refine Fx.Ws (Fx.Wl (Fx.Lv (.int .i64 (ht1)) (Fx.ah rfl rfl) ?_))
  by_cases c50:ht1=2
  ·refine Fx.Lv (.bool true) (Fx.bG rfl rfl rfl c50) (Fx.Ln (Fx.sN (Fx.Wc (b:=true) rfl (fun _=>Fx.Ws (Fx.Wl (Fx.Lv (.slice (some ⟨g,0,none⟩) (n) (cap)) (Fx.ah rfl h7) ?_))) (fun h=>nomatch h))))
   refine Fx.Lv (.int .i64 ((ax:Int))) (Fx.ah rfl h8) (Fx.Lv (.int .i64 ((bx:Int))) (Fx.ah rfl h9) (Fx.L.call (by rfl) (Fx.rC (args := [.slice (some ⟨g,0,none⟩) (n) (cap),.int .i64 ((ax:Int)),.int .i64 ((bx:Int))]) rfl rfl Tryd.func114 rfl rfl) rfl ((Ra ax bx (by omega) (by omega) B g n cap dx _ m6 (Nat.le_trans hB b6.size) hk1 hs (by omega) (by omega)).mono ?_)))
   rintro e9 w7 ⟨he,m7,hb5⟩
   refine⟨_,he,?_⟩
   clear he
   have b7:=b6.trans hb5
   refine Fx.Ln (Fx.sN (Fx.Ws (Fx.Wl (Fx.Lv (.int .i64 ((bx:Int))) (Fx.ah rfl h9) (Fx.Lv (.int .i64 ((bx:Int)-1)) (Fx.bD rfl rfl rfl Fx.io) (Fx.Lv (.int .i64 ((p1:Int))) (Fx.ah rfl rfl) (Fx.Lv (.int .i64 ((ax:Int))) (Fx.ah rfl h8) (Fx.Lv (.int .i64 ((p1:Int)-(ax:Int))) (Fx.bD rfl rfl rfl Fx.io) (Fx.Lv (.int .i64 ((ax:Int)+(bx:Int)-(p1:Int)-1)) (Fx.bD rfl rfl rfl Fx.io) (Fx.Lv (.int .i64 ((ax:Int)+(bx:Int)-(p1:Int)-1)) (Fx.aj rfl rfl) (Fx.Ln (Fx.sN (Fx.Wl (Fx.Lv (.int .i64 (1)) (Fx.aj rfl rfl) (Fx.Ln ?_)))))))))))))))
   exact Fx.OD ⟨ax+bx-p1-1,1,Sort.reverseRange dx ax bx,((Sort.reverseRange_holds _ _ _ (by omega) (by omega)).1.trans hk1),(Sort.permIn_trans _ _ _ _ _ hP1 (Sort.reverseRange_holds _ _ _ (by omega) (by omega))),(by omega),h7,(h8.trans Fx.ic),(h9.trans Fx.ic),(h10.trans Fx.ic),h11,h12,(Al.trans Fx.ic),Fx.ic,Fx.ic,m7,b7⟩
  refine Fx.Lv (.bool false) (Fx.dn rfl rfl rfl c50) (Fx.Ln (Fx.sN (Fx.Wc (b:=false) rfl (fun h=>nomatch h) (fun _=>Fx.Wk ?_))))
  exact Fx.OD ⟨p1,ht1,dx,hk1,hP1,(by omega),h7,(h8.trans Fx.ic),(h9.trans Fx.ic),(h10.trans Fx.ic),h11,h12,(Al.trans Fx.ic),Fx.ic,Fx.ic,m6,b6⟩
 rintro f3 w8 ⟨pv,hint,dy,hk2,hP2,hpv,Bg,Ca,h16,GX,h18,h19,h20,h21,h22,m8,b8⟩
 obtain⟨hpv1,hpv2⟩:=hpv
 have hpv:=And.intro hpv1 hpv2
 refine Fx.W.P6 (fun f w_=>f 0 = .slice (some ⟨g,0,none⟩) (n) (cap)/\f 1 = .int .i64 ((ax:Int))/\f 2 = .int .i64 ((bx:Int))/\f 3 = .int .i64 ((ly:Int))/\f 8 = .bool wb/\f 9 = .bool wp/\f 10 = .int .i64 ((bx:Int)-(ax:Int))/\f 11 = .int .i64 ((pv:Int))/\Fx.Own w_ B 22 1 (.slice (some ⟨g,0,none⟩) n cap) n (Fx.rv .u64 (gA dy))/\Below B w w_) ?_ ?_
 ·refine Fx.Ws (Fx.Wl ?_)
  by_cases XP:wb=true
  ·refine Fx.Lv (.bool true) (Fx.ah rfl (h18.trans (congrArg Value.bool XP))) (Fx.Lv (.bool true) (Fx.ah rfl rfl) ?_)
   by_cases XQ:wp=true
   ·refine Fx.Lv (.bool true) (Fx.ah rfl (h19.trans (congrArg Value.bool XQ))) (Fx.Lv (.bool true) (Fx.aA rfl rfl rfl) (Fx.Lv (.bool true) (Fx.ah rfl rfl) (Fx.Lv (.int .i64 (hint)) (Fx.ah rfl h22) ?_)))
    by_cases c67:hint=1
    ·refine Fx.Lv (.bool true) (Fx.bG rfl rfl rfl c67) (Fx.Lv (.bool true) (Fx.aA rfl rfl rfl) (Fx.Ln (Fx.sN (Fx.Wc (b:=true) rfl (fun _=>Fx.Ws (Fx.Wl (Fx.Lv (.slice (some ⟨g,0,none⟩) (n) (cap)) (Fx.ah rfl Bg) ?_))) (fun h=>nomatch h)))))
     refine Fx.Lv (.int .i64 ((ax:Int))) (Fx.ah rfl Ca) (Fx.Lv (.int .i64 ((bx:Int))) (Fx.ah rfl h16) (Fx.L.call (by rfl) (Fx.rC (args := [.slice (some ⟨g,0,none⟩) (n) (cap),.int .i64 ((ax:Int)),.int .i64 ((bx:Int))]) rfl rfl Tryd.func115 rfl rfl) rfl ((Qm ax bx B g n cap dy _ m8 (Nat.le_trans hB b8.size) hk2 hs (by omega) (by omega) h50).mono ?_)))
     rintro e9 w9 ⟨r1,he,hS1,m9,hb6⟩
     have b9:=b8.trans hb6
     rcases r1 with _|_
     ·refine⟨_,he,?_⟩
      clear he
      refine Fx.Ln (Fx.sN (Fx.Wc (b:=false) rfl (fun h=>nomatch h) (fun _=>Fx.Wk ?_)))
      exact Fx.OD ⟨Bg,(Ca.trans Fx.ic),(h16.trans Fx.ic),(GX.trans Fx.ic),h18,h19,(h20.trans Fx.ic),(h21.trans Fx.ic),m9,b9⟩
     refine⟨_,he,?_⟩
     clear he
     refine Fx.Ln (Fx.sN (Fx.Wc (b:=true) rfl (fun _=>Fx.Wr (Fx.jnR ?_)) (fun h=>nomatch h)))
     refine Fx.dH (Fx.DT (Fx.dH (⟨.tuple #[],Fx.jS Tryd.results99,?_⟩)))
     have hq:=hF _ hP2 (hS1 rfl)
     exact⟨_,rfl,hk2,hq.1,hq.2,m9,b9⟩
    refine Fx.Lv (.bool false) (Fx.dn rfl rfl rfl c67) (Fx.Lv (.bool false) (Fx.aA rfl rfl rfl) (Fx.Ln (Fx.sN (Fx.Wc (b:=false) rfl (fun h=>nomatch h) (fun _=>Fx.Wk ?_)))))
    exact Fx.OD ⟨Bg,(Ca.trans Fx.ic),(h16.trans Fx.ic),(GX.trans Fx.ic),h18,h19,(h20.trans Fx.ic),(h21.trans Fx.ic),m8,b8⟩
   rw[Bool.not_eq_true]at XQ
   refine Fx.Lv (.bool false) (Fx.ah rfl (h19.trans (congrArg Value.bool XQ))) (Fx.Lv (.bool false) (Fx.aA rfl rfl rfl) (Fx.Lv (.bool false) (Fx.ah rfl rfl) (Fx.Lk (by rfl) rfl (Fx.Lk (by rfl) rfl (Fx.Lv (.bool false) (Fx.aJ rfl rfl rfl) (Fx.Ln (Fx.sN (Fx.Wc (b:=false) rfl (fun h=>nomatch h) (fun _=>Fx.Wk ?_)))))))))
   exact Fx.OD ⟨Bg,(Ca.trans Fx.ic),(h16.trans Fx.ic),(GX.trans Fx.ic),h18,h19,(h20.trans Fx.ic),(h21.trans Fx.ic),m8,b8⟩
  rw[Bool.not_eq_true]at XP
  refine Fx.Lv (.bool false) (Fx.ah rfl (h18.trans (congrArg Value.bool XP))) (Fx.Lv (.bool false) (Fx.ah rfl rfl) (Fx.Lk (by rfl) rfl (Fx.Lv (.bool false) (Fx.aJ rfl rfl rfl) (Fx.Lv (.bool false) (Fx.ah rfl rfl) (Fx.Lk (by rfl) rfl (Fx.Lk (by rfl) rfl (Fx.Lv (.bool false) (Fx.aJ rfl rfl rfl) (Fx.Ln (Fx.sN (Fx.Wc (b:=false) rfl (fun h=>nomatch h) (fun _=>Fx.Wk ?_)))))))))))
  exact Fx.OD ⟨Bg,(Ca.trans Fx.ic),(h16.trans Fx.ic),(GX.trans Fx.ic),h18,h19,(h20.trans Fx.ic),(h21.trans Fx.ic),m8,b8⟩
 rintro f4 wo ⟨h23,Ap,xC,yx,h27,V6,LQ,Cc,m10,b10⟩
 refine Fx.Ws (Fx.Ws ?_)
 -- region 17 draws
 refine Fx.W.quiet (fun v1=>Below wo.heap.size wo v1) (by kernel_rfl) (by kernel_rfl) (Below.refl _ _).drew ?_
 refine Fx.Qv (.int .i64 ((ax:Int))) (fun v1 hv1=>Fx.ah rfl Ap) ?_
 by_cases c74:0<(ax:Int)
 ·refine Fx.Qv (.bool true) (fun v1 hv1=>Fx.iy rfl rfl rfl c74) (Fx.Qv (.bool true) (fun v1 hv1=>Fx.ah rfl rfl) (Fx.Qv (.slice (some ⟨g,0,none⟩) (n) (cap)) (fun v1 hv1=>Fx.ah rfl h23) (Fx.Qv (.int .i64 ((ax:Int))) (fun v1 hv1=>Fx.ah rfl Ap) (Fx.Qv (.int .i64 ((ax:Int)-1)) (fun v1 hv1=>Fx.bD rfl rfl rfl Fx.io) (Fx.Qv ((pf g (ax-1))) (fun v1 hv1=>Fx.av rfl rfl rfl Tryd.underlying53 (s:=1) (by kernel_rfl) (by omega) (by omega) (by omega)) (Fx.Qv (.int .u64 ((gA dy) (ax-1))) (fun v1 hv1=>Fx.ak (x:=Fx.rv .u64 (gA dy)) rfl rfl (by kernel_rfl) (m10.aL.below hv1 (by have:=m10.lt; omega)) (i:=ax-1) (by omega) (by omega) rfl) (Fx.Qv (.slice (some ⟨g,0,none⟩) (n) (cap)) (fun v1 hv1=>Fx.ah rfl h23) (Fx.Qv (.int .i64 ((pv:Int))) (fun v1 hv1=>Fx.ah rfl Cc) (Fx.Qv ((pf g pv)) (fun v1 hv1=>Fx.av rfl rfl rfl Tryd.underlying53 (s:=1) (by kernel_rfl) (by omega) (by omega) (by omega)) (Fx.Qv (.int .u64 ((gA dy) pv)) (fun v1 hv1=>Fx.ak (x:=Fx.rv .u64 (gA dy)) rfl rfl (by kernel_rfl) (m10.aL.below hv1 (by have:=m10.lt; omega)) (i:=pv) (by omega) (by omega) rfl) ?_))))))))))
  by_cases c85:(decide ((gA dy) (ax-1)<(gA dy) pv))=true
  ·refine Fx.Qt.call (v := .bool true) (by rfl) (fun v1 hv1=>Fx.rC (args := [.int .u64 ((gA dy) (ax-1)),.int .u64 ((gA dy) pv)]) rfl rfl Tryd.func116 rfl rfl) rfl (fun v1 hv1=>(bU ((gA dy) (ax-1)) ((gA dy) pv) _).mono fun e v2 h=>⟨by rw[h.1,c85],by rw[h.2]; exact hv1⟩) ?_
   refine Fx.Qv (.bool false) (fun v1 hv1=>Fx.dZ rfl rfl) (Fx.Qv (.bool false) (fun v1 hv1=>Fx.aA rfl rfl rfl) (Fx.Qt.nil ?_))
   intro sG iN
   have s1:Fx.Stp wo.heap.size wo sG:=Fx.Sb iN
   have m11:=m10.bO s1 (Nat.ne_of_lt (m10.lt))
   have b11:=s1.below b10 (Nat.le_trans hB b10.size) (Nat.le_trans hB b10.size)
   refine Fx.sN (Fx.Wc (b:=false) rfl (fun h=>nomatch h) (fun _=>Fx.Wk (Fx.sN (Fx.Ws (Fx.Wl (Fx.Lv (.slice (some ⟨g,0,none⟩) (n) (cap)) (Fx.ah rfl h23) (Fx.Lv (.int .i64 ((ax:Int))) (Fx.ah rfl Ap) (Fx.Lv (.int .i64 ((bx:Int))) (Fx.ah rfl xC) (Fx.Lv (.int .i64 ((pv:Int))) (Fx.ah rfl Cc) (Fx.L.call (by rfl) (Fx.rC (args := [.slice (some ⟨g,0,none⟩) (n) (cap),.int .i64 ((ax:Int)),.int .i64 ((bx:Int)),.int .i64 ((pv:Int))]) rfl rfl Tryd.func118 rfl rfl) rfl ((Uu ax bx pv B g n cap dy _ m11 (Nat.le_trans hB b11.size) hk2 hs (by omega) (by omega) (by omega)).mono ?_)))))))))))
   rintro e9 Tq ⟨gJ,Rc,XR,he,hu2,hv2,hz2,m12,UE⟩
   have b12:=b11.trans UE
   have hx:Sort.partition Sort.ltInt dy ax bx pv=(gJ,(Sort.partition Sort.ltInt dy ax bx pv).2.1,XR):=Prod.ext hu2 (Prod.ext rfl hv2)
   obtain⟨r1,r2,r3,r4,r5,r6,r7⟩:=Sort.round_part Sort.swo_ltInt (Sort.partition_holds _) hpv.1 hpv.2 (by omega) (hBl.perm (by omega) hP2) hx
   clear hx
   refine⟨_,he,?_⟩
   clear he
   refine Fx.Lv (.tuple #[.int .i64 ((gJ:Int)),.bool Rc]) (Fx.ah rfl rfl) (Fx.Lv (.int .i64 ((gJ:Int))) (Fx.aD rfl rfl rfl) (Fx.Lv (.bool Rc) (Fx.aD rfl rfl rfl) (Fx.Lv (.int .i64 ((gJ:Int))) (Fx.aj rfl rfl) (Fx.Lv (.bool Rc) (Fx.aj rfl rfl) (Fx.Ln (Fx.sN (Fx.Ws (Fx.Wl (Fx.Lv (.bool Rc) (Fx.ah rfl rfl) (Fx.Lv (.bool Rc) (Fx.aj rfl rfl) (Fx.Ln (Fx.sN (Fx.Ws (Fx.Wl (Fx.Lv (.int .i64 ((gJ:Int))) (Fx.ah rfl rfl) (Fx.Lv (.int .i64 ((ax:Int))) (Fx.ah rfl Ap) (Fx.Lv (.int .i64 ((gJ:Int)-(ax:Int))) (Fx.bD rfl rfl rfl Fx.io) (Fx.Lv (.int .i64 ((bx:Int))) (Fx.ah rfl xC) (Fx.Lv (.int .i64 ((gJ:Int))) (Fx.ah rfl rfl) (Fx.Lv (.int .i64 ((bx:Int)-(gJ:Int))) (Fx.bD rfl rfl rfl Fx.io) (Fx.Lv (.int .i64 ((gJ:Int)-(ax:Int))) (Fx.aj rfl rfl) (Fx.Lv (.int .i64 ((bx:Int)-(gJ:Int))) (Fx.aj rfl rfl) (Fx.Ln (Fx.sN (Fx.Ws (Fx.Wl (Fx.Lv (.int .i64 ((bx:Int)-(ax:Int))) (Fx.ah rfl LQ) (Fx.Lv (.int .i64 (((bx-ax) / 8:Nat))) (Fx.uU rfl rfl rfl (by omega) (Fx.wQ (by omega) (by rw[Int.tdiv_eq_ediv_of_nonneg (by omega)]; omega))) (Fx.Lv (.int .i64 (((bx-ax) / 8:Nat))) (Fx.aj rfl rfl) (Fx.Ln (Fx.sN (Fx.Ws (Fx.Wl (Fx.Lv (.int .i64 ((gJ:Int)-(ax:Int))) (Fx.ah rfl rfl) (Fx.Lv (.int .i64 ((bx:Int)-(gJ:Int))) (Fx.ah rfl rfl) ?_)))))))))))))))))))))))))))))))))))
   by_cases Jz:((gJ:Int)-(ax:Int))<((bx:Int)-(gJ:Int))
   ·refine Fx.Lv (.bool true) (Fx.eG rfl rfl rfl Jz) (Fx.Ln (Fx.sN (Fx.Wc (b:=true) rfl (fun _=>Fx.Ws (Fx.Wl (Fx.Lv (.int .i64 ((gJ:Int)-(ax:Int))) (Fx.ah rfl rfl) ?_))) (fun h=>nomatch h))))
    refine Fx.Lv (.int .i64 (((bx-ax) / 8:Nat))) (Fx.ah rfl rfl) (Fx.Lv (.bool (decide (((bx-ax) / 8:Nat)<=((gJ:Int)-(ax:Int))))) (Fx.wP rfl rfl rfl) (Fx.Lv (.bool (decide (((bx-ax) / 8:Nat)<=((gJ:Int)-(ax:Int))))) (Fx.aj rfl rfl) (Fx.Ln (Fx.sN (Fx.Ws (Fx.Wl (Fx.Lv (.slice (some ⟨g,0,none⟩) (n) (cap)) (Fx.ah rfl h23) (Fx.Lv (.int .i64 ((ax:Int))) (Fx.ah rfl Ap) (Fx.Lv (.int .i64 ((gJ:Int))) (Fx.ah rfl rfl) (Fx.Lv (.int .i64 ((ly:Int))) (Fx.ah rfl yx) (Fx.L.call (by rfl) (Fx.rC (args := [.slice (some ⟨g,0,none⟩) (n) (cap),.int .i64 ((ax:Int)),.int .i64 ((gJ:Int)),.int .i64 ((ly:Int))]) rfl rfl Tryd.func99 rfl rfl) rfl ((ih _ _ _ ax gJ ly B g n cap XR _ m12 (Nat.le_trans hB b12.size) hz2 hs h50 (by omega) (by omega) (by omega) r4 (by omega) (by omega) (by omega) (by omega)).mono ?_))))))))))))
    rintro e9 Tt ⟨dr,he,ME,MF,MG,m13,XT⟩
    refine⟨_,he,?_⟩
    clear he
    have b13:=b12.trans XT
    obtain⟨q1,q2⟩:=r6 _ MF MG
    refine Fx.Ln (Fx.sN (Fx.Wl (Fx.Lv (.int .i64 ((gJ:Int))) (Fx.ah rfl rfl) (Fx.Lv (.int .i64 ((gJ:Int)+1)) (Fx.aS rfl rfl rfl Fx.io) (Fx.Lv (.int .i64 ((gJ:Int)+1)) (Fx.aj rfl rfl) (Fx.Ln (Fx.dV (Fx.kg ⟨bx-(gJ+1),(by omega),gJ+1,bx,ly,dr,(decide (((bx-ax) / 8:Nat)<=((gJ:Int)-(ax:Int)))),(Rc),ME,q1,(fun R hR hS=>hF R (Sort.permIn_trans _ _ _ _ _ hP2 (q2 R hR hS).1) (q2 R hR hS).2),(by omega),rfl,h23,Fx.ic,(xC.trans Fx.ic),(yx.trans Fx.ic),(by rfl),(by rfl),m13,b13⟩ (by decide)))))))))
   refine Fx.Lv (.bool false) (Fx.dX rfl rfl rfl Jz) (Fx.Ln (Fx.sN (Fx.Wc (b:=false) rfl (fun h=>nomatch h) (fun _=>Fx.Ws (Fx.Wl (Fx.Lv (.int .i64 ((bx:Int)-(gJ:Int))) (Fx.ah rfl rfl) (Fx.Lv (.int .i64 (((bx-ax) / 8:Nat))) (Fx.ah rfl rfl) (Fx.Lv (.bool (decide (((bx-ax) / 8:Nat)<=((bx:Int)-(gJ:Int))))) (Fx.wP rfl rfl rfl) (Fx.Lv (.bool (decide (((bx-ax) / 8:Nat)<=((bx:Int)-(gJ:Int))))) (Fx.aj rfl rfl) (Fx.Ln (Fx.sN (Fx.Ws (Fx.Wl (Fx.Lv (.slice (some ⟨g,0,none⟩) (n) (cap)) (Fx.ah rfl h23) (Fx.Lv (.int .i64 ((gJ:Int))) (Fx.ah rfl rfl) (Fx.Lv (.int .i64 ((gJ:Int)+1)) (Fx.aS rfl rfl rfl Fx.io) (Fx.Lv (.int .i64 ((bx:Int))) (Fx.ah rfl xC) (Fx.Lv (.int .i64 ((ly:Int))) (Fx.ah rfl yx) (Fx.L.call (by rfl) (Fx.rC (args := [.slice (some ⟨g,0,none⟩) (n) (cap),.int .i64 ((gJ:Int)+1),.int .i64 ((bx:Int)),.int .i64 ((ly:Int))]) rfl rfl Tryd.func99 rfl rfl) rfl ((ih _ _ _ (gJ+1) bx ly B g n cap XR _ m12 (Nat.le_trans hB b12.size) hz2 hs h50 (by omega) (by omega) (by omega) r5 (by omega) (by omega) (by omega) (by omega)).mono ?_))))))))))))))))))))
   rintro e9 Uv ⟨dr,he,ME,MF,MG,m14,hb9⟩
   refine⟨_,he,?_⟩
   clear he
   have b14:=b12.trans hb9
   obtain⟨q1,q2⟩:=r7 _ MF MG
   refine Fx.Ln (Fx.sN (Fx.Wl (Fx.Lv (.int .i64 ((gJ:Int))) (Fx.ah rfl rfl) (Fx.Lv (.int .i64 ((gJ:Int))) (Fx.aj rfl rfl) (Fx.Ln (Fx.dV (Fx.kg ⟨gJ-ax,(by omega),ax,gJ,ly,dr,(decide (((bx-ax) / 8:Nat)<=((bx:Int)-(gJ:Int)))),(Rc),ME,q1,(fun R hR hS=>hF R (Sort.permIn_trans _ _ _ _ _ hP2 (q2 R hR hS).1) (q2 R hR hS).2),(by omega),rfl,h23,(Ap.trans Fx.ic),Fx.ic,(yx.trans Fx.ic),(by rfl),(by rfl),m14,b14⟩ (by decide))))))))
  rw[Bool.not_eq_true]at c85
  refine Fx.Qt.call (v := .bool false) (by rfl) (fun v1 hv1=>Fx.rC (args := [.int .u64 ((gA dy) (ax-1)),.int .u64 ((gA dy) pv)]) rfl rfl Tryd.func116 rfl rfl) rfl (fun v1 hv1=>(bU ((gA dy) (ax-1)) ((gA dy) pv) _).mono fun e v2 h=>⟨by rw[h.1,c85],by rw[h.2]; exact hv1⟩) ?_
  refine Fx.Qv (.bool true) (fun v1 hv1=>Fx.eH rfl rfl) (Fx.Qv (.bool true) (fun v1 hv1=>Fx.aA rfl rfl rfl) (Fx.Qt.nil ?_))
  intro yI ji
  have s2:Fx.Stp wo.heap.size wo yI:=Fx.Sb ji
  have m15:=m10.bO s2 (Nat.ne_of_lt (m10.lt))
  have b15:=s2.below b10 (Nat.le_trans hB b10.size) (Nat.le_trans hB b10.size)
  refine Fx.sN (Fx.Wc (b:=true) rfl (fun _=>Fx.Ws (Fx.Wl (Fx.Lv (.slice (some ⟨g,0,none⟩) (n) (cap)) (Fx.ah rfl h23) ?_))) (fun h=>nomatch h))
  refine Fx.Lv (.int .i64 ((ax:Int))) (Fx.ah rfl Ap) (Fx.Lv (.int .i64 ((bx:Int))) (Fx.ah rfl xC) (Fx.Lv (.int .i64 ((pv:Int))) (Fx.ah rfl Cc) (Fx.L.call (by rfl) (Fx.rC (args := [.slice (some ⟨g,0,none⟩) (n) (cap),.int .i64 ((ax:Int)),.int .i64 ((bx:Int)),.int .i64 ((pv:Int))]) rfl rfl Tryd.func117 rfl rfl) rfl ((Xg ax bx pv B g n cap dy _ m15 (Nat.le_trans hB b15.size) hk2 hs (by omega) (by omega) (by omega)).mono ?_))))
  rintro e9 Jw ⟨JA,dn3,he,hx1,hz3,m16,XU⟩
  have b16:=b15.trans XU
  obtain⟨r1,r2,r3,r4,r5⟩:=Sort.round_eq Sort.swo_ltInt (Sort.partitionEqual_holds _) (by omega) hpv.1 hpv.2 (by omega) (hBl.perm (by omega) hP2) (om (of_decide_eq_false c85)) hx1
  refine⟨_,he,?_⟩
  clear he
  refine Fx.Lv (.int .i64 ((JA:Int))) (Fx.aj rfl rfl) (Fx.Ln (Fx.sN (Fx.Ws (Fx.Wl (Fx.Lv (.int .i64 ((JA:Int))) (Fx.ah rfl rfl) (Fx.Lv (.int .i64 ((JA:Int))) (Fx.aj rfl rfl) (Fx.Ln (Fx.sN (Fx.W.exit (Fx.dQ (Fx.dR (Fx.kg ⟨bx-JA,(by omega),JA,bx,ly,dn3,(wb),(wp),hz3,r4,(fun R hR hS=>hF R (Sort.permIn_trans _ _ _ _ _ hP2 (r5 R hR hS).1) (r5 R hR hS).2),(by omega),rfl,h23,Fx.ic,(xC.trans Fx.ic),(yx.trans Fx.ic),h27,V6,m16,b16⟩ (by decide)))))))))))))
 refine Fx.Qv (.bool false) (fun v1 hv1=>Fx.dw rfl rfl rfl c74) (Fx.Qv (.bool false) (fun v1 hv1=>Fx.ah rfl rfl) (Fx.Qs (by rfl) rfl (Fx.Qs (by rfl) rfl (Fx.Qs (by rfl) rfl (Fx.Qs (by rfl) rfl (Fx.Qs (by rfl) rfl (Fx.Qs (by rfl) rfl (Fx.Qs (by rfl) rfl (Fx.Qs (by rfl) rfl (Fx.Qs (by rfl) rfl (Fx.Qs (by rfl) rfl (Fx.Qs (by rfl) rfl (Fx.Qv (.bool false) (fun v1 hv1=>Fx.aJ rfl rfl rfl) (Fx.Qt.nil ?_))))))))))))))
 intro yJ jV
 have s3:Fx.Stp wo.heap.size wo yJ:=Fx.Sb jV
 have m17:=m10.bO s3 (Nat.ne_of_lt (m10.lt))
 have b17:=s3.below b10 (Nat.le_trans hB b10.size) (Nat.le_trans hB b10.size)
 refine Fx.sN (Fx.Wc (b:=false) rfl (fun h=>nomatch h) (fun _=>Fx.Wk (Fx.sN (Fx.Ws (Fx.Wl (Fx.Lv (.slice (some ⟨g,0,none⟩) (n) (cap)) (Fx.ah rfl h23) (Fx.Lv (.int .i64 ((ax:Int))) (Fx.ah rfl Ap) (Fx.Lv (.int .i64 ((bx:Int))) (Fx.ah rfl xC) (Fx.Lv (.int .i64 ((pv:Int))) (Fx.ah rfl Cc) (Fx.L.call (by rfl) (Fx.rC (args := [.slice (some ⟨g,0,none⟩) (n) (cap),.int .i64 ((ax:Int)),.int .i64 ((bx:Int)),.int .i64 ((pv:Int))]) rfl rfl Tryd.func118 rfl rfl) rfl ((Uu ax bx pv B g n cap dy _ m17 (Nat.le_trans hB b17.size) hk2 hs (by omega) (by omega) (by omega)).mono ?_)))))))))))
 rintro e9 Xm ⟨gK,Rf,XV,he,hu3,hv3,OW,m18,XW⟩
 have b18:=b17.trans XW
 have hx:Sort.partition Sort.ltInt dy ax bx pv=(gK,(Sort.partition Sort.ltInt dy ax bx pv).2.1,XV):=Prod.ext hu3 (Prod.ext rfl hv3)
 obtain⟨r1,r2,r3,r4,r5,r6,r7⟩:=Sort.round_part Sort.swo_ltInt (Sort.partition_holds _) hpv.1 hpv.2 (by omega) (hBl.perm (by omega) hP2) hx
 clear hx
 refine⟨_,he,?_⟩
 clear he
 refine Fx.Lv (.tuple #[.int .i64 ((gK:Int)),.bool Rf]) (Fx.ah rfl rfl) (Fx.Lv (.int .i64 ((gK:Int))) (Fx.aD rfl rfl rfl) (Fx.Lv (.bool Rf) (Fx.aD rfl rfl rfl) (Fx.Lv (.int .i64 ((gK:Int))) (Fx.aj rfl rfl) (Fx.Lv (.bool Rf) (Fx.aj rfl rfl) (Fx.Ln (Fx.sN (Fx.Ws (Fx.Wl (Fx.Lv (.bool Rf) (Fx.ah rfl rfl) (Fx.Lv (.bool Rf) (Fx.aj rfl rfl) (Fx.Ln (Fx.sN (Fx.Ws (Fx.Wl (Fx.Lv (.int .i64 ((gK:Int))) (Fx.ah rfl rfl) (Fx.Lv (.int .i64 ((ax:Int))) (Fx.ah rfl Ap) (Fx.Lv (.int .i64 ((gK:Int)-(ax:Int))) (Fx.bD rfl rfl rfl Fx.io) (Fx.Lv (.int .i64 ((bx:Int))) (Fx.ah rfl xC) (Fx.Lv (.int .i64 ((gK:Int))) (Fx.ah rfl rfl) (Fx.Lv (.int .i64 ((bx:Int)-(gK:Int))) (Fx.bD rfl rfl rfl Fx.io) (Fx.Lv (.int .i64 ((gK:Int)-(ax:Int))) (Fx.aj rfl rfl) (Fx.Lv (.int .i64 ((bx:Int)-(gK:Int))) (Fx.aj rfl rfl) (Fx.Ln (Fx.sN (Fx.Ws (Fx.Wl (Fx.Lv (.int .i64 ((bx:Int)-(ax:Int))) (Fx.ah rfl LQ) (Fx.Lv (.int .i64 (((bx-ax) / 8:Nat))) (Fx.uU rfl rfl rfl (by omega) (Fx.wQ (by omega) (by rw[Int.tdiv_eq_ediv_of_nonneg (by omega)]; omega))) (Fx.Lv (.int .i64 (((bx-ax) / 8:Nat))) (Fx.aj rfl rfl) (Fx.Ln (Fx.sN (Fx.Ws (Fx.Wl (Fx.Lv (.int .i64 ((gK:Int)-(ax:Int))) (Fx.ah rfl rfl) (Fx.Lv (.int .i64 ((bx:Int)-(gK:Int))) (Fx.ah rfl rfl) ?_)))))))))))))))))))))))))))))))))))
 by_cases Jz:((gK:Int)-(ax:Int))<((bx:Int)-(gK:Int))
 ·refine Fx.Lv (.bool true) (Fx.eG rfl rfl rfl Jz) (Fx.Ln (Fx.sN (Fx.Wc (b:=true) rfl (fun _=>Fx.Ws (Fx.Wl (Fx.Lv (.int .i64 ((gK:Int)-(ax:Int))) (Fx.ah rfl rfl) ?_))) (fun h=>nomatch h))))
  refine Fx.Lv (.int .i64 (((bx-ax) / 8:Nat))) (Fx.ah rfl rfl) (Fx.Lv (.bool (decide (((bx-ax) / 8:Nat)<=((gK:Int)-(ax:Int))))) (Fx.wP rfl rfl rfl) (Fx.Lv (.bool (decide (((bx-ax) / 8:Nat)<=((gK:Int)-(ax:Int))))) (Fx.aj rfl rfl) (Fx.Ln (Fx.sN (Fx.Ws (Fx.Wl (Fx.Lv (.slice (some ⟨g,0,none⟩) (n) (cap)) (Fx.ah rfl h23) (Fx.Lv (.int .i64 ((ax:Int))) (Fx.ah rfl Ap) (Fx.Lv (.int .i64 ((gK:Int))) (Fx.ah rfl rfl) (Fx.Lv (.int .i64 ((ly:Int))) (Fx.ah rfl yx) (Fx.L.call (by rfl) (Fx.rC (args := [.slice (some ⟨g,0,none⟩) (n) (cap),.int .i64 ((ax:Int)),.int .i64 ((gK:Int)),.int .i64 ((ly:Int))]) rfl rfl Tryd.func99 rfl rfl) rfl ((ih _ _ _ ax gK ly B g n cap XV _ m18 (Nat.le_trans hB b18.size) OW hs h50 (by omega) (by omega) (by omega) r4 (by omega) (by omega) (by omega) (by omega)).mono ?_))))))))))))
  rintro e9 w16 ⟨dr,he,ME,MF,MG,m19,XY⟩
  refine⟨_,he,?_⟩
  clear he
  have b19:=b18.trans XY
  obtain⟨q1,q2⟩:=r6 _ MF MG
  refine Fx.Ln (Fx.sN (Fx.Wl (Fx.Lv (.int .i64 ((gK:Int))) (Fx.ah rfl rfl) (Fx.Lv (.int .i64 ((gK:Int)+1)) (Fx.aS rfl rfl rfl Fx.io) (Fx.Lv (.int .i64 ((gK:Int)+1)) (Fx.aj rfl rfl) (Fx.Ln (Fx.dV (Fx.kg ⟨bx-(gK+1),(by omega),gK+1,bx,ly,dr,(decide (((bx-ax) / 8:Nat)<=((gK:Int)-(ax:Int)))),(Rf),ME,q1,(fun R hR hS=>hF R (Sort.permIn_trans _ _ _ _ _ hP2 (q2 R hR hS).1) (q2 R hR hS).2),(by omega),rfl,h23,Fx.ic,(xC.trans Fx.ic),(yx.trans Fx.ic),(by rfl),(by rfl),m19,b19⟩ (by decide)))))))))
 refine Fx.Lv (.bool false) (Fx.dX rfl rfl rfl Jz) (Fx.Ln (Fx.sN (Fx.Wc (b:=false) rfl (fun h=>nomatch h) (fun _=>Fx.Ws (Fx.Wl (Fx.Lv (.int .i64 ((bx:Int)-(gK:Int))) (Fx.ah rfl rfl) (Fx.Lv (.int .i64 (((bx-ax) / 8:Nat))) (Fx.ah rfl rfl) (Fx.Lv (.bool (decide (((bx-ax) / 8:Nat)<=((bx:Int)-(gK:Int))))) (Fx.wP rfl rfl rfl) (Fx.Lv (.bool (decide (((bx-ax) / 8:Nat)<=((bx:Int)-(gK:Int))))) (Fx.aj rfl rfl) (Fx.Ln (Fx.sN (Fx.Ws (Fx.Wl (Fx.Lv (.slice (some ⟨g,0,none⟩) (n) (cap)) (Fx.ah rfl h23) (Fx.Lv (.int .i64 ((gK:Int))) (Fx.ah rfl rfl) (Fx.Lv (.int .i64 ((gK:Int)+1)) (Fx.aS rfl rfl rfl Fx.io) (Fx.Lv (.int .i64 ((bx:Int))) (Fx.ah rfl xC) (Fx.Lv (.int .i64 ((ly:Int))) (Fx.ah rfl yx) (Fx.L.call (by rfl) (Fx.rC (args := [.slice (some ⟨g,0,none⟩) (n) (cap),.int .i64 ((gK:Int)+1),.int .i64 ((bx:Int)),.int .i64 ((ly:Int))]) rfl rfl Tryd.func99 rfl rfl) rfl ((ih _ _ _ (gK+1) bx ly B g n cap XV _ m18 (Nat.le_trans hB b18.size) OW hs h50 (by omega) (by omega) (by omega) r5 (by omega) (by omega) (by omega) (by omega)).mono ?_))))))))))))))))))))
 rintro e9 Xp ⟨dr,he,ME,MF,MG,m20,XZ⟩
 refine⟨_,he,?_⟩
 clear he
 have b20:=b18.trans XZ
 obtain⟨q1,q2⟩:=r7 _ MF MG
 refine Fx.Ln (Fx.sN (Fx.Wl (Fx.Lv (.int .i64 ((gK:Int))) (Fx.ah rfl rfl) (Fx.Lv (.int .i64 ((gK:Int))) (Fx.aj rfl rfl) (Fx.Ln (Fx.dV (Fx.kg ⟨gK-ax,(by omega),ax,gK,ly,dr,(decide (((bx-ax) / 8:Nat)<=((bx:Int)-(gK:Int)))),(Rf),ME,q1,(fun R hR hS=>hF R (Sort.permIn_trans _ _ _ _ _ hP2 (q2 R hR hS).1) (q2 R hR hS).2),(by omega),rfl,h23,(Ap.trans Fx.ic),Fx.ic,(yx.trans Fx.ic),(by rfl),(by rfl),m20,b20⟩ (by decide))))))))
end Go.Proofs.YtahbiajdgealnaaDoor
namespace Go.Proofs.YtahbiajdgealnaaDoor
open Go.RowKit
open Rt
set_option maxRecDepth 10000
theorem OX : ∀ m,OV m
 | 0=>by
   intro aI bI lI a b lim B g n cap d w h hB hn hs h50 hl hab hb hBel e1 e2 e3 hm
   omega
 | m+1=>by
   intro aI bI lI a b lim B g n cap d w h hB hn hs h50 hl hab hb hBel e1 e2 e3 hm
   subst e1 e2 e3
   exact Rb m (OX m) a b lim B g n cap d w h hB hn hs h50 hl hab hb hBel hm
theorem MH(B g n cap:Nat)(d:Array Int)(w:World)(h:Fx.Own w B 22 1 (.slice (some ⟨g,0,none⟩) n cap) n (Fx.rv .u64 (gA d)))(hB:B<=w.heap.size)(hn:d.size=n)(hs:n<=1000)(h50:n<50) :
 Calls Tryd.prog 73 #[.slice (some ⟨g,0,none⟩) (n) (cap)] w fun e w' => ∃ d2:Array Int,e = .returned (.tuple #[])/\d2.size=n/\Sort.PermIn 0 n d d2/\Sort.SortedIn Sort.ltInt 0 n d2/\Fx.Own w' B 22 1 (.slice (some ⟨g,0,none⟩) n cap) n (Fx.rv .u64 (gA d2))/\Below B w w':=by
 have hbl:=Fu (show n<64 by omega)
 refine Fx.enter Tryd.func73 rfl (n:=11) rfl (by rfl) ?_
 refine Fx.Ws (Fx.Wl (Fx.Lv (.slice (some ⟨g,0,none⟩) (n) (cap)) (Fx.ah rfl rfl) (Fx.Lv (.int .i64 ((n:Int))) (Fx.x_len rfl rfl rfl (by kernel_rfl)) (Fx.Lv (.int .i64 ((n:Int))) (Fx.aj rfl rfl) (Fx.Ln (Fx.sN (Fx.Wl (Fx.Lv (.slice (some ⟨g,0,none⟩) (n) (cap)) (Fx.ah rfl rfl) (Fx.Lv (.int .i64 ((n:Int))) (Fx.ah rfl rfl) (Fx.Lv (.int .i64 ((n:Int))) (Fx.ah rfl rfl) (Fx.Lv (.int .u64 ((n:Int))) (Fx.eZ rfl rfl (by kernel_rfl) Tryd.underlying130 (Fx.rX (by omega) rfl)) (Fx.L.call (by rfl) (Fx.rC (args := [.int .u64 ((n:Int))]) rfl rfl Tryd.func54 rfl rfl) rfl ((Ju n _ (by omega)).mono ?_)))))))))))))
 rintro e v1 ⟨he,hv1⟩
 subst v1
 refine⟨.int .i64 ((Sort.bitsLen n:Int)),by rw[he],?_⟩
 clear he
 refine Fx.L.call (by rfl) (Fx.rC (args := [.slice (some ⟨g,0,none⟩) (n) (cap),.int .i64 (0),.int .i64 ((n:Int)),.int .i64 ((Sort.bitsLen n:Int))]) rfl rfl Tryd.func99 rfl rfl) rfl ((OX (n+1) _ _ _ 0 n (Sort.bitsLen n) B g n cap d _ h (Nat.le_trans hB (Below.refl B w).size) hn hs h50 (by omega) (by omega) (by omega) (.inl rfl) rfl rfl rfl (by omega)).mono ?_)
 rintro e9 w1 ⟨dr,he,ME,MF,MG,m1,hb1⟩
 refine⟨_,he,?_⟩
 clear he
 have b1:=(Below.refl B w).trans hb1
 refine Fx.Ln (⟨.tuple #[],Fx.jS Tryd.results73,?_⟩)
 exact⟨dr,rfl,ME,MF,MG,m1,b1⟩
theorem Rh(w:World) :
 Calls Tryd.prog 110 #[.slice none 0 0,.int .i64 (0),.int .i64 (0)] w fun e w'=>e = .returned (.tuple #[])/\Below w.heap.size w w':=by
 refine Fx.enter Tryd.func110 rfl (n:=49) rfl (by rfl) ?_
 refine Fx.Ws (Fx.Wl (Fx.Lv (.int .i64 (0)) (Fx.ah rfl rfl) (Fx.Lv (.int .i64 (1)) (Fx.aS rfl rfl rfl Fx.io) (Fx.Lv (.int .i64 (1)) (Fx.aj rfl rfl) (Fx.Ln (Fx.sN (Fx.W.block (Fx.W.loop (fun f w_=>f 1 = .int .i64 (0)/\f 2 = .int .i64 (0)/\f 6 = .int .i64 (1)/\Below w.heap.size w w_) (fun f _=>0) ⟨Fx.ic,Fx.ic,Fx.ic,(Below.refl w.heap.size w)⟩ ?_))))))))
 rintro f1 w1 ⟨h1,h2,h3,b1⟩
 refine Fx.Ws (Fx.Ws (Fx.Wl (Fx.Lv (.int .i64 (1)) (Fx.ah rfl h3) (Fx.Lv (.int .i64 (0)) (Fx.ah rfl h2) (Fx.Lv (.bool false) (Fx.dX rfl rfl rfl (by omega)) (Fx.Ln (Fx.sN (Fx.Wc (b:=false) rfl (fun h=>nomatch h) (fun _=>Fx.W.exit (Fx.dQ (Fx.jC (Fx.dR (⟨.tuple #[],Fx.jS Tryd.results110,?_⟩)))))))))))))
 exact⟨rfl,b1⟩
theorem Ri(w:World) :
 Calls Tryd.prog 99 #[.slice none 0 0,.int .i64 (0),.int .i64 (0),.int .i64 (0)] w fun e w'=>e = .returned (.tuple #[])/\Below w.heap.size w w':=by
 refine Fx.enter Tryd.func99 rfl (n:=134) rfl (by rfl) ?_
 refine Fx.Ws (Fx.Wl (Fx.Lv (.bool true) (Fx.aj rfl rfl) (Fx.Ln (Fx.sN (Fx.Ws (Fx.Wl (Fx.Lv (.bool true) (Fx.aj rfl rfl) (Fx.Ln (Fx.sN (Fx.W.block (Fx.W.loop (fun f w_=>f 0 = .slice none 0 0/\f 1 = .int .i64 (0)/\f 2 = .int .i64 (0)/\Below w.heap.size w w_) (fun f _=>0) ⟨(by rfl),Fx.ic,Fx.ic,(Below.refl w.heap.size w)⟩ ?_)))))))))))
 rintro f1 w1 ⟨h1,h2,h3,b1⟩
 refine Fx.W.block (Fx.Ws (Fx.Wl (Fx.Lv (.int .i64 (0)) (Fx.ah rfl h3) (Fx.Lv (.int .i64 (0)) (Fx.ah rfl h2) (Fx.Lv (.int .i64 (0)) (Fx.bD rfl rfl rfl Fx.io) (Fx.Lv (.int .i64 (0)) (Fx.aj rfl rfl) (Fx.Ln (Fx.sN (Fx.Ws (Fx.Ws (Fx.Wl (Fx.Lv (.int .i64 (0)) (Fx.ah rfl rfl) (Fx.Lv (.bool true) (Fx.gU rfl rfl rfl (by omega)) (Fx.Ln (Fx.sN (Fx.Wc (b:=true) rfl (fun _=>Fx.Ws (Fx.Wl (Fx.Lv (.slice none 0 0) (Fx.ah rfl h1) ?_))) (fun h=>nomatch h)))))))))))))))))
 refine Fx.Lv (.int .i64 (0)) (Fx.ah rfl h2) (Fx.Lv (.int .i64 (0)) (Fx.ah rfl h3) (Fx.L.call (by rfl) (Fx.rC (args := [.slice none 0 0,.int .i64 (0),.int .i64 (0)]) rfl rfl Tryd.func110 rfl rfl) rfl ((Rh _).mono ?_)))
 rintro e w2 ⟨he,hb1⟩
 refine⟨.tuple #[],by rw[he],?_⟩
 clear he
 have s1:=Fx.Sb hb1
 have b2:=s1.below b1 b1.size b1.size
 refine Fx.Ln (Fx.sN (Fx.Wr (Fx.sR (Fx.dH (Fx.DT (Fx.dH (⟨.tuple #[],Fx.jS Tryd.results99,?_⟩)))))))
 exact⟨rfl,b2⟩
theorem Rj(w:World):Calls Tryd.prog 54 #[.int .u64 0] w fun e w'=>e = .returned (.int .i64 0)/\w'=w:=Ju 0 w (by omega)
theorem MI(w:World) :
 Calls Tryd.prog 73 #[.slice none 0 0] w fun e w'=>e = .returned (.tuple #[])/\Below w.heap.size w w':=by
 refine Fx.enter Tryd.func73 rfl (n:=11) rfl (by rfl) ?_
 refine Fx.Ws (Fx.Wl (Fx.Lv (.slice none 0 0) (Fx.ah rfl rfl) (Fx.Lv (.int .i64 (0)) (Fx.x_len rfl rfl rfl (by kernel_rfl)) (Fx.Lv (.int .i64 (0)) (Fx.aj rfl rfl) (Fx.Ln (Fx.sN (Fx.Wl (Fx.Lv (.slice none 0 0) (Fx.ah rfl rfl) (Fx.Lv (.int .i64 (0)) (Fx.ah rfl rfl) (Fx.Lv (.int .i64 (0)) (Fx.ah rfl rfl) (Fx.Lv (.int .u64 (0)) (Fx.eZ rfl rfl (by kernel_rfl) Tryd.underlying130 (Fx.rX (by omega) rfl)) (Fx.L.call (by rfl) (Fx.rC (args := [.int .u64 (0)]) rfl rfl Tryd.func54 rfl rfl) rfl ((Rj _).mono ?_)))))))))))))
 rintro e v1 ⟨he,hv1⟩
 subst v1
 refine⟨.int .i64 (0),by rw[he],?_⟩
 clear he
 refine Fx.L.call (by rfl) (Fx.rC (args := [.slice none 0 0,.int .i64 (0),.int .i64 (0),.int .i64 (0)]) rfl rfl Tryd.func99 rfl rfl) rfl ((Ri _).mono ?_)
 rintro e w1 ⟨he,hb1⟩
 refine⟨.tuple #[],by rw[he],?_⟩
 clear he
 have s1:=Fx.Sb hb1
 have b1:=s1.below (Below.refl w.heap.size w) (Below.refl w.heap.size w).size (Below.refl w.heap.size w).size
 refine Fx.Ln (⟨.tuple #[],Fx.jS Tryd.results73,?_⟩)
 exact⟨rfl,b1⟩
theorem Rk{w:World}{B n cap:Nat}{a:Option Addr}{d:Array Int}(h:Fx.Own w B 22 1 (.slice a n cap) n (Fx.rv .u64 (gA d)))(hB:B<=w.heap.size)(hn:d.size=n)(h50:n<50) :
 Calls Tryd.prog 73 #[.slice a n cap] w fun e w' => ∃ d2:Array Int,e = .returned (.tuple #[])/\d2.size=n/\Sort.PermIn 0 n d d2/\Sort.SortedIn Sort.ltInt 0 n d2/\Fx.Own w' B 22 1 (.slice a n cap) n (Fx.rv .u64 (gA d2))/\Below B w w':=by
 rcases h.2 with ⟨h1,h2⟩|⟨g,c2,cur,h1,_⟩
 ·subst h2
  cases h1
  exact(MI w).mono fun e w' ⟨h3,h4⟩=>⟨d,h3,hn,Sort.permIn_refl _ _ _,fun i j _ h5 h6=>by omega,Fx.Own.nil _ _ _ _ _,h4.mono hB⟩
 simp only[Value.slice.injEq]at h1
 obtain⟨rfl,_,rfl⟩:=h1
 exact MH B g n cap d w h hB hn (by omega) h50
end Go.Proofs.YtahbiajdgealnaaDoor
namespace Go.Proofs.YtahbiajdgealnaaDoor
open Go.RowKit Go
set_option linter.unusedVariables false
namespace Rt
def dT(x:Nat->Int)(τ:Nat->Nat)(m:Nat):Array Int:=((List.range m).map fun q=>x (τ q)).toArray
section
variable {n m kk:Nat} {x:Nat->Int} {Q:Int->Prop} {S:Nat->Bool} {τ:Nat->Nat}
theorem Fz:(dT x τ m).size=m:=by unfold dT; simp
theorem Rl{q:Nat}(hq:q<m):gA (dT x τ m) q=x (τ q):=by
 unfold gA dT
 rw[getElem!_pos _ q (by simpa using hq)]; simp
theorem UF : ∀ j,j<m*1->Value.int .u64 (x (τ j))=Fx.rv .u64 (gA (dT x τ m)) j:=fun j hj=>by
 show _=Value.int .u64 (gA (dT x τ m) j)
 rw[Rl (by omega)]
theorem Rm{d:Array Int} : ∀ j,j<d.size*1->Fx.rv .u64 (gA d) j=mP d.toList j:=fun j hj=>by
 show Value.int .u64 d[j]! = Value.int .u64 (d.toList.getD j 0)
 rw[getElem!_pos d j (by omega),List.getD_eq_getElem?_getD,List.getElem?_eq_getElem (by simpa using (show j<d.size by omega))]
 simp
theorem G6{d2:Array Int}(h:Ji n (fun i=>Q (x i)) S m τ kk)(hall : ∀ i,i<n->S i=true)(hinj : ∀ a b,a<n->b<n->x a=x b->a=b)
 (hp:Sort.PermIn 0 m (dT x τ m) d2) (hs:Sort.SortedIn Sort.ltInt 0 m d2) (hz:d2.size=m):d2.toList.Pairwise (· < ·) /\ ∀ k,k∈d2.toList<->(cK x n k=true/\Q k):=by
 have hperm:d2.toList.Perm ((List.range m).map fun q=>x (τ q)):=by
  have h3:=hp.2.2
  have e1:d2.extract 0 m=d2:=by rw[<- hz]; simp
  have e2 : ∀ d:Array Int,d.size=m->d.extract 0 m=d:=fun d hd=>by rw[<- hd]; simp
  rw[e1,e2 _ Fz]at h3
  exact h3
 have hnd:d2.toList.Nodup:=by
  refine(hperm.nodup_iff).2 ?_
  rw[List.Nodup,List.pairwise_iff_getElem]
  intro i j hi hj hij
  simp only[List.getElem_map,List.getElem_range]
  simp only[List.length_map,List.length_range]at hi hj
  exact fun e=>absurd (h.inj i j hi hj (hinj _ _ (h.lt i hi) (h.lt j hj) e)) (by omega)
 refine⟨?_,fun k => ?_⟩
 ·rw[List.pairwise_iff_getElem]
  intro i j hi hj hij
  simp only[Array.length_toList]at hi hj
  have h1:=of_decide_eq_false (hs i j (Nat.zero_le _) hij (by omega))
  rw[getElem!_pos d2 i hi,getElem!_pos d2 j hj]at h1
  rw[List.Nodup,List.pairwise_iff_getElem]at hnd
  have h2:=hnd i j (by simpa using hi) (by simpa using hj) hij
  simp only[Array.getElem_toList]at h2 ⊢
  omega
 rw[hperm.mem_iff]
 simp only[List.mem_map,List.mem_range]
 constructor
 ·rintro ⟨q,hq,rfl⟩
  exact⟨fQ (h.lt q hq) rfl,h.yes q hq⟩
 rintro ⟨h1,h2⟩
 obtain⟨i,hi,rfl⟩:=dW h1
 obtain⟨q,hq,rfl⟩:=h.mem i hi (hall i hi) h2
 exact⟨q,hq,rfl⟩
theorem MJ{z:Nat->Value}{i:Nat} : ∀ j,j<(m+1)*1->Fx.qA (fun q => .int .u64 (x (τ q))) (m*1) (Fx.aX z (0*1) 1 (fun _ => .int .u64 (x i))) j = .int .u64 (x (Fx.aH τ m i j)):=fun j hj=>by
 unfold Fx.qA Fx.aX Fx.aH
 by_cases e:j=m
 ·subst e; rw[if_neg (by omega),if_pos (by omega),if_pos rfl]
 ·rw[if_pos (by omega),if_neg e]
end
end Rt
open Rt
theorem Rn{w:World}{B m cap:Nat}{a:Option Addr}{x:Nat->Int}{τ:Nat->Nat}(h:Fx.Own w B 22 1 (.slice a m cap) m (fun q => .int .u64 (x (τ q))))(hB:B<=w.heap.size)(hm:m<=32) :
 Calls Tryd.prog 73 #[.slice a m cap] w fun e w'=>e = .returned (.tuple #[]) /\ ∃ d2:Array Int,d2.size=m/\Sort.PermIn 0 m (dT x τ m) d2/\Sort.SortedIn Sort.ltInt 0 m d2/\Fx.Own w' B 22 1 (.slice a m cap) m (mP d2.toList)/\Below B w w' :=
 (Rk (d:=dT x τ m) (h.congr UF) hB Fz (by omega)).mono fun e w' ⟨d2,h1,h2,h3,h4,h5,h6⟩=>⟨h1,d2,h2,h3,h4,h5.congr fun j hj=>Rm j (by omega),h6⟩
end Go.Proofs.YtahbiajdgealnaaDoor
namespace Go.Proofs.YtahbiajdgealnaaDoor.Fx
open Go.RowKit
section
variable {P:Program} {n0:Nat} {Q:Post} {f:Nat->Value} {w:World} {ops:Array Oper} {rest:List Oper} {o:Oper}
theorem L.lo{T E:TypeId}{x lo:Operand}{a:Option Addr}{B n c s m:Nat}{k:IntKind}{j:Nat}{y:Nat->Value}(hw:Region.wanted o (yf ops f)=true)(hd:inn n0 o.dst=true)(ho:o.op = .slice T x (some lo) none none)(hx:ev f x = .slice a n c)(hl:ev f lo = .int k (j:Int))(hu:P.underlying T=some (.slice E))(hs:(P.info? E).map (·.size)=some s)(hj:n=j+m)(hown:Own w B E s (.slice a n c) n y)
 (hc : ∀ a',qB w a' m s (fun p=>y (j*s+p))->L P n0 ops Q rest (put f o.dst (.slice a' m (c-j))) w):L P n0 ops Q (o::rest) f w:=by
 by_cases h0:n=0
 ·obtain rfl:j=0:=by omega
  obtain rfl:m=0:=by omega
  subst h0
  rcases hown.2 with ⟨h1,_⟩|⟨g,cap,cur,h1,_,_,hn,_⟩
  ·simp only[Value.slice.injEq]at h1
   obtain⟨rfl,_,rfl⟩:=h1
   obtain⟨i,hi',_⟩:=Option.map_eq_some_iff.1 hs
   refine Lv _ (?_:Runs P f o w (.slice none 0 0)) (hc none fun h=>absurd h (Nat.lt_irrefl 0)) hw hd
   unfold Runs execOp
   simp only[ho,hx,hl,Option.map_some,Option.map_none]
   simp[Instr.sliceAt,Instr.slice,underlying,hu,Instr.sliceBounds,Instr.sliceBound,asIntOf,sizeOf,typeInfo,hi']
  simp only[Value.slice.injEq]at h1
  obtain⟨rfl,_,rfl⟩:=h1
  exact Lv _ (qR (A:=if c=0 then some ⟨g,0,none⟩else some ⟨g,0+0*s,none⟩) (n':=0) (c':=c-0) ho hx hl hu hs (Nat.le_refl _) rfl rfl rfl) (hc _ fun h=>absurd h (Nat.lt_irrefl 0)) hw hd
 obtain⟨g,c2,e1,hB,hg,hnc,Ro⟩:=hown.form (by omega)
 simp only[Value.slice.injEq]at e1
 obtain⟨rfl,_,rfl⟩:=e1
 refine Lv _ (qR (A:=if c=j then some ⟨g,0,none⟩else some ⟨g,0+j*s,none⟩) (n':=m) (c':=c-j) ho hx hl hu hs (by omega) rfl (by omega) rfl) (hc _ fun hm => ?_) hw hd
 rw[if_neg (by omega)]
 refine⟨g,_,rfl,fun p hp => ?_⟩
 have hlt:j*s+p<n*s:=by
  have:n*s=j*s+m*s:=by rw[hj,Nat.add_mul]
  omega
 have:=Ro (j*s+p) hlt
 rw[Nat.zero_add]at this
 rw[Nat.zero_add]; exact this
theorem Own.UG{B n c s j:Nat}{E:TypeId}{a:Option Addr}{y:Nat->Value}(h:Own w B E s (.slice a n c) n y)(hj:j<=n):qB w a j s y:=fun h0=>by
 obtain⟨g,c2,e1,hB,hg,hnc,Ro⟩:=h.form (by omega)
 simp only[Value.slice.injEq]at e1
 refine⟨g,0,e1.1,fun p hp=>Ro p ?_⟩
 exact Nat.lt_of_lt_of_le hp (Nat.mul_le_mul_right s hj)
theorem Own.weak{B B' n s:Nat}{E:TypeId}{v:Value}{y:Nat->Value}(h:Own w B E s v n y)(hB:B'<=B):Own w B' E s v n y:=by
 refine⟨h.1,?_⟩
 rcases h.2 with hn|⟨g,cap,cur,hv,hb,rest⟩
 ·exact .inl hn
 exact .inr ⟨g,cap,cur,hv,Nat.le_trans hB hb,rest⟩
end
end Go.Proofs.YtahbiajdgealnaaDoor.Fx
namespace Go.Proofs.YtahbiajdgealnaaDoor
open Go.RowKit
open Rt
set_option maxRecDepth 10000
theorem JC(x p:Nat->Int)(n tp mb:Nat)(w:World)(hT:Fx.aP w tp 1 (fun _ => .map (some mb)) 116)(hM:Fx.Mp w mb n x (fun j => .int .u64 (p j)))(h:uo n x p) :
 Calls Tryd.prog 51 #[(pt tp),.func (.func 52) #[] #[]] w fun e w' => ∃ a c l,e = .returned (.slice a (List.length l) c)/\Fx.Own w' w.heap.size 22 1 (.slice a l.length c) l.length (mP l)/\l.Pairwise (· < ·)/\(∀ k,k∈l<->(cK x n k=true/\True))/\l.length<=32/\Below w.heap.size w w':=by
 have hsm:=h.small
 refine Fx.enter Tryd.func51 rfl (n:=27) rfl (by rfl) ?_
 refine Fx.Ws (Fx.Wl (Fx.Lv (.slice none 0 0) (Fx.aj rfl rfl) (Fx.Ln (Fx.sN (Fx.Ws (Fx.Ws (Fx.Wl (Fx.Lv ((pt tp)) (Fx.ah rfl rfl) (Fx.Lv (.bool false) (Fx.nG rfl rfl rfl (by kernel_rfl)) (Fx.Ln (Fx.sN (Fx.Wc (b:=false) rfl (fun h=>nomatch h) (fun _=>Fx.Wk (Fx.sN (Fx.Ws (Fx.Ws (Fx.Wl (Fx.Lv ((pt tp)) (Fx.ah rfl rfl) (Fx.Lv ((pt tp)) (Fx.aO rfl rfl) (Fx.Lv ((pt tp)) (Fx.au rfl rfl Tryd.underlying116 rfl (s:=1) (by kernel_rfl) rfl rfl) (Fx.Lv (.map (some mb)) (Fx.ak (x:=fun _ => .map (some mb)) rfl rfl (by kernel_rfl) hT.aL (i:=0) (by omega) (by omega) rfl) (Fx.L.range (by rfl) rfl rfl rfl hM Tryd.underlying87 fun g1 w1 aZ m1 s1 z1 => ?_))))))))))))))))))))))
 have m2:=hT.aC s1 hT.ne
 have m3:=hM.up s1.old
 have b1:=s1.below (Below.refl w.heap.size w) (Below.refl w.heap.size w).size (Below.refl w.heap.size w).size
 have kM:w.heap.size<=g1:=by rw[aZ]; exact(Below.refl w.heap.size w).size
 have mO:g1<w1.heap.size:=m1.lt
 clear aZ
 refine Fx.Ln (Fx.sN (Fx.W.block ?_))
 have m4:Fx.Own w1 w.heap.size 22 1 (.slice none 0 0) 0 (fun q => .int .u64 (x ((fun _=>0:Nat->Nat) q))):=Fx.Own.nil _ _ _ _ _
 refine Fx.W.BA (fun kk f w_ => ∃ m:Nat,∃ τ:Nat->Nat,∃ S:Nat->Bool,∃ a:Option Addr,∃ cap:Nat,Ji n (fun i=>(fun k=>True) (x i)) S m τ kk/\f 0=(pt tp)/\f 1 = .func (.func 52) #[] #[]/\f 4 = .slice a (m) (cap)/\f 12=(pt g1)/\Fx.aP w_ tp 1 (fun _ => .map (some mb)) 116/\Fx.Mp w_ mb n x (fun j => .int .u64 (p j))/\Fx.It w_ g1 mb n S/\Fx.Own w_ w.heap.size 22 1 (.slice a (m) (cap)) m (fun q => .int .u64 (x (τ q)))/\Below w.heap.size w w_) (Fx.unseen (fun _=>false) n) ⟨0,(fun _=>0),(fun _=>false),none,0,(Ji.start n _ _),(by rfl),(by rfl),(by rfl),(by rfl),m2,m3,m1,m4,b1⟩ ?_
 rintro kk f1 w2 ⟨m,τ,S,a,cap,hth,h1,h2,h3,h4,m5,m6,m7,m8,b2⟩
 have hml:=hth.le
 refine Fx.Ws (Fx.Wl (Fx.L.next (by rfl) rfl rfl h4 m6 m7 (fun Cj => ?_) (fun jW w3 hi1 hS1 m9 Tw s2 z2 => ?_)))
 ·skip
  refine Fx.Lv (.bool false) (Fx.aD rfl rfl rfl) (Fx.Ln (Fx.sN (Fx.Ws (Fx.Wc (b:=false) rfl (fun h=>nomatch h) (fun _=>Fx.W.exit (Fx.dQ (Fx.jC (Fx.dR (Fx.sN (Fx.Ws (Fx.Wl (Fx.Lv (.slice a (m) (cap)) (Fx.ah rfl h3) (Fx.L.call (by rfl) (Fx.rC (args := [.slice a (m) (cap)]) rfl rfl Tryd.func73 rfl rfl) rfl ((Rn m8 b2.size (by omega)).mono ?_))))))))))))))
  rintro e9 w4 ⟨he,d2,hz2,hp2,hs2,m10,hb1⟩
  refine⟨_,he,?_⟩
  clear he
  have b3:=b2.trans hb1
  refine Fx.Ln (Fx.sN (Fx.Ws (Fx.Wl (Fx.Lv (.slice a (m) (cap)) (Fx.ah rfl h3) (Fx.Lv (.slice a (m) (cap)) (Fx.aj rfl rfl) (Fx.Ln (Fx.sN (Fx.Wr (⟨.slice a (m) (cap),Fx.rV Tryd.results51 (by exact rfl),?_⟩)))))))))
  obtain⟨f1,f2⟩:=G6 (Q:=fun k=>True) hth Cj h.inj hp2 hs2 hz2
  have UH:m<=32:=by omega
  rw[show m=d2.toList.length by rw[Array.length_toList]; exact hz2.symm]at m10 UH ⊢
  exact⟨a,cap,d2.toList,rfl,m10,f1,f2,UH,b3⟩
 skip
 have hcm1:=m7.uX s2
 have m11:=m5.bY hcm1
 have m12:=m6.bY hcm1 (m7.rb.symm)
 have m13:=m8.bY hcm1
 have b4:=s2.below b2 b2.size (by omega)
 refine Fx.Lv (.bool true) (Fx.aD rfl rfl rfl) (Fx.Ln (Fx.sN (Fx.Ws (Fx.Wc (b:=true) rfl (fun _=>Fx.Wk (Fx.sN (Fx.W.block (Fx.Ws (Fx.Wl (Fx.Lv (.tuple #[.int .u64 (x jW),.int .u64 (p jW)]) (Fx.Fh (key:=x) (val:=fun j => .int .u64 (p j)) (i:=jW) rfl h4 m12 Tw hi1) ?_)))))) (fun h=>nomatch h)))))
 refine Fx.Lv (.int .u64 (x jW)) (Fx.aD rfl rfl rfl) (Fx.Lv (.int .u64 (x jW)) (Fx.aj rfl rfl) (Fx.Ln (Fx.sN (Fx.Ws (Fx.Wl (Fx.Lv (.func (.func 52) #[] #[]) (Fx.ah rfl h2) (Fx.Lv (.int .u64 (x jW)) (Fx.ah rfl rfl) (Fx.L.call (by rfl) (Fx.yV (args := [.int .u64 (x jW)]) rfl rfl rfl (all := #[.int .u64 (x jW)]) rfl Tryd.func52 rfl rfl) rfl ((Ud _ _).mono ?_)))))))))
 rintro e v1 ⟨he,hv1⟩
 subst v1
 refine⟨.bool true,by rw[he],?_⟩
 clear he
 refine Fx.Ln (Fx.sN (Fx.Wc (b:=true) rfl (fun _=>Fx.Wl (Fx.Lv (.slice a (m) (cap)) (Fx.ah rfl h3) ?_)) (fun h=>nomatch h)))
 refine Fx.Lv (.int .u64 (x jW)) (Fx.ah rfl rfl) (Fx.L.wV (vs := [(0,.int .u64 (x jW))]) (s:=1) (zc:=Fx.rv .u64 (fun _=>0)) (y:=Fx.aX (fun j=>(Fx.rv .u64 (fun _=>0)) (j % 1)) (0*1) 1 (fun _ => .int .u64 (x jW))) (by rfl) rfl rfl Tryd.underlying53 (by kernel_rfl) (by rfl) (by rfl) (by kernel_rfl) (by rw[Fx.aG (off:=0*1) (s:=1) (y:=fun _ => .int .u64 (x jW)) rfl (Fx.cells_one (by rfl)) (by rfl)]; rfl) rfl fun g2 w5 bS m14 s3 z3 => ?_)
 have m15:=m11.aC s3 m11.ne
 have m16:=m12.up s3.old
 have m17:=m13.aC s3 (m13.iG (Nat.le_refl _))
 have m19:=m9.up s3.old
 have b5:=s3.below b4 b4.size b4.size
 have su:w.heap.size<=g2:=by rw[bS]; exact b4.size
 have pz:tp≠g2:=by rw[bS]; exact Nat.ne_of_lt (m11.lt)
 have JD:mb≠g2:=by rw[bS]; exact Nat.ne_of_lt (m12.lt)
 have JE:(.slice a (m) (cap):Value).ownBlock≠some g2:=by rw[bS]; exact m13.iG (Nat.le_refl _)
 have vK:g2<w5.heap.size:=m14.lt
 clear bS
 refine Fx.L.app (B:=w.heap.size) (s:=1) (bytes:=8) (k:=m) (m:=1) (v := .slice a (m) (cap)) (x:=fun q => .int .u64 (x (τ q))) (by rfl) rfl rfl rfl Tryd.underlying53 (by kernel_rfl) (by kernel_rfl) rfl rfl m17 m14.aL (fun j hj=>by unfold Fx.aX; split <;> rfl) (by omega) (by omega) (by omega) b5.size fun g3 oG w6 ho1 hg1 P7 hlt1 => ?_
 have aT:=Fx.gD.oO hg1 m17
 have m21:=m15.aU aT (by decide)
 have m22:=m16.aU aT (by decide)
 have m24:=m19.aU aT (by decide)
 have m20:Fx.Own w6 w.heap.size 22 1 (.slice (some ⟨g3,0,none⟩) (m+1) oG) (m+1) (fun q => .int .u64 (x (Fx.aH τ m jW q))):=(ho1.congr MJ)
 have b6:Below w.heap.size w w6:=Fx.Below.grow b5 hg1 b5.size (fun q hq=>(m17.ge hq).1)
 refine Fx.Lv (.slice (some ⟨g3,0,none⟩) (m+1) (oG)) (Fx.aj rfl rfl) (Fx.Ln (Fx.dV ?_))
 skip
 refine Fx.kg ⟨Fx.unseen (Fx.aH S jW true) n,(by have h1:=Fx.jL hS1 n hi1; have h2:=hth.kk; omega),m+1,Fx.aH τ m jW,Fx.aH S jW true,(some ⟨g3,0,none⟩),oG,(hth.take hi1 hS1 trivial),h1,h2,(by rfl),h4,m21,m22,m24,m20,b6⟩ (by decide)
theorem Rq(x p:Nat->Int)(n tp mb:Nat)(w:World)(hT:Fx.aP w tp 1 (fun _ => .map (some mb)) 116)(hM:Fx.Mp w mb n x (fun j => .int .u64 (p j)))(h:uo n x p) :
 Calls Tryd.prog 32 #[(pt tp)] w fun e w' => ∃ a c l,e = .returned (.slice a (List.length l) c)/\Fx.Own w' w.heap.size 22 1 (.slice a l.length c) l.length (mP l)/\l.Pairwise (· < ·)/\(∀ k,k∈l<->(cK x n k=true/\True))/\l.length<=32/\Below w.heap.size w w':=by
 refine Fx.enter Tryd.func32 rfl (n:=5) rfl (by rfl) ?_
 refine Fx.Ws (Fx.Wl (Fx.Lv (.slice none 0 0) (Fx.aj rfl rfl) (Fx.Ln (Fx.sN (Fx.Ws (Fx.Wl (Fx.Lv ((pt tp)) (Fx.ah rfl rfl) (Fx.L.call (by rfl) (Fx.rC (args := [(pt tp),.func (.func 52) #[] #[]]) rfl rfl Tryd.func51 rfl rfl) rfl ((JC x p n tp mb _ hT hM h).mono ?_)))))))))
 rintro e9 w1 ⟨Iw,yL,fG,he,m1,hq1,hq2,hq3,hb1⟩
 refine⟨_,he,?_⟩
 clear he
 have s1:=Fx.Sb hb1
 have b1:=s1.below (Below.refl w.heap.size w) (Below.refl w.heap.size w).size (Below.refl w.heap.size w).size
 refine Fx.Lv (.slice Iw (fG.length) (yL)) (Fx.aj rfl rfl) (Fx.Ln (Fx.sN (Fx.Wr (⟨.slice Iw (fG.length) (yL),Fx.rV Tryd.results32 (by exact rfl),?_⟩))))
 exact⟨Iw,yL,fG,rfl,m1.weak (by have:=b1.size; first|exact Nat.le_refl _|exact(Below.refl w.heap.size w).size),hq1,hq2,hq3,b1⟩
-- (*tree.Tree).Below is not in this seat
end Go.Proofs.YtahbiajdgealnaaDoor
namespace Go.Proofs.YtahbiajdgealnaaDoor
open Go.RowKit Go Rt
set_option linter.unusedVariables false
namespace Rt
structure cu where
 n:Nat
 x:Nat->Int
 p:Nat->Int
def cu.zero:cu:=⟨0,fun _=>0,fun _=>0⟩
def cu.has(T:cu)(k:Int):Bool:=cK T.x T.n k
def cu.par(T:cu)(k:Int):Int:=fq T.x T.p T.n k
def cu.path(T:cu)(k:Int):List Int:=fK T.x T.p T.n 4 k
def cu.err(T:cu)(id pa:Int):Int:=lJ T.x T.p T.n id pa
def cu.put(T:cu)(id pa:Int):cu:=⟨T.n+1,Fx.aH T.x T.n id,Fx.aH T.p T.n pa⟩
def cu.add(T:cu)(id pa:Int):cu:=if T.err id pa=0 then T.put id pa else T
abbrev cu.ok(T:cu):Prop:=uo T.n T.x T.p
theorem cu.Au{T:cu}(h:T.ok){id pa:Int}(hb:0<=id/\id<=18446744073709551615):(T.add id pa).ok:=by
 unfold cu.add
 split
 ·rename_i hc; exact uo.put h hc hb
 exact h
structure mD(w:World)(B tp mb:Nat)(T:cu):Prop where
 blk:Fx.aP w tp 1 (fun _ => .map (some mb)) 116
 map:Fx.Mp w mb T.n T.x (fun j => .int .u64 (T.p j))
 inv:T.ok
 gt:B<=tp
 gm:B<=mb
section
variable {w w':World} {B tp mb r:Nat} {T:cu} {id pa k:Int}
theorem mD.up(h:mD w B tp mb T)(hb:Below w.heap.size w w'):mD w' B tp mb T:=⟨h.blk.aC (Fx.Sb hb) (Nat.ne_of_lt h.blk.lt),h.map.up hb,h.inv,h.gt,h.gm⟩
theorem mD.aU{Ts:List TypeId}(h:mD w B tp mb T)(hc:Fx.gD Ts w w')(h1:Ts.contains 116=false):mD w' B tp mb T:=⟨h.blk.aU hc h1,h.map.aU hc trivial,h.inv,h.gt,h.gm⟩
theorem mD.uX(h:mD w B tp mb T)(hs:Fx.Stp mb w w'):Fx.GK mb w w':=h.map.uX hs
theorem mD.bY(h:mD w B tp mb T)(hc:Fx.GK r w w')(ne:mb≠r):mD w' B tp mb T:=⟨h.blk.bY hc,h.map.bY hc ne,h.inv,h.gt,h.gm⟩
theorem mD.weak{B':Nat}(h:mD w B tp mb T)(hB:B'<=B):mD w B' tp mb T:=⟨h.blk,h.map,h.inv,Nat.le_trans hB h.gt,Nat.le_trans hB h.gm⟩
theorem mD.lt(h:mD w B tp mb T):mb<w.heap.size:=h.map.lt
end
end Rt
theorem OY(w:World):Calls Tryd.prog 28 #[] w fun e w' => ∃ tp mb,e = .returned (.pointer (some ⟨tp,0,none⟩))/\w.heap.size<=mb/\mD w' w.heap.size tp mb cu.zero/\Below w.heap.size w w' :=
 (Ub (fun _=>0) (fun _=>0) w).mono fun e w' ⟨tp,mb,h1,h2,h3,h4,h5,h6⟩=>⟨tp,mb,h1,h3,⟨h4,h5,uo.zero _ _,h2,h3⟩,h6⟩
theorem Ck{w:World}{B tp mb:Nat}{T:cu}(id pa:Int)(h:mD w B tp mb T)(hb:0<=id/\id<=18446744073709551615) :
 Calls Tryd.prog 155 #[.pointer (some ⟨tp,0,none⟩),.int .u64 id,.int .u64 pa] w fun e w'=>e = .returned (.int .i64 (T.err id pa))/\mD w' B tp mb (T.add id pa)/\Fx.Stp mb w w' :=
 (Uc T.x T.p T.n tp mb id pa w h.blk h.map h.inv).mono fun e w' ⟨c,n2,x2,p2,h1,h2,h3,h4,h5⟩=>by
  cases h2 with
  | no hc h0 =>
    have hc:T.err id pa=c:=hc
    subst hc
    refine⟨h1,⟨h3,?_,cu.Au h.inv hb,h.gt,h.gm⟩,h5⟩
    unfold cu.add
    rw[if_neg h0]; exact h4
  | yes hc =>
    have hc:T.err id pa=0:=hc
    refine⟨by rw[hc]; exact h1,⟨h3,?_,cu.Au h.inv hb,h.gt,h.gm⟩,h5⟩
    unfold cu.add
    rw[if_pos hc]; exact h4
theorem OZ{w:World}{B tp mb:Nat}{T:cu}(k:Int)(h:mD w B tp mb T) :
 Calls Tryd.prog 72 #[.pointer (some ⟨tp,0,none⟩),.int .u64 k] w fun e w'=>e = .returned (.bool (T.has k))/\w'=w:=wZ T.x T.p T.n tp mb k w h.blk h.map
def Tx(w:World)(B:Nat)(a:Option Addr)(c:Nat)(l:List Int):Prop:=Fx.Own w B 22 1 (.slice a l.length c) l.length (mP l)
theorem Tx.up{w w':World}{B c:Nat}{a:Option Addr}{l:List Int}(h:Tx w B a c l)(hb:Below w.heap.size w w'):Tx w' B a c l:=Fx.Own.up h hb
theorem Ea{w:World}{B tp mb:Nat}{T:cu}(k:Int)(h:mD w B tp mb T) :
 Calls Tryd.prog 31 #[.pointer (some ⟨tp,0,none⟩),.int .u64 k] w fun e w' => ∃ a c,e = .returned (.slice a (T.path k).length c)/\Tx w' w.heap.size a c (T.path k)/\Below w.heap.size w w' :=
 DZ T.x T.p T.n tp mb 4 k w h.blk h.map h.inv.inj (h.inv.stop k) (h.inv.len k)
theorem JG{w:World}{B tp mb:Nat}{T:cu}(h:mD w B tp mb T) :
 Calls Tryd.prog 32 #[.pointer (some ⟨tp,0,none⟩)] w fun e w' => ∃ a c l,e = .returned (.slice a (List.length l) c)/\Tx w' w.heap.size a c l/\(l.Pairwise (· < ·) /\ ∀ k,k∈l<->T.has k=true)/\l.length<=32/\Below w.heap.size w w' :=
 (Rq T.x T.p T.n tp mb w h.blk h.map h.inv).mono fun e w' ⟨a,c,l,h1,h2,h3,h4,h5⟩=>⟨a,c,l,h1,h2,⟨h3,fun k=>by have:=h4 k; rw[and_true]at this; exact this⟩,h5⟩
namespace Rt
section
variable {T U:cu} {id pa k:Int}
structure mU(U T:cu):Prop where
 has : ∀ k,U.has k=true->T.has k=true
 par : ∀ k,U.has k=true->U.par k=T.par k
theorem mU.same(h:mU U T)(hx : ∀ k,T.has k=true->U.has k=true) : ∀ k,U.path k=T.path k:=fun k=>by
 have e : ∀ k,U.has k=T.has k:=fun k=>by
  cases h1:U.has k with
  | true=>exact(h.has k h1).symm
  | false =>
    cases h2:T.has k with
    | false=>rfl
    | true=>rw[hx k h2]at h1; cases h1
 exact zf e (fun k hk=>h.par k (hx k hk)) 4 k
theorem cu.gZ(T:cu)(id pa k:Int):(T.put id pa).has k=(T.has k || decide (id=k)):=Rt.gZ id k
theorem cu.nN(T:cu)(id pa k:Int):(T.put id pa).par k=if id=k then pa else T.par k:=Rt.nN id pa k
end
end Rt
namespace Fx
theorem Rs{P:Program}{f:Nat->Value}{w:World}{o:Oper}{T T':TypeId}{x y:Operand}{a b:Nat}(ho:o.op = .binOp .or T x y T')(hx:ev f x = .int .u64 (1099511627776*(a:Int)))(hy:ev f y = .int .u64 (b:Int))(ha:a<=8388607)(hb:b<1099511627776):Runs P f o w (.int .u64 (1099511627776*(a:Int)+b)) :=
 mJ ho hx hy (by
  have e:((BitVec.ofInt 64 (1099511627776*(a:Int)) ||| BitVec.ofInt 64 (b:Int)).toNat:Int)=1099511627776*(a:Int)+b:=by
   rw[BitVec.toNat_or,BitVec.toNat_ofInt,BitVec.toNat_ofInt]
   rw[show((1099511627776*(a:Int)) % ((2^64:Nat):Int)).toNat=1099511627776*a by omega,show((b:Int) % ((2^64:Nat):Int)).toNat=b by omega]
   have h:=Nat.shiftLeft_add_eq_or_of_lt (i:=40) (b:=b) (by omega) a
   rw[Nat.shiftLeft_eq]at h
   rw[show 1099511627776*a=a*2^40 by omega,<- h]
   omega
  have h:=rX (c:=1099511627776*(a:Int)+b) (by omega) rfl
  simp only[binOp,Op.intBits]
  show(pure (Value.int .u64 (IntKind.u64.wrap ((BitVec.ofInt 64 (1099511627776*(a:Int)) ||| BitVec.ofInt 64 (b:Int)).toNat:Int))):Sem Value).run P w=_
  rw[e,h]; rfl)
theorem Ru{w:World}{B c:Nat}{a:Option Addr}{l:List Int}(h:Tx w B a c l):Fx.qB w a l.length 1 (mP l):=Own.UG h (Nat.le_refl _)
end Fx
end Go.Proofs.YtahbiajdgealnaaDoor
namespace Go.Proofs.YtahbiajdgealnaaDoor
open Go.RowKit Rt
open Fx (ah aj au ak aJ aA aO eZ av bF dI aK x_len dw bX dn bG Lv sN Ln Ws Qv Wl Rp Wc Qs Wr Sb Lk Wk rC rV sR)
namespace Rt
structure EvM where
 o:Int
 seq:Int
 deps:Nat->Int
 kind:Int
 node:Int
 dst:Int
 bL:Int
 req:Int
 of:Int
def aW(v:EvM):Nat->Value:=fun p=>if p=0 then .int .i64 v.o else if p=1 then .int .u64 v.seq else if p<8 then .int .u64 (v.deps (p-2))else if p=8 then .int .u8 v.kind else if p=9 then .int .u64 v.node else if p=10 then .int .i64 v.dst else if p=11 then .int .i64 v.bL else if p=12 then .int .u64 v.req else .int .u64 v.of
theorem mV(v:EvM){p j:Nat}(h:p=j+2)(hj:j<6):aW v p = .int .u64 (v.deps j):=by
 subst h; unfold aW; rw[if_neg (by omega),if_neg (by omega),if_pos (by omega),show j+2-2=j by omega]
def nR(i:Int):Bool:=decide (1<=i)&&decide (i<=6)
def Av(v:EvM):EvM :=
 if v.kind=1 then { v with dst:=0,req:=0,of:=0 } else if v.kind=2 then { v with dst:=0,req:=0,of:=0 } else if v.kind=3 then { v with dst:=0,of:=0 }
 else if v.kind=4 then { v with node:=0,dst:=0,bL:=0 } else if v.kind=5 then { v with req:=0,of:=0 } else if v.kind=6 then { v with node:=0,bL:=0,req:=0,of:=0 }
 else { v with node:=0,dst:=0,bL:=0,req:=0,of:=0 }
def someE(v:EvM):Bool:=decide (1<=v.bL)&&decide (v.bL<=1125899906842624)
def xH(v:EvM):Bool:=nR v.dst && !decide (v.dst=v.o)
def iQ(v:EvM):Bool :=
 if v.kind=1 then decide (0<=v.bL)&&decide (v.bL<=1125899906842624)else if v.kind=2 then someE v else if v.kind=3 then someE v&&decide (1<=v.req)
 else if v.kind=4 then decide (1<=v.req)&&decide (1<=v.of) && !decide (v.req=v.of)else if v.kind=5 then someE v&&xH v else if v.kind=6 then xH v else decide (v.kind=7)
end Rt
namespace Rt
def gL(n:Int):Prop:=0<=n/\n<=18446744073709551615
def qF(n:Int):Prop := -9223372036854775808<=n/\n<=9223372036854775807
structure iI(v:EvM):Prop where
 o:qF v.o
 seq:gL v.seq
 deps : ∀ i,i<6->gL (v.deps i)
 kind:0<=v.kind/\v.kind<=255
 node:gL v.node
 dst:qF v.dst
 bL:qF v.bL
 req:gL v.req
 of:gL v.of
theorem iI.own{v:EvM}(h:iI v):iI (Av v):=by
 have z:gL 0:=⟨by decide,by decide⟩
 have y:qF 0:=⟨by decide,by decide⟩
 unfold Av
 split
 ·exact⟨h.o,h.seq,h.deps,h.kind,h.node,y,h.bL,z,z⟩
 split
 ·exact⟨h.o,h.seq,h.deps,h.kind,h.node,y,h.bL,z,z⟩
 split
 ·exact⟨h.o,h.seq,h.deps,h.kind,h.node,y,h.bL,h.req,z⟩
 split
 ·exact⟨h.o,h.seq,h.deps,h.kind,z,y,y,h.req,h.of⟩
 split
 ·exact⟨h.o,h.seq,h.deps,h.kind,h.node,h.dst,h.bL,z,z⟩
 split
 ·exact⟨h.o,h.seq,h.deps,h.kind,z,h.dst,y,z,z⟩
 exact⟨h.o,h.seq,h.deps,h.kind,z,y,y,z,z⟩
theorem FB{v:EvM}(h:iI v):Fx.Kd [(some .i64),(some .u64),(some .u64),(some .u64),(some .u64),(some .u64),(some .u64),(some .u64),(some .u8),(some .u64),(some .i64),(some .i64),(some .u64),(some .u64)] (aW v):=by
 have one : ∀(k:IntKind) (n:Int),(Lit.int k n).wf=true -> ∃ l,jD (some k) (.int k n)=some l:=fun k n hw=>by
  obtain⟨l,hl⟩:=Fx.wR (k:=k) (n:=1) (x:=fun _=>n) (fun _ _=>hw) 0 (by simp)
  exact⟨l,hl⟩
 intro i hi
 have hi':i<14:=hi
 rcases i with _|_|_|_|_|_|_|_|_|_|_|_|_|_|i
 ·exact one .i64 v.o (Fx.IU h.o)
 ·exact one .u64 v.seq (Fx.kD h.seq)
 ·exact one .u64 (v.deps 0) (Fx.kD (h.deps 0 (by decide)))
 ·exact one .u64 (v.deps 1) (Fx.kD (h.deps 1 (by decide)))
 ·exact one .u64 (v.deps 2) (Fx.kD (h.deps 2 (by decide)))
 ·exact one .u64 (v.deps 3) (Fx.kD (h.deps 3 (by decide)))
 ·exact one .u64 (v.deps 4) (Fx.kD (h.deps 4 (by decide)))
 ·exact one .u64 (v.deps 5) (Fx.kD (h.deps 5 (by decide)))
 ·exact one .u8 v.kind (Fx.WQ h.kind)
 ·exact one .u64 v.node (Fx.kD h.node)
 ·exact one .i64 v.dst (Fx.IU h.dst)
 ·exact one .i64 v.bL (Fx.IU h.bL)
 ·exact one .u64 v.req (Fx.kD h.req)
 ·exact one .u64 v.of (Fx.kD h.of)
 omega
def qZ(v:EvM):Bool:=(List.range 6).all fun i=>decide (v.deps i<1099511627776)
def qO(v:EvM):Bool:=decide (v.node=(Av v).node)&&decide (v.dst=(Av v).dst)&&decide (v.bL=(Av v).bL)&&decide (v.req=(Av v).req)&&decide (v.of=(Av v).of)
def bZ(v:EvM):Bool:=nR v.o&&decide (1<=v.seq)&&decide (v.seq<1099511627776)&&decide (v.deps (v.o-1).toNat=v.seq-1)&&qZ v&&qO v&&iQ v
theorem eF{i:Int}(h:nR i=true) : ∃ a:Nat,a<6/\i=(a:Int)+1:=by
 unfold nR at h; simp at h
 obtain⟨a,ha⟩:=Int.eq_ofNat_of_zero_le (show 0<=i-1 by omega)
 exact⟨a,by omega,by omega⟩
theorem G7{v:EvM}{k:Nat}(hk:k<6)(h:1099511627776<=v.deps k):qZ v=false:=by
 unfold qZ; rw[List.all_eq_false]; exact⟨k,List.mem_range.2 hk,by simp; omega⟩
theorem Eb{v:EvM}{k:Nat}(hk : ¬ (k:Int)<6)(h : ∀ i,i<k->v.deps i<1099511627776):qZ v=true:=by
 unfold qZ; rw[List.all_eq_true]; intro i hi; have:=List.mem_range.1 hi; simp; exact h i (by omega)
theorem ig{v:EvM}(h:bZ v=true):nR v.o=true:=by
 unfold bZ at h; simp only[Bool.and_eq_true]at h; exact h.1.1.1.1.1.1
end Rt
namespace Rt
def vg(K:Nat->Int)(v:EvM):Bool:=bZ v&&decide (v.seq<=K (v.o-1).toNat)
def zo(D K:Nat->Int):Bool:=(List.range 6).all fun i=>decide (D i<=K i)
def fV(K:Nat->Int)(v:EvM):Bool:=bZ v&&decide (v.seq=K (v.o-1).toNat+1)&&zo v.deps K
def JH(K:Nat->Int):Prop := ∀ i,i<6->0<=K i/\K i<1099511627776
theorem wu{v:EvM}(h:bZ v=true):1<=v.seq/\v.seq<1099511627776:=by
 unfold bZ at h; simp only[Bool.and_eq_true,decide_eq_true_eq]at h; exact⟨h.1.1.1.1.1.2,h.1.1.1.1.2⟩
end Rt
set_option maxHeartbeats 400000 in
theorem Aw(a:Option Addr)(len cap:Nat)(l:List Int)(w:World)(hlen:len<=100)(hl:Hid (l.length=len))(hr:V5 .i64 w a l) :
 Calls Tryd.prog 70 #[.slice a len cap] w fun e w'=>e = .returned (.tuple #[.int .i64 (iV l).1,.bool (iV l).2])/\w'=w:=by
 go_enter Tryd.func70,Tryd.ntmps70
 go_wp2
 go_loop [2,3,8] (fun v o i=>o = .bool false /\ ∃ k:Nat,k<=len/\i = .int .i64 k/\iM (l.take k)=true/\v = .int .i64 (l.take k).sum) (fun _ _ i=>len-(intOf i).toNat)
 case atStart=>exact⟨rfl,0,Nat.zero_le _,rfl,rfl,rfl⟩
 case round =>
  obtain⟨rfl,k,hk,rfl,hok,rfl⟩:=hrel
  by_cases hk2:k<len
  ·have hk3:k<l.length:=by rw[hl.out]; exact hk2
   obtain⟨b,off,rfl,hc⟩:=hr k hk3
   have hb:=uj _ hok
   have hle:(l.take k).length<=k:=List.length_take_le _ _
   have HS:Hid _:=yF l k hk3
   have HO:Hid _:=vJ l k hk3
   have HF:Hid (DC l[k]=false->iV l=(0,false)):=by intro h; unfold iV; rw[if_neg (by rw[yG hk3 h]; decide)]
   have Hok:Hid _:=hok
   clear hr hok
   generalize l[k]=x at *
   generalize hs:(l.take k).sum=s at *
   clear hs
   by_cases h0:x<0
   ·have hn:DC x=false:=by unfold DC; simp; omega
    have HR:Hid _:=HF.out hn
    clear HF hn HS HO
    go_wp2
    go_ret2
    rw[HR.out]; exact⟨rfl,rfl⟩
   ·by_cases h1:1125899906842624<x
    ·have hn:DC x=false:=by unfold DC; simp; omega
     have HR:Hid _:=HF.out hn
     clear HF hn HS HO
     go_wp2
     go_ret2
     rw[HR.out]; exact⟨rfl,rfl⟩
    ·have hy:Hid (DC x=true):=by unfold DC Hid; simp; omega
     clear HF
     go_wp2
     go_round
     case rel=>exact⟨rfl,k+1,by omega,by go_num,by rw[HO.out,Hok.out,hy.out]; rfl,by rw[HS.out]⟩
     case measure=>simp[intOf]; omega
  ·have hT:Hid (l.take k=l):=List.take_of_length_le (by rw[hl.out]; omega)
   rw[hT.out]at hok ⊢
   have HR:Hid (iV l=(l.sum,true)):=by unfold iV Hid; rw[if_pos hok]
   clear hok
   generalize l.sum=s at *
   go_wp2
   go_ret2
   rw[HR.out]; exact⟨rfl,rfl⟩
def Two(w0 w:World)(g1 c1:Nat)(l1:List Int)(g2 c2:Nat)(l2:List Int):Prop :=
 w.ownsRow w0.heap.size 2 1 (.slice (some ⟨g1,0,none⟩) l1.length c1) l1.length (l1.map (Value.int .i64)) /\
 w.ownsRow w0.heap.size 2 1 (.slice (some ⟨g2,0,none⟩) l2.length c2) l2.length (l2.map (Value.int .i64))/\g1≠g2/\Below w0.heap.size w0 w
theorem Two.alloc{w0 w:World}{g1 c1:Nat}{l1:List Int}{g2 c2:Nat}{l2:List Int}(h:Two w0 w g1 c1 l1 g2 c2 l2)(o:Obj):Two w0 (w.alloc o) g1 c1 l1 g2 c2 l2 :=
 ⟨World.ownsRow.alloc h.1 o,World.ownsRow.alloc h.2.1 o,h.2.2.1,h.2.2.2.alloc h.2.2.2.size o⟩
theorem Two.drew{w0 w:World}{g1 c1:Nat}{l1:List Int}{g2 c2:Nat}{l2:List Int}(h:Two w0 w g1 c1 l1 g2 c2 l2):Two w0 w.drew g1 c1 l1 g2 c2 l2 :=
 ⟨h.1,h.2.1,h.2.2.1,h.2.2.2.drew⟩
theorem Two.swap{w0 w:World}{g1 c1:Nat}{l1:List Int}{g2 c2:Nat}{l2:List Int}(h:Two w0 w g1 c1 l1 g2 c2 l2):Two w0 w g2 c2 l2 g1 c1 l1:=⟨h.2.1,h.1,h.2.2.1.symm,h.2.2.2⟩
theorem MK:(Tryd.prog.info? 2).map (fun i=>(i.zero,i.size,i.bytes))=some (some (.int .i64 0),1,8):=by kernel_rfl
theorem Cm{ops:Array Oper}{o:Oper}{a:Act}{w0 w:World}{K:Act->World->Prop}{Q:Exit->Act->World->Prop}{E:Prop}(hgd:o.guard=none)(s x:Operand)
 (ho:o.op = .call { callee := .builtin .append,args := #[s,x],argTypes := #[143,143] }) (g1 c1:Nat) (l1:List Int) (g2 c2:Nat) (l2:List Int) (h:Two w0 w g1 c1 l1 g2 c2 l2)
 (n:Nat) (hn:l1.length=n) (hs:a.eval s = .slice (some ⟨g1,0,none⟩) n c1) (ad:Nat) (v:Int) (hx:a.eval x = .slice (some ⟨ad,0,none⟩) 1 1) (hc:w.cell? ⟨ad,0,none⟩=some (.int .i64 v)) (hle:n<=100)
 (hK : ∀ g cap w',Two w0 w' g cap (l1 ++ [v]) g2 c2 l2->(∀ a u,w.cell? a=some u->a.block≠g1->w'.cell? a=some u)->K (a.put o.dst (.slice (some ⟨g,0,none⟩) (n+1) cap)) w') :
 if Region.wanted o (yielded ops a.tmps)=true then Oper.wp Tryd.prog o a w K Q else E:=by
 obtain⟨i0,hi,hz0,hz1,hz2⟩:=info_parts MK
 subst hn
 refine step_append_lies w hgd s x 143 ho w0.heap.size 2 i0 (.int .i64 0) 1 8 Tryd.underlying143 hi hz0 hz1 hz2 rfl (by decide) _ l1.length (l1.map (Value.int .i64)) hs h.1 ⟨ad,0,none⟩ 1 1 [.int .i64 v] hx rfl
  (by intro j u hu; cases j with
   | zero=>simp at hu; subst hu; rw[addr_add]; exact hc
   | succ j=>simp at hu) (by intro u hu; simp at hu; subst hu; rfl) (by decide) (by unfold maxLen; omega) (by omega) h.2.2.2.size w.heap.size rfl ?_
 intro g cap w' h1 h2 h3 h4
 refine hK g cap w' ⟨?_,?_,?_,?_⟩ (fun a u hu hne=>h2.cell hu (by simp[Value.ownBlock]; exact hne))
 ·rw[List.length_append,List.map_append]; exact h1
 ·exact World.ownsRow.kept h.2.1 h2 (.inr (by simp[Value.ownBlock]; exact fun e=>h.2.2.1 e.symm))
 ·have hlt:=World.ownsRow.lt h.2.1 g2 rfl
  rcases h3 with h3|h3
  ·simp[Value.ownBlock]at h3; subst h3; exact h.2.2.1
  omega
 exact h.2.2.2.grown h2 h.2.2.2.size (fun k hk=>(World.ownsRow.lt h.1 k hk).1)
theorem Two.rd1{w0 w:World}{g1 c1:Nat}{l1:List Int}{g2 c2:Nat}{l2:List Int}(h:Two w0 w g1 c1 l1 g2 c2 l2):V5 .i64 w (some ⟨g1,0,none⟩) l1:=by
 intro i hi
 refine⟨g1,0,rfl,?_⟩
 rw[Nat.zero_add,World.ownsRow.cellAt h.1 i (by omega)]
 simp[hi]
theorem Two.start(w:World)(v a b:Int):Two w ((w.alloc (.cells #[.int .i64 v] 2)).alloc (.cells #[.int .i64 a,.int .i64 b] 2)) w.heap.size 1 [v] (w.heap.size+1) 2 [a,b]:=by
 refine⟨World.ownsRow.alloc (World.ownsRow_lit w #[.int .i64 v] 1 (Nat.le_refl _) (by unfold maxLen; omega) rfl) _,?_,by omega,((Below.refl _ _).alloc (Nat.le_refl _) _).alloc (by simp) _⟩
 have:=World.ownsRow_lit (base:=w.heap.size) (e:=2) (size:=1) (w.alloc (.cells #[.int .i64 v] 2)) #[.int .i64 a,.int .i64 b] 2 (by simp) (by unfold maxLen; omega) rfl
 simpa using this
theorem Two.Rv(w:World)(v a b:Int):Two w ((w.alloc (.cells #[.int .i64 a,.int .i64 b] 2)).alloc (.cells #[.int .i64 v] 2)) (w.heap.size+1) 1 [v] w.heap.size 2 [a,b]:=by
 refine⟨?_,World.ownsRow.alloc (World.ownsRow_lit w #[.int .i64 a,.int .i64 b] 2 (Nat.le_refl _) (by unfold maxLen; omega) rfl) _,by omega,((Below.refl _ _).alloc (Nat.le_refl _) _).alloc (by simp) _⟩
 have:=World.ownsRow_lit (base:=w.heap.size) (e:=2) (size:=1) (w.alloc (.cells #[.int .i64 a,.int .i64 b] 2)) #[.int .i64 v] 1 (by simp) (by unfold maxLen; omega) rfl
 simpa using this
theorem Two.at{w0 w:World}{g1 c1:Nat}{l1:List Int}{g2 c2:Nat}{l2:List Int}(h:Two w0 w g1 c1 l1 g2 c2 l2){b:Nat}{x:Nat->Int}{T:TypeId}{fz:Nat × Nat}(hb:w0.heap[b]? = some (.cells (aF .i64 54 x) T fz))(i:Nat)(hi:i<54) :
 w.cell? ⟨b,i,none⟩=some (.int .i64 (x i)) :=
 dP ((h.2.2.2.block b (Array.getElem?_eq_some_iff.1 hb).1).trans hb) i hi
theorem Two.lt{w0 w:World}{g1 c1:Nat}{l1:List Int}{g2 c2:Nat}{l2:List Int}(h:Two w0 w g1 c1 l1 g2 c2 l2){b:Nat}(hb:b<w0.heap.size):b<w.heap.size:=Nat.lt_of_lt_of_le hb h.2.2.2.size
theorem xI(x:Nat->Int)(k:Nat) : ∀ j,(outs x k j).length=j+1
 | 0=>rfl
 | j+1=>by rw[outs,List.length_append,xI x k j]; rfl
theorem Ay(x:Nat->Int)(k:Nat) : ∀ j,(ins x k j).length=j+2
 | 0=>rfl
 | j+1=>by rw[ins,List.length_append,Ay x k j]; rfl
def UJ(w:World)(x:Nat->Int)(k j:Nat)(s6 s7:Value)(wx:World):Prop :=
 ∃ g1 c1 g2 c2,s6 = .slice (some ⟨g1,0,none⟩) (j+1) c1/\s7 = .slice (some ⟨g2,0,none⟩) (j+2) c2/\Two w wx g1 c1 (outs x k j) g2 c2 (ins x k j)
set_option maxHeartbeats 4000000 in
theorem zu(b:Nat)(T:TypeId)(fz:Nat × Nat)(x:Nat->Int)(k:Nat)(w:World)(hk:k<6)(hb:Hid (w.heap[b]? = some (.cells (aF .i64 54 x) T fz))) :
 Calls Tryd.prog 49 #[.pointer (some ⟨b,0,none⟩),.int .i64 k] w fun e w'=>e = .returned (.tuple #[.int .i64 (localM x k).1,.bool (localM x k).2])/\Below w.heap.size w w':=by
 have hlt:b<w.heap.size:=(Array.getElem?_eq_some_iff.1 hb.out).1
 have hki:(k:Int)<6:=by omega
 go_enter Tryd.func49,Tryd.ntmps49
 go_upto_region 1 with (fail)
 go_cut [6,7] (fun s6 s7 wx=>UJ w x k 0 s6 s7 wx)
 case first =>
  have c1:=dP hb.out (6+k) (by omega)
  have c2:=dP hb.out k (by omega)
  have c3:=dP hb.out (12+k) (by omega)
  go_wp2
  go_region
  all_goals go_wp2
  all_goals go_meet
  case rel=>exact⟨_,_,_,_,rfl,rfl,(Two.start w (x (6+k)) (x k) (x (12+k))).drew⟩
  case rel=>exact⟨_,_,_,_,rfl,rfl,(Two.Rv w (x (6+k)) (x k) (x (12+k))).drew⟩
 case rest =>
  clear hlt
  go_wp2
  go_loopw [6,7,33] (fun s6 s7 i wx => ∃ j:Nat,j<=6/\i = .int .i64 j/\UJ w x k j s6 s7 wx) (fun _ _ i _=>6-(intOf i).toNat)
  case atStart=>exact⟨0,Nat.zero_le _,rfl,hcut⟩
  case round =>
   obtain⟨j,hj,rfl,g1,c1,g2,c2,rfl,rfl,hT⟩:=hrel
   by_cases hj2:j<6
   ·have hji:(j:Int)<6:=by omega
    have hlt:b<w.heap.size:=(Array.getElem?_eq_some_iff.1 hb.out).1
    have hrow:wr.heap[b]? = some (.cells (aF .i64 54 x) T fz):=(hT.2.2.2.block b hlt).trans hb.out
    have e1:=dP hrow (18+k*6+j) (by omega)
    have e2:=dP hrow (18+j*6+k) (by omega)
    have hlt2:b<wr.heap.size:=(Array.getElem?_eq_some_iff.1 hrow).1
    have JI:Hid _:=hrow
    have hg1:g1<wr.heap.size:=(World.ownsRow.lt hT.1 g1 rfl).2
    have hg2:g2<wr.heap.size:=(World.ownsRow.lt hT.2.1 g2 rfl).2
    clear hrow
    have HO:Hid ((outs x k j).length=j+1):=xI x k j
    have HI:Hid ((ins x k j).length=j+2):=Ay x k j
    go_wp2
    go_region_law (first
     | (refine Cm (o:=⟨some 46,_,_,_,_,_⟩) (by rfl) (.tmp 36) (.tmp 45) (by rfl) g1 c1 (outs x k j) _ _ _ (by first|assumption|exact Two.alloc (by assumption) _|exact Two.alloc (Two.alloc (by assumption) _) _|exact hT.drew.alloc _|exact(hT.drew.alloc _).alloc _) (j+1) HO.out (by rfl) _ (x (18+k*6+j)) (by rfl) (by first|(go_simp; done)|exact hkp _ _ (by go_simp; done) (by simp; omega)) (by omega) ?_; intro g cp w1 hT1 hkp; have e1':=hT1.at hb.out (18+k*6+j) (by omega); have e2':=hT1.at hb.out (18+j*6+k) (by omega); have hlt':=hT1.lt hlt)
     | (refine Cm (o:=⟨some 57,_,_,_,_,_⟩) (by rfl) (.tmp 47) (.tmp 56) (by rfl) g2 c2 (ins x k j) _ _ _ (by first|exact Two.swap (by assumption)|exact(Two.alloc (by assumption) _).swap|exact(Two.alloc (Two.alloc (by assumption) _) _).swap|exact(hT.drew.alloc _).swap|exact((hT.drew.alloc _).alloc _).swap) (j+2) HI.out (by rfl) _ (x (18+j*6+k)) (by rfl) (by first|(go_simp; done)|exact hkp _ _ (by go_simp; done) (by simp; omega)) (by omega) ?_; intro g cp w1 hT1 hkp; have e1':=hT1.at hb.out (18+k*6+j) (by omega); have e2':=hT1.at hb.out (18+j*6+k) (by omega); have hlt':=hT1.lt hlt))
    all_goals go_wp2
    all_goals go_roundw
    all_goals first
     | (simp[intOf]; omega)
     | exact⟨j+1,by omega,by go_num,_,_,_,_,rfl,rfl,hT1.swap⟩
   ·obtain rfl:j=6:=by omega
    have r1:=hT.rd1
    have r2:=hT.swap.rd1
    have hbel:=hT.2.2.2
    have HO:Hid ((outs x k 6).length=7):=xI x k 6
    have HI:Hid ((ins x k 6).length=8):=Ay x k 6
    have b1:=nM (outs x k 6)
    have b2:=nM (ins x k 6)
    rw[HO.out]at b1
    rw[HI.out]at b2
    have HL:Hid (localM x k=((iV (ins x k 6)).1-(iV (outs x k 6)).1,(iV (outs x k 6)).2&&(iV (ins x k 6)).2)):=rfl
    generalize outs x k 6=lo at *
    generalize ins x k 6=li at *
    clear hT
    go_wp2_with fail
    refine(Aw _ 7 c1 lo _ (by omega) HO r1).mono ?_
    rintro e w1 ⟨rfl,rfl⟩
    go_wp2_with fail
    refine(Aw _ 8 c2 li _ (by omega) HI r2).mono ?_
    rintro e w2 ⟨rfl,rfl⟩
    generalize (iV li).1=n2 at *
    generalize (iV lo).1=n1 at *
    generalize (iV li).2=o2 at *
    generalize (iV lo).2=o1 at *
    cases o1
    all_goals
     go_wp2_with fail
     go_ret2
     rw[HL.out]; exact⟨rfl,hbel⟩
namespace Rt
def uy(x:Nat->Int)(k:Nat):Bool:=(localM x k).2&&decide (0<=(localM x k).1)&&decide (F x k<=C x k)&&(R x k k==0)
def vQ(x:Nat->Int):Nat->Bool
 | 0=>true
 | k+1=>vQ x k&&uy x k
def gs(x:Nat->Int):List Int := [x 0,x 1,x 2,x 3,x 4,x 5]
def may(x:Nat->Int):Bool:=vQ x 6&&((iV (gs x)).2&&decide ((iV (gs x)).1<=1125899906842624))
theorem xJ(x:Nat->Int)(k:Nat)(h:uy x k=false) : ∀ n,k<n->vQ x n=false
 | 0,hn=>absurd hn (by omega)
 | n+1,hn=>by
   rw[vQ]
   by_cases e:k=n
   ·subst e; rw[h,Bool.and_false]
   ·rw[xJ x k h n (by omega),Bool.false_and]
theorem G8(x:Nat->Int)(k:Nat)(hk:k<6)(h:uy x k=false):may x=false:=by
 unfold may; rw[xJ x k h 6 hk,Bool.false_and]
end Rt
theorem UK{w:World}{g:Nat}{x:Nat->Int}{t:TypeId}{fz:Nat × Nat}(h:w.heap[g]? = some (.cells (aF .i64 54 x) t fz)):V5 .i64 w (some ⟨g,0,none⟩) (gs x):=by
 intro i hi
 have hi6:i<6:=hi
 refine⟨g,0,rfl,?_⟩
 rw[Nat.zero_add,dP h i (by omega)]
 rcases(show i=0\/i=1\/i=2\/i=3\/i=4\/i=5 by omega)with rfl|rfl|rfl|rfl|rfl|rfl <;> rfl
set_option maxHeartbeats 1000000 in
theorem lN(x:Nat->Int)(w:World) :
 Calls Tryd.prog 48 #[.agg (aF .i64 54 x)] w fun e w'=>e = .returned (.bool (may x))/\Below w.heap.size w w':=by
 go_enter Tryd.func48,Tryd.ntmps48
 go_wp2
 go_loopw [2,3,8] (fun r _ i wr=>r = .bool false /\ ∃ k:Nat,k<=6/\i = .int .i64 k/\vQ x k=true/\wr.heap[w.heap.size]? = some (.cells (aF .i64 54 x) 82 (0,0))/\Below w.heap.size w wr) (fun _ _ i _=>6-(intOf i).toNat)
 case atStart=>exact⟨rfl,0,Nat.zero_le _,rfl,rfl,heap_alloc_new w _,(Below.refl _ _).alloc (Nat.le_refl _) _⟩
 case round =>
  obtain⟨rfl,k,hk,rfl,hN,hrow,hbel⟩:=hrel
  have hlt:w.heap.size<wr.heap.size:=(Array.getElem?_eq_some_iff.1 hrow).1
  have JI:Hid _:=hrow
  have HN:Hid _:=hN
  clear hrow hN
  by_cases hk2:k<6
  ·have hki:(k:Int)<6:=by omega
   have HM:Hid (vQ x (k+1)=(vQ x k&&uy x k)):=rfl
   have HF:Hid (uy x k=false->may x=false):=fun h=>G8 x k hk2 h
   have HK:Hid (uy x k=((localM x k).2&&decide (0<=(localM x k).1)&&decide (F x k<=C x k)&&(R x k k==0))):=rfl
   go_wp2_with fail
   refine(zu w.heap.size _ _ x k wr hk2 JI).mono ?_
   rintro e w1 ⟨rfl,hb1⟩
   have Cn:=(hb1.block _ hlt).trans JI.out
   have Co:=hbel.trans (hb1.mono (Nat.le_of_lt hlt))
   have c1:=dP Cn (12+k) (by omega)
   have c2:=dP Cn (6+k) (by omega)
   have c3:=dP Cn (18+k*6+k) (by omega)
   have UL:Hid _:=Cn
   clear Cn JI hbel hb1
   generalize (localM x k).1=n at *
   generalize hF:F x k=f at *
   generalize hC:C x k=c at *
   generalize hR:R x k k=r at *
   unfold F at hF; unfold C at hC; unfold R at hR
   rw[hF]at c1; rw[hC]at c2; rw[hR]at c3
   clear hF hC hR
   cases his:(localM x k).2
   ·rw[his]at HK
    clear his
    have HR:Hid _:=HF.out (by rw[HK.out]; rfl)
    clear HK HF HM
    go_wp2_with fail
    go_quiet (fail)
    go_wp2
    go_ret
    rw[HR.out]; exact⟨rfl,bN Co _⟩
   ·rw[his]at HK
    clear his
    by_cases h1:n<0
    ·have d1:decide (n<0)=true:=by simpa using h1
     have d1':decide (0<=n)=false:=by simp; omega
     have HR:Hid _:=HF.out (by rw[HK.out]; rw[d1']; rfl)
     clear HK HF HM
     go_wp2_with fail
     go_quiet (fail)
     go_wp2
     go_ret
     rw[HR.out]; exact⟨rfl,bN Co _⟩
    ·have d1:decide (n<0)=false:=by simp; omega
     have d1':Hid (decide (0<=n)=true):=by unfold Hid; simp; omega
     by_cases h2:c<f
     ·have d2:decide (c<f)=true:=by simpa using h2
      have X4:decide (f<=c)=false:=by simp; omega
      have HR:Hid _:=HF.out (by rw[HK.out]; rw[X4,Bool.and_false,Bool.false_and])
      clear HK HF HM
      go_wp2_with fail
      go_quiet (fail)
      go_wp2
      go_ret
      rw[HR.out]; exact⟨rfl,bN Co _⟩
     ·have d2:decide (c<f)=false:=by simp; omega
      have X4:Hid (decide (f<=c)=true):=by unfold Hid; simp; omega
      by_cases h3:r=0
      ·subst h3
       go_wp2_with fail
       go_quiet (fail)
       go_wp2
       go_roundw
       case rel=>exact⟨rfl,k+1,by omega,by go_num,by rw[HM.out,HN.out,HK.out,d1'.out,X4.out]; rfl,UL.out,bN Co _⟩
       case measure=>simp[intOf]; omega
      ·have d3:(r != 0)=true:=by simpa using h3
       have d3':(r==0)=false:=by simpa using h3
       have HR:Hid _:=HF.out (by rw[HK.out]; rw[d3',Bool.and_false])
       clear HK HF HM
       go_wp2_with fail
       go_quiet (fail)
       go_wp2
       go_ret
       rw[HR.out]; exact⟨rfl,bN Co _⟩
  ·obtain rfl:k=6:=by omega
   have HV:Hid (may x=((iV (gs x)).2&&decide ((iV (gs x)).1<=1125899906842624))):=by unfold Hid may; rw[HN.out,Bool.true_and]
   have hg:V5 .i64 wr (some ⟨w.heap.size,0,none⟩) (gs x):=UK JI.out
   have HL:Hid ((gs x).length=6):=rfl
   generalize gs x=l at *
   clear HN
   go_wp2_with fail
   refine(Aw _ 6 _ l _ (by omega) HL hg).mono ?_
   rintro e w1 ⟨rfl,rfl⟩
   generalize (iV l).1=n at *
   cases h:(iV l).2
   ·rw[h]at HV
    clear h
    go_wp2_with fail
    go_ret
    rw[HV.out]; exact⟨rfl,hbel⟩
   ·rw[h]at HV
    clear h
    go_wp2_with fail
    go_ret
    rw[HV.out]; exact⟨rfl,hbel⟩
namespace Rt
def gN(i:Int):Bool:=decide (1<=i)&&decide (i<=6)
def dM(x:Nat->Int)(i:Int):Int:=if gN i&&may x then(localM x (i.toNat-1)).1 else 0
theorem Rw{n:Int}(h:DC n=true):0<=n/\n<=1125899906842624:=by unfold DC at h; simpa using h
theorem FC{l:List Int}(h:(iV l).2=true):iM l=true:=by
 unfold iV at h
 by_cases h2:iM l=true
 ·exact h2
 rw[if_neg h2]at h; exact absurd h (by decide)
theorem qp{l:List Int}(h:iM l=true){n:Int}(hn:n∈l):0<=n/\n<=1125899906842624:=by
 unfold iM at h
 rw[List.all_eq_true]at h
 exact Rw (h n hn)
theorem Cq(x:Nat->Int)(k:Nat) : ∀ j,C x k∈outs x k j
 | 0=>by simp[outs]
 | j+1=>by rw[outs]; exact List.mem_append_left _ (Cq x k j)
theorem zw(x:Nat->Int)(k i:Nat) : ∀ j,i<j->R x k i∈outs x k j
 | 0,h=>absurd h (by omega)
 | j+1,h=>by
   rw[outs]
   by_cases e:i=j
   ·subst e; simp
   ·exact List.mem_append_left _ (zw x k i j (by omega))
theorem wz(x:Nat->Int)(k:Nat) : ∀ j,G x k∈ins x k j/\F x k∈ins x k j
 | 0=>by simp[ins]
 | j+1=>by rw[ins]; exact⟨List.mem_append_left _ (wz x k j).1,List.mem_append_left _ (wz x k j).2⟩
theorem FD(x:Nat->Int)(k:Nat) : ∀ n,vQ x n=true->k<n->uy x k=true
 | 0,_,hk=>absurd hk (by omega)
 | n+1,h,hk=>by
   rw[vQ,Bool.and_eq_true]at h
   by_cases e:k=n
   ·subst e; exact h.2
   ·exact FD x k n h.1 (by omega)
theorem JJ{x:Nat->Int}(h:may x=true)(k:Nat)(hk:k<6):uy x k=true:=by
 unfold may at h; rw[Bool.and_eq_true]at h; exact FD x k 6 h.1 hk
structure vH(x:Nat->Int)(k:Nat):Prop where
 g:0<=G x k/\G x k<=1125899906842624
 c:0<=C x k/\C x k<=1125899906842624
 f:0<=F x k/\F x k<=1125899906842624
 fc:F x k<=C x k
 r : ∀ i,i<6->0<=R x k i/\R x k i<=1125899906842624
 l:0<=(localM x k).1
 rkk:R x k k=0
 l2:(localM x k).2=true
theorem ML{x:Nat->Int}{k:Nat}(h:uy x k=true):vH x k:=by
 unfold uy at h
 rw[Bool.and_eq_true,Bool.and_eq_true,Bool.and_eq_true]at h
 obtain⟨⟨⟨h1,h2⟩,h3⟩,h4⟩:=h
 have h1':=h1
 unfold localM at h1
 rw[Bool.and_eq_true]at h1
 have ho:=FC h1.1
 have hi:=FC h1.2
 exact⟨qp hi (wz x k 6).1,qp ho (Cq x k 6),qp hi (wz x k 6).2,by simpa using h3,fun i hi'=>qp ho (zw x k i 6 hi'),by simpa using h2,by simpa using h4,h1'⟩
theorem nS{x:Nat->Int}(h:may x=true)(k:Nat)(hk:k<6):vH x k:=ML (JJ h k hk)
theorem G9(x:Nat->Int)(k:Nat) : -(1125899906842624*8)<=(localM x k).1/\(localM x k).1<=1125899906842624*8:=by
 have a:=nM (ins x k 6)
 have b:=nM (outs x k 6)
 rw[Jf]at a
 rw[GR]at b
 unfold localM
 simp only
 omega
end Rt
set_option maxHeartbeats 400000 in
theorem kW(i:Int)(w:World)(hi : -9223372036854775808<=i/\i<=9223372036854775807) :
 Calls Tryd.prog 47 #[.int .i64 i] w fun e w'=>e = .returned (.bool (gN i))/\w'=w:=by
 unfold gN
 by_cases h1:i<1
 ·have d1:decide (1<=i)=false:=by simp; omega
  have D1:Hid _:=d1
  go_enter Tryd.func47,Tryd.ntmps47
  go_wp2
  go_ret
  first|exact⟨rfl,rfl⟩|(rw[D1.out]; exact⟨rfl,rfl⟩)
 have d1:decide (1<=i)=true:=by simp; omega
 have D1:Hid _:=d1
 go_enter Tryd.func47,Tryd.ntmps47
 go_wp2
 go_ret
 first|exact⟨rfl,rfl⟩|(rw[D1.out]; exact⟨rfl,rfl⟩)
theorem fB:(Tryd.prog.info? 82).map (·.size)=some 54:=by kernel_rfl
set_option maxRecDepth 100000 in
set_option maxHeartbeats 400000 in
theorem nT(x:Nat->Int)(i:Int)(w:World)(hi : -9223372036854775808<=i/\i<=9223372036854775807) :
 Calls Tryd.prog 30 #[.agg (aF .i64 54 x),.int .i64 i] w fun e w'=>e = .returned (.int .i64 (dM x i))/\Below w.heap.size w w':=by
 have HV:Hid (dM x i=if gN i&&may x then(localM x (i.toNat-1)).1 else 0):=rfl
 have hrow:Hid ((w.alloc (.cells (aF .i64 54 x) 82)).heap[w.heap.size]? = some (.cells (aF .i64 54 x) 82 (0,0))):=heap_alloc_new w _
 have HR:Hid ((gN i=true<->1<=i/\i<=6)):=by unfold Hid gN; simp
 have JK:Hid (∀ w',Calls Tryd.prog 47 #[.int .i64 i] w' fun e w''=>e = .returned (.bool (gN i))/\w''=w'):=fun w'=>kW i w' hi
 have hmay:Hid (∀ w',Calls Tryd.prog 48 #[.agg (aF .i64 54 x)] w' fun e w''=>e = .returned (.bool (may x))/\Below w'.heap.size w' w''):=fun w'=>lN x w'
 generalize gN i=r at *
 cases r
 ·go_enter Tryd.func30,Tryd.ntmps30
  go_wp2_with (go_at_call 47; refine(JK.out _).mono ?_; rintro e w' ⟨rfl,rfl⟩)
  go_ret
  rw[HV.out]; exact⟨rfl,(Below.refl _ _).alloc (Nat.le_refl _) _⟩
 have hb:1<=i/\i<=6:=HR.out.1 rfl
 obtain⟨k,hk⟩:=Int.eq_ofNat_of_zero_le (show 0<=i-1 by omega)
 have Hk:Hid (i-1=(k:Int)):=hk
 have Tz:k<6:=by omega
 have hkt:Hid (i.toNat-1=k):=by unfold Hid; omega
 clear hk
 generalize may x=m at *
 cases m
 ·go_enter Tryd.func30,Tryd.ntmps30
  go_wp2_with (first
   | (go_at_call 47; refine(JK.out _).mono ?_; rintro e w' ⟨rfl,rfl⟩)
   | (refine qI (by rfl) (wp_load_row (o:=⟨some 11,_,_,_,_,_⟩) 82 (.tmp 2) (by rfl) w.heap.size (by rfl) 82 (aF .i64 54 x) (0,0) _ hrow.out Tryd.underlying82 (by rfl) (by rw[aM]; exact fB) ?_))
   | (go_at_call 48; refine(hmay.out _).mono ?_; rintro e w1 ⟨rfl,hb1⟩))
  go_ret
  rw[HV.out]; exact⟨rfl,bal hb1⟩
 go_enter Tryd.func30,Tryd.ntmps30
 go_wp2_with (first
  | (go_at_call 47; refine(JK.out _).mono ?_; rintro e w' ⟨rfl,rfl⟩)
  | (refine qI (by rfl) (wp_load_row (o:=⟨some 11,_,_,_,_,_⟩) 82 (.tmp 2) (by rfl) w.heap.size (by rfl) 82 (aF .i64 54 x) (0,0) _ hrow.out Tryd.underlying82 (by rfl) (by rw[aM]; exact fB) ?_))
  | (go_at_call 48; refine(hmay.out _).mono ?_; rintro e w1 ⟨rfl,hb1⟩)
  | (go_at_call 49; rw[Hk.out]; refine(zu w.heap.size 82 (0,0) x k w1 Tz ((hb1.block _ (by simp)).trans hrow.out)).mono ?_; rintro e w2 ⟨rfl,hb2⟩))
 go_ret
 rw[HV.out,hkt.out]; exact⟨rfl,yS (bal hb1) hb2⟩
namespace Rt
def zero:Nat->Int:=fun _=>0
def bJ(x:Nat->Int)(n:Int)(is:Bool)(em:Int)(off:Nat):(Nat->Int) × Int :=
 if may x&&decide (1<=n)&&decide (n<=1125899906842624)then
  if is then
   if em=0 then
    if x off+n<=1125899906842624 then(upd x off (x off+n),0)else(zero,6)
   else(zero,em)
  else(zero,10)
 else(zero,1)
end Rt
theorem jQ(T:TypeId)(fz:Nat × Nat):Obj.cells (aF .i64 54 zero) T fz = .cells #[.int .i64 0,.int .i64 0,.int .i64 0,.int .i64 0,.int .i64 0,.int .i64 0,.int .i64 0,.int .i64 0,.int .i64 0,.int .i64 0,.int .i64 0,.int .i64 0,.int .i64 0,.int .i64 0,.int .i64 0,.int .i64 0,.int .i64 0,.int .i64 0,.int .i64 0,.int .i64 0,.int .i64 0,.int .i64 0,.int .i64 0,.int .i64 0,.int .i64 0,.int .i64 0,.int .i64 0,.int .i64 0,.int .i64 0,.int .i64 0,.int .i64 0,.int .i64 0,.int .i64 0,.int .i64 0,.int .i64 0,.int .i64 0,.int .i64 0,.int .i64 0,.int .i64 0,.int .i64 0,.int .i64 0,.int .i64 0,.int .i64 0,.int .i64 0,.int .i64 0,.int .i64 0,.int .i64 0,.int .i64 0,.int .i64 0,.int .i64 0,.int .i64 0,.int .i64 0,.int .i64 0,.int .i64 0] T fz:=by rfl
theorem results_cell_tmp{P:Program}{fn:Func}{p q:Tmp}{ty:TypeId}(h:fn.results = #[.cell p ty,.tmp q])(tmps:Array Value)(w:World)(g:Nat)(t:TypeId)(cs:Array Value)(fr:Nat × Nat)(d:TypeDesc)
 (hp:tmps.getD p undef = .pointer (some ⟨g,0,none⟩)) (hg:w.heap[g]? = some (.cells cs t fr))
 (hu:P.underlying ty=some d) (hd:(match d with | .struct _ | .array _ _=>true|_=>false)=true) (hi:(P.info? ty).map (·.size)=some cs.size) :
 (results fn tmps).run P w = .ok (.tuple #[.agg cs,tmps.getD q undef]) w:=by
 have hp':tmps[p]?.getD undef = .pointer (some ⟨g,0,none⟩):=by simpa using hp
 simp[results,h,hp',asAddr,run_loadVar_row w g t ty cs fr d hg hu hd hi]
def gF(x:Nat->Int)(n:Int)(is:Bool)(em:Int)(off:Nat)(w:World)(e:Ending)(w':World):Prop :=
 e = .returned (.tuple #[.agg (aF .i64 54 (bJ x n is em off).1),.int .i64 (bJ x n is em off).2])/\Below w.heap.size w w'
theorem fu{w w1:World}{B g:Nat}{old:Array Value}(hb:Below B w w1)(hB:B<=g)(hz:w1.heap[g]? = some (.cells old 82 (0,0)))(y:Nat->Int) :
 (w1.setRow g (aF .i64 54 y)).heap[g]? = some (.cells (aF .i64 54 y) 82 (0,0))/\Below B w (w1.setRow g (aF .i64 54 y)) :=
 ⟨setRow_heap _ _ _ _ _ _ hz,WL hb hB⟩
theorem iW{x:Nat->Int}{n:Int}{is:Bool}{em:Int}{off:Nat}{w w1:World}{a:Act}{g:Nat}{y:Nat->Int}{k:Int}(hT:bJ x n is em off=(y,k))(hd:a.defers = [])
 (hp:a.tmps.getD 10 undef = .pointer (some ⟨g,0,none⟩)) (hq:a.tmps.getD 11 undef = .int .i64 k) (hg:w1.heap[g]? = some (.cells (aF .i64 54 y) 82 (0,0))) (hb:Below w.heap.size w w1) :
 bodyPost Tryd.prog Tryd.f171 (gF x n is em off w) .ret a w1:=by
 refine bodyPost_ret (v := .tuple #[.agg (aF .i64 54 y),.int .i64 k]) ?_ hd ⟨?_,hb⟩
 ·rw[results_cell_tmp rfl a.tmps w1 g 82 _ (0,0) _ hp hg Tryd.underlying82 rfl (by rw[aM]; exact fB),hq]
 rw[hT]
set_option maxRecDepth 100000 in
set_option maxHeartbeats 2000000 in
theorem Ec(x:Nat->Int)(n:Int)(is:Bool)(fm fn:FuncId)(cm cn:Array Value)(em:Int)(off:Nat)(w:World)(h:may x=false) :
 Calls Tryd.prog 171 #[.agg (aF .i64 54 x),.int .i64 n,.bool is,.func (.func fm) #[] cm,.func (.func fn) #[] cn] w (gF x n is em off w):=by
 have hT:Hid (bJ x n is em off=(zero,1)):=by unfold Hid bJ; rw[h]; rfl
 have hmay:Hid (∀ w',Calls Tryd.prog 48 #[.agg (aF .i64 54 x)] w' fun e w''=>e = .returned (.bool (may x))/\Below w'.heap.size w' w''):=fun w'=>lN x w'
 go_enter Tryd.func171,Tryd.ntmps171
 go_upto_region 1 with (fail)
 rw[<- jQ]
 have hx0:Hid (((w.alloc (.cells (aF .i64 54 x) 82)).alloc (.cells (aF .i64 54 zero) 82)).heap[w.heap.size]? = some (.cells (aF .i64 54 x) 82 (0,0))):=heap_alloc2_old w _ _
 have hz0:Hid (((w.alloc (.cells (aF .i64 54 x) 82)).alloc (.cells (aF .i64 54 zero) 82)).heap[w.heap.size+1]? = some (.cells (aF .i64 54 zero) 82 (0,0))):=heap_alloc2_new w _ _
 have hb0:Below w.heap.size w ((w.alloc (.cells (aF .i64 54 x) 82)).alloc (.cells (aF .i64 54 zero) 82)):=((Below.refl _ _).alloc (Nat.le_refl _) _).alloc (by simp) _
 have hs0:w.heap.size+1<((w.alloc (.cells (aF .i64 54 x) 82)).alloc (.cells (aF .i64 54 zero) 82)).heap.size:=by simp
 generalize (w.alloc (.cells (aF .i64 54 x) 82)).alloc (.cells (aF .i64 54 zero) 82)=W at *
 rw[h]at hmay
 go_wp2_with (first
  | (refine wpList_load_row (o:=⟨some 15,_,_,_,_,_⟩) (by rfl) 82 (.tmp 5) (by rfl) w.heap.size (by rfl) 82 (aF .i64 54 x) (0,0) _ hx0.out Tryd.underlying82 (by rfl) (by rw[aM]; exact fB) ?_)
  | (go_at_call 48; refine(hmay.out _).mono ?_; rintro e w1 ⟨rfl,hb1⟩; have hz1:Hid _:=(hb1.block (w.heap.size+1) hs0).trans hz0.out; have hx1:Hid _:=(hb1.block w.heap.size (by omega)).trans hx0.out; have hB1:=hb0.trans (hb1.mono hb0.size); have hs1:=Nat.lt_of_lt_of_le hs0 hb1.size)
  | (refine wpList_store_row (o:=⟨none,.store 82 (.tmp 10) (.tmp 22),_,_,_,_⟩) (by rfl) 82 (.tmp 10) (.tmp 22) (by rfl) (w.heap.size+1) (aF .i64 54 zero) (by rfl) (by rfl) 82 (aF .i64 54 zero) hz1.out (by rw[aM]; exact fB) (by rw[aM]) (iw _ _ _) ?_))
 have hend:=fu hB1 (by omega) hz1.out zero
 exact iW hT.out rfl rfl rfl hend.1 hend.2
set_option maxRecDepth 100000 in
set_option maxHeartbeats 2000000 in
theorem Ed(x:Nat->Int)(n:Int)(is:Bool)(fm fn:FuncId)(cm cn:Array Value)(em:Int)(off:Nat)(w:World)(h:may x=true)(hn1:n<1) :
 Calls Tryd.prog 171 #[.agg (aF .i64 54 x),.int .i64 n,.bool is,.func (.func fm) #[] cm,.func (.func fn) #[] cn] w (gF x n is em off w):=by
 have hT:Hid (bJ x n is em off=(zero,1)):=by unfold Hid bJ; rw[h,decide_eq_false (show ¬ 1<=n by omega)]; rfl
 have hmay:Hid (∀ w',Calls Tryd.prog 48 #[.agg (aF .i64 54 x)] w' fun e w''=>e = .returned (.bool (may x))/\Below w'.heap.size w' w''):=fun w'=>lN x w'
 go_enter Tryd.func171,Tryd.ntmps171
 go_upto_region 1 with (fail)
 rw[<- jQ]
 have hx0:Hid (((w.alloc (.cells (aF .i64 54 x) 82)).alloc (.cells (aF .i64 54 zero) 82)).heap[w.heap.size]? = some (.cells (aF .i64 54 x) 82 (0,0))):=heap_alloc2_old w _ _
 have hz0:Hid (((w.alloc (.cells (aF .i64 54 x) 82)).alloc (.cells (aF .i64 54 zero) 82)).heap[w.heap.size+1]? = some (.cells (aF .i64 54 zero) 82 (0,0))):=heap_alloc2_new w _ _
 have hb0:Below w.heap.size w ((w.alloc (.cells (aF .i64 54 x) 82)).alloc (.cells (aF .i64 54 zero) 82)):=((Below.refl _ _).alloc (Nat.le_refl _) _).alloc (by simp) _
 have hs0:w.heap.size+1<((w.alloc (.cells (aF .i64 54 x) 82)).alloc (.cells (aF .i64 54 zero) 82)).heap.size:=by simp
 generalize (w.alloc (.cells (aF .i64 54 x) 82)).alloc (.cells (aF .i64 54 zero) 82)=W at *
 rw[h]at hmay
 go_wp2_with (first
  | (refine wpList_load_row (o:=⟨some 15,_,_,_,_,_⟩) (by rfl) 82 (.tmp 5) (by rfl) w.heap.size (by rfl) 82 (aF .i64 54 x) (0,0) _ hx0.out Tryd.underlying82 (by rfl) (by rw[aM]; exact fB) ?_)
  | (go_at_call 48; refine(hmay.out _).mono ?_; rintro e w1 ⟨rfl,hb1⟩; have hz1:Hid _:=(hb1.block (w.heap.size+1) hs0).trans hz0.out; have hx1:Hid _:=(hb1.block w.heap.size (by omega)).trans hx0.out; have hB1:=hb0.trans (hb1.mono hb0.size); have hs1:=Nat.lt_of_lt_of_le hs0 hb1.size)
  | (refine wpList_store_row (o:=⟨none,.store 82 (.tmp 10) (.tmp 22),_,_,_,_⟩) (by rfl) 82 (.tmp 10) (.tmp 22) (by rfl) (w.heap.size+1) (aF .i64 54 zero) (by rfl) (by rfl) 82 (aF .i64 54 zero) hz1.out (by rw[aM]; exact fB) (by rw[aM]) (iw _ _ _) ?_))
 have hend:=fu hB1 (by omega) hz1.out zero
 exact iW hT.out rfl rfl rfl hend.1 hend.2
set_option maxRecDepth 100000 in
set_option maxHeartbeats 2000000 in
theorem Ee(x:Nat->Int)(n:Int)(is:Bool)(fm fn:FuncId)(cm cn:Array Value)(em:Int)(off:Nat)(w:World)(h:may x=true)(hn1:1125899906842624<n) :
 Calls Tryd.prog 171 #[.agg (aF .i64 54 x),.int .i64 n,.bool is,.func (.func fm) #[] cm,.func (.func fn) #[] cn] w (gF x n is em off w):=by
 have hT:Hid (bJ x n is em off=(zero,1)):=by unfold Hid bJ; rw[decide_eq_false (show ¬ n<=1125899906842624 by omega),Bool.and_false]; rfl
 have hmay:Hid (∀ w',Calls Tryd.prog 48 #[.agg (aF .i64 54 x)] w' fun e w''=>e = .returned (.bool (may x))/\Below w'.heap.size w' w''):=fun w'=>lN x w'
 go_enter Tryd.func171,Tryd.ntmps171
 go_upto_region 1 with (fail)
 rw[<- jQ]
 have hx0:Hid (((w.alloc (.cells (aF .i64 54 x) 82)).alloc (.cells (aF .i64 54 zero) 82)).heap[w.heap.size]? = some (.cells (aF .i64 54 x) 82 (0,0))):=heap_alloc2_old w _ _
 have hz0:Hid (((w.alloc (.cells (aF .i64 54 x) 82)).alloc (.cells (aF .i64 54 zero) 82)).heap[w.heap.size+1]? = some (.cells (aF .i64 54 zero) 82 (0,0))):=heap_alloc2_new w _ _
 have hb0:Below w.heap.size w ((w.alloc (.cells (aF .i64 54 x) 82)).alloc (.cells (aF .i64 54 zero) 82)):=((Below.refl _ _).alloc (Nat.le_refl _) _).alloc (by simp) _
 have hs0:w.heap.size+1<((w.alloc (.cells (aF .i64 54 x) 82)).alloc (.cells (aF .i64 54 zero) 82)).heap.size:=by simp
 generalize (w.alloc (.cells (aF .i64 54 x) 82)).alloc (.cells (aF .i64 54 zero) 82)=W at *
 rw[h]at hmay
 go_wp2_with (first
  | (refine wpList_load_row (o:=⟨some 15,_,_,_,_,_⟩) (by rfl) 82 (.tmp 5) (by rfl) w.heap.size (by rfl) 82 (aF .i64 54 x) (0,0) _ hx0.out Tryd.underlying82 (by rfl) (by rw[aM]; exact fB) ?_)
  | (go_at_call 48; refine(hmay.out _).mono ?_; rintro e w1 ⟨rfl,hb1⟩; have hz1:Hid _:=(hb1.block (w.heap.size+1) hs0).trans hz0.out; have hx1:Hid _:=(hb1.block w.heap.size (by omega)).trans hx0.out; have hB1:=hb0.trans (hb1.mono hb0.size); have hs1:=Nat.lt_of_lt_of_le hs0 hb1.size)
  | (refine wpList_store_row (o:=⟨none,.store 82 (.tmp 10) (.tmp 22),_,_,_,_⟩) (by rfl) 82 (.tmp 10) (.tmp 22) (by rfl) (w.heap.size+1) (aF .i64 54 zero) (by rfl) (by rfl) 82 (aF .i64 54 zero) hz1.out (by rw[aM]; exact fB) (by rw[aM]) (iw _ _ _) ?_))
 have hend:=fu hB1 (by omega) hz1.out zero
 exact iW hT.out rfl rfl rfl hend.1 hend.2
set_option maxRecDepth 100000 in
set_option maxHeartbeats 2000000 in
theorem Ef(x:Nat->Int)(n:Int)(fm fn:FuncId)(cm cn:Array Value)(em:Int)(off:Nat)(w:World)(h:may x=true)(hn1:1<=n)(hn2:n<=1125899906842624) :
 Calls Tryd.prog 171 #[.agg (aF .i64 54 x),.int .i64 n,.bool false,.func (.func fm) #[] cm,.func (.func fn) #[] cn] w (gF x n false em off w):=by
 have hT:Hid (bJ x n false em off=(zero,10)):=by unfold Hid bJ; rw[h,decide_eq_true hn1,decide_eq_true hn2]; simp only[Bool.and_self,if_true]; rfl
 have hmay:Hid (∀ w',Calls Tryd.prog 48 #[.agg (aF .i64 54 x)] w' fun e w''=>e = .returned (.bool (may x))/\Below w'.heap.size w' w''):=fun w'=>lN x w'
 go_enter Tryd.func171,Tryd.ntmps171
 go_upto_region 1 with (fail)
 rw[<- jQ]
 have hx0:Hid (((w.alloc (.cells (aF .i64 54 x) 82)).alloc (.cells (aF .i64 54 zero) 82)).heap[w.heap.size]? = some (.cells (aF .i64 54 x) 82 (0,0))):=heap_alloc2_old w _ _
 have hz0:Hid (((w.alloc (.cells (aF .i64 54 x) 82)).alloc (.cells (aF .i64 54 zero) 82)).heap[w.heap.size+1]? = some (.cells (aF .i64 54 zero) 82 (0,0))):=heap_alloc2_new w _ _
 have hb0:Below w.heap.size w ((w.alloc (.cells (aF .i64 54 x) 82)).alloc (.cells (aF .i64 54 zero) 82)):=((Below.refl _ _).alloc (Nat.le_refl _) _).alloc (by simp) _
 have hs0:w.heap.size+1<((w.alloc (.cells (aF .i64 54 x) 82)).alloc (.cells (aF .i64 54 zero) 82)).heap.size:=by simp
 generalize (w.alloc (.cells (aF .i64 54 x) 82)).alloc (.cells (aF .i64 54 zero) 82)=W at *
 rw[h]at hmay
 go_wp2_with (first
  | (refine wpList_load_row (o:=⟨some 15,_,_,_,_,_⟩) (by rfl) 82 (.tmp 5) (by rfl) w.heap.size (by rfl) 82 (aF .i64 54 x) (0,0) _ hx0.out Tryd.underlying82 (by rfl) (by rw[aM]; exact fB) ?_)
  | (go_at_call 48; refine(hmay.out _).mono ?_; rintro e w1 ⟨rfl,hb1⟩; have hz1:Hid _:=(hb1.block (w.heap.size+1) hs0).trans hz0.out; have hx1:Hid _:=(hb1.block w.heap.size (by omega)).trans hx0.out; have hB1:=hb0.trans (hb1.mono hb0.size); have hs1:=Nat.lt_of_lt_of_le hs0 hb1.size)
  | (refine wpList_store_row (o:=⟨none,.store 82 (.tmp 10) (.tmp 26),_,_,_,_⟩) (by rfl) 82 (.tmp 10) (.tmp 26) (by rfl) (w.heap.size+1) (aF .i64 54 zero) (by rfl) (by rfl) 82 (aF .i64 54 zero) hz1.out (by rw[aM]; exact fB) (by rw[aM]) (iw _ _ _) ?_))
 have hend:=fu hB1 (by omega) hz1.out zero
 exact iW hT.out rfl rfl rfl hend.1 hend.2
set_option maxRecDepth 100000 in
set_option maxHeartbeats 2000000 in
theorem Eh(x:Nat->Int)(n:Int)(fm fn:FuncId)(cm cn:Array Value)(em:Int)(off:Nat)(w:World)(h:may x=true)(hn1:1<=n)(hn2:n<=1125899906842624)(hem:em≠0)(hcm : ∀(args:Array Value) (w:World),(callFunc fm args).run Tryd.prog w = .ok (.enter fm args) w)(hm:Hid (∀ w',Below w.heap.size w w'->Calls Tryd.prog fm cm w' fun e w''=>e = .returned (.int .i64 em)/\Below w'.heap.size w' w'')) :
 Calls Tryd.prog 171 #[.agg (aF .i64 54 x),.int .i64 n,.bool true,.func (.func fm) #[] cm,.func (.func fn) #[] cn] w (gF x n true em off w):=by
 have hT:Hid (bJ x n true em off=(zero,em)):=by unfold Hid bJ; rw[h,decide_eq_true hn1,decide_eq_true hn2]; simp only[Bool.and_self,if_true]; rw[if_neg hem]
 have aes:(em != 0)=true:=by simpa using hem
 have hmay:Hid (∀ w',Calls Tryd.prog 48 #[.agg (aF .i64 54 x)] w' fun e w''=>e = .returned (.bool (may x))/\Below w'.heap.size w' w''):=fun w'=>lN x w'
 go_enter Tryd.func171,Tryd.ntmps171
 go_upto_region 1 with (fail)
 rw[<- jQ]
 have hx0:Hid (((w.alloc (.cells (aF .i64 54 x) 82)).alloc (.cells (aF .i64 54 zero) 82)).heap[w.heap.size]? = some (.cells (aF .i64 54 x) 82 (0,0))):=heap_alloc2_old w _ _
 have hz0:Hid (((w.alloc (.cells (aF .i64 54 x) 82)).alloc (.cells (aF .i64 54 zero) 82)).heap[w.heap.size+1]? = some (.cells (aF .i64 54 zero) 82 (0,0))):=heap_alloc2_new w _ _
 have hb0:Below w.heap.size w ((w.alloc (.cells (aF .i64 54 x) 82)).alloc (.cells (aF .i64 54 zero) 82)):=((Below.refl _ _).alloc (Nat.le_refl _) _).alloc (by simp) _
 have hs0:w.heap.size+1<((w.alloc (.cells (aF .i64 54 x) 82)).alloc (.cells (aF .i64 54 zero) 82)).heap.size:=by simp
 generalize (w.alloc (.cells (aF .i64 54 x) 82)).alloc (.cells (aF .i64 54 zero) 82)=W at *
 rw[h]at hmay
 go_wp2_with (first
  | (refine wpList_load_row (o:=⟨some 15,_,_,_,_,_⟩) (by rfl) 82 (.tmp 5) (by rfl) w.heap.size (by rfl) 82 (aF .i64 54 x) (0,0) _ hx0.out Tryd.underlying82 (by rfl) (by rw[aM]; exact fB) ?_)
  | (go_at_call 48; refine(hmay.out _).mono ?_; rintro e w1 ⟨rfl,hb1⟩; have hz1:Hid _:=(hb1.block (w.heap.size+1) hs0).trans hz0.out; have hx1:Hid _:=(hb1.block w.heap.size (by omega)).trans hx0.out; have hB1:=hb0.trans (hb1.mono hb0.size); have hs1:=Nat.lt_of_lt_of_le hs0 hb1.size)
  | (refine(hm.out _ hB1).mono ?_; rintro e w2 ⟨rfl,hb2⟩; have hz2:Hid _:=(hb2.block (w.heap.size+1) hs1).trans hz1.out; have hx2:Hid _:=(hb2.block w.heap.size (by omega)).trans hx1.out; have hB2:=hB1.trans (hb2.mono hB1.size); have hs2:=Nat.lt_of_lt_of_le hs1 hb2.size)
  | (refine wpList_store_row (o:=⟨none,.store 82 (.tmp 10) (.tmp 31),_,_,_,_⟩) (by rfl) 82 (.tmp 10) (.tmp 31) (by rfl) (w.heap.size+1) (aF .i64 54 zero) (by rfl) (by rfl) 82 (aF .i64 54 zero) hz2.out (by rw[aM]; exact fB) (by rw[aM]) (iw _ _ _) ?_))
 have hend:=fu hB2 (by omega) hz2.out zero
 exact iW hT.out rfl rfl rfl hend.1 hend.2
set_option maxRecDepth 100000 in
set_option maxHeartbeats 2000000 in
theorem Ei(x:Nat->Int)(n:Int)(fm fn:FuncId)(cm cn:Array Value)(em:Int)(off:Nat)(w:World)(h:may x=true)(hn1:1<=n)(hn2:n<=1125899906842624)(UM:em=0)(hoff:off<54)(v:Int)(hv:x off=v)(hv2:0<=v/\v<=1125899906842624)(hs:1125899906842624<v+n)(hcm : ∀(args:Array Value) (w:World),(callFunc fm args).run Tryd.prog w = .ok (.enter fm args) w)(hm:Hid (∀ w',Below w.heap.size w w'->Calls Tryd.prog fm cm w' fun e w''=>e = .returned (.int .i64 em)/\Below w'.heap.size w' w''))(hcn : ∀(args:Array Value) (w:World),(callFunc fn args).run Tryd.prog w = .ok (.enter fn args) w)(hn:Hid (∀ w' g,Below w.heap.size w w'->Calls Tryd.prog fn (#[.pointer (some ⟨g,0,none⟩)]++cn) w' fun e w''=>e = .returned (.pointer (some ⟨g,off,none⟩))/\Below w'.heap.size w' w'')) :
 Calls Tryd.prog 171 #[.agg (aF .i64 54 x),.int .i64 n,.bool true,.func (.func fm) #[] cm,.func (.func fn) #[] cn] w (gF x n true em off w):=by
 have hT:Hid (bJ x n true em off=(zero,6)):=by unfold Hid bJ; rw[h,decide_eq_true hn1,decide_eq_true hn2]; simp only[Bool.and_self,if_true]; rw[if_pos UM,hv,if_neg (by omega)]
 subst UM
 have hmay:Hid (∀ w',Calls Tryd.prog 48 #[.agg (aF .i64 54 x)] w' fun e w''=>e = .returned (.bool (may x))/\Below w'.heap.size w' w''):=fun w'=>lN x w'
 go_enter Tryd.func171,Tryd.ntmps171
 go_upto_region 1 with (fail)
 rw[<- jQ]
 have hx0:Hid (((w.alloc (.cells (aF .i64 54 x) 82)).alloc (.cells (aF .i64 54 zero) 82)).heap[w.heap.size]? = some (.cells (aF .i64 54 x) 82 (0,0))):=heap_alloc2_old w _ _
 have hz0:Hid (((w.alloc (.cells (aF .i64 54 x) 82)).alloc (.cells (aF .i64 54 zero) 82)).heap[w.heap.size+1]? = some (.cells (aF .i64 54 zero) 82 (0,0))):=heap_alloc2_new w _ _
 have hb0:Below w.heap.size w ((w.alloc (.cells (aF .i64 54 x) 82)).alloc (.cells (aF .i64 54 zero) 82)):=((Below.refl _ _).alloc (Nat.le_refl _) _).alloc (by simp) _
 have hs0:w.heap.size+1<((w.alloc (.cells (aF .i64 54 x) 82)).alloc (.cells (aF .i64 54 zero) 82)).heap.size:=by simp
 generalize (w.alloc (.cells (aF .i64 54 x) 82)).alloc (.cells (aF .i64 54 zero) 82)=W at *
 rw[h]at hmay
 go_wp2_with (first
  | (refine wpList_load_row (o:=⟨some 15,_,_,_,_,_⟩) (by rfl) 82 (.tmp 5) (by rfl) w.heap.size (by rfl) 82 (aF .i64 54 x) (0,0) _ hx0.out Tryd.underlying82 (by rfl) (by rw[aM]; exact fB) ?_)
  | (go_at_call 48; refine(hmay.out _).mono ?_; rintro e w1 ⟨rfl,hb1⟩; have hz1:Hid _:=(hb1.block (w.heap.size+1) hs0).trans hz0.out; have hx1:Hid _:=(hb1.block w.heap.size (by omega)).trans hx0.out; have hB1:=hb0.trans (hb1.mono hb0.size); have hs1:=Nat.lt_of_lt_of_le hs0 hb1.size)
  | (refine(hm.out _ hB1).mono ?_; rintro e w2 ⟨rfl,hb2⟩; have hz2:Hid _:=(hb2.block (w.heap.size+1) hs1).trans hz1.out; have hx2:Hid _:=(hb2.block w.heap.size (by omega)).trans hx1.out; have hB2:=hB1.trans (hb2.mono hB1.size); have hs2:=Nat.lt_of_lt_of_le hs1 hb2.size)
  | (refine(hn.out _ _ hB2).mono ?_; rintro e w3 ⟨rfl,hb3⟩; have hz3:Hid _:=(hb3.block (w.heap.size+1) hs2).trans hz2.out; have hx3:=(hb3.block w.heap.size (by omega)).trans hx2.out; have hB3:=hB2.trans (hb3.mono hB2.size); have hs3:=Nat.lt_of_lt_of_le hs2 hb3.size; have hc3:=dP hx3 off hoff; have hf3:=frozen_of_row w3 w.heap.size off _ _ hx3; have OW:Hid ((w3.setCell ⟨w.heap.size,off,none⟩ (.int .i64 (v+n))).heap[w.heap.size+1]? = some (.cells (aF .i64 54 zero) 82 (0,0))):=(heap_setCell_other _ _ _ _ (by simp)).trans hz3.out; have hx4:Hid ((w3.setCell ⟨w.heap.size,off,none⟩ (.int .i64 (v+n))).heap[w.heap.size]? = some (.cells (aF .i64 54 (upd x off (v+n))) 82 (0,0))):=by { unfold Hid; rw[heap_setCell_same _ _ _ _ _ _ hx3,wN] }; have hB4:Below w.heap.size w (w3.setCell ⟨w.heap.size,off,none⟩ (.int .i64 (v+n))):=hB3.setCell (Nat.le_refl _) _; clear hx3; rw[hv]at hc3)
  | (refine wpList_store_row (o:=⟨none,.store 82 (.tmp 10) (.tmp 45),_,_,_,_⟩) (by rfl) 82 (.tmp 10) (.tmp 45) (by rfl) (w.heap.size+1) (aF .i64 54 zero) (by rfl) (by rfl) 82 (aF .i64 54 zero) OW.out (by rw[aM]; exact fB) (by rw[aM]) (iw _ _ _) ?_))
 have hend:=fu hB4 (by omega) OW.out zero
 exact iW hT.out rfl rfl rfl hend.1 hend.2
set_option maxRecDepth 100000 in
set_option maxHeartbeats 2000000 in
theorem Ej(x:Nat->Int)(n:Int)(fm fn:FuncId)(cm cn:Array Value)(em:Int)(off:Nat)(w:World)(h:may x=true)(hn1:1<=n)(hn2:n<=1125899906842624)(UM:em=0)(hoff:off<54)(v:Int)(hv:x off=v)(hv2:0<=v/\v<=1125899906842624)(hs:v+n<=1125899906842624)(hcm : ∀(args:Array Value) (w:World),(callFunc fm args).run Tryd.prog w = .ok (.enter fm args) w)(hm:Hid (∀ w',Below w.heap.size w w'->Calls Tryd.prog fm cm w' fun e w''=>e = .returned (.int .i64 em)/\Below w'.heap.size w' w''))(hcn : ∀(args:Array Value) (w:World),(callFunc fn args).run Tryd.prog w = .ok (.enter fn args) w)(hn:Hid (∀ w' g,Below w.heap.size w w'->Calls Tryd.prog fn (#[.pointer (some ⟨g,0,none⟩)]++cn) w' fun e w''=>e = .returned (.pointer (some ⟨g,off,none⟩))/\Below w'.heap.size w' w'')) :
 Calls Tryd.prog 171 #[.agg (aF .i64 54 x),.int .i64 n,.bool true,.func (.func fm) #[] cm,.func (.func fn) #[] cn] w (gF x n true em off w):=by
 have hT:Hid (bJ x n true em off=(upd x off (v+n),0)):=by unfold Hid bJ; rw[h,decide_eq_true hn1,decide_eq_true hn2]; simp only[Bool.and_self,if_true]; rw[if_pos UM,hv,if_pos (by omega)]
 subst UM
 have hmay:Hid (∀ w',Calls Tryd.prog 48 #[.agg (aF .i64 54 x)] w' fun e w''=>e = .returned (.bool (may x))/\Below w'.heap.size w' w''):=fun w'=>lN x w'
 go_enter Tryd.func171,Tryd.ntmps171
 go_upto_region 1 with (fail)
 rw[<- jQ]
 have hx0:Hid (((w.alloc (.cells (aF .i64 54 x) 82)).alloc (.cells (aF .i64 54 zero) 82)).heap[w.heap.size]? = some (.cells (aF .i64 54 x) 82 (0,0))):=heap_alloc2_old w _ _
 have hz0:Hid (((w.alloc (.cells (aF .i64 54 x) 82)).alloc (.cells (aF .i64 54 zero) 82)).heap[w.heap.size+1]? = some (.cells (aF .i64 54 zero) 82 (0,0))):=heap_alloc2_new w _ _
 have hb0:Below w.heap.size w ((w.alloc (.cells (aF .i64 54 x) 82)).alloc (.cells (aF .i64 54 zero) 82)):=((Below.refl _ _).alloc (Nat.le_refl _) _).alloc (by simp) _
 have hs0:w.heap.size+1<((w.alloc (.cells (aF .i64 54 x) 82)).alloc (.cells (aF .i64 54 zero) 82)).heap.size:=by simp
 generalize (w.alloc (.cells (aF .i64 54 x) 82)).alloc (.cells (aF .i64 54 zero) 82)=W at *
 rw[h]at hmay
 go_wp2_with (first
  | (refine wpList_load_row (o:=⟨some 15,_,_,_,_,_⟩) (by rfl) 82 (.tmp 5) (by rfl) w.heap.size (by rfl) 82 (aF .i64 54 x) (0,0) _ hx0.out Tryd.underlying82 (by rfl) (by rw[aM]; exact fB) ?_)
  | (go_at_call 48; refine(hmay.out _).mono ?_; rintro e w1 ⟨rfl,hb1⟩; have hz1:Hid _:=(hb1.block (w.heap.size+1) hs0).trans hz0.out; have hx1:Hid _:=(hb1.block w.heap.size (by omega)).trans hx0.out; have hB1:=hb0.trans (hb1.mono hb0.size); have hs1:=Nat.lt_of_lt_of_le hs0 hb1.size)
  | (refine(hm.out _ hB1).mono ?_; rintro e w2 ⟨rfl,hb2⟩; have hz2:Hid _:=(hb2.block (w.heap.size+1) hs1).trans hz1.out; have hx2:Hid _:=(hb2.block w.heap.size (by omega)).trans hx1.out; have hB2:=hB1.trans (hb2.mono hB1.size); have hs2:=Nat.lt_of_lt_of_le hs1 hb2.size)
  | (refine(hn.out _ _ hB2).mono ?_; rintro e w3 ⟨rfl,hb3⟩; have hz3:Hid _:=(hb3.block (w.heap.size+1) hs2).trans hz2.out; have hx3:=(hb3.block w.heap.size (by omega)).trans hx2.out; have hB3:=hB2.trans (hb3.mono hB2.size); have hs3:=Nat.lt_of_lt_of_le hs2 hb3.size; have hc3:=dP hx3 off hoff; have hf3:=frozen_of_row w3 w.heap.size off _ _ hx3; have OW:Hid ((w3.setCell ⟨w.heap.size,off,none⟩ (.int .i64 (v+n))).heap[w.heap.size+1]? = some (.cells (aF .i64 54 zero) 82 (0,0))):=(heap_setCell_other _ _ _ _ (by simp)).trans hz3.out; have hx4:Hid ((w3.setCell ⟨w.heap.size,off,none⟩ (.int .i64 (v+n))).heap[w.heap.size]? = some (.cells (aF .i64 54 (upd x off (v+n))) 82 (0,0))):=by { unfold Hid; rw[heap_setCell_same _ _ _ _ _ _ hx3,wN] }; have hB4:Below w.heap.size w (w3.setCell ⟨w.heap.size,off,none⟩ (.int .i64 (v+n))):=hB3.setCell (Nat.le_refl _) _; clear hx3; rw[hv]at hc3)
  | (refine wpList_load_row (o:=⟨some 46,_,_,_,_,_⟩) (by rfl) 82 (.tmp 5) (by rfl) w.heap.size (by rfl) 82 (aF .i64 54 (upd x off (v+n))) (0,0) _ hx4.out Tryd.underlying82 (by rfl) (by rw[aM]; exact fB) ?_)
  | (refine wpList_store_row (o:=⟨none,.store 82 (.tmp 10) (.tmp 46),_,_,_,_⟩) (by rfl) 82 (.tmp 10) (.tmp 46) (by rfl) (w.heap.size+1) (aF .i64 54 (upd x off (v+n))) (by rfl) (by rfl) 82 (aF .i64 54 zero) OW.out (by rw[aM]; exact fB) (by rw[aM,aM]) (iw _ _ _) ?_))
 have hend:=fu hB4 (by omega) OW.out (upd x off (v+n))
 exact iW hT.out rfl rfl rfl hend.1 hend.2
theorem nU(x:Nat->Int)(n:Int)(is:Bool)(fm fn:FuncId)(cm cn:Array Value)(em:Int)(off:Nat)(w:World)(hoff:is=true->off<54)(hx:is=true->may x=true->0<=x off/\x off<=1125899906842624)
 (hcm : ∀(args:Array Value) (w:World),(callFunc fm args).run Tryd.prog w = .ok (.enter fm args) w)
 (hcn : ∀(args:Array Value) (w:World),(callFunc fn args).run Tryd.prog w = .ok (.enter fn args) w)
 (hm:may x=true->1<=n->n<=1125899906842624->is=true -> ∀ w',Below w.heap.size w w'->Calls Tryd.prog fm cm w' fun e w''=>e = .returned (.int .i64 em)/\Below w'.heap.size w' w'')
 (hn:is=true -> ∀ w' g,Below w.heap.size w w'->Calls Tryd.prog fn (#[.pointer (some ⟨g,0,none⟩)]++cn) w' fun e w''=>e = .returned (.pointer (some ⟨g,off,none⟩))/\Below w'.heap.size w' w'') :
 Calls Tryd.prog 171 #[.agg (aF .i64 54 x),.int .i64 n,.bool is,.func (.func fm) #[] cm,.func (.func fn) #[] cn] w (gF x n is em off w):=by
 by_cases h:may x=true
 ·by_cases h1:n<1
  ·exact Ed x n is fm fn cm cn em off w h h1
  by_cases h2:1125899906842624<n
  ·exact Ee x n is fm fn cm cn em off w h h2
  cases is
  ·exact Ef x n fm fn cm cn em off w h (by omega) (by omega)
  by_cases h3:em=0
  ·by_cases h4:1125899906842624<x off+n
   ·exact Ei x n fm fn cm cn em off w h (by omega) (by omega) h3 (hoff rfl) _ rfl (hx rfl h) h4 hcm (hm h (by omega) (by omega) rfl) hcn (hn rfl)
   exact Ej x n fm fn cm cn em off w h (by omega) (by omega) h3 (hoff rfl) _ rfl (hx rfl h) (by omega) hcm (hm h (by omega) (by omega) rfl) hcn (hn rfl)
  exact Eh x n fm fn cm cn em off w h (by omega) (by omega) h3 hcm (hm h (by omega) (by omega) rfl)
 exact Ec x n is fm fn cm cn em off w (by simpa using h)
section
namespace Rt
def own(p:Nat):Nat:=if p<6 then p else if p<12 then p-6 else if p<18 then p-12 else(p-18) / 6
end Rt
def JS(w0:World)(g:Nat)(x y:Nat->Int)(w':World):Prop:=w'.heap[g]? = some (.cells (aF .i64 54 x) 82 (0,0))/\w'.heap[g+1]? = some (.cells (aF .i64 54 y) 82 (0,0))/\w'.heap[g+1+1]? = some (.cells (aF .i64 54 zero) 82 (0,0))/\Below g w0 w'
theorem JS.drew{w0 w:World}{g:Nat}{x y:Nat->Int}(h:JS w0 g x y w):JS w0 g x y w.drew:=⟨h.1,h.2.1,h.2.2.1,bN h.2.2.2 1⟩
theorem JS.a{w0 w:World}{g:Nat}{x y:Nat->Int}(h:JS w0 g x y w)(i:Nat)(hi:i<54):w.cell? ⟨g,i,none⟩=some (.int .i64 (x i)):=dP h.1 i hi
theorem JS.b{w0 w:World}{g:Nat}{x y:Nat->Int}(h:JS w0 g x y w)(i:Nat)(hi:i<54):w.cell? ⟨g+1,i,none⟩=some (.int .i64 (y i)):=dP h.2.1 i hi
theorem JS.fr{w0 w:World}{g:Nat}{x y:Nat->Int}(h:JS w0 g x y w)(i:Nat):w.frozen? ⟨g,i,none⟩=false:=frozen_of_row w g i _ _ h.1
theorem JS.set{w0 w:World}{g:Nat}{x y:Nat->Int}(h:JS w0 g x y w)(i:Nat)(v:Int):JS w0 g (upd x i v) y (w.setCell ⟨g,i,none⟩ (.int .i64 v)):=by
 obtain⟨a,b,z,c⟩:=h
 refine⟨?_,?_,?_,?_⟩
 ·rw[heap_setCell_same _ _ _ _ _ _ a,wN]
 ·rw[heap_setCell_other _ _ _ _ (by simp)]; exact b
 ·rw[heap_setCell_other _ _ _ _ (by simp; omega)]; exact z
 exact c.setCell (Nat.le_refl _) _
theorem JS.congr{w0 w:World}{g:Nat}{x y x':Nat->Int}(h:JS w0 g x y w)(hx : ∀ i,i<54->x i=x' i):JS w0 g x' y w:=by
 unfold JS at *; rw[<- DN hx]; exact h
def JSb(w0:World)(g:Nat)(x y:Nat->Int)(b:Bool)(w':World):Prop := ∃ x',JS w0 g x' y w'/\(b=false->x'=x)
theorem JSb.a{w0 w:World}{g:Nat}{x y:Nat->Int}(h:JSb w0 g x y false w)(i:Nat)(hi:i<54):w.cell? ⟨g,i,none⟩=some (.int .i64 (x i)):=by
 obtain⟨x',h,e⟩:=h
 rw[<- e rfl]; exact h.a i hi
attribute [local irreducible] Oper.wp wpList Code.wp
end
section
set_option maxHeartbeats 400000 in
theorem mW(is:Bool)(e:Int)(w:World) :
 Calls Tryd.prog 173 #[.bool is,.int .i64 e] w fun r w'=>r = .returned (.int .i64 (if is then e else 0))/\w'=w:=by
 cases is
 all_goals
  go_enter Tryd.func173,Tryd.ntmps173
  go_wp2
  go_ret
  exact⟨rfl,rfl⟩
def FE(r:(Nat->Int) × Int)(w:World)(e:Ending)(w':World):Prop :=
 e = .returned (.tuple #[.agg (aF .i64 54 r.1),.int .i64 r.2])/\Below w.heap.size w w'
theorem lQ{fn:Func}{p q:Tmp}(hres:fn.results = #[.cell p 82,.tmp q]){w0 w:World}{a:Act}{g:Nat}{r:(Nat->Int) × Int}(hd:a.defers = [])
 (hp:a.tmps.getD p undef = .pointer (some ⟨g,0,none⟩)) (hq:a.tmps.getD q undef = .int .i64 r.2) (hg:w.heap[g]? = some (.cells (aF .i64 54 r.1) 82 (0,0))) (hb:Below w0.heap.size w0 w) :
 bodyPost Tryd.prog fn (FE r w0) .ret a w :=
 bodyPost_ret (by rw[results_cell_tmp hres a.tmps w g 82 _ (0,0) _ hp hg Tryd.underlying82 rfl (by rw[aM]; exact fB),hq]) hd ⟨rfl,hb⟩
def TA(x:Nat->Int)(g:Nat)(i n:Int)(w':World):Prop:=w'.heap[g]? = some (.cells (aF .i64 54 x) 82 (0,0))/\w'.cell? ⟨g+1,0,none⟩=some (.int .i64 i)/\w'.cell? ⟨g+1+1,0,none⟩=some (.int .i64 n)
theorem jl(i:Int):gN i=true<->1<=i/\i<=6:=by unfold gN; simp
attribute [local irreducible] Oper.wp wpList Code.wp
end
end Go.Proofs.YtahbiajdgealnaaDoor
