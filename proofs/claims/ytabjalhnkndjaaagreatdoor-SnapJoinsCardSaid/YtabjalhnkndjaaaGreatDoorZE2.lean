/-
  What the proof of the law rests on, part 2: walks of functions, and plain laws; each says its conditions itself.
-/
import Derived.BigRegion
import Derived.Deep.DeepCutAuto
import Derived.Laws.StructEq
import Derived.Test.YtabjalhnkndjaaaGreatDoorZE1
set_option linter.unusedVariables false
set_option maxHeartbeats 1600000
set_option linter.unusedSimpArgs false
variable{m k b j V:Nat}{X Y Z:Nat->Int}{a d e:Int}{c h:Go.World}{f:Nat->Nat->Int}{p:List (Nat × Nat × List Nat)}{q s:List Int}{x y:Nat->Go.Value}{u:List Nat}{A:Bool}{D:List (Nat × (Nat->Int))}{H:Nat->Bool}{M:Option Go.Addr}{N O:Prop}{o:Nat × Nat}{T:Go.TypeId}{z:Go.Value}
namespace Go.Proofs.YtabjalhnkndjaaaGreatDoor
open Go.Proofs.Tryz
open Fx hiding E9 Fa HY Jf L R start
open Go.RowKit Rt
def Ep(a w:World)(d f:Nat)(b:List Int)(e g:Nat)(c:List Int):Prop :=
 w.ownsRow a.heap.size 2 1 (.slice (some ⟨d,0,none⟩) b.length f) b.length (b.map (Value.int .i64)) /\
 w.ownsRow a.heap.size 2 1 (.slice (some ⟨e,0,none⟩) c.length g) c.length (c.map (Value.int .i64))/\d≠e/\Below a.heap.size a w
theorem Ep.alloc{g w:World}{c a:Nat}{e:List Int}{d b:Nat}{f:List Int}(h:Ep g w c a e d b f)(o:Obj):Ep g (w.alloc o) c a e d b f :=
 ⟨World.ownsRow.alloc h.1 o,World.ownsRow.alloc h.2.1 o,h.2.2.1,h.2.2.2.alloc h.2.2.2.size o⟩
theorem Ep.drew{g w:World}{c a:Nat}{e:List Int}{d b:Nat}{f:List Int}(h:Ep g w c a e d b f):Ep g w.drew c a e d b f :=
 ⟨h.1,h.2.1,h.2.2.1,h.2.2.2.drew⟩
theorem Ep.Qr(g:Ep c h m k q j b s):Ep c h j b s m k q:=⟨g.2.1,g.1,g.2.2.1.symm,g.2.2.2⟩
theorem agO:(prog.info? 2).map (fun i=>(i.zero,i.size,i.bytes))=some (some (.int .i64 0),1,8):=by kernel_rfl
theorem QH{ops:Array Oper}{o:Oper}{a:Act}{K:Act->World->Prop}{Q:Exit->Act->World->Prop}(z:o.guard=none)(s x:Operand)
 (D:o.op = .call { callee := .builtin .append,args := #[s,x],argTypes := #[113,113] }) (j q:Nat) (w:List Int) (l r:Nat) (t:List Int) (p:Ep h c j q w l r t)
 (n:Nat) (C:w.length=n) (F:a.eval s = .slice (some ⟨j,0,none⟩) n q) (i:Nat) (v:Int) (hx:a.eval x = .slice (some ⟨i,0,none⟩) 1 1) (E:c.cell? ⟨i,0,none⟩=some (.int .i64 v)) (O:n<=100)
 (y : ∀ g d w',Ep h w' g d (w ++ [v]) l r t->(∀ a u,c.cell? a=some u->a.block≠j->w'.cell? a=some u)->K (a.put o.dst (.slice (some ⟨g,0,none⟩) (n+1) d)) w') :
 if Region.wanted o (yielded ops a.tmps)=true then Oper.wp prog o a c K Q else N:=by
 obtain⟨J,A,G,H,I⟩:=info_parts agO;subst C
 refine step_append_lies c z s x 113 D h.heap.size 2 J (.int .i64 0) 1 8 underlying113 A G H I rfl (by decide) _ w.length (w.map (Value.int .i64)) F p.1 ⟨i,0,none⟩ 1 1 [.int .i64 v] hx rfl
  (by grind [nR]) (by intro u f; simp at f; subst f; rfl) (by decide) (by grind [maxLen]) (by omega) p.2.2.2.size c.heap.size rfl ?_
 intro g d w' L m b M;refine y g d w' ⟨?_,?_,?_,?_⟩ (fun a u f R=>m.cell f (by grind [Value.ownBlock]))
 ·simp_all
 ·exact World.ownsRow.kept p.2.1 m (.inr (by simp[Value.ownBlock]; exact fun e=>p.2.2.1 e.symm))
 ·have P:=World.ownsRow.lt p.2.1 l rfl
  rcases b with b|b
  ·simp[Value.ownBlock]at b; subst b; exact p.2.2.1
  omega
 exact p.2.2.2.grown m p.2.2.2.size (fun k B=>(World.ownsRow.lt p.1 k B).1)
theorem Ep.rd1{d:Nat}(a:Ep h c m k q V d s):RdI .i64 c (some ⟨m,0,none⟩) q:=by
 intro i f;refine⟨m,0,rfl,?_⟩;rw[G_,World.ownsRow.cellAt a.1 i (by omega)];simp[f]
theorem Ep.start(w:World)(v a b:Int):Ep w ((w.alloc (.cells #[.int .i64 v] 2)).alloc (.cells #[.int .i64 a,.int .i64 b] 2)) w.heap.size 1 [v] (w.heap.size+1) 2 [a,b]:=by
 refine⟨World.ownsRow.alloc (World.ownsRow_lit w #[.int .i64 v] 1 (A_ _) (by grind [maxLen]) rfl) _,?_,by omega,((Below.refl _ _).alloc (A_ _) _).alloc (by simp) _⟩;have:=World.ownsRow_lit (base:=w.heap.size) (e:=2) (size:=1) (w.alloc (.cells #[.int .i64 v] 2)) #[.int .i64 a,.int .i64 b] 2 (by simp) (by grind [maxLen]) rfl
 simp_all
theorem Ep.amg(w:World)(v a b:Int):Ep w ((w.alloc (.cells #[.int .i64 a,.int .i64 b] 2)).alloc (.cells #[.int .i64 v] 2)) (w.heap.size+1) 1 [v] w.heap.size 2 [a,b]:=by
 refine⟨?_,World.ownsRow.alloc (World.ownsRow_lit w #[.int .i64 a,.int .i64 b] 2 (A_ _) (by grind [maxLen]) rfl) _,by omega,((Below.refl _ _).alloc (A_ _) _).alloc (by simp) _⟩;have:=World.ownsRow_lit (base:=w.heap.size) (e:=2) (size:=1) (w.alloc (.cells #[.int .i64 a,.int .i64 b] 2)) #[.int .i64 v] 1 (by simp) (by grind [maxLen]) rfl
 simp_all
theorem Ep.at(w:Ep c h m k q j V s)(a:c.heap[b]? = some (.cells (dD .i64 54 X) T o))(i:Nat)(hi:i<54) :
 h.cell? ⟨b,i,none⟩=some (.int .i64 (X i)) :=
 jd ((w.2.2.2.block b (t_.1 a).1).trans a) i hi
theorem Ep.lt{i:List Int}(a:Ep c h m k i j V q)(g:b<c.heap.size):b<h.heap.size:=n_ g a.2.2.2.size
theorem J5(x:Nat->Int)(k:Nat) : ∀ j,(outs x k j).length=j+1
 | 0=>rfl
 | j+1=>by rw[outs,E_,J5 x k j]; rfl
theorem OB(x:Nat->Int)(k:Nat) : ∀ j,(IB x k j).length=j+2
 | 0=>rfl
 | j+1=>by rw[IB,E_,OB x k j]; rfl
def arb(w:World)(x:Nat->Int)(k j:Nat)(e f:Value)(g:World):Prop :=
 ∃ c a d b,e = .slice (some ⟨c,0,none⟩) (j+1) a/\f = .slice (some ⟨d,0,none⟩) (j+2) b/\Ep w g c a (outs x k j) d b (IB x k j)
set_option maxHeartbeats 4000000 in
theorem MJ(b:Nat)(T:TypeId)(fz:Nat × Nat)(x:Nat->Int)(k:Nat)(w:World)(hk:k<6)(hb:Hid (w.heap[b]? = some (.cells (dD .i64 54 x) T fz))) :
 Calls Tryz.prog 82 #[.pointer (some ⟨b,0,none⟩),.int .i64 k] w fun e w'=>e = .returned (.tuple #[.int .i64 (mP x k).1,.bool (mP x k).2])/\Below w.heap.size w w':=by
 have hlt:=(t_.1 hb.out).1;have hki:(k:Int)<6:=by omega
 go_enter Tryz.func82,Tryz.ntmps82
 go_upto_region 1 with (fail)
 go_cut [6,7] (fun s6 s7 wx=>arb w x k 0 s6 s7 wx)
 case first =>
  have c1:=jd hb.out (6+k);have c2:=jd hb.out k;have c3:=jd hb.out (12+k) (by omega)
  go_wp2
  go_region
  all_goals go_wp2
  all_goals go_meet
  case rel=>exact⟨_,_,_,_,rfl,rfl,(Ep.start w (x (6+k)) (x k) (x (12+k))).drew⟩
  case rel=>exact⟨_,_,_,_,rfl,rfl,(Ep.amg w (x (6+k)) (x k) (x (12+k))).drew⟩
 case rest =>
  clear hlt
  go_wp2
  go_loopw [6,7,33] (fun s6 s7 i wx => ∃ j:Nat,j<=6/\i = .int .i64 j/\arb w x k j s6 s7 wx) (fun _ _ i _=>6-(intOf i).toNat)
  case atStart=>grind
  case round =>
   obtain⟨j,hj,rfl,g1,c1,g2,c2,rfl,rfl,hT⟩:=hrel;by_cases hj2:j<6
   ·have hlt:b<w.heap.size:=(t_.1 hb.out).1;have hrow:wr.heap[b]? = some (.cells (dD .i64 54 x) T fz):=(hT.2.2.2.block b hlt).trans hb.out;have e1:=jd hrow (18+k*6+j) (by omega);have e2:=jd hrow (18+j*6+k) (by omega);have hlt2:b<wr.heap.size:=(t_.1 hrow).1;have aaZ:Hid _:=hrow;have hg1:g1<wr.heap.size:=(World.ownsRow.lt hT.1 g1 rfl).2;have hg2:g2<wr.heap.size:=(World.ownsRow.lt hT.2.1 g2 rfl).2;clear hrow;have HO:Hid ((outs x k j).length=j+1):=J5 x k j;have HI:Hid ((IB x k j).length=j+2):=OB x k j
    go_wp2
    go_region_law (first
     | (refine QH (o:=⟨some 46,_,_,_,_,_⟩) (by rfl) (.tmp 36) (.tmp 45) (by rfl) g1 c1 (outs x k j) _ _ _ (by first|assumption|exact Ep.alloc (by assumption) _|exact Ep.alloc (Ep.alloc (by assumption) _) _|exact hT.drew.alloc _|exact(hT.drew.alloc _).alloc _) (j+1) HO.out (by rfl) _ (x (18+k*6+j)) (by rfl) (by simp_all) (by omega) ?_; intro g cp w1 hT1 hkp; have e1':=hT1.at hb.out (18+k*6+j) (by omega); have e2':=hT1.at hb.out (18+j*6+k) (by omega); have hlt':=hT1.lt hlt)
     | (refine QH (o:=⟨some 57,_,_,_,_,_⟩) (by rfl) (.tmp 47) (.tmp 56) (by rfl) g2 c2 (IB x k j) _ _ _ (by first|exact Ep.Qr (by assumption)|exact(Ep.alloc (by assumption) _).Qr|exact(Ep.alloc (Ep.alloc (by assumption) _) _).Qr|exact(hT.drew.alloc _).Qr|exact((hT.drew.alloc _).alloc _).Qr) (j+2) HI.out (by rfl) _ (x (18+j*6+k)) (by rfl) (by first|(go_simp; done)|exact hkp _ _ (by go_simp; done) (by simp; omega)) (by omega) ?_; intro g cp w1 hT1 hkp; have e1':=hT1.at hb.out (18+k*6+j) (by omega); have e2':=hT1.at hb.out (18+j*6+k) (by omega); have hlt':=hT1.lt hlt))
    all_goals go_wp2
    all_goals go_roundw
    all_goals first
     | (simp[intOf]; omega)
     | exact⟨j+1,by omega,by go_num,_,_,_,_,rfl,rfl,hT1.Qr⟩
   ·obtain rfl:j=6:=(by omega);have r1:=hT.rd1;have r2:=hT.Qr.rd1;have hbel:=hT.2.2.2;have HO:Hid ((outs x k 6).length=7):=J5 x k 6;have HI:Hid ((IB x k 6).length=8):=OB x k 6;have b1:=Ah (outs x k 6);have b2:=Ah (IB x k 6);rw[HO.out]at b1;rw[HI.out]at b2;have HL:Hid (mP x k=((qw (IB x k 6)).1-(qw (outs x k 6)).1,(qw (outs x k 6)).2&&(qw (IB x k 6)).2)):=rfl;generalize outs x k 6=lo at *;generalize IB x k 6=li at *;clear hT
    go_wp2_with fail
    refine(OA _ 7 c1 lo _ (by omega) HO r1).mono ?_;rintro e w1 ⟨rfl,rfl⟩
    go_wp2_with fail
    refine(OA _ 8 c2 li _ (by omega) HI r2).mono ?_;rintro e w2 ⟨rfl,rfl⟩;generalize (qw li).1=n2 at *;generalize (qw lo).1=n1 at *;generalize (qw li).2=o2 at *;generalize (qw lo).2=o1 at *
    cases o1
    all_goals
     go_wp2_with fail
     go_ret2
     rw[HL.out]; simp_all
namespace Rt
def IE(x:Nat->Int)(k:Nat):Bool:=(mP x k).2&&decide (0<=(mP x k).1)&&decide (F x k<=C x k)&&(R x k k==0)
def Mc(x:Nat->Int):Nat->Bool
 | 0=>true
 | k+1=>Mc x k&&IE x k
def gs(x:Nat->Int):List Int := [x 0,x 1,x 2,x 3,x 4,x 5]
def iV(x:Nat->Int):Bool:=Mc x 6&&((qw (gs x)).2&&decide ((qw (gs x)).1<=1125899906842624))
theorem J6(x:Nat->Int)(k:Nat)(h:IE x k=false) : ∀ n,k<n->Mc x n=false
 | 0,hn=>L_ hn (by omega)
 | n+1,hn=>by
   rw[Mc];by_cases e:k=n
   ·subst e; rw[h,H_]
   ·rw[J6 _ _ h n (by omega),Bool.false_and]
theorem YJ(x:Nat->Int)(k:Nat)(a:k<6)(h:IE x k=false):iV x=false:=by
 unfold iV; rw[J6 _ _ h 6 a,Bool.false_and]
end Rt
theorem ard(h:c.heap[m]? = some (.cells (dD .i64 54 X) T o)):RdI .i64 c (some ⟨m,0,none⟩) (gs X):=by
 intro i b;have g:i<6:=b;refine⟨m,0,rfl,?_⟩;rw[G_,jd h i]
 rcases(show i=0\/i=1\/i=2\/i=3\/i=4\/i=5 by omega)with rfl|rfl|rfl|rfl|rfl|rfl <;> rfl
set_option maxHeartbeats 1000000 in
theorem Ji(x:Nat->Int)(w:World) :
 Calls Tryz.prog 53 #[.agg (dD .i64 54 x)] w fun e w'=>e = .returned (.bool (iV x))/\Below w.heap.size w w':=by
 go_enter Tryz.func53,Tryz.ntmps53
 go_wp2
 go_loopw [2,3,8] (fun r _ i wr=>r = .bool false /\ ∃ k:Nat,k<=6/\i = .int .i64 k/\Mc x k=true/\wr.heap[w.heap.size]? = some (.cells (dD .i64 54 x) 67 (0,0))/\Below w.heap.size w wr) (fun _ _ i _=>6-(intOf i).toNat)
 case atStart=>exact⟨rfl,0,J_ _,rfl,rfl,heap_alloc_new w _,(Below.refl _ _).alloc (A_ _) _⟩
 case round =>
  obtain⟨rfl,k,hk,rfl,hN,hrow,hbel⟩:=hrel;have hlt:=(t_.1 hrow).1;have aaZ:Hid _:=hrow;have HN:Hid _:=hN;clear hrow hN;by_cases hk2:k<6
  ·have HM:Hid (Mc x (k+1)=(Mc x k&&IE x k)):=rfl;have HF:Hid (IE x k=false->iV x=false):=fun h=>YJ _ _ hk2 h;have HK:Hid (IE x k=((mP x k).2&&decide (0<=(mP x k).1)&&decide (F x k<=C x k)&&(R x k k==0))):=rfl
   go_wp2_with fail
   refine(MJ _ _ _ _ _ _ hk2 aaZ).mono ?_;rintro e w1 ⟨rfl,hb1⟩;have QI:=(hb1.block _ hlt).trans aaZ.out;have QJ:=hbel.trans (hb1.mono (Nat.le_of_lt hlt));have c1:=jd QI (12+k);have c2:=jd QI (6+k);have c3:=jd QI (18+k*6+k);have arf:Hid _:=QI;clear QI aaZ hbel hb1;generalize (mP x k).1=n at *;generalize hF:F x k=f at *;generalize hC:C x k=c at *;generalize hR:R x k k=r at *;unfold F at hF; unfold C at hC; unfold R at hR;rw[hF]at c1; rw[hC]at c2; rw[hR]at c3;clear hF hC hR
   cases his:(mP x k).2
   ·rw[his]at HK;clear his;have HR:Hid _:=HF.out (by rw[HK.out]; rfl);clear HK HF HM
    go_wp2_with fail
    go_quiet (fail)
    go_wp2
    go_ret
    rw[HR.out]; exact⟨rfl,bN QJ _⟩
   ·rw[his]at HK;clear his;by_cases h1:n<0
    ·have d1:decide (n<0)=true:=(by simpa using h1);have d1':decide (0<=n)=false:=(by simp; omega);have HR:Hid _:=HF.out (by rw[HK.out]; rw[d1']; rfl);clear HK HF HM
     go_wp2_with fail
     go_quiet (fail)
     go_wp2
     go_ret
     rw[HR.out]; exact⟨rfl,bN QJ _⟩
    ·have d1:decide (n<0)=false:=(by simp; omega);have d1':Hid (decide (0<=n)=true):=(by unfold Hid; simp; omega);by_cases h2:c<f
     ·have d2:decide (c<f)=true:=(by simpa using h2);have d2':decide (f<=c)=false:=(by simp; omega);have HR:Hid _:=HF.out (by rw[HK.out]; rw[d2',H_,Bool.false_and]);clear HK HF HM
      go_wp2_with fail
      go_quiet (fail)
      go_wp2
      go_ret
      rw[HR.out]; exact⟨rfl,bN QJ _⟩
     ·have d2:decide (c<f)=false:=(by simp; omega);have d2':Hid (decide (f<=c)=true):=(by unfold Hid; simp; omega);by_cases h3:r=0
      ·subst h3
       go_wp2_with fail
       go_quiet (fail)
       go_wp2
       go_roundw
       case rel=>exact⟨rfl,k+1,by omega,by go_num,by rw[HM.out,HN.out,HK.out,d1'.out,d2'.out]; rfl,arf.out,bN QJ _⟩
       case measure=>simp[intOf]; omega
      ·have d3:(r != 0)=true:=(by simpa using h3);have d3':(r==0)=false:=(by simpa using h3);have HR:Hid _:=HF.out (by rw[HK.out]; rw[d3',H_]);clear HK HF HM
       go_wp2_with fail
       go_quiet (fail)
       go_wp2
       go_ret
       rw[HR.out]; exact⟨rfl,bN QJ _⟩
  ·obtain rfl:k=6:=(by omega);have HV:Hid (iV x=((qw (gs x)).2&&decide ((qw (gs x)).1<=1125899906842624))):=(by unfold Hid iV; rw[HN.out,Bool.true_and]);have hg:RdI .i64 wr (some ⟨w.heap.size,0,none⟩) (gs x):=ard aaZ.out;have HL:Hid ((gs x).length=6):=rfl;generalize gs x=l at *;clear HN
   go_wp2_with fail
   refine(OA _ 6 _ l _ (by omega) HL hg).mono ?_;rintro e w1 ⟨rfl,rfl⟩;generalize (qw l).1=n at *
   cases h:(qw l).2
   ·rw[h]at HV;clear h
    go_wp2_with fail
    go_ret
    rw[HV.out]; exact⟨rfl,hbel⟩
   ·rw[h]at HV;clear h
    go_wp2_with fail
    go_ret
    rw[HV.out]; exact⟨rfl,hbel⟩
namespace Rt
def jw(i:Int):Bool:=decide (1<=i)&&decide (i<=6)
def ku(x:Nat->Int)(i:Int):Int:=if jw i&&iV x then(mP x (i.toNat-1)).1 else 0
theorem Er(h:Em a=true):0<=a/\a<=1125899906842624:=by grind [Em]
theorem WH(h:(qw q).2=true):qF q=true:=by
 grind [qw]
theorem CX(h:qF q=true)(n:a∈q):0<=a/\a<=1125899906842624:=by
 simp_all [qF,Er]
theorem QK(x:Nat->Int)(k:Nat) : ∀ j,C x k∈outs x k j
 | 0=>by simp[outs]
 | j+1=>by rw[outs]; exact List.mem_append_left _ (QK x k j)
theorem MK(x:Nat->Int)(k i:Nat) : ∀ j,i<j->R x k i∈outs x k j
 | 0,h=>L_ h (by omega)
 | j+1,h=>by
   rw[outs];by_cases e:i=j
   ·simp_all
   ·exact List.mem_append_left _ (MK x k i j (by omega))
theorem Jj(x:Nat->Int)(k:Nat) : ∀ j,G x k∈IB x k j/\F x k∈IB x k j
 | 0=>by simp[IB]
 | j+1=>by rw[IB]; exact⟨List.mem_append_left _ (Jj x k j).1,List.mem_append_left _ (Jj x k j).2⟩
theorem WJ(x:Nat->Int)(k:Nat) : ∀ n,Mc x n=true->k<n->IE x k=true
 | 0,_,hk=>L_ hk (by omega)
 | n+1,h,hk=>by
   rw[Mc,Q_]at h;by_cases e:k=n
   ·simp_all
   ·exact WJ x k n h.1 (by omega)
theorem abb(h:iV X=true)(k:Nat)(a:k<6):IE X k=true:=by
 grind [iV,WJ]
structure Jk(x:Nat->Int)(k:Nat):Prop where
 g:0<=G x k/\G x k<=1125899906842624
 c:0<=C x k/\C x k<=1125899906842624
 f:0<=F x k/\F x k<=1125899906842624
 fc:F x k<=C x k
 r : ∀ i,i<6->0<=R x k i/\R x k i<=1125899906842624
 l:0<=(mP x k).1
 rkk:R x k k=0
 l2:(mP x k).2=true
theorem agP(h:IE X k=true):Jk X k:=by
 unfold IE at h;rw[Q_,Q_,Q_]at h;obtain⟨⟨⟨a,f⟩,h3⟩,h4⟩:=h;have d:=a;unfold mP at a;rw[Q_]at a;have c:=WH a.1;have b:=WH a.2;exact⟨CX b (Jj X k 6).1,CX c (QK X k 6),CX b (Jj X k 6).2,by simp_all,fun i e=>CX c (MK X k i 6 e),by simp_all,by simp_all,d⟩
theorem Am(h:iV X=true)(k:Nat)(a:k<6:=by omega):Jk X k:=by grind [agP,abb]
end Rt
set_option maxHeartbeats 400000 in
theorem xD(i:Int)(w:World)(hi : -9223372036854775808<=i/\i<=9223372036854775807) :
 Calls Tryz.prog 198 #[.int .i64 i] w fun e w'=>e = .returned (.bool (jw i))/\w'=w:=by
 unfold jw;by_cases h1:i<1
 ·have d1:decide (1<=i)=false:=by simp_all
  have D1:Hid _:=d1
  go_enter Tryz.func198,Tryz.ntmps198
  go_wp2
  go_ret
  simp_all [D1.out]
 have d1:decide (1<=i)=true:=by simp_all
 have D1:=d1
 go_enter Tryz.func198,Tryz.ntmps198
 go_wp2
 go_ret
 simp_all
theorem uO:(prog.info? 67).map (·.size)=some 54:=by kernel_rfl
set_option maxRecDepth 100000 in
set_option maxHeartbeats 400000 in
theorem J7(x:Nat->Int)(i:Int)(w:World)(hi : -9223372036854775808<=i/\i<=9223372036854775807) :
 Calls Tryz.prog 201 #[.agg (dD .i64 54 x),.int .i64 i] w fun e w'=>e = .returned (.int .i64 (ku x i))/\Below w.heap.size w w':=by
 have HV:Hid (ku x i=if jw i&&iV x then(mP x (i.toNat-1)).1 else 0):=rfl;have hrow:Hid ((w.alloc (.cells (dD .i64 54 x) 67)).heap[w.heap.size]? = some (.cells (dD .i64 54 x) 67 (0,0))):=heap_alloc_new w _;have HR:Hid (jw i=true<->1<=i/\i<=6):=by grind [Hid,jw]
 have abd:Hid (∀ w',Calls Tryz.prog 198 #[.int .i64 i] w' fun e w''=>e = .returned (.bool (jw i))/\w''=w'):=fun w'=>xD _ w' hi;have hmay:Hid (∀ w',Calls Tryz.prog 53 #[.agg (dD .i64 54 x)] w' fun e w''=>e = .returned (.bool (iV x))/\Below w'.heap.size w' w''):=fun w'=>Ji x w';generalize jw i=r at *
 cases r
 ·go_enter Tryz.func201,Tryz.ntmps201
  go_wp2_with (go_at_call 198; refine(abd.out _).mono ?_; rintro e w' ⟨rfl,rfl⟩)
  go_ret
  rw[HV.out]; exact⟨rfl,(Below.refl _ _).alloc (A_ _) _⟩
 have hb:1<=i/\i<=6:=HR.out.1 rfl;obtain⟨k,hk⟩:=Int.eq_ofNat_of_zero_le (show 0<=i-1 by omega);have Hk:Hid (i-1=(k:Int)):=hk;have hk6:k<6:=by omega
 have hkt:Hid (i.toNat-1=k):=by unfold Hid; omega
 clear hk;generalize iV x=m at *
 cases m
 ·go_enter Tryz.func201,Tryz.ntmps201
  go_wp2_with (first
   | (go_at_call 198; refine(abd.out _).mono ?_; rintro e w' ⟨rfl,rfl⟩)
   | (refine DN (by rfl) (wp_load_row (o:=⟨some 11,_,_,_,_,_⟩) 67 (.tmp 2) (by rfl) w.heap.size (by rfl) 67 (dD .i64 54 x) (0,0) _ hrow.out Tryz.underlying67 (by rfl) (by rw[dM]; exact uO) ?_))
   | (go_at_call 53; refine(hmay.out _).mono ?_; rintro e w1 ⟨rfl,hb1⟩))
  go_ret
  rw[HV.out]; exact⟨rfl,bal hb1⟩
 go_enter Tryz.func201,Tryz.ntmps201
 go_wp2_with (first
  | (go_at_call 198; refine(abd.out _).mono ?_; rintro e w' ⟨rfl,rfl⟩)
  | (refine DN (by rfl) (wp_load_row (o:=⟨some 11,_,_,_,_,_⟩) 67 (.tmp 2) (by rfl) w.heap.size (by rfl) 67 (dD .i64 54 x) (0,0) _ hrow.out Tryz.underlying67 (by rfl) (by rw[dM]; exact uO) ?_))
  | (go_at_call 53; refine(hmay.out _).mono ?_; rintro e w1 ⟨rfl,hb1⟩)
  | (go_at_call 82; rw[Hk.out]; refine(MJ _ _ (0,0) _ _ _ hk6 ((hb1.block _ (by simp)).trans hrow.out)).mono ?_; rintro e w2 ⟨rfl,hb2⟩))
 go_ret
 rw[HV.out,hkt.out]; exact⟨rfl,Oj (bal hb1) hb2⟩
namespace Rt
def zero:Nat->Int:=fun _=>0
def dU(x:Nat->Int)(n:Int)(is:Bool)(a:Int)(off:Nat):(Nat->Int) × Int :=
 if iV x&&decide (1<=n)&&decide (n<=1125899906842624)then
  if is then
   if a=0 then
    if x off+n<=1125899906842624 then(fZ x off (x off+n),0)else(zero,6)
   else(zero,a)
  else(zero,10)
 else(zero,1)
end Rt
namespace Rt
def ou(a b:Int):Int:=if a<b then b else a
def yJ(a b:Nat->Int):Nat->Int:=fun p=>ou (a p) (b p)
def own(p:Nat):Nat:=if p<6 then p else if p<12 then p-6 else if p<18 then p-12 else(p-18) / 6
def jt(a b:Nat->Int)(k:Nat):Nat->Int:=fun p=>if own p<k then ou (a p) (b p)else a p
def TP(a b:Nat->Int)(k j:Nat):Nat->Int:=fun p=>if own p<k\/(own p=k/\(p<18\/(p-18) % 6<j))then ou (a p) (b p)else a p
theorem agQ(a b:Nat->Int):jt a b 0=a:=by funext p; unfold jt; rw[b_]
theorem ami(a b:Nat->Int)(p:Nat)(c:p<54):jt a b 6 p=yJ a b p:=by
 unfold jt yJ own; rw[d_ ?_]; split
 ·omega
 split
 ·omega
 split <;> omega
theorem YL(a b:Nat->Int)(k:Nat)(c:k<6)(p:Nat) :
 fZ (fZ (fZ (jt a b k) k (ou (a k) (b k))) (6+k) (ou (a (6+k)) (b (6+k)))) (12+k) (ou (a (12+k)) (b (12+k))) p=TP a b k 0 p:=by
 unfold fZ TP jt own
 repeat' split
 all_goals first|rfl|omega|(subst_vars; first|rfl|omega)
theorem abf(a b:Nat->Int)(k j:Nat)(d:k<6)(c:j<6)(p:Nat) :
 fZ (TP a b k j) (18+k*6+j) (ou (a (18+k*6+j)) (b (18+k*6+j))) p=TP a b k (j+1) p:=by
 unfold fZ TP own
 repeat' split
 all_goals first|rfl|omega|(subst_vars; first|rfl|omega)
theorem agR(a b:Nat->Int)(k:Nat)(p:Nat):TP a b k 6 p=jt a b (k+1) p:=by
 unfold TP jt own
 repeat' split
 all_goals first|rfl|omega
theorem abg(a b:Nat->Int)(k p:Nat)(h:own p=k):jt a b k p=a p:=by unfold jt; rw[b_]
theorem amj(a b:Nat->Int)(k j:Nat)(c:j<6):TP a b k j (18+k*6+j)=a (18+k*6+j):=by
 unfold TP own; rw[b_ ?_]; rw[b_,b_,b_]; omega
theorem akF(c:k<6:=by omega)(h:m=k\/m=k+6\/m=k+12:=by omega):jt X Y k m=X m:=abg X Y k m (by unfold own; rcases h with rfl|rfl|rfl <;> (repeat' split) <;> omega)
theorem akI(e:k<6)(h1:m=k)(c:j=k+6)(d:V=k+12):fZ (fZ (fZ (jt X Y k) m (ou (X m) (Y m))) j (ou (X j) (Y j))) V (ou (X V) (Y V))=TP X Y k 0:=by
 subst h1 c d; funext i; have:=YL X Y _ e i; rwa [Nat.add_comm 6 m,Nat.add_comm 12 m]at this
theorem akR{a b:Nat->Int}(_:k<6)(c:j<6):TP a b k j (j+6*k+18)=a (j+6*k+18):=by
 have:=amj a b k _ c; rwa [show 18+k*6+j=j+6*k+18 by omega]at this
theorem Ua{a b:Nat->Int}(d:k<6)(c:j<6):fZ (TP a b k j) (j+6*k+18) (ou (a (j+6*k+18)) (b (j+6*k+18)))=TP a b k (j+1):=by
 funext p; have:=abf a b _ _ d c p; rwa [show 18+k*6+j=j+6*k+18 by omega]at this
theorem aeH(a b:Nat->Int)(k:Nat):TP a b k 6=jt a b (k+1):=funext (agR a b k)
end Rt
set_option maxRecDepth 10000 in
set_option maxHeartbeats 400000 in
theorem abj(a b:Nat->Int)(w:World) :
 Calls prog 67 #[.agg (aA 54 (rv .i64 a)),.agg (aA 54 (rv .i64 b))] w fun e w'=>e = .returned (.agg (aA 54 (rv .i64 (yJ a b))))/\Below w.heap.size w w':=by
 refine bX func67 70 ?_;refine ay<|oq fun c w1 kV I s1 z1 => ?_;have M:=bL s1.bP (Below.refl w.heap.size w);have tJ:=iy kV;have vB:=I.lt;refine oq fun d w2 V J s2 z2 =>have⟨m3,O⟩:=fB s2.bP I M;have xw:=gQ V M.size;have BP:=gD V I.lt;have zR:=J.lt;oJ 54 (rv .i64 (fun _=>0)) fun l w3 X m4 s3 z3 => ?_;have⟨m5,m6,b3⟩:=iP s3.bP m3 J O;have Gc:=gQ X O.size;have⟨WB,aaU⟩:=oM X m3.lt J.lt;have Gr:=m4.lt;refine aC<|aQ<|ay<|au (av 0)<|aC<|Wb<|have m7:=m5.to (K_ (rv .i64) (agQ a b).symm);Wo (fun f g => ∃ k:Nat,k<=6/\f 2=(pt c)/\f 3=(pt d)/\f 4=(pt l)/\f 7=av (k:Int)/\aM g c 54 (rv .i64 (jt a b k)) 67/\aM g d 54 (rv .i64 b) 67/\aM g l 54 (rv .i64 (fun _=>0)) 67/\Below w.heap.size w g) (fun f _=>(6-(intOf (f 7)).toNat)) ⟨0,by omega,(by rfl),(by rfl),(by rfl),ic,m7,m6,m4,b3⟩ ?_;rintro f1 w4 ⟨k,hk,h,r,F,n,K,m9,aa,D⟩;refine ay ?_;by_cases U:(k:Int)<6
 ·refine Lv aH (fK U (hx:=n))<|aC<|aQ<|aP<|Wk<|sN<|aQ<|Wb<|ay<|bA n<|au (av k)<|aC<|aQ<|W.nC [0,1,2,3,4,5,7,8,9,12,13,14,16,17,18,21,22,23,25,26,27,30,33,36,6,10,11,15,19,20,24,31,28,29,32,34,35,37,38] [0,0,0,0,0,0,4,0,0,0,4,0,0,0,0,4,0,0,0,1,0,0,0,0,4,0,0,0,1,0,0,0,2,0,0,2,0,0,2] (ko (fun q=>q=c)) (vR _) Fx.ko.trans (bR := [(32,6,[6]),(35,6,[6]),(38,6,[6]),(32,10,[10]),(35,10,[10]),(38,10,[10]),(32,15,[15]),(35,15,[15]),(38,15,[15]),(32,24,[24]),(35,24,[24]),(38,24,[24]),(34,32,[32]),(35,32,[32]),(37,32,[32]),(38,32,[32]),(37,35,[35]),(38,35,[35])]) (by kernel_rfl) (by kernel_rfl) (by kernel_rfl) (by kernel_rfl) (by kernel_rfl) fun qN eX iM =>have⟨u,y,m13,P⟩:=jv eX K m9 aa D;aS (av k)<|aS (av k)<|aS (av k)<|aS (av k)<|Rp (pt c) (fun _=>iO h 0)<|Rp (pf c k) (fun _=>jh 6 1)<|aS (av k)<|Rp (pt d) (fun _=>iO r 0)<|Rp (pf d k) (fun _=>jh 6 1)<|aS (av k)<|Rp (pf c 6) (fun _=>iO h 6)<|Rp (pf c (k+6)) (fun _=>jh 6 1)<|aS (av k)<|Rp (pf d 6) (fun _=>iO r 6)<|Rp (pf d (k+6)) (fun _=>jh 6 1)<|aS (av k)<|Rp (pf c 12) (fun _=>iO h 12)<|Rp (pf c (k+12)) (fun _=>jh 6 1)<|aS (av k)<|Rp (pf d 12) (fun _=>iO r 12)<|Rp (pf d (k+12)) (fun _=>jh 6 1)<|Rp (pt c) (fun _=>iO h 0)<|Rp (pf c 6) (fun _=>iO h 6)<|Rp (pf c 12) (fun _=>iO h 12)<|Rs (av (a k)) (aR u.aJ k (K_ (Value.int .i64) (akF)))<|Rs (av (b k)) (aR y.aJ k)<|Rp (av (ou (a k) (b k))) (fun o=>Wj rfl rfl rfl)<|Rs (av (a (k+6))) (aR u.aJ (k+6) (K_ (Value.int .i64) (akF)))<|lI (v:=av (b (k+6))) (by rfl) (by rfl) (vR _ _) (fun o H=>bE (x:=rv .i64 b) rfl rfl (by kernel_rfl) (y.qZ H (show ¬ (d=c) by omega)).aJ (i:=k+6) (by omega) (by omega) rfl)<|Rp (av (ou (a (k+6)) (b (k+6)))) (fun o=>Wj rfl rfl rfl)<|Rs (av (a (k+12))) (aR u.aJ (k+12) (K_ (Value.int .i64) (akF)))<|Rp (pf c k) (fun _=>jh 6 1)<|lI (v:=av (b (k+12))) (by rfl) (by rfl) (vR _ _) (fun o H=>bE (x:=rv .i64 b) rfl rfl (by kernel_rfl) (y.qZ H (show ¬ (d=c) by omega)).aJ (i:=k+12) (by omega) (by omega) rfl)<|Rp (av (ou (a (k+12)) (b (k+12)))) (fun o=>Wj rfl rfl rfl)<|mF<|jf u k (av (ou (a k) (b k))) fun w5 m14 z z4 =>have m15:aM w5 c 54 (rv .i64 (fZ (jt a b k) k (ou (a k) (b k)))) 67:=m14.to (yA _ _ _ _);have m16:=y.cK z (by omega);have m17:=m13.cK z (by omega);have Q:=z.below P P.size (by omega);Ln ⟨Fx.ko.rX z,?_⟩;refine Rp (pf c (k+6)) (fun _=>jh 6 1)<|mF<|jf m15 (k+6) (av (ou (a (k+6)) (b (k+6)))) fun w6 m18 A z5 =>have m19:aM w6 c 54 (rv .i64 (fZ (fZ (jt a b k) k (ou (a k) (b k))) (k+6) (ou (a (k+6)) (b (k+6))))) 67:=m18.to (yA _ _ _ _);have m20:=m16.cK A (by omega);have mG:=m17.cK A (by omega);have R:=A.below Q Q.size (by omega);Ln ⟨Fx.ko.rX A,?_⟩;refine Rp (pf c (k+12)) (fun _=>jh 6 1)<|mF<|jf m19 (k+12) (av (ou (a (k+12)) (b (k+12)))) fun w7 m22 B z6 =>have m23:aM w7 c 54 (rv .i64 (fZ (fZ (fZ (jt a b k) k (ou (a k) (b k))) (k+6) (ou (a (k+6)) (b (k+6)))) (k+12) (ou (a (k+12)) (b (k+12))))) 67:=m22.to (yA _ _ _ _);have m24:=m20.cK B (by omega);have mU:=mG.cK B (by omega);have b8:=B.below R R.size (by omega);Ln ⟨Fx.ko.rX B,?_⟩;refine dJ<|aQ<|have pK:=m23.to (K_ (rv .i64) (akI (by omega) rfl (by omega) (by omega)));Wl<|au (av 0)<|aC<|Wb<|Wo (fun f g => ∃ j:Nat,j<=6/\f 2=(pt c)/\f 3=(pt d)/\f 4=(pt l)/\f 5=av (k:Int)/\f 7=av (k:Int)/\f 46=av (j:Int)/\aM g c 54 (rv .i64 (TP a b k j)) 67/\aM g d 54 (rv .i64 b) 67/\aM g l 54 (rv .i64 (fun _=>0)) 67/\Below w.heap.size w g) (fun f _=>(6-(intOf (f 46)).toNat)) ⟨0,by omega,h,r,F,ic,(n.trans ic),ic,pK,m24,mU,b8⟩ ?_;rintro f2 w8 ⟨j,hj,s,G,Y,t,Z,m,ab,ac,ad,S⟩;refine ay ?_;by_cases T:(j:Int)<6
  ·refine Lv aH (fK T (hx:=m))<|aC<|aQ<|aP<|Wk<|sN<|aQ<|Wb<|ay<|bA m<|au (av j)<|aC<|W.nC [0,1,2,3,4,5,6,8,9,10,11,12,15,16,7,13,14,17,18] [0,0,0,0,0,0,0,4,0,0,0,0,0,4,0,0,0,0,2] (ko (fun q=>q=c)) (vR _) Fx.ko.trans (bR := [(18,7,[7]),(18,13,[13])]) (by kernel_rfl) (by kernel_rfl) (by kernel_rfl) (by kernel_rfl) (by kernel_rfl) fun Fu iZ rM =>have⟨qV,mY,m32,N⟩:=jv iZ ab ac ad S;eZ t<|aS (av j)<|eZ t<|aS (av j)<|Rp (pf c 18) (fun _=>iO s 18)<|Rp (pf c (6*k+18)) (fun _=>jh 6 6)<|Rp (pf c (j+6*k+18)) (fun _=>jh 6 1)<|eZ t<|aS (av j)<|Rp (pf d 18) (fun _=>iO G 18)<|Rp (pf d (6*k+18)) (fun _=>jh 6 6)<|Rp (pf d (j+6*k+18)) (fun _=>jh 6 1)<|Rp (pf c 18) (fun _=>iO s 18)<|Rp (pf c (6*k+18)) (fun _=>jh 6 6)<|Rs (av (a (j+6*k+18))) (aR qV.aJ (j+6*k+18) (K_ (Value.int .i64) (akR (a:=a) (b:=b) (k:=k) (j:=j) (by omega) (by omega))))<|Rs (av (b (j+6*k+18))) (aR mY.aJ (j+6*k+18))<|Rp (av (ou (a (j+6*k+18)) (b (j+6*k+18)))) (fun o=>Wj rfl rfl rfl)<|Rp (pf c (j+6*k+18)) (fun _=>jh 6 1)<|mF<|jf qV (j+6*k+18) (av (ou (a (j+6*k+18)) (b (j+6*k+18)))) fun w9 oD C z7 =>have pz:aM w9 c 54 (rv .i64 (fZ (TP a b k j) (j+6*k+18) (ou (a (j+6*k+18)) (b (j+6*k+18))))) 67:=oD.to (yA _ _ _ _);have pQ:=mY.cK C (by omega);have rE:=m32.cK C (by omega);have b11:=C.below N N.size (by omega);Ln ⟨Fx.ko.rX C,?_⟩;refine Rn<|bS<|sN<|Wl<|Lv (av ((j:Int)+1)) (gu (hx:=m))<|au (av ((j:Int)+1))<|Ln<|have sD:=pz.to (K_ (rv .i64) (Ua (a:=a) (b:=b) (k:=k) (j:=j) (by omega) (by omega)));iA ⟨j+1,by omega,s,G,Y,(t.trans ic),(Z.trans ic),ic,sD,pQ,rE,b11⟩ ?_;show(6-(intOf (av ((j:Int)+1))).toNat)<_;simp only[m,intOf]; omega
  refine Lv aD (fM T (hx:=m))<|aC<|aQ<|aL<|Wx<|cZ<|iC<|dB<|bS<|sN<|Wl<|Lv (av ((k:Int)+1)) (gu (hx:=Z))<|au (av ((k:Int)+1))<|Ln ?_;have E:j=6:=by omega
  have qM:=ab.to (K_ (rv .i64) (show TP a b k j=jt a b (k+1) by rw[E]; exact aeH a b k));refine iA ⟨k+1,by omega,s,G,Y,ic,qM,ac,ad,S⟩ ?_;show(6-(intOf (av ((k:Int)+1))).toNat)<_;simp only[n,intOf]; omega
 refine Lv aD (fM U (hx:=n))<|aC<|aQ<|aL<|Wx<|cZ<|iC<|dB<|sN<|ay<|Lv (.agg (aA 54 (rv .i64 (jt a b k)))) (dZ K.aJ 0 (ha:=h))<|dY aa 0 (ha:=F) fun uE qW L z8 =>have vk:aM uE l 54 (rv .i64 (jt a b k)) 67:=aO qW;have pR:=K.cK L (by omega);have qx:=m9.cK L (by omega);have b12:=L.below D D.size (by omega);aC (Wr (⟨.agg (aA 54 (rv .i64 (jt a b k))),rV Tryz.results67 ⟨_,F,aU vk.aJ⟩,?_⟩));refine⟨K_ (fun q=>Ending.returned (Value.agg q)) (fI fun p hp=>K_ (Value.int .i64) ?_),b12⟩;have E:k=6:=by omega
 rw[E]; exact ami a b _ hp
section
set_option maxHeartbeats 400000 in
theorem J9(is:Bool)(e:Int)(w:World) :
 Calls Tryz.prog 200 #[.bool is,.int .i64 e] w fun r w'=>r = .returned (.int .i64 (if is then e else 0))/\w'=w:=by
 cases is
 all_goals
  go_enter Tryz.func200,Tryz.ntmps200
  go_wp2
  go_ret
  exact⟨rfl,rfl⟩
theorem rF(i:Int):jw i=true<->1<=i/\i<=6:=by unfold jw; simp
attribute [local irreducible] Oper.wp wpList Code.wp
end
section
namespace Rt
def uP(x:Nat->Int)(i n:Int):Int:=if decide (ku x i<n)then 11 else 0
def bV(x:Nat->Int)(i n:Int):(Nat->Int) × Int:=dU x n (jw i) (uP x i n) (6+(i.toNat-1))
end Rt
attribute [local irreducible] Oper.wp wpList Code.wp
end
section
namespace Rt
def vX(x:Nat->Int)(i n:Int):Int:=if decide (C x (i.toNat-1)-F x (i.toNat-1)<n)then 12 else 0
def bW(x:Nat->Int)(i n:Int):(Nat->Int) × Int:=dU x n (jw i) (vX x i n) (12+(i.toNat-1))
end Rt
attribute [local irreducible] Oper.wp wpList Code.wp
end
namespace Rt
def qH(x:Nat->Int)(i j n:Int):Int:=if i=j then 1 else if decide (ku x i<n)then 11 else 0
def nV(i j:Int):Nat:=18+(i.toNat-1)*6+(j.toNat-1)
def dX(x:Nat->Int)(i j n:Int):(Nat->Int) × Int:=dU x n (jw i&&jw j) (qH x i j n) (nV i j)
end Rt
section
def TQ(x:Nat->Int)(g:Nat)(i j n:Int)(w':World):Prop:=w'.heap[g]? = some (.cells (dD .i64 54 x) 67 (0,0))/\w'.cell? ⟨g+1,0,none⟩=some (.int .i64 i)/\w'.cell? ⟨g+1+1,0,none⟩=some (.int .i64 j)/\w'.cell? ⟨g+1+1+1,0,none⟩=some (.int .i64 n)
attribute [local irreducible] Oper.wp wpList Code.wp
end
namespace Rt
def L(x:Nat->Int)(k:Nat):Int:=G x k+F x k+R x 0 k+R x 1 k+R x 2 k+R x 3 k+R x 4 k+R x 5 k-C x k-R x k 0-R x k 1-R x k 2-R x k 3-R x k 4-R x k 5
def YR(x:Nat->Int):Prop := ∀ p,p<54->0<=x p/\x p<=1125899906842624
def All(x:Nat->Int):Prop := ∀ k,k<6->0<=L x k/\F x k<=C x k/\R x k k=0
def xE(x:Nat->Int):Int:=G x 0+G x 1+G x 2+G x 3+G x 4+G x 5
theorem OD(h:qF q=true):qw q=(q.sum,true):=by grind [qw]
theorem YR.outs{x:Nat->Int}(h:YR x)(k:Nat)(a:k<6):qF (outs x k 6)=true:=by
 have e:=fun j (hj:j<6)=>h (18+k*6+j) (by omega);have c:=h (6+k) (by omega);unfold qF;rw[List.all_eq_true];intro n b;have:n=x (6+k)\/n=x (18+k*6+0)\/n=x (18+k*6+1)\/n=x (18+k*6+2)\/n=x (18+k*6+3)\/n=x (18+k*6+4)\/n=x (18+k*6+5):=by
  grind [Rt.outs,C,R]
 unfold Em;rw[Q_,decide_eq_true_eq,decide_eq_true_eq]
 rcases this with h|h|h|h|h|h|h <;> subst h
 ·exact c
 all_goals exact e _ (by omega)
theorem YR.IB{x:Nat->Int}(h:YR x)(k:Nat)(a:k<6):qF (IB x k 6)=true:=by
 have e:=fun j (hj:j<6)=>h (18+j*6+k) (by omega);have c:=h k (by omega);have f:=h (12+k) (by omega);unfold qF;rw[List.all_eq_true];intro n b;have:n=x k\/n=x (12+k)\/n=x (18+0*6+k)\/n=x (18+1*6+k)\/n=x (18+2*6+k)\/n=x (18+3*6+k)\/n=x (18+4*6+k)\/n=x (18+5*6+k):=by
  grind [Rt.IB,G,F,R]
 unfold Em;rw[Q_,decide_eq_true_eq,decide_eq_true_eq]
 rcases this with h|h|h|h|h|h|h|h <;> subst h
 ·exact c
 ·exact f
 all_goals exact e _ (by omega)
theorem abr(x:Nat->Int)(k:Nat):(Rt.outs x k 6).sum=C x k+R x k 0+R x k 1+R x k 2+R x k 3+R x k 4+R x k 5:=by grind [Rt.outs]
theorem agT(x:Nat->Int)(k:Nat):(Rt.IB x k 6).sum=G x k+F x k+R x 0 k+R x 1 k+R x 2 k+R x 3 k+R x 4 k+R x 5 k:=by simp[Rt.IB]; omega
theorem Gu(h:YR X)(k:Nat)(a:k<6):mP X k=(L X k,true):=by
 grind [mP,OD,h.outs,h.IB,abr,agT,L]
theorem qh(h:iV X=true):YR X:=by
 intro p e;by_cases a:p<6
 ·exact(Am h p a).g
 by_cases b:p<12
 ·have:=(Am h (p-6)).c
  grind [C]
 by_cases d:p<18
 ·have:=(Am h (p-12)).f
  grind [F]
 have:=(Am h ((p-18) / 6)).r ((p-18) % 6) (by omega)
 grind [R]
theorem akw(h:YR X):qF (gs X)=true:=by
 unfold qF;rw[List.all_eq_true];intro n a;have:n=X 0\/n=X 1\/n=X 2\/n=X 3\/n=X 4\/n=X 5:=by simp_all [gs]
 unfold Em;rw[Q_,decide_eq_true_eq,decide_eq_true_eq]
 rcases this with e|e|e|e|e|e <;> subst e <;> exact h _ (by omega)
theorem abt(x:Nat->Int):(gs x).sum=xE x:=by grind [gs,xE,G]
theorem mh(x:Nat->Int):iV x=true<->YR x/\All x/\xE x<=1125899906842624:=by
 constructor
 ·intro h;have e:=qh h;refine⟨e,fun k d => ?_,?_⟩
  ·have o:=Am h k d
   grind [o.l,Gu,o.fc,o.rkk]
  grind [iV,OD,akw,abt]
 rintro ⟨e,f,g⟩;have d : ∀ k,k<6->IE x k=true:=by
  intro k d;obtain⟨a,b,c⟩:=f k d
  grind [IE,Gu]
 grind [Mc,iV,OD,akw,abt]
theorem rG(h:iV X=true)(k:Nat)(a:k<6):ku X ((k:Int)+1)=L X k:=by
 grind [ku,jw,Gu,qh]
def sJ(x:Nat->Int):Int:=(C x 0-F x 0)+(C x 1-F x 1)+(C x 2-F x 2)+(C x 3-F x 3)+(C x 4-F x 4)+(C x 5-F x 5)
theorem Bl(x:Nat->Int)(i j:Nat)(hi:i<6)(e:j<6)(d:Int)(a b:Nat)(ha:a<6)(c:b<6) :
 R (fZ x (18+i*6+j) (x (18+i*6+j)+d)) a b=R x a b+(if a=i then if b=j then d else 0 else 0):=by
 grind [R,fZ]
theorem aml(x:Nat->Int)(i j:Nat)(hi:i<6)(a:j<6)(d:Int)(k:Nat)(b:k<6) :
 L (fZ x (18+i*6+j) (x (18+i*6+j)+d)) k=L x k+(if k=j then d else 0)-(if k=i then d else 0):=by
 have f:G (fZ x (18+i*6+j) (x (18+i*6+j)+d)) k=G x k:=jE _ _ _ _ (by omega);have c:C (fZ x (18+i*6+j) (x (18+i*6+j)+d)) k=C x k:=jE _ _ _ _ (by omega);have e:F (fZ x (18+i*6+j) (x (18+i*6+j)+d)) k=F x k:=jE _ _ _ _ (by omega);unfold L
 rw[f,c,e,Bl x _ _ hi a d 0 _ (by omega) b,Bl x _ _ hi a d 1 _ (by omega) b,Bl x _ _ hi a d 2 _ (by omega) b,Bl x _ _ hi a d 3 _ (by omega) b,Bl x _ _ hi a d 4 _ (by omega) b,Bl x _ _ hi a d 5 _ (by omega) b,
  Bl x _ _ hi a d _ 0 b (by omega),Bl x _ _ hi a d _ 1 b (by omega),Bl x _ _ hi a d _ 2 b (by omega),Bl x _ _ hi a d _ 3 b (by omega),Bl x _ _ hi a d _ 4 b (by omega),Bl x _ _ hi a d _ 5 b (by omega)]
 have g:(if 0=i then if k=j then d else 0 else 0)+(if 1=i then if k=j then d else 0 else 0)+(if 2=i then if k=j then d else 0 else 0)+(if 3=i then if k=j then d else 0 else 0)+(if 4=i then if k=j then d else 0 else 0)+(if 5=i then if k=j then d else 0 else 0)=(if k=j then d else 0):=by
  omega
 grind
end Rt
structure Bn where
 dF:Nat->Bool
 left:Nat->Bool
 aF:Nat->Int
 na:Option Addr
 nn:Nat
 nc:Nat
 ga:Option Addr
 gn:Nat
 gc:Nat
def dS(s:Bn):Nat->Value:=fun p=>if p<6 then .bool (s.dF p)else if p<12 then .bool (s.left (p-6))else if p<18 then aG (s.aF (p-12))else if p=18 then .slice s.na s.nn s.nc else .slice s.ga s.gn s.gc
theorem iX(s:Bn)(h:m<6:=by omega):dS s m = .bool (s.dF m):=by unfold dS; rw[d_ h]
theorem fT(s:Bn){p:Nat}(h:p<6:=by omega)(e:m=p+6:=by omega):dS s m = .bool (s.left p):=by subst e; unfold dS; rw[b_,d_,Nat.add_sub_cancel]
theorem fA(s:Bn){p q:Nat}(h:p<6:=by omega)(e:q=p+12:=by omega):dS s q=aG (s.aF p):=by subst e; unfold dS; rw[b_,b_,d_,Nat.add_sub_cancel]
def mV(id par:Int)(R:Nat->Int):Nat->Value:=fun p=>if p=0 then aG id else if p=1 then aG par else av (R (p-2))
theorem CY(id par:Int)(R:Nat->Int)(q:Nat):mV id par R (2+q)=rv .i64 R q:=by unfold mV rv; rw[b_,b_,Nat.add_sub_cancel_left]
def Nds(w:World)(a:Option Addr)(n:Nat)(id par:Nat->Int)(R:Nat->Nat->Int):Prop := ∀ k,k<n -> ∃ b c,a=some ⟨b,c,none⟩/\jM w b (c+56*k) 56 (mV (id k) (par k) (R k))
section
structure ow where
 s:Bn
 id:Nat->Int
 par:Nat->Int
 R:Nat->Nat->Int
 g:Nat->Nat->Int
 tb:Nat
 ta:Option Addr
 tn:Nat
 tc:Nat
 t:Nat->Nat->Int
 ra:Nat->Option Addr
 rn:Nat->Nat
 rc:Nat->Nat
 rq:Nat->Nat->Int
structure iQ where
 dF:Nat->Bool
 left:Nat->Bool
 aF:Nat->Int
 nn:Nat
 id:Nat->Int
 par:Nat->Int
 R:Nat->Nat->Int
 gn:Nat
 g:Nat->Nat->Int
 tn:Nat
 t:Nat->Nat->Int
 rn:Nat->Nat
 rq:Nat->Nat->Int
def ow.aW(m:ow):iQ:=⟨m.s.dF,m.s.left,m.s.aF,m.s.nn,m.id,m.par,m.R,m.s.gn,m.g,m.tn,m.t,m.rn,m.rq⟩
def nQ(m:ow):Nat->Value:=fun p=>if p<20 then dS m.s p else if p=20 then(pt m.tb)else .slice (m.ra (p-21)) (m.rn (p-21)) (m.rc (p-21))
theorem nD(p:ow)(h:m<20)(e:dS p.s m=z):nQ p m=z:=by grind [nQ]
theorem Aq(q:ow){p:Nat}(e:m=p+21:=by omega):nQ q m = .slice (q.ra p) (q.rn p) (q.rc p):=by
 grind [nQ]
def lQ(x:Nat->Int):Nat->Value:=fun p=>if p=0 then av (x 0)else if p=3 then av (x 3)else aG (x p)
def LP(m:ow):Nat->Value:=dn 56 fun k=>mV (m.id k) (m.par k) (m.R k)
def Ka(m:ow):Nat->Value:=dn 5 fun k=>lQ (m.g k)
def rH(c:Nat->Nat->Int):Nat->Int:=fun p=>c (p / 2) (p % 2)
def QN(t:Nat->Nat->Int):Nat->Value:=dn 2 fun k=>rv .u64 (t k)
structure H6(w:World)(p:Nat)(m:ow):Prop where
 c:jM w p 0 27 (nQ m)
 an:iB w m.s.na m.s.nn 56 (LP m)
 ag:iB w m.s.ga m.s.gn 5 (Ka m)
 tc:jM w m.tb 0 1 (fun _ => .slice m.ta m.tn m.tc)
 YS:iB w m.ta m.tn 2 (QN m.t)
 ar : ∀ i,i<6->iB w (m.ra i) (m.rn i) 1 (rv .u64 (m.rq i))
 bn:m.s.nn<=1000000
 bg:m.s.gn<=1000000
 bt:m.tn<=1000000
 br : ∀ i,i<6->m.rn i<=1000000
section
variable {w w':World} {p:Nat} {m:ow}
theorem H6.n(h:H6 w p m):Nds w m.s.na m.s.nn m.id m.par m.R:=fun _ a=>h.an.at a
theorem H6.g(h:H6 w p m) : ∀ k,k<m.s.gn -> ∃ b a,m.s.ga=some ⟨b,a,none⟩/\jM w b (a+5*k) 5 (lQ (m.g k)):=by grind [h.ag.at]
theorem H6.r(h:H6 w p m) : ∀ i,i<6 -> ∀ k,k<m.rn i -> ∃ b a,m.ra i=some ⟨b,a,none⟩/\jM w b (a+k) 1 (fun _=>aG (m.rq i k)):=fun i d k g=>by
 obtain⟨b,a,e,c⟩:=h.ar i d (by omega);refine⟨b,a,e,fun j f => ?_⟩;obtain rfl:j=0:=by omega
 exact c k (by omega)
end
def gF(P:Nat->Bool):Nat->Int
 | 0 => -1
 | n+1=>if 0<=gF P n then gF P n else if P n then(n:Int)else -1
theorem mJ{P:Nat->Bool} : ∀ {n:Nat},(∀ i,i<n->P i=false)->gF P n = -1
 | 0,_=>rfl
 | n+1,h=>by
   have:=mJ (P:=P) (n:=n) fun i a=>h i (by omega)
   grind [gF]
theorem tQ{P:Nat->Bool}{k:Nat}(a : ∀ i,i<k->P i=false)(b:P k=true) : ∀ {n:Nat},k<n->gF P n=(k:Int)
 | 0,h=>L_ h (by omega)
 | n+1,h=>by
   simp only[gF];by_cases e:k=n
   ·grind [mJ]
   ·rw[tQ a b (n:=n) (by omega),d_]
theorem iW(P:Nat->Bool) : ∀ n:Nat,(∃ k:Nat,k<n/\gF P n=(k:Int)/\P k=true)\/(gF P n = -1 /\ ∀ i,i<n->P i=false)
 | 0 => .inr ⟨rfl,fun i h=>L_ h (by omega)⟩
 | n+1=>by
   rcases iW P n with ⟨k,b,e,a⟩|⟨e,a⟩
   ·grind [gF]
   grind [gF]
theorem zA(h : ∀ i,i<k->H i=false)(a:H k=false) : ∀ i,i<k+1->H i=false:=fun i b=>by
 by_cases e:i=k
 ·subst e; exact a
 ·exact h i (by omega)
def ow.node(m:ow)(id:Int):Int:=gF (fun i=>decide (m.id i=id)) m.s.nn
def ow.jy(m:ow)(o r:Int):Int:=gF (fun i=>decide (m.g i 0=o)&&decide (m.g i 1=r)) m.s.gn
def ow.nW(m:ow)(a:Nat)(r:Int):Int:=gF (fun i=>decide (m.rq a i=r)) (m.rn a)
structure Kc(w:World)(tb:Nat)(ta:Option Addr)(tn tc:Nat)(t:Nat->Nat->Int):Prop where
 tc:jM w tb 0 1 (fun _ => .slice ta tn tc)
 t : ∀ k,k<tn -> ∃ b off,ta=some ⟨b,off,none⟩/\jM w b (off+2*k) 2 (rv .u64 (t k))
 bt:tn<=1000000
theorem Kc.below{w w':World}{tb:Nat}{ta:Option Addr}{tn tc:Nat}{t:Nat->Nat->Int}(h:Kc w tb ta tn tc t)(c:Below w.heap.size w w'):Kc w' tb ta tn tc t where
 tc:=h.tc.below c (h.tc.lt (by omega))
 t:=fun k d=>by obtain⟨b,f,e,a⟩:=h.t k d; grind [a.below,a.lt]
 bt:=h.bt
def bT(t:Nat->Nat->Int)(tn:Nat)(x:Int):Int:=gF (fun i=>decide (t i 0=x)) tn
def bU(t:Nat->Nat->Int)(tn:Nat):Nat->Int->Int
 | 0,x=>x
 | k+1,x=>t (bT t tn (bU t tn k x)).toNat 1
def amm:Value->Nat
 | .slice _ n _=>n
 | _=>0
end
theorem OE(m:ow)(p:Nat)(x:Int)(w:World)(h:H6 w p m) :
 Calls prog 89 #[(pt p),aG x] w fun e w'=>e = .returned (av (m.node x))/\Below w.heap.size w w':=by
 have v:=h.c;have E:=h.bn;refine bX func89 28 ?_;refine ay<|au (av 0)<|aC<|aQ<|ay<|au (av 0)<|aC<|Wb<|Wo (fun f z => ∃ k:Nat,k<=m.s.nn/\(∀ i,i<k->(fun i=>decide (m.id i=x)) i=false)/\f 0=(pt p)/\f 1=aG x/\f 5=av (k:Int)/\jM z p 0 27 (nQ m)/\Below w.heap.size w z) (fun f _=>(m.s.nn-(intOf (f 5)).toNat)) ⟨0,by omega,(fun i h=>L_ h (by omega)),(by rfl),ic,ic,v,(Below.refl w.heap.size w)⟩ ?_;rintro G K ⟨k,I,l,j,t,a,o,d⟩;refine aQ<|ay<|bA a<|bA j<|au (pt p)<|au (pt p)<|au (pf p 18)<|Lv (.slice m.s.na (m.s.nn) (m.s.nc)) (aR o 18)<|au (av m.s.nn) ?_;by_cases r:(k:Int)<(m.s.nn:Int)
 ·refine Lv aH (fK r)<|aC<|aP<|Wk<|sN<|aQ<|Wb<|aQ ?_;obtain⟨b,y,A,u⟩:=h.n k (by omega);have B:=u.lt (by omega);have C:=u.below d B;refine Wl<|bA j<|au (pt p)<|au (pt p)<|au (pf p 18)<|Lv (.slice m.s.na (m.s.nn) (m.s.nc)) (aR o 18)<|bA a<|Lv (pf b (56*k+y)) (fC 56 (hx:=(rfl.trans (K_ (fun q=>Value.slice q (m.s.nn) (m.s.nc)) A))))<|au (pf b (56*k+y))<|Lv (aG (m.id k)) (aR C 0)<|bA t ?_;by_cases g:(m.id k)=x
  ·refine Lv aH (gU g)<|aC<|aP<|ay<|bA a<|au (av k)<|aC<|Wr<|bO<|sR<|oG<|bO<|sR<|aK (av k)<|⟨uD (Eq.symm (tQ l (f_ g) (by omega))),d⟩
  refine Lv aD (gX g)<|aC<|aL<|Wk<|bS<|sN<|Wl<|bA a<|Lv (av ((k:Int)+1)) gu<|au (av ((k:Int)+1))<|Ln<|iA ⟨k+1,by omega,(zA l (g_ g)),j,(t.trans ic),ic,o,d⟩ ?_;show(m.s.nn-(intOf (av ((k:Int)+1))).toNat)<_;simp only[a,intOf]; omega
 refine Lv aD (fM r)<|aC<|aL<|Wx<|cZ<|iC<|dB<|sN<|ay<|au (av (-1))<|aC<|Wr<|aK (av (-1))<|⟨uD (Eq.symm (mJ (fun i H=>l i (by omega)))),d⟩
theorem Uj(tb:Nat)(ta:Option Addr)(tn tc:Nat)(t:Nat->Nat->Int)(x:Int)(w:World)(h:Kc w tb ta tn tc t) :
 Calls prog 133 #[(pt tb),aG x] w fun e w'=>e = .returned (av (bT t tn x))/\Below w.heap.size w w':=by
 have p:=h.tc;have z:=h.bt;refine bX func133 26 ?_;refine ay<|au (av 0)<|aC<|aQ<|ay<|au (av 0)<|aC<|Wb<|Wo (fun f s => ∃ k:Nat,k<=tn/\(∀ i,i<k->(fun i=>decide (t i 0=x)) i=false)/\f 0=(pt tb)/\f 1=aG x/\f 5=av (k:Int)/\jM s tb 0 1 (fun _ => .slice ta tn tc)/\Below w.heap.size w s) (fun f _=>(tn-(intOf (f 5)).toNat)) ⟨0,by omega,(fun i h=>L_ h (by omega)),(by rfl),ic,ic,p,(Below.refl w.heap.size w)⟩ ?_;rintro A E ⟨k,C,j,g,n,a,l,c⟩;refine aQ<|ay<|bA a<|bA g<|au (pt tb)<|au (pt tb)<|Lv (.slice ta (tn) (tc)) (aR l 0)<|au (av tn) ?_;by_cases m:(k:Int)<(tn:Int)
 ·refine Lv aH (fK m)<|aC<|aP<|Wk<|sN<|aQ<|Wb<|aQ ?_;obtain⟨b,r,u,o⟩:=h.t k (by omega);have v:=o.lt (by omega);have y:=o.below c v;refine Wl<|bA g<|au (pt tb)<|au (pt tb)<|Lv (.slice ta (tn) (tc)) (aR l 0)<|bA a<|Lv (pf b (2*k+r)) (fC 2 (hx:=(rfl.trans (K_ (fun q=>Value.slice q (tn) (tc)) u))))<|au (pf b (2*k+r))<|Lv (aG ((t k) 0)) (aR y 0)<|bA n ?_;by_cases d:((t k) 0)=x
  ·refine Lv aH (gU d)<|aC<|aP<|ay<|bA a<|au (av k)<|aC<|Wr<|bO<|sR<|oG<|bO<|sR<|aK (av k)<|⟨uD (Eq.symm (tQ j (f_ d) (by omega))),c⟩
  refine Lv aD (gX d)<|aC<|aL<|Wk<|bS<|sN<|Wl<|bA a<|Lv (av ((k:Int)+1)) gu<|au (av ((k:Int)+1))<|Ln<|iA ⟨k+1,by omega,(zA j (g_ d)),g,(n.trans ic),ic,l,c⟩ ?_;show(tn-(intOf (av ((k:Int)+1))).toNat)<_;simp only[a,intOf]; omega
 refine Lv aD (fM m)<|aC<|aL<|Wx<|cZ<|iC<|dB<|sN<|ay<|au (av (-1))<|aC<|Wr<|aK (av (-1))<|⟨uD (Eq.symm (mJ (fun i B=>j i (by omega)))),c⟩
theorem agU [Decidable N] [Decidable O](h : ¬ N):(decide N&&decide O)=false:=by rw[g_ h]; rfl
theorem agV [Decidable O] [Decidable N](h : ¬ N):(decide O&&decide N)=false:=by rw[g_ h,H_]
theorem agW [Decidable N] [Decidable O](h:N)(c:O):(decide N&&decide O)=true:=by rw[f_ h,f_ c]; rfl
theorem agX(m:ow)(p:Nat)(x r:Int)(w:World)(h:H6 w p m) :
 Calls prog 116 #[(pt p),av x,aG r] w fun e w'=>e = .returned (av (m.jy x r))/\Below w.heap.size w w':=by
 have C:=h.c;have G:=h.bg;refine bX func116 43 ?_;refine ay<|au (av 0)<|aC<|aQ<|ay<|au (av 0)<|aC<|Wb<|Wo (fun f E => ∃ k:Nat,k<=m.s.gn/\(∀ i,i<k->(fun i=>decide (m.g i 0=x)&&decide (m.g i 1=r)) i=false)/\f 0=(pt p)/\f 1=av x/\f 2=aG r/\f 7=av (k:Int)/\jM E p 0 27 (nQ m)/\Below w.heap.size w E) (fun f _=>(m.s.gn-(intOf (f 7)).toNat)) ⟨0,by omega,(fun i h=>L_ h (by omega)),(by rfl),ic,ic,ic,C,(Below.refl w.heap.size w)⟩ ?_;rintro J N ⟨k,L,t,j,v,y,a,l,d⟩;refine aQ<|ay<|bA a<|bA j<|au (pt p)<|au (pt p)<|au (pf p 19)<|Lv (.slice m.s.ga (m.s.gn) (m.s.gc)) (aR l 19)<|au (av m.s.gn) ?_;by_cases z:(k:Int)<(m.s.gn:Int)
 ·refine Lv aH (fK z)<|aC<|aP<|Wk<|sN<|aQ<|Wb<|aQ ?_;obtain⟨b,u,A,B⟩:=h.g k (by omega);have F:=B.lt (by omega);have D:=B.below d F;refine Wl<|bA j<|au (pt p)<|au (pt p)<|au (pf p 19)<|Lv (.slice m.s.ga (m.s.gn) (m.s.gc)) (aR l 19)<|bA a<|Lv (pf b (5*k+u)) (fC 5 (hx:=(rfl.trans (K_ (fun q=>Value.slice q (m.s.gn) (m.s.gc)) A))))<|au (pf b (5*k+u))<|Lv (av (m.g k 0)) (aR D 0)<|bA v ?_;by_cases n:(m.g k 0)=x
  ·refine Lv aH (gU n)<|au aH<|bA j<|au (pt p)<|au (pt p)<|au (pf p 19)<|Lv (.slice m.s.ga (m.s.gn) (m.s.gc)) (aR l 19)<|bA a<|Lv (pf b (5*k+u)) (fC 5 (hx:=(rfl.trans (K_ (fun q=>Value.slice q (m.s.gn) (m.s.gc)) A))))<|au (pf b (5*k+u+1))<|Lv (aG (m.g k 1)) (aR D 1)<|bA y ?_;by_cases o:(m.g k 1)=r
   ·refine Lv aH (gU o)<|au aH<|aC<|aP<|ay<|bA a<|au (av k)<|aC<|Wr<|bO<|sR<|oG<|bO<|sR<|aK (av k)<|⟨uD (Eq.symm (tQ t (agW n o) (by omega))),d⟩
   refine Lv aD (gX o)<|au aD<|aC<|aL<|Wk<|bS<|sN<|Wl<|bA a<|Lv (av ((k:Int)+1)) gu<|au (av ((k:Int)+1))<|Ln<|iA ⟨k+1,by omega,(zA t (agV o)),j,(v.trans ic),(y.trans ic),ic,l,d⟩ ?_;show(m.s.gn-(intOf (av ((k:Int)+1))).toNat)<_;simp only[a,intOf]; omega
  refine Lv aD (gX n)<|au aD<|bf<|bf<|bf<|bf<|bf<|bf<|bf<|bf<|bf<|bf<|bf<|au aD<|aC<|aL<|Wk<|bS<|sN<|Wl<|bA a<|Lv (av ((k:Int)+1)) gu<|au (av ((k:Int)+1))<|Ln<|iA ⟨k+1,by omega,(zA t (agU n)),j,(v.trans ic),(y.trans ic),ic,l,d⟩ ?_;show(m.s.gn-(intOf (av ((k:Int)+1))).toNat)<_;simp only[a,intOf]; omega
 refine Lv aD (fM z)<|aC<|aL<|Wx<|cZ<|iC<|dB<|sN<|ay<|au (av (-1))<|aC<|Wr<|aK (av (-1))<|⟨uD (Eq.symm (mJ (fun i K=>t i (by omega)))),d⟩
theorem amn(h:a=(k:Int)):decide (0<=a)=true:=f_
theorem amo(h:a = -1):decide (0<=a)=false:=g_
theorem agY(m:ow)(p a:Nat)(r:Int)(w:World)(h:H6 w p m)(ha:a<6) :
 Calls prog 113 #[(pt p),av ((a:Int)+1),aG r] w fun e w'=>e = .returned (.bool (decide (0<=m.nW a r)))/\Below w.heap.size w w':=by
 have x:=h.c;have F:=h.br a ha;refine bX func113 32 ?_;refine ay<|au aD<|aC<|aQ<|ay<|au (av 0)<|aC<|Wb<|Wo (fun f y => ∃ k:Nat,k<=m.rn a/\(∀ i,i<k->(fun i=>decide (m.rq a i=r)) i=false)/\f 0=(pt p)/\f 1=av ((a:Int)+1)/\f 2=aG r/\f 7=av (k:Int)/\jM y p 0 27 (nQ m)/\Below w.heap.size w y) (fun f _=>(m.rn a-(intOf (f 7)).toNat)) ⟨0,by omega,(fun i h=>L_ h (by omega)),(by rfl),ic,ic,ic,x,(Below.refl w.heap.size w)⟩ ?_;rintro H L ⟨k,J,o,l,n,u,j,s,d⟩;refine aQ<|ay<|bA j<|bA l<|bA n<|Lv (av a) jK<|au (pt p)<|au (pf p 21)<|Lv (pf p (a+21)) (jh 6 1)<|Lv (.slice (m.ra a) (m.rn a) (m.rc a)) (aR s (a+21) (Aq _))<|au (av (((m.rn a):Nat):Int)) ?_;by_cases t:(k:Int)<(((m.rn a):Nat):Int)
 ·refine Lv aH (fK t)<|aC<|aP<|Wk<|sN<|aQ<|Wb<|aQ ?_;obtain⟨b,C,z,v⟩:=h.r a ha k (by omega);have A:=v.lt (by omega);have B:=v.below d A;refine Wl<|bA l<|bA n<|Lv (av a) jK<|au (pt p)<|au (pf p 21)<|Lv (pf p (a+21)) (jh 6 1)<|Lv (.slice (m.ra a) (m.rn a) (m.rc a)) (aR s (a+21) (Aq _))<|bA j<|Lv (pf b (k+C)) (fC 1 (hx:=(rfl.trans (K_ (fun q=>Value.slice q (m.rn a) (m.rc a)) z))))<|Lv (aG (m.rq a k)) (aR B 0)<|bA u ?_;by_cases g:(m.rq a k)=r
  ·refine Lv aH (gU g)<|aC<|aP<|ay<|au aH<|aC<|Wr<|bO<|sR<|oG<|bO<|sR<|aK aH<|⟨gN (Eq.symm (amn (tQ o (f_ g) (by omega)))),d⟩
  refine Lv aD (gX g)<|aC<|aL<|Wk<|bS<|sN<|Wl<|bA j<|Lv (av ((k:Int)+1)) gu<|au (av ((k:Int)+1))<|Ln<|iA ⟨k+1,by omega,(zA o (g_ g)),l,(n.trans ic),(u.trans ic),ic,s,d⟩ ?_;show(m.rn a-(intOf (av ((k:Int)+1))).toNat)<_;simp only[j,intOf]; omega
 refine Lv aD (fM t)<|aC<|aL<|Wx<|cZ<|iC<|dB<|sN<|ay<|au aD<|aC<|Wr<|aK aD<|⟨gN (Eq.symm (amo (mJ (fun i I=>o i (by omega))))),d⟩
namespace Rt
theorem YT(z:X k=a) : ∀ j,j<(k+1)*1->gP (rv .u64 X) (k*1) (bJ (fun j=>rv .u64 (fun _=>0) (j % 1)) (0*1) 1 (fun _=>aG a)) j=rv .u64 X j:=by
 intro j b;unfold gP;by_cases h:j<k*1
 ·rw[d_ h]
 rw[b_ h];have e:j=k:=by omega
 subst e;unfold bJ rv;rw[d_,z]
theorem WO(tn:k<=b)(t:bT f m (bU f m b a)<0)(h:0<=bT f m (bU f m k a)):k+1<=b:=Nat.lt_of_le_of_ne tn fun e=>by subst e; omega
theorem abu(h : ∀ i,i<k->0<=bT f m (bU f m i a))(t:0<=bT f m (bU f m k a)) : ∀ i,i<k+1->0<=bT f m (bU f m i a):=fun i b=>by
 by_cases e:i=k
 ·subst e; exact t
 ·exact h i (by omega)
theorem BU(h:0<=bT f m a) : ∃ j:Nat,j<m/\bT f m a=(j:Int)/\f j 0=a:=by
 rcases iW (fun i=>decide (f i 0=a)) m with ⟨k,t,e,b⟩|⟨e,_⟩
 ·exact⟨k,t,e,h_ b⟩
 unfold bT at h; rw[e]at h; omega
theorem YU(h:bT f m (bU f m k a)=(j:Int)):f j 1=bU f m (k+1) a:=by
 show _=f (bT f m (bU f m k a)).toNat 1;rw[h]; rfl
end Rt
theorem WQ(tb:Nat)(ta:Option Addr)(tn tc:Nat)(t:Nat->Nat->Int)(x:Int)(w:World)(h:Kc w tb ta tn tc t) :
 Calls prog 132 #[(pt tb),aG x] w fun e w'=>e = .returned (.bool (decide (0<=bT t tn x)))/\Below w.heap.size w w':=by
 have d:=h.tc;refine bX func132 9 ?_;refine ay<|au aD<|aC<|ay<|au (pt tb)<|au (aG x)<|dO (Uj _ _ _ _ _ x _ (h.below (Below.refl w.heap.size w))) _ rfl ?_;intro i c;have b:=bL c (Below.refl w.heap.size w);by_cases a:0<=(bT t tn x)
 ·refine Lv aH (mW a)<|au aH<|aC<|Wr<|aK aH<|⟨gN (Eq.symm (f_ a)),b⟩
 refine Lv aD (mM a)<|au aD<|aC<|Wr<|aK aD<|⟨gN (Eq.symm (g_ a)),b⟩
theorem Uk(tb:Nat)(ta:Option Addr)(tn tc:Nat)(t:Nat->Nat->Int)(x:Int)(D:Nat)(w:World)(h:Kc w tb ta tn tc t)(O:bT t tn (bU t tn D x)<0)(hD2:D<=1000) :
 Calls prog 114 #[(pt tb),aG x] w fun e w' => ∃ K v,e = .returned v/\aY w' w.heap.size 26 1 v K (rv .u64 (fun i=>bU t tn i x))/\(∀ i,i<K->0<=bT t tn (bU t tn i x))/\bT t tn (bU t tn K x)<0/\Below w.heap.size w w':=by
 have R:=h.tc;have lp:tb<w.heap.size:=R.lt (by omega);have bt:=h.bt;refine bX func114 25 ?_;refine ay<|au (.slice none 0 0)<|aC<|ay<|au (.slice none 0 0)<|aC<|aQ<|Wb ?_;have m1:aY w w.heap.size 26 1 (.slice none 0 0) 0 (rv .u64 (fun i=>bU t tn i x)):=wm _ _ _ _ _;refine Wo (fun f J => ∃ k:Nat,∃ a:Option Addr,∃ d:Nat,k<=D/\(∀ i,i<k->0<=bT t tn (bU t tn i x))/\f 0=(pt tb)/\f 1=aG (bU t tn k x)/\f 5 = .slice a (k) (d)/\jM J tb 0 1 (fun _ => .slice ta tn tc)/\aY J w.heap.size 26 1 (.slice a k d) k (rv .u64 (fun i=>bU t tn i x))/\Below w.heap.size w J) (fun f _=>(D-amm (f 5))) ⟨0,none,0,by omega,(fun i h=>L_ h (by omega)),(by rfl),(by rfl),(by rfl),R,m1,(Below.refl w.heap.size w)⟩ ?_;rintro f1 w1 ⟨k,a,d,U,P,p,g,C,m2,m3,L⟩;refine aQ<|ay<|bA p<|bA g<|dO (Uj _ _ _ _ _ (bU t tn k x) _ (h.below L)) _ rfl ?_;intro w2 hb1;have⟨W,F,r⟩:=iP hb1 m2 m3 L;by_cases c:0<=(bT t tn (bU t tn k x))
 ·refine Lv aH (mW c)<|aC<|aP<|Wk<|sN<|Wb<|aQ ?_;obtain⟨j,T,M,_⟩:=BU c;refine Wl<|bA C<|bA g<|uz (vs := [(0,aG (bU t tn k x))]) (s:=1) (zc:=rv .u64 (fun _=>0)) (y:=bJ (fun j=>(rv .u64 (fun _=>0)) (j % 1)) (0*1) 1 (fun _=>aG (bU t tn k x))) (by rfl) rfl rfl underlying45 (by kernel_rfl) (by rfl) (by rfl) (by kernel_rfl) (by rw[aT (off:=0*1) (s:=1) (y:=fun _=>aG (bU t tn k x)) rfl (bG)]; rfl) rfl fun N w3 A X s2 z1 => ?_;have⟨m7,G,u⟩:=iP s2.bP W F r;have DX:tb≠N:=by rw[A]; exact u_ (W.lt (by omega))
  have QO:(.slice a k d:Value).ownBlock≠some N:=by rw[A]; exact F.gW (A_ _)
  have vB:=X.lt;refine xX (B:=w.heap.size) (s:=1) (bytes:=8) (k:=k) (m:=1) (by rfl) rfl rfl rfl underlying45 (by kernel_rfl) (by kernel_rfl) rfl rfl G X.aJ (fun j T=>by rcases j with _|j <;> first|rfl|omega) (by omega) (by omega) (by omega) u.size fun o n I ho1 S vE hlt1 => ?_
  have E:jM I tb 0 1 (fun _ => .slice ta tn tc):=m7.grown S (G.not (by omega));have m9:aY I w.heap.size 26 1 (dz o (k+1) n) (k+1) (rv .u64 (fun i=>bU t tn i x)):=ho1.congr (YT rfl);have z:Below w.heap.size w I:=sO u S u.size (fun q hq=>(G.ge hq).1);refine au (dz o (k+1) n)<|aC ?_;obtain⟨b,Y,ea,Q⟩:=h.t j T;have lb:b<w.heap.size:=Q.lt (by omega);have V:=Q.below z lb;refine rA<|iL p<|bI (pt tb)<|bI (pt tb)<|Qv (.slice ta (tn) (tc)) (fun H l=>aR (E.below l (E.lt (by omega))) 0)<|iL p<|iL g<|zo (fun H l=>((Uj tb ta tn tc t (bU t tn k x) _ (h.below (Oj z l))).mono fun e w2 g=>(⟨g.1.trans (by rw[M]),g.2⟩:e = .returned (av (j:Int))/\_))) _ rfl<|Qv (pf b (2*j+Y)) (fun H l=>fC 2 (hx:=(rfl.trans (K_ (fun q=>Value.slice q (tn) (tc)) ea))))<|bI (pf b (2*j+Y+1))<|Qv (aG ((t j) 1)) (fun H l=>aR (V.below l (V.lt (by omega))) 1)<|bI (aG ((t j) 1))<|Qn ?_;intro OC xG;have⟨kY,m13,Z⟩:=iP xG E m9 z;refine bS ?_;have kD:=WO U O c;refine iA ⟨k+1,(some ⟨o,0,none⟩),n,(WO U O c),(abu P c),p,(K_ (Value.int .u64) (YU M)),(by rfl),kY,m13,Z⟩ ?_;show(D-amm (dz o (k+1) n))<_;simp only[C,intOf,amm]; omega
 refine Lv aD (mM c)<|aC<|aL<|Wx<|cZ<|iC<|dB<|sN<|ay<|bA C<|au (.slice a (k) (d))<|aC<|Wr<|aK (.slice a (k) (d)) ?_;exact⟨k,_,rfl,F,P,by omega,r⟩
namespace Rt
def tT(k tb:Nat):ow := { s:=⟨fun i=>decide (i<k),fun _=>false,fun _=>0,none,0,0,none,0,0⟩,id:=fun _=>0,par:=fun _=>0,R:=fun _ _=>0,g:=fun _ _=>0,tb:=tb,ta:=none,tn:=0,tc:=0,t:=fun _ _=>0,ra:=fun _=>none,rn:=fun _=>0,rc:=fun _=>0,rq:=fun _ _=>0 }
theorem YV(k tb:Nat)(c:k<6):dN (nQ (tT k tb)) k (.bool true)=nQ (tT (k+1) tb):=by
 funext p
 unfold dN;by_cases e:p=k
 ·subst e; rw[d_ rfl];exact(nD _ (by omega) ((iX _ c).trans (K_ Value.bool (f_ (show p<p+1 by omega))))).symm
 rw[b_ e];unfold nQ;by_cases h:p<20
 ·rw[d_ h,d_ h];unfold dS;by_cases a:p<6
  ·rw[d_ a,d_ a];show Value.bool (decide (p<k))=Value.bool (decide (p<k+1));by_cases b:p<k
   ·rw[f_ b,f_ (show p<k+1 by omega)]
   rw[g_ b,g_ (show ¬ p<k+1 by omega)]
  rw[b_ a,b_ a]; rfl
 rw[b_ h,b_ h]; rfl
end Rt
set_option maxRecDepth 10000 in
theorem ark(n:Nat)(w:World)(h1:1<=n)(R:n<=6) :
 Calls prog 18 #[av (n:Int)] w fun e w' => ∃ p tb,e = .returned (.tuple #[(pt p),av 0])/\w.heap.size<=p/\H6 w' p (tT n tb)/\Below w.heap.size w w'/\aM w' p 27 (nQ (tT n tb)) 48/\aM w' tb 1 (fun _ => .slice none 0 0) 136/\w.heap.size<=tb:=by
 refine bX func18 28 ?_;refine ay<|au (.pointer none)<|au (av 0)<|aC<|aQ<|ay<|au (av n)<|Lv aD DV<|au aD<|au (av n)<|Lv aD Fb<|au aD<|aC<|aL<|Wk<|sN<|ay<|au (.agg (aA 1 (fun _ => .slice none 0 0)))<|oq fun b X C o M Z => ?_;have t:=bL M.bP (Below.refl w.heap.size w);have F:=iy C;have V:=o.lt;refine au (.agg (aA 27 (bJ (fun i=>(#[.bool false,.bool false,.bool false,.bool false,.bool false,.bool false,.bool false,.bool false,.bool false,.bool false,.bool false,.bool false,aG 0,aG 0,aG 0,aG 0,aG 0,aG 0,.slice none 0 0,.slice none 0 0,.pointer none,.slice none 0 0,.slice none 0 0,.slice none 0 0,.slice none 0 0,.slice none 0 0,.slice none 0 0]:Array Value).getD i undef) 20 1 (fun _=>(pt b)))))<|Ga (m:=27) (y:=bJ (fun i=>(#[.bool false,.bool false,.bool false,.bool false,.bool false,.bool false,.bool false,.bool false,.bool false,.bool false,.bool false,.bool false,aG 0,aG 0,aG 0,aG 0,aG 0,aG 0,.slice none 0 0,.slice none 0 0,.pointer none,.slice none 0 0,.slice none 0 0,.slice none 0 0,.slice none 0 0,.slice none 0 0,.slice none 0 0]:Array Value).getD i undef) 20 1 (fun _=>(pt b))) (by rfl) rfl rfl (bM _ _) rfl fun a O v x N z2 => ?_;have⟨H,A⟩:=fB N.bP o t;have G:=gQ v t.size;have U:=gD v o.lt;have W:=x.lt;refine au (pt a)<|aC<|aQ<|ay<|au (av 0)<|aC<|Wb ?_;have I:aM O a 27 (nQ (tT 0 b)) 48:=x.congr (Kvq (by kernel_rfl))
 refine Wo (fun f s => ∃ k:Nat,k<=n/\f 0=av (n:Int)/\f 4=(pt a)/\f 5=av (k:Int)/\aM s b 1 (fun _ => .slice none 0 0) 136/\aM s a 27 (nQ (tT k b)) 48/\Below w.heap.size w s) (fun f _=>(n-(intOf (f 5)).toNat)) ⟨0,by omega,ic,(by rfl),ic,H,I,A⟩ ?_;rintro Q Y ⟨k,T,h1,l,g,q,r,h⟩;refine aQ<|ay<|bA g<|bA h1 ?_;by_cases u:(k:Int)<(n:Int)
 ·refine Lv aH (fK u)<|aC<|aP<|Wk<|sN<|aQ<|Wb<|Wl<|bA l<|bA g<|au (pt a)<|au (pt a)<|au (pt a)<|Lv (pf a k) (jh 6 1)<|jf r k aH fun P J z z3 => ?_;have K:=q.cK z (by omega);have B:=z.below h h.size (by omega);refine Ln<|bS<|sN<|Wl<|bA g<|Lv (av ((k:Int)+1)) gu<|au (av ((k:Int)+1))<|Ln ?_;have L:aM P a 27 (nQ (tT (k+1) b)) 48:=J.to (YV k b (by omega))
  skip
  refine iA ⟨k+1,by omega,(h1.trans ic),l,ic,K,L,B⟩ ?_;show(n-(intOf (av ((k:Int)+1))).toNat)<_;simp only[g,intOf]; omega
 refine Lv aD (fM u)<|aC<|aL<|Wx<|cZ<|iC<|dB<|sN<|ay<|bA l<|au (pt a)<|au (av 0)<|aC<|Wr<|aK (.tuple #[(pt a),av 0]) ?_;have D:k=n:=by omega
 subst D;exact⟨_,_,rfl,G,{ c:=r.aJ,an:=fun d=>L_ d (Nat.lt_irrefl 0),ag:=fun d=>L_ d (Nat.lt_irrefl 0),tc:=q.aJ,YS:=fun d=>L_ d (Nat.lt_irrefl 0),ar:=fun i E d=>L_ d (Nat.lt_irrefl 0),bn:=J_ _,bg:=J_ _,bt:=J_ _,br:=fun i E=>J_ _ },h,r,q,F⟩
namespace Rt
def IG(t:Nat->Nat->Int)(n k:Nat):Nat->Nat->Int:=fun i=>if i<=k then(if i<n then t i else fun _=>0)else t (i-1)
def wF(t:Nat->Nat->Int)(k:Nat)(id par:Int):Nat->Nat->Int:=fun i=>if i<k then t i else if i=k then(fun j=>if j=0 then id else par)else t (i-1)
theorem Ar{w:World}{B tb tn tc:Nat}{ta:Option Addr}{t:Nat->Nat->Int}(b:aM w tb 1 (fun _ => .slice ta tn tc) 136)(a:aY w B 207 2 (.slice ta tn tc) tn (rv .u64 (rH t)))(j:tn<=1000):Kc w tb ta tn tc t where
 tc:=b.aJ
 t:=fun k h=>by
  obtain⟨g,d,e,_,_,_,c⟩:=a.form;simp only[Value.slice.injEq,true_and]at e;refine⟨g,0,e.1,fun i f => ?_⟩;have:=c (2*k+i) (by omega);rw[G_]at this;rw[G_,this];show some (Value.int .u64 (t ((2*k+i) / 2) ((2*k+i) % 2)))=some (Value.int .u64 (t k i))
  grind
 bt:=by omega
theorem E9(t:Nat->Nat->Int)(n:Nat) : ∀ j,j<(n+1)*2->gP (rv .u64 (rH t)) (n*2) (bJ (fun j=>rv .u64 (fun _=>0) (j % 2)) (0*2) 2 (rv .u64 (fun _=>0))) j=rv .u64 (rH (IG t n n)) j:=fun j a=>by
 unfold gP;by_cases h:j<n*2
 ·rw[d_ h];show Value.int .u64 (t (j / 2) (j % 2))=Value.int .u64 (IG t n n (j / 2) (j % 2));unfold IG; rw[d_,d_]
 ·rw[b_ h];unfold bJ; rw[d_];show Value.int .u64 0=Value.int .u64 (IG t n n (j / 2) (j % 2));unfold IG; rw[d_,b_]
theorem HY(a:b=2*j)(h:j<k)(t:k<=m:=by omega):rv .u64 (rH (IG f m k)) b=aG (f j 0):=by
 subst a;show Value.int .u64 (IG f m k (2*j / 2) (2*j % 2))=_;unfold IG; grind
theorem amq(h:j<k)(a:k<=b)(hi:m<2):rv .u64 (rH (IG f b k)) (2*j+m)=rv .u64 (f j) m:=by
 show Value.int .u64 (IG f b k ((2*j+m) / 2) ((2*j+m) % 2))=Value.int .u64 (f j m);unfold IG; grind
theorem Jf(e:k=j+1)(_hk:k<=m) : ∀ p,p<(m+1)*2->bJ (rv .u64 (rH (IG f m k))) (2*k) 2 (rv .u64 (f j)) p=rv .u64 (rH (IG f m j)) p:=fun p b=>by
 unfold bJ;by_cases h:2*k<=p/\p<2*k+2
 ·rw[d_ h];show Value.int .u64 (f j (p-2*k))=Value.int .u64 (IG f m j (p / 2) (p % 2));unfold IG; rw[b_,show p / 2-1=j by omega,show p-2*k=p % 2 by omega]
 ·rw[b_ h];show Value.int .u64 (IG f m k (p / 2) (p % 2))=Value.int .u64 (IG f m j (p / 2) (p % 2));unfold IG;by_cases a:p / 2<=j
  ·rw[d_,d_ a]
  ·rw[b_,b_ a]
theorem Fa(_hk:k<=m) : ∀ p,p<(m+1)*2->bJ (rv .u64 (rH (IG f m k))) (2*k) 2 (bJ (bJ (rv .u64 (fun _=>0)) 0 1 (fun _=>aG a)) 1 1 (fun _=>aG d)) p=rv .u64 (rH (wF f k a d)) p:=fun p c=>by
 by_cases h:2*k<=p/\p<2*k+2
 ·rw[bJ,d_ h];show _=Value.int .u64 (wF f k a d (p / 2) (p % 2));unfold wF; rw[b_,d_];by_cases b:p=2*k
  ·subst b; rw[show 2*k-2*k=0 by omega,d_]; rfl
  ·rw[show p-2*k=1 by omega,b_]; rfl
 ·rw[bJ,b_ h];show Value.int .u64 (IG f m k (p / 2) (p % 2))=Value.int .u64 (wF f k a d (p / 2) (p % 2));unfold IG wF;by_cases t:p / 2<k
  ·rw[d_,d_,d_ t]
  ·rw[b_,b_ t,b_]
def H7(t:Nat->Nat->Int)(tn:Nat)(x:Int):Prop := ∀ i,i<4->0<=bT t tn (bU t tn i x)
theorem abv(h : ∀ i,i<k->0<=bT f m (bU f m i a))(t:4<=k):H7 f m a:=fun i b=>h i (by omega)
theorem agZ(h:bT f m (bU f m k a)<0)(t:k<4) : ¬ H7 f m a:=fun b=>by have:=b k t; omega
open Classical in
noncomputable def pU(t:Nat->Nat->Int)(tn:Nat)(id par:Int):Int:=if id=0 then 1 else if 0<=bT t tn id then 14 else if par≠0/\bT t tn par<0 then 9 else if 32<=tn\/H7 t tn par then 6 else 0
theorem aha(e:k=j+1)(h : ∀ i,k<=i->i<m->a<f i 0)(c:a<f j 0) : ∀ i,j<=i->i<m->a<f i 0:=fun i d b=>by
 by_cases t:i=j
 ·subst t; exact c
 ·exact h i (by omega) b
end Rt
set_option maxRecDepth 10000 in
theorem arl(B:Nat)(tb:Nat)(ta:Option Addr)(tn tc:Nat)(t:Nat->Nat->Int)(id par:Int)(D:Nat)(w:World)(x:aM w tb 1 (fun _ => .slice ta tn tc) 136)(C:aY w B 207 2 (.slice ta tn tc) tn (rv .u64 (rH t)))(hne:(Value.slice ta tn tc).ownBlock≠some tb)(hB:B<=w.heap.size)(F:tn<=1000)(hD:bT t tn (bU t tn D par)<0)(hD2:D<=1000) :
 Calls prog 112 #[(pt tb),aG id,aG par] w fun e w'=>e = .returned (av (pU t tn id par))/\ko (fun k=>k=tb\/(Value.slice ta tn tc).ownBlock=some k) w w'/\((pU t tn id par≠0/\aM w' tb 1 (fun _ => .slice ta tn tc) 136/\aY w' B 207 2 (.slice ta tn tc) tn (rv .u64 (rH t)))\/(pU t tn id par=0 /\ ∃ g V,aM w' tb 1 (fun _=>dz g (tn+1) V) 136/\aY w' B 207 2 (dz g (tn+1) V) (tn+1) (rv .u64 (rH (wF t (down (fun i=>decide (id<t i 0)) tn) id par)))/\(Value.slice (some ⟨g,0,none⟩) (tn+1) V).ownBlock≠some tb)):=by
 have lp:tb<w.heap.size:=x.lt;refine bX func112 89 ?_;refine ay<|au (av 0)<|aC<|aQ<|ay<|au (aG id) ?_;by_cases p:id=0
 ·refine Lv aH (gU p)<|aC<|aP<|ay<|au (av 1)<|aC<|Wr<|sR<|aK (av 1) ?_;have d:pU t tn id par=1:=by unfold pU; rw[d_ p]
  exact⟨uD d.symm,(vR (fun k=>k=tb\/(Value.slice ta tn tc).ownBlock=some k) w),.inl ⟨by rw[d]; decide,x,C⟩⟩
 refine Lv aD (gX p)<|aC<|aL<|Wk<|sN<|aQ<|ay<|au (pt tb)<|au (aG id) ?_;by_cases o:(decide (0<=bT t tn id))=true
 ·refine dO (WQ tb ta tn tc t id _ (Ar x C F)) aH (by rw[o]) ?_;intro w1 hb1;have s1:=Sb hb1;have⟨m1,m2⟩:=fB hb1 x C;have b1:=(vR (fun k=>k=tb\/(Value.slice ta tn tc).ownBlock=some k) w).then s1 (.inr (vR (fun k=>k=tb\/(Value.slice ta tn tc).ownBlock=some k) w).size);refine aC<|aP<|ay<|au (av 14)<|aC<|Wr<|sR<|aK (av 14) ?_;have d:pU t tn id par=14:=by unfold pU; rw[b_ p,d_ (h_ o)]
  exact⟨uD d.symm,b1,.inl ⟨by rw[d]; decide,m1,m2⟩⟩
 rw[R_]at o;refine dO (WQ tb ta tn tc t id _ (Ar x C F)) aD (by rw[o]) ?_;intro w2 hb2;have s2:=Sb hb2;have⟨H,I⟩:=fB hb2 x C;have z:=(vR (fun k=>k=tb\/(Value.slice ta tn tc).ownBlock=some k) w).then s2 (.inr (vR (fun k=>k=tb\/(Value.slice ta tn tc).ownBlock=some k) w).size);refine aC<|aL<|Wk<|sN<|yh (fun f n=>(¬ (par≠0/\bT t tn par<0))/\f 0=(pt tb)/\f 1=aG id/\f 2=aG par/\aM n tb 1 (fun _ => .slice ta tn tc) 136/\aY n B 207 2 (.slice ta tn tc) tn (rv .u64 (rH t))/\ko (fun k=>k=tb\/(Value.slice ta tn tc).ownBlock=some k) w n) ?_ ?_
 ·refine ay<|au (aG par) ?_;by_cases M:par=0
  ·refine Lv aD (kr M)<|au aD<|bf<|bf<|bf<|bf<|au aD<|aC<|aL<|Wk ?_;exact nL ⟨(fun h=>h.1 M),(by rfl),ic,ic,H,I,z⟩
  refine Lv aH (mO M)<|au aH<|au (pt tb)<|au (aG par) ?_;by_cases A:(decide (0<=bT t tn par))=true
  ·refine dO (WQ tb ta tn tc t par _ (Ar H I F)) aH (by rw[A]) ?_;intro w3 hb3;have s3:=Sb hb3;have⟨m5,m6⟩:=fB hb3 H I;have b3:=z.then s3 (.inr z.size);refine au aD<|au aD<|aC<|aL<|Wk ?_;exact nL ⟨(fun h=>by have:=h_ A; omega),(by rfl),ic,ic,m5,m6,b3⟩
  rw[R_]at A;refine dO (WQ tb ta tn tc t par _ (Ar H I F)) aD (by rw[A]) ?_;intro w4 hb4;have s4:=Sb hb4;have⟨m7,m8⟩:=fB hb4 H I;have b4:=z.then s4 (.inr z.size);refine au aH<|au aH<|aC<|aP<|ay<|au (av 9)<|aC<|Wr<|jnR<|aK (av 9) ?_;have d:pU t tn id par=9:=by unfold pU; rw[b_ p,b_ (j_ o),d_ ⟨M,by have:=j_ A; omega⟩]
  exact⟨uD d.symm,b4,.inl ⟨by rw[d]; decide,m7,m8⟩⟩
 rintro f1 w5 ⟨aa,q,h2,h3,S,ab,T⟩;refine aQ<|ay<|bA q<|au (pt tb)<|au (pt tb)<|Lv (.slice ta (tn) (tc)) (aR S.aJ 0)<|au (av tn) ?_;by_cases c26:32<=(tn:Int)
 ·refine Lv aH (mW c26)<|au aH<|bf<|bf<|bf<|bf<|bf<|au aH<|aC<|aP<|ay<|au (av 6)<|aC<|Wr<|sR<|aK (av 6) ?_;have d:pU t tn id par=6:=by unfold pU; rw[b_ p,b_ (j_ o),b_ aa,d_ (.inl (by omega))]
  exact⟨uD d.symm,T,.inl ⟨by rw[d]; decide,S,ab⟩⟩
 refine Lv aD (mM c26)<|au aD<|bA q<|bA h3<|lX (Uk tb ta tn tc t par D _ (Ar S ab F) hD hD2) ?_;rintro e w6 ⟨K,vv,he,hown,zB,hK1,hb5⟩;obtain⟨a1,l,rfl⟩:=hown.val;refine⟨.slice a1 K l,he,?_⟩;clear he hown;have s5:=Sb hb5;have⟨G,ac⟩:=fB hb5 S ab;have L:=T.then s5 (.inr T.size);refine au (av K) ?_;by_cases c32:4<=(K:Int)
 ·refine Lv aH (mW c32)<|au aH<|aC<|aP<|ay<|au (av 6)<|aC<|Wr<|sR<|aK (av 6) ?_;have d:pU t tn id par=6:=by unfold pU; rw[b_ p,b_ (j_ o),b_ aa,d_ (.inr (abv zB (by omega)))]
  exact⟨uD d.symm,L,.inl ⟨by rw[d]; decide,G,ac⟩⟩
 refine Lv aD (mM c32)<|au aD<|aC<|aL<|Wk<|sN<|ay<|bA q<|au (pt tb)<|au (pt tb)<|Lv (.slice ta (tn) (tc)) (aR G.aJ 0)<|au (av tn)<|au (av tn)<|aC<|ay<|bA q<|bA q<|au (pt tb)<|au (pt tb)<|Lv (.slice ta (tn) (tc)) (aR G.aJ 0)<|au (.agg (aA 2 (rv .u64 (fun _=>0))))<|uz (vs := [(0,.agg (aA 2 (rv .u64 (fun _=>0))))]) (s:=2) (zc:=rv .u64 (fun _=>0)) (y:=bJ (fun j=>(rv .u64 (fun _=>0)) (j % 2)) (0*2) 2 (rv .u64 (fun _=>0))) (by rfl) rfl rfl underlying134 (by kernel_rfl) (by rfl) (by rfl) (by kernel_rfl) (by rw[aT (off:=0*2) (s:=2) (y:=rv .u64 (fun _=>0)) rfl (bM _ _) (by rfl)]; rfl) rfl fun g1 w7 W m13 s6 z1 => ?_;have⟨m14,m15⟩:=fB s6.bP G ac;have U:=L.then s6 (.inr L.size);have tJ:=gQ W L.size;have abw:=gD W G.lt;have ayk:(.slice ta tn tc:Value).ownBlock≠some g1:=by rw[W]; exact ac.gW (A_ _)
 have vB:=m13.lt;refine xX (B:=B) (s:=2) (bytes:=16) (k:=tn) (m:=1) (v := .slice ta tn tc) (by rfl) rfl rfl rfl underlying134 (by kernel_rfl) (by kernel_rfl) rfl rfl m15 m13.aJ (fun j hj=>by rcases j with _|_|j <;> first|rfl|omega) (by omega) (by omega) (by omega) (m_ hB U.size) fun c l w8 ho1 hg1 vE hlt1 => ?_
 have m17:aM w8 tb 1 (fun _ => .slice ta tn tc) 136:=m14.grown hg1 hne;have ayl:tb≠c:=fun e=>vE.elim (fun O=>hne (by rw[O,e])) (fun O=>by have:=m14.lt; omega);have m16:aY w8 B 207 2 (dz c (tn+1) l) (tn+1) (rv .u64 (rH (IG t tn tn))):=ho1.congr (E9 t tn);have b8:ko (fun k=>k=tb\/(Value.slice ta tn tc).ownBlock=some k) w w8:=Fx.ko.grow U hg1 (fun k e => .inl (.inr e));have arn:(fun k=>k=tb\/(Value.slice ta tn tc).ownBlock=some k) c\/w.heap.size<=c:=vE.elim (fun e => .inl (.inr e)) (fun e => .inr (by rw[e]; exact U.size));refine au (pt tb)<|au (pt tb)<|jf m17 0 (dz c (tn+1) l) fun w9 m18 s7 z2 => ?_;have m19:aM w9 tb 1 (fun _=>dz c (tn+1) l) 136:=eP m18;have m20:=m16.agG s7 (by omega);have b9:=b8.then s7 (.inl (.inl rfl));refine aC<|yh (fun f n => ∃ k:Nat,k<=tn/\k=down (fun i=>decide (id<t i 0)) tn/\f 0=(pt tb)/\f 1=aG id/\f 2=aG par/\f 7=av (k:Int)/\aM n tb 1 (fun _=>dz c (tn+1) l) 136/\aY n B 207 2 (dz c (tn+1) l) (tn+1) (rv .u64 (rH (IG t tn k)))/\ko (fun k=>k=tb\/(Value.slice ta tn tc).ownBlock=some k) w n) ?_ ?_
 ·refine Wb<|Wo (fun f n => ∃ k:Nat,k<=tn/\(∀ i,k<=i->i<tn->id<t i 0)/\f 0=(pt tb)/\f 1=aG id/\f 2=aG par/\f 7=av (k:Int)/\aM n tb 1 (fun _=>dz c (tn+1) l) 136/\aY n B 207 2 (dz c (tn+1) l) (tn+1) (rv .u64 (rH (IG t tn k)))/\ko (fun k=>k=tb\/(Value.slice ta tn tc).ownBlock=some k) w n) (fun f _=>(intOf (f 7)).toNat) ⟨tn,by omega,(fun i q h2=>L_ q (by omega)),q,(h2.trans ic),(h3.trans ic),ic,m19,m20,b9⟩ ?_;rintro f2 uE ⟨k,E,Z,u,P,Y,r,Q,R,J⟩;refine aQ<|ay<|bA r ?_;by_cases c50:0<(k:Int)
  ·obtain⟨j,X⟩ : ∃ j,k=j+1:=⟨k-1,by omega⟩;refine Lv aH (lK c50)<|au aH<|bA u<|au (pt tb)<|au (pt tb)<|Lv (dz c (tn+1) l) (aR Q.aJ 0)<|bA r<|Lv (av j) jK<|Lv (pf c (2*j)) (fC 2)<|au (pf c (2*j))<|Lv (aG (t j 0)) (aR R.aJ (2*j) (HY (by omega) (by omega) (by omega)))<|bA P ?_;by_cases N:id<(t j 0)
   ·refine Lv aH (lK N)<|au aH<|aC<|aP<|Wk<|sN<|Wb<|aQ ?_;refine Wt 14 (by kernel_rfl) (by kernel_rfl) fun qN eX iM => ?_;have s8:eG uE.heap.size uE qN:=Sb eX;have⟨ad,m24⟩:=fB eX Q R;have b11:=J.then s8 (.inr J.size);refine yx (pt tb) (Kxm u)<|Oy (pt tb)<|Oy (pt tb)<|yx (dz c (tn+1) l) (aR ad.aJ 0)<|yx (av k) (Kxm r)<|yx (pt tb) (Kxm u)<|Oy (pt tb)<|Oy (pt tb)<|yx (dz c (tn+1) l) (aR ad.aJ 0)<|yx (av k) (Kxm r)<|yx (av j) jK<|yx (pf c (2*j)) (fC 2)<|yx (.agg (aA 2 (rv .u64 (t j)))) (dZ m24.aJ (2*j) (fun i hi=>amq (by omega) (by omega) hi))<|yx (pf c (2*k)) (fC 2)<|St.nil ?_;refine L6 m24 (2*k) fun Bg mU s9 z3 => ?_;have pK:=ad.cK s9 (by omega);have b12:=b11.then s9 arn;have pO:aY Bg B 207 2 (dz c (tn+1) l) (tn+1) (rv .u64 (rH (IG t tn j))):=mU.congr (Jf X (by omega));refine aC<|Wl<|bA r<|Lv (av j) jK<|au (av j)<|Ln<|bS<|iA ⟨j,by omega,(aha X Z N),u,(P.trans ic),(Y.trans ic),ic,pK,pO,b12⟩ ?_;show(intOf (av j)).toNat<_;simp only[r,intOf]; omega
   refine Lv aD (lM N)<|au aD<|aC<|aL<|Wx<|cZ<|iC<|dB ?_;exact nL ⟨k,E,(yF E (fun i a b=>f_ (Z i a b)) (.inr (fun j e=>by have O:j=_:=Nat.succ.inj (e.symm.trans X); subst O; exact g_ N))),u,(P.trans ic),(Y.trans ic),(r.trans ic),Q,R,J⟩
  refine Lv aD (lM c50)<|au aD<|bf<|bf<|bf<|bf<|bf<|bf<|bf<|bf<|bf<|bf<|bf<|au aD<|aC<|aL<|Wx<|cZ<|iC<|dB ?_;exact nL ⟨k,E,(yF E (fun i a b=>f_ (Z i a b)) (.inl (by omega))),u,(P.trans ic),(Y.trans ic),(r.trans ic),Q,R,J⟩
 rintro f3 BD ⟨k,E,ek,h8,h9,h10,h11,om,qb,b13⟩;refine ay<|bA h8<|au (pt tb)<|au (pt tb)<|Lv (dz c (tn+1) l) (aR om.aJ 0)<|bA h11<|bA h9<|bA h10<|au (.agg (aA 2 (bJ (bJ (rv .u64 (fun _=>0)) 0 1 (fun _=>aG id)) 1 1 (fun _=>aG par))))<|Lv (pf c (2*k)) (fC 2)<|L6 qb (2*k) (h1:=(fun j hj=>by rcases j with _|_|j <;> first|rfl|omega)) fun Bh qV oP z4 => ?_
 have mY:=om.cK oP (by omega);have b14:=b13.then oP arn;have m32:aY Bh B 207 2 (dz c (tn+1) l) (tn+1) (rv .u64 (rH (wF t k id par))):=qV.congr (Fa (by omega));refine aC<|ay<|au (av 0)<|aC<|Wr<|aK (av 0) ?_;have d:pU t tn id par=0:=by unfold pU; rw[b_ p,b_ (j_ o),b_ aa,b_ (fun h=>h.elim (fun h=>by omega) (agZ hK1 (by omega)))]
 exact⟨uD d.symm,b14,.inr ⟨d,c,l,mY,by rw[<- ek]; exact m32,fun e=>ayl (C_ e).symm⟩⟩
namespace Rt
def lU(o a:Int):Int:=if 1<=o/\o<=6/\1<=a/\a<1099511627776 then 1099511627776*o+a else 0
end Rt
theorem aym(o a:Int)(w:World) :
 Calls prog 111 #[av o,aG a] w fun e w'=>e = .returned (aG (lU o a))/\w'=w:=by
 refine bX func111 24 ?_;refine ay<|au (aG 0)<|aC<|aQ<|ay<|au (av o) ?_;by_cases f:o<1
 ·refine Lv aH (fK f)<|au aH<|bf<|bf<|au aH<|au aH<|bf<|bf<|au aH<|au aH<|bf<|bf<|au aH<|aC<|aP<|ay<|au (aG 0)<|aC<|Wr<|sR<|aK (aG 0) ?_;exact⟨K_ (fun q=>Ending.returned (Value.int .u64 q)) (Eq.symm (by unfold lU; rw[b_ (by omega)])),rfl⟩
 refine Lv aD (fM f)<|au aD<|au (av o) ?_;by_cases g:6<o
 ·refine Lv aH (lK g)<|au aH<|au aH<|bf<|bf<|au aH<|au aH<|bf<|bf<|au aH<|aC<|aP<|ay<|au (aG 0)<|aC<|Wr<|sR<|aK (aG 0) ?_;exact⟨K_ (fun q=>Ending.returned (Value.int .u64 q)) (Eq.symm (by unfold lU; rw[b_ (by omega)])),rfl⟩
 refine Lv aD (lM g)<|au aD<|au aD<|au (aG a) ?_;by_cases c:a<1
 ·refine Lv aH (fK c)<|au aH<|au aH<|bf<|bf<|au aH<|aC<|aP<|ay<|au (aG 0)<|aC<|Wr<|sR<|aK (aG 0) ?_;exact⟨K_ (fun q=>Ending.returned (Value.int .u64 q)) (Eq.symm (by unfold lU; rw[b_ (by omega)])),rfl⟩
 refine Lv aD (fM c)<|au aD<|au aD<|au (aG a) ?_;by_cases d:1099511627776<=a
 ·refine Lv aH (mW d)<|au aH<|aC<|aP<|ay<|au (aG 0)<|aC<|Wr<|sR<|aK (aG 0) ?_;exact⟨K_ (fun q=>Ending.returned (Value.int .u64 q)) (Eq.symm (by unfold lU; rw[b_ (by omega)])),rfl⟩
 refine Lv aD (mM d)<|au aD<|aC<|aL<|Wk<|sN<|ay<|au (av o)<|Lv (aG o) (dQ rfl rfl (by kernel_rfl) underlying26 (jO (by omega) rfl))<|Lv (aG (1099511627776*o)) (MF (b:=40) rfl rfl rfl (by decide) (jO (by omega) (by omega)))<|au (aG a)<|Lv (aG (1099511627776*o+a)) gu<|au (aG (1099511627776*o+a))<|aC<|Wr<|aK (aG (1099511627776*o+a)) ?_;exact⟨K_ (fun q=>Ending.returned (Value.int .u64 q)) (Eq.symm (by unfold lU; rw[d_ (by omega)])),rfl⟩
section
namespace Rt
structure Ab where
 dF:Nat->Bool
 left:Nat->Bool
 own:Nat->Int
 has:Int->Bool
 par:Int->Int
 R:Int->Nat->Int
 gh:Int->Int->Bool
 g:Int->Int->Nat->Int
 Es:Int->Int->Bool
def Ab.up(A:Ab)(x:Int):Nat->Int
 | 0=>x
 | i+1=>A.par (A.up x i)
def Ab.on(A:Ab)(x y:Int):Bool:=A.has y&&(List.range 6).any fun i=>decide (A.up x i=y)
def wU(v:dA):Int:=lU v.o v.seq
def aV(v:dA):Nat:=(v.o-1).toNat
def dV(v:dA):Nat:=(v.dst-1).toNat
def Ab.dl(A:Ab)(v:dA)(y:Int)(p:Nat):Int :=
 if v.aI=1 then(if y=wU v/\p=aV v then v.bF else 0)
 else if v.aI=2 then(if y=v.node/\p=aV v then v.bF else 0)
 else if v.aI=3 then(if A.on v.node y=true/\p=6+aV v then v.bF else 0)
 else if v.aI=4 then(if A.on (A.g v.o v.of 2) y=true/\p=12+aV v then A.g v.o v.of 3 else 0)
 else if v.aI=5 then(if y=v.node/\p=18+(6*aV v+dV v)then v.bF else 0)
 else 0
def Ab.ru(A:Ab)(v:dA):Ab where
 dF:=fun j=>A.dF j || (decide (v.aI=6)&&decide (j=dV v))
 left:=fun j=>A.left j || (decide (v.aI=7)&&decide (j=aV v))
 own:=fun j=>A.own j+if v.aI=1/\j=aV v then 1 else 0
 has:=fun y=>A.has y || (decide (v.aI=1)&&decide (y=wU v))
 par:=fun y=>if v.aI=1/\y=wU v then v.node else A.par y
 R:=fun y p=>A.R y p+A.dl v y p
 gh:=fun o r=>A.gh o r || (decide (v.aI=3)&&(decide (o=v.o)&&decide (r=v.bK)))
 g:=fun o r j=>if v.aI=3/\o=v.o/\r=v.bK then(if j=2 then v.node else if j=3 then v.bF else 0)else if v.aI=4/\o=v.o/\r=v.of/\j=4 then v.bK else A.g o r j
 Es:=fun o r=>A.Es o r || ((decide (v.aI=3) || decide (v.aI=4))&&(decide (o=v.o)&&decide (r=v.bK)))
structure Ab.Ok(A:Ab):Prop where
 z:A.has 0=false
 p : ∀ y,A.has y=true->A.par y=0\/A.has (A.par y)=true
 p0 : ∀ y,A.has y=false->A.par y=0
 g : ∀ o r,A.gh o r=true->A.has (A.g o r 2)=true
 r0 : ∀ y p,A.has y=false->A.R y p=0
structure Ab.QS(A:Ab)(v:dA):Prop where
 n1:v.aI=1->A.has (wU v)=false/\wU v≠0/\(v.node=0\/A.has v.node=true)
 n2:v.aI=2->A.has v.node=true
 n3:v.aI=3->A.has v.node=true/\A.gh v.o v.bK=false
 n4:v.aI=4->A.gh v.o v.of=true
 n5:v.aI=5->A.has v.node=true
section
variable {A B:Ab} {u v:dA} {y:Int}
theorem Ab.MQ(h:A.Ok){x:Int}(hx:A.has x=true) : ∀ i,A.up x i=0\/A.has (A.up x i)=true
 | 0 => .inr hx
 | i+1=>by
   show A.par (A.up x i)=0\/A.has (A.par (A.up x i))=true
   rcases Ab.MQ h hx i with e|e
   ·left; rw[e]; exact h.p0 0 h.z
   ·exact h.p _ e
theorem Ab.Fp(hy:A.has y=true):(A.ru v).has y=true:=by show(A.has y || _)=true; simp_all
theorem Ab.OG(a:A.QS v)(hy:A.has y=true):(A.ru v).par y=A.par y:=by
 show(if v.aI=1/\y=wU v then v.node else A.par y)=A.par y
 grind [a.n1]
theorem Ab.abx(c:A.QS v):(A.ru v).par 0=A.par 0:=by
 show(if v.aI=1/\(0:Int)=wU v then v.node else A.par 0)=A.par 0;rw[b_ ?_];rintro ⟨a,b⟩;exact(c.n1 a).2.1 b.symm
theorem Ab.aby(h:A.Ok)(a:A.QS v){x:Int}(hx:A.has x=true) : ∀ i,(A.ru v).up x i=A.up x i
 | 0=>rfl
 | i+1=>by
   show(A.ru v).par ((A.ru v).up x i)=A.par (A.up x i);rw[Ab.aby h a hx i]
   rcases Ab.MQ h hx i with e|e
   ·rw[e]; exact Ab.abx a
   ·exact Ab.OG a e
theorem Ab.amr(h:A.Ok)(b:A.QS v)(hx:A.has a=true)(y:Int):(A.ru v).on a y=A.on a y:=by
 unfold Ab.on;have e:((List.range 6).any fun i=>decide ((A.ru v).up a i=y))=((List.range 6).any fun i=>decide (A.up a i=y)):=by
  grind [Ab.aby]
 rw[e]
 cases hc:(List.range 6).any fun i=>decide (A.up a i=y)
 ·simp_all
 rw[Bool.and_true,Bool.and_true];obtain⟨i,_,x⟩:=List.any_eq_true.1 hc;have x:=h_ x;show(A.has y || (decide (v.aI=1)&&decide (y=wU v)))=A.has y
 grind [Ab.MQ,b.n1]
theorem Ab.Ke(o:A.QS v)(e:A.gh a d=true)(j:Nat)(f:j≠4):(A.ru v).g a d j=A.g a d j:=by
 show(if v.aI=3/\a=v.o/\d=v.bK then(if j=2 then v.node else if j=3 then v.bF else 0)else if v.aI=4/\a=v.o/\d=v.of/\j=4 then v.bK else A.g a d j)=A.g a d j;rw[b_ ?_,b_ ?_]
 ·omega
 rintro ⟨b,c,r⟩
 simp_all [o.n3]
theorem Ab.Ul(o:A.gh a d=true):(A.ru v).gh a d=true:=by show(A.gh a d || _)=true; simp_all
theorem Ab.ams(h:A.Ok)(b:A.QS v):(A.ru v).Ok where
 z:=by
  show(A.has 0 || (decide (v.aI=1)&&decide ((0:Int)=wU v)))=false
  grind [h.z,b.n1]
 p:=fun y a=>by
  have a:(A.has y || (decide (v.aI=1)&&decide (y=wU v)))=true:=a;show(if v.aI=1/\y=wU v then v.node else A.par y)=0\/(A.ru v).has (if v.aI=1/\y=wU v then v.node else A.par y)=true
  grind [b.n1,Ab.Fp,h.p]
 p0:=fun y a=>by
  have a:(A.has y || (decide (v.aI=1)&&decide (y=wU v)))=false:=a;rw[Bool.or_eq_false_iff]at a;show(if v.aI=1/\y=wU v then v.node else A.par y)=0
  grind [h.p0]
 g:=fun o r d=>by
  have d:(A.gh o r || (decide (v.aI=3)&&(decide (o=v.o)&&decide (r=v.bK))))=true:=d;by_cases c:v.aI=3/\o=v.o/\r=v.bK
  ·have:(A.ru v).g o r 2=v.node:=by show(if v.aI=3/\o=v.o/\r=v.bK then _ else _)=v.node; omega
   grind [Ab.Fp,b.n3]
  grind [Ab.Ke,Ab.Fp,h.g]
 r0:=fun y p a=>by
  have a:(A.has y || (decide (v.aI=1)&&decide (y=wU v)))=false:=a;rw[Bool.or_eq_false_iff]at a;show A.R y p+A.dl v y p=0
  grind [h.r0,Ab.on,Ab.dl,b.n2,b.n5]
theorem Ab.amu(h:A.Ok)(b:A.QS u)(a:A.QS v)(y:Int)(p:Nat):(A.ru u).dl v y p=A.dl v y p:=by
 grind [Ab.dl,Ab.amr,a.n3,a.n4,Ab.Ke,h.g]
theorem Ab.YZ(h1:A.dF=B.dF)(a:A.left=B.left)(b:A.own=B.own)(c:A.has=B.has)(d:A.par=B.par)(e:A.R=B.R)(f:A.gh=B.gh)(h:A.g=B.g)(i:A.Es=B.Es):A=B:=by
 cases A; simp_all
theorem Ab.abz(h:A.Ok)(c:A.QS u)(d:A.QS v)(b:u.o≠v.o)(a:u.aI=1->v.aI=1->wU u≠wU v):(A.ru u).ru v=(A.ru v).ru u:=by
 apply Ab.YZ
 ·funext j; exact Bool.or_right_comm _ _ _
 ·funext j; exact Bool.or_right_comm _ _ _
 ·funext j; exact Int.add_right_comm _ _ _
 ·funext y; exact Bool.or_right_comm _ _ _
 ·funext y
  show(if v.aI=1/\y=wU v then v.node else if u.aI=1/\y=wU u then u.node else A.par y)=(if u.aI=1/\y=wU u then u.node else if v.aI=1/\y=wU v then v.node else A.par y);omega
 ·funext y p
  show A.R y p+A.dl u y p+(A.ru u).dl v _ p=A.R y p+A.dl v _ p+(A.ru v).dl u y p
  grind [Ab.amu]
 ·funext o r; exact Bool.or_right_comm _ _ _
 ·funext o r j
  show(if v.aI=3/\o=v.o/\r=v.bK then _ else if v.aI=4/\o=v.o/\r=v.of/\j=4 then v.bK else if u.aI=3/\o=u.o/\r=u.bK then _ else if u.aI=4/\o=u.o/\r=u.of/\j=4 then u.bK else A.g o r j) =
   (if u.aI=3/\o=u.o/\r=u.bK then _ else if u.aI=4/\o=u.o/\r=u.of/\j=4 then u.bK else if v.aI=3/\o=v.o/\r=v.bK then _ else if v.aI=4/\o=v.o/\r=v.of/\j=4 then v.bK else A.g o r j)
  grind
 funext o r; exact Bool.or_right_comm _ _ _
end
end Rt
end
section
namespace Rt
def II(x:Nat->Int)(a:Nat):Int:=x a-x (6+a)+x (12+a)+(x (18+(6*0+a))+x (18+(6*1+a))+x (18+(6*2+a))+x (18+(6*3+a))+x (18+(6*4+a))+x (18+(6*5+a)))-(x (18+(6*a+0))+x (18+(6*a+1))+x (18+(6*a+2))+x (18+(6*a+3))+x (18+(6*a+4))+x (18+(6*a+5)))
structure Ab.WR(A:Ab)(v:dA):Prop where
 dF:A.dF (aV v)=true
 left:A.left (aV v)=false
 pre:A.QS v
 k1:v.aI=1->A.own (aV v)<5/\v.bF<=140737488355328 /\ ¬ ∀ i,i<4->A.has (A.up v.node i)=true
 k2:v.aI=2->A.R v.node (aV v)+v.bF<=140737488355328
 k3:v.aI=3->A.Es v.o v.bK=false /\ ∀ y,A.on v.node y=true->v.bF<=II (A.R y) (aV v)
 k4:v.aI=4->A.Es v.o v.bK=false/\A.g v.o v.of 4=0 /\ ∀ y,A.on (A.g v.o v.of 2) y=true->A.g v.o v.of 3<=A.R y (6+aV v)-A.R y (12+aV v)
 k5:v.aI=5->A.dF (dV v)=true/\v.bF<=II (A.R v.node) (aV v)
def ahb(a p:Nat):Prop:=p=a\/p=6+a\/p=12+a \/ ∃ k,k<6/\p=18+(6*a+k)
structure Ab.Le(A B:Ab)(a:Nat):Prop where
 dF : ∀ j,A.dF j=true->B.dF j=true
 left:B.left a=A.left a
 own:B.own a=A.own a
 has : ∀ y,A.has y=true->B.has y=true
 JX : ∀ s,1<=s/\s<1099511627776->B.has (lU ((a:Int)+1) s)=A.has (lU ((a:Int)+1) s)
 par : ∀ y,A.has y=true->B.par y=A.par y
 R1 : ∀ y p,A.has y=true->ahb a p->B.R y p=A.R y p
 R2 : ∀ y k,A.has y=true->k<6->A.R y (18+(6*k+a))<=B.R y (18+(6*k+a))
 gh : ∀ o r,A.gh o r=true->B.gh o r=true /\ ∀ j,j≠4->B.g o r j=A.g o r j
 gho : ∀ r,B.gh ((a:Int)+1) r=A.gh ((a:Int)+1) r
 go : ∀ r,B.g ((a:Int)+1) r 4=A.g ((a:Int)+1) r 4
 Es : ∀ r,B.Es ((a:Int)+1) r=A.Es ((a:Int)+1) r
structure WS(v:dA):Prop where
 o:1<=v.o/\v.o<=6
 seq:1<=v.seq/\v.seq<1099511627776
 bF:0<=v.bF
 dst:v.aI=5->1<=v.dst/\v.dst<=6
section
variable {A B:Ab} {u v:dA} {a:Nat} {x y:Int}
theorem WS.MR(h:WS v):v.o=(aV v:Int)+1/\aV v<6:=by grind [h.o,aV]
theorem WS.id(h:WS v):wU v=1099511627776*v.o+v.seq:=by
 grind [wU,lU,h.o,h.seq]
theorem WS.ne(a:WS u)(b:WS v)(h:u.o≠v.o):wU u≠wU v:=by
 grind [a.id,b.id,a.seq,b.seq]
theorem Ab.Le.refl(A:Ab)(a:Nat):A.Le A a:=⟨fun _ h=>h,rfl,rfl,fun _ h=>h,fun _ _=>rfl,fun _ _=>rfl,fun _ _ _ _=>rfl,fun _ _ _ _=>M_ _,fun _ _ h=>⟨h,fun _ _=>rfl⟩,fun _=>rfl,fun _=>rfl,fun _=>rfl⟩
theorem Ab.Le.up(h:A.Le B a)(b:A.Ok)(c:B.Ok)(hx:A.has x=true) : ∀ i,B.up x i=A.up x i
 | 0=>rfl
 | i+1=>by
   show B.par (B.up x i)=A.par (A.up x i);rw[h.up b c hx i]
   rcases Ab.MQ b hx i with e|e
   ·rw[e,b.p0 0 b.z,c.p0 0 c.z]
   ·exact h.par _ e
theorem Ab.Le.on(h:A.Le B a)(c:A.Ok)(b:B.Ok)(hx:A.has x=true)(y:Int):B.on x y=A.on x y:=by
 grind [Ab.on,h.up,Ab.MQ,b.z,h.has]
theorem Ab.Um(h:A.on x y=true):A.has y=true:=by grind [Ab.on]
theorem Ab.Le.loc(h:A.Le B a)(ha:a<6)(hy:A.has y=true):II (A.R y) a<=II (B.R y) a:=by
 have o : ∀ k,k<6->B.R y (18+(6*a+k))=A.R y (18+(6*a+k)):=fun k b=>h.R1 y _ hy (.inr (.inr (.inr ⟨k,b,rfl⟩)));unfold II;rw[h.R1 y a hy (.inl rfl),h.R1 y (6+a) hy (.inr (.inl rfl)),h.R1 y (12+a) hy (.inr (.inr (.inl rfl))),o 0 (by omega),o 1 (by omega),o 2 (by omega),o 3 (by omega),o 4 (by omega),o 5 (by omega)];have:=h.R2 y 0 hy (by omega); have:=h.R2 y 1 hy (by omega); have:=h.R2 y 2 hy (by omega); have:=h.R2 y 3 hy (by omega); have:=h.R2 y 4 hy (by omega); have:=h.R2 y 5 hy (by omega);omega
theorem Ab.Le.okE(h:A.Le B (aV v))(l:A.Ok)(j:B.Ok)(p:WS v)(a:A.WR v):B.WR v:=by
 obtain⟨u,m⟩:=p.MR;have P:=a.pre;have t : ∀ r,B.gh v.o r=A.gh v.o r:=fun r=>by grind [h.gho]
 have n : ∀ r,B.Es v.o r=A.Es v.o r:=fun r=>by grind [h.Es]
 refine⟨h.dF _ a.dF,h.left.trans a.left,⟨fun k => ?_,fun k=>h.has _ (P.n2 k),fun k=>⟨h.has _ (P.n3 k).1,(t _).trans (P.n3 k).2⟩,fun k=>(t _).trans (P.n4 k),fun k=>h.has _ (P.n5 k)⟩,fun k => ?_,fun k => ?_,fun k => ?_,fun k => ?_,fun k=>⟨h.dF _ (a.k5 k).1,P_ (a.k5 k).2 (h.loc m (P.n5 k))⟩⟩
 ·obtain⟨c,d,f⟩:=P.n1 k;refine⟨?_,d,f.imp (fun q=>q) (h.has _)⟩;have:=h.JX v.seq p.seq;rw[<- u]at this;exact this.trans c
 ·obtain⟨c,d,f⟩:=a.k1 k;refine⟨by grind [h.own],d,fun q=>f fun i w => ?_⟩
  rcases(P.n1 k).2.2 with e|e
  ·exfalso;have:B.up v.node 0=0:=e
   grind [j.z]
  grind [h.up,Ab.MQ,j.z]
 ·rw[h.R1 _ _ (P.n2 k) (.inl rfl)]; exact a.k2 k
 ·refine⟨(n _).trans (a.k3 k).1,fun y b => ?_⟩;rw[h.on l j (P.n3 k).1]at b;exact P_ ((a.k3 k).2 y b) (h.loc m (Ab.Um b))
 obtain⟨c,d,f⟩:=a.k4 k;have s:=(h.gh _ _ (P.n4 k)).2;refine⟨(n _).trans c,by grind [h.go],fun y b => ?_⟩;rw[s 2 (by decide),h.on l j (l.g _ _ (P.n4 k))]at b;rw[s 3 (by decide),h.R1 _ _ (Ab.Um b) (.inr (.inl rfl)),h.R1 _ _ (Ab.Um b) (.inr (.inr (.inl rfl)))]
 simp_all
end
end Rt
end
section
namespace Rt
section
variable {A B:Ab} {u v:dA} {a:Nat} {x y:Int}
theorem Ab.Le.dl(h:A.Le B a)(f:A.Ok)(j:B.Ok)(b:A.QS u)(y:Int)(p:Nat):B.dl u y p=A.dl u y p:=by
 unfold Ab.dl;by_cases c:u.aI=1
 ·omega
 rw[b_ c,b_ c];by_cases d:u.aI=2
 ·omega
 rw[b_ d,b_ d];by_cases e:u.aI=3
 ·grind [h.on,b.n3]
 rw[b_ e,b_ e];by_cases i:u.aI=4
 ·have k:=h.gh _ _ (b.n4 i)
  grind [h.on,f.g,b.n4]
 omega
theorem OH{p q c:Bool}(h:p=true->q=true)(a:(p || c)=true):(q || c)=true:=by
 grind
theorem Ab.Le.both(h:A.Le B a)(f:A.Ok)(i:B.Ok)(l:A.QS u)(m:B.QS u):(A.ru u).Le (B.ru u) a:=by
 have t : ∀ y,(A.ru u).has y=true->A.has y=true\/(A.has y=false/\B.has y=false/\u.aI=1/\y=wU u):=fun y b=>by
  have b:(A.has y || (decide (u.aI=1)&&decide (y=wU u)))=true:=b
  grind [m.n1]
 refine⟨fun j e=>OH (h.dF j) e,?_,?_,fun y b=>OH (h.has y) b,fun s n => ?_,fun y b => ?_,fun y p b w => ?_,fun y k b v => ?_,fun o r d=>⟨OH (fun q=>(h.gh o r q).1) d,fun j e => ?_⟩,fun r => ?_,fun r => ?_,fun r => ?_⟩
 ·show(B.left a || _)=(A.left a || _); rw[h.left]
 ·show B.own a+_=A.own a+_; rw[h.own]
 ·show(B.has _ || _)=(A.has _ || _); rw[h.JX s n]
 ·show(if u.aI=1/\y=wU u then u.node else B.par y)=(if u.aI=1/\y=wU u then u.node else A.par y)
  grind [h.par]
 ·show B.R y p+B.dl u y p=A.R y p+A.dl u y p
  grind [h.dl,h.R1,f.r0,i.r0]
 ·show A.R y _+A.dl u y _<=B.R y _+B.dl u y _;rw[h.dl f i l]
  rcases t y b with q|⟨q1,q2,_,_⟩
  ·simp_all [h.R2]
  grind [f.r0,i.r0]
 ·show(if u.aI=3/\o=u.o/\r=u.bK then(if j=2 then u.node else if j=3 then u.bF else 0)else if u.aI=4/\o=u.o/\r=u.of/\j=4 then u.bK else B.g o r j)=(if u.aI=3/\o=u.o/\r=u.bK then(if j=2 then u.node else if j=3 then u.bF else 0)else if u.aI=4/\o=u.o/\r=u.of/\j=4 then u.bK else A.g o r j);by_cases c:u.aI=3/\o=u.o/\r=u.bK
  ·omega
  rw[b_ c,b_ c,b_ (show ¬ (u.aI=4/\o=u.o/\r=u.of/\j=4)from fun q=>e q.2.2.2),b_ (show ¬ (u.aI=4/\o=u.o/\r=u.of/\j=4)from fun q=>e q.2.2.2)];have d:=d
  rcases Bool.or_eq_true_iff.1 d with q|q
  ·simp_all [h.gh]
  simp_all
 ·show(B.gh _ r || _)=(A.gh _ r || _); rw[h.gho r]
 ·show(if u.aI=3/\(a:Int)+1=u.o/\r=u.bK then(if 4=2 then u.node else if 4=3 then u.bF else 0)else if u.aI=4/\(a:Int)+1=u.o/\r=u.of/\4=4 then u.bK else B.g _ r 4)=(if u.aI=3/\(a:Int)+1=u.o/\r=u.bK then(if 4=2 then u.node else if 4=3 then u.bF else 0)else if u.aI=4/\(a:Int)+1=u.o/\r=u.of/\4=4 then u.bK else A.g _ r 4);rw[h.go r]
 show(B.Es _ r || _)=(A.Es _ r || _); rw[h.Es r]
theorem Ab.abA(c:WS u)(p:aV u≠a)(ha:a<6)(b:ahb a m)(y:Int):A.dl u y m=0:=by
 obtain⟨j,n⟩:=c.MR;have o:m≠aV u:=by rcases b with e|e|e|⟨k,hk,e⟩ <;> omega
 have r:m≠6+aV u:=by rcases b with e|e|e|⟨k,hk,e⟩ <;> omega
 have s:m≠12+aV u:=by rcases b with e|e|e|⟨k,hk,e⟩ <;> omega
 unfold Ab.dl;by_cases f:u.aI=1
 ·omega
 rw[b_ f];by_cases g:u.aI=2
 ·omega
 rw[b_ g];by_cases h:u.aI=3
 ·omega
 rw[b_ h];by_cases i:u.aI=4
 ·omega
 rw[b_ i];by_cases d:u.aI=5
 ·have l:=c.dst d;rw[d_ d,b_ ?_];rintro ⟨_,q⟩;unfold dV at q
  rcases b with e|e|e|⟨k,hk,e⟩ <;> omega
 omega
theorem Ab.arp(a:WS u){p:Nat}(b:18<=p)(y:Int):0<=A.dl u y p:=by
 grind [a.MR,a.bF,Ab.dl]
theorem Ab.Le.step(h:A.Le B a)(i:B.Ok)(c:WS u)(e:B.QS u)(n:aV u≠a)(ha:a<6):A.Le (B.ru u) a:=by
 obtain⟨f,v⟩:=c.MR
 refine⟨fun j m => ?_,?_,?_,fun y b=>Ab.Fp (h.has y b),fun s t => ?_,fun y b=>(Ab.OG e (h.has y b)).trans (h.par y b),fun y p b q => ?_,fun y k b d => ?_,fun o r l => ?_,fun r => ?_,fun r => ?_,fun r => ?_⟩
 ·show(B.dF j || _)=true; grind [h.dF]
 ·show(B.left a || (decide (u.aI=7)&&decide (a=aV u)))=A.left a
  grind [h.left]
 ·show B.own a+(if u.aI=1/\a=aV u then 1 else 0)=A.own a
  grind [h.own]
 ·show(B.has _ || (decide (u.aI=1)&&decide (lU ((a:Int)+1) s=wU u)))=_
  grind [lU,c.id,c.seq,h.JX]
 ·show B.R y p+B.dl u y p=A.R y p
  grind [Ab.abA,h.R1]
 ·show A.R y _<=B.R y _+B.dl u y _;have:=h.R2 y k b d;have:=Ab.arp (A:=B) c (p:=18+(6*k+a)) (by omega) y;omega
 ·grind [h.gh,Ab.Ul,Ab.Ke]
 ·show(B.gh _ r || (decide (u.aI=3)&&(decide ((a:Int)+1=u.o)&&decide (r=u.bK))))=_
  grind [h.gho]
 ·show(if u.aI=3/\(a:Int)+1=u.o/\r=u.bK then(if 4=2 then u.node else if 4=3 then u.bF else 0)else if u.aI=4/\(a:Int)+1=u.o/\r=u.of/\4=4 then u.bK else B.g _ r 4)=_
  grind [h.go]
 show(B.Es _ r || ((decide (u.aI=3) || decide (u.aI=4))&&(decide ((a:Int)+1=u.o)&&decide (r=u.bK))))=_
 grind [h.Es]
end
end Rt
end
section
theorem ahc(j:Nat):gP x (0*m) y j=y j:=by grind [gP]
theorem zC(id par:Int)(R:Nat->Int)(j:Nat):(mV id par R j).oneCell'=true:=by unfold mV; split <;> (try split) <;> rfl
theorem abB(id par:Int)(R:Nat->Int)(h:m=k+2:=by omega):mV id par R m=av (R k):=by grind [mV]
theorem Au(x:Nat->Int)(j:Nat):(lQ x j).oneCell'=true:=by unfold lQ; split <;> (try split) <;> rfl
theorem ahd(m:ow)(j:Nat):(LP m j).oneCell'=true:=zC _ _ _ _
theorem ahe(m:ow)(j:Nat):(Ka m j).oneCell'=true:=Au _ _
theorem qj(m:Bn)(j:Nat):(dS m j).oneCell'=true:=by unfold dS; repeat (first|rfl|split)
def yt(m:ow)(i:Nat):Value := .slice (m.ra i) (m.rn i) (m.rc i)
def yT(w:World)(B k:Nat)(m:ow):Prop :=
 (∀ i,i<k->aY w B 26 1 (yt m i) (m.rn i) (rv .u64 (m.rq i))) /\ ∀ i j,i<k->j<k->i≠j -> ∀ g,(yt m i).ownBlock=some g->(yt m j).ownBlock≠some g
section
variable {w w':World} {B k:Nat} {m:ow}
theorem yT.up(h:yT w B k m)(a:Below w.heap.size w w'):yT w' B k m:=⟨fun i b=>(h.1 i b).up a,h.2⟩
instance:Rt.Tr w w' (yT w B k m) (yT w' B k m):=⟨fun b h=>h.up b⟩
theorem yT.nA{a:List TypeId}(h:yT w B k m)(c:jk a w w')(d:a.contains 26=false):yT w' B k m:=⟨fun i b=>(h.1 i b).nA c d,h.2⟩
instance {a:List TypeId}:Rt.Tc a w w' (yT w B k m) (yT w' B k m) (!(a.contains 26)):=⟨fun b h e=>h.nA b (by simpa using e)⟩
theorem yT.zero(w:World)(B:Nat)(m:ow):yT w B 0 m:=⟨fun _ h=>L_ h (z_ _),fun _ _ h=>L_ h (z_ _)⟩
theorem yT.fresh(h:yT w B k m)(c:z = .slice none 0 0\/z.ownBlock=(Value.slice none 0 0).ownBlock\/z.ownBlock=some w.heap.size) : ∀ i,i<k -> ∀ g,(yt m i).ownBlock=some g->z.ownBlock≠some g:=fun i b g a e=>by
 have d:=((h.1 i b).ge a).2
 rcases c with rfl|e2|e2
 ·cases e
 ·rw[e]at e2; cases e2
 ·rw[e]at e2; have:=C_ e2; omega
theorem yT.snoc{a:ow}(h:yT w B k m)(b : ∀ i,i<k->yt a i=yt m i/\a.rn i=m.rn i/\a.rq i=m.rq i)(r:aY w B 26 1 (yt a k) (a.rn k) (rv .u64 (a.rq k)))(s : ∀ i,i<k -> ∀ g,(yt m i).ownBlock=some g->(yt a k).ownBlock≠some g):yT w B (k+1) a:=by
 refine⟨fun i n => ?_,fun i j n t o g c => ?_⟩
 ·by_cases e:i=k
  ·simp_all
  obtain⟨d,f,l⟩:=b i (by omega);rw[d,f,l]; exact h.1 i (by omega)
 by_cases p:i=k
 ·grind
 rw[(b i (by omega)).1]at c;by_cases q:j=k
 ·grind
 rw[(b j (by omega)).1]; exact h.2 i j (by omega) (by omega) o g c
end
structure zU(w:World)(B p:Nat)(m:ow):Prop where
 c:aM w p 27 (nQ m) 48
 n:aY w B 69 56 (.slice m.s.na m.s.nn m.s.nc) m.s.nn (LP m)
 g:aY w B 96 5 (.slice m.s.ga m.s.gn m.s.gc) m.s.gn (Ka m)
 tc:aM w m.tb 1 (fun _ => .slice m.ta m.tn m.tc) 136
 t:aY w B 207 2 (.slice m.ta m.tn m.tc) m.tn (QN m.t)
 r:yT w B 6 m
 pB:B<=p
 tB:B<=m.tb
 bn:m.s.nn<=1000
 bg:m.s.gn<=1000000
 bt:m.tn<=1000
 br : ∀ i,i<6->m.rn i<=1000000
section
variable {w w':World} {B p:Nat} {m:ow}
theorem zU.ldg(h:zU w B p m):H6 w p m where
 c:=h.c.aJ
 an:=h.n.oI
 ag:=h.g.oI
 tc:=h.tc.aJ
 YS:=h.t.oI
 ar:=fun i a=>(h.r.1 i a).oI
 bn:=by grind [h.bn]
 bg:=h.bg
 bt:=by grind [h.bt]
 br:=h.br
theorem zU.up(h:zU w B p m)(a:Below w.heap.size w w'):zU w' B p m := { h with c:=h.c.cK (Sb a) (u_ h.c.lt),n:=h.n.up a,g:=h.g.up a,tc:=h.tc.cK (Sb a) (u_ h.tc.lt),t:=h.t.up a,r:=h.r.up a }
instance:Rt.Tr w w' (zU w B p m) (zU w' B p m):=⟨fun b h=>h.up b⟩
def QT:List Nat := [48,69,96,136,207,26]
theorem zU.nA{d:List TypeId}(h:zU w B p m)(b:jk d w w')(i:(QT.all fun T => !d.contains T)=true):zU w' B p m:=by
 have a : ∀ e∈QT,d.contains e=false:=fun e f=>by
  simp_all
 exact { h with
  c:=h.c.nA b (a _ (by decide)),n:=h.n.nA b (a _ (by decide)),g:=h.g.nA b (a _ (by decide)),tc:=h.tc.nA b (a _ (by decide)),t:=h.t.nA b (a _ (by decide)),r:=h.r.nA b (a _ (by decide)) }
instance {a:List TypeId}:Rt.Tc a w w' (zU w B p m) (zU w' B p m) (QT.all fun T => !a.contains T):=⟨fun b h e=>h.nA b (by simpa using e)⟩
theorem zU.mono{b:Nat}(h:zU w B p m)(a:b<=B):zU w b p m := { h with n:=h.n.mono a,g:=h.g.mono a,t:=h.t.mono a,r:=⟨fun i c=>(h.r.1 i c).mono a,h.r.2⟩,pB:=m_ a h.pB,tB:=m_ a h.tB }
end
def QU(m:ow)(na:Option Addr)(nc:Nat)(ga:Option Addr)(gc tb:Nat)(ta:Option Addr)(tc:Nat)(ra:Nat->Option Addr)(rc:Nat->Nat)(k:Nat):ow :=
 { m with s := { m.s with na:=na,nc:=nc,ga:=ga,gc:=gc },tb:=tb,ta:=ta,tc:=tc,ra:=fun i=>if i<k then ra i else none,rn:=fun i=>if i<k then m.rn i else 0,rc:=fun i=>if i<k then rc i else 0 }
def aN{a:Type}(f:Nat->a)(k:Nat)(v:a):Nat->a:=fun i=>if i=k then v else f i
section
variable {m:ow} {na:Option Addr} {nc:Nat} {ga:Option Addr} {gc tb:Nat} {ta:Option Addr} {tc:Nat} {ra:Nat->Option Addr} {rc:Nat->Nat} {k:Nat}
theorem ahf(h:b=k+21):nQ (QU m na nc ga gc tb ta tc ra rc k) b = .slice none 0 0:=by
 subst h;rw[Aq (p:=k) _ rfl];show Value.slice (if k<k then ra k else none) (if k<k then m.rn k else 0) (if k<k then rc k else 0)=_
 simp_all
theorem Fq(h:b<k):yt (QU m na nc ga gc tb ta tc ra rc k) b = .slice (ra b) (m.rn b) (rc b):=by
 show Value.slice (if b<k then ra b else none) (if b<k then m.rn b else 0) (if b<k then rc b else 0)=_
 simp_all
theorem abC(d:j=k+21):dN (nQ (QU m na nc ga gc tb ta tc ra rc k)) j (.slice M (m.rn k) b)=nQ (QU m na nc ga gc tb ta tc (aN ra k M) (aN rc k b) (k+1)):=by
 subst d
 funext p
 unfold dN;by_cases e:p=k+21
 ·subst e; rw[d_ rfl];rw[Aq (p:=k) _ rfl];show _=Value.slice (if k<k+1 then aN ra k M k else none) (if k<k+1 then m.rn k else 0) (if k<k+1 then aN rc k b k else 0);simp[aN]
 rw[b_ e];unfold nQ;by_cases h:p<20
 ·rw[d_ h,d_ h]; rfl
 rw[b_ h,b_ h];by_cases a:p=20
 ·rw[d_ a,d_ a]; rfl
 rw[b_ a,b_ a];show Value.slice (if p-21<k then ra (p-21)else none) (if p-21<k then m.rn (p-21)else 0) (if p-21<k then rc (p-21)else 0)=Value.slice (if p-21<k+1 then aN ra k M (p-21)else none) (if p-21<k+1 then m.rn (p-21)else 0) (if p-21<k+1 then aN rc k b (p-21)else 0)
 grind [aN]
theorem ahg(c:yT h j k (QU m na nc ga gc tb ta tc ra rc k))(d:aY h j 26 1 (.slice M (m.rn k) b) (m.rn k) (rv .u64 (m.rq k)))
 (e : ∀ i,i<k -> ∀ g,(yt (QU m na nc ga gc tb ta tc ra rc k) i).ownBlock=some g->(Value.slice M (m.rn k) b).ownBlock≠some g):yT h j (k+1) (QU m na nc ga gc tb ta tc (aN ra k M) (aN rc k b) (k+1)):=by
 have a:yt (QU m na nc ga gc tb ta tc (aN ra k M) (aN rc k b) (k+1)) k = .slice M (m.rn k) b:=by
  grind [Fq,aN]
 refine c.snoc (fun i f=>⟨?_,?_,rfl⟩) ?_ ?_
 ·grind [Fq,aN]
 ·show(if i<k+1 then m.rn i else 0)=(if i<k then m.rn i else 0)
  grind
 ·rw[a];show aY h j 26 1 _ (if k<k+1 then m.rn k else 0) _;rw[d_]; exact d
 grind
end
def atM(m:ow)(na:Option Addr)(nc:Nat)(ga:Option Addr)(gc tb:Nat)(ta:Option Addr)(tc:Nat)(ra:Nat->Option Addr)(rc:Nat->Nat):ow :=
 { m with s := { m.s with na:=na,nc:=nc,ga:=ga,gc:=gc },tb:=tb,ta:=ta,tc:=tc,ra:=ra,rc:=rc }
section
variable {m:ow} {na:Option Addr} {nc:Nat} {ga:Option Addr} {gc tb:Nat} {ta:Option Addr} {tc:Nat} {ra:Nat->Option Addr} {rc:Nat->Nat}
theorem arq : ∀ j,j<27->nQ (QU m na nc ga gc tb ta tc ra rc 6) j=nQ (atM m na nc ga gc tb ta tc ra rc) j:=fun j b=>by
 unfold nQ;by_cases h:j<20
 ·rw[d_ h,d_ h]; rfl
 ·rw[b_ h,b_ h];by_cases a:j=20
  ·rw[d_ a,d_ a]; rfl
  ·rw[b_ a,b_ a];show Value.slice (if j-21<6 then ra (j-21)else none) (if j-21<6 then m.rn (j-21)else 0) (if j-21<6 then rc (j-21)else 0)=Value.slice (ra (j-21)) (m.rn (j-21)) (rc (j-21));rw[d_,d_,d_]
theorem ahh(h:yT c k 6 (QU m na nc ga gc tb ta tc ra rc 6)):yT c k 6 (atM m na nc ga gc tb ta tc ra rc):=by
 refine⟨fun i a => ?_,fun i j a b d g w => ?_⟩
 ·have:=h.1 i a;rw[Fq a]at this;have e:(QU m na nc ga gc tb ta tc ra rc 6).rn i=m.rn i:=by show(if i<6 then m.rn i else 0)=_; simp_all
  rw[e]at this;exact this
 have:=h.2 i j a b d g;rw[Fq a,Fq b]at this;exact this w
end
end
set_option maxRecDepth 20000 in
set_option maxHeartbeats 1000000 in
theorem amv(m:ow)(p:Nat)(w:World)(h:H6 w p m)(bn1:m.s.nn<=1000)(bt1:m.tn<=1000) :
 Calls prog 60 #[(pt p)] w fun e w' => ∃ p' m',e = .returned (pt p')/\m'.aW=m.aW/\zU w' w.heap.size p' m'/\Below w.heap.size w w':=by
 have N:=h.c;have lp:p<w.heap.size:=N.lt (by omega);have bn:=h.bn;have bg:=h.bg;have bt:=h.bt;have han:=h.an;have hag:=h.ag;have hat:=h.YS;have htc:=h.tc;have yC:m.tb<w.heap.size:=htc.lt (by omega);refine bX func60 79 ?_;refine ay<|au (.pointer none)<|aC<|ay<|au (pt p)<|au (pt p)<|au (pt p)<|Lv (.agg (aA 20 (dS m.s))) (dZ N 0 (fun j hj=>(show nQ _ (0+j)=dS _ j by rw[G_]; exact nD _ hj rfl)))<|au (.agg (aA 1 (fun _ => .slice none 0 0)))<|oq fun b w1 kV m1 s1 z1 => ?_;have⟨m2,m3,b1⟩:=iP s1.bP N htc (Below.refl w.heap.size w);have tJ:=iy kV;have rJ:p≠b:=by rw[kV]; exact u_ (N.lt (by omega))
 have akx:m.tb≠b:=by rw[kV]; exact u_ (htc.lt (by omega))
 have vB:=m1.lt;refine au (.agg (aA 27 (bJ (bJ zL0 0 20 (dS m.s)) 20 1 (fun _=>(pt b)))))<|Ga (m:=27) (y:=bJ (bJ zL0 0 20 (dS m.s)) 20 1 (fun _=>(pt b))) (by rfl) rfl rfl (bM _ _) rfl fun a w2 V m4 s2 z2 => ?_;have⟨m5,m6,m7,b2⟩:=jv s2.bP m2 m3 m1 b1;have xw:=gQ V b1.size;have abD:p≠a:=by rw[V]; exact u_ (m2.lt (by omega))
 have aky:m.tb≠a:=by rw[V]; exact u_ (m3.lt (by omega))
 have abE:=gD V m1.lt;have zR:=m4.lt;refine au (pt a)<|aC<|ay<|au (pt a)<|Fx.L.Wp (s:=56) (by rfl) rfl underlying40 (by kernel_rfl) rfl fun g3 w3 nO hO1 s3 => ?_;have P:aY w3 w.heap.size 69 56 (dz g3 0 0) 0 (LP m):=hO1 _ _ (by rw[nO]; exact b2.size);have⟨m9,m10,m11,kY,S⟩:=oK s3.bP m5 m6 m7 m4 b2;refine au (pt p)<|au (pt p)<|au (pt p)<|au (pf p 18)<|Lv (.slice m.s.na (m.s.nn) (m.s.nc)) (aR m9 18)<|Fx.L.tH (B:=w.heap.size) (s:=56) (bytes:=448) (k:=0) (m:=m.s.nn) (v:=dz g3 0 0) (x:=LP m) (by rfl) rfl rfl rfl underlying40 (by kernel_rfl) (by kernel_rfl) rfl rfl P (han.up S rfl) (fun j _=>ahd m j) (by omega) (by omega) S.size fun vv1 w4 ho1 Y vE => ?_;rw[G_]at ho1;obtain⟨C,E,rfl⟩:=ho1.val;have gT:=yc Y P;have m14:=m9.grown Y (P.not (by omega));have m15:=m10.grown Y (P.not (by omega));have⟨m16,m17⟩:=lZ gT m11 kY;have m13:aY w4 w.heap.size 69 56 (.slice C (m.s.nn) (E)) m.s.nn (LP m):=(ho1.congr (fun j _=>ahc j));have b4:Below w.heap.size w w4:=sO S Y S.size (fun q l=>(P.ge l).1);refine au (pt a)<|au (pt a)<|au (pf a 18)<|jf m17 18 (.slice C (m.s.nn) (E)) fun w5 m18 s4 z3 => ?_;have m19:=m14.cK s4 (by omega);have m20:=m15.cK s4 (by omega);have jC:=gJ s4 m17.ty;have⟨mG,m22⟩:=lZ jC m16 m13;have b5:=s4.below b4 b4.size (by omega);refine aC<|ay<|au (pt a)<|Fx.L.Wp (s:=5) (by rfl) rfl underlying41 (by kernel_rfl) rfl fun g4 w6 yL hO2 s5 => ?_;have O:aY w6 w.heap.size 96 5 (dz g4 0 0) 0 (Ka m):=hO2 _ _ (by rw[yL]; exact b5.size);have⟨m24,mU,pK,pO,om,T⟩:=oL s5.bP m19 m20 mG m22 m18 b5;refine au (pt p)<|au (pt p)<|au (pt p)<|au (pf p 19)<|Lv (.slice m.s.ga (m.s.gn) (m.s.gc)) (aR m24 19)<|Fx.L.tH (B:=w.heap.size) (s:=5) (bytes:=40) (k:=0) (m:=m.s.gn) (v:=dz g4 0 0) (x:=Ka m) (by rfl) rfl rfl rfl underlying41 (by kernel_rfl) (by kernel_rfl) rfl rfl O (hag.up T rfl) (fun j _=>ahe m j) (by omega) (by omega) T.size fun vv2 w7 ho2 Z Un => ?_;rw[G_]at ho2;obtain⟨D,F,rfl⟩:=ho2.val;have oz:=yc Z O;have qV:=m24.grown Z (O.not (by omega));have mY:=mU.grown Z (O.not (by omega));have⟨m32,oD,pz⟩:=wB oz pK pO om;have qb:aY w7 w.heap.size 96 5 (.slice D (m.s.gn) (F)) m.s.gn (Ka m):=(ho2.congr (fun j _=>ahc j));have b7:Below w.heap.size w w7:=sO T Z T.size (fun q l=>(O.ge l).1);refine au (pt a)<|au (pt a)<|au (pf a 19)<|jf pz 19 (.slice D (m.s.gn) (F)) fun w8 pQ s6 z4 => ?_;have rE:=qV.cK s6 (by omega);have sD:=mY.cK s6 (by omega);have tV:=gJ s6 pz.ty;have⟨qM,qW,vk⟩:=wB tV m32 oD qb;have b8:=s6.below b7 b7.size (by omega);refine aC<|aQ ?_;refine W.nC [0,1,2,4,5,6,11,12,13,3,7,8,9,10,14,15,16,17,18,19,20,21] [0,0,0,1,0,0,0,4,0,0,4,0,0,0,4,0,0,4,2,0,0,3] (jk [207]) vS Fx.jk.trans (bR := [(21,3,[3]),(18,7,[10,9,8,7]),(21,7,[7]),(18,10,[10]),(21,10,[10]),(18,14,[17,16,15,14]),(21,14,[14]),(18,17,[17]),(21,17,[17]),(19,18,[18]),(20,18,[18]),(21,18,[18])]) (by kernel_rfl) (by kernel_rfl) (by kernel_rfl) (by kernel_rfl) (by kernel_rfl) fun I eX iM => ?_;have⟨pR,qx,qy,uF,sQ,qc,U⟩:=kU eX rE sD qM qW vk pQ b8;refine aS (pt a)<|aS (pt a)<|aS (pf a 20)<|aS (pt a)<|aS (pt a)<|aS (pf a 20)<|aS (pt p)<|aS (pt p)<|aS (pf p 20)<|lI (v:=(pt b)) (by rfl) (by rfl) (vS _) (fun v1 hv1=>bE (x:=dN (dN (bJ (bJ zL0 0 20 (dS m.s)) 20 1 (fun _=>(pt b))) 18 (.slice C (m.s.nn) (E))) 19 (.slice D (m.s.gn) (F))) rfl rfl (by kernel_rfl) (qc.nA hv1 (by decide)).aJ (i:=20) (by omega) (by omega) (EY (by omega) (EY (by omega) (vw (j:=0) (by omega) (by omega) rfl)))) ?_;refine Rs (pt b) (aR qc.aJ 20 (EY (by omega) (EY (by omega) (vw (j:=0) (by omega) (by omega) rfl)))) ?_;refine aS (pt b)<|aS (pt b)<|Rs (.slice none 0 0) (aR qy.aJ 0) ?_;refine Rs (pt m.tb) (aR pR 20) ?_;refine aS (pt m.tb)<|aS (pt m.tb)<|Rs (.slice m.ta (m.tn) (m.tc)) (aR qx 0) ?_;refine mF<|Fx.L.tH (B:=w.heap.size) (s:=2) (bytes:=16) (k:=0) (m:=m.tn) (v := .slice none 0 0) (x:=QN m.t) (by rfl) rfl rfl rfl underlying134 (by kernel_rfl) (by kernel_rfl) rfl rfl (wm I w.heap.size 207 2 (QN m.t)) (hat.up U rfl) (fun _ _=>rfl) (by omega) (by omega) U.size fun vv3 w9 ho3 A ahi => ?_;rw[G_]at ho3
 obtain⟨u,z,rfl⟩:=ho3.val;have tX:=yc A (wm I w.heap.size 207 2 (QN m.t));have hq1:Below I.heap.size I w9:=⟨A.os,A.tape,A.output,A.size,fun q l=>A.block q l (fun e=>by cases e)⟩
 have xY:=pR.cK (Sb hq1) (u_ (pR.lt (by omega)));have hq2:Below I.heap.size I w9:=⟨A.os,A.tape,A.output,A.size,fun q l=>A.block q l (fun e=>by cases e)⟩
 have uN:=qx.cK (Sb hq2) (u_ (qx.lt (by omega)));have⟨yj,Ai,yG,xA⟩:=QC tX qy uF sQ qc;have tK:aY w9 w.heap.size 207 2 (.slice u (m.tn) (z)) m.tn (QN m.t):=(ho3.congr (fun j _=>ahc j));have b10:Below w.heap.size w w9:=sO U A U.size (fun q l=>((wm I w.heap.size 207 2 (QN m.t)).ge l).1);refine Ln ⟨tX,?_⟩;refine aS (pt b)<|aS (pt b)<|jP<|jf yj 0 (.slice u (m.tn) (z)) fun uE yH s8 z5 => ?_;have wC:aM uE b 1 (fun _ => .slice u (m.tn) (z)) 136:=eP yH;have vU:=xY.cK s8 (by omega);have wD:=uN.cK s8 (by omega);have Av:=gJ s8 yj.ty;have⟨tL,uG,oo,sF⟩:=QC Av Ai yG xA tK;have b11:=s8.below b10 b10.size (by omega);refine Ln<|dJ<|aQ<|ay<|au (av 0)<|aC<|Wb ?_;have pE:aM uE a 27 (nQ (QU m C E D F b u z (fun _=>none) (fun _=>0) 0)) 48:=oo.congr (Kvq (by kernel_rfl))
 have vV:=yT.zero uE w.heap.size (QU m C E D F b u z (fun _=>none) (fun _=>0) 0);refine Wo (fun f H => ∃ k:Nat,∃ ra:Nat->Option Addr,∃ rc:Nat->Nat,k<=6/\f 0=(pt p)/\f 3=(pt a)/\f 4=av (k:Int)/\jM H p 0 27 (nQ m)/\aY H w.heap.size 69 56 (.slice C (m.s.nn) (E)) m.s.nn (LP m)/\aY H w.heap.size 96 5 (.slice D (m.s.gn) (F)) m.s.gn (Ka m)/\aY H w.heap.size 207 2 (.slice u (m.tn) (z)) m.tn (QN m.t)/\aM H b 1 (fun _ => .slice u (m.tn) (z)) 136/\aM H a 27 (nQ (QU m C E D F b u z ra rc k)) 48/\yT H w.heap.size k (QU m C E D F b u z ra rc k)/\Below w.heap.size w H) (fun f _=>(6-(intOf (f 4)).toNat)) ⟨0,(fun _=>none),(fun _=>0),by omega,(by rfl),(by rfl),ic,vU,tL,uG,sF,wC,pE,vV,b11⟩ ?_;rintro f1 Bg ⟨k,ra,rc,hk,h1,X,J,m64,xB,sG,sH,sI,tN,tO,b12⟩;refine aQ<|ay<|bA J ?_;by_cases c57:(k:Int)<6
 ·refine Lv aH (fK c57)<|aC<|aP<|Wk<|sN<|aQ<|Wb ?_;have brk:=h.br k (by omega);have qg:=N.below b12 lp;refine W.nC [0,1,2,3,4,5,6,8,9,10,11,12,15,16,7,13,14,17,18] [0,0,0,0,0,0,0,4,0,0,0,0,0,4,2,0,0,0,3] (jk [26]) vS Fx.jk.trans (bR := [(14,7,[7]),(18,7,[7]),(14,13,[13]),(18,13,[13]),(17,14,[14]),(18,14,[14])]) (by kernel_rfl) (by kernel_rfl) (by kernel_rfl) (by kernel_rfl) (by kernel_rfl) fun G iZ rM => ?_;have⟨sS,vW,yR,xZ,wE,zh,yS,zi,R⟩:=yQ iZ m64 xB sG sH sI tN tO qg b12;refine eZ X<|eZ J<|eZ X<|eZ J<|aS (pt a)<|aS (pf a 21)<|Rp (pf a (k+21)) (fun _=>jh 6 1)<|eZ h1<|eZ J<|aS (pt p)<|aS (pf p 21)<|Rp (pf p (k+21)) (fun _=>jh 6 1)<|aS (pt a)<|aS (pf a 21)<|Rs (.slice none 0 0) (aR zh.aJ (k+21) (ahf (by omega))) ?_;refine Rs (.slice (m.ra k) (m.rn k) (m.rc k)) (aR sS (k+21) (Aq _ (by omega))) ?_;refine mF<|Fx.L.tH (B:=w.heap.size) (s:=1) (bytes:=8) (k:=0) (m:=(m.rn k)) (v := .slice none 0 0) (x:=rv .u64 (m.rq k)) (by rfl) rfl rfl rfl underlying45 (by kernel_rfl) (by kernel_rfl) rfl rfl (wm G w.heap.size 26 1 (rv .u64 (m.rq k))) ((h.ar k (by omega)).up R rfl) (fun _ _=>rfl) (by omega) (by omega) R.size fun vv4 Q ho4 d amw => ?_;rw[G_]at ho4;obtain⟨K,M,rfl⟩:=ho4.val;have yU:=yc d (wm G w.heap.size 26 1 (rv .u64 (m.rq k)));have hq3:Below G.heap.size G Q:=⟨d.os,d.tape,d.output,d.size,fun q l=>d.block q l (fun e=>by cases e)⟩
  have xC:=sS.cK (Sb hq3) (u_ (sS.lt (by omega)));have⟨zk,zS,zw,Aj,Bq⟩:=xu yU vW yR xZ wE zh;have hq4:Below G.heap.size G Q:=⟨d.os,d.tape,d.output,d.size,fun q l=>d.block q l (fun e=>by cases e)⟩
  have BQ:=yS.up hq4;have hq5:Below G.heap.size G Q:=⟨d.os,d.tape,d.output,d.size,fun q l=>d.block q l (fun e=>by cases e)⟩
  have zT:=zi.cK (Sb hq5) (u_ (zi.lt (by omega)));have yI:aY Q w.heap.size 26 1 (.slice K (m.rn k) (M)) (m.rn k) (rv .u64 (m.rq k)):=(ho4.congr (fun j _=>ahc j));have b14:Below w.heap.size w Q:=sO R d R.size (fun q l=>((wm G w.heap.size 26 1 (rv .u64 (m.rq k))).ge l).1);have hf1:=yS.fresh amw;refine Ln ⟨yU,?_⟩;refine Rp (pf a (k+21)) (fun _=>jh 6 1)<|jP<|jf Bq (k+21) (.slice K (m.rn k) (M)) fun Bh BR aa z6 => ?_;have Bj:=xC.cK aa (by omega);have BX:=gJ aa Bq.ty;have⟨Ak,BF,DY,Et,Bt⟩:=xu BX zk zS zw Aj BQ;have Dv:=zT.cK aa (by omega);have BZ:=jU BX yI;have b15:=aa.below b14 b14.size (by omega);refine Ln<|Rn<|bS<|sN<|Wl<|bA J<|Lv (av ((k:Int)+1)) gu<|au (av ((k:Int)+1))<|Ln ?_;have Eu:aM Bh a 27 (nQ (QU m C E D F b u z (aN ra k K) (aN rc k M) (k+1))) 48:=BR.to (abC (by omega));have Gd:yT Bh w.heap.size (k+1) (QU m C E D F b u z (aN ra k K) (aN rc k M) (k+1)):=ahg Bt BZ hf1
  skip
  refine iA ⟨k+1,(aN ra k K),(aN rc k M),by omega,h1,X,ic,Bj,Ak,BF,DY,Et,Eu,Gd,b15⟩ ?_;show(6-(intOf (av ((k:Int)+1))).toNat)<_;simp only[J,intOf]; omega
 refine Lv aD (fM c57)<|aC<|aL<|Wx<|cZ<|iC<|dB<|sN<|ay<|bA X<|au (pt a)<|aC<|Wr<|aK (pt a) ?_;have ek:k=6:=by omega
 subst ek;exact⟨a,atM m C E D F b u z ra rc,rfl,rfl,{ c:=tN.congr arq,n:=xB,g:=sG,tc:=sI,t:=sH,r:=ahh tO,pB:=xw,tB:=tJ,bn:=bn1,bg:=bg,bt:=bt1,br:=h.br },b12⟩
namespace Rt
def uQ(id:Nat->Int)(o:Int):Nat->Nat
 | 0=>0
 | n+1=>uQ id o n+if id n / 1099511627776=o then 1 else 0
theorem abF(h:m=uQ X a k)(e:X k / 1099511627776=a):m+1=uQ X a (k+1):=by unfold uQ; rw[d_ e,h]
theorem ahk(h:m=uQ X a k)(e : ¬ X k / 1099511627776=a):m=uQ X a (k+1):=by unfold uQ; rw[b_ e,h]; rfl
noncomputable def nE(L:iQ)(v:dA):Int:=if 5<=uQ L.id v.o L.nn\/140737488355328<v.bF then 6 else pU L.t L.tn (lU v.o v.seq) v.node
def xH(f:Nat->Int)(n:Nat)(x:Int):Nat:=down (fun i=>decide (x<f i)) n
def vF(L:iQ)(v:dA):iQ :=
 { L with nn:=L.nn+1,id:=dW L.id (xH L.id L.nn (lU v.o v.seq)) (lU v.o v.seq),par:=dW L.par (xH L.id L.nn (lU v.o v.seq)) v.node,
          R:=dW L.R (xH L.id L.nn (lU v.o v.seq)) (fZ (fun _=>0) (v.o-1).toNat v.bF),
          tn:=L.tn+1,t:=wF L.t (down (fun i=>decide (lU v.o v.seq<L.t i 0)) L.tn) (lU v.o v.seq) v.node }
theorem abG(j:Nat):bJ (bJ zJ0 0 1 (fun _=>aG a)) 1 1 (fun _=>aG d) j=mV a d (fun _=>0) j:=by
 unfold bJ mV;by_cases id:j=0
 ·subst id; rfl
 by_cases b:j=1
 ·subst b; rfl
 rw[b_,b_,b_ id,b_ b]; show(if j<2 then _ else _)=_; rw[b_]
theorem WT{x:Int}(a:k=m+2):dN (mV d e X) k (av x)=mV d e (fZ X m x):=by
 subst a
 funext p
 unfold dN mV fZ;by_cases h:p=m+2
 ·subst h; rw[d_ rfl,b_,b_,d_]
 rw[b_ h];by_cases b:p=0
 ·rw[d_ b,d_ b]
 by_cases c:p=1
 ·rw[b_ b,d_ c,b_ b,d_ c]
 rw[b_ b,b_ c,b_ b,b_ c,b_]
theorem WU:Ov (fun id=>mV (X id) (Y id) (f id)) k (mV a d Z)=fun id=>mV (dW X k a id) (dW Y k d id) (dW f k Z id):=by
 funext i
 unfold Ov dW;by_cases h:i<k
 ·simp only[d_ h]
 by_cases e:i=k
 ·simp only[b_ h,d_ e]
 simp only[b_ h,b_ e]
theorem MS(m:ow)(a:Option Addr)(n c:Nat):dN (nQ m) 18 (.slice a n c)=nQ { m with s := { m.s with na:=a,nn:=n,nc:=c } }:=by
 funext p
 unfold dN nQ;by_cases h:p=18
 ·subst h; rfl
 rw[b_ h];by_cases e:p<20
 ·rw[d_ e,d_ e]; unfold dS;by_cases b:p<6
  ·rw[d_ b,d_ b]
  by_cases d:p<12
  ·rw[b_ b,d_ d,b_ b,d_ d]
  by_cases f:p<18
  ·rw[b_ b,b_ d,d_ f,b_ b,b_ d,d_ f]
  rw[b_ b,b_ d,b_ f,b_ h,b_ b,b_ d,b_ f,b_ h]
 rw[b_ e,b_ e]
theorem CZ(hy : ∀ j,(y j).oneCell'=true) : ∀ j,j<1*m->(bJ x (0*m) m y j).oneCell'=true:=fun j a=>by
 unfold bJ; rw[d_]; exact hy _
theorem abH(e:k=j+1)(h : ∀ i,k<=i->i<m->a<X i)(c:a<X j) : ∀ i,j<=i->i<m->a<X i:=fun i d b=>by
 by_cases f:i=j
 ·subst f; exact c
 ·exact h i (by omega) b
end Rt
theorem Rt.QV(h:pU f m a d=0):m+1<=33:=by
 unfold pU at h;split at h; · cases h
 split at h; · cases h
 split at h; · cases h
 split at h; · cases h
 rename_i h4
 rcases Nat.lt_or_ge m 32 with h5|h5
 ·omega
 exact L_ (Or.inl h5) h4
set_option maxRecDepth 20000 in
set_option maxHeartbeats 2000000 in
theorem ahl(m:ow)(B p a D:Nat)(v:dA)(w:World)(C:zU w B p m)(u:B<=w.heap.size)(ha:a<6)(ho:v.o=(a:Int)+1)(bnn:m.s.nn<=900)(hD:bT m.t m.tn (bU m.t m.tn D v.node)<0)(hD2:D<=1000) :
 Calls prog 88 #[(pt p),.agg (aA 14 (dH v))] w fun e w'=>e = .returned (av (nE m.aW v))/\Below B w w'/\(nE m.aW v=0 -> ∃ m',m'.aW=vF m.aW v/\zU w' B p m'):=by
 have Ue:=C.c;have hLn:=C.n;have hLg:=C.g;have WK:=C.tc;have abK:=C.t;have hLr:=C.r;have wY:=C.pB;have IJ:=C.tB;have bn:=C.bn;have bg:=C.bg;have bt:=C.bt;have lpp:p<w.heap.size:=Ue.lt;have yC:m.tb<w.heap.size:=WK.lt;refine bX func88 132 ?_;refine ay<|oq fun I w1 kV m1 s1 z1 => ?_;have⟨m2,m3,m4,m5,m6,m7⟩:=oL s1.bP Ue hLn hLg WK abK hLr;have b1:=iR s1.bP (Below.refl B w) u;have tJ:=gQ kV (Below.refl B w).size;have⟨rJ,Bo⟩:=oM kV Ue.lt WK.lt;have vB:=m1.lt;refine au (av 0)<|aC<|ay<|au (av 0)<|aC<|aQ<|ay<|au (av 0)<|aC<|Wb<|Wo (fun f z => ∃ k:Nat,∃ G:Nat,k<=m.s.nn/\G<=k/\G=uQ m.id v.o k/\f 0=(pt p)/\f 3=(pt I)/\f 5=av (G:Int)/\f 6=av (k:Int)/\aM z p 27 (nQ m) 48/\aY z B 69 56 (.slice m.s.na (m.s.nn) (m.s.nc)) m.s.nn (LP m)/\aY z B 96 5 (.slice m.s.ga (m.s.gn) (m.s.gc)) m.s.gn (Ka m)/\aM z m.tb 1 (fun _ => .slice m.ta m.tn m.tc) 136/\aY z B 207 2 (.slice m.ta (m.tn) (m.tc)) m.tn (QN m.t)/\yT z B 6 m/\aM z I 14 (dH v) 30/\Below B w z) (fun f _=>(m.s.nn-(intOf (f 6)).toNat)) ⟨0,0,by omega,by omega,rfl,(by rfl),(by rfl),ic,ic,m2,m3,m4,m5,m6,m7,m1,b1⟩ ?_;rintro f1 O ⟨k,G,hk,hcl,hcn,J,K,h3,Z,m8,m9,m10,m11,kY,m13,X,b2⟩;refine aQ<|ay<|bA Z<|bA J<|au (pt p)<|au (pt p)<|au (pf p 18)<|Lv (.slice m.s.na (m.s.nn) (m.s.nc)) (aR m8.aJ 18)<|au (av m.s.nn) ?_;by_cases c18:(k:Int)<(m.s.nn:Int)
 ·refine Lv aH (fK c18)<|aC<|aP<|Wk<|sN<|aQ<|Wb<|aQ<|zu<|iL J<|bI (pt p)<|bI (pt p)<|bI (pf p 18)<|Qv (.slice m.s.na (m.s.nn) (m.s.nc)) (fun F E=>aR (m8.aJ.dr E) 18)<|iL Z ?_;obtain⟨Gv,eq1⟩:=m9.wz;have m15:=m9.fE (K_ (fun q=>Value.slice q m.s.nn m.s.nc) eq1);refine Qv (pf Gv (56*k)) (fun F E=>fC 56 (hx:=(rfl.trans (K_ (fun q=>Value.slice q (m.s.nn) (m.s.nc)) eq1))))<|bI (pf Gv (56*k))<|Qv (aG (m.id k)) (fun F E=>aR (m15.aJ.dr E) (56*k) (je (k:=k) (j:=0) (by omega) (by omega) rfl))<|Qv (aG ((m.id k) / 1099511627776)) (fun F E=>Wu (b:=40) (q:=1099511627776) rfl rfl rfl)<|Qv (pt I) (fun F E=>iO K 0)<|Qv (av v.o) (fun F E=>aR (X.aJ.dr E) 0)<|Qv (aG v.o) (fun F E=>dQ rfl rfl (by kernel_rfl) underlying26 (jO (by omega) rfl)) ?_;by_cases c34:((m.id k) / 1099511627776)=v.o
  ·refine Qv aH (fun F E=>gU c34)<|Qn ?_;rintro _ ⟨qd,rfl⟩;obtain⟨IC,xI⟩ : ∃ F,F=World.drewN O qd:=⟨_,rfl⟩;rw[<- xI];have s2:eG O.heap.size O IC:=(by rw[xI]; exact Sb (kQ O qd));have⟨m16,m17,m18,m19,m20,mG,m22⟩:=kU s2.bP m8 m10 m11 kY m13 X m15;have b3:=iR s2.bP b2 u;clear xI;refine sN<|aP<|Wl<|bA h3<|Lv (av ((G:Int)+1)) gu<|au (av ((G:Int)+1))<|Ln<|bS<|sN<|Wl<|bA Z<|Lv (av ((k:Int)+1)) gu<|au (av ((k:Int)+1))<|Ln<|have m23:aY IC B 69 56 (.slice m.s.na (m.s.nn) (m.s.nc)) m.s.nn (LP m):=m22.fE (K_ (fun q=>Value.slice q m.s.nn m.s.nc) eq1.symm);iA ⟨k+1,G+1,by omega,by omega,(abF hcn c34),J,K,ic,ic,m16,m23,m17,m18,m19,m20,mG,b3⟩ ?_;show(m.s.nn-(intOf (av ((k:Int)+1))).toNat)<_;simp only[Z,intOf]; omega
  refine Qv aD (fun F E=>gX c34)<|Qn ?_;rintro _ ⟨qd,rfl⟩;obtain⟨Ma,Aw⟩ : ∃ F,F=World.drewN O qd:=⟨_,rfl⟩;rw[<- Aw];have s3:eG O.heap.size O Ma:=by rw[Aw]; exact Sb (kQ O qd)
  have⟨m24,mU,pK,pO,om,qb,qV⟩:=kU s3.bP m8 m10 m11 kY m13 X m15;have b4:=iR s3.bP b2 u;clear Aw;refine sN<|aL<|Wk<|bS<|sN<|Wl<|bA Z<|Lv (av ((k:Int)+1)) gu<|au (av ((k:Int)+1))<|Ln<|have mY:aY Ma B 69 56 (.slice m.s.na (m.s.nn) (m.s.nc)) m.s.nn (LP m):=qV.fE (K_ (fun q=>Value.slice q m.s.nn m.s.nc) eq1.symm);iA ⟨k+1,G,by omega,by omega,(ahk hcn c34),J,K,(h3.trans ic),ic,m24,mY,mU,pK,pO,om,qb,b4⟩ ?_;show(m.s.nn-(intOf (av ((k:Int)+1))).toNat)<_;simp only[Z,intOf]; omega
 refine Lv aD (fM c18)<|aC<|aL<|Wx<|cZ<|iC<|dB<|sN<|aQ<|ay<|bA h3 ?_;by_cases c38:5<=(G:Int)
 ·refine Lv aH (mW c38)<|au aH<|bf<|bf<|bf<|au aH<|aC<|aP<|ay<|au (av 6)<|aC<|Wr<|sR<|aK (av 6) ?_;have N:k=m.s.nn:=by omega
  subst N;have H:nE m.aW v=6:=d_ (.inl (by rw[show uQ m.aW.id v.o m.aW.nn=G from hcn.symm]; omega));exact⟨uD H.symm,b2,fun U=>by rw[H]at U; cases U⟩
 refine Lv aD (mM c38)<|au aD<|Lv (pf I 11) (iO K 11)<|Lv (av v.bF) (aR X.aJ 11) ?_;by_cases c42:140737488355328<v.bF
 ·refine Lv aH (lK c42)<|au aH<|aC<|aP<|ay<|au (av 6)<|aC<|Wr<|sR<|aK (av 6) ?_;have N:k=m.s.nn:=by omega
  subst N;have H:nE m.aW v=6:=d_ (.inr (by omega));exact⟨uD H.symm,b2,fun U=>by rw[H]at U; cases U⟩
 refine Lv aD (lM c42)<|au aD<|aC<|aL<|Wk<|sN<|ay<|Lv (pt I) (iO K 0)<|Lv (av v.o) (aR X.aJ 0)<|Lv (pf I 1) (iO K 1)<|Lv (aG v.seq) (aR X.aJ 1)<|mX (aym v.o v.seq _) _ rfl<|au (aG (lU v.o v.seq))<|aC<|aQ<|nP [0,1,2,4,5,3,6,7,8] [0,0,0,4,0,0,4,3,0] [(7,3,[3]),(7,6,[6]),(8,7,[7])] fun qN eX iM =>have⟨m32,oD,pz,pQ,rE,sD,qM⟩:=kU eX m8 m9 m10 m11 kY m13 X;have b5:=iR eX b2 u;eZ J<|aS (pt p)<|aS (pf p 20)<|aS (aG (lU v.o v.seq))<|Rp (pf I 9) (fun _=>iO K 9)<|Rs (pt m.tb) (aR m32.aJ 20)<|Rs (aG v.node) (aR qM.aJ 9)<|jP<|dO (arl _ _ _ _ _ _ (lU v.o v.seq) _ _ _ pQ rE (fun e=>Ty.ne (rE.ty e) pQ.ty (by decide) rfl) (m_ u b5.size) bt hD hD2) _ rfl ?_;rintro Y ⟨arz,hcs1⟩;have hc1:jk [136,207] qN Y:=Fx.jk.aaL arz (by rintro k (rfl|e) <;> first|exact⟨_,pQ.ty,by decide⟩|exact⟨_,rE.ty e,by decide⟩)
 have qW:=m32.nA hc1 (by decide);have vk:=oD.nA hc1 (by decide);have pR:=pz.nA hc1 (by decide);have qx:yT Y B 6 m:=sD.nA hc1 (by decide);have qy:aM Y I 14 (dH v) 30:=qM.nA hc1 (by decide);have b6:Below B w Y:=ko.below b5 arz (by rintro k (rfl|e) <;> first|exact IJ|exact(rE.ge e).1) (m_ u b5.size)
 rcases hcs1 with ⟨Q,hT1,hO1⟩|⟨Q,g9,ahm,hT1,hO1,hne1⟩
 ·refine Ln<|aS (av (pU m.t m.tn (lU v.o v.seq) v.node))<|dJ<|aQ<|ay<|au (av (pU m.t m.tn (lU v.o v.seq) v.node))<|Lv aH (mO Q)<|aC<|aP<|ay<|au (av (pU m.t m.tn (lU v.o v.seq) v.node))<|au (av (pU m.t m.tn (lU v.o v.seq) v.node))<|aC<|Wr<|sR<|aK (av (pU m.t m.tn (lU v.o v.seq) v.node)) ?_;have N:k=m.s.nn:=by omega
  subst N;have H:nE m.aW v=pU m.t m.tn (lU v.o v.seq) v.node:=b_ (fun h=>h.elim (fun h=>by rw[show uQ m.aW.id v.o m.aW.nn=G from hcn.symm]at h; omega) (fun h=>by omega));exact⟨uD H.symm,b6,fun U=>L_ (H.symm.trans U) Q⟩
 refine Ln<|aS (av (pU m.t m.tn (lU v.o v.seq) v.node))<|dJ<|aQ<|ay<|au (av (pU m.t m.tn (lU v.o v.seq) v.node))<|Lv aD (kr Q)<|aC<|aL<|Wk<|sN<|ay<|au (aG (lU v.o v.seq))<|Lv (pf I 9) (iO K 9)<|Lv (aG v.node) (aR qy.aJ 9)<|au (.agg (aA 56 (bJ (bJ zJ0 0 1 (fun _=>aG (lU v.o v.seq))) 1 1 (fun _=>aG v.node))))<|oJ 56 zJ0 fun M w4 nN uF s5 z2 => ?_;have⟨sQ,qc,tK,xY,uN,yj,Ai⟩:=kU s5.bP qW vk pR qx qy hT1 hO1;have b7:=iR s5.bP b6 u;have xw:=gQ nN b6.size;have ays:=gD nN qW.lt;have OI:(.slice m.s.na (m.s.nn) (m.s.nc):Value).ownBlock≠some M:=by rw[nN]; exact vk.gW (A_ _)
 have⟨ayt,ayu,ayv⟩:=El nN qy.lt hT1.lt hO1.lt;have zR:=uF.lt;refine dY uF 0 (h1:=(cu (cu (fun jq _=>by show(zJ0 jq).oneCell'=true; simp only[zJ0]; repeat (first|rfl|split)) (fun _ _=>rfl)) (fun _ _=>rfl))) fun w5 yG s6 z3 => ?_
 have xA:aM w5 M 56 (bJ (bJ zJ0 0 1 (fun _=>aG (lU v.o v.seq))) 1 1 (fun _=>aG v.node)) 69:=aO yG;have gT:=gJ s6 uF.ty;have yH:=jU gT sQ;have wC:=qc.cK s6 OI;have⟨vU,wD,tL,uG,oo⟩:=xu gT tK xY uN yj Ai;have b8:=s6.below b7 (m_ u b7.size) (by omega);refine aC<|aQ ?_;have sF:aM w5 M 56 (mV (lU v.o v.seq) v.node (fun _=>0)) 69:=xA.congr (fun j hj=>abG j);refine Wl<|Lv (pt I) (iO K 0)<|Lv (av v.o) (aR tL.aJ 0)<|Lv (av a) jK<|Lv (pf I 11) (iO K 11)<|Lv (av v.bF) (aR tL.aJ 11)<|au (pf M 2)<|au (pf M 2)<|Lv (pf M (a+2)) (jh 6 1)<|jf sF (a+2) (av v.bF) fun w6 pE s7 z4 => ?_;have vV:aM w6 M 56 (mV (lU v.o v.seq) v.node (fZ (fun _=>0) a v.bF)) 69:=pE.to (WT (by omega));have jC:=gJ s7 sF.ty;have m64:=jU jC yH;have xB:=wC.cK s7 OI;have⟨sG,sH,sI,tN,tO⟩:=xu jC vU wD tL uG oo;have b9:=s7.below b8 (m_ u b8.size) (by omega);refine aC<|aQ ?_;have ek0:k=m.s.nn:=by omega
 obtain⟨cn0,arB,hc38⟩ : ∃ cn0,cn0=uQ m.id v.o m.s.nn /\ ¬ (5:Int)<=(cn0:Int):=⟨G,by rw[<- ek0]; exact hcn,c38⟩;clear hcn hcl ek0;refine Wl<|bA J<|au (pt p)<|au (pt p)<|au (pf p 18)<|Lv (.slice m.s.na (m.s.nn) (m.s.nc)) (aR m64.aJ 18)<|au (av m.s.nn)<|au (av m.s.nn)<|aC<|aQ ?_;refine W.nC [0,1,2,3,4,5,6,7,8,9,10,11,12] [0,0,0,0,0,1,4,2,2,0,0,0,3] (jk [69]) vS Fx.jk.trans (bR := [(12,5,[5]),(7,6,[6]),(8,6,[7,6]),(12,6,[6]),(8,7,[7]),(9,7,[7]),(10,7,[7]),(11,7,[7]),(12,7,[7]),(9,8,[8]),(10,8,[8]),(11,8,[8]),(12,8,[8])]) (by kernel_rfl) (by kernel_rfl) (by kernel_rfl) (by kernel_rfl) (by kernel_rfl) fun Fu iZ rM => ?_;have⟨qg,sS,vW,yR,xZ,wE,zh,yS⟩:=lY iZ m64 xB sG sH sI tN tO vV;have b10:=iR iZ b9 u;refine eZ J<|eZ J<|aS (pt p)<|aS (pt p)<|aS (pf p 18)<|lI (v := .slice m.s.na (m.s.nn) (m.s.nc)) (by rfl) (by rfl) (vS _) (fun F E=>bE (x:=nQ m) rfl rfl (by kernel_rfl) (qg.nA E (by decide)).aJ (i:=18) (by omega) (by omega) rfl) ?_;refine Rs (.agg (aA 56 (mV (lU v.o v.seq) v.node (fZ (fun _=>0) a v.bF)))) (dZ yS.aJ 0) ?_;refine mF<|uz (vs := [(0,.agg (aA 56 (mV (lU v.o v.seq) v.node (fZ (fun _=>0) a v.bF))))]) (s:=56) (zc:=fun L=>if L<2 then aG 0 else av 0) (y:=bJ (fun j=>zJ0 (j % 56)) (0*56) 56 (mV (lU v.o v.seq) v.node (fZ (fun _=>0) a v.bF))) (by rfl) rfl rfl underlying40 (by kernel_rfl) (by rfl) (by rfl) (by kernel_rfl) (by rw[aT (off:=0*56) (s:=56) (y:=mV (lU v.o v.seq) v.node (fZ (fun _=>0) a v.bF)) rfl (bM _ _) (by rfl)]; rfl) rfl fun g3 w7 nO zi s9 z5 => ?_;have⟨yI,xC,zk,zS,zw,Aj,Bq,BQ⟩:=lY s9.bP qg sS vW yR xZ wE zh yS;have b11:=iR s9.bP b10 u;have Gc:=gQ nO b10.size;have ayx:=gD nO qg.lt;have ayy:(.slice m.s.na (m.s.nn) (m.s.nc):Value).ownBlock≠some g3:=by rw[nO]; exact sS.gW (A_ _)
 have⟨ayz,ayA,ayB,ayC⟩:=J2 nO xZ.lt wE.lt zh.lt yS.lt;have Gr:=zi.lt;refine Ln ⟨Fx.jk.jr s9.bP,?_⟩;refine mF<|xX (B:=B) (s:=56) (bytes:=448) (k:=m.s.nn) (m:=1) (v := .slice m.s.na (m.s.nn) (m.s.nc)) (x:=LP m) (by rfl) rfl rfl rfl underlying40 (by kernel_rfl) (by kernel_rfl) rfl rfl xC zi.aJ (CZ (zC _ _ _)) (by omega) (by omega) (by omega) (m_ u b11.size) fun l A w8 ho1 hg1 vE hlt1 => ?_;have oz:=yc hg1 xC;have⟨BR,Bj,Ak,BF,DY,Et⟩:=YD oz yI zk zS zw Aj Bq;have Bt:=BQ.grown hg1 OI;have ayD:M≠l:=fun e=>vE.elim (fun e2=>OI (by rw[e]; exact e2)) (fun e2=>by have:=BQ.lt; omega);have zT:aY w8 B 69 56 (dz l (m.s.nn+1) A) (m.s.nn+1) (dn 56 (Qw (fun d=>mV (m.id d) (m.par d) (m.R d)) (mV (lU v.o v.seq) v.node (fZ (fun _=>0) a v.bF)) m.s.nn m.s.nn)):=(ho1.congr (fun j hj=>(BL j hj).trans (bZ (fun i V q _=>Fx.E9 i V q) j hj)));have b12:Below B w w8:=sO b11 hg1 (m_ u b11.size) (fun q hq=>(xC.ge hq).1);refine Ln ⟨oz,?_⟩;refine aS (pt p)<|aS (pt p)<|aS (pf p 18)<|jP<|jf BR 18 (dz l (m.s.nn+1) A) fun w9 Dv oP z6 => ?_;have tV:=gJ oP BR.ty;have⟨BZ,Eu,Gd,vG,qO,rO,tY⟩:=QD tV Bj Ak BF DY Et Bt zT;have b13:=oP.below b12 (m_ u b12.size) (by omega);refine Ln<|dJ<|aQ<|Wb<|Wo (fun f z => ∃ k:Nat,k<=m.s.nn/\(∀ i,k<=i->i<m.s.nn->(lU v.o v.seq)<m.id i)/\f 0=(pt p)/\f 7=aG (lU v.o v.seq)/\f 9=(pt M)/\f 10=av (k:Int)/\aY z B 96 5 (.slice m.s.ga (m.s.gn) (m.s.gc)) m.s.gn (Ka m)/\yT z B 6 m/\aM z I 14 (dH v) 30/\aM z m.tb 1 (fun _=>dz g9 (m.tn+1) ahm) 136/\aY z B 207 2 (dz g9 (m.tn+1) ahm) (m.tn+1) (rv .u64 (rH (wF m.t (down (fun i=>decide ((lU v.o v.seq)<m.t i 0)) m.tn) (lU v.o v.seq) v.node)))/\aM z M 56 (mV (lU v.o v.seq) v.node (fZ (fun _=>0) a v.bF)) 69/\aM z p 27 (dN (nQ m) 18 (dz l (m.s.nn+1) A)) 48/\aY z B 69 56 (dz l (m.s.nn+1) A) (m.s.nn+1) (dn 56 (Qw (fun d=>mV (m.id d) (m.par d) (m.R d)) (mV (lU v.o v.seq) v.node (fZ (fun _=>0) a v.bF)) m.s.nn k))/\Below B w z) (fun f _=>(intOf (f 10)).toNat) ⟨m.s.nn,by omega,(fun i J K=>L_ J (by omega)),J,ic,(by rfl),ic,BZ,Eu,Gd,vG,qO,rO,Dv,tY,b13⟩ ?_;rintro f2 uE ⟨k,hk,hgt,h5,h6,h7,P,qz,qP,qQ,pV,qA,uR,vH,qR,b14⟩;refine aQ<|ay<|bA P ?_;by_cases c91:0<(k:Int)
 ·obtain⟨j,ej⟩ : ∃ j,k=j+1:=⟨k-1,by omega⟩;refine Lv aH (lK c91)<|au aH<|bA h5<|au (pt p)<|au (pt p)<|au (pf p 18)<|Lv (dz l (m.s.nn+1) A) (aR vH.aJ 18 (nK (by omega)))<|bA P<|Lv (av j) jK<|Lv (pf l (56*j)) (fC 56)<|au (pf l (56*j))<|Lv (aG (m.id j)) (aR qR.aJ (56*j) (je (k:=j) (j:=0) (by omega) (by omega) ((congrFun (Fx.HY (by omega) (by omega)) 0).trans rfl)))<|bA h6 ?_;by_cases ahn:(lU v.o v.seq)<(m.id j)
  ·refine Lv aH (lK ahn)<|au aH<|aC<|aP<|Wk<|sN<|Wb<|aQ ?_;refine nP [0,1,2,3,5,6,7,8,9,11,12,4,10,13,14,15,16] [0,0,0,0,4,0,0,0,0,0,4,0,0,0,4,0,3] [(16,4,[4]),(16,10,[10]),(16,14,[14])] fun MU mZ DZ => ?_;have⟨tZ,zD,wG,wH,Ay,yV,uf,oQ⟩:=lY mZ qz qP qQ pV qA uR vH qR;have b15:=iR mZ b14 u;refine eZ h5<|aS (pt p)<|aS (pt p)<|aS (pf p 18)<|eZ P<|eZ h5<|aS (pt p)<|aS (pt p)<|aS (pf p 18)<|eZ P<|Rp (av j) (fun _=>jK)<|Rs (dz l (m.s.nn+1) A) (aR uf.aJ 18 (nK (by omega))) ?_;refine Rs (dz l (m.s.nn+1) A) (aR uf.aJ 18 (nK (by omega))) ?_;refine Rp (pf l (56*j)) (fun _=>fC 56)<|Rs (.agg (aA 56 (mV (m.id j) (m.par j) (m.R j)))) (dZ oQ.aJ (56*j) (fun jq hjq=>(eF (k:=j) (by omega) hjq).trans (congrFun (Fx.HY (by omega) (by omega)) jq))) ?_;refine Rp (pf l (56*k)) (fun _=>fC 56)<|jP<|L6 oQ (56*k) (h1:=(fun j _=>zC _ _ _ j)) fun Bg wI s12 z7 => ?_;have tX:=gJ s12 oQ.Wq;have⟨yX,wJ,Bu,Ca,zF⟩:=xu tX tZ zD wG wH Ay;have zG:=yV.cK s12 (by omega);have Az:=jU tX uf;have b16:=s12.below b15 (m_ u b15.size) oQ.wo.1;have Bv:aY Bg B 69 56 (dz l (m.s.nn+1) A) (m.s.nn+1) (dn 56 (Qw (fun d=>mV (m.id d) (m.par d) (m.R d)) (mV (lU v.o v.seq) v.node (fZ (fun _=>0) a v.bF)) m.s.nn j)):=wI.congr (fun T S=>(BM (k:=k) (by omega) T S).trans (bZ (fun i V q _=>Fx.Jf ej (by omega) i V q) T S));refine Ln<|dJ<|Wl<|bA P<|Lv (av j) jK<|au (av j)<|Ln<|bS<|iA ⟨j,by omega,(abH ej hgt ahn),h5,(h6.trans ic),h7,ic,yX,wJ,Bu,Ca,zF,zG,Az,Bv,b16⟩ ?_;show(intOf (av j)).toNat<_;simp only[P,intOf]; omega
  refine Lv aD (lM ahn)<|au aD<|aC<|aL<|Wx<|cZ<|iC<|dB<|sN<|aQ ?_;refine nP [0,1,2,3,5,4,6,7,8] [0,0,0,0,4,0,4,0,3] [(8,4,[4]),(8,6,[6])] fun wZ oF Fv => ?_;have⟨Dw,AA,Dx,AB,zH,AJ,AL⟩:=kU oF qz qP pV qA uR vH qR;have b17:=iR oF b14 u;refine eZ h5<|aS (pt p)<|aS (pt p)<|aS (pf p 18)<|eZ P<|Rs (dz l (m.s.nn+1) A) (aR AJ.aJ 18 (nK (by omega))) ?_;refine Rs (.agg (aA 56 (mV (lU v.o v.seq) v.node (fZ (fun _=>0) a v.bF)))) (dZ zH.aJ 0 (ha:=h7)) ?_;refine Rp (pf l (56*k)) (fun _=>fC 56)<|jP<|L6 AL (56*k) (h1:=(fun j _=>zC _ _ _ j)) fun BD Cb D5 z8 => ?_;have Av:=gJ D5 AL.Wq;have⟨Cc,Ev,IK,Fw⟩:=QC Av Dw AA Dx AB;have Dy:=zH.cK D5 (by omega);have Ew:=jU Av AJ;have b18:=D5.below b17 (m_ u b17.size) AL.wo.1;have Ce:aY BD B 69 56 (dz l (m.s.nn+1) A) (m.s.nn+1) (dn 56 (Ov (fun d=>mV (m.id d) (m.par d) (m.R d)) k (mV (lU v.o v.seq) v.node (fZ (fun _=>0) a v.bF)))):=Cb.congr (fun T S=>(BM (k:=k) (by omega) T S).trans (bZ (fun i V q _=>Fx.Fa (by omega) i V q) T S));refine Ln<|dJ<|ay<|au (av 0)<|aC<|Wr<|aK (av 0) ?_;have H:nE m.aW v=pU m.t m.tn (lU v.o v.seq) v.node:=b_ (fun h=>h.elim (fun h=>by rw[show uQ m.aW.id v.o m.aW.nn=cn0 from arB.symm]at h; omega) (fun h=>by omega));have N:k=xH m.id m.s.nn (lU v.o v.seq):=yF hk (fun i a b=>f_ (hgt i a b)) (.inr (fun j2 e=>by rw[show j2=j by omega]; exact g_ ahn));have Md:aY BD B 69 56 (dz l (m.s.nn+1) A) (m.s.nn+1) (dn 56 fun d=>mV (dW m.id k (lU v.o v.seq) d) (dW m.par k v.node d) (dW m.R k (fZ (fun _=>0) a v.bF) d)):=by rw[<- WU]; exact Ce
  have eR:(fZ (fun _=>0) a v.bF)=fZ (fun _=>0) (v.o-1).toNat v.bF:=by rw[show(v.o-1).toNat=a by omega]
  have bn9:m.tn+1<=33:=QV Q;refine⟨uD (Q.symm.trans H.symm),b18,fun _=>⟨{ m with s := { m.s with na:=some ⟨l,0,none⟩,nn:=m.s.nn+1,nc:=A },id:=dW m.id k (lU v.o v.seq),par:=dW m.par k v.node,R:=dW m.R k (fZ (fun _=>0) a v.bF),ta:=some ⟨g9,0,none⟩,tn:=m.tn+1,tc:=ahm,t:=wF m.t (down (fun i=>decide ((lU v.o v.seq)<m.t i 0)) m.tn) (lU v.o v.seq) v.node },?_,?_⟩⟩
  ·unfold vF; rw[show xH m.aW.id m.aW.nn (lU v.o v.seq)=k from N.symm,<- eR]; rfl
  exact { c:=Ew.to (MS m _ _ _),n:=Md,g:=Cc,tc:=IK,t:=Fw,r:=Ev,pB:=wY,tB:=IJ,bn:=(by have:=bnn; show m.s.nn+1<=1000; omega),bg:=bg,bt:=(by show m.tn+1<=1000; omega),br:=C.br }
 refine Lv aD (lM c91)<|au aD<|bf<|bf<|bf<|bf<|bf<|bf<|bf<|bf<|bf<|bf<|bf<|bf<|au aD<|aC<|aL<|Wx<|cZ<|iC<|dB<|sN<|aQ ?_;refine nP [0,1,2,3,5,4,6,7,8] [0,0,0,0,4,0,4,0,3] [(8,4,[4]),(8,6,[6])] fun wt5 sU MV => ?_;have⟨Ey,OJ,Gw,OL,Kg,Ez,Me⟩:=kU sU qz qP pV qA uR vH qR;have b19:=iR sU b14 u;refine eZ h5<|aS (pt p)<|aS (pt p)<|aS (pf p 18)<|eZ P<|Rs (dz l (m.s.nn+1) A) (aR Ez.aJ 18 (nK (by omega))) ?_;refine Rs (.agg (aA 56 (mV (lU v.o v.seq) v.node (fZ (fun _=>0) a v.bF)))) (dZ Kg.aJ 0 (ha:=h7)) ?_;refine Rp (pf l (56*k)) (fun _=>fC 56)<|jP<|L6 Me (56*k) (h1:=(fun j _=>zC _ _ _ j)) fun Bh Kh s16 z9 => ?_;have yU:=gJ s16 Me.Wq;have⟨Uo,OM,abN,OO⟩:=QC yU Ey OJ Gw OL;have OP:=Kg.cK s16 (by omega);have IL:=jU yU Ez;have b20:=s16.below b19 (m_ u b19.size) Me.wo.1;have OQ:aY Bh B 69 56 (dz l (m.s.nn+1) A) (m.s.nn+1) (dn 56 (Ov (fun d=>mV (m.id d) (m.par d) (m.R d)) k (mV (lU v.o v.seq) v.node (fZ (fun _=>0) a v.bF)))):=Kh.congr (fun T S=>(BM (k:=k) (by omega) T S).trans (bZ (fun i V q _=>Fx.Fa (by omega) i V q) T S));refine Ln<|dJ<|ay<|au (av 0)<|aC<|Wr<|aK (av 0) ?_;have H:nE m.aW v=pU m.t m.tn (lU v.o v.seq) v.node:=b_ (fun h=>h.elim (fun h=>by rw[show uQ m.aW.id v.o m.aW.nn=cn0 from arB.symm]at h; omega) (fun h=>by omega));have N:k=xH m.id m.s.nn (lU v.o v.seq):=yF hk (fun i a b=>f_ (hgt i a b)) (.inl (by omega));have Mf:aY Bh B 69 56 (dz l (m.s.nn+1) A) (m.s.nn+1) (dn 56 fun d=>mV (dW m.id k (lU v.o v.seq) d) (dW m.par k v.node d) (dW m.R k (fZ (fun _=>0) a v.bF) d)):=by rw[<- WU]; exact OQ
 have eR:(fZ (fun _=>0) a v.bF)=fZ (fun _=>0) (v.o-1).toNat v.bF:=by rw[show(v.o-1).toNat=a by omega]
 have bn9:m.tn+1<=33:=QV Q;refine⟨uD (Q.symm.trans H.symm),b20,fun _=>⟨{ m with s := { m.s with na:=some ⟨l,0,none⟩,nn:=m.s.nn+1,nc:=A },id:=dW m.id k (lU v.o v.seq),par:=dW m.par k v.node,R:=dW m.R k (fZ (fun _=>0) a v.bF),ta:=some ⟨g9,0,none⟩,tn:=m.tn+1,tc:=ahm,t:=wF m.t (down (fun i=>decide ((lU v.o v.seq)<m.t i 0)) m.tn) (lU v.o v.seq) v.node },?_,?_⟩⟩
 ·unfold vF; rw[show xH m.aW.id m.aW.nn (lU v.o v.seq)=k from N.symm,<- eR]; rfl
 exact { c:=IL.to (MS m _ _ _),n:=Mf,g:=Uo,tc:=abN,t:=OO,r:=OM,pB:=wY,tB:=IJ,bn:=(by have:=bnn; show m.s.nn+1<=1000; omega),bg:=bg,bt:=(by show m.tn+1<=1000; omega),br:=C.br }
namespace Rt
theorem rP(x:Nat->Int)(n:Int)(is:Bool)(a:Int)(off:Nat) :
 ((dU x n is a off).1=zero/\(dU x n is a off).2≠0 /\ ¬ (iV x=true/\1<=n/\n<=1125899906842624/\is=true/\a=0/\x off+n<=1125899906842624)) \/
 ((iV x=true/\1<=n/\n<=1125899906842624/\is=true/\a=0/\x off+n<=1125899906842624)/\dU x n is a off=(fZ x off (x off+n),0)):=by
 grind [dU]
theorem Uq(h:YR X)(h1:1<=a)(c:X m+a<=1125899906842624)(off:m<54:=by omega):YR (fZ X m (X m+a)):=by
 intro p b;unfold fZ;split
 ·have:=h m off; omega
 exact h p b
theorem yM(h:jw a=true) : ∃ i:Nat,i<6/\a=(i:Int)+1/\a.toNat-1=i:=by
 have:1<=a/\a<=6:=by grind [jw]
 exact⟨(a-1).toNat,by omega,by omega,by omega⟩
structure Moved(x y:Nat->Int)(a b:Nat)(n:Int):Prop where
 iV:iV y=true
 l : ∀ k,k<6->L y k=L x k+(if k=b then n else 0)-(if k=a then n else 0)
 g:xE y=xE x
 u:sJ y=sJ x
theorem Fy(h:(dX X d e a).2=0) : ∃ x b:Nat,x<6/\b<6/\x≠b/\d=(x:Int)+1/\e=(b:Int)+1/\1<=a/\a<=1125899906842624/\a<=L X x/\Moved X (dX X d e a).1 x b a/\(dX X d e a).1=fZ X (18+x*6+b) (X (18+x*6+b)+a):=by
 unfold dX at *
 rcases rP X a (jw d&&jw e) (qH X d e a) (nV d e)with ⟨_,c,_⟩|⟨⟨hm,h1,c,hr,he,hx⟩,heq⟩
 ·omega
 rw[Q_]at hr;obtain⟨x,n,s,D⟩:=yM hr.1;obtain⟨b,f,t,E⟩:=yM hr.2;have l:nV d e=18+x*6+b:=by grind [nV]
 rw[l]at heq hx;rw[l];have v:x≠b:=by
  grind [qH]
 have o:a<=L X x:=by
  unfold qH at he;rw[b_]at he;by_cases g:ku X d<a
  ·grind
  simp_all [rG]
 obtain⟨i,m,A⟩:=(mh X).1 hm;have g:=aml X _ _ n f a;have H : ∀ p,p<18->fZ X (18+x*6+b) (X (18+x*6+b)+a) p=X p:=fun p B=>jE _ _ _ _ (by omega);have r:xE (fZ X (18+x*6+b) (X (18+x*6+b)+a))=xE X:=by grind [xE,G]
 have q:(dU X a (jw d&&jw e) (qH X d e a) (18+x*6+b)).1=fZ X (18+x*6+b) (X (18+x*6+b)+a):=by rw[heq]
 rw[q];refine⟨x,b,n,f,v,s,t,h1,c,o,⟨?_,g,r,?_⟩,rfl⟩
 ·rw[mh];refine⟨Uq i h1 hx,fun k u => ?_,by omega⟩;obtain⟨w,y,z⟩:=m k u
  grind [F,C,R,jE]
 grind [sJ,C,F]
theorem Ki(x:Nat->Int)(off:Nat)(c:off<18)(v:Int)(a b:Nat):R (fZ x off v) a b=R x a b:=jE _ _ _ _ (by omega)
theorem abO(x:Nat->Int)(off:Nat)(a:off<18)(v:Int)(k:Nat):L (fZ x off v) k=L x k+(G (fZ x off v) k-G x k)+(F (fZ x off v) k-F x k)-(C (fZ x off v) k-C x k):=by
 grind [L,Ki]
theorem arC(x:Nat->Int)(a:Nat)(n:Int)(k:Nat):C (fZ x (6+a) (x (6+a)+n)) k=C x k+(if k=a then n else 0):=by
 grind [C,fZ]
theorem arD(x:Nat->Int)(a:Nat)(n:Int)(k:Nat):F (fZ x (12+a) (x (12+a)+n)) k=F x k+(if k=a then n else 0):=by
 grind [F,fZ]
theorem arE(x:Nat->Int)(a:Nat)(n:Int)(k:Nat):G (fZ x a (x a+n)) k=G x k+(if k=a then n else 0):=by
 grind [G,fZ]
theorem OT(h:(bV X d a).2=0) : ∃ x:Nat,x<6/\d=(x:Int)+1/\1<=a/\a<=1125899906842624/\a<=L X x/\C X x+a<=1125899906842624/\iV (bV X d a).1=true /\
 (∀ k,k<6->L (bV X d a).1 k=L X k-(if k=x then a else 0))/\xE (bV X d a).1=xE X/\sJ (bV X d a).1=sJ X+a/\(bV X d a).1=fZ X (6+x) (X (6+x)+a):=by
 unfold bV at *
 rcases rP X a (jw d) (uP X d a) (6+(d.toNat-1))with ⟨_,c,_⟩|⟨⟨hm,h1,c,hr,he,hx⟩,heq⟩
 ·omega
 obtain⟨x,p,s,f⟩:=yM hr;rw[f]at heq hx;rw[f];have o:a<=L X x:=by
  unfold uP at he;by_cases n:ku X d<a
  ·grind
  simp_all [rG]
 obtain⟨e,g,w⟩:=(mh X).1 hm;have q:(dU X a (jw d) (uP X d a) (6+x)).1=fZ X (6+x) (X (6+x)+a):=by rw[heq]
 rw[q];have j:=arC X x a;have m : ∀ k,k<6->G (fZ X (6+x) (X (6+x)+a)) k=G X k:=fun k b=>jE _ _ _ _ (by omega);have l : ∀ k,k<6->F (fZ X (6+x) (X (6+x)+a)) k=F X k:=fun k b=>jE _ _ _ _ (by omega);have n : ∀ k,k<6->L (fZ X (6+x) (X (6+x)+a)) k=L X k-(if k=x then a else 0):=by
  intro k b;rw[abO X (6+x) (by omega),m k b,l k b,j k]; omega
 have r:xE (fZ X (6+x) (X (6+x)+a))=xE X:=by grind [xE]
 refine⟨x,p,s,h1,c,o,hx,?_,n,r,?_,rfl⟩
 ·rw[mh];refine⟨Uq e h1 hx,fun k b => ?_,by omega⟩;obtain⟨t,u,v⟩:=g k b
  grind [Ki]
 grind [sJ]
theorem OU(h:(bW X d a).2=0) : ∃ x:Nat,x<6/\d=(x:Int)+1/\1<=a/\a<=1125899906842624/\a<=C X x-F X x/\iV (bW X d a).1=true /\
 (∀ k,k<6->L (bW X d a).1 k=L X k+(if k=x then a else 0))/\xE (bW X d a).1=xE X/\sJ (bW X d a).1=sJ X-a/\(bW X d a).1=fZ X (12+x) (X (12+x)+a):=by
 unfold bW at *
 rcases rP X a (jw d) (vX X d a) (12+(d.toNat-1))with ⟨_,c,_⟩|⟨⟨hm,h1,c,hr,he,hx⟩,heq⟩
 ·omega
 obtain⟨x,j,o,n⟩:=yM hr;rw[n]at heq hx;rw[n];have g:a<=C X x-F X x:=by
  grind [vX]
 obtain⟨e,f,t⟩:=(mh X).1 hm;have l:(dU X a (jw d) (vX X d a) (12+x)).1=fZ X (12+x) (X (12+x)+a):=by rw[heq]
 rw[l];have v:=arD X x a;have w : ∀ k,k<6->G (fZ X (12+x) (X (12+x)+a)) k=G X k:=fun k b=>jE _ _ _ _ (by omega);have u : ∀ k,k<6->C (fZ X (12+x) (X (12+x)+a)) k=C X k:=fun k b=>jE _ _ _ _ (by omega);have p : ∀ k,k<6->L (fZ X (12+x) (X (12+x)+a)) k=L X k+(if k=x then a else 0):=by
  grind [abO]
 have m:xE (fZ X (12+x) (X (12+x)+a))=xE X:=by grind [xE]
 refine⟨x,j,o,h1,c,g,?_,p,m,?_,rfl⟩
 ·rw[mh];refine⟨Uq e h1 hx,fun k b => ?_,by omega⟩;obtain⟨q,r,s⟩:=f k b
  grind [Ki]
 grind [sJ]
end Rt
section
namespace Rt
def eO(f:(Nat->Int)->(Nat->Int) × Int)(idx:Nat->Nat)(R:Nat->Nat->Int):Nat->(Nat->Nat->Int) × Int
 | 0=>(R,0)
 | j+1=>if(eO f idx R j).2=0 then(if(f ((eO f idx R j).1 (idx j))).2=0 then(aN (eO f idx R j).1 (idx j) (f ((eO f idx R j).1 (idx j))).1,0)else((eO f idx R j).1,(f ((eO f idx R j).1 (idx j))).2))else eO f idx R j
section
variable {f:(Nat->Int)->(Nat->Int) × Int} {idx:Nat->Nat} {R Rk:Nat->Nat->Int} {k q:Nat}
theorem Kj(h:eO f idx R k=(Rk,0))(e:idx k=q)(a:(f (Rk q)).2=0):eO f idx R (k+1)=(aN Rk q (f (Rk q)).1,0):=by
 simp_all [eO]
theorem MW(h:eO f idx R k=(Rk,0))(e:idx k=q)(a : ¬ (f (Rk q)).2=0):(eO f idx R (k+1)).2=(f (Rk q)).2:=by
 simp_all [eO]
theorem EA(a : ¬ (eO f idx R k).2=0) : ∀ n,k<=n->eO f idx R n=eO f idx R k
 | 0,h=>by simp_all
 | n+1,h=>by
   by_cases e:k=n+1
   ·rw[e]
   ·have:=EA a n (by omega)
    grind [eO]
end
def Gx(P:Nat->Bool):Nat->Nat
 | 0=>0
 | n+1=>if Gx P n=n/\P n=true then n+1 else Gx P n
theorem OV(P:Nat->Bool) : ∀ n,Gx P n<=n
 | 0=>A_ _
 | n+1=>by
   unfold Gx; split
   ·omega
   ·have:=OV P n; omega
theorem QW{P:Nat->Bool} : ∀ {n:Nat},(∀ i,i<n->P i=true)->Gx P n=n
 | 0,_=>rfl
 | n+1,h=>by unfold Gx; rw[d_ ⟨QW fun i a=>h i (by omega),h n (by omega)⟩]
theorem WV{P:Nat->Bool}{K:Nat}(h1 : ∀ i,i<K->P i=true)(a:P K=false) : ∀ {n:Nat},K<=n->Gx P n=K
 | 0,h=>by grind [Gx]
 | n+1,h=>by
   unfold Gx;by_cases e:K=n+1
   ·grind [QW]
   ·rw[WV h1 a (n:=n) (by omega),b_ ?_]
    grind
def iw(t:Nat->Nat->Int)(tn:Nat)(x:Int):Nat:=Gx (fun i=>decide (0<=bT t tn (bU t tn i x))) 1000
theorem zI{D:Nat}(h1 : ∀ i,i<k->0<=bT f m (bU f m i a))(c:bT f m (bU f m k a)<0)(d:bT f m (bU f m D a)<0)(e:D<=1000):k=iw f m a:=by
 have t:k<=1000:=by
  grind
 exact(WV (fun i b=>f_ (h1 i b)) (g_) t).symm
end Rt
def iQ.node(L:iQ)(x:Int):Int:=gF (fun i=>decide (L.id i=x)) L.nn
def iQ.jy(L:iQ)(o r:Int):Int:=gF (fun i=>decide (L.g i 0=o)&&decide (L.g i 1=r)) L.gn
def iQ.nW(L:iQ)(a:Nat)(r:Int):Int:=gF (fun i=>decide (L.rq a i=r)) (L.rn a)
namespace Rt
def vI(L:iQ)(x:Int)(i:Nat):Nat:=(L.node (bU L.t L.tn i x)).toNat
def uS(v:dA):Nat->Int:=fun j=>if j=0 then v.o else if j=1 then v.bK else if j=2 then v.node else if j=3 then v.bF else 0
def Jl(v:dA)(x:Nat->Int):Bool:=decide (v.o<x 0) || (decide (x 0=v.o)&&decide (v.bK<x 1))
def aX(v:dA):Nat:=(v.o-1).toNat
def ug(L:iQ)(v:dA):(Nat->Nat->Int) × Int:=eO (fun x=>bV x v.o v.bF) (vI L v.node) L.R (iw L.t L.tn v.node)
def kW(L:iQ)(v:dA):Int:=if 0<=L.nW (aX v) v.bK then 14 else if iw L.t L.tn v.node=0 then 9 else(ug L v).2
def vJ(L:iQ)(a:Nat)(r:Int):iQ := { L with rn:=aN L.rn a (L.rn a+1),rq:=aN L.rq a (aN (L.rq a) (L.rn a) r) }
def oU(L:iQ)(v:dA):iQ :=
 vJ { L with R:=(ug L v).1,gn:=L.gn+1,g:=dW L.g (down (fun i=>Jl v (L.g i)) L.gn) (uS v) } (aX v) v.bK
theorem Gy{q:Nat}{id par:Nat->Int}{R:Nat->Nat->Int}{r:Nat->Int} : ∀ i,i<m -> ∀ j,j<56->wu (fun a=>mV (id a) (par a) (R a)) q (bJ (mV (id q) (par q) (R q)) 2 54 (rv .i64 r)) i j=mV (id i) (par i) (aN R q r i) j:=fun i _ j d=>by
 unfold wu aN;by_cases h:i=q
 ·subst h;rw[d_ rfl,d_ rfl];unfold bJ mV rv;by_cases b:j=0
  ·subst b; rfl
  ·by_cases c:j=1
   ·subst c; rfl
   ·rw[d_,b_ b,b_ c]
 ·rw[b_ h,b_ h]
theorem aho:Ov (fun a=>lQ (f a)) k (lQ X)=fun a=>lQ (dW f k X a):=by
 grind [Ov,dW]
theorem Ur(m:ow)(a:Option Addr)(n c:Nat):dN (nQ m) 19 (.slice a n c)=nQ { m with s := { m.s with ga:=a,gn:=n,gc:=c } }:=by
 grind [dN,nQ,dS]
theorem QX(i:ow)(b:k=m+21)(a:Option Addr)(n c:Nat):dN (nQ i) k (.slice a n c)=nQ { i with ra:=aN i.ra m a,rn:=aN i.rn m n,rc:=aN i.rc m c }:=by
 grind [dN,nQ,aN]
theorem yT.app{a r:ow}(w':yT c b 6 a)(_ha:m<6)(h1:r.ra=aN a.ra m (some ⟨k,0,none⟩))(u:r.rn=aN a.rn m (a.rn m+1))(A:r.rc=aN a.rc m j)(v:r.rq=aN a.rq m (aN (a.rq m) (a.rn m) d))
 (C:aY h b 26 1 (dz k (a.rn m+1) j) (a.rn m+1) (rv .u64 (aN (a.rq m) (a.rn m) d))) (x:c.grownBy h (yt a m).ownBlock) (y:(yt a m).ownBlock=some k\/k=c.heap.size):yT h b 6 r:=by
 have g : ∀ i,i≠m->yt r i=yt a i:=fun i w=>by simp_all [yt,aN]
 have o:yt r m=dz k (a.rn m+1) j:=by simp_all [yt,aN]
 have t : ∀ i,i<6->i≠m -> ∀ q,(yt a i).ownBlock=some q->q≠k:=fun i w z q B e=>by
  subst e
  rcases y with f|f
  ·exact w'.2 i m w _ha z q B f
  ·have:=((w'.1 i w).ge B).2; omega
 refine⟨fun i w => ?_,fun i cap w s n q B => ?_⟩
 ·by_cases e:i=m
  ·simp_all [aN]
  rw[g i e,u,v];simp only[aN,b_ e];refine World.ownsRow.kept (w'.1 i w) x ?_;by_cases D:(yt a i).ownBlock=none
  ·simp_all
  right;intro f
  cases B:(yt a i).ownBlock with
  | none=>simp_all
  | some q=>rw[B]at f; exact w'.2 i m w _ha e q B f.symm
 by_cases e:i=m
 ·subst e;rw[o]at B;rw[g cap (fun e=>n e.symm)];intro l;exact t cap s (fun e=>n e.symm) q l (C_ B).symm
 rw[g i e]at B;by_cases p:cap=m
 ·subst p; rw[o]; intro l; exact t i w e q B (C_ l).symm
 rw[g cap p]; exact w'.2 i cap w s n q B
end Rt
end
def Qf(a:World)(l:List (Nat × (Nat->Int)))(w':World):Prop:=(∀ p∈l,w'.heap[p.1]? = some (.cells (dD .i64 54 p.2) 67 (0,0)))/\Below a.heap.size a w'
namespace Rt
def zJ(x:Nat->Int)(k:Nat):Nat->Int
 | 0=>G x k-C x k+F x k
 | j+1=>zJ x k j+R x j k-R x k j
theorem amy(x:Nat->Int)(k:Nat):zJ x k 6=L x k:=by simp only[zJ,L]; omega
theorem WW{x:Nat->Int}(h:YR x)(k:Nat)(d:k<6) : ∀ j:Nat,j<=6 -> -(1125899906842624*((j:Int)+1))<=zJ x k j/\zJ x k j<=1125899906842624*((j:Int)+2)
 | 0,_=>by
   have a:=h k (by omega); have b:=h (6+k) (by omega); have c:=h (12+k) (by omega);simp only[zJ,G,C,F]; omega
 | j+1,hj=>by
   have:=WW h _ d j (by omega);have a:=h (18+j*6+k) (by omega); have b:=h (18+k*6+j) (by omega);simp only[zJ,R]; omega
end Rt
theorem qI(n:Int)(w:World) :
 Calls prog 145 #[av n] w fun e w'=>e = .returned (.bool (Em n))/\w'=w:=by
 refine bX func145 9 ?_;refine ay<|au aD<|aC<|ay<|au (av n) ?_;by_cases a:0<=n
 ·refine Lv aH (mW a)<|au aH<|au (av n) ?_;by_cases b:n<=1125899906842624
  ·refine Lv aH (xq b)<|au aH<|au aH<|aC<|Wr<|aK aH<|⟨gN (by simp only[Em]; first|(symm; simp; omega)|(symm; simp; done)),rfl⟩
  refine Lv aD (yg b)<|au aD<|au aD<|aC<|Wr<|aK aD<|⟨gN (by simp only[Em]; first|(symm; simp; omega)|(symm; simp; done)),rfl⟩
 refine Lv aD (mM a)<|au aD<|bf<|bf<|au aD<|au aD<|aC<|Wr<|aK aD<|⟨gN (by simp only[Em]; first|(symm; simp; omega)|(symm; simp; done)),rfl⟩
theorem Da(n:Int)(w:World) :
 Calls prog 119 #[av n] w fun e w'=>e = .returned (.bool (jw n))/\w'=w:=by
 refine bX func119 9 ?_;refine ay<|au aD<|aC<|ay<|au (av n) ?_;by_cases a:1<=n
 ·refine Lv aH (mW a)<|au aH<|au (av n) ?_;by_cases b:n<=6
  ·refine Lv aH (xq b)<|au aH<|au aH<|aC<|Wr<|aK aH<|⟨gN (by simp only[jw]; first|(symm; simp; omega)|(symm; simp; done)),rfl⟩
  refine Lv aD (yg b)<|au aD<|au aD<|aC<|Wr<|aK aD<|⟨gN (by simp only[jw]; first|(symm; simp; omega)|(symm; simp; done)),rfl⟩
 refine Lv aD (mM a)<|au aD<|bf<|bf<|au aD<|au aD<|aC<|Wr<|aK aD<|⟨gN (by simp only[jw]; first|(symm; simp; omega)|(symm; simp; done)),rfl⟩
theorem Rt.Y0(x:Nat->Int)(k j:Nat):zJ x k (j+1)=zJ x k j+x (18+j*6+k)-x (18+k*6+j):=rfl
theorem Rt.Y1(x:Nat->Int)(k:Nat):zJ x k 0=x k-x (6+k)+x (12+k):=rfl
theorem Kk(x:Nat->Int)(k:Nat)(w:World)(E:k<6)(d:YR x) :
 Calls prog 120 #[.agg (aA 54 (rv .i64 x)),av ((k:Int)+1)] w fun e w'=>e = .returned (av (L x k))/\Below w.heap.size w w':=by
 have B:=amy x k;have A:=fun j=>WW d _ E j;have S:zJ x k 0=x k-x (k+6)+x (k+12):=by rw[Y1,Nat.add_comm 6 k,Nat.add_comm 12 k]
 have O:=d k (by omega);have P:=d (k+6) (by omega);have Q:=d (k+12) (by omega);refine bX func120 44 ?_;refine ay<|oq fun c l D h H X => ?_;have s:=bL H.bP (Below.refl w.heap.size w);have U:=iy D;have W:=h.lt;refine au (av 0)<|aC<|ay<|au (av ((k:Int)+1))<|Lv (av k) jK<|au (av k)<|aC<|aQ ?_;refine zu<|bI (av k)<|bI (pt c)<|Qv (pf c k) (fun b a=>jh 6 1)<|Qv (av (x k)) (fun b a=>aR (h.aJ.dr a) k)<|bI (av k)<|bI (pf c 6)<|Qv (pf c (k+6)) (fun b a=>jh 6 1)<|Qv (av (x (k+6))) (fun b a=>aR (h.aJ.dr a) (k+6))<|Qv (av ((x k)-(x (k+6)))) (fun b a=>jK)<|bI (av k)<|bI (pf c 12)<|Qv (pf c (k+12)) (fun b a=>jh 6 1)<|Qv (av (x (k+12))) (fun b a=>aR (h.aJ.dr a) (k+12))<|Qv (av (((x k)-(x (k+6)))+(x (k+12)))) (fun b a=>gu)<|bI (av (((x k)-(x (k+6)))+(x (k+12))))<|Qn ?_;rintro _ ⟨i,rfl⟩;obtain⟨K,n⟩ : ∃ b,b=World.drewN l i:=⟨_,rfl⟩;rw[<- n];have I:eG l.heap.size l K:=by rw[n]; exact Sb (kQ l i)
 have⟨F,t⟩:=fB I.bP h s;clear n;refine sN<|aQ<|ay<|au (av 0)<|aC<|Wb<|Wo (fun f z => ∃ j:Nat,j<=6/\f 2=(pt c)/\f 5=av (k:Int)/\f 6=av (zJ x k j)/\f 7=av (j:Int)/\aM z c 54 (rv .i64 x) 67/\Below w.heap.size w z) (fun f _=>(6-(intOf (f 7)).toNat)) ⟨0,by omega,(by rfl),ic,ic,ic,F,t⟩ ?_;rintro R m ⟨j,V,p,q,y,g,r,u⟩;have T:=A j (by omega);have N:zJ x k (j+1)=zJ x k j+x (6*j+k+18)-x (j+6*k+18):=by rw[Y0,show 18+j*6+k=6*j+k+18 by omega,show 18+k*6+j=j+6*k+18 by omega]
 have s:=d (6*j+k+18);have t:=d (j+6*k+18);refine aQ<|ay<|bA g ?_;by_cases v:(j:Int)<6
 ·refine Lv aH (fK v)<|aC<|aP<|Wk<|sN<|aQ<|Wb<|zu<|iL y<|iL g<|iL q<|Qv (pf c 18) (fun b a=>iO p 18)<|Qv (pf c (6*j+18)) (fun b a=>jh 6 6)<|Qv (pf c (6*j+k+18)) (fun b a=>jh 6 1)<|Qv (av (x (6*j+k+18))) (fun b a=>aR (r.aJ.dr a) (6*j+k+18))<|Qv (av ((zJ x k j)+(x (6*j+k+18)))) (fun b a=>gu)<|iL q<|iL g<|Qv (pf c 18) (fun b a=>iO p 18)<|Qv (pf c (6*k+18)) (fun b a=>jh 6 6)<|Qv (pf c (j+6*k+18)) (fun b a=>jh 6 1)<|Qv (av (x (j+6*k+18))) (fun b a=>aR (r.aJ.dr a) (j+6*k+18))<|Qv (av (((zJ x k j)+(x (6*j+k+18)))-(x (j+6*k+18)))) (fun b a=>jK)<|bI (av (((zJ x k j)+(x (6*j+k+18)))-(x (j+6*k+18))))<|Qn ?_;rintro _ ⟨i,rfl⟩;obtain⟨M,o⟩ : ∃ b,b=World.drewN m i:=⟨_,rfl⟩;rw[<- o];have J:eG m.heap.size m M:=by rw[o]; exact Sb (kQ m i)
  have⟨G,C⟩:=fB J.bP r u;clear o;refine bS<|sN<|Wl<|bA g<|Lv (av ((j:Int)+1)) gu<|au (av ((j:Int)+1))<|Ln<|iA ⟨j+1,by omega,p,(q.trans ic),ic,ic,G,C⟩ ?_;show(6-(intOf (av ((j:Int)+1))).toNat)<_;simp only[g,intOf]; omega
 refine Lv aD (fM v)<|aC<|aL<|Wx<|cZ<|iC<|dB<|sN<|ay<|bA y<|au (av (zJ x k j))<|aC<|Wr<|aK (av (zJ x k j))<|⟨uD (by rw[<- B]; exact K_ _ (by omega)),u⟩
namespace Rt
def abP(x:Nat->Int)(i:Nat):Prop:=Em (x i)=true/\Em (x (i+6))=true/\Em (x (i+12))=true/\x (i+12)<=x (i+6)/\x (7*i+18)=0
def Kl(x:Nat->Int)(i j:Nat):Prop := ∀ q,q<j->Em (x (6*i+q+18))=true
def QY(x:Nat->Int)(i:Nat):Prop := ∀ k,k<i->abP x k/\Kl x k 6
def Dz(x:Nat->Int):Nat->Int
 | 0=>0
 | i+1=>Dz x i+x i
theorem Y2(x:Nat->Int):QY x 0:=fun _ h=>L_ h (by omega)
theorem Ut(x:Nat->Int)(i:Nat):Kl x i 0:=fun _ h=>L_ h (by omega)
theorem Uu(h:Kl X m j)(a:Em (X (6*m+j+18))=true):Kl X m (j+1):=fun q b=>by
 by_cases e:q=j
 ·subst e; exact a
 ·exact h q (by omega)
theorem Y3(h:QY X m)(hr:abP X m)(a:Kl X m 6):QY X (m+1):=fun k b=>by
 by_cases e:k=m
 ·subst e; exact⟨hr,a⟩
 ·exact h k (by omega)
theorem QZ(h:QY X 6):YR X:=fun p d=>by
 by_cases a:p<6
 ·exact Er (h p a).1.1
 ·by_cases b:p<12
  ·have:=Er (h (p-6) (by omega)).1.2.1; rwa [show p-6+6=p by omega]at this
  ·by_cases c:p<18
   ·have:=Er (h (p-12) (by omega)).1.2.2.1; rwa [show p-12+12=p by omega]at this
   ·have:=Er ((h ((p-18) / 6) (by omega)).2 ((p-18) % 6) (by omega)); rwa [show 6*((p-18) / 6)+(p-18) % 6+18=p by omega]at this
theorem WX{x:Nat->Int} : ∀ {i:Nat},QY x i->0<=Dz x i/\Dz x i<=1125899906842624*(i:Int)
 | 0,_=>by simp[Dz]
 | i+1,h=>by
   have a:=WX (i:=i) (fun k c=>h k (by omega));have b:=Er (h i (by omega)).1.1
   grind [Dz]
theorem OW{p:Nat}(a:p<54)(h:Em (X p)=false):iV X=false:=by
 cases hm:iV X
 ·rfl
 have:=(mh X).1 hm |>.1 p a
 grind [Em]
theorem arF{i:Nat}(hi:i<6)(h:X (i+6)<X (i+12)):iV X=false:=by
 cases hm:iV X
 ·rfl
 have:=((mh X).1 hm |>.2.1 i hi).2.1
 grind [F,C]
theorem arG{i:Nat}(hi:i<6)(h : ¬ X (7*i+18)=0):iV X=false:=by
 cases hm:iV X
 ·rfl
 have:=((mh X).1 hm |>.2.1 i hi).2.2
 grind [R]
theorem amA{i:Nat}(hi:i<6)(h:L X i<0):iV X=false:=by
 cases hm:iV X
 ·rfl
 have:=((mh X).1 hm |>.2.1 i hi).1;omega
theorem abQ(h : ∀ k,k<m->0<=L X k)(a:0<=L X m) : ∀ k,k<m+1->0<=L X k:=fun k b=>by
 by_cases e:k=m
 ·rw[e]; exact a
 ·exact h k (by omega)
theorem WY(ha:QY X 6)(b : ∀ k,k<6->0<=L X k):iV X=decide (Dz X 6<=1125899906842624):=by
 have c:Dz X 6=xE X:=by simp_all [Dz,xE,G]
 rw[c,Bool.eq_iff_iff,mh,O_];refine⟨fun h=>h.2.2,fun h=>⟨QZ ha,fun k a=>⟨b k a,?_,?_⟩,h⟩⟩
 ·have:=(ha k a).1.2.2.2.1; grind [F,C]
 have:=(ha k a).1.2.2.2.2; grind [R]
end Rt
set_option maxRecDepth 10000 in
set_option maxHeartbeats 1000000 in
theorem abR(x:Nat->Int)(w:World) :
 Calls prog 134 #[.agg (aA 54 (rv .i64 x))] w fun e w'=>e = .returned (.bool (iV x))/\Below w.heap.size w w':=by
 refine bX func134 81 ?_;refine ay<|oq fun c w1 kV m1 s1 z1 =>have b1:=bL s1.bP (Below.refl w.heap.size w);have tJ:=iy kV;have vB:=m1.lt;au aD<|aC<|ay<|au (av 0)<|aC<|aQ<|ay<|au (av 0)<|aC<|Wb<|Wo (fun f q => ∃ i:Nat,i<=6/\QY x i/\f 1=(pt c)/\f 3=av (Dz x i)/\f 4=av (i:Int)/\aM q c 54 (rv .i64 x) 67/\Below w.heap.size w q) (fun f _=>(6-(intOf (f 4)).toNat)) ⟨0,by omega,Y2 x,(by rfl),ic,ic,m1,b1⟩ ?_;rintro f1 d ⟨i,hi,B,n,h2,l,o,r⟩;have hG:=WX B;refine aQ<|ay<|bA l ?_;by_cases Z:(i:Int)<6
 ·refine Lv aH (fK Z)<|aC<|aP<|Wk<|sN<|aQ<|Wb<|aQ<|aQ<|zu<|iL l<|Qv (pt c) (fun a b=>iO n 0)<|Qv (pf c i) (fun a b=>jh 6 1)<|Qv (av (x i)) (fun a b=>aR (o.aJ.dr b) i) ?_;by_cases s:(Em (x i))=true
  ·refine BA (fun _ _=>qI (x i) _) aH (by rw[s])<|bI aD<|bI aD<|iL l<|Qv (pf c 6) (fun a b=>iO n 6)<|Qv (pf c (i+6)) (fun a b=>jh 6 1)<|Qv (av (x (i+6))) (fun a b=>aR (o.aJ.dr b) (i+6)) ?_;by_cases v:(Em (x (i+6)))=true
   ·refine BA (fun _ _=>qI (x (i+6)) _) aH (by rw[v])<|bI aD<|bI aD<|bI aD<|iL l<|Qv (pf c 12) (fun a b=>iO n 12)<|Qv (pf c (i+12)) (fun a b=>jh 6 1)<|Qv (av (x (i+12))) (fun a b=>aR (o.aJ.dr b) (i+12)) ?_;by_cases y:(Em (x (i+12)))=true
    ·refine BA (fun _ _=>qI (x (i+12)) _) aH (by rw[y])<|bI aD<|bI aD<|bI aD<|iL l<|Qv (pf c 12) (fun a b=>iO n 12)<|Qv (pf c (i+12)) (fun a b=>jh 6 1)<|Qv (av (x (i+12))) (fun a b=>aR (o.aJ.dr b) (i+12))<|iL l<|Qv (pf c 6) (fun a b=>iO n 6)<|Qv (pf c (i+6)) (fun a b=>jh 6 1)<|Qv (av (x (i+6))) (fun a b=>aR (o.aJ.dr b) (i+6)) ?_;by_cases H:(x (i+6))<(x (i+12))
     ·refine Qv aH (fun a b=>lK H)<|bI aH<|bI aH<|bD<|bD<|bD<|bD<|bD<|bD<|bD<|bI aH<|Qn ?_;rintro _ ⟨g,rfl⟩;obtain⟨IC,K⟩ : ∃ a,a=World.drewN d g:=⟨_,rfl⟩;rw[<- K];have s2:eG d.heap.size d IC:=(by rw[K]; exact Sb (kQ d g));have b3:=bL s2.bP r;clear K;refine sN (aP (ay (au aD (aC (Wr (sR (bO (sR (oG (bO (sR (aK aD (⟨gN (Eq.symm ?_),b3⟩)))))))))))));exact arF (i:=i) (by omega) H
     refine Qv aD (fun a b=>lM H)<|bI aD<|bI aD<|iL l<|iL l<|Qv (pf c 18) (fun a b=>iO n 18)<|Qv (pf c (6*i+18)) (fun a b=>jh 6 6)<|Qv (pf c (7*i+18)) (fun a b=>jh 6 1)<|Qv (av (x (7*i+18))) (fun a b=>aR (o.aJ.dr b) (7*i+18)) ?_;by_cases C:(x (7*i+18))=0
     ·refine Qv aD (fun a b=>kr C)<|bI aD<|Qn ?_;rintro _ ⟨g,rfl⟩;obtain⟨Ma,M⟩ : ∃ a,a=World.drewN d g:=⟨_,rfl⟩;rw[<- M];have s3:eG d.heap.size d Ma:=(by rw[M]; exact Sb (kQ d g));have⟨m4,b4⟩:=fB s3.bP o r;clear M;refine sN<|aL<|Wk<|sN<|aQ<|have hR:abP x i:=⟨s,v,y,by omega,C⟩;have b15:=Er s;Wl<|bA h2<|bA l<|Lv (pt c) (iO n 0)<|Lv (pf c i) (jh 6 1)<|Lv (av (x i)) (aR m4.aJ i)<|Lv (av ((Dz x i)+(x i))) gu<|au (av ((Dz x i)+(x i)))<|aC<|ay<|au (av 0)<|aC<|Wb<|Wo (fun f q => ∃ j:Nat,j<=6/\Kl x i j/\f 1=(pt c)/\f 3=av (Dz x (i+1))/\f 4=av (i:Int)/\f 5=av (j:Int)/\aM q c 54 (rv .i64 x) 67/\Below w.heap.size w q) (fun f _=>(6-(intOf (f 5)).toNat)) ⟨0,by omega,Ut x i,n,ic,(l.trans ic),ic,m4,b4⟩ ?_;rintro f2 w3 ⟨j,hj,T,R,h5,S,E,U,G⟩;refine aQ<|ay<|bA E ?_;by_cases X:(j:Int)<6
      ·refine Lv aH (fK X)<|aC<|aP<|Wk<|sN<|aQ<|Wb<|ay<|bA S<|bA E<|Lv (pf c 18) (iO R 18)<|Lv (pf c (6*i+18)) (jh 6 6)<|Lv (pf c (6*i+j+18)) (jh 6 1)<|Lv (av (x (6*i+j+18))) (aR U.aJ (6*i+j+18)) ?_;by_cases z:(Em (x (6*i+j+18)))=true
       ·refine mX (qI (x (6*i+j+18)) _) aH (by rw[z])<|au aD<|aC<|aL<|Wk<|bS<|sN<|Wl<|bA E<|Lv (av ((j:Int)+1)) gu<|au (av ((j:Int)+1))<|Ln<|iA ⟨j+1,by omega,Uu T z,R,(h5.trans ic),(S.trans ic),ic,U,G⟩ ?_;show(6-(intOf (av ((j:Int)+1))).toNat)<_;simp only[E,intOf]; omega
       rw[R_]at z;refine mX (qI (x (6*i+j+18)) _) aD (by rw[z]) (au aH (aC (aP (ay (au aD (aC (Wr (bO (sR (oG (bO (bO (sR (oG (bO (sR (aK aD (⟨gN (Eq.symm ?_),G⟩))))))))))))))))));exact OW (p:=6*i+j+18) (by omega) z
      refine Lv aD (fM X)<|aC<|aL<|Wx<|cZ<|iC<|dB<|bS<|sN<|Wl<|bA S<|Lv (av ((i:Int)+1)) gu<|au (av ((i:Int)+1))<|Ln<|have A:j=6:=(by omega);have hT6:Kl x i 6:=(by rw[A]at T; exact T);iA ⟨i+1,by omega,Y3 B hR hT6,R,(h5.trans ic),ic,U,G⟩ ?_;show(6-(intOf (av ((i:Int)+1))).toNat)<_;simp only[l,intOf]; omega
     refine Qv aH (fun a b=>mO C)<|bI aH<|Qn ?_;rintro _ ⟨g,rfl⟩;obtain⟨wq3,N⟩ : ∃ a,a=World.drewN d g:=⟨_,rfl⟩;rw[<- N];have s4:eG d.heap.size d wq3:=(by rw[N]; exact Sb (kQ d g));have b6:=bL s4.bP r;clear N;refine sN (aP (ay (au aD (aC (Wr (sR (bO (sR (oG (bO (sR (aK aD (⟨gN (Eq.symm ?_),b6⟩)))))))))))));exact arG (i:=i) (by omega) C
    rw[R_]at y;refine BA (fun _ _=>qI (x (i+12)) _) aD (by rw[y])<|bI aH<|bI aH<|bI aH<|bD<|bD<|bD<|bD<|bD<|bD<|bD<|bD<|bD<|bI aH<|bI aH<|bD<|bD<|bD<|bD<|bD<|bD<|bD<|bI aH<|Qn ?_;rintro _ ⟨g,rfl⟩;obtain⟨wq4,O⟩ : ∃ a,a=World.drewN d g:=⟨_,rfl⟩;rw[<- O];have s5:eG d.heap.size d wq4:=(by rw[O]; exact Sb (kQ d g));have b7:=bL s5.bP r;clear O;refine sN (aP (ay (au aD (aC (Wr (sR (bO (sR (oG (bO (sR (aK aD (⟨gN (Eq.symm ?_),b7⟩)))))))))))));exact OW (p:=i+12) (by omega) y
   rw[R_]at v;refine BA (fun _ _=>qI (x (i+6)) _) aD (by rw[v])<|bI aH<|bI aH<|bI aH<|bD<|bD<|bD<|bD<|bD<|bD<|bI aH<|bI aH<|bD<|bD<|bD<|bD<|bD<|bD<|bD<|bD<|bD<|bI aH<|bI aH<|bD<|bD<|bD<|bD<|bD<|bD<|bD<|bI aH<|Qn ?_;rintro _ ⟨g,rfl⟩;obtain⟨wq5,P⟩ : ∃ a,a=World.drewN d g:=⟨_,rfl⟩;rw[<- P];have s6:eG d.heap.size d wq5:=(by rw[P]; exact Sb (kQ d g));have b8:=bL s6.bP r;clear P;refine sN (aP (ay (au aD (aC (Wr (sR (bO (sR (oG (bO (sR (aK aD (⟨gN (Eq.symm ?_),b8⟩)))))))))))));exact OW (p:=i+6) (by omega) v
  rw[R_]at s;refine BA (fun _ _=>qI (x i) _) aD (by rw[s])<|bI aH<|bI aH<|bD<|bD<|bD<|bD<|bD<|bD<|bI aH<|bI aH<|bD<|bD<|bD<|bD<|bD<|bD<|bI aH<|bI aH<|bD<|bD<|bD<|bD<|bD<|bD<|bD<|bD<|bD<|bI aH<|bI aH<|bD<|bD<|bD<|bD<|bD<|bD<|bD<|bI aH<|Qn ?_;rintro _ ⟨g,rfl⟩;obtain⟨wq6,Q⟩ : ∃ a,a=World.drewN d g:=⟨_,rfl⟩;rw[<- Q];have s7:eG d.heap.size d wq6:=by rw[Q]; exact Sb (kQ d g)
  have b9:=bL s7.bP r;clear Q;refine sN (aP (ay (au aD (aC (Wr (sR (bO (sR (oG (bO (sR (aK aD (⟨gN (Eq.symm ?_),b9⟩)))))))))))));exact OW (p:=i) (by omega) s
 refine Lv aD (fM Z)<|aC<|aL<|Wx<|cZ<|iC<|dB<|sN<|aQ<|ay<|au (av 1)<|aC<|Wb ?_;have A:i=6:=by omega
 rw[A]at B;have HE:=QZ B;have V:=B;refine Wo (fun f q => ∃ m:Nat,m<=6/\(∀ k,k<m->0<=L x k)/\f 1=(pt c)/\f 3=av (Dz x i)/\f 6=av ((m:Int)+1)/\aM q c 54 (rv .i64 x) 67/\Below w.heap.size w q) (fun f _=>(7-(intOf (f 6)).toNat)) ⟨0,by omega,(fun _ h=>L_ h (by omega)),n,(h2.trans ic),ic,o,r⟩ ?_;rintro f3 w4 ⟨m,hm,u,h8,h9,D,m10,F⟩;refine aQ<|ay<|bA D ?_;by_cases Y:((m:Int)+1)<=6
 ·refine Lv aH (xq Y)<|aC<|aP<|Wk<|sN<|aQ<|Wb<|ay<|Lv (.agg (aA 54 (rv .i64 x))) (dZ m10.aJ 0 (ha:=h8))<|bA D<|dO (Kk _ m _ (by omega) HE) _ rfl ?_;intro w5 hb1;have⟨m11,W⟩:=fB hb1 m10 F;by_cases I:(L x m)<0
  ·refine Lv aH (fK I) (aC (aP (ay (au aD (aC (Wr (bO (sR (oG (bO (sR (aK aD (⟨gN (Eq.symm ?_),W⟩)))))))))))));exact amA (i:=m) (by omega) I
  refine Lv aD (fM I)<|aC<|aL<|Wk<|bS<|sN<|Wl<|bA D<|Lv (av ((m:Int)+2)) gu<|au (av ((m:Int)+2))<|Ln<|iA ⟨m+1,by omega,abQ u (by omega),h8,(h9.trans ic),ic,m11,W⟩ ?_;show(7-(intOf (av ((m:Int)+2))).toNat)<_;simp only[D,intOf]; omega
 refine Lv aD (yg Y)<|aC<|aL<|Wx<|cZ<|iC<|dB<|sN<|ay<|bA h9 ?_;by_cases t:(Dz x i)<=1125899906842624
 ·refine Lv aH (xq t) (au aH (aC (Wr (aK aH (⟨gN (Eq.symm ?_),F⟩)))));have J:m=6:=by omega
  rw[J]at u;rw[A]at t;rw[WY V u]; exact f_ t
 refine Lv aD (yg t) (au aD (aC (Wr (aK aD (⟨gN (Eq.symm ?_),F⟩)))));have J:m=6:=by omega
 rw[J]at u;rw[A]at t;rw[WY V u]; exact g_ t
namespace Rt
def gL(x:Nat->Int)(i n:Int):Int:=if iV x&&decide (1<=n)&&decide (n<=1125899906842624)then(if jw i then 0 else 10)else 1
end Rt
theorem Km(x:Nat->Int)(i n:Int)(w:World) :
 Calls prog 118 #[.agg (aA 54 (rv .i64 x)),av i,av n] w fun e w'=>e = .returned (av (gL x i n))/\Below w.heap.size w w':=by
 refine bX func118 21 ?_;refine ay<|oq fun p s k h o v => ?_;have d:=bL o.bP (Below.refl w.heap.size w);have q:=iy k;have r:=h.lt;refine au (av 0)<|aC<|aQ<|ay<|Lv (.agg (aA 54 (rv .i64 x))) (dZ h.aJ 0) ?_;by_cases a:(iV x)=true
 ·refine dO (abR x _) aH (by rw[a]) ?_;intro t l;have c:=bL l d;refine au aD<|au aD<|au (av n) ?_;by_cases f:n<1
  ·refine Lv aH (fK f) (au aH (au aH (bf (bf (au aH (aC (aP (ay (au (av 1) (aC (Wr (sR (aK (av 1) (⟨uD ?_,c⟩))))))))))))));unfold gL; rw[a,g_ (show ¬ 1<=n by omega)]; simp
  refine Lv aD (fM f)<|au aD<|au aD<|au (av n) ?_;by_cases g:1125899906842624<n
  ·refine Lv aH (lK g) (au aH (aC (aP (ay (au (av 1) (aC (Wr (sR (aK (av 1) (⟨uD ?_,c⟩))))))))));unfold gL; rw[a,f_ (show 1<=n by omega),g_ (show ¬ n<=1125899906842624 by omega)]; simp
  refine Lv aD (lM g)<|au aD<|aC<|aL<|Wk<|sN<|aQ<|ay<|au (av i) ?_;by_cases b:(jw i)=true
  ·refine mX (Da i _) aH (by rw[b]) (au aD (aC (aL (Wk (sN (ay (au (av 0) (aC (Wr (aK (av 0) (⟨uD ?_,c⟩)))))))))));unfold gL; rw[a,f_ (show 1<=n by omega),f_ (show n<=1125899906842624 by omega),b]; simp
  rw[R_]at b;refine mX (Da i _) aD (by rw[b]) (au aH (aC (aP (ay (au (av 10) (aC (Wr (sR (aK (av 10) (⟨uD ?_,c⟩))))))))));unfold gL; rw[a,f_ (show 1<=n by omega),f_ (show n<=1125899906842624 by omega),b]; simp
 rw[R_]at a;refine dO (abR x _) aD (by rw[a]) ?_;intro u m;have j:=bL m d;refine au aH (au aH (bf (bf (au aH (au aH (bf (bf (au aH (aC (aP (ay (au (av 1) (aC (Wr (sR (aK (av 1) (⟨uD ?_,j⟩)))))))))))))))));unfold gL; rw[a]; simp
namespace Rt
theorem Kn(h:gL X d a=0):iV X=true/\1<=a/\a<=1125899906842624/\jw d=true:=by
 unfold gL at h;by_cases n:iV X=true
 ·by_cases b:1<=a
  ·by_cases c:a<=1125899906842624
   ·rw[n,f_ b,f_ c]at h
    cases h4:jw d
    ·rw[h4]at h; simp at h
    exact⟨n,b,c,rfl⟩
   rw[g_ c]at h; simp at h
  rw[g_ b]at h; simp at h
 rw[show iV X=false by simpa using n]at h; simp at h
theorem Q0(h : ¬ gL X d a=0):dU X a (jw d) e m=(zero,gL X d a):=by
 unfold gL at *;unfold dU;by_cases n:(iV X&&decide (1<=a)&&decide (a<=1125899906842624))=true
 ·simp only[d_ n]at *
  cases h4:jw d
  ·simp
  simp[h4]at h
 simp only[b_ n]at *
theorem Gz(h1:iV X=true)(b:1<=d)(c:d<=1125899906842624)(x:A=true) :
 dU X d A a m=if a=0 then(if X m+d<=1125899906842624 then(fZ X m (X m+d),0)else(zero,6))else(zero,a):=by
 unfold dU; rw[h1,f_ b,f_ c,x]; simp
theorem EB(h1:iV X=true)(b:1<=d)(c:d<=1125899906842624)(x:A=true)(e:a=0)(f:X m+d<=1125899906842624:=by omega):dU X d A a m=(fZ X m (X m+d),0):=by
 rw[Gz h1 b c x,d_ e,d_ f]
theorem H8(h1:iV X=true)(b:1<=d)(c:d<=1125899906842624)(n:A=true)(e:a=0)(f : ¬ X m+d<=1125899906842624:=by omega):dU X d A a m=(zero,6):=by
 rw[Gz h1 b c n,d_ e,b_ f]
theorem AO(h1:iV X=true)(b:1<=d)(c:d<=1125899906842624)(n:A=true)(f:a=e)(g:e≠0:=by decide):dU X d A a m=(zero,e):=by
 rw[Gz h1 b c n,f,b_ g]
theorem Y4(h1:iV X=true)(b:1<=d)(c:d<=1125899906842624):dU X d false a m=(zero,10):=by
 unfold dU; rw[h1,f_ b,f_ c]; simp
theorem pl(k:Nat):((k:Int)+1).toNat-1=k:=by omega
theorem Y5(h : ¬ gL X d a=0):dX X d e a=(zero,gL X d a):=by
 unfold dX;unfold gL at *;unfold dU;by_cases n:(iV X&&decide (1<=a)&&decide (a<=1125899906842624))=true
 ·simp only[d_ n]at *
  cases h4:jw d
  ·simp
  simp[h4]at h
 simp only[b_ n]at *
theorem Q5(k q:Nat):nV ((k:Int)+1) ((q:Int)+1)=6*k+q+18:=by unfold nV; omega
theorem abS(a:iV X=true)(b:k<6):X (k+6)<=1125899906842624:=(qh a (k+6) (by omega)).2
end Rt
set_option maxRecDepth 10000 in
theorem WZ(x:Nat->Int)(i n:Int)(w:World) :
 Calls prog 115 #[.agg (aA 54 (rv .i64 x)),av i,av n] w fun e w'=>e = .returned (.tuple #[.agg (aA 54 (rv .i64 (bV x i n).1)),av (bV x i n).2])/\Below w.heap.size w w':=by
 refine bX func115 42 ?_;refine ay<|oq fun b w1 Q p s1 z1 =>have u:=bL s1.bP (Below.refl w.heap.size w);have tJ:=iy Q;have vB:=p.lt;oJ 54 (rv .i64 (fun _=>0)) fun l w2 z B s2 z2 => ?_;have⟨C,K⟩:=fB s2.bP p u;have xw:=gQ z u.size;have BP:=gD z p.lt;have zR:=B.lt;refine au (av 0)<|aC<|ay<|Lv (.agg (aA 54 (rv .i64 x))) (dZ C.aJ 0)<|au (av i)<|au (av n)<|dO (Km x i n _) _ rfl ?_;intro w3 S;have⟨q,D,m⟩:=iP S C B K;refine au (av (gL x i n))<|aC<|aQ<|ay<|au (av (gL x i n)) ?_;by_cases j:(gL x i n)=0
 ·refine Lv aD (kr j)<|aC<|aL<|Wk<|sN<|aQ<|aQ ?_;obtain⟨a,s,t,h⟩:=Kn j;have J:=qh a;obtain⟨k,o,R,_⟩:=yM h;subst R;refine Wl<|au (av n)<|Lv (.agg (aA 54 (rv .i64 x))) (dZ q.aJ 0)<|au (av ((k:Int)+1))<|dO (Kk _ k _ (by omega) (qh a)) _ rfl ?_;intro w4 T;have⟨g,r,d⟩:=iP T q D m;by_cases f:(L x k)<n
  ·refine Lv aH (lK f)<|aC<|aP<|ay<|au (.agg (aA 54 (rv .i64 (fun _=>0))))<|dY r 0 fun w5 m8 E z3 =>have m9:aM w5 l 54 (rv .i64 (fun _=>0)) 67:=aO m8;have m10:=g.cK E (by omega);have M:=E.below d d.size (by omega);au (av 11) (aC (Wr (sR (⟨.tuple #[.agg (aA 54 (rv .i64 (fun _=>0))),av 11],gK Tryz.results115 ⟨_,rfl,aU m9.aJ⟩,?_⟩))));refine⟨?_,M⟩;have c:bV x ((k:Int)+1) n=(zero,11):=by
    unfold bV uP;rw[rG a _ o,f_ f];exact AO a s t h rfl
   rw[c]
   all_goals rfl
  refine Lv aD (lM f)<|aC<|aL<|Wk<|sN<|aQ<|aQ<|have q1:=J (k+6);Wl<|au (av ((k:Int)+1))<|Lv (av k) jK<|au (pf b 6)<|Lv (pf b (k+6)) (jh 6 1)<|Lv (av (x (k+6))) (aR g.aJ (k+6))<|au (av n)<|Lv (av ((x (k+6))+n)) gu ?_;by_cases y:1125899906842624<((x (k+6))+n)
  ·refine Lv aH (lK y)<|aC<|aP<|ay<|au (.agg (aA 54 (rv .i64 (fun _=>0))))<|dY r 0 fun w6 U F z4 =>have V:aM w6 l 54 (rv .i64 (fun _=>0)) 67:=aO U;have m13:=g.cK F (by omega);have N:=F.below d d.size (by omega);au (av 6) (aC (Wr (sR (⟨.tuple #[.agg (aA 54 (rv .i64 (fun _=>0))),av 6],gK Tryz.results115 ⟨_,rfl,aU V.aJ⟩,?_⟩))));refine⟨?_,N⟩;have c:bV x ((k:Int)+1) n=(zero,6):=by
    unfold bV uP;rw[rG a _ o,g_ f,pl,Nat.add_comm 6 k];exact H8 a s t h rfl
   rw[c]
   all_goals rfl
  refine Lv aD (lM y)<|aC<|aL<|Wk<|sN<|ay<|au (av ((k:Int)+1))<|Lv (av k) jK<|au (pf b 6)<|Lv (pf b (k+6)) (jh 6 1)<|Lv (av (x (k+6))) (aR g.aJ (k+6))<|au (av n)<|Lv (av ((x (k+6))+n)) gu<|au (pf b 6)<|Lv (pf b (k+6)) (jh 6 1)<|jf g (k+6) (av ((x (k+6))+n)) fun w7 W G z5 =>have A:aM w7 b 54 (rv .i64 (fZ x (k+6) ((x (k+6))+n))) 67:=W.to (yA _ _ _ _);have X:=r.cK G (by omega);have v:=G.below d d.size (by omega);aC<|ay<|Lv (.agg (aA 54 (rv .i64 (fZ x (k+6) ((x (k+6))+n))))) (dZ A.aJ 0)<|dY X 0 fun w8 Y H z6 =>have Z:aM w8 l 54 (rv .i64 (fZ x (k+6) ((x (k+6))+n))) 67:=aO Y;have m19:=A.cK H (by omega);have O:=H.below v v.size (by omega);au (av 0) (aC (Wr (⟨.tuple #[.agg (aA 54 (rv .i64 (fZ x (k+6) ((x (k+6))+n)))),av 0],gK Tryz.results115 ⟨_,rfl,aU Z.aJ⟩,?_⟩)));refine⟨?_,O⟩;have c:bV x ((k:Int)+1) n=(fZ x (k+6) (x (k+6)+n),0):=by
   unfold bV uP;rw[rG a _ o,g_ f,pl,Nat.add_comm 6 k];exact EB a s t h rfl
  rw[c]
  all_goals rfl
 refine Lv aH (mO j)<|aC<|aP<|ay<|au (.agg (aA 54 (rv .i64 (fun _=>0))))<|au (av (gL x i n))<|dY D 0 fun w9 aa I z7 =>have ab:aM w9 l 54 (rv .i64 (fun _=>0)) 67:=aO aa;have m22:=q.cK I (by omega);have P:=I.below m m.size (by omega);au (av (gL x i n)) (aC (Wr (sR (⟨.tuple #[.agg (aA 54 (rv .i64 (fun _=>0))),av (gL x i n)],gK Tryz.results115 ⟨_,rfl,aU ab.aJ⟩,?_⟩))));refine⟨?_,P⟩;have c:bV x i n=(zero,gL x i n):=by
  exact Q0 j
 rw[c]
 all_goals rfl
set_option maxRecDepth 10000 in
theorem W9(x:Nat->Int)(i n:Int)(w:World) :
 Calls prog 117 #[.agg (aA 54 (rv .i64 x)),av i,av n] w fun e w'=>e = .returned (.tuple #[.agg (aA 54 (rv .i64 (bW x i n).1)),av (bW x i n).2])/\Below w.heap.size w w':=by
 refine bX func117 41 ?_;refine ay<|oq fun c w1 T t s1 z1 =>have y:=bL s1.bP (Below.refl w.heap.size w);have tJ:=iy T;have vB:=t.lt;oJ 54 (rv .i64 (fun _=>0)) fun s w2 D H s2 z2 => ?_;have⟨I,P⟩:=fB s2.bP t y;have xw:=gQ D y.size;have BP:=gD D t.lt;have zR:=H.lt;refine au (av 0)<|aC<|ay<|Lv (.agg (aA 54 (rv .i64 x))) (dZ I.aJ 0)<|au (av i)<|au (av n)<|dO (Km x i n _) _ rfl ?_;intro d V;have⟨g,u,l⟩:=iP V I H P;refine au (av (gL x i n))<|aC<|aQ<|ay<|au (av (gL x i n)) ?_;by_cases m:(gL x i n)=0
 ·refine Lv aD (kr m)<|aC<|aL<|Wk<|sN<|aQ<|aQ ?_;obtain⟨j,J,K,p⟩:=Kn m;have v:=qh j;obtain⟨k,W,U,_⟩:=yM p;subst U;have q1:=v (k+6);have q2:=v (k+12);refine zu<|bI (av n)<|bI (av ((k:Int)+1))<|Qv (av k) (fun a b=>jK)<|bI (pf c 6)<|Qv (pf c (k+6)) (fun a b=>jh 6 1)<|Qv (av (x (k+6))) (fun a b=>aR (g.aJ.dr b) (k+6))<|bI (av ((k:Int)+1))<|Qv (av k) (fun a b=>jK)<|bI (pf c 12)<|Qv (pf c (k+12)) (fun a b=>jh 6 1)<|Qv (av (x (k+12))) (fun a b=>aR (g.aJ.dr b) (k+12))<|Qv (av ((x (k+6))-(x (k+12)))) (fun a b=>jK) ?_;by_cases o:((x (k+6))-(x (k+12)))<n
  ·refine Qv aH (fun a b=>lK o)<|Qn ?_;rintro _ ⟨h,rfl⟩;obtain⟨IC,q⟩ : ∃ a,a=World.drewN d h:=⟨_,rfl⟩;rw[<- q];have s4:eG d.heap.size d IC:=(by rw[q]; exact Sb (kQ d h));have⟨m6,m7,z⟩:=iP s4.bP g u l;clear q;refine sN<|aP<|ay<|au (.agg (aA 54 (rv .i64 (fun _=>0))))<|dY m7 0 fun w4 m8 L z3 =>have m9:aM w4 s 54 (rv .i64 (fun _=>0)) 67:=aO m8;have m10:=m6.cK L (by omega);have Q:=L.below z z.size (by omega);au (av 12) (aC (Wr (sR (⟨.tuple #[.agg (aA 54 (rv .i64 (fun _=>0))),av 12],gK Tryz.results117 ⟨_,rfl,aU m9.aJ⟩,?_⟩))));refine⟨?_,Q⟩;have f:bW x ((k:Int)+1) n=(zero,12):=by
    unfold bW vX C F;rw[pl,Nat.add_comm 6 k,Nat.add_comm 12 k,f_ o];exact AO j J K p rfl
   rw[f]
   all_goals rfl
  refine Qv aD (fun a b=>lM o)<|Qn ?_;rintro _ ⟨h,rfl⟩;obtain⟨Ma,r⟩ : ∃ a,a=World.drewN d h:=⟨_,rfl⟩;rw[<- r];have s6:eG d.heap.size d Ma:=by rw[r]; exact Sb (kQ d h)
  have⟨E,X,A⟩:=iP s6.bP g u l;clear r;refine sN<|aL<|Wk<|sN<|ay<|au (av ((k:Int)+1))<|Lv (av k) jK<|au (pf c 12)<|Lv (pf c (k+12)) (jh 6 1)<|Lv (av (x (k+12))) (aR E.aJ (k+12))<|au (av n)<|Lv (av ((x (k+12))+n)) gu<|au (pf c 12)<|Lv (pf c (k+12)) (jh 6 1)<|jf E (k+12) (av ((x (k+12))+n)) fun w5 Y M z4 =>have G:aM w5 c 54 (rv .i64 (fZ x (k+12) ((x (k+12))+n))) 67:=Y.to (yA _ _ _ _);have Z:=X.cK M (by omega);have B:=M.below A A.size (by omega);aC<|ay<|Lv (.agg (aA 54 (rv .i64 (fZ x (k+12) ((x (k+12))+n))))) (dZ G.aJ 0)<|dY Z 0 fun w6 aa N z5 =>have ab:aM w6 s 54 (rv .i64 (fZ x (k+12) ((x (k+12))+n))) 67:=aO aa;have m18:=G.cK N (by omega);have R:=N.below B B.size (by omega);au (av 0) (aC (Wr (⟨.tuple #[.agg (aA 54 (rv .i64 (fZ x (k+12) ((x (k+12))+n)))),av 0],gK Tryz.results117 ⟨_,rfl,aU ab.aJ⟩,?_⟩)));refine⟨?_,R⟩;have f:bW x ((k:Int)+1) n=(fZ x (k+12) (x (k+12)+n),0):=by
   unfold bW vX C F;rw[pl,Nat.add_comm 6 k,Nat.add_comm 12 k,g_ o];exact EB j J K p rfl (by have:=abS j W; omega)
  rw[f]
  all_goals rfl
 refine Lv aH (mO m)<|aC<|aP<|ay<|au (.agg (aA 54 (rv .i64 (fun _=>0))))<|au (av (gL x i n))<|dY u 0 fun w7 ac O z6 =>have ad:aM w7 s 54 (rv .i64 (fun _=>0)) 67:=aO ac;have mG:=g.cK O (by omega);have S:=O.below l l.size (by omega);au (av (gL x i n)) (aC (Wr (sR (⟨.tuple #[.agg (aA 54 (rv .i64 (fun _=>0))),av (gL x i n)],gK Tryz.results117 ⟨_,rfl,aU ad.aJ⟩,?_⟩))));refine⟨?_,S⟩;have f:bW x i n=(zero,gL x i n):=by
  exact Q0 m
 rw[f]
 all_goals rfl
set_option maxRecDepth 10000 in
theorem Xa(x:Nat->Int)(i j n:Int)(w:World) :
 Calls prog 92 #[.agg (aA 54 (rv .i64 x)),av i,av j,av n] w fun e w'=>e = .returned (.tuple #[.agg (aA 54 (rv .i64 (dX x i j n).1)),av (dX x i j n).2])/\Below w.heap.size w w':=by
 refine bX func92 59 ?_;refine ay<|oq fun c w1 aa z s1 z1 =>have B:=bL s1.bP (Below.refl w.heap.size w);have tJ:=iy aa;have vB:=z.lt;oJ 54 (rv .i64 (fun _=>0)) fun h w2 F H s2 z2 => ?_;have⟨J,W⟩:=fB s2.bP z B;have xw:=gQ F B.size;have BP:=gD F z.lt;have zR:=H.lt;refine au (av 0)<|aC<|ay<|Lv (.agg (aA 54 (rv .i64 x))) (dZ J.aJ 0)<|au (av i)<|au (av n)<|dO (Km x i n _) _ rfl ?_;intro w3 hb1;have⟨p,u,f⟩:=iP hb1 J H W;refine au (av (gL x i n))<|aC<|aQ<|ay<|au (av (gL x i n)) ?_;by_cases t:(gL x i n)=0
 ·refine Lv aD (kr t)<|aC<|aL<|Wk<|sN<|aQ<|aQ ?_;obtain⟨b,r,s,l⟩:=Kn t;have S:=qh b;obtain⟨k,y,ei,_⟩:=yM l;subst ei;refine Wl<|au (av j) ?_;by_cases d:(jw j)=true
  ·refine mX (Da j _) aH (by rw[d])<|au aD<|aC<|aL<|Wk<|sN<|aQ<|aQ ?_;obtain⟨q,hq,ej,_⟩:=yM d;subst ej;refine Wl<|au (av ((k:Int)+1))<|au (av ((q:Int)+1)) ?_;by_cases g:((k:Int)+1)=((q:Int)+1)
   ·refine Lv aH (gU g)<|aC<|aP<|ay<|au (.agg (aA 54 (rv .i64 (fun _=>0))))<|dY u 0 fun w4 m6 O z3 =>have m7:aM w4 h 54 (rv .i64 (fun _=>0)) 67:=aO m6;have m8:=p.cK O (by omega);have X:=O.below f f.size (by omega);au (av 1) (aC (Wr (sR (⟨.tuple #[.agg (aA 54 (rv .i64 (fun _=>0))),av 1],gK Tryz.results92 ⟨_,rfl,aU m7.aJ⟩,?_⟩))));refine⟨?_,X⟩;have a:dX x ((k:Int)+1) ((q:Int)+1) n=(zero,1):=by
     unfold dX qH;rw[d_ g];exact AO b r s (by rw[l,d]; rfl) rfl
    rw[a]
    all_goals rfl
   refine Lv aD (gX g)<|aC<|aL<|Wk<|sN<|aQ<|ay<|au (av n)<|Lv (.agg (aA 54 (rv .i64 x))) (dZ p.aJ 0)<|au (av ((k:Int)+1))<|dO (Kk _ k _ (by omega) (qh b)) _ rfl ?_;intro w5 hb2;have⟨v,A,m⟩:=iP hb2 p u f;by_cases o:(L x k)<n
   ·refine Lv aH (lK o)<|aC<|aP<|ay<|au (.agg (aA 54 (rv .i64 (fun _=>0))))<|dY A 0 fun w6 m11 P z4 =>have kY:aM w6 h 54 (rv .i64 (fun _=>0)) 67:=aO m11;have m13:=v.cK P (by omega);have Y:=P.below m m.size (by omega);au (av 11) (aC (Wr (sR (⟨.tuple #[.agg (aA 54 (rv .i64 (fun _=>0))),av 11],gK Tryz.results92 ⟨_,rfl,aU kY.aJ⟩,?_⟩))));refine⟨?_,Y⟩;have a:dX x ((k:Int)+1) ((q:Int)+1) n=(zero,11):=by
     unfold dX qH;rw[b_ g,rG b _ y,f_ o];exact AO b r s (by rw[l,d]; rfl) rfl
    rw[a]
    all_goals rfl
   refine Lv aD (lM o)<|aC<|aL<|Wk<|sN<|aQ<|aQ<|have q1:=S (6*k+q+18);Wl<|au (av ((k:Int)+1))<|Lv (av k) jK<|au (av ((q:Int)+1))<|Lv (av q) jK<|au (pf c 18)<|Lv (pf c (6*k+18)) (jh 6 6)<|Lv (pf c (6*k+q+18)) (jh 6 1)<|Lv (av (x (6*k+q+18))) (aR v.aJ (6*k+q+18))<|au (av n)<|Lv (av ((x (6*k+q+18))+n)) gu ?_;by_cases E:1125899906842624<((x (6*k+q+18))+n)
   ·refine Lv aH (lK E)<|aC<|aP<|ay<|au (.agg (aA 54 (rv .i64 (fun _=>0))))<|dY A 0 fun w7 m14 Q z5 =>have m15:aM w7 h 54 (rv .i64 (fun _=>0)) 67:=aO m14;have m16:=v.cK Q (by omega);have Z:=Q.below m m.size (by omega);au (av 6) (aC (Wr (sR (⟨.tuple #[.agg (aA 54 (rv .i64 (fun _=>0))),av 6],gK Tryz.results92 ⟨_,rfl,aU m15.aJ⟩,?_⟩))));refine⟨?_,Z⟩;have a:dX x ((k:Int)+1) ((q:Int)+1) n=(zero,6):=by
     unfold dX qH;rw[b_ g,rG b _ y,g_ o,Q5];exact H8 b r s (by rw[l,d]; rfl) rfl
    rw[a]
    all_goals rfl
   refine Lv aD (lM E)<|aC<|aL<|Wk<|sN<|aQ<|Wt 13 (by kernel_rfl) (by kernel_rfl) fun qN eX iM =>have⟨G,m18,C⟩:=iP eX v A m;Oy (av ((k:Int)+1))<|yx (av k) jK<|Oy (av ((q:Int)+1))<|yx (av q) jK<|Oy (pf c 18)<|yx (pf c (6*k+18)) (jh 6 6)<|yx (pf c (6*k+q+18)) (jh 6 1)<|yx (av (x (6*k+q+18))) (aR G.aJ (6*k+q+18))<|Oy (av n)<|yx (av ((x (6*k+q+18))+n)) gu<|Oy (pf c 18)<|yx (pf c (6*k+18)) (jh 6 6)<|yx (pf c (6*k+q+18)) (jh 6 1)<|St.nil<|jf G (6*k+q+18) (av ((x (6*k+q+18))+n)) fun w8 m19 R z6 =>have I:aM w8 c 54 (rv .i64 (fZ x (6*k+q+18) ((x (6*k+q+18))+n))) 67:=m19.to (yA _ _ _ _);have mG:=m18.cK R (by omega);have D:=R.below C C.size (by omega);aC<|ay<|Lv (.agg (aA 54 (rv .i64 (fZ x (6*k+q+18) ((x (6*k+q+18))+n))))) (dZ I.aJ 0)<|dY mG 0 fun w9 m22 K z7 =>have m23:aM w9 h 54 (rv .i64 (fZ x (6*k+q+18) ((x (6*k+q+18))+n))) 67:=aO m22;have m24:=I.cK K (by omega);have T:=K.below D D.size (by omega);au (av 0) (aC (Wr (⟨.tuple #[.agg (aA 54 (rv .i64 (fZ x (6*k+q+18) ((x (6*k+q+18))+n)))),av 0],gK Tryz.results92 ⟨_,rfl,aU m23.aJ⟩,?_⟩)));refine⟨?_,T⟩;have a:dX x ((k:Int)+1) ((q:Int)+1) n=(fZ x (6*k+q+18) (x (6*k+q+18)+n),0):=by
    unfold dX qH;rw[b_ g,rG b _ y,g_ o,Q5];exact EB b r s (by rw[l,d]; rfl) rfl
   rw[a]
   all_goals rfl
  rw[R_]at d;refine mX (Da j _) aD (by rw[d])<|au aH<|aC<|aP<|ay<|au (.agg (aA 54 (rv .i64 (fun _=>0))))<|dY u 0 fun uE mU M z8 =>have pK:aM uE h 54 (rv .i64 (fun _=>0)) 67:=aO mU;have pO:=p.cK M (by omega);have U:=M.below f f.size (by omega);au (av 10) (aC (Wr (sR (⟨.tuple #[.agg (aA 54 (rv .i64 (fun _=>0))),av 10],gK Tryz.results92 ⟨_,rfl,aU pK.aJ⟩,?_⟩))));refine⟨?_,U⟩;have a:dX x ((k:Int)+1) j n=(zero,10):=by
   unfold dX;rw[d,H_];exact Y4 b r s
  rw[a]
  all_goals rfl
 refine Lv aH (mO t)<|aC<|aP<|ay<|au (.agg (aA 54 (rv .i64 (fun _=>0))))<|au (av (gL x i n))<|dY u 0 fun Bg om N z9 =>have qb:aM Bg h 54 (rv .i64 (fun _=>0)) 67:=aO om;have qV:=p.cK N (by omega);have V:=N.below f f.size (by omega);au (av (gL x i n)) (aC (Wr (sR (⟨.tuple #[.agg (aA 54 (rv .i64 (fun _=>0))),av (gL x i n)],gK Tryz.results92 ⟨_,rfl,aU qb.aJ⟩,?_⟩))));refine⟨?_,V⟩;have a:dX x i j n=(zero,gL x i n):=by
  exact Y5 t
 rw[a]
 all_goals rfl
end Go.Proofs.YtabjalhnkndjaaaGreatDoor
namespace Go.Proofs.YtabjalhnkndjaaaGreatDoor.Fx
open Go.RowKit
section
variable {P:Program} {n:Nat} {ops:List Oper} {cs:List Nat} {S:World->World->Prop} {Q:kR}
def MZ(ops:List Oper)(bR:List (Nat × Nat × List Nat))(j i:Nat):Bool:=bR.any fun c=>Nat.beq c.1 j&&Nat.beq c.2.1 i&&DU ops j c.2.2 i
def M4(ops:List Oper)(cs:List Nat)(bR:List (Nat × Nat × List Nat))(a:List Nat)(e:Nat):Bool := !jJ (cs.getD e 3)&&a.all fun x=>Nat.beq x e || !MZ ops bR e x
def RA(P:Program)(n:Nat)(ops:List Oper)(cs:List Nat)(bR:List (Nat × Nat × List Nat))(S:World->World->Prop)(Q:kR):Nat->List Nat->(Nat->Value)->World->Prop
 | 0,_,_,_=>False
 | _+1,[],f,w=>Q .normal f w
 | k+1,i::l,f,w=>(jJ (cs.getD i 3)=true->R P n ops cs S (fun _ f w=>RA P n ops cs bR S Q k l f w) [i] f w) /\
   (jJ (cs.getD i 3)=false -> ∀ e,e∈i::l->M4 ops cs bR (i::l) e=true->R P n ops cs S (fun _ f w=>RA P n ops cs bR S Q k ((i::l).erase e) f w) [e] f w)
def H9(ops:List Oper)(cs:List Nat)(bR:List (Nat × Nat × List Nat))(i j:Nat):Bool:=oH ops cs bR i j || (!dL (bH ops i) j && !jJ (cs.getD i 3) && !jJ (cs.getD j 3))
def OX(ops:List Oper)(cs:List Nat)(bR:List (Nat × Nat × List Nat)):List Nat->Bool
 | []=>true
 | i::l=>l.all (H9 ops cs bR i)&&OX ops cs bR l
theorem M5{bR:List (Nat × Nat × List Nat)} : ∀ {l:List Nat},OX ops cs bR l=true->l.Pairwise fun i j=>H9 ops cs bR i j=true
 | [],_=>List.Pairwise.nil
 | i::l,h=>by
   unfold OX at h;rw[Q_,List.all_eq_true]at h;exact List.Pairwise.cons h.1 (M5 h.2)
theorem R.Q6{d:kR}(c : ∀ f w,Q .normal f w->d .normal f w) : ∀ {l:List Nat} {f:Nat->Value} {w:World},R P n ops cs S Q l f w->R P n ops cs S d l f w
 | [],f,w,h=>by grind [R]
 | _::_,f,w,h=>by
   unfold R at h ⊢
   rcases h with ⟨b,a⟩|⟨b,⟨a,v,h3,h4⟩|⟨a,h3⟩⟩
   ·exact .inl ⟨b,R.Q6 c a⟩
   ·exact .inr ⟨b,.inl ⟨a,v,h3,R.Q6 c h4⟩⟩
   ·exact .inr ⟨b,.inr ⟨a,h3.mono fun v _ e=>⟨e.1,R.Q6 c e.2⟩⟩⟩
theorem R.Q7:R P n ops cs S (fun _ x c=>R P n ops cs S Q u x c) [m] x c<->R P n ops cs S Q (m::u) x c:=by rfl
theorem Q8(h:H9 ops cs p m j=true):dL (bH ops m) j=false:=by
 grind [H9,oH]
theorem RA.pull(B:nT n ops=true)(F:Region.noSelect ops.toArray=true)(v : ∀ w,S w w)(y : ∀ a b c,S a b->S b c->S a c) : ∀(l:List Nat) (k:Nat),l.length<=k->j∈l->(∀ i∈l,i<ops.length)->l.Nodup->(l.Pairwise fun i j=>H9 ops cs p i j=true) ->
 (∀ i∈l,i≠j->dL (bH ops j) i=false/\MZ ops p j i=false) -> ∀ f w,RA P n ops cs p S Q (k+1) l f w->R P n ops cs S (fun _ f w=>RA P n ops cs p S Q k (l.erase j) f w) [j] f w:=by
 intro l
 induction l with
 | nil=>simp_all
 | cons i l ih =>
   intro k I o d z r s f w h;have G:jJ (cs.getD j 3)=false->M4 ops cs p (i::l) j=true:=fun g=>by
    grind [M4,Nat.beq_refl]
   unfold RA at h;by_cases e:i=j
   ·grind
   ·have bR:j∈l:=(List.mem_cons.1 o).resolve_left (fun q=>e q.symm);have C:=(List.pairwise_cons.1 r).1 j bR;have A:=s i (List.mem_cons_self ..) e;have D:=Q8 C;rw[List.erase_cons_tail (by simp_all)]
    cases g:jJ (cs.getD i 3)with
    | false =>
      grind [H9,oH,MZ]
    | true =>
      cases k with
      | zero=>simp_all
      | succ k =>
        have t:=h.1 g;have u:R P n ops cs S (fun _ f w=>RA P n ops cs p S Q k (l.erase j) f w) [i,j] f w:=R.Q7.1 (R.Q6 (fun f w E=>ih k (by simp_all) bR (fun x m=>d x (List.mem_cons_of_mem _ m)) (List.nodup_cons.1 z).2 (List.pairwise_cons.1 r).2 (fun x m=>s x (List.mem_cons_of_mem _ m)) f w E) t);have H:=aks B F (d i (List.mem_cons_self ..)) (d j o) e A.1 D v y g (by
         grind [H9,oH,MZ,B_]) u
        simp_all [R.Q7,RA]
theorem RA.any(N:nT n ops=true)(O:Region.noSelect ops.toArray=true)(I : ∀ w,S w w)(J : ∀ a b c,S a b->S b c->S a c){bR:List (Nat × Nat × List Nat)} : ∀(k:Nat) (g:List Nat) (l:Array Bool) (a:Act) (f:Nat->Value) (w:World),g.length=k->l.size=ops.length->DT ops.toArray .any l ->
 (∀ i,i∈g<->i<ops.length/\l.getD i false=false)->g.Nodup->(g.Pairwise fun i j=>H9 ops cs bR i j=true)->Fr a n f->RA P n ops cs bR S Q (k+1) g f w->wpAny P .any ops.toArray (JR n Q) k l a w:=by
 intro k
 induction k with
 | zero =>
   intro g l a f w C T x p z A o h;have:g = []:=List.eq_nil_of_length_eq_zero C;subst this;refine⟨?_,f,o,by assumption⟩;rw[List.eq_nil_iff_forall_not_mem];intro j s;obtain⟨t,q,_,_⟩:=jo s
   simp_all
 | succ k ih =>
   intro g l a f w C T x p z A o h;refine⟨fun hr => ?_,fun j s => ?_⟩
   ·cases g with
    | nil=>simp_all
    | cons r aqV =>
      exfalso;obtain⟨t,q⟩:=(p r).1 (List.mem_cons_self ..);have:r∈Region.ready .any ops.toArray l:=by
       refine mem_ready.2 ⟨getD_in (by omega) q,bH ops r,by grind [bH],fun e Y u => ?_⟩;have X:dL (bH ops r) e.on=true:=by
        grind [dL,Array.any_eq_true',Nat.beq_refl]
       grind [ny,Q8,List.pairwise_cons]
      simp_all
   ·obtain⟨t,q,G,V⟩:=jo s;have L:=(p j).2 ⟨q,t⟩;have u:=RA.pull (P:=P) (cs:=cs) (S:=S) (Q:=Q) N O I J g (k+1) (by omega) L (fun i y=>((p i).1 y).1) z A (fun i y aa=>by
     refine⟨?_,?_⟩
     ·grind
     ·cases hp:MZ ops bR j i with
      | false=>rfl
      | true =>
        exfalso;unfold MZ at hp;rw[List.any_eq_true]at hp;obtain⟨c,_,B⟩:=hp;rw[Q_,Q_]at B;obtain⟨m,Z⟩:=nS B.2
        cases m with
        | zero=>grind [reach]
        | succ m =>
          grind [reach,dL,Nat.beq_refl,x.reach]) f w h
    have M : ∀ i,i∈g.erase j<->i<ops.length/\(l.setIfInBounds j true).getD i false=false:=fun i=>by
     grind [zn,qE]
    have U : ∀(v:Value) (w':World),RA P n ops cs bR S Q (k+1) (g.erase j) (put f (bH ops j).dst v) w'->wpAny P .any ops.toArray (JR n Q) k (l.setIfInBounds j true) (a.put (bH ops j).dst v) w':=fun v w' H =>
     ih (g.erase j) _ _ _ w' (by simp_all) (by simp_all) (x.set s) M (z.erase j) (A.sublist (List.erase_sublist ..)) (o.put (by
      cases hd:(bH ops j).dst with
      | none=>rfl
      | some d=>grind [ny,dF,Nat.blt_eq]) v) H
    unfold wpOp;rw[G];simp only;rw[o.yf];unfold R at u
    rcases u with ⟨D,E⟩|⟨D,⟨E,v,q3,q4⟩|⟨E,q3⟩⟩
    ·grind [R]
    ·rw[d_ D];refine .inl<|LM.wp (K:=fun F w'=>F=v/\w'=w) o (.inl ⟨v,w,q3 w (.inr (.inr rfl)),rfl,rfl⟩) ?_;rintro F w' ⟨rfl,rfl⟩;unfold R at q4; exact U _ _ q4
    grind [LM.wp,R]
theorem RA.abT{bR:List (Nat × Nat × List Nat)}{k:Nat}{E:List Nat} : ∀ {l:List Nat} {f:Nat->Value} {w:World},(l.all fun i=>jJ (cs.getD i 3))=true->R P n ops cs S (fun _ f w=>RA P n ops cs bR S Q k E f w) l f w->RA P n ops cs bR S Q (l.length+k) (l++E) f w
 | [],f,w,_,h=>by grind [R]
 | i::l,f,w,hs,h=>by
   rw[List.all_cons,Q_]at hs;rw[List.length_cons,show l.length+1+k=(l.length+k)+1 by omega];show RA P n ops cs bR S Q (l.length+k+1) (i::(l++E)) f w;unfold RA;exact⟨fun _=>R.Q6 (fun f w b=>RA.abT hs.2 b) (R.Q7.2 h),fun a=>by rw[hs.1]at a; cases a⟩
theorem W.Ko(l E:List Nat)(cs:List Nat)(S:World->World->Prop)(id : ∀ c,S c c)(o : ∀ a b w,S a b->S b w->S a w)(bR:List (Nat × Nat × List Nat))(u:P.follows .mixedOrders=true)(v:nT n ops=true)(y:Region.noSelect ops.toArray=true)(e:Af ops (l++E)=true)(f:OX ops cs bR (l++E)=true)(z:(l.all fun i=>jJ (cs.getD i 3))=true)
 (h : ∀ g,Below c.heap.size c g->g.heap.size=c.heap.size->R P n ops cs S (fun _ x c=>RA P n ops cs bR S Q (E.length+1) E x c) l x g):W P n (.region m ops.toArray true) Q x c:=fun a p=>by
 refine wp_region_any u ?_;unfold Af at e;rw[Q_,Q_,Q_,List.all_eq_true,List.all_eq_true]at e;obtain⟨⟨⟨A,B⟩,p3⟩,p4⟩:=e;have j:=B_ A;have C:=h_ p3;have t:l.length+(E.length+1)=ops.length+1:=by rw[<- j,E_]; omega
 have:=RA.any (P:=P) (Q:=Q) (bR:=bR) v y id o ops.length (l++E) (Array.replicate ops.length false) a x { c with drawn:=c.drawn+1 } j (by simp) (DT.start _ _ _) (fun i=>by
  have q : ∀ i,(Array.replicate ops.length false).getD i false=false:=fun i=>getD_replicate_false _ _;constructor
  ·intro d; exact⟨by simpa [Nat.blt_eq] using B i d,q i⟩
  ·intro d;obtain⟨k,r,s⟩:=List.any_eq_true.1 (p4 i (by simpa using d.1));rw[B_ s]; exact r) C (M5 f) p (by
   have:=RA.abT z (h { c with drawn:=c.drawn+1 } (Below.refl _ _).drew rfl);rw[t]at this; exact this)
 simpa using this
theorem RA.nil(h:Q .normal x c):RA P n ops cs p S Q (k+1) [] x c:=by assumption
theorem RA.still(a:jJ (cs.getD m 3)=true)(h:R P n ops cs S (fun _ x c=>RA P n ops cs p S Q k u x c) [m] x c):RA P n ops cs p S Q (k+1) (m::u) x c:=by
 grind [RA]
theorem RA.ru{a:List Nat}(i:jJ (cs.getD m 3)=false)(b:(m::u).filter (M4 ops cs p (m::u))=a)(h : ∀ e,e∈a->R P n ops cs S (fun _ x c=>RA P n ops cs p S Q k ((m::u).erase e) x c) [e] x c):RA P n ops cs p S Q (k+1) (m::u) x c:=by
 grind [RA]
theorem RA.one(e:Nat)(r:List Nat)(i:jJ (cs.getD m 3)=false)(b:(m::u).filter (M4 ops cs p (m::u)) = [e])(hr:(m::u).erase e=r)(h:R P n ops cs S (fun _ x c=>RA P n ops cs p S Q k r x c) [e] x c):RA P n ops cs p S Q (k+1) (m::u) x c :=
 RA.ru i b fun d a=>by rw[List.mem_singleton.1 a,hr]; exact h
theorem RA.Q7(e a:Nat)(r b:List Nat)(w:jJ (cs.getD m 3)=false)(g:(m::u).filter (M4 ops cs p (m::u)) = [e,a])(hr:(m::u).erase e=r)(j:(m::u).erase a=b)(h:R P n ops cs S (fun _ x c=>RA P n ops cs p S Q k r x c) [e] x c)(f:R P n ops cs S (fun _ x c=>RA P n ops cs p S Q k b x c) [a] x c):RA P n ops cs p S Q (k+1) (m::u) x c :=
 RA.ru w g fun o d=>by
  rcases List.mem_cons.1 d with q|q
  ·rw[q,hr]; exact h
  ·rw[List.mem_singleton.1 q,j]; exact f
end
end Go.Proofs.YtabjalhnkndjaaaGreatDoor.Fx
