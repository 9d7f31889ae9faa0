/-
  The law: it returns true for every input, and its arguments stay; no condition.
-/
import Derived.Test.YtcbedgfikejkoaaDoorRows
import Derived.WalkKit
import Derived.ProofKit
import Derived.OpenShut
import Derived.ShutString
import Derived.Test.YtcbedgfikejkoaaDoorTie
import Derived.Test.YtcbedgfikejkoaaDoorCards
import Derived.Stop.Joined
import Derived.SevenTiedAt
import Derived.ChangeOld
import Derived.Below
import Derived.Test.YtcbedgfikejkoaaDoorZB6
set_option maxHeartbeats 1600000
set_option linter.unusedVariables false
set_option linter.unusedSimpArgs false
namespace Go.Proofs.YtcbedgfikejkoaaDoor.requestOnce
open Go.ChangeShapes Go.WideShapes Go.ChangeAt Go.RowKit Go.Deep Rt
set_option linter.unusedVariables false
theorem own:ownKnob Tryd.prog.godebug=none:=by kernel_rfl
theorem laidOut:laidOutB Tryd.prog=true:=by kernel_rfl
set_option maxRecDepth 100000 in
theorem lifted(os:Os)(started:os.Started)(H:Type)(enc:TypeId × Value->H) :
 ReturnsInHanded {} Tryd.checked os 3 .any (fun w a => (Rows.requestOnceSpec.pre enc Tryd.prog Tryd.f3 [] false w a ∧ laidMetH Tryd.prog [("leat/ledger.kinds", Rows.laid_leat_ledger_kinds)] w) ∧ sizedMet enc Tryd.prog Tryd.f3 (OpenSpec.ofChange Rows.requestOnceSpec) false w a) (Rows.requestOnceSpec.post enc Tryd.prog Tryd.f3 false true false false) := by
 refine returnsInHanded_of_change_and (C := Tryd.checked) (X := fun w _ => laidMetH Tryd.prog [("leat/ledger.kinds", Rows.laid_leat_ledger_kinds)] w) (fun _ _ _ hh h => h.of_heap hh) own started (by kernel_rfl) Tryd.func3
  (ChangeSpec.witness_shaped (enc := enc) (C := Tryd.checked) (os := os) (X := fun w _ => laidMetH Tryd.prog [("leat/ledger.kinds", Rows.laid_leat_ledger_kinds)] w) false (World.doorLaid Tryd.prog 600 os) #[.slice none 0 0, .slice none 0 0, .slice none 0 0] 8 rfl (World.shaped_of_RefB (by kernel_rfl) (by kernel_rfl)) (by kernel_rfl) (by kernel_rfl) (by kernel_rfl) (Ph os _)) ?_
 intro W N a R gs before o n _ _ T _
 have S:=F4 T
 have d : ∀(j:Nat) t v,Tryd.f3.params[j]? = some t->a[j]? = some v->Value.okWide Tryd.prog W .any N t v:=o
 have V:=n
 obtain⟨p,q,l,U,rfl,hfz,hnd⟩:=n
 have k:DataW.TrodAll enc Tryd.prog W 0 (fun _=>true) true Tryd.f3.params.toList a.toList R p:=l
 rw[Tryd.params3]at k d
 obtain⟨y,vs0,d0,ds0,p0,q0,hargs,rfl,rfl,f,r0⟩:=trodAll_cons k
 obtain⟨z,vs1,d1,ds1,p1,q1,rfl,rfl,rfl,g,r1⟩:=trodAll_cons r0
 obtain⟨A,vs2,d2,ds2,p2,q2,rfl,rfl,rfl,i,r2⟩:=trodAll_cons r1
 obtain⟨rfl,rfl,rfl⟩:=trodAll_nil r2
 obtain rfl:a = #[y,z,A]:=by cases a; simp_all
 obtain⟨rfl,rfl⟩:=trodVars_none U
 have r:=f
 have lt0 : ∀ x∈p0,x.block<W.heap.size:=by obtain⟨m,b⟩:=r; exact DataW.trod_lt m _ _ _ b
 have s:=g
 have lt1 : ∀ x∈p1,x.block<W.heap.size:=by obtain⟨m,b⟩:=s; exact DataW.trod_lt m _ _ _ b
 have u:=i
 have lt2 : ∀ x∈p2,x.block<W.heap.size:=by obtain⟨m,b⟩:=u; exact DataW.trod_lt m _ _ _ b
 obtain⟨K,l0,O,rfl⟩:=okWide_slice Tryd.underlying22 (d 0 22 y rfl rfl)
 obtain⟨lm0,X0,Y,G⟩:=uP (ks:=Xn) (D:=8) Tryd.underlying22 (by kernel_rfl) (by kernel_rfl) (by decide) f
 obtain⟨xk0,aeT,B⟩:=K9 Y G
 obtain⟨L,l1,P,rfl⟩:=okWide_slice Tryd.underlying23 (d 1 23 z rfl rfl)
 obtain⟨lm1,X1,Z,I⟩:=uP (ks := [some .u8]) (D:=8) Tryd.underlying23 (by kernel_rfl) (by kernel_rfl) (by decide) g
 obtain⟨ob1,aeU,E⟩:=J4 Z I
 obtain⟨M,l2,Q,rfl⟩:=okWide_slice Tryd.underlying23 (d 2 23 A rfl rfl)
 obtain⟨lm2,X2,aa,J⟩:=uP (ks := [some .u8]) (D:=8) Tryd.underlying23 (by kernel_rfl) (by kernel_rfl) (by decide) i
 obtain⟨ob2,aeV,F⟩:=J4 aa J
 clear l o
 refine(K8 K L M l0 O l1 P l2 Q xk0 ob1 ob2 _ aeT B aeU E aeV F S).mono fun e W' ⟨he,c⟩ => ?_
 subst he
 exact⟨_,rfl,_,_,_,[],_,[],V,trodAll_mk1 (shut_bool Tryd.underlying4 _),(trodAll_cons_mk (Below.trod laidOut (by kernel_rfl) (of_decide_eq_true (by kernel_rfl)) r c lt0) (trodAll_cons_mk (Below.trod laidOut (by kernel_rfl) (of_decide_eq_true (by kernel_rfl)) s c lt1) (trodAll_cons_mk (Below.trod laidOut (by kernel_rfl) (of_decide_eq_true (by kernel_rfl)) u c lt2) trodAll_mk0))),rfl,c.frame _,fun h=>by cases h⟩
theorem over:Rows.requestOnceRow.holds Tryd.pinned (OpenSpec.ofChange Rows.requestOnceSpec) :=
 OpenClaim.holds_of_wide 3 Tryd.f3 rfl rfl rfl rfl rfl rfl rfl ⟨rfl,rfl,rfl,rfl,rfl⟩ rfl rfl rfl rfl rfl (by kernel_rfl) Tryd.func3 (by kernel_rfl)
  (of_decide_eq_true (by kernel_rfl)) (by unfold Func.isWrapper; first|(rw[if_pos (by decide +kernel)]; kernel_rfl)|(rw[if_neg (by decide +kernel)]; exact⟨rfl,rfl⟩))
  (fun b c H a _=>lifted b c H a)
theorem proved:Rows.RequestOnceCardSaid :=
 Claim7.holds_tied_plain_at .later [] [.funcs] true Rows.requestOnceCard.stood.harness false
  over (fun _ h=>by cases h) (by kernel_rfl) (fun _ h=>by cases h) requestOnce_row_tie rfl ⟨rfl,rfl⟩ (by kernel_rfl) rfl
  (fun f b d e=>by
   obtain rfl:f=3:=Option.some.inj ((show Tryd.prog.funcNamed Rows.requestOnceRow.func=some 3 by kernel_rfl).symm.trans d) |>.symm
   obtain rfl:b=Tryd.f3:=(Option.some.inj (Tryd.func3.symm.trans e)).symm
   exact⟨by kernel_rfl,fun j t a=>by
    rw[Tryd.params3]at a
    have g:t ∈ [22,23,23]:=by simpa using Array.mem_of_getElem? a
    have c:([22,23,23].all fun u => !Tryd.prog.wantsStandIn u)=true:=by kernel_rfl
    exact(show Tryd.prog.wantsStandIn t=false by simpa using List.all_eq_true.1 c t g)⟩)
  (by kernel_rfl)
end Go.Proofs.YtcbedgfikejkoaaDoor.requestOnce
