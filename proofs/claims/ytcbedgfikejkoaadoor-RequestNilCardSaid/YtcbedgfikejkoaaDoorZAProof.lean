/-
  The law: it returns true for every input, and its arguments stay; no condition.
-/
import Derived.Test.YtcbedgfikejkoaaDoorRows
import Derived.WalkKit
import Derived.ProofKit
import Derived.OpenShut
import Derived.ShutString
import Derived.Test.YtcbedgfikejkoaaDoorTie
import Derived.Test.YtcbedgfikejkoaaDoorCards
import Derived.Stop.Joined
import Derived.SevenTiedAt
import Derived.ChangeOld
import Derived.Below
import Derived.Test.YtcbedgfikejkoaaDoorZA6
set_option maxHeartbeats 1600000
set_option linter.unusedVariables false
set_option linter.unusedSimpArgs false
namespace Go.Proofs.YtcbedgfikejkoaaDoor.requestNil
open Go.ChangeShapes Go.WideShapes Go.ChangeAt Go.RowKit Go.Deep Rt
set_option linter.unusedVariables false
theorem own:ownKnob Tryd.prog.godebug=none:=by kernel_rfl
theorem laidOut:laidOutB Tryd.prog=true:=by kernel_rfl
set_option maxRecDepth 100000 in
theorem lifted(os:Os)(Q:os.Started)(H:Type)(enc:TypeId × Value->H) :
 ReturnsInHanded {} Tryd.checked os 4 .any (fun w a => (Rows.requestNilSpec.pre enc Tryd.prog Tryd.f4 [] false w a ∧ laidMetH Tryd.prog [("leat/ledger.kinds", Rows.laid_leat_ledger_kinds)] w) ∧ sizedMet enc Tryd.prog Tryd.f4 (OpenSpec.ofChange Rows.requestNilSpec) false w a) (Rows.requestNilSpec.post enc Tryd.prog Tryd.f4 false true false false) := by
 refine returnsInHanded_of_change_and (C := Tryd.checked) (X := fun w _ => laidMetH Tryd.prog [("leat/ledger.kinds", Rows.laid_leat_ledger_kinds)] w) (fun _ _ _ J h => h.of_heap J) own Q (by kernel_rfl) Tryd.func4
  (ChangeSpec.witness_shaped (enc := enc) (C := Tryd.checked) (os := os) (X := fun w _ => laidMetH Tryd.prog [("leat/ledger.kinds", Rows.laid_leat_ledger_kinds)] w) false (World.doorLaid Tryd.prog 600 os) #[.int .i64 0, .agg #[.int .u8 0, .int .u64 0, .int .i64 0, .int .i64 0, .int .u64 0, .int .u64 0]] 8 rfl (World.shaped_of_RefB (by kernel_rfl) (by kernel_rfl)) (by kernel_rfl) (by kernel_rfl) (by kernel_rfl) (NW os _)) ?_
 intro W A a B gs T n l _ _ E _
 have D:=ET E
 have d : ∀(j:Nat) t v,Tryd.f4.params[j]? = some t->a[j]? = some v->Value.okWide Tryd.prog W .any A t v:=n
 have G:=l
 obtain⟨p,q,k,F,rfl,hfz,hnd⟩:=l
 have i:DataW.TrodAll enc Tryd.prog W 0 (fun _=>true) true Tryd.f4.params.toList a.toList B p:=k
 rw[Tryd.params4]at i d
 obtain⟨s,vs0,U,Y,M,q0,hargs,rfl,rfl,f,O⟩:=trodAll_cons i
 obtain⟨u,vs1,V,Z,N,q1,rfl,rfl,rfl,g,P⟩:=trodAll_cons O
 obtain⟨rfl,rfl,rfl⟩:=trodAll_nil P
 obtain rfl:a = #[s,u]:=by cases a; simp_all
 obtain⟨rfl,rfl⟩:=trodVars_none F
 have o:=f
 have K : ∀ x∈M,x.block<W.heap.size:=by obtain⟨m,c⟩:=o; exact DataW.trod_lt m _ _ _ c
 have r:=g
 have L : ∀ x∈N,x.block<W.heap.size:=by obtain⟨m,c⟩:=r; exact DataW.trod_lt m _ _ _ c
 obtain⟨y,rfl,rfl,rfl,R⟩:=open_int Tryd.underlying3 (d 0 3 s rfl rfl) f
 obtain⟨z,rfl,w1⟩:=NV (d 1 37 u rfl rfl) g
 clear k n
 refine(NT y z _ (NJ R) D).mono fun e S ⟨I,b⟩ => ?_
 subst I
 exact⟨_,rfl,_,_,_,[],_,[],G,trodAll_mk1 (shut_bool Tryd.underlying4 _),(trodAll_cons_mk (Below.trod laidOut (by kernel_rfl) (of_decide_eq_true (by kernel_rfl)) o b K) (trodAll_cons_mk (Below.trod laidOut (by kernel_rfl) (of_decide_eq_true (by kernel_rfl)) r b L) trodAll_mk0)),rfl,b.frame _,fun h=>by cases h⟩
theorem over:Rows.requestNilRow.holds Tryd.pinned (OpenSpec.ofChange Rows.requestNilSpec) :=
 OpenClaim.holds_of_wide 4 Tryd.f4 rfl rfl rfl rfl rfl rfl rfl ⟨rfl,rfl,rfl,rfl,rfl⟩ rfl rfl rfl rfl rfl (by kernel_rfl) Tryd.func4 (by kernel_rfl)
  (of_decide_eq_true (by kernel_rfl)) (by unfold Func.isWrapper; first|(rw[if_pos (by decide +kernel)]; kernel_rfl)|(rw[if_neg (by decide +kernel)]; exact⟨rfl,rfl⟩))
  (fun b c H a _=>lifted b c H a)
theorem proved:Rows.RequestNilCardSaid :=
 Claim7.holds_tied_plain_at .later [] [.funcs] true Rows.requestNilCard.stood.harness false
  over (fun _ h=>by cases h) (by kernel_rfl) (fun _ h=>by cases h) requestNil_row_tie rfl ⟨rfl,rfl⟩ (by kernel_rfl) rfl
  (fun f b d e=>by
   obtain rfl:f=4:=Option.some.inj ((show Tryd.prog.funcNamed Rows.requestNilRow.func=some 4 by kernel_rfl).symm.trans d) |>.symm
   obtain rfl:b=Tryd.f4:=(Option.some.inj (Tryd.func4.symm.trans e)).symm
   exact⟨by kernel_rfl,fun j t a=>by
    rw[Tryd.params4]at a
    have g:t ∈ [3,37]:=by simpa using Array.mem_of_getElem? a
    have c:([3,37].all fun u => !Tryd.prog.wantsStandIn u)=true:=by kernel_rfl
    exact(show Tryd.prog.wantsStandIn t=false by simpa using List.all_eq_true.1 c t g)⟩)
  (by kernel_rfl)
end Go.Proofs.YtcbedgfikejkoaaDoor.requestNil
