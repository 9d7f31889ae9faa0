/-
  The law: it returns true for every input, and its arguments stay; no condition.
-/
import Derived.Test.YtahbiajdgealnaaDoorRows
import Derived.WalkKit
import Derived.ProofKit
import Derived.OpenShut
import Derived.ShutString
import Derived.Test.YtahbiajdgealnaaDoorTie
import Derived.Test.YtahbiajdgealnaaDoorCards
import Derived.Stop.Joined
import Derived.SevenTiedAt
import Derived.ChangeOld
import Derived.Below
import Derived.Test.YtahbiajdgealnaaDoorZB5
set_option maxHeartbeats 1600000
set_option linter.unusedVariables false
set_option linter.unusedSimpArgs false
namespace Go.Proofs.YtahbiajdgealnaaDoor.admitNil
open Go.ChangeShapes Go.WideShapes Go.ChangeAt Go.RowKit Go.Deep Rt
set_option linter.unusedVariables false
theorem own:ownKnob Tryd.prog.godebug=none:=by kernel_rfl
theorem laidOut:laidOutB Tryd.prog=true:=by kernel_rfl
set_option maxRecDepth 100000 in
theorem lifted(os:Os)(Q:os.Started)(H:Type)(enc:TypeId × Value->H) :
 ReturnsInHanded {} Tryd.checked os 3 .any (fun w a => (Rows.admitNilSpec.pre enc Tryd.prog Tryd.f3 [] false w a ∧ laidMetH Tryd.prog [("leat/ledger.kinds", Rows.laid_leat_ledger_kinds)] w) ∧ sizedMet enc Tryd.prog Tryd.f3 (OpenSpec.ofChange Rows.admitNilSpec) false w a) (Rows.admitNilSpec.post enc Tryd.prog Tryd.f3 false true false false) := by
 refine returnsInHanded_of_change_and (C := Tryd.checked) (X := fun w _ => laidMetH Tryd.prog [("leat/ledger.kinds", Rows.laid_leat_ledger_kinds)] w) (fun _ _ _ J h => h.of_heap J) own Q (by kernel_rfl) Tryd.func3
  (ChangeSpec.witness_shaped (enc := enc) (C := Tryd.checked) (os := os) (X := fun w _ => laidMetH Tryd.prog [("leat/ledger.kinds", Rows.laid_leat_ledger_kinds)] w) false (World.doorLaid Tryd.prog 600 os) #[.int .i64 0, .agg #[.int .u8 0, .int .u64 0, .int .i64 0, .int .i64 0, .int .u64 0, .int .u64 0]] 8 rfl (World.shaped_of_RefB (by kernel_rfl) (by kernel_rfl)) (by kernel_rfl) (by kernel_rfl) (by kernel_rfl) (LW os _)) ?_
 intro W A a B gs T n l _ _ E _
 have D:=Dq E
 have d : ∀(j:Nat) t v,Tryd.f3.params[j]? = some t->a[j]? = some v->Value.okWide Tryd.prog W .any A t v:=n
 have G:=l
 obtain⟨p,q,k,F,rfl,hfz,hnd⟩:=l
 have i:DataW.TrodAll enc Tryd.prog W 0 (fun _=>true) true Tryd.f3.params.toList a.toList B p:=k
 rw[Tryd.params3]at i d
 obtain⟨s,vs0,U,Y,M,q0,hargs,rfl,rfl,f,O⟩:=trodAll_cons i
 obtain⟨u,vs1,V,Z,N,q1,rfl,rfl,rfl,g,P⟩:=trodAll_cons O
 obtain⟨rfl,rfl,rfl⟩:=trodAll_nil P
 obtain rfl:a = #[s,u]:=by cases a; simp_all
 obtain⟨rfl,rfl⟩:=trodVars_none F
 have o:=f
 have K : ∀ x∈M,x.block<W.heap.size:=by obtain⟨m,c⟩:=o; exact DataW.trod_lt m _ _ _ c
 have r:=g
 have L : ∀ x∈N,x.block<W.heap.size:=by obtain⟨m,c⟩:=r; exact DataW.trod_lt m _ _ _ c
 obtain⟨y,rfl,rfl,rfl,R⟩:=open_int Tryd.underlying3 (d 0 3 s rfl rfl) f
 obtain⟨z,rfl,w1⟩:=LV (d 1 24 u rfl rfl) g
 clear k n
 refine(LQ y z _ (LC R) D).mono fun e S ⟨I,b⟩ => ?_
 subst I
 exact⟨_,rfl,_,_,_,[],_,[],G,trodAll_mk1 (shut_bool Tryd.underlying4 _),(trodAll_cons_mk (Below.trod laidOut (by kernel_rfl) (of_decide_eq_true (by kernel_rfl)) o b K) (trodAll_cons_mk (Below.trod laidOut (by kernel_rfl) (of_decide_eq_true (by kernel_rfl)) r b L) trodAll_mk0)),rfl,b.frame _,fun h=>by cases h⟩
theorem over:Rows.admitNilRow.holds Tryd.pinned (OpenSpec.ofChange Rows.admitNilSpec) :=
 OpenClaim.holds_of_wide 3 Tryd.f3 rfl rfl rfl rfl rfl rfl rfl ⟨rfl,rfl,rfl,rfl,rfl⟩ rfl rfl rfl rfl rfl (by kernel_rfl) Tryd.func3 (by kernel_rfl)
  (of_decide_eq_true (by kernel_rfl)) (by unfold Func.isWrapper; first|(rw[if_pos (by decide +kernel)]; kernel_rfl)|(rw[if_neg (by decide +kernel)]; exact⟨rfl,rfl⟩))
  (fun b c H a _=>lifted b c H a)
theorem proved:Rows.AdmitNilCardSaid :=
 Claim7.holds_tied_plain_at .later [] [.funcs] true Rows.admitNilCard.stood.harness false
  over (fun _ h=>by cases h) (by kernel_rfl) (fun _ h=>by cases h) admitNil_row_tie rfl ⟨rfl,rfl⟩ (by kernel_rfl) rfl
  (fun f b d e=>by
   obtain rfl:f=3:=Option.some.inj ((show Tryd.prog.funcNamed Rows.admitNilRow.func=some 3 by kernel_rfl).symm.trans d) |>.symm
   obtain rfl:b=Tryd.f3:=(Option.some.inj (Tryd.func3.symm.trans e)).symm
   exact⟨by kernel_rfl,fun j t a=>by
    rw[Tryd.params3]at a
    have g:t ∈ [3,24]:=by simpa using Array.mem_of_getElem? a
    have c:([3,24].all fun u => !Tryd.prog.wantsStandIn u)=true:=by kernel_rfl
    exact(show Tryd.prog.wantsStandIn t=false by simpa using List.all_eq_true.1 c t g)⟩)
  (by kernel_rfl)
end Go.Proofs.YtahbiajdgealnaaDoor.admitNil
