/-
  The law: it returns true for every input, and its arguments stay; no condition.
-/
import Derived.Test.YtahbiajdgealnaaGreatDoorRows
import Derived.WalkKit
import Derived.ProofKit
import Derived.OpenShut
import Derived.ShutString
import Derived.Test.YtahbiajdgealnaaGreatDoorTie
import Derived.Test.YtahbiajdgealnaaGreatDoorCards
import Derived.Stop.Joined
import Derived.SevenTiedAt
import Derived.ChangeOld
import Derived.Below
import Derived.Test.YtahbiajdgealnaaGreatDoorZE8
set_option maxHeartbeats 1600000
set_option linter.unusedVariables false
set_option linter.unusedSimpArgs false
namespace Go.Proofs.YtahbiajdgealnaaGreatDoor.ledgerBound
open Go.ChangeShapes Go.WideShapes Go.ChangeAt Go.RowKit Go.Deep Rt
set_option linter.unusedVariables false
theorem own:ownKnob Tryz.prog.godebug=none:=by kernel_rfl
theorem laidOut:laidOutB Tryz.prog=true:=by kernel_rfl
set_option maxRecDepth 100000 in
theorem lifted(os:Os)(Y:os.Started)(H:Type)(enc:TypeId × Value->H) :
 ReturnsInHanded {} Tryz.checked os 4 .any (fun w a => (Rows.ledgerBoundSpec.pre enc Tryz.prog Tryz.f4 [] false w a ∧ laidMetH Tryz.prog [("leat/ledger.kinds", Rows.laid_leat_ledger_kinds)] w) ∧ sizedMet enc Tryz.prog Tryz.f4 (OpenSpec.ofChange Rows.ledgerBoundSpec) false w a) (Rows.ledgerBoundSpec.post enc Tryz.prog Tryz.f4 false true false false) := by
 refine returnsInHanded_of_change_and (C := Tryz.checked) (X := fun w _ => laidMetH Tryz.prog [("leat/ledger.kinds", Rows.laid_leat_ledger_kinds)] w) (fun _ _ _ N h => h.of_heap N) own Y (by kernel_rfl) Tryz.func4
  (ChangeSpec.witness_shaped (enc := enc) (C := Tryz.checked) (os := os) (X := fun w _ => laidMetH Tryz.prog [("leat/ledger.kinds", Rows.laid_leat_ledger_kinds)] w) false (World.doorLaid Tryz.prog 600 os) #[.int .u8 0, .slice none 0 0] 8 rfl (World.shaped_of_RefB (by kernel_rfl) (by kernel_rfl)) (by kernel_rfl) (by kernel_rfl) (by kernel_rfl) (VP os _)) ?_
 intro W E a G gs before n l _ _ J _;have I:=Li J;have d : ∀(j:Nat) t v,Tryz.f4.params[j]? = some t->a[j]? = some v->Value.okWide Tryz.prog W .any E t v:=n;have L:=l;obtain⟨p,q,k,K,rfl,hfz,hnd⟩:=l;have i:DataW.TrodAll enc Tryz.prog W 0 (fun _=>true) true Tryz.f4.params.toList a.toList G p:=k;rw[Tryz.params4]at i d;obtain⟨s,vs0,d0,ds0,S,q0,hargs,rfl,rfl,f,U⟩:=trodAll_cons i;obtain⟨u,vs1,d1,ds1,T,q1,rfl,rfl,rfl,g,V⟩:=trodAll_cons U;obtain⟨rfl,rfl,rfl⟩:=trodAll_nil V;obtain rfl:a = #[s,u]:=by cases a; simp_all
 obtain⟨rfl,rfl⟩:=trodVars_none K;have o:=f;have Q : ∀ x∈S,x.block<W.heap.size:=by obtain⟨m,c⟩:=o; exact DataW.trod_lt m _ _ _ c
 have r:=g;have R : ∀ x∈T,x.block<W.heap.size:=by obtain⟨m,c⟩:=r; exact DataW.trod_lt m _ _ _ c
 obtain⟨n0,rfl,rfl,rfl,Z⟩:=open_int Tryz.underlying5 (d 0 5 s rfl rfl) f;obtain⟨z,rfl,B⟩:=adA Z;obtain⟨A,P,F,rfl⟩:=okWide_slice Tryz.underlying22 (d 1 22 u rfl rfl);obtain⟨aa,O,y⟩:=Qp (D:=8) Tryz.underlying22 (by kernel_rfl) (by kernel_rfl) g;clear k n;refine(Nk z A P F aa W B O y I).mono fun e W' ⟨M,b⟩ => ?_;subst M;exact⟨_,rfl,_,_,_,[],_,[],L,trodAll_mk1 (shut_bool Tryz.underlying4 _),(trodAll_cons_mk (Below.trod laidOut (by kernel_rfl) (h_ (by kernel_rfl)) o b Q) (trodAll_cons_mk (Below.trod laidOut (by kernel_rfl) (h_ (by kernel_rfl)) r b R) trodAll_mk0)),rfl,b.frame _,fun h=>by cases h⟩
theorem over:Rows.ledgerBoundRow.holds Tryz.pinned (OpenSpec.ofChange Rows.ledgerBoundSpec) :=
 OpenClaim.holds_of_wide 4 Tryz.f4 rfl rfl rfl rfl rfl rfl rfl ⟨rfl,rfl,rfl,rfl,rfl⟩ rfl rfl rfl rfl rfl (by kernel_rfl) Tryz.func4 (by kernel_rfl)
  (h_ (by kernel_rfl)) (by unfold Func.isWrapper; first|(rw[d_ (by decide +kernel)]; kernel_rfl)|(rw[b_ (by decide +kernel)]; exact⟨rfl,rfl⟩))
  (fun b c H a _=>lifted b c H a)
theorem proved:Rows.LedgerBoundCardSaid :=
 Claim7.holds_tied_plain_at .later [] [.funcs] true Rows.ledgerBoundCard.stood.harness false
  over (fun _ h=>by cases h) (by kernel_rfl) (fun _ h=>by cases h) ledgerBound_row_tie rfl ⟨rfl,rfl⟩ (by kernel_rfl) rfl
  (fun f b d e=>by
   obtain rfl:f=4:=B_ ((show Tryz.prog.funcNamed Rows.ledgerBoundRow.func=some 4 by kernel_rfl).symm.trans d) |>.symm;obtain rfl:b=Tryz.f4:=(B_ (Tryz.func4.symm.trans e)).symm;exact⟨by kernel_rfl,fun j t a=>by
    rw[Tryz.params4]at a;have g:t ∈ [5,22]:=(by simpa using Array.mem_of_getElem? a);have c:([5,22].all fun u => !Tryz.prog.wantsStandIn u)=true:=(by kernel_rfl);exact(show Tryz.prog.wantsStandIn t=false by simpa using List.all_eq_true.1 c t g)⟩)
  (by kernel_rfl)
end Go.Proofs.YtahbiajdgealnaaGreatDoor.ledgerBound
