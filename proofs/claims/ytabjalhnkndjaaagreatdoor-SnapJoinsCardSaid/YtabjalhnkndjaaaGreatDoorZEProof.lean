/-
  The law: it returns true for every input, and its arguments stay; no condition.
-/
import Derived.Test.YtabjalhnkndjaaaGreatDoorRows
import Derived.WalkKit
import Derived.ProofKit
import Derived.OpenShut
import Derived.ShutString
import Derived.Test.YtabjalhnkndjaaaGreatDoorTie
import Derived.Test.YtabjalhnkndjaaaGreatDoorCards
import Derived.Stop.Joined
import Derived.SevenTiedAt
import Derived.ChangeOld
import Derived.Below
import Derived.Test.YtabjalhnkndjaaaGreatDoorZE8
set_option linter.unusedVariables false
set_option maxHeartbeats 1600000
set_option linter.unusedSimpArgs false
namespace Go.Proofs.YtabjalhnkndjaaaGreatDoor.snapJoins
open Go.ChangeShapes Go.WideShapes Go.ChangeAt Go.RowKit Go.Deep Rt
theorem own:ownKnob Tryz.prog.godebug=none:=by rfl
theorem JO:laidOutB Tryz.prog=true:=by kernel_rfl
set_option maxRecDepth 100000 in
theorem lifted(os:Os)(started:os.Started)(H:Type)(enc:TypeId × Value->H) :
 ReturnsInHanded {} Tryz.checked os 3 .any (fun w a => (Rows.snapJoinsSpec.pre enc Tryz.prog Tryz.f3 [] false w a ∧ laidMetH Tryz.prog [("leat/ledger.kinds", Rows.laid_leat_ledger_kinds)] w) ∧ sizedMet enc Tryz.prog Tryz.f3 (OpenSpec.ofChange Rows.snapJoinsSpec) false w a) (Rows.snapJoinsSpec.post enc Tryz.prog Tryz.f3 false true false false) := by
 refine returnsInHanded_of_change_and (C := Tryz.checked) (X := fun w _ => laidMetH Tryz.prog [("leat/ledger.kinds", Rows.laid_leat_ledger_kinds)] w) (fun _ _ _ Z h => h.of_heap Z) own started (by kernel_rfl) Tryz.func3
  (ChangeSpec.witness_shaped (enc := enc) (C := Tryz.checked) (os := os) (X := fun w _ => laidMetH Tryz.prog [("leat/ledger.kinds", Rows.laid_leat_ledger_kinds)] w) false (World.doorLaid Tryz.prog 600 os) #[.int .u8 0, .slice none 0 0, .int .u8 0, .int .u8 0] 8 rfl (World.shaped_of_RefB (by kernel_rfl) (by kernel_rfl)) (by kernel_rfl) (by rfl) (by rfl) (agn os _)) ?_
 intro W P a R gs before r o _ _ T _;have S:=TM T;have c : ∀(j:Nat) t v,Tryz.f3.params[j]? = some t->a[j]? = some v->Value.okWide Tryz.prog W .any P t v:=r;have V:=o;obtain⟨p,q,n,U,rfl,hfz,hnd⟩:=o;have l:DataW.TrodAll enc Tryz.prog W 0 (fun _=>true) true Tryz.f3.params.toList a.toList R p:=n;rw[Tryz.params3]at l c;obtain⟨A,vs0,d0,ds0,p0,q0,hargs,rfl,rfl,f,r0⟩:=trodAll_cons l;obtain⟨B,vs1,d1,ds1,p1,q1,rfl,rfl,rfl,g,r1⟩:=trodAll_cons r0;obtain⟨E,vs2,d2,ds2,p2,q2,rfl,rfl,rfl,i,r2⟩:=trodAll_cons r1;obtain⟨F,vs3,d3,ds3,p3,q3,rfl,rfl,rfl,k,r3⟩:=trodAll_cons r2;obtain⟨rfl,rfl,rfl⟩:=trodAll_nil r3;obtain rfl:a = #[A,B,E,F]:=by grind
 obtain⟨rfl,rfl⟩:=trodVars_none U;have s:=f;have lt0 : ∀ x∈p0,x.block<W.heap.size:=by obtain⟨m,d⟩:=s; exact DataW.trod_lt m _ _ _ d
 have u:=g;have lt1 : ∀ x∈p1,x.block<W.heap.size:=by obtain⟨m,d⟩:=u; grind [DataW.trod_lt]
 have y:=i;have lt2 : ∀ x∈p2,x.block<W.heap.size:=by obtain⟨m,d⟩:=y; grind [DataW.trod_lt]
 have z:=k;have lt3 : ∀ x∈p3,x.block<W.heap.size:=by obtain⟨m,d⟩:=z; grind [DataW.trod_lt]
 obtain⟨n0,rfl,rfl,rfl,w0⟩:=open_int Tryz.underlying5 (c 0 5 A rfl rfl) f;obtain⟨I,rfl,M⟩:=V6 w0;obtain⟨J,l1,Q,rfl⟩:=okWide_slice Tryz.underlying22 (c 1 22 B rfl rfl);obtain⟨xa1,aa,G⟩:=aag (D:=8) Tryz.underlying22 (by rfl) (by rfl) g;obtain⟨n2,rfl,rfl,rfl,w2⟩:=open_int Tryz.underlying5 (c 2 5 E rfl rfl) i;obtain⟨K,rfl,N⟩:=V6 w2;obtain⟨n3,rfl,rfl,rfl,w3⟩:=open_int Tryz.underlying5 (c 3 5 F rfl rfl) k;obtain⟨L,rfl,O⟩:=V6 w3;clear n r;refine(Wd I J l1 Q xa1 K L W M N O aa G S).mono fun e W' ⟨Y,b⟩ => ?_;subst Y;exact⟨_,rfl,_,_,_,[],_,[],V,trodAll_mk1 (shut_bool Tryz.underlying4 _),(trodAll_cons_mk (Below.trod JO (by rfl) (h_ (by rfl)) s b lt0) (trodAll_cons_mk (Below.trod JO (by rfl) (h_ (by rfl)) u b lt1) (trodAll_cons_mk (Below.trod JO (by rfl) (h_ (by rfl)) y b lt2) (trodAll_cons_mk (Below.trod JO (by rfl) (h_ (by rfl)) z b lt3) trodAll_mk0)))),rfl,b.frame _,fun h=>by cases h⟩
theorem over:Rows.snapJoinsRow.holds Tryz.pinned (OpenSpec.ofChange Rows.snapJoinsSpec) :=
 OpenClaim.holds_of_wide 3 Tryz.f3 rfl rfl rfl rfl rfl rfl rfl ⟨rfl,rfl,rfl,rfl,rfl⟩ rfl rfl rfl rfl rfl (by kernel_rfl) Tryz.func3 (by kernel_rfl)
  (h_ (by kernel_rfl)) (by unfold Func.isWrapper; first|(rw[d_ (by decide +kernel)]; kernel_rfl)|(rw[b_ (by decide +kernel)]; exact⟨rfl,rfl⟩))
  (fun b c H a _=>lifted b c H a)
theorem proved:Rows.SnapJoinsCardSaid :=
 Claim7.holds_tied_plain_at .later [] [.funcs] true Rows.snapJoinsCard.stood.harness false
  over (fun _ h=>by cases h) (by kernel_rfl) (fun _ h=>by cases h) snapJoins_row_tie rfl ⟨rfl,rfl⟩ (by kernel_rfl) rfl
  (fun f b d e=>by
   obtain rfl:f=3:=C_ ((show Tryz.prog.funcNamed Rows.snapJoinsRow.func=some 3 by kernel_rfl).symm.trans d) |>.symm;obtain rfl:b=Tryz.f3:=(C_ (Tryz.func3.symm.trans e)).symm;exact⟨by kernel_rfl,fun j t a=>by
    rw[Tryz.params3]at a;have g:t ∈ [5,22,5,5]:=(by simpa using Array.mem_of_getElem? a);have c:([5,22,5,5].all fun u => !Tryz.prog.wantsStandIn u)=true:=(by kernel_rfl);exact(show Tryz.prog.wantsStandIn t=false by simpa using List.all_eq_true.1 c t g)⟩)
  (by kernel_rfl)
end Go.Proofs.YtabjalhnkndjaaaGreatDoor.snapJoins
