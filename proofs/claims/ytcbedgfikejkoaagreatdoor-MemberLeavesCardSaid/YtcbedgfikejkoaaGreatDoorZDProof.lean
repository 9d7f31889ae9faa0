/-
  The law: it returns true for every input, and its arguments stay; no condition.
-/
import Derived.Test.YtcbedgfikejkoaaGreatDoorRows
import Derived.WalkKit
import Derived.ProofKit
import Derived.OpenShut
import Derived.ShutString
import Derived.Test.YtcbedgfikejkoaaGreatDoorTie
import Derived.Test.YtcbedgfikejkoaaGreatDoorCards
import Derived.Stop.Joined
import Derived.SevenTiedAt
import Derived.ChangeOld
import Derived.Below
import Derived.Test.YtcbedgfikejkoaaGreatDoorZD8
set_option linter.unusedVariables false
set_option maxHeartbeats 1600000
set_option linter.unusedSimpArgs false
namespace Go.Proofs.YtcbedgfikejkoaaGreatDoor.memberLeaves
open Go.ChangeShapes Go.WideShapes Go.ChangeAt Go.RowKit Go.Deep Rt
theorem own:ownKnob Tryz.prog.godebug=none:=by kernel_rfl
theorem laidOut:laidOutB Tryz.prog=true:=by kernel_rfl
set_option maxRecDepth 100000 in
theorem lifted(os:Os)(started:os.Started)(H:Type)(enc:TypeId × Value->H) :
 ReturnsInHanded {} Tryz.checked os 7 .any (fun w a => (Rows.memberLeavesSpec.pre enc Tryz.prog Tryz.f7 [] false w a ∧ laidMetH Tryz.prog [("leat/ledger.kinds", Rows.laid_leat_ledger_kinds)] w) ∧ sizedMet enc Tryz.prog Tryz.f7 (OpenSpec.ofChange Rows.memberLeavesSpec) false w a) (Rows.memberLeavesSpec.post enc Tryz.prog Tryz.f7 false true false false) := by
 refine returnsInHanded_of_change_and (C := Tryz.checked) (X := fun w _ => laidMetH Tryz.prog [("leat/ledger.kinds", Rows.laid_leat_ledger_kinds)] w) (fun _ _ _ Y h => h.of_heap Y) own started (by kernel_rfl) Tryz.func7
  (ChangeSpec.witness_shaped (enc := enc) (C := Tryz.checked) (os := os) (X := fun w _ => laidMetH Tryz.prog [("leat/ledger.kinds", Rows.laid_leat_ledger_kinds)] w) false (World.doorLaid Tryz.prog 600 os) #[.int .u8 0, .slice none 0 0, .int .u8 0, .int .i64 0] 8 rfl (World.shaped_of_RefB (by kernel_rfl) (by kernel_rfl)) (by kernel_rfl) (by kernel_rfl) (by kernel_rfl) (Yl os _)) ?_
 intro W O a Q gs before r o _ _ S _;have R:=Nl S;have d : ∀(j:Nat) t v,Tryz.f7.params[j]? = some t->a[j]? = some v->Value.okWide Tryz.prog W .any O t v:=r;have U:=o;obtain⟨p,q,n,T,rfl,hfz,hnd⟩:=o;have l:DataW.TrodAll enc Tryz.prog W 0 (fun _=>true) true Tryz.f7.params.toList a.toList Q p:=n;rw[Tryz.params7]at l d;obtain⟨A,vs0,d0,ds0,p0,q0,hargs,rfl,rfl,f,r0⟩:=trodAll_cons l;obtain⟨B,vs1,d1,ds1,p1,q1,rfl,rfl,rfl,g,r1⟩:=trodAll_cons r0;obtain⟨E,vs2,d2,ds2,p2,q2,rfl,rfl,rfl,i,r2⟩:=trodAll_cons r1;obtain⟨F,vs3,d3,ds3,p3,q3,rfl,rfl,rfl,k,r3⟩:=trodAll_cons r2;obtain⟨rfl,rfl,rfl⟩:=trodAll_nil r3;obtain rfl:a = #[A,B,E,F]:=by cases a; simp_all
 obtain⟨rfl,rfl⟩:=trodVars_none T;have s:=f;have lt0 : ∀ x∈p0,x.block<W.heap.size:=by obtain⟨m,b⟩:=s; exact DataW.trod_lt m _ _ _ b
 have u:=g;have lt1 : ∀ x∈p1,x.block<W.heap.size:=by obtain⟨m,b⟩:=u; exact DataW.trod_lt m _ _ _ b
 have y:=i;have lt2 : ∀ x∈p2,x.block<W.heap.size:=by obtain⟨m,b⟩:=y; exact DataW.trod_lt m _ _ _ b
 have z:=k;have lt3 : ∀ x∈p3,x.block<W.heap.size:=by obtain⟨m,b⟩:=z; exact DataW.trod_lt m _ _ _ b
 obtain⟨L,rfl,rfl,rfl,w3⟩:=open_int Tryz.underlying3 (d 3 3 F rfl rfl) k;obtain⟨n0,rfl,rfl,rfl,w0⟩:=open_int Tryz.underlying5 (d 0 5 A rfl rfl) f;obtain⟨I,rfl,M⟩:=Xw w0;obtain⟨J,l1,P,rfl⟩:=okWide_slice Tryz.underlying22 (d 1 22 B rfl rfl);obtain⟨xa1,Z,G⟩:=Sy (D:=8) Tryz.underlying22 (by kernel_rfl) (by kernel_rfl) g;obtain⟨n2,rfl,rfl,rfl,w2⟩:=open_int Tryz.underlying5 (d 2 5 E rfl rfl) i;obtain⟨K,rfl,N⟩:=Xw w2;clear n r;refine(Nj I J l1 P xa1 K L _ M N (afK w3) Z G R).mono fun e W' ⟨V,c⟩ => ?_;subst V;exact⟨_,rfl,_,_,_,[],_,[],U,trodAll_mk1 (shut_bool Tryz.underlying4 _),(trodAll_cons_mk (Below.trod laidOut (by kernel_rfl) (h_ (by kernel_rfl)) s c lt0) (trodAll_cons_mk (Below.trod laidOut (by kernel_rfl) (h_ (by kernel_rfl)) u c lt1) (trodAll_cons_mk (Below.trod laidOut (by kernel_rfl) (h_ (by kernel_rfl)) y c lt2) (trodAll_cons_mk (Below.trod laidOut (by kernel_rfl) (h_ (by kernel_rfl)) z c lt3) trodAll_mk0)))),rfl,c.frame _,fun h=>by cases h⟩
theorem over:Rows.memberLeavesRow.holds Tryz.pinned (OpenSpec.ofChange Rows.memberLeavesSpec) :=
 OpenClaim.holds_of_wide 7 Tryz.f7 rfl rfl rfl rfl rfl rfl rfl ⟨rfl,rfl,rfl,rfl,rfl⟩ rfl rfl rfl rfl rfl (by kernel_rfl) Tryz.func7 (by kernel_rfl)
  (h_ (by kernel_rfl)) (by unfold Func.isWrapper; first|(rw[d_ (by decide +kernel)]; kernel_rfl)|(rw[b_ (by decide +kernel)]; exact⟨rfl,rfl⟩))
  (fun b c H a _=>lifted b c H a)
theorem proved:Rows.MemberLeavesCardSaid :=
 Claim7.holds_tied_plain_at .later [] [.funcs] true Rows.memberLeavesCard.stood.harness false
  over (fun _ h=>by cases h) (by kernel_rfl) (fun _ h=>by cases h) memberLeaves_row_tie rfl ⟨rfl,rfl⟩ (by kernel_rfl) rfl
  (fun f b d e=>by
   obtain rfl:f=7:=C_ ((show Tryz.prog.funcNamed Rows.memberLeavesRow.func=some 7 by kernel_rfl).symm.trans d) |>.symm;obtain rfl:b=Tryz.f7:=(C_ (Tryz.func7.symm.trans e)).symm;exact⟨by kernel_rfl,fun j t a=>by
    rw[Tryz.params7]at a;have g:t ∈ [5,22,5,3]:=(by simpa using Array.mem_of_getElem? a);have c:([5,22,5,3].all fun u => !Tryz.prog.wantsStandIn u)=true:=(by kernel_rfl);exact(show Tryz.prog.wantsStandIn t=false by simpa using List.all_eq_true.1 c t g)⟩)
  (by kernel_rfl)
end Go.Proofs.YtcbedgfikejkoaaGreatDoor.memberLeaves
