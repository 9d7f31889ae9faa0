/-
  The law: it returns true for every input, and its arguments stay; no condition.
-/
import Derived.Test.YtahbiajdgealnaaGreatDoorRows
import Derived.WalkKit
import Derived.ProofKit
import Derived.OpenShut
import Derived.ShutString
import Derived.Test.YtahbiajdgealnaaGreatDoorTie
import Derived.Test.YtahbiajdgealnaaGreatDoorCards
import Derived.Stop.Joined
import Derived.SevenTiedAt
import Derived.ChangeOld
import Derived.Below
import Derived.Test.YtahbiajdgealnaaGreatDoorZG8
set_option linter.unusedVariables false
set_option maxHeartbeats 1600000
set_option linter.unusedSimpArgs false
namespace Go.Proofs.YtahbiajdgealnaaGreatDoor.memberMoves
open Go.ChangeShapes Go.WideShapes Go.ChangeAt Go.RowKit Go.Deep Rt
theorem own:ownKnob Tryz.prog.godebug=none:=by kernel_rfl
theorem laidOut:laidOutB Tryz.prog=true:=by kernel_rfl
set_option maxRecDepth 100000 in
theorem lifted(os:Os)(started:os.Started)(H:Type)(enc:TypeId × Value->H) :
 ReturnsInHanded {} Tryz.checked os 8 .any (fun w a => (Rows.memberMovesSpec.pre enc Tryz.prog Tryz.f8 [] false w a ∧ laidMetH Tryz.prog [("leat/ledger.kinds", Rows.laid_leat_ledger_kinds)] w) ∧ sizedMet enc Tryz.prog Tryz.f8 (OpenSpec.ofChange Rows.memberMovesSpec) false w a) (Rows.memberMovesSpec.post enc Tryz.prog Tryz.f8 false true false false) := by
 refine returnsInHanded_of_change_and (C := Tryz.checked) (X := fun w _ => laidMetH Tryz.prog [("leat/ledger.kinds", Rows.laid_leat_ledger_kinds)] w) (fun _ _ _ Z h => h.of_heap Z) own started (by kernel_rfl) Tryz.func8
  (ChangeSpec.witness_shaped (enc := enc) (C := Tryz.checked) (os := os) (X := fun w _ => laidMetH Tryz.prog [("leat/ledger.kinds", Rows.laid_leat_ledger_kinds)] w) false (World.doorLaid Tryz.prog 600 os) #[.int .u8 0, .slice none 0 0, .int .u8 0, .int .u8 0] 8 rfl (World.shaped_of_RefB (by kernel_rfl) (by kernel_rfl)) (by kernel_rfl) (by kernel_rfl) (by kernel_rfl) (XH os _)) ?_
 intro W P a R gs before r o _ _ T _;have S:=ME T;have d:=r;have V:=o;obtain⟨p,q,n,U,rfl,hfz,hnd⟩:=o;have l:=n;rw[Tryz.params8]at l d;obtain⟨A,vs0,d0,ds0,p0,q0,hargs,rfl,rfl,f,r0⟩:=trodAll_cons l;obtain⟨B,vs1,d1,ds1,p1,q1,rfl,rfl,rfl,g,r1⟩:=trodAll_cons r0;obtain⟨E,vs2,d2,ds2,p2,q2,rfl,rfl,rfl,i,r2⟩:=trodAll_cons r1;obtain⟨F,vs3,d3,ds3,p3,q3,rfl,rfl,rfl,k,r3⟩:=trodAll_cons r2;obtain⟨rfl,rfl,rfl⟩:=trodAll_nil r3;obtain rfl:a = #[A,B,E,F]:=by cases a; simp_all
 obtain⟨rfl,rfl⟩:=trodVars_none U;have s:=f;have lt0 : ∀ x∈p0,x.block<W.heap.size:=by obtain⟨m,b⟩:=s; exact DataW.trod_lt m _ _ _ b
 have u:=g;have lt1 : ∀ x∈p1,x.block<W.heap.size:=by obtain⟨m,b⟩:=u; exact DataW.trod_lt m _ _ _ b
 have y:=i;have lt2 : ∀ x∈p2,x.block<W.heap.size:=by obtain⟨m,b⟩:=y; exact DataW.trod_lt m _ _ _ b
 have z:=k;have lt3 : ∀ x∈p3,x.block<W.heap.size:=by obtain⟨m,b⟩:=z; exact DataW.trod_lt m _ _ _ b
 obtain⟨n0,rfl,rfl,rfl,w0⟩:=open_int Tryz.underlying5 (d 0 5 A rfl rfl) f;obtain⟨I,rfl,M⟩:=Ot w0;obtain⟨J,l1,Q,rfl⟩:=okWide_slice Tryz.underlying22 (d 1 22 B rfl rfl);obtain⟨xa1,aa,G⟩:=RO (D:=8) Tryz.underlying22 (by kernel_rfl) (by kernel_rfl) g;obtain⟨n2,rfl,rfl,rfl,w2⟩:=open_int Tryz.underlying5 (d 2 5 E rfl rfl) i;obtain⟨K,rfl,N⟩:=Ot w2;obtain⟨n3,rfl,rfl,rfl,w3⟩:=open_int Tryz.underlying5 (d 3 5 F rfl rfl) k;obtain⟨L,rfl,O⟩:=Ot w3;clear n r;refine(OB I J l1 Q xa1 K L W M N O aa G S).mono fun e W' ⟨Y,c⟩ => ?_;subst Y;exact⟨_,rfl,_,_,_,[],_,[],V,trodAll_mk1 (shut_bool Tryz.underlying4 _),(trodAll_cons_mk (Below.trod laidOut (by kernel_rfl) (h_ (by kernel_rfl)) s c lt0) (trodAll_cons_mk (Below.trod laidOut (by kernel_rfl) (h_ (by kernel_rfl)) u c lt1) (trodAll_cons_mk (Below.trod laidOut (by kernel_rfl) (h_ (by kernel_rfl)) y c lt2) (trodAll_cons_mk (Below.trod laidOut (by kernel_rfl) (h_ (by kernel_rfl)) z c lt3) trodAll_mk0)))),rfl,c.frame _,fun h=>by cases h⟩
theorem over:Rows.memberMovesRow.holds Tryz.pinned (OpenSpec.ofChange Rows.memberMovesSpec) :=
 OpenClaim.holds_of_wide 8 Tryz.f8 rfl rfl rfl rfl rfl rfl rfl ⟨rfl,rfl,rfl,rfl,rfl⟩ rfl rfl rfl rfl rfl (by kernel_rfl) Tryz.func8 (by kernel_rfl)
  (h_ (by kernel_rfl)) (by unfold Func.isWrapper; first|(rw[d_ (by decide +kernel)]; kernel_rfl)|(rw[b_ (by decide +kernel)]; exact⟨rfl,rfl⟩))
  (fun b c H a _=>lifted b c H a)
theorem proved:Rows.MemberMovesCardSaid :=
 Claim7.holds_tied_plain_at .later [] [.funcs] true Rows.memberMovesCard.stood.harness false
  over (fun _ h=>by cases h) (by kernel_rfl) (fun _ h=>by cases h) memberMoves_row_tie rfl ⟨rfl,rfl⟩ (by kernel_rfl) rfl
  (fun f b d e=>by
   obtain rfl:f=8:=C_ ((show Tryz.prog.funcNamed Rows.memberMovesRow.func=some 8 by kernel_rfl).symm.trans d) |>.symm;obtain rfl:b=Tryz.f8:=(C_ (Tryz.func8.symm.trans e)).symm;exact⟨by kernel_rfl,fun j t a=>by
    rw[Tryz.params8]at a;have g:t ∈ [5,22,5,5]:=(by simpa using Array.mem_of_getElem? a);have c:([5,22,5,5].all fun u => !Tryz.prog.wantsStandIn u)=true:=(by kernel_rfl);exact(show Tryz.prog.wantsStandIn t=false by simpa using List.all_eq_true.1 c t g)⟩)
  (by kernel_rfl)
end Go.Proofs.YtahbiajdgealnaaGreatDoor.memberMoves
