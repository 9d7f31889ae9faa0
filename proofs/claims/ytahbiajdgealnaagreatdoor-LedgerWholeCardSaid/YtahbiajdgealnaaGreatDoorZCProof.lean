/-
  The law: it returns true for every input, and its arguments stay; no condition.
-/
import Derived.Test.YtahbiajdgealnaaGreatDoorRows
import Derived.WalkKit
import Derived.ProofKit
import Derived.OpenShut
import Derived.ShutString
import Derived.Test.YtahbiajdgealnaaGreatDoorTie
import Derived.Test.YtahbiajdgealnaaGreatDoorCards
import Derived.Stop.Joined
import Derived.SevenTiedAt
import Derived.ChangeOld
import Derived.Below
import Derived.Test.YtahbiajdgealnaaGreatDoorZC8
set_option maxHeartbeats 1600000
set_option linter.unusedVariables false
set_option linter.unusedSimpArgs false
namespace Go.Proofs.YtahbiajdgealnaaGreatDoor.ledgerWhole
open Go.ChangeShapes Go.WideShapes Go.ChangeAt Go.RowKit Go.Deep Rt
set_option linter.unusedVariables false
theorem own:ownKnob Tryz.prog.godebug=none:=by kernel_rfl
theorem laidOut:laidOutB Tryz.prog=true:=by kernel_rfl
set_option maxRecDepth 100000 in
theorem lifted(os:Os)(started:os.Started)(H:Type)(enc:TypeId × Value->H) :
 ReturnsInHanded {} Tryz.checked os 5 .any (fun w a => (Rows.ledgerWholeSpec.pre enc Tryz.prog Tryz.f5 [] false w a ∧ laidMetH Tryz.prog [("leat/ledger.kinds", Rows.laid_leat_ledger_kinds)] w) ∧ sizedMet enc Tryz.prog Tryz.f5 (OpenSpec.ofChange Rows.ledgerWholeSpec) false w a) (Rows.ledgerWholeSpec.post enc Tryz.prog Tryz.f5 false true false false) := by
 refine returnsInHanded_of_change_and (C := Tryz.checked) (X := fun w _ => laidMetH Tryz.prog [("leat/ledger.kinds", Rows.laid_leat_ledger_kinds)] w) (fun _ _ _ S h => h.of_heap S) own started (by kernel_rfl) Tryz.func5
  (ChangeSpec.witness_shaped (enc := enc) (C := Tryz.checked) (os := os) (X := fun w _ => laidMetH Tryz.prog [("leat/ledger.kinds", Rows.laid_leat_ledger_kinds)] w) false (World.doorLaid Tryz.prog 600 os) #[.int .u8 0, .slice none 0 0, .int .u8 0] 8 rfl (World.shaped_of_RefB (by kernel_rfl) (by kernel_rfl)) (by kernel_rfl) (by kernel_rfl) (by kernel_rfl) (Wy os _)) ?_
 intro W K a M gs before o n _ _ O _;have N:=LH O;have d : ∀(j:Nat) t v,Tryz.f5.params[j]? = some t->a[j]? = some v->Value.okWide Tryz.prog W .any K t v:=o;have Q:=n;obtain⟨p,q,l,P,rfl,hfz,hnd⟩:=n;have k:DataW.TrodAll enc Tryz.prog W 0 (fun _=>true) true Tryz.f5.params.toList a.toList M p:=l;rw[Tryz.params5]at k d;obtain⟨y,vs0,d0,ds0,p0,q0,hargs,rfl,rfl,f,r0⟩:=trodAll_cons k;obtain⟨z,vs1,d1,ds1,p1,q1,rfl,rfl,rfl,g,r1⟩:=trodAll_cons r0;obtain⟨A,vs2,d2,ds2,p2,q2,rfl,rfl,rfl,i,r2⟩:=trodAll_cons r1;obtain⟨rfl,rfl,rfl⟩:=trodAll_nil r2;obtain rfl:a = #[y,z,A]:=by cases a; simp_all
 obtain⟨rfl,rfl⟩:=trodVars_none P;have r:=f;have V : ∀ x∈p0,x.block<W.heap.size:=by obtain⟨m,b⟩:=r; exact DataW.trod_lt m _ _ _ b
 have s:=g;have Y : ∀ x∈p1,x.block<W.heap.size:=by obtain⟨m,b⟩:=s; exact DataW.trod_lt m _ _ _ b
 have u:=i;have Z : ∀ x∈p2,x.block<W.heap.size:=by obtain⟨m,b⟩:=u; exact DataW.trod_lt m _ _ _ b
 obtain⟨n0,rfl,rfl,rfl,w0⟩:=open_int Tryz.underlying5 (d 0 5 y rfl rfl) f;obtain⟨E,rfl,I⟩:=VF w0;obtain⟨F,U,L,rfl⟩:=okWide_slice Tryz.underlying22 (d 1 22 z rfl rfl);obtain⟨xa1,T,B⟩:=QG (D:=8) Tryz.underlying22 (by kernel_rfl) (by kernel_rfl) g;obtain⟨n2,rfl,rfl,rfl,w2⟩:=open_int Tryz.underlying5 (d 2 5 A rfl rfl) i;obtain⟨G,rfl,J⟩:=VF w2;clear l o;refine(Ny E F U L xa1 G W I J T B N).mono fun e W' ⟨R,c⟩ => ?_;subst R;exact⟨_,rfl,_,_,_,[],_,[],Q,trodAll_mk1 (shut_bool Tryz.underlying4 _),(trodAll_cons_mk (Below.trod laidOut (by kernel_rfl) (h_ (by kernel_rfl)) r c V) (trodAll_cons_mk (Below.trod laidOut (by kernel_rfl) (h_ (by kernel_rfl)) s c Y) (trodAll_cons_mk (Below.trod laidOut (by kernel_rfl) (h_ (by kernel_rfl)) u c Z) trodAll_mk0))),rfl,c.frame _,fun h=>by cases h⟩
theorem over:Rows.ledgerWholeRow.holds Tryz.pinned (OpenSpec.ofChange Rows.ledgerWholeSpec) :=
 OpenClaim.holds_of_wide 5 Tryz.f5 rfl rfl rfl rfl rfl rfl rfl ⟨rfl,rfl,rfl,rfl,rfl⟩ rfl rfl rfl rfl rfl (by kernel_rfl) Tryz.func5 (by kernel_rfl)
  (h_ (by kernel_rfl)) (by unfold Func.isWrapper; first|(rw[d_ (by decide +kernel)]; kernel_rfl)|(rw[b_ (by decide +kernel)]; exact⟨rfl,rfl⟩))
  (fun b c H a _=>lifted b c H a)
theorem proved:Rows.LedgerWholeCardSaid :=
 Claim7.holds_tied_plain_at .later [] [.funcs] true Rows.ledgerWholeCard.stood.harness false
  over (fun _ h=>by cases h) (by kernel_rfl) (fun _ h=>by cases h) ledgerWhole_row_tie rfl ⟨rfl,rfl⟩ (by kernel_rfl) rfl
  (fun f b d e=>by
   obtain rfl:f=5:=B_ ((show Tryz.prog.funcNamed Rows.ledgerWholeRow.func=some 5 by kernel_rfl).symm.trans d) |>.symm;obtain rfl:b=Tryz.f5:=(B_ (Tryz.func5.symm.trans e)).symm;exact⟨by kernel_rfl,fun j t a=>by
    rw[Tryz.params5]at a;have g:t ∈ [5,22,5]:=(by simpa using Array.mem_of_getElem? a);have c:([5,22,5].all fun u => !Tryz.prog.wantsStandIn u)=true:=(by kernel_rfl);exact(show Tryz.prog.wantsStandIn t=false by simpa using List.all_eq_true.1 c t g)⟩)
  (by kernel_rfl)
end Go.Proofs.YtahbiajdgealnaaGreatDoor.ledgerWhole
