/-
  The law: it returns true for every input, and its arguments stay; no condition.
-/
import Derived.Test.YtahbiajdgealnaaGreatDoorRows
import Derived.WalkKit
import Derived.ProofKit
import Derived.OpenShut
import Derived.ShutString
import Derived.Test.YtahbiajdgealnaaGreatDoorTie
import Derived.Test.YtahbiajdgealnaaGreatDoorCards
import Derived.Stop.Joined
import Derived.SevenTiedAt
import Derived.ChangeOld
import Derived.Below
import Derived.Test.YtahbiajdgealnaaGreatDoorZD8
set_option maxHeartbeats 1600000
set_option linter.unusedVariables false
set_option linter.unusedSimpArgs false
namespace Go.Proofs.YtahbiajdgealnaaGreatDoor.ledgerOrder
open Go.ChangeShapes Go.WideShapes Go.ChangeAt Go.RowKit Go.Deep Rt
set_option linter.unusedVariables false
theorem own:ownKnob Tryz.prog.godebug=none:=by kernel_rfl
theorem laidOut:laidOutB Tryz.prog=true:=by kernel_rfl
set_option maxRecDepth 100000 in
theorem lifted(os:Os)(started:os.Started)(H:Type)(enc:TypeId × Value->H) :
 ReturnsInHanded {} Tryz.checked os 3 .any (fun w a => (Rows.ledgerOrderSpec.pre enc Tryz.prog Tryz.f3 [] false w a ∧ laidMetH Tryz.prog [("leat/ledger.kinds", Rows.laid_leat_ledger_kinds)] w) ∧ sizedMet enc Tryz.prog Tryz.f3 (OpenSpec.ofChange Rows.ledgerOrderSpec) false w a) (Rows.ledgerOrderSpec.post enc Tryz.prog Tryz.f3 false true false false) := by
 refine returnsInHanded_of_change_and (C := Tryz.checked) (X := fun w _ => laidMetH Tryz.prog [("leat/ledger.kinds", Rows.laid_leat_ledger_kinds)] w) (fun _ _ _ V h => h.of_heap V) own started (by kernel_rfl) Tryz.func3
  (ChangeSpec.witness_shaped (enc := enc) (C := Tryz.checked) (os := os) (X := fun w _ => laidMetH Tryz.prog [("leat/ledger.kinds", Rows.laid_leat_ledger_kinds)] w) false (World.doorLaid Tryz.prog 600 os) #[.int .u8 0, .slice none 0 0, .slice none 0 0] 8 rfl (World.shaped_of_RefB (by kernel_rfl) (by kernel_rfl)) (by kernel_rfl) (by kernel_rfl) (by kernel_rfl) (Wd os _)) ?_
 intro W L a O gs before o n _ _ Q _;have P:=LA Q;have d : ∀(j:Nat) t v,Tryz.f3.params[j]? = some t->a[j]? = some v->Value.okWide Tryz.prog W .any L t v:=o;have S:=n;obtain⟨p,q,l,R,rfl,hfz,hnd⟩:=n;have k:DataW.TrodAll enc Tryz.prog W 0 (fun _=>true) true Tryz.f3.params.toList a.toList O p:=l;rw[Tryz.params3]at k d;obtain⟨y,vs0,d0,ds0,p0,q0,hargs,rfl,rfl,f,r0⟩:=trodAll_cons k;obtain⟨z,vs1,d1,ds1,p1,q1,rfl,rfl,rfl,g,r1⟩:=trodAll_cons r0;obtain⟨A,vs2,d2,ds2,p2,q2,rfl,rfl,rfl,i,r2⟩:=trodAll_cons r1;obtain⟨rfl,rfl,rfl⟩:=trodAll_nil r2;obtain rfl:a = #[y,z,A]:=by cases a; simp_all
 obtain⟨rfl,rfl⟩:=trodVars_none R;have r:=f;have lt0 : ∀ x∈p0,x.block<W.heap.size:=by obtain⟨m,b⟩:=r; exact DataW.trod_lt m _ _ _ b
 have s:=g;have lt1 : ∀ x∈p1,x.block<W.heap.size:=by obtain⟨m,b⟩:=s; exact DataW.trod_lt m _ _ _ b
 have u:=i;have lt2 : ∀ x∈p2,x.block<W.heap.size:=by obtain⟨m,b⟩:=u; exact DataW.trod_lt m _ _ _ b
 obtain⟨n0,rfl,rfl,rfl,w0⟩:=open_int Tryz.underlying5 (d 0 5 y rfl rfl) f;obtain⟨G,rfl,K⟩:=adG w0;obtain⟨I,l1,M,rfl⟩:=okWide_slice Tryz.underlying22 (d 1 22 z rfl rfl);obtain⟨xa1,Z,B⟩:=QI (D:=8) Tryz.underlying22 (by kernel_rfl) (by kernel_rfl) g;obtain⟨J,l2,N,rfl⟩:=okWide_slice Tryz.underlying23 (d 2 23 A rfl rfl);obtain⟨lm2,X2,T,F⟩:=Nq (ks := [some .u8]) (D:=8) Tryz.underlying23 (by kernel_rfl) (by kernel_rfl) (by decide) i;obtain⟨ob2,Y,E⟩:=YV T F;clear l o;refine(Nz G I l1 M xa1 J l2 N ob2 W K Z B Y E P).mono fun e W' ⟨U,c⟩ => ?_;subst U;exact⟨_,rfl,_,_,_,[],_,[],S,trodAll_mk1 (shut_bool Tryz.underlying4 _),(trodAll_cons_mk (Below.trod laidOut (by kernel_rfl) (h_ (by kernel_rfl)) r c lt0) (trodAll_cons_mk (Below.trod laidOut (by kernel_rfl) (h_ (by kernel_rfl)) s c lt1) (trodAll_cons_mk (Below.trod laidOut (by kernel_rfl) (h_ (by kernel_rfl)) u c lt2) trodAll_mk0))),rfl,c.frame _,fun h=>by cases h⟩
theorem over:Rows.ledgerOrderRow.holds Tryz.pinned (OpenSpec.ofChange Rows.ledgerOrderSpec) :=
 OpenClaim.holds_of_wide 3 Tryz.f3 rfl rfl rfl rfl rfl rfl rfl ⟨rfl,rfl,rfl,rfl,rfl⟩ rfl rfl rfl rfl rfl (by kernel_rfl) Tryz.func3 (by kernel_rfl)
  (h_ (by kernel_rfl)) (by unfold Func.isWrapper; first|(rw[d_ (by decide +kernel)]; kernel_rfl)|(rw[b_ (by decide +kernel)]; exact⟨rfl,rfl⟩))
  (fun b c H a _=>lifted b c H a)
theorem proved:Rows.LedgerOrderCardSaid :=
 Claim7.holds_tied_plain_at .later [] [.funcs] true Rows.ledgerOrderCard.stood.harness false
  over (fun _ h=>by cases h) (by kernel_rfl) (fun _ h=>by cases h) ledgerOrder_row_tie rfl ⟨rfl,rfl⟩ (by kernel_rfl) rfl
  (fun f b d e=>by
   obtain rfl:f=3:=B_ ((show Tryz.prog.funcNamed Rows.ledgerOrderRow.func=some 3 by kernel_rfl).symm.trans d) |>.symm;obtain rfl:b=Tryz.f3:=(B_ (Tryz.func3.symm.trans e)).symm;exact⟨by kernel_rfl,fun j t a=>by
    rw[Tryz.params3]at a;have g:t ∈ [5,22,23]:=(by simpa using Array.mem_of_getElem? a);have c:([5,22,23].all fun u => !Tryz.prog.wantsStandIn u)=true:=(by kernel_rfl);exact(show Tryz.prog.wantsStandIn t=false by simpa using List.all_eq_true.1 c t g)⟩)
  (by kernel_rfl)
end Go.Proofs.YtahbiajdgealnaaGreatDoor.ledgerOrder
