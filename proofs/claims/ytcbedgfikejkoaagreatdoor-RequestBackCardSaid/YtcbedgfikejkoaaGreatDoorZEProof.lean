/-
  The law: it returns true for every input, and its arguments stay; no condition.
-/
import Derived.Test.YtcbedgfikejkoaaGreatDoorRows
import Derived.WalkKit
import Derived.ProofKit
import Derived.OpenShut
import Derived.ShutString
import Derived.Test.YtcbedgfikejkoaaGreatDoorTie
import Derived.Test.YtcbedgfikejkoaaGreatDoorCards
import Derived.Stop.Joined
import Derived.SevenTiedAt
import Derived.ChangeOld
import Derived.Below
import Derived.Test.YtcbedgfikejkoaaGreatDoorZE8
set_option linter.unusedVariables false
set_option maxHeartbeats 1600000
set_option linter.unusedSimpArgs false
namespace Go.Proofs.YtcbedgfikejkoaaGreatDoor.requestBack
open Go.ChangeShapes Go.WideShapes Go.ChangeAt Go.RowKit Go.Deep Rt
theorem own:ownKnob Tryz.prog.godebug=none:=by kernel_rfl
theorem laidOut:laidOutB Tryz.prog=true:=by kernel_rfl
set_option maxRecDepth 100000 in
theorem lifted(os:Os)(started:os.Started)(H:Type)(enc:TypeId × Value->H) :
 ReturnsInHanded {} Tryz.checked os 6 .any (fun w b => (Rows.requestBackSpec.pre enc Tryz.prog Tryz.f6 [] false w b ∧ laidMetH Tryz.prog [("leat/ledger.kinds", Rows.laid_leat_ledger_kinds)] w) ∧ sizedMet enc Tryz.prog Tryz.f6 (OpenSpec.ofChange Rows.requestBackSpec) false w b) (Rows.requestBackSpec.post enc Tryz.prog Tryz.f6 false true false false) := by
 refine returnsInHanded_of_change_and (C := Tryz.checked) (X := fun w _ => laidMetH Tryz.prog [("leat/ledger.kinds", Rows.laid_leat_ledger_kinds)] w) (fun _ _ _ hh h => h.of_heap hh) own started (by kernel_rfl) Tryz.func6
  (ChangeSpec.witness_shaped (enc := enc) (C := Tryz.checked) (os := os) (X := fun w _ => laidMetH Tryz.prog [("leat/ledger.kinds", Rows.laid_leat_ledger_kinds)] w) false (World.doorLaid Tryz.prog 600 os) #[.int .u8 0, .slice none 0 0, .int .u8 0, .int .u8 0, .int .u16 0] 8 rfl (World.shaped_of_RefB (by kernel_rfl) (by kernel_rfl)) (by kernel_rfl) (by kernel_rfl) (by kernel_rfl) (Yi os _)) ?_
 intro W U b Y gs before s r _ _ hL _;have Z:=M5 hL;have d : ∀(j:Nat) t v,Tryz.f6.params[j]? = some t->b[j]? = some v->Value.okWide Tryz.prog W .any U t v:=s;have hW':=r;obtain⟨p,q,o,hV,rfl,hfz,hnd⟩:=r;have n:DataW.TrodAll enc Tryz.prog W 0 (fun _=>true) true Tryz.f6.params.toList b.toList Y p:=o;rw[Tryz.params6]at n d;obtain⟨E,vs0,d0,ds0,p0,q0,hargs,rfl,rfl,f,r0⟩:=trodAll_cons n;obtain⟨F,vs1,d1,ds1,p1,q1,rfl,rfl,rfl,g,r1⟩:=trodAll_cons r0;obtain⟨G,vs2,d2,ds2,p2,q2,rfl,rfl,rfl,i,r2⟩:=trodAll_cons r1;obtain⟨I,vs3,d3,ds3,p3,q3,rfl,rfl,rfl,k,r3⟩:=trodAll_cons r2;obtain⟨J,vs4,d4,ds4,p4,q4,rfl,rfl,rfl,l,r4⟩:=trodAll_cons r3;obtain⟨rfl,rfl,rfl⟩:=trodAll_nil r4;obtain rfl:b = #[E,F,G,I,J]:=by cases b; simp_all
 obtain⟨rfl,rfl⟩:=trodVars_none hV;have u:=f;have lt0 : ∀ x∈p0,x.block<W.heap.size:=by obtain⟨m,a⟩:=u; exact DataW.trod_lt m _ _ _ a
 have y:=g;have lt1 : ∀ x∈p1,x.block<W.heap.size:=by obtain⟨m,a⟩:=y; exact DataW.trod_lt m _ _ _ a
 have z:=i;have lt2 : ∀ x∈p2,x.block<W.heap.size:=by obtain⟨m,a⟩:=z; exact DataW.trod_lt m _ _ _ a
 have A:=k;have lt3 : ∀ x∈p3,x.block<W.heap.size:=by obtain⟨m,a⟩:=A; exact DataW.trod_lt m _ _ _ a
 have B:=l;have lt4 : ∀ x∈p4,x.block<W.heap.size:=by obtain⟨m,a⟩:=B; exact DataW.trod_lt m _ _ _ a
 obtain⟨n0,rfl,rfl,rfl,w0⟩:=open_int Tryz.underlying5 (d 0 5 E rfl rfl) f;obtain⟨L,rfl,Q⟩:=OH w0;obtain⟨M,l1,V,rfl⟩:=okWide_slice Tryz.underlying22 (d 1 22 F rfl rfl);obtain⟨xa1,hx1,K⟩:=Sg (D:=8) Tryz.underlying22 (by kernel_rfl) (by kernel_rfl) g;obtain⟨n2,rfl,rfl,rfl,w2⟩:=open_int Tryz.underlying5 (d 2 5 G rfl rfl) i;obtain⟨N,rfl,R⟩:=OH w2;obtain⟨n3,rfl,rfl,rfl,w3⟩:=open_int Tryz.underlying5 (d 3 5 I rfl rfl) k;obtain⟨O,rfl,S⟩:=OH w3;obtain⟨n4,rfl,rfl,rfl,w4⟩:=open_int Tryz.underlying58 (d 4 58 J rfl rfl) l;obtain⟨P,rfl,T⟩:=aaH w4;clear o s;refine(SB L M l1 V xa1 N O P W Q R S T hx1 K Z).mono fun e W' ⟨he,c⟩ => ?_;subst he;exact⟨_,rfl,_,_,_,[],_,[],hW',trodAll_mk1 (shut_bool Tryz.underlying4 _),(trodAll_cons_mk (Below.trod laidOut (by kernel_rfl) (h_ (by kernel_rfl)) u c lt0) (trodAll_cons_mk (Below.trod laidOut (by kernel_rfl) (h_ (by kernel_rfl)) y c lt1) (trodAll_cons_mk (Below.trod laidOut (by kernel_rfl) (h_ (by kernel_rfl)) z c lt2) (trodAll_cons_mk (Below.trod laidOut (by kernel_rfl) (h_ (by kernel_rfl)) A c lt3) (trodAll_cons_mk (Below.trod laidOut (by kernel_rfl) (h_ (by kernel_rfl)) B c lt4) trodAll_mk0))))),rfl,c.frame _,fun h=>by cases h⟩
theorem over:Rows.requestBackRow.holds Tryz.pinned (OpenSpec.ofChange Rows.requestBackSpec) :=
 OpenClaim.holds_of_wide 6 Tryz.f6 rfl rfl rfl rfl rfl rfl rfl ⟨rfl,rfl,rfl,rfl,rfl⟩ rfl rfl rfl rfl rfl (by kernel_rfl) Tryz.func6 (by kernel_rfl)
  (h_ (by kernel_rfl)) (by unfold Func.isWrapper; first|(rw[d_ (by decide +kernel)]; kernel_rfl)|(rw[b_ (by decide +kernel)]; exact⟨rfl,rfl⟩))
  (fun b c H a _=>lifted b c H a)
theorem proved:Rows.RequestBackCardSaid :=
 Claim7.holds_tied_plain_at .later [] [.funcs] true Rows.requestBackCard.stood.harness false
  over (fun _ h=>by cases h) (by kernel_rfl) (fun _ h=>by cases h) requestBack_row_tie rfl ⟨rfl,rfl⟩ (by kernel_rfl) rfl
  (fun f b d e=>by
   obtain rfl:f=6:=C_ ((show Tryz.prog.funcNamed Rows.requestBackRow.func=some 6 by kernel_rfl).symm.trans d) |>.symm;obtain rfl:b=Tryz.f6:=(C_ (Tryz.func6.symm.trans e)).symm;exact⟨by kernel_rfl,fun j t a=>by
    rw[Tryz.params6]at a;have g:t ∈ [5,22,5,5,58]:=(by simpa using Array.mem_of_getElem? a);have c:([5,22,5,5,58].all fun u => !Tryz.prog.wantsStandIn u)=true:=(by kernel_rfl);exact(show Tryz.prog.wantsStandIn t=false by simpa using List.all_eq_true.1 c t g)⟩)
  (by kernel_rfl)
end Go.Proofs.YtcbedgfikejkoaaGreatDoor.requestBack
