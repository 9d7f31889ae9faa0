/-
  The law: it returns true for every input, and its arguments stay; no condition.
-/
import Derived.Test.YtcbedgfikejkoaaGreatDoorRows
import Derived.WalkKit
import Derived.ProofKit
import Derived.OpenShut
import Derived.ShutString
import Derived.Test.YtcbedgfikejkoaaGreatDoorTie
import Derived.Test.YtcbedgfikejkoaaGreatDoorCards
import Derived.Stop.Joined
import Derived.SevenTiedAt
import Derived.ChangeOld
import Derived.Below
import Derived.Test.YtcbedgfikejkoaaGreatDoorZB8
set_option linter.unusedVariables false
set_option maxHeartbeats 1600000
set_option linter.unusedSimpArgs false
namespace Go.Proofs.YtcbedgfikejkoaaGreatDoor.admitPlays
open Go.ChangeShapes Go.WideShapes Go.ChangeAt Go.RowKit Go.Deep Rt
theorem own:ownKnob Tryz.prog.godebug=none:=by kernel_rfl
theorem laidOut:laidOutB Tryz.prog=true:=by kernel_rfl
set_option maxRecDepth 100000 in
theorem lifted(os:Os)(started:os.Started)(H:Type)(enc:TypeId × Value->H) :
 ReturnsInHanded {} Tryz.checked os 3 .any (fun w b => (Rows.admitPlaysSpec.pre enc Tryz.prog Tryz.f3 [] false w b ∧ laidMetH Tryz.prog [("leat/ledger.kinds", Rows.laid_leat_ledger_kinds)] w) ∧ sizedMet enc Tryz.prog Tryz.f3 (OpenSpec.ofChange Rows.admitPlaysSpec) false w b) (Rows.admitPlaysSpec.post enc Tryz.prog Tryz.f3 false true false false) := by
 refine returnsInHanded_of_change_and (C := Tryz.checked) (X := fun w _ => laidMetH Tryz.prog [("leat/ledger.kinds", Rows.laid_leat_ledger_kinds)] w) (fun _ _ _ hh h => h.of_heap hh) own started (by kernel_rfl) Tryz.func3
  (ChangeSpec.witness_shaped (enc := enc) (C := Tryz.checked) (os := os) (X := fun w _ => laidMetH Tryz.prog [("leat/ledger.kinds", Rows.laid_leat_ledger_kinds)] w) false (World.doorLaid Tryz.prog 600 os) #[.int .u8 0, .slice none 0 0, .int .u8 0, .int .i64 0, .agg #[.int .u8 0, .int .u64 0, .int .i64 0, .int .i64 0, .int .u64 0, .int .u64 0], .int .u8 0] 8 rfl (World.shaped_of_RefB (by kernel_rfl) (by kernel_rfl)) (by kernel_rfl) (by kernel_rfl) (by kernel_rfl) (WS os _)) ?_
 intro W Z b ds gs before u s _ _ hL _;have hK:=Ml hL;have d : ∀(j:Nat) t v,Tryz.f3.params[j]? = some t->b[j]? = some v->Value.okWide Tryz.prog W .any Z t v:=u;have hW':=s;obtain⟨p,q,r,hV,rfl,hfz,hnd⟩:=s;have o:DataW.TrodAll enc Tryz.prog W 0 (fun _=>true) true Tryz.f3.params.toList b.toList ds p:=r;rw[Tryz.params3]at o d;obtain⟨G,vs0,d0,ds0,p0,q0,hargs,rfl,rfl,f,r0⟩:=trodAll_cons o;obtain⟨I,vs1,d1,ds1,p1,q1,rfl,rfl,rfl,g,r1⟩:=trodAll_cons r0;obtain⟨J,vs2,d2,ds2,p2,q2,rfl,rfl,rfl,i,r2⟩:=trodAll_cons r1;obtain⟨K,vs3,d3,ds3,p3,q3,rfl,rfl,rfl,k,r3⟩:=trodAll_cons r2;obtain⟨L,vs4,d4,ds4,p4,q4,rfl,rfl,rfl,l,r4⟩:=trodAll_cons r3;obtain⟨M,vs5,d5,ds5,p5,q5,rfl,rfl,rfl,n,r5⟩:=trodAll_cons r4;obtain⟨rfl,rfl,rfl⟩:=trodAll_nil r5;obtain rfl:b = #[G,I,J,K,L,M]:=by cases b; simp_all
 obtain⟨rfl,rfl⟩:=trodVars_none hV;have y:=f;have lt0 : ∀ x∈p0,x.block<W.heap.size:=by obtain⟨m,a⟩:=y; exact DataW.trod_lt m _ _ _ a
 have z:=g;have lt1 : ∀ x∈p1,x.block<W.heap.size:=by obtain⟨m,a⟩:=z; exact DataW.trod_lt m _ _ _ a
 have A:=i;have lt2 : ∀ x∈p2,x.block<W.heap.size:=by obtain⟨m,a⟩:=A; exact DataW.trod_lt m _ _ _ a
 have B:=k;have lt3 : ∀ x∈p3,x.block<W.heap.size:=by obtain⟨m,a⟩:=B; exact DataW.trod_lt m _ _ _ a
 have E:=l;have lt4 : ∀ x∈p4,x.block<W.heap.size:=by obtain⟨m,a⟩:=E; exact DataW.trod_lt m _ _ _ a
 have F:=n;have lt5 : ∀ x∈p5,x.block<W.heap.size:=by obtain⟨m,a⟩:=F; exact DataW.trod_lt m _ _ _ a
 obtain⟨R,rfl,rfl,rfl,w3⟩:=open_int Tryz.underlying3 (d 3 3 K rfl rfl) k;obtain⟨n0,rfl,rfl,rfl,w0⟩:=open_int Tryz.underlying5 (d 0 5 G rfl rfl) f;obtain⟨O,rfl,U⟩:=NR w0;obtain⟨P,l1,c1,rfl⟩:=okWide_slice Tryz.underlying22 (d 1 22 I rfl rfl);obtain⟨xa1,hx1,N⟩:=QX (D:=8) Tryz.underlying22 (by kernel_rfl) (by kernel_rfl) g;obtain⟨n2,rfl,rfl,rfl,w2⟩:=open_int Tryz.underlying5 (d 2 5 J rfl rfl) i;obtain⟨Q,rfl,V⟩:=NR w2;obtain⟨S,rfl,w4⟩:=WR (d 4 25 L rfl rfl) l;obtain⟨n5,rfl,rfl,rfl,w5⟩:=open_int Tryz.underlying5 (d 5 5 M rfl rfl) n;obtain⟨T,rfl,Y⟩:=NR w5;clear r u;refine(NV O P l1 c1 xa1 Q R S T _ U V (VJ w3) w4 Y hx1 N hK).mono fun e W' ⟨he,c⟩ => ?_;subst he;exact⟨_,rfl,_,_,_,[],_,[],hW',trodAll_mk1 (shut_bool Tryz.underlying4 _),(trodAll_cons_mk (Below.trod laidOut (by kernel_rfl) (h_ (by kernel_rfl)) y c lt0) (trodAll_cons_mk (Below.trod laidOut (by kernel_rfl) (h_ (by kernel_rfl)) z c lt1) (trodAll_cons_mk (Below.trod laidOut (by kernel_rfl) (h_ (by kernel_rfl)) A c lt2) (trodAll_cons_mk (Below.trod laidOut (by kernel_rfl) (h_ (by kernel_rfl)) B c lt3) (trodAll_cons_mk (Below.trod laidOut (by kernel_rfl) (h_ (by kernel_rfl)) E c lt4) (trodAll_cons_mk (Below.trod laidOut (by kernel_rfl) (h_ (by kernel_rfl)) F c lt5) trodAll_mk0)))))),rfl,c.frame _,fun h=>by cases h⟩
theorem over:Rows.admitPlaysRow.holds Tryz.pinned (OpenSpec.ofChange Rows.admitPlaysSpec) :=
 OpenClaim.holds_of_wide 3 Tryz.f3 rfl rfl rfl rfl rfl rfl rfl ⟨rfl,rfl,rfl,rfl,rfl⟩ rfl rfl rfl rfl rfl (by kernel_rfl) Tryz.func3 (by kernel_rfl)
  (h_ (by kernel_rfl)) (by unfold Func.isWrapper; first|(rw[d_ (by decide +kernel)]; kernel_rfl)|(rw[b_ (by decide +kernel)]; exact⟨rfl,rfl⟩))
  (fun b c H a _=>lifted b c H a)
theorem proved:Rows.AdmitPlaysCardSaid :=
 Claim7.holds_tied_plain_at .later [] [.funcs] true Rows.admitPlaysCard.stood.harness false
  over (fun _ h=>by cases h) (by kernel_rfl) (fun _ h=>by cases h) admitPlays_row_tie rfl ⟨rfl,rfl⟩ (by kernel_rfl) rfl
  (fun f b d e=>by
   obtain rfl:f=3:=C_ ((show Tryz.prog.funcNamed Rows.admitPlaysRow.func=some 3 by kernel_rfl).symm.trans d) |>.symm;obtain rfl:b=Tryz.f3:=(C_ (Tryz.func3.symm.trans e)).symm;exact⟨by kernel_rfl,fun j t a=>by
    rw[Tryz.params3]at a;have g:t ∈ [5,22,5,3,25,5]:=(by simpa using Array.mem_of_getElem? a);have c:([5,22,5,3,25,5].all fun u => !Tryz.prog.wantsStandIn u)=true:=(by kernel_rfl);exact(show Tryz.prog.wantsStandIn t=false by simpa using List.all_eq_true.1 c t g)⟩)
  (by kernel_rfl)
end Go.Proofs.YtcbedgfikejkoaaGreatDoor.admitPlays
