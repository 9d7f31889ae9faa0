/-
  The law: it returns true for every input, and its arguments stay; no condition.
-/
import Derived.Test.YtcbedgfikejkoaaGreatDoorRows
import Derived.WalkKit
import Derived.ProofKit
import Derived.OpenShut
import Derived.ShutString
import Derived.Test.YtcbedgfikejkoaaGreatDoorTie
import Derived.Test.YtcbedgfikejkoaaGreatDoorCards
import Derived.Stop.Joined
import Derived.SevenTiedAt
import Derived.ChangeOld
import Derived.Below
import Derived.Test.YtcbedgfikejkoaaGreatDoorZC8
set_option linter.unusedVariables false
set_option maxHeartbeats 1600000
set_option linter.unusedSimpArgs false
namespace Go.Proofs.YtcbedgfikejkoaaGreatDoor.requestPlays
open Go.ChangeShapes Go.WideShapes Go.ChangeAt Go.RowKit Go.Deep Rt
theorem own:ownKnob Tryz.prog.godebug=none:=by kernel_rfl
theorem laidOut:laidOutB Tryz.prog=true:=by kernel_rfl
set_option maxRecDepth 100000 in
theorem lifted(os:Os)(started:os.Started)(H:Type)(enc:TypeId × Value->H) :
 ReturnsInHanded {} Tryz.checked os 5 .any (fun w b => (Rows.requestPlaysSpec.pre enc Tryz.prog Tryz.f5 [] false w b ∧ laidMetH Tryz.prog [("leat/ledger.kinds", Rows.laid_leat_ledger_kinds)] w) ∧ sizedMet enc Tryz.prog Tryz.f5 (OpenSpec.ofChange Rows.requestPlaysSpec) false w b) (Rows.requestPlaysSpec.post enc Tryz.prog Tryz.f5 false true false false) := by
 refine returnsInHanded_of_change_and (C := Tryz.checked) (X := fun w _ => laidMetH Tryz.prog [("leat/ledger.kinds", Rows.laid_leat_ledger_kinds)] w) (fun _ _ _ hh h => h.of_heap hh) own started (by kernel_rfl) Tryz.func5
  (ChangeSpec.witness_shaped (enc := enc) (C := Tryz.checked) (os := os) (X := fun w _ => laidMetH Tryz.prog [("leat/ledger.kinds", Rows.laid_leat_ledger_kinds)] w) false (World.doorLaid Tryz.prog 600 os) #[.int .u8 0, .slice none 0 0, .int .u8 0, .int .i64 0, .slice none 0 0, .slice none 0 0] 8 rfl (World.shaped_of_RefB (by kernel_rfl) (by kernel_rfl)) (by kernel_rfl) (by kernel_rfl) (by kernel_rfl) (XW os _)) ?_
 intro W base b ds gs before u s _ _ hL _;have hK:=M4 hL;have d : ∀(j:Nat) t v,Tryz.f5.params[j]? = some t->b[j]? = some v->Value.okWide Tryz.prog W .any base t v:=u;have hW':=s;obtain⟨p,q,r,hV,rfl,hfz,hnd⟩:=s;have o:DataW.TrodAll enc Tryz.prog W 0 (fun _=>true) true Tryz.f5.params.toList b.toList ds p:=r;rw[Tryz.params5]at o d;obtain⟨G,vs0,d0,ds0,p0,q0,hargs,rfl,rfl,f,r0⟩:=trodAll_cons o;obtain⟨I,vs1,d1,ds1,p1,q1,rfl,rfl,rfl,g,r1⟩:=trodAll_cons r0;obtain⟨J,vs2,d2,ds2,p2,q2,rfl,rfl,rfl,i,r2⟩:=trodAll_cons r1;obtain⟨K,vs3,d3,ds3,p3,q3,rfl,rfl,rfl,k,r3⟩:=trodAll_cons r2;obtain⟨L,vs4,d4,ds4,p4,q4,rfl,rfl,rfl,l,r4⟩:=trodAll_cons r3;obtain⟨M,vs5,d5,ds5,p5,q5,rfl,rfl,rfl,n,r5⟩:=trodAll_cons r4;obtain⟨rfl,rfl,rfl⟩:=trodAll_nil r5;obtain rfl:b = #[G,I,J,K,L,M]:=by cases b; simp_all
 obtain⟨rfl,rfl⟩:=trodVars_none hV;have y:=f;have lt0 : ∀ x∈p0,x.block<W.heap.size:=by obtain⟨m,a⟩:=y; exact DataW.trod_lt m _ _ _ a
 have z:=g;have lt1 : ∀ x∈p1,x.block<W.heap.size:=by obtain⟨m,a⟩:=z; exact DataW.trod_lt m _ _ _ a
 have A:=i;have lt2 : ∀ x∈p2,x.block<W.heap.size:=by obtain⟨m,a⟩:=A; exact DataW.trod_lt m _ _ _ a
 have B:=k;have lt3 : ∀ x∈p3,x.block<W.heap.size:=by obtain⟨m,a⟩:=B; exact DataW.trod_lt m _ _ _ a
 have E:=l;have lt4 : ∀ x∈p4,x.block<W.heap.size:=by obtain⟨m,a⟩:=E; exact DataW.trod_lt m _ _ _ a
 have F:=n;have lt5 : ∀ x∈p5,x.block<W.heap.size:=by obtain⟨m,a⟩:=F; exact DataW.trod_lt m _ _ _ a
 obtain⟨V,rfl,rfl,rfl,w3⟩:=open_int Tryz.underlying3 (d 3 3 K rfl rfl) k;obtain⟨n0,rfl,rfl,rfl,w0⟩:=open_int Tryz.underlying5 (d 0 5 G rfl rfl) f;obtain⟨S,rfl,b0⟩:=Xe w0;obtain⟨T,l1,c1,rfl⟩:=okWide_slice Tryz.underlying22 (d 1 22 I rfl rfl);obtain⟨xa1,hx1,N⟩:=RQ (D:=8) Tryz.underlying22 (by kernel_rfl) (by kernel_rfl) g;obtain⟨n2,rfl,rfl,rfl,w2⟩:=open_int Tryz.underlying5 (d 2 5 J rfl rfl) i;obtain⟨U,rfl,b2⟩:=Xe w2;obtain⟨Y,l4,c4,rfl⟩:=okWide_slice Tryz.underlying32 (d 4 32 L rfl rfl);obtain⟨lm4,X4,hX4,Q⟩:=Gp (ks:=KAK) (D:=8) Tryz.underlying32 (by kernel_rfl) (by kernel_rfl) (by decide) l;obtain⟨xk4,asK,O⟩:=R7 hX4 Q;obtain⟨Z,l5,c5,rfl⟩:=okWide_slice Tryz.underlying62 (d 5 62 M rfl rfl);obtain⟨lm5,X5,hX5,R⟩:=Gp (ks := [some .u8]) (D:=8) Tryz.underlying62 (by kernel_rfl) (by kernel_rfl) (by decide) n;obtain⟨ob5,asL,P⟩:=aaA hX5 R;clear r u;refine(OO S T l1 c1 xa1 U V Y Z l4 c4 l5 c5 xk4 ob5 _ b0 b2 (WW w3) asK O asL P hx1 N hK).mono fun e W' ⟨he,c⟩ => ?_;subst he;exact⟨_,rfl,_,_,_,[],_,[],hW',trodAll_mk1 (shut_bool Tryz.underlying4 _),(trodAll_cons_mk (Below.trod laidOut (by kernel_rfl) (h_ (by kernel_rfl)) y c lt0) (trodAll_cons_mk (Below.trod laidOut (by kernel_rfl) (h_ (by kernel_rfl)) z c lt1) (trodAll_cons_mk (Below.trod laidOut (by kernel_rfl) (h_ (by kernel_rfl)) A c lt2) (trodAll_cons_mk (Below.trod laidOut (by kernel_rfl) (h_ (by kernel_rfl)) B c lt3) (trodAll_cons_mk (Below.trod laidOut (by kernel_rfl) (h_ (by kernel_rfl)) E c lt4) (trodAll_cons_mk (Below.trod laidOut (by kernel_rfl) (h_ (by kernel_rfl)) F c lt5) trodAll_mk0)))))),rfl,c.frame _,fun h=>by cases h⟩
theorem over:Rows.requestPlaysRow.holds Tryz.pinned (OpenSpec.ofChange Rows.requestPlaysSpec) :=
 OpenClaim.holds_of_wide 5 Tryz.f5 rfl rfl rfl rfl rfl rfl rfl ⟨rfl,rfl,rfl,rfl,rfl⟩ rfl rfl rfl rfl rfl (by kernel_rfl) Tryz.func5 (by kernel_rfl)
  (h_ (by kernel_rfl)) (by unfold Func.isWrapper; first|(rw[d_ (by decide +kernel)]; kernel_rfl)|(rw[b_ (by decide +kernel)]; exact⟨rfl,rfl⟩))
  (fun b c H a _=>lifted b c H a)
theorem proved:Rows.RequestPlaysCardSaid :=
 Claim7.holds_tied_plain_at .later [] [.funcs] true Rows.requestPlaysCard.stood.harness false
  over (fun _ h=>by cases h) (by kernel_rfl) (fun _ h=>by cases h) requestPlays_row_tie rfl ⟨rfl,rfl⟩ (by kernel_rfl) rfl
  (fun f b d e=>by
   obtain rfl:f=5:=C_ ((show Tryz.prog.funcNamed Rows.requestPlaysRow.func=some 5 by kernel_rfl).symm.trans d) |>.symm;obtain rfl:b=Tryz.f5:=(C_ (Tryz.func5.symm.trans e)).symm;exact⟨by kernel_rfl,fun j t a=>by
    rw[Tryz.params5]at a;have g:t ∈ [5,22,5,3,32,62]:=(by simpa using Array.mem_of_getElem? a);have c:([5,22,5,3,32,62].all fun u => !Tryz.prog.wantsStandIn u)=true:=(by kernel_rfl);exact(show Tryz.prog.wantsStandIn t=false by simpa using List.all_eq_true.1 c t g)⟩)
  (by kernel_rfl)
end Go.Proofs.YtcbedgfikejkoaaGreatDoor.requestPlays
