/-
  The law: it returns true for every input, and its arguments stay; no condition.
-/
import Derived.Test.YtahbiajdgealnaaDoorRows
import Derived.WalkKit
import Derived.ProofKit
import Derived.OpenShut
import Derived.ShutString
import Derived.Test.YtahbiajdgealnaaDoorTie
import Derived.Test.YtahbiajdgealnaaDoorCards
import Derived.Stop.Joined
import Derived.SevenTiedAt
import Derived.ChangeOld
import Derived.Below
import Derived.Test.YtahbiajdgealnaaDoorZC7
set_option maxHeartbeats 1600000
set_option linter.unusedVariables false
set_option linter.unusedSimpArgs false
namespace Go.Proofs.YtahbiajdgealnaaDoor.admitLater
open Go.ChangeShapes Go.WideShapes Go.ChangeAt Go.RowKit Go.Deep Rt
set_option linter.unusedVariables false
theorem own:ownKnob Tryd.prog.godebug=none:=by kernel_rfl
theorem laidOut:laidOutB Tryd.prog=true:=by kernel_rfl
set_option maxRecDepth 100000 in
theorem lifted(os:Os)(started:os.Started)(H:Type)(enc:TypeId × Value->H) :
 ReturnsInHanded {} Tryd.checked os 4 .any (fun w a => (Rows.admitLaterSpec.pre enc Tryd.prog Tryd.f4 [] false w a ∧ laidMetH Tryd.prog [("leat/ledger.kinds", Rows.laid_leat_ledger_kinds)] w) ∧ sizedMet enc Tryd.prog Tryd.f4 (OpenSpec.ofChange Rows.admitLaterSpec) false w a) (Rows.admitLaterSpec.post enc Tryd.prog Tryd.f4 false true false false) := by
 refine returnsInHanded_of_change_and (C := Tryd.checked) (X := fun w _ => laidMetH Tryd.prog [("leat/ledger.kinds", Rows.laid_leat_ledger_kinds)] w) (fun _ _ _ Y h => h.of_heap Y) own started (by kernel_rfl) Tryd.func4
  (ChangeSpec.witness_shaped (enc := enc) (C := Tryd.checked) (os := os) (X := fun w _ => laidMetH Tryd.prog [("leat/ledger.kinds", Rows.laid_leat_ledger_kinds)] w) false (World.doorLaid Tryd.prog 600 os) #[.int .u8 0, .slice none 0 0, .int .u8 0, .agg #[.int .u8 0, .bool false, .int .u8 0, .int .u8 0, .int .u8 0, .int .u8 0, .int .u16 0, .int .u8 0, .int .u8 0]] 8 rfl (World.shaped_of_RefB (by kernel_rfl) (by kernel_rfl)) (by kernel_rfl) (by kernel_rfl) (by kernel_rfl) (V9 os _)) ?_
 intro W O a Q gs before r o _ _ S _;have R:=LH S;have d : ∀(j:Nat) t v,Tryd.f4.params[j]? = some t->a[j]? = some v->Value.okWide Tryd.prog W .any O t v:=r;have U:=o;obtain⟨p,q,n,T,rfl,hfz,hnd⟩:=o;have l:DataW.TrodAll enc Tryd.prog W 0 (fun _=>true) true Tryd.f4.params.toList a.toList Q p:=n;rw[Tryd.params4]at l d;obtain⟨A,vs0,d0,ds0,p0,q0,hargs,rfl,rfl,f,r0⟩:=trodAll_cons l;obtain⟨B,vs1,d1,ds1,p1,q1,rfl,rfl,rfl,g,r1⟩:=trodAll_cons r0;obtain⟨E,vs2,d2,ds2,p2,q2,rfl,rfl,rfl,i,r2⟩:=trodAll_cons r1;obtain⟨F,vs3,d3,ds3,p3,q3,rfl,rfl,rfl,k,r3⟩:=trodAll_cons r2;obtain⟨rfl,rfl,rfl⟩:=trodAll_nil r3;obtain rfl:a = #[A,B,E,F]:=by cases a; simp_all
 obtain⟨rfl,rfl⟩:=trodVars_none T;have s:=f;have lt0 : ∀ x∈p0,x.block<W.heap.size:=by obtain⟨m,b⟩:=s; exact DataW.trod_lt m _ _ _ b
 have u:=g;have lt1 : ∀ x∈p1,x.block<W.heap.size:=by obtain⟨m,b⟩:=u; exact DataW.trod_lt m _ _ _ b
 have y:=i;have lt2 : ∀ x∈p2,x.block<W.heap.size:=by obtain⟨m,b⟩:=y; exact DataW.trod_lt m _ _ _ b
 have z:=k;have lt3 : ∀ x∈p3,x.block<W.heap.size:=by obtain⟨m,b⟩:=z; exact DataW.trod_lt m _ _ _ b
 obtain⟨n0,rfl,rfl,rfl,w0⟩:=open_int Tryd.underlying5 (d 0 5 A rfl rfl) f;obtain⟨I,rfl,M⟩:=Vy w0;obtain⟨J,l1,P,rfl⟩:=okWide_slice Tryd.underlying36 (d 1 36 B rfl rfl);obtain⟨xa1,Z,G⟩:=QK (D:=8) Tryd.underlying36 (by kernel_rfl) (by kernel_rfl) g;obtain⟨n2,rfl,rfl,rfl,w2⟩:=open_int Tryd.underlying5 (d 2 5 E rfl rfl) i;obtain⟨K,rfl,N⟩:=Vy w2;obtain⟨L,rfl,w3⟩:=V7 (d 3 39 F rfl rfl) k;clear n r;refine(Ny I J l1 P xa1 K L W M N w3 Z G R).mono fun e W' ⟨V,c⟩ => ?_;subst V;exact⟨_,rfl,_,_,_,[],_,[],U,trodAll_mk1 (shut_bool Tryd.underlying4 _),(trodAll_cons_mk (Below.trod laidOut (by kernel_rfl) (h_ (by kernel_rfl)) s c lt0) (trodAll_cons_mk (Below.trod laidOut (by kernel_rfl) (h_ (by kernel_rfl)) u c lt1) (trodAll_cons_mk (Below.trod laidOut (by kernel_rfl) (h_ (by kernel_rfl)) y c lt2) (trodAll_cons_mk (Below.trod laidOut (by kernel_rfl) (h_ (by kernel_rfl)) z c lt3) trodAll_mk0)))),rfl,c.frame _,fun h=>by cases h⟩
theorem over:Rows.admitLaterRow.holds Tryd.pinned (OpenSpec.ofChange Rows.admitLaterSpec) :=
 OpenClaim.holds_of_wide 4 Tryd.f4 rfl rfl rfl rfl rfl rfl rfl ⟨rfl,rfl,rfl,rfl,rfl⟩ rfl rfl rfl rfl rfl (by kernel_rfl) Tryd.func4 (by kernel_rfl)
  (h_ (by kernel_rfl)) (by unfold Func.isWrapper; first|(rw[d_ (by decide +kernel)]; kernel_rfl)|(rw[b_ (by decide +kernel)]; exact⟨rfl,rfl⟩))
  (fun b c H a _=>lifted b c H a)
theorem proved:Rows.AdmitLaterCardSaid :=
 Claim7.holds_tied_plain_at .later [] [.funcs] true Rows.admitLaterCard.stood.harness false
  over (fun _ h=>by cases h) (by kernel_rfl) (fun _ h=>by cases h) admitLater_row_tie rfl ⟨rfl,rfl⟩ (by kernel_rfl) rfl
  (fun f b d e=>by
   obtain rfl:f=4:=B_ ((show Tryd.prog.funcNamed Rows.admitLaterRow.func=some 4 by kernel_rfl).symm.trans d) |>.symm;obtain rfl:b=Tryd.f4:=(B_ (Tryd.func4.symm.trans e)).symm;exact⟨by kernel_rfl,fun j t a=>by
    rw[Tryd.params4]at a;have g:t ∈ [5,36,5,39]:=(by simpa using Array.mem_of_getElem? a);have c:([5,36,5,39].all fun u => !Tryd.prog.wantsStandIn u)=true:=(by kernel_rfl);exact(show Tryd.prog.wantsStandIn t=false by simpa using List.all_eq_true.1 c t g)⟩)
  (by kernel_rfl)
end Go.Proofs.YtahbiajdgealnaaDoor.admitLater
