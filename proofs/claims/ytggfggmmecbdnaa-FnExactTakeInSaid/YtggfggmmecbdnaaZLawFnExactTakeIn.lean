/- Lines by a program (a changed copy of the kit's print: this repo's wip/tools): Go functions as Lean functions, and proofs that the calls answer so. -/
import Derived.Test.YtggfggmmecbdnaaRows
import Derived.Test.YtggfggmmecbdnaaZPFnExactTakeInx9
import Derived.Test.YtggfggmmecbdnaaZPureFnExactTakeIn
import Derived.Test.YtggfggmmecbdnaaZOpen
import Derived.WalkKit
import Derived.ProofKit
import Derived.OpenShut
import Derived.ShutString
import Derived.ChangeOld
import Derived.Below
import Derived.SizedLaws
import Derived.Carry
namespace Go.Proofs.Ytggfggmmecbdnaa.fnExactTakeIn
open Go.ChangeShapes Go.WideShapes Go.ChangeAt Go.RowKit Go.Proofs.Ytggfggmmecbdnaa.PFnExactTakeIn Go.Proofs.YtggfggmmecbdnaaW.PrintWords Go.Proofs.Ytggfggmmecbdnaa
open Go.ChangeMaps (open_string shut_string)
set_option linter.unusedVariables false
theorem own : ownKnob Try.prog.godebug = none := by kernel_rfl
theorem laidOut : laidOutB Try.prog = true := by kernel_rfl
theorem op73 : XOpen.Op Try.prog k73 G73 73 := XOpen.op_struct (fun y => ⟨y.1, y.2⟩) Try.underlying73 (by kernel_rfl) (fun _ => rfl) (XOpen.opfs_cons rfl (by kernel_rfl) (XOpen.op_int Try.underlying3) (XOpen.opfs_one rfl (by kernel_rfl) (XOpen.op_int Try.underlying3)))
theorem op33 : XOpen.Op Try.prog k33 G33 33 := XOpen.op_struct (fun y => ⟨y.1, y.2.1, y.2.2.1, y.2.2.2⟩) Try.underlying33 (by kernel_rfl) (fun _ => rfl) (XOpen.opfs_cons rfl (by kernel_rfl) (XOpen.op_int Try.underlying3) (XOpen.opfs_cons rfl (by kernel_rfl) (XOpen.op_int Try.underlying3) (XOpen.opfs_cons rfl (by kernel_rfl) (XOpen.op_slice Try.underlying31 (by kernel_rfl) op73) (XOpen.opfs_one rfl (by kernel_rfl) (XOpen.op_int Try.underlying3)))))
set_option maxRecDepth 100000 in
theorem lifted (os : Os) (started : os.Started) (H : Type) (enc : TypeId × Value → H) :
    ReturnsInHanded {} Try.checked os 4 .any (Rows.fnExactTakeInSpec.pre6 enc Try.prog Try.f4 Rows.fnExactTakeInRow.domain false) (Rows.fnExactTakeInSpec.post enc Try.prog Try.f4 false true false false) := by
  refine returnsInHanded_of_change_sized (C := Try.checked) own started (by kernel_rfl) Try.func4
    (ChangeSpec.witness6 (enc := enc) (C := Try.checked) false ⟨#[], #[.agg #[.int .i64 0, .int .i64 0, .slice none 0 0, .int .i64 0], .int .i64 0, .int .i64 0], []⟩ 8 (by kernel_rfl) (by kernel_rfl) (by kernel_rfl) (by kernel_rfl)) ?_
  intro W base args ds gs before hval0 hW hcnd hsz0 _
  have hval : ∀ (j : Nat) t v, Try.f4.params[j]? = some t → args[j]? = some v → Value.okWide Try.prog W .any base t v := hval0
  have hW' := hW
  obtain ⟨p, q, hA0, hV, rfl, hfz, hnd⟩ := hW
  have hA : DataW.TrodAll enc Try.prog W 0 (fun _ => true) true Try.f4.params.toList args.toList ds p := hA0
  rw [Try.params4] at hA hval
  obtain ⟨v0, vs0, d0, ds0, p0, q0, hargs, rfl, rfl, h0, r0⟩ := trodAll_cons hA
  obtain ⟨v1, vs1, d1, ds1, p1, q1, rfl, rfl, rfl, h1, r1⟩ := trodAll_cons r0
  obtain ⟨v2, vs2, d2, ds2, p2, q2, rfl, rfl, rfl, h2, r2⟩ := trodAll_cons r1
  obtain ⟨rfl, rfl, rfl⟩ := trodAll_nil r2
  obtain rfl : args = #[v0, v1, v2] := by cases args; simp_all
  obtain ⟨rfl, rfl⟩ := trodVars_none hV
  have k0 := h0
  have lt0 : ∀ x ∈ p0, x.block < W.heap.size := by obtain ⟨m, hm⟩ := k0; exact DataW.trod_lt m _ _ _ hm
  obtain ⟨cs0, x0, rfl, hk0, hg0⟩ := XOpen.arg_struct Try.underlying33 op33 (hval 0 33 v0 rfl rfl) h0
  obtain ⟨A0_2, c0_2, hcs0, hc0_2, hr0_2⟩ := k33_open hk0
  subst hcs0
  obtain ⟨a1, rfl, rfl, rfl, w1⟩ := open_int Try.underlying3 (hval 1 3 v1 rfl rfl) h1
  obtain ⟨a2, rfl, rfl, rfl, w2⟩ := open_int Try.underlying3 (hval 2 3 v2 rfl rfl) h2
  clear hA0 hval0 hsz0
  obtain ⟨k, hp⟩ := Pure.FnExactTakeIn (x0.f0) (x0.f1) (x0.f2) (x0.f3) a1 a2 hg0.1 hg0.2.1 hg0.2.2.1 hg0.2.2.2 w1 w2
  refine (PFnExactTakeIn.laws_FnExactTakeIn.calls k (x0.f0) (x0.f1) A0_2 c0_2 (x0.f2) (x0.f3) a1 a2 true W hr0_2 hc0_2 hp).mono fun e W' ⟨he, bel0⟩ => ?_
  have bel := bel0
  subst he
  exact ⟨_, rfl, _, _, _, [], _, [], hW', trodAll_mk1 (shut_bool Try.underlying4 _), (trodAll_cons_mk (Below.trod laidOut (by kernel_rfl) (of_decide_eq_true (by kernel_rfl)) k0 bel lt0) (trodAll_cons_mk (shut_int Try.underlying3 w1) (trodAll_cons_mk (shut_int Try.underlying3 w2) trodAll_mk0))), rfl, bel.frame _, fun h => by cases h⟩
theorem over : Rows.fnExactTakeInRow.holds Try.pinned (OpenSpec.ofChange Rows.fnExactTakeInSpec) :=
  OpenClaim.holds_of_wide 4 Try.f4 rfl rfl rfl rfl rfl rfl rfl ⟨rfl, rfl, rfl, rfl, rfl⟩ rfl rfl rfl rfl rfl (by kernel_rfl) Try.func4 (by kernel_rfl)
    (of_decide_eq_true (by kernel_rfl)) (by unfold Func.isWrapper; first | (rw [if_pos (by decide +kernel)]; kernel_rfl) | (rw [if_neg (by decide +kernel)]; exact ⟨rfl, rfl⟩))
    (fun os started H enc _ => lifted os started H enc)
theorem proved : Rows.FnExactTakeInSaid := over
#print axioms proved
end Go.Proofs.Ytggfggmmecbdnaa.fnExactTakeIn
namespace Go.Proofs.Ytggfggmmecbdnaa
/-- The row, under a short name, for the claim. -/
theorem fnExactTakeIn_holds : Rows.FnExactTakeInSaid := fnExactTakeIn.proved
end Go.Proofs.Ytggfggmmecbdnaa
