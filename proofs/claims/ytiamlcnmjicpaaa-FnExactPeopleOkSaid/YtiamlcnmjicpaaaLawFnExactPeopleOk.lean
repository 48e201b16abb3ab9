/- Lines by a program (a changed copy of the kit's print: this repo's wip/tools): Go functions as Lean functions, and proofs that the calls answer so. -/
import Derived.Test.YtiamlcnmjicpaaaRows
import Derived.Test.YtiamlcnmjicpaaaPFnExactPeopleOkx6
import Derived.Test.YtiamlcnmjicpaaaPureFnExactPeopleOk
import Derived.Test.YtiamlcnmjicpaaaOpen
import Derived.WalkKit
import Derived.ProofKit
import Derived.OpenShut
import Derived.ShutString
import Derived.ChangeOld
import Derived.Below
import Derived.SizedLaws
import Derived.Carry
namespace Go.Proofs.Ytiamlcnmjicpaaa.fnExactPeopleOk
open Go.ChangeShapes Go.WideShapes Go.ChangeAt Go.RowKit Go.Proofs.Ytiamlcnmjicpaaa.PFnExactPeopleOk Go.Proofs.YtiamlcnmjicpaaaW.PrintWords Go.Proofs.Ytiamlcnmjicpaaa
open Go.ChangeMaps (open_string shut_string)
set_option linter.unusedVariables false
theorem own : ownKnob Try.prog.godebug = none := by kernel_rfl
theorem laidOut : laidOutB Try.prog = true := by kernel_rfl
theorem op105 : XOpen.Op Try.prog k105 G105 105 := XOpen.op_struct (fun y => ⟨y.1, y.2.1, y.2.2.1, y.2.2.2.1, y.2.2.2.2⟩) Try.underlying105 (by kernel_rfl) (fun _ => rfl) (XOpen.opfs_cons rfl (by kernel_rfl) (XOpen.op_string Try.underlying9) (XOpen.opfs_cons rfl (by kernel_rfl) (XOpen.op_slice Try.underlying103 (by kernel_rfl) (XOpen.op_string Try.underlying9)) (XOpen.opfs_cons rfl (by kernel_rfl) (XOpen.op_int Try.underlying3) (XOpen.opfs_cons rfl (by kernel_rfl) (XOpen.op_string Try.underlying9) (XOpen.opfs_one rfl (by kernel_rfl) (XOpen.op_bool Try.underlying4))))))
set_option maxRecDepth 100000 in
theorem lifted (os : Os) (started : os.Started) (H : Type) (enc : TypeId × Value → H) :
    ReturnsInHanded {} Try.checked os 3 .any (Rows.fnExactPeopleOkSpec.pre6 enc Try.prog Try.f3 Rows.fnExactPeopleOkRow.domain false) (Rows.fnExactPeopleOkSpec.post enc Try.prog Try.f3 false true false false) := by
  refine returnsInHanded_of_change_sized (C := Try.checked) own started (by kernel_rfl) Try.func3
    (ChangeSpec.witness6 (enc := enc) (C := Try.checked) false ⟨#[], #[.slice none 0 0], []⟩ 8 (by kernel_rfl) (by kernel_rfl) (by kernel_rfl) (by kernel_rfl)) ?_
  intro W base args ds gs before hval0 hW hcnd hsz0 _
  have hval : ∀ (j : Nat) t v, Try.f3.params[j]? = some t → args[j]? = some v → Value.okWide Try.prog W .any base t v := hval0
  have hW' := hW
  obtain ⟨p, q, hA0, hV, rfl, hfz, hnd⟩ := hW
  have hA : DataW.TrodAll enc Try.prog W 0 (fun _ => true) true Try.f3.params.toList args.toList ds p := hA0
  rw [Try.params3] at hA hval
  obtain ⟨v0, vs0, d0, ds0, p0, q0, hargs, rfl, rfl, h0, r0⟩ := trodAll_cons hA
  obtain ⟨rfl, rfl, rfl⟩ := trodAll_nil r0
  obtain rfl : args = #[v0] := by cases args; simp_all
  obtain ⟨rfl, rfl⟩ := trodVars_none hV
  have k0 := h0
  have lt0 : ∀ x ∈ p0, x.block < W.heap.size := by obtain ⟨m, hm⟩ := k0; exact DataW.trod_lt m _ _ _ hm
  obtain ⟨A0, c0, l0, rfl, hr0, hc0, hg0⟩ := XOpen.arg_slice Try.underlying22 (XOpen.op_slice Try.underlying22 (by kernel_rfl) op105) (hval 0 22 v0 rfl rfl) h0
  clear hA0 hval0 hsz0
  obtain ⟨k, hp⟩ := Pure.FnExactPeopleOk l0 hg0
  refine (PFnExactPeopleOk.laws_FnExactPeopleOk.calls k A0 c0 l0 true W hr0 hc0 hp).mono fun e W' ⟨he, bel0⟩ => ?_
  have bel := bel0
  subst he
  exact ⟨_, rfl, _, _, _, [], _, [], hW', trodAll_mk1 (shut_bool Try.underlying4 _), (trodAll_cons_mk (Below.trod laidOut (by kernel_rfl) (of_decide_eq_true (by kernel_rfl)) k0 bel lt0) trodAll_mk0), rfl, bel.frame _, fun h => by cases h⟩
theorem over : Rows.fnExactPeopleOkRow.holds Try.pinned (OpenSpec.ofChange Rows.fnExactPeopleOkSpec) :=
  OpenClaim.holds_of_wide 3 Try.f3 rfl rfl rfl rfl rfl rfl rfl ⟨rfl, rfl, rfl, rfl, rfl⟩ rfl rfl rfl rfl rfl (by kernel_rfl) Try.func3 (by kernel_rfl)
    (of_decide_eq_true (by kernel_rfl)) (by unfold Func.isWrapper; first | (rw [if_pos (by decide +kernel)]; kernel_rfl) | (rw [if_neg (by decide +kernel)]; exact ⟨rfl, rfl⟩))
    (fun os started H enc _ => lifted os started H enc)
theorem proved : Rows.FnExactPeopleOkSaid := over
#print axioms proved
end Go.Proofs.Ytiamlcnmjicpaaa.fnExactPeopleOk
namespace Go.Proofs.Ytiamlcnmjicpaaa
/-- The row, under a short name, for the claim. -/
theorem fnExactPeopleOk_holds : Rows.FnExactPeopleOkSaid := fnExactPeopleOk.proved
end Go.Proofs.Ytiamlcnmjicpaaa
