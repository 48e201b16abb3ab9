/- Lines by a program (a changed copy of the kit's print: this repo's wip/tools): Go functions as Lean functions, and proofs that the calls answer so. -/
import Derived.Test.YtflagondodkonaaRows
import Derived.Test.YtflagondodkonaaZPFnExactLatenessx8
import Derived.Test.YtflagondodkonaaZPureFnExactLateness
import Derived.Test.YtflagondodkonaaZOpen
import Derived.WalkKit
import Derived.ProofKit
import Derived.OpenShut
import Derived.ShutString
import Derived.ChangeOld
import Derived.Below
import Derived.SizedLaws
import Derived.Carry
namespace Go.Proofs.Ytflagondodkonaa.fnExactLateness
open Go.ChangeShapes Go.WideShapes Go.ChangeAt Go.RowKit Go.Proofs.Ytflagondodkonaa.PFnExactLateness Go.Proofs.YtflagondodkonaaW.PrintWords Go.Proofs.Ytflagondodkonaa
open Go.ChangeMaps (open_string shut_string)
set_option linter.unusedVariables false
theorem own : ownKnob Try.prog.godebug = none := by kernel_rfl
theorem laidOut : laidOutB Try.prog = true := by kernel_rfl
theorem op270 : XOpen.Op Try.prog k270 G270 270 := XOpen.op_struct (fun y => ⟨y.1, y.2.1, y.2.2⟩) Try.underlying270 (by kernel_rfl) (fun _ => rfl) (XOpen.opfs_cons rfl (by kernel_rfl) (XOpen.op_int Try.underlying3) (XOpen.opfs_cons rfl (by kernel_rfl) (XOpen.op_int Try.underlying3) (XOpen.opfs_one rfl (by kernel_rfl) (XOpen.op_int Try.underlying3))))
theorem op156 : XOpen.Op Try.prog k156 G156 156 := XOpen.op_struct (fun y => ⟨y.1, y.2.1, y.2.2.1, y.2.2.2⟩) Try.underlying156 (by kernel_rfl) (fun _ => rfl) (XOpen.opfs_cons rfl (by kernel_rfl) (XOpen.op_int Try.underlying3) (XOpen.opfs_cons rfl (by kernel_rfl) (XOpen.op_int Try.underlying3) (XOpen.opfs_cons rfl (by kernel_rfl) (XOpen.op_int Try.underlying3) (XOpen.opfs_one rfl (by kernel_rfl) (XOpen.op_slice Try.underlying154 (by kernel_rfl) op270)))))
theorem op167 : XOpen.Op Try.prog k167 G167 167 := XOpen.op_struct (fun y => ⟨y.1, y.2.1, y.2.2.1, y.2.2.2.1, y.2.2.2.2⟩) Try.underlying167 (by kernel_rfl) (fun _ => rfl) (XOpen.opfs_cons rfl (by kernel_rfl) (XOpen.op_int Try.underlying3) (XOpen.opfs_cons rfl (by kernel_rfl) (XOpen.op_int Try.underlying3) (XOpen.opfs_cons rfl (by kernel_rfl) (XOpen.op_int Try.underlying3) (XOpen.opfs_cons rfl (by kernel_rfl) (XOpen.op_int Try.underlying3) (XOpen.opfs_one rfl (by kernel_rfl) (XOpen.op_int Try.underlying3))))))
set_option maxRecDepth 100000 in
theorem lifted (os : Os) (started : os.Started) (H : Type) (enc : TypeId × Value → H) :
    ReturnsInHanded {} Try.checked os 5 .any (Rows.fnExactLatenessSpec.pre6 enc Try.prog Try.f5 Rows.fnExactLatenessRow.domain false) (Rows.fnExactLatenessSpec.post enc Try.prog Try.f5 false true false false) := by
  refine returnsInHanded_of_change_sized (C := Try.checked) own started (by kernel_rfl) Try.func5
    (ChangeSpec.witness6 (enc := enc) (C := Try.checked) false ⟨#[], #[.slice none 0 0, .slice none 0 0], []⟩ 8 (by kernel_rfl) (by kernel_rfl) (by kernel_rfl) (by kernel_rfl)) ?_
  intro W base args ds gs before hval0 hW hcnd hsz0 _
  have hval : ∀ (j : Nat) t v, Try.f5.params[j]? = some t → args[j]? = some v → Value.okWide Try.prog W .any base t v := hval0
  have hW' := hW
  obtain ⟨p, q, hA0, hV, rfl, hfz, hnd⟩ := hW
  have hA : DataW.TrodAll enc Try.prog W 0 (fun _ => true) true Try.f5.params.toList args.toList ds p := hA0
  rw [Try.params5] at hA hval
  obtain ⟨v0, vs0, d0, ds0, p0, q0, hargs, rfl, rfl, h0, r0⟩ := trodAll_cons hA
  obtain ⟨v1, vs1, d1, ds1, p1, q1, rfl, rfl, rfl, h1, r1⟩ := trodAll_cons r0
  obtain ⟨rfl, rfl, rfl⟩ := trodAll_nil r1
  obtain rfl : args = #[v0, v1] := by cases args; simp_all
  obtain ⟨rfl, rfl⟩ := trodVars_none hV
  have k0 := h0
  have lt0 : ∀ x ∈ p0, x.block < W.heap.size := by obtain ⟨m, hm⟩ := k0; exact DataW.trod_lt m _ _ _ hm
  obtain ⟨A0, c0, l0, rfl, hr0, hc0, hg0⟩ := XOpen.arg_slice Try.underlying42 (XOpen.op_slice Try.underlying42 (by kernel_rfl) op156) (hval 0 42 v0 rfl rfl) h0
  have k1 := h1
  have lt1 : ∀ x ∈ p1, x.block < W.heap.size := by obtain ⟨m, hm⟩ := k1; exact DataW.trod_lt m _ _ _ hm
  obtain ⟨A1, c1, l1, rfl, hr1, hc1, hg1⟩ := XOpen.arg_slice Try.underlying43 (XOpen.op_slice Try.underlying43 (by kernel_rfl) op167) (hval 1 43 v1 rfl rfl) h1
  clear hA0 hval0 hsz0
  obtain ⟨k, hp⟩ := Pure.FnExactLateness l0 l1 hg0 hg1
  refine (PFnExactLateness.laws_FnExactLateness.calls k A0 c0 l0 A1 c1 l1 true W hr0 hc0 hr1 hc1 hp).mono fun e W' ⟨he, bel0⟩ => ?_
  have bel := bel0
  subst he
  exact ⟨_, rfl, _, _, _, [], _, [], hW', trodAll_mk1 (shut_bool Try.underlying4 _), (trodAll_cons_mk (Below.trod laidOut (by kernel_rfl) (of_decide_eq_true (by kernel_rfl)) k0 bel lt0) (trodAll_cons_mk (Below.trod laidOut (by kernel_rfl) (of_decide_eq_true (by kernel_rfl)) k1 bel lt1) trodAll_mk0)), rfl, bel.frame _, fun h => by cases h⟩
theorem over : Rows.fnExactLatenessRow.holds Try.pinned (OpenSpec.ofChange Rows.fnExactLatenessSpec) :=
  OpenClaim.holds_of_wide 5 Try.f5 rfl rfl rfl rfl rfl rfl rfl ⟨rfl, rfl, rfl, rfl, rfl⟩ rfl rfl rfl rfl rfl (by kernel_rfl) Try.func5 (by kernel_rfl)
    (of_decide_eq_true (by kernel_rfl)) (by unfold Func.isWrapper; first | (rw [if_pos (by decide +kernel)]; kernel_rfl) | (rw [if_neg (by decide +kernel)]; exact ⟨rfl, rfl⟩))
    (fun os started H enc _ => lifted os started H enc)
theorem proved : Rows.FnExactLatenessSaid := over
#print axioms proved
end Go.Proofs.Ytflagondodkonaa.fnExactLateness
namespace Go.Proofs.Ytflagondodkonaa
/-- The row, under a short name, for the claim. -/
theorem fnExactLateness_holds : Rows.FnExactLatenessSaid := fnExactLateness.proved
end Go.Proofs.Ytflagondodkonaa
