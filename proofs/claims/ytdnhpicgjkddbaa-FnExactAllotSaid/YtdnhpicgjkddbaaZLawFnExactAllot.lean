/- Lines by a program (a changed copy of the kit's print: this repo's wip/tools): Go functions as Lean functions, and proofs that the calls answer so. -/
import Derived.Test.YtdnhpicgjkddbaaRows
import Derived.Test.YtdnhpicgjkddbaaZPFnExactAllotx12
import Derived.Test.YtdnhpicgjkddbaaZPureFnExactAllot
import Derived.Test.YtdnhpicgjkddbaaZOpen
import Derived.WalkKit
import Derived.ProofKit
import Derived.OpenShut
import Derived.ShutString
import Derived.ChangeOld
import Derived.Below
import Derived.SizedLaws
import Derived.Carry
namespace Go.Proofs.Ytdnhpicgjkddbaa.fnExactAllot
open Go.ChangeShapes Go.WideShapes Go.ChangeAt Go.RowKit Go.Proofs.Ytdnhpicgjkddbaa.PFnExactAllot Go.Proofs.YtdnhpicgjkddbaaW.PrintWords Go.Proofs.Ytdnhpicgjkddbaa
open Go.ChangeMaps (open_string shut_string)
set_option linter.unusedVariables false
theorem own : ownKnob Try.prog.godebug = none := by kernel_rfl
theorem laidOut : laidOutB Try.prog = true := by kernel_rfl
theorem op248 : XOpen.Op Try.prog k248 G248 248 := XOpen.op_struct (fun y => ⟨y.1, y.2⟩) Try.underlying248 (by kernel_rfl) (fun _ => rfl) (XOpen.opfs_cons rfl (by kernel_rfl) (XOpen.op_int Try.underlying3) (XOpen.opfs_one rfl (by kernel_rfl) (XOpen.op_int Try.underlying3)))
theorem op139 : XOpen.Op Try.prog k139 G139 139 := XOpen.op_struct (fun y => ⟨y.1, y.2.1, y.2.2.1, y.2.2.2⟩) Try.underlying139 (by kernel_rfl) (fun _ => rfl) (XOpen.opfs_cons rfl (by kernel_rfl) (XOpen.op_int Try.underlying3) (XOpen.opfs_cons rfl (by kernel_rfl) (XOpen.op_int Try.underlying3) (XOpen.opfs_cons rfl (by kernel_rfl) (XOpen.op_int Try.underlying3) (XOpen.opfs_one rfl (by kernel_rfl) (XOpen.op_slice Try.underlying137 (by kernel_rfl) op248)))))
set_option maxRecDepth 100000 in
theorem lifted (os : Os) (started : os.Started) (H : Type) (enc : TypeId × Value → H) :
    ReturnsInHanded {} Try.checked os 8 .any (Rows.fnExactAllotSpec.pre6 enc Try.prog Try.f8 Rows.fnExactAllotRow.domain false) (Rows.fnExactAllotSpec.post enc Try.prog Try.f8 false true false false) := by
  refine returnsInHanded_of_change_sized (C := Try.checked) own started (by kernel_rfl) Try.func8
    (ChangeSpec.witness6 (enc := enc) (C := Try.checked) false ⟨#[], #[.int .i64 0, .slice none 0 0], []⟩ 8 (by kernel_rfl) (by kernel_rfl) (by kernel_rfl) (by kernel_rfl)) ?_
  intro W base args ds gs before hval0 hW hcnd hsz0 _
  have hval : ∀ (j : Nat) t v, Try.f8.params[j]? = some t → args[j]? = some v → Value.okWide Try.prog W .any base t v := hval0
  have hW' := hW
  obtain ⟨p, q, hA0, hV, rfl, hfz, hnd⟩ := hW
  have hA : DataW.TrodAll enc Try.prog W 0 (fun _ => true) true Try.f8.params.toList args.toList ds p := hA0
  rw [Try.params8] at hA hval
  obtain ⟨v0, vs0, d0, ds0, p0, q0, hargs, rfl, rfl, h0, r0⟩ := trodAll_cons hA
  obtain ⟨v1, vs1, d1, ds1, p1, q1, rfl, rfl, rfl, h1, r1⟩ := trodAll_cons r0
  obtain ⟨rfl, rfl, rfl⟩ := trodAll_nil r1
  obtain rfl : args = #[v0, v1] := by cases args; simp_all
  obtain ⟨rfl, rfl⟩ := trodVars_none hV
  obtain ⟨a0, rfl, rfl, rfl, w0⟩ := open_int Try.underlying3 (hval 0 3 v0 rfl rfl) h0
  have k1 := h1
  have lt1 : ∀ x ∈ p1, x.block < W.heap.size := by obtain ⟨m, hm⟩ := k1; exact DataW.trod_lt m _ _ _ hm
  obtain ⟨A1, c1, l1, rfl, hr1, hc1, hg1⟩ := XOpen.arg_slice Try.underlying58 (XOpen.op_slice Try.underlying58 (by kernel_rfl) op139) (hval 1 58 v1 rfl rfl) h1
  clear hA0 hval0 hsz0
  obtain ⟨k, hp⟩ := Pure.FnExactAllot a0 l1 w0 hg1
  refine (PFnExactAllot.laws_FnExactAllot.calls k a0 A1 c1 l1 true W hr1 hc1 hp).mono fun e W' ⟨he, bel0⟩ => ?_
  have bel := bel0
  subst he
  exact ⟨_, rfl, _, _, _, [], _, [], hW', trodAll_mk1 (shut_bool Try.underlying4 _), (trodAll_cons_mk (shut_int Try.underlying3 w0) (trodAll_cons_mk (Below.trod laidOut (by kernel_rfl) (of_decide_eq_true (by kernel_rfl)) k1 bel lt1) trodAll_mk0)), rfl, bel.frame _, fun h => by cases h⟩
theorem over : Rows.fnExactAllotRow.holds Try.pinned (OpenSpec.ofChange Rows.fnExactAllotSpec) :=
  OpenClaim.holds_of_wide 8 Try.f8 rfl rfl rfl rfl rfl rfl rfl ⟨rfl, rfl, rfl, rfl, rfl⟩ rfl rfl rfl rfl rfl (by kernel_rfl) Try.func8 (by kernel_rfl)
    (of_decide_eq_true (by kernel_rfl)) (by unfold Func.isWrapper; first | (rw [if_pos (by decide +kernel)]; kernel_rfl) | (rw [if_neg (by decide +kernel)]; exact ⟨rfl, rfl⟩))
    (fun os started H enc _ => lifted os started H enc)
theorem proved : Rows.FnExactAllotSaid := over
#print axioms proved
end Go.Proofs.Ytdnhpicgjkddbaa.fnExactAllot
namespace Go.Proofs.Ytdnhpicgjkddbaa
/-- The row, under a short name, for the claim. -/
theorem fnExactAllot_holds : Rows.FnExactAllotSaid := fnExactAllot.proved
end Go.Proofs.Ytdnhpicgjkddbaa
