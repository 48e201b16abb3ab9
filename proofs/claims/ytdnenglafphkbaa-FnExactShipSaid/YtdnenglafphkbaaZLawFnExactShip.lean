/- Lines by a program (a changed copy of the kit's print: this repo's wip/tools): Go functions as Lean functions, and proofs that the calls answer so. -/
import Derived.Test.YtdnenglafphkbaaRows
import Derived.Test.YtdnenglafphkbaaZPFnExactShipx10
import Derived.Test.YtdnenglafphkbaaZPureFnExactShip
import Derived.Test.YtdnenglafphkbaaZOpen
import Derived.WalkKit
import Derived.ProofKit
import Derived.OpenShut
import Derived.ShutString
import Derived.ChangeOld
import Derived.Below
import Derived.SizedLaws
import Derived.Carry
namespace Go.Proofs.Ytdnenglafphkbaa.fnExactShip
open Go.ChangeShapes Go.WideShapes Go.ChangeAt Go.RowKit Go.Proofs.Ytdnenglafphkbaa.PFnExactShip Go.Proofs.YtdnenglafphkbaaW.PrintWords Go.Proofs.Ytdnenglafphkbaa
open Go.ChangeMaps (open_string shut_string)
set_option linter.unusedVariables false
theorem own : ownKnob Try.prog.godebug = none := by kernel_rfl
theorem laidOut : laidOutB Try.prog = true := by kernel_rfl
theorem op104 : XOpen.Op Try.prog k104 G104 104 := XOpen.op_struct (fun y => ⟨y.1, y.2.1, y.2.2.1, y.2.2.2.1, y.2.2.2.2.1, y.2.2.2.2.2⟩) Try.underlying104 (by kernel_rfl) (fun _ => rfl) (XOpen.opfs_cons rfl (by kernel_rfl) (XOpen.op_string Try.underlying9) (XOpen.opfs_cons rfl (by kernel_rfl) (XOpen.op_string Try.underlying9) (XOpen.opfs_cons rfl (by kernel_rfl) (XOpen.op_string Try.underlying9) (XOpen.opfs_cons rfl (by kernel_rfl) (XOpen.op_int Try.underlying3) (XOpen.opfs_cons rfl (by kernel_rfl) (XOpen.op_int Try.underlying3) (XOpen.opfs_one rfl (by kernel_rfl) (XOpen.op_int Try.underlying3)))))))
theorem op111 : XOpen.Op Try.prog k111 G111 111 := XOpen.op_struct (fun y => ⟨y.1, y.2⟩) Try.underlying111 (by kernel_rfl) (fun _ => rfl) (XOpen.opfs_cons rfl (by kernel_rfl) (XOpen.op_int Try.underlying3) (XOpen.opfs_one rfl (by kernel_rfl) (XOpen.op_int Try.underlying3)))
set_option maxRecDepth 100000 in
theorem lifted (os : Os) (started : os.Started) (H : Type) (enc : TypeId × Value → H) :
    ReturnsInHanded {} Try.checked os 6 .any (Rows.fnExactShipSpec.pre6 enc Try.prog Try.f6 Rows.fnExactShipRow.domain false) (Rows.fnExactShipSpec.post enc Try.prog Try.f6 false true false false) := by
  refine returnsInHanded_of_change_sized (C := Try.checked) own started (by kernel_rfl) Try.func6
    (ChangeSpec.witness6 (enc := enc) (C := Try.checked) false ⟨#[], #[.slice none 0 0, .slice none 0 0], []⟩ 8 (by kernel_rfl) (by kernel_rfl) (by kernel_rfl) (by kernel_rfl)) ?_
  intro W base args ds gs before hval0 hW hcnd hsz0 _
  have hval : ∀ (j : Nat) t v, Try.f6.params[j]? = some t → args[j]? = some v → Value.okWide Try.prog W .any base t v := hval0
  have hW' := hW
  obtain ⟨p, q, hA0, hV, rfl, hfz, hnd⟩ := hW
  have hA : DataW.TrodAll enc Try.prog W 0 (fun _ => true) true Try.f6.params.toList args.toList ds p := hA0
  rw [Try.params6] at hA hval
  obtain ⟨v0, vs0, d0, ds0, p0, q0, hargs, rfl, rfl, h0, r0⟩ := trodAll_cons hA
  obtain ⟨v1, vs1, d1, ds1, p1, q1, rfl, rfl, rfl, h1, r1⟩ := trodAll_cons r0
  obtain ⟨rfl, rfl, rfl⟩ := trodAll_nil r1
  obtain rfl : args = #[v0, v1] := by cases args; simp_all
  obtain ⟨rfl, rfl⟩ := trodVars_none hV
  have k0 := h0
  have lt0 : ∀ x ∈ p0, x.block < W.heap.size := by obtain ⟨m, hm⟩ := k0; exact DataW.trod_lt m _ _ _ hm
  obtain ⟨A0, c0, l0, rfl, hr0, hc0, hg0⟩ := XOpen.arg_slice Try.underlying39 (XOpen.op_slice Try.underlying39 (by kernel_rfl) op104) (hval 0 39 v0 rfl rfl) h0
  have k1 := h1
  have lt1 : ∀ x ∈ p1, x.block < W.heap.size := by obtain ⟨m, hm⟩ := k1; exact DataW.trod_lt m _ _ _ hm
  obtain ⟨A1, c1, l1, rfl, hr1, hc1, hg1⟩ := XOpen.arg_slice Try.underlying40 (XOpen.op_slice Try.underlying40 (by kernel_rfl) op111) (hval 1 40 v1 rfl rfl) h1
  clear hA0 hval0 hsz0
  obtain ⟨k, hp⟩ := Pure.FnExactShip l0 l1 hg0 hg1
  refine (PFnExactShip.laws_FnExactShip.calls k A0 c0 l0 A1 c1 l1 true W hr0 hc0 hr1 hc1 hp).mono fun e W' ⟨he, bel0⟩ => ?_
  have bel := bel0
  subst he
  exact ⟨_, rfl, _, _, _, [], _, [], hW', trodAll_mk1 (shut_bool Try.underlying4 _), (trodAll_cons_mk (Below.trod laidOut (by kernel_rfl) (of_decide_eq_true (by kernel_rfl)) k0 bel lt0) (trodAll_cons_mk (Below.trod laidOut (by kernel_rfl) (of_decide_eq_true (by kernel_rfl)) k1 bel lt1) trodAll_mk0)), rfl, bel.frame _, fun h => by cases h⟩
theorem over : Rows.fnExactShipRow.holds Try.pinned (OpenSpec.ofChange Rows.fnExactShipSpec) :=
  OpenClaim.holds_of_wide 6 Try.f6 rfl rfl rfl rfl rfl rfl rfl ⟨rfl, rfl, rfl, rfl, rfl⟩ rfl rfl rfl rfl rfl (by kernel_rfl) Try.func6 (by kernel_rfl)
    (of_decide_eq_true (by kernel_rfl)) (by unfold Func.isWrapper; first | (rw [if_pos (by decide +kernel)]; kernel_rfl) | (rw [if_neg (by decide +kernel)]; exact ⟨rfl, rfl⟩))
    (fun os started H enc _ => lifted os started H enc)
theorem proved : Rows.FnExactShipSaid := over
#print axioms proved
end Go.Proofs.Ytdnenglafphkbaa.fnExactShip
namespace Go.Proofs.Ytdnenglafphkbaa
/-- The row, under a short name, for the claim. -/
theorem fnExactShip_holds : Rows.FnExactShipSaid := fnExactShip.proved
end Go.Proofs.Ytdnenglafphkbaa
