/- Lines by a program (a changed copy of the kit's print: this repo's wip/tools): Go functions as Lean functions, and proofs that the calls answer so. -/
import Derived.Test.YtdnhpicgjkddbaaZPFnExactStepDownx0
import Derived.Test.YtdnhpicgjkddbaaZPFnExactStepDownx1
import Derived.Test.YtdnhpicgjkddbaaZPFnExactStepDownx4
import Derived.Test.YtdnhpicgjkddbaaZPFnExactStepDownx5
import Derived.Test.YtdnhpicgjkddbaaZPFnExactStepDownx10
import Derived.Test.YtdnhpicgjkddbaaZPFnExactStepDownx11
namespace Go.Proofs.Ytdnhpicgjkddbaa.PFnExactStepDown
open Go.RowKit Go.Proofs.YtdnhpicgjkddbaaW.PrintWords Go.Proofs.YtdnhpicgjkddbaaW.PrintLast Go.Proofs.YtdnhpicgjkddbaaW.PrintMore
attribute [local go_sem] max2_int min2_int max_two min_two max_three min_three max_four min_four   -- for this text's walks alone
set_option linter.unusedVariables false
set_option linter.unusedSimpArgs false

/-! ### laws_FnExactStepDown: function 9 -/
mutual
def laws_FnExactStepDown.j0 : Nat → List Int → List (S150) → List Int → Bool → List Int → List (S152) → List Int → Bool → Bool → Option (Bool)
 | 0, _, _, _, _, _, _, _, _, _ => none
 | k + 1, x0, x1, x6, x7, x8, x9, x10, x11, x51 => if x51 = true then (some false) else ((laws_toIntS.f k x0).bind fun t324 => ((laws_eqIntS.f k x8 t324).bind fun t327 => (if t327 = true then ((laws_toRuleS.f k x1).bind fun t328 => ((laws_eqRuleS.f k x9 t328).bind fun t331 => (if t331 = true then ((laws_markIntS.f k x8 1).bind fun bt332 => ((laws_markRuleS.f x9 bt332.1).bind fun t334 => (if t334 < 0 then (laws_FnExactStepDown.j1 k x0 x1 x6 x7 x10 true) else ((laws_eqIntS.f k x10 x6).bind fun t335 => (if t335 = true then (laws_FnExactStepDown.j1 k x0 x1 x6 x7 x10 (x11 != x7)) else (laws_FnExactStepDown.j1 k x0 x1 x6 x7 x10 true)))))) else (some false)))) else (some false))))
def laws_FnExactStepDown.j1 : Nat → List Int → List (S150) → List Int → Bool → List Int → Bool → Option (Bool)
 | 0, _, _, _, _, _, _ => none
 | k + 1, x0, x1, x6, x7, x10, x80 => if x80 = true then (some false) else ((laws_markIntS.f k x10 1).bind fun bt336 => ((laws_heldIntS.f k bt336.2 1).bind fun t338 => (if t338 < 0 then (some false) else (if t338 = bt336.1 then ((laws_toIntS.f k x0).bind fun t339 => ((laws_toRuleS.f k x1).bind fun t342 => ((impl_StepDown.f k t339 t342).bind fun bt345 => ((laws_eqIntS.f k bt345.1 x6).bind fun t349 => (if t349 = true then (laws_FnExactStepDown.j2 k bt336.2 bt336.1 (bt345.2 != x7)) else (laws_FnExactStepDown.j2 k bt336.2 bt336.1 true)))))) else (some false)))))
def laws_FnExactStepDown.j2 : Nat → List Int → Int → Bool → Option (Bool)
 | 0, _, _, _ => none
 | k + 1, x10, x13, x108 => if x108 = true then (some false) else ((laws_heldIntS.f k x10 1).bind fun t350 => (if t350 < 0 then (some false) else (if t350 = x13 then (some true) else (some false))))
end
def laws_FnExactStepDown.f (k : Nat) (l0 : List Int) (l1 : List (S150)) : Option (Bool) := if (l0.length : Int) > 1048576 then (some true) else ((laws_szRuleS.f k l1 1048576).bind fun t302 => (if t302 < 0 then (some true) else ((laws_toIntS.f k l0).bind fun t303 => ((laws_toRuleS.f k l1).bind fun t306 => ((spec_StepDown.f k t303 t306).bind fun bt309 => ((laws_toIntS.f k l0).bind fun t313 => ((laws_toRuleS.f k l1).bind fun t316 => ((impl_StepDown.f k t313 t316).bind fun bt319 => ((laws_eqIntS.f k bt319.1 bt309.1).bind fun t323 => (if t323 = true then (laws_FnExactStepDown.j0 k l0 l1 bt309.1 bt309.2 t313 t316 bt319.1 bt319.2 (bt319.2 != bt309.2)) else (laws_FnExactStepDown.j0 k l0 l1 bt309.1 bt309.2 t313 t316 bt319.1 bt319.2 true)))))))))))
theorem laws_FnExactStepDown.mono_l : ∀ k, (∀ y0 y1 y2 y3 y4 y5 y6 y7 y8, LeO (laws_FnExactStepDown.j0 k y0 y1 y2 y3 y4 y5 y6 y7 y8) (laws_FnExactStepDown.j0 (k + 1) y0 y1 y2 y3 y4 y5 y6 y7 y8)) ∧ (∀ y0 y1 y2 y3 y4 y5, LeO (laws_FnExactStepDown.j1 k y0 y1 y2 y3 y4 y5) (laws_FnExactStepDown.j1 (k + 1) y0 y1 y2 y3 y4 y5)) ∧ (∀ y0 y1 y2, LeO (laws_FnExactStepDown.j2 k y0 y1 y2) (laws_FnExactStepDown.j2 (k + 1) y0 y1 y2))
 | 0 => ⟨fun _ _ _ _ _ _ _ _ _ r h => by simp [laws_FnExactStepDown.j0] at h, fun _ _ _ _ _ _ r h => by simp [laws_FnExactStepDown.j1] at h, fun _ _ _ r h => by simp [laws_FnExactStepDown.j2] at h⟩
 | k + 1 => by
  obtain ⟨ih0, ih1, ih2⟩ := laws_FnExactStepDown.mono_l k
  refine ⟨?_, ?_, ?_⟩
  ·intro y0 y1 y2 y3 y4 y5 y6 y7 y8
   unfold laws_FnExactStepDown.j0
   repeat' first
   | (with_reducible exact ih0 _ _ _ _ _ _ _ _ _)
   | (with_reducible exact ih1 _ _ _ _ _ _)
   | (with_reducible exact ih2 _ _ _)
   | (with_reducible exact impl_StepDown.mono _ _ _)
   | (with_reducible exact laws_eqIntS.mono _ _ _)
   | (with_reducible exact laws_eqRuleS.mono _ _ _)
   | (with_reducible exact laws_heldIntS.mono _ _ _)
   | (with_reducible exact laws_markIntS.mono _ _ _)
   | (with_reducible exact laws_szRuleS.mono _ _ _)
   | (with_reducible exact laws_toIntS.mono _ _)
   | (with_reducible exact laws_toRuleS.mono _ _)
   | (with_reducible exact spec_StepDown.mono _ _ _)
   | (with_reducible exact LeO.refl _)
   | (with_reducible exact LeO.none _)
   | (with_reducible refine LeO.ite ?_ ?_)
   | (with_reducible refine LeO.bind ?_ (fun _ => ?_))
   | exact ih0 _ _ _ _ _ _ _ _ _
   | exact ih1 _ _ _ _ _ _
   | exact ih2 _ _ _
   | exact impl_StepDown.mono _ _ _
   | exact laws_eqIntS.mono _ _ _
   | exact laws_eqRuleS.mono _ _ _
   | exact laws_heldIntS.mono _ _ _
   | exact laws_markIntS.mono _ _ _
   | exact laws_szRuleS.mono _ _ _
   | exact laws_toIntS.mono _ _
   | exact laws_toRuleS.mono _ _
   | exact spec_StepDown.mono _ _ _
   | exact LeO.none _
   | refine LeO.ite ?_ ?_
   | refine LeO.bind ?_ (fun _ => ?_)
  ·intro y0 y1 y2 y3 y4 y5
   unfold laws_FnExactStepDown.j1
   repeat' first
   | (with_reducible exact ih0 _ _ _ _ _ _ _ _ _)
   | (with_reducible exact ih1 _ _ _ _ _ _)
   | (with_reducible exact ih2 _ _ _)
   | (with_reducible exact impl_StepDown.mono _ _ _)
   | (with_reducible exact laws_eqIntS.mono _ _ _)
   | (with_reducible exact laws_eqRuleS.mono _ _ _)
   | (with_reducible exact laws_heldIntS.mono _ _ _)
   | (with_reducible exact laws_markIntS.mono _ _ _)
   | (with_reducible exact laws_szRuleS.mono _ _ _)
   | (with_reducible exact laws_toIntS.mono _ _)
   | (with_reducible exact laws_toRuleS.mono _ _)
   | (with_reducible exact spec_StepDown.mono _ _ _)
   | (with_reducible exact LeO.refl _)
   | (with_reducible exact LeO.none _)
   | (with_reducible refine LeO.ite ?_ ?_)
   | (with_reducible refine LeO.bind ?_ (fun _ => ?_))
   | exact ih0 _ _ _ _ _ _ _ _ _
   | exact ih1 _ _ _ _ _ _
   | exact ih2 _ _ _
   | exact impl_StepDown.mono _ _ _
   | exact laws_eqIntS.mono _ _ _
   | exact laws_eqRuleS.mono _ _ _
   | exact laws_heldIntS.mono _ _ _
   | exact laws_markIntS.mono _ _ _
   | exact laws_szRuleS.mono _ _ _
   | exact laws_toIntS.mono _ _
   | exact laws_toRuleS.mono _ _
   | exact spec_StepDown.mono _ _ _
   | exact LeO.none _
   | refine LeO.ite ?_ ?_
   | refine LeO.bind ?_ (fun _ => ?_)
  ·intro y0 y1 y2
   unfold laws_FnExactStepDown.j2
   repeat' first
   | (with_reducible exact ih0 _ _ _ _ _ _ _ _ _)
   | (with_reducible exact ih1 _ _ _ _ _ _)
   | (with_reducible exact ih2 _ _ _)
   | (with_reducible exact impl_StepDown.mono _ _ _)
   | (with_reducible exact laws_eqIntS.mono _ _ _)
   | (with_reducible exact laws_eqRuleS.mono _ _ _)
   | (with_reducible exact laws_heldIntS.mono _ _ _)
   | (with_reducible exact laws_markIntS.mono _ _ _)
   | (with_reducible exact laws_szRuleS.mono _ _ _)
   | (with_reducible exact laws_toIntS.mono _ _)
   | (with_reducible exact laws_toRuleS.mono _ _)
   | (with_reducible exact spec_StepDown.mono _ _ _)
   | (with_reducible exact LeO.refl _)
   | (with_reducible exact LeO.none _)
   | (with_reducible refine LeO.ite ?_ ?_)
   | (with_reducible refine LeO.bind ?_ (fun _ => ?_))
   | exact ih0 _ _ _ _ _ _ _ _ _
   | exact ih1 _ _ _ _ _ _
   | exact ih2 _ _ _
   | exact impl_StepDown.mono _ _ _
   | exact laws_eqIntS.mono _ _ _
   | exact laws_eqRuleS.mono _ _ _
   | exact laws_heldIntS.mono _ _ _
   | exact laws_markIntS.mono _ _ _
   | exact laws_szRuleS.mono _ _ _
   | exact laws_toIntS.mono _ _
   | exact laws_toRuleS.mono _ _
   | exact spec_StepDown.mono _ _ _
   | exact LeO.none _
   | refine LeO.ite ?_ ?_
   | refine LeO.bind ?_ (fun _ => ?_)
theorem laws_FnExactStepDown.mono : ∀ a0 a1 k, LeO (laws_FnExactStepDown.f k a0 a1) (laws_FnExactStepDown.f (k + 1) a0 a1) := by
 intro a0 a1 k
 obtain ⟨ih0, ih1, ih2⟩ := laws_FnExactStepDown.mono_l k
 unfold laws_FnExactStepDown.f
 repeat' first
   | (with_reducible exact ih0 _ _ _ _ _ _ _ _ _)
   | (with_reducible exact ih1 _ _ _ _ _ _)
   | (with_reducible exact ih2 _ _ _)
   | (with_reducible exact impl_StepDown.mono _ _ _)
   | (with_reducible exact laws_eqIntS.mono _ _ _)
   | (with_reducible exact laws_eqRuleS.mono _ _ _)
   | (with_reducible exact laws_heldIntS.mono _ _ _)
   | (with_reducible exact laws_markIntS.mono _ _ _)
   | (with_reducible exact laws_szRuleS.mono _ _ _)
   | (with_reducible exact laws_toIntS.mono _ _)
   | (with_reducible exact laws_toRuleS.mono _ _)
   | (with_reducible exact spec_StepDown.mono _ _ _)
   | (with_reducible exact LeO.refl _)
   | (with_reducible exact LeO.none _)
   | (with_reducible refine LeO.ite ?_ ?_)
   | (with_reducible refine LeO.bind ?_ (fun _ => ?_))
   | exact ih0 _ _ _ _ _ _ _ _ _
   | exact ih1 _ _ _ _ _ _
   | exact ih2 _ _ _
   | exact impl_StepDown.mono _ _ _
   | exact laws_eqIntS.mono _ _ _
   | exact laws_eqRuleS.mono _ _ _
   | exact laws_heldIntS.mono _ _ _
   | exact laws_markIntS.mono _ _ _
   | exact laws_szRuleS.mono _ _ _
   | exact laws_toIntS.mono _ _
   | exact laws_toRuleS.mono _ _
   | exact spec_StepDown.mono _ _ _
   | exact LeO.none _
   | refine LeO.ite ?_ ?_
   | refine LeO.bind ?_ (fun _ => ?_)
set_option maxHeartbeats 8000000 in
set_option maxRecDepth 100000 in
theorem laws_FnExactStepDown.calls (k : Nat) (A0 : Option Addr) (c0 : Nat) (l0 : List Int) (A1 : Option Addr) (c1 : Nat) (l1 : List (S150)) (r : Bool) (w : World) (hr0 : Kd.C (Kd.int .i64) w A0 l0.length l0) (hc0 : l0.length ≤ c0) (hr1 : Kd.C k150 w A1 l1.length l1) (hc1 : l1.length ≤ c1) (h : laws_FnExactStepDown.f k l0 l1 = some r) :
  Calls Try.prog 9 #[.slice A0 l0.length c0, .slice A1 l1.length c1] w fun e w' => e = .returned (.bool r) ∧ Below w.heap.size w w' := by
 have HR0 := Aside0.mk hr0
 have HC0 := Aside0.mk hc0
 clear hr0 hc0
 have HR1 := Aside0.mk hr1
 have HC1 := Aside0.mk hc1
 clear hr1 hc1
 have HB := Aside0.mk (Below.refl w.heap.size w)
 have H : (if (l0.length : Int) > 1048576 then (some true) else ((laws_szRuleS.f k l1 1048576).bind fun t302 => (if t302 < 0 then (some true) else ((laws_toIntS.f k l0).bind fun t303 => ((laws_toRuleS.f k l1).bind fun t306 => ((spec_StepDown.f k t303 t306).bind fun bt309 => ((laws_toIntS.f k l0).bind fun t313 => ((laws_toRuleS.f k l1).bind fun t316 => ((impl_StepDown.f k t313 t316).bind fun bt319 => ((laws_eqIntS.f k bt319.1 bt309.1).bind fun t323 => (if t323 = true then (laws_FnExactStepDown.j0 k l0 l1 bt309.1 bt309.2 t313 t316 bt319.1 bt319.2 (bt319.2 != bt309.2)) else (laws_FnExactStepDown.j0 k l0 l1 bt309.1 bt309.2 t313 t316 bt319.1 bt319.2 true)))))))))))) = some r := h
 clear h
 by_cases c3 : (l0.length : Int) > 1048576
 ·rw [if_pos c3] at H
  have c3b0 : decide (1048576 < (l0.length : Int)) = true := decide_eq_true c3
  have c3b1 : decide (1048576 < l0.length) = true := decide_eq_true (by omega)
  clear c3
  obtain rfl := Option.some.inj H
  go_enter Try.func9, Try.ntmps9
  go_wp2
  go_ret
  exact ⟨by first | rfl | (simp [errW_none, errW_some] <;> rfl) | (simp [*, errW_none, errW_some] <;> rfl), by repeat (first | (with_reducible first | exact HB.out | apply qc0 | apply qa0 | apply qb0) | exact HB.out)⟩
 rw [if_neg c3] at H
 have c3b0 : decide (1048576 < (l0.length : Int)) = false := decide_eq_false c3
 have c3b1 : decide (1048576 < l0.length) = false := decide_eq_false (by omega)
 clear c3
 replace H := Option.bind_eq_some_iff.mp H
 obtain ⟨t302, A40, H⟩ := H
 replace H : (if t302 < 0 then (some true) else ((laws_toIntS.f k l0).bind fun t303 => ((laws_toRuleS.f k l1).bind fun t306 => ((spec_StepDown.f k t303 t306).bind fun bt309 => ((laws_toIntS.f k l0).bind fun t313 => ((laws_toRuleS.f k l1).bind fun t316 => ((impl_StepDown.f k t313 t316).bind fun bt319 => ((laws_eqIntS.f k bt319.1 bt309.1).bind fun t323 => (if t323 = true then (laws_FnExactStepDown.j0 k l0 l1 bt309.1 bt309.2 t313 t316 bt319.1 bt319.2 (bt319.2 != bt309.2)) else (laws_FnExactStepDown.j0 k l0 l1 bt309.1 bt309.2 t313 t316 bt319.1 bt319.2 true)))))))))) = some r := H
 have A4 := Aside0.mk A40
 clear A40
 by_cases c5 : t302 < 0
 ·rw [if_pos c5] at H
  have c5b0 : decide (t302 < 0) = true := decide_eq_true c5
  clear c5
  obtain rfl := Option.some.inj H
  go_enter Try.func9, Try.ntmps9
  go_wp2_with (first | ((with_reducible refine ql0 (f := 44) rfl ?_); refine qx0 (some 22) rfl rfl Try.func44 (by kernel_rfl) rfl #[.slice A1 l1.length c1, .int .i64 1048576] rfl (by (try simp only [List.map_toArray, List.map_cons, List.map_nil]); first | done | rfl | (simp only [List.length_drop, List.length_take]; rfl)) ?_; (with_reducible refine (laws_szRuleS.calls k _ _ l1 1048576 t302 _ ?side1 ?side2 A4.out).mono ?_); (case side1 => repeat (first | exact HR1.out | (with_reducible refine Kd.qt0 ?_ _) | (with_reducible refine Kd.qs0 ?_ _) | (with_reducible refine Kd.qu0 ?_))); (case side2 => exact HC1.out); rintro e w6 ⟨rfl, hb⟩; refine ⟨_, rfl, ?_⟩; have n0_ := Aside0.mk (qr0 (by repeat (first | (with_reducible first | exact HB.out | apply qc0 | apply qa0 | apply qb0) | exact HB.out)) hb); clear HB; have HB := n0_; clear n0_; (try clear hb); (try clear hb2); (try clear hk); (try clear hi)))
  go_ret
  exact ⟨by first | rfl | (simp [errW_none, errW_some] <;> rfl) | (simp [*, errW_none, errW_some] <;> rfl), by repeat (first | (with_reducible first | exact HB.out | apply qc0 | apply qa0 | apply qb0) | exact HB.out)⟩
 rw [if_neg c5] at H
 have c5b0 : decide (t302 < 0) = false := decide_eq_false c5
 clear c5
 replace H := Option.bind_eq_some_iff.mp H
 obtain ⟨t303, A70, H⟩ := H
 replace H : ((laws_toRuleS.f k l1).bind fun t306 => ((spec_StepDown.f k t303 t306).bind fun bt309 => ((laws_toIntS.f k l0).bind fun t313 => ((laws_toRuleS.f k l1).bind fun t316 => ((impl_StepDown.f k t313 t316).bind fun bt319 => ((laws_eqIntS.f k bt319.1 bt309.1).bind fun t323 => (if t323 = true then (laws_FnExactStepDown.j0 k l0 l1 bt309.1 bt309.2 t313 t316 bt319.1 bt319.2 (bt319.2 != bt309.2)) else (laws_FnExactStepDown.j0 k l0 l1 bt309.1 bt309.2 t313 t316 bt319.1 bt319.2 true)))))))) = some r := H
 have A7 := Aside0.mk A70
 clear A70
 replace H := Option.bind_eq_some_iff.mp H
 obtain ⟨t306, A80, H⟩ := H
 replace H : ((spec_StepDown.f k t303 t306).bind fun bt309 => ((laws_toIntS.f k l0).bind fun t313 => ((laws_toRuleS.f k l1).bind fun t316 => ((impl_StepDown.f k t313 t316).bind fun bt319 => ((laws_eqIntS.f k bt319.1 bt309.1).bind fun t323 => (if t323 = true then (laws_FnExactStepDown.j0 k l0 l1 bt309.1 bt309.2 t313 t316 bt319.1 bt319.2 (bt319.2 != bt309.2)) else (laws_FnExactStepDown.j0 k l0 l1 bt309.1 bt309.2 t313 t316 bt319.1 bt319.2 true))))))) = some r := H
 have A8 := Aside0.mk A80
 clear A80
 replace H := Option.bind_eq_some_iff.mp H
 obtain ⟨⟨t309, t310⟩, A90, H⟩ := H
 replace H : ((laws_toIntS.f k l0).bind fun t313 => ((laws_toRuleS.f k l1).bind fun t316 => ((impl_StepDown.f k t313 t316).bind fun bt319 => ((laws_eqIntS.f k bt319.1 t309).bind fun t323 => (if t323 = true then (laws_FnExactStepDown.j0 k l0 l1 t309 t310 t313 t316 bt319.1 bt319.2 (bt319.2 != t310)) else (laws_FnExactStepDown.j0 k l0 l1 t309 t310 t313 t316 bt319.1 bt319.2 true)))))) = some r := H
 have A9 := Aside0.mk A90
 clear A90
 replace H := Option.bind_eq_some_iff.mp H
 obtain ⟨t313, A100, H⟩ := H
 replace H : ((laws_toRuleS.f k l1).bind fun t316 => ((impl_StepDown.f k t313 t316).bind fun bt319 => ((laws_eqIntS.f k bt319.1 t309).bind fun t323 => (if t323 = true then (laws_FnExactStepDown.j0 k l0 l1 t309 t310 t313 t316 bt319.1 bt319.2 (bt319.2 != t310)) else (laws_FnExactStepDown.j0 k l0 l1 t309 t310 t313 t316 bt319.1 bt319.2 true))))) = some r := H
 have A10 := Aside0.mk A100
 clear A100
 replace H := Option.bind_eq_some_iff.mp H
 obtain ⟨t316, A110, H⟩ := H
 replace H : ((impl_StepDown.f k t313 t316).bind fun bt319 => ((laws_eqIntS.f k bt319.1 t309).bind fun t323 => (if t323 = true then (laws_FnExactStepDown.j0 k l0 l1 t309 t310 t313 t316 bt319.1 bt319.2 (bt319.2 != t310)) else (laws_FnExactStepDown.j0 k l0 l1 t309 t310 t313 t316 bt319.1 bt319.2 true)))) = some r := H
 have A11 := Aside0.mk A110
 clear A110
 replace H := Option.bind_eq_some_iff.mp H
 obtain ⟨⟨t319, t320⟩, A120, H⟩ := H
 replace H : ((laws_eqIntS.f k t319 t309).bind fun t323 => (if t323 = true then (laws_FnExactStepDown.j0 k l0 l1 t309 t310 t313 t316 t319 t320 (t320 != t310)) else (laws_FnExactStepDown.j0 k l0 l1 t309 t310 t313 t316 t319 t320 true))) = some r := H
 have A12 := Aside0.mk A120
 clear A120
 have HC13 := Aside0.mk H
 clear H
 go_enter Try.func9, Try.ntmps9
 go_upto_region 11 with (first | ((with_reducible refine ql0 (f := 44) rfl ?_); refine qx0 (some 22) rfl rfl Try.func44 (by kernel_rfl) rfl #[.slice A1 l1.length c1, .int .i64 1048576] rfl (by (try simp only [List.map_toArray, List.map_cons, List.map_nil]); first | done | rfl | (simp only [List.length_drop, List.length_take]; rfl)) ?_; (with_reducible refine (laws_szRuleS.calls k _ _ l1 1048576 t302 _ ?side1 ?side2 A4.out).mono ?_); (case side1 => repeat (first | exact HR1.out | (with_reducible refine Kd.qt0 ?_ _) | (with_reducible refine Kd.qs0 ?_ _) | (with_reducible refine Kd.qu0 ?_))); (case side2 => exact HC1.out); rintro e w14 ⟨rfl, hb⟩; refine ⟨_, rfl, ?_⟩; have n0_ := Aside0.mk (qr0 (by repeat (first | (with_reducible first | exact HB.out | apply qc0 | apply qa0 | apply qb0) | exact HB.out)) hb); clear HB; have HB := n0_; clear n0_; (try clear hb); (try clear hb2); (try clear hk); (try clear hi)) | ((with_reducible refine ql0 (f := 46) rfl ?_); refine qx0 (some 27) rfl rfl Try.func46 (by kernel_rfl) rfl #[.slice A0 l0.length c0] rfl (by (try simp only [List.map_toArray, List.map_cons, List.map_nil]); first | done | rfl | (simp only [List.length_drop, List.length_take]; rfl)) ?_; (with_reducible refine (laws_toIntS.calls k _ _ l0 t303 _ ?side1 ?side2 A7.out).mono ?_); (case side1 => repeat (first | exact (Kd.qz0 HR0.out HB.out) | (with_reducible refine Kd.qt0 ?_ _) | (with_reducible refine Kd.qs0 ?_ _) | (with_reducible refine Kd.qu0 ?_))); (case side2 => exact HC0.out); rintro e w15 ⟨v304, rfl, ho0, hb⟩; refine ⟨_, rfl, ?_⟩; have n0_ := Aside0.mk (Kd.qj1 ho0 (qm0 (by repeat (first | (with_reducible first | exact HB.out | apply qc0 | apply qa0 | apply qb0) | exact HB.out)))); have n1_ := Aside0.mk (qr0 (by repeat (first | (with_reducible first | exact HB.out | apply qc0 | apply qa0 | apply qb0) | exact HB.out)) hb); clear HB; have HO305 := n0_; have HB := n1_; clear n0_ n1_; (try clear hb); (try clear hb2); (try clear hk); (try clear hi); (try clear ho0)) | ((with_reducible refine ql0 (f := 47) rfl ?_); refine qx0 (some 29) rfl rfl Try.func47 (by kernel_rfl) rfl #[.slice A1 l1.length c1] rfl (by (try simp only [List.map_toArray, List.map_cons, List.map_nil]); first | done | rfl | (simp only [List.length_drop, List.length_take]; rfl)) ?_; (with_reducible refine (laws_toRuleS.calls k _ _ l1 t306 _ ?side1 ?side2 A8.out).mono ?_); (case side1 => repeat (first | exact (Kd.qz0 HR1.out HB.out) | (with_reducible refine Kd.qt0 ?_ _) | (with_reducible refine Kd.qs0 ?_ _) | (with_reducible refine Kd.qu0 ?_))); (case side2 => exact HC1.out); rintro e w16 ⟨v307, rfl, ho0, hb⟩; refine ⟨_, rfl, ?_⟩; have n0_ := Aside0.mk (Kd.qf1 (by (with_reducible repeat (first | apply Kd.qe0 | apply Kd.qd0 | apply Kd.qf0)); exact HO305.out) hb); have n1_ := Aside0.mk (Kd.S_lower (Kd.S_new' ho0 (Kd.R_lt (by (with_reducible repeat (first | apply Kd.qe0 | apply Kd.qd0 | apply Kd.qf0)); exact HO305.out))) (qm0 (by repeat (first | (with_reducible first | exact HB.out | apply qc0 | apply qa0 | apply qb0) | exact HB.out)))); have n2_ := Aside0.mk (qr0 (by repeat (first | (with_reducible first | exact HB.out | apply qc0 | apply qa0 | apply qb0) | exact HB.out)) hb); clear HO305; clear HB; have HO305 := n0_; have HO308 := n1_; have HB := n2_; clear n0_ n1_ n2_; (try clear hb); (try clear hb2); (try clear hk); (try clear hi); (try clear ho0); obtain ⟨Ao17, co17, eo17⟩ := Kd.qy0 HO305.out; subst eo17; obtain ⟨Ao18, co18, eo18⟩ := Kd.S_slice HO308.out; subst eo18) | ((with_reducible refine ql0 (f := 45) rfl ?_); refine qx0 (some 30) rfl rfl Try.func45 (by kernel_rfl) rfl #[.slice Ao17 t303.length co17, .slice Ao18 t306.length co18] rfl (by (try simp only [List.map_toArray, List.map_cons, List.map_nil]); first | done | rfl | (simp only [List.length_drop, List.length_take]; rfl)) ?_; (with_reducible refine (spec_StepDown.calls k _ _ t303 _ _ t306 t309 t310 _ ?side1 ?side2 ?side3 ?side4 A9.out).mono ?_); (case side1 => repeat (first | exact (Kd.qk0 HO305.out).2.2 | (with_reducible refine Kd.qt0 ?_ _) | (with_reducible refine Kd.qs0 ?_ _) | (with_reducible refine Kd.qu0 ?_))); (case side2 => exact (Kd.qk0 HO305.out).2.1); (case side3 => repeat (first | exact (Kd.S_reads' HO308.out).2.2 | (with_reducible refine Kd.qt0 ?_ _) | (with_reducible refine Kd.qs0 ?_ _) | (with_reducible refine Kd.qu0 ?_))); (case side4 => exact (Kd.S_reads' HO308.out).2.1); rintro e w19 ⟨v311, rfl, ho0, hb⟩; refine ⟨_, rfl, ?_⟩; have n0_ := Aside0.mk (Kd.qb1 (by (with_reducible repeat (first | apply Kd.qe0 | apply Kd.qd0 | apply Kd.qf0)); exact HO305.out) (Kd.qg1 ho0) hb); have n1_ := Aside0.mk (Kd.S_elder' (by (with_reducible repeat (first | apply Kd.qr1 | apply Kd.qq1 | apply Kd.qv1)); exact HO308.out) (Kd.qg1 ho0) hb); have n2_ := Aside0.mk (Kd.qj1 (Kd.ql1 ho0 (Kd.R_lt (by (with_reducible repeat (first | apply Kd.qe0 | apply Kd.qd0 | apply Kd.qf0)); exact HO305.out))) (qm0 (by repeat (first | (with_reducible first | exact HB.out | apply qc0 | apply qa0 | apply qb0) | exact HB.out)))); have n3_ := Aside0.mk (qr0 (by repeat (first | (with_reducible first | exact HB.out | apply qc0 | apply qa0 | apply qb0) | exact HB.out)) hb); clear HO305; clear HO308; clear HB; have HO305 := n0_; have HO308 := n1_; have HO312 := n2_; have HB := n3_; clear n0_ n1_ n2_ n3_; (try clear hb); (try clear hb2); (try clear hk); (try clear hi); (try clear ho0)) | ((with_reducible refine ql0 (f := 46) rfl ?_); refine qx0 (some 34) rfl rfl Try.func46 (by kernel_rfl) rfl #[.slice A0 l0.length c0] rfl (by (try simp only [List.map_toArray, List.map_cons, List.map_nil]); first | done | rfl | (simp only [List.length_drop, List.length_take]; rfl)) ?_; (with_reducible refine (laws_toIntS.calls k _ _ l0 t313 _ ?side1 ?side2 A10.out).mono ?_); (case side1 => repeat (first | exact (Kd.qz0 HR0.out HB.out) | (with_reducible refine Kd.qt0 ?_ _) | (with_reducible refine Kd.qs0 ?_ _) | (with_reducible refine Kd.qu0 ?_))); (case side2 => exact HC0.out); rintro e w20 ⟨v314, rfl, ho0, hb⟩; refine ⟨_, rfl, ?_⟩; have n0_ := Aside0.mk (Kd.qb1 (by (with_reducible repeat (first | apply Kd.qe0 | apply Kd.qd0 | apply Kd.qf0)); exact HO305.out) (Kd.qg1 ho0) hb); have n1_ := Aside0.mk (Kd.S_elder' (by (with_reducible repeat (first | apply Kd.qr1 | apply Kd.qq1 | apply Kd.qv1)); exact HO308.out) (Kd.qg1 ho0) hb); have n2_ := Aside0.mk (Kd.qb1 (by (with_reducible repeat (first | apply Kd.qe0 | apply Kd.qd0 | apply Kd.qf0)); exact HO312.out) (Kd.qg1 ho0) hb); have n3_ := Aside0.mk (Kd.qj1 (Kd.ql1 (Kd.ql1 ho0 (Kd.R_lt (by (with_reducible repeat (first | apply Kd.qe0 | apply Kd.qd0 | apply Kd.qf0)); exact HO305.out))) (Kd.R_lt (by (with_reducible repeat (first | apply Kd.qe0 | apply Kd.qd0 | apply Kd.qf0)); exact HO312.out))) (qm0 (by repeat (first | (with_reducible first | exact HB.out | apply qc0 | apply qa0 | apply qb0) | exact HB.out)))); have n4_ := Aside0.mk (qr0 (by repeat (first | (with_reducible first | exact HB.out | apply qc0 | apply qa0 | apply qb0) | exact HB.out)) hb); clear HO305; clear HO308; clear HO312; clear HB; have HO305 := n0_; have HO308 := n1_; have HO312 := n2_; have HO315 := n3_; have HB := n4_; clear n0_ n1_ n2_ n3_ n4_; (try clear hb); (try clear hb2); (try clear hk); (try clear hi); (try clear ho0)) | ((with_reducible refine ql0 (f := 47) rfl ?_); refine qx0 (some 36) rfl rfl Try.func47 (by kernel_rfl) rfl #[.slice A1 l1.length c1] rfl (by (try simp only [List.map_toArray, List.map_cons, List.map_nil]); first | done | rfl | (simp only [List.length_drop, List.length_take]; rfl)) ?_; (with_reducible refine (laws_toRuleS.calls k _ _ l1 t316 _ ?side1 ?side2 A11.out).mono ?_); (case side1 => repeat (first | exact (Kd.qz0 HR1.out HB.out) | (with_reducible refine Kd.qt0 ?_ _) | (with_reducible refine Kd.qs0 ?_ _) | (with_reducible refine Kd.qu0 ?_))); (case side2 => exact HC1.out); rintro e w21 ⟨v317, rfl, ho0, hb⟩; refine ⟨_, rfl, ?_⟩; have n0_ := Aside0.mk (Kd.qf1 (by (with_reducible repeat (first | apply Kd.qe0 | apply Kd.qd0 | apply Kd.qf0)); exact HO305.out) hb); have n1_ := Aside0.mk (Kd.S_elder' (by (with_reducible repeat (first | apply Kd.qr1 | apply Kd.qq1 | apply Kd.qv1)); exact HO308.out) (Kd.S_base ho0) hb); have n2_ := Aside0.mk (Kd.qf1 (by (with_reducible repeat (first | apply Kd.qe0 | apply Kd.qd0 | apply Kd.qf0)); exact HO312.out) hb); have n3_ := Aside0.mk (Kd.qf1 (by (with_reducible repeat (first | apply Kd.qe0 | apply Kd.qd0 | apply Kd.qf0)); exact HO315.out) hb); have n4_ := Aside0.mk (Kd.S_lower (Kd.S_new' (Kd.S_new' (Kd.S_new' (Kd.S_new' ho0 (Kd.R_lt (by (with_reducible repeat (first | apply Kd.qe0 | apply Kd.qd0 | apply Kd.qf0)); exact HO305.out))) (Kd.S_lt (by (with_reducible repeat (first | apply Kd.qr1 | apply Kd.qq1 | apply Kd.qv1)); exact HO308.out))) (Kd.R_lt (by (with_reducible repeat (first | apply Kd.qe0 | apply Kd.qd0 | apply Kd.qf0)); exact HO312.out))) (Kd.R_lt (by (with_reducible repeat (first | apply Kd.qe0 | apply Kd.qd0 | apply Kd.qf0)); exact HO315.out))) (qm0 (by repeat (first | (with_reducible first | exact HB.out | apply qc0 | apply qa0 | apply qb0) | exact HB.out)))); have n5_ := Aside0.mk (qr0 (by repeat (first | (with_reducible first | exact HB.out | apply qc0 | apply qa0 | apply qb0) | exact HB.out)) hb); clear HO305; clear HO308; clear HO312; clear HO315; clear HB; have HO305 := n0_; have HO308 := n1_; have HO312 := n2_; have HO315 := n3_; have HO318 := n4_; have HB := n5_; clear n0_ n1_ n2_ n3_ n4_ n5_; (try clear hb); (try clear hb2); (try clear hk); (try clear hi); (try clear ho0); obtain ⟨Ao22, co22, eo22⟩ := Kd.qy0 HO315.out; subst eo22; obtain ⟨Ao23, co23, eo23⟩ := Kd.S_slice HO318.out; subst eo23) | ((with_reducible refine ql0 (f := 48) rfl ?_); refine qx0 (some 40) rfl rfl Try.func48 (by kernel_rfl) rfl #[.slice Ao22 t313.length co22, .slice Ao23 t316.length co23] rfl (by (try simp only [List.map_toArray, List.map_cons, List.map_nil]); first | done | rfl | (simp only [List.length_drop, List.length_take]; rfl)) ?_; (with_reducible refine (impl_StepDown.calls k _ _ t313 _ _ t316 t319 t320 _ ?side1 ?side2 ?side3 ?side4 A12.out).mono ?_); (case side1 => repeat (first | exact (Kd.qk0 HO315.out).2.2 | (with_reducible refine Kd.qt0 ?_ _) | (with_reducible refine Kd.qs0 ?_ _) | (with_reducible refine Kd.qu0 ?_))); (case side2 => exact (Kd.qk0 HO315.out).2.1); (case side3 => repeat (first | exact (Kd.S_reads' HO318.out).2.2 | (with_reducible refine Kd.qt0 ?_ _) | (with_reducible refine Kd.qs0 ?_ _) | (with_reducible refine Kd.qu0 ?_))); (case side4 => exact (Kd.S_reads' HO318.out).2.1); rintro e w24 ⟨v321, rfl, ho0, hb⟩; refine ⟨_, rfl, ?_⟩; have n0_ := Aside0.mk (Kd.qb1 (by (with_reducible repeat (first | apply Kd.qe0 | apply Kd.qd0 | apply Kd.qf0)); exact HO305.out) (Kd.qg1 ho0) hb); have n1_ := Aside0.mk (Kd.S_elder' (by (with_reducible repeat (first | apply Kd.qr1 | apply Kd.qq1 | apply Kd.qv1)); exact HO308.out) (Kd.qg1 ho0) hb); have n2_ := Aside0.mk (Kd.qb1 (by (with_reducible repeat (first | apply Kd.qe0 | apply Kd.qd0 | apply Kd.qf0)); exact HO312.out) (Kd.qg1 ho0) hb); have n3_ := Aside0.mk (Kd.qb1 (by (with_reducible repeat (first | apply Kd.qe0 | apply Kd.qd0 | apply Kd.qf0)); exact HO315.out) (Kd.qg1 ho0) hb); have n4_ := Aside0.mk (Kd.S_elder' (by (with_reducible repeat (first | apply Kd.qr1 | apply Kd.qq1 | apply Kd.qv1)); exact HO318.out) (Kd.qg1 ho0) hb); have n5_ := Aside0.mk (Kd.qj1 (Kd.ql1 (Kd.ql1 (Kd.ql1 ho0 (Kd.R_lt (by (with_reducible repeat (first | apply Kd.qe0 | apply Kd.qd0 | apply Kd.qf0)); exact HO305.out))) (Kd.R_lt (by (with_reducible repeat (first | apply Kd.qe0 | apply Kd.qd0 | apply Kd.qf0)); exact HO312.out))) (Kd.R_lt (by (with_reducible repeat (first | apply Kd.qe0 | apply Kd.qd0 | apply Kd.qf0)); exact HO315.out))) (qm0 (by repeat (first | (with_reducible first | exact HB.out | apply qc0 | apply qa0 | apply qb0) | exact HB.out)))); have n6_ := Aside0.mk (qr0 (by repeat (first | (with_reducible first | exact HB.out | apply qc0 | apply qa0 | apply qb0) | exact HB.out)) hb); clear HO305; clear HO308; clear HO312; clear HO315; clear HO318; clear HB; have HO305 := n0_; have HO308 := n1_; have HO312 := n2_; have HO315 := n3_; have HO318 := n4_; have HO322 := n5_; have HB := n6_; clear n0_ n1_ n2_ n3_ n4_ n5_ n6_; (try clear hb); (try clear hb2); (try clear hk); (try clear hi); (try clear ho0)))
 (try simp only [Act.put, List.setIfInBounds_toArray, List.set_cons_zero, List.set_cons_succ])
 go_cut [51] (fun v51 wc => ∃ (kq : Nat) (x51_12 : Bool), v51 = .bool x51_12 ∧ Aside0 (laws_FnExactStepDown.j0 kq l0 l1 t309 t310 t313 t316 t319 t320 x51_12 = some r) ∧ Aside0 (kq ≤ k) ∧ Aside0 (Kd.R (Kd.int .i64) 3 wc w.heap.size (fun k_ => some k_ ≠ ((.slice Ao22 t313.length co22) : Value).ownBlock ∧ some k_ ≠ (v321 : Value).ownBlock) v311 t309) ∧ Aside0 (Kd.R (Kd.int .i64) 3 wc w.heap.size (fun k_ => some k_ ≠ (v311 : Value).ownBlock ∧ some k_ ≠ (v321 : Value).ownBlock) (.slice Ao22 t313.length co22) t313) ∧ Aside0 (Kd.S k152 152 wc w.heap.size (fun k_ => some k_ ≠ (v311 : Value).ownBlock ∧ some k_ ≠ ((.slice Ao22 t313.length co22) : Value).ownBlock ∧ some k_ ≠ (v321 : Value).ownBlock) (.slice Ao23 t316.length co23) t316) ∧ Aside0 (Kd.R (Kd.int .i64) 3 wc w.heap.size (fun k_ => some k_ ≠ (v311 : Value).ownBlock ∧ some k_ ≠ ((.slice Ao22 t313.length co22) : Value).ownBlock) v321 t319) ∧ Aside0 (Below w.heap.size w wc))
 case first =>
  have H := HC13.out
  clear HC13
  replace H := Option.bind_eq_some_iff.mp H
  obtain ⟨t323, A250, H⟩ := H
  replace H : (if t323 = true then (laws_FnExactStepDown.j0 k l0 l1 t309 t310 t313 t316 t319 t320 (t320 != t310)) else (laws_FnExactStepDown.j0 k l0 l1 t309 t310 t313 t316 t319 t320 true)) = some r := H
  have A25 := Aside0.mk A250
  clear A250
  by_cases c26 : t323 = true
  ·subst c26
   have H1 : (laws_FnExactStepDown.j0 k l0 l1 t309 t310 t313 t316 t319 t320 (t320 != t310)) = some r := by rw [if_pos rfl] at H; exact H
   clear H
   have H := H1
   clear H1
   have H' := Aside0.mk H
   clear H
   obtain ⟨Ao27, co27, eo27⟩ := Kd.qy0 HO322.out
   subst eo27
   obtain ⟨Ao28, co28, eo28⟩ := Kd.qy0 HO312.out
   subst eo28
   go_wp2_with (first | ((with_reducible refine ql0 (f := 39) rfl ?_); refine qx0 (some 45) rfl rfl Try.func39 (by kernel_rfl) rfl #[.slice Ao27 t319.length co27, .slice Ao28 t309.length co28] rfl (by (try simp only [List.map_toArray, List.map_cons, List.map_nil]); first | done | rfl | (simp only [List.length_drop, List.length_take]; rfl)) ?_; (with_reducible refine (laws_eqIntS.calls k _ _ t319 _ _ t309 true _ ?side1 ?side2 ?side3 ?side4 A25.out).mono ?_); (case side1 => repeat (first | exact (Kd.qk0 HO322.out).2.2 | (with_reducible refine Kd.qt0 ?_ _) | (with_reducible refine Kd.qs0 ?_ _) | (with_reducible refine Kd.qu0 ?_))); (case side2 => exact (Kd.qk0 HO322.out).2.1); (case side3 => repeat (first | exact (Kd.qk0 HO312.out).2.2 | (with_reducible refine Kd.qt0 ?_ _) | (with_reducible refine Kd.qs0 ?_ _) | (with_reducible refine Kd.qu0 ?_))); (case side4 => exact (Kd.qk0 HO312.out).2.1); rintro e w' ⟨rfl, ⟨nd, rfl⟩⟩; refine ⟨_, rfl, ?_⟩))
   go_meet
   case rel => exact ⟨_, ((t320 != t310)), (by first | rfl | (simp; done) | (simp [*]; done)), H', ⟨by first | omega | exact Nat.le_refl _⟩, ⟨by (with_reducible repeat (first | apply Kd.qe0 | apply Kd.qd0 | apply Kd.qf0)); exact Kd.qq0 HO312.out (fun _ hk => ⟨hk.1.2, hk.2⟩)⟩, ⟨by (with_reducible repeat (first | apply Kd.qe0 | apply Kd.qd0 | apply Kd.qf0)); exact Kd.qq0 HO315.out (fun _ hk => ⟨hk.1.2, hk.2⟩)⟩, ⟨by (with_reducible repeat (first | apply Kd.qr1 | apply Kd.qq1 | apply Kd.qv1)); exact Kd.S_mono HO318.out (fun _ hk => ⟨hk.1.1.2, ⟨hk.1.2, hk.2⟩⟩)⟩, ⟨by (with_reducible repeat (first | apply Kd.qe0 | apply Kd.qd0 | apply Kd.qf0)); exact Kd.qq0 HO322.out (fun _ hk => ⟨hk.1.2, hk.2⟩)⟩, ⟨by repeat (first | (with_reducible first | exact HB.out | apply qc0 | apply qa0 | apply qb0) | exact HB.out)⟩⟩
  replace c26 := Bool.eq_false_iff.mpr c26
  subst c26
  have H1 : (laws_FnExactStepDown.j0 k l0 l1 t309 t310 t313 t316 t319 t320 true) = some r := by rw [if_neg (show ¬ (false = true) by decide)] at H; exact H
  clear H
  have H := H1
  clear H1
  have H' := Aside0.mk H
  clear H
  obtain ⟨Ao29, co29, eo29⟩ := Kd.qy0 HO322.out
  subst eo29
  obtain ⟨Ao30, co30, eo30⟩ := Kd.qy0 HO312.out
  subst eo30
  go_wp2_with (first | ((with_reducible refine ql0 (f := 39) rfl ?_); refine qx0 (some 45) rfl rfl Try.func39 (by kernel_rfl) rfl #[.slice Ao29 t319.length co29, .slice Ao30 t309.length co30] rfl (by (try simp only [List.map_toArray, List.map_cons, List.map_nil]); first | done | rfl | (simp only [List.length_drop, List.length_take]; rfl)) ?_; (with_reducible refine (laws_eqIntS.calls k _ _ t319 _ _ t309 false _ ?side1 ?side2 ?side3 ?side4 A25.out).mono ?_); (case side1 => repeat (first | exact (Kd.qk0 HO322.out).2.2 | (with_reducible refine Kd.qt0 ?_ _) | (with_reducible refine Kd.qs0 ?_ _) | (with_reducible refine Kd.qu0 ?_))); (case side2 => exact (Kd.qk0 HO322.out).2.1); (case side3 => repeat (first | exact (Kd.qk0 HO312.out).2.2 | (with_reducible refine Kd.qt0 ?_ _) | (with_reducible refine Kd.qs0 ?_ _) | (with_reducible refine Kd.qu0 ?_))); (case side4 => exact (Kd.qk0 HO312.out).2.1); rintro e w' ⟨rfl, ⟨nd, rfl⟩⟩; refine ⟨_, rfl, ?_⟩))
  go_meet
  case rel => exact ⟨_, (true), (by first | rfl | (simp; done) | (simp [*]; done)), H', ⟨by first | omega | exact Nat.le_refl _⟩, ⟨by (with_reducible repeat (first | apply Kd.qe0 | apply Kd.qd0 | apply Kd.qf0)); exact Kd.qq0 HO312.out (fun _ hk => ⟨hk.1.2, hk.2⟩)⟩, ⟨by (with_reducible repeat (first | apply Kd.qe0 | apply Kd.qd0 | apply Kd.qf0)); exact Kd.qq0 HO315.out (fun _ hk => ⟨hk.1.2, hk.2⟩)⟩, ⟨by (with_reducible repeat (first | apply Kd.qr1 | apply Kd.qq1 | apply Kd.qv1)); exact Kd.S_mono HO318.out (fun _ hk => ⟨hk.1.1.2, ⟨hk.1.2, hk.2⟩⟩)⟩, ⟨by (with_reducible repeat (first | apply Kd.qe0 | apply Kd.qd0 | apply Kd.qf0)); exact Kd.qq0 HO322.out (fun _ hk => ⟨hk.1.2, hk.2⟩)⟩, ⟨by repeat (first | (with_reducible first | exact HB.out | apply qc0 | apply qa0 | apply qb0) | exact HB.out)⟩⟩
 case rest =>
  clear HC13
  try clear c1
  try clear c2
  try clear p2
  try clear c3
  try clear c3b0
  try clear c3b1
  try clear c4
  try clear c5
  try clear c5b0
  try clear c9
  try clear c26
  obtain ⟨kq, x51_12, rfl, HA, HJ12, HO_6, HO_8, HO_9, HO_10, HB⟩ := hcut
  cases kq with
  | zero => exact absurd HA.out (by simp [laws_FnExactStepDown.j0])
  | succ kj12 =>
   have H := HA.out
   clear HA
   simp only [laws_FnExactStepDown.j0] at H
   by_cases c31 : x51_12 = true
   ·subst c31
    have H1 : (some false) = some r := by rw [if_pos rfl] at H; exact H
    clear H
    have H := H1
    clear H1
    obtain rfl := Option.some.inj H
    go_wp2
    go_ret
    exact ⟨by first | rfl | (simp [errW_none, errW_some] <;> rfl) | (simp [*, errW_none, errW_some] <;> rfl), by repeat (first | (with_reducible first | exact HB.out | apply qc0 | apply qa0 | apply qb0) | exact HB.out)⟩
   replace c31 := Bool.eq_false_iff.mpr c31
   subst c31
   have H1 : ((laws_toIntS.f kj12 l0).bind fun t324 => ((laws_eqIntS.f kj12 t313 t324).bind fun t327 => (if t327 = true then ((laws_toRuleS.f kj12 l1).bind fun t328 => ((laws_eqRuleS.f kj12 t316 t328).bind fun t331 => (if t331 = true then ((laws_markIntS.f kj12 t313 1).bind fun bt332 => ((laws_markRuleS.f t316 bt332.1).bind fun t334 => (if t334 < 0 then (laws_FnExactStepDown.j1 kj12 l0 l1 t309 t310 t319 true) else ((laws_eqIntS.f kj12 t319 t309).bind fun t335 => (if t335 = true then (laws_FnExactStepDown.j1 kj12 l0 l1 t309 t310 t319 (t320 != t310)) else (laws_FnExactStepDown.j1 kj12 l0 l1 t309 t310 t319 true)))))) else (some false)))) else (some false)))) = some r := by rw [if_neg (show ¬ (false = true) by decide)] at H; exact H
   clear H
   have H := H1
   clear H1
   replace H := Option.bind_eq_some_iff.mp H
   obtain ⟨t324, A320, H⟩ := H
   replace H : ((laws_eqIntS.f kj12 t313 t324).bind fun t327 => (if t327 = true then ((laws_toRuleS.f kj12 l1).bind fun t328 => ((laws_eqRuleS.f kj12 t316 t328).bind fun t331 => (if t331 = true then ((laws_markIntS.f kj12 t313 1).bind fun bt332 => ((laws_markRuleS.f t316 bt332.1).bind fun t334 => (if t334 < 0 then (laws_FnExactStepDown.j1 kj12 l0 l1 t309 t310 t319 true) else ((laws_eqIntS.f kj12 t319 t309).bind fun t335 => (if t335 = true then (laws_FnExactStepDown.j1 kj12 l0 l1 t309 t310 t319 (t320 != t310)) else (laws_FnExactStepDown.j1 kj12 l0 l1 t309 t310 t319 true)))))) else (some false)))) else (some false))) = some r := H
   have A32 := Aside0.mk A320
   clear A320
   replace H := Option.bind_eq_some_iff.mp H
   obtain ⟨t327, A330, H⟩ := H
   replace H : (if t327 = true then ((laws_toRuleS.f kj12 l1).bind fun t328 => ((laws_eqRuleS.f kj12 t316 t328).bind fun t331 => (if t331 = true then ((laws_markIntS.f kj12 t313 1).bind fun bt332 => ((laws_markRuleS.f t316 bt332.1).bind fun t334 => (if t334 < 0 then (laws_FnExactStepDown.j1 kj12 l0 l1 t309 t310 t319 true) else ((laws_eqIntS.f kj12 t319 t309).bind fun t335 => (if t335 = true then (laws_FnExactStepDown.j1 kj12 l0 l1 t309 t310 t319 (t320 != t310)) else (laws_FnExactStepDown.j1 kj12 l0 l1 t309 t310 t319 true)))))) else (some false)))) else (some false)) = some r := H
   have A33 := Aside0.mk A330
   clear A330
   by_cases c34 : t327 = true
   ·subst c34
    have H1 : ((laws_toRuleS.f kj12 l1).bind fun t328 => ((laws_eqRuleS.f kj12 t316 t328).bind fun t331 => (if t331 = true then ((laws_markIntS.f kj12 t313 1).bind fun bt332 => ((laws_markRuleS.f t316 bt332.1).bind fun t334 => (if t334 < 0 then (laws_FnExactStepDown.j1 kj12 l0 l1 t309 t310 t319 true) else ((laws_eqIntS.f kj12 t319 t309).bind fun t335 => (if t335 = true then (laws_FnExactStepDown.j1 kj12 l0 l1 t309 t310 t319 (t320 != t310)) else (laws_FnExactStepDown.j1 kj12 l0 l1 t309 t310 t319 true)))))) else (some false)))) = some r := by rw [if_pos rfl] at H; exact H
    clear H
    have H := H1
    clear H1
    replace H := Option.bind_eq_some_iff.mp H
    obtain ⟨t328, A350, H⟩ := H
    replace H : ((laws_eqRuleS.f kj12 t316 t328).bind fun t331 => (if t331 = true then ((laws_markIntS.f kj12 t313 1).bind fun bt332 => ((laws_markRuleS.f t316 bt332.1).bind fun t334 => (if t334 < 0 then (laws_FnExactStepDown.j1 kj12 l0 l1 t309 t310 t319 true) else ((laws_eqIntS.f kj12 t319 t309).bind fun t335 => (if t335 = true then (laws_FnExactStepDown.j1 kj12 l0 l1 t309 t310 t319 (t320 != t310)) else (laws_FnExactStepDown.j1 kj12 l0 l1 t309 t310 t319 true)))))) else (some false))) = some r := H
    have A35 := Aside0.mk A350
    clear A350
    replace H := Option.bind_eq_some_iff.mp H
    obtain ⟨t331, A360, H⟩ := H
    replace H : (if t331 = true then ((laws_markIntS.f kj12 t313 1).bind fun bt332 => ((laws_markRuleS.f t316 bt332.1).bind fun t334 => (if t334 < 0 then (laws_FnExactStepDown.j1 kj12 l0 l1 t309 t310 t319 true) else ((laws_eqIntS.f kj12 t319 t309).bind fun t335 => (if t335 = true then (laws_FnExactStepDown.j1 kj12 l0 l1 t309 t310 t319 (t320 != t310)) else (laws_FnExactStepDown.j1 kj12 l0 l1 t309 t310 t319 true)))))) else (some false)) = some r := H
    have A36 := Aside0.mk A360
    clear A360
    by_cases c37 : t331 = true
    ·subst c37
     have H1 : ((laws_markIntS.f kj12 t313 1).bind fun bt332 => ((laws_markRuleS.f t316 bt332.1).bind fun t334 => (if t334 < 0 then (laws_FnExactStepDown.j1 kj12 l0 l1 t309 t310 t319 true) else ((laws_eqIntS.f kj12 t319 t309).bind fun t335 => (if t335 = true then (laws_FnExactStepDown.j1 kj12 l0 l1 t309 t310 t319 (t320 != t310)) else (laws_FnExactStepDown.j1 kj12 l0 l1 t309 t310 t319 true)))))) = some r := by rw [if_pos rfl] at H; exact H
     clear H
     have H := H1
     clear H1
     replace H := Option.bind_eq_some_iff.mp H
     obtain ⟨⟨t332, t333⟩, A380, H⟩ := H
     replace H : ((laws_markRuleS.f t316 t332).bind fun t334 => (if t334 < 0 then (laws_FnExactStepDown.j1 kj12 l0 l1 t309 t310 t319 true) else ((laws_eqIntS.f kj12 t319 t309).bind fun t335 => (if t335 = true then (laws_FnExactStepDown.j1 kj12 l0 l1 t309 t310 t319 (t320 != t310)) else (laws_FnExactStepDown.j1 kj12 l0 l1 t309 t310 t319 true))))) = some r := H
     have A38 := Aside0.mk A380
     clear A380
     replace H := Option.bind_eq_some_iff.mp H
     obtain ⟨t334, A390, H⟩ := H
     replace H : (if t334 < 0 then (laws_FnExactStepDown.j1 kj12 l0 l1 t309 t310 t319 true) else ((laws_eqIntS.f kj12 t319 t309).bind fun t335 => (if t335 = true then (laws_FnExactStepDown.j1 kj12 l0 l1 t309 t310 t319 (t320 != t310)) else (laws_FnExactStepDown.j1 kj12 l0 l1 t309 t310 t319 true)))) = some r := H
     have A39 := Aside0.mk A390
     clear A390
     have HC40 := Aside0.mk H
     clear H
     go_upto_region 20 with (first | ((with_reducible refine ql0 (f := 46) rfl ?_); refine qx0 (some 54) rfl rfl Try.func46 (by kernel_rfl) rfl #[.slice A0 l0.length c0] rfl (by (try simp only [List.map_toArray, List.map_cons, List.map_nil]); first | done | rfl | (simp only [List.length_drop, List.length_take]; rfl)) ?_; (with_reducible refine (laws_toIntS.calls kj12 _ _ l0 t324 _ ?side1 ?side2 A32.out).mono ?_); (case side1 => repeat (first | exact (Kd.qz0 HR0.out HB.out) | (with_reducible refine Kd.qt0 ?_ _) | (with_reducible refine Kd.qs0 ?_ _) | (with_reducible refine Kd.qu0 ?_))); (case side2 => exact HC0.out); rintro e w41 ⟨v325, rfl, ho0, hb⟩; refine ⟨_, rfl, ?_⟩; have n0_ := Aside0.mk (Kd.qb1 (by (with_reducible repeat (first | apply Kd.qe0 | apply Kd.qd0 | apply Kd.qf0)); exact HO_6.out) (Kd.qg1 ho0) hb); have n1_ := Aside0.mk (Kd.qb1 (by (with_reducible repeat (first | apply Kd.qe0 | apply Kd.qd0 | apply Kd.qf0)); exact HO_8.out) (Kd.qg1 ho0) hb); have n2_ := Aside0.mk (Kd.S_elder' (by (with_reducible repeat (first | apply Kd.qr1 | apply Kd.qq1 | apply Kd.qv1)); exact HO_9.out) (Kd.qg1 ho0) hb); have n3_ := Aside0.mk (Kd.qb1 (by (with_reducible repeat (first | apply Kd.qe0 | apply Kd.qd0 | apply Kd.qf0)); exact HO_10.out) (Kd.qg1 ho0) hb); have n4_ := Aside0.mk (Kd.qj1 (Kd.ql1 (Kd.ql1 (Kd.ql1 ho0 (Kd.R_lt (by (with_reducible repeat (first | apply Kd.qe0 | apply Kd.qd0 | apply Kd.qf0)); exact HO_6.out))) (Kd.R_lt (by (with_reducible repeat (first | apply Kd.qe0 | apply Kd.qd0 | apply Kd.qf0)); exact HO_8.out))) (Kd.R_lt (by (with_reducible repeat (first | apply Kd.qe0 | apply Kd.qd0 | apply Kd.qf0)); exact HO_10.out))) (qm0 (by repeat (first | (with_reducible first | exact HB.out | apply qc0 | apply qa0 | apply qb0) | exact HB.out)))); have n5_ := Aside0.mk (qr0 (by repeat (first | (with_reducible first | exact HB.out | apply qc0 | apply qa0 | apply qb0) | exact HB.out)) hb); clear HO_6; clear HO_8; clear HO_9; clear HO_10; clear HB; have HO_6 := n0_; have HO_8 := n1_; have HO_9 := n2_; have HO_10 := n3_; have HO326 := n4_; have HB := n5_; clear n0_ n1_ n2_ n3_ n4_ n5_; (try clear hb); (try clear hb2); (try clear hk); (try clear hi); (try clear ho0); obtain ⟨Ao42, co42, eo42⟩ := Kd.qy0 HO326.out; subst eo42) | ((with_reducible refine ql0 (f := 39) rfl ?_); refine qx0 (some 55) rfl rfl Try.func39 (by kernel_rfl) rfl #[.slice Ao22 t313.length co22, .slice Ao42 t324.length co42] rfl (by (try simp only [List.map_toArray, List.map_cons, List.map_nil]); first | done | rfl | (simp only [List.length_drop, List.length_take]; rfl)) ?_; (with_reducible refine (laws_eqIntS.calls kj12 _ _ t313 _ _ t324 true _ ?side1 ?side2 ?side3 ?side4 A33.out).mono ?_); (case side1 => repeat (first | exact (Kd.qk0 HO_8.out).2.2 | (with_reducible refine Kd.qt0 ?_ _) | (with_reducible refine Kd.qs0 ?_ _) | (with_reducible refine Kd.qu0 ?_))); (case side2 => exact (Kd.qk0 HO_8.out).2.1); (case side3 => repeat (first | exact (Kd.qk0 HO326.out).2.2 | (with_reducible refine Kd.qt0 ?_ _) | (with_reducible refine Kd.qs0 ?_ _) | (with_reducible refine Kd.qu0 ?_))); (case side4 => exact (Kd.qk0 HO326.out).2.1); rintro e w' ⟨rfl, ⟨nd, rfl⟩⟩; refine ⟨_, rfl, ?_⟩) | ((with_reducible refine ql0 (f := 47) rfl ?_); refine qx0 (some 59) rfl rfl Try.func47 (by kernel_rfl) rfl #[.slice A1 l1.length c1] rfl (by (try simp only [List.map_toArray, List.map_cons, List.map_nil]); first | done | rfl | (simp only [List.length_drop, List.length_take]; rfl)) ?_; (with_reducible refine (laws_toRuleS.calls kj12 _ _ l1 t328 _ ?side1 ?side2 A35.out).mono ?_); (case side1 => repeat (first | exact (Kd.qz0 HR1.out (by repeat (first | (with_reducible first | exact HB.out | apply qc0 | apply qa0 | apply qb0) | exact HB.out))) | (with_reducible refine Kd.qt0 ?_ _) | (with_reducible refine Kd.qs0 ?_ _) | (with_reducible refine Kd.qu0 ?_))); (case side2 => exact HC1.out); rintro e w43 ⟨v329, rfl, ho0, hb⟩; refine ⟨_, rfl, ?_⟩; have n0_ := Aside0.mk (Kd.qf1 (by (with_reducible repeat (first | apply Kd.qe0 | apply Kd.qd0 | apply Kd.qf0)); exact HO_6.out) hb); have n1_ := Aside0.mk (Kd.qf1 (by (with_reducible repeat (first | apply Kd.qe0 | apply Kd.qd0 | apply Kd.qf0)); exact HO_8.out) hb); have n2_ := Aside0.mk (Kd.S_elder' (by (with_reducible repeat (first | apply Kd.qr1 | apply Kd.qq1 | apply Kd.qv1)); exact HO_9.out) (Kd.S_base ho0) hb); have n3_ := Aside0.mk (Kd.qf1 (by (with_reducible repeat (first | apply Kd.qe0 | apply Kd.qd0 | apply Kd.qf0)); exact HO_10.out) hb); have n4_ := Aside0.mk (Kd.qf1 (by (with_reducible repeat (first | apply Kd.qe0 | apply Kd.qd0 | apply Kd.qf0)); exact HO326.out) hb); have n5_ := Aside0.mk (Kd.S_lower (Kd.S_new' (Kd.S_new' (Kd.S_new' (Kd.S_new' (Kd.S_new' ho0 (Kd.R_lt (by (with_reducible repeat (first | apply Kd.qe0 | apply Kd.qd0 | apply Kd.qf0)); exact HO_6.out))) (Kd.R_lt (by (with_reducible repeat (first | apply Kd.qe0 | apply Kd.qd0 | apply Kd.qf0)); exact HO_8.out))) (Kd.S_lt (by (with_reducible repeat (first | apply Kd.qr1 | apply Kd.qq1 | apply Kd.qv1)); exact HO_9.out))) (Kd.R_lt (by (with_reducible repeat (first | apply Kd.qe0 | apply Kd.qd0 | apply Kd.qf0)); exact HO_10.out))) (Kd.R_lt (by (with_reducible repeat (first | apply Kd.qe0 | apply Kd.qd0 | apply Kd.qf0)); exact HO326.out))) (qm0 (by repeat (first | (with_reducible first | exact HB.out | apply qc0 | apply qa0 | apply qb0) | exact HB.out)))); have n6_ := Aside0.mk (qr0 (by repeat (first | (with_reducible first | exact HB.out | apply qc0 | apply qa0 | apply qb0) | exact HB.out)) hb); clear HO_6; clear HO_8; clear HO_9; clear HO_10; clear HO326; clear HB; have HO_6 := n0_; have HO_8 := n1_; have HO_9 := n2_; have HO_10 := n3_; have HO326 := n4_; have HO330 := n5_; have HB := n6_; clear n0_ n1_ n2_ n3_ n4_ n5_ n6_; (try clear hb); (try clear hb2); (try clear hk); (try clear hi); (try clear ho0); obtain ⟨Ao44, co44, eo44⟩ := Kd.S_slice HO330.out; subst eo44) | ((with_reducible refine ql0 (f := 49) rfl ?_); refine qx0 (some 60) rfl rfl Try.func49 (by kernel_rfl) rfl #[.slice Ao23 t316.length co23, .slice Ao44 t328.length co44] rfl (by (try simp only [List.map_toArray, List.map_cons, List.map_nil]); first | done | rfl | (simp only [List.length_drop, List.length_take]; rfl)) ?_; (with_reducible refine (laws_eqRuleS.calls kj12 _ _ t316 _ _ t328 true _ ?side1 ?side2 ?side3 ?side4 A36.out).mono ?_); (case side1 => repeat (first | exact (Kd.S_reads' HO_9.out).2.2 | (with_reducible refine Kd.qt0 ?_ _) | (with_reducible refine Kd.qs0 ?_ _) | (with_reducible refine Kd.qu0 ?_))); (case side2 => exact (Kd.S_reads' HO_9.out).2.1); (case side3 => repeat (first | exact (Kd.S_reads' HO330.out).2.2 | (with_reducible refine Kd.qt0 ?_ _) | (with_reducible refine Kd.qs0 ?_ _) | (with_reducible refine Kd.qu0 ?_))); (case side4 => exact (Kd.S_reads' HO330.out).2.1); rintro e w45 ⟨rfl, hb⟩; refine ⟨_, rfl, ?_⟩; have n0_ := Aside0.mk (Kd.qf1 (by (with_reducible repeat (first | apply Kd.qe0 | apply Kd.qd0 | apply Kd.qf0)); exact HO_6.out) hb); have n1_ := Aside0.mk (Kd.qf1 (by (with_reducible repeat (first | apply Kd.qe0 | apply Kd.qd0 | apply Kd.qf0)); exact HO_8.out) hb); have n2_ := Aside0.mk (Kd.S_below (by (with_reducible repeat (first | apply Kd.qr1 | apply Kd.qq1 | apply Kd.qv1)); exact HO_9.out) hb); have n3_ := Aside0.mk (Kd.qf1 (by (with_reducible repeat (first | apply Kd.qe0 | apply Kd.qd0 | apply Kd.qf0)); exact HO_10.out) hb); have n4_ := Aside0.mk (Kd.qf1 (by (with_reducible repeat (first | apply Kd.qe0 | apply Kd.qd0 | apply Kd.qf0)); exact HO326.out) hb); have n5_ := Aside0.mk (Kd.S_below (by (with_reducible repeat (first | apply Kd.qr1 | apply Kd.qq1 | apply Kd.qv1)); exact HO330.out) hb); have n6_ := Aside0.mk (qr0 (by repeat (first | (with_reducible first | exact HB.out | apply qc0 | apply qa0 | apply qb0) | exact HB.out)) hb); clear HO_6; clear HO_8; clear HO_9; clear HO_10; clear HO326; clear HO330; clear HB; have HO_6 := n0_; have HO_8 := n1_; have HO_9 := n2_; have HO_10 := n3_; have HO326 := n4_; have HO330 := n5_; have HB := n6_; clear n0_ n1_ n2_ n3_ n4_ n5_ n6_; (try clear hb); (try clear hb2); (try clear hk); (try clear hi)) | ((with_reducible refine ql0 (f := 42) rfl ?_); refine qx0 (some 64) rfl rfl Try.func42 (by kernel_rfl) rfl #[.slice Ao22 t313.length co22, .int .i64 1] rfl (by (try simp only [List.map_toArray, List.map_cons, List.map_nil]); first | done | rfl | (simp only [List.length_drop, List.length_take]; rfl)) ?_; (with_reducible refine (laws_markIntS.calls kj12 (fun k_ => some k_ = (.slice Ao22 t313.length co22 : Value).ownBlock) (.slice Ao22 t313.length co22) t313 1 t332 t333 w _ ?side1 ?side2 A38.out).mono ?_); (case side1 => repeat (first | (with_reducible first | exact HB.out | apply qc0 | apply qa0 | apply qb0) | exact HB.out)); (case side2 => exact Kd.R_tight rfl HO_8.out); rintro e w46 ⟨rfl, hy0, hb, hkp⟩; refine ⟨_, rfl, ?_⟩; have n0_ := Aside0.mk (Kd.qq0 (ok' := fun k_ => some k_ ≠ (.slice Ao22 t313.length co22 : Value).ownBlock ∧ some k_ ≠ (v321 : Value).ownBlock ∧ some k_ ≠ (.slice Ao42 t324.length co42 : Value).ownBlock) (Kd.R_keptB (HO_6.out) hkp (fun k_ hk_ hs_ => (hk_.1.1) hs_)) (fun k_ hk_ => ⟨hk_.1.1.1, hk_.1.1.2, hk_.1.2⟩)); have n1_ := Aside0.mk (Kd.R_reok rfl hy0 (fun k_ e_ => HO_8.out.1 k_ e_)); have n2_ := Aside0.mk (Kd.S_mono (ok' := fun k_ => some k_ ≠ (v311 : Value).ownBlock ∧ some k_ ≠ (.slice Ao22 t313.length co22 : Value).ownBlock ∧ some k_ ≠ (v321 : Value).ownBlock ∧ some k_ ≠ (.slice Ao42 t324.length co42 : Value).ownBlock ∧ some k_ ≠ (.slice Ao44 t328.length co44 : Value).ownBlock) (Kd.S_keptB (HO_9.out) hkp (fun k_ hk_ hs_ => (hk_.1.1.2.1) hs_)) (fun k_ hk_ => ⟨hk_.1.1.1.1, hk_.1.1.1.2.1, hk_.1.1.1.2.2, hk_.1.1.2, hk_.1.2⟩)); have n3_ := Aside0.mk (Kd.qq0 (ok' := fun k_ => some k_ ≠ (v311 : Value).ownBlock ∧ some k_ ≠ (.slice Ao22 t313.length co22 : Value).ownBlock ∧ some k_ ≠ (.slice Ao42 t324.length co42 : Value).ownBlock) (Kd.R_keptB (HO_10.out) hkp (fun k_ hk_ hs_ => (hk_.1.2) hs_)) (fun k_ hk_ => ⟨hk_.1.1.1, hk_.1.1.2, hk_.1.2⟩)); have n4_ := Aside0.mk (Kd.qq0 (ok' := fun k_ => some k_ ≠ (v311 : Value).ownBlock ∧ some k_ ≠ (.slice Ao22 t313.length co22 : Value).ownBlock ∧ some k_ ≠ (v321 : Value).ownBlock) (Kd.R_keptB (HO326.out) hkp (fun k_ hk_ hs_ => (hk_.1.2) hs_)) (fun k_ hk_ => ⟨hk_.1.1.1.2, hk_.1.1.2, hk_.1.2⟩)); have n5_ := Aside0.mk (Kd.S_mono (ok' := fun k_ => some k_ ≠ (v311 : Value).ownBlock ∧ some k_ ≠ (.slice Ao22 t313.length co22 : Value).ownBlock ∧ some k_ ≠ (.slice Ao23 t316.length co23 : Value).ownBlock ∧ some k_ ≠ (v321 : Value).ownBlock ∧ some k_ ≠ (.slice Ao42 t324.length co42 : Value).ownBlock) (Kd.S_keptB (HO330.out) hkp (fun k_ hk_ hs_ => (hk_.1.1.1.2) hs_)) (fun k_ hk_ => ⟨hk_.1.1.1.1.1.2, hk_.1.1.1.1.2, hk_.1.1.1.2, hk_.1.1.2, hk_.1.2⟩)); have n6_ := Aside0.mk (hb); clear HO_6; clear HO_8; clear HO_9; clear HO_10; clear HO326; clear HO330; clear HB; have HO_6 := n0_; have HO_8 := n1_; have HO_9 := n2_; have HO_10 := n3_; have HO326 := n4_; have HO330 := n5_; have HB := n6_; clear n0_ n1_ n2_ n3_ n4_ n5_ n6_; (try clear hb); (try clear hkp); (try clear hy0)) | ((with_reducible refine ql0 (f := 50) rfl ?_); refine qx0 (some 67) rfl rfl Try.func50 (by kernel_rfl) rfl #[.slice Ao23 t316.length co23, .int .i64 t332] rfl (by (try simp only [List.map_toArray, List.map_cons, List.map_nil]); first | done | rfl | (simp only [List.length_drop, List.length_take]; rfl)) ?_; (with_reducible refine (laws_markRuleS.calls (fun k_ => (some k_ ≠ (v311 : Value).ownBlock ∧ (some k_ ≠ (.slice Ao22 t313.length co22 : Value).ownBlock ∧ (some k_ ≠ (v321 : Value).ownBlock ∧ (some k_ ≠ (.slice Ao42 t324.length co42 : Value).ownBlock ∧ some k_ ≠ (.slice Ao44 t328.length co44 : Value).ownBlock))))) (.slice Ao23 t316.length co23) t316 t332 t334 w _ ?side1 ?side2 A39.out).mono ?_); (case side1 => repeat (first | (with_reducible first | exact HB.out | apply qc0 | apply qa0 | apply qb0) | exact HB.out)); (case side2 => exact (Kd.S_R HO_9.out)); rintro e w47 ⟨rfl, hb, hkp⟩; refine ⟨_, rfl, ?_⟩; have n0_ := Aside0.mk (Kd.qq0 (ok' := fun k_ => some k_ ≠ (.slice Ao22 t313.length co22 : Value).ownBlock ∧ some k_ ≠ (v321 : Value).ownBlock ∧ some k_ ≠ (.slice Ao42 t324.length co42 : Value).ownBlock) (Kd.R_keptB (Kd.qq0 (ok' := fun k_ => (some k_ ≠ (.slice Ao22 t313.length co22 : Value).ownBlock ∧ (some k_ ≠ (v321 : Value).ownBlock ∧ some k_ ≠ (.slice Ao42 t324.length co42 : Value).ownBlock)) ∧ ¬ ((some k_ ≠ (v311 : Value).ownBlock ∧ (some k_ ≠ (.slice Ao22 t313.length co22 : Value).ownBlock ∧ (some k_ ≠ (v321 : Value).ownBlock ∧ (some k_ ≠ (.slice Ao42 t324.length co42 : Value).ownBlock ∧ some k_ ≠ (.slice Ao44 t328.length co44 : Value).ownBlock)))) ∧ w.heap.size ≤ k_)) (Kd.R_tight2 rfl (HO_6.out)) (fun k_ hk => ⟨hk.2, fun hs_ => (hs_.1.1) hk.1⟩)) hkp (fun k_ hk_ hs_ => hk_.2 hs_)) (fun k_ hk_ => ⟨hk_.1.1.1, hk_.1.1.2.1, hk_.1.1.2.2⟩)); have n1_ := Aside0.mk (Kd.qq0 (ok' := fun k_ => some k_ ≠ (v311 : Value).ownBlock ∧ some k_ ≠ (v321 : Value).ownBlock ∧ some k_ ≠ (.slice Ao42 t324.length co42 : Value).ownBlock) (Kd.R_keptB (Kd.qq0 (ok' := fun k_ => ((some k_ ≠ (v311 : Value).ownBlock ∧ some k_ ≠ (v321 : Value).ownBlock) ∧ some k_ ≠ (.slice Ao42 t324.length co42 : Value).ownBlock) ∧ ¬ ((some k_ ≠ (v311 : Value).ownBlock ∧ (some k_ ≠ (.slice Ao22 t313.length co22 : Value).ownBlock ∧ (some k_ ≠ (v321 : Value).ownBlock ∧ (some k_ ≠ (.slice Ao42 t324.length co42 : Value).ownBlock ∧ some k_ ≠ (.slice Ao44 t328.length co44 : Value).ownBlock)))) ∧ w.heap.size ≤ k_)) (Kd.R_tight2 rfl (HO_8.out)) (fun k_ hk => ⟨hk.2, fun hs_ => (hs_.1.2.1) hk.1⟩)) hkp (fun k_ hk_ hs_ => hk_.2 hs_)) (fun k_ hk_ => ⟨hk_.1.1.1.1, hk_.1.1.1.2, hk_.1.1.2⟩)); have n2_ := Aside0.mk (Kd.qq0 (ok' := fun k_ => some k_ ≠ (v311 : Value).ownBlock ∧ some k_ ≠ (.slice Ao22 t313.length co22 : Value).ownBlock ∧ some k_ ≠ (.slice Ao42 t324.length co42 : Value).ownBlock) (Kd.R_keptB (Kd.qq0 (ok' := fun k_ => (some k_ ≠ (v311 : Value).ownBlock ∧ (some k_ ≠ (.slice Ao22 t313.length co22 : Value).ownBlock ∧ some k_ ≠ (.slice Ao42 t324.length co42 : Value).ownBlock)) ∧ ¬ ((some k_ ≠ (v311 : Value).ownBlock ∧ (some k_ ≠ (.slice Ao22 t313.length co22 : Value).ownBlock ∧ (some k_ ≠ (v321 : Value).ownBlock ∧ (some k_ ≠ (.slice Ao42 t324.length co42 : Value).ownBlock ∧ some k_ ≠ (.slice Ao44 t328.length co44 : Value).ownBlock)))) ∧ w.heap.size ≤ k_)) (Kd.R_tight2 rfl (HO_10.out)) (fun k_ hk => ⟨hk.2, fun hs_ => (hs_.1.2.2.1) hk.1⟩)) hkp (fun k_ hk_ hs_ => hk_.2 hs_)) (fun k_ hk_ => ⟨hk_.1.1.1, hk_.1.1.2.1, hk_.1.1.2.2⟩)); have n3_ := Aside0.mk (Kd.qq0 (ok' := fun k_ => some k_ ≠ (v311 : Value).ownBlock ∧ some k_ ≠ (.slice Ao22 t313.length co22 : Value).ownBlock ∧ some k_ ≠ (v321 : Value).ownBlock) (Kd.R_keptB (Kd.qq0 (ok' := fun k_ => (some k_ ≠ (v311 : Value).ownBlock ∧ (some k_ ≠ (.slice Ao22 t313.length co22 : Value).ownBlock ∧ some k_ ≠ (v321 : Value).ownBlock)) ∧ ¬ ((some k_ ≠ (v311 : Value).ownBlock ∧ (some k_ ≠ (.slice Ao22 t313.length co22 : Value).ownBlock ∧ (some k_ ≠ (v321 : Value).ownBlock ∧ (some k_ ≠ (.slice Ao42 t324.length co42 : Value).ownBlock ∧ some k_ ≠ (.slice Ao44 t328.length co44 : Value).ownBlock)))) ∧ w.heap.size ≤ k_)) (Kd.R_tight2 rfl (HO326.out)) (fun k_ hk => ⟨hk.2, fun hs_ => (hs_.1.2.2.2.1) hk.1⟩)) hkp (fun k_ hk_ hs_ => hk_.2 hs_)) (fun k_ hk_ => ⟨hk_.1.1.1, hk_.1.1.2.1, hk_.1.1.2.2⟩)); have n4_ := Aside0.mk (hb); clear HO_6; clear HO_8; clear HO_10; clear HO326; clear HB; clear HO_9; have HO_6 := n0_; have HO_8 := n1_; have HO_10 := n2_; have HO326 := n3_; have HB := n4_; clear n0_ n1_ n2_ n3_ n4_; (try clear hb); (try clear hkp)))
     (try simp only [Act.put, List.setIfInBounds_toArray, List.set_cons_zero, List.set_cons_succ])
     go_cut [80] (fun v80 wc => ∃ (kq : Nat) (x80_39 : Bool), v80 = .bool x80_39 ∧ Aside0 (laws_FnExactStepDown.j1 kq l0 l1 t309 t310 t319 x80_39 = some r) ∧ Aside0 (kq ≤ kj12) ∧ Aside0 (Kd.R (Kd.int .i64) 3 wc w.heap.size (fun k_ => some k_ ≠ (v321 : Value).ownBlock) v311 t309) ∧ Aside0 (Kd.R (Kd.int .i64) 3 wc w.heap.size (fun k_ => some k_ ≠ (v311 : Value).ownBlock) v321 t319) ∧ Aside0 (Below w.heap.size w wc))
     case first =>
      have H := HC40.out
      clear HC40
      by_cases c48 : t334 < 0
      ·rw [if_pos c48] at H
       have c48b0 : decide (t334 < 0) = true := decide_eq_true c48
       clear c48
       (first | rw [c48b0] | (simp only [i64_w, i32_w]; rw [c48b0]) | skip)
       have H' := Aside0.mk H
       clear H
       go_wp2
       go_meet
       case rel => exact ⟨_, (true), (by first | rfl | (simp; done) | (simp [*]; done)), H', ⟨by have := HJ12.out; first | omega | exact Nat.le_refl _⟩, ⟨by (with_reducible repeat (first | apply Kd.qe0 | apply Kd.qd0 | apply Kd.qf0)); exact Kd.qq0 HO_6.out (fun _ hk => hk.2.1)⟩, ⟨by (with_reducible repeat (first | apply Kd.qe0 | apply Kd.qd0 | apply Kd.qf0)); exact Kd.qq0 HO_10.out (fun _ hk => hk.1)⟩, ⟨by repeat (first | (with_reducible first | exact HB.out | apply qc0 | apply qa0 | apply qb0) | exact HB.out)⟩⟩
      rw [if_neg c48] at H
      have c48b0 : decide (t334 < 0) = false := decide_eq_false c48
      clear c48
      (first | rw [c48b0] | (simp only [i64_w, i32_w]; rw [c48b0]) | skip)
      replace H := Option.bind_eq_some_iff.mp H
      obtain ⟨t335, A490, H⟩ := H
      replace H : (if t335 = true then (laws_FnExactStepDown.j1 kj12 l0 l1 t309 t310 t319 (t320 != t310)) else (laws_FnExactStepDown.j1 kj12 l0 l1 t309 t310 t319 true)) = some r := H
      have A49 := Aside0.mk A490
      clear A490
      by_cases c50 : t335 = true
      ·subst c50
       have H1 : (laws_FnExactStepDown.j1 kj12 l0 l1 t309 t310 t319 (t320 != t310)) = some r := by rw [if_pos rfl] at H; exact H
       clear H
       have H := H1
       clear H1
       have H' := Aside0.mk H
       clear H
       obtain ⟨Ao51, co51, eo51⟩ := Kd.qy0 HO_10.out
       subst eo51
       obtain ⟨Ao52, co52, eo52⟩ := Kd.qy0 HO_6.out
       subst eo52
       go_wp2_with (first | (go_at_call 39; (with_reducible refine (laws_eqIntS.calls kj12 _ _ t319 _ _ t309 true _ ?side1 ?side2 ?side3 ?side4 A49.out).mono ?_); (case side1 => repeat (first | exact (Kd.qk0 HO_10.out).2.2 | (with_reducible refine Kd.qt0 ?_ _) | (with_reducible refine Kd.qs0 ?_ _) | (with_reducible refine Kd.qu0 ?_))); (case side2 => exact (Kd.qk0 HO_10.out).2.1); (case side3 => repeat (first | exact (Kd.qk0 HO_6.out).2.2 | (with_reducible refine Kd.qt0 ?_ _) | (with_reducible refine Kd.qs0 ?_ _) | (with_reducible refine Kd.qu0 ?_))); (case side4 => exact (Kd.qk0 HO_6.out).2.1); rintro e w' ⟨rfl, ⟨nd, rfl⟩⟩))
       go_meet
       case rel => exact ⟨_, ((t320 != t310)), (by first | rfl | (simp; done) | (simp [*]; done)), H', ⟨by have := HJ12.out; first | omega | exact Nat.le_refl _⟩, ⟨by (with_reducible repeat (first | apply Kd.qe0 | apply Kd.qd0 | apply Kd.qf0)); exact Kd.qq0 HO_6.out (fun _ hk => hk.2.1)⟩, ⟨by (with_reducible repeat (first | apply Kd.qe0 | apply Kd.qd0 | apply Kd.qf0)); exact Kd.qq0 HO_10.out (fun _ hk => hk.1)⟩, ⟨by repeat (first | (with_reducible first | exact HB.out | apply qc0 | apply qa0 | apply qb0) | exact HB.out)⟩⟩
      replace c50 := Bool.eq_false_iff.mpr c50
      subst c50
      have H1 : (laws_FnExactStepDown.j1 kj12 l0 l1 t309 t310 t319 true) = some r := by rw [if_neg (show ¬ (false = true) by decide)] at H; exact H
      clear H
      have H := H1
      clear H1
      have H' := Aside0.mk H
      clear H
      obtain ⟨Ao53, co53, eo53⟩ := Kd.qy0 HO_10.out
      subst eo53
      obtain ⟨Ao54, co54, eo54⟩ := Kd.qy0 HO_6.out
      subst eo54
      go_wp2_with (first | (go_at_call 39; (with_reducible refine (laws_eqIntS.calls kj12 _ _ t319 _ _ t309 false _ ?side1 ?side2 ?side3 ?side4 A49.out).mono ?_); (case side1 => repeat (first | exact (Kd.qk0 HO_10.out).2.2 | (with_reducible refine Kd.qt0 ?_ _) | (with_reducible refine Kd.qs0 ?_ _) | (with_reducible refine Kd.qu0 ?_))); (case side2 => exact (Kd.qk0 HO_10.out).2.1); (case side3 => repeat (first | exact (Kd.qk0 HO_6.out).2.2 | (with_reducible refine Kd.qt0 ?_ _) | (with_reducible refine Kd.qs0 ?_ _) | (with_reducible refine Kd.qu0 ?_))); (case side4 => exact (Kd.qk0 HO_6.out).2.1); rintro e w' ⟨rfl, ⟨nd, rfl⟩⟩))
      go_meet
      case rel => exact ⟨_, (true), (by first | rfl | (simp; done) | (simp [*]; done)), H', ⟨by have := HJ12.out; first | omega | exact Nat.le_refl _⟩, ⟨by (with_reducible repeat (first | apply Kd.qe0 | apply Kd.qd0 | apply Kd.qf0)); exact Kd.qq0 HO_6.out (fun _ hk => hk.2.1)⟩, ⟨by (with_reducible repeat (first | apply Kd.qe0 | apply Kd.qd0 | apply Kd.qf0)); exact Kd.qq0 HO_10.out (fun _ hk => hk.1)⟩, ⟨by repeat (first | (with_reducible first | exact HB.out | apply qc0 | apply qa0 | apply qb0) | exact HB.out)⟩⟩
     case rest =>
      clear HC40
      try clear c1
      try clear c2
      try clear p2
      try clear c3
      try clear c3b0
      try clear c3b1
      try clear c4
      try clear c5
      try clear c5b0
      try clear c9
      try clear c26
      try clear c31
      try clear c34
      try clear c37
      try clear c39
      try clear c42
      try clear c44
      try clear c45
      try clear c46
      try clear c47
      try clear c48
      try clear c48b0
      try clear c49
      try clear c50
      try clear p2
      obtain ⟨kq, x80_39, rfl, HA, HJ39, HO_6, HO_10, HB⟩ := hcut
      cases kq with
      | zero => exact absurd HA.out (by simp [laws_FnExactStepDown.j1])
      | succ kj39 =>
       have H := HA.out
       clear HA
       simp only [laws_FnExactStepDown.j1] at H
       by_cases c55 : x80_39 = true
       ·subst c55
        have H1 : (some false) = some r := by rw [if_pos rfl] at H; exact H
        clear H
        have H := H1
        clear H1
        obtain rfl := Option.some.inj H
        go_wp2
        go_ret
        exact ⟨by first | rfl | (simp [errW_none, errW_some] <;> rfl) | (simp [*, errW_none, errW_some] <;> rfl), by repeat (first | (with_reducible first | exact HB.out | apply qc0 | apply qa0 | apply qb0) | exact HB.out)⟩
       replace c55 := Bool.eq_false_iff.mpr c55
       subst c55
       have H1 : ((laws_markIntS.f kj39 t319 1).bind fun bt336 => ((laws_heldIntS.f kj39 bt336.2 1).bind fun t338 => (if t338 < 0 then (some false) else (if t338 = bt336.1 then ((laws_toIntS.f kj39 l0).bind fun t339 => ((laws_toRuleS.f kj39 l1).bind fun t342 => ((impl_StepDown.f kj39 t339 t342).bind fun bt345 => ((laws_eqIntS.f kj39 bt345.1 t309).bind fun t349 => (if t349 = true then (laws_FnExactStepDown.j2 kj39 bt336.2 bt336.1 (bt345.2 != t310)) else (laws_FnExactStepDown.j2 kj39 bt336.2 bt336.1 true)))))) else (some false))))) = some r := by rw [if_neg (show ¬ (false = true) by decide)] at H; exact H
       clear H
       have H := H1
       clear H1
       replace H := Option.bind_eq_some_iff.mp H
       obtain ⟨⟨t336, t337⟩, A560, H⟩ := H
       replace H : ((laws_heldIntS.f kj39 t337 1).bind fun t338 => (if t338 < 0 then (some false) else (if t338 = t336 then ((laws_toIntS.f kj39 l0).bind fun t339 => ((laws_toRuleS.f kj39 l1).bind fun t342 => ((impl_StepDown.f kj39 t339 t342).bind fun bt345 => ((laws_eqIntS.f kj39 bt345.1 t309).bind fun t349 => (if t349 = true then (laws_FnExactStepDown.j2 kj39 t337 t336 (bt345.2 != t310)) else (laws_FnExactStepDown.j2 kj39 t337 t336 true)))))) else (some false)))) = some r := H
       have A56 := Aside0.mk A560
       clear A560
       replace H := Option.bind_eq_some_iff.mp H
       obtain ⟨t338, A570, H⟩ := H
       replace H : (if t338 < 0 then (some false) else (if t338 = t336 then ((laws_toIntS.f kj39 l0).bind fun t339 => ((laws_toRuleS.f kj39 l1).bind fun t342 => ((impl_StepDown.f kj39 t339 t342).bind fun bt345 => ((laws_eqIntS.f kj39 bt345.1 t309).bind fun t349 => (if t349 = true then (laws_FnExactStepDown.j2 kj39 t337 t336 (bt345.2 != t310)) else (laws_FnExactStepDown.j2 kj39 t337 t336 true)))))) else (some false))) = some r := H
       have A57 := Aside0.mk A570
       clear A570
       by_cases c58 : t338 < 0
       ·rw [if_pos c58] at H
        have c58b0 : decide (t338 < 0) = true := decide_eq_true c58
        clear c58
        obtain rfl := Option.some.inj H
        obtain ⟨Ao59, co59, eo59⟩ := Kd.qy0 HO_10.out
        subst eo59
        go_wp2_with (first | ((with_reducible refine ql0 (f := 42) rfl ?_); refine qx0 (some 83) rfl rfl Try.func42 (by kernel_rfl) rfl #[.slice Ao59 t319.length co59, .int .i64 1] rfl (by (try simp only [List.map_toArray, List.map_cons, List.map_nil]); first | done | rfl | (simp only [List.length_drop, List.length_take]; rfl)) ?_; (with_reducible refine (laws_markIntS.calls kj39 (fun k_ => some k_ = (.slice Ao59 t319.length co59 : Value).ownBlock) (.slice Ao59 t319.length co59) t319 1 t336 t337 w _ ?side1 ?side2 A56.out).mono ?_); (case side1 => repeat (first | (with_reducible first | exact HB.out | apply qc0 | apply qa0 | apply qb0) | exact HB.out)); (case side2 => exact Kd.R_tight rfl HO_10.out); rintro e w60 ⟨rfl, hy0, hb, hkp⟩; refine ⟨_, rfl, ?_⟩; have n0_ := Aside0.mk (Kd.qq0 (ok' := fun k_ => some k_ ≠ (.slice Ao59 t319.length co59 : Value).ownBlock) (Kd.R_keptB (HO_6.out) hkp (fun k_ hk_ hs_ => (hk_) hs_)) (fun k_ hk_ => hk_.1)); have n1_ := Aside0.mk (Kd.R_reok rfl hy0 (fun k_ e_ => HO_10.out.1 k_ e_)); have n2_ := Aside0.mk (hb); clear HO_6; clear HO_10; clear HB; have HO_6 := n0_; have HO_10 := n1_; have HB := n2_; clear n0_ n1_ n2_; (try clear hb); (try clear hkp); (try clear hy0)) | ((with_reducible refine ql0 (f := 43) rfl ?_); refine qx0 (some 86) rfl rfl Try.func43 (by kernel_rfl) rfl #[.slice Ao59 t337.length co59, .int .i64 1] rfl (by (try simp only [List.map_toArray, List.map_cons, List.map_nil]); first | done | (rw [show t337.length = t319.length from (Kd.qk0 HO_10.out).1.symm] <;> rfl) | rfl | (simp only [List.length_drop, List.length_take]; rfl)) ?_; (with_reducible refine (laws_heldIntS.calls kj39 _ _ t337 1 t338 _ ?side1 ?side2 A57.out).mono ?_); (case side1 => repeat (first | exact (Kd.qk0 HO_10.out).2.2 | (with_reducible refine Kd.qt0 ?_ _) | (with_reducible refine Kd.qs0 ?_ _) | (with_reducible refine Kd.qu0 ?_))); (case side2 => rw [show t337.length = t319.length from (Kd.qk0 HO_10.out).1.symm]; exact (Kd.qk0 HO_10.out).2.1); rintro e w' ⟨rfl, ⟨nd, rfl⟩⟩; refine ⟨_, rfl, ?_⟩))
        go_ret
        exact ⟨by first | rfl | (simp [errW_none, errW_some] <;> rfl) | (simp [*, errW_none, errW_some] <;> rfl), by repeat (first | (with_reducible first | exact HB.out | apply qc0 | apply qa0 | apply qb0) | exact HB.out)⟩
       rw [if_neg c58] at H
       have c58b0 : decide (t338 < 0) = false := decide_eq_false c58
       clear c58
       by_cases c61 : t338 = t336
       ·rw [if_pos c61] at H
        have c61b0 : (t338 == t336) = true := beq_iff_eq.mpr c61
        have c61b1 : (t338 != t336) = false := bne_eq_false_iff_eq.mpr c61
        clear c61
        replace H := Option.bind_eq_some_iff.mp H
        obtain ⟨t339, A620, H⟩ := H
        replace H : ((laws_toRuleS.f kj39 l1).bind fun t342 => ((impl_StepDown.f kj39 t339 t342).bind fun bt345 => ((laws_eqIntS.f kj39 bt345.1 t309).bind fun t349 => (if t349 = true then (laws_FnExactStepDown.j2 kj39 t337 t336 (bt345.2 != t310)) else (laws_FnExactStepDown.j2 kj39 t337 t336 true))))) = some r := H
        have A62 := Aside0.mk A620
        clear A620
        replace H := Option.bind_eq_some_iff.mp H
        obtain ⟨t342, A630, H⟩ := H
        replace H : ((impl_StepDown.f kj39 t339 t342).bind fun bt345 => ((laws_eqIntS.f kj39 bt345.1 t309).bind fun t349 => (if t349 = true then (laws_FnExactStepDown.j2 kj39 t337 t336 (bt345.2 != t310)) else (laws_FnExactStepDown.j2 kj39 t337 t336 true)))) = some r := H
        have A63 := Aside0.mk A630
        clear A630
        replace H := Option.bind_eq_some_iff.mp H
        obtain ⟨⟨t345, t346⟩, A640, H⟩ := H
        replace H : ((laws_eqIntS.f kj39 t345 t309).bind fun t349 => (if t349 = true then (laws_FnExactStepDown.j2 kj39 t337 t336 (t346 != t310)) else (laws_FnExactStepDown.j2 kj39 t337 t336 true))) = some r := H
        have A64 := Aside0.mk A640
        clear A640
        have HC65 := Aside0.mk H
        clear H
        obtain ⟨Ao66, co66, eo66⟩ := Kd.qy0 HO_10.out
        subst eo66
        go_upto_region 31 with (first | ((with_reducible refine ql0 (f := 42) rfl ?_); refine qx0 (some 83) rfl rfl Try.func42 (by kernel_rfl) rfl #[.slice Ao66 t319.length co66, .int .i64 1] rfl (by (try simp only [List.map_toArray, List.map_cons, List.map_nil]); first | done | rfl | (simp only [List.length_drop, List.length_take]; rfl)) ?_; (with_reducible refine (laws_markIntS.calls kj39 (fun k_ => some k_ = (.slice Ao66 t319.length co66 : Value).ownBlock) (.slice Ao66 t319.length co66) t319 1 t336 t337 w _ ?side1 ?side2 A56.out).mono ?_); (case side1 => repeat (first | (with_reducible first | exact HB.out | apply qc0 | apply qa0 | apply qb0) | exact HB.out)); (case side2 => exact Kd.R_tight rfl HO_10.out); rintro e w67 ⟨rfl, hy0, hb, hkp⟩; refine ⟨_, rfl, ?_⟩; have n0_ := Aside0.mk (Kd.qq0 (ok' := fun k_ => some k_ ≠ (.slice Ao66 t319.length co66 : Value).ownBlock) (Kd.R_keptB (HO_6.out) hkp (fun k_ hk_ hs_ => (hk_) hs_)) (fun k_ hk_ => hk_.1)); have n1_ := Aside0.mk (Kd.R_reok rfl hy0 (fun k_ e_ => HO_10.out.1 k_ e_)); have n2_ := Aside0.mk (hb); clear HO_6; clear HO_10; clear HB; have HO_6 := n0_; have HO_10 := n1_; have HB := n2_; clear n0_ n1_ n2_; (try clear hb); (try clear hkp); (try clear hy0)) | ((with_reducible refine ql0 (f := 43) rfl ?_); refine qx0 (some 86) rfl rfl Try.func43 (by kernel_rfl) rfl #[.slice Ao66 t337.length co66, .int .i64 1] rfl (by (try simp only [List.map_toArray, List.map_cons, List.map_nil]); first | done | (rw [show t337.length = t319.length from (Kd.qk0 HO_10.out).1.symm] <;> rfl) | rfl | (simp only [List.length_drop, List.length_take]; rfl)) ?_; (with_reducible refine (laws_heldIntS.calls kj39 _ _ t337 1 t338 _ ?side1 ?side2 A57.out).mono ?_); (case side1 => repeat (first | exact (Kd.qk0 HO_10.out).2.2 | (with_reducible refine Kd.qt0 ?_ _) | (with_reducible refine Kd.qs0 ?_ _) | (with_reducible refine Kd.qu0 ?_))); (case side2 => rw [show t337.length = t319.length from (Kd.qk0 HO_10.out).1.symm]; exact (Kd.qk0 HO_10.out).2.1); rintro e w' ⟨rfl, ⟨nd, rfl⟩⟩; refine ⟨_, rfl, ?_⟩) | ((with_reducible refine ql0 (f := 46) rfl ?_); refine qx0 (some 94) rfl rfl Try.func46 (by kernel_rfl) rfl #[.slice A0 l0.length c0] rfl (by (try simp only [List.map_toArray, List.map_cons, List.map_nil]); first | done | rfl | (simp only [List.length_drop, List.length_take]; rfl)) ?_; (with_reducible refine (laws_toIntS.calls kj39 _ _ l0 t339 _ ?side1 ?side2 A62.out).mono ?_); (case side1 => repeat (first | exact (Kd.qz0 HR0.out (by repeat (first | (with_reducible first | exact HB.out | apply qc0 | apply qa0 | apply qb0) | exact HB.out))) | (with_reducible refine Kd.qt0 ?_ _) | (with_reducible refine Kd.qs0 ?_ _) | (with_reducible refine Kd.qu0 ?_))); (case side2 => exact HC0.out); rintro e w68 ⟨v340, rfl, ho0, hb⟩; refine ⟨_, rfl, ?_⟩; have n0_ := Aside0.mk (Kd.qb1 (by (with_reducible repeat (first | apply Kd.qe0 | apply Kd.qd0 | apply Kd.qf0)); exact HO_6.out) (Kd.qg1 ho0) hb); have n1_ := Aside0.mk (Kd.qb1 (by (with_reducible repeat (first | apply Kd.qe0 | apply Kd.qd0 | apply Kd.qf0)); exact HO_10.out) (Kd.qg1 ho0) hb); have n2_ := Aside0.mk (Kd.qj1 (Kd.ql1 (Kd.ql1 ho0 (Kd.R_lt (by (with_reducible repeat (first | apply Kd.qe0 | apply Kd.qd0 | apply Kd.qf0)); exact HO_6.out))) (Kd.R_lt (by (with_reducible repeat (first | apply Kd.qe0 | apply Kd.qd0 | apply Kd.qf0)); exact HO_10.out))) (qm0 (by repeat (first | (with_reducible first | exact HB.out | apply qc0 | apply qa0 | apply qb0) | exact HB.out)))); have n3_ := Aside0.mk (qr0 (by repeat (first | (with_reducible first | exact HB.out | apply qc0 | apply qa0 | apply qb0) | exact HB.out)) hb); clear HO_6; clear HO_10; clear HB; have HO_6 := n0_; have HO_10 := n1_; have HO341 := n2_; have HB := n3_; clear n0_ n1_ n2_ n3_; (try clear hb); (try clear hb2); (try clear hk); (try clear hi); (try clear ho0)) | ((with_reducible refine ql0 (f := 47) rfl ?_); refine qx0 (some 96) rfl rfl Try.func47 (by kernel_rfl) rfl #[.slice A1 l1.length c1] rfl (by (try simp only [List.map_toArray, List.map_cons, List.map_nil]); first | done | rfl | (simp only [List.length_drop, List.length_take]; rfl)) ?_; (with_reducible refine (laws_toRuleS.calls kj39 _ _ l1 t342 _ ?side1 ?side2 A63.out).mono ?_); (case side1 => repeat (first | exact (Kd.qz0 HR1.out HB.out) | (with_reducible refine Kd.qt0 ?_ _) | (with_reducible refine Kd.qs0 ?_ _) | (with_reducible refine Kd.qu0 ?_))); (case side2 => exact HC1.out); rintro e w69 ⟨v343, rfl, ho0, hb⟩; refine ⟨_, rfl, ?_⟩; have n0_ := Aside0.mk (Kd.qf1 (by (with_reducible repeat (first | apply Kd.qe0 | apply Kd.qd0 | apply Kd.qf0)); exact HO_6.out) hb); have n1_ := Aside0.mk (Kd.qf1 (by (with_reducible repeat (first | apply Kd.qe0 | apply Kd.qd0 | apply Kd.qf0)); exact HO_10.out) hb); have n2_ := Aside0.mk (Kd.qf1 (by (with_reducible repeat (first | apply Kd.qe0 | apply Kd.qd0 | apply Kd.qf0)); exact HO341.out) hb); have n3_ := Aside0.mk (Kd.S_lower (Kd.S_new' (Kd.S_new' (Kd.S_new' ho0 (Kd.R_lt (by (with_reducible repeat (first | apply Kd.qe0 | apply Kd.qd0 | apply Kd.qf0)); exact HO_6.out))) (Kd.R_lt (by (with_reducible repeat (first | apply Kd.qe0 | apply Kd.qd0 | apply Kd.qf0)); exact HO_10.out))) (Kd.R_lt (by (with_reducible repeat (first | apply Kd.qe0 | apply Kd.qd0 | apply Kd.qf0)); exact HO341.out))) (qm0 (by repeat (first | (with_reducible first | exact HB.out | apply qc0 | apply qa0 | apply qb0) | exact HB.out)))); have n4_ := Aside0.mk (qr0 (by repeat (first | (with_reducible first | exact HB.out | apply qc0 | apply qa0 | apply qb0) | exact HB.out)) hb); clear HO_6; clear HO_10; clear HO341; clear HB; have HO_6 := n0_; have HO_10 := n1_; have HO341 := n2_; have HO344 := n3_; have HB := n4_; clear n0_ n1_ n2_ n3_ n4_; (try clear hb); (try clear hb2); (try clear hk); (try clear hi); (try clear ho0); obtain ⟨Ao70, co70, eo70⟩ := Kd.qy0 HO341.out; subst eo70; obtain ⟨Ao71, co71, eo71⟩ := Kd.S_slice HO344.out; subst eo71) | ((with_reducible refine ql0 (f := 48) rfl ?_); refine qx0 (some 97) rfl rfl Try.func48 (by kernel_rfl) rfl #[.slice Ao70 t339.length co70, .slice Ao71 t342.length co71] rfl (by (try simp only [List.map_toArray, List.map_cons, List.map_nil]); first | done | rfl | (simp only [List.length_drop, List.length_take]; rfl)) ?_; (with_reducible refine (impl_StepDown.calls kj39 _ _ t339 _ _ t342 t345 t346 _ ?side1 ?side2 ?side3 ?side4 A64.out).mono ?_); (case side1 => repeat (first | exact (Kd.qk0 HO341.out).2.2 | (with_reducible refine Kd.qt0 ?_ _) | (with_reducible refine Kd.qs0 ?_ _) | (with_reducible refine Kd.qu0 ?_))); (case side2 => exact (Kd.qk0 HO341.out).2.1); (case side3 => repeat (first | exact (Kd.S_reads' HO344.out).2.2 | (with_reducible refine Kd.qt0 ?_ _) | (with_reducible refine Kd.qs0 ?_ _) | (with_reducible refine Kd.qu0 ?_))); (case side4 => exact (Kd.S_reads' HO344.out).2.1); rintro e w72 ⟨v347, rfl, ho0, hb⟩; refine ⟨_, rfl, ?_⟩; have n0_ := Aside0.mk (Kd.qb1 (by (with_reducible repeat (first | apply Kd.qe0 | apply Kd.qd0 | apply Kd.qf0)); exact HO_6.out) (Kd.qg1 ho0) hb); have n1_ := Aside0.mk (Kd.qb1 (by (with_reducible repeat (first | apply Kd.qe0 | apply Kd.qd0 | apply Kd.qf0)); exact HO_10.out) (Kd.qg1 ho0) hb); have n2_ := Aside0.mk (Kd.qb1 (by (with_reducible repeat (first | apply Kd.qe0 | apply Kd.qd0 | apply Kd.qf0)); exact HO341.out) (Kd.qg1 ho0) hb); have n3_ := Aside0.mk (Kd.S_elder' (by (with_reducible repeat (first | apply Kd.qr1 | apply Kd.qq1 | apply Kd.qv1)); exact HO344.out) (Kd.qg1 ho0) hb); have n4_ := Aside0.mk (Kd.qj1 (Kd.ql1 (Kd.ql1 (Kd.ql1 ho0 (Kd.R_lt (by (with_reducible repeat (first | apply Kd.qe0 | apply Kd.qd0 | apply Kd.qf0)); exact HO_6.out))) (Kd.R_lt (by (with_reducible repeat (first | apply Kd.qe0 | apply Kd.qd0 | apply Kd.qf0)); exact HO_10.out))) (Kd.R_lt (by (with_reducible repeat (first | apply Kd.qe0 | apply Kd.qd0 | apply Kd.qf0)); exact HO341.out))) (qm0 (by repeat (first | (with_reducible first | exact HB.out | apply qc0 | apply qa0 | apply qb0) | exact HB.out)))); have n5_ := Aside0.mk (qr0 (by repeat (first | (with_reducible first | exact HB.out | apply qc0 | apply qa0 | apply qb0) | exact HB.out)) hb); clear HO_6; clear HO_10; clear HO341; clear HO344; clear HB; have HO_6 := n0_; have HO_10 := n1_; have HO341 := n2_; have HO344 := n3_; have HO348 := n4_; have HB := n5_; clear n0_ n1_ n2_ n3_ n4_ n5_; (try clear hb); (try clear hb2); (try clear hk); (try clear hi); (try clear ho0)))
        (try simp only [Act.put, List.setIfInBounds_toArray, List.set_cons_zero, List.set_cons_succ])
        go_cut [108] (fun v108 wc => ∃ (kq : Nat) (x108_64 : Bool), v108 = .bool x108_64 ∧ Aside0 (laws_FnExactStepDown.j2 kq t337 t336 x108_64 = some r) ∧ Aside0 (kq ≤ kj39) ∧ Aside0 (Kd.R (Kd.int .i64) 3 wc w.heap.size (fun _ => True) (.slice Ao66 t319.length co66) t337) ∧ Aside0 (Below w.heap.size w wc))
        case first =>
         have H := HC65.out
         clear HC65
         replace H := Option.bind_eq_some_iff.mp H
         obtain ⟨t349, A730, H⟩ := H
         replace H : (if t349 = true then (laws_FnExactStepDown.j2 kj39 t337 t336 (t346 != t310)) else (laws_FnExactStepDown.j2 kj39 t337 t336 true)) = some r := H
         have A73 := Aside0.mk A730
         clear A730
         by_cases c74 : t349 = true
         ·subst c74
          have H1 : (laws_FnExactStepDown.j2 kj39 t337 t336 (t346 != t310)) = some r := by rw [if_pos rfl] at H; exact H
          clear H
          have H := H1
          clear H1
          have H' := Aside0.mk H
          clear H
          obtain ⟨Ao75, co75, eo75⟩ := Kd.qy0 HO348.out
          subst eo75
          obtain ⟨Ao76, co76, eo76⟩ := Kd.qy0 HO_6.out
          subst eo76
          go_wp2_with (first | ((with_reducible refine ql0 (f := 39) rfl ?_); refine qx0 (some 102) rfl rfl Try.func39 (by kernel_rfl) rfl #[.slice Ao75 t345.length co75, .slice Ao76 t309.length co76] rfl (by (try simp only [List.map_toArray, List.map_cons, List.map_nil]); first | done | rfl | (simp only [List.length_drop, List.length_take]; rfl)) ?_; (with_reducible refine (laws_eqIntS.calls kj39 _ _ t345 _ _ t309 true _ ?side1 ?side2 ?side3 ?side4 A73.out).mono ?_); (case side1 => repeat (first | exact (Kd.qk0 HO348.out).2.2 | (with_reducible refine Kd.qt0 ?_ _) | (with_reducible refine Kd.qs0 ?_ _) | (with_reducible refine Kd.qu0 ?_))); (case side2 => exact (Kd.qk0 HO348.out).2.1); (case side3 => repeat (first | exact (Kd.qk0 HO_6.out).2.2 | (with_reducible refine Kd.qt0 ?_ _) | (with_reducible refine Kd.qs0 ?_ _) | (with_reducible refine Kd.qu0 ?_))); (case side4 => exact (Kd.qk0 HO_6.out).2.1); rintro e w' ⟨rfl, ⟨nd, rfl⟩⟩; refine ⟨_, rfl, ?_⟩))
          go_meet
          case rel => exact ⟨_, ((t346 != t310)), (by first | rfl | (simp; done) | (simp [*]; done)), H', ⟨by have := HJ12.out; have := HJ39.out; first | omega | exact Nat.le_refl _⟩, ⟨by (with_reducible repeat (first | apply Kd.qe0 | apply Kd.qd0 | apply Kd.qf0)); exact Kd.qq0 HO_10.out (fun _ hk => trivial)⟩, ⟨by repeat (first | (with_reducible first | exact HB.out | apply qc0 | apply qa0 | apply qb0) | exact HB.out)⟩⟩
         replace c74 := Bool.eq_false_iff.mpr c74
         subst c74
         have H1 : (laws_FnExactStepDown.j2 kj39 t337 t336 true) = some r := by rw [if_neg (show ¬ (false = true) by decide)] at H; exact H
         clear H
         have H := H1
         clear H1
         have H' := Aside0.mk H
         clear H
         obtain ⟨Ao77, co77, eo77⟩ := Kd.qy0 HO348.out
         subst eo77
         obtain ⟨Ao78, co78, eo78⟩ := Kd.qy0 HO_6.out
         subst eo78
         go_wp2_with (first | ((with_reducible refine ql0 (f := 39) rfl ?_); refine qx0 (some 102) rfl rfl Try.func39 (by kernel_rfl) rfl #[.slice Ao77 t345.length co77, .slice Ao78 t309.length co78] rfl (by (try simp only [List.map_toArray, List.map_cons, List.map_nil]); first | done | rfl | (simp only [List.length_drop, List.length_take]; rfl)) ?_; (with_reducible refine (laws_eqIntS.calls kj39 _ _ t345 _ _ t309 false _ ?side1 ?side2 ?side3 ?side4 A73.out).mono ?_); (case side1 => repeat (first | exact (Kd.qk0 HO348.out).2.2 | (with_reducible refine Kd.qt0 ?_ _) | (with_reducible refine Kd.qs0 ?_ _) | (with_reducible refine Kd.qu0 ?_))); (case side2 => exact (Kd.qk0 HO348.out).2.1); (case side3 => repeat (first | exact (Kd.qk0 HO_6.out).2.2 | (with_reducible refine Kd.qt0 ?_ _) | (with_reducible refine Kd.qs0 ?_ _) | (with_reducible refine Kd.qu0 ?_))); (case side4 => exact (Kd.qk0 HO_6.out).2.1); rintro e w' ⟨rfl, ⟨nd, rfl⟩⟩; refine ⟨_, rfl, ?_⟩))
         go_meet
         case rel => exact ⟨_, (true), (by first | rfl | (simp; done) | (simp [*]; done)), H', ⟨by have := HJ12.out; have := HJ39.out; first | omega | exact Nat.le_refl _⟩, ⟨by (with_reducible repeat (first | apply Kd.qe0 | apply Kd.qd0 | apply Kd.qf0)); exact Kd.qq0 HO_10.out (fun _ hk => trivial)⟩, ⟨by repeat (first | (with_reducible first | exact HB.out | apply qc0 | apply qa0 | apply qb0) | exact HB.out)⟩⟩
        case rest =>
         clear HC65
         try clear c1
         try clear c2
         try clear p2
         try clear c3
         try clear c3b0
         try clear c3b1
         try clear c4
         try clear c5
         try clear c5b0
         try clear c6
         try clear c7
         try clear c9
         try clear c26
         try clear c31
         try clear c34
         try clear c37
         try clear c39
         try clear c42
         try clear c43
         try clear c44
         try clear c45
         try clear c46
         try clear c47
         try clear c48
         try clear c48b0
         try clear c49
         try clear c50
         try clear c55
         try clear c58
         try clear c58b0
         try clear c61
         try clear c61b0
         try clear c61b1
         try clear c74
         try clear p2
         obtain ⟨kq, x108_64, rfl, HA, HJ64, HO_10, HB⟩ := hcut
         have hl10_64 := (Kd.qk0 HO_10.out).1
         rw [hl10_64] at HO_10
         (try simp only [hl10_64])
         cases kq with
         | zero => exact absurd HA.out (by simp [laws_FnExactStepDown.j2])
         | succ kj64 =>
          have H := HA.out
          clear HA
          simp only [laws_FnExactStepDown.j2] at H
          by_cases c79 : x108_64 = true
          ·subst c79
           have H1 : (some false) = some r := by rw [if_pos rfl] at H; exact H
           clear H
           have H := H1
           clear H1
           obtain rfl := Option.some.inj H
           go_wp2
           go_ret
           exact ⟨by first | rfl | (simp [errW_none, errW_some] <;> rfl) | (simp [*, errW_none, errW_some] <;> rfl), by repeat (first | (with_reducible first | exact HB.out | apply qc0 | apply qa0 | apply qb0) | exact HB.out)⟩
          replace c79 := Bool.eq_false_iff.mpr c79
          subst c79
          have H1 : ((laws_heldIntS.f kj64 t337 1).bind fun t350 => (if t350 < 0 then (some false) else (if t350 = t336 then (some true) else (some false)))) = some r := by rw [if_neg (show ¬ (false = true) by decide)] at H; exact H
          clear H
          have H := H1
          clear H1
          replace H := Option.bind_eq_some_iff.mp H
          obtain ⟨t350, A800, H⟩ := H
          replace H : (if t350 < 0 then (some false) else (if t350 = t336 then (some true) else (some false))) = some r := H
          have A80 := Aside0.mk A800
          clear A800
          by_cases c81 : t350 < 0
          ·rw [if_pos c81] at H
           have c81b0 : decide (t350 < 0) = true := decide_eq_true c81
           clear c81
           obtain rfl := Option.some.inj H
           go_wp2_with (first | ((with_reducible refine ql0 (f := 43) rfl ?_); refine qx0 (some 111) rfl rfl Try.func43 (by kernel_rfl) rfl #[.slice Ao66 t337.length co66, .int .i64 1] rfl (by (try simp only [List.map_toArray, List.map_cons, List.map_nil]); first | done | rfl | (simp only [List.length_drop, List.length_take]; rfl)) ?_; (with_reducible refine (laws_heldIntS.calls kj64 _ _ t337 1 t350 _ ?side1 ?side2 A80.out).mono ?_); (case side1 => repeat (first | exact (Kd.qk0 HO_10.out).2.2 | (with_reducible refine Kd.qt0 ?_ _) | (with_reducible refine Kd.qs0 ?_ _) | (with_reducible refine Kd.qu0 ?_))); (case side2 => exact (Kd.qk0 HO_10.out).2.1); rintro e w' ⟨rfl, ⟨nd, rfl⟩⟩; refine ⟨_, rfl, ?_⟩))
           go_ret
           exact ⟨by first | rfl | (simp [errW_none, errW_some] <;> rfl) | (simp [*, errW_none, errW_some] <;> rfl), by repeat (first | (with_reducible first | exact HB.out | apply qc0 | apply qa0 | apply qb0) | exact HB.out)⟩
          rw [if_neg c81] at H
          have c81b0 : decide (t350 < 0) = false := decide_eq_false c81
          clear c81
          by_cases c82 : t350 = t336
          ·rw [if_pos c82] at H
           have c82b0 : (t350 == t336) = true := beq_iff_eq.mpr c82
           have c82b1 : (t350 != t336) = false := bne_eq_false_iff_eq.mpr c82
           clear c82
           obtain rfl := Option.some.inj H
           go_wp2_with (first | ((with_reducible refine ql0 (f := 43) rfl ?_); refine qx0 (some 111) rfl rfl Try.func43 (by kernel_rfl) rfl #[.slice Ao66 t337.length co66, .int .i64 1] rfl (by (try simp only [List.map_toArray, List.map_cons, List.map_nil]); first | done | rfl | (simp only [List.length_drop, List.length_take]; rfl)) ?_; (with_reducible refine (laws_heldIntS.calls kj64 _ _ t337 1 t350 _ ?side1 ?side2 A80.out).mono ?_); (case side1 => repeat (first | exact (Kd.qk0 HO_10.out).2.2 | (with_reducible refine Kd.qt0 ?_ _) | (with_reducible refine Kd.qs0 ?_ _) | (with_reducible refine Kd.qu0 ?_))); (case side2 => exact (Kd.qk0 HO_10.out).2.1); rintro e w' ⟨rfl, ⟨nd, rfl⟩⟩; refine ⟨_, rfl, ?_⟩))
           go_ret
           exact ⟨by first | rfl | (simp [errW_none, errW_some] <;> rfl) | (simp [*, errW_none, errW_some] <;> rfl), by repeat (first | (with_reducible first | exact HB.out | apply qc0 | apply qa0 | apply qb0) | exact HB.out)⟩
          rw [if_neg c82] at H
          have c82b0 : (t350 == t336) = false := beq_eq_false_iff_ne.mpr c82
          have c82b1 : (t350 != t336) = true := bne_iff_ne.mpr c82
          obtain rfl := Option.some.inj H
          go_wp2_with (first | ((with_reducible refine ql0 (f := 43) rfl ?_); refine qx0 (some 111) rfl rfl Try.func43 (by kernel_rfl) rfl #[.slice Ao66 t337.length co66, .int .i64 1] rfl (by (try simp only [List.map_toArray, List.map_cons, List.map_nil]); first | done | rfl | (simp only [List.length_drop, List.length_take]; rfl)) ?_; (with_reducible refine (laws_heldIntS.calls kj64 _ _ t337 1 t350 _ ?side1 ?side2 A80.out).mono ?_); (case side1 => repeat (first | exact (Kd.qk0 HO_10.out).2.2 | (with_reducible refine Kd.qt0 ?_ _) | (with_reducible refine Kd.qs0 ?_ _) | (with_reducible refine Kd.qu0 ?_))); (case side2 => exact (Kd.qk0 HO_10.out).2.1); rintro e w' ⟨rfl, ⟨nd, rfl⟩⟩; refine ⟨_, rfl, ?_⟩))
          go_ret
          exact ⟨by first | rfl | (simp [errW_none, errW_some] <;> rfl) | (simp [*, errW_none, errW_some] <;> rfl), by repeat (first | (with_reducible first | exact HB.out | apply qc0 | apply qa0 | apply qb0) | exact HB.out)⟩
       rw [if_neg c61] at H
       have c61b0 : (t338 == t336) = false := beq_eq_false_iff_ne.mpr c61
       have c61b1 : (t338 != t336) = true := bne_iff_ne.mpr c61
       obtain rfl := Option.some.inj H
       obtain ⟨Ao83, co83, eo83⟩ := Kd.qy0 HO_10.out
       subst eo83
       go_wp2_with (first | ((with_reducible refine ql0 (f := 42) rfl ?_); refine qx0 (some 83) rfl rfl Try.func42 (by kernel_rfl) rfl #[.slice Ao83 t319.length co83, .int .i64 1] rfl (by (try simp only [List.map_toArray, List.map_cons, List.map_nil]); first | done | rfl | (simp only [List.length_drop, List.length_take]; rfl)) ?_; (with_reducible refine (laws_markIntS.calls kj39 (fun k_ => some k_ = (.slice Ao83 t319.length co83 : Value).ownBlock) (.slice Ao83 t319.length co83) t319 1 t336 t337 w _ ?side1 ?side2 A56.out).mono ?_); (case side1 => repeat (first | (with_reducible first | exact HB.out | apply qc0 | apply qa0 | apply qb0) | exact HB.out)); (case side2 => exact Kd.R_tight rfl HO_10.out); rintro e w84 ⟨rfl, hy0, hb, hkp⟩; refine ⟨_, rfl, ?_⟩; have n0_ := Aside0.mk (Kd.qq0 (ok' := fun k_ => some k_ ≠ (.slice Ao83 t319.length co83 : Value).ownBlock) (Kd.R_keptB (HO_6.out) hkp (fun k_ hk_ hs_ => (hk_) hs_)) (fun k_ hk_ => hk_.1)); have n1_ := Aside0.mk (Kd.R_reok rfl hy0 (fun k_ e_ => HO_10.out.1 k_ e_)); have n2_ := Aside0.mk (hb); clear HO_6; clear HO_10; clear HB; have HO_6 := n0_; have HO_10 := n1_; have HB := n2_; clear n0_ n1_ n2_; (try clear hb); (try clear hkp); (try clear hy0)) | ((with_reducible refine ql0 (f := 43) rfl ?_); refine qx0 (some 86) rfl rfl Try.func43 (by kernel_rfl) rfl #[.slice Ao83 t337.length co83, .int .i64 1] rfl (by (try simp only [List.map_toArray, List.map_cons, List.map_nil]); first | done | (rw [show t337.length = t319.length from (Kd.qk0 HO_10.out).1.symm] <;> rfl) | rfl | (simp only [List.length_drop, List.length_take]; rfl)) ?_; (with_reducible refine (laws_heldIntS.calls kj39 _ _ t337 1 t338 _ ?side1 ?side2 A57.out).mono ?_); (case side1 => repeat (first | exact (Kd.qk0 HO_10.out).2.2 | (with_reducible refine Kd.qt0 ?_ _) | (with_reducible refine Kd.qs0 ?_ _) | (with_reducible refine Kd.qu0 ?_))); (case side2 => rw [show t337.length = t319.length from (Kd.qk0 HO_10.out).1.symm]; exact (Kd.qk0 HO_10.out).2.1); rintro e w' ⟨rfl, ⟨nd, rfl⟩⟩; refine ⟨_, rfl, ?_⟩))
       go_ret
       exact ⟨by first | rfl | (simp [errW_none, errW_some] <;> rfl) | (simp [*, errW_none, errW_some] <;> rfl), by repeat (first | (with_reducible first | exact HB.out | apply qc0 | apply qa0 | apply qb0) | exact HB.out)⟩
    replace c37 := Bool.eq_false_iff.mpr c37
    subst c37
    have H1 : (some false) = some r := by rw [if_neg (show ¬ (false = true) by decide)] at H; exact H
    clear H
    have H := H1
    clear H1
    obtain rfl := Option.some.inj H
    go_wp2_with (first | ((with_reducible refine ql0 (f := 46) rfl ?_); refine qx0 (some 54) rfl rfl Try.func46 (by kernel_rfl) rfl #[.slice A0 l0.length c0] rfl (by (try simp only [List.map_toArray, List.map_cons, List.map_nil]); first | done | rfl | (simp only [List.length_drop, List.length_take]; rfl)) ?_; (with_reducible refine (laws_toIntS.calls kj12 _ _ l0 t324 _ ?side1 ?side2 A32.out).mono ?_); (case side1 => repeat (first | exact (Kd.qz0 HR0.out HB.out) | (with_reducible refine Kd.qt0 ?_ _) | (with_reducible refine Kd.qs0 ?_ _) | (with_reducible refine Kd.qu0 ?_))); (case side2 => exact HC0.out); rintro e w85 ⟨v325, rfl, ho0, hb⟩; refine ⟨_, rfl, ?_⟩; have n0_ := Aside0.mk (Kd.qb1 (by (with_reducible repeat (first | apply Kd.qe0 | apply Kd.qd0 | apply Kd.qf0)); exact HO_6.out) (Kd.qg1 ho0) hb); have n1_ := Aside0.mk (Kd.qb1 (by (with_reducible repeat (first | apply Kd.qe0 | apply Kd.qd0 | apply Kd.qf0)); exact HO_8.out) (Kd.qg1 ho0) hb); have n2_ := Aside0.mk (Kd.S_elder' (by (with_reducible repeat (first | apply Kd.qr1 | apply Kd.qq1 | apply Kd.qv1)); exact HO_9.out) (Kd.qg1 ho0) hb); have n3_ := Aside0.mk (Kd.qb1 (by (with_reducible repeat (first | apply Kd.qe0 | apply Kd.qd0 | apply Kd.qf0)); exact HO_10.out) (Kd.qg1 ho0) hb); have n4_ := Aside0.mk (Kd.qj1 (Kd.ql1 (Kd.ql1 (Kd.ql1 ho0 (Kd.R_lt (by (with_reducible repeat (first | apply Kd.qe0 | apply Kd.qd0 | apply Kd.qf0)); exact HO_6.out))) (Kd.R_lt (by (with_reducible repeat (first | apply Kd.qe0 | apply Kd.qd0 | apply Kd.qf0)); exact HO_8.out))) (Kd.R_lt (by (with_reducible repeat (first | apply Kd.qe0 | apply Kd.qd0 | apply Kd.qf0)); exact HO_10.out))) (qm0 (by repeat (first | (with_reducible first | exact HB.out | apply qc0 | apply qa0 | apply qb0) | exact HB.out)))); have n5_ := Aside0.mk (qr0 (by repeat (first | (with_reducible first | exact HB.out | apply qc0 | apply qa0 | apply qb0) | exact HB.out)) hb); clear HO_6; clear HO_8; clear HO_9; clear HO_10; clear HB; have HO_6 := n0_; have HO_8 := n1_; have HO_9 := n2_; have HO_10 := n3_; have HO326 := n4_; have HB := n5_; clear n0_ n1_ n2_ n3_ n4_ n5_; (try clear hb); (try clear hb2); (try clear hk); (try clear hi); (try clear ho0); obtain ⟨Ao86, co86, eo86⟩ := Kd.qy0 HO326.out; subst eo86) | ((with_reducible refine ql0 (f := 39) rfl ?_); refine qx0 (some 55) rfl rfl Try.func39 (by kernel_rfl) rfl #[.slice Ao22 t313.length co22, .slice Ao86 t324.length co86] rfl (by (try simp only [List.map_toArray, List.map_cons, List.map_nil]); first | done | rfl | (simp only [List.length_drop, List.length_take]; rfl)) ?_; (with_reducible refine (laws_eqIntS.calls kj12 _ _ t313 _ _ t324 true _ ?side1 ?side2 ?side3 ?side4 A33.out).mono ?_); (case side1 => repeat (first | exact (Kd.qk0 HO_8.out).2.2 | (with_reducible refine Kd.qt0 ?_ _) | (with_reducible refine Kd.qs0 ?_ _) | (with_reducible refine Kd.qu0 ?_))); (case side2 => exact (Kd.qk0 HO_8.out).2.1); (case side3 => repeat (first | exact (Kd.qk0 HO326.out).2.2 | (with_reducible refine Kd.qt0 ?_ _) | (with_reducible refine Kd.qs0 ?_ _) | (with_reducible refine Kd.qu0 ?_))); (case side4 => exact (Kd.qk0 HO326.out).2.1); rintro e w' ⟨rfl, ⟨nd, rfl⟩⟩; refine ⟨_, rfl, ?_⟩) | ((with_reducible refine ql0 (f := 47) rfl ?_); refine qx0 (some 59) rfl rfl Try.func47 (by kernel_rfl) rfl #[.slice A1 l1.length c1] rfl (by (try simp only [List.map_toArray, List.map_cons, List.map_nil]); first | done | rfl | (simp only [List.length_drop, List.length_take]; rfl)) ?_; (with_reducible refine (laws_toRuleS.calls kj12 _ _ l1 t328 _ ?side1 ?side2 A35.out).mono ?_); (case side1 => repeat (first | exact (Kd.qz0 HR1.out (by repeat (first | (with_reducible first | exact HB.out | apply qc0 | apply qa0 | apply qb0) | exact HB.out))) | (with_reducible refine Kd.qt0 ?_ _) | (with_reducible refine Kd.qs0 ?_ _) | (with_reducible refine Kd.qu0 ?_))); (case side2 => exact HC1.out); rintro e w87 ⟨v329, rfl, ho0, hb⟩; refine ⟨_, rfl, ?_⟩; have n0_ := Aside0.mk (Kd.qf1 (by (with_reducible repeat (first | apply Kd.qe0 | apply Kd.qd0 | apply Kd.qf0)); exact HO_6.out) hb); have n1_ := Aside0.mk (Kd.qf1 (by (with_reducible repeat (first | apply Kd.qe0 | apply Kd.qd0 | apply Kd.qf0)); exact HO_8.out) hb); have n2_ := Aside0.mk (Kd.S_elder' (by (with_reducible repeat (first | apply Kd.qr1 | apply Kd.qq1 | apply Kd.qv1)); exact HO_9.out) (Kd.S_base ho0) hb); have n3_ := Aside0.mk (Kd.qf1 (by (with_reducible repeat (first | apply Kd.qe0 | apply Kd.qd0 | apply Kd.qf0)); exact HO_10.out) hb); have n4_ := Aside0.mk (Kd.qf1 (by (with_reducible repeat (first | apply Kd.qe0 | apply Kd.qd0 | apply Kd.qf0)); exact HO326.out) hb); have n5_ := Aside0.mk (Kd.S_lower (Kd.S_new' (Kd.S_new' (Kd.S_new' (Kd.S_new' (Kd.S_new' ho0 (Kd.R_lt (by (with_reducible repeat (first | apply Kd.qe0 | apply Kd.qd0 | apply Kd.qf0)); exact HO_6.out))) (Kd.R_lt (by (with_reducible repeat (first | apply Kd.qe0 | apply Kd.qd0 | apply Kd.qf0)); exact HO_8.out))) (Kd.S_lt (by (with_reducible repeat (first | apply Kd.qr1 | apply Kd.qq1 | apply Kd.qv1)); exact HO_9.out))) (Kd.R_lt (by (with_reducible repeat (first | apply Kd.qe0 | apply Kd.qd0 | apply Kd.qf0)); exact HO_10.out))) (Kd.R_lt (by (with_reducible repeat (first | apply Kd.qe0 | apply Kd.qd0 | apply Kd.qf0)); exact HO326.out))) (qm0 (by repeat (first | (with_reducible first | exact HB.out | apply qc0 | apply qa0 | apply qb0) | exact HB.out)))); have n6_ := Aside0.mk (qr0 (by repeat (first | (with_reducible first | exact HB.out | apply qc0 | apply qa0 | apply qb0) | exact HB.out)) hb); clear HO_6; clear HO_8; clear HO_9; clear HO_10; clear HO326; clear HB; have HO_6 := n0_; have HO_8 := n1_; have HO_9 := n2_; have HO_10 := n3_; have HO326 := n4_; have HO330 := n5_; have HB := n6_; clear n0_ n1_ n2_ n3_ n4_ n5_ n6_; (try clear hb); (try clear hb2); (try clear hk); (try clear hi); (try clear ho0); obtain ⟨Ao88, co88, eo88⟩ := Kd.S_slice HO330.out; subst eo88) | ((with_reducible refine ql0 (f := 49) rfl ?_); refine qx0 (some 60) rfl rfl Try.func49 (by kernel_rfl) rfl #[.slice Ao23 t316.length co23, .slice Ao88 t328.length co88] rfl (by (try simp only [List.map_toArray, List.map_cons, List.map_nil]); first | done | rfl | (simp only [List.length_drop, List.length_take]; rfl)) ?_; (with_reducible refine (laws_eqRuleS.calls kj12 _ _ t316 _ _ t328 false _ ?side1 ?side2 ?side3 ?side4 A36.out).mono ?_); (case side1 => repeat (first | exact (Kd.S_reads' HO_9.out).2.2 | (with_reducible refine Kd.qt0 ?_ _) | (with_reducible refine Kd.qs0 ?_ _) | (with_reducible refine Kd.qu0 ?_))); (case side2 => exact (Kd.S_reads' HO_9.out).2.1); (case side3 => repeat (first | exact (Kd.S_reads' HO330.out).2.2 | (with_reducible refine Kd.qt0 ?_ _) | (with_reducible refine Kd.qs0 ?_ _) | (with_reducible refine Kd.qu0 ?_))); (case side4 => exact (Kd.S_reads' HO330.out).2.1); rintro e w89 ⟨rfl, hb⟩; refine ⟨_, rfl, ?_⟩; have n0_ := Aside0.mk (Kd.qf1 (by (with_reducible repeat (first | apply Kd.qe0 | apply Kd.qd0 | apply Kd.qf0)); exact HO_6.out) hb); have n1_ := Aside0.mk (Kd.qf1 (by (with_reducible repeat (first | apply Kd.qe0 | apply Kd.qd0 | apply Kd.qf0)); exact HO_8.out) hb); have n2_ := Aside0.mk (Kd.S_below (by (with_reducible repeat (first | apply Kd.qr1 | apply Kd.qq1 | apply Kd.qv1)); exact HO_9.out) hb); have n3_ := Aside0.mk (Kd.qf1 (by (with_reducible repeat (first | apply Kd.qe0 | apply Kd.qd0 | apply Kd.qf0)); exact HO_10.out) hb); have n4_ := Aside0.mk (Kd.qf1 (by (with_reducible repeat (first | apply Kd.qe0 | apply Kd.qd0 | apply Kd.qf0)); exact HO326.out) hb); have n5_ := Aside0.mk (Kd.S_below (by (with_reducible repeat (first | apply Kd.qr1 | apply Kd.qq1 | apply Kd.qv1)); exact HO330.out) hb); have n6_ := Aside0.mk (qr0 (by repeat (first | (with_reducible first | exact HB.out | apply qc0 | apply qa0 | apply qb0) | exact HB.out)) hb); clear HO_6; clear HO_8; clear HO_9; clear HO_10; clear HO326; clear HO330; clear HB; have HO_6 := n0_; have HO_8 := n1_; have HO_9 := n2_; have HO_10 := n3_; have HO326 := n4_; have HO330 := n5_; have HB := n6_; clear n0_ n1_ n2_ n3_ n4_ n5_ n6_; (try clear hb); (try clear hb2); (try clear hk); (try clear hi)))
    go_ret
    exact ⟨by first | rfl | (simp [errW_none, errW_some] <;> rfl) | (simp [*, errW_none, errW_some] <;> rfl), by repeat (first | (with_reducible first | exact HB.out | apply qc0 | apply qa0 | apply qb0) | exact HB.out)⟩
   replace c34 := Bool.eq_false_iff.mpr c34
   subst c34
   have H1 : (some false) = some r := by rw [if_neg (show ¬ (false = true) by decide)] at H; exact H
   clear H
   have H := H1
   clear H1
   obtain rfl := Option.some.inj H
   go_wp2_with (first | ((with_reducible refine ql0 (f := 46) rfl ?_); refine qx0 (some 54) rfl rfl Try.func46 (by kernel_rfl) rfl #[.slice A0 l0.length c0] rfl (by (try simp only [List.map_toArray, List.map_cons, List.map_nil]); first | done | rfl | (simp only [List.length_drop, List.length_take]; rfl)) ?_; (with_reducible refine (laws_toIntS.calls kj12 _ _ l0 t324 _ ?side1 ?side2 A32.out).mono ?_); (case side1 => repeat (first | exact (Kd.qz0 HR0.out HB.out) | (with_reducible refine Kd.qt0 ?_ _) | (with_reducible refine Kd.qs0 ?_ _) | (with_reducible refine Kd.qu0 ?_))); (case side2 => exact HC0.out); rintro e w90 ⟨v325, rfl, ho0, hb⟩; refine ⟨_, rfl, ?_⟩; have n0_ := Aside0.mk (Kd.qb1 (by (with_reducible repeat (first | apply Kd.qe0 | apply Kd.qd0 | apply Kd.qf0)); exact HO_6.out) (Kd.qg1 ho0) hb); have n1_ := Aside0.mk (Kd.qb1 (by (with_reducible repeat (first | apply Kd.qe0 | apply Kd.qd0 | apply Kd.qf0)); exact HO_8.out) (Kd.qg1 ho0) hb); have n2_ := Aside0.mk (Kd.S_elder' (by (with_reducible repeat (first | apply Kd.qr1 | apply Kd.qq1 | apply Kd.qv1)); exact HO_9.out) (Kd.qg1 ho0) hb); have n3_ := Aside0.mk (Kd.qb1 (by (with_reducible repeat (first | apply Kd.qe0 | apply Kd.qd0 | apply Kd.qf0)); exact HO_10.out) (Kd.qg1 ho0) hb); have n4_ := Aside0.mk (Kd.qj1 (Kd.ql1 (Kd.ql1 (Kd.ql1 ho0 (Kd.R_lt (by (with_reducible repeat (first | apply Kd.qe0 | apply Kd.qd0 | apply Kd.qf0)); exact HO_6.out))) (Kd.R_lt (by (with_reducible repeat (first | apply Kd.qe0 | apply Kd.qd0 | apply Kd.qf0)); exact HO_8.out))) (Kd.R_lt (by (with_reducible repeat (first | apply Kd.qe0 | apply Kd.qd0 | apply Kd.qf0)); exact HO_10.out))) (qm0 (by repeat (first | (with_reducible first | exact HB.out | apply qc0 | apply qa0 | apply qb0) | exact HB.out)))); have n5_ := Aside0.mk (qr0 (by repeat (first | (with_reducible first | exact HB.out | apply qc0 | apply qa0 | apply qb0) | exact HB.out)) hb); clear HO_6; clear HO_8; clear HO_9; clear HO_10; clear HB; have HO_6 := n0_; have HO_8 := n1_; have HO_9 := n2_; have HO_10 := n3_; have HO326 := n4_; have HB := n5_; clear n0_ n1_ n2_ n3_ n4_ n5_; (try clear hb); (try clear hb2); (try clear hk); (try clear hi); (try clear ho0); obtain ⟨Ao91, co91, eo91⟩ := Kd.qy0 HO326.out; subst eo91) | ((with_reducible refine ql0 (f := 39) rfl ?_); refine qx0 (some 55) rfl rfl Try.func39 (by kernel_rfl) rfl #[.slice Ao22 t313.length co22, .slice Ao91 t324.length co91] rfl (by (try simp only [List.map_toArray, List.map_cons, List.map_nil]); first | done | rfl | (simp only [List.length_drop, List.length_take]; rfl)) ?_; (with_reducible refine (laws_eqIntS.calls kj12 _ _ t313 _ _ t324 false _ ?side1 ?side2 ?side3 ?side4 A33.out).mono ?_); (case side1 => repeat (first | exact (Kd.qk0 HO_8.out).2.2 | (with_reducible refine Kd.qt0 ?_ _) | (with_reducible refine Kd.qs0 ?_ _) | (with_reducible refine Kd.qu0 ?_))); (case side2 => exact (Kd.qk0 HO_8.out).2.1); (case side3 => repeat (first | exact (Kd.qk0 HO326.out).2.2 | (with_reducible refine Kd.qt0 ?_ _) | (with_reducible refine Kd.qs0 ?_ _) | (with_reducible refine Kd.qu0 ?_))); (case side4 => exact (Kd.qk0 HO326.out).2.1); rintro e w' ⟨rfl, ⟨nd, rfl⟩⟩; refine ⟨_, rfl, ?_⟩))
   go_ret
   exact ⟨by first | rfl | (simp [errW_none, errW_some] <;> rfl) | (simp [*, errW_none, errW_some] <;> rfl), by repeat (first | (with_reducible first | exact HB.out | apply qc0 | apply qa0 | apply qb0) | exact HB.out)⟩

/-- THE ONE PURE STATEMENT of laws_FnExactStepDown. -/
def laws_FnExactStepDown.Pure : Prop := ∀ (l0 : List Int) (l1 : List (S150)), ((l0.length ≤ maxLen ∧ ∀ a_ ∈ l0, (Lit.int .i64 a_).wf = true)) → ((l1.length ≤ maxLen ∧ ∀ a_ ∈ l1, G150 a_)) → ∃ k, laws_FnExactStepDown.f k l0 l1 = some true

end Go.Proofs.Ytdnhpicgjkddbaa.PFnExactStepDown
