/- Lines by a program (a changed copy of the kit's print: this repo's wip/tools): Go functions as Lean functions, and proofs that the calls answer so. -/
import Derived.Test.YtlodndejipjceaaZPFnExactLandedx0
import Derived.Test.YtlodndejipjceaaZPFnExactLandedx5
import Derived.Test.YtlodndejipjceaaZPFnExactLandedx7
import Derived.Test.YtlodndejipjceaaZPFnExactLandedx8
namespace Go.Proofs.Ytlodndejipjceaa.PFnExactLanded
open Go.RowKit Go.Proofs.YtlodndejipjceaaW.PrintWords Go.Proofs.YtlodndejipjceaaW.PrintLast Go.Proofs.YtlodndejipjceaaW.PrintMore
attribute [local go_sem] max2_int min2_int max_two min_two max_three min_three max_four min_four   -- for this text's walks alone
set_option linter.unusedVariables false
set_option linter.unusedSimpArgs false

/-! ### laws_FnExactLanded: function 8 -/
mutual
def laws_FnExactLanded.j0 : Nat → List (S154) → Int → Int → List (S61) → Bool → List (S61) → List (S61) → Bool → Bool → Option (Bool)
 | 0, _, _, _, _, _, _, _, _, _ => none
 | k + 1, x0, x1, x2, x8, x9, x10, x11, x12, x48 => if x48 = true then (some false) else ((laws_toLayS.f k x0).bind fun t295 => ((laws_eqLayS.f k x10 t295).bind fun t298 => (if t298 = true then ((laws_markLayS.f k x10 1).bind fun bt299 => (if bt299.1 < 0 then (laws_FnExactLanded.j1 k x0 x1 x2 x8 x9 x11 true) else ((laws_eqLayS.f k x11 x8).bind fun t301 => (if t301 = true then (laws_FnExactLanded.j1 k x0 x1 x2 x8 x9 x11 (x12 != x9)) else (laws_FnExactLanded.j1 k x0 x1 x2 x8 x9 x11 true))))) else (some false))))
def laws_FnExactLanded.j1 : Nat → List (S154) → Int → Int → List (S61) → Bool → List (S61) → Bool → Option (Bool)
 | 0, _, _, _, _, _, _, _ => none
 | k + 1, x0, x1, x2, x8, x9, x11, x69 => if x69 = true then (some false) else ((laws_markLayS.f k x11 1).bind fun bt302 => ((laws_heldLayS.f k bt302.2 1).bind fun t304 => (if t304 < 0 then (some false) else (if t304 = bt302.1 then ((laws_toLayS.f k x0).bind fun t305 => ((impl_Landed.f k t305 x1 x2).bind fun bt308 => ((laws_eqLayS.f k bt308.1 x8).bind fun t312 => (if t312 = true then (laws_FnExactLanded.j2 k bt302.2 bt302.1 (bt308.2 != x9)) else (laws_FnExactLanded.j2 k bt302.2 bt302.1 true))))) else (some false)))))
def laws_FnExactLanded.j2 : Nat → List (S61) → Int → Bool → Option (Bool)
 | 0, _, _, _ => none
 | k + 1, x11, x14, x97 => if x97 = true then (some false) else ((laws_heldLayS.f k x11 1).bind fun t313 => (if t313 < 0 then (some false) else (if t313 = x14 then (some true) else (some false))))
end
def laws_FnExactLanded.f (k : Nat) (l0 : List (S154)) (a1 : Int) (a2 : Int) : Option (Bool) := (laws_szLayS.f l0 1048576).bind fun t279 => (if t279 < 0 then (some true) else ((laws_toLayS.f k l0).bind fun t280 => ((spec_Landed.f k t280 a1 a2).bind fun bt283 => ((laws_toLayS.f k l0).bind fun t287 => ((impl_Landed.f k t287 a1 a2).bind fun bt290 => ((laws_eqLayS.f k bt290.1 bt283.1).bind fun t294 => (if t294 = true then (laws_FnExactLanded.j0 k l0 a1 a2 bt283.1 bt283.2 t287 bt290.1 bt290.2 (bt290.2 != bt283.2)) else (laws_FnExactLanded.j0 k l0 a1 a2 bt283.1 bt283.2 t287 bt290.1 bt290.2 true))))))))
theorem laws_FnExactLanded.mono_l : ∀ k, (∀ y0 y1 y2 y3 y4 y5 y6 y7 y8, LeO (laws_FnExactLanded.j0 k y0 y1 y2 y3 y4 y5 y6 y7 y8) (laws_FnExactLanded.j0 (k + 1) y0 y1 y2 y3 y4 y5 y6 y7 y8)) ∧ (∀ y0 y1 y2 y3 y4 y5 y6, LeO (laws_FnExactLanded.j1 k y0 y1 y2 y3 y4 y5 y6) (laws_FnExactLanded.j1 (k + 1) y0 y1 y2 y3 y4 y5 y6)) ∧ (∀ y0 y1 y2, LeO (laws_FnExactLanded.j2 k y0 y1 y2) (laws_FnExactLanded.j2 (k + 1) y0 y1 y2))
 | 0 => ⟨fun _ _ _ _ _ _ _ _ _ r h => by simp [laws_FnExactLanded.j0] at h, fun _ _ _ _ _ _ _ r h => by simp [laws_FnExactLanded.j1] at h, fun _ _ _ r h => by simp [laws_FnExactLanded.j2] at h⟩
 | k + 1 => by
  obtain ⟨ih0, ih1, ih2⟩ := laws_FnExactLanded.mono_l k
  refine ⟨?_, ?_, ?_⟩
  ·intro y0 y1 y2 y3 y4 y5 y6 y7 y8
   unfold laws_FnExactLanded.j0
   repeat' first
   | (with_reducible exact ih0 _ _ _ _ _ _ _ _ _)
   | (with_reducible exact ih1 _ _ _ _ _ _ _)
   | (with_reducible exact ih2 _ _ _)
   | (with_reducible exact impl_Landed.mono _ _ _ _)
   | (with_reducible exact laws_eqLayS.mono _ _ _)
   | (with_reducible exact laws_heldLayS.mono _ _ _)
   | (with_reducible exact laws_markLayS.mono _ _ _)
   | (with_reducible exact laws_toLayS.mono _ _)
   | (with_reducible exact spec_Landed.mono _ _ _ _)
   | (with_reducible exact LeO.refl _)
   | (with_reducible exact LeO.none _)
   | (with_reducible refine LeO.ite ?_ ?_)
   | (with_reducible refine LeO.bind ?_ (fun _ => ?_))
   | exact ih0 _ _ _ _ _ _ _ _ _
   | exact ih1 _ _ _ _ _ _ _
   | exact ih2 _ _ _
   | exact impl_Landed.mono _ _ _ _
   | exact laws_eqLayS.mono _ _ _
   | exact laws_heldLayS.mono _ _ _
   | exact laws_markLayS.mono _ _ _
   | exact laws_toLayS.mono _ _
   | exact spec_Landed.mono _ _ _ _
   | exact LeO.none _
   | refine LeO.ite ?_ ?_
   | refine LeO.bind ?_ (fun _ => ?_)
  ·intro y0 y1 y2 y3 y4 y5 y6
   unfold laws_FnExactLanded.j1
   repeat' first
   | (with_reducible exact ih0 _ _ _ _ _ _ _ _ _)
   | (with_reducible exact ih1 _ _ _ _ _ _ _)
   | (with_reducible exact ih2 _ _ _)
   | (with_reducible exact impl_Landed.mono _ _ _ _)
   | (with_reducible exact laws_eqLayS.mono _ _ _)
   | (with_reducible exact laws_heldLayS.mono _ _ _)
   | (with_reducible exact laws_markLayS.mono _ _ _)
   | (with_reducible exact laws_toLayS.mono _ _)
   | (with_reducible exact spec_Landed.mono _ _ _ _)
   | (with_reducible exact LeO.refl _)
   | (with_reducible exact LeO.none _)
   | (with_reducible refine LeO.ite ?_ ?_)
   | (with_reducible refine LeO.bind ?_ (fun _ => ?_))
   | exact ih0 _ _ _ _ _ _ _ _ _
   | exact ih1 _ _ _ _ _ _ _
   | exact ih2 _ _ _
   | exact impl_Landed.mono _ _ _ _
   | exact laws_eqLayS.mono _ _ _
   | exact laws_heldLayS.mono _ _ _
   | exact laws_markLayS.mono _ _ _
   | exact laws_toLayS.mono _ _
   | exact spec_Landed.mono _ _ _ _
   | exact LeO.none _
   | refine LeO.ite ?_ ?_
   | refine LeO.bind ?_ (fun _ => ?_)
  ·intro y0 y1 y2
   unfold laws_FnExactLanded.j2
   repeat' first
   | (with_reducible exact ih0 _ _ _ _ _ _ _ _ _)
   | (with_reducible exact ih1 _ _ _ _ _ _ _)
   | (with_reducible exact ih2 _ _ _)
   | (with_reducible exact impl_Landed.mono _ _ _ _)
   | (with_reducible exact laws_eqLayS.mono _ _ _)
   | (with_reducible exact laws_heldLayS.mono _ _ _)
   | (with_reducible exact laws_markLayS.mono _ _ _)
   | (with_reducible exact laws_toLayS.mono _ _)
   | (with_reducible exact spec_Landed.mono _ _ _ _)
   | (with_reducible exact LeO.refl _)
   | (with_reducible exact LeO.none _)
   | (with_reducible refine LeO.ite ?_ ?_)
   | (with_reducible refine LeO.bind ?_ (fun _ => ?_))
   | exact ih0 _ _ _ _ _ _ _ _ _
   | exact ih1 _ _ _ _ _ _ _
   | exact ih2 _ _ _
   | exact impl_Landed.mono _ _ _ _
   | exact laws_eqLayS.mono _ _ _
   | exact laws_heldLayS.mono _ _ _
   | exact laws_markLayS.mono _ _ _
   | exact laws_toLayS.mono _ _
   | exact spec_Landed.mono _ _ _ _
   | exact LeO.none _
   | refine LeO.ite ?_ ?_
   | refine LeO.bind ?_ (fun _ => ?_)
theorem laws_FnExactLanded.mono : ∀ a0 a1 a2 k, LeO (laws_FnExactLanded.f k a0 a1 a2) (laws_FnExactLanded.f (k + 1) a0 a1 a2) := by
 intro a0 a1 a2 k
 obtain ⟨ih0, ih1, ih2⟩ := laws_FnExactLanded.mono_l k
 unfold laws_FnExactLanded.f
 repeat' first
   | (with_reducible exact ih0 _ _ _ _ _ _ _ _ _)
   | (with_reducible exact ih1 _ _ _ _ _ _ _)
   | (with_reducible exact ih2 _ _ _)
   | (with_reducible exact impl_Landed.mono _ _ _ _)
   | (with_reducible exact laws_eqLayS.mono _ _ _)
   | (with_reducible exact laws_heldLayS.mono _ _ _)
   | (with_reducible exact laws_markLayS.mono _ _ _)
   | (with_reducible exact laws_toLayS.mono _ _)
   | (with_reducible exact spec_Landed.mono _ _ _ _)
   | (with_reducible exact LeO.refl _)
   | (with_reducible exact LeO.none _)
   | (with_reducible refine LeO.ite ?_ ?_)
   | (with_reducible refine LeO.bind ?_ (fun _ => ?_))
   | exact ih0 _ _ _ _ _ _ _ _ _
   | exact ih1 _ _ _ _ _ _ _
   | exact ih2 _ _ _
   | exact impl_Landed.mono _ _ _ _
   | exact laws_eqLayS.mono _ _ _
   | exact laws_heldLayS.mono _ _ _
   | exact laws_markLayS.mono _ _ _
   | exact laws_toLayS.mono _ _
   | exact spec_Landed.mono _ _ _ _
   | exact LeO.none _
   | refine LeO.ite ?_ ?_
   | refine LeO.bind ?_ (fun _ => ?_)
set_option maxHeartbeats 8000000 in
set_option maxRecDepth 100000 in
theorem laws_FnExactLanded.calls (k : Nat) (A0 : Option Addr) (c0 : Nat) (l0 : List (S154)) (a1 : Int) (a2 : Int) (r : Bool) (w : World) (hr0 : Kd.C k154 w A0 l0.length l0) (hc0 : l0.length ≤ c0) (h : laws_FnExactLanded.f k l0 a1 a2 = some r) :
  Calls Try.prog 8 #[.slice A0 l0.length c0, .int .i64 a1, .int .i64 a2] w fun e w' => e = .returned (.bool r) ∧ Below w.heap.size w w' := by
 have HR0 := Aside0.mk hr0
 have HC0 := Aside0.mk hc0
 clear hr0 hc0
 have HB := Aside0.mk (Below.refl w.heap.size w)
 have H : ((laws_szLayS.f l0 1048576).bind fun t279 => (if t279 < 0 then (some true) else ((laws_toLayS.f k l0).bind fun t280 => ((spec_Landed.f k t280 a1 a2).bind fun bt283 => ((laws_toLayS.f k l0).bind fun t287 => ((impl_Landed.f k t287 a1 a2).bind fun bt290 => ((laws_eqLayS.f k bt290.1 bt283.1).bind fun t294 => (if t294 = true then (laws_FnExactLanded.j0 k l0 a1 a2 bt283.1 bt283.2 t287 bt290.1 bt290.2 (bt290.2 != bt283.2)) else (laws_FnExactLanded.j0 k l0 a1 a2 bt283.1 bt283.2 t287 bt290.1 bt290.2 true))))))))) = some r := h
 clear h
 replace H := Option.bind_eq_some_iff.mp H
 obtain ⟨t279, A40, H⟩ := H
 replace H : (if t279 < 0 then (some true) else ((laws_toLayS.f k l0).bind fun t280 => ((spec_Landed.f k t280 a1 a2).bind fun bt283 => ((laws_toLayS.f k l0).bind fun t287 => ((impl_Landed.f k t287 a1 a2).bind fun bt290 => ((laws_eqLayS.f k bt290.1 bt283.1).bind fun t294 => (if t294 = true then (laws_FnExactLanded.j0 k l0 a1 a2 bt283.1 bt283.2 t287 bt290.1 bt290.2 (bt290.2 != bt283.2)) else (laws_FnExactLanded.j0 k l0 a1 a2 bt283.1 bt283.2 t287 bt290.1 bt290.2 true)))))))) = some r := H
 have A4 := Aside0.mk A40
 clear A40
 by_cases c5 : t279 < 0
 ·rw [if_pos c5] at H
  have c5b0 : decide (t279 < 0) = true := decide_eq_true c5
  clear c5
  obtain rfl := Option.some.inj H
  go_enter Try.func8, Try.ntmps8
  go_wp2_with (first | ((with_reducible refine qi0 (f := 43) rfl ?_); refine qu0 (some 20) rfl rfl Try.func43 (by kernel_rfl) rfl #[.slice A0 l0.length c0, .int .i64 1048576] rfl (by (try simp only [List.map_toArray, List.map_cons, List.map_nil]); first | done | rfl | (simp only [List.length_drop, List.length_take]; rfl)) ?_; (with_reducible refine (laws_szLayS.calls _ _ l0 1048576 t279 _ ?side1 ?side2 A4.out).mono ?_); (case side1 => repeat (first | exact HR0.out | (with_reducible refine Kd.qx0 ?_ _) | (with_reducible refine Kd.qw0 ?_ _) | (with_reducible refine Kd.qd1 ?_))); (case side2 => exact HC0.out); rintro e w' ⟨rfl, ⟨nd, rfl⟩⟩; refine ⟨_, rfl, ?_⟩))
  go_ret
  exact ⟨by first | rfl | (simp [errW_none, errW_some] <;> rfl) | (simp [*, errW_none, errW_some] <;> rfl), by repeat (first | (with_reducible first | exact HB.out | apply qc0 | apply qa0 | apply qb0) | exact HB.out)⟩
 rw [if_neg c5] at H
 have c5b0 : decide (t279 < 0) = false := decide_eq_false c5
 clear c5
 replace H := Option.bind_eq_some_iff.mp H
 obtain ⟨t280, A60, H⟩ := H
 replace H : ((spec_Landed.f k t280 a1 a2).bind fun bt283 => ((laws_toLayS.f k l0).bind fun t287 => ((impl_Landed.f k t287 a1 a2).bind fun bt290 => ((laws_eqLayS.f k bt290.1 bt283.1).bind fun t294 => (if t294 = true then (laws_FnExactLanded.j0 k l0 a1 a2 bt283.1 bt283.2 t287 bt290.1 bt290.2 (bt290.2 != bt283.2)) else (laws_FnExactLanded.j0 k l0 a1 a2 bt283.1 bt283.2 t287 bt290.1 bt290.2 true)))))) = some r := H
 have A6 := Aside0.mk A60
 clear A60
 replace H := Option.bind_eq_some_iff.mp H
 obtain ⟨⟨t283, t284⟩, A70, H⟩ := H
 replace H : ((laws_toLayS.f k l0).bind fun t287 => ((impl_Landed.f k t287 a1 a2).bind fun bt290 => ((laws_eqLayS.f k bt290.1 t283).bind fun t294 => (if t294 = true then (laws_FnExactLanded.j0 k l0 a1 a2 t283 t284 t287 bt290.1 bt290.2 (bt290.2 != t284)) else (laws_FnExactLanded.j0 k l0 a1 a2 t283 t284 t287 bt290.1 bt290.2 true))))) = some r := H
 have A7 := Aside0.mk A70
 clear A70
 replace H := Option.bind_eq_some_iff.mp H
 obtain ⟨t287, A80, H⟩ := H
 replace H : ((impl_Landed.f k t287 a1 a2).bind fun bt290 => ((laws_eqLayS.f k bt290.1 t283).bind fun t294 => (if t294 = true then (laws_FnExactLanded.j0 k l0 a1 a2 t283 t284 t287 bt290.1 bt290.2 (bt290.2 != t284)) else (laws_FnExactLanded.j0 k l0 a1 a2 t283 t284 t287 bt290.1 bt290.2 true)))) = some r := H
 have A8 := Aside0.mk A80
 clear A80
 replace H := Option.bind_eq_some_iff.mp H
 obtain ⟨⟨t290, t291⟩, A90, H⟩ := H
 replace H : ((laws_eqLayS.f k t290 t283).bind fun t294 => (if t294 = true then (laws_FnExactLanded.j0 k l0 a1 a2 t283 t284 t287 t290 t291 (t291 != t284)) else (laws_FnExactLanded.j0 k l0 a1 a2 t283 t284 t287 t290 t291 true))) = some r := H
 have A9 := Aside0.mk A90
 clear A90
 have HC10 := Aside0.mk H
 clear H
 go_enter Try.func8, Try.ntmps8
 go_upto_region 8 with (first | ((with_reducible refine qi0 (f := 43) rfl ?_); refine qu0 (some 20) rfl rfl Try.func43 (by kernel_rfl) rfl #[.slice A0 l0.length c0, .int .i64 1048576] rfl (by (try simp only [List.map_toArray, List.map_cons, List.map_nil]); first | done | rfl | (simp only [List.length_drop, List.length_take]; rfl)) ?_; (with_reducible refine (laws_szLayS.calls _ _ l0 1048576 t279 _ ?side1 ?side2 A4.out).mono ?_); (case side1 => repeat (first | exact HR0.out | (with_reducible refine Kd.qx0 ?_ _) | (with_reducible refine Kd.qw0 ?_ _) | (with_reducible refine Kd.qd1 ?_))); (case side2 => exact HC0.out); rintro e w' ⟨rfl, ⟨nd, rfl⟩⟩; refine ⟨_, rfl, ?_⟩) | ((with_reducible refine qi0 (f := 44) rfl ?_); refine qu0 (some 25) rfl rfl Try.func44 (by kernel_rfl) rfl #[.slice A0 l0.length c0] rfl (by (try simp only [List.map_toArray, List.map_cons, List.map_nil]); first | done | rfl | (simp only [List.length_drop, List.length_take]; rfl)) ?_; (with_reducible refine (laws_toLayS.calls k _ _ l0 t280 _ ?side1 ?side2 A6.out).mono ?_); (case side1 => repeat (first | exact HR0.out | (with_reducible refine Kd.qx0 ?_ _) | (with_reducible refine Kd.qw0 ?_ _) | (with_reducible refine Kd.qd1 ?_))); (case side2 => exact HC0.out); rintro e w11 ⟨v281, rfl, ho0, hb⟩; refine ⟨_, rfl, ?_⟩; have n0_ := Aside0.mk (Kd.qf1 ho0 (qh0 (by repeat (first | (with_reducible first | exact HB.out | apply qc0 | apply qa0 | apply qb0) | exact HB.out)))); have n1_ := Aside0.mk (qk0 (by repeat (first | (with_reducible first | exact HB.out | apply qc0 | apply qa0 | apply qb0) | exact HB.out)) hb); clear HB; have HO282 := n0_; have HB := n1_; clear n0_ n1_; (try clear hb); (try clear hb2); (try clear hk); (try clear hi); (try clear ho0); obtain ⟨Ao12, co12, eo12⟩ := Kd.qy0 HO282.out; subst eo12) | ((with_reducible refine qi0 (f := 42) rfl ?_); refine qu0 (some 28) rfl rfl Try.func42 (by kernel_rfl) rfl #[.slice Ao12 t280.length co12, .int .i64 a1, .int .i64 a2] rfl (by (try simp only [List.map_toArray, List.map_cons, List.map_nil]); first | done | rfl | (simp only [List.length_drop, List.length_take]; rfl)) ?_; (with_reducible refine (spec_Landed.calls k _ _ t280 a1 a2 t283 t284 _ ?side1 ?side2 A7.out).mono ?_); (case side1 => repeat (first | exact (Kd.qg0 HO282.out).2.2 | (with_reducible refine Kd.qx0 ?_ _) | (with_reducible refine Kd.qw0 ?_ _) | (with_reducible refine Kd.qd1 ?_))); (case side2 => exact (Kd.qg0 HO282.out).2.1); rintro e w13 ⟨v285, rfl, ho0, hb⟩; refine ⟨_, rfl, ?_⟩; have n0_ := Aside0.mk (Kd.R_elder' (by (with_reducible repeat (first | apply Kd.qe0 | apply Kd.qd0 | apply Kd.qf0)); exact HO282.out) (Kd.ql1 ho0) hb); have n1_ := Aside0.mk (Kd.qf1 (Kd.qk1 ho0 (Kd.R_lt (by (with_reducible repeat (first | apply Kd.qe0 | apply Kd.qd0 | apply Kd.qf0)); exact HO282.out))) (qh0 (by repeat (first | (with_reducible first | exact HB.out | apply qc0 | apply qa0 | apply qb0) | exact HB.out)))); have n2_ := Aside0.mk (qk0 (by repeat (first | (with_reducible first | exact HB.out | apply qc0 | apply qa0 | apply qb0) | exact HB.out)) hb); clear HO282; clear HB; have HO282 := n0_; have HO286 := n1_; have HB := n2_; clear n0_ n1_ n2_; (try clear hb); (try clear hb2); (try clear hk); (try clear hi); (try clear ho0)) | ((with_reducible refine qi0 (f := 44) rfl ?_); refine qu0 (some 32) rfl rfl Try.func44 (by kernel_rfl) rfl #[.slice A0 l0.length c0] rfl (by (try simp only [List.map_toArray, List.map_cons, List.map_nil]); first | done | rfl | (simp only [List.length_drop, List.length_take]; rfl)) ?_; (with_reducible refine (laws_toLayS.calls k _ _ l0 t287 _ ?side1 ?side2 A8.out).mono ?_); (case side1 => repeat (first | exact (Kd.C_below HR0.out HB.out) | (with_reducible refine Kd.qx0 ?_ _) | (with_reducible refine Kd.qw0 ?_ _) | (with_reducible refine Kd.qd1 ?_))); (case side2 => exact HC0.out); rintro e w14 ⟨v288, rfl, ho0, hb⟩; refine ⟨_, rfl, ?_⟩; have n0_ := Aside0.mk (Kd.R_elder' (by (with_reducible repeat (first | apply Kd.qe0 | apply Kd.qd0 | apply Kd.qf0)); exact HO282.out) (Kd.ql1 ho0) hb); have n1_ := Aside0.mk (Kd.R_elder' (by (with_reducible repeat (first | apply Kd.qe0 | apply Kd.qd0 | apply Kd.qf0)); exact HO286.out) (Kd.ql1 ho0) hb); have n2_ := Aside0.mk (Kd.qf1 (Kd.qk1 (Kd.qk1 ho0 (Kd.R_lt (by (with_reducible repeat (first | apply Kd.qe0 | apply Kd.qd0 | apply Kd.qf0)); exact HO282.out))) (Kd.R_lt (by (with_reducible repeat (first | apply Kd.qe0 | apply Kd.qd0 | apply Kd.qf0)); exact HO286.out))) (qh0 (by repeat (first | (with_reducible first | exact HB.out | apply qc0 | apply qa0 | apply qb0) | exact HB.out)))); have n3_ := Aside0.mk (qk0 (by repeat (first | (with_reducible first | exact HB.out | apply qc0 | apply qa0 | apply qb0) | exact HB.out)) hb); clear HO282; clear HO286; clear HB; have HO282 := n0_; have HO286 := n1_; have HO289 := n2_; have HB := n3_; clear n0_ n1_ n2_ n3_; (try clear hb); (try clear hb2); (try clear hk); (try clear hi); (try clear ho0); obtain ⟨Ao15, co15, eo15⟩ := Kd.qy0 HO289.out; subst eo15) | ((with_reducible refine qi0 (f := 40) rfl ?_); refine qu0 (some 37) rfl rfl Try.func40 (by kernel_rfl) rfl #[.slice Ao15 t287.length co15, .int .i64 a1, .int .i64 a2] rfl (by (try simp only [List.map_toArray, List.map_cons, List.map_nil]); first | done | rfl | (simp only [List.length_drop, List.length_take]; rfl)) ?_; (with_reducible refine (impl_Landed.calls k _ _ t287 a1 a2 t290 t291 _ ?side1 ?side2 A9.out).mono ?_); (case side1 => repeat (first | exact (Kd.qg0 HO289.out).2.2 | (with_reducible refine Kd.qx0 ?_ _) | (with_reducible refine Kd.qw0 ?_ _) | (with_reducible refine Kd.qd1 ?_))); (case side2 => exact (Kd.qg0 HO289.out).2.1); rintro e w16 ⟨v292, rfl, ho0, hb⟩; refine ⟨_, rfl, ?_⟩; have n0_ := Aside0.mk (Kd.R_elder' (by (with_reducible repeat (first | apply Kd.qe0 | apply Kd.qd0 | apply Kd.qf0)); exact HO282.out) (Kd.ql1 ho0) hb); have n1_ := Aside0.mk (Kd.R_elder' (by (with_reducible repeat (first | apply Kd.qe0 | apply Kd.qd0 | apply Kd.qf0)); exact HO286.out) (Kd.ql1 ho0) hb); have n2_ := Aside0.mk (Kd.R_elder' (by (with_reducible repeat (first | apply Kd.qe0 | apply Kd.qd0 | apply Kd.qf0)); exact HO289.out) (Kd.ql1 ho0) hb); have n3_ := Aside0.mk (Kd.qf1 (Kd.qk1 (Kd.qk1 (Kd.qk1 ho0 (Kd.R_lt (by (with_reducible repeat (first | apply Kd.qe0 | apply Kd.qd0 | apply Kd.qf0)); exact HO282.out))) (Kd.R_lt (by (with_reducible repeat (first | apply Kd.qe0 | apply Kd.qd0 | apply Kd.qf0)); exact HO286.out))) (Kd.R_lt (by (with_reducible repeat (first | apply Kd.qe0 | apply Kd.qd0 | apply Kd.qf0)); exact HO289.out))) (qh0 (by repeat (first | (with_reducible first | exact HB.out | apply qc0 | apply qa0 | apply qb0) | exact HB.out)))); have n4_ := Aside0.mk (qk0 (by repeat (first | (with_reducible first | exact HB.out | apply qc0 | apply qa0 | apply qb0) | exact HB.out)) hb); clear HO282; clear HO286; clear HO289; clear HB; have HO282 := n0_; have HO286 := n1_; have HO289 := n2_; have HO293 := n3_; have HB := n4_; clear n0_ n1_ n2_ n3_ n4_; (try clear hb); (try clear hb2); (try clear hk); (try clear hi); (try clear ho0)))
 (try simp only [Act.put, List.setIfInBounds_toArray, List.set_cons_zero, List.set_cons_succ])
 go_cut [48] (fun v48 wc => ∃ (kq : Nat) (x48_9 : Bool), v48 = .bool x48_9 ∧ Aside0 (laws_FnExactLanded.j0 kq l0 a1 a2 t283 t284 t287 t290 t291 x48_9 = some r) ∧ Aside0 (kq ≤ k) ∧ Aside0 (Kd.R k61 61 wc w.heap.size (fun k_ => some k_ ≠ ((.slice Ao15 t287.length co15) : Value).ownBlock ∧ some k_ ≠ (v292 : Value).ownBlock) v285 t283) ∧ Aside0 (Kd.R k61 61 wc w.heap.size (fun k_ => some k_ ≠ (v285 : Value).ownBlock ∧ some k_ ≠ (v292 : Value).ownBlock) (.slice Ao15 t287.length co15) t287) ∧ Aside0 (Kd.R k61 61 wc w.heap.size (fun k_ => some k_ ≠ (v285 : Value).ownBlock ∧ some k_ ≠ ((.slice Ao15 t287.length co15) : Value).ownBlock) v292 t290) ∧ Aside0 (Below w.heap.size w wc))
 case first =>
  have H := HC10.out
  clear HC10
  replace H := Option.bind_eq_some_iff.mp H
  obtain ⟨t294, A170, H⟩ := H
  replace H : (if t294 = true then (laws_FnExactLanded.j0 k l0 a1 a2 t283 t284 t287 t290 t291 (t291 != t284)) else (laws_FnExactLanded.j0 k l0 a1 a2 t283 t284 t287 t290 t291 true)) = some r := H
  have A17 := Aside0.mk A170
  clear A170
  by_cases c18 : t294 = true
  ·subst c18
   have H1 : (laws_FnExactLanded.j0 k l0 a1 a2 t283 t284 t287 t290 t291 (t291 != t284)) = some r := by rw [if_pos rfl] at H; exact H
   clear H
   have H := H1
   clear H1
   have H' := Aside0.mk H
   clear H
   obtain ⟨Ao19, co19, eo19⟩ := Kd.qy0 HO293.out
   subst eo19
   obtain ⟨Ao20, co20, eo20⟩ := Kd.qy0 HO286.out
   subst eo20
   go_wp2_with (first | ((with_reducible refine qi0 (f := 45) rfl ?_); refine qu0 (some 42) rfl rfl Try.func45 (by kernel_rfl) rfl #[.slice Ao19 t290.length co19, .slice Ao20 t283.length co20] rfl (by (try simp only [List.map_toArray, List.map_cons, List.map_nil]); first | done | rfl | (simp only [List.length_drop, List.length_take]; rfl)) ?_; (with_reducible refine (laws_eqLayS.calls k _ _ t290 _ _ t283 true _ ?side1 ?side2 ?side3 ?side4 A17.out).mono ?_); (case side1 => repeat (first | exact (Kd.qg0 HO293.out).2.2 | (with_reducible refine Kd.qx0 ?_ _) | (with_reducible refine Kd.qw0 ?_ _) | (with_reducible refine Kd.qd1 ?_))); (case side2 => exact (Kd.qg0 HO293.out).2.1); (case side3 => repeat (first | exact (Kd.qg0 HO286.out).2.2 | (with_reducible refine Kd.qx0 ?_ _) | (with_reducible refine Kd.qw0 ?_ _) | (with_reducible refine Kd.qd1 ?_))); (case side4 => exact (Kd.qg0 HO286.out).2.1); rintro e w21 ⟨rfl, hb⟩; refine ⟨_, rfl, ?_⟩; have n0_ := Aside0.mk (Kd.qq0 (by (with_reducible repeat (first | apply Kd.qe0 | apply Kd.qd0 | apply Kd.qf0)); exact HO282.out) hb); have n1_ := Aside0.mk (Kd.qq0 (by (with_reducible repeat (first | apply Kd.qe0 | apply Kd.qd0 | apply Kd.qf0)); exact HO286.out) hb); have n2_ := Aside0.mk (Kd.qq0 (by (with_reducible repeat (first | apply Kd.qe0 | apply Kd.qd0 | apply Kd.qf0)); exact HO289.out) hb); have n3_ := Aside0.mk (Kd.qq0 (by (with_reducible repeat (first | apply Kd.qe0 | apply Kd.qd0 | apply Kd.qf0)); exact HO293.out) hb); have n4_ := Aside0.mk (qk0 (by repeat (first | (with_reducible first | exact HB.out | apply qc0 | apply qa0 | apply qb0) | exact HB.out)) hb); clear HO282; clear HO286; clear HO289; clear HO293; clear HB; have HO282 := n0_; have HO286 := n1_; have HO289 := n2_; have HO293 := n3_; have HB := n4_; clear n0_ n1_ n2_ n3_ n4_; (try clear hb); (try clear hb2); (try clear hk); (try clear hi)))
   go_meet
   case rel => exact ⟨_, ((t291 != t284)), (by first | rfl | (simp; done) | (simp [*]; done)), H', ⟨by first | omega | exact Nat.le_refl _⟩, ⟨by (with_reducible repeat (first | apply Kd.qe0 | apply Kd.qd0 | apply Kd.qf0)); exact Kd.qn0 HO286.out (fun _ hk => ⟨hk.1.2, hk.2⟩)⟩, ⟨by (with_reducible repeat (first | apply Kd.qe0 | apply Kd.qd0 | apply Kd.qf0)); exact Kd.qn0 HO289.out (fun _ hk => ⟨hk.1.2, hk.2⟩)⟩, ⟨by (with_reducible repeat (first | apply Kd.qe0 | apply Kd.qd0 | apply Kd.qf0)); exact Kd.qn0 HO293.out (fun _ hk => ⟨hk.1.2, hk.2⟩)⟩, ⟨by repeat (first | (with_reducible first | exact HB.out | apply qc0 | apply qa0 | apply qb0) | exact HB.out)⟩⟩
  replace c18 := Bool.eq_false_iff.mpr c18
  subst c18
  have H1 : (laws_FnExactLanded.j0 k l0 a1 a2 t283 t284 t287 t290 t291 true) = some r := by rw [if_neg (show ¬ (false = true) by decide)] at H; exact H
  clear H
  have H := H1
  clear H1
  have H' := Aside0.mk H
  clear H
  obtain ⟨Ao22, co22, eo22⟩ := Kd.qy0 HO293.out
  subst eo22
  obtain ⟨Ao23, co23, eo23⟩ := Kd.qy0 HO286.out
  subst eo23
  go_wp2_with (first | ((with_reducible refine qi0 (f := 45) rfl ?_); refine qu0 (some 42) rfl rfl Try.func45 (by kernel_rfl) rfl #[.slice Ao22 t290.length co22, .slice Ao23 t283.length co23] rfl (by (try simp only [List.map_toArray, List.map_cons, List.map_nil]); first | done | rfl | (simp only [List.length_drop, List.length_take]; rfl)) ?_; (with_reducible refine (laws_eqLayS.calls k _ _ t290 _ _ t283 false _ ?side1 ?side2 ?side3 ?side4 A17.out).mono ?_); (case side1 => repeat (first | exact (Kd.qg0 HO293.out).2.2 | (with_reducible refine Kd.qx0 ?_ _) | (with_reducible refine Kd.qw0 ?_ _) | (with_reducible refine Kd.qd1 ?_))); (case side2 => exact (Kd.qg0 HO293.out).2.1); (case side3 => repeat (first | exact (Kd.qg0 HO286.out).2.2 | (with_reducible refine Kd.qx0 ?_ _) | (with_reducible refine Kd.qw0 ?_ _) | (with_reducible refine Kd.qd1 ?_))); (case side4 => exact (Kd.qg0 HO286.out).2.1); rintro e w24 ⟨rfl, hb⟩; refine ⟨_, rfl, ?_⟩; have n0_ := Aside0.mk (Kd.qq0 (by (with_reducible repeat (first | apply Kd.qe0 | apply Kd.qd0 | apply Kd.qf0)); exact HO282.out) hb); have n1_ := Aside0.mk (Kd.qq0 (by (with_reducible repeat (first | apply Kd.qe0 | apply Kd.qd0 | apply Kd.qf0)); exact HO286.out) hb); have n2_ := Aside0.mk (Kd.qq0 (by (with_reducible repeat (first | apply Kd.qe0 | apply Kd.qd0 | apply Kd.qf0)); exact HO289.out) hb); have n3_ := Aside0.mk (Kd.qq0 (by (with_reducible repeat (first | apply Kd.qe0 | apply Kd.qd0 | apply Kd.qf0)); exact HO293.out) hb); have n4_ := Aside0.mk (qk0 (by repeat (first | (with_reducible first | exact HB.out | apply qc0 | apply qa0 | apply qb0) | exact HB.out)) hb); clear HO282; clear HO286; clear HO289; clear HO293; clear HB; have HO282 := n0_; have HO286 := n1_; have HO289 := n2_; have HO293 := n3_; have HB := n4_; clear n0_ n1_ n2_ n3_ n4_; (try clear hb); (try clear hb2); (try clear hk); (try clear hi)))
  go_meet
  case rel => exact ⟨_, (true), (by first | rfl | (simp; done) | (simp [*]; done)), H', ⟨by first | omega | exact Nat.le_refl _⟩, ⟨by (with_reducible repeat (first | apply Kd.qe0 | apply Kd.qd0 | apply Kd.qf0)); exact Kd.qn0 HO286.out (fun _ hk => ⟨hk.1.2, hk.2⟩)⟩, ⟨by (with_reducible repeat (first | apply Kd.qe0 | apply Kd.qd0 | apply Kd.qf0)); exact Kd.qn0 HO289.out (fun _ hk => ⟨hk.1.2, hk.2⟩)⟩, ⟨by (with_reducible repeat (first | apply Kd.qe0 | apply Kd.qd0 | apply Kd.qf0)); exact Kd.qn0 HO293.out (fun _ hk => ⟨hk.1.2, hk.2⟩)⟩, ⟨by repeat (first | (with_reducible first | exact HB.out | apply qc0 | apply qa0 | apply qb0) | exact HB.out)⟩⟩
 case rest =>
  clear HC10
  try clear c1
  try clear p2
  try clear c4
  try clear c5
  try clear c5b0
  try clear c8
  try clear c18
  obtain ⟨kq, x48_9, rfl, HA, HJ9, HO_8, HO_10, HO_11, HB⟩ := hcut
  cases kq with
  | zero => exact absurd HA.out (by simp [laws_FnExactLanded.j0])
  | succ kj9 =>
   have H := HA.out
   clear HA
   simp only [laws_FnExactLanded.j0] at H
   by_cases c25 : x48_9 = true
   ·subst c25
    have H1 : (some false) = some r := by rw [if_pos rfl] at H; exact H
    clear H
    have H := H1
    clear H1
    obtain rfl := Option.some.inj H
    go_wp2
    go_ret
    exact ⟨by first | rfl | (simp [errW_none, errW_some] <;> rfl) | (simp [*, errW_none, errW_some] <;> rfl), by repeat (first | (with_reducible first | exact HB.out | apply qc0 | apply qa0 | apply qb0) | exact HB.out)⟩
   replace c25 := Bool.eq_false_iff.mpr c25
   subst c25
   have H1 : ((laws_toLayS.f kj9 l0).bind fun t295 => ((laws_eqLayS.f kj9 t287 t295).bind fun t298 => (if t298 = true then ((laws_markLayS.f kj9 t287 1).bind fun bt299 => (if bt299.1 < 0 then (laws_FnExactLanded.j1 kj9 l0 a1 a2 t283 t284 t290 true) else ((laws_eqLayS.f kj9 t290 t283).bind fun t301 => (if t301 = true then (laws_FnExactLanded.j1 kj9 l0 a1 a2 t283 t284 t290 (t291 != t284)) else (laws_FnExactLanded.j1 kj9 l0 a1 a2 t283 t284 t290 true))))) else (some false)))) = some r := by rw [if_neg (show ¬ (false = true) by decide)] at H; exact H
   clear H
   have H := H1
   clear H1
   replace H := Option.bind_eq_some_iff.mp H
   obtain ⟨t295, A260, H⟩ := H
   replace H : ((laws_eqLayS.f kj9 t287 t295).bind fun t298 => (if t298 = true then ((laws_markLayS.f kj9 t287 1).bind fun bt299 => (if bt299.1 < 0 then (laws_FnExactLanded.j1 kj9 l0 a1 a2 t283 t284 t290 true) else ((laws_eqLayS.f kj9 t290 t283).bind fun t301 => (if t301 = true then (laws_FnExactLanded.j1 kj9 l0 a1 a2 t283 t284 t290 (t291 != t284)) else (laws_FnExactLanded.j1 kj9 l0 a1 a2 t283 t284 t290 true))))) else (some false))) = some r := H
   have A26 := Aside0.mk A260
   clear A260
   replace H := Option.bind_eq_some_iff.mp H
   obtain ⟨t298, A270, H⟩ := H
   replace H : (if t298 = true then ((laws_markLayS.f kj9 t287 1).bind fun bt299 => (if bt299.1 < 0 then (laws_FnExactLanded.j1 kj9 l0 a1 a2 t283 t284 t290 true) else ((laws_eqLayS.f kj9 t290 t283).bind fun t301 => (if t301 = true then (laws_FnExactLanded.j1 kj9 l0 a1 a2 t283 t284 t290 (t291 != t284)) else (laws_FnExactLanded.j1 kj9 l0 a1 a2 t283 t284 t290 true))))) else (some false)) = some r := H
   have A27 := Aside0.mk A270
   clear A270
   by_cases c28 : t298 = true
   ·subst c28
    have H1 : ((laws_markLayS.f kj9 t287 1).bind fun bt299 => (if bt299.1 < 0 then (laws_FnExactLanded.j1 kj9 l0 a1 a2 t283 t284 t290 true) else ((laws_eqLayS.f kj9 t290 t283).bind fun t301 => (if t301 = true then (laws_FnExactLanded.j1 kj9 l0 a1 a2 t283 t284 t290 (t291 != t284)) else (laws_FnExactLanded.j1 kj9 l0 a1 a2 t283 t284 t290 true))))) = some r := by rw [if_pos rfl] at H; exact H
    clear H
    have H := H1
    clear H1
    replace H := Option.bind_eq_some_iff.mp H
    obtain ⟨⟨t299, t300⟩, A290, H⟩ := H
    replace H : (if t299 < 0 then (laws_FnExactLanded.j1 kj9 l0 a1 a2 t283 t284 t290 true) else ((laws_eqLayS.f kj9 t290 t283).bind fun t301 => (if t301 = true then (laws_FnExactLanded.j1 kj9 l0 a1 a2 t283 t284 t290 (t291 != t284)) else (laws_FnExactLanded.j1 kj9 l0 a1 a2 t283 t284 t290 true)))) = some r := H
    have A29 := Aside0.mk A290
    clear A290
    have HC30 := Aside0.mk H
    clear H
    go_upto_region 14 with (first | ((with_reducible refine qi0 (f := 44) rfl ?_); refine qu0 (some 51) rfl rfl Try.func44 (by kernel_rfl) rfl #[.slice A0 l0.length c0] rfl (by (try simp only [List.map_toArray, List.map_cons, List.map_nil]); first | done | rfl | (simp only [List.length_drop, List.length_take]; rfl)) ?_; (with_reducible refine (laws_toLayS.calls kj9 _ _ l0 t295 _ ?side1 ?side2 A26.out).mono ?_); (case side1 => repeat (first | exact (Kd.C_below HR0.out HB.out) | (with_reducible refine Kd.qx0 ?_ _) | (with_reducible refine Kd.qw0 ?_ _) | (with_reducible refine Kd.qd1 ?_))); (case side2 => exact HC0.out); rintro e w31 ⟨v296, rfl, ho0, hb⟩; refine ⟨_, rfl, ?_⟩; have n0_ := Aside0.mk (Kd.R_elder' (by (with_reducible repeat (first | apply Kd.qe0 | apply Kd.qd0 | apply Kd.qf0)); exact HO_8.out) (Kd.ql1 ho0) hb); have n1_ := Aside0.mk (Kd.R_elder' (by (with_reducible repeat (first | apply Kd.qe0 | apply Kd.qd0 | apply Kd.qf0)); exact HO_10.out) (Kd.ql1 ho0) hb); have n2_ := Aside0.mk (Kd.R_elder' (by (with_reducible repeat (first | apply Kd.qe0 | apply Kd.qd0 | apply Kd.qf0)); exact HO_11.out) (Kd.ql1 ho0) hb); have n3_ := Aside0.mk (Kd.qf1 (Kd.qk1 (Kd.qk1 (Kd.qk1 ho0 (Kd.R_lt (by (with_reducible repeat (first | apply Kd.qe0 | apply Kd.qd0 | apply Kd.qf0)); exact HO_8.out))) (Kd.R_lt (by (with_reducible repeat (first | apply Kd.qe0 | apply Kd.qd0 | apply Kd.qf0)); exact HO_10.out))) (Kd.R_lt (by (with_reducible repeat (first | apply Kd.qe0 | apply Kd.qd0 | apply Kd.qf0)); exact HO_11.out))) (qh0 (by repeat (first | (with_reducible first | exact HB.out | apply qc0 | apply qa0 | apply qb0) | exact HB.out)))); have n4_ := Aside0.mk (qk0 (by repeat (first | (with_reducible first | exact HB.out | apply qc0 | apply qa0 | apply qb0) | exact HB.out)) hb); clear HO_8; clear HO_10; clear HO_11; clear HB; have HO_8 := n0_; have HO_10 := n1_; have HO_11 := n2_; have HO297 := n3_; have HB := n4_; clear n0_ n1_ n2_ n3_ n4_; (try clear hb); (try clear hb2); (try clear hk); (try clear hi); (try clear ho0); obtain ⟨Ao32, co32, eo32⟩ := Kd.qy0 HO297.out; subst eo32) | ((with_reducible refine qi0 (f := 45) rfl ?_); refine qu0 (some 52) rfl rfl Try.func45 (by kernel_rfl) rfl #[.slice Ao15 t287.length co15, .slice Ao32 t295.length co32] rfl (by (try simp only [List.map_toArray, List.map_cons, List.map_nil]); first | done | rfl | (simp only [List.length_drop, List.length_take]; rfl)) ?_; (with_reducible refine (laws_eqLayS.calls kj9 _ _ t287 _ _ t295 true _ ?side1 ?side2 ?side3 ?side4 A27.out).mono ?_); (case side1 => repeat (first | exact (Kd.qg0 HO_10.out).2.2 | (with_reducible refine Kd.qx0 ?_ _) | (with_reducible refine Kd.qw0 ?_ _) | (with_reducible refine Kd.qd1 ?_))); (case side2 => exact (Kd.qg0 HO_10.out).2.1); (case side3 => repeat (first | exact (Kd.qg0 HO297.out).2.2 | (with_reducible refine Kd.qx0 ?_ _) | (with_reducible refine Kd.qw0 ?_ _) | (with_reducible refine Kd.qd1 ?_))); (case side4 => exact (Kd.qg0 HO297.out).2.1); rintro e w33 ⟨rfl, hb⟩; refine ⟨_, rfl, ?_⟩; have n0_ := Aside0.mk (Kd.qq0 (by (with_reducible repeat (first | apply Kd.qe0 | apply Kd.qd0 | apply Kd.qf0)); exact HO_8.out) hb); have n1_ := Aside0.mk (Kd.qq0 (by (with_reducible repeat (first | apply Kd.qe0 | apply Kd.qd0 | apply Kd.qf0)); exact HO_10.out) hb); have n2_ := Aside0.mk (Kd.qq0 (by (with_reducible repeat (first | apply Kd.qe0 | apply Kd.qd0 | apply Kd.qf0)); exact HO_11.out) hb); have n3_ := Aside0.mk (Kd.qq0 (by (with_reducible repeat (first | apply Kd.qe0 | apply Kd.qd0 | apply Kd.qf0)); exact HO297.out) hb); have n4_ := Aside0.mk (qk0 (by repeat (first | (with_reducible first | exact HB.out | apply qc0 | apply qa0 | apply qb0) | exact HB.out)) hb); clear HO_8; clear HO_10; clear HO_11; clear HO297; clear HB; have HO_8 := n0_; have HO_10 := n1_; have HO_11 := n2_; have HO297 := n3_; have HB := n4_; clear n0_ n1_ n2_ n3_ n4_; (try clear hb); (try clear hb2); (try clear hk); (try clear hi)) | ((with_reducible refine qi0 (f := 46) rfl ?_); refine qu0 (some 56) rfl rfl Try.func46 (by kernel_rfl) rfl #[.slice Ao15 t287.length co15, .int .i64 1] rfl (by (try simp only [List.map_toArray, List.map_cons, List.map_nil]); first | done | rfl | (simp only [List.length_drop, List.length_take]; rfl)) ?_; (with_reducible refine (laws_markLayS.calls kj9 (fun k_ => some k_ = (.slice Ao15 t287.length co15 : Value).ownBlock) (.slice Ao15 t287.length co15) t287 1 t299 t300 w _ ?side1 ?side2 A29.out).mono ?_); (case side1 => repeat (first | (with_reducible first | exact HB.out | apply qc0 | apply qa0 | apply qb0) | exact HB.out)); (case side2 => exact Kd.R_tight rfl HO_10.out); rintro e w34 ⟨rfl, hy0, hb, hkp⟩; refine ⟨_, rfl, ?_⟩; have n0_ := Aside0.mk (Kd.qn0 (ok' := fun k_ => some k_ ≠ (.slice Ao15 t287.length co15 : Value).ownBlock ∧ some k_ ≠ (v292 : Value).ownBlock ∧ some k_ ≠ (.slice Ao32 t295.length co32 : Value).ownBlock) (Kd.R_keptB (HO_8.out) hkp (fun k_ hk_ hs_ => (hk_.1.1) hs_)) (fun k_ hk_ => ⟨hk_.1.1.1, hk_.1.1.2, hk_.1.2⟩)); have n1_ := Aside0.mk (Kd.R_reok rfl hy0 (fun k_ e_ => HO_10.out.1 k_ e_)); have n2_ := Aside0.mk (Kd.qn0 (ok' := fun k_ => some k_ ≠ (v285 : Value).ownBlock ∧ some k_ ≠ (.slice Ao15 t287.length co15 : Value).ownBlock ∧ some k_ ≠ (.slice Ao32 t295.length co32 : Value).ownBlock) (Kd.R_keptB (HO_11.out) hkp (fun k_ hk_ hs_ => (hk_.1.2) hs_)) (fun k_ hk_ => ⟨hk_.1.1.1, hk_.1.1.2, hk_.1.2⟩)); have n3_ := Aside0.mk (Kd.qn0 (ok' := fun k_ => some k_ ≠ (v285 : Value).ownBlock ∧ some k_ ≠ (.slice Ao15 t287.length co15 : Value).ownBlock ∧ some k_ ≠ (v292 : Value).ownBlock) (Kd.R_keptB (HO297.out) hkp (fun k_ hk_ hs_ => (hk_.1.2) hs_)) (fun k_ hk_ => ⟨hk_.1.1.1.2, hk_.1.1.2, hk_.1.2⟩)); have n4_ := Aside0.mk (hb); clear HO_8; clear HO_10; clear HO_11; clear HO297; clear HB; have HO_8 := n0_; have HO_10 := n1_; have HO_11 := n2_; have HO297 := n3_; have HB := n4_; clear n0_ n1_ n2_ n3_ n4_; (try clear hb); (try clear hkp); (try clear hy0)))
    (try simp only [Act.put, List.setIfInBounds_toArray, List.set_cons_zero, List.set_cons_succ])
    go_cut [69] (fun v69 wc => ∃ (kq : Nat) (x69_29 : Bool), v69 = .bool x69_29 ∧ Aside0 (laws_FnExactLanded.j1 kq l0 a1 a2 t283 t284 t290 x69_29 = some r) ∧ Aside0 (kq ≤ kj9) ∧ Aside0 (Kd.R k61 61 wc w.heap.size (fun k_ => some k_ ≠ (v292 : Value).ownBlock) v285 t283) ∧ Aside0 (Kd.R k61 61 wc w.heap.size (fun k_ => some k_ ≠ (v285 : Value).ownBlock) v292 t290) ∧ Aside0 (Below w.heap.size w wc))
    case first =>
     have H := HC30.out
     clear HC30
     by_cases c35 : t299 < 0
     ·rw [if_pos c35] at H
      have c35b0 : decide (t299 < 0) = true := decide_eq_true c35
      clear c35
      (first | rw [c35b0] | (simp only [i64_w, i32_w]; rw [c35b0]) | skip)
      have H' := Aside0.mk H
      clear H
      go_wp2
      go_meet
      case rel => exact ⟨_, (true), (by first | rfl | (simp; done) | (simp [*]; done)), H', ⟨by have := HJ9.out; first | omega | exact Nat.le_refl _⟩, ⟨by (with_reducible repeat (first | apply Kd.qe0 | apply Kd.qd0 | apply Kd.qf0)); exact Kd.qn0 HO_8.out (fun _ hk => hk.2.1)⟩, ⟨by (with_reducible repeat (first | apply Kd.qe0 | apply Kd.qd0 | apply Kd.qf0)); exact Kd.qn0 HO_11.out (fun _ hk => hk.1)⟩, ⟨by repeat (first | (with_reducible first | exact HB.out | apply qc0 | apply qa0 | apply qb0) | exact HB.out)⟩⟩
     rw [if_neg c35] at H
     have c35b0 : decide (t299 < 0) = false := decide_eq_false c35
     clear c35
     (first | rw [c35b0] | (simp only [i64_w, i32_w]; rw [c35b0]) | skip)
     replace H := Option.bind_eq_some_iff.mp H
     obtain ⟨t301, A360, H⟩ := H
     replace H : (if t301 = true then (laws_FnExactLanded.j1 kj9 l0 a1 a2 t283 t284 t290 (t291 != t284)) else (laws_FnExactLanded.j1 kj9 l0 a1 a2 t283 t284 t290 true)) = some r := H
     have A36 := Aside0.mk A360
     clear A360
     by_cases c37 : t301 = true
     ·subst c37
      have H1 : (laws_FnExactLanded.j1 kj9 l0 a1 a2 t283 t284 t290 (t291 != t284)) = some r := by rw [if_pos rfl] at H; exact H
      clear H
      have H := H1
      clear H1
      have H' := Aside0.mk H
      clear H
      obtain ⟨Ao38, co38, eo38⟩ := Kd.qy0 HO_11.out
      subst eo38
      obtain ⟨Ao39, co39, eo39⟩ := Kd.qy0 HO_8.out
      subst eo39
      go_wp2_with (first | (go_at_call 45; (with_reducible refine (laws_eqLayS.calls kj9 _ _ t290 _ _ t283 true _ ?side1 ?side2 ?side3 ?side4 A36.out).mono ?_); (case side1 => repeat (first | exact (Kd.qg0 HO_11.out).2.2 | (with_reducible refine Kd.qx0 ?_ _) | (with_reducible refine Kd.qw0 ?_ _) | (with_reducible refine Kd.qd1 ?_))); (case side2 => exact (Kd.qg0 HO_11.out).2.1); (case side3 => repeat (first | exact (Kd.qg0 HO_8.out).2.2 | (with_reducible refine Kd.qx0 ?_ _) | (with_reducible refine Kd.qw0 ?_ _) | (with_reducible refine Kd.qd1 ?_))); (case side4 => exact (Kd.qg0 HO_8.out).2.1); rintro e w40 ⟨rfl, hb⟩; have n0_ := Aside0.mk (Kd.qq0 (by (with_reducible repeat (first | apply Kd.qe0 | apply Kd.qd0 | apply Kd.qf0)); exact HO_8.out) hb); have n1_ := Aside0.mk (Kd.qq0 (by (with_reducible repeat (first | apply Kd.qe0 | apply Kd.qd0 | apply Kd.qf0)); exact HO_10.out) hb); have n2_ := Aside0.mk (Kd.qq0 (by (with_reducible repeat (first | apply Kd.qe0 | apply Kd.qd0 | apply Kd.qf0)); exact HO_11.out) hb); have n3_ := Aside0.mk (Kd.qq0 (by (with_reducible repeat (first | apply Kd.qe0 | apply Kd.qd0 | apply Kd.qf0)); exact HO297.out) hb); have n4_ := Aside0.mk (qk0 (by repeat (first | (with_reducible first | exact HB.out | apply qc0 | apply qa0 | apply qb0) | exact HB.out)) hb); clear HO_8; clear HO_10; clear HO_11; clear HO297; clear HB; have HO_8 := n0_; have HO_10 := n1_; have HO_11 := n2_; have HO297 := n3_; have HB := n4_; clear n0_ n1_ n2_ n3_ n4_; (try clear hb); (try clear hb2); (try clear hk); (try clear hi)))
      go_meet
      case rel => exact ⟨_, ((t291 != t284)), (by first | rfl | (simp; done) | (simp [*]; done)), H', ⟨by have := HJ9.out; first | omega | exact Nat.le_refl _⟩, ⟨by (with_reducible repeat (first | apply Kd.qe0 | apply Kd.qd0 | apply Kd.qf0)); exact Kd.qn0 HO_8.out (fun _ hk => hk.2.1)⟩, ⟨by (with_reducible repeat (first | apply Kd.qe0 | apply Kd.qd0 | apply Kd.qf0)); exact Kd.qn0 HO_11.out (fun _ hk => hk.1)⟩, ⟨by repeat (first | (with_reducible first | exact HB.out | apply qc0 | apply qa0 | apply qb0) | exact HB.out)⟩⟩
     replace c37 := Bool.eq_false_iff.mpr c37
     subst c37
     have H1 : (laws_FnExactLanded.j1 kj9 l0 a1 a2 t283 t284 t290 true) = some r := by rw [if_neg (show ¬ (false = true) by decide)] at H; exact H
     clear H
     have H := H1
     clear H1
     have H' := Aside0.mk H
     clear H
     obtain ⟨Ao41, co41, eo41⟩ := Kd.qy0 HO_11.out
     subst eo41
     obtain ⟨Ao42, co42, eo42⟩ := Kd.qy0 HO_8.out
     subst eo42
     go_wp2_with (first | (go_at_call 45; (with_reducible refine (laws_eqLayS.calls kj9 _ _ t290 _ _ t283 false _ ?side1 ?side2 ?side3 ?side4 A36.out).mono ?_); (case side1 => repeat (first | exact (Kd.qg0 HO_11.out).2.2 | (with_reducible refine Kd.qx0 ?_ _) | (with_reducible refine Kd.qw0 ?_ _) | (with_reducible refine Kd.qd1 ?_))); (case side2 => exact (Kd.qg0 HO_11.out).2.1); (case side3 => repeat (first | exact (Kd.qg0 HO_8.out).2.2 | (with_reducible refine Kd.qx0 ?_ _) | (with_reducible refine Kd.qw0 ?_ _) | (with_reducible refine Kd.qd1 ?_))); (case side4 => exact (Kd.qg0 HO_8.out).2.1); rintro e w43 ⟨rfl, hb⟩; have n0_ := Aside0.mk (Kd.qq0 (by (with_reducible repeat (first | apply Kd.qe0 | apply Kd.qd0 | apply Kd.qf0)); exact HO_8.out) hb); have n1_ := Aside0.mk (Kd.qq0 (by (with_reducible repeat (first | apply Kd.qe0 | apply Kd.qd0 | apply Kd.qf0)); exact HO_10.out) hb); have n2_ := Aside0.mk (Kd.qq0 (by (with_reducible repeat (first | apply Kd.qe0 | apply Kd.qd0 | apply Kd.qf0)); exact HO_11.out) hb); have n3_ := Aside0.mk (Kd.qq0 (by (with_reducible repeat (first | apply Kd.qe0 | apply Kd.qd0 | apply Kd.qf0)); exact HO297.out) hb); have n4_ := Aside0.mk (qk0 (by repeat (first | (with_reducible first | exact HB.out | apply qc0 | apply qa0 | apply qb0) | exact HB.out)) hb); clear HO_8; clear HO_10; clear HO_11; clear HO297; clear HB; have HO_8 := n0_; have HO_10 := n1_; have HO_11 := n2_; have HO297 := n3_; have HB := n4_; clear n0_ n1_ n2_ n3_ n4_; (try clear hb); (try clear hb2); (try clear hk); (try clear hi)))
     go_meet
     case rel => exact ⟨_, (true), (by first | rfl | (simp; done) | (simp [*]; done)), H', ⟨by have := HJ9.out; first | omega | exact Nat.le_refl _⟩, ⟨by (with_reducible repeat (first | apply Kd.qe0 | apply Kd.qd0 | apply Kd.qf0)); exact Kd.qn0 HO_8.out (fun _ hk => hk.2.1)⟩, ⟨by (with_reducible repeat (first | apply Kd.qe0 | apply Kd.qd0 | apply Kd.qf0)); exact Kd.qn0 HO_11.out (fun _ hk => hk.1)⟩, ⟨by repeat (first | (with_reducible first | exact HB.out | apply qc0 | apply qa0 | apply qb0) | exact HB.out)⟩⟩
    case rest =>
     clear HC30
     try clear c1
     try clear c2
     try clear p2
     try clear c3
     try clear c4
     try clear c5
     try clear c5b0
     try clear c8
     try clear c18
     try clear c25
     try clear c28
     try clear c35
     try clear c35b0
     try clear c37
     try clear c40
     try clear c42
     try clear c43
     try clear p2
     obtain ⟨kq, x69_29, rfl, HA, HJ29, HO_8, HO_11, HB⟩ := hcut
     cases kq with
     | zero => exact absurd HA.out (by simp [laws_FnExactLanded.j1])
     | succ kj29 =>
      have H := HA.out
      clear HA
      simp only [laws_FnExactLanded.j1] at H
      by_cases c44 : x69_29 = true
      ·subst c44
       have H1 : (some false) = some r := by rw [if_pos rfl] at H; exact H
       clear H
       have H := H1
       clear H1
       obtain rfl := Option.some.inj H
       go_wp2
       go_ret
       exact ⟨by first | rfl | (simp [errW_none, errW_some] <;> rfl) | (simp [*, errW_none, errW_some] <;> rfl), by repeat (first | (with_reducible first | exact HB.out | apply qc0 | apply qa0 | apply qb0) | exact HB.out)⟩
      replace c44 := Bool.eq_false_iff.mpr c44
      subst c44
      have H1 : ((laws_markLayS.f kj29 t290 1).bind fun bt302 => ((laws_heldLayS.f kj29 bt302.2 1).bind fun t304 => (if t304 < 0 then (some false) else (if t304 = bt302.1 then ((laws_toLayS.f kj29 l0).bind fun t305 => ((impl_Landed.f kj29 t305 a1 a2).bind fun bt308 => ((laws_eqLayS.f kj29 bt308.1 t283).bind fun t312 => (if t312 = true then (laws_FnExactLanded.j2 kj29 bt302.2 bt302.1 (bt308.2 != t284)) else (laws_FnExactLanded.j2 kj29 bt302.2 bt302.1 true))))) else (some false))))) = some r := by rw [if_neg (show ¬ (false = true) by decide)] at H; exact H
      clear H
      have H := H1
      clear H1
      replace H := Option.bind_eq_some_iff.mp H
      obtain ⟨⟨t302, t303⟩, A450, H⟩ := H
      replace H : ((laws_heldLayS.f kj29 t303 1).bind fun t304 => (if t304 < 0 then (some false) else (if t304 = t302 then ((laws_toLayS.f kj29 l0).bind fun t305 => ((impl_Landed.f kj29 t305 a1 a2).bind fun bt308 => ((laws_eqLayS.f kj29 bt308.1 t283).bind fun t312 => (if t312 = true then (laws_FnExactLanded.j2 kj29 t303 t302 (bt308.2 != t284)) else (laws_FnExactLanded.j2 kj29 t303 t302 true))))) else (some false)))) = some r := H
      have A45 := Aside0.mk A450
      clear A450
      replace H := Option.bind_eq_some_iff.mp H
      obtain ⟨t304, A460, H⟩ := H
      replace H : (if t304 < 0 then (some false) else (if t304 = t302 then ((laws_toLayS.f kj29 l0).bind fun t305 => ((impl_Landed.f kj29 t305 a1 a2).bind fun bt308 => ((laws_eqLayS.f kj29 bt308.1 t283).bind fun t312 => (if t312 = true then (laws_FnExactLanded.j2 kj29 t303 t302 (bt308.2 != t284)) else (laws_FnExactLanded.j2 kj29 t303 t302 true))))) else (some false))) = some r := H
      have A46 := Aside0.mk A460
      clear A460
      by_cases c47 : t304 < 0
      ·rw [if_pos c47] at H
       have c47b0 : decide (t304 < 0) = true := decide_eq_true c47
       clear c47
       obtain rfl := Option.some.inj H
       obtain ⟨Ao48, co48, eo48⟩ := Kd.qy0 HO_11.out
       subst eo48
       go_wp2_with (first | ((with_reducible refine qi0 (f := 46) rfl ?_); refine qu0 (some 72) rfl rfl Try.func46 (by kernel_rfl) rfl #[.slice Ao48 t290.length co48, .int .i64 1] rfl (by (try simp only [List.map_toArray, List.map_cons, List.map_nil]); first | done | rfl | (simp only [List.length_drop, List.length_take]; rfl)) ?_; (with_reducible refine (laws_markLayS.calls kj29 (fun k_ => some k_ = (.slice Ao48 t290.length co48 : Value).ownBlock) (.slice Ao48 t290.length co48) t290 1 t302 t303 w _ ?side1 ?side2 A45.out).mono ?_); (case side1 => repeat (first | (with_reducible first | exact HB.out | apply qc0 | apply qa0 | apply qb0) | exact HB.out)); (case side2 => exact Kd.R_tight rfl HO_11.out); rintro e w49 ⟨rfl, hy0, hb, hkp⟩; refine ⟨_, rfl, ?_⟩; have n0_ := Aside0.mk (Kd.qn0 (ok' := fun k_ => some k_ ≠ (.slice Ao48 t290.length co48 : Value).ownBlock) (Kd.R_keptB (HO_8.out) hkp (fun k_ hk_ hs_ => (hk_) hs_)) (fun k_ hk_ => hk_.1)); have n1_ := Aside0.mk (Kd.R_reok rfl hy0 (fun k_ e_ => HO_11.out.1 k_ e_)); have n2_ := Aside0.mk (hb); clear HO_8; clear HO_11; clear HB; have HO_8 := n0_; have HO_11 := n1_; have HB := n2_; clear n0_ n1_ n2_; (try clear hb); (try clear hkp); (try clear hy0)) | ((with_reducible refine qi0 (f := 47) rfl ?_); refine qu0 (some 75) rfl rfl Try.func47 (by kernel_rfl) rfl #[.slice Ao48 t303.length co48, .int .i64 1] rfl (by (try simp only [List.map_toArray, List.map_cons, List.map_nil]); first | done | (rw [show t303.length = t290.length from (Kd.qg0 HO_11.out).1.symm] <;> rfl) | rfl | (simp only [List.length_drop, List.length_take]; rfl)) ?_; (with_reducible refine (laws_heldLayS.calls kj29 _ _ t303 1 t304 _ ?side1 ?side2 A46.out).mono ?_); (case side1 => repeat (first | exact (Kd.qg0 HO_11.out).2.2 | (with_reducible refine Kd.qx0 ?_ _) | (with_reducible refine Kd.qw0 ?_ _) | (with_reducible refine Kd.qd1 ?_))); (case side2 => rw [show t303.length = t290.length from (Kd.qg0 HO_11.out).1.symm]; exact (Kd.qg0 HO_11.out).2.1); rintro e w' ⟨rfl, ⟨nd, rfl⟩⟩; refine ⟨_, rfl, ?_⟩))
       go_ret
       exact ⟨by first | rfl | (simp [errW_none, errW_some] <;> rfl) | (simp [*, errW_none, errW_some] <;> rfl), by repeat (first | (with_reducible first | exact HB.out | apply qc0 | apply qa0 | apply qb0) | exact HB.out)⟩
      rw [if_neg c47] at H
      have c47b0 : decide (t304 < 0) = false := decide_eq_false c47
      clear c47
      by_cases c50 : t304 = t302
      ·rw [if_pos c50] at H
       have c50b0 : (t304 == t302) = true := beq_iff_eq.mpr c50
       have c50b1 : (t304 != t302) = false := bne_eq_false_iff_eq.mpr c50
       clear c50
       replace H := Option.bind_eq_some_iff.mp H
       obtain ⟨t305, A510, H⟩ := H
       replace H : ((impl_Landed.f kj29 t305 a1 a2).bind fun bt308 => ((laws_eqLayS.f kj29 bt308.1 t283).bind fun t312 => (if t312 = true then (laws_FnExactLanded.j2 kj29 t303 t302 (bt308.2 != t284)) else (laws_FnExactLanded.j2 kj29 t303 t302 true)))) = some r := H
       have A51 := Aside0.mk A510
       clear A510
       replace H := Option.bind_eq_some_iff.mp H
       obtain ⟨⟨t308, t309⟩, A520, H⟩ := H
       replace H : ((laws_eqLayS.f kj29 t308 t283).bind fun t312 => (if t312 = true then (laws_FnExactLanded.j2 kj29 t303 t302 (t309 != t284)) else (laws_FnExactLanded.j2 kj29 t303 t302 true))) = some r := H
       have A52 := Aside0.mk A520
       clear A520
       have HC53 := Aside0.mk H
       clear H
       obtain ⟨Ao54, co54, eo54⟩ := Kd.qy0 HO_11.out
       subst eo54
       go_upto_region 25 with (first | ((with_reducible refine qi0 (f := 46) rfl ?_); refine qu0 (some 72) rfl rfl Try.func46 (by kernel_rfl) rfl #[.slice Ao54 t290.length co54, .int .i64 1] rfl (by (try simp only [List.map_toArray, List.map_cons, List.map_nil]); first | done | rfl | (simp only [List.length_drop, List.length_take]; rfl)) ?_; (with_reducible refine (laws_markLayS.calls kj29 (fun k_ => some k_ = (.slice Ao54 t290.length co54 : Value).ownBlock) (.slice Ao54 t290.length co54) t290 1 t302 t303 w _ ?side1 ?side2 A45.out).mono ?_); (case side1 => repeat (first | (with_reducible first | exact HB.out | apply qc0 | apply qa0 | apply qb0) | exact HB.out)); (case side2 => exact Kd.R_tight rfl HO_11.out); rintro e w55 ⟨rfl, hy0, hb, hkp⟩; refine ⟨_, rfl, ?_⟩; have n0_ := Aside0.mk (Kd.qn0 (ok' := fun k_ => some k_ ≠ (.slice Ao54 t290.length co54 : Value).ownBlock) (Kd.R_keptB (HO_8.out) hkp (fun k_ hk_ hs_ => (hk_) hs_)) (fun k_ hk_ => hk_.1)); have n1_ := Aside0.mk (Kd.R_reok rfl hy0 (fun k_ e_ => HO_11.out.1 k_ e_)); have n2_ := Aside0.mk (hb); clear HO_8; clear HO_11; clear HB; have HO_8 := n0_; have HO_11 := n1_; have HB := n2_; clear n0_ n1_ n2_; (try clear hb); (try clear hkp); (try clear hy0)) | ((with_reducible refine qi0 (f := 47) rfl ?_); refine qu0 (some 75) rfl rfl Try.func47 (by kernel_rfl) rfl #[.slice Ao54 t303.length co54, .int .i64 1] rfl (by (try simp only [List.map_toArray, List.map_cons, List.map_nil]); first | done | (rw [show t303.length = t290.length from (Kd.qg0 HO_11.out).1.symm] <;> rfl) | rfl | (simp only [List.length_drop, List.length_take]; rfl)) ?_; (with_reducible refine (laws_heldLayS.calls kj29 _ _ t303 1 t304 _ ?side1 ?side2 A46.out).mono ?_); (case side1 => repeat (first | exact (Kd.qg0 HO_11.out).2.2 | (with_reducible refine Kd.qx0 ?_ _) | (with_reducible refine Kd.qw0 ?_ _) | (with_reducible refine Kd.qd1 ?_))); (case side2 => rw [show t303.length = t290.length from (Kd.qg0 HO_11.out).1.symm]; exact (Kd.qg0 HO_11.out).2.1); rintro e w' ⟨rfl, ⟨nd, rfl⟩⟩; refine ⟨_, rfl, ?_⟩) | ((with_reducible refine qi0 (f := 44) rfl ?_); refine qu0 (some 83) rfl rfl Try.func44 (by kernel_rfl) rfl #[.slice A0 l0.length c0] rfl (by (try simp only [List.map_toArray, List.map_cons, List.map_nil]); first | done | rfl | (simp only [List.length_drop, List.length_take]; rfl)) ?_; (with_reducible refine (laws_toLayS.calls kj29 _ _ l0 t305 _ ?side1 ?side2 A51.out).mono ?_); (case side1 => repeat (first | exact (Kd.C_below HR0.out (by repeat (first | (with_reducible first | exact HB.out | apply qc0 | apply qa0 | apply qb0) | exact HB.out))) | (with_reducible refine Kd.qx0 ?_ _) | (with_reducible refine Kd.qw0 ?_ _) | (with_reducible refine Kd.qd1 ?_))); (case side2 => exact HC0.out); rintro e w56 ⟨v306, rfl, ho0, hb⟩; refine ⟨_, rfl, ?_⟩; have n0_ := Aside0.mk (Kd.R_elder' (by (with_reducible repeat (first | apply Kd.qe0 | apply Kd.qd0 | apply Kd.qf0)); exact HO_8.out) (Kd.ql1 ho0) hb); have n1_ := Aside0.mk (Kd.R_elder' (by (with_reducible repeat (first | apply Kd.qe0 | apply Kd.qd0 | apply Kd.qf0)); exact HO_11.out) (Kd.ql1 ho0) hb); have n2_ := Aside0.mk (Kd.qf1 (Kd.qk1 (Kd.qk1 ho0 (Kd.R_lt (by (with_reducible repeat (first | apply Kd.qe0 | apply Kd.qd0 | apply Kd.qf0)); exact HO_8.out))) (Kd.R_lt (by (with_reducible repeat (first | apply Kd.qe0 | apply Kd.qd0 | apply Kd.qf0)); exact HO_11.out))) (qh0 (by repeat (first | (with_reducible first | exact HB.out | apply qc0 | apply qa0 | apply qb0) | exact HB.out)))); have n3_ := Aside0.mk (qk0 (by repeat (first | (with_reducible first | exact HB.out | apply qc0 | apply qa0 | apply qb0) | exact HB.out)) hb); clear HO_8; clear HO_11; clear HB; have HO_8 := n0_; have HO_11 := n1_; have HO307 := n2_; have HB := n3_; clear n0_ n1_ n2_ n3_; (try clear hb); (try clear hb2); (try clear hk); (try clear hi); (try clear ho0); obtain ⟨Ao57, co57, eo57⟩ := Kd.qy0 HO307.out; subst eo57) | ((with_reducible refine qi0 (f := 40) rfl ?_); refine qu0 (some 86) rfl rfl Try.func40 (by kernel_rfl) rfl #[.slice Ao57 t305.length co57, .int .i64 a1, .int .i64 a2] rfl (by (try simp only [List.map_toArray, List.map_cons, List.map_nil]); first | done | rfl | (simp only [List.length_drop, List.length_take]; rfl)) ?_; (with_reducible refine (impl_Landed.calls kj29 _ _ t305 a1 a2 t308 t309 _ ?side1 ?side2 A52.out).mono ?_); (case side1 => repeat (first | exact (Kd.qg0 HO307.out).2.2 | (with_reducible refine Kd.qx0 ?_ _) | (with_reducible refine Kd.qw0 ?_ _) | (with_reducible refine Kd.qd1 ?_))); (case side2 => exact (Kd.qg0 HO307.out).2.1); rintro e w58 ⟨v310, rfl, ho0, hb⟩; refine ⟨_, rfl, ?_⟩; have n0_ := Aside0.mk (Kd.R_elder' (by (with_reducible repeat (first | apply Kd.qe0 | apply Kd.qd0 | apply Kd.qf0)); exact HO_8.out) (Kd.ql1 ho0) hb); have n1_ := Aside0.mk (Kd.R_elder' (by (with_reducible repeat (first | apply Kd.qe0 | apply Kd.qd0 | apply Kd.qf0)); exact HO_11.out) (Kd.ql1 ho0) hb); have n2_ := Aside0.mk (Kd.R_elder' (by (with_reducible repeat (first | apply Kd.qe0 | apply Kd.qd0 | apply Kd.qf0)); exact HO307.out) (Kd.ql1 ho0) hb); have n3_ := Aside0.mk (Kd.qf1 (Kd.qk1 (Kd.qk1 (Kd.qk1 ho0 (Kd.R_lt (by (with_reducible repeat (first | apply Kd.qe0 | apply Kd.qd0 | apply Kd.qf0)); exact HO_8.out))) (Kd.R_lt (by (with_reducible repeat (first | apply Kd.qe0 | apply Kd.qd0 | apply Kd.qf0)); exact HO_11.out))) (Kd.R_lt (by (with_reducible repeat (first | apply Kd.qe0 | apply Kd.qd0 | apply Kd.qf0)); exact HO307.out))) (qh0 (by repeat (first | (with_reducible first | exact HB.out | apply qc0 | apply qa0 | apply qb0) | exact HB.out)))); have n4_ := Aside0.mk (qk0 (by repeat (first | (with_reducible first | exact HB.out | apply qc0 | apply qa0 | apply qb0) | exact HB.out)) hb); clear HO_8; clear HO_11; clear HO307; clear HB; have HO_8 := n0_; have HO_11 := n1_; have HO307 := n2_; have HO311 := n3_; have HB := n4_; clear n0_ n1_ n2_ n3_ n4_; (try clear hb); (try clear hb2); (try clear hk); (try clear hi); (try clear ho0)))
       (try simp only [Act.put, List.setIfInBounds_toArray, List.set_cons_zero, List.set_cons_succ])
       go_cut [97] (fun v97 wc => ∃ (kq : Nat) (x97_52 : Bool), v97 = .bool x97_52 ∧ Aside0 (laws_FnExactLanded.j2 kq t303 t302 x97_52 = some r) ∧ Aside0 (kq ≤ kj29) ∧ Aside0 (Kd.R k61 61 wc w.heap.size (fun _ => True) (.slice Ao54 t290.length co54) t303) ∧ Aside0 (Below w.heap.size w wc))
       case first =>
        have H := HC53.out
        clear HC53
        replace H := Option.bind_eq_some_iff.mp H
        obtain ⟨t312, A590, H⟩ := H
        replace H : (if t312 = true then (laws_FnExactLanded.j2 kj29 t303 t302 (t309 != t284)) else (laws_FnExactLanded.j2 kj29 t303 t302 true)) = some r := H
        have A59 := Aside0.mk A590
        clear A590
        by_cases c60 : t312 = true
        ·subst c60
         have H1 : (laws_FnExactLanded.j2 kj29 t303 t302 (t309 != t284)) = some r := by rw [if_pos rfl] at H; exact H
         clear H
         have H := H1
         clear H1
         have H' := Aside0.mk H
         clear H
         obtain ⟨Ao61, co61, eo61⟩ := Kd.qy0 HO311.out
         subst eo61
         obtain ⟨Ao62, co62, eo62⟩ := Kd.qy0 HO_8.out
         subst eo62
         go_wp2_with (first | ((with_reducible refine qi0 (f := 45) rfl ?_); refine qu0 (some 91) rfl rfl Try.func45 (by kernel_rfl) rfl #[.slice Ao61 t308.length co61, .slice Ao62 t283.length co62] rfl (by (try simp only [List.map_toArray, List.map_cons, List.map_nil]); first | done | rfl | (simp only [List.length_drop, List.length_take]; rfl)) ?_; (with_reducible refine (laws_eqLayS.calls kj29 _ _ t308 _ _ t283 true _ ?side1 ?side2 ?side3 ?side4 A59.out).mono ?_); (case side1 => repeat (first | exact (Kd.qg0 HO311.out).2.2 | (with_reducible refine Kd.qx0 ?_ _) | (with_reducible refine Kd.qw0 ?_ _) | (with_reducible refine Kd.qd1 ?_))); (case side2 => exact (Kd.qg0 HO311.out).2.1); (case side3 => repeat (first | exact (Kd.qg0 HO_8.out).2.2 | (with_reducible refine Kd.qx0 ?_ _) | (with_reducible refine Kd.qw0 ?_ _) | (with_reducible refine Kd.qd1 ?_))); (case side4 => exact (Kd.qg0 HO_8.out).2.1); rintro e w63 ⟨rfl, hb⟩; refine ⟨_, rfl, ?_⟩; have n0_ := Aside0.mk (Kd.qq0 (by (with_reducible repeat (first | apply Kd.qe0 | apply Kd.qd0 | apply Kd.qf0)); exact HO_8.out) hb); have n1_ := Aside0.mk (Kd.qq0 (by (with_reducible repeat (first | apply Kd.qe0 | apply Kd.qd0 | apply Kd.qf0)); exact HO_11.out) hb); have n2_ := Aside0.mk (Kd.qq0 (by (with_reducible repeat (first | apply Kd.qe0 | apply Kd.qd0 | apply Kd.qf0)); exact HO307.out) hb); have n3_ := Aside0.mk (Kd.qq0 (by (with_reducible repeat (first | apply Kd.qe0 | apply Kd.qd0 | apply Kd.qf0)); exact HO311.out) hb); have n4_ := Aside0.mk (qk0 (by repeat (first | (with_reducible first | exact HB.out | apply qc0 | apply qa0 | apply qb0) | exact HB.out)) hb); clear HO_8; clear HO_11; clear HO307; clear HO311; clear HB; have HO_8 := n0_; have HO_11 := n1_; have HO307 := n2_; have HO311 := n3_; have HB := n4_; clear n0_ n1_ n2_ n3_ n4_; (try clear hb); (try clear hb2); (try clear hk); (try clear hi)))
         go_meet
         case rel => exact ⟨_, ((t309 != t284)), (by first | rfl | (simp; done) | (simp [*]; done)), H', ⟨by have := HJ9.out; have := HJ29.out; first | omega | exact Nat.le_refl _⟩, ⟨by (with_reducible repeat (first | apply Kd.qe0 | apply Kd.qd0 | apply Kd.qf0)); exact Kd.qn0 HO_11.out (fun _ hk => trivial)⟩, ⟨by repeat (first | (with_reducible first | exact HB.out | apply qc0 | apply qa0 | apply qb0) | exact HB.out)⟩⟩
        replace c60 := Bool.eq_false_iff.mpr c60
        subst c60
        have H1 : (laws_FnExactLanded.j2 kj29 t303 t302 true) = some r := by rw [if_neg (show ¬ (false = true) by decide)] at H; exact H
        clear H
        have H := H1
        clear H1
        have H' := Aside0.mk H
        clear H
        obtain ⟨Ao64, co64, eo64⟩ := Kd.qy0 HO311.out
        subst eo64
        obtain ⟨Ao65, co65, eo65⟩ := Kd.qy0 HO_8.out
        subst eo65
        go_wp2_with (first | ((with_reducible refine qi0 (f := 45) rfl ?_); refine qu0 (some 91) rfl rfl Try.func45 (by kernel_rfl) rfl #[.slice Ao64 t308.length co64, .slice Ao65 t283.length co65] rfl (by (try simp only [List.map_toArray, List.map_cons, List.map_nil]); first | done | rfl | (simp only [List.length_drop, List.length_take]; rfl)) ?_; (with_reducible refine (laws_eqLayS.calls kj29 _ _ t308 _ _ t283 false _ ?side1 ?side2 ?side3 ?side4 A59.out).mono ?_); (case side1 => repeat (first | exact (Kd.qg0 HO311.out).2.2 | (with_reducible refine Kd.qx0 ?_ _) | (with_reducible refine Kd.qw0 ?_ _) | (with_reducible refine Kd.qd1 ?_))); (case side2 => exact (Kd.qg0 HO311.out).2.1); (case side3 => repeat (first | exact (Kd.qg0 HO_8.out).2.2 | (with_reducible refine Kd.qx0 ?_ _) | (with_reducible refine Kd.qw0 ?_ _) | (with_reducible refine Kd.qd1 ?_))); (case side4 => exact (Kd.qg0 HO_8.out).2.1); rintro e w66 ⟨rfl, hb⟩; refine ⟨_, rfl, ?_⟩; have n0_ := Aside0.mk (Kd.qq0 (by (with_reducible repeat (first | apply Kd.qe0 | apply Kd.qd0 | apply Kd.qf0)); exact HO_8.out) hb); have n1_ := Aside0.mk (Kd.qq0 (by (with_reducible repeat (first | apply Kd.qe0 | apply Kd.qd0 | apply Kd.qf0)); exact HO_11.out) hb); have n2_ := Aside0.mk (Kd.qq0 (by (with_reducible repeat (first | apply Kd.qe0 | apply Kd.qd0 | apply Kd.qf0)); exact HO307.out) hb); have n3_ := Aside0.mk (Kd.qq0 (by (with_reducible repeat (first | apply Kd.qe0 | apply Kd.qd0 | apply Kd.qf0)); exact HO311.out) hb); have n4_ := Aside0.mk (qk0 (by repeat (first | (with_reducible first | exact HB.out | apply qc0 | apply qa0 | apply qb0) | exact HB.out)) hb); clear HO_8; clear HO_11; clear HO307; clear HO311; clear HB; have HO_8 := n0_; have HO_11 := n1_; have HO307 := n2_; have HO311 := n3_; have HB := n4_; clear n0_ n1_ n2_ n3_ n4_; (try clear hb); (try clear hb2); (try clear hk); (try clear hi)))
        go_meet
        case rel => exact ⟨_, (true), (by first | rfl | (simp; done) | (simp [*]; done)), H', ⟨by have := HJ9.out; have := HJ29.out; first | omega | exact Nat.le_refl _⟩, ⟨by (with_reducible repeat (first | apply Kd.qe0 | apply Kd.qd0 | apply Kd.qf0)); exact Kd.qn0 HO_11.out (fun _ hk => trivial)⟩, ⟨by repeat (first | (with_reducible first | exact HB.out | apply qc0 | apply qa0 | apply qb0) | exact HB.out)⟩⟩
       case rest =>
        clear HC53
        try clear c1
        try clear c2
        try clear p2
        try clear c3
        try clear c4
        try clear c5
        try clear c5b0
        try clear c6
        try clear c8
        try clear c18
        try clear c25
        try clear c28
        try clear c35
        try clear c35b0
        try clear c37
        try clear c40
        try clear c42
        try clear c43
        try clear c44
        try clear c45
        try clear c46
        try clear c47
        try clear c47b0
        try clear c50
        try clear c50b0
        try clear c50b1
        try clear c60
        try clear p2
        obtain ⟨kq, x97_52, rfl, HA, HJ52, HO_11, HB⟩ := hcut
        have hl11_52 := (Kd.qg0 HO_11.out).1
        rw [hl11_52] at HO_11
        (try simp only [hl11_52])
        cases kq with
        | zero => exact absurd HA.out (by simp [laws_FnExactLanded.j2])
        | succ kj52 =>
         have H := HA.out
         clear HA
         simp only [laws_FnExactLanded.j2] at H
         by_cases c67 : x97_52 = true
         ·subst c67
          have H1 : (some false) = some r := by rw [if_pos rfl] at H; exact H
          clear H
          have H := H1
          clear H1
          obtain rfl := Option.some.inj H
          go_wp2
          go_ret
          exact ⟨by first | rfl | (simp [errW_none, errW_some] <;> rfl) | (simp [*, errW_none, errW_some] <;> rfl), by repeat (first | (with_reducible first | exact HB.out | apply qc0 | apply qa0 | apply qb0) | exact HB.out)⟩
         replace c67 := Bool.eq_false_iff.mpr c67
         subst c67
         have H1 : ((laws_heldLayS.f kj52 t303 1).bind fun t313 => (if t313 < 0 then (some false) else (if t313 = t302 then (some true) else (some false)))) = some r := by rw [if_neg (show ¬ (false = true) by decide)] at H; exact H
         clear H
         have H := H1
         clear H1
         replace H := Option.bind_eq_some_iff.mp H
         obtain ⟨t313, A680, H⟩ := H
         replace H : (if t313 < 0 then (some false) else (if t313 = t302 then (some true) else (some false))) = some r := H
         have A68 := Aside0.mk A680
         clear A680
         by_cases c69 : t313 < 0
         ·rw [if_pos c69] at H
          have c69b0 : decide (t313 < 0) = true := decide_eq_true c69
          clear c69
          obtain rfl := Option.some.inj H
          go_wp2_with (first | ((with_reducible refine qi0 (f := 47) rfl ?_); refine qu0 (some 100) rfl rfl Try.func47 (by kernel_rfl) rfl #[.slice Ao54 t303.length co54, .int .i64 1] rfl (by (try simp only [List.map_toArray, List.map_cons, List.map_nil]); first | done | rfl | (simp only [List.length_drop, List.length_take]; rfl)) ?_; (with_reducible refine (laws_heldLayS.calls kj52 _ _ t303 1 t313 _ ?side1 ?side2 A68.out).mono ?_); (case side1 => repeat (first | exact (Kd.qg0 HO_11.out).2.2 | (with_reducible refine Kd.qx0 ?_ _) | (with_reducible refine Kd.qw0 ?_ _) | (with_reducible refine Kd.qd1 ?_))); (case side2 => exact (Kd.qg0 HO_11.out).2.1); rintro e w' ⟨rfl, ⟨nd, rfl⟩⟩; refine ⟨_, rfl, ?_⟩))
          go_ret
          exact ⟨by first | rfl | (simp [errW_none, errW_some] <;> rfl) | (simp [*, errW_none, errW_some] <;> rfl), by repeat (first | (with_reducible first | exact HB.out | apply qc0 | apply qa0 | apply qb0) | exact HB.out)⟩
         rw [if_neg c69] at H
         have c69b0 : decide (t313 < 0) = false := decide_eq_false c69
         clear c69
         by_cases c70 : t313 = t302
         ·rw [if_pos c70] at H
          have c70b0 : (t313 == t302) = true := beq_iff_eq.mpr c70
          have c70b1 : (t313 != t302) = false := bne_eq_false_iff_eq.mpr c70
          clear c70
          obtain rfl := Option.some.inj H
          go_wp2_with (first | ((with_reducible refine qi0 (f := 47) rfl ?_); refine qu0 (some 100) rfl rfl Try.func47 (by kernel_rfl) rfl #[.slice Ao54 t303.length co54, .int .i64 1] rfl (by (try simp only [List.map_toArray, List.map_cons, List.map_nil]); first | done | rfl | (simp only [List.length_drop, List.length_take]; rfl)) ?_; (with_reducible refine (laws_heldLayS.calls kj52 _ _ t303 1 t313 _ ?side1 ?side2 A68.out).mono ?_); (case side1 => repeat (first | exact (Kd.qg0 HO_11.out).2.2 | (with_reducible refine Kd.qx0 ?_ _) | (with_reducible refine Kd.qw0 ?_ _) | (with_reducible refine Kd.qd1 ?_))); (case side2 => exact (Kd.qg0 HO_11.out).2.1); rintro e w' ⟨rfl, ⟨nd, rfl⟩⟩; refine ⟨_, rfl, ?_⟩))
          go_ret
          exact ⟨by first | rfl | (simp [errW_none, errW_some] <;> rfl) | (simp [*, errW_none, errW_some] <;> rfl), by repeat (first | (with_reducible first | exact HB.out | apply qc0 | apply qa0 | apply qb0) | exact HB.out)⟩
         rw [if_neg c70] at H
         have c70b0 : (t313 == t302) = false := beq_eq_false_iff_ne.mpr c70
         have c70b1 : (t313 != t302) = true := bne_iff_ne.mpr c70
         obtain rfl := Option.some.inj H
         go_wp2_with (first | ((with_reducible refine qi0 (f := 47) rfl ?_); refine qu0 (some 100) rfl rfl Try.func47 (by kernel_rfl) rfl #[.slice Ao54 t303.length co54, .int .i64 1] rfl (by (try simp only [List.map_toArray, List.map_cons, List.map_nil]); first | done | rfl | (simp only [List.length_drop, List.length_take]; rfl)) ?_; (with_reducible refine (laws_heldLayS.calls kj52 _ _ t303 1 t313 _ ?side1 ?side2 A68.out).mono ?_); (case side1 => repeat (first | exact (Kd.qg0 HO_11.out).2.2 | (with_reducible refine Kd.qx0 ?_ _) | (with_reducible refine Kd.qw0 ?_ _) | (with_reducible refine Kd.qd1 ?_))); (case side2 => exact (Kd.qg0 HO_11.out).2.1); rintro e w' ⟨rfl, ⟨nd, rfl⟩⟩; refine ⟨_, rfl, ?_⟩))
         go_ret
         exact ⟨by first | rfl | (simp [errW_none, errW_some] <;> rfl) | (simp [*, errW_none, errW_some] <;> rfl), by repeat (first | (with_reducible first | exact HB.out | apply qc0 | apply qa0 | apply qb0) | exact HB.out)⟩
      rw [if_neg c50] at H
      have c50b0 : (t304 == t302) = false := beq_eq_false_iff_ne.mpr c50
      have c50b1 : (t304 != t302) = true := bne_iff_ne.mpr c50
      obtain rfl := Option.some.inj H
      obtain ⟨Ao71, co71, eo71⟩ := Kd.qy0 HO_11.out
      subst eo71
      go_wp2_with (first | ((with_reducible refine qi0 (f := 46) rfl ?_); refine qu0 (some 72) rfl rfl Try.func46 (by kernel_rfl) rfl #[.slice Ao71 t290.length co71, .int .i64 1] rfl (by (try simp only [List.map_toArray, List.map_cons, List.map_nil]); first | done | rfl | (simp only [List.length_drop, List.length_take]; rfl)) ?_; (with_reducible refine (laws_markLayS.calls kj29 (fun k_ => some k_ = (.slice Ao71 t290.length co71 : Value).ownBlock) (.slice Ao71 t290.length co71) t290 1 t302 t303 w _ ?side1 ?side2 A45.out).mono ?_); (case side1 => repeat (first | (with_reducible first | exact HB.out | apply qc0 | apply qa0 | apply qb0) | exact HB.out)); (case side2 => exact Kd.R_tight rfl HO_11.out); rintro e w72 ⟨rfl, hy0, hb, hkp⟩; refine ⟨_, rfl, ?_⟩; have n0_ := Aside0.mk (Kd.qn0 (ok' := fun k_ => some k_ ≠ (.slice Ao71 t290.length co71 : Value).ownBlock) (Kd.R_keptB (HO_8.out) hkp (fun k_ hk_ hs_ => (hk_) hs_)) (fun k_ hk_ => hk_.1)); have n1_ := Aside0.mk (Kd.R_reok rfl hy0 (fun k_ e_ => HO_11.out.1 k_ e_)); have n2_ := Aside0.mk (hb); clear HO_8; clear HO_11; clear HB; have HO_8 := n0_; have HO_11 := n1_; have HB := n2_; clear n0_ n1_ n2_; (try clear hb); (try clear hkp); (try clear hy0)) | ((with_reducible refine qi0 (f := 47) rfl ?_); refine qu0 (some 75) rfl rfl Try.func47 (by kernel_rfl) rfl #[.slice Ao71 t303.length co71, .int .i64 1] rfl (by (try simp only [List.map_toArray, List.map_cons, List.map_nil]); first | done | (rw [show t303.length = t290.length from (Kd.qg0 HO_11.out).1.symm] <;> rfl) | rfl | (simp only [List.length_drop, List.length_take]; rfl)) ?_; (with_reducible refine (laws_heldLayS.calls kj29 _ _ t303 1 t304 _ ?side1 ?side2 A46.out).mono ?_); (case side1 => repeat (first | exact (Kd.qg0 HO_11.out).2.2 | (with_reducible refine Kd.qx0 ?_ _) | (with_reducible refine Kd.qw0 ?_ _) | (with_reducible refine Kd.qd1 ?_))); (case side2 => rw [show t303.length = t290.length from (Kd.qg0 HO_11.out).1.symm]; exact (Kd.qg0 HO_11.out).2.1); rintro e w' ⟨rfl, ⟨nd, rfl⟩⟩; refine ⟨_, rfl, ?_⟩))
      go_ret
      exact ⟨by first | rfl | (simp [errW_none, errW_some] <;> rfl) | (simp [*, errW_none, errW_some] <;> rfl), by repeat (first | (with_reducible first | exact HB.out | apply qc0 | apply qa0 | apply qb0) | exact HB.out)⟩
   replace c28 := Bool.eq_false_iff.mpr c28
   subst c28
   have H1 : (some false) = some r := by rw [if_neg (show ¬ (false = true) by decide)] at H; exact H
   clear H
   have H := H1
   clear H1
   obtain rfl := Option.some.inj H
   go_wp2_with (first | ((with_reducible refine qi0 (f := 44) rfl ?_); refine qu0 (some 51) rfl rfl Try.func44 (by kernel_rfl) rfl #[.slice A0 l0.length c0] rfl (by (try simp only [List.map_toArray, List.map_cons, List.map_nil]); first | done | rfl | (simp only [List.length_drop, List.length_take]; rfl)) ?_; (with_reducible refine (laws_toLayS.calls kj9 _ _ l0 t295 _ ?side1 ?side2 A26.out).mono ?_); (case side1 => repeat (first | exact (Kd.C_below HR0.out HB.out) | (with_reducible refine Kd.qx0 ?_ _) | (with_reducible refine Kd.qw0 ?_ _) | (with_reducible refine Kd.qd1 ?_))); (case side2 => exact HC0.out); rintro e w73 ⟨v296, rfl, ho0, hb⟩; refine ⟨_, rfl, ?_⟩; have n0_ := Aside0.mk (Kd.R_elder' (by (with_reducible repeat (first | apply Kd.qe0 | apply Kd.qd0 | apply Kd.qf0)); exact HO_8.out) (Kd.ql1 ho0) hb); have n1_ := Aside0.mk (Kd.R_elder' (by (with_reducible repeat (first | apply Kd.qe0 | apply Kd.qd0 | apply Kd.qf0)); exact HO_10.out) (Kd.ql1 ho0) hb); have n2_ := Aside0.mk (Kd.R_elder' (by (with_reducible repeat (first | apply Kd.qe0 | apply Kd.qd0 | apply Kd.qf0)); exact HO_11.out) (Kd.ql1 ho0) hb); have n3_ := Aside0.mk (Kd.qf1 (Kd.qk1 (Kd.qk1 (Kd.qk1 ho0 (Kd.R_lt (by (with_reducible repeat (first | apply Kd.qe0 | apply Kd.qd0 | apply Kd.qf0)); exact HO_8.out))) (Kd.R_lt (by (with_reducible repeat (first | apply Kd.qe0 | apply Kd.qd0 | apply Kd.qf0)); exact HO_10.out))) (Kd.R_lt (by (with_reducible repeat (first | apply Kd.qe0 | apply Kd.qd0 | apply Kd.qf0)); exact HO_11.out))) (qh0 (by repeat (first | (with_reducible first | exact HB.out | apply qc0 | apply qa0 | apply qb0) | exact HB.out)))); have n4_ := Aside0.mk (qk0 (by repeat (first | (with_reducible first | exact HB.out | apply qc0 | apply qa0 | apply qb0) | exact HB.out)) hb); clear HO_8; clear HO_10; clear HO_11; clear HB; have HO_8 := n0_; have HO_10 := n1_; have HO_11 := n2_; have HO297 := n3_; have HB := n4_; clear n0_ n1_ n2_ n3_ n4_; (try clear hb); (try clear hb2); (try clear hk); (try clear hi); (try clear ho0); obtain ⟨Ao74, co74, eo74⟩ := Kd.qy0 HO297.out; subst eo74) | ((with_reducible refine qi0 (f := 45) rfl ?_); refine qu0 (some 52) rfl rfl Try.func45 (by kernel_rfl) rfl #[.slice Ao15 t287.length co15, .slice Ao74 t295.length co74] rfl (by (try simp only [List.map_toArray, List.map_cons, List.map_nil]); first | done | rfl | (simp only [List.length_drop, List.length_take]; rfl)) ?_; (with_reducible refine (laws_eqLayS.calls kj9 _ _ t287 _ _ t295 false _ ?side1 ?side2 ?side3 ?side4 A27.out).mono ?_); (case side1 => repeat (first | exact (Kd.qg0 HO_10.out).2.2 | (with_reducible refine Kd.qx0 ?_ _) | (with_reducible refine Kd.qw0 ?_ _) | (with_reducible refine Kd.qd1 ?_))); (case side2 => exact (Kd.qg0 HO_10.out).2.1); (case side3 => repeat (first | exact (Kd.qg0 HO297.out).2.2 | (with_reducible refine Kd.qx0 ?_ _) | (with_reducible refine Kd.qw0 ?_ _) | (with_reducible refine Kd.qd1 ?_))); (case side4 => exact (Kd.qg0 HO297.out).2.1); rintro e w75 ⟨rfl, hb⟩; refine ⟨_, rfl, ?_⟩; have n0_ := Aside0.mk (Kd.qq0 (by (with_reducible repeat (first | apply Kd.qe0 | apply Kd.qd0 | apply Kd.qf0)); exact HO_8.out) hb); have n1_ := Aside0.mk (Kd.qq0 (by (with_reducible repeat (first | apply Kd.qe0 | apply Kd.qd0 | apply Kd.qf0)); exact HO_10.out) hb); have n2_ := Aside0.mk (Kd.qq0 (by (with_reducible repeat (first | apply Kd.qe0 | apply Kd.qd0 | apply Kd.qf0)); exact HO_11.out) hb); have n3_ := Aside0.mk (Kd.qq0 (by (with_reducible repeat (first | apply Kd.qe0 | apply Kd.qd0 | apply Kd.qf0)); exact HO297.out) hb); have n4_ := Aside0.mk (qk0 (by repeat (first | (with_reducible first | exact HB.out | apply qc0 | apply qa0 | apply qb0) | exact HB.out)) hb); clear HO_8; clear HO_10; clear HO_11; clear HO297; clear HB; have HO_8 := n0_; have HO_10 := n1_; have HO_11 := n2_; have HO297 := n3_; have HB := n4_; clear n0_ n1_ n2_ n3_ n4_; (try clear hb); (try clear hb2); (try clear hk); (try clear hi)))
   go_ret
   exact ⟨by first | rfl | (simp [errW_none, errW_some] <;> rfl) | (simp [*, errW_none, errW_some] <;> rfl), by repeat (first | (with_reducible first | exact HB.out | apply qc0 | apply qa0 | apply qb0) | exact HB.out)⟩

/-- THE ONE PURE STATEMENT of laws_FnExactLanded. -/
def laws_FnExactLanded.Pure : Prop := ∀ (l0 : List (S154)) (a1 : Int) (a2 : Int), ((l0.length ≤ maxLen ∧ ∀ a_ ∈ l0, G154 a_)) → ((Lit.int .i64 a1).wf = true) → ((Lit.int .i64 a2).wf = true) → ∃ k, laws_FnExactLanded.f k l0 a1 a2 = some true

end Go.Proofs.Ytlodndejipjceaa.PFnExactLanded
