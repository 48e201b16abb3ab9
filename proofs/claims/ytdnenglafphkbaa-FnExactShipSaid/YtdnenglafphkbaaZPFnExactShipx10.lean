/- Lines by a program (a changed copy of the kit's print: this repo's wip/tools): Go functions as Lean functions, and proofs that the calls answer so. -/
import Derived.Test.YtdnenglafphkbaaZPFnExactShipx0
import Derived.Test.YtdnenglafphkbaaZPFnExactShipx1
import Derived.Test.YtdnenglafphkbaaZPFnExactShipx2
import Derived.Test.YtdnenglafphkbaaZPFnExactShipx3
import Derived.Test.YtdnenglafphkbaaZPFnExactShipx4
import Derived.Test.YtdnenglafphkbaaZPFnExactShipx7
import Derived.Test.YtdnenglafphkbaaZPFnExactShipx9
namespace Go.Proofs.Ytdnenglafphkbaa.PFnExactShip
open Go.RowKit Go.Proofs.YtdnenglafphkbaaW.PrintWords Go.Proofs.YtdnenglafphkbaaW.PrintLast Go.Proofs.YtdnenglafphkbaaW.PrintMore
attribute [local go_sem] max2_int min2_int max_two min_two max_three min_three max_four min_four   -- for this text's walks alone
set_option linter.unusedVariables false
set_option linter.unusedSimpArgs false

/-! ### laws_FnExactShip: function 6 -/
mutual
def laws_FnExactShip.j0 : Nat → List (S104) → List (S111) → List (S106) → Int → List (S106) → List (S109) → List (S106) → Int → Bool → Option (Bool)
 | 0, _, _, _, _, _, _, _, _, _ => none
 | k + 1, x0, x1, x6, x7, x8, x9, x10, x11, x53 => if x53 = true then (some false) else ((laws_toCellS.f k x0).bind fun t271 => ((laws_eqCellS.f k x8 t271).bind fun t274 => (if t274 = true then ((laws_toPickS.f k x1).bind fun t275 => ((laws_eqPickS.f k x9 t275).bind fun t278 => (if t278 = true then ((laws_markCellS.f k x8 1).bind fun bt279 => ((laws_markPickS.f k x9 bt279.1).bind fun bt281 => (if bt281.1 < 0 then (laws_FnExactShip.j1 k x0 x1 x6 x7 x10 true) else ((laws_eqCellS.f k x10 x6).bind fun t283 => (if t283 = true then (laws_FnExactShip.j1 k x0 x1 x6 x7 x10 (x11 != x7)) else (laws_FnExactShip.j1 k x0 x1 x6 x7 x10 true)))))) else (some false)))) else (some false))))
def laws_FnExactShip.j1 : Nat → List (S104) → List (S111) → List (S106) → Int → List (S106) → Bool → Option (Bool)
 | 0, _, _, _, _, _, _ => none
 | k + 1, x0, x1, x6, x7, x10, x82 => if x82 = true then (some false) else ((laws_markCellS.f k x10 1).bind fun bt284 => ((laws_heldCellS.f k bt284.2 1).bind fun t286 => (if t286 < 0 then (some false) else (if t286 = bt284.1 then ((laws_toCellS.f k x0).bind fun t287 => ((laws_toPickS.f k x1).bind fun t290 => ((impl_Ship.f k t287 t290).bind fun bt293 => ((laws_eqCellS.f k bt293.1 x6).bind fun t297 => (if t297 = true then (laws_FnExactShip.j2 k bt284.2 bt284.1 (bt293.2 != x7)) else (laws_FnExactShip.j2 k bt284.2 bt284.1 true)))))) else (some false)))))
def laws_FnExactShip.j2 : Nat → List (S106) → Int → Bool → Option (Bool)
 | 0, _, _, _ => none
 | k + 1, x10, x13, x110 => if x110 = true then (some false) else ((laws_heldCellS.f k x10 1).bind fun t298 => (if t298 < 0 then (some false) else (if t298 = x13 then (some true) else (some false))))
end
def laws_FnExactShip.f (k : Nat) (l0 : List (S104)) (l1 : List (S111)) : Option (Bool) := (laws_szCellS.f k l0 1048576).bind fun t248 => (if t248 < 0 then (some true) else ((laws_szPickS.f l1 t248).bind fun t249 => (if t249 < 0 then (some true) else ((laws_toCellS.f k l0).bind fun t250 => ((laws_toPickS.f k l1).bind fun t253 => ((spec_Ship.f k t250 t253).bind fun bt256 => ((laws_toCellS.f k l0).bind fun t260 => ((laws_toPickS.f k l1).bind fun t263 => ((impl_Ship.f k t260 t263).bind fun bt266 => ((laws_eqCellS.f k bt266.1 bt256.1).bind fun t270 => (if t270 = true then (laws_FnExactShip.j0 k l0 l1 bt256.1 bt256.2 t260 t263 bt266.1 bt266.2 (bt266.2 != bt256.2)) else (laws_FnExactShip.j0 k l0 l1 bt256.1 bt256.2 t260 t263 bt266.1 bt266.2 true))))))))))))
theorem laws_FnExactShip.mono_l : ∀ k, (∀ y0 y1 y2 y3 y4 y5 y6 y7 y8, LeO (laws_FnExactShip.j0 k y0 y1 y2 y3 y4 y5 y6 y7 y8) (laws_FnExactShip.j0 (k + 1) y0 y1 y2 y3 y4 y5 y6 y7 y8)) ∧ (∀ y0 y1 y2 y3 y4 y5, LeO (laws_FnExactShip.j1 k y0 y1 y2 y3 y4 y5) (laws_FnExactShip.j1 (k + 1) y0 y1 y2 y3 y4 y5)) ∧ (∀ y0 y1 y2, LeO (laws_FnExactShip.j2 k y0 y1 y2) (laws_FnExactShip.j2 (k + 1) y0 y1 y2))
 | 0 => ⟨fun _ _ _ _ _ _ _ _ _ r h => by simp [laws_FnExactShip.j0] at h, fun _ _ _ _ _ _ r h => by simp [laws_FnExactShip.j1] at h, fun _ _ _ r h => by simp [laws_FnExactShip.j2] at h⟩
 | k + 1 => by
  obtain ⟨ih0, ih1, ih2⟩ := laws_FnExactShip.mono_l k
  refine ⟨?_, ?_, ?_⟩
  ·intro y0 y1 y2 y3 y4 y5 y6 y7 y8
   unfold laws_FnExactShip.j0
   repeat' first
   | (with_reducible exact ih0 _ _ _ _ _ _ _ _ _)
   | (with_reducible exact ih1 _ _ _ _ _ _)
   | (with_reducible exact ih2 _ _ _)
   | (with_reducible exact impl_Ship.mono _ _ _)
   | (with_reducible exact laws_eqCellS.mono _ _ _)
   | (with_reducible exact laws_eqPickS.mono _ _ _)
   | (with_reducible exact laws_heldCellS.mono _ _ _)
   | (with_reducible exact laws_markCellS.mono _ _ _)
   | (with_reducible exact laws_markPickS.mono _ _ _)
   | (with_reducible exact laws_szCellS.mono _ _ _)
   | (with_reducible exact laws_toCellS.mono _ _)
   | (with_reducible exact laws_toPickS.mono _ _)
   | (with_reducible exact spec_Ship.mono _ _ _)
   | (with_reducible exact LeO.refl _)
   | (with_reducible exact LeO.none _)
   | (with_reducible refine LeO.ite ?_ ?_)
   | (with_reducible refine LeO.bind ?_ (fun _ => ?_))
   | exact ih0 _ _ _ _ _ _ _ _ _
   | exact ih1 _ _ _ _ _ _
   | exact ih2 _ _ _
   | exact impl_Ship.mono _ _ _
   | exact laws_eqCellS.mono _ _ _
   | exact laws_eqPickS.mono _ _ _
   | exact laws_heldCellS.mono _ _ _
   | exact laws_markCellS.mono _ _ _
   | exact laws_markPickS.mono _ _ _
   | exact laws_szCellS.mono _ _ _
   | exact laws_toCellS.mono _ _
   | exact laws_toPickS.mono _ _
   | exact spec_Ship.mono _ _ _
   | exact LeO.none _
   | refine LeO.ite ?_ ?_
   | refine LeO.bind ?_ (fun _ => ?_)
  ·intro y0 y1 y2 y3 y4 y5
   unfold laws_FnExactShip.j1
   repeat' first
   | (with_reducible exact ih0 _ _ _ _ _ _ _ _ _)
   | (with_reducible exact ih1 _ _ _ _ _ _)
   | (with_reducible exact ih2 _ _ _)
   | (with_reducible exact impl_Ship.mono _ _ _)
   | (with_reducible exact laws_eqCellS.mono _ _ _)
   | (with_reducible exact laws_eqPickS.mono _ _ _)
   | (with_reducible exact laws_heldCellS.mono _ _ _)
   | (with_reducible exact laws_markCellS.mono _ _ _)
   | (with_reducible exact laws_markPickS.mono _ _ _)
   | (with_reducible exact laws_szCellS.mono _ _ _)
   | (with_reducible exact laws_toCellS.mono _ _)
   | (with_reducible exact laws_toPickS.mono _ _)
   | (with_reducible exact spec_Ship.mono _ _ _)
   | (with_reducible exact LeO.refl _)
   | (with_reducible exact LeO.none _)
   | (with_reducible refine LeO.ite ?_ ?_)
   | (with_reducible refine LeO.bind ?_ (fun _ => ?_))
   | exact ih0 _ _ _ _ _ _ _ _ _
   | exact ih1 _ _ _ _ _ _
   | exact ih2 _ _ _
   | exact impl_Ship.mono _ _ _
   | exact laws_eqCellS.mono _ _ _
   | exact laws_eqPickS.mono _ _ _
   | exact laws_heldCellS.mono _ _ _
   | exact laws_markCellS.mono _ _ _
   | exact laws_markPickS.mono _ _ _
   | exact laws_szCellS.mono _ _ _
   | exact laws_toCellS.mono _ _
   | exact laws_toPickS.mono _ _
   | exact spec_Ship.mono _ _ _
   | exact LeO.none _
   | refine LeO.ite ?_ ?_
   | refine LeO.bind ?_ (fun _ => ?_)
  ·intro y0 y1 y2
   unfold laws_FnExactShip.j2
   repeat' first
   | (with_reducible exact ih0 _ _ _ _ _ _ _ _ _)
   | (with_reducible exact ih1 _ _ _ _ _ _)
   | (with_reducible exact ih2 _ _ _)
   | (with_reducible exact impl_Ship.mono _ _ _)
   | (with_reducible exact laws_eqCellS.mono _ _ _)
   | (with_reducible exact laws_eqPickS.mono _ _ _)
   | (with_reducible exact laws_heldCellS.mono _ _ _)
   | (with_reducible exact laws_markCellS.mono _ _ _)
   | (with_reducible exact laws_markPickS.mono _ _ _)
   | (with_reducible exact laws_szCellS.mono _ _ _)
   | (with_reducible exact laws_toCellS.mono _ _)
   | (with_reducible exact laws_toPickS.mono _ _)
   | (with_reducible exact spec_Ship.mono _ _ _)
   | (with_reducible exact LeO.refl _)
   | (with_reducible exact LeO.none _)
   | (with_reducible refine LeO.ite ?_ ?_)
   | (with_reducible refine LeO.bind ?_ (fun _ => ?_))
   | exact ih0 _ _ _ _ _ _ _ _ _
   | exact ih1 _ _ _ _ _ _
   | exact ih2 _ _ _
   | exact impl_Ship.mono _ _ _
   | exact laws_eqCellS.mono _ _ _
   | exact laws_eqPickS.mono _ _ _
   | exact laws_heldCellS.mono _ _ _
   | exact laws_markCellS.mono _ _ _
   | exact laws_markPickS.mono _ _ _
   | exact laws_szCellS.mono _ _ _
   | exact laws_toCellS.mono _ _
   | exact laws_toPickS.mono _ _
   | exact spec_Ship.mono _ _ _
   | exact LeO.none _
   | refine LeO.ite ?_ ?_
   | refine LeO.bind ?_ (fun _ => ?_)
theorem laws_FnExactShip.mono : ∀ a0 a1 k, LeO (laws_FnExactShip.f k a0 a1) (laws_FnExactShip.f (k + 1) a0 a1) := by
 intro a0 a1 k
 obtain ⟨ih0, ih1, ih2⟩ := laws_FnExactShip.mono_l k
 unfold laws_FnExactShip.f
 repeat' first
   | (with_reducible exact ih0 _ _ _ _ _ _ _ _ _)
   | (with_reducible exact ih1 _ _ _ _ _ _)
   | (with_reducible exact ih2 _ _ _)
   | (with_reducible exact impl_Ship.mono _ _ _)
   | (with_reducible exact laws_eqCellS.mono _ _ _)
   | (with_reducible exact laws_eqPickS.mono _ _ _)
   | (with_reducible exact laws_heldCellS.mono _ _ _)
   | (with_reducible exact laws_markCellS.mono _ _ _)
   | (with_reducible exact laws_markPickS.mono _ _ _)
   | (with_reducible exact laws_szCellS.mono _ _ _)
   | (with_reducible exact laws_toCellS.mono _ _)
   | (with_reducible exact laws_toPickS.mono _ _)
   | (with_reducible exact spec_Ship.mono _ _ _)
   | (with_reducible exact LeO.refl _)
   | (with_reducible exact LeO.none _)
   | (with_reducible refine LeO.ite ?_ ?_)
   | (with_reducible refine LeO.bind ?_ (fun _ => ?_))
   | exact ih0 _ _ _ _ _ _ _ _ _
   | exact ih1 _ _ _ _ _ _
   | exact ih2 _ _ _
   | exact impl_Ship.mono _ _ _
   | exact laws_eqCellS.mono _ _ _
   | exact laws_eqPickS.mono _ _ _
   | exact laws_heldCellS.mono _ _ _
   | exact laws_markCellS.mono _ _ _
   | exact laws_markPickS.mono _ _ _
   | exact laws_szCellS.mono _ _ _
   | exact laws_toCellS.mono _ _
   | exact laws_toPickS.mono _ _
   | exact spec_Ship.mono _ _ _
   | exact LeO.none _
   | refine LeO.ite ?_ ?_
   | refine LeO.bind ?_ (fun _ => ?_)
set_option maxHeartbeats 8000000 in
set_option maxRecDepth 100000 in
theorem laws_FnExactShip.calls (k : Nat) (A0 : Option Addr) (c0 : Nat) (l0 : List (S104)) (A1 : Option Addr) (c1 : Nat) (l1 : List (S111)) (r : Bool) (w : World) (hr0 : Kd.C k104 w A0 l0.length l0) (hc0 : l0.length ≤ c0) (hr1 : Kd.C k111 w A1 l1.length l1) (hc1 : l1.length ≤ c1) (h : laws_FnExactShip.f k l0 l1 = some r) :
  Calls Try.prog 6 #[.slice A0 l0.length c0, .slice A1 l1.length c1] w fun e w' => e = .returned (.bool r) ∧ Below w.heap.size w w' := by
 have HR0 := Aside0.mk hr0
 have HC0 := Aside0.mk hc0
 clear hr0 hc0
 have HR1 := Aside0.mk hr1
 have HC1 := Aside0.mk hc1
 clear hr1 hc1
 have HB := Aside0.mk (Below.refl w.heap.size w)
 have H : ((laws_szCellS.f k l0 1048576).bind fun t248 => (if t248 < 0 then (some true) else ((laws_szPickS.f l1 t248).bind fun t249 => (if t249 < 0 then (some true) else ((laws_toCellS.f k l0).bind fun t250 => ((laws_toPickS.f k l1).bind fun t253 => ((spec_Ship.f k t250 t253).bind fun bt256 => ((laws_toCellS.f k l0).bind fun t260 => ((laws_toPickS.f k l1).bind fun t263 => ((impl_Ship.f k t260 t263).bind fun bt266 => ((laws_eqCellS.f k bt266.1 bt256.1).bind fun t270 => (if t270 = true then (laws_FnExactShip.j0 k l0 l1 bt256.1 bt256.2 t260 t263 bt266.1 bt266.2 (bt266.2 != bt256.2)) else (laws_FnExactShip.j0 k l0 l1 bt256.1 bt256.2 t260 t263 bt266.1 bt266.2 true))))))))))))) = some r := h
 clear h
 replace H := Option.bind_eq_some_iff.mp H
 obtain ⟨t248, A30, H⟩ := H
 replace H : (if t248 < 0 then (some true) else ((laws_szPickS.f l1 t248).bind fun t249 => (if t249 < 0 then (some true) else ((laws_toCellS.f k l0).bind fun t250 => ((laws_toPickS.f k l1).bind fun t253 => ((spec_Ship.f k t250 t253).bind fun bt256 => ((laws_toCellS.f k l0).bind fun t260 => ((laws_toPickS.f k l1).bind fun t263 => ((impl_Ship.f k t260 t263).bind fun bt266 => ((laws_eqCellS.f k bt266.1 bt256.1).bind fun t270 => (if t270 = true then (laws_FnExactShip.j0 k l0 l1 bt256.1 bt256.2 t260 t263 bt266.1 bt266.2 (bt266.2 != bt256.2)) else (laws_FnExactShip.j0 k l0 l1 bt256.1 bt256.2 t260 t263 bt266.1 bt266.2 true)))))))))))) = some r := H
 have A3 := Aside0.mk A30
 clear A30
 by_cases c4 : t248 < 0
 ·rw [if_pos c4] at H
  have c4b0 : decide (t248 < 0) = true := decide_eq_true c4
  clear c4
  obtain rfl := Option.some.inj H
  go_enter Try.func6, Try.ntmps6
  go_wp2_with (first | ((with_reducible refine qn0 (f := 20) rfl ?_); refine qu0 (some 19) rfl rfl Try.func20 (by kernel_rfl) rfl #[.slice A0 l0.length c0, .int .i64 1048576] rfl (by (try simp only [List.map_toArray, List.map_cons, List.map_nil]); first | done | rfl | (simp only [List.length_drop, List.length_take]; rfl)) ?_; (with_reducible refine (laws_szCellS.calls k _ _ l0 1048576 t248 _ ?side1 ?side2 A3.out).mono ?_); (case side1 => repeat (first | exact HR0.out | (with_reducible refine Kd.qw0 ?_ _) | (with_reducible refine Kd.qv0 ?_ _) | (with_reducible refine Kd.qy0 ?_))); (case side2 => exact HC0.out); rintro e w5 ⟨rfl, hb⟩; refine ⟨_, rfl, ?_⟩; have n0_ := Aside0.mk (qf0 (by repeat (first | (with_reducible first | exact HB.out | apply qc0 | apply qa0 | apply qb0) | exact HB.out)) hb); clear HB; have HB := n0_; clear n0_; (try clear hb); (try clear hb2); (try clear hk); (try clear hi)))
  go_ret
  exact ⟨by first | rfl | (simp [errW_none, errW_some] <;> rfl) | (simp [*, errW_none, errW_some] <;> rfl), by repeat (first | (with_reducible first | exact HB.out | apply qc0 | apply qa0 | apply qb0) | exact HB.out)⟩
 rw [if_neg c4] at H
 have c4b0 : decide (t248 < 0) = false := decide_eq_false c4
 clear c4
 replace H := Option.bind_eq_some_iff.mp H
 obtain ⟨t249, A60, H⟩ := H
 replace H : (if t249 < 0 then (some true) else ((laws_toCellS.f k l0).bind fun t250 => ((laws_toPickS.f k l1).bind fun t253 => ((spec_Ship.f k t250 t253).bind fun bt256 => ((laws_toCellS.f k l0).bind fun t260 => ((laws_toPickS.f k l1).bind fun t263 => ((impl_Ship.f k t260 t263).bind fun bt266 => ((laws_eqCellS.f k bt266.1 bt256.1).bind fun t270 => (if t270 = true then (laws_FnExactShip.j0 k l0 l1 bt256.1 bt256.2 t260 t263 bt266.1 bt266.2 (bt266.2 != bt256.2)) else (laws_FnExactShip.j0 k l0 l1 bt256.1 bt256.2 t260 t263 bt266.1 bt266.2 true)))))))))) = some r := H
 have A6 := Aside0.mk A60
 clear A60
 by_cases c7 : t249 < 0
 ·rw [if_pos c7] at H
  have c7b0 : decide (t249 < 0) = true := decide_eq_true c7
  clear c7
  obtain rfl := Option.some.inj H
  go_enter Try.func6, Try.ntmps6
  go_wp2_with (first | ((with_reducible refine qn0 (f := 20) rfl ?_); refine qu0 (some 19) rfl rfl Try.func20 (by kernel_rfl) rfl #[.slice A0 l0.length c0, .int .i64 1048576] rfl (by (try simp only [List.map_toArray, List.map_cons, List.map_nil]); first | done | rfl | (simp only [List.length_drop, List.length_take]; rfl)) ?_; (with_reducible refine (laws_szCellS.calls k _ _ l0 1048576 t248 _ ?side1 ?side2 A3.out).mono ?_); (case side1 => repeat (first | exact HR0.out | (with_reducible refine Kd.qw0 ?_ _) | (with_reducible refine Kd.qv0 ?_ _) | (with_reducible refine Kd.qy0 ?_))); (case side2 => exact HC0.out); rintro e w8 ⟨rfl, hb⟩; refine ⟨_, rfl, ?_⟩; have n0_ := Aside0.mk (qf0 (by repeat (first | (with_reducible first | exact HB.out | apply qc0 | apply qa0 | apply qb0) | exact HB.out)) hb); clear HB; have HB := n0_; clear n0_; (try clear hb); (try clear hb2); (try clear hk); (try clear hi)) | ((with_reducible refine qn0 (f := 21) rfl ?_); refine qu0 (some 24) rfl rfl Try.func21 (by kernel_rfl) rfl #[.slice A1 l1.length c1, .int .i64 t248] rfl (by (try simp only [List.map_toArray, List.map_cons, List.map_nil]); first | done | rfl | (simp only [List.length_drop, List.length_take]; rfl)) ?_; (with_reducible refine (laws_szPickS.calls _ _ l1 t248 t249 _ ?side1 ?side2 A6.out).mono ?_); (case side1 => repeat (first | exact (Kd.qf1 HR1.out HB.out) | (with_reducible refine Kd.qw0 ?_ _) | (with_reducible refine Kd.qv0 ?_ _) | (with_reducible refine Kd.qy0 ?_))); (case side2 => exact HC1.out); rintro e w' ⟨rfl, ⟨nd, rfl⟩⟩; refine ⟨_, rfl, ?_⟩))
  go_ret
  exact ⟨by first | rfl | (simp [errW_none, errW_some] <;> rfl) | (simp [*, errW_none, errW_some] <;> rfl), by repeat (first | (with_reducible first | exact HB.out | apply qc0 | apply qa0 | apply qb0) | exact HB.out)⟩
 rw [if_neg c7] at H
 have c7b0 : decide (t249 < 0) = false := decide_eq_false c7
 clear c7
 replace H := Option.bind_eq_some_iff.mp H
 obtain ⟨t250, A90, H⟩ := H
 replace H : ((laws_toPickS.f k l1).bind fun t253 => ((spec_Ship.f k t250 t253).bind fun bt256 => ((laws_toCellS.f k l0).bind fun t260 => ((laws_toPickS.f k l1).bind fun t263 => ((impl_Ship.f k t260 t263).bind fun bt266 => ((laws_eqCellS.f k bt266.1 bt256.1).bind fun t270 => (if t270 = true then (laws_FnExactShip.j0 k l0 l1 bt256.1 bt256.2 t260 t263 bt266.1 bt266.2 (bt266.2 != bt256.2)) else (laws_FnExactShip.j0 k l0 l1 bt256.1 bt256.2 t260 t263 bt266.1 bt266.2 true)))))))) = some r := H
 have A9 := Aside0.mk A90
 clear A90
 replace H := Option.bind_eq_some_iff.mp H
 obtain ⟨t253, A100, H⟩ := H
 replace H : ((spec_Ship.f k t250 t253).bind fun bt256 => ((laws_toCellS.f k l0).bind fun t260 => ((laws_toPickS.f k l1).bind fun t263 => ((impl_Ship.f k t260 t263).bind fun bt266 => ((laws_eqCellS.f k bt266.1 bt256.1).bind fun t270 => (if t270 = true then (laws_FnExactShip.j0 k l0 l1 bt256.1 bt256.2 t260 t263 bt266.1 bt266.2 (bt266.2 != bt256.2)) else (laws_FnExactShip.j0 k l0 l1 bt256.1 bt256.2 t260 t263 bt266.1 bt266.2 true))))))) = some r := H
 have A10 := Aside0.mk A100
 clear A100
 replace H := Option.bind_eq_some_iff.mp H
 obtain ⟨⟨t256, t257⟩, A110, H⟩ := H
 replace H : ((laws_toCellS.f k l0).bind fun t260 => ((laws_toPickS.f k l1).bind fun t263 => ((impl_Ship.f k t260 t263).bind fun bt266 => ((laws_eqCellS.f k bt266.1 t256).bind fun t270 => (if t270 = true then (laws_FnExactShip.j0 k l0 l1 t256 t257 t260 t263 bt266.1 bt266.2 (bt266.2 != t257)) else (laws_FnExactShip.j0 k l0 l1 t256 t257 t260 t263 bt266.1 bt266.2 true)))))) = some r := H
 have A11 := Aside0.mk A110
 clear A110
 replace H := Option.bind_eq_some_iff.mp H
 obtain ⟨t260, A120, H⟩ := H
 replace H : ((laws_toPickS.f k l1).bind fun t263 => ((impl_Ship.f k t260 t263).bind fun bt266 => ((laws_eqCellS.f k bt266.1 t256).bind fun t270 => (if t270 = true then (laws_FnExactShip.j0 k l0 l1 t256 t257 t260 t263 bt266.1 bt266.2 (bt266.2 != t257)) else (laws_FnExactShip.j0 k l0 l1 t256 t257 t260 t263 bt266.1 bt266.2 true))))) = some r := H
 have A12 := Aside0.mk A120
 clear A120
 replace H := Option.bind_eq_some_iff.mp H
 obtain ⟨t263, A130, H⟩ := H
 replace H : ((impl_Ship.f k t260 t263).bind fun bt266 => ((laws_eqCellS.f k bt266.1 t256).bind fun t270 => (if t270 = true then (laws_FnExactShip.j0 k l0 l1 t256 t257 t260 t263 bt266.1 bt266.2 (bt266.2 != t257)) else (laws_FnExactShip.j0 k l0 l1 t256 t257 t260 t263 bt266.1 bt266.2 true)))) = some r := H
 have A13 := Aside0.mk A130
 clear A130
 replace H := Option.bind_eq_some_iff.mp H
 obtain ⟨⟨t266, t267⟩, A140, H⟩ := H
 replace H : ((laws_eqCellS.f k t266 t256).bind fun t270 => (if t270 = true then (laws_FnExactShip.j0 k l0 l1 t256 t257 t260 t263 t266 t267 (t267 != t257)) else (laws_FnExactShip.j0 k l0 l1 t256 t257 t260 t263 t266 t267 true))) = some r := H
 have A14 := Aside0.mk A140
 clear A140
 have HC15 := Aside0.mk H
 clear H
 go_enter Try.func6, Try.ntmps6
 go_upto_region 12 with (first | ((with_reducible refine qn0 (f := 20) rfl ?_); refine qu0 (some 19) rfl rfl Try.func20 (by kernel_rfl) rfl #[.slice A0 l0.length c0, .int .i64 1048576] rfl (by (try simp only [List.map_toArray, List.map_cons, List.map_nil]); first | done | rfl | (simp only [List.length_drop, List.length_take]; rfl)) ?_; (with_reducible refine (laws_szCellS.calls k _ _ l0 1048576 t248 _ ?side1 ?side2 A3.out).mono ?_); (case side1 => repeat (first | exact HR0.out | (with_reducible refine Kd.qw0 ?_ _) | (with_reducible refine Kd.qv0 ?_ _) | (with_reducible refine Kd.qy0 ?_))); (case side2 => exact HC0.out); rintro e w16 ⟨rfl, hb⟩; refine ⟨_, rfl, ?_⟩; have n0_ := Aside0.mk (qf0 (by repeat (first | (with_reducible first | exact HB.out | apply qc0 | apply qa0 | apply qb0) | exact HB.out)) hb); clear HB; have HB := n0_; clear n0_; (try clear hb); (try clear hb2); (try clear hk); (try clear hi)) | ((with_reducible refine qn0 (f := 21) rfl ?_); refine qu0 (some 24) rfl rfl Try.func21 (by kernel_rfl) rfl #[.slice A1 l1.length c1, .int .i64 t248] rfl (by (try simp only [List.map_toArray, List.map_cons, List.map_nil]); first | done | rfl | (simp only [List.length_drop, List.length_take]; rfl)) ?_; (with_reducible refine (laws_szPickS.calls _ _ l1 t248 t249 _ ?side1 ?side2 A6.out).mono ?_); (case side1 => repeat (first | exact (Kd.qf1 HR1.out HB.out) | (with_reducible refine Kd.qw0 ?_ _) | (with_reducible refine Kd.qv0 ?_ _) | (with_reducible refine Kd.qy0 ?_))); (case side2 => exact HC1.out); rintro e w' ⟨rfl, ⟨nd, rfl⟩⟩; refine ⟨_, rfl, ?_⟩) | ((with_reducible refine qn0 (f := 23) rfl ?_); refine qu0 (some 29) rfl rfl Try.func23 (by kernel_rfl) rfl #[.slice A0 l0.length c0] rfl (by (try simp only [List.map_toArray, List.map_cons, List.map_nil]); first | done | rfl | (simp only [List.length_drop, List.length_take]; rfl)) ?_; (with_reducible refine (laws_toCellS.calls k _ _ l0 t250 _ ?side1 ?side2 A9.out).mono ?_); (case side1 => repeat (first | exact (Kd.qf1 HR0.out (by repeat (first | (with_reducible first | exact HB.out | apply qc0 | apply qa0 | apply qb0) | exact HB.out))) | (with_reducible refine Kd.qw0 ?_ _) | (with_reducible refine Kd.qv0 ?_ _) | (with_reducible refine Kd.qy0 ?_))); (case side2 => exact HC0.out); rintro e w17 ⟨v251, rfl, ho0, hb⟩; refine ⟨_, rfl, ?_⟩; have n0_ := Aside0.mk (Kd.qi1 ho0 (qh0 (by repeat (first | (with_reducible first | exact HB.out | apply qc0 | apply qa0 | apply qb0) | exact HB.out)))); have n1_ := Aside0.mk (qf0 (by repeat (first | (with_reducible first | exact HB.out | apply qc0 | apply qa0 | apply qb0) | exact HB.out)) hb); clear HB; have HO252 := n0_; have HB := n1_; clear n0_ n1_; (try clear hb); (try clear hb2); (try clear hk); (try clear hi); (try clear ho0)) | ((with_reducible refine qn0 (f := 24) rfl ?_); refine qu0 (some 31) rfl rfl Try.func24 (by kernel_rfl) rfl #[.slice A1 l1.length c1] rfl (by (try simp only [List.map_toArray, List.map_cons, List.map_nil]); first | done | rfl | (simp only [List.length_drop, List.length_take]; rfl)) ?_; (with_reducible refine (laws_toPickS.calls k _ _ l1 t253 _ ?side1 ?side2 A10.out).mono ?_); (case side1 => repeat (first | exact (Kd.qf1 HR1.out HB.out) | (with_reducible refine Kd.qw0 ?_ _) | (with_reducible refine Kd.qv0 ?_ _) | (with_reducible refine Kd.qy0 ?_))); (case side2 => exact HC1.out); rintro e w18 ⟨v254, rfl, ho0, hb⟩; refine ⟨_, rfl, ?_⟩; have n0_ := Aside0.mk (Kd.qr0 (by (with_reducible repeat (first | apply Kd.qm0 | apply Kd.ql0 | apply Kd.qo0)); exact HO252.out) hb); have n1_ := Aside0.mk (Kd.qi1 ho0 (qh0 (by repeat (first | (with_reducible first | exact HB.out | apply qc0 | apply qa0 | apply qb0) | exact HB.out)))); have n2_ := Aside0.mk (qf0 (by repeat (first | (with_reducible first | exact HB.out | apply qc0 | apply qa0 | apply qb0) | exact HB.out)) hb); clear HO252; clear HB; have HO252 := n0_; have HO255 := n1_; have HB := n2_; clear n0_ n1_ n2_; (try clear hb); (try clear hb2); (try clear hk); (try clear hi); (try clear ho0); obtain ⟨Ao19, co19, eo19⟩ := Kd.qh1 HO252.out; subst eo19; obtain ⟨Ao20, co20, eo20⟩ := Kd.qh1 HO255.out; subst eo20) | ((with_reducible refine qn0 (f := 31) rfl ?_); refine qu0 (some 32) rfl rfl Try.func31 (by kernel_rfl) rfl #[.slice Ao19 t250.length co19, .slice Ao20 t253.length co20] rfl (by (try simp only [List.map_toArray, List.map_cons, List.map_nil]); first | done | rfl | (simp only [List.length_drop, List.length_take]; rfl)) ?_; (with_reducible refine (spec_Ship.calls k _ _ t250 _ _ t253 t256 t257 _ ?side1 ?side2 ?side3 ?side4 A11.out).mono ?_); (case side1 => repeat (first | exact (Kd.qp0 HO252.out).2.2 | (with_reducible refine Kd.qw0 ?_ _) | (with_reducible refine Kd.qv0 ?_ _) | (with_reducible refine Kd.qy0 ?_))); (case side2 => exact (Kd.qp0 HO252.out).2.1); (case side3 => repeat (first | exact (Kd.qp0 HO255.out).2.2 | (with_reducible refine Kd.qw0 ?_ _) | (with_reducible refine Kd.qv0 ?_ _) | (with_reducible refine Kd.qy0 ?_))); (case side4 => exact (Kd.qp0 HO255.out).2.1); rintro e w21 ⟨v258, rfl, ho0, hb⟩; refine ⟨_, rfl, ?_⟩; have n0_ := Aside0.mk (Kd.qj1 (by (with_reducible repeat (first | apply Kd.qm0 | apply Kd.ql0 | apply Kd.qo0)); exact HO252.out) (Kd.qr1 ho0) hb); have n1_ := Aside0.mk (Kd.qr0 (by (with_reducible repeat (first | apply Kd.qm0 | apply Kd.ql0 | apply Kd.qo0)); exact HO255.out) hb); have n2_ := Aside0.mk (Kd.qi1 (Kd.qq1 ho0 (Kd.R_lt (by (with_reducible repeat (first | apply Kd.qm0 | apply Kd.ql0 | apply Kd.qo0)); exact HO252.out))) (qh0 (by repeat (first | (with_reducible first | exact HB.out | apply qc0 | apply qa0 | apply qb0) | exact HB.out)))); have n3_ := Aside0.mk (qf0 (by repeat (first | (with_reducible first | exact HB.out | apply qc0 | apply qa0 | apply qb0) | exact HB.out)) hb); clear HO252; clear HO255; clear HB; have HO252 := n0_; have HO255 := n1_; have HO259 := n2_; have HB := n3_; clear n0_ n1_ n2_ n3_; (try clear hb); (try clear hb2); (try clear hk); (try clear hi); (try clear ho0)) | ((with_reducible refine qn0 (f := 23) rfl ?_); refine qu0 (some 36) rfl rfl Try.func23 (by kernel_rfl) rfl #[.slice A0 l0.length c0] rfl (by (try simp only [List.map_toArray, List.map_cons, List.map_nil]); first | done | rfl | (simp only [List.length_drop, List.length_take]; rfl)) ?_; (with_reducible refine (laws_toCellS.calls k _ _ l0 t260 _ ?side1 ?side2 A12.out).mono ?_); (case side1 => repeat (first | exact (Kd.qf1 HR0.out HB.out) | (with_reducible refine Kd.qw0 ?_ _) | (with_reducible refine Kd.qv0 ?_ _) | (with_reducible refine Kd.qy0 ?_))); (case side2 => exact HC0.out); rintro e w22 ⟨v261, rfl, ho0, hb⟩; refine ⟨_, rfl, ?_⟩; have n0_ := Aside0.mk (Kd.qj1 (by (with_reducible repeat (first | apply Kd.qm0 | apply Kd.ql0 | apply Kd.qo0)); exact HO252.out) (Kd.qr1 ho0) hb); have n1_ := Aside0.mk (Kd.qr0 (by (with_reducible repeat (first | apply Kd.qm0 | apply Kd.ql0 | apply Kd.qo0)); exact HO255.out) hb); have n2_ := Aside0.mk (Kd.qj1 (by (with_reducible repeat (first | apply Kd.qm0 | apply Kd.ql0 | apply Kd.qo0)); exact HO259.out) (Kd.qr1 ho0) hb); have n3_ := Aside0.mk (Kd.qi1 (Kd.qq1 (Kd.qq1 ho0 (Kd.R_lt (by (with_reducible repeat (first | apply Kd.qm0 | apply Kd.ql0 | apply Kd.qo0)); exact HO252.out))) (Kd.R_lt (by (with_reducible repeat (first | apply Kd.qm0 | apply Kd.ql0 | apply Kd.qo0)); exact HO259.out))) (qh0 (by repeat (first | (with_reducible first | exact HB.out | apply qc0 | apply qa0 | apply qb0) | exact HB.out)))); have n4_ := Aside0.mk (qf0 (by repeat (first | (with_reducible first | exact HB.out | apply qc0 | apply qa0 | apply qb0) | exact HB.out)) hb); clear HO252; clear HO255; clear HO259; clear HB; have HO252 := n0_; have HO255 := n1_; have HO259 := n2_; have HO262 := n3_; have HB := n4_; clear n0_ n1_ n2_ n3_ n4_; (try clear hb); (try clear hb2); (try clear hk); (try clear hi); (try clear ho0)) | ((with_reducible refine qn0 (f := 24) rfl ?_); refine qu0 (some 38) rfl rfl Try.func24 (by kernel_rfl) rfl #[.slice A1 l1.length c1] rfl (by (try simp only [List.map_toArray, List.map_cons, List.map_nil]); first | done | rfl | (simp only [List.length_drop, List.length_take]; rfl)) ?_; (with_reducible refine (laws_toPickS.calls k _ _ l1 t263 _ ?side1 ?side2 A13.out).mono ?_); (case side1 => repeat (first | exact (Kd.qf1 HR1.out HB.out) | (with_reducible refine Kd.qw0 ?_ _) | (with_reducible refine Kd.qv0 ?_ _) | (with_reducible refine Kd.qy0 ?_))); (case side2 => exact HC1.out); rintro e w23 ⟨v264, rfl, ho0, hb⟩; refine ⟨_, rfl, ?_⟩; have n0_ := Aside0.mk (Kd.qr0 (by (with_reducible repeat (first | apply Kd.qm0 | apply Kd.ql0 | apply Kd.qo0)); exact HO252.out) hb); have n1_ := Aside0.mk (Kd.qj1 (by (with_reducible repeat (first | apply Kd.qm0 | apply Kd.ql0 | apply Kd.qo0)); exact HO255.out) (Kd.qr1 ho0) hb); have n2_ := Aside0.mk (Kd.qr0 (by (with_reducible repeat (first | apply Kd.qm0 | apply Kd.ql0 | apply Kd.qo0)); exact HO259.out) hb); have n3_ := Aside0.mk (Kd.qr0 (by (with_reducible repeat (first | apply Kd.qm0 | apply Kd.ql0 | apply Kd.qo0)); exact HO262.out) hb); have n4_ := Aside0.mk (Kd.qi1 (Kd.qq1 ho0 (Kd.R_lt (by (with_reducible repeat (first | apply Kd.qm0 | apply Kd.ql0 | apply Kd.qo0)); exact HO255.out))) (qh0 (by repeat (first | (with_reducible first | exact HB.out | apply qc0 | apply qa0 | apply qb0) | exact HB.out)))); have n5_ := Aside0.mk (qf0 (by repeat (first | (with_reducible first | exact HB.out | apply qc0 | apply qa0 | apply qb0) | exact HB.out)) hb); clear HO252; clear HO255; clear HO259; clear HO262; clear HB; have HO252 := n0_; have HO255 := n1_; have HO259 := n2_; have HO262 := n3_; have HO265 := n4_; have HB := n5_; clear n0_ n1_ n2_ n3_ n4_ n5_; (try clear hb); (try clear hb2); (try clear hk); (try clear hi); (try clear ho0); obtain ⟨Ao24, co24, eo24⟩ := Kd.qh1 HO262.out; subst eo24; obtain ⟨Ao25, co25, eo25⟩ := Kd.qh1 HO265.out; subst eo25) | ((with_reducible refine qn0 (f := 32) rfl ?_); refine qu0 (some 42) rfl rfl Try.func32 (by kernel_rfl) rfl #[.slice Ao24 t260.length co24, .slice Ao25 t263.length co25] rfl (by (try simp only [List.map_toArray, List.map_cons, List.map_nil]); first | done | rfl | (simp only [List.length_drop, List.length_take]; rfl)) ?_; (with_reducible refine (impl_Ship.calls k _ _ t260 _ _ t263 t266 t267 _ ?side1 ?side2 ?side3 ?side4 A14.out).mono ?_); (case side1 => repeat (first | exact (Kd.qp0 HO262.out).2.2 | (with_reducible refine Kd.qw0 ?_ _) | (with_reducible refine Kd.qv0 ?_ _) | (with_reducible refine Kd.qy0 ?_))); (case side2 => exact (Kd.qp0 HO262.out).2.1); (case side3 => repeat (first | exact (Kd.qp0 HO265.out).2.2 | (with_reducible refine Kd.qw0 ?_ _) | (with_reducible refine Kd.qv0 ?_ _) | (with_reducible refine Kd.qy0 ?_))); (case side4 => exact (Kd.qp0 HO265.out).2.1); rintro e w26 ⟨v268, rfl, ho0, hb⟩; refine ⟨_, rfl, ?_⟩; have n0_ := Aside0.mk (Kd.qj1 (by (with_reducible repeat (first | apply Kd.qm0 | apply Kd.ql0 | apply Kd.qo0)); exact HO252.out) (Kd.qr1 ho0) hb); have n1_ := Aside0.mk (Kd.qr0 (by (with_reducible repeat (first | apply Kd.qm0 | apply Kd.ql0 | apply Kd.qo0)); exact HO255.out) hb); have n2_ := Aside0.mk (Kd.qj1 (by (with_reducible repeat (first | apply Kd.qm0 | apply Kd.ql0 | apply Kd.qo0)); exact HO259.out) (Kd.qr1 ho0) hb); have n3_ := Aside0.mk (Kd.qj1 (by (with_reducible repeat (first | apply Kd.qm0 | apply Kd.ql0 | apply Kd.qo0)); exact HO262.out) (Kd.qr1 ho0) hb); have n4_ := Aside0.mk (Kd.qr0 (by (with_reducible repeat (first | apply Kd.qm0 | apply Kd.ql0 | apply Kd.qo0)); exact HO265.out) hb); have n5_ := Aside0.mk (Kd.qi1 (Kd.qq1 (Kd.qq1 (Kd.qq1 ho0 (Kd.R_lt (by (with_reducible repeat (first | apply Kd.qm0 | apply Kd.ql0 | apply Kd.qo0)); exact HO252.out))) (Kd.R_lt (by (with_reducible repeat (first | apply Kd.qm0 | apply Kd.ql0 | apply Kd.qo0)); exact HO259.out))) (Kd.R_lt (by (with_reducible repeat (first | apply Kd.qm0 | apply Kd.ql0 | apply Kd.qo0)); exact HO262.out))) (qh0 (by repeat (first | (with_reducible first | exact HB.out | apply qc0 | apply qa0 | apply qb0) | exact HB.out)))); have n6_ := Aside0.mk (qf0 (by repeat (first | (with_reducible first | exact HB.out | apply qc0 | apply qa0 | apply qb0) | exact HB.out)) hb); clear HO252; clear HO255; clear HO259; clear HO262; clear HO265; clear HB; have HO252 := n0_; have HO255 := n1_; have HO259 := n2_; have HO262 := n3_; have HO265 := n4_; have HO269 := n5_; have HB := n6_; clear n0_ n1_ n2_ n3_ n4_ n5_ n6_; (try clear hb); (try clear hb2); (try clear hk); (try clear hi); (try clear ho0)))
 (try simp only [Act.put, List.setIfInBounds_toArray, List.set_cons_zero, List.set_cons_succ])
 go_cut [53] (fun v53 wc => ∃ (kq : Nat) (x53_14 : Bool), v53 = .bool x53_14 ∧ Aside0 (laws_FnExactShip.j0 kq l0 l1 t256 t257 t260 t263 t266 t267 x53_14 = some r) ∧ Aside0 (kq ≤ k) ∧ Aside0 (Kd.R k106 106 wc w.heap.size (fun k_ => some k_ ≠ ((.slice Ao24 t260.length co24) : Value).ownBlock ∧ some k_ ≠ (v268 : Value).ownBlock) v258 t256) ∧ Aside0 (Kd.R k106 106 wc w.heap.size (fun k_ => some k_ ≠ (v258 : Value).ownBlock ∧ some k_ ≠ (v268 : Value).ownBlock) (.slice Ao24 t260.length co24) t260) ∧ Aside0 (Kd.R k109 109 wc w.heap.size (fun _ => True) (.slice Ao25 t263.length co25) t263) ∧ Aside0 (Kd.R k106 106 wc w.heap.size (fun k_ => some k_ ≠ (v258 : Value).ownBlock ∧ some k_ ≠ ((.slice Ao24 t260.length co24) : Value).ownBlock) v268 t266) ∧ Aside0 (Below w.heap.size w wc))
 case first =>
  have H := HC15.out
  clear HC15
  replace H := Option.bind_eq_some_iff.mp H
  obtain ⟨t270, A270, H⟩ := H
  replace H : (if t270 = true then (laws_FnExactShip.j0 k l0 l1 t256 t257 t260 t263 t266 t267 (t267 != t257)) else (laws_FnExactShip.j0 k l0 l1 t256 t257 t260 t263 t266 t267 true)) = some r := H
  have A27 := Aside0.mk A270
  clear A270
  by_cases c28 : t270 = true
  ·subst c28
   have H1 : (laws_FnExactShip.j0 k l0 l1 t256 t257 t260 t263 t266 t267 (t267 != t257)) = some r := by rw [if_pos rfl] at H; exact H
   clear H
   have H := H1
   clear H1
   have H' := Aside0.mk H
   clear H
   obtain ⟨Ao29, co29, eo29⟩ := Kd.qh1 HO269.out
   subst eo29
   obtain ⟨Ao30, co30, eo30⟩ := Kd.qh1 HO259.out
   subst eo30
   go_wp2_with (first | ((with_reducible refine qn0 (f := 26) rfl ?_); refine qu0 (some 47) rfl rfl Try.func26 (by kernel_rfl) rfl #[.slice Ao29 t266.length co29, .slice Ao30 t256.length co30] rfl (by (try simp only [List.map_toArray, List.map_cons, List.map_nil]); first | done | rfl | (simp only [List.length_drop, List.length_take]; rfl)) ?_; (with_reducible refine (laws_eqCellS.calls k _ _ t266 _ _ t256 true _ ?side1 ?side2 ?side3 ?side4 A27.out).mono ?_); (case side1 => repeat (first | exact (Kd.qp0 HO269.out).2.2 | (with_reducible refine Kd.qw0 ?_ _) | (with_reducible refine Kd.qv0 ?_ _) | (with_reducible refine Kd.qy0 ?_))); (case side2 => exact (Kd.qp0 HO269.out).2.1); (case side3 => repeat (first | exact (Kd.qp0 HO259.out).2.2 | (with_reducible refine Kd.qw0 ?_ _) | (with_reducible refine Kd.qv0 ?_ _) | (with_reducible refine Kd.qy0 ?_))); (case side4 => exact (Kd.qp0 HO259.out).2.1); rintro e w31 ⟨rfl, hb⟩; refine ⟨_, rfl, ?_⟩; have n0_ := Aside0.mk (Kd.qr0 (by (with_reducible repeat (first | apply Kd.qm0 | apply Kd.ql0 | apply Kd.qo0)); exact HO252.out) hb); have n1_ := Aside0.mk (Kd.qr0 (by (with_reducible repeat (first | apply Kd.qm0 | apply Kd.ql0 | apply Kd.qo0)); exact HO255.out) hb); have n2_ := Aside0.mk (Kd.qr0 (by (with_reducible repeat (first | apply Kd.qm0 | apply Kd.ql0 | apply Kd.qo0)); exact HO259.out) hb); have n3_ := Aside0.mk (Kd.qr0 (by (with_reducible repeat (first | apply Kd.qm0 | apply Kd.ql0 | apply Kd.qo0)); exact HO262.out) hb); have n4_ := Aside0.mk (Kd.qr0 (by (with_reducible repeat (first | apply Kd.qm0 | apply Kd.ql0 | apply Kd.qo0)); exact HO265.out) hb); have n5_ := Aside0.mk (Kd.qr0 (by (with_reducible repeat (first | apply Kd.qm0 | apply Kd.ql0 | apply Kd.qo0)); exact HO269.out) hb); have n6_ := Aside0.mk (qf0 (by repeat (first | (with_reducible first | exact HB.out | apply qc0 | apply qa0 | apply qb0) | exact HB.out)) hb); clear HO252; clear HO255; clear HO259; clear HO262; clear HO265; clear HO269; clear HB; have HO252 := n0_; have HO255 := n1_; have HO259 := n2_; have HO262 := n3_; have HO265 := n4_; have HO269 := n5_; have HB := n6_; clear n0_ n1_ n2_ n3_ n4_ n5_ n6_; (try clear hb); (try clear hb2); (try clear hk); (try clear hi)))
   go_meet
   case rel => exact ⟨_, ((t267 != t257)), (by first | rfl | (simp; done) | (simp [*]; done)), H', ⟨by first | omega | exact Nat.le_refl _⟩, ⟨by (with_reducible repeat (first | apply Kd.qm0 | apply Kd.ql0 | apply Kd.qo0)); exact Kd.qz0 HO259.out (fun _ hk => ⟨hk.1.2, hk.2⟩)⟩, ⟨by (with_reducible repeat (first | apply Kd.qm0 | apply Kd.ql0 | apply Kd.qo0)); exact Kd.qz0 HO262.out (fun _ hk => ⟨hk.1.2, hk.2⟩)⟩, ⟨by (with_reducible repeat (first | apply Kd.qm0 | apply Kd.ql0 | apply Kd.qo0)); exact Kd.qz0 HO265.out (fun _ hk => trivial)⟩, ⟨by (with_reducible repeat (first | apply Kd.qm0 | apply Kd.ql0 | apply Kd.qo0)); exact Kd.qz0 HO269.out (fun _ hk => ⟨hk.1.2, hk.2⟩)⟩, ⟨by repeat (first | (with_reducible first | exact HB.out | apply qc0 | apply qa0 | apply qb0) | exact HB.out)⟩⟩
  replace c28 := Bool.eq_false_iff.mpr c28
  subst c28
  have H1 : (laws_FnExactShip.j0 k l0 l1 t256 t257 t260 t263 t266 t267 true) = some r := by rw [if_neg (show ¬ (false = true) by decide)] at H; exact H
  clear H
  have H := H1
  clear H1
  have H' := Aside0.mk H
  clear H
  obtain ⟨Ao32, co32, eo32⟩ := Kd.qh1 HO269.out
  subst eo32
  obtain ⟨Ao33, co33, eo33⟩ := Kd.qh1 HO259.out
  subst eo33
  go_wp2_with (first | ((with_reducible refine qn0 (f := 26) rfl ?_); refine qu0 (some 47) rfl rfl Try.func26 (by kernel_rfl) rfl #[.slice Ao32 t266.length co32, .slice Ao33 t256.length co33] rfl (by (try simp only [List.map_toArray, List.map_cons, List.map_nil]); first | done | rfl | (simp only [List.length_drop, List.length_take]; rfl)) ?_; (with_reducible refine (laws_eqCellS.calls k _ _ t266 _ _ t256 false _ ?side1 ?side2 ?side3 ?side4 A27.out).mono ?_); (case side1 => repeat (first | exact (Kd.qp0 HO269.out).2.2 | (with_reducible refine Kd.qw0 ?_ _) | (with_reducible refine Kd.qv0 ?_ _) | (with_reducible refine Kd.qy0 ?_))); (case side2 => exact (Kd.qp0 HO269.out).2.1); (case side3 => repeat (first | exact (Kd.qp0 HO259.out).2.2 | (with_reducible refine Kd.qw0 ?_ _) | (with_reducible refine Kd.qv0 ?_ _) | (with_reducible refine Kd.qy0 ?_))); (case side4 => exact (Kd.qp0 HO259.out).2.1); rintro e w34 ⟨rfl, hb⟩; refine ⟨_, rfl, ?_⟩; have n0_ := Aside0.mk (Kd.qr0 (by (with_reducible repeat (first | apply Kd.qm0 | apply Kd.ql0 | apply Kd.qo0)); exact HO252.out) hb); have n1_ := Aside0.mk (Kd.qr0 (by (with_reducible repeat (first | apply Kd.qm0 | apply Kd.ql0 | apply Kd.qo0)); exact HO255.out) hb); have n2_ := Aside0.mk (Kd.qr0 (by (with_reducible repeat (first | apply Kd.qm0 | apply Kd.ql0 | apply Kd.qo0)); exact HO259.out) hb); have n3_ := Aside0.mk (Kd.qr0 (by (with_reducible repeat (first | apply Kd.qm0 | apply Kd.ql0 | apply Kd.qo0)); exact HO262.out) hb); have n4_ := Aside0.mk (Kd.qr0 (by (with_reducible repeat (first | apply Kd.qm0 | apply Kd.ql0 | apply Kd.qo0)); exact HO265.out) hb); have n5_ := Aside0.mk (Kd.qr0 (by (with_reducible repeat (first | apply Kd.qm0 | apply Kd.ql0 | apply Kd.qo0)); exact HO269.out) hb); have n6_ := Aside0.mk (qf0 (by repeat (first | (with_reducible first | exact HB.out | apply qc0 | apply qa0 | apply qb0) | exact HB.out)) hb); clear HO252; clear HO255; clear HO259; clear HO262; clear HO265; clear HO269; clear HB; have HO252 := n0_; have HO255 := n1_; have HO259 := n2_; have HO262 := n3_; have HO265 := n4_; have HO269 := n5_; have HB := n6_; clear n0_ n1_ n2_ n3_ n4_ n5_ n6_; (try clear hb); (try clear hb2); (try clear hk); (try clear hi)))
  go_meet
  case rel => exact ⟨_, (true), (by first | rfl | (simp; done) | (simp [*]; done)), H', ⟨by first | omega | exact Nat.le_refl _⟩, ⟨by (with_reducible repeat (first | apply Kd.qm0 | apply Kd.ql0 | apply Kd.qo0)); exact Kd.qz0 HO259.out (fun _ hk => ⟨hk.1.2, hk.2⟩)⟩, ⟨by (with_reducible repeat (first | apply Kd.qm0 | apply Kd.ql0 | apply Kd.qo0)); exact Kd.qz0 HO262.out (fun _ hk => ⟨hk.1.2, hk.2⟩)⟩, ⟨by (with_reducible repeat (first | apply Kd.qm0 | apply Kd.ql0 | apply Kd.qo0)); exact Kd.qz0 HO265.out (fun _ hk => trivial)⟩, ⟨by (with_reducible repeat (first | apply Kd.qm0 | apply Kd.ql0 | apply Kd.qo0)); exact Kd.qz0 HO269.out (fun _ hk => ⟨hk.1.2, hk.2⟩)⟩, ⟨by repeat (first | (with_reducible first | exact HB.out | apply qc0 | apply qa0 | apply qb0) | exact HB.out)⟩⟩
 case rest =>
  clear HC15
  try clear c1
  try clear c2
  try clear p2
  try clear c3
  try clear c4
  try clear c4b0
  try clear c6
  try clear c7
  try clear c7b0
  try clear c20
  try clear c21
  try clear c23
  try clear c24
  try clear c26
  try clear c28
  try clear c31
  try clear c32
  obtain ⟨kq, x53_14, rfl, HA, HJ14, HO_6, HO_8, HO_9, HO_10, HB⟩ := hcut
  cases kq with
  | zero => exact absurd HA.out (by simp [laws_FnExactShip.j0])
  | succ kj14 =>
   have H := HA.out
   clear HA
   simp only [laws_FnExactShip.j0] at H
   by_cases c35 : x53_14 = true
   ·subst c35
    have H1 : (some false) = some r := by rw [if_pos rfl] at H; exact H
    clear H
    have H := H1
    clear H1
    obtain rfl := Option.some.inj H
    go_wp2
    go_ret
    exact ⟨by first | rfl | (simp [errW_none, errW_some] <;> rfl) | (simp [*, errW_none, errW_some] <;> rfl), by repeat (first | (with_reducible first | exact HB.out | apply qc0 | apply qa0 | apply qb0) | exact HB.out)⟩
   replace c35 := Bool.eq_false_iff.mpr c35
   subst c35
   have H1 : ((laws_toCellS.f kj14 l0).bind fun t271 => ((laws_eqCellS.f kj14 t260 t271).bind fun t274 => (if t274 = true then ((laws_toPickS.f kj14 l1).bind fun t275 => ((laws_eqPickS.f kj14 t263 t275).bind fun t278 => (if t278 = true then ((laws_markCellS.f kj14 t260 1).bind fun bt279 => ((laws_markPickS.f kj14 t263 bt279.1).bind fun bt281 => (if bt281.1 < 0 then (laws_FnExactShip.j1 kj14 l0 l1 t256 t257 t266 true) else ((laws_eqCellS.f kj14 t266 t256).bind fun t283 => (if t283 = true then (laws_FnExactShip.j1 kj14 l0 l1 t256 t257 t266 (t267 != t257)) else (laws_FnExactShip.j1 kj14 l0 l1 t256 t257 t266 true)))))) else (some false)))) else (some false)))) = some r := by rw [if_neg (show ¬ (false = true) by decide)] at H; exact H
   clear H
   have H := H1
   clear H1
   replace H := Option.bind_eq_some_iff.mp H
   obtain ⟨t271, A360, H⟩ := H
   replace H : ((laws_eqCellS.f kj14 t260 t271).bind fun t274 => (if t274 = true then ((laws_toPickS.f kj14 l1).bind fun t275 => ((laws_eqPickS.f kj14 t263 t275).bind fun t278 => (if t278 = true then ((laws_markCellS.f kj14 t260 1).bind fun bt279 => ((laws_markPickS.f kj14 t263 bt279.1).bind fun bt281 => (if bt281.1 < 0 then (laws_FnExactShip.j1 kj14 l0 l1 t256 t257 t266 true) else ((laws_eqCellS.f kj14 t266 t256).bind fun t283 => (if t283 = true then (laws_FnExactShip.j1 kj14 l0 l1 t256 t257 t266 (t267 != t257)) else (laws_FnExactShip.j1 kj14 l0 l1 t256 t257 t266 true)))))) else (some false)))) else (some false))) = some r := H
   have A36 := Aside0.mk A360
   clear A360
   replace H := Option.bind_eq_some_iff.mp H
   obtain ⟨t274, A370, H⟩ := H
   replace H : (if t274 = true then ((laws_toPickS.f kj14 l1).bind fun t275 => ((laws_eqPickS.f kj14 t263 t275).bind fun t278 => (if t278 = true then ((laws_markCellS.f kj14 t260 1).bind fun bt279 => ((laws_markPickS.f kj14 t263 bt279.1).bind fun bt281 => (if bt281.1 < 0 then (laws_FnExactShip.j1 kj14 l0 l1 t256 t257 t266 true) else ((laws_eqCellS.f kj14 t266 t256).bind fun t283 => (if t283 = true then (laws_FnExactShip.j1 kj14 l0 l1 t256 t257 t266 (t267 != t257)) else (laws_FnExactShip.j1 kj14 l0 l1 t256 t257 t266 true)))))) else (some false)))) else (some false)) = some r := H
   have A37 := Aside0.mk A370
   clear A370
   by_cases c38 : t274 = true
   ·subst c38
    have H1 : ((laws_toPickS.f kj14 l1).bind fun t275 => ((laws_eqPickS.f kj14 t263 t275).bind fun t278 => (if t278 = true then ((laws_markCellS.f kj14 t260 1).bind fun bt279 => ((laws_markPickS.f kj14 t263 bt279.1).bind fun bt281 => (if bt281.1 < 0 then (laws_FnExactShip.j1 kj14 l0 l1 t256 t257 t266 true) else ((laws_eqCellS.f kj14 t266 t256).bind fun t283 => (if t283 = true then (laws_FnExactShip.j1 kj14 l0 l1 t256 t257 t266 (t267 != t257)) else (laws_FnExactShip.j1 kj14 l0 l1 t256 t257 t266 true)))))) else (some false)))) = some r := by rw [if_pos rfl] at H; exact H
    clear H
    have H := H1
    clear H1
    replace H := Option.bind_eq_some_iff.mp H
    obtain ⟨t275, A390, H⟩ := H
    replace H : ((laws_eqPickS.f kj14 t263 t275).bind fun t278 => (if t278 = true then ((laws_markCellS.f kj14 t260 1).bind fun bt279 => ((laws_markPickS.f kj14 t263 bt279.1).bind fun bt281 => (if bt281.1 < 0 then (laws_FnExactShip.j1 kj14 l0 l1 t256 t257 t266 true) else ((laws_eqCellS.f kj14 t266 t256).bind fun t283 => (if t283 = true then (laws_FnExactShip.j1 kj14 l0 l1 t256 t257 t266 (t267 != t257)) else (laws_FnExactShip.j1 kj14 l0 l1 t256 t257 t266 true)))))) else (some false))) = some r := H
    have A39 := Aside0.mk A390
    clear A390
    replace H := Option.bind_eq_some_iff.mp H
    obtain ⟨t278, A400, H⟩ := H
    replace H : (if t278 = true then ((laws_markCellS.f kj14 t260 1).bind fun bt279 => ((laws_markPickS.f kj14 t263 bt279.1).bind fun bt281 => (if bt281.1 < 0 then (laws_FnExactShip.j1 kj14 l0 l1 t256 t257 t266 true) else ((laws_eqCellS.f kj14 t266 t256).bind fun t283 => (if t283 = true then (laws_FnExactShip.j1 kj14 l0 l1 t256 t257 t266 (t267 != t257)) else (laws_FnExactShip.j1 kj14 l0 l1 t256 t257 t266 true)))))) else (some false)) = some r := H
    have A40 := Aside0.mk A400
    clear A400
    by_cases c41 : t278 = true
    ·subst c41
     have H1 : ((laws_markCellS.f kj14 t260 1).bind fun bt279 => ((laws_markPickS.f kj14 t263 bt279.1).bind fun bt281 => (if bt281.1 < 0 then (laws_FnExactShip.j1 kj14 l0 l1 t256 t257 t266 true) else ((laws_eqCellS.f kj14 t266 t256).bind fun t283 => (if t283 = true then (laws_FnExactShip.j1 kj14 l0 l1 t256 t257 t266 (t267 != t257)) else (laws_FnExactShip.j1 kj14 l0 l1 t256 t257 t266 true)))))) = some r := by rw [if_pos rfl] at H; exact H
     clear H
     have H := H1
     clear H1
     replace H := Option.bind_eq_some_iff.mp H
     obtain ⟨⟨t279, t280⟩, A420, H⟩ := H
     replace H : ((laws_markPickS.f kj14 t263 t279).bind fun bt281 => (if bt281.1 < 0 then (laws_FnExactShip.j1 kj14 l0 l1 t256 t257 t266 true) else ((laws_eqCellS.f kj14 t266 t256).bind fun t283 => (if t283 = true then (laws_FnExactShip.j1 kj14 l0 l1 t256 t257 t266 (t267 != t257)) else (laws_FnExactShip.j1 kj14 l0 l1 t256 t257 t266 true))))) = some r := H
     have A42 := Aside0.mk A420
     clear A420
     replace H := Option.bind_eq_some_iff.mp H
     obtain ⟨⟨t281, t282⟩, A430, H⟩ := H
     replace H : (if t281 < 0 then (laws_FnExactShip.j1 kj14 l0 l1 t256 t257 t266 true) else ((laws_eqCellS.f kj14 t266 t256).bind fun t283 => (if t283 = true then (laws_FnExactShip.j1 kj14 l0 l1 t256 t257 t266 (t267 != t257)) else (laws_FnExactShip.j1 kj14 l0 l1 t256 t257 t266 true)))) = some r := H
     have A43 := Aside0.mk A430
     clear A430
     have HC44 := Aside0.mk H
     clear H
     go_upto_region 21 with (first | ((with_reducible refine qn0 (f := 23) rfl ?_); refine qu0 (some 56) rfl rfl Try.func23 (by kernel_rfl) rfl #[.slice A0 l0.length c0] rfl (by (try simp only [List.map_toArray, List.map_cons, List.map_nil]); first | done | rfl | (simp only [List.length_drop, List.length_take]; rfl)) ?_; (with_reducible refine (laws_toCellS.calls kj14 _ _ l0 t271 _ ?side1 ?side2 A36.out).mono ?_); (case side1 => repeat (first | exact (Kd.qf1 HR0.out HB.out) | (with_reducible refine Kd.qw0 ?_ _) | (with_reducible refine Kd.qv0 ?_ _) | (with_reducible refine Kd.qy0 ?_))); (case side2 => exact HC0.out); rintro e w45 ⟨v272, rfl, ho0, hb⟩; refine ⟨_, rfl, ?_⟩; have n0_ := Aside0.mk (Kd.qj1 (by (with_reducible repeat (first | apply Kd.qm0 | apply Kd.ql0 | apply Kd.qo0)); exact HO_6.out) (Kd.qr1 ho0) hb); have n1_ := Aside0.mk (Kd.qj1 (by (with_reducible repeat (first | apply Kd.qm0 | apply Kd.ql0 | apply Kd.qo0)); exact HO_8.out) (Kd.qr1 ho0) hb); have n2_ := Aside0.mk (Kd.qr0 (by (with_reducible repeat (first | apply Kd.qm0 | apply Kd.ql0 | apply Kd.qo0)); exact HO_9.out) hb); have n3_ := Aside0.mk (Kd.qj1 (by (with_reducible repeat (first | apply Kd.qm0 | apply Kd.ql0 | apply Kd.qo0)); exact HO_10.out) (Kd.qr1 ho0) hb); have n4_ := Aside0.mk (Kd.qi1 (Kd.qq1 (Kd.qq1 (Kd.qq1 ho0 (Kd.R_lt (by (with_reducible repeat (first | apply Kd.qm0 | apply Kd.ql0 | apply Kd.qo0)); exact HO_6.out))) (Kd.R_lt (by (with_reducible repeat (first | apply Kd.qm0 | apply Kd.ql0 | apply Kd.qo0)); exact HO_8.out))) (Kd.R_lt (by (with_reducible repeat (first | apply Kd.qm0 | apply Kd.ql0 | apply Kd.qo0)); exact HO_10.out))) (qh0 (by repeat (first | (with_reducible first | exact HB.out | apply qc0 | apply qa0 | apply qb0) | exact HB.out)))); have n5_ := Aside0.mk (qf0 (by repeat (first | (with_reducible first | exact HB.out | apply qc0 | apply qa0 | apply qb0) | exact HB.out)) hb); clear HO_6; clear HO_8; clear HO_9; clear HO_10; clear HB; have HO_6 := n0_; have HO_8 := n1_; have HO_9 := n2_; have HO_10 := n3_; have HO273 := n4_; have HB := n5_; clear n0_ n1_ n2_ n3_ n4_ n5_; (try clear hb); (try clear hb2); (try clear hk); (try clear hi); (try clear ho0); obtain ⟨Ao46, co46, eo46⟩ := Kd.qh1 HO273.out; subst eo46) | ((with_reducible refine qn0 (f := 26) rfl ?_); refine qu0 (some 57) rfl rfl Try.func26 (by kernel_rfl) rfl #[.slice Ao24 t260.length co24, .slice Ao46 t271.length co46] rfl (by (try simp only [List.map_toArray, List.map_cons, List.map_nil]); first | done | rfl | (simp only [List.length_drop, List.length_take]; rfl)) ?_; (with_reducible refine (laws_eqCellS.calls kj14 _ _ t260 _ _ t271 true _ ?side1 ?side2 ?side3 ?side4 A37.out).mono ?_); (case side1 => repeat (first | exact (Kd.qp0 HO_8.out).2.2 | (with_reducible refine Kd.qw0 ?_ _) | (with_reducible refine Kd.qv0 ?_ _) | (with_reducible refine Kd.qy0 ?_))); (case side2 => exact (Kd.qp0 HO_8.out).2.1); (case side3 => repeat (first | exact (Kd.qp0 HO273.out).2.2 | (with_reducible refine Kd.qw0 ?_ _) | (with_reducible refine Kd.qv0 ?_ _) | (with_reducible refine Kd.qy0 ?_))); (case side4 => exact (Kd.qp0 HO273.out).2.1); rintro e w47 ⟨rfl, hb⟩; refine ⟨_, rfl, ?_⟩; have n0_ := Aside0.mk (Kd.qr0 (by (with_reducible repeat (first | apply Kd.qm0 | apply Kd.ql0 | apply Kd.qo0)); exact HO_6.out) hb); have n1_ := Aside0.mk (Kd.qr0 (by (with_reducible repeat (first | apply Kd.qm0 | apply Kd.ql0 | apply Kd.qo0)); exact HO_8.out) hb); have n2_ := Aside0.mk (Kd.qr0 (by (with_reducible repeat (first | apply Kd.qm0 | apply Kd.ql0 | apply Kd.qo0)); exact HO_9.out) hb); have n3_ := Aside0.mk (Kd.qr0 (by (with_reducible repeat (first | apply Kd.qm0 | apply Kd.ql0 | apply Kd.qo0)); exact HO_10.out) hb); have n4_ := Aside0.mk (Kd.qr0 (by (with_reducible repeat (first | apply Kd.qm0 | apply Kd.ql0 | apply Kd.qo0)); exact HO273.out) hb); have n5_ := Aside0.mk (qf0 (by repeat (first | (with_reducible first | exact HB.out | apply qc0 | apply qa0 | apply qb0) | exact HB.out)) hb); clear HO_6; clear HO_8; clear HO_9; clear HO_10; clear HO273; clear HB; have HO_6 := n0_; have HO_8 := n1_; have HO_9 := n2_; have HO_10 := n3_; have HO273 := n4_; have HB := n5_; clear n0_ n1_ n2_ n3_ n4_ n5_; (try clear hb); (try clear hb2); (try clear hk); (try clear hi)) | ((with_reducible refine qn0 (f := 24) rfl ?_); refine qu0 (some 61) rfl rfl Try.func24 (by kernel_rfl) rfl #[.slice A1 l1.length c1] rfl (by (try simp only [List.map_toArray, List.map_cons, List.map_nil]); first | done | rfl | (simp only [List.length_drop, List.length_take]; rfl)) ?_; (with_reducible refine (laws_toPickS.calls kj14 _ _ l1 t275 _ ?side1 ?side2 A39.out).mono ?_); (case side1 => repeat (first | exact (Kd.qf1 HR1.out HB.out) | (with_reducible refine Kd.qw0 ?_ _) | (with_reducible refine Kd.qv0 ?_ _) | (with_reducible refine Kd.qy0 ?_))); (case side2 => exact HC1.out); rintro e w48 ⟨v276, rfl, ho0, hb⟩; refine ⟨_, rfl, ?_⟩; have n0_ := Aside0.mk (Kd.qr0 (by (with_reducible repeat (first | apply Kd.qm0 | apply Kd.ql0 | apply Kd.qo0)); exact HO_6.out) hb); have n1_ := Aside0.mk (Kd.qr0 (by (with_reducible repeat (first | apply Kd.qm0 | apply Kd.ql0 | apply Kd.qo0)); exact HO_8.out) hb); have n2_ := Aside0.mk (Kd.qj1 (by (with_reducible repeat (first | apply Kd.qm0 | apply Kd.ql0 | apply Kd.qo0)); exact HO_9.out) (Kd.qr1 ho0) hb); have n3_ := Aside0.mk (Kd.qr0 (by (with_reducible repeat (first | apply Kd.qm0 | apply Kd.ql0 | apply Kd.qo0)); exact HO_10.out) hb); have n4_ := Aside0.mk (Kd.qr0 (by (with_reducible repeat (first | apply Kd.qm0 | apply Kd.ql0 | apply Kd.qo0)); exact HO273.out) hb); have n5_ := Aside0.mk (Kd.qi1 (Kd.qq1 ho0 (Kd.R_lt (by (with_reducible repeat (first | apply Kd.qm0 | apply Kd.ql0 | apply Kd.qo0)); exact HO_9.out))) (qh0 (by repeat (first | (with_reducible first | exact HB.out | apply qc0 | apply qa0 | apply qb0) | exact HB.out)))); have n6_ := Aside0.mk (qf0 (by repeat (first | (with_reducible first | exact HB.out | apply qc0 | apply qa0 | apply qb0) | exact HB.out)) hb); clear HO_6; clear HO_8; clear HO_9; clear HO_10; clear HO273; clear HB; have HO_6 := n0_; have HO_8 := n1_; have HO_9 := n2_; have HO_10 := n3_; have HO273 := n4_; have HO277 := n5_; have HB := n6_; clear n0_ n1_ n2_ n3_ n4_ n5_ n6_; (try clear hb); (try clear hb2); (try clear hk); (try clear hi); (try clear ho0); obtain ⟨Ao49, co49, eo49⟩ := Kd.qh1 HO277.out; subst eo49) | ((with_reducible refine qn0 (f := 27) rfl ?_); refine qu0 (some 62) rfl rfl Try.func27 (by kernel_rfl) rfl #[.slice Ao25 t263.length co25, .slice Ao49 t275.length co49] rfl (by (try simp only [List.map_toArray, List.map_cons, List.map_nil]); first | done | rfl | (simp only [List.length_drop, List.length_take]; rfl)) ?_; (with_reducible refine (laws_eqPickS.calls kj14 _ _ t263 _ _ t275 true _ ?side1 ?side2 ?side3 ?side4 A40.out).mono ?_); (case side1 => repeat (first | exact (Kd.qp0 HO_9.out).2.2 | (with_reducible refine Kd.qw0 ?_ _) | (with_reducible refine Kd.qv0 ?_ _) | (with_reducible refine Kd.qy0 ?_))); (case side2 => exact (Kd.qp0 HO_9.out).2.1); (case side3 => repeat (first | exact (Kd.qp0 HO277.out).2.2 | (with_reducible refine Kd.qw0 ?_ _) | (with_reducible refine Kd.qv0 ?_ _) | (with_reducible refine Kd.qy0 ?_))); (case side4 => exact (Kd.qp0 HO277.out).2.1); rintro e w50 ⟨rfl, hb⟩; refine ⟨_, rfl, ?_⟩; have n0_ := Aside0.mk (Kd.qr0 (by (with_reducible repeat (first | apply Kd.qm0 | apply Kd.ql0 | apply Kd.qo0)); exact HO_6.out) hb); have n1_ := Aside0.mk (Kd.qr0 (by (with_reducible repeat (first | apply Kd.qm0 | apply Kd.ql0 | apply Kd.qo0)); exact HO_8.out) hb); have n2_ := Aside0.mk (Kd.qr0 (by (with_reducible repeat (first | apply Kd.qm0 | apply Kd.ql0 | apply Kd.qo0)); exact HO_9.out) hb); have n3_ := Aside0.mk (Kd.qr0 (by (with_reducible repeat (first | apply Kd.qm0 | apply Kd.ql0 | apply Kd.qo0)); exact HO_10.out) hb); have n4_ := Aside0.mk (Kd.qr0 (by (with_reducible repeat (first | apply Kd.qm0 | apply Kd.ql0 | apply Kd.qo0)); exact HO273.out) hb); have n5_ := Aside0.mk (Kd.qr0 (by (with_reducible repeat (first | apply Kd.qm0 | apply Kd.ql0 | apply Kd.qo0)); exact HO277.out) hb); have n6_ := Aside0.mk (qf0 (by repeat (first | (with_reducible first | exact HB.out | apply qc0 | apply qa0 | apply qb0) | exact HB.out)) hb); clear HO_6; clear HO_8; clear HO_9; clear HO_10; clear HO273; clear HO277; clear HB; have HO_6 := n0_; have HO_8 := n1_; have HO_9 := n2_; have HO_10 := n3_; have HO273 := n4_; have HO277 := n5_; have HB := n6_; clear n0_ n1_ n2_ n3_ n4_ n5_ n6_; (try clear hb); (try clear hb2); (try clear hk); (try clear hi)) | ((with_reducible refine qn0 (f := 28) rfl ?_); refine qu0 (some 66) rfl rfl Try.func28 (by kernel_rfl) rfl #[.slice Ao24 t260.length co24, .int .i64 1] rfl (by (try simp only [List.map_toArray, List.map_cons, List.map_nil]); first | done | rfl | (simp only [List.length_drop, List.length_take]; rfl)) ?_; (with_reducible refine (laws_markCellS.calls kj14 (fun k_ => some k_ = (.slice Ao24 t260.length co24 : Value).ownBlock) (.slice Ao24 t260.length co24) t260 1 t279 t280 w _ ?side1 ?side2 A42.out).mono ?_); (case side1 => repeat (first | (with_reducible first | exact HB.out | apply qc0 | apply qa0 | apply qb0) | exact HB.out)); (case side2 => exact Kd.R_tight rfl HO_8.out); rintro e w51 ⟨rfl, hy0, hb, hkp⟩; refine ⟨_, rfl, ?_⟩; have n0_ := Aside0.mk (Kd.qz0 (ok' := fun k_ => some k_ ≠ (.slice Ao24 t260.length co24 : Value).ownBlock ∧ some k_ ≠ (v268 : Value).ownBlock ∧ some k_ ≠ (.slice Ao46 t271.length co46 : Value).ownBlock) (Kd.R_keptB (HO_6.out) hkp (fun k_ hk_ hs_ => (hk_.1.1) hs_)) (fun k_ hk_ => ⟨hk_.1.1.1, hk_.1.1.2, hk_.1.2⟩)); have n1_ := Aside0.mk (Kd.R_reok rfl hy0 (fun k_ e_ => HO_8.out.1 k_ e_)); have n2_ := Aside0.mk (Kd.qz0 (ok' := fun k_ => some k_ ≠ (.slice Ao49 t275.length co49 : Value).ownBlock) (Kd.R_keptB ((Kd.R_apart' HO_9.out (Kd.R_typed HO_8.out) (by decide))) hkp (fun k_ hk_ hs_ => (hk_.2) hs_)) (fun k_ hk_ => hk_.1.1.2)); have n3_ := Aside0.mk (Kd.qz0 (ok' := fun k_ => some k_ ≠ (v258 : Value).ownBlock ∧ some k_ ≠ (.slice Ao24 t260.length co24 : Value).ownBlock ∧ some k_ ≠ (.slice Ao46 t271.length co46 : Value).ownBlock) (Kd.R_keptB (HO_10.out) hkp (fun k_ hk_ hs_ => (hk_.1.2) hs_)) (fun k_ hk_ => ⟨hk_.1.1.1, hk_.1.1.2, hk_.1.2⟩)); have n4_ := Aside0.mk (Kd.qz0 (ok' := fun k_ => some k_ ≠ (v258 : Value).ownBlock ∧ some k_ ≠ (.slice Ao24 t260.length co24 : Value).ownBlock ∧ some k_ ≠ (v268 : Value).ownBlock) (Kd.R_keptB (HO273.out) hkp (fun k_ hk_ hs_ => (hk_.1.2) hs_)) (fun k_ hk_ => ⟨hk_.1.1.1.2, hk_.1.1.2, hk_.1.2⟩)); have n5_ := Aside0.mk (Kd.qz0 (ok' := fun k_ => some k_ ≠ (.slice Ao25 t263.length co25 : Value).ownBlock) (Kd.R_keptB ((Kd.R_apart' HO277.out (Kd.R_typed HO_8.out) (by decide))) hkp (fun k_ hk_ hs_ => (hk_.2) hs_)) (fun k_ hk_ => hk_.1.1.2)); have n6_ := Aside0.mk (hb); clear HO_6; clear HO_8; clear HO_9; clear HO_10; clear HO273; clear HO277; clear HB; have HO_6 := n0_; have HO_8 := n1_; have HO_9 := n2_; have HO_10 := n3_; have HO273 := n4_; have HO277 := n5_; have HB := n6_; clear n0_ n1_ n2_ n3_ n4_ n5_ n6_; (try clear hb); (try clear hkp); (try clear hy0)) | ((with_reducible refine qn0 (f := 29) rfl ?_); refine qu0 (some 69) rfl rfl Try.func29 (by kernel_rfl) rfl #[.slice Ao25 t263.length co25, .int .i64 t279] rfl (by (try simp only [List.map_toArray, List.map_cons, List.map_nil]); first | done | rfl | (simp only [List.length_drop, List.length_take]; rfl)) ?_; (with_reducible refine (laws_markPickS.calls kj14 (fun k_ => some k_ = (.slice Ao25 t263.length co25 : Value).ownBlock) (.slice Ao25 t263.length co25) t263 t279 t281 t282 w _ ?side1 ?side2 A43.out).mono ?_); (case side1 => repeat (first | (with_reducible first | exact HB.out | apply qc0 | apply qa0 | apply qb0) | exact HB.out)); (case side2 => exact Kd.R_tight rfl HO_9.out); rintro e w52 ⟨rfl, hy0, hb, hkp⟩; refine ⟨_, rfl, ?_⟩; have n0_ := Aside0.mk (Kd.qz0 (ok' := fun k_ => some k_ ≠ (.slice Ao24 t260.length co24 : Value).ownBlock ∧ some k_ ≠ (v268 : Value).ownBlock ∧ some k_ ≠ (.slice Ao46 t271.length co46 : Value).ownBlock) (Kd.R_keptB ((Kd.R_apart' HO_6.out (Kd.R_typed HO_9.out) (by decide))) hkp (fun k_ hk_ hs_ => (hk_.2) hs_)) (fun k_ hk_ => ⟨hk_.1.1.1, hk_.1.1.2.1, hk_.1.1.2.2⟩)); have n1_ := Aside0.mk (Kd.qz0 (ok' := fun k_ => some k_ ≠ (v258 : Value).ownBlock ∧ some k_ ≠ (v268 : Value).ownBlock ∧ some k_ ≠ (.slice Ao46 t271.length co46 : Value).ownBlock) (Kd.R_keptB ((Kd.R_apart' HO_8.out (Kd.R_typed HO_9.out) (by decide))) hkp (fun k_ hk_ hs_ => (hk_.2) hs_)) (fun k_ hk_ => ⟨hk_.1.1.1.1, hk_.1.1.1.2, hk_.1.1.2⟩)); have n2_ := Aside0.mk (Kd.R_reok rfl hy0 (fun k_ e_ => HO_9.out.1 k_ e_)); have n3_ := Aside0.mk (Kd.qz0 (ok' := fun k_ => some k_ ≠ (v258 : Value).ownBlock ∧ some k_ ≠ (.slice Ao24 t260.length co24 : Value).ownBlock ∧ some k_ ≠ (.slice Ao46 t271.length co46 : Value).ownBlock) (Kd.R_keptB ((Kd.R_apart' HO_10.out (Kd.R_typed HO_9.out) (by decide))) hkp (fun k_ hk_ hs_ => (hk_.2) hs_)) (fun k_ hk_ => ⟨hk_.1.1.1, hk_.1.1.2.1, hk_.1.1.2.2⟩)); have n4_ := Aside0.mk (Kd.qz0 (ok' := fun k_ => some k_ ≠ (v258 : Value).ownBlock ∧ some k_ ≠ (.slice Ao24 t260.length co24 : Value).ownBlock ∧ some k_ ≠ (v268 : Value).ownBlock) (Kd.R_keptB ((Kd.R_apart' HO273.out (Kd.R_typed HO_9.out) (by decide))) hkp (fun k_ hk_ hs_ => (hk_.2) hs_)) (fun k_ hk_ => ⟨hk_.1.1.1, hk_.1.1.2.1, hk_.1.1.2.2⟩)); have n5_ := Aside0.mk (Kd.qz0 (ok' := fun k_ => some k_ ≠ (.slice Ao25 t263.length co25 : Value).ownBlock) (Kd.R_keptB (HO277.out) hkp (fun k_ hk_ hs_ => (hk_) hs_)) (fun k_ hk_ => hk_.1)); have n6_ := Aside0.mk (hb); clear HO_6; clear HO_8; clear HO_9; clear HO_10; clear HO273; clear HO277; clear HB; have HO_6 := n0_; have HO_8 := n1_; have HO_9 := n2_; have HO_10 := n3_; have HO273 := n4_; have HO277 := n5_; have HB := n6_; clear n0_ n1_ n2_ n3_ n4_ n5_ n6_; (try clear hb); (try clear hkp); (try clear hy0)))
     (try simp only [Act.put, List.setIfInBounds_toArray, List.set_cons_zero, List.set_cons_succ])
     go_cut [82] (fun v82 wc => ∃ (kq : Nat) (x82_43 : Bool), v82 = .bool x82_43 ∧ Aside0 (laws_FnExactShip.j1 kq l0 l1 t256 t257 t266 x82_43 = some r) ∧ Aside0 (kq ≤ kj14) ∧ Aside0 (Kd.R k106 106 wc w.heap.size (fun k_ => some k_ ≠ (v268 : Value).ownBlock) v258 t256) ∧ Aside0 (Kd.R k106 106 wc w.heap.size (fun k_ => some k_ ≠ (v258 : Value).ownBlock) v268 t266) ∧ Aside0 (Below w.heap.size w wc))
     case first =>
      have H := HC44.out
      clear HC44
      by_cases c53 : t281 < 0
      ·rw [if_pos c53] at H
       have c53b0 : decide (t281 < 0) = true := decide_eq_true c53
       clear c53
       (first | rw [c53b0] | (simp only [i64_w, i32_w]; rw [c53b0]) | skip)
       have H' := Aside0.mk H
       clear H
       go_wp2
       go_meet
       case rel => exact ⟨_, (true), (by first | rfl | (simp; done) | (simp [*]; done)), H', ⟨by have := HJ14.out; first | omega | exact Nat.le_refl _⟩, ⟨by (with_reducible repeat (first | apply Kd.qm0 | apply Kd.ql0 | apply Kd.qo0)); exact Kd.qz0 HO_6.out (fun _ hk => hk.2.1)⟩, ⟨by (with_reducible repeat (first | apply Kd.qm0 | apply Kd.ql0 | apply Kd.qo0)); exact Kd.qz0 HO_10.out (fun _ hk => hk.1)⟩, ⟨by repeat (first | (with_reducible first | exact HB.out | apply qc0 | apply qa0 | apply qb0) | exact HB.out)⟩⟩
      rw [if_neg c53] at H
      have c53b0 : decide (t281 < 0) = false := decide_eq_false c53
      clear c53
      (first | rw [c53b0] | (simp only [i64_w, i32_w]; rw [c53b0]) | skip)
      replace H := Option.bind_eq_some_iff.mp H
      obtain ⟨t283, A540, H⟩ := H
      replace H : (if t283 = true then (laws_FnExactShip.j1 kj14 l0 l1 t256 t257 t266 (t267 != t257)) else (laws_FnExactShip.j1 kj14 l0 l1 t256 t257 t266 true)) = some r := H
      have A54 := Aside0.mk A540
      clear A540
      by_cases c55 : t283 = true
      ·subst c55
       have H1 : (laws_FnExactShip.j1 kj14 l0 l1 t256 t257 t266 (t267 != t257)) = some r := by rw [if_pos rfl] at H; exact H
       clear H
       have H := H1
       clear H1
       have H' := Aside0.mk H
       clear H
       obtain ⟨Ao56, co56, eo56⟩ := Kd.qh1 HO_10.out
       subst eo56
       obtain ⟨Ao57, co57, eo57⟩ := Kd.qh1 HO_6.out
       subst eo57
       go_wp2_with (first | (go_at_call 26; (with_reducible refine (laws_eqCellS.calls kj14 _ _ t266 _ _ t256 true _ ?side1 ?side2 ?side3 ?side4 A54.out).mono ?_); (case side1 => repeat (first | exact (Kd.qp0 HO_10.out).2.2 | (with_reducible refine Kd.qw0 ?_ _) | (with_reducible refine Kd.qv0 ?_ _) | (with_reducible refine Kd.qy0 ?_))); (case side2 => exact (Kd.qp0 HO_10.out).2.1); (case side3 => repeat (first | exact (Kd.qp0 HO_6.out).2.2 | (with_reducible refine Kd.qw0 ?_ _) | (with_reducible refine Kd.qv0 ?_ _) | (with_reducible refine Kd.qy0 ?_))); (case side4 => exact (Kd.qp0 HO_6.out).2.1); rintro e w58 ⟨rfl, hb⟩; have n0_ := Aside0.mk (Kd.qr0 (by (with_reducible repeat (first | apply Kd.qm0 | apply Kd.ql0 | apply Kd.qo0)); exact HO_6.out) hb); have n1_ := Aside0.mk (Kd.qr0 (by (with_reducible repeat (first | apply Kd.qm0 | apply Kd.ql0 | apply Kd.qo0)); exact HO_8.out) hb); have n2_ := Aside0.mk (Kd.qr0 (by (with_reducible repeat (first | apply Kd.qm0 | apply Kd.ql0 | apply Kd.qo0)); exact HO_9.out) hb); have n3_ := Aside0.mk (Kd.qr0 (by (with_reducible repeat (first | apply Kd.qm0 | apply Kd.ql0 | apply Kd.qo0)); exact HO_10.out) hb); have n4_ := Aside0.mk (Kd.qr0 (by (with_reducible repeat (first | apply Kd.qm0 | apply Kd.ql0 | apply Kd.qo0)); exact HO273.out) hb); have n5_ := Aside0.mk (Kd.qr0 (by (with_reducible repeat (first | apply Kd.qm0 | apply Kd.ql0 | apply Kd.qo0)); exact HO277.out) hb); have n6_ := Aside0.mk (qf0 (by repeat (first | (with_reducible first | exact HB.out | apply qc0 | apply qa0 | apply qb0) | exact HB.out)) hb); clear HO_6; clear HO_8; clear HO_9; clear HO_10; clear HO273; clear HO277; clear HB; have HO_6 := n0_; have HO_8 := n1_; have HO_9 := n2_; have HO_10 := n3_; have HO273 := n4_; have HO277 := n5_; have HB := n6_; clear n0_ n1_ n2_ n3_ n4_ n5_ n6_; (try clear hb); (try clear hb2); (try clear hk); (try clear hi)))
       go_meet
       case rel => exact ⟨_, ((t267 != t257)), (by first | rfl | (simp; done) | (simp [*]; done)), H', ⟨by have := HJ14.out; first | omega | exact Nat.le_refl _⟩, ⟨by (with_reducible repeat (first | apply Kd.qm0 | apply Kd.ql0 | apply Kd.qo0)); exact Kd.qz0 HO_6.out (fun _ hk => hk.2.1)⟩, ⟨by (with_reducible repeat (first | apply Kd.qm0 | apply Kd.ql0 | apply Kd.qo0)); exact Kd.qz0 HO_10.out (fun _ hk => hk.1)⟩, ⟨by repeat (first | (with_reducible first | exact HB.out | apply qc0 | apply qa0 | apply qb0) | exact HB.out)⟩⟩
      replace c55 := Bool.eq_false_iff.mpr c55
      subst c55
      have H1 : (laws_FnExactShip.j1 kj14 l0 l1 t256 t257 t266 true) = some r := by rw [if_neg (show ¬ (false = true) by decide)] at H; exact H
      clear H
      have H := H1
      clear H1
      have H' := Aside0.mk H
      clear H
      obtain ⟨Ao59, co59, eo59⟩ := Kd.qh1 HO_10.out
      subst eo59
      obtain ⟨Ao60, co60, eo60⟩ := Kd.qh1 HO_6.out
      subst eo60
      go_wp2_with (first | (go_at_call 26; (with_reducible refine (laws_eqCellS.calls kj14 _ _ t266 _ _ t256 false _ ?side1 ?side2 ?side3 ?side4 A54.out).mono ?_); (case side1 => repeat (first | exact (Kd.qp0 HO_10.out).2.2 | (with_reducible refine Kd.qw0 ?_ _) | (with_reducible refine Kd.qv0 ?_ _) | (with_reducible refine Kd.qy0 ?_))); (case side2 => exact (Kd.qp0 HO_10.out).2.1); (case side3 => repeat (first | exact (Kd.qp0 HO_6.out).2.2 | (with_reducible refine Kd.qw0 ?_ _) | (with_reducible refine Kd.qv0 ?_ _) | (with_reducible refine Kd.qy0 ?_))); (case side4 => exact (Kd.qp0 HO_6.out).2.1); rintro e w61 ⟨rfl, hb⟩; have n0_ := Aside0.mk (Kd.qr0 (by (with_reducible repeat (first | apply Kd.qm0 | apply Kd.ql0 | apply Kd.qo0)); exact HO_6.out) hb); have n1_ := Aside0.mk (Kd.qr0 (by (with_reducible repeat (first | apply Kd.qm0 | apply Kd.ql0 | apply Kd.qo0)); exact HO_8.out) hb); have n2_ := Aside0.mk (Kd.qr0 (by (with_reducible repeat (first | apply Kd.qm0 | apply Kd.ql0 | apply Kd.qo0)); exact HO_9.out) hb); have n3_ := Aside0.mk (Kd.qr0 (by (with_reducible repeat (first | apply Kd.qm0 | apply Kd.ql0 | apply Kd.qo0)); exact HO_10.out) hb); have n4_ := Aside0.mk (Kd.qr0 (by (with_reducible repeat (first | apply Kd.qm0 | apply Kd.ql0 | apply Kd.qo0)); exact HO273.out) hb); have n5_ := Aside0.mk (Kd.qr0 (by (with_reducible repeat (first | apply Kd.qm0 | apply Kd.ql0 | apply Kd.qo0)); exact HO277.out) hb); have n6_ := Aside0.mk (qf0 (by repeat (first | (with_reducible first | exact HB.out | apply qc0 | apply qa0 | apply qb0) | exact HB.out)) hb); clear HO_6; clear HO_8; clear HO_9; clear HO_10; clear HO273; clear HO277; clear HB; have HO_6 := n0_; have HO_8 := n1_; have HO_9 := n2_; have HO_10 := n3_; have HO273 := n4_; have HO277 := n5_; have HB := n6_; clear n0_ n1_ n2_ n3_ n4_ n5_ n6_; (try clear hb); (try clear hb2); (try clear hk); (try clear hi)))
      go_meet
      case rel => exact ⟨_, (true), (by first | rfl | (simp; done) | (simp [*]; done)), H', ⟨by have := HJ14.out; first | omega | exact Nat.le_refl _⟩, ⟨by (with_reducible repeat (first | apply Kd.qm0 | apply Kd.ql0 | apply Kd.qo0)); exact Kd.qz0 HO_6.out (fun _ hk => hk.2.1)⟩, ⟨by (with_reducible repeat (first | apply Kd.qm0 | apply Kd.ql0 | apply Kd.qo0)); exact Kd.qz0 HO_10.out (fun _ hk => hk.1)⟩, ⟨by repeat (first | (with_reducible first | exact HB.out | apply qc0 | apply qa0 | apply qb0) | exact HB.out)⟩⟩
     case rest =>
      clear HC44
      try clear c1
      try clear c2
      try clear p2
      try clear c3
      try clear c4
      try clear c4b0
      try clear c5
      try clear c6
      try clear c7
      try clear c7b0
      try clear c20
      try clear c21
      try clear c23
      try clear c24
      try clear c26
      try clear c27
      try clear c28
      try clear c29
      try clear c31
      try clear c32
      try clear c35
      try clear c38
      try clear c41
      try clear c53
      try clear c53b0
      try clear c55
      try clear p2
      obtain ⟨kq, x82_43, rfl, HA, HJ43, HO_6, HO_10, HB⟩ := hcut
      cases kq with
      | zero => exact absurd HA.out (by simp [laws_FnExactShip.j1])
      | succ kj43 =>
       have H := HA.out
       clear HA
       simp only [laws_FnExactShip.j1] at H
       by_cases c62 : x82_43 = true
       ·subst c62
        have H1 : (some false) = some r := by rw [if_pos rfl] at H; exact H
        clear H
        have H := H1
        clear H1
        obtain rfl := Option.some.inj H
        go_wp2
        go_ret
        exact ⟨by first | rfl | (simp [errW_none, errW_some] <;> rfl) | (simp [*, errW_none, errW_some] <;> rfl), by repeat (first | (with_reducible first | exact HB.out | apply qc0 | apply qa0 | apply qb0) | exact HB.out)⟩
       replace c62 := Bool.eq_false_iff.mpr c62
       subst c62
       have H1 : ((laws_markCellS.f kj43 t266 1).bind fun bt284 => ((laws_heldCellS.f kj43 bt284.2 1).bind fun t286 => (if t286 < 0 then (some false) else (if t286 = bt284.1 then ((laws_toCellS.f kj43 l0).bind fun t287 => ((laws_toPickS.f kj43 l1).bind fun t290 => ((impl_Ship.f kj43 t287 t290).bind fun bt293 => ((laws_eqCellS.f kj43 bt293.1 t256).bind fun t297 => (if t297 = true then (laws_FnExactShip.j2 kj43 bt284.2 bt284.1 (bt293.2 != t257)) else (laws_FnExactShip.j2 kj43 bt284.2 bt284.1 true)))))) else (some false))))) = some r := by rw [if_neg (show ¬ (false = true) by decide)] at H; exact H
       clear H
       have H := H1
       clear H1
       replace H := Option.bind_eq_some_iff.mp H
       obtain ⟨⟨t284, t285⟩, A630, H⟩ := H
       replace H : ((laws_heldCellS.f kj43 t285 1).bind fun t286 => (if t286 < 0 then (some false) else (if t286 = t284 then ((laws_toCellS.f kj43 l0).bind fun t287 => ((laws_toPickS.f kj43 l1).bind fun t290 => ((impl_Ship.f kj43 t287 t290).bind fun bt293 => ((laws_eqCellS.f kj43 bt293.1 t256).bind fun t297 => (if t297 = true then (laws_FnExactShip.j2 kj43 t285 t284 (bt293.2 != t257)) else (laws_FnExactShip.j2 kj43 t285 t284 true)))))) else (some false)))) = some r := H
       have A63 := Aside0.mk A630
       clear A630
       replace H := Option.bind_eq_some_iff.mp H
       obtain ⟨t286, A640, H⟩ := H
       replace H : (if t286 < 0 then (some false) else (if t286 = t284 then ((laws_toCellS.f kj43 l0).bind fun t287 => ((laws_toPickS.f kj43 l1).bind fun t290 => ((impl_Ship.f kj43 t287 t290).bind fun bt293 => ((laws_eqCellS.f kj43 bt293.1 t256).bind fun t297 => (if t297 = true then (laws_FnExactShip.j2 kj43 t285 t284 (bt293.2 != t257)) else (laws_FnExactShip.j2 kj43 t285 t284 true)))))) else (some false))) = some r := H
       have A64 := Aside0.mk A640
       clear A640
       by_cases c65 : t286 < 0
       ·rw [if_pos c65] at H
        have c65b0 : decide (t286 < 0) = true := decide_eq_true c65
        clear c65
        obtain rfl := Option.some.inj H
        obtain ⟨Ao66, co66, eo66⟩ := Kd.qh1 HO_10.out
        subst eo66
        go_wp2_with (first | ((with_reducible refine qn0 (f := 28) rfl ?_); refine qu0 (some 85) rfl rfl Try.func28 (by kernel_rfl) rfl #[.slice Ao66 t266.length co66, .int .i64 1] rfl (by (try simp only [List.map_toArray, List.map_cons, List.map_nil]); first | done | rfl | (simp only [List.length_drop, List.length_take]; rfl)) ?_; (with_reducible refine (laws_markCellS.calls kj43 (fun k_ => some k_ = (.slice Ao66 t266.length co66 : Value).ownBlock) (.slice Ao66 t266.length co66) t266 1 t284 t285 w _ ?side1 ?side2 A63.out).mono ?_); (case side1 => repeat (first | (with_reducible first | exact HB.out | apply qc0 | apply qa0 | apply qb0) | exact HB.out)); (case side2 => exact Kd.R_tight rfl HO_10.out); rintro e w67 ⟨rfl, hy0, hb, hkp⟩; refine ⟨_, rfl, ?_⟩; have n0_ := Aside0.mk (Kd.qz0 (ok' := fun k_ => some k_ ≠ (.slice Ao66 t266.length co66 : Value).ownBlock) (Kd.R_keptB (HO_6.out) hkp (fun k_ hk_ hs_ => (hk_) hs_)) (fun k_ hk_ => hk_.1)); have n1_ := Aside0.mk (Kd.R_reok rfl hy0 (fun k_ e_ => HO_10.out.1 k_ e_)); have n2_ := Aside0.mk (hb); clear HO_6; clear HO_10; clear HB; have HO_6 := n0_; have HO_10 := n1_; have HB := n2_; clear n0_ n1_ n2_; (try clear hb); (try clear hkp); (try clear hy0)) | ((with_reducible refine qn0 (f := 30) rfl ?_); refine qu0 (some 88) rfl rfl Try.func30 (by kernel_rfl) rfl #[.slice Ao66 t285.length co66, .int .i64 1] rfl (by (try simp only [List.map_toArray, List.map_cons, List.map_nil]); first | done | (rw [show t285.length = t266.length from (Kd.qp0 HO_10.out).1.symm] <;> rfl) | rfl | (simp only [List.length_drop, List.length_take]; rfl)) ?_; (with_reducible refine (laws_heldCellS.calls kj43 _ _ t285 1 t286 _ ?side1 ?side2 A64.out).mono ?_); (case side1 => repeat (first | exact (Kd.qp0 HO_10.out).2.2 | (with_reducible refine Kd.qw0 ?_ _) | (with_reducible refine Kd.qv0 ?_ _) | (with_reducible refine Kd.qy0 ?_))); (case side2 => rw [show t285.length = t266.length from (Kd.qp0 HO_10.out).1.symm]; exact (Kd.qp0 HO_10.out).2.1); rintro e w68 ⟨rfl, hb⟩; refine ⟨_, rfl, ?_⟩; have n0_ := Aside0.mk (Kd.qr0 (by (with_reducible repeat (first | apply Kd.qm0 | apply Kd.ql0 | apply Kd.qo0)); exact HO_6.out) hb); have n1_ := Aside0.mk (Kd.qr0 (by (with_reducible repeat (first | apply Kd.qm0 | apply Kd.ql0 | apply Kd.qo0)); exact HO_10.out) hb); have n2_ := Aside0.mk (qf0 (by repeat (first | (with_reducible first | exact HB.out | apply qc0 | apply qa0 | apply qb0) | exact HB.out)) hb); clear HO_6; clear HO_10; clear HB; have HO_6 := n0_; have HO_10 := n1_; have HB := n2_; clear n0_ n1_ n2_; (try clear hb); (try clear hb2); (try clear hk); (try clear hi)))
        go_ret
        exact ⟨by first | rfl | (simp [errW_none, errW_some] <;> rfl) | (simp [*, errW_none, errW_some] <;> rfl), by repeat (first | (with_reducible first | exact HB.out | apply qc0 | apply qa0 | apply qb0) | exact HB.out)⟩
       rw [if_neg c65] at H
       have c65b0 : decide (t286 < 0) = false := decide_eq_false c65
       clear c65
       by_cases c69 : t286 = t284
       ·rw [if_pos c69] at H
        have c69b0 : (t286 == t284) = true := beq_iff_eq.mpr c69
        have c69b1 : (t286 != t284) = false := bne_eq_false_iff_eq.mpr c69
        clear c69
        replace H := Option.bind_eq_some_iff.mp H
        obtain ⟨t287, A700, H⟩ := H
        replace H : ((laws_toPickS.f kj43 l1).bind fun t290 => ((impl_Ship.f kj43 t287 t290).bind fun bt293 => ((laws_eqCellS.f kj43 bt293.1 t256).bind fun t297 => (if t297 = true then (laws_FnExactShip.j2 kj43 t285 t284 (bt293.2 != t257)) else (laws_FnExactShip.j2 kj43 t285 t284 true))))) = some r := H
        have A70 := Aside0.mk A700
        clear A700
        replace H := Option.bind_eq_some_iff.mp H
        obtain ⟨t290, A710, H⟩ := H
        replace H : ((impl_Ship.f kj43 t287 t290).bind fun bt293 => ((laws_eqCellS.f kj43 bt293.1 t256).bind fun t297 => (if t297 = true then (laws_FnExactShip.j2 kj43 t285 t284 (bt293.2 != t257)) else (laws_FnExactShip.j2 kj43 t285 t284 true)))) = some r := H
        have A71 := Aside0.mk A710
        clear A710
        replace H := Option.bind_eq_some_iff.mp H
        obtain ⟨⟨t293, t294⟩, A720, H⟩ := H
        replace H : ((laws_eqCellS.f kj43 t293 t256).bind fun t297 => (if t297 = true then (laws_FnExactShip.j2 kj43 t285 t284 (t294 != t257)) else (laws_FnExactShip.j2 kj43 t285 t284 true))) = some r := H
        have A72 := Aside0.mk A720
        clear A720
        have HC73 := Aside0.mk H
        clear H
        obtain ⟨Ao74, co74, eo74⟩ := Kd.qh1 HO_10.out
        subst eo74
        go_upto_region 32 with (first | ((with_reducible refine qn0 (f := 28) rfl ?_); refine qu0 (some 85) rfl rfl Try.func28 (by kernel_rfl) rfl #[.slice Ao74 t266.length co74, .int .i64 1] rfl (by (try simp only [List.map_toArray, List.map_cons, List.map_nil]); first | done | rfl | (simp only [List.length_drop, List.length_take]; rfl)) ?_; (with_reducible refine (laws_markCellS.calls kj43 (fun k_ => some k_ = (.slice Ao74 t266.length co74 : Value).ownBlock) (.slice Ao74 t266.length co74) t266 1 t284 t285 w _ ?side1 ?side2 A63.out).mono ?_); (case side1 => repeat (first | (with_reducible first | exact HB.out | apply qc0 | apply qa0 | apply qb0) | exact HB.out)); (case side2 => exact Kd.R_tight rfl HO_10.out); rintro e w75 ⟨rfl, hy0, hb, hkp⟩; refine ⟨_, rfl, ?_⟩; have n0_ := Aside0.mk (Kd.qz0 (ok' := fun k_ => some k_ ≠ (.slice Ao74 t266.length co74 : Value).ownBlock) (Kd.R_keptB (HO_6.out) hkp (fun k_ hk_ hs_ => (hk_) hs_)) (fun k_ hk_ => hk_.1)); have n1_ := Aside0.mk (Kd.R_reok rfl hy0 (fun k_ e_ => HO_10.out.1 k_ e_)); have n2_ := Aside0.mk (hb); clear HO_6; clear HO_10; clear HB; have HO_6 := n0_; have HO_10 := n1_; have HB := n2_; clear n0_ n1_ n2_; (try clear hb); (try clear hkp); (try clear hy0)) | ((with_reducible refine qn0 (f := 30) rfl ?_); refine qu0 (some 88) rfl rfl Try.func30 (by kernel_rfl) rfl #[.slice Ao74 t285.length co74, .int .i64 1] rfl (by (try simp only [List.map_toArray, List.map_cons, List.map_nil]); first | done | (rw [show t285.length = t266.length from (Kd.qp0 HO_10.out).1.symm] <;> rfl) | rfl | (simp only [List.length_drop, List.length_take]; rfl)) ?_; (with_reducible refine (laws_heldCellS.calls kj43 _ _ t285 1 t286 _ ?side1 ?side2 A64.out).mono ?_); (case side1 => repeat (first | exact (Kd.qp0 HO_10.out).2.2 | (with_reducible refine Kd.qw0 ?_ _) | (with_reducible refine Kd.qv0 ?_ _) | (with_reducible refine Kd.qy0 ?_))); (case side2 => rw [show t285.length = t266.length from (Kd.qp0 HO_10.out).1.symm]; exact (Kd.qp0 HO_10.out).2.1); rintro e w76 ⟨rfl, hb⟩; refine ⟨_, rfl, ?_⟩; have n0_ := Aside0.mk (Kd.qr0 (by (with_reducible repeat (first | apply Kd.qm0 | apply Kd.ql0 | apply Kd.qo0)); exact HO_6.out) hb); have n1_ := Aside0.mk (Kd.qr0 (by (with_reducible repeat (first | apply Kd.qm0 | apply Kd.ql0 | apply Kd.qo0)); exact HO_10.out) hb); have n2_ := Aside0.mk (qf0 (by repeat (first | (with_reducible first | exact HB.out | apply qc0 | apply qa0 | apply qb0) | exact HB.out)) hb); clear HO_6; clear HO_10; clear HB; have HO_6 := n0_; have HO_10 := n1_; have HB := n2_; clear n0_ n1_ n2_; (try clear hb); (try clear hb2); (try clear hk); (try clear hi)) | ((with_reducible refine qn0 (f := 23) rfl ?_); refine qu0 (some 96) rfl rfl Try.func23 (by kernel_rfl) rfl #[.slice A0 l0.length c0] rfl (by (try simp only [List.map_toArray, List.map_cons, List.map_nil]); first | done | rfl | (simp only [List.length_drop, List.length_take]; rfl)) ?_; (with_reducible refine (laws_toCellS.calls kj43 _ _ l0 t287 _ ?side1 ?side2 A70.out).mono ?_); (case side1 => repeat (first | exact (Kd.qf1 HR0.out HB.out) | (with_reducible refine Kd.qw0 ?_ _) | (with_reducible refine Kd.qv0 ?_ _) | (with_reducible refine Kd.qy0 ?_))); (case side2 => exact HC0.out); rintro e w77 ⟨v288, rfl, ho0, hb⟩; refine ⟨_, rfl, ?_⟩; have n0_ := Aside0.mk (Kd.qj1 (by (with_reducible repeat (first | apply Kd.qm0 | apply Kd.ql0 | apply Kd.qo0)); exact HO_6.out) (Kd.qr1 ho0) hb); have n1_ := Aside0.mk (Kd.qj1 (by (with_reducible repeat (first | apply Kd.qm0 | apply Kd.ql0 | apply Kd.qo0)); exact HO_10.out) (Kd.qr1 ho0) hb); have n2_ := Aside0.mk (Kd.qi1 (Kd.qq1 (Kd.qq1 ho0 (Kd.R_lt (by (with_reducible repeat (first | apply Kd.qm0 | apply Kd.ql0 | apply Kd.qo0)); exact HO_6.out))) (Kd.R_lt (by (with_reducible repeat (first | apply Kd.qm0 | apply Kd.ql0 | apply Kd.qo0)); exact HO_10.out))) (qh0 (by repeat (first | (with_reducible first | exact HB.out | apply qc0 | apply qa0 | apply qb0) | exact HB.out)))); have n3_ := Aside0.mk (qf0 (by repeat (first | (with_reducible first | exact HB.out | apply qc0 | apply qa0 | apply qb0) | exact HB.out)) hb); clear HO_6; clear HO_10; clear HB; have HO_6 := n0_; have HO_10 := n1_; have HO289 := n2_; have HB := n3_; clear n0_ n1_ n2_ n3_; (try clear hb); (try clear hb2); (try clear hk); (try clear hi); (try clear ho0)) | ((with_reducible refine qn0 (f := 24) rfl ?_); refine qu0 (some 98) rfl rfl Try.func24 (by kernel_rfl) rfl #[.slice A1 l1.length c1] rfl (by (try simp only [List.map_toArray, List.map_cons, List.map_nil]); first | done | rfl | (simp only [List.length_drop, List.length_take]; rfl)) ?_; (with_reducible refine (laws_toPickS.calls kj43 _ _ l1 t290 _ ?side1 ?side2 A71.out).mono ?_); (case side1 => repeat (first | exact (Kd.qf1 HR1.out HB.out) | (with_reducible refine Kd.qw0 ?_ _) | (with_reducible refine Kd.qv0 ?_ _) | (with_reducible refine Kd.qy0 ?_))); (case side2 => exact HC1.out); rintro e w78 ⟨v291, rfl, ho0, hb⟩; refine ⟨_, rfl, ?_⟩; have n0_ := Aside0.mk (Kd.qr0 (by (with_reducible repeat (first | apply Kd.qm0 | apply Kd.ql0 | apply Kd.qo0)); exact HO_6.out) hb); have n1_ := Aside0.mk (Kd.qr0 (by (with_reducible repeat (first | apply Kd.qm0 | apply Kd.ql0 | apply Kd.qo0)); exact HO_10.out) hb); have n2_ := Aside0.mk (Kd.qr0 (by (with_reducible repeat (first | apply Kd.qm0 | apply Kd.ql0 | apply Kd.qo0)); exact HO289.out) hb); have n3_ := Aside0.mk (Kd.qi1 ho0 (qh0 (by repeat (first | (with_reducible first | exact HB.out | apply qc0 | apply qa0 | apply qb0) | exact HB.out)))); have n4_ := Aside0.mk (qf0 (by repeat (first | (with_reducible first | exact HB.out | apply qc0 | apply qa0 | apply qb0) | exact HB.out)) hb); clear HO_6; clear HO_10; clear HO289; clear HB; have HO_6 := n0_; have HO_10 := n1_; have HO289 := n2_; have HO292 := n3_; have HB := n4_; clear n0_ n1_ n2_ n3_ n4_; (try clear hb); (try clear hb2); (try clear hk); (try clear hi); (try clear ho0); obtain ⟨Ao79, co79, eo79⟩ := Kd.qh1 HO289.out; subst eo79; obtain ⟨Ao80, co80, eo80⟩ := Kd.qh1 HO292.out; subst eo80) | ((with_reducible refine qn0 (f := 32) rfl ?_); refine qu0 (some 99) rfl rfl Try.func32 (by kernel_rfl) rfl #[.slice Ao79 t287.length co79, .slice Ao80 t290.length co80] rfl (by (try simp only [List.map_toArray, List.map_cons, List.map_nil]); first | done | rfl | (simp only [List.length_drop, List.length_take]; rfl)) ?_; (with_reducible refine (impl_Ship.calls kj43 _ _ t287 _ _ t290 t293 t294 _ ?side1 ?side2 ?side3 ?side4 A72.out).mono ?_); (case side1 => repeat (first | exact (Kd.qp0 HO289.out).2.2 | (with_reducible refine Kd.qw0 ?_ _) | (with_reducible refine Kd.qv0 ?_ _) | (with_reducible refine Kd.qy0 ?_))); (case side2 => exact (Kd.qp0 HO289.out).2.1); (case side3 => repeat (first | exact (Kd.qp0 HO292.out).2.2 | (with_reducible refine Kd.qw0 ?_ _) | (with_reducible refine Kd.qv0 ?_ _) | (with_reducible refine Kd.qy0 ?_))); (case side4 => exact (Kd.qp0 HO292.out).2.1); rintro e w81 ⟨v295, rfl, ho0, hb⟩; refine ⟨_, rfl, ?_⟩; have n0_ := Aside0.mk (Kd.qj1 (by (with_reducible repeat (first | apply Kd.qm0 | apply Kd.ql0 | apply Kd.qo0)); exact HO_6.out) (Kd.qr1 ho0) hb); have n1_ := Aside0.mk (Kd.qj1 (by (with_reducible repeat (first | apply Kd.qm0 | apply Kd.ql0 | apply Kd.qo0)); exact HO_10.out) (Kd.qr1 ho0) hb); have n2_ := Aside0.mk (Kd.qj1 (by (with_reducible repeat (first | apply Kd.qm0 | apply Kd.ql0 | apply Kd.qo0)); exact HO289.out) (Kd.qr1 ho0) hb); have n3_ := Aside0.mk (Kd.qr0 (by (with_reducible repeat (first | apply Kd.qm0 | apply Kd.ql0 | apply Kd.qo0)); exact HO292.out) hb); have n4_ := Aside0.mk (Kd.qi1 (Kd.qq1 (Kd.qq1 (Kd.qq1 ho0 (Kd.R_lt (by (with_reducible repeat (first | apply Kd.qm0 | apply Kd.ql0 | apply Kd.qo0)); exact HO_6.out))) (Kd.R_lt (by (with_reducible repeat (first | apply Kd.qm0 | apply Kd.ql0 | apply Kd.qo0)); exact HO_10.out))) (Kd.R_lt (by (with_reducible repeat (first | apply Kd.qm0 | apply Kd.ql0 | apply Kd.qo0)); exact HO289.out))) (qh0 (by repeat (first | (with_reducible first | exact HB.out | apply qc0 | apply qa0 | apply qb0) | exact HB.out)))); have n5_ := Aside0.mk (qf0 (by repeat (first | (with_reducible first | exact HB.out | apply qc0 | apply qa0 | apply qb0) | exact HB.out)) hb); clear HO_6; clear HO_10; clear HO289; clear HO292; clear HB; have HO_6 := n0_; have HO_10 := n1_; have HO289 := n2_; have HO292 := n3_; have HO296 := n4_; have HB := n5_; clear n0_ n1_ n2_ n3_ n4_ n5_; (try clear hb); (try clear hb2); (try clear hk); (try clear hi); (try clear ho0)))
        (try simp only [Act.put, List.setIfInBounds_toArray, List.set_cons_zero, List.set_cons_succ])
        go_cut [110] (fun v110 wc => ∃ (kq : Nat) (x110_72 : Bool), v110 = .bool x110_72 ∧ Aside0 (laws_FnExactShip.j2 kq t285 t284 x110_72 = some r) ∧ Aside0 (kq ≤ kj43) ∧ Aside0 (Kd.R k106 106 wc w.heap.size (fun _ => True) (.slice Ao74 t266.length co74) t285) ∧ Aside0 (Below w.heap.size w wc))
        case first =>
         have H := HC73.out
         clear HC73
         replace H := Option.bind_eq_some_iff.mp H
         obtain ⟨t297, A820, H⟩ := H
         replace H : (if t297 = true then (laws_FnExactShip.j2 kj43 t285 t284 (t294 != t257)) else (laws_FnExactShip.j2 kj43 t285 t284 true)) = some r := H
         have A82 := Aside0.mk A820
         clear A820
         by_cases c83 : t297 = true
         ·subst c83
          have H1 : (laws_FnExactShip.j2 kj43 t285 t284 (t294 != t257)) = some r := by rw [if_pos rfl] at H; exact H
          clear H
          have H := H1
          clear H1
          have H' := Aside0.mk H
          clear H
          obtain ⟨Ao84, co84, eo84⟩ := Kd.qh1 HO296.out
          subst eo84
          obtain ⟨Ao85, co85, eo85⟩ := Kd.qh1 HO_6.out
          subst eo85
          go_wp2_with (first | ((with_reducible refine qn0 (f := 26) rfl ?_); refine qu0 (some 104) rfl rfl Try.func26 (by kernel_rfl) rfl #[.slice Ao84 t293.length co84, .slice Ao85 t256.length co85] rfl (by (try simp only [List.map_toArray, List.map_cons, List.map_nil]); first | done | rfl | (simp only [List.length_drop, List.length_take]; rfl)) ?_; (with_reducible refine (laws_eqCellS.calls kj43 _ _ t293 _ _ t256 true _ ?side1 ?side2 ?side3 ?side4 A82.out).mono ?_); (case side1 => repeat (first | exact (Kd.qp0 HO296.out).2.2 | (with_reducible refine Kd.qw0 ?_ _) | (with_reducible refine Kd.qv0 ?_ _) | (with_reducible refine Kd.qy0 ?_))); (case side2 => exact (Kd.qp0 HO296.out).2.1); (case side3 => repeat (first | exact (Kd.qp0 HO_6.out).2.2 | (with_reducible refine Kd.qw0 ?_ _) | (with_reducible refine Kd.qv0 ?_ _) | (with_reducible refine Kd.qy0 ?_))); (case side4 => exact (Kd.qp0 HO_6.out).2.1); rintro e w86 ⟨rfl, hb⟩; refine ⟨_, rfl, ?_⟩; have n0_ := Aside0.mk (Kd.qr0 (by (with_reducible repeat (first | apply Kd.qm0 | apply Kd.ql0 | apply Kd.qo0)); exact HO_6.out) hb); have n1_ := Aside0.mk (Kd.qr0 (by (with_reducible repeat (first | apply Kd.qm0 | apply Kd.ql0 | apply Kd.qo0)); exact HO_10.out) hb); have n2_ := Aside0.mk (Kd.qr0 (by (with_reducible repeat (first | apply Kd.qm0 | apply Kd.ql0 | apply Kd.qo0)); exact HO289.out) hb); have n3_ := Aside0.mk (Kd.qr0 (by (with_reducible repeat (first | apply Kd.qm0 | apply Kd.ql0 | apply Kd.qo0)); exact HO292.out) hb); have n4_ := Aside0.mk (Kd.qr0 (by (with_reducible repeat (first | apply Kd.qm0 | apply Kd.ql0 | apply Kd.qo0)); exact HO296.out) hb); have n5_ := Aside0.mk (qf0 (by repeat (first | (with_reducible first | exact HB.out | apply qc0 | apply qa0 | apply qb0) | exact HB.out)) hb); clear HO_6; clear HO_10; clear HO289; clear HO292; clear HO296; clear HB; have HO_6 := n0_; have HO_10 := n1_; have HO289 := n2_; have HO292 := n3_; have HO296 := n4_; have HB := n5_; clear n0_ n1_ n2_ n3_ n4_ n5_; (try clear hb); (try clear hb2); (try clear hk); (try clear hi)))
          go_meet
          case rel => exact ⟨_, ((t294 != t257)), (by first | rfl | (simp; done) | (simp [*]; done)), H', ⟨by have := HJ14.out; have := HJ43.out; first | omega | exact Nat.le_refl _⟩, ⟨by (with_reducible repeat (first | apply Kd.qm0 | apply Kd.ql0 | apply Kd.qo0)); exact Kd.qz0 HO_10.out (fun _ hk => trivial)⟩, ⟨by repeat (first | (with_reducible first | exact HB.out | apply qc0 | apply qa0 | apply qb0) | exact HB.out)⟩⟩
         replace c83 := Bool.eq_false_iff.mpr c83
         subst c83
         have H1 : (laws_FnExactShip.j2 kj43 t285 t284 true) = some r := by rw [if_neg (show ¬ (false = true) by decide)] at H; exact H
         clear H
         have H := H1
         clear H1
         have H' := Aside0.mk H
         clear H
         obtain ⟨Ao87, co87, eo87⟩ := Kd.qh1 HO296.out
         subst eo87
         obtain ⟨Ao88, co88, eo88⟩ := Kd.qh1 HO_6.out
         subst eo88
         go_wp2_with (first | ((with_reducible refine qn0 (f := 26) rfl ?_); refine qu0 (some 104) rfl rfl Try.func26 (by kernel_rfl) rfl #[.slice Ao87 t293.length co87, .slice Ao88 t256.length co88] rfl (by (try simp only [List.map_toArray, List.map_cons, List.map_nil]); first | done | rfl | (simp only [List.length_drop, List.length_take]; rfl)) ?_; (with_reducible refine (laws_eqCellS.calls kj43 _ _ t293 _ _ t256 false _ ?side1 ?side2 ?side3 ?side4 A82.out).mono ?_); (case side1 => repeat (first | exact (Kd.qp0 HO296.out).2.2 | (with_reducible refine Kd.qw0 ?_ _) | (with_reducible refine Kd.qv0 ?_ _) | (with_reducible refine Kd.qy0 ?_))); (case side2 => exact (Kd.qp0 HO296.out).2.1); (case side3 => repeat (first | exact (Kd.qp0 HO_6.out).2.2 | (with_reducible refine Kd.qw0 ?_ _) | (with_reducible refine Kd.qv0 ?_ _) | (with_reducible refine Kd.qy0 ?_))); (case side4 => exact (Kd.qp0 HO_6.out).2.1); rintro e w89 ⟨rfl, hb⟩; refine ⟨_, rfl, ?_⟩; have n0_ := Aside0.mk (Kd.qr0 (by (with_reducible repeat (first | apply Kd.qm0 | apply Kd.ql0 | apply Kd.qo0)); exact HO_6.out) hb); have n1_ := Aside0.mk (Kd.qr0 (by (with_reducible repeat (first | apply Kd.qm0 | apply Kd.ql0 | apply Kd.qo0)); exact HO_10.out) hb); have n2_ := Aside0.mk (Kd.qr0 (by (with_reducible repeat (first | apply Kd.qm0 | apply Kd.ql0 | apply Kd.qo0)); exact HO289.out) hb); have n3_ := Aside0.mk (Kd.qr0 (by (with_reducible repeat (first | apply Kd.qm0 | apply Kd.ql0 | apply Kd.qo0)); exact HO292.out) hb); have n4_ := Aside0.mk (Kd.qr0 (by (with_reducible repeat (first | apply Kd.qm0 | apply Kd.ql0 | apply Kd.qo0)); exact HO296.out) hb); have n5_ := Aside0.mk (qf0 (by repeat (first | (with_reducible first | exact HB.out | apply qc0 | apply qa0 | apply qb0) | exact HB.out)) hb); clear HO_6; clear HO_10; clear HO289; clear HO292; clear HO296; clear HB; have HO_6 := n0_; have HO_10 := n1_; have HO289 := n2_; have HO292 := n3_; have HO296 := n4_; have HB := n5_; clear n0_ n1_ n2_ n3_ n4_ n5_; (try clear hb); (try clear hb2); (try clear hk); (try clear hi)))
         go_meet
         case rel => exact ⟨_, (true), (by first | rfl | (simp; done) | (simp [*]; done)), H', ⟨by have := HJ14.out; have := HJ43.out; first | omega | exact Nat.le_refl _⟩, ⟨by (with_reducible repeat (first | apply Kd.qm0 | apply Kd.ql0 | apply Kd.qo0)); exact Kd.qz0 HO_10.out (fun _ hk => trivial)⟩, ⟨by repeat (first | (with_reducible first | exact HB.out | apply qc0 | apply qa0 | apply qb0) | exact HB.out)⟩⟩
        case rest =>
         clear HC73
         try clear c1
         try clear c2
         try clear p2
         try clear c3
         try clear c4
         try clear c4b0
         try clear c5
         try clear c6
         try clear c7
         try clear c7b0
         try clear c8
         try clear c20
         try clear c21
         try clear c23
         try clear c24
         try clear c26
         try clear c27
         try clear c28
         try clear c29
         try clear c30
         try clear c31
         try clear c32
         try clear c35
         try clear c38
         try clear c41
         try clear c53
         try clear c53b0
         try clear c55
         try clear c62
         try clear c65
         try clear c65b0
         try clear c69
         try clear c69b0
         try clear c69b1
         try clear c83
         try clear p2
         obtain ⟨kq, x110_72, rfl, HA, HJ72, HO_10, HB⟩ := hcut
         have hl10_72 := (Kd.qp0 HO_10.out).1
         rw [hl10_72] at HO_10
         (try simp only [hl10_72])
         cases kq with
         | zero => exact absurd HA.out (by simp [laws_FnExactShip.j2])
         | succ kj72 =>
          have H := HA.out
          clear HA
          simp only [laws_FnExactShip.j2] at H
          by_cases c90 : x110_72 = true
          ·subst c90
           have H1 : (some false) = some r := by rw [if_pos rfl] at H; exact H
           clear H
           have H := H1
           clear H1
           obtain rfl := Option.some.inj H
           go_wp2
           go_ret
           exact ⟨by first | rfl | (simp [errW_none, errW_some] <;> rfl) | (simp [*, errW_none, errW_some] <;> rfl), by repeat (first | (with_reducible first | exact HB.out | apply qc0 | apply qa0 | apply qb0) | exact HB.out)⟩
          replace c90 := Bool.eq_false_iff.mpr c90
          subst c90
          have H1 : ((laws_heldCellS.f kj72 t285 1).bind fun t298 => (if t298 < 0 then (some false) else (if t298 = t284 then (some true) else (some false)))) = some r := by rw [if_neg (show ¬ (false = true) by decide)] at H; exact H
          clear H
          have H := H1
          clear H1
          replace H := Option.bind_eq_some_iff.mp H
          obtain ⟨t298, A910, H⟩ := H
          replace H : (if t298 < 0 then (some false) else (if t298 = t284 then (some true) else (some false))) = some r := H
          have A91 := Aside0.mk A910
          clear A910
          by_cases c92 : t298 < 0
          ·rw [if_pos c92] at H
           have c92b0 : decide (t298 < 0) = true := decide_eq_true c92
           clear c92
           obtain rfl := Option.some.inj H
           go_wp2_with (first | ((with_reducible refine qn0 (f := 30) rfl ?_); refine qu0 (some 113) rfl rfl Try.func30 (by kernel_rfl) rfl #[.slice Ao74 t285.length co74, .int .i64 1] rfl (by (try simp only [List.map_toArray, List.map_cons, List.map_nil]); first | done | rfl | (simp only [List.length_drop, List.length_take]; rfl)) ?_; (with_reducible refine (laws_heldCellS.calls kj72 _ _ t285 1 t298 _ ?side1 ?side2 A91.out).mono ?_); (case side1 => repeat (first | exact (Kd.qp0 HO_10.out).2.2 | (with_reducible refine Kd.qw0 ?_ _) | (with_reducible refine Kd.qv0 ?_ _) | (with_reducible refine Kd.qy0 ?_))); (case side2 => exact (Kd.qp0 HO_10.out).2.1); rintro e w93 ⟨rfl, hb⟩; refine ⟨_, rfl, ?_⟩; have n0_ := Aside0.mk (Kd.qr0 (by (with_reducible repeat (first | apply Kd.qm0 | apply Kd.ql0 | apply Kd.qo0)); exact HO_10.out) hb); have n1_ := Aside0.mk (qf0 (by repeat (first | (with_reducible first | exact HB.out | apply qc0 | apply qa0 | apply qb0) | exact HB.out)) hb); clear HO_10; clear HB; have HO_10 := n0_; have HB := n1_; clear n0_ n1_; (try clear hb); (try clear hb2); (try clear hk); (try clear hi)))
           go_ret
           exact ⟨by first | rfl | (simp [errW_none, errW_some] <;> rfl) | (simp [*, errW_none, errW_some] <;> rfl), by repeat (first | (with_reducible first | exact HB.out | apply qc0 | apply qa0 | apply qb0) | exact HB.out)⟩
          rw [if_neg c92] at H
          have c92b0 : decide (t298 < 0) = false := decide_eq_false c92
          clear c92
          by_cases c94 : t298 = t284
          ·rw [if_pos c94] at H
           have c94b0 : (t298 == t284) = true := beq_iff_eq.mpr c94
           have c94b1 : (t298 != t284) = false := bne_eq_false_iff_eq.mpr c94
           clear c94
           obtain rfl := Option.some.inj H
           go_wp2_with (first | ((with_reducible refine qn0 (f := 30) rfl ?_); refine qu0 (some 113) rfl rfl Try.func30 (by kernel_rfl) rfl #[.slice Ao74 t285.length co74, .int .i64 1] rfl (by (try simp only [List.map_toArray, List.map_cons, List.map_nil]); first | done | rfl | (simp only [List.length_drop, List.length_take]; rfl)) ?_; (with_reducible refine (laws_heldCellS.calls kj72 _ _ t285 1 t298 _ ?side1 ?side2 A91.out).mono ?_); (case side1 => repeat (first | exact (Kd.qp0 HO_10.out).2.2 | (with_reducible refine Kd.qw0 ?_ _) | (with_reducible refine Kd.qv0 ?_ _) | (with_reducible refine Kd.qy0 ?_))); (case side2 => exact (Kd.qp0 HO_10.out).2.1); rintro e w95 ⟨rfl, hb⟩; refine ⟨_, rfl, ?_⟩; have n0_ := Aside0.mk (Kd.qr0 (by (with_reducible repeat (first | apply Kd.qm0 | apply Kd.ql0 | apply Kd.qo0)); exact HO_10.out) hb); have n1_ := Aside0.mk (qf0 (by repeat (first | (with_reducible first | exact HB.out | apply qc0 | apply qa0 | apply qb0) | exact HB.out)) hb); clear HO_10; clear HB; have HO_10 := n0_; have HB := n1_; clear n0_ n1_; (try clear hb); (try clear hb2); (try clear hk); (try clear hi)))
           go_ret
           exact ⟨by first | rfl | (simp [errW_none, errW_some] <;> rfl) | (simp [*, errW_none, errW_some] <;> rfl), by repeat (first | (with_reducible first | exact HB.out | apply qc0 | apply qa0 | apply qb0) | exact HB.out)⟩
          rw [if_neg c94] at H
          have c94b0 : (t298 == t284) = false := beq_eq_false_iff_ne.mpr c94
          have c94b1 : (t298 != t284) = true := bne_iff_ne.mpr c94
          obtain rfl := Option.some.inj H
          go_wp2_with (first | ((with_reducible refine qn0 (f := 30) rfl ?_); refine qu0 (some 113) rfl rfl Try.func30 (by kernel_rfl) rfl #[.slice Ao74 t285.length co74, .int .i64 1] rfl (by (try simp only [List.map_toArray, List.map_cons, List.map_nil]); first | done | rfl | (simp only [List.length_drop, List.length_take]; rfl)) ?_; (with_reducible refine (laws_heldCellS.calls kj72 _ _ t285 1 t298 _ ?side1 ?side2 A91.out).mono ?_); (case side1 => repeat (first | exact (Kd.qp0 HO_10.out).2.2 | (with_reducible refine Kd.qw0 ?_ _) | (with_reducible refine Kd.qv0 ?_ _) | (with_reducible refine Kd.qy0 ?_))); (case side2 => exact (Kd.qp0 HO_10.out).2.1); rintro e w96 ⟨rfl, hb⟩; refine ⟨_, rfl, ?_⟩; have n0_ := Aside0.mk (Kd.qr0 (by (with_reducible repeat (first | apply Kd.qm0 | apply Kd.ql0 | apply Kd.qo0)); exact HO_10.out) hb); have n1_ := Aside0.mk (qf0 (by repeat (first | (with_reducible first | exact HB.out | apply qc0 | apply qa0 | apply qb0) | exact HB.out)) hb); clear HO_10; clear HB; have HO_10 := n0_; have HB := n1_; clear n0_ n1_; (try clear hb); (try clear hb2); (try clear hk); (try clear hi)))
          go_ret
          exact ⟨by first | rfl | (simp [errW_none, errW_some] <;> rfl) | (simp [*, errW_none, errW_some] <;> rfl), by repeat (first | (with_reducible first | exact HB.out | apply qc0 | apply qa0 | apply qb0) | exact HB.out)⟩
       rw [if_neg c69] at H
       have c69b0 : (t286 == t284) = false := beq_eq_false_iff_ne.mpr c69
       have c69b1 : (t286 != t284) = true := bne_iff_ne.mpr c69
       obtain rfl := Option.some.inj H
       obtain ⟨Ao97, co97, eo97⟩ := Kd.qh1 HO_10.out
       subst eo97
       go_wp2_with (first | ((with_reducible refine qn0 (f := 28) rfl ?_); refine qu0 (some 85) rfl rfl Try.func28 (by kernel_rfl) rfl #[.slice Ao97 t266.length co97, .int .i64 1] rfl (by (try simp only [List.map_toArray, List.map_cons, List.map_nil]); first | done | rfl | (simp only [List.length_drop, List.length_take]; rfl)) ?_; (with_reducible refine (laws_markCellS.calls kj43 (fun k_ => some k_ = (.slice Ao97 t266.length co97 : Value).ownBlock) (.slice Ao97 t266.length co97) t266 1 t284 t285 w _ ?side1 ?side2 A63.out).mono ?_); (case side1 => repeat (first | (with_reducible first | exact HB.out | apply qc0 | apply qa0 | apply qb0) | exact HB.out)); (case side2 => exact Kd.R_tight rfl HO_10.out); rintro e w98 ⟨rfl, hy0, hb, hkp⟩; refine ⟨_, rfl, ?_⟩; have n0_ := Aside0.mk (Kd.qz0 (ok' := fun k_ => some k_ ≠ (.slice Ao97 t266.length co97 : Value).ownBlock) (Kd.R_keptB (HO_6.out) hkp (fun k_ hk_ hs_ => (hk_) hs_)) (fun k_ hk_ => hk_.1)); have n1_ := Aside0.mk (Kd.R_reok rfl hy0 (fun k_ e_ => HO_10.out.1 k_ e_)); have n2_ := Aside0.mk (hb); clear HO_6; clear HO_10; clear HB; have HO_6 := n0_; have HO_10 := n1_; have HB := n2_; clear n0_ n1_ n2_; (try clear hb); (try clear hkp); (try clear hy0)) | ((with_reducible refine qn0 (f := 30) rfl ?_); refine qu0 (some 88) rfl rfl Try.func30 (by kernel_rfl) rfl #[.slice Ao97 t285.length co97, .int .i64 1] rfl (by (try simp only [List.map_toArray, List.map_cons, List.map_nil]); first | done | (rw [show t285.length = t266.length from (Kd.qp0 HO_10.out).1.symm] <;> rfl) | rfl | (simp only [List.length_drop, List.length_take]; rfl)) ?_; (with_reducible refine (laws_heldCellS.calls kj43 _ _ t285 1 t286 _ ?side1 ?side2 A64.out).mono ?_); (case side1 => repeat (first | exact (Kd.qp0 HO_10.out).2.2 | (with_reducible refine Kd.qw0 ?_ _) | (with_reducible refine Kd.qv0 ?_ _) | (with_reducible refine Kd.qy0 ?_))); (case side2 => rw [show t285.length = t266.length from (Kd.qp0 HO_10.out).1.symm]; exact (Kd.qp0 HO_10.out).2.1); rintro e w99 ⟨rfl, hb⟩; refine ⟨_, rfl, ?_⟩; have n0_ := Aside0.mk (Kd.qr0 (by (with_reducible repeat (first | apply Kd.qm0 | apply Kd.ql0 | apply Kd.qo0)); exact HO_6.out) hb); have n1_ := Aside0.mk (Kd.qr0 (by (with_reducible repeat (first | apply Kd.qm0 | apply Kd.ql0 | apply Kd.qo0)); exact HO_10.out) hb); have n2_ := Aside0.mk (qf0 (by repeat (first | (with_reducible first | exact HB.out | apply qc0 | apply qa0 | apply qb0) | exact HB.out)) hb); clear HO_6; clear HO_10; clear HB; have HO_6 := n0_; have HO_10 := n1_; have HB := n2_; clear n0_ n1_ n2_; (try clear hb); (try clear hb2); (try clear hk); (try clear hi)))
       go_ret
       exact ⟨by first | rfl | (simp [errW_none, errW_some] <;> rfl) | (simp [*, errW_none, errW_some] <;> rfl), by repeat (first | (with_reducible first | exact HB.out | apply qc0 | apply qa0 | apply qb0) | exact HB.out)⟩
    replace c41 := Bool.eq_false_iff.mpr c41
    subst c41
    have H1 : (some false) = some r := by rw [if_neg (show ¬ (false = true) by decide)] at H; exact H
    clear H
    have H := H1
    clear H1
    obtain rfl := Option.some.inj H
    go_wp2_with (first | ((with_reducible refine qn0 (f := 23) rfl ?_); refine qu0 (some 56) rfl rfl Try.func23 (by kernel_rfl) rfl #[.slice A0 l0.length c0] rfl (by (try simp only [List.map_toArray, List.map_cons, List.map_nil]); first | done | rfl | (simp only [List.length_drop, List.length_take]; rfl)) ?_; (with_reducible refine (laws_toCellS.calls kj14 _ _ l0 t271 _ ?side1 ?side2 A36.out).mono ?_); (case side1 => repeat (first | exact (Kd.qf1 HR0.out HB.out) | (with_reducible refine Kd.qw0 ?_ _) | (with_reducible refine Kd.qv0 ?_ _) | (with_reducible refine Kd.qy0 ?_))); (case side2 => exact HC0.out); rintro e w100 ⟨v272, rfl, ho0, hb⟩; refine ⟨_, rfl, ?_⟩; have n0_ := Aside0.mk (Kd.qj1 (by (with_reducible repeat (first | apply Kd.qm0 | apply Kd.ql0 | apply Kd.qo0)); exact HO_6.out) (Kd.qr1 ho0) hb); have n1_ := Aside0.mk (Kd.qj1 (by (with_reducible repeat (first | apply Kd.qm0 | apply Kd.ql0 | apply Kd.qo0)); exact HO_8.out) (Kd.qr1 ho0) hb); have n2_ := Aside0.mk (Kd.qr0 (by (with_reducible repeat (first | apply Kd.qm0 | apply Kd.ql0 | apply Kd.qo0)); exact HO_9.out) hb); have n3_ := Aside0.mk (Kd.qj1 (by (with_reducible repeat (first | apply Kd.qm0 | apply Kd.ql0 | apply Kd.qo0)); exact HO_10.out) (Kd.qr1 ho0) hb); have n4_ := Aside0.mk (Kd.qi1 (Kd.qq1 (Kd.qq1 (Kd.qq1 ho0 (Kd.R_lt (by (with_reducible repeat (first | apply Kd.qm0 | apply Kd.ql0 | apply Kd.qo0)); exact HO_6.out))) (Kd.R_lt (by (with_reducible repeat (first | apply Kd.qm0 | apply Kd.ql0 | apply Kd.qo0)); exact HO_8.out))) (Kd.R_lt (by (with_reducible repeat (first | apply Kd.qm0 | apply Kd.ql0 | apply Kd.qo0)); exact HO_10.out))) (qh0 (by repeat (first | (with_reducible first | exact HB.out | apply qc0 | apply qa0 | apply qb0) | exact HB.out)))); have n5_ := Aside0.mk (qf0 (by repeat (first | (with_reducible first | exact HB.out | apply qc0 | apply qa0 | apply qb0) | exact HB.out)) hb); clear HO_6; clear HO_8; clear HO_9; clear HO_10; clear HB; have HO_6 := n0_; have HO_8 := n1_; have HO_9 := n2_; have HO_10 := n3_; have HO273 := n4_; have HB := n5_; clear n0_ n1_ n2_ n3_ n4_ n5_; (try clear hb); (try clear hb2); (try clear hk); (try clear hi); (try clear ho0); obtain ⟨Ao101, co101, eo101⟩ := Kd.qh1 HO273.out; subst eo101) | ((with_reducible refine qn0 (f := 26) rfl ?_); refine qu0 (some 57) rfl rfl Try.func26 (by kernel_rfl) rfl #[.slice Ao24 t260.length co24, .slice Ao101 t271.length co101] rfl (by (try simp only [List.map_toArray, List.map_cons, List.map_nil]); first | done | rfl | (simp only [List.length_drop, List.length_take]; rfl)) ?_; (with_reducible refine (laws_eqCellS.calls kj14 _ _ t260 _ _ t271 true _ ?side1 ?side2 ?side3 ?side4 A37.out).mono ?_); (case side1 => repeat (first | exact (Kd.qp0 HO_8.out).2.2 | (with_reducible refine Kd.qw0 ?_ _) | (with_reducible refine Kd.qv0 ?_ _) | (with_reducible refine Kd.qy0 ?_))); (case side2 => exact (Kd.qp0 HO_8.out).2.1); (case side3 => repeat (first | exact (Kd.qp0 HO273.out).2.2 | (with_reducible refine Kd.qw0 ?_ _) | (with_reducible refine Kd.qv0 ?_ _) | (with_reducible refine Kd.qy0 ?_))); (case side4 => exact (Kd.qp0 HO273.out).2.1); rintro e w102 ⟨rfl, hb⟩; refine ⟨_, rfl, ?_⟩; have n0_ := Aside0.mk (Kd.qr0 (by (with_reducible repeat (first | apply Kd.qm0 | apply Kd.ql0 | apply Kd.qo0)); exact HO_6.out) hb); have n1_ := Aside0.mk (Kd.qr0 (by (with_reducible repeat (first | apply Kd.qm0 | apply Kd.ql0 | apply Kd.qo0)); exact HO_8.out) hb); have n2_ := Aside0.mk (Kd.qr0 (by (with_reducible repeat (first | apply Kd.qm0 | apply Kd.ql0 | apply Kd.qo0)); exact HO_9.out) hb); have n3_ := Aside0.mk (Kd.qr0 (by (with_reducible repeat (first | apply Kd.qm0 | apply Kd.ql0 | apply Kd.qo0)); exact HO_10.out) hb); have n4_ := Aside0.mk (Kd.qr0 (by (with_reducible repeat (first | apply Kd.qm0 | apply Kd.ql0 | apply Kd.qo0)); exact HO273.out) hb); have n5_ := Aside0.mk (qf0 (by repeat (first | (with_reducible first | exact HB.out | apply qc0 | apply qa0 | apply qb0) | exact HB.out)) hb); clear HO_6; clear HO_8; clear HO_9; clear HO_10; clear HO273; clear HB; have HO_6 := n0_; have HO_8 := n1_; have HO_9 := n2_; have HO_10 := n3_; have HO273 := n4_; have HB := n5_; clear n0_ n1_ n2_ n3_ n4_ n5_; (try clear hb); (try clear hb2); (try clear hk); (try clear hi)) | ((with_reducible refine qn0 (f := 24) rfl ?_); refine qu0 (some 61) rfl rfl Try.func24 (by kernel_rfl) rfl #[.slice A1 l1.length c1] rfl (by (try simp only [List.map_toArray, List.map_cons, List.map_nil]); first | done | rfl | (simp only [List.length_drop, List.length_take]; rfl)) ?_; (with_reducible refine (laws_toPickS.calls kj14 _ _ l1 t275 _ ?side1 ?side2 A39.out).mono ?_); (case side1 => repeat (first | exact (Kd.qf1 HR1.out HB.out) | (with_reducible refine Kd.qw0 ?_ _) | (with_reducible refine Kd.qv0 ?_ _) | (with_reducible refine Kd.qy0 ?_))); (case side2 => exact HC1.out); rintro e w103 ⟨v276, rfl, ho0, hb⟩; refine ⟨_, rfl, ?_⟩; have n0_ := Aside0.mk (Kd.qr0 (by (with_reducible repeat (first | apply Kd.qm0 | apply Kd.ql0 | apply Kd.qo0)); exact HO_6.out) hb); have n1_ := Aside0.mk (Kd.qr0 (by (with_reducible repeat (first | apply Kd.qm0 | apply Kd.ql0 | apply Kd.qo0)); exact HO_8.out) hb); have n2_ := Aside0.mk (Kd.qj1 (by (with_reducible repeat (first | apply Kd.qm0 | apply Kd.ql0 | apply Kd.qo0)); exact HO_9.out) (Kd.qr1 ho0) hb); have n3_ := Aside0.mk (Kd.qr0 (by (with_reducible repeat (first | apply Kd.qm0 | apply Kd.ql0 | apply Kd.qo0)); exact HO_10.out) hb); have n4_ := Aside0.mk (Kd.qr0 (by (with_reducible repeat (first | apply Kd.qm0 | apply Kd.ql0 | apply Kd.qo0)); exact HO273.out) hb); have n5_ := Aside0.mk (Kd.qi1 (Kd.qq1 ho0 (Kd.R_lt (by (with_reducible repeat (first | apply Kd.qm0 | apply Kd.ql0 | apply Kd.qo0)); exact HO_9.out))) (qh0 (by repeat (first | (with_reducible first | exact HB.out | apply qc0 | apply qa0 | apply qb0) | exact HB.out)))); have n6_ := Aside0.mk (qf0 (by repeat (first | (with_reducible first | exact HB.out | apply qc0 | apply qa0 | apply qb0) | exact HB.out)) hb); clear HO_6; clear HO_8; clear HO_9; clear HO_10; clear HO273; clear HB; have HO_6 := n0_; have HO_8 := n1_; have HO_9 := n2_; have HO_10 := n3_; have HO273 := n4_; have HO277 := n5_; have HB := n6_; clear n0_ n1_ n2_ n3_ n4_ n5_ n6_; (try clear hb); (try clear hb2); (try clear hk); (try clear hi); (try clear ho0); obtain ⟨Ao104, co104, eo104⟩ := Kd.qh1 HO277.out; subst eo104) | ((with_reducible refine qn0 (f := 27) rfl ?_); refine qu0 (some 62) rfl rfl Try.func27 (by kernel_rfl) rfl #[.slice Ao25 t263.length co25, .slice Ao104 t275.length co104] rfl (by (try simp only [List.map_toArray, List.map_cons, List.map_nil]); first | done | rfl | (simp only [List.length_drop, List.length_take]; rfl)) ?_; (with_reducible refine (laws_eqPickS.calls kj14 _ _ t263 _ _ t275 false _ ?side1 ?side2 ?side3 ?side4 A40.out).mono ?_); (case side1 => repeat (first | exact (Kd.qp0 HO_9.out).2.2 | (with_reducible refine Kd.qw0 ?_ _) | (with_reducible refine Kd.qv0 ?_ _) | (with_reducible refine Kd.qy0 ?_))); (case side2 => exact (Kd.qp0 HO_9.out).2.1); (case side3 => repeat (first | exact (Kd.qp0 HO277.out).2.2 | (with_reducible refine Kd.qw0 ?_ _) | (with_reducible refine Kd.qv0 ?_ _) | (with_reducible refine Kd.qy0 ?_))); (case side4 => exact (Kd.qp0 HO277.out).2.1); rintro e w105 ⟨rfl, hb⟩; refine ⟨_, rfl, ?_⟩; have n0_ := Aside0.mk (Kd.qr0 (by (with_reducible repeat (first | apply Kd.qm0 | apply Kd.ql0 | apply Kd.qo0)); exact HO_6.out) hb); have n1_ := Aside0.mk (Kd.qr0 (by (with_reducible repeat (first | apply Kd.qm0 | apply Kd.ql0 | apply Kd.qo0)); exact HO_8.out) hb); have n2_ := Aside0.mk (Kd.qr0 (by (with_reducible repeat (first | apply Kd.qm0 | apply Kd.ql0 | apply Kd.qo0)); exact HO_9.out) hb); have n3_ := Aside0.mk (Kd.qr0 (by (with_reducible repeat (first | apply Kd.qm0 | apply Kd.ql0 | apply Kd.qo0)); exact HO_10.out) hb); have n4_ := Aside0.mk (Kd.qr0 (by (with_reducible repeat (first | apply Kd.qm0 | apply Kd.ql0 | apply Kd.qo0)); exact HO273.out) hb); have n5_ := Aside0.mk (Kd.qr0 (by (with_reducible repeat (first | apply Kd.qm0 | apply Kd.ql0 | apply Kd.qo0)); exact HO277.out) hb); have n6_ := Aside0.mk (qf0 (by repeat (first | (with_reducible first | exact HB.out | apply qc0 | apply qa0 | apply qb0) | exact HB.out)) hb); clear HO_6; clear HO_8; clear HO_9; clear HO_10; clear HO273; clear HO277; clear HB; have HO_6 := n0_; have HO_8 := n1_; have HO_9 := n2_; have HO_10 := n3_; have HO273 := n4_; have HO277 := n5_; have HB := n6_; clear n0_ n1_ n2_ n3_ n4_ n5_ n6_; (try clear hb); (try clear hb2); (try clear hk); (try clear hi)))
    go_ret
    exact ⟨by first | rfl | (simp [errW_none, errW_some] <;> rfl) | (simp [*, errW_none, errW_some] <;> rfl), by repeat (first | (with_reducible first | exact HB.out | apply qc0 | apply qa0 | apply qb0) | exact HB.out)⟩
   replace c38 := Bool.eq_false_iff.mpr c38
   subst c38
   have H1 : (some false) = some r := by rw [if_neg (show ¬ (false = true) by decide)] at H; exact H
   clear H
   have H := H1
   clear H1
   obtain rfl := Option.some.inj H
   go_wp2_with (first | ((with_reducible refine qn0 (f := 23) rfl ?_); refine qu0 (some 56) rfl rfl Try.func23 (by kernel_rfl) rfl #[.slice A0 l0.length c0] rfl (by (try simp only [List.map_toArray, List.map_cons, List.map_nil]); first | done | rfl | (simp only [List.length_drop, List.length_take]; rfl)) ?_; (with_reducible refine (laws_toCellS.calls kj14 _ _ l0 t271 _ ?side1 ?side2 A36.out).mono ?_); (case side1 => repeat (first | exact (Kd.qf1 HR0.out HB.out) | (with_reducible refine Kd.qw0 ?_ _) | (with_reducible refine Kd.qv0 ?_ _) | (with_reducible refine Kd.qy0 ?_))); (case side2 => exact HC0.out); rintro e w106 ⟨v272, rfl, ho0, hb⟩; refine ⟨_, rfl, ?_⟩; have n0_ := Aside0.mk (Kd.qj1 (by (with_reducible repeat (first | apply Kd.qm0 | apply Kd.ql0 | apply Kd.qo0)); exact HO_6.out) (Kd.qr1 ho0) hb); have n1_ := Aside0.mk (Kd.qj1 (by (with_reducible repeat (first | apply Kd.qm0 | apply Kd.ql0 | apply Kd.qo0)); exact HO_8.out) (Kd.qr1 ho0) hb); have n2_ := Aside0.mk (Kd.qr0 (by (with_reducible repeat (first | apply Kd.qm0 | apply Kd.ql0 | apply Kd.qo0)); exact HO_9.out) hb); have n3_ := Aside0.mk (Kd.qj1 (by (with_reducible repeat (first | apply Kd.qm0 | apply Kd.ql0 | apply Kd.qo0)); exact HO_10.out) (Kd.qr1 ho0) hb); have n4_ := Aside0.mk (Kd.qi1 (Kd.qq1 (Kd.qq1 (Kd.qq1 ho0 (Kd.R_lt (by (with_reducible repeat (first | apply Kd.qm0 | apply Kd.ql0 | apply Kd.qo0)); exact HO_6.out))) (Kd.R_lt (by (with_reducible repeat (first | apply Kd.qm0 | apply Kd.ql0 | apply Kd.qo0)); exact HO_8.out))) (Kd.R_lt (by (with_reducible repeat (first | apply Kd.qm0 | apply Kd.ql0 | apply Kd.qo0)); exact HO_10.out))) (qh0 (by repeat (first | (with_reducible first | exact HB.out | apply qc0 | apply qa0 | apply qb0) | exact HB.out)))); have n5_ := Aside0.mk (qf0 (by repeat (first | (with_reducible first | exact HB.out | apply qc0 | apply qa0 | apply qb0) | exact HB.out)) hb); clear HO_6; clear HO_8; clear HO_9; clear HO_10; clear HB; have HO_6 := n0_; have HO_8 := n1_; have HO_9 := n2_; have HO_10 := n3_; have HO273 := n4_; have HB := n5_; clear n0_ n1_ n2_ n3_ n4_ n5_; (try clear hb); (try clear hb2); (try clear hk); (try clear hi); (try clear ho0); obtain ⟨Ao107, co107, eo107⟩ := Kd.qh1 HO273.out; subst eo107) | ((with_reducible refine qn0 (f := 26) rfl ?_); refine qu0 (some 57) rfl rfl Try.func26 (by kernel_rfl) rfl #[.slice Ao24 t260.length co24, .slice Ao107 t271.length co107] rfl (by (try simp only [List.map_toArray, List.map_cons, List.map_nil]); first | done | rfl | (simp only [List.length_drop, List.length_take]; rfl)) ?_; (with_reducible refine (laws_eqCellS.calls kj14 _ _ t260 _ _ t271 false _ ?side1 ?side2 ?side3 ?side4 A37.out).mono ?_); (case side1 => repeat (first | exact (Kd.qp0 HO_8.out).2.2 | (with_reducible refine Kd.qw0 ?_ _) | (with_reducible refine Kd.qv0 ?_ _) | (with_reducible refine Kd.qy0 ?_))); (case side2 => exact (Kd.qp0 HO_8.out).2.1); (case side3 => repeat (first | exact (Kd.qp0 HO273.out).2.2 | (with_reducible refine Kd.qw0 ?_ _) | (with_reducible refine Kd.qv0 ?_ _) | (with_reducible refine Kd.qy0 ?_))); (case side4 => exact (Kd.qp0 HO273.out).2.1); rintro e w108 ⟨rfl, hb⟩; refine ⟨_, rfl, ?_⟩; have n0_ := Aside0.mk (Kd.qr0 (by (with_reducible repeat (first | apply Kd.qm0 | apply Kd.ql0 | apply Kd.qo0)); exact HO_6.out) hb); have n1_ := Aside0.mk (Kd.qr0 (by (with_reducible repeat (first | apply Kd.qm0 | apply Kd.ql0 | apply Kd.qo0)); exact HO_8.out) hb); have n2_ := Aside0.mk (Kd.qr0 (by (with_reducible repeat (first | apply Kd.qm0 | apply Kd.ql0 | apply Kd.qo0)); exact HO_9.out) hb); have n3_ := Aside0.mk (Kd.qr0 (by (with_reducible repeat (first | apply Kd.qm0 | apply Kd.ql0 | apply Kd.qo0)); exact HO_10.out) hb); have n4_ := Aside0.mk (Kd.qr0 (by (with_reducible repeat (first | apply Kd.qm0 | apply Kd.ql0 | apply Kd.qo0)); exact HO273.out) hb); have n5_ := Aside0.mk (qf0 (by repeat (first | (with_reducible first | exact HB.out | apply qc0 | apply qa0 | apply qb0) | exact HB.out)) hb); clear HO_6; clear HO_8; clear HO_9; clear HO_10; clear HO273; clear HB; have HO_6 := n0_; have HO_8 := n1_; have HO_9 := n2_; have HO_10 := n3_; have HO273 := n4_; have HB := n5_; clear n0_ n1_ n2_ n3_ n4_ n5_; (try clear hb); (try clear hb2); (try clear hk); (try clear hi)))
   go_ret
   exact ⟨by first | rfl | (simp [errW_none, errW_some] <;> rfl) | (simp [*, errW_none, errW_some] <;> rfl), by repeat (first | (with_reducible first | exact HB.out | apply qc0 | apply qa0 | apply qb0) | exact HB.out)⟩

/-- THE ONE PURE STATEMENT of laws_FnExactShip. -/
def laws_FnExactShip.Pure : Prop := ∀ (l0 : List (S104)) (l1 : List (S111)), ((l0.length ≤ maxLen ∧ ∀ a_ ∈ l0, G104 a_)) → ((l1.length ≤ maxLen ∧ ∀ a_ ∈ l1, G111 a_)) → ∃ k, laws_FnExactShip.f k l0 l1 = some true

end Go.Proofs.Ytdnenglafphkbaa.PFnExactShip
