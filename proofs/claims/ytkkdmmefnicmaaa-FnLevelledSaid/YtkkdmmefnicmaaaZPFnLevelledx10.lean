/- Lines by a program (a changed copy of the kit's print: this repo's wip/tools): Go functions as Lean functions, and proofs that the calls answer so. -/
import Derived.Test.YtkkdmmefnicmaaaZPFnLevelledx0
import Derived.Test.YtkkdmmefnicmaaaZPFnLevelledx9
namespace Go.Proofs.Ytkkdmmefnicmaaa.PFnLevelled
open Go.RowKit Go.Proofs.YtkkdmmefnicmaaaW.PrintWords Go.Proofs.YtkkdmmefnicmaaaW.PrintLast Go.Proofs.YtkkdmmefnicmaaaW.PrintMore
/-- Runs of true and false, by turns. -/
def rb10l : Bool → List Nat → List Bool
 | _, [] => []
 | b, n :: r => List.replicate n b ++ rb10l (!b) r
def rb10 (l : List Nat) : Array Bool := (rb10l true l).toArray
attribute [local go_sem] max2_int min2_int max_two min_two max_three min_three max_four min_four   -- for this text's walks alone
set_option linter.unusedVariables false
set_option linter.unusedSimpArgs false

/-! ### spec_l17Part: function 85 -/
def spec_l17Part.f (a0_0 : Int) (a0_1 : Int) (a0_2 : Int) (a0_3 : Int) (a0_4 : Int) (a0_5 : Int) (a1 : Int) (a2 : Int) : Option (Bool) := (spec_l1In.f a0_0 (wrap64 (a1 + 1)) (wrap64 (a2 - 1))).bind fun t266 => (if t266 = true then ((spec_l1In.f a0_1 1 1000000).bind fun t267 => (if t267 = true then ((spec_l1In.f a0_2 0 100).bind fun t268 => (if t268 = true then ((spec_l2Day.f a0_3).bind fun t269 => (if t269 = true then ((spec_l2Day.f a0_4).bind fun t270 => (if t270 = true then (if a0_3 ≤ a0_4 then ((spec_l1In.f a0_5 0 9).bind fun t271 => (some t271)) else (some false)) else (some false))) else (some false))) else (some false))) else (some false))) else (some false))
set_option maxHeartbeats 8000000 in
set_option maxRecDepth 100000 in
theorem spec_l17Part.calls (a0_0 : Int) (a0_1 : Int) (a0_2 : Int) (a0_3 : Int) (a0_4 : Int) (a0_5 : Int) (a1 : Int) (a2 : Int) (r : Bool) (w : World) (h : spec_l17Part.f a0_0 a0_1 a0_2 a0_3 a0_4 a0_5 a1 a2 = some r) :
  Calls Try.prog 85 #[.agg #[.int .i64 a0_0, .int .i64 a0_1, .int .i64 a0_2, .int .i64 a0_3, .int .i64 a0_4, .int .i64 a0_5], .int .i64 a1, .int .i64 a2] w fun e w' => e = .returned (.bool r) ∧ Below w.heap.size w w' := by
 have hu54 := Try.underlying54
 have HB := Aside0.mk (Below.refl w.heap.size w)
 have H : ((spec_l1In.f a0_0 (wrap64 (a1 + 1)) (wrap64 (a2 - 1))).bind fun t266 => (if t266 = true then ((spec_l1In.f a0_1 1 1000000).bind fun t267 => (if t267 = true then ((spec_l1In.f a0_2 0 100).bind fun t268 => (if t268 = true then ((spec_l2Day.f a0_3).bind fun t269 => (if t269 = true then ((spec_l2Day.f a0_4).bind fun t270 => (if t270 = true then (if a0_3 ≤ a0_4 then ((spec_l1In.f a0_5 0 9).bind fun t271 => (some t271)) else (some false)) else (some false))) else (some false))) else (some false))) else (some false))) else (some false))) = some r := h
 clear h
 replace H := Option.bind_eq_some_iff.mp H
 obtain ⟨t266, A40, H⟩ := H
 replace H : (if t266 = true then ((spec_l1In.f a0_1 1 1000000).bind fun t267 => (if t267 = true then ((spec_l1In.f a0_2 0 100).bind fun t268 => (if t268 = true then ((spec_l2Day.f a0_3).bind fun t269 => (if t269 = true then ((spec_l2Day.f a0_4).bind fun t270 => (if t270 = true then (if a0_3 ≤ a0_4 then ((spec_l1In.f a0_5 0 9).bind fun t271 => (some t271)) else (some false)) else (some false))) else (some false))) else (some false))) else (some false))) else (some false)) = some r := H
 have A4 := Aside0.mk A40
 clear A40
 by_cases c5 : t266 = true
 ·subst c5
  have H1 : ((spec_l1In.f a0_1 1 1000000).bind fun t267 => (if t267 = true then ((spec_l1In.f a0_2 0 100).bind fun t268 => (if t268 = true then ((spec_l2Day.f a0_3).bind fun t269 => (if t269 = true then ((spec_l2Day.f a0_4).bind fun t270 => (if t270 = true then (if a0_3 ≤ a0_4 then ((spec_l1In.f a0_5 0 9).bind fun t271 => (some t271)) else (some false)) else (some false))) else (some false))) else (some false))) else (some false))) = some r := by rw [if_pos rfl] at H; exact H
  clear H
  have H := H1
  clear H1
  replace H := Option.bind_eq_some_iff.mp H
  obtain ⟨t267, A60, H⟩ := H
  replace H : (if t267 = true then ((spec_l1In.f a0_2 0 100).bind fun t268 => (if t268 = true then ((spec_l2Day.f a0_3).bind fun t269 => (if t269 = true then ((spec_l2Day.f a0_4).bind fun t270 => (if t270 = true then (if a0_3 ≤ a0_4 then ((spec_l1In.f a0_5 0 9).bind fun t271 => (some t271)) else (some false)) else (some false))) else (some false))) else (some false))) else (some false)) = some r := H
  have A6 := Aside0.mk A60
  clear A60
  by_cases c7 : t267 = true
  ·subst c7
   have H1 : ((spec_l1In.f a0_2 0 100).bind fun t268 => (if t268 = true then ((spec_l2Day.f a0_3).bind fun t269 => (if t269 = true then ((spec_l2Day.f a0_4).bind fun t270 => (if t270 = true then (if a0_3 ≤ a0_4 then ((spec_l1In.f a0_5 0 9).bind fun t271 => (some t271)) else (some false)) else (some false))) else (some false))) else (some false))) = some r := by rw [if_pos rfl] at H; exact H
   clear H
   have H := H1
   clear H1
   replace H := Option.bind_eq_some_iff.mp H
   obtain ⟨t268, A80, H⟩ := H
   replace H : (if t268 = true then ((spec_l2Day.f a0_3).bind fun t269 => (if t269 = true then ((spec_l2Day.f a0_4).bind fun t270 => (if t270 = true then (if a0_3 ≤ a0_4 then ((spec_l1In.f a0_5 0 9).bind fun t271 => (some t271)) else (some false)) else (some false))) else (some false))) else (some false)) = some r := H
   have A8 := Aside0.mk A80
   clear A80
   by_cases c9 : t268 = true
   ·subst c9
    have H1 : ((spec_l2Day.f a0_3).bind fun t269 => (if t269 = true then ((spec_l2Day.f a0_4).bind fun t270 => (if t270 = true then (if a0_3 ≤ a0_4 then ((spec_l1In.f a0_5 0 9).bind fun t271 => (some t271)) else (some false)) else (some false))) else (some false))) = some r := by rw [if_pos rfl] at H; exact H
    clear H
    have H := H1
    clear H1
    replace H := Option.bind_eq_some_iff.mp H
    obtain ⟨t269, A100, H⟩ := H
    replace H : (if t269 = true then ((spec_l2Day.f a0_4).bind fun t270 => (if t270 = true then (if a0_3 ≤ a0_4 then ((spec_l1In.f a0_5 0 9).bind fun t271 => (some t271)) else (some false)) else (some false))) else (some false)) = some r := H
    have A10 := Aside0.mk A100
    clear A100
    by_cases c11 : t269 = true
    ·subst c11
     have H1 : ((spec_l2Day.f a0_4).bind fun t270 => (if t270 = true then (if a0_3 ≤ a0_4 then ((spec_l1In.f a0_5 0 9).bind fun t271 => (some t271)) else (some false)) else (some false))) = some r := by rw [if_pos rfl] at H; exact H
     clear H
     have H := H1
     clear H1
     replace H := Option.bind_eq_some_iff.mp H
     obtain ⟨t270, A120, H⟩ := H
     replace H : (if t270 = true then (if a0_3 ≤ a0_4 then ((spec_l1In.f a0_5 0 9).bind fun t271 => (some t271)) else (some false)) else (some false)) = some r := H
     have A12 := Aside0.mk A120
     clear A120
     by_cases c13 : t270 = true
     ·subst c13
      have H1 : (if a0_3 ≤ a0_4 then ((spec_l1In.f a0_5 0 9).bind fun t271 => (some t271)) else (some false)) = some r := by rw [if_pos rfl] at H; exact H
      clear H
      have H := H1
      clear H1
      by_cases c14 : a0_3 ≤ a0_4
      ·rw [if_pos c14] at H
       have c14b0 : decide (a0_3 ≤ a0_4) = true := decide_eq_true c14
       clear c14
       replace H := Option.bind_eq_some_iff.mp H
       obtain ⟨t271, A150, H⟩ := H
       replace H : (some t271) = some r := H
       have A15 := Aside0.mk A150
       clear A150
       obtain rfl := Option.some.inj H
       go_enter Try.func85, Try.ntmps85
       go_wp2_with (first | ((with_reducible refine qz0 (N := 3) rfl ?_); refine qg1 ?hg (N := 3) ?hd (cs := #[.int .i64 a0_0, .int .i64 a0_1, .int .i64 a0_2, .int .i64 a0_3, .int .i64 a0_4, .int .i64 a0_5]) (t := 54) ?hr ?_; (case hd => rfl); (case hg => rfl); (case hr => first | (go_simp; done) | (go_simp; rfl)); intro gb265 hg w16 hbox hb; have n0_ := Aside0.mk (qk0 (by repeat (first | (with_reducible first | exact HB.out | apply qc0 | apply qa0 | apply qd0) | exact HB.out)) hb); have n1_ := Aside0.mk (hbox); have n2_ := Aside0.mk ((by rw [hg]; exact (qm0 (by repeat (first | (with_reducible first | exact HB.out | apply qc0 | apply qa0 | apply qd0) | exact HB.out))) : w.heap.size ≤ gb265)); have n3_ := Aside0.mk ((by rw [hg]; exact (qm0 (by repeat (first | (with_reducible first | exact HB.out | apply qc0 | apply qa0 | apply qd0) | exact HB.out))) : w.heap.size ≤ gb265)); clear HB; have HB := n0_; have BK265 := n1_; have GW265 := n2_; have GE265 := n3_; clear n0_ n1_ n2_ n3_; clear hb hbox hg; have hcz17_0 : w16.cell? ⟨gb265, 0, none⟩ = some (.int .i64 a0_0) := (qe0 BK265.out 0).trans rfl; have hcz17_1 : w16.cell? ⟨gb265, 1, none⟩ = some (.int .i64 a0_1) := (qe0 BK265.out 1).trans rfl; have hcz17_2 : w16.cell? ⟨gb265, 2, none⟩ = some (.int .i64 a0_2) := (qe0 BK265.out 2).trans rfl; have hcz17_3 : w16.cell? ⟨gb265, 3, none⟩ = some (.int .i64 a0_3) := (qe0 BK265.out 3).trans rfl; have hcz17_4 : w16.cell? ⟨gb265, 4, none⟩ = some (.int .i64 a0_4) := (qe0 BK265.out 4).trans rfl; have hcz17_5 : w16.cell? ⟨gb265, 5, none⟩ = some (.int .i64 a0_5) := (qe0 BK265.out 5).trans rfl; have hfz17_0 := qb0 BK265.out 0; have hfz17_1 := qb0 BK265.out 1; have hfz17_2 := qb0 BK265.out 2; have hfz17_3 := qb0 BK265.out 3; have hfz17_4 := qb0 BK265.out 4; have hfz17_5 := qb0 BK265.out 5) | ((with_reducible refine qs0 (f := 79) rfl ?_); refine qk1 (some 13) rfl rfl Try.func79 (by kernel_rfl) rfl #[.int .i64 a0_0, .int .i64 (wrap64 (a1 + 1)), .int .i64 (wrap64 (a2 - 1))] rfl (by (try simp only [List.map_toArray, List.map_cons, List.map_nil]); first | done | rfl | (simp only [List.length_drop, List.length_take]; rfl)) ?_; (with_reducible refine (spec_l1In.calls a0_0 (wrap64 (a1 + 1)) (wrap64 (a2 - 1)) true _ A4.out).mono ?_); rintro e w' ⟨rfl, ⟨nd, rfl⟩⟩; refine ⟨_, rfl, ?_⟩) | (go_at_call 79; (with_reducible refine (spec_l1In.calls a0_1 1 1000000 true _ A6.out).mono ?_); rintro e w' ⟨rfl, ⟨nd, rfl⟩⟩) | (go_at_call 79; (with_reducible refine (spec_l1In.calls a0_2 0 100 true _ A8.out).mono ?_); rintro e w' ⟨rfl, ⟨nd, rfl⟩⟩) | (go_at_call 90; (with_reducible refine (spec_l2Day.calls a0_3 true _ A10.out).mono ?_); rintro e w' ⟨rfl, ⟨nd, rfl⟩⟩) | (go_at_call 90; (with_reducible refine (spec_l2Day.calls a0_4 true _ A12.out).mono ?_); rintro e w' ⟨rfl, ⟨nd, rfl⟩⟩) | (go_at_call 79; (with_reducible refine (spec_l1In.calls a0_5 0 9 t271 _ A15.out).mono ?_); rintro e w' ⟨rfl, ⟨nd, rfl⟩⟩))
       go_ret
       exact ⟨by first | rfl | (simp [errW_none, errW_some] <;> rfl) | (simp [*, errW_none, errW_some] <;> rfl), by repeat (first | (with_reducible first | exact HB.out | apply qc0 | apply qa0 | apply qd0 | refine qi0 ?_ GE265.out) | exact HB.out)⟩
      rw [if_neg c14] at H
      have c14b0 : decide (a0_3 ≤ a0_4) = false := decide_eq_false c14
      clear c14
      obtain rfl := Option.some.inj H
      go_enter Try.func85, Try.ntmps85
      go_wp2_with (first | ((with_reducible refine qz0 (N := 3) rfl ?_); refine qg1 ?hg (N := 3) ?hd (cs := #[.int .i64 a0_0, .int .i64 a0_1, .int .i64 a0_2, .int .i64 a0_3, .int .i64 a0_4, .int .i64 a0_5]) (t := 54) ?hr ?_; (case hd => rfl); (case hg => rfl); (case hr => first | (go_simp; done) | (go_simp; rfl)); intro gb265 hg w18 hbox hb; have n0_ := Aside0.mk (qk0 (by repeat (first | (with_reducible first | exact HB.out | apply qc0 | apply qa0 | apply qd0) | exact HB.out)) hb); have n1_ := Aside0.mk (hbox); have n2_ := Aside0.mk ((by rw [hg]; exact (qm0 (by repeat (first | (with_reducible first | exact HB.out | apply qc0 | apply qa0 | apply qd0) | exact HB.out))) : w.heap.size ≤ gb265)); have n3_ := Aside0.mk ((by rw [hg]; exact (qm0 (by repeat (first | (with_reducible first | exact HB.out | apply qc0 | apply qa0 | apply qd0) | exact HB.out))) : w.heap.size ≤ gb265)); clear HB; have HB := n0_; have BK265 := n1_; have GW265 := n2_; have GE265 := n3_; clear n0_ n1_ n2_ n3_; clear hb hbox hg; have hcz19_0 : w18.cell? ⟨gb265, 0, none⟩ = some (.int .i64 a0_0) := (qe0 BK265.out 0).trans rfl; have hcz19_1 : w18.cell? ⟨gb265, 1, none⟩ = some (.int .i64 a0_1) := (qe0 BK265.out 1).trans rfl; have hcz19_2 : w18.cell? ⟨gb265, 2, none⟩ = some (.int .i64 a0_2) := (qe0 BK265.out 2).trans rfl; have hcz19_3 : w18.cell? ⟨gb265, 3, none⟩ = some (.int .i64 a0_3) := (qe0 BK265.out 3).trans rfl; have hcz19_4 : w18.cell? ⟨gb265, 4, none⟩ = some (.int .i64 a0_4) := (qe0 BK265.out 4).trans rfl; have hcz19_5 : w18.cell? ⟨gb265, 5, none⟩ = some (.int .i64 a0_5) := (qe0 BK265.out 5).trans rfl; have hfz19_0 := qb0 BK265.out 0; have hfz19_1 := qb0 BK265.out 1; have hfz19_2 := qb0 BK265.out 2; have hfz19_3 := qb0 BK265.out 3; have hfz19_4 := qb0 BK265.out 4; have hfz19_5 := qb0 BK265.out 5) | ((with_reducible refine qs0 (f := 79) rfl ?_); refine qk1 (some 13) rfl rfl Try.func79 (by kernel_rfl) rfl #[.int .i64 a0_0, .int .i64 (wrap64 (a1 + 1)), .int .i64 (wrap64 (a2 - 1))] rfl (by (try simp only [List.map_toArray, List.map_cons, List.map_nil]); first | done | rfl | (simp only [List.length_drop, List.length_take]; rfl)) ?_; (with_reducible refine (spec_l1In.calls a0_0 (wrap64 (a1 + 1)) (wrap64 (a2 - 1)) true _ A4.out).mono ?_); rintro e w' ⟨rfl, ⟨nd, rfl⟩⟩; refine ⟨_, rfl, ?_⟩) | (go_at_call 79; (with_reducible refine (spec_l1In.calls a0_1 1 1000000 true _ A6.out).mono ?_); rintro e w' ⟨rfl, ⟨nd, rfl⟩⟩) | (go_at_call 79; (with_reducible refine (spec_l1In.calls a0_2 0 100 true _ A8.out).mono ?_); rintro e w' ⟨rfl, ⟨nd, rfl⟩⟩) | (go_at_call 90; (with_reducible refine (spec_l2Day.calls a0_3 true _ A10.out).mono ?_); rintro e w' ⟨rfl, ⟨nd, rfl⟩⟩) | (go_at_call 90; (with_reducible refine (spec_l2Day.calls a0_4 true _ A12.out).mono ?_); rintro e w' ⟨rfl, ⟨nd, rfl⟩⟩))
      go_ret
      exact ⟨by first | rfl | (simp [errW_none, errW_some] <;> rfl) | (simp [*, errW_none, errW_some] <;> rfl), by repeat (first | (with_reducible first | exact HB.out | apply qc0 | apply qa0 | apply qd0 | refine qi0 ?_ GE265.out) | exact HB.out)⟩
     replace c13 := Bool.eq_false_iff.mpr c13
     subst c13
     have H1 : (some false) = some r := by rw [if_neg (show ¬ (false = true) by decide)] at H; exact H
     clear H
     have H := H1
     clear H1
     obtain rfl := Option.some.inj H
     go_enter Try.func85, Try.ntmps85
     go_wp2_with (first | ((with_reducible refine qz0 (N := 3) rfl ?_); refine qg1 ?hg (N := 3) ?hd (cs := #[.int .i64 a0_0, .int .i64 a0_1, .int .i64 a0_2, .int .i64 a0_3, .int .i64 a0_4, .int .i64 a0_5]) (t := 54) ?hr ?_; (case hd => rfl); (case hg => rfl); (case hr => first | (go_simp; done) | (go_simp; rfl)); intro gb265 hg w20 hbox hb; have n0_ := Aside0.mk (qk0 (by repeat (first | (with_reducible first | exact HB.out | apply qc0 | apply qa0 | apply qd0) | exact HB.out)) hb); have n1_ := Aside0.mk (hbox); have n2_ := Aside0.mk ((by rw [hg]; exact (qm0 (by repeat (first | (with_reducible first | exact HB.out | apply qc0 | apply qa0 | apply qd0) | exact HB.out))) : w.heap.size ≤ gb265)); have n3_ := Aside0.mk ((by rw [hg]; exact (qm0 (by repeat (first | (with_reducible first | exact HB.out | apply qc0 | apply qa0 | apply qd0) | exact HB.out))) : w.heap.size ≤ gb265)); clear HB; have HB := n0_; have BK265 := n1_; have GW265 := n2_; have GE265 := n3_; clear n0_ n1_ n2_ n3_; clear hb hbox hg; have hcz21_0 : w20.cell? ⟨gb265, 0, none⟩ = some (.int .i64 a0_0) := (qe0 BK265.out 0).trans rfl; have hcz21_1 : w20.cell? ⟨gb265, 1, none⟩ = some (.int .i64 a0_1) := (qe0 BK265.out 1).trans rfl; have hcz21_2 : w20.cell? ⟨gb265, 2, none⟩ = some (.int .i64 a0_2) := (qe0 BK265.out 2).trans rfl; have hcz21_3 : w20.cell? ⟨gb265, 3, none⟩ = some (.int .i64 a0_3) := (qe0 BK265.out 3).trans rfl; have hcz21_4 : w20.cell? ⟨gb265, 4, none⟩ = some (.int .i64 a0_4) := (qe0 BK265.out 4).trans rfl; have hcz21_5 : w20.cell? ⟨gb265, 5, none⟩ = some (.int .i64 a0_5) := (qe0 BK265.out 5).trans rfl; have hfz21_0 := qb0 BK265.out 0; have hfz21_1 := qb0 BK265.out 1; have hfz21_2 := qb0 BK265.out 2; have hfz21_3 := qb0 BK265.out 3; have hfz21_4 := qb0 BK265.out 4; have hfz21_5 := qb0 BK265.out 5) | ((with_reducible refine qs0 (f := 79) rfl ?_); refine qk1 (some 13) rfl rfl Try.func79 (by kernel_rfl) rfl #[.int .i64 a0_0, .int .i64 (wrap64 (a1 + 1)), .int .i64 (wrap64 (a2 - 1))] rfl (by (try simp only [List.map_toArray, List.map_cons, List.map_nil]); first | done | rfl | (simp only [List.length_drop, List.length_take]; rfl)) ?_; (with_reducible refine (spec_l1In.calls a0_0 (wrap64 (a1 + 1)) (wrap64 (a2 - 1)) true _ A4.out).mono ?_); rintro e w' ⟨rfl, ⟨nd, rfl⟩⟩; refine ⟨_, rfl, ?_⟩) | (go_at_call 79; (with_reducible refine (spec_l1In.calls a0_1 1 1000000 true _ A6.out).mono ?_); rintro e w' ⟨rfl, ⟨nd, rfl⟩⟩) | (go_at_call 79; (with_reducible refine (spec_l1In.calls a0_2 0 100 true _ A8.out).mono ?_); rintro e w' ⟨rfl, ⟨nd, rfl⟩⟩) | (go_at_call 90; (with_reducible refine (spec_l2Day.calls a0_3 true _ A10.out).mono ?_); rintro e w' ⟨rfl, ⟨nd, rfl⟩⟩) | (go_at_call 90; (with_reducible refine (spec_l2Day.calls a0_4 false _ A12.out).mono ?_); rintro e w' ⟨rfl, ⟨nd, rfl⟩⟩))
     go_ret
     exact ⟨by first | rfl | (simp [errW_none, errW_some] <;> rfl) | (simp [*, errW_none, errW_some] <;> rfl), by repeat (first | (with_reducible first | exact HB.out | apply qc0 | apply qa0 | apply qd0 | refine qi0 ?_ GE265.out) | exact HB.out)⟩
    replace c11 := Bool.eq_false_iff.mpr c11
    subst c11
    have H1 : (some false) = some r := by rw [if_neg (show ¬ (false = true) by decide)] at H; exact H
    clear H
    have H := H1
    clear H1
    obtain rfl := Option.some.inj H
    go_enter Try.func85, Try.ntmps85
    go_wp2_with (first | ((with_reducible refine qz0 (N := 3) rfl ?_); refine qg1 ?hg (N := 3) ?hd (cs := #[.int .i64 a0_0, .int .i64 a0_1, .int .i64 a0_2, .int .i64 a0_3, .int .i64 a0_4, .int .i64 a0_5]) (t := 54) ?hr ?_; (case hd => rfl); (case hg => rfl); (case hr => first | (go_simp; done) | (go_simp; rfl)); intro gb265 hg w22 hbox hb; have n0_ := Aside0.mk (qk0 (by repeat (first | (with_reducible first | exact HB.out | apply qc0 | apply qa0 | apply qd0) | exact HB.out)) hb); have n1_ := Aside0.mk (hbox); have n2_ := Aside0.mk ((by rw [hg]; exact (qm0 (by repeat (first | (with_reducible first | exact HB.out | apply qc0 | apply qa0 | apply qd0) | exact HB.out))) : w.heap.size ≤ gb265)); have n3_ := Aside0.mk ((by rw [hg]; exact (qm0 (by repeat (first | (with_reducible first | exact HB.out | apply qc0 | apply qa0 | apply qd0) | exact HB.out))) : w.heap.size ≤ gb265)); clear HB; have HB := n0_; have BK265 := n1_; have GW265 := n2_; have GE265 := n3_; clear n0_ n1_ n2_ n3_; clear hb hbox hg; have hcz23_0 : w22.cell? ⟨gb265, 0, none⟩ = some (.int .i64 a0_0) := (qe0 BK265.out 0).trans rfl; have hcz23_1 : w22.cell? ⟨gb265, 1, none⟩ = some (.int .i64 a0_1) := (qe0 BK265.out 1).trans rfl; have hcz23_2 : w22.cell? ⟨gb265, 2, none⟩ = some (.int .i64 a0_2) := (qe0 BK265.out 2).trans rfl; have hcz23_3 : w22.cell? ⟨gb265, 3, none⟩ = some (.int .i64 a0_3) := (qe0 BK265.out 3).trans rfl; have hcz23_4 : w22.cell? ⟨gb265, 4, none⟩ = some (.int .i64 a0_4) := (qe0 BK265.out 4).trans rfl; have hcz23_5 : w22.cell? ⟨gb265, 5, none⟩ = some (.int .i64 a0_5) := (qe0 BK265.out 5).trans rfl; have hfz23_0 := qb0 BK265.out 0; have hfz23_1 := qb0 BK265.out 1; have hfz23_2 := qb0 BK265.out 2; have hfz23_3 := qb0 BK265.out 3; have hfz23_4 := qb0 BK265.out 4; have hfz23_5 := qb0 BK265.out 5) | ((with_reducible refine qs0 (f := 79) rfl ?_); refine qk1 (some 13) rfl rfl Try.func79 (by kernel_rfl) rfl #[.int .i64 a0_0, .int .i64 (wrap64 (a1 + 1)), .int .i64 (wrap64 (a2 - 1))] rfl (by (try simp only [List.map_toArray, List.map_cons, List.map_nil]); first | done | rfl | (simp only [List.length_drop, List.length_take]; rfl)) ?_; (with_reducible refine (spec_l1In.calls a0_0 (wrap64 (a1 + 1)) (wrap64 (a2 - 1)) true _ A4.out).mono ?_); rintro e w' ⟨rfl, ⟨nd, rfl⟩⟩; refine ⟨_, rfl, ?_⟩) | (go_at_call 79; (with_reducible refine (spec_l1In.calls a0_1 1 1000000 true _ A6.out).mono ?_); rintro e w' ⟨rfl, ⟨nd, rfl⟩⟩) | (go_at_call 79; (with_reducible refine (spec_l1In.calls a0_2 0 100 true _ A8.out).mono ?_); rintro e w' ⟨rfl, ⟨nd, rfl⟩⟩) | (go_at_call 90; (with_reducible refine (spec_l2Day.calls a0_3 false _ A10.out).mono ?_); rintro e w' ⟨rfl, ⟨nd, rfl⟩⟩))
    go_ret
    exact ⟨by first | rfl | (simp [errW_none, errW_some] <;> rfl) | (simp [*, errW_none, errW_some] <;> rfl), by repeat (first | (with_reducible first | exact HB.out | apply qc0 | apply qa0 | apply qd0 | refine qi0 ?_ GE265.out) | exact HB.out)⟩
   replace c9 := Bool.eq_false_iff.mpr c9
   subst c9
   have H1 : (some false) = some r := by rw [if_neg (show ¬ (false = true) by decide)] at H; exact H
   clear H
   have H := H1
   clear H1
   obtain rfl := Option.some.inj H
   go_enter Try.func85, Try.ntmps85
   go_wp2_with (first | ((with_reducible refine qz0 (N := 3) rfl ?_); refine qg1 ?hg (N := 3) ?hd (cs := #[.int .i64 a0_0, .int .i64 a0_1, .int .i64 a0_2, .int .i64 a0_3, .int .i64 a0_4, .int .i64 a0_5]) (t := 54) ?hr ?_; (case hd => rfl); (case hg => rfl); (case hr => first | (go_simp; done) | (go_simp; rfl)); intro gb265 hg w24 hbox hb; have n0_ := Aside0.mk (qk0 (by repeat (first | (with_reducible first | exact HB.out | apply qc0 | apply qa0 | apply qd0) | exact HB.out)) hb); have n1_ := Aside0.mk (hbox); have n2_ := Aside0.mk ((by rw [hg]; exact (qm0 (by repeat (first | (with_reducible first | exact HB.out | apply qc0 | apply qa0 | apply qd0) | exact HB.out))) : w.heap.size ≤ gb265)); have n3_ := Aside0.mk ((by rw [hg]; exact (qm0 (by repeat (first | (with_reducible first | exact HB.out | apply qc0 | apply qa0 | apply qd0) | exact HB.out))) : w.heap.size ≤ gb265)); clear HB; have HB := n0_; have BK265 := n1_; have GW265 := n2_; have GE265 := n3_; clear n0_ n1_ n2_ n3_; clear hb hbox hg; have hcz25_0 : w24.cell? ⟨gb265, 0, none⟩ = some (.int .i64 a0_0) := (qe0 BK265.out 0).trans rfl; have hcz25_1 : w24.cell? ⟨gb265, 1, none⟩ = some (.int .i64 a0_1) := (qe0 BK265.out 1).trans rfl; have hcz25_2 : w24.cell? ⟨gb265, 2, none⟩ = some (.int .i64 a0_2) := (qe0 BK265.out 2).trans rfl; have hcz25_3 : w24.cell? ⟨gb265, 3, none⟩ = some (.int .i64 a0_3) := (qe0 BK265.out 3).trans rfl; have hcz25_4 : w24.cell? ⟨gb265, 4, none⟩ = some (.int .i64 a0_4) := (qe0 BK265.out 4).trans rfl; have hcz25_5 : w24.cell? ⟨gb265, 5, none⟩ = some (.int .i64 a0_5) := (qe0 BK265.out 5).trans rfl; have hfz25_0 := qb0 BK265.out 0; have hfz25_1 := qb0 BK265.out 1; have hfz25_2 := qb0 BK265.out 2; have hfz25_3 := qb0 BK265.out 3; have hfz25_4 := qb0 BK265.out 4; have hfz25_5 := qb0 BK265.out 5) | ((with_reducible refine qs0 (f := 79) rfl ?_); refine qk1 (some 13) rfl rfl Try.func79 (by kernel_rfl) rfl #[.int .i64 a0_0, .int .i64 (wrap64 (a1 + 1)), .int .i64 (wrap64 (a2 - 1))] rfl (by (try simp only [List.map_toArray, List.map_cons, List.map_nil]); first | done | rfl | (simp only [List.length_drop, List.length_take]; rfl)) ?_; (with_reducible refine (spec_l1In.calls a0_0 (wrap64 (a1 + 1)) (wrap64 (a2 - 1)) true _ A4.out).mono ?_); rintro e w' ⟨rfl, ⟨nd, rfl⟩⟩; refine ⟨_, rfl, ?_⟩) | (go_at_call 79; (with_reducible refine (spec_l1In.calls a0_1 1 1000000 true _ A6.out).mono ?_); rintro e w' ⟨rfl, ⟨nd, rfl⟩⟩) | (go_at_call 79; (with_reducible refine (spec_l1In.calls a0_2 0 100 false _ A8.out).mono ?_); rintro e w' ⟨rfl, ⟨nd, rfl⟩⟩))
   go_ret
   exact ⟨by first | rfl | (simp [errW_none, errW_some] <;> rfl) | (simp [*, errW_none, errW_some] <;> rfl), by repeat (first | (with_reducible first | exact HB.out | apply qc0 | apply qa0 | apply qd0 | refine qi0 ?_ GE265.out) | exact HB.out)⟩
  replace c7 := Bool.eq_false_iff.mpr c7
  subst c7
  have H1 : (some false) = some r := by rw [if_neg (show ¬ (false = true) by decide)] at H; exact H
  clear H
  have H := H1
  clear H1
  obtain rfl := Option.some.inj H
  go_enter Try.func85, Try.ntmps85
  go_wp2_with (first | ((with_reducible refine qz0 (N := 3) rfl ?_); refine qg1 ?hg (N := 3) ?hd (cs := #[.int .i64 a0_0, .int .i64 a0_1, .int .i64 a0_2, .int .i64 a0_3, .int .i64 a0_4, .int .i64 a0_5]) (t := 54) ?hr ?_; (case hd => rfl); (case hg => rfl); (case hr => first | (go_simp; done) | (go_simp; rfl)); intro gb265 hg w26 hbox hb; have n0_ := Aside0.mk (qk0 (by repeat (first | (with_reducible first | exact HB.out | apply qc0 | apply qa0 | apply qd0) | exact HB.out)) hb); have n1_ := Aside0.mk (hbox); have n2_ := Aside0.mk ((by rw [hg]; exact (qm0 (by repeat (first | (with_reducible first | exact HB.out | apply qc0 | apply qa0 | apply qd0) | exact HB.out))) : w.heap.size ≤ gb265)); have n3_ := Aside0.mk ((by rw [hg]; exact (qm0 (by repeat (first | (with_reducible first | exact HB.out | apply qc0 | apply qa0 | apply qd0) | exact HB.out))) : w.heap.size ≤ gb265)); clear HB; have HB := n0_; have BK265 := n1_; have GW265 := n2_; have GE265 := n3_; clear n0_ n1_ n2_ n3_; clear hb hbox hg; have hcz27_0 : w26.cell? ⟨gb265, 0, none⟩ = some (.int .i64 a0_0) := (qe0 BK265.out 0).trans rfl; have hcz27_1 : w26.cell? ⟨gb265, 1, none⟩ = some (.int .i64 a0_1) := (qe0 BK265.out 1).trans rfl; have hcz27_2 : w26.cell? ⟨gb265, 2, none⟩ = some (.int .i64 a0_2) := (qe0 BK265.out 2).trans rfl; have hcz27_3 : w26.cell? ⟨gb265, 3, none⟩ = some (.int .i64 a0_3) := (qe0 BK265.out 3).trans rfl; have hcz27_4 : w26.cell? ⟨gb265, 4, none⟩ = some (.int .i64 a0_4) := (qe0 BK265.out 4).trans rfl; have hcz27_5 : w26.cell? ⟨gb265, 5, none⟩ = some (.int .i64 a0_5) := (qe0 BK265.out 5).trans rfl; have hfz27_0 := qb0 BK265.out 0; have hfz27_1 := qb0 BK265.out 1; have hfz27_2 := qb0 BK265.out 2; have hfz27_3 := qb0 BK265.out 3; have hfz27_4 := qb0 BK265.out 4; have hfz27_5 := qb0 BK265.out 5) | ((with_reducible refine qs0 (f := 79) rfl ?_); refine qk1 (some 13) rfl rfl Try.func79 (by kernel_rfl) rfl #[.int .i64 a0_0, .int .i64 (wrap64 (a1 + 1)), .int .i64 (wrap64 (a2 - 1))] rfl (by (try simp only [List.map_toArray, List.map_cons, List.map_nil]); first | done | rfl | (simp only [List.length_drop, List.length_take]; rfl)) ?_; (with_reducible refine (spec_l1In.calls a0_0 (wrap64 (a1 + 1)) (wrap64 (a2 - 1)) true _ A4.out).mono ?_); rintro e w' ⟨rfl, ⟨nd, rfl⟩⟩; refine ⟨_, rfl, ?_⟩) | (go_at_call 79; (with_reducible refine (spec_l1In.calls a0_1 1 1000000 false _ A6.out).mono ?_); rintro e w' ⟨rfl, ⟨nd, rfl⟩⟩))
  go_ret
  exact ⟨by first | rfl | (simp [errW_none, errW_some] <;> rfl) | (simp [*, errW_none, errW_some] <;> rfl), by repeat (first | (with_reducible first | exact HB.out | apply qc0 | apply qa0 | apply qd0 | refine qi0 ?_ GE265.out) | exact HB.out)⟩
 replace c5 := Bool.eq_false_iff.mpr c5
 subst c5
 have H1 : (some false) = some r := by rw [if_neg (show ¬ (false = true) by decide)] at H; exact H
 clear H
 have H := H1
 clear H1
 obtain rfl := Option.some.inj H
 go_enter Try.func85, Try.ntmps85
 go_wp2_with (first | ((with_reducible refine qz0 (N := 3) rfl ?_); refine qg1 ?hg (N := 3) ?hd (cs := #[.int .i64 a0_0, .int .i64 a0_1, .int .i64 a0_2, .int .i64 a0_3, .int .i64 a0_4, .int .i64 a0_5]) (t := 54) ?hr ?_; (case hd => rfl); (case hg => rfl); (case hr => first | (go_simp; done) | (go_simp; rfl)); intro gb265 hg w28 hbox hb; have n0_ := Aside0.mk (qk0 (by repeat (first | (with_reducible first | exact HB.out | apply qc0 | apply qa0 | apply qd0) | exact HB.out)) hb); have n1_ := Aside0.mk (hbox); have n2_ := Aside0.mk ((by rw [hg]; exact (qm0 (by repeat (first | (with_reducible first | exact HB.out | apply qc0 | apply qa0 | apply qd0) | exact HB.out))) : w.heap.size ≤ gb265)); have n3_ := Aside0.mk ((by rw [hg]; exact (qm0 (by repeat (first | (with_reducible first | exact HB.out | apply qc0 | apply qa0 | apply qd0) | exact HB.out))) : w.heap.size ≤ gb265)); clear HB; have HB := n0_; have BK265 := n1_; have GW265 := n2_; have GE265 := n3_; clear n0_ n1_ n2_ n3_; clear hb hbox hg; have hcz29_0 : w28.cell? ⟨gb265, 0, none⟩ = some (.int .i64 a0_0) := (qe0 BK265.out 0).trans rfl; have hcz29_1 : w28.cell? ⟨gb265, 1, none⟩ = some (.int .i64 a0_1) := (qe0 BK265.out 1).trans rfl; have hcz29_2 : w28.cell? ⟨gb265, 2, none⟩ = some (.int .i64 a0_2) := (qe0 BK265.out 2).trans rfl; have hcz29_3 : w28.cell? ⟨gb265, 3, none⟩ = some (.int .i64 a0_3) := (qe0 BK265.out 3).trans rfl; have hcz29_4 : w28.cell? ⟨gb265, 4, none⟩ = some (.int .i64 a0_4) := (qe0 BK265.out 4).trans rfl; have hcz29_5 : w28.cell? ⟨gb265, 5, none⟩ = some (.int .i64 a0_5) := (qe0 BK265.out 5).trans rfl; have hfz29_0 := qb0 BK265.out 0; have hfz29_1 := qb0 BK265.out 1; have hfz29_2 := qb0 BK265.out 2; have hfz29_3 := qb0 BK265.out 3; have hfz29_4 := qb0 BK265.out 4; have hfz29_5 := qb0 BK265.out 5) | ((with_reducible refine qs0 (f := 79) rfl ?_); refine qk1 (some 13) rfl rfl Try.func79 (by kernel_rfl) rfl #[.int .i64 a0_0, .int .i64 (wrap64 (a1 + 1)), .int .i64 (wrap64 (a2 - 1))] rfl (by (try simp only [List.map_toArray, List.map_cons, List.map_nil]); first | done | rfl | (simp only [List.length_drop, List.length_take]; rfl)) ?_; (with_reducible refine (spec_l1In.calls a0_0 (wrap64 (a1 + 1)) (wrap64 (a2 - 1)) false _ A4.out).mono ?_); rintro e w' ⟨rfl, ⟨nd, rfl⟩⟩; refine ⟨_, rfl, ?_⟩))
 go_ret
 exact ⟨by first | rfl | (simp [errW_none, errW_some] <;> rfl) | (simp [*, errW_none, errW_some] <;> rfl), by repeat (first | (with_reducible first | exact HB.out | apply qc0 | apply qa0 | apply qd0 | refine qi0 ?_ GE265.out) | exact HB.out)⟩

/-! ### spec_l9Max: function 139 -/
def spec_l9Max.f (a0 : Int) (a1 : Int) : Option (Int) := if a0 > a1 then (some a0) else (some a1)
set_option maxHeartbeats 8000000 in
set_option maxRecDepth 100000 in
theorem spec_l9Max.calls (a0 : Int) (a1 : Int) (r : Int) (w : World) (h : spec_l9Max.f a0 a1 = some r) :
  Calls Try.prog 139 #[.int .i64 a0, .int .i64 a1] w fun e w' => e = .returned (.int .i64 r) ∧ Drawn0 w w' := by
 have H : (if a0 > a1 then (some a0) else (some a1)) = some r := h
 clear h
 by_cases c3 : a0 > a1
 ·rw [if_pos c3] at H
  have c3b0 : decide (a1 < a0) = true := decide_eq_true c3
  clear c3
  obtain rfl := Option.some.inj H
  go_enter Try.func139, Try.ntmps139
  go_wp2
  go_ret
  exact ⟨by first | rfl | (simp; done) | (simp [*]; done), by repeat (first | exact Drawn0.refl _ | apply Drawn0.step)⟩
 rw [if_neg c3] at H
 have c3b0 : decide (a1 < a0) = false := decide_eq_false c3
 clear c3
 obtain rfl := Option.some.inj H
 go_enter Try.func139, Try.ntmps139
 go_wp2
 go_ret
 exact ⟨by first | rfl | (simp; done) | (simp [*]; done), by repeat (first | exact Drawn0.refl _ | apply Drawn0.step)⟩

/-! ### spec_l17Levels: function 86 -/
mutual
def spec_l17Levels.l0 : Nat → List (S52) → List Int → Int → Option (List Int)
 | 0, _, _, _ => none
 | k + 1, x0, x3, x4 => if x4 < (x0.length : Int) then (spec_l17Levels.l1 k x0 x3 x4 0) else (some x3)
def spec_l17Levels.l1 : Nat → List (S52) → List Int → Int → Int → Option (List Int)
 | 0, _, _, _, _ => none
 | k + 1, x0, x3, x4, x5 => if 0 ≤ x4 then (if x4 < (x0.length : Int) then (if x5 < (((rd_T52 x0 x4).f3).length : Int) then (if 0 ≤ x5 then (if 0 ≤ ((rd_T54 ((rd_T52 x0 x4).f3) x5).f0) then (if ((rd_T54 ((rd_T52 x0 x4).f3) x5).f0) < (x3.length : Int) then (if x4 < (x3.length : Int) then ((spec_l9Max.f (rd x3 ((rd_T54 ((rd_T52 x0 x4).f3) x5).f0)) (wrap64 ((rd x3 x4) + 1))).bind fun t280 => (spec_l17Levels.l1 k x0 (x3.set (((rd_T54 ((rd_T52 x0 x4).f3) x5).f0) : Int).toNat t280) x4 (wrap64 (x5 + 1)))) else (none)) else (none)) else (none)) else (none)) else (spec_l17Levels.l0 k x0 x3 (wrap64 (x4 + 1)))) else (none)) else (none)
end
def spec_l17Levels.f (k : Nat) (l0 : List (S52)) : Option (List Int) := if 0 ≤ (l0.length : Int) then (if ((l0.length : Int) : Int).toNat ≤ 35184372088832 then (spec_l17Levels.l0 k l0 (List.replicate ((l0.length : Int) : Int).toNat 0) 0) else (none)) else (none)
theorem spec_l17Levels.mono_l : ∀ k, (∀ y0 y1 y2, LeO (spec_l17Levels.l0 k y0 y1 y2) (spec_l17Levels.l0 (k + 1) y0 y1 y2)) ∧ (∀ y0 y1 y2 y3, LeO (spec_l17Levels.l1 k y0 y1 y2 y3) (spec_l17Levels.l1 (k + 1) y0 y1 y2 y3))
 | 0 => ⟨fun _ _ _ r h => by simp [spec_l17Levels.l0] at h, fun _ _ _ _ r h => by simp [spec_l17Levels.l1] at h⟩
 | k + 1 => by
  obtain ⟨ih0, ih1⟩ := spec_l17Levels.mono_l k
  refine ⟨?_, ?_⟩
  ·intro y0 y1 y2
   unfold spec_l17Levels.l0
   repeat' first
   | (with_reducible exact ih0 _ _ _)
   | (with_reducible exact ih1 _ _ _ _)
   | (with_reducible exact LeO.refl _)
   | (with_reducible exact LeO.none _)
   | (with_reducible refine LeO.ite ?_ ?_)
   | (with_reducible refine LeO.bind ?_ (fun _ => ?_))
   | exact ih0 _ _ _
   | exact ih1 _ _ _ _
   | exact LeO.none _
   | refine LeO.ite ?_ ?_
   | refine LeO.bind ?_ (fun _ => ?_)
  ·intro y0 y1 y2 y3
   unfold spec_l17Levels.l1
   repeat' first
   | (with_reducible exact ih0 _ _ _)
   | (with_reducible exact ih1 _ _ _ _)
   | (with_reducible exact LeO.refl _)
   | (with_reducible exact LeO.none _)
   | (with_reducible refine LeO.ite ?_ ?_)
   | (with_reducible refine LeO.bind ?_ (fun _ => ?_))
   | exact ih0 _ _ _
   | exact ih1 _ _ _ _
   | exact LeO.none _
   | refine LeO.ite ?_ ?_
   | refine LeO.bind ?_ (fun _ => ?_)
theorem spec_l17Levels.mono : ∀ a0 k, LeO (spec_l17Levels.f k a0) (spec_l17Levels.f (k + 1) a0) := by
 intro a0 k
 obtain ⟨ih0, ih1⟩ := spec_l17Levels.mono_l k
 unfold spec_l17Levels.f
 repeat' first
   | (with_reducible exact ih0 _ _ _)
   | (with_reducible exact ih1 _ _ _ _)
   | (with_reducible exact LeO.refl _)
   | (with_reducible exact LeO.none _)
   | (with_reducible refine LeO.ite ?_ ?_)
   | (with_reducible refine LeO.bind ?_ (fun _ => ?_))
   | exact ih0 _ _ _
   | exact ih1 _ _ _ _
   | exact LeO.none _
   | refine LeO.ite ?_ ?_
   | refine LeO.bind ?_ (fun _ => ?_)
def spec_l17Levels.T9 : Bool × List (List Nat × List Nat) := (true, [([], []), ([], []), ([], []), ([], []), ([2, 3], [2, 3]), ([4], [4]), ([], []), ([], []), ([6, 7], [6, 7]), ([8], [8]), ([9], [9]), ([5, 10], [5, 10]), ([0, 1, 0, 1, 2, 3, 4, 5, 6, 7, 8, 9, 10, 11], [0, 1]), ([12, 11, 11, 0, 1, 2, 3, 4, 5, 6, 7, 8, 9, 10, 11], [11, 12])])
def spec_l17Levels.B9 : List Nat := [0, 0, 0, 0, 12, 28, 0, 0, 192, 448, 960, 2044, 4095, 8191]
theorem spec_l17Levels.tab9 : rtab .any (opsOf Try.f86 9) = spec_l17Levels.T9 := by kernel_rfl
theorem spec_l17Levels.bits9 : waitsOk spec_l17Levels.T9.2 spec_l17Levels.B9 = true := by kernel_rfl
set_option maxHeartbeats 8000000 in
set_option maxRecDepth 100000 in
theorem spec_l17Levels.calls (k : Nat) (A0 : Option Addr) (c0 : Nat) (l0 : List (S52)) (r : List Int) (w : World) (hr0 : Kd.C k52 w A0 l0.length l0) (hc0 : l0.length ≤ c0) (h : spec_l17Levels.f k l0 = some r) :
  Calls Try.prog 86 #[.slice A0 l0.length c0] w fun e w' => ∃ v0_ : Value, e = .returned (v0_) ∧ Kd.R (Kd.int .i64) 3 w' w.heap.size (fun _ => True) v0_ r ∧ Below w.heap.size w w' := by
 have HR0 := Aside0.mk hr0
 have HC0 := Aside0.mk hc0
 clear hr0 hc0
 have HB := Aside0.mk (Below.refl w.heap.size w)
 have H : (if 0 ≤ (l0.length : Int) then (if ((l0.length : Int) : Int).toNat ≤ 35184372088832 then (spec_l17Levels.l0 k l0 (List.replicate ((l0.length : Int) : Int).toNat 0) 0) else (none)) else (none)) = some r := h
 clear h
 by_cases c2 : 0 ≤ (l0.length : Int)
 case neg => rw [if_neg c2] at H; exact absurd H (by simp)
 rw [if_pos c2] at H
 have c2b0 := eq_true c2
 have c2b1 : decide (0 ≤ (l0.length : Int)) = true := decide_eq_true c2
 clear c2
 by_cases c3 : ((l0.length : Int) : Int).toNat ≤ 35184372088832
 case neg => rw [if_neg c3] at H; exact absurd H (by simp)
 rw [if_pos c3] at H
 have c3b0 := eq_true c3
 have c3b1 : decide (((l0.length : Int) : Int).toNat ≤ 35184372088832) = true := decide_eq_true c3
 clear c3
 obtain ⟨y272, hy272⟩ : ∃ y_ : List Int, y_ = (List.replicate ((l0.length : Int) : Int).toNat 0) := ⟨_, rfl⟩
 replace H : (spec_l17Levels.l0 k l0 y272 0) = some r := by first | (rw [hy272]; with_reducible exact H) | (have H2_ := (Option.bind_some _ _).symm.trans H; rw [hy272]; with_reducible exact H2_) | (have H2_ := (Option.bind_some _ _).symm.trans H; with_reducible exact H2_) | with_reducible exact H | (rw [hy272]; exact H) | exact H
 have Ny272 := Aside0.mk hy272
 clear hy272
 have H' := Aside0.mk H
 clear H
 go_enter Try.func86, Try.ntmps86
 go_wp2_with (first | ((with_reducible refine qz0 (N := 9) rfl ?_); refine Kd.R_make (Kd.int .i64) _ 3 rfl (N := 9) rfl 24 _ _ rfl (l0.length : Int) rfl rfl Try.underlying24 (.int .i64 0) 8 info3 rfl (by decide) (by omega) 0 (ok := fun _ => True) (okp := fun _ => True) rfl (fun _ hk => hk) trivial (of_decide_eq_true (by first | (with_reducible assumption) | assumption)) (Nat.le_trans (Nat.mul_le_mul_right _ (of_decide_eq_true (by first | (with_reducible assumption) | assumption) : (l0.length : Int).toNat ≤ 35184372088832)) (by omega)) (Below.refl _ _) (Nat.le_refl _) ?_; intro v273 w4 ho5 hb hg_ hnew_; clear hg_ hnew_; (first | rw [← Ny272.out] at ho5 | (simp only [Int.reduceToNat] at ho5; rw [← Ny272.out] at ho5)); have n0_ := Aside0.mk (Kd.qw1 ho5 (qm0 (by repeat (first | (with_reducible first | exact HB.out | apply qc0 | apply qa0 | apply qd0) | exact HB.out)))); have n1_ := Aside0.mk (qk0 (by repeat (first | (with_reducible first | exact HB.out | apply qc0 | apply qa0 | apply qd0) | exact HB.out)) hb); clear HB; have HO274 := n0_; have HB := n1_; clear n0_ n1_; clear hb ho5))
 go_loopg [4] k (fun kq v4 w' => ∃ (x3_1 : List Int) (x4_1 : Int), v4 = .int .i64 x4_1 ∧ Aside0 (spec_l17Levels.l0 kq l0 x3_1 x4_1 = some r) ∧ Aside0 (kq ≤ k) ∧ Aside0 (Kd.R (Kd.int .i64) 3 w' w.heap.size (fun _ => True) v273 x3_1) ∧ Aside0 (Below w.heap.size w w'))
 case atStart => exact ⟨(y272), (0), (by first | rfl | (simp; done) | (simp [*]; done)), H', ⟨Nat.le_refl _⟩, ⟨by (with_reducible repeat (first | apply Kd.qo0 | apply Kd.qn0 | apply Kd.qt0)); exact HO274.out⟩, ⟨by repeat (first | (with_reducible first | exact HB.out | apply qc0 | apply qa0 | apply qd0) | exact HB.out)⟩⟩
 case round =>
  clear H'
  try clear c2
  try clear c2b0
  try clear c2b1
  try clear p2
  try clear c3
  try clear c3b0
  try clear c3b1
  obtain ⟨x3_1, x4_1, rfl, HA, HK1, HO_3, HB⟩ := hrel
  cases gk with
  | zero => exact absurd HA.out (by simp [spec_l17Levels.l0])
  | succ k1 =>
   have H := HA.out
   clear HA
   simp only [spec_l17Levels.l0] at H
   by_cases c6 : x4_1 < (l0.length : Int)
   ·rw [if_pos c6] at H
    have c6b0 : decide (x4_1 < (l0.length : Int)) = true := decide_eq_true c6
    clear c6
    have H' := Aside0.mk H
    clear H
    go_wp2
    go_loopg [5] k1 (fun kq v5 w' => ∃ (x3_2 : List Int) (x5_2 : Int), v5 = .int .i64 x5_2 ∧ Aside0 (spec_l17Levels.l1 kq l0 x3_2 x4_1 x5_2 = some r) ∧ Aside0 (kq ≤ k1) ∧ Aside0 (Kd.R (Kd.int .i64) 3 w' w.heap.size (fun _ => True) v273 x3_2) ∧ Aside0 (Below w.heap.size w w'))
    case atStart => exact ⟨(x3_1), (0), (by first | rfl | (simp; done) | (simp [*]; done)), H', ⟨Nat.le_refl _⟩, ⟨by (with_reducible repeat (first | apply Kd.qo0 | apply Kd.qn0 | apply Kd.qt0)); exact HO_3.out⟩, ⟨by repeat (first | (with_reducible first | exact HB.out | apply qc0 | apply qa0 | apply qd0) | exact HB.out)⟩⟩
    case round =>
     clear H'
     try clear c2
     try clear c2b0
     try clear c2b1
     try clear p2
     try clear c3
     try clear c3b0
     try clear c3b1
     try clear c6
     try clear c6b0
     try clear p2
     obtain ⟨x3_2, x5_2, rfl, HA, HK2, HO_3, HB⟩ := hrel
     cases gk with
     | zero => exact absurd HA.out (by simp [spec_l17Levels.l1])
     | succ k2 =>
      have H := HA.out
      clear HA
      simp only [spec_l17Levels.l1] at H
      by_cases c7 : 0 ≤ x4_1
      case neg => rw [if_neg c7] at H; exact absurd H (by simp)
      rw [if_pos c7] at H
      have c7b0 : decide (0 ≤ x4_1) = true := decide_eq_true c7
      clear c7
      by_cases c8 : x4_1 < (l0.length : Int)
      case neg => rw [if_neg c8] at H; exact absurd H (by simp)
      rw [if_pos c8] at H
      have c8b0 : decide (x4_1 < (l0.length : Int)) = true := decide_eq_true c8
      clear c8
      by_cases c9 : x5_2 < (((rd_T52 l0 x4_1).f3).length : Int)
      ·rw [if_pos c9] at H
       have c9b0 : decide (x5_2 < (((rd_T52 l0 x4_1).f3).length : Int)) = true := decide_eq_true c9
       clear c9
       by_cases c10 : 0 ≤ x5_2
       case neg => rw [if_neg c10] at H; exact absurd H (by simp)
       rw [if_pos c10] at H
       have c10b0 : decide (0 ≤ x5_2) = true := decide_eq_true c10
       clear c10
       by_cases c11 : 0 ≤ ((rd_T54 ((rd_T52 l0 x4_1).f3) x5_2).f0)
       case neg => rw [if_neg c11] at H; exact absurd H (by simp)
       rw [if_pos c11] at H
       have c11b0 : decide (0 ≤ ((rd_T54 ((rd_T52 l0 x4_1).f3) x5_2).f0)) = true := decide_eq_true c11
       clear c11
       by_cases c12 : ((rd_T54 ((rd_T52 l0 x4_1).f3) x5_2).f0) < (x3_2.length : Int)
       case neg => rw [if_neg c12] at H; exact absurd H (by simp)
       rw [if_pos c12] at H
       have c12b0 : decide (((rd_T54 ((rd_T52 l0 x4_1).f3) x5_2).f0) < (x3_2.length : Int)) = true := decide_eq_true c12
       clear c12
       by_cases c13 : x4_1 < (x3_2.length : Int)
       case neg => rw [if_neg c13] at H; exact absurd H (by simp)
       rw [if_pos c13] at H
       have c13b0 : decide (x4_1 < (x3_2.length : Int)) = true := decide_eq_true c13
       clear c13
       replace H := Option.bind_eq_some_iff.mp H
       obtain ⟨t280, A140, H⟩ := H
       replace H : (spec_l17Levels.l1 k2 l0 (x3_2.set (((rd_T54 ((rd_T52 l0 x4_1).f3) x5_2).f0) : Int).toNat t280) x4_1 (wrap64 (x5_2 + 1))) = some r := H
       have A14 := Aside0.mk A140
       clear A140
       obtain ⟨y281, hy281⟩ : ∃ y_ : List Int, y_ = (x3_2.set (((rd_T54 ((rd_T52 l0 x4_1).f3) x5_2).f0) : Int).toNat t280) := ⟨_, rfl⟩
       replace H : (spec_l17Levels.l1 k2 l0 y281 x4_1 (wrap64 (x5_2 + 1))) = some r := by first | (rw [hy281]; with_reducible exact H) | (have H2_ := (Option.bind_some _ _).symm.trans H; rw [hy281]; with_reducible exact H2_) | (have H2_ := (Option.bind_some _ _).symm.trans H; with_reducible exact H2_) | with_reducible exact H | (rw [hy281]; exact H) | exact H
       have Ny281 := Aside0.mk hy281
       clear hy281
       have H' := Aside0.mk H
       clear H
       have p275 : 0 ≤ (x4_1 : Int) := of_decide_eq_true (by first | (with_reducible assumption) | assumption)
       have q275 : x4_1 < (l0.length : Int) := of_decide_eq_true (by first | (with_reducible assumption) | assumption)
       obtain ⟨ad275, A275_3, c275_3, A275_4, c275_4, e275, hx275_0, hx275_1, hx275_2, hx275_3, hx275_4, hl275_3, hi275_3, hl275_4, hi275_4⟩ := at_T52 HR0.out x4_1 p275 q275
       cases e275
       replace hx275_0 := (HB.out.cell (World.block_lt_of_cell? w _ hx275_0)).trans hx275_0
       replace hx275_1 := (HB.out.cell (World.block_lt_of_cell? w _ hx275_1)).trans hx275_1
       replace hx275_2 := (HB.out.cell (World.block_lt_of_cell? w _ hx275_2)).trans hx275_2
       replace hx275_3 := (HB.out.cell (World.block_lt_of_cell? w _ hx275_3)).trans hx275_3
       replace hx275_4 := (HB.out.cell (World.block_lt_of_cell? w _ hx275_4)).trans hx275_4
       have HR275_3 := Aside0.mk hi275_3
       have HC275_3 := Aside0.mk hl275_3
       clear hi275_3 hl275_3
       have HR275_4 := Aside0.mk hi275_4
       have HC275_4 := Aside0.mk hl275_4
       clear hi275_4 hl275_4
       replace p275 := eq_true p275
       replace q275 := eq_true q275
       have p276 : 0 ≤ (x4_1 : Int) := of_decide_eq_true (by first | (with_reducible assumption) | assumption)
       have q276 : x4_1 < (l0.length : Int) := of_decide_eq_true (by first | (with_reducible assumption) | assumption)
       obtain ⟨ad276, A276_3, c276_3, A276_4, c276_4, e276, hx276_0, hx276_1, hx276_2, hx276_3, hx276_4, hl276_3, hi276_3, hl276_4, hi276_4⟩ := at_T52 HR0.out x4_1 p276 q276
       obtain rfl : ad275 = ad276 := (by injection e276)
       replace hx276_0 := (HB.out.cell (World.block_lt_of_cell? w _ hx276_0)).trans hx276_0
       replace hx276_1 := (HB.out.cell (World.block_lt_of_cell? w _ hx276_1)).trans hx276_1
       replace hx276_2 := (HB.out.cell (World.block_lt_of_cell? w _ hx276_2)).trans hx276_2
       replace hx276_3 := (HB.out.cell (World.block_lt_of_cell? w _ hx276_3)).trans hx276_3
       replace hx276_4 := (HB.out.cell (World.block_lt_of_cell? w _ hx276_4)).trans hx276_4
       have HR276_3 := Aside0.mk hi276_3
       have HC276_3 := Aside0.mk hl276_3
       clear hi276_3 hl276_3
       have HR276_4 := Aside0.mk hi276_4
       have HC276_4 := Aside0.mk hl276_4
       clear hi276_4 hl276_4
       replace p276 := eq_true p276
       replace q276 := eq_true q276
       have ea_ := Option.some.inj (hx275_3.symm.trans hx276_3)
       injection ea_ with ea_ en_ ec_
       subst ea_
       subst ec_
       clear en_
       have ea_ := Option.some.inj (hx275_4.symm.trans hx276_4)
       injection ea_ with ea_ en_ ec_
       subst ea_
       subst ec_
       clear en_
       have p277 : 0 ≤ (x5_2 : Int) := of_decide_eq_true (by first | (with_reducible assumption) | assumption)
       have q277 : x5_2 < (((rd_T52 l0 x4_1).f3).length : Int) := of_decide_eq_true (by first | (with_reducible assumption) | assumption)
       obtain ⟨ad277, e277, hx277_0, hx277_1, hx277_2, hx277_3, hx277_4, hx277_5⟩ := at_T54 HR276_3.out x5_2 p277 q277
       cases e277
       replace hx277_0 := (HB.out.cell (World.block_lt_of_cell? w _ hx277_0)).trans hx277_0
       replace hx277_1 := (HB.out.cell (World.block_lt_of_cell? w _ hx277_1)).trans hx277_1
       replace hx277_2 := (HB.out.cell (World.block_lt_of_cell? w _ hx277_2)).trans hx277_2
       replace hx277_3 := (HB.out.cell (World.block_lt_of_cell? w _ hx277_3)).trans hx277_3
       replace hx277_4 := (HB.out.cell (World.block_lt_of_cell? w _ hx277_4)).trans hx277_4
       replace hx277_5 := (HB.out.cell (World.block_lt_of_cell? w _ hx277_5)).trans hx277_5
       replace p277 := eq_true p277
       replace q277 := eq_true q277
       try go_wp2
       have n0_ := Aside0.mk (Kd.qt0 HO_3.out)
       have n1_ := Aside0.mk (qd0 HB.out)
       clear HO_3
       clear HB
       have HO_3 := n0_
       have HB := n1_
       clear n0_ n1_
       obtain ⟨Ao17, co17, eo17⟩ := Kd.qm1 HO_3.out
       (first | subst eo17 | (injection eo17 with f1_ f2_ f3_; have f4_ := f1_.symm; have f5_ := f3_.symm; clear f1_ f2_ f3_; subst f4_; subst f5_))
       have p278 : 0 ≤ (((rd_T54 ((rd_T52 l0 x4_1).f3) x5_2).f0) : Int) := of_decide_eq_true (by first | (with_reducible assumption) | assumption)
       have q278 : ((rd_T54 ((rd_T52 l0 x4_1).f3) x5_2).f0) < (x3_2.length : Int) := of_decide_eq_true (by first | (with_reducible assumption) | assumption)
       obtain ⟨ad278, e278, hx278_0⟩ := Kd.qq1 (Kd.qv0 HO_3.out).2.2 ((rd_T54 ((rd_T52 l0 x4_1).f3) x5_2).f0) p278 q278
       cases e278
       replace p278 := eq_true p278
       replace q278 := eq_true q278
       have p279 : 0 ≤ (x4_1 : Int) := of_decide_eq_true (by first | (with_reducible assumption) | assumption)
       have q279 : x4_1 < (x3_2.length : Int) := of_decide_eq_true (by first | (with_reducible assumption) | assumption)
       obtain ⟨ad279, e279, hx279_0⟩ := Kd.qq1 (Kd.qv0 HO_3.out).2.2 x4_1 p279 q279
       obtain rfl : ad278 = ad279 := (by injection e279)
       replace p279 := eq_true p279
       replace q279 := eq_true q279
       refine start_ (n := 14) (S := fun w' => w'.cell? (ad278.add (((rd_T54 ((rd_T52 l0 x4_1).f3) x5_2).f0)).toNat) = some (.int .i64 (rd x3_2 ((rd_T54 ((rd_T52 l0 x4_1).f3) x5_2).f0))) ∧ w'.cell? (ad278.add (x4_1).toNat) = some (.int .i64 (rd x3_2 x4_1))) (ds := [13]) (rb10 [0, 14]) (by kernel_rfl) rfl rfl ⟨hx278_0, hx279_0⟩ (fun hHeld => ?_); refine with_tabW spec_l17Levels.tab9 spec_l17Levels.bits9 (fun HT_ HW_ => ?_)
       generalize wr.drew = w16 at HO_3 HB hx278_0 hx279_0 hHeld ⊢
       refine pure_ (i := 0) (N := some 35) (v := ?_) (a' := ?_) (rb10 [1, 13]) rfl rfl (qf1 HT_.out (by kernel_rfl)) (fun _ _ _ h => h) (Or.inl ⟨by rfl, ?_⟩) ?_ ?_
       rotate_left
       ·intro w'
        go_simp
        with_reducible rfl
       rotate_left
       ·simp only [Act.put, List.setIfInBounds_toArray, List.set_cons_zero, List.set_cons_succ, i64_w, i32_w]
        rfl
       refine pure_ (i := 1) (N := some 36) (v := ?_) (a' := ?_) (rb10 [2, 12]) rfl rfl (qf1 HT_.out (by kernel_rfl)) (fun _ _ _ h => h) (Or.inl ⟨by rfl, ?_⟩) ?_ ?_
       rotate_left
       ·intro w'
        go_simp
        with_reducible rfl
       rotate_left
       ·simp only [Act.put, List.setIfInBounds_toArray, List.set_cons_zero, List.set_cons_succ, i64_w, i32_w]
        rfl
       refine pure_ (i := 2) (N := some 37) (v := ?_) (a' := ?_) (rb10 [3, 11]) rfl rfl (qf1 HT_.out (by kernel_rfl)) (fun _ _ _ h => h) (Or.inl ⟨by rfl, ?_⟩) ?_ ?_
       rotate_left
       ·intro w'
        go_simp
        with_reducible rfl
       rotate_left
       ·simp only [Act.put, List.setIfInBounds_toArray, List.set_cons_zero, List.set_cons_succ, i64_w, i32_w]
        rfl
       refine pure_ (i := 3) (N := some 38) (v := ?_) (a' := ?_) (rb10 [4, 10]) rfl rfl (qf1 HT_.out (by kernel_rfl)) (fun _ _ _ h => h) (Or.inl ⟨by rfl, ?_⟩) ?_ ?_
       rotate_left
       ·intro w'
        go_simp
        with_reducible rfl
       rotate_left
       ·simp only [Act.put, List.setIfInBounds_toArray, List.set_cons_zero, List.set_cons_succ, i64_w, i32_w]
        rfl
       refine pure_ (i := 4) (N := some 39) (v := ?_) (a' := ?_) (rb10 [5, 9]) rfl rfl (qf1 HT_.out (by kernel_rfl)) (fun _ _ _ h => h) (Or.inl ⟨by rfl, ?_⟩) ?_ ?_
       rotate_left
       ·intro w'
        go_simp
        with_reducible rfl
       rotate_left
       ·simp only [Act.put, List.setIfInBounds_toArray, List.set_cons_zero, List.set_cons_succ, i64_w, i32_w]
        rfl
       refine pure_ (i := 6) (N := some 41) (v := ?_) (a' := ?_) (rb10 [5, 1, 1, 7]) rfl rfl (qf1 HT_.out (by kernel_rfl)) (fun _ _ _ h => h) (Or.inl ⟨by rfl, ?_⟩) ?_ ?_
       rotate_left
       ·intro w'
        go_simp
        with_reducible rfl
       rotate_left
       ·simp only [Act.put, List.setIfInBounds_toArray, List.set_cons_zero, List.set_cons_succ, i64_w, i32_w]
        rfl
       refine pure_ (i := 7) (N := some 42) (v := ?_) (a' := ?_) (rb10 [5, 1, 2, 6]) rfl rfl (qf1 HT_.out (by kernel_rfl)) (fun _ _ _ h => h) (Or.inl ⟨by rfl, ?_⟩) ?_ ?_
       rotate_left
       ·intro w'
        go_simp
        with_reducible rfl
       rotate_left
       ·simp only [Act.put, List.setIfInBounds_toArray, List.set_cons_zero, List.set_cons_succ, i64_w, i32_w]
        rfl
       refine pure_ (i := 8) (N := some 43) (v := ?_) (a' := ?_) (rb10 [5, 1, 3, 5]) rfl rfl (qf1 HT_.out (by kernel_rfl)) (fun _ _ _ h => h) (Or.inl ⟨by rfl, ?_⟩) ?_ ?_
       rotate_left
       ·intro w'
        go_simp
        with_reducible rfl
       rotate_left
       ·simp only [Act.put, List.setIfInBounds_toArray, List.set_cons_zero, List.set_cons_succ, i64_w, i32_w]
        rfl
       refine take_ (i := 5) (N := some 40) (v := ?_) (a' := ?_) (rb10 [9, 5]) rfl rfl (take_ofW HT_.out HW_.out (by kernel_rfl)) (fun _ _ _ h => h) (Or.inl ⟨by rfl, ?_⟩) hHeld ?_ ?_
       rotate_left
       ·rintro w' ⟨s0, s1⟩
        go_simp
        with_reducible rfl
       rotate_left
       ·simp only [Act.put, List.setIfInBounds_toArray, List.set_cons_zero, List.set_cons_succ, i64_w, i32_w]
        rfl
       refine take_ (i := 9) (N := some 44) (v := ?_) (a' := ?_) (rb10 [10, 4]) rfl rfl (take_ofW HT_.out HW_.out (by kernel_rfl)) (fun _ _ _ h => h) (Or.inl ⟨by rfl, ?_⟩) hHeld ?_ ?_
       rotate_left
       ·rintro w' ⟨s0, s1⟩
        go_simp
        with_reducible rfl
       rotate_left
       ·simp only [Act.put, List.setIfInBounds_toArray, List.set_cons_zero, List.set_cons_succ, i64_w, i32_w]
        rfl
       refine pure_ (i := 10) (N := some 45) (v := ?_) (a' := ?_) (rb10 [11, 3]) rfl rfl (qf1 HT_.out (by kernel_rfl)) (fun _ _ _ h => h) (Or.inl ⟨by rfl, ?_⟩) ?_ ?_
       rotate_left
       ·intro w'
        go_simp
        with_reducible rfl
       rotate_left
       ·simp only [Act.put, List.setIfInBounds_toArray, List.set_cons_zero, List.set_cons_succ, i64_w, i32_w]
        rfl
       refine one_ (i := 11) (N := some 46) (rb10 [12, 2]) rfl rfl (one_of HT_.out (by kernel_rfl)) (by decide) (fun K hK => ?_)
       refine goes_ Try.func139 (by kernel_rfl) rfl #[.int .i64 (rd x3_2 ((rd_T54 ((rd_T52 l0 x4_1).f3) x5_2).f0)), .int .i64 (wrap64 ((rd x3_2 x4_1) + 1))] (by rfl) rfl rfl (by (try simp only [List.map_toArray, List.map_cons, List.map_nil]); first | done | rfl | (simp only [List.length_drop, List.length_take]; rfl)) ?_
       with_reducible refine (spec_l9Max.calls (rd x3_2 ((rd_T54 ((rd_T52 l0 x4_1).f3) x5_2).f0)) (wrap64 ((rd x3_2 x4_1) + 1)) t280 _ A14.out).mono ?_
       rintro e w' ⟨rfl, ⟨nd, rfl⟩⟩
       refine ⟨_, rfl, ?_⟩
       have p15 : 0 ≤ (((rd_T54 ((rd_T52 l0 x4_1).f3) x5_2).f0) : Int) := of_decide_eq_true (by first | (with_reducible assumption) | assumption)
       have q15 : (((rd_T54 ((rd_T52 l0 x4_1).f3) x5_2).f0) : Int) < ((x3_2.length : Int) : Int) := of_decide_eq_true (by first | (with_reducible assumption) | assumption)
       obtain ⟨go15, co15, eo15, gb15, gl15, cl15, HG15⟩ := Kd.R_form HO_3.out (by omega)
       (first | cases eo15 | (injection eo15 with ea_ en_ ec_; (first | subst ea_ | (injection ea_ with ea_; subst ea_)); subst ec_; clear en_))
       have GB15 := Aside0.mk gb15
       have GG15 := Aside0.mk HG15
       clear gb15 gl15 HG15
       (first | simp only [add_plain] at hx278_0 | skip)
       (first | simp only [add_plain] at hx279_0 | skip)
       obtain ⟨hx15_0, hf15_0⟩ := Kd.qv1 0 HO_3.out (((rd_T54 ((rd_T52 l0 x4_1).f3) x5_2).f0) : Int) p15 q15
       replace p15 := eq_true p15
       replace q15 := eq_true q15
       have HP18 := Kd.R_putn HO_3.out (((rd_T54 ((rd_T52 l0 x4_1).f3) x5_2).f0) : Int) t280
       rw [← Ny281.out] at HP18
       have HQ18 := Aside0.mk HP18
       clear HP18
       refine hK.out _ _ ⟨hHeld.1, hHeld.2⟩ (fun hHeld => ?_)
       clear hK K
       refine norm_ (a' := ?_) ?_ ?_
       rotate_left
       ·show Act.put _ (some 46) _ = _
        simp only [Act.put, List.setIfInBounds_toArray, List.set_cons_zero, List.set_cons_succ, i64_w, i32_w]
        rfl
       refine pure_ (i := 12) (N := some 47) (v := ?_) (a' := ?_) (rb10 [13, 1]) rfl rfl (qf1 HT_.out (by kernel_rfl)) (fun _ _ _ h => h) (Or.inl ⟨by rfl, ?_⟩) ?_ ?_
       rotate_left
       ·intro w'
        go_simp
        with_reducible rfl
       rotate_left
       ·simp only [Act.put, List.setIfInBounds_toArray, List.set_cons_zero, List.set_cons_succ, i64_w, i32_w]
        rfl
       refine last_ (i := 13) (N := none) (rb10 [14]) rfl rfl (one_of HT_.out (by kernel_rfl)) (by decide) (fun K hK => ?_)
       refine skip_ (w1 := ?_) (by rfl) rfl ?_ ?_
       rotate_left
       ·go_simp
        rfl
       refine hK.out _ _ ?_
       clear hK K
       refine done_ (done_of HT_.out (by kernel_rfl)) ?_
       try go_wp2
       go_roundg k2
       case measure => have := HK1.out; have := HK2.out; omega
       case rel => exact ⟨(y281), (wrap64 (x5_2 + 1)), (by first | rfl | (simp; done) | (simp [*]; done)), H', ⟨by have := HK1.out; have := HK2.out; omega⟩, ⟨by (with_reducible repeat (first | apply Kd.qo0 | apply Kd.qn0 | apply Kd.qt0)); exact HQ18.out⟩, ⟨by repeat (first | (with_reducible first | exact HB.out | apply qc0 | apply qa0 | apply qd0 | refine qi0 ?_ GB15.out) | exact HB.out)⟩⟩
      rw [if_neg c9] at H
      have c9b0 : decide (x5_2 < (((rd_T52 l0 x4_1).f3).length : Int)) = false := decide_eq_false c9
      clear c9
      have H' := Aside0.mk H
      clear H
      have p275 : 0 ≤ (x4_1 : Int) := of_decide_eq_true (by first | (with_reducible assumption) | assumption)
      have q275 : x4_1 < (l0.length : Int) := of_decide_eq_true (by first | (with_reducible assumption) | assumption)
      obtain ⟨ad275, A275_3, c275_3, A275_4, c275_4, e275, hx275_0, hx275_1, hx275_2, hx275_3, hx275_4, hl275_3, hi275_3, hl275_4, hi275_4⟩ := at_T52 HR0.out x4_1 p275 q275
      cases e275
      replace hx275_0 := (HB.out.cell (World.block_lt_of_cell? w _ hx275_0)).trans hx275_0
      replace hx275_1 := (HB.out.cell (World.block_lt_of_cell? w _ hx275_1)).trans hx275_1
      replace hx275_2 := (HB.out.cell (World.block_lt_of_cell? w _ hx275_2)).trans hx275_2
      replace hx275_3 := (HB.out.cell (World.block_lt_of_cell? w _ hx275_3)).trans hx275_3
      replace hx275_4 := (HB.out.cell (World.block_lt_of_cell? w _ hx275_4)).trans hx275_4
      have HR275_3 := Aside0.mk hi275_3
      have HC275_3 := Aside0.mk hl275_3
      clear hi275_3 hl275_3
      have HR275_4 := Aside0.mk hi275_4
      have HC275_4 := Aside0.mk hl275_4
      clear hi275_4 hl275_4
      replace p275 := eq_true p275
      replace q275 := eq_true q275
      go_wp2
      go_roundg k2
      case measure => have := HK1.out; have := HK2.out; omega
      case rel => exact ⟨(x3_2), (wrap64 (x4_1 + 1)), (by first | rfl | (simp; done) | (simp [*]; done)), H', ⟨by have := HK1.out; have := HK2.out; omega⟩, ⟨by (with_reducible repeat (first | apply Kd.qo0 | apply Kd.qn0 | apply Kd.qt0)); exact HO_3.out⟩, ⟨by repeat (first | (with_reducible first | exact HB.out | apply qc0 | apply qa0 | apply qd0) | exact HB.out)⟩⟩
   rw [if_neg c6] at H
   have c6b0 : decide (x4_1 < (l0.length : Int)) = false := decide_eq_false c6
   clear c6
   obtain rfl := Option.some.inj H
   go_wp2
   go_ret
   exact ⟨_, by first | rfl | (simp [errW_none, errW_some] <;> rfl) | (simp [*, errW_none, errW_some] <;> rfl), by (with_reducible repeat (first | apply Kd.qo0 | apply Kd.qn0 | apply Kd.qt0)); exact HO_3.out, by repeat (first | (with_reducible first | exact HB.out | apply qc0 | apply qa0 | apply qd0) | exact HB.out)⟩

end Go.Proofs.Ytkkdmmefnicmaaa.PFnLevelled
