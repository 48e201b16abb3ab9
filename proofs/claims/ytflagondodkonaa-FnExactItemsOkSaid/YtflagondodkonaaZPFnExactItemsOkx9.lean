/- Lines by a program (a changed copy of the kit's print: this repo's wip/tools): Go functions as Lean functions, and proofs that the calls answer so. -/
import Derived.Test.YtflagondodkonaaZPFnExactItemsOkx0
namespace Go.Proofs.Ytflagondodkonaa.PFnExactItemsOk
open Go.RowKit Go.Proofs.YtflagondodkonaaW.PrintWords Go.Proofs.YtflagondodkonaaW.PrintLast Go.Proofs.YtflagondodkonaaW.PrintMore
attribute [local go_sem] max2_int min2_int max_two min_two max_three min_three max_four min_four   -- for this text's walks alone
set_option linter.unusedVariables false
set_option linter.unusedSimpArgs false

/-! ### laws_eqPart: function 211 -/
def laws_eqPart.f (a0_0 : Int) (a0_1 : Int) (a0_2 : Int) (a0_3 : Int) (a0_4 : Int) (a0_5 : Int) (a1_0 : Int) (a1_1 : Int) (a1_2 : Int) (a1_3 : Int) (a1_4 : Int) (a1_5 : Int) : Option (Bool) := if a0_0 = a1_0 then (if a0_1 = a1_1 then (if a0_2 = a1_2 then (if a0_3 = a1_3 then (if a0_4 = a1_4 then (if a0_5 = a1_5 then (some true) else (some false)) else (some false)) else (some false)) else (some false)) else (some false)) else (some false)
set_option maxHeartbeats 8000000 in
set_option maxRecDepth 100000 in
theorem laws_eqPart.calls (a0_0 : Int) (a0_1 : Int) (a0_2 : Int) (a0_3 : Int) (a0_4 : Int) (a0_5 : Int) (a1_0 : Int) (a1_1 : Int) (a1_2 : Int) (a1_3 : Int) (a1_4 : Int) (a1_5 : Int) (r : Bool) (w : World) (h : laws_eqPart.f a0_0 a0_1 a0_2 a0_3 a0_4 a0_5 a1_0 a1_1 a1_2 a1_3 a1_4 a1_5 = some r) :
  Calls Try.prog 211 #[.agg #[.int .i64 a0_0, .int .i64 a0_1, .int .i64 a0_2, .int .i64 a0_3, .int .i64 a0_4, .int .i64 a0_5], .agg #[.int .i64 a1_0, .int .i64 a1_1, .int .i64 a1_2, .int .i64 a1_3, .int .i64 a1_4, .int .i64 a1_5]] w fun e w' => e = .returned (.bool r) ∧ Below w.heap.size w w' := by
 have hu147 := Try.underlying147
 have HB := Aside0.mk (Below.refl w.heap.size w)
 have H : (if a0_0 = a1_0 then (if a0_1 = a1_1 then (if a0_2 = a1_2 then (if a0_3 = a1_3 then (if a0_4 = a1_4 then (if a0_5 = a1_5 then (some true) else (some false)) else (some false)) else (some false)) else (some false)) else (some false)) else (some false)) = some r := h
 clear h
 by_cases c3 : a0_0 = a1_0
 ·rw [if_pos c3] at H
  have c3b0 : (a0_0 == a1_0) = true := beq_iff_eq.mpr c3
  have c3b1 : (a0_0 != a1_0) = false := bne_eq_false_iff_eq.mpr c3
  clear c3
  by_cases c4 : a0_1 = a1_1
  ·rw [if_pos c4] at H
   have c4b0 : (a0_1 == a1_1) = true := beq_iff_eq.mpr c4
   have c4b1 : (a0_1 != a1_1) = false := bne_eq_false_iff_eq.mpr c4
   clear c4
   by_cases c5 : a0_2 = a1_2
   ·rw [if_pos c5] at H
    have c5b0 : (a0_2 == a1_2) = true := beq_iff_eq.mpr c5
    have c5b1 : (a0_2 != a1_2) = false := bne_eq_false_iff_eq.mpr c5
    clear c5
    by_cases c6 : a0_3 = a1_3
    ·rw [if_pos c6] at H
     have c6b0 : (a0_3 == a1_3) = true := beq_iff_eq.mpr c6
     have c6b1 : (a0_3 != a1_3) = false := bne_eq_false_iff_eq.mpr c6
     clear c6
     by_cases c7 : a0_4 = a1_4
     ·rw [if_pos c7] at H
      have c7b0 : (a0_4 == a1_4) = true := beq_iff_eq.mpr c7
      have c7b1 : (a0_4 != a1_4) = false := bne_eq_false_iff_eq.mpr c7
      clear c7
      by_cases c8 : a0_5 = a1_5
      ·rw [if_pos c8] at H
       have c8b0 : (a0_5 == a1_5) = true := beq_iff_eq.mpr c8
       have c8b1 : (a0_5 != a1_5) = false := bne_eq_false_iff_eq.mpr c8
       clear c8
       obtain rfl := Option.some.inj H
       go_enter Try.func211, Try.ntmps211
       go_wp2_with (first | ((with_reducible refine qp0 (N := 2) rfl ?_); refine qo0 ?hg (N := 2) ?hd (cs := #[.int .i64 a0_0, .int .i64 a0_1, .int .i64 a0_2, .int .i64 a0_3, .int .i64 a0_4, .int .i64 a0_5]) (t := 147) ?hr ?_; (case hd => rfl); (case hg => rfl); (case hr => first | (go_simp; done) | (go_simp; rfl)); intro gb217 hg w9 hbox hb; have n0_ := Aside0.mk (qk0 (by repeat (first | (with_reducible first | exact HB.out | apply qc0 | apply qa0 | apply qd0) | exact HB.out)) hb); have n1_ := Aside0.mk (hbox); have n2_ := Aside0.mk ((by rw [hg]; exact (qj0 (by repeat (first | (with_reducible first | exact HB.out | apply qc0 | apply qa0 | apply qd0) | exact HB.out))) : w.heap.size ≤ gb217)); have n3_ := Aside0.mk ((by rw [hg]; exact (qj0 (by repeat (first | (with_reducible first | exact HB.out | apply qc0 | apply qa0 | apply qd0) | exact HB.out))) : w.heap.size ≤ gb217)); clear HB; have HB := n0_; have BK217 := n1_; have GW217 := n2_; have GE217 := n3_; clear n0_ n1_ n2_ n3_; clear hb hbox hg) | ((with_reducible refine qp0 (N := 3) rfl ?_); refine qo0 ?hg (N := 3) ?hd (cs := #[.int .i64 a1_0, .int .i64 a1_1, .int .i64 a1_2, .int .i64 a1_3, .int .i64 a1_4, .int .i64 a1_5]) (t := 147) ?hr ?_; (case hd => rfl); (case hg => rfl); (case hr => first | (go_simp; done) | (go_simp; rfl)); intro gb218 hg w10 hbox hb; have n0_ := Aside0.mk (qn0 (g := gb217) (o := .cells #[.int .i64 a0_0, .int .i64 a0_1, .int .i64 a0_2, .int .i64 a0_3, .int .i64 a0_4, .int .i64 a0_5] 147 (0, 0)) (by (with_reducible repeat (first | refine qf0 ?_ _ | refine qh0 ?_ | refine qg0 ?_ _)); exact BK217.out) hb); have n1_ := Aside0.mk (qk0 (by repeat (first | (with_reducible first | exact HB.out | apply qc0 | apply qa0 | apply qd0 | refine qi0 ?_ GE217.out) | exact HB.out)) hb); have n2_ := Aside0.mk (hbox); have n3_ := Aside0.mk ((by rw [hg]; exact (qj0 (by repeat (first | (with_reducible first | exact HB.out | apply qc0 | apply qa0 | apply qd0 | refine qi0 ?_ GE217.out) | exact HB.out))) : w.heap.size ≤ gb218)); have n4_ := Aside0.mk ((by rw [hg]; exact (qj0 (by repeat (first | (with_reducible first | exact HB.out | apply qc0 | apply qa0 | apply qd0 | refine qi0 ?_ GE217.out) | exact HB.out))) : w.heap.size ≤ gb218)); have n5_ := Aside0.mk ((by rw [hg]; exact Nat.ne_of_lt (qx0 (g := gb217) (o := .cells #[.int .i64 a0_0, .int .i64 a0_1, .int .i64 a0_2, .int .i64 a0_3, .int .i64 a0_4, .int .i64 a0_5] 147 (0, 0)) (by (with_reducible repeat (first | refine qf0 ?_ _ | refine qh0 ?_ | refine qg0 ?_ _)); exact BK217.out)) : gb217 ≠ gb218)); have n6_ := Aside0.mk ((by rw [hg]; exact Nat.ne_of_gt (qx0 (g := gb217) (o := .cells #[.int .i64 a0_0, .int .i64 a0_1, .int .i64 a0_2, .int .i64 a0_3, .int .i64 a0_4, .int .i64 a0_5] 147 (0, 0)) (by (with_reducible repeat (first | refine qf0 ?_ _ | refine qh0 ?_ | refine qg0 ?_ _)); exact BK217.out)) : gb218 ≠ gb217)); clear BK217; clear HB; have BK217 := n0_; have HB := n1_; have BK218 := n2_; have GW218 := n3_; have GE218 := n4_; have NB217_218 := n5_; have NB218_217 := n6_; clear n0_ n1_ n2_ n3_ n4_ n5_ n6_; clear hb hbox hg; have hnb11 := NB217_218.out; have hnc11 := NB218_217.out; have hcz12_0 : w10.cell? ⟨gb217, 0, none⟩ = some (.int .i64 a0_0) := (qe0 BK217.out 0).trans rfl; have hcz12_1 : w10.cell? ⟨gb217, 1, none⟩ = some (.int .i64 a0_1) := (qe0 BK217.out 1).trans rfl; have hcz12_2 : w10.cell? ⟨gb217, 2, none⟩ = some (.int .i64 a0_2) := (qe0 BK217.out 2).trans rfl; have hcz12_3 : w10.cell? ⟨gb217, 3, none⟩ = some (.int .i64 a0_3) := (qe0 BK217.out 3).trans rfl; have hcz12_4 : w10.cell? ⟨gb217, 4, none⟩ = some (.int .i64 a0_4) := (qe0 BK217.out 4).trans rfl; have hcz12_5 : w10.cell? ⟨gb217, 5, none⟩ = some (.int .i64 a0_5) := (qe0 BK217.out 5).trans rfl; have hfz12_0 := qb0 BK217.out 0; have hfz12_1 := qb0 BK217.out 1; have hfz12_2 := qb0 BK217.out 2; have hfz12_3 := qb0 BK217.out 3; have hfz12_4 := qb0 BK217.out 4; have hfz12_5 := qb0 BK217.out 5; have hcz13_0 : w10.cell? ⟨gb218, 0, none⟩ = some (.int .i64 a1_0) := (qe0 BK218.out 0).trans rfl; have hcz13_1 : w10.cell? ⟨gb218, 1, none⟩ = some (.int .i64 a1_1) := (qe0 BK218.out 1).trans rfl; have hcz13_2 : w10.cell? ⟨gb218, 2, none⟩ = some (.int .i64 a1_2) := (qe0 BK218.out 2).trans rfl; have hcz13_3 : w10.cell? ⟨gb218, 3, none⟩ = some (.int .i64 a1_3) := (qe0 BK218.out 3).trans rfl; have hcz13_4 : w10.cell? ⟨gb218, 4, none⟩ = some (.int .i64 a1_4) := (qe0 BK218.out 4).trans rfl; have hcz13_5 : w10.cell? ⟨gb218, 5, none⟩ = some (.int .i64 a1_5) := (qe0 BK218.out 5).trans rfl; have hfz13_0 := qb0 BK218.out 0; have hfz13_1 := qb0 BK218.out 1; have hfz13_2 := qb0 BK218.out 2; have hfz13_3 := qb0 BK218.out 3; have hfz13_4 := qb0 BK218.out 4; have hfz13_5 := qb0 BK218.out 5))
       go_ret
       exact ⟨by first | rfl | (simp [errW_none, errW_some] <;> rfl) | (simp [*, errW_none, errW_some] <;> rfl), by repeat (first | (with_reducible first | exact HB.out | apply qc0 | apply qa0 | apply qd0 | refine qi0 ?_ GE217.out | refine qi0 ?_ GE218.out) | exact HB.out)⟩
      rw [if_neg c8] at H
      have c8b0 : (a0_5 == a1_5) = false := beq_eq_false_iff_ne.mpr c8
      have c8b1 : (a0_5 != a1_5) = true := bne_iff_ne.mpr c8
      obtain rfl := Option.some.inj H
      go_enter Try.func211, Try.ntmps211
      go_wp2_with (first | ((with_reducible refine qp0 (N := 2) rfl ?_); refine qo0 ?hg (N := 2) ?hd (cs := #[.int .i64 a0_0, .int .i64 a0_1, .int .i64 a0_2, .int .i64 a0_3, .int .i64 a0_4, .int .i64 a0_5]) (t := 147) ?hr ?_; (case hd => rfl); (case hg => rfl); (case hr => first | (go_simp; done) | (go_simp; rfl)); intro gb217 hg w14 hbox hb; have n0_ := Aside0.mk (qk0 (by repeat (first | (with_reducible first | exact HB.out | apply qc0 | apply qa0 | apply qd0) | exact HB.out)) hb); have n1_ := Aside0.mk (hbox); have n2_ := Aside0.mk ((by rw [hg]; exact (qj0 (by repeat (first | (with_reducible first | exact HB.out | apply qc0 | apply qa0 | apply qd0) | exact HB.out))) : w.heap.size ≤ gb217)); have n3_ := Aside0.mk ((by rw [hg]; exact (qj0 (by repeat (first | (with_reducible first | exact HB.out | apply qc0 | apply qa0 | apply qd0) | exact HB.out))) : w.heap.size ≤ gb217)); clear HB; have HB := n0_; have BK217 := n1_; have GW217 := n2_; have GE217 := n3_; clear n0_ n1_ n2_ n3_; clear hb hbox hg) | ((with_reducible refine qp0 (N := 3) rfl ?_); refine qo0 ?hg (N := 3) ?hd (cs := #[.int .i64 a1_0, .int .i64 a1_1, .int .i64 a1_2, .int .i64 a1_3, .int .i64 a1_4, .int .i64 a1_5]) (t := 147) ?hr ?_; (case hd => rfl); (case hg => rfl); (case hr => first | (go_simp; done) | (go_simp; rfl)); intro gb218 hg w15 hbox hb; have n0_ := Aside0.mk (qn0 (g := gb217) (o := .cells #[.int .i64 a0_0, .int .i64 a0_1, .int .i64 a0_2, .int .i64 a0_3, .int .i64 a0_4, .int .i64 a0_5] 147 (0, 0)) (by (with_reducible repeat (first | refine qf0 ?_ _ | refine qh0 ?_ | refine qg0 ?_ _)); exact BK217.out) hb); have n1_ := Aside0.mk (qk0 (by repeat (first | (with_reducible first | exact HB.out | apply qc0 | apply qa0 | apply qd0 | refine qi0 ?_ GE217.out) | exact HB.out)) hb); have n2_ := Aside0.mk (hbox); have n3_ := Aside0.mk ((by rw [hg]; exact (qj0 (by repeat (first | (with_reducible first | exact HB.out | apply qc0 | apply qa0 | apply qd0 | refine qi0 ?_ GE217.out) | exact HB.out))) : w.heap.size ≤ gb218)); have n4_ := Aside0.mk ((by rw [hg]; exact (qj0 (by repeat (first | (with_reducible first | exact HB.out | apply qc0 | apply qa0 | apply qd0 | refine qi0 ?_ GE217.out) | exact HB.out))) : w.heap.size ≤ gb218)); have n5_ := Aside0.mk ((by rw [hg]; exact Nat.ne_of_lt (qx0 (g := gb217) (o := .cells #[.int .i64 a0_0, .int .i64 a0_1, .int .i64 a0_2, .int .i64 a0_3, .int .i64 a0_4, .int .i64 a0_5] 147 (0, 0)) (by (with_reducible repeat (first | refine qf0 ?_ _ | refine qh0 ?_ | refine qg0 ?_ _)); exact BK217.out)) : gb217 ≠ gb218)); have n6_ := Aside0.mk ((by rw [hg]; exact Nat.ne_of_gt (qx0 (g := gb217) (o := .cells #[.int .i64 a0_0, .int .i64 a0_1, .int .i64 a0_2, .int .i64 a0_3, .int .i64 a0_4, .int .i64 a0_5] 147 (0, 0)) (by (with_reducible repeat (first | refine qf0 ?_ _ | refine qh0 ?_ | refine qg0 ?_ _)); exact BK217.out)) : gb218 ≠ gb217)); clear BK217; clear HB; have BK217 := n0_; have HB := n1_; have BK218 := n2_; have GW218 := n3_; have GE218 := n4_; have NB217_218 := n5_; have NB218_217 := n6_; clear n0_ n1_ n2_ n3_ n4_ n5_ n6_; clear hb hbox hg; have hnb16 := NB217_218.out; have hnc16 := NB218_217.out; have hcz17_0 : w15.cell? ⟨gb217, 0, none⟩ = some (.int .i64 a0_0) := (qe0 BK217.out 0).trans rfl; have hcz17_1 : w15.cell? ⟨gb217, 1, none⟩ = some (.int .i64 a0_1) := (qe0 BK217.out 1).trans rfl; have hcz17_2 : w15.cell? ⟨gb217, 2, none⟩ = some (.int .i64 a0_2) := (qe0 BK217.out 2).trans rfl; have hcz17_3 : w15.cell? ⟨gb217, 3, none⟩ = some (.int .i64 a0_3) := (qe0 BK217.out 3).trans rfl; have hcz17_4 : w15.cell? ⟨gb217, 4, none⟩ = some (.int .i64 a0_4) := (qe0 BK217.out 4).trans rfl; have hcz17_5 : w15.cell? ⟨gb217, 5, none⟩ = some (.int .i64 a0_5) := (qe0 BK217.out 5).trans rfl; have hfz17_0 := qb0 BK217.out 0; have hfz17_1 := qb0 BK217.out 1; have hfz17_2 := qb0 BK217.out 2; have hfz17_3 := qb0 BK217.out 3; have hfz17_4 := qb0 BK217.out 4; have hfz17_5 := qb0 BK217.out 5; have hcz18_0 : w15.cell? ⟨gb218, 0, none⟩ = some (.int .i64 a1_0) := (qe0 BK218.out 0).trans rfl; have hcz18_1 : w15.cell? ⟨gb218, 1, none⟩ = some (.int .i64 a1_1) := (qe0 BK218.out 1).trans rfl; have hcz18_2 : w15.cell? ⟨gb218, 2, none⟩ = some (.int .i64 a1_2) := (qe0 BK218.out 2).trans rfl; have hcz18_3 : w15.cell? ⟨gb218, 3, none⟩ = some (.int .i64 a1_3) := (qe0 BK218.out 3).trans rfl; have hcz18_4 : w15.cell? ⟨gb218, 4, none⟩ = some (.int .i64 a1_4) := (qe0 BK218.out 4).trans rfl; have hcz18_5 : w15.cell? ⟨gb218, 5, none⟩ = some (.int .i64 a1_5) := (qe0 BK218.out 5).trans rfl; have hfz18_0 := qb0 BK218.out 0; have hfz18_1 := qb0 BK218.out 1; have hfz18_2 := qb0 BK218.out 2; have hfz18_3 := qb0 BK218.out 3; have hfz18_4 := qb0 BK218.out 4; have hfz18_5 := qb0 BK218.out 5))
      go_ret
      exact ⟨by first | rfl | (simp [errW_none, errW_some] <;> rfl) | (simp [*, errW_none, errW_some] <;> rfl), by repeat (first | (with_reducible first | exact HB.out | apply qc0 | apply qa0 | apply qd0 | refine qi0 ?_ GE217.out | refine qi0 ?_ GE218.out) | exact HB.out)⟩
     rw [if_neg c7] at H
     have c7b0 : (a0_4 == a1_4) = false := beq_eq_false_iff_ne.mpr c7
     have c7b1 : (a0_4 != a1_4) = true := bne_iff_ne.mpr c7
     obtain rfl := Option.some.inj H
     go_enter Try.func211, Try.ntmps211
     go_wp2_with (first | ((with_reducible refine qp0 (N := 2) rfl ?_); refine qo0 ?hg (N := 2) ?hd (cs := #[.int .i64 a0_0, .int .i64 a0_1, .int .i64 a0_2, .int .i64 a0_3, .int .i64 a0_4, .int .i64 a0_5]) (t := 147) ?hr ?_; (case hd => rfl); (case hg => rfl); (case hr => first | (go_simp; done) | (go_simp; rfl)); intro gb217 hg w19 hbox hb; have n0_ := Aside0.mk (qk0 (by repeat (first | (with_reducible first | exact HB.out | apply qc0 | apply qa0 | apply qd0) | exact HB.out)) hb); have n1_ := Aside0.mk (hbox); have n2_ := Aside0.mk ((by rw [hg]; exact (qj0 (by repeat (first | (with_reducible first | exact HB.out | apply qc0 | apply qa0 | apply qd0) | exact HB.out))) : w.heap.size ≤ gb217)); have n3_ := Aside0.mk ((by rw [hg]; exact (qj0 (by repeat (first | (with_reducible first | exact HB.out | apply qc0 | apply qa0 | apply qd0) | exact HB.out))) : w.heap.size ≤ gb217)); clear HB; have HB := n0_; have BK217 := n1_; have GW217 := n2_; have GE217 := n3_; clear n0_ n1_ n2_ n3_; clear hb hbox hg) | ((with_reducible refine qp0 (N := 3) rfl ?_); refine qo0 ?hg (N := 3) ?hd (cs := #[.int .i64 a1_0, .int .i64 a1_1, .int .i64 a1_2, .int .i64 a1_3, .int .i64 a1_4, .int .i64 a1_5]) (t := 147) ?hr ?_; (case hd => rfl); (case hg => rfl); (case hr => first | (go_simp; done) | (go_simp; rfl)); intro gb218 hg w20 hbox hb; have n0_ := Aside0.mk (qn0 (g := gb217) (o := .cells #[.int .i64 a0_0, .int .i64 a0_1, .int .i64 a0_2, .int .i64 a0_3, .int .i64 a0_4, .int .i64 a0_5] 147 (0, 0)) (by (with_reducible repeat (first | refine qf0 ?_ _ | refine qh0 ?_ | refine qg0 ?_ _)); exact BK217.out) hb); have n1_ := Aside0.mk (qk0 (by repeat (first | (with_reducible first | exact HB.out | apply qc0 | apply qa0 | apply qd0 | refine qi0 ?_ GE217.out) | exact HB.out)) hb); have n2_ := Aside0.mk (hbox); have n3_ := Aside0.mk ((by rw [hg]; exact (qj0 (by repeat (first | (with_reducible first | exact HB.out | apply qc0 | apply qa0 | apply qd0 | refine qi0 ?_ GE217.out) | exact HB.out))) : w.heap.size ≤ gb218)); have n4_ := Aside0.mk ((by rw [hg]; exact (qj0 (by repeat (first | (with_reducible first | exact HB.out | apply qc0 | apply qa0 | apply qd0 | refine qi0 ?_ GE217.out) | exact HB.out))) : w.heap.size ≤ gb218)); have n5_ := Aside0.mk ((by rw [hg]; exact Nat.ne_of_lt (qx0 (g := gb217) (o := .cells #[.int .i64 a0_0, .int .i64 a0_1, .int .i64 a0_2, .int .i64 a0_3, .int .i64 a0_4, .int .i64 a0_5] 147 (0, 0)) (by (with_reducible repeat (first | refine qf0 ?_ _ | refine qh0 ?_ | refine qg0 ?_ _)); exact BK217.out)) : gb217 ≠ gb218)); have n6_ := Aside0.mk ((by rw [hg]; exact Nat.ne_of_gt (qx0 (g := gb217) (o := .cells #[.int .i64 a0_0, .int .i64 a0_1, .int .i64 a0_2, .int .i64 a0_3, .int .i64 a0_4, .int .i64 a0_5] 147 (0, 0)) (by (with_reducible repeat (first | refine qf0 ?_ _ | refine qh0 ?_ | refine qg0 ?_ _)); exact BK217.out)) : gb218 ≠ gb217)); clear BK217; clear HB; have BK217 := n0_; have HB := n1_; have BK218 := n2_; have GW218 := n3_; have GE218 := n4_; have NB217_218 := n5_; have NB218_217 := n6_; clear n0_ n1_ n2_ n3_ n4_ n5_ n6_; clear hb hbox hg; have hnb21 := NB217_218.out; have hnc21 := NB218_217.out; have hcz22_0 : w20.cell? ⟨gb217, 0, none⟩ = some (.int .i64 a0_0) := (qe0 BK217.out 0).trans rfl; have hcz22_1 : w20.cell? ⟨gb217, 1, none⟩ = some (.int .i64 a0_1) := (qe0 BK217.out 1).trans rfl; have hcz22_2 : w20.cell? ⟨gb217, 2, none⟩ = some (.int .i64 a0_2) := (qe0 BK217.out 2).trans rfl; have hcz22_3 : w20.cell? ⟨gb217, 3, none⟩ = some (.int .i64 a0_3) := (qe0 BK217.out 3).trans rfl; have hcz22_4 : w20.cell? ⟨gb217, 4, none⟩ = some (.int .i64 a0_4) := (qe0 BK217.out 4).trans rfl; have hcz22_5 : w20.cell? ⟨gb217, 5, none⟩ = some (.int .i64 a0_5) := (qe0 BK217.out 5).trans rfl; have hfz22_0 := qb0 BK217.out 0; have hfz22_1 := qb0 BK217.out 1; have hfz22_2 := qb0 BK217.out 2; have hfz22_3 := qb0 BK217.out 3; have hfz22_4 := qb0 BK217.out 4; have hfz22_5 := qb0 BK217.out 5; have hcz23_0 : w20.cell? ⟨gb218, 0, none⟩ = some (.int .i64 a1_0) := (qe0 BK218.out 0).trans rfl; have hcz23_1 : w20.cell? ⟨gb218, 1, none⟩ = some (.int .i64 a1_1) := (qe0 BK218.out 1).trans rfl; have hcz23_2 : w20.cell? ⟨gb218, 2, none⟩ = some (.int .i64 a1_2) := (qe0 BK218.out 2).trans rfl; have hcz23_3 : w20.cell? ⟨gb218, 3, none⟩ = some (.int .i64 a1_3) := (qe0 BK218.out 3).trans rfl; have hcz23_4 : w20.cell? ⟨gb218, 4, none⟩ = some (.int .i64 a1_4) := (qe0 BK218.out 4).trans rfl; have hcz23_5 : w20.cell? ⟨gb218, 5, none⟩ = some (.int .i64 a1_5) := (qe0 BK218.out 5).trans rfl; have hfz23_0 := qb0 BK218.out 0; have hfz23_1 := qb0 BK218.out 1; have hfz23_2 := qb0 BK218.out 2; have hfz23_3 := qb0 BK218.out 3; have hfz23_4 := qb0 BK218.out 4; have hfz23_5 := qb0 BK218.out 5))
     go_ret
     exact ⟨by first | rfl | (simp [errW_none, errW_some] <;> rfl) | (simp [*, errW_none, errW_some] <;> rfl), by repeat (first | (with_reducible first | exact HB.out | apply qc0 | apply qa0 | apply qd0 | refine qi0 ?_ GE217.out | refine qi0 ?_ GE218.out) | exact HB.out)⟩
    rw [if_neg c6] at H
    have c6b0 : (a0_3 == a1_3) = false := beq_eq_false_iff_ne.mpr c6
    have c6b1 : (a0_3 != a1_3) = true := bne_iff_ne.mpr c6
    obtain rfl := Option.some.inj H
    go_enter Try.func211, Try.ntmps211
    go_wp2_with (first | ((with_reducible refine qp0 (N := 2) rfl ?_); refine qo0 ?hg (N := 2) ?hd (cs := #[.int .i64 a0_0, .int .i64 a0_1, .int .i64 a0_2, .int .i64 a0_3, .int .i64 a0_4, .int .i64 a0_5]) (t := 147) ?hr ?_; (case hd => rfl); (case hg => rfl); (case hr => first | (go_simp; done) | (go_simp; rfl)); intro gb217 hg w24 hbox hb; have n0_ := Aside0.mk (qk0 (by repeat (first | (with_reducible first | exact HB.out | apply qc0 | apply qa0 | apply qd0) | exact HB.out)) hb); have n1_ := Aside0.mk (hbox); have n2_ := Aside0.mk ((by rw [hg]; exact (qj0 (by repeat (first | (with_reducible first | exact HB.out | apply qc0 | apply qa0 | apply qd0) | exact HB.out))) : w.heap.size ≤ gb217)); have n3_ := Aside0.mk ((by rw [hg]; exact (qj0 (by repeat (first | (with_reducible first | exact HB.out | apply qc0 | apply qa0 | apply qd0) | exact HB.out))) : w.heap.size ≤ gb217)); clear HB; have HB := n0_; have BK217 := n1_; have GW217 := n2_; have GE217 := n3_; clear n0_ n1_ n2_ n3_; clear hb hbox hg) | ((with_reducible refine qp0 (N := 3) rfl ?_); refine qo0 ?hg (N := 3) ?hd (cs := #[.int .i64 a1_0, .int .i64 a1_1, .int .i64 a1_2, .int .i64 a1_3, .int .i64 a1_4, .int .i64 a1_5]) (t := 147) ?hr ?_; (case hd => rfl); (case hg => rfl); (case hr => first | (go_simp; done) | (go_simp; rfl)); intro gb218 hg w25 hbox hb; have n0_ := Aside0.mk (qn0 (g := gb217) (o := .cells #[.int .i64 a0_0, .int .i64 a0_1, .int .i64 a0_2, .int .i64 a0_3, .int .i64 a0_4, .int .i64 a0_5] 147 (0, 0)) (by (with_reducible repeat (first | refine qf0 ?_ _ | refine qh0 ?_ | refine qg0 ?_ _)); exact BK217.out) hb); have n1_ := Aside0.mk (qk0 (by repeat (first | (with_reducible first | exact HB.out | apply qc0 | apply qa0 | apply qd0 | refine qi0 ?_ GE217.out) | exact HB.out)) hb); have n2_ := Aside0.mk (hbox); have n3_ := Aside0.mk ((by rw [hg]; exact (qj0 (by repeat (first | (with_reducible first | exact HB.out | apply qc0 | apply qa0 | apply qd0 | refine qi0 ?_ GE217.out) | exact HB.out))) : w.heap.size ≤ gb218)); have n4_ := Aside0.mk ((by rw [hg]; exact (qj0 (by repeat (first | (with_reducible first | exact HB.out | apply qc0 | apply qa0 | apply qd0 | refine qi0 ?_ GE217.out) | exact HB.out))) : w.heap.size ≤ gb218)); have n5_ := Aside0.mk ((by rw [hg]; exact Nat.ne_of_lt (qx0 (g := gb217) (o := .cells #[.int .i64 a0_0, .int .i64 a0_1, .int .i64 a0_2, .int .i64 a0_3, .int .i64 a0_4, .int .i64 a0_5] 147 (0, 0)) (by (with_reducible repeat (first | refine qf0 ?_ _ | refine qh0 ?_ | refine qg0 ?_ _)); exact BK217.out)) : gb217 ≠ gb218)); have n6_ := Aside0.mk ((by rw [hg]; exact Nat.ne_of_gt (qx0 (g := gb217) (o := .cells #[.int .i64 a0_0, .int .i64 a0_1, .int .i64 a0_2, .int .i64 a0_3, .int .i64 a0_4, .int .i64 a0_5] 147 (0, 0)) (by (with_reducible repeat (first | refine qf0 ?_ _ | refine qh0 ?_ | refine qg0 ?_ _)); exact BK217.out)) : gb218 ≠ gb217)); clear BK217; clear HB; have BK217 := n0_; have HB := n1_; have BK218 := n2_; have GW218 := n3_; have GE218 := n4_; have NB217_218 := n5_; have NB218_217 := n6_; clear n0_ n1_ n2_ n3_ n4_ n5_ n6_; clear hb hbox hg; have hnb26 := NB217_218.out; have hnc26 := NB218_217.out; have hcz27_0 : w25.cell? ⟨gb217, 0, none⟩ = some (.int .i64 a0_0) := (qe0 BK217.out 0).trans rfl; have hcz27_1 : w25.cell? ⟨gb217, 1, none⟩ = some (.int .i64 a0_1) := (qe0 BK217.out 1).trans rfl; have hcz27_2 : w25.cell? ⟨gb217, 2, none⟩ = some (.int .i64 a0_2) := (qe0 BK217.out 2).trans rfl; have hcz27_3 : w25.cell? ⟨gb217, 3, none⟩ = some (.int .i64 a0_3) := (qe0 BK217.out 3).trans rfl; have hcz27_4 : w25.cell? ⟨gb217, 4, none⟩ = some (.int .i64 a0_4) := (qe0 BK217.out 4).trans rfl; have hcz27_5 : w25.cell? ⟨gb217, 5, none⟩ = some (.int .i64 a0_5) := (qe0 BK217.out 5).trans rfl; have hfz27_0 := qb0 BK217.out 0; have hfz27_1 := qb0 BK217.out 1; have hfz27_2 := qb0 BK217.out 2; have hfz27_3 := qb0 BK217.out 3; have hfz27_4 := qb0 BK217.out 4; have hfz27_5 := qb0 BK217.out 5; have hcz28_0 : w25.cell? ⟨gb218, 0, none⟩ = some (.int .i64 a1_0) := (qe0 BK218.out 0).trans rfl; have hcz28_1 : w25.cell? ⟨gb218, 1, none⟩ = some (.int .i64 a1_1) := (qe0 BK218.out 1).trans rfl; have hcz28_2 : w25.cell? ⟨gb218, 2, none⟩ = some (.int .i64 a1_2) := (qe0 BK218.out 2).trans rfl; have hcz28_3 : w25.cell? ⟨gb218, 3, none⟩ = some (.int .i64 a1_3) := (qe0 BK218.out 3).trans rfl; have hcz28_4 : w25.cell? ⟨gb218, 4, none⟩ = some (.int .i64 a1_4) := (qe0 BK218.out 4).trans rfl; have hcz28_5 : w25.cell? ⟨gb218, 5, none⟩ = some (.int .i64 a1_5) := (qe0 BK218.out 5).trans rfl; have hfz28_0 := qb0 BK218.out 0; have hfz28_1 := qb0 BK218.out 1; have hfz28_2 := qb0 BK218.out 2; have hfz28_3 := qb0 BK218.out 3; have hfz28_4 := qb0 BK218.out 4; have hfz28_5 := qb0 BK218.out 5))
    go_ret
    exact ⟨by first | rfl | (simp [errW_none, errW_some] <;> rfl) | (simp [*, errW_none, errW_some] <;> rfl), by repeat (first | (with_reducible first | exact HB.out | apply qc0 | apply qa0 | apply qd0 | refine qi0 ?_ GE217.out | refine qi0 ?_ GE218.out) | exact HB.out)⟩
   rw [if_neg c5] at H
   have c5b0 : (a0_2 == a1_2) = false := beq_eq_false_iff_ne.mpr c5
   have c5b1 : (a0_2 != a1_2) = true := bne_iff_ne.mpr c5
   obtain rfl := Option.some.inj H
   go_enter Try.func211, Try.ntmps211
   go_wp2_with (first | ((with_reducible refine qp0 (N := 2) rfl ?_); refine qo0 ?hg (N := 2) ?hd (cs := #[.int .i64 a0_0, .int .i64 a0_1, .int .i64 a0_2, .int .i64 a0_3, .int .i64 a0_4, .int .i64 a0_5]) (t := 147) ?hr ?_; (case hd => rfl); (case hg => rfl); (case hr => first | (go_simp; done) | (go_simp; rfl)); intro gb217 hg w29 hbox hb; have n0_ := Aside0.mk (qk0 (by repeat (first | (with_reducible first | exact HB.out | apply qc0 | apply qa0 | apply qd0) | exact HB.out)) hb); have n1_ := Aside0.mk (hbox); have n2_ := Aside0.mk ((by rw [hg]; exact (qj0 (by repeat (first | (with_reducible first | exact HB.out | apply qc0 | apply qa0 | apply qd0) | exact HB.out))) : w.heap.size ≤ gb217)); have n3_ := Aside0.mk ((by rw [hg]; exact (qj0 (by repeat (first | (with_reducible first | exact HB.out | apply qc0 | apply qa0 | apply qd0) | exact HB.out))) : w.heap.size ≤ gb217)); clear HB; have HB := n0_; have BK217 := n1_; have GW217 := n2_; have GE217 := n3_; clear n0_ n1_ n2_ n3_; clear hb hbox hg) | ((with_reducible refine qp0 (N := 3) rfl ?_); refine qo0 ?hg (N := 3) ?hd (cs := #[.int .i64 a1_0, .int .i64 a1_1, .int .i64 a1_2, .int .i64 a1_3, .int .i64 a1_4, .int .i64 a1_5]) (t := 147) ?hr ?_; (case hd => rfl); (case hg => rfl); (case hr => first | (go_simp; done) | (go_simp; rfl)); intro gb218 hg w30 hbox hb; have n0_ := Aside0.mk (qn0 (g := gb217) (o := .cells #[.int .i64 a0_0, .int .i64 a0_1, .int .i64 a0_2, .int .i64 a0_3, .int .i64 a0_4, .int .i64 a0_5] 147 (0, 0)) (by (with_reducible repeat (first | refine qf0 ?_ _ | refine qh0 ?_ | refine qg0 ?_ _)); exact BK217.out) hb); have n1_ := Aside0.mk (qk0 (by repeat (first | (with_reducible first | exact HB.out | apply qc0 | apply qa0 | apply qd0 | refine qi0 ?_ GE217.out) | exact HB.out)) hb); have n2_ := Aside0.mk (hbox); have n3_ := Aside0.mk ((by rw [hg]; exact (qj0 (by repeat (first | (with_reducible first | exact HB.out | apply qc0 | apply qa0 | apply qd0 | refine qi0 ?_ GE217.out) | exact HB.out))) : w.heap.size ≤ gb218)); have n4_ := Aside0.mk ((by rw [hg]; exact (qj0 (by repeat (first | (with_reducible first | exact HB.out | apply qc0 | apply qa0 | apply qd0 | refine qi0 ?_ GE217.out) | exact HB.out))) : w.heap.size ≤ gb218)); have n5_ := Aside0.mk ((by rw [hg]; exact Nat.ne_of_lt (qx0 (g := gb217) (o := .cells #[.int .i64 a0_0, .int .i64 a0_1, .int .i64 a0_2, .int .i64 a0_3, .int .i64 a0_4, .int .i64 a0_5] 147 (0, 0)) (by (with_reducible repeat (first | refine qf0 ?_ _ | refine qh0 ?_ | refine qg0 ?_ _)); exact BK217.out)) : gb217 ≠ gb218)); have n6_ := Aside0.mk ((by rw [hg]; exact Nat.ne_of_gt (qx0 (g := gb217) (o := .cells #[.int .i64 a0_0, .int .i64 a0_1, .int .i64 a0_2, .int .i64 a0_3, .int .i64 a0_4, .int .i64 a0_5] 147 (0, 0)) (by (with_reducible repeat (first | refine qf0 ?_ _ | refine qh0 ?_ | refine qg0 ?_ _)); exact BK217.out)) : gb218 ≠ gb217)); clear BK217; clear HB; have BK217 := n0_; have HB := n1_; have BK218 := n2_; have GW218 := n3_; have GE218 := n4_; have NB217_218 := n5_; have NB218_217 := n6_; clear n0_ n1_ n2_ n3_ n4_ n5_ n6_; clear hb hbox hg; have hnb31 := NB217_218.out; have hnc31 := NB218_217.out; have hcz32_0 : w30.cell? ⟨gb217, 0, none⟩ = some (.int .i64 a0_0) := (qe0 BK217.out 0).trans rfl; have hcz32_1 : w30.cell? ⟨gb217, 1, none⟩ = some (.int .i64 a0_1) := (qe0 BK217.out 1).trans rfl; have hcz32_2 : w30.cell? ⟨gb217, 2, none⟩ = some (.int .i64 a0_2) := (qe0 BK217.out 2).trans rfl; have hcz32_3 : w30.cell? ⟨gb217, 3, none⟩ = some (.int .i64 a0_3) := (qe0 BK217.out 3).trans rfl; have hcz32_4 : w30.cell? ⟨gb217, 4, none⟩ = some (.int .i64 a0_4) := (qe0 BK217.out 4).trans rfl; have hcz32_5 : w30.cell? ⟨gb217, 5, none⟩ = some (.int .i64 a0_5) := (qe0 BK217.out 5).trans rfl; have hfz32_0 := qb0 BK217.out 0; have hfz32_1 := qb0 BK217.out 1; have hfz32_2 := qb0 BK217.out 2; have hfz32_3 := qb0 BK217.out 3; have hfz32_4 := qb0 BK217.out 4; have hfz32_5 := qb0 BK217.out 5; have hcz33_0 : w30.cell? ⟨gb218, 0, none⟩ = some (.int .i64 a1_0) := (qe0 BK218.out 0).trans rfl; have hcz33_1 : w30.cell? ⟨gb218, 1, none⟩ = some (.int .i64 a1_1) := (qe0 BK218.out 1).trans rfl; have hcz33_2 : w30.cell? ⟨gb218, 2, none⟩ = some (.int .i64 a1_2) := (qe0 BK218.out 2).trans rfl; have hcz33_3 : w30.cell? ⟨gb218, 3, none⟩ = some (.int .i64 a1_3) := (qe0 BK218.out 3).trans rfl; have hcz33_4 : w30.cell? ⟨gb218, 4, none⟩ = some (.int .i64 a1_4) := (qe0 BK218.out 4).trans rfl; have hcz33_5 : w30.cell? ⟨gb218, 5, none⟩ = some (.int .i64 a1_5) := (qe0 BK218.out 5).trans rfl; have hfz33_0 := qb0 BK218.out 0; have hfz33_1 := qb0 BK218.out 1; have hfz33_2 := qb0 BK218.out 2; have hfz33_3 := qb0 BK218.out 3; have hfz33_4 := qb0 BK218.out 4; have hfz33_5 := qb0 BK218.out 5))
   go_ret
   exact ⟨by first | rfl | (simp [errW_none, errW_some] <;> rfl) | (simp [*, errW_none, errW_some] <;> rfl), by repeat (first | (with_reducible first | exact HB.out | apply qc0 | apply qa0 | apply qd0 | refine qi0 ?_ GE217.out | refine qi0 ?_ GE218.out) | exact HB.out)⟩
  rw [if_neg c4] at H
  have c4b0 : (a0_1 == a1_1) = false := beq_eq_false_iff_ne.mpr c4
  have c4b1 : (a0_1 != a1_1) = true := bne_iff_ne.mpr c4
  obtain rfl := Option.some.inj H
  go_enter Try.func211, Try.ntmps211
  go_wp2_with (first | ((with_reducible refine qp0 (N := 2) rfl ?_); refine qo0 ?hg (N := 2) ?hd (cs := #[.int .i64 a0_0, .int .i64 a0_1, .int .i64 a0_2, .int .i64 a0_3, .int .i64 a0_4, .int .i64 a0_5]) (t := 147) ?hr ?_; (case hd => rfl); (case hg => rfl); (case hr => first | (go_simp; done) | (go_simp; rfl)); intro gb217 hg w34 hbox hb; have n0_ := Aside0.mk (qk0 (by repeat (first | (with_reducible first | exact HB.out | apply qc0 | apply qa0 | apply qd0) | exact HB.out)) hb); have n1_ := Aside0.mk (hbox); have n2_ := Aside0.mk ((by rw [hg]; exact (qj0 (by repeat (first | (with_reducible first | exact HB.out | apply qc0 | apply qa0 | apply qd0) | exact HB.out))) : w.heap.size ≤ gb217)); have n3_ := Aside0.mk ((by rw [hg]; exact (qj0 (by repeat (first | (with_reducible first | exact HB.out | apply qc0 | apply qa0 | apply qd0) | exact HB.out))) : w.heap.size ≤ gb217)); clear HB; have HB := n0_; have BK217 := n1_; have GW217 := n2_; have GE217 := n3_; clear n0_ n1_ n2_ n3_; clear hb hbox hg) | ((with_reducible refine qp0 (N := 3) rfl ?_); refine qo0 ?hg (N := 3) ?hd (cs := #[.int .i64 a1_0, .int .i64 a1_1, .int .i64 a1_2, .int .i64 a1_3, .int .i64 a1_4, .int .i64 a1_5]) (t := 147) ?hr ?_; (case hd => rfl); (case hg => rfl); (case hr => first | (go_simp; done) | (go_simp; rfl)); intro gb218 hg w35 hbox hb; have n0_ := Aside0.mk (qn0 (g := gb217) (o := .cells #[.int .i64 a0_0, .int .i64 a0_1, .int .i64 a0_2, .int .i64 a0_3, .int .i64 a0_4, .int .i64 a0_5] 147 (0, 0)) (by (with_reducible repeat (first | refine qf0 ?_ _ | refine qh0 ?_ | refine qg0 ?_ _)); exact BK217.out) hb); have n1_ := Aside0.mk (qk0 (by repeat (first | (with_reducible first | exact HB.out | apply qc0 | apply qa0 | apply qd0 | refine qi0 ?_ GE217.out) | exact HB.out)) hb); have n2_ := Aside0.mk (hbox); have n3_ := Aside0.mk ((by rw [hg]; exact (qj0 (by repeat (first | (with_reducible first | exact HB.out | apply qc0 | apply qa0 | apply qd0 | refine qi0 ?_ GE217.out) | exact HB.out))) : w.heap.size ≤ gb218)); have n4_ := Aside0.mk ((by rw [hg]; exact (qj0 (by repeat (first | (with_reducible first | exact HB.out | apply qc0 | apply qa0 | apply qd0 | refine qi0 ?_ GE217.out) | exact HB.out))) : w.heap.size ≤ gb218)); have n5_ := Aside0.mk ((by rw [hg]; exact Nat.ne_of_lt (qx0 (g := gb217) (o := .cells #[.int .i64 a0_0, .int .i64 a0_1, .int .i64 a0_2, .int .i64 a0_3, .int .i64 a0_4, .int .i64 a0_5] 147 (0, 0)) (by (with_reducible repeat (first | refine qf0 ?_ _ | refine qh0 ?_ | refine qg0 ?_ _)); exact BK217.out)) : gb217 ≠ gb218)); have n6_ := Aside0.mk ((by rw [hg]; exact Nat.ne_of_gt (qx0 (g := gb217) (o := .cells #[.int .i64 a0_0, .int .i64 a0_1, .int .i64 a0_2, .int .i64 a0_3, .int .i64 a0_4, .int .i64 a0_5] 147 (0, 0)) (by (with_reducible repeat (first | refine qf0 ?_ _ | refine qh0 ?_ | refine qg0 ?_ _)); exact BK217.out)) : gb218 ≠ gb217)); clear BK217; clear HB; have BK217 := n0_; have HB := n1_; have BK218 := n2_; have GW218 := n3_; have GE218 := n4_; have NB217_218 := n5_; have NB218_217 := n6_; clear n0_ n1_ n2_ n3_ n4_ n5_ n6_; clear hb hbox hg; have hnb36 := NB217_218.out; have hnc36 := NB218_217.out; have hcz37_0 : w35.cell? ⟨gb217, 0, none⟩ = some (.int .i64 a0_0) := (qe0 BK217.out 0).trans rfl; have hcz37_1 : w35.cell? ⟨gb217, 1, none⟩ = some (.int .i64 a0_1) := (qe0 BK217.out 1).trans rfl; have hcz37_2 : w35.cell? ⟨gb217, 2, none⟩ = some (.int .i64 a0_2) := (qe0 BK217.out 2).trans rfl; have hcz37_3 : w35.cell? ⟨gb217, 3, none⟩ = some (.int .i64 a0_3) := (qe0 BK217.out 3).trans rfl; have hcz37_4 : w35.cell? ⟨gb217, 4, none⟩ = some (.int .i64 a0_4) := (qe0 BK217.out 4).trans rfl; have hcz37_5 : w35.cell? ⟨gb217, 5, none⟩ = some (.int .i64 a0_5) := (qe0 BK217.out 5).trans rfl; have hfz37_0 := qb0 BK217.out 0; have hfz37_1 := qb0 BK217.out 1; have hfz37_2 := qb0 BK217.out 2; have hfz37_3 := qb0 BK217.out 3; have hfz37_4 := qb0 BK217.out 4; have hfz37_5 := qb0 BK217.out 5; have hcz38_0 : w35.cell? ⟨gb218, 0, none⟩ = some (.int .i64 a1_0) := (qe0 BK218.out 0).trans rfl; have hcz38_1 : w35.cell? ⟨gb218, 1, none⟩ = some (.int .i64 a1_1) := (qe0 BK218.out 1).trans rfl; have hcz38_2 : w35.cell? ⟨gb218, 2, none⟩ = some (.int .i64 a1_2) := (qe0 BK218.out 2).trans rfl; have hcz38_3 : w35.cell? ⟨gb218, 3, none⟩ = some (.int .i64 a1_3) := (qe0 BK218.out 3).trans rfl; have hcz38_4 : w35.cell? ⟨gb218, 4, none⟩ = some (.int .i64 a1_4) := (qe0 BK218.out 4).trans rfl; have hcz38_5 : w35.cell? ⟨gb218, 5, none⟩ = some (.int .i64 a1_5) := (qe0 BK218.out 5).trans rfl; have hfz38_0 := qb0 BK218.out 0; have hfz38_1 := qb0 BK218.out 1; have hfz38_2 := qb0 BK218.out 2; have hfz38_3 := qb0 BK218.out 3; have hfz38_4 := qb0 BK218.out 4; have hfz38_5 := qb0 BK218.out 5))
  go_ret
  exact ⟨by first | rfl | (simp [errW_none, errW_some] <;> rfl) | (simp [*, errW_none, errW_some] <;> rfl), by repeat (first | (with_reducible first | exact HB.out | apply qc0 | apply qa0 | apply qd0 | refine qi0 ?_ GE217.out | refine qi0 ?_ GE218.out) | exact HB.out)⟩
 rw [if_neg c3] at H
 have c3b0 : (a0_0 == a1_0) = false := beq_eq_false_iff_ne.mpr c3
 have c3b1 : (a0_0 != a1_0) = true := bne_iff_ne.mpr c3
 obtain rfl := Option.some.inj H
 go_enter Try.func211, Try.ntmps211
 go_wp2_with (first | ((with_reducible refine qp0 (N := 2) rfl ?_); refine qo0 ?hg (N := 2) ?hd (cs := #[.int .i64 a0_0, .int .i64 a0_1, .int .i64 a0_2, .int .i64 a0_3, .int .i64 a0_4, .int .i64 a0_5]) (t := 147) ?hr ?_; (case hd => rfl); (case hg => rfl); (case hr => first | (go_simp; done) | (go_simp; rfl)); intro gb217 hg w39 hbox hb; have n0_ := Aside0.mk (qk0 (by repeat (first | (with_reducible first | exact HB.out | apply qc0 | apply qa0 | apply qd0) | exact HB.out)) hb); have n1_ := Aside0.mk (hbox); have n2_ := Aside0.mk ((by rw [hg]; exact (qj0 (by repeat (first | (with_reducible first | exact HB.out | apply qc0 | apply qa0 | apply qd0) | exact HB.out))) : w.heap.size ≤ gb217)); have n3_ := Aside0.mk ((by rw [hg]; exact (qj0 (by repeat (first | (with_reducible first | exact HB.out | apply qc0 | apply qa0 | apply qd0) | exact HB.out))) : w.heap.size ≤ gb217)); clear HB; have HB := n0_; have BK217 := n1_; have GW217 := n2_; have GE217 := n3_; clear n0_ n1_ n2_ n3_; clear hb hbox hg) | ((with_reducible refine qp0 (N := 3) rfl ?_); refine qo0 ?hg (N := 3) ?hd (cs := #[.int .i64 a1_0, .int .i64 a1_1, .int .i64 a1_2, .int .i64 a1_3, .int .i64 a1_4, .int .i64 a1_5]) (t := 147) ?hr ?_; (case hd => rfl); (case hg => rfl); (case hr => first | (go_simp; done) | (go_simp; rfl)); intro gb218 hg w40 hbox hb; have n0_ := Aside0.mk (qn0 (g := gb217) (o := .cells #[.int .i64 a0_0, .int .i64 a0_1, .int .i64 a0_2, .int .i64 a0_3, .int .i64 a0_4, .int .i64 a0_5] 147 (0, 0)) (by (with_reducible repeat (first | refine qf0 ?_ _ | refine qh0 ?_ | refine qg0 ?_ _)); exact BK217.out) hb); have n1_ := Aside0.mk (qk0 (by repeat (first | (with_reducible first | exact HB.out | apply qc0 | apply qa0 | apply qd0 | refine qi0 ?_ GE217.out) | exact HB.out)) hb); have n2_ := Aside0.mk (hbox); have n3_ := Aside0.mk ((by rw [hg]; exact (qj0 (by repeat (first | (with_reducible first | exact HB.out | apply qc0 | apply qa0 | apply qd0 | refine qi0 ?_ GE217.out) | exact HB.out))) : w.heap.size ≤ gb218)); have n4_ := Aside0.mk ((by rw [hg]; exact (qj0 (by repeat (first | (with_reducible first | exact HB.out | apply qc0 | apply qa0 | apply qd0 | refine qi0 ?_ GE217.out) | exact HB.out))) : w.heap.size ≤ gb218)); have n5_ := Aside0.mk ((by rw [hg]; exact Nat.ne_of_lt (qx0 (g := gb217) (o := .cells #[.int .i64 a0_0, .int .i64 a0_1, .int .i64 a0_2, .int .i64 a0_3, .int .i64 a0_4, .int .i64 a0_5] 147 (0, 0)) (by (with_reducible repeat (first | refine qf0 ?_ _ | refine qh0 ?_ | refine qg0 ?_ _)); exact BK217.out)) : gb217 ≠ gb218)); have n6_ := Aside0.mk ((by rw [hg]; exact Nat.ne_of_gt (qx0 (g := gb217) (o := .cells #[.int .i64 a0_0, .int .i64 a0_1, .int .i64 a0_2, .int .i64 a0_3, .int .i64 a0_4, .int .i64 a0_5] 147 (0, 0)) (by (with_reducible repeat (first | refine qf0 ?_ _ | refine qh0 ?_ | refine qg0 ?_ _)); exact BK217.out)) : gb218 ≠ gb217)); clear BK217; clear HB; have BK217 := n0_; have HB := n1_; have BK218 := n2_; have GW218 := n3_; have GE218 := n4_; have NB217_218 := n5_; have NB218_217 := n6_; clear n0_ n1_ n2_ n3_ n4_ n5_ n6_; clear hb hbox hg; have hnb41 := NB217_218.out; have hnc41 := NB218_217.out; have hcz42_0 : w40.cell? ⟨gb217, 0, none⟩ = some (.int .i64 a0_0) := (qe0 BK217.out 0).trans rfl; have hcz42_1 : w40.cell? ⟨gb217, 1, none⟩ = some (.int .i64 a0_1) := (qe0 BK217.out 1).trans rfl; have hcz42_2 : w40.cell? ⟨gb217, 2, none⟩ = some (.int .i64 a0_2) := (qe0 BK217.out 2).trans rfl; have hcz42_3 : w40.cell? ⟨gb217, 3, none⟩ = some (.int .i64 a0_3) := (qe0 BK217.out 3).trans rfl; have hcz42_4 : w40.cell? ⟨gb217, 4, none⟩ = some (.int .i64 a0_4) := (qe0 BK217.out 4).trans rfl; have hcz42_5 : w40.cell? ⟨gb217, 5, none⟩ = some (.int .i64 a0_5) := (qe0 BK217.out 5).trans rfl; have hfz42_0 := qb0 BK217.out 0; have hfz42_1 := qb0 BK217.out 1; have hfz42_2 := qb0 BK217.out 2; have hfz42_3 := qb0 BK217.out 3; have hfz42_4 := qb0 BK217.out 4; have hfz42_5 := qb0 BK217.out 5; have hcz43_0 : w40.cell? ⟨gb218, 0, none⟩ = some (.int .i64 a1_0) := (qe0 BK218.out 0).trans rfl; have hcz43_1 : w40.cell? ⟨gb218, 1, none⟩ = some (.int .i64 a1_1) := (qe0 BK218.out 1).trans rfl; have hcz43_2 : w40.cell? ⟨gb218, 2, none⟩ = some (.int .i64 a1_2) := (qe0 BK218.out 2).trans rfl; have hcz43_3 : w40.cell? ⟨gb218, 3, none⟩ = some (.int .i64 a1_3) := (qe0 BK218.out 3).trans rfl; have hcz43_4 : w40.cell? ⟨gb218, 4, none⟩ = some (.int .i64 a1_4) := (qe0 BK218.out 4).trans rfl; have hcz43_5 : w40.cell? ⟨gb218, 5, none⟩ = some (.int .i64 a1_5) := (qe0 BK218.out 5).trans rfl; have hfz43_0 := qb0 BK218.out 0; have hfz43_1 := qb0 BK218.out 1; have hfz43_2 := qb0 BK218.out 2; have hfz43_3 := qb0 BK218.out 3; have hfz43_4 := qb0 BK218.out 4; have hfz43_5 := qb0 BK218.out 5))
 go_ret
 exact ⟨by first | rfl | (simp [errW_none, errW_some] <;> rfl) | (simp [*, errW_none, errW_some] <;> rfl), by repeat (first | (with_reducible first | exact HB.out | apply qc0 | apply qa0 | apply qd0 | refine qi0 ?_ GE217.out | refine qi0 ?_ GE218.out) | exact HB.out)⟩

/-! ### laws_eqPartS: function 179 -/
def laws_eqPartS.l0 : Nat → List (S147) → List (S147) → Int → Option (Bool)
 | 0, _, _, _ => none
 | k + 1, x0, x1, x5 => if x5 < (x0.length : Int) then (if 0 ≤ x5 then (if x5 < (x1.length : Int) then ((laws_eqPart.f ((rd_T147 x0 x5).f0) ((rd_T147 x0 x5).f1) ((rd_T147 x0 x5).f2) ((rd_T147 x0 x5).f3) ((rd_T147 x0 x5).f4) ((rd_T147 x0 x5).f5) ((rd_T147 x1 x5).f0) ((rd_T147 x1 x5).f1) ((rd_T147 x1 x5).f2) ((rd_T147 x1 x5).f3) ((rd_T147 x1 x5).f4) ((rd_T147 x1 x5).f5)).bind fun t221 => (if t221 = true then (laws_eqPartS.l0 k x0 x1 (wrap64 (x5 + 1))) else (some false))) else (none)) else (none)) else (some true)
def laws_eqPartS.f (k : Nat) (l0 : List (S147)) (l1 : List (S147)) : Option (Bool) := if (l0.length : Int) = (l1.length : Int) then (laws_eqPartS.l0 k l0 l1 0) else (some false)
theorem laws_eqPartS.mono_l : ∀ k, (∀ y0 y1 y2, LeO (laws_eqPartS.l0 k y0 y1 y2) (laws_eqPartS.l0 (k + 1) y0 y1 y2))
 | 0 => fun _ _ _ r h => by simp [laws_eqPartS.l0] at h
 | k + 1 => by
  have ih0 := laws_eqPartS.mono_l k
  ·intro y0 y1 y2
   unfold laws_eqPartS.l0
   repeat' first
   | (with_reducible exact ih0 _ _ _)
   | (with_reducible exact LeO.refl _)
   | (with_reducible exact LeO.none _)
   | (with_reducible refine LeO.ite ?_ ?_)
   | (with_reducible refine LeO.bind ?_ (fun _ => ?_))
   | exact ih0 _ _ _
   | exact LeO.none _
   | refine LeO.ite ?_ ?_
   | refine LeO.bind ?_ (fun _ => ?_)
theorem laws_eqPartS.mono : ∀ a0 a1 k, LeO (laws_eqPartS.f k a0 a1) (laws_eqPartS.f (k + 1) a0 a1) := by
 intro a0 a1 k
 have ih0 := laws_eqPartS.mono_l k
 unfold laws_eqPartS.f
 repeat' first
   | (with_reducible exact ih0 _ _ _)
   | (with_reducible exact LeO.refl _)
   | (with_reducible exact LeO.none _)
   | (with_reducible refine LeO.ite ?_ ?_)
   | (with_reducible refine LeO.bind ?_ (fun _ => ?_))
   | exact ih0 _ _ _
   | exact LeO.none _
   | refine LeO.ite ?_ ?_
   | refine LeO.bind ?_ (fun _ => ?_)
def laws_eqPartS.T6 : Bool × List (List Nat × List Nat) := (true, [([], []), ([], []), ([0, 1], [0, 1]), ([2], [2]), ([], []), ([], []), ([4, 5], [4, 5]), ([6], [6]), ([3, 7], [3, 7]), ([8], [8])])
def laws_eqPartS.B6 : List Nat := [0, 0, 3, 7, 0, 0, 48, 112, 255, 511]
theorem laws_eqPartS.tab6 : rtab .any (opsOf Try.f179 6) = laws_eqPartS.T6 := by kernel_rfl
theorem laws_eqPartS.bits6 : waitsOk laws_eqPartS.T6.2 laws_eqPartS.B6 = true := by kernel_rfl
set_option maxHeartbeats 8000000 in
set_option maxRecDepth 100000 in
theorem laws_eqPartS.calls (k : Nat) (A0 : Option Addr) (c0 : Nat) (l0 : List (S147)) (A1 : Option Addr) (c1 : Nat) (l1 : List (S147)) (r : Bool) (w : World) (hr0 : Kd.C k147 w A0 l0.length l0) (hc0 : l0.length ≤ c0) (hr1 : Kd.C k147 w A1 l1.length l1) (hc1 : l1.length ≤ c1) (h : laws_eqPartS.f k l0 l1 = some r) :
  Calls Try.prog 179 #[.slice A0 l0.length c0, .slice A1 l1.length c1] w fun e w' => e = .returned (.bool r) ∧ Below w.heap.size w w' := by
 have hu147 := Try.underlying147
 have HR0 := Aside0.mk hr0
 have HC0 := Aside0.mk hc0
 clear hr0 hc0
 have HR1 := Aside0.mk hr1
 have HC1 := Aside0.mk hc1
 clear hr1 hc1
 have HB := Aside0.mk (Below.refl w.heap.size w)
 have H : (if (l0.length : Int) = (l1.length : Int) then (laws_eqPartS.l0 k l0 l1 0) else (some false)) = some r := h
 clear h
 by_cases c3 : (l0.length : Int) = (l1.length : Int)
 ·rw [if_pos c3] at H
  have c3b0 : ((l0.length : Int) == (l1.length : Int)) = true := beq_iff_eq.mpr c3
  have c3b1 : ((l0.length : Int) != (l1.length : Int)) = false := bne_eq_false_iff_eq.mpr c3
  have c3b2 : (l0.length == l1.length) = true := by first | simpa using c3 | (simp at c3 ⊢; omega)
  clear c3
  have H' := Aside0.mk H
  clear H
  go_enter Try.func179, Try.ntmps179
  go_wp2
  go_loopg [5] k (fun kq v5 w' => ∃ (x5_1 : Int), v5 = .int .i64 x5_1 ∧ Aside0 (laws_eqPartS.l0 kq l0 l1 x5_1 = some r) ∧ Aside0 (kq ≤ k) ∧ Aside0 (Below w.heap.size w w'))
  case atStart => exact ⟨(0), (by first | rfl | (simp; done) | (simp [*]; done)), H', ⟨Nat.le_refl _⟩, ⟨by repeat (first | (with_reducible first | exact HB.out | apply qc0 | apply qa0 | apply qd0) | exact HB.out)⟩⟩
  case round =>
   clear H'
   try clear c1
   try clear p2
   try clear c3
   try clear c3b0
   try clear c3b1
   try clear c3b2
   obtain ⟨x5_1, rfl, HA, HK1, HB⟩ := hrel
   cases gk with
   | zero => exact absurd HA.out (by simp [laws_eqPartS.l0])
   | succ k1 =>
    have H := HA.out
    clear HA
    simp only [laws_eqPartS.l0] at H
    by_cases c4 : x5_1 < (l0.length : Int)
    ·rw [if_pos c4] at H
     have c4b0 : decide (x5_1 < (l0.length : Int)) = true := decide_eq_true c4
     clear c4
     by_cases c5 : 0 ≤ x5_1
     case neg => rw [if_neg c5] at H; exact absurd H (by simp)
     rw [if_pos c5] at H
     have c5b0 : decide (0 ≤ x5_1) = true := decide_eq_true c5
     clear c5
     by_cases c6 : x5_1 < (l1.length : Int)
     case neg => rw [if_neg c6] at H; exact absurd H (by simp)
     rw [if_pos c6] at H
     have c6b0 : decide (x5_1 < (l1.length : Int)) = true := decide_eq_true c6
     clear c6
     replace H := Option.bind_eq_some_iff.mp H
     obtain ⟨t221, A70, H⟩ := H
     replace H : (if t221 = true then (laws_eqPartS.l0 k1 l0 l1 (wrap64 (x5_1 + 1))) else (some false)) = some r := H
     have A7 := Aside0.mk A70
     clear A70
     by_cases c8 : t221 = true
     ·subst c8
      have H1 : (laws_eqPartS.l0 k1 l0 l1 (wrap64 (x5_1 + 1))) = some r := by rw [if_pos rfl] at H; exact H
      clear H
      have H := H1
      clear H1
      have H' := Aside0.mk H
      clear H
      try go_wp2
      have n0_ := Aside0.mk (qd0 HB.out)
      clear HB
      have HB := n0_
      clear n0_
      have p219 : 0 ≤ (x5_1 : Int) := of_decide_eq_true (by first | (with_reducible assumption) | assumption)
      have q219 : x5_1 < (l0.length : Int) := of_decide_eq_true (by first | (with_reducible assumption) | assumption)
      obtain ⟨ad219, e219, hx219_0, hx219_1, hx219_2, hx219_3, hx219_4, hx219_5⟩ := at_T147 HR0.out x5_1 p219 q219
      have hw219_5 := hx219_5
      have hw219_4 := hx219_4
      have hw219_3 := hx219_3
      have hw219_2 := hx219_2
      have hw219_1 := hx219_1
      have hw219_0 := hx219_0
      cases e219
      replace hx219_0 := (HB.out.cell (World.block_lt_of_cell? w _ hx219_0)).trans hx219_0
      replace hx219_1 := (HB.out.cell (World.block_lt_of_cell? w _ hx219_1)).trans hx219_1
      replace hx219_2 := (HB.out.cell (World.block_lt_of_cell? w _ hx219_2)).trans hx219_2
      replace hx219_3 := (HB.out.cell (World.block_lt_of_cell? w _ hx219_3)).trans hx219_3
      replace hx219_4 := (HB.out.cell (World.block_lt_of_cell? w _ hx219_4)).trans hx219_4
      replace hx219_5 := (HB.out.cell (World.block_lt_of_cell? w _ hx219_5)).trans hx219_5
      replace p219 := eq_true p219
      replace q219 := eq_true q219
      have p220 : 0 ≤ (x5_1 : Int) := of_decide_eq_true (by first | (with_reducible assumption) | assumption)
      have q220 : x5_1 < (l1.length : Int) := of_decide_eq_true (by first | (with_reducible assumption) | assumption)
      obtain ⟨ad220, e220, hx220_0, hx220_1, hx220_2, hx220_3, hx220_4, hx220_5⟩ := at_T147 HR1.out x5_1 p220 q220
      have hw220_5 := hx220_5
      have hw220_4 := hx220_4
      have hw220_3 := hx220_3
      have hw220_2 := hx220_2
      have hw220_1 := hx220_1
      have hw220_0 := hx220_0
      cases e220
      replace hx220_0 := (HB.out.cell (World.block_lt_of_cell? w _ hx220_0)).trans hx220_0
      replace hx220_1 := (HB.out.cell (World.block_lt_of_cell? w _ hx220_1)).trans hx220_1
      replace hx220_2 := (HB.out.cell (World.block_lt_of_cell? w _ hx220_2)).trans hx220_2
      replace hx220_3 := (HB.out.cell (World.block_lt_of_cell? w _ hx220_3)).trans hx220_3
      replace hx220_4 := (HB.out.cell (World.block_lt_of_cell? w _ hx220_4)).trans hx220_4
      replace hx220_5 := (HB.out.cell (World.block_lt_of_cell? w _ hx220_5)).trans hx220_5
      replace p220 := eq_true p220
      replace q220 := eq_true q220
      refine start_ (n := 10) (S := fun w' => w'.cell? (ad219.add ((x5_1).toNat * 6)) = some (.int .i64 ((rd_T147 l0 x5_1).f0)) ∧ w'.cell? ⟨(ad219.add ((x5_1).toNat * 6)).block, (ad219.add ((x5_1).toNat * 6)).off + 1, none⟩ = some (.int .i64 ((rd_T147 l0 x5_1).f1)) ∧ w'.cell? ⟨(ad219.add ((x5_1).toNat * 6)).block, (ad219.add ((x5_1).toNat * 6)).off + 2, none⟩ = some (.int .i64 ((rd_T147 l0 x5_1).f2)) ∧ w'.cell? ⟨(ad219.add ((x5_1).toNat * 6)).block, (ad219.add ((x5_1).toNat * 6)).off + 3, none⟩ = some (.int .i64 ((rd_T147 l0 x5_1).f3)) ∧ w'.cell? ⟨(ad219.add ((x5_1).toNat * 6)).block, (ad219.add ((x5_1).toNat * 6)).off + 4, none⟩ = some (.int .i64 ((rd_T147 l0 x5_1).f4)) ∧ w'.cell? ⟨(ad219.add ((x5_1).toNat * 6)).block, (ad219.add ((x5_1).toNat * 6)).off + 5, none⟩ = some (.int .i64 ((rd_T147 l0 x5_1).f5)) ∧ w'.cell? (ad220.add ((x5_1).toNat * 6)) = some (.int .i64 ((rd_T147 l1 x5_1).f0)) ∧ w'.cell? ⟨(ad220.add ((x5_1).toNat * 6)).block, (ad220.add ((x5_1).toNat * 6)).off + 1, none⟩ = some (.int .i64 ((rd_T147 l1 x5_1).f1)) ∧ w'.cell? ⟨(ad220.add ((x5_1).toNat * 6)).block, (ad220.add ((x5_1).toNat * 6)).off + 2, none⟩ = some (.int .i64 ((rd_T147 l1 x5_1).f2)) ∧ w'.cell? ⟨(ad220.add ((x5_1).toNat * 6)).block, (ad220.add ((x5_1).toNat * 6)).off + 3, none⟩ = some (.int .i64 ((rd_T147 l1 x5_1).f3)) ∧ w'.cell? ⟨(ad220.add ((x5_1).toNat * 6)).block, (ad220.add ((x5_1).toNat * 6)).off + 4, none⟩ = some (.int .i64 ((rd_T147 l1 x5_1).f4)) ∧ w'.cell? ⟨(ad220.add ((x5_1).toNat * 6)).block, (ad220.add ((x5_1).toNat * 6)).off + 5, none⟩ = some (.int .i64 ((rd_T147 l1 x5_1).f5))) (ds := []) #[false, false, false, false, false, false, false, false, false, false] (by kernel_rfl) rfl rfl ⟨((HB.out.cell (World.block_lt_of_cell? w _ hw219_0)).trans hw219_0), ((HB.out.cell (World.block_lt_of_cell? w _ hw219_1)).trans hw219_1), ((HB.out.cell (World.block_lt_of_cell? w _ hw219_2)).trans hw219_2), ((HB.out.cell (World.block_lt_of_cell? w _ hw219_3)).trans hw219_3), ((HB.out.cell (World.block_lt_of_cell? w _ hw219_4)).trans hw219_4), ((HB.out.cell (World.block_lt_of_cell? w _ hw219_5)).trans hw219_5), ((HB.out.cell (World.block_lt_of_cell? w _ hw220_0)).trans hw220_0), ((HB.out.cell (World.block_lt_of_cell? w _ hw220_1)).trans hw220_1), ((HB.out.cell (World.block_lt_of_cell? w _ hw220_2)).trans hw220_2), ((HB.out.cell (World.block_lt_of_cell? w _ hw220_3)).trans hw220_3), ((HB.out.cell (World.block_lt_of_cell? w _ hw220_4)).trans hw220_4), ((HB.out.cell (World.block_lt_of_cell? w _ hw220_5)).trans hw220_5)⟩ (fun hHeld => ?_); refine with_tabW laws_eqPartS.tab6 laws_eqPartS.bits6 (fun HT_ HW_ => ?_)
      generalize wr.drew = w9 at HB hx219_0 hx219_1 hx219_2 hx219_3 hx219_4 hx219_5 hx220_0 hx220_1 hx220_2 hx220_3 hx220_4 hx220_5 hHeld ⊢
      refine pure_ (i := 0) (N := some 17) (v := ?_) (a' := ?_) #[true, false, false, false, false, false, false, false, false, false] rfl rfl (qw0 HT_.out (by kernel_rfl)) (fun _ _ _ h => h) (Or.inl ⟨by rfl, ?_⟩) ?_ ?_
      rotate_left
      ·intro w'
       go_simp
       with_reducible rfl
      rotate_left
      ·simp only [Act.put, List.setIfInBounds_toArray, List.set_cons_zero, List.set_cons_succ, i64_w, i32_w]
       rfl
      refine pure_ (i := 1) (N := some 18) (v := ?_) (a' := ?_) #[true, true, false, false, false, false, false, false, false, false] rfl rfl (qw0 HT_.out (by kernel_rfl)) (fun _ _ _ h => h) (Or.inl ⟨by rfl, ?_⟩) ?_ ?_
      rotate_left
      ·intro w'
       go_simp
       with_reducible rfl
      rotate_left
      ·simp only [Act.put, List.setIfInBounds_toArray, List.set_cons_zero, List.set_cons_succ, i64_w, i32_w]
       rfl
      refine pure_ (i := 2) (N := some 19) (v := ?_) (a' := ?_) #[true, true, true, false, false, false, false, false, false, false] rfl rfl (qw0 HT_.out (by kernel_rfl)) (fun _ _ _ h => h) (Or.inl ⟨by rfl, ?_⟩) ?_ ?_
      rotate_left
      ·intro w'
       go_simp
       with_reducible rfl
      rotate_left
      ·simp only [Act.put, List.setIfInBounds_toArray, List.set_cons_zero, List.set_cons_succ, i64_w, i32_w]
       rfl
      refine pure_ (i := 4) (N := some 21) (v := ?_) (a' := ?_) #[true, true, true, false, true, false, false, false, false, false] rfl rfl (qw0 HT_.out (by kernel_rfl)) (fun _ _ _ h => h) (Or.inl ⟨by rfl, ?_⟩) ?_ ?_
      rotate_left
      ·intro w'
       go_simp
       with_reducible rfl
      rotate_left
      ·simp only [Act.put, List.setIfInBounds_toArray, List.set_cons_zero, List.set_cons_succ, i64_w, i32_w]
       rfl
      refine pure_ (i := 5) (N := some 22) (v := ?_) (a' := ?_) #[true, true, true, false, true, true, false, false, false, false] rfl rfl (qw0 HT_.out (by kernel_rfl)) (fun _ _ _ h => h) (Or.inl ⟨by rfl, ?_⟩) ?_ ?_
      rotate_left
      ·intro w'
       go_simp
       with_reducible rfl
      rotate_left
      ·simp only [Act.put, List.setIfInBounds_toArray, List.set_cons_zero, List.set_cons_succ, i64_w, i32_w]
       rfl
      refine pure_ (i := 6) (N := some 23) (v := ?_) (a' := ?_) #[true, true, true, false, true, true, true, false, false, false] rfl rfl (qw0 HT_.out (by kernel_rfl)) (fun _ _ _ h => h) (Or.inl ⟨by rfl, ?_⟩) ?_ ?_
      rotate_left
      ·intro w'
       go_simp
       with_reducible rfl
      rotate_left
      ·simp only [Act.put, List.setIfInBounds_toArray, List.set_cons_zero, List.set_cons_succ, i64_w, i32_w]
       rfl
      refine take_ (i := 3) (N := some 20) (v := ?_) (a' := ?_) #[true, true, true, true, true, true, true, false, false, false] rfl rfl (take_ofW HT_.out HW_.out (by kernel_rfl)) (fun _ _ _ h => h) (Or.inl ⟨by rfl, ?_⟩) hHeld ?_ ?_
      rotate_left
      ·rintro w' ⟨s0, s1, s2, s3, s4, s5, s6, s7, s8, s9, s10, s11⟩
       go_simp
       with_reducible rfl
      rotate_left
      ·simp only [Act.put, List.setIfInBounds_toArray, List.set_cons_zero, List.set_cons_succ, i64_w, i32_w]
       rfl
      refine take_ (i := 7) (N := some 24) (v := ?_) (a' := ?_) #[true, true, true, true, true, true, true, true, false, false] rfl rfl (take_ofW HT_.out HW_.out (by kernel_rfl)) (fun _ _ _ h => h) (Or.inl ⟨by rfl, ?_⟩) hHeld ?_ ?_
      rotate_left
      ·rintro w' ⟨s0, s1, s2, s3, s4, s5, s6, s7, s8, s9, s10, s11⟩
       go_simp
       with_reducible rfl
      rotate_left
      ·simp only [Act.put, List.setIfInBounds_toArray, List.set_cons_zero, List.set_cons_succ, i64_w, i32_w]
       rfl
      refine one_ (i := 8) (N := some 25) #[true, true, true, true, true, true, true, true, true, false] rfl rfl (one_of HT_.out (by kernel_rfl)) (by decide) (fun K hK => ?_)
      refine goes_ Try.func211 (by kernel_rfl) rfl #[.agg #[.int .i64 ((rd_T147 l0 x5_1).f0), .int .i64 ((rd_T147 l0 x5_1).f1), .int .i64 ((rd_T147 l0 x5_1).f2), .int .i64 ((rd_T147 l0 x5_1).f3), .int .i64 ((rd_T147 l0 x5_1).f4), .int .i64 ((rd_T147 l0 x5_1).f5)], .agg #[.int .i64 ((rd_T147 l1 x5_1).f0), .int .i64 ((rd_T147 l1 x5_1).f1), .int .i64 ((rd_T147 l1 x5_1).f2), .int .i64 ((rd_T147 l1 x5_1).f3), .int .i64 ((rd_T147 l1 x5_1).f4), .int .i64 ((rd_T147 l1 x5_1).f5)]] (by rfl) rfl rfl (by (try simp only [List.map_toArray, List.map_cons, List.map_nil]); first | done | rfl | (simp only [List.length_drop, List.length_take]; rfl)) ?_
      with_reducible refine (laws_eqPart.calls ((rd_T147 l0 x5_1).f0) ((rd_T147 l0 x5_1).f1) ((rd_T147 l0 x5_1).f2) ((rd_T147 l0 x5_1).f3) ((rd_T147 l0 x5_1).f4) ((rd_T147 l0 x5_1).f5) ((rd_T147 l1 x5_1).f0) ((rd_T147 l1 x5_1).f1) ((rd_T147 l1 x5_1).f2) ((rd_T147 l1 x5_1).f3) ((rd_T147 l1 x5_1).f4) ((rd_T147 l1 x5_1).f5) true _ A7.out).mono ?_
      rintro e w10 ⟨rfl, hb⟩
      refine ⟨_, rfl, ?_⟩
      have n0_ := Aside0.mk (qk0 (by repeat (first | (with_reducible first | exact HB.out | apply qc0 | apply qa0 | apply qd0) | exact HB.out)) hb)
      clear HB
      have HB := n0_
      clear n0_
      (try clear hb)
      (try clear hb2)
      (try clear hk)
      (try clear hi)
      refine hK.out _ _ ⟨((HB.out.cell (World.block_lt_of_cell? w _ hw219_0)).trans hw219_0), ((HB.out.cell (World.block_lt_of_cell? w _ hw219_1)).trans hw219_1), ((HB.out.cell (World.block_lt_of_cell? w _ hw219_2)).trans hw219_2), ((HB.out.cell (World.block_lt_of_cell? w _ hw219_3)).trans hw219_3), ((HB.out.cell (World.block_lt_of_cell? w _ hw219_4)).trans hw219_4), ((HB.out.cell (World.block_lt_of_cell? w _ hw219_5)).trans hw219_5), ((HB.out.cell (World.block_lt_of_cell? w _ hw220_0)).trans hw220_0), ((HB.out.cell (World.block_lt_of_cell? w _ hw220_1)).trans hw220_1), ((HB.out.cell (World.block_lt_of_cell? w _ hw220_2)).trans hw220_2), ((HB.out.cell (World.block_lt_of_cell? w _ hw220_3)).trans hw220_3), ((HB.out.cell (World.block_lt_of_cell? w _ hw220_4)).trans hw220_4), ((HB.out.cell (World.block_lt_of_cell? w _ hw220_5)).trans hw220_5)⟩ (fun hHeld => ?_)
      clear hK K
      refine norm_ (a' := ?_) ?_ ?_
      rotate_left
      ·show Act.put _ (some 25) _ = _
       simp only [Act.put, List.setIfInBounds_toArray, List.set_cons_zero, List.set_cons_succ, i64_w, i32_w]
       rfl
      refine pure_ (i := 9) (N := some 26) (v := ?_) (a' := ?_) #[true, true, true, true, true, true, true, true, true, true] rfl rfl (qw0 HT_.out (by kernel_rfl)) (fun _ _ _ h => h) (Or.inl ⟨by rfl, ?_⟩) ?_ ?_
      rotate_left
      ·intro w'
       go_simp
       with_reducible rfl
      rotate_left
      ·simp only [Act.put, List.setIfInBounds_toArray, List.set_cons_zero, List.set_cons_succ, i64_w, i32_w]
       rfl
      refine done_ (done_of HT_.out (by kernel_rfl)) ?_
      try go_wp2
      go_roundg k1
      case measure => have := HK1.out; omega
      case rel => exact ⟨(wrap64 (x5_1 + 1)), (by first | rfl | (simp; done) | (simp [*]; done)), H', ⟨by have := HK1.out; omega⟩, ⟨by repeat (first | (with_reducible first | exact HB.out | apply qc0 | apply qa0 | apply qd0) | exact HB.out)⟩⟩
     replace c8 := Bool.eq_false_iff.mpr c8
     subst c8
     have H1 : (some false) = some r := by rw [if_neg (show ¬ (false = true) by decide)] at H; exact H
     clear H
     have H := H1
     clear H1
     obtain rfl := Option.some.inj H
     try go_wp2
     have n0_ := Aside0.mk (qd0 HB.out)
     clear HB
     have HB := n0_
     clear n0_
     have p219 : 0 ≤ (x5_1 : Int) := of_decide_eq_true (by first | (with_reducible assumption) | assumption)
     have q219 : x5_1 < (l0.length : Int) := of_decide_eq_true (by first | (with_reducible assumption) | assumption)
     obtain ⟨ad219, e219, hx219_0, hx219_1, hx219_2, hx219_3, hx219_4, hx219_5⟩ := at_T147 HR0.out x5_1 p219 q219
     have hw219_5 := hx219_5
     have hw219_4 := hx219_4
     have hw219_3 := hx219_3
     have hw219_2 := hx219_2
     have hw219_1 := hx219_1
     have hw219_0 := hx219_0
     cases e219
     replace hx219_0 := (HB.out.cell (World.block_lt_of_cell? w _ hx219_0)).trans hx219_0
     replace hx219_1 := (HB.out.cell (World.block_lt_of_cell? w _ hx219_1)).trans hx219_1
     replace hx219_2 := (HB.out.cell (World.block_lt_of_cell? w _ hx219_2)).trans hx219_2
     replace hx219_3 := (HB.out.cell (World.block_lt_of_cell? w _ hx219_3)).trans hx219_3
     replace hx219_4 := (HB.out.cell (World.block_lt_of_cell? w _ hx219_4)).trans hx219_4
     replace hx219_5 := (HB.out.cell (World.block_lt_of_cell? w _ hx219_5)).trans hx219_5
     replace p219 := eq_true p219
     replace q219 := eq_true q219
     have p220 : 0 ≤ (x5_1 : Int) := of_decide_eq_true (by first | (with_reducible assumption) | assumption)
     have q220 : x5_1 < (l1.length : Int) := of_decide_eq_true (by first | (with_reducible assumption) | assumption)
     obtain ⟨ad220, e220, hx220_0, hx220_1, hx220_2, hx220_3, hx220_4, hx220_5⟩ := at_T147 HR1.out x5_1 p220 q220
     have hw220_5 := hx220_5
     have hw220_4 := hx220_4
     have hw220_3 := hx220_3
     have hw220_2 := hx220_2
     have hw220_1 := hx220_1
     have hw220_0 := hx220_0
     cases e220
     replace hx220_0 := (HB.out.cell (World.block_lt_of_cell? w _ hx220_0)).trans hx220_0
     replace hx220_1 := (HB.out.cell (World.block_lt_of_cell? w _ hx220_1)).trans hx220_1
     replace hx220_2 := (HB.out.cell (World.block_lt_of_cell? w _ hx220_2)).trans hx220_2
     replace hx220_3 := (HB.out.cell (World.block_lt_of_cell? w _ hx220_3)).trans hx220_3
     replace hx220_4 := (HB.out.cell (World.block_lt_of_cell? w _ hx220_4)).trans hx220_4
     replace hx220_5 := (HB.out.cell (World.block_lt_of_cell? w _ hx220_5)).trans hx220_5
     replace p220 := eq_true p220
     replace q220 := eq_true q220
     refine start_ (n := 10) (S := fun w' => w'.cell? (ad219.add ((x5_1).toNat * 6)) = some (.int .i64 ((rd_T147 l0 x5_1).f0)) ∧ w'.cell? ⟨(ad219.add ((x5_1).toNat * 6)).block, (ad219.add ((x5_1).toNat * 6)).off + 1, none⟩ = some (.int .i64 ((rd_T147 l0 x5_1).f1)) ∧ w'.cell? ⟨(ad219.add ((x5_1).toNat * 6)).block, (ad219.add ((x5_1).toNat * 6)).off + 2, none⟩ = some (.int .i64 ((rd_T147 l0 x5_1).f2)) ∧ w'.cell? ⟨(ad219.add ((x5_1).toNat * 6)).block, (ad219.add ((x5_1).toNat * 6)).off + 3, none⟩ = some (.int .i64 ((rd_T147 l0 x5_1).f3)) ∧ w'.cell? ⟨(ad219.add ((x5_1).toNat * 6)).block, (ad219.add ((x5_1).toNat * 6)).off + 4, none⟩ = some (.int .i64 ((rd_T147 l0 x5_1).f4)) ∧ w'.cell? ⟨(ad219.add ((x5_1).toNat * 6)).block, (ad219.add ((x5_1).toNat * 6)).off + 5, none⟩ = some (.int .i64 ((rd_T147 l0 x5_1).f5)) ∧ w'.cell? (ad220.add ((x5_1).toNat * 6)) = some (.int .i64 ((rd_T147 l1 x5_1).f0)) ∧ w'.cell? ⟨(ad220.add ((x5_1).toNat * 6)).block, (ad220.add ((x5_1).toNat * 6)).off + 1, none⟩ = some (.int .i64 ((rd_T147 l1 x5_1).f1)) ∧ w'.cell? ⟨(ad220.add ((x5_1).toNat * 6)).block, (ad220.add ((x5_1).toNat * 6)).off + 2, none⟩ = some (.int .i64 ((rd_T147 l1 x5_1).f2)) ∧ w'.cell? ⟨(ad220.add ((x5_1).toNat * 6)).block, (ad220.add ((x5_1).toNat * 6)).off + 3, none⟩ = some (.int .i64 ((rd_T147 l1 x5_1).f3)) ∧ w'.cell? ⟨(ad220.add ((x5_1).toNat * 6)).block, (ad220.add ((x5_1).toNat * 6)).off + 4, none⟩ = some (.int .i64 ((rd_T147 l1 x5_1).f4)) ∧ w'.cell? ⟨(ad220.add ((x5_1).toNat * 6)).block, (ad220.add ((x5_1).toNat * 6)).off + 5, none⟩ = some (.int .i64 ((rd_T147 l1 x5_1).f5))) (ds := []) #[false, false, false, false, false, false, false, false, false, false] (by kernel_rfl) rfl rfl ⟨((HB.out.cell (World.block_lt_of_cell? w _ hw219_0)).trans hw219_0), ((HB.out.cell (World.block_lt_of_cell? w _ hw219_1)).trans hw219_1), ((HB.out.cell (World.block_lt_of_cell? w _ hw219_2)).trans hw219_2), ((HB.out.cell (World.block_lt_of_cell? w _ hw219_3)).trans hw219_3), ((HB.out.cell (World.block_lt_of_cell? w _ hw219_4)).trans hw219_4), ((HB.out.cell (World.block_lt_of_cell? w _ hw219_5)).trans hw219_5), ((HB.out.cell (World.block_lt_of_cell? w _ hw220_0)).trans hw220_0), ((HB.out.cell (World.block_lt_of_cell? w _ hw220_1)).trans hw220_1), ((HB.out.cell (World.block_lt_of_cell? w _ hw220_2)).trans hw220_2), ((HB.out.cell (World.block_lt_of_cell? w _ hw220_3)).trans hw220_3), ((HB.out.cell (World.block_lt_of_cell? w _ hw220_4)).trans hw220_4), ((HB.out.cell (World.block_lt_of_cell? w _ hw220_5)).trans hw220_5)⟩ (fun hHeld => ?_); refine with_tabW laws_eqPartS.tab6 laws_eqPartS.bits6 (fun HT_ HW_ => ?_)
     generalize wr.drew = w11 at HB hx219_0 hx219_1 hx219_2 hx219_3 hx219_4 hx219_5 hx220_0 hx220_1 hx220_2 hx220_3 hx220_4 hx220_5 hHeld ⊢
     refine pure_ (i := 0) (N := some 17) (v := ?_) (a' := ?_) #[true, false, false, false, false, false, false, false, false, false] rfl rfl (qw0 HT_.out (by kernel_rfl)) (fun _ _ _ h => h) (Or.inl ⟨by rfl, ?_⟩) ?_ ?_
     rotate_left
     ·intro w'
      go_simp
      with_reducible rfl
     rotate_left
     ·simp only [Act.put, List.setIfInBounds_toArray, List.set_cons_zero, List.set_cons_succ, i64_w, i32_w]
      rfl
     refine pure_ (i := 1) (N := some 18) (v := ?_) (a' := ?_) #[true, true, false, false, false, false, false, false, false, false] rfl rfl (qw0 HT_.out (by kernel_rfl)) (fun _ _ _ h => h) (Or.inl ⟨by rfl, ?_⟩) ?_ ?_
     rotate_left
     ·intro w'
      go_simp
      with_reducible rfl
     rotate_left
     ·simp only [Act.put, List.setIfInBounds_toArray, List.set_cons_zero, List.set_cons_succ, i64_w, i32_w]
      rfl
     refine pure_ (i := 2) (N := some 19) (v := ?_) (a' := ?_) #[true, true, true, false, false, false, false, false, false, false] rfl rfl (qw0 HT_.out (by kernel_rfl)) (fun _ _ _ h => h) (Or.inl ⟨by rfl, ?_⟩) ?_ ?_
     rotate_left
     ·intro w'
      go_simp
      with_reducible rfl
     rotate_left
     ·simp only [Act.put, List.setIfInBounds_toArray, List.set_cons_zero, List.set_cons_succ, i64_w, i32_w]
      rfl
     refine pure_ (i := 4) (N := some 21) (v := ?_) (a' := ?_) #[true, true, true, false, true, false, false, false, false, false] rfl rfl (qw0 HT_.out (by kernel_rfl)) (fun _ _ _ h => h) (Or.inl ⟨by rfl, ?_⟩) ?_ ?_
     rotate_left
     ·intro w'
      go_simp
      with_reducible rfl
     rotate_left
     ·simp only [Act.put, List.setIfInBounds_toArray, List.set_cons_zero, List.set_cons_succ, i64_w, i32_w]
      rfl
     refine pure_ (i := 5) (N := some 22) (v := ?_) (a' := ?_) #[true, true, true, false, true, true, false, false, false, false] rfl rfl (qw0 HT_.out (by kernel_rfl)) (fun _ _ _ h => h) (Or.inl ⟨by rfl, ?_⟩) ?_ ?_
     rotate_left
     ·intro w'
      go_simp
      with_reducible rfl
     rotate_left
     ·simp only [Act.put, List.setIfInBounds_toArray, List.set_cons_zero, List.set_cons_succ, i64_w, i32_w]
      rfl
     refine pure_ (i := 6) (N := some 23) (v := ?_) (a' := ?_) #[true, true, true, false, true, true, true, false, false, false] rfl rfl (qw0 HT_.out (by kernel_rfl)) (fun _ _ _ h => h) (Or.inl ⟨by rfl, ?_⟩) ?_ ?_
     rotate_left
     ·intro w'
      go_simp
      with_reducible rfl
     rotate_left
     ·simp only [Act.put, List.setIfInBounds_toArray, List.set_cons_zero, List.set_cons_succ, i64_w, i32_w]
      rfl
     refine take_ (i := 3) (N := some 20) (v := ?_) (a' := ?_) #[true, true, true, true, true, true, true, false, false, false] rfl rfl (take_ofW HT_.out HW_.out (by kernel_rfl)) (fun _ _ _ h => h) (Or.inl ⟨by rfl, ?_⟩) hHeld ?_ ?_
     rotate_left
     ·rintro w' ⟨s0, s1, s2, s3, s4, s5, s6, s7, s8, s9, s10, s11⟩
      go_simp
      with_reducible rfl
     rotate_left
     ·simp only [Act.put, List.setIfInBounds_toArray, List.set_cons_zero, List.set_cons_succ, i64_w, i32_w]
      rfl
     refine take_ (i := 7) (N := some 24) (v := ?_) (a' := ?_) #[true, true, true, true, true, true, true, true, false, false] rfl rfl (take_ofW HT_.out HW_.out (by kernel_rfl)) (fun _ _ _ h => h) (Or.inl ⟨by rfl, ?_⟩) hHeld ?_ ?_
     rotate_left
     ·rintro w' ⟨s0, s1, s2, s3, s4, s5, s6, s7, s8, s9, s10, s11⟩
      go_simp
      with_reducible rfl
     rotate_left
     ·simp only [Act.put, List.setIfInBounds_toArray, List.set_cons_zero, List.set_cons_succ, i64_w, i32_w]
      rfl
     refine one_ (i := 8) (N := some 25) #[true, true, true, true, true, true, true, true, true, false] rfl rfl (one_of HT_.out (by kernel_rfl)) (by decide) (fun K hK => ?_)
     refine goes_ Try.func211 (by kernel_rfl) rfl #[.agg #[.int .i64 ((rd_T147 l0 x5_1).f0), .int .i64 ((rd_T147 l0 x5_1).f1), .int .i64 ((rd_T147 l0 x5_1).f2), .int .i64 ((rd_T147 l0 x5_1).f3), .int .i64 ((rd_T147 l0 x5_1).f4), .int .i64 ((rd_T147 l0 x5_1).f5)], .agg #[.int .i64 ((rd_T147 l1 x5_1).f0), .int .i64 ((rd_T147 l1 x5_1).f1), .int .i64 ((rd_T147 l1 x5_1).f2), .int .i64 ((rd_T147 l1 x5_1).f3), .int .i64 ((rd_T147 l1 x5_1).f4), .int .i64 ((rd_T147 l1 x5_1).f5)]] (by rfl) rfl rfl (by (try simp only [List.map_toArray, List.map_cons, List.map_nil]); first | done | rfl | (simp only [List.length_drop, List.length_take]; rfl)) ?_
     with_reducible refine (laws_eqPart.calls ((rd_T147 l0 x5_1).f0) ((rd_T147 l0 x5_1).f1) ((rd_T147 l0 x5_1).f2) ((rd_T147 l0 x5_1).f3) ((rd_T147 l0 x5_1).f4) ((rd_T147 l0 x5_1).f5) ((rd_T147 l1 x5_1).f0) ((rd_T147 l1 x5_1).f1) ((rd_T147 l1 x5_1).f2) ((rd_T147 l1 x5_1).f3) ((rd_T147 l1 x5_1).f4) ((rd_T147 l1 x5_1).f5) false _ A7.out).mono ?_
     rintro e w12 ⟨rfl, hb⟩
     refine ⟨_, rfl, ?_⟩
     have n0_ := Aside0.mk (qk0 (by repeat (first | (with_reducible first | exact HB.out | apply qc0 | apply qa0 | apply qd0) | exact HB.out)) hb)
     clear HB
     have HB := n0_
     clear n0_
     (try clear hb)
     (try clear hb2)
     (try clear hk)
     (try clear hi)
     refine hK.out _ _ ⟨((HB.out.cell (World.block_lt_of_cell? w _ hw219_0)).trans hw219_0), ((HB.out.cell (World.block_lt_of_cell? w _ hw219_1)).trans hw219_1), ((HB.out.cell (World.block_lt_of_cell? w _ hw219_2)).trans hw219_2), ((HB.out.cell (World.block_lt_of_cell? w _ hw219_3)).trans hw219_3), ((HB.out.cell (World.block_lt_of_cell? w _ hw219_4)).trans hw219_4), ((HB.out.cell (World.block_lt_of_cell? w _ hw219_5)).trans hw219_5), ((HB.out.cell (World.block_lt_of_cell? w _ hw220_0)).trans hw220_0), ((HB.out.cell (World.block_lt_of_cell? w _ hw220_1)).trans hw220_1), ((HB.out.cell (World.block_lt_of_cell? w _ hw220_2)).trans hw220_2), ((HB.out.cell (World.block_lt_of_cell? w _ hw220_3)).trans hw220_3), ((HB.out.cell (World.block_lt_of_cell? w _ hw220_4)).trans hw220_4), ((HB.out.cell (World.block_lt_of_cell? w _ hw220_5)).trans hw220_5)⟩ (fun hHeld => ?_)
     clear hK K
     refine norm_ (a' := ?_) ?_ ?_
     rotate_left
     ·show Act.put _ (some 25) _ = _
      simp only [Act.put, List.setIfInBounds_toArray, List.set_cons_zero, List.set_cons_succ, i64_w, i32_w]
      rfl
     refine pure_ (i := 9) (N := some 26) (v := ?_) (a' := ?_) #[true, true, true, true, true, true, true, true, true, true] rfl rfl (qw0 HT_.out (by kernel_rfl)) (fun _ _ _ h => h) (Or.inl ⟨by rfl, ?_⟩) ?_ ?_
     rotate_left
     ·intro w'
      go_simp
      with_reducible rfl
     rotate_left
     ·simp only [Act.put, List.setIfInBounds_toArray, List.set_cons_zero, List.set_cons_succ, i64_w, i32_w]
      rfl
     refine done_ (done_of HT_.out (by kernel_rfl)) ?_
     try go_wp2
     go_ret
     exact ⟨by first | rfl | (simp [errW_none, errW_some] <;> rfl) | (simp [*, errW_none, errW_some] <;> rfl), by repeat (first | (with_reducible first | exact HB.out | apply qc0 | apply qa0 | apply qd0) | exact HB.out)⟩
    rw [if_neg c4] at H
    have c4b0 : decide (x5_1 < (l0.length : Int)) = false := decide_eq_false c4
    clear c4
    obtain rfl := Option.some.inj H
    go_wp2
    go_ret
    exact ⟨by first | rfl | (simp [errW_none, errW_some] <;> rfl) | (simp [*, errW_none, errW_some] <;> rfl), by repeat (first | (with_reducible first | exact HB.out | apply qc0 | apply qa0 | apply qd0) | exact HB.out)⟩
 rw [if_neg c3] at H
 have c3b0 : ((l0.length : Int) == (l1.length : Int)) = false := beq_eq_false_iff_ne.mpr c3
 have c3b1 : ((l0.length : Int) != (l1.length : Int)) = true := bne_iff_ne.mpr c3
 have c3b2 : (l0.length == l1.length) = false := by first | simpa using c3 | (simp at c3 ⊢; omega)
 obtain rfl := Option.some.inj H
 go_enter Try.func179, Try.ntmps179
 go_wp2
 go_ret
 exact ⟨by first | rfl | (simp [errW_none, errW_some] <;> rfl) | (simp [*, errW_none, errW_some] <;> rfl), by repeat (first | (with_reducible first | exact HB.out | apply qc0 | apply qa0 | apply qd0) | exact HB.out)⟩

/-! ### laws_eqItem: function 98 -/
def laws_eqItem.f (k : Nat) (a0_0 : ByteArray) (a0_1 : Int) (a0_2 : Bool) (l0_3 : List (S147)) (l0_4 : List (S147)) (a1_0 : ByteArray) (a1_1 : Int) (a1_2 : Bool) (l1_3 : List (S147)) (l1_4 : List (S147)) : Option (Bool) := if a0_0.toList = a1_0.toList then (if a0_1 = a1_1 then (if (a0_2 != a1_2) = true then (some false) else ((laws_eqPartS.f k l0_3 l1_3).bind fun t224 => (if t224 = true then ((laws_eqPartS.f k l0_4 l1_4).bind fun t225 => (if t225 = true then (some true) else (some false))) else (some false)))) else (some false)) else (some false)
theorem laws_eqItem.mono : ∀ a0 a1 a2 a3 a4 a5 a6 a7 a8 a9 k, LeO (laws_eqItem.f k a0 a1 a2 a3 a4 a5 a6 a7 a8 a9) (laws_eqItem.f (k + 1) a0 a1 a2 a3 a4 a5 a6 a7 a8 a9) := by
 intro a0 a1 a2 a3 a4 a5 a6 a7 a8 a9 k
 unfold laws_eqItem.f
 repeat' first
   | (with_reducible exact laws_eqPartS.mono _ _ _)
   | (with_reducible exact LeO.refl _)
   | (with_reducible exact LeO.none _)
   | (with_reducible refine LeO.ite ?_ ?_)
   | (with_reducible refine LeO.bind ?_ (fun _ => ?_))
   | exact laws_eqPartS.mono _ _ _
   | exact LeO.none _
   | refine LeO.ite ?_ ?_
   | refine LeO.bind ?_ (fun _ => ?_)
set_option maxHeartbeats 8000000 in
set_option maxRecDepth 100000 in
theorem laws_eqItem.calls (k : Nat) (a0_0 : ByteArray) (a0_1 : Int) (a0_2 : Bool) (A0_3 : Option Addr) (c0_3 : Nat) (l0_3 : List (S147)) (A0_4 : Option Addr) (c0_4 : Nat) (l0_4 : List (S147)) (a1_0 : ByteArray) (a1_1 : Int) (a1_2 : Bool) (A1_3 : Option Addr) (c1_3 : Nat) (l1_3 : List (S147)) (A1_4 : Option Addr) (c1_4 : Nat) (l1_4 : List (S147)) (r : Bool) (w : World) (hr0_3 : Kd.C k147 w A0_3 l0_3.length l0_3) (hc0_3 : l0_3.length ≤ c0_3) (hr0_4 : Kd.C k147 w A0_4 l0_4.length l0_4) (hc0_4 : l0_4.length ≤ c0_4) (hr1_3 : Kd.C k147 w A1_3 l1_3.length l1_3) (hc1_3 : l1_3.length ≤ c1_3) (hr1_4 : Kd.C k147 w A1_4 l1_4.length l1_4) (hc1_4 : l1_4.length ≤ c1_4) (h : laws_eqItem.f k a0_0 a0_1 a0_2 l0_3 l0_4 a1_0 a1_1 a1_2 l1_3 l1_4 = some r) :
  Calls Try.prog 98 #[.agg #[.string a0_0, .int .i64 a0_1, .bool a0_2, .slice A0_3 l0_3.length c0_3, .slice A0_4 l0_4.length c0_4], .agg #[.string a1_0, .int .i64 a1_1, .bool a1_2, .slice A1_3 l1_3.length c1_3, .slice A1_4 l1_4.length c1_4]] w fun e w' => e = .returned (.bool r) ∧ Below w.heap.size w w' := by
 have hu143 := Try.underlying143
 have HR0_3 := Aside0.mk hr0_3
 have HC0_3 := Aside0.mk hc0_3
 clear hr0_3 hc0_3
 have HR0_4 := Aside0.mk hr0_4
 have HC0_4 := Aside0.mk hc0_4
 clear hr0_4 hc0_4
 have HR1_3 := Aside0.mk hr1_3
 have HC1_3 := Aside0.mk hc1_3
 clear hr1_3 hc1_3
 have HR1_4 := Aside0.mk hr1_4
 have HC1_4 := Aside0.mk hc1_4
 clear hr1_4 hc1_4
 have HB := Aside0.mk (Below.refl w.heap.size w)
 have H : (if a0_0.toList = a1_0.toList then (if a0_1 = a1_1 then (if (a0_2 != a1_2) = true then (some false) else ((laws_eqPartS.f k l0_3 l1_3).bind fun t224 => (if t224 = true then ((laws_eqPartS.f k l0_4 l1_4).bind fun t225 => (if t225 = true then (some true) else (some false))) else (some false)))) else (some false)) else (some false)) = some r := h
 clear h
 by_cases c3 : a0_0.toList = a1_0.toList
 ·rw [if_pos c3] at H
  have c3b0 : (a0_0.toList == a1_0.toList) = true := beq_iff_eq.mpr c3
  have c3b1 : (a0_0.toList != a1_0.toList) = false := bne_eq_false_iff_eq.mpr c3
  clear c3
  by_cases c4 : a0_1 = a1_1
  ·rw [if_pos c4] at H
   have c4b0 : (a0_1 == a1_1) = true := beq_iff_eq.mpr c4
   have c4b1 : (a0_1 != a1_1) = false := bne_eq_false_iff_eq.mpr c4
   clear c4
   by_cases c5 : (a0_2 != a1_2) = true
   ·rw [if_pos c5] at H
    have c5b0 : (a0_2 != a1_2) = true := c5
    (try (have c5b1 : decide (a0_2 = a1_2) = false := by simpa using c5))
    (try (have c5b2 : (a0_2 == a1_2) = false := by simpa using c5))
    (try (have c5b3 : ¬ (a0_2 = a1_2) := by simpa using c5))
    clear c5
    obtain rfl := Option.some.inj H
    go_enter Try.func98, Try.ntmps98
    go_wp2_with (first | ((with_reducible refine qp0 (N := 2) rfl ?_); refine qo0 ?hg (N := 2) ?hd (cs := #[.string a0_0, .int .i64 a0_1, .bool a0_2, .slice A0_3 l0_3.length c0_3, .slice A0_4 l0_4.length c0_4]) (t := 143) ?hr ?_; (case hd => rfl); (case hg => rfl); (case hr => first | (go_simp; done) | (go_simp; rfl)); intro gb222 hg w6 hbox hb; have n0_ := Aside0.mk (qk0 (by repeat (first | (with_reducible first | exact HB.out | apply qc0 | apply qa0 | apply qd0) | exact HB.out)) hb); have n1_ := Aside0.mk (hbox); have n2_ := Aside0.mk ((by rw [hg]; exact (qj0 (by repeat (first | (with_reducible first | exact HB.out | apply qc0 | apply qa0 | apply qd0) | exact HB.out))) : w.heap.size ≤ gb222)); have n3_ := Aside0.mk ((by rw [hg]; exact (qj0 (by repeat (first | (with_reducible first | exact HB.out | apply qc0 | apply qa0 | apply qd0) | exact HB.out))) : w.heap.size ≤ gb222)); clear HB; have HB := n0_; have BK222 := n1_; have GW222 := n2_; have GE222 := n3_; clear n0_ n1_ n2_ n3_; clear hb hbox hg) | ((with_reducible refine qp0 (N := 3) rfl ?_); refine qo0 ?hg (N := 3) ?hd (cs := #[.string a1_0, .int .i64 a1_1, .bool a1_2, .slice A1_3 l1_3.length c1_3, .slice A1_4 l1_4.length c1_4]) (t := 143) ?hr ?_; (case hd => rfl); (case hg => rfl); (case hr => first | (go_simp; done) | (go_simp; rfl)); intro gb223 hg w7 hbox hb; have n0_ := Aside0.mk (qn0 (g := gb222) (o := .cells #[.string a0_0, .int .i64 a0_1, .bool a0_2, .slice A0_3 l0_3.length c0_3, .slice A0_4 l0_4.length c0_4] 143 (0, 0)) (by (with_reducible repeat (first | refine qf0 ?_ _ | refine qh0 ?_ | refine qg0 ?_ _)); exact BK222.out) hb); have n1_ := Aside0.mk (qk0 (by repeat (first | (with_reducible first | exact HB.out | apply qc0 | apply qa0 | apply qd0 | refine qi0 ?_ GE222.out) | exact HB.out)) hb); have n2_ := Aside0.mk (hbox); have n3_ := Aside0.mk ((by rw [hg]; exact (qj0 (by repeat (first | (with_reducible first | exact HB.out | apply qc0 | apply qa0 | apply qd0 | refine qi0 ?_ GE222.out) | exact HB.out))) : w.heap.size ≤ gb223)); have n4_ := Aside0.mk ((by rw [hg]; exact (qj0 (by repeat (first | (with_reducible first | exact HB.out | apply qc0 | apply qa0 | apply qd0 | refine qi0 ?_ GE222.out) | exact HB.out))) : w.heap.size ≤ gb223)); have n5_ := Aside0.mk ((by rw [hg]; exact Nat.ne_of_lt (qx0 (g := gb222) (o := .cells #[.string a0_0, .int .i64 a0_1, .bool a0_2, .slice A0_3 l0_3.length c0_3, .slice A0_4 l0_4.length c0_4] 143 (0, 0)) (by (with_reducible repeat (first | refine qf0 ?_ _ | refine qh0 ?_ | refine qg0 ?_ _)); exact BK222.out)) : gb222 ≠ gb223)); have n6_ := Aside0.mk ((by rw [hg]; exact Nat.ne_of_gt (qx0 (g := gb222) (o := .cells #[.string a0_0, .int .i64 a0_1, .bool a0_2, .slice A0_3 l0_3.length c0_3, .slice A0_4 l0_4.length c0_4] 143 (0, 0)) (by (with_reducible repeat (first | refine qf0 ?_ _ | refine qh0 ?_ | refine qg0 ?_ _)); exact BK222.out)) : gb223 ≠ gb222)); clear BK222; clear HB; have BK222 := n0_; have HB := n1_; have BK223 := n2_; have GW223 := n3_; have GE223 := n4_; have NB222_223 := n5_; have NB223_222 := n6_; clear n0_ n1_ n2_ n3_ n4_ n5_ n6_; clear hb hbox hg; have hnb8 := NB222_223.out; have hnc8 := NB223_222.out; have hcz9_0 : w7.cell? ⟨gb222, 0, none⟩ = some (.string a0_0) := (qe0 BK222.out 0).trans rfl; have hcz9_1 : w7.cell? ⟨gb222, 1, none⟩ = some (.int .i64 a0_1) := (qe0 BK222.out 1).trans rfl; have hcz9_2 : w7.cell? ⟨gb222, 2, none⟩ = some (.bool a0_2) := (qe0 BK222.out 2).trans rfl; have hcz9_3 : w7.cell? ⟨gb222, 3, none⟩ = some (.slice A0_3 l0_3.length c0_3) := (qe0 BK222.out 3).trans rfl; have hcz9_4 : w7.cell? ⟨gb222, 4, none⟩ = some (.slice A0_4 l0_4.length c0_4) := (qe0 BK222.out 4).trans rfl; have hfz9_0 := qb0 BK222.out 0; have hfz9_1 := qb0 BK222.out 1; have hfz9_2 := qb0 BK222.out 2; have hfz9_3 := qb0 BK222.out 3; have hfz9_4 := qb0 BK222.out 4; have hcz10_0 : w7.cell? ⟨gb223, 0, none⟩ = some (.string a1_0) := (qe0 BK223.out 0).trans rfl; have hcz10_1 : w7.cell? ⟨gb223, 1, none⟩ = some (.int .i64 a1_1) := (qe0 BK223.out 1).trans rfl; have hcz10_2 : w7.cell? ⟨gb223, 2, none⟩ = some (.bool a1_2) := (qe0 BK223.out 2).trans rfl; have hcz10_3 : w7.cell? ⟨gb223, 3, none⟩ = some (.slice A1_3 l1_3.length c1_3) := (qe0 BK223.out 3).trans rfl; have hcz10_4 : w7.cell? ⟨gb223, 4, none⟩ = some (.slice A1_4 l1_4.length c1_4) := (qe0 BK223.out 4).trans rfl; have hfz10_0 := qb0 BK223.out 0; have hfz10_1 := qb0 BK223.out 1; have hfz10_2 := qb0 BK223.out 2; have hfz10_3 := qb0 BK223.out 3; have hfz10_4 := qb0 BK223.out 4))
    go_ret
    exact ⟨by first | rfl | (simp [errW_none, errW_some] <;> rfl) | (simp [*, errW_none, errW_some] <;> rfl), by repeat (first | (with_reducible first | exact HB.out | apply qc0 | apply qa0 | apply qd0 | refine qi0 ?_ GE222.out | refine qi0 ?_ GE223.out) | exact HB.out)⟩
   rw [if_neg c5] at H
   have c5b0 : (a0_2 != a1_2) = false := by simpa using c5
   (try (have c5b1 : decide (a0_2 = a1_2) = true := by simpa using c5))
   (try (have c5b2 : (a0_2 == a1_2) = true := by simpa using c5))
   clear c5
   replace H := Option.bind_eq_some_iff.mp H
   obtain ⟨t224, A110, H⟩ := H
   replace H : (if t224 = true then ((laws_eqPartS.f k l0_4 l1_4).bind fun t225 => (if t225 = true then (some true) else (some false))) else (some false)) = some r := H
   have A11 := Aside0.mk A110
   clear A110
   by_cases c12 : t224 = true
   ·subst c12
    have H1 : ((laws_eqPartS.f k l0_4 l1_4).bind fun t225 => (if t225 = true then (some true) else (some false))) = some r := by rw [if_pos rfl] at H; exact H
    clear H
    have H := H1
    clear H1
    replace H := Option.bind_eq_some_iff.mp H
    obtain ⟨t225, A130, H⟩ := H
    replace H : (if t225 = true then (some true) else (some false)) = some r := H
    have A13 := Aside0.mk A130
    clear A130
    by_cases c14 : t225 = true
    ·subst c14
     have H1 : (some true) = some r := by rw [if_pos rfl] at H; exact H
     clear H
     have H := H1
     clear H1
     obtain rfl := Option.some.inj H
     go_enter Try.func98, Try.ntmps98
     go_wp2_with (first | ((with_reducible refine qp0 (N := 2) rfl ?_); refine qo0 ?hg (N := 2) ?hd (cs := #[.string a0_0, .int .i64 a0_1, .bool a0_2, .slice A0_3 l0_3.length c0_3, .slice A0_4 l0_4.length c0_4]) (t := 143) ?hr ?_; (case hd => rfl); (case hg => rfl); (case hr => first | (go_simp; done) | (go_simp; rfl)); intro gb222 hg w15 hbox hb; have n0_ := Aside0.mk (qk0 (by repeat (first | (with_reducible first | exact HB.out | apply qc0 | apply qa0 | apply qd0) | exact HB.out)) hb); have n1_ := Aside0.mk (hbox); have n2_ := Aside0.mk ((by rw [hg]; exact (qj0 (by repeat (first | (with_reducible first | exact HB.out | apply qc0 | apply qa0 | apply qd0) | exact HB.out))) : w.heap.size ≤ gb222)); have n3_ := Aside0.mk ((by rw [hg]; exact (qj0 (by repeat (first | (with_reducible first | exact HB.out | apply qc0 | apply qa0 | apply qd0) | exact HB.out))) : w.heap.size ≤ gb222)); clear HB; have HB := n0_; have BK222 := n1_; have GW222 := n2_; have GE222 := n3_; clear n0_ n1_ n2_ n3_; clear hb hbox hg) | ((with_reducible refine qp0 (N := 3) rfl ?_); refine qo0 ?hg (N := 3) ?hd (cs := #[.string a1_0, .int .i64 a1_1, .bool a1_2, .slice A1_3 l1_3.length c1_3, .slice A1_4 l1_4.length c1_4]) (t := 143) ?hr ?_; (case hd => rfl); (case hg => rfl); (case hr => first | (go_simp; done) | (go_simp; rfl)); intro gb223 hg w16 hbox hb; have n0_ := Aside0.mk (qn0 (g := gb222) (o := .cells #[.string a0_0, .int .i64 a0_1, .bool a0_2, .slice A0_3 l0_3.length c0_3, .slice A0_4 l0_4.length c0_4] 143 (0, 0)) (by (with_reducible repeat (first | refine qf0 ?_ _ | refine qh0 ?_ | refine qg0 ?_ _)); exact BK222.out) hb); have n1_ := Aside0.mk (qk0 (by repeat (first | (with_reducible first | exact HB.out | apply qc0 | apply qa0 | apply qd0 | refine qi0 ?_ GE222.out) | exact HB.out)) hb); have n2_ := Aside0.mk (hbox); have n3_ := Aside0.mk ((by rw [hg]; exact (qj0 (by repeat (first | (with_reducible first | exact HB.out | apply qc0 | apply qa0 | apply qd0 | refine qi0 ?_ GE222.out) | exact HB.out))) : w.heap.size ≤ gb223)); have n4_ := Aside0.mk ((by rw [hg]; exact (qj0 (by repeat (first | (with_reducible first | exact HB.out | apply qc0 | apply qa0 | apply qd0 | refine qi0 ?_ GE222.out) | exact HB.out))) : w.heap.size ≤ gb223)); have n5_ := Aside0.mk ((by rw [hg]; exact Nat.ne_of_lt (qx0 (g := gb222) (o := .cells #[.string a0_0, .int .i64 a0_1, .bool a0_2, .slice A0_3 l0_3.length c0_3, .slice A0_4 l0_4.length c0_4] 143 (0, 0)) (by (with_reducible repeat (first | refine qf0 ?_ _ | refine qh0 ?_ | refine qg0 ?_ _)); exact BK222.out)) : gb222 ≠ gb223)); have n6_ := Aside0.mk ((by rw [hg]; exact Nat.ne_of_gt (qx0 (g := gb222) (o := .cells #[.string a0_0, .int .i64 a0_1, .bool a0_2, .slice A0_3 l0_3.length c0_3, .slice A0_4 l0_4.length c0_4] 143 (0, 0)) (by (with_reducible repeat (first | refine qf0 ?_ _ | refine qh0 ?_ | refine qg0 ?_ _)); exact BK222.out)) : gb223 ≠ gb222)); clear BK222; clear HB; have BK222 := n0_; have HB := n1_; have BK223 := n2_; have GW223 := n3_; have GE223 := n4_; have NB222_223 := n5_; have NB223_222 := n6_; clear n0_ n1_ n2_ n3_ n4_ n5_ n6_; clear hb hbox hg; have hnb17 := NB222_223.out; have hnc17 := NB223_222.out; have hcz18_0 : w16.cell? ⟨gb222, 0, none⟩ = some (.string a0_0) := (qe0 BK222.out 0).trans rfl; have hcz18_1 : w16.cell? ⟨gb222, 1, none⟩ = some (.int .i64 a0_1) := (qe0 BK222.out 1).trans rfl; have hcz18_2 : w16.cell? ⟨gb222, 2, none⟩ = some (.bool a0_2) := (qe0 BK222.out 2).trans rfl; have hcz18_3 : w16.cell? ⟨gb222, 3, none⟩ = some (.slice A0_3 l0_3.length c0_3) := (qe0 BK222.out 3).trans rfl; have hcz18_4 : w16.cell? ⟨gb222, 4, none⟩ = some (.slice A0_4 l0_4.length c0_4) := (qe0 BK222.out 4).trans rfl; have hfz18_0 := qb0 BK222.out 0; have hfz18_1 := qb0 BK222.out 1; have hfz18_2 := qb0 BK222.out 2; have hfz18_3 := qb0 BK222.out 3; have hfz18_4 := qb0 BK222.out 4; have hcz19_0 : w16.cell? ⟨gb223, 0, none⟩ = some (.string a1_0) := (qe0 BK223.out 0).trans rfl; have hcz19_1 : w16.cell? ⟨gb223, 1, none⟩ = some (.int .i64 a1_1) := (qe0 BK223.out 1).trans rfl; have hcz19_2 : w16.cell? ⟨gb223, 2, none⟩ = some (.bool a1_2) := (qe0 BK223.out 2).trans rfl; have hcz19_3 : w16.cell? ⟨gb223, 3, none⟩ = some (.slice A1_3 l1_3.length c1_3) := (qe0 BK223.out 3).trans rfl; have hcz19_4 : w16.cell? ⟨gb223, 4, none⟩ = some (.slice A1_4 l1_4.length c1_4) := (qe0 BK223.out 4).trans rfl; have hfz19_0 := qb0 BK223.out 0; have hfz19_1 := qb0 BK223.out 1; have hfz19_2 := qb0 BK223.out 2; have hfz19_3 := qb0 BK223.out 3; have hfz19_4 := qb0 BK223.out 4) | ((with_reducible refine ql0 (f := 179) rfl ?_); refine qs0 (some 24) rfl rfl Try.func179 (by kernel_rfl) rfl #[.slice A0_3 l0_3.length c0_3, .slice A1_3 l1_3.length c1_3] rfl (by (try simp only [List.map_toArray, List.map_cons, List.map_nil]); first | done | rfl | (simp only [List.length_drop, List.length_take]; rfl)) ?_; (with_reducible refine (laws_eqPartS.calls k _ _ l0_3 _ _ l1_3 true _ ?side1 ?side2 ?side3 ?side4 A11.out).mono ?_); (case side1 => repeat (first | exact (Kd.qu0 HR0_3.out HB.out) | (with_reducible refine Kd.qr0 ?_ _) | (with_reducible refine Kd.qq0 ?_ _) | (with_reducible refine Kd.qy0 ?_))); (case side2 => exact HC0_3.out); (case side3 => repeat (first | exact (Kd.qu0 HR1_3.out HB.out) | (with_reducible refine Kd.qr0 ?_ _) | (with_reducible refine Kd.qq0 ?_ _) | (with_reducible refine Kd.qy0 ?_))); (case side4 => exact HC1_3.out); rintro e w20 ⟨rfl, hb⟩; refine ⟨_, rfl, ?_⟩; have n0_ := Aside0.mk (qn0 (g := gb222) (o := .cells #[.string a0_0, .int .i64 a0_1, .bool a0_2, .slice A0_3 l0_3.length c0_3, .slice A0_4 l0_4.length c0_4] 143 (0, 0)) (by (with_reducible repeat (first | refine qf0 ?_ _ | refine qh0 ?_ | refine qg0 ?_ _)); exact BK222.out) hb); have n1_ := Aside0.mk (qn0 (g := gb223) (o := .cells #[.string a1_0, .int .i64 a1_1, .bool a1_2, .slice A1_3 l1_3.length c1_3, .slice A1_4 l1_4.length c1_4] 143 (0, 0)) (by (with_reducible repeat (first | refine qf0 ?_ _ | refine qh0 ?_ | refine qg0 ?_ _)); exact BK223.out) hb); have n2_ := Aside0.mk (qk0 (by repeat (first | (with_reducible first | exact HB.out | apply qc0 | apply qa0 | apply qd0 | refine qi0 ?_ GE222.out | refine qi0 ?_ GE223.out) | exact HB.out)) hb); clear BK222; clear BK223; clear HB; have BK222 := n0_; have BK223 := n1_; have HB := n2_; clear n0_ n1_ n2_; (try clear hb); (try clear hb2); (try clear hk); (try clear hi); have hcz21_0 : w20.cell? ⟨gb222, 0, none⟩ = some (.string a0_0) := (qe0 BK222.out 0).trans rfl; have hcz21_1 : w20.cell? ⟨gb222, 1, none⟩ = some (.int .i64 a0_1) := (qe0 BK222.out 1).trans rfl; have hcz21_2 : w20.cell? ⟨gb222, 2, none⟩ = some (.bool a0_2) := (qe0 BK222.out 2).trans rfl; have hcz21_3 : w20.cell? ⟨gb222, 3, none⟩ = some (.slice A0_3 l0_3.length c0_3) := (qe0 BK222.out 3).trans rfl; have hcz21_4 : w20.cell? ⟨gb222, 4, none⟩ = some (.slice A0_4 l0_4.length c0_4) := (qe0 BK222.out 4).trans rfl; have hfz21_0 := qb0 BK222.out 0; have hfz21_1 := qb0 BK222.out 1; have hfz21_2 := qb0 BK222.out 2; have hfz21_3 := qb0 BK222.out 3; have hfz21_4 := qb0 BK222.out 4; have hcz22_0 : w20.cell? ⟨gb223, 0, none⟩ = some (.string a1_0) := (qe0 BK223.out 0).trans rfl; have hcz22_1 : w20.cell? ⟨gb223, 1, none⟩ = some (.int .i64 a1_1) := (qe0 BK223.out 1).trans rfl; have hcz22_2 : w20.cell? ⟨gb223, 2, none⟩ = some (.bool a1_2) := (qe0 BK223.out 2).trans rfl; have hcz22_3 : w20.cell? ⟨gb223, 3, none⟩ = some (.slice A1_3 l1_3.length c1_3) := (qe0 BK223.out 3).trans rfl; have hcz22_4 : w20.cell? ⟨gb223, 4, none⟩ = some (.slice A1_4 l1_4.length c1_4) := (qe0 BK223.out 4).trans rfl; have hfz22_0 := qb0 BK223.out 0; have hfz22_1 := qb0 BK223.out 1; have hfz22_2 := qb0 BK223.out 2; have hfz22_3 := qb0 BK223.out 3; have hfz22_4 := qb0 BK223.out 4) | ((with_reducible refine ql0 (f := 179) rfl ?_); refine qs0 (some 30) rfl rfl Try.func179 (by kernel_rfl) rfl #[.slice A0_4 l0_4.length c0_4, .slice A1_4 l1_4.length c1_4] rfl (by (try simp only [List.map_toArray, List.map_cons, List.map_nil]); first | done | rfl | (simp only [List.length_drop, List.length_take]; rfl)) ?_; (with_reducible refine (laws_eqPartS.calls k _ _ l0_4 _ _ l1_4 true _ ?side1 ?side2 ?side3 ?side4 A13.out).mono ?_); (case side1 => repeat (first | exact (Kd.qu0 HR0_4.out HB.out) | (with_reducible refine Kd.qr0 ?_ _) | (with_reducible refine Kd.qq0 ?_ _) | (with_reducible refine Kd.qy0 ?_))); (case side2 => exact HC0_4.out); (case side3 => repeat (first | exact (Kd.qu0 HR1_4.out HB.out) | (with_reducible refine Kd.qr0 ?_ _) | (with_reducible refine Kd.qq0 ?_ _) | (with_reducible refine Kd.qy0 ?_))); (case side4 => exact HC1_4.out); rintro e w23 ⟨rfl, hb⟩; refine ⟨_, rfl, ?_⟩; have n0_ := Aside0.mk (qn0 (g := gb222) (o := .cells #[.string a0_0, .int .i64 a0_1, .bool a0_2, .slice A0_3 l0_3.length c0_3, .slice A0_4 l0_4.length c0_4] 143 (0, 0)) (by (with_reducible repeat (first | refine qf0 ?_ _ | refine qh0 ?_ | refine qg0 ?_ _)); exact BK222.out) hb); have n1_ := Aside0.mk (qn0 (g := gb223) (o := .cells #[.string a1_0, .int .i64 a1_1, .bool a1_2, .slice A1_3 l1_3.length c1_3, .slice A1_4 l1_4.length c1_4] 143 (0, 0)) (by (with_reducible repeat (first | refine qf0 ?_ _ | refine qh0 ?_ | refine qg0 ?_ _)); exact BK223.out) hb); have n2_ := Aside0.mk (qk0 (by repeat (first | (with_reducible first | exact HB.out | apply qc0 | apply qa0 | apply qd0 | refine qi0 ?_ GE222.out | refine qi0 ?_ GE223.out) | exact HB.out)) hb); clear BK222; clear BK223; clear HB; have BK222 := n0_; have BK223 := n1_; have HB := n2_; clear n0_ n1_ n2_; (try clear hb); (try clear hb2); (try clear hk); (try clear hi)))
     go_ret
     exact ⟨by first | rfl | (simp [errW_none, errW_some] <;> rfl) | (simp [*, errW_none, errW_some] <;> rfl), by repeat (first | (with_reducible first | exact HB.out | apply qc0 | apply qa0 | apply qd0 | refine qi0 ?_ GE222.out | refine qi0 ?_ GE223.out) | exact HB.out)⟩
    replace c14 := Bool.eq_false_iff.mpr c14
    subst c14
    have H1 : (some false) = some r := by rw [if_neg (show ¬ (false = true) by decide)] at H; exact H
    clear H
    have H := H1
    clear H1
    obtain rfl := Option.some.inj H
    go_enter Try.func98, Try.ntmps98
    go_wp2_with (first | ((with_reducible refine qp0 (N := 2) rfl ?_); refine qo0 ?hg (N := 2) ?hd (cs := #[.string a0_0, .int .i64 a0_1, .bool a0_2, .slice A0_3 l0_3.length c0_3, .slice A0_4 l0_4.length c0_4]) (t := 143) ?hr ?_; (case hd => rfl); (case hg => rfl); (case hr => first | (go_simp; done) | (go_simp; rfl)); intro gb222 hg w24 hbox hb; have n0_ := Aside0.mk (qk0 (by repeat (first | (with_reducible first | exact HB.out | apply qc0 | apply qa0 | apply qd0) | exact HB.out)) hb); have n1_ := Aside0.mk (hbox); have n2_ := Aside0.mk ((by rw [hg]; exact (qj0 (by repeat (first | (with_reducible first | exact HB.out | apply qc0 | apply qa0 | apply qd0) | exact HB.out))) : w.heap.size ≤ gb222)); have n3_ := Aside0.mk ((by rw [hg]; exact (qj0 (by repeat (first | (with_reducible first | exact HB.out | apply qc0 | apply qa0 | apply qd0) | exact HB.out))) : w.heap.size ≤ gb222)); clear HB; have HB := n0_; have BK222 := n1_; have GW222 := n2_; have GE222 := n3_; clear n0_ n1_ n2_ n3_; clear hb hbox hg) | ((with_reducible refine qp0 (N := 3) rfl ?_); refine qo0 ?hg (N := 3) ?hd (cs := #[.string a1_0, .int .i64 a1_1, .bool a1_2, .slice A1_3 l1_3.length c1_3, .slice A1_4 l1_4.length c1_4]) (t := 143) ?hr ?_; (case hd => rfl); (case hg => rfl); (case hr => first | (go_simp; done) | (go_simp; rfl)); intro gb223 hg w25 hbox hb; have n0_ := Aside0.mk (qn0 (g := gb222) (o := .cells #[.string a0_0, .int .i64 a0_1, .bool a0_2, .slice A0_3 l0_3.length c0_3, .slice A0_4 l0_4.length c0_4] 143 (0, 0)) (by (with_reducible repeat (first | refine qf0 ?_ _ | refine qh0 ?_ | refine qg0 ?_ _)); exact BK222.out) hb); have n1_ := Aside0.mk (qk0 (by repeat (first | (with_reducible first | exact HB.out | apply qc0 | apply qa0 | apply qd0 | refine qi0 ?_ GE222.out) | exact HB.out)) hb); have n2_ := Aside0.mk (hbox); have n3_ := Aside0.mk ((by rw [hg]; exact (qj0 (by repeat (first | (with_reducible first | exact HB.out | apply qc0 | apply qa0 | apply qd0 | refine qi0 ?_ GE222.out) | exact HB.out))) : w.heap.size ≤ gb223)); have n4_ := Aside0.mk ((by rw [hg]; exact (qj0 (by repeat (first | (with_reducible first | exact HB.out | apply qc0 | apply qa0 | apply qd0 | refine qi0 ?_ GE222.out) | exact HB.out))) : w.heap.size ≤ gb223)); have n5_ := Aside0.mk ((by rw [hg]; exact Nat.ne_of_lt (qx0 (g := gb222) (o := .cells #[.string a0_0, .int .i64 a0_1, .bool a0_2, .slice A0_3 l0_3.length c0_3, .slice A0_4 l0_4.length c0_4] 143 (0, 0)) (by (with_reducible repeat (first | refine qf0 ?_ _ | refine qh0 ?_ | refine qg0 ?_ _)); exact BK222.out)) : gb222 ≠ gb223)); have n6_ := Aside0.mk ((by rw [hg]; exact Nat.ne_of_gt (qx0 (g := gb222) (o := .cells #[.string a0_0, .int .i64 a0_1, .bool a0_2, .slice A0_3 l0_3.length c0_3, .slice A0_4 l0_4.length c0_4] 143 (0, 0)) (by (with_reducible repeat (first | refine qf0 ?_ _ | refine qh0 ?_ | refine qg0 ?_ _)); exact BK222.out)) : gb223 ≠ gb222)); clear BK222; clear HB; have BK222 := n0_; have HB := n1_; have BK223 := n2_; have GW223 := n3_; have GE223 := n4_; have NB222_223 := n5_; have NB223_222 := n6_; clear n0_ n1_ n2_ n3_ n4_ n5_ n6_; clear hb hbox hg; have hnb26 := NB222_223.out; have hnc26 := NB223_222.out; have hcz27_0 : w25.cell? ⟨gb222, 0, none⟩ = some (.string a0_0) := (qe0 BK222.out 0).trans rfl; have hcz27_1 : w25.cell? ⟨gb222, 1, none⟩ = some (.int .i64 a0_1) := (qe0 BK222.out 1).trans rfl; have hcz27_2 : w25.cell? ⟨gb222, 2, none⟩ = some (.bool a0_2) := (qe0 BK222.out 2).trans rfl; have hcz27_3 : w25.cell? ⟨gb222, 3, none⟩ = some (.slice A0_3 l0_3.length c0_3) := (qe0 BK222.out 3).trans rfl; have hcz27_4 : w25.cell? ⟨gb222, 4, none⟩ = some (.slice A0_4 l0_4.length c0_4) := (qe0 BK222.out 4).trans rfl; have hfz27_0 := qb0 BK222.out 0; have hfz27_1 := qb0 BK222.out 1; have hfz27_2 := qb0 BK222.out 2; have hfz27_3 := qb0 BK222.out 3; have hfz27_4 := qb0 BK222.out 4; have hcz28_0 : w25.cell? ⟨gb223, 0, none⟩ = some (.string a1_0) := (qe0 BK223.out 0).trans rfl; have hcz28_1 : w25.cell? ⟨gb223, 1, none⟩ = some (.int .i64 a1_1) := (qe0 BK223.out 1).trans rfl; have hcz28_2 : w25.cell? ⟨gb223, 2, none⟩ = some (.bool a1_2) := (qe0 BK223.out 2).trans rfl; have hcz28_3 : w25.cell? ⟨gb223, 3, none⟩ = some (.slice A1_3 l1_3.length c1_3) := (qe0 BK223.out 3).trans rfl; have hcz28_4 : w25.cell? ⟨gb223, 4, none⟩ = some (.slice A1_4 l1_4.length c1_4) := (qe0 BK223.out 4).trans rfl; have hfz28_0 := qb0 BK223.out 0; have hfz28_1 := qb0 BK223.out 1; have hfz28_2 := qb0 BK223.out 2; have hfz28_3 := qb0 BK223.out 3; have hfz28_4 := qb0 BK223.out 4) | ((with_reducible refine ql0 (f := 179) rfl ?_); refine qs0 (some 24) rfl rfl Try.func179 (by kernel_rfl) rfl #[.slice A0_3 l0_3.length c0_3, .slice A1_3 l1_3.length c1_3] rfl (by (try simp only [List.map_toArray, List.map_cons, List.map_nil]); first | done | rfl | (simp only [List.length_drop, List.length_take]; rfl)) ?_; (with_reducible refine (laws_eqPartS.calls k _ _ l0_3 _ _ l1_3 true _ ?side1 ?side2 ?side3 ?side4 A11.out).mono ?_); (case side1 => repeat (first | exact (Kd.qu0 HR0_3.out HB.out) | (with_reducible refine Kd.qr0 ?_ _) | (with_reducible refine Kd.qq0 ?_ _) | (with_reducible refine Kd.qy0 ?_))); (case side2 => exact HC0_3.out); (case side3 => repeat (first | exact (Kd.qu0 HR1_3.out HB.out) | (with_reducible refine Kd.qr0 ?_ _) | (with_reducible refine Kd.qq0 ?_ _) | (with_reducible refine Kd.qy0 ?_))); (case side4 => exact HC1_3.out); rintro e w29 ⟨rfl, hb⟩; refine ⟨_, rfl, ?_⟩; have n0_ := Aside0.mk (qn0 (g := gb222) (o := .cells #[.string a0_0, .int .i64 a0_1, .bool a0_2, .slice A0_3 l0_3.length c0_3, .slice A0_4 l0_4.length c0_4] 143 (0, 0)) (by (with_reducible repeat (first | refine qf0 ?_ _ | refine qh0 ?_ | refine qg0 ?_ _)); exact BK222.out) hb); have n1_ := Aside0.mk (qn0 (g := gb223) (o := .cells #[.string a1_0, .int .i64 a1_1, .bool a1_2, .slice A1_3 l1_3.length c1_3, .slice A1_4 l1_4.length c1_4] 143 (0, 0)) (by (with_reducible repeat (first | refine qf0 ?_ _ | refine qh0 ?_ | refine qg0 ?_ _)); exact BK223.out) hb); have n2_ := Aside0.mk (qk0 (by repeat (first | (with_reducible first | exact HB.out | apply qc0 | apply qa0 | apply qd0 | refine qi0 ?_ GE222.out | refine qi0 ?_ GE223.out) | exact HB.out)) hb); clear BK222; clear BK223; clear HB; have BK222 := n0_; have BK223 := n1_; have HB := n2_; clear n0_ n1_ n2_; (try clear hb); (try clear hb2); (try clear hk); (try clear hi); have hcz30_0 : w29.cell? ⟨gb222, 0, none⟩ = some (.string a0_0) := (qe0 BK222.out 0).trans rfl; have hcz30_1 : w29.cell? ⟨gb222, 1, none⟩ = some (.int .i64 a0_1) := (qe0 BK222.out 1).trans rfl; have hcz30_2 : w29.cell? ⟨gb222, 2, none⟩ = some (.bool a0_2) := (qe0 BK222.out 2).trans rfl; have hcz30_3 : w29.cell? ⟨gb222, 3, none⟩ = some (.slice A0_3 l0_3.length c0_3) := (qe0 BK222.out 3).trans rfl; have hcz30_4 : w29.cell? ⟨gb222, 4, none⟩ = some (.slice A0_4 l0_4.length c0_4) := (qe0 BK222.out 4).trans rfl; have hfz30_0 := qb0 BK222.out 0; have hfz30_1 := qb0 BK222.out 1; have hfz30_2 := qb0 BK222.out 2; have hfz30_3 := qb0 BK222.out 3; have hfz30_4 := qb0 BK222.out 4; have hcz31_0 : w29.cell? ⟨gb223, 0, none⟩ = some (.string a1_0) := (qe0 BK223.out 0).trans rfl; have hcz31_1 : w29.cell? ⟨gb223, 1, none⟩ = some (.int .i64 a1_1) := (qe0 BK223.out 1).trans rfl; have hcz31_2 : w29.cell? ⟨gb223, 2, none⟩ = some (.bool a1_2) := (qe0 BK223.out 2).trans rfl; have hcz31_3 : w29.cell? ⟨gb223, 3, none⟩ = some (.slice A1_3 l1_3.length c1_3) := (qe0 BK223.out 3).trans rfl; have hcz31_4 : w29.cell? ⟨gb223, 4, none⟩ = some (.slice A1_4 l1_4.length c1_4) := (qe0 BK223.out 4).trans rfl; have hfz31_0 := qb0 BK223.out 0; have hfz31_1 := qb0 BK223.out 1; have hfz31_2 := qb0 BK223.out 2; have hfz31_3 := qb0 BK223.out 3; have hfz31_4 := qb0 BK223.out 4) | ((with_reducible refine ql0 (f := 179) rfl ?_); refine qs0 (some 30) rfl rfl Try.func179 (by kernel_rfl) rfl #[.slice A0_4 l0_4.length c0_4, .slice A1_4 l1_4.length c1_4] rfl (by (try simp only [List.map_toArray, List.map_cons, List.map_nil]); first | done | rfl | (simp only [List.length_drop, List.length_take]; rfl)) ?_; (with_reducible refine (laws_eqPartS.calls k _ _ l0_4 _ _ l1_4 false _ ?side1 ?side2 ?side3 ?side4 A13.out).mono ?_); (case side1 => repeat (first | exact (Kd.qu0 HR0_4.out HB.out) | (with_reducible refine Kd.qr0 ?_ _) | (with_reducible refine Kd.qq0 ?_ _) | (with_reducible refine Kd.qy0 ?_))); (case side2 => exact HC0_4.out); (case side3 => repeat (first | exact (Kd.qu0 HR1_4.out HB.out) | (with_reducible refine Kd.qr0 ?_ _) | (with_reducible refine Kd.qq0 ?_ _) | (with_reducible refine Kd.qy0 ?_))); (case side4 => exact HC1_4.out); rintro e w32 ⟨rfl, hb⟩; refine ⟨_, rfl, ?_⟩; have n0_ := Aside0.mk (qn0 (g := gb222) (o := .cells #[.string a0_0, .int .i64 a0_1, .bool a0_2, .slice A0_3 l0_3.length c0_3, .slice A0_4 l0_4.length c0_4] 143 (0, 0)) (by (with_reducible repeat (first | refine qf0 ?_ _ | refine qh0 ?_ | refine qg0 ?_ _)); exact BK222.out) hb); have n1_ := Aside0.mk (qn0 (g := gb223) (o := .cells #[.string a1_0, .int .i64 a1_1, .bool a1_2, .slice A1_3 l1_3.length c1_3, .slice A1_4 l1_4.length c1_4] 143 (0, 0)) (by (with_reducible repeat (first | refine qf0 ?_ _ | refine qh0 ?_ | refine qg0 ?_ _)); exact BK223.out) hb); have n2_ := Aside0.mk (qk0 (by repeat (first | (with_reducible first | exact HB.out | apply qc0 | apply qa0 | apply qd0 | refine qi0 ?_ GE222.out | refine qi0 ?_ GE223.out) | exact HB.out)) hb); clear BK222; clear BK223; clear HB; have BK222 := n0_; have BK223 := n1_; have HB := n2_; clear n0_ n1_ n2_; (try clear hb); (try clear hb2); (try clear hk); (try clear hi)))
    go_ret
    exact ⟨by first | rfl | (simp [errW_none, errW_some] <;> rfl) | (simp [*, errW_none, errW_some] <;> rfl), by repeat (first | (with_reducible first | exact HB.out | apply qc0 | apply qa0 | apply qd0 | refine qi0 ?_ GE222.out | refine qi0 ?_ GE223.out) | exact HB.out)⟩
   replace c12 := Bool.eq_false_iff.mpr c12
   subst c12
   have H1 : (some false) = some r := by rw [if_neg (show ¬ (false = true) by decide)] at H; exact H
   clear H
   have H := H1
   clear H1
   obtain rfl := Option.some.inj H
   go_enter Try.func98, Try.ntmps98
   go_wp2_with (first | ((with_reducible refine qp0 (N := 2) rfl ?_); refine qo0 ?hg (N := 2) ?hd (cs := #[.string a0_0, .int .i64 a0_1, .bool a0_2, .slice A0_3 l0_3.length c0_3, .slice A0_4 l0_4.length c0_4]) (t := 143) ?hr ?_; (case hd => rfl); (case hg => rfl); (case hr => first | (go_simp; done) | (go_simp; rfl)); intro gb222 hg w33 hbox hb; have n0_ := Aside0.mk (qk0 (by repeat (first | (with_reducible first | exact HB.out | apply qc0 | apply qa0 | apply qd0) | exact HB.out)) hb); have n1_ := Aside0.mk (hbox); have n2_ := Aside0.mk ((by rw [hg]; exact (qj0 (by repeat (first | (with_reducible first | exact HB.out | apply qc0 | apply qa0 | apply qd0) | exact HB.out))) : w.heap.size ≤ gb222)); have n3_ := Aside0.mk ((by rw [hg]; exact (qj0 (by repeat (first | (with_reducible first | exact HB.out | apply qc0 | apply qa0 | apply qd0) | exact HB.out))) : w.heap.size ≤ gb222)); clear HB; have HB := n0_; have BK222 := n1_; have GW222 := n2_; have GE222 := n3_; clear n0_ n1_ n2_ n3_; clear hb hbox hg) | ((with_reducible refine qp0 (N := 3) rfl ?_); refine qo0 ?hg (N := 3) ?hd (cs := #[.string a1_0, .int .i64 a1_1, .bool a1_2, .slice A1_3 l1_3.length c1_3, .slice A1_4 l1_4.length c1_4]) (t := 143) ?hr ?_; (case hd => rfl); (case hg => rfl); (case hr => first | (go_simp; done) | (go_simp; rfl)); intro gb223 hg w34 hbox hb; have n0_ := Aside0.mk (qn0 (g := gb222) (o := .cells #[.string a0_0, .int .i64 a0_1, .bool a0_2, .slice A0_3 l0_3.length c0_3, .slice A0_4 l0_4.length c0_4] 143 (0, 0)) (by (with_reducible repeat (first | refine qf0 ?_ _ | refine qh0 ?_ | refine qg0 ?_ _)); exact BK222.out) hb); have n1_ := Aside0.mk (qk0 (by repeat (first | (with_reducible first | exact HB.out | apply qc0 | apply qa0 | apply qd0 | refine qi0 ?_ GE222.out) | exact HB.out)) hb); have n2_ := Aside0.mk (hbox); have n3_ := Aside0.mk ((by rw [hg]; exact (qj0 (by repeat (first | (with_reducible first | exact HB.out | apply qc0 | apply qa0 | apply qd0 | refine qi0 ?_ GE222.out) | exact HB.out))) : w.heap.size ≤ gb223)); have n4_ := Aside0.mk ((by rw [hg]; exact (qj0 (by repeat (first | (with_reducible first | exact HB.out | apply qc0 | apply qa0 | apply qd0 | refine qi0 ?_ GE222.out) | exact HB.out))) : w.heap.size ≤ gb223)); have n5_ := Aside0.mk ((by rw [hg]; exact Nat.ne_of_lt (qx0 (g := gb222) (o := .cells #[.string a0_0, .int .i64 a0_1, .bool a0_2, .slice A0_3 l0_3.length c0_3, .slice A0_4 l0_4.length c0_4] 143 (0, 0)) (by (with_reducible repeat (first | refine qf0 ?_ _ | refine qh0 ?_ | refine qg0 ?_ _)); exact BK222.out)) : gb222 ≠ gb223)); have n6_ := Aside0.mk ((by rw [hg]; exact Nat.ne_of_gt (qx0 (g := gb222) (o := .cells #[.string a0_0, .int .i64 a0_1, .bool a0_2, .slice A0_3 l0_3.length c0_3, .slice A0_4 l0_4.length c0_4] 143 (0, 0)) (by (with_reducible repeat (first | refine qf0 ?_ _ | refine qh0 ?_ | refine qg0 ?_ _)); exact BK222.out)) : gb223 ≠ gb222)); clear BK222; clear HB; have BK222 := n0_; have HB := n1_; have BK223 := n2_; have GW223 := n3_; have GE223 := n4_; have NB222_223 := n5_; have NB223_222 := n6_; clear n0_ n1_ n2_ n3_ n4_ n5_ n6_; clear hb hbox hg; have hnb35 := NB222_223.out; have hnc35 := NB223_222.out; have hcz36_0 : w34.cell? ⟨gb222, 0, none⟩ = some (.string a0_0) := (qe0 BK222.out 0).trans rfl; have hcz36_1 : w34.cell? ⟨gb222, 1, none⟩ = some (.int .i64 a0_1) := (qe0 BK222.out 1).trans rfl; have hcz36_2 : w34.cell? ⟨gb222, 2, none⟩ = some (.bool a0_2) := (qe0 BK222.out 2).trans rfl; have hcz36_3 : w34.cell? ⟨gb222, 3, none⟩ = some (.slice A0_3 l0_3.length c0_3) := (qe0 BK222.out 3).trans rfl; have hcz36_4 : w34.cell? ⟨gb222, 4, none⟩ = some (.slice A0_4 l0_4.length c0_4) := (qe0 BK222.out 4).trans rfl; have hfz36_0 := qb0 BK222.out 0; have hfz36_1 := qb0 BK222.out 1; have hfz36_2 := qb0 BK222.out 2; have hfz36_3 := qb0 BK222.out 3; have hfz36_4 := qb0 BK222.out 4; have hcz37_0 : w34.cell? ⟨gb223, 0, none⟩ = some (.string a1_0) := (qe0 BK223.out 0).trans rfl; have hcz37_1 : w34.cell? ⟨gb223, 1, none⟩ = some (.int .i64 a1_1) := (qe0 BK223.out 1).trans rfl; have hcz37_2 : w34.cell? ⟨gb223, 2, none⟩ = some (.bool a1_2) := (qe0 BK223.out 2).trans rfl; have hcz37_3 : w34.cell? ⟨gb223, 3, none⟩ = some (.slice A1_3 l1_3.length c1_3) := (qe0 BK223.out 3).trans rfl; have hcz37_4 : w34.cell? ⟨gb223, 4, none⟩ = some (.slice A1_4 l1_4.length c1_4) := (qe0 BK223.out 4).trans rfl; have hfz37_0 := qb0 BK223.out 0; have hfz37_1 := qb0 BK223.out 1; have hfz37_2 := qb0 BK223.out 2; have hfz37_3 := qb0 BK223.out 3; have hfz37_4 := qb0 BK223.out 4) | ((with_reducible refine ql0 (f := 179) rfl ?_); refine qs0 (some 24) rfl rfl Try.func179 (by kernel_rfl) rfl #[.slice A0_3 l0_3.length c0_3, .slice A1_3 l1_3.length c1_3] rfl (by (try simp only [List.map_toArray, List.map_cons, List.map_nil]); first | done | rfl | (simp only [List.length_drop, List.length_take]; rfl)) ?_; (with_reducible refine (laws_eqPartS.calls k _ _ l0_3 _ _ l1_3 false _ ?side1 ?side2 ?side3 ?side4 A11.out).mono ?_); (case side1 => repeat (first | exact (Kd.qu0 HR0_3.out HB.out) | (with_reducible refine Kd.qr0 ?_ _) | (with_reducible refine Kd.qq0 ?_ _) | (with_reducible refine Kd.qy0 ?_))); (case side2 => exact HC0_3.out); (case side3 => repeat (first | exact (Kd.qu0 HR1_3.out HB.out) | (with_reducible refine Kd.qr0 ?_ _) | (with_reducible refine Kd.qq0 ?_ _) | (with_reducible refine Kd.qy0 ?_))); (case side4 => exact HC1_3.out); rintro e w38 ⟨rfl, hb⟩; refine ⟨_, rfl, ?_⟩; have n0_ := Aside0.mk (qn0 (g := gb222) (o := .cells #[.string a0_0, .int .i64 a0_1, .bool a0_2, .slice A0_3 l0_3.length c0_3, .slice A0_4 l0_4.length c0_4] 143 (0, 0)) (by (with_reducible repeat (first | refine qf0 ?_ _ | refine qh0 ?_ | refine qg0 ?_ _)); exact BK222.out) hb); have n1_ := Aside0.mk (qn0 (g := gb223) (o := .cells #[.string a1_0, .int .i64 a1_1, .bool a1_2, .slice A1_3 l1_3.length c1_3, .slice A1_4 l1_4.length c1_4] 143 (0, 0)) (by (with_reducible repeat (first | refine qf0 ?_ _ | refine qh0 ?_ | refine qg0 ?_ _)); exact BK223.out) hb); have n2_ := Aside0.mk (qk0 (by repeat (first | (with_reducible first | exact HB.out | apply qc0 | apply qa0 | apply qd0 | refine qi0 ?_ GE222.out | refine qi0 ?_ GE223.out) | exact HB.out)) hb); clear BK222; clear BK223; clear HB; have BK222 := n0_; have BK223 := n1_; have HB := n2_; clear n0_ n1_ n2_; (try clear hb); (try clear hb2); (try clear hk); (try clear hi)))
   go_ret
   exact ⟨by first | rfl | (simp [errW_none, errW_some] <;> rfl) | (simp [*, errW_none, errW_some] <;> rfl), by repeat (first | (with_reducible first | exact HB.out | apply qc0 | apply qa0 | apply qd0 | refine qi0 ?_ GE222.out | refine qi0 ?_ GE223.out) | exact HB.out)⟩
  rw [if_neg c4] at H
  have c4b0 : (a0_1 == a1_1) = false := beq_eq_false_iff_ne.mpr c4
  have c4b1 : (a0_1 != a1_1) = true := bne_iff_ne.mpr c4
  obtain rfl := Option.some.inj H
  go_enter Try.func98, Try.ntmps98
  go_wp2_with (first | ((with_reducible refine qp0 (N := 2) rfl ?_); refine qo0 ?hg (N := 2) ?hd (cs := #[.string a0_0, .int .i64 a0_1, .bool a0_2, .slice A0_3 l0_3.length c0_3, .slice A0_4 l0_4.length c0_4]) (t := 143) ?hr ?_; (case hd => rfl); (case hg => rfl); (case hr => first | (go_simp; done) | (go_simp; rfl)); intro gb222 hg w39 hbox hb; have n0_ := Aside0.mk (qk0 (by repeat (first | (with_reducible first | exact HB.out | apply qc0 | apply qa0 | apply qd0) | exact HB.out)) hb); have n1_ := Aside0.mk (hbox); have n2_ := Aside0.mk ((by rw [hg]; exact (qj0 (by repeat (first | (with_reducible first | exact HB.out | apply qc0 | apply qa0 | apply qd0) | exact HB.out))) : w.heap.size ≤ gb222)); have n3_ := Aside0.mk ((by rw [hg]; exact (qj0 (by repeat (first | (with_reducible first | exact HB.out | apply qc0 | apply qa0 | apply qd0) | exact HB.out))) : w.heap.size ≤ gb222)); clear HB; have HB := n0_; have BK222 := n1_; have GW222 := n2_; have GE222 := n3_; clear n0_ n1_ n2_ n3_; clear hb hbox hg) | ((with_reducible refine qp0 (N := 3) rfl ?_); refine qo0 ?hg (N := 3) ?hd (cs := #[.string a1_0, .int .i64 a1_1, .bool a1_2, .slice A1_3 l1_3.length c1_3, .slice A1_4 l1_4.length c1_4]) (t := 143) ?hr ?_; (case hd => rfl); (case hg => rfl); (case hr => first | (go_simp; done) | (go_simp; rfl)); intro gb223 hg w40 hbox hb; have n0_ := Aside0.mk (qn0 (g := gb222) (o := .cells #[.string a0_0, .int .i64 a0_1, .bool a0_2, .slice A0_3 l0_3.length c0_3, .slice A0_4 l0_4.length c0_4] 143 (0, 0)) (by (with_reducible repeat (first | refine qf0 ?_ _ | refine qh0 ?_ | refine qg0 ?_ _)); exact BK222.out) hb); have n1_ := Aside0.mk (qk0 (by repeat (first | (with_reducible first | exact HB.out | apply qc0 | apply qa0 | apply qd0 | refine qi0 ?_ GE222.out) | exact HB.out)) hb); have n2_ := Aside0.mk (hbox); have n3_ := Aside0.mk ((by rw [hg]; exact (qj0 (by repeat (first | (with_reducible first | exact HB.out | apply qc0 | apply qa0 | apply qd0 | refine qi0 ?_ GE222.out) | exact HB.out))) : w.heap.size ≤ gb223)); have n4_ := Aside0.mk ((by rw [hg]; exact (qj0 (by repeat (first | (with_reducible first | exact HB.out | apply qc0 | apply qa0 | apply qd0 | refine qi0 ?_ GE222.out) | exact HB.out))) : w.heap.size ≤ gb223)); have n5_ := Aside0.mk ((by rw [hg]; exact Nat.ne_of_lt (qx0 (g := gb222) (o := .cells #[.string a0_0, .int .i64 a0_1, .bool a0_2, .slice A0_3 l0_3.length c0_3, .slice A0_4 l0_4.length c0_4] 143 (0, 0)) (by (with_reducible repeat (first | refine qf0 ?_ _ | refine qh0 ?_ | refine qg0 ?_ _)); exact BK222.out)) : gb222 ≠ gb223)); have n6_ := Aside0.mk ((by rw [hg]; exact Nat.ne_of_gt (qx0 (g := gb222) (o := .cells #[.string a0_0, .int .i64 a0_1, .bool a0_2, .slice A0_3 l0_3.length c0_3, .slice A0_4 l0_4.length c0_4] 143 (0, 0)) (by (with_reducible repeat (first | refine qf0 ?_ _ | refine qh0 ?_ | refine qg0 ?_ _)); exact BK222.out)) : gb223 ≠ gb222)); clear BK222; clear HB; have BK222 := n0_; have HB := n1_; have BK223 := n2_; have GW223 := n3_; have GE223 := n4_; have NB222_223 := n5_; have NB223_222 := n6_; clear n0_ n1_ n2_ n3_ n4_ n5_ n6_; clear hb hbox hg; have hnb41 := NB222_223.out; have hnc41 := NB223_222.out; have hcz42_0 : w40.cell? ⟨gb222, 0, none⟩ = some (.string a0_0) := (qe0 BK222.out 0).trans rfl; have hcz42_1 : w40.cell? ⟨gb222, 1, none⟩ = some (.int .i64 a0_1) := (qe0 BK222.out 1).trans rfl; have hcz42_2 : w40.cell? ⟨gb222, 2, none⟩ = some (.bool a0_2) := (qe0 BK222.out 2).trans rfl; have hcz42_3 : w40.cell? ⟨gb222, 3, none⟩ = some (.slice A0_3 l0_3.length c0_3) := (qe0 BK222.out 3).trans rfl; have hcz42_4 : w40.cell? ⟨gb222, 4, none⟩ = some (.slice A0_4 l0_4.length c0_4) := (qe0 BK222.out 4).trans rfl; have hfz42_0 := qb0 BK222.out 0; have hfz42_1 := qb0 BK222.out 1; have hfz42_2 := qb0 BK222.out 2; have hfz42_3 := qb0 BK222.out 3; have hfz42_4 := qb0 BK222.out 4; have hcz43_0 : w40.cell? ⟨gb223, 0, none⟩ = some (.string a1_0) := (qe0 BK223.out 0).trans rfl; have hcz43_1 : w40.cell? ⟨gb223, 1, none⟩ = some (.int .i64 a1_1) := (qe0 BK223.out 1).trans rfl; have hcz43_2 : w40.cell? ⟨gb223, 2, none⟩ = some (.bool a1_2) := (qe0 BK223.out 2).trans rfl; have hcz43_3 : w40.cell? ⟨gb223, 3, none⟩ = some (.slice A1_3 l1_3.length c1_3) := (qe0 BK223.out 3).trans rfl; have hcz43_4 : w40.cell? ⟨gb223, 4, none⟩ = some (.slice A1_4 l1_4.length c1_4) := (qe0 BK223.out 4).trans rfl; have hfz43_0 := qb0 BK223.out 0; have hfz43_1 := qb0 BK223.out 1; have hfz43_2 := qb0 BK223.out 2; have hfz43_3 := qb0 BK223.out 3; have hfz43_4 := qb0 BK223.out 4))
  go_ret
  exact ⟨by first | rfl | (simp [errW_none, errW_some] <;> rfl) | (simp [*, errW_none, errW_some] <;> rfl), by repeat (first | (with_reducible first | exact HB.out | apply qc0 | apply qa0 | apply qd0 | refine qi0 ?_ GE222.out | refine qi0 ?_ GE223.out) | exact HB.out)⟩
 rw [if_neg c3] at H
 have c3b0 : (a0_0.toList == a1_0.toList) = false := beq_eq_false_iff_ne.mpr c3
 have c3b1 : (a0_0.toList != a1_0.toList) = true := bne_iff_ne.mpr c3
 obtain rfl := Option.some.inj H
 go_enter Try.func98, Try.ntmps98
 go_wp2_with (first | ((with_reducible refine qp0 (N := 2) rfl ?_); refine qo0 ?hg (N := 2) ?hd (cs := #[.string a0_0, .int .i64 a0_1, .bool a0_2, .slice A0_3 l0_3.length c0_3, .slice A0_4 l0_4.length c0_4]) (t := 143) ?hr ?_; (case hd => rfl); (case hg => rfl); (case hr => first | (go_simp; done) | (go_simp; rfl)); intro gb222 hg w44 hbox hb; have n0_ := Aside0.mk (qk0 (by repeat (first | (with_reducible first | exact HB.out | apply qc0 | apply qa0 | apply qd0) | exact HB.out)) hb); have n1_ := Aside0.mk (hbox); have n2_ := Aside0.mk ((by rw [hg]; exact (qj0 (by repeat (first | (with_reducible first | exact HB.out | apply qc0 | apply qa0 | apply qd0) | exact HB.out))) : w.heap.size ≤ gb222)); have n3_ := Aside0.mk ((by rw [hg]; exact (qj0 (by repeat (first | (with_reducible first | exact HB.out | apply qc0 | apply qa0 | apply qd0) | exact HB.out))) : w.heap.size ≤ gb222)); clear HB; have HB := n0_; have BK222 := n1_; have GW222 := n2_; have GE222 := n3_; clear n0_ n1_ n2_ n3_; clear hb hbox hg) | ((with_reducible refine qp0 (N := 3) rfl ?_); refine qo0 ?hg (N := 3) ?hd (cs := #[.string a1_0, .int .i64 a1_1, .bool a1_2, .slice A1_3 l1_3.length c1_3, .slice A1_4 l1_4.length c1_4]) (t := 143) ?hr ?_; (case hd => rfl); (case hg => rfl); (case hr => first | (go_simp; done) | (go_simp; rfl)); intro gb223 hg w45 hbox hb; have n0_ := Aside0.mk (qn0 (g := gb222) (o := .cells #[.string a0_0, .int .i64 a0_1, .bool a0_2, .slice A0_3 l0_3.length c0_3, .slice A0_4 l0_4.length c0_4] 143 (0, 0)) (by (with_reducible repeat (first | refine qf0 ?_ _ | refine qh0 ?_ | refine qg0 ?_ _)); exact BK222.out) hb); have n1_ := Aside0.mk (qk0 (by repeat (first | (with_reducible first | exact HB.out | apply qc0 | apply qa0 | apply qd0 | refine qi0 ?_ GE222.out) | exact HB.out)) hb); have n2_ := Aside0.mk (hbox); have n3_ := Aside0.mk ((by rw [hg]; exact (qj0 (by repeat (first | (with_reducible first | exact HB.out | apply qc0 | apply qa0 | apply qd0 | refine qi0 ?_ GE222.out) | exact HB.out))) : w.heap.size ≤ gb223)); have n4_ := Aside0.mk ((by rw [hg]; exact (qj0 (by repeat (first | (with_reducible first | exact HB.out | apply qc0 | apply qa0 | apply qd0 | refine qi0 ?_ GE222.out) | exact HB.out))) : w.heap.size ≤ gb223)); have n5_ := Aside0.mk ((by rw [hg]; exact Nat.ne_of_lt (qx0 (g := gb222) (o := .cells #[.string a0_0, .int .i64 a0_1, .bool a0_2, .slice A0_3 l0_3.length c0_3, .slice A0_4 l0_4.length c0_4] 143 (0, 0)) (by (with_reducible repeat (first | refine qf0 ?_ _ | refine qh0 ?_ | refine qg0 ?_ _)); exact BK222.out)) : gb222 ≠ gb223)); have n6_ := Aside0.mk ((by rw [hg]; exact Nat.ne_of_gt (qx0 (g := gb222) (o := .cells #[.string a0_0, .int .i64 a0_1, .bool a0_2, .slice A0_3 l0_3.length c0_3, .slice A0_4 l0_4.length c0_4] 143 (0, 0)) (by (with_reducible repeat (first | refine qf0 ?_ _ | refine qh0 ?_ | refine qg0 ?_ _)); exact BK222.out)) : gb223 ≠ gb222)); clear BK222; clear HB; have BK222 := n0_; have HB := n1_; have BK223 := n2_; have GW223 := n3_; have GE223 := n4_; have NB222_223 := n5_; have NB223_222 := n6_; clear n0_ n1_ n2_ n3_ n4_ n5_ n6_; clear hb hbox hg; have hnb46 := NB222_223.out; have hnc46 := NB223_222.out; have hcz47_0 : w45.cell? ⟨gb222, 0, none⟩ = some (.string a0_0) := (qe0 BK222.out 0).trans rfl; have hcz47_1 : w45.cell? ⟨gb222, 1, none⟩ = some (.int .i64 a0_1) := (qe0 BK222.out 1).trans rfl; have hcz47_2 : w45.cell? ⟨gb222, 2, none⟩ = some (.bool a0_2) := (qe0 BK222.out 2).trans rfl; have hcz47_3 : w45.cell? ⟨gb222, 3, none⟩ = some (.slice A0_3 l0_3.length c0_3) := (qe0 BK222.out 3).trans rfl; have hcz47_4 : w45.cell? ⟨gb222, 4, none⟩ = some (.slice A0_4 l0_4.length c0_4) := (qe0 BK222.out 4).trans rfl; have hfz47_0 := qb0 BK222.out 0; have hfz47_1 := qb0 BK222.out 1; have hfz47_2 := qb0 BK222.out 2; have hfz47_3 := qb0 BK222.out 3; have hfz47_4 := qb0 BK222.out 4; have hcz48_0 : w45.cell? ⟨gb223, 0, none⟩ = some (.string a1_0) := (qe0 BK223.out 0).trans rfl; have hcz48_1 : w45.cell? ⟨gb223, 1, none⟩ = some (.int .i64 a1_1) := (qe0 BK223.out 1).trans rfl; have hcz48_2 : w45.cell? ⟨gb223, 2, none⟩ = some (.bool a1_2) := (qe0 BK223.out 2).trans rfl; have hcz48_3 : w45.cell? ⟨gb223, 3, none⟩ = some (.slice A1_3 l1_3.length c1_3) := (qe0 BK223.out 3).trans rfl; have hcz48_4 : w45.cell? ⟨gb223, 4, none⟩ = some (.slice A1_4 l1_4.length c1_4) := (qe0 BK223.out 4).trans rfl; have hfz48_0 := qb0 BK223.out 0; have hfz48_1 := qb0 BK223.out 1; have hfz48_2 := qb0 BK223.out 2; have hfz48_3 := qb0 BK223.out 3; have hfz48_4 := qb0 BK223.out 4))
 go_ret
 exact ⟨by first | rfl | (simp [errW_none, errW_some] <;> rfl) | (simp [*, errW_none, errW_some] <;> rfl), by repeat (first | (with_reducible first | exact HB.out | apply qc0 | apply qa0 | apply qd0 | refine qi0 ?_ GE222.out | refine qi0 ?_ GE223.out) | exact HB.out)⟩

end Go.Proofs.Ytflagondodkonaa.PFnExactItemsOk
