/- Lines by a program (a changed copy of the kit's print: this repo's wip/tools): Go functions as Lean functions, and proofs that the calls answer so. -/
import Derived.Test.YtinibkdbfpafcaaZPFnMovedx0
import Derived.Test.YtinibkdbfpafcaaZPFnMovedx6
import Derived.Test.YtinibkdbfpafcaaZPFnMovedx7
import Derived.Test.YtinibkdbfpafcaaZPFnMovedx8
import Derived.Test.YtinibkdbfpafcaaZPFnMovedx9
namespace Go.Proofs.Ytinibkdbfpafcaa.PFnMoved
open Go.RowKit Go.Proofs.YtinibkdbfpafcaaW.PrintWords Go.Proofs.YtinibkdbfpafcaaW.PrintLast Go.Proofs.YtinibkdbfpafcaaW.PrintMore
attribute [local go_sem] max2_int min2_int max_two min_two max_three min_three max_four min_four   -- for this text's walks alone
set_option linter.unusedVariables false
set_option linter.unusedSimpArgs false

/-! ### spec_l15Cell: function 192 -/
def spec_l15Cell.f (k : Nat) (a0_0 : ByteArray) (a0_1 : ByteArray) (a0_2 : ByteArray) (a0_3 : Int) (a0_4 : Int) (a0_5 : Int) : Option (Bool) := (spec_NameOk.f k a0_0).bind fun t373 => (if t373 = true then ((spec_NameOk.f k a0_1).bind fun t374 => (if t374 = true then (if a0_2.toList = ([] : List UInt8) then ((spec_l2Day.f a0_3).bind fun t375 => (if t375 = true then ((spec_l12Qty.f a0_4).bind fun t376 => (if t376 = true then ((spec_l1In.f a0_5 0 a0_4).bind fun t377 => (some t377)) else (some false))) else (some false))) else ((spec_NameOk.f k a0_2).bind fun t378 => (if t378 = true then ((spec_l2Day.f a0_3).bind fun t379 => (if t379 = true then ((spec_l12Qty.f a0_4).bind fun t380 => (if t380 = true then ((spec_l1In.f a0_5 0 a0_4).bind fun t381 => (some t381)) else (some false))) else (some false))) else (some false)))) else (some false))) else (some false))
theorem spec_l15Cell.mono : ∀ a0 a1 a2 a3 a4 a5 k, LeO (spec_l15Cell.f k a0 a1 a2 a3 a4 a5) (spec_l15Cell.f (k + 1) a0 a1 a2 a3 a4 a5) := by
 intro a0 a1 a2 a3 a4 a5 k
 unfold spec_l15Cell.f
 repeat' first
   | (with_reducible exact spec_NameOk.mono _ _)
   | (with_reducible exact LeO.refl _)
   | (with_reducible exact LeO.none _)
   | (with_reducible refine LeO.ite ?_ ?_)
   | (with_reducible refine LeO.bind ?_ (fun _ => ?_))
   | exact spec_NameOk.mono _ _
   | exact LeO.none _
   | refine LeO.ite ?_ ?_
   | refine LeO.bind ?_ (fun _ => ?_)
set_option maxHeartbeats 8000000 in
set_option maxRecDepth 100000 in
theorem spec_l15Cell.calls (k : Nat) (a0_0 : ByteArray) (a0_1 : ByteArray) (a0_2 : ByteArray) (a0_3 : Int) (a0_4 : Int) (a0_5 : Int) (r : Bool) (w : World) (h : spec_l15Cell.f k a0_0 a0_1 a0_2 a0_3 a0_4 a0_5 = some r) :
  Calls Try.prog 192 #[.agg #[.string a0_0, .string a0_1, .string a0_2, .int .i64 a0_3, .int .i64 a0_4, .int .i64 a0_5]] w fun e w' => e = .returned (.bool r) ∧ Below w.heap.size w w' := by
 have hu117 := Try.underlying117
 have HB := Aside0.mk (Below.refl w.heap.size w)
 have H : ((spec_NameOk.f k a0_0).bind fun t373 => (if t373 = true then ((spec_NameOk.f k a0_1).bind fun t374 => (if t374 = true then (if a0_2.toList = ([] : List UInt8) then ((spec_l2Day.f a0_3).bind fun t375 => (if t375 = true then ((spec_l12Qty.f a0_4).bind fun t376 => (if t376 = true then ((spec_l1In.f a0_5 0 a0_4).bind fun t377 => (some t377)) else (some false))) else (some false))) else ((spec_NameOk.f k a0_2).bind fun t378 => (if t378 = true then ((spec_l2Day.f a0_3).bind fun t379 => (if t379 = true then ((spec_l12Qty.f a0_4).bind fun t380 => (if t380 = true then ((spec_l1In.f a0_5 0 a0_4).bind fun t381 => (some t381)) else (some false))) else (some false))) else (some false)))) else (some false))) else (some false))) = some r := h
 clear h
 replace H := Option.bind_eq_some_iff.mp H
 obtain ⟨t373, A20, H⟩ := H
 replace H : (if t373 = true then ((spec_NameOk.f k a0_1).bind fun t374 => (if t374 = true then (if a0_2.toList = ([] : List UInt8) then ((spec_l2Day.f a0_3).bind fun t375 => (if t375 = true then ((spec_l12Qty.f a0_4).bind fun t376 => (if t376 = true then ((spec_l1In.f a0_5 0 a0_4).bind fun t377 => (some t377)) else (some false))) else (some false))) else ((spec_NameOk.f k a0_2).bind fun t378 => (if t378 = true then ((spec_l2Day.f a0_3).bind fun t379 => (if t379 = true then ((spec_l12Qty.f a0_4).bind fun t380 => (if t380 = true then ((spec_l1In.f a0_5 0 a0_4).bind fun t381 => (some t381)) else (some false))) else (some false))) else (some false)))) else (some false))) else (some false)) = some r := H
 have A2 := Aside0.mk A20
 clear A20
 by_cases c3 : t373 = true
 ·subst c3
  have H1 : ((spec_NameOk.f k a0_1).bind fun t374 => (if t374 = true then (if a0_2.toList = ([] : List UInt8) then ((spec_l2Day.f a0_3).bind fun t375 => (if t375 = true then ((spec_l12Qty.f a0_4).bind fun t376 => (if t376 = true then ((spec_l1In.f a0_5 0 a0_4).bind fun t377 => (some t377)) else (some false))) else (some false))) else ((spec_NameOk.f k a0_2).bind fun t378 => (if t378 = true then ((spec_l2Day.f a0_3).bind fun t379 => (if t379 = true then ((spec_l12Qty.f a0_4).bind fun t380 => (if t380 = true then ((spec_l1In.f a0_5 0 a0_4).bind fun t381 => (some t381)) else (some false))) else (some false))) else (some false)))) else (some false))) = some r := by rw [if_pos rfl] at H; exact H
  clear H
  have H := H1
  clear H1
  replace H := Option.bind_eq_some_iff.mp H
  obtain ⟨t374, A40, H⟩ := H
  replace H : (if t374 = true then (if a0_2.toList = ([] : List UInt8) then ((spec_l2Day.f a0_3).bind fun t375 => (if t375 = true then ((spec_l12Qty.f a0_4).bind fun t376 => (if t376 = true then ((spec_l1In.f a0_5 0 a0_4).bind fun t377 => (some t377)) else (some false))) else (some false))) else ((spec_NameOk.f k a0_2).bind fun t378 => (if t378 = true then ((spec_l2Day.f a0_3).bind fun t379 => (if t379 = true then ((spec_l12Qty.f a0_4).bind fun t380 => (if t380 = true then ((spec_l1In.f a0_5 0 a0_4).bind fun t381 => (some t381)) else (some false))) else (some false))) else (some false)))) else (some false)) = some r := H
  have A4 := Aside0.mk A40
  clear A40
  by_cases c5 : t374 = true
  ·subst c5
   have H1 : (if a0_2.toList = ([] : List UInt8) then ((spec_l2Day.f a0_3).bind fun t375 => (if t375 = true then ((spec_l12Qty.f a0_4).bind fun t376 => (if t376 = true then ((spec_l1In.f a0_5 0 a0_4).bind fun t377 => (some t377)) else (some false))) else (some false))) else ((spec_NameOk.f k a0_2).bind fun t378 => (if t378 = true then ((spec_l2Day.f a0_3).bind fun t379 => (if t379 = true then ((spec_l12Qty.f a0_4).bind fun t380 => (if t380 = true then ((spec_l1In.f a0_5 0 a0_4).bind fun t381 => (some t381)) else (some false))) else (some false))) else (some false)))) = some r := by rw [if_pos rfl] at H; exact H
   clear H
   have H := H1
   clear H1
   by_cases c6 : a0_2.toList = ([] : List UInt8)
   ·rw [if_pos c6] at H
    have c6b0 : (a0_2.toList == ([] : List UInt8)) = true := beq_iff_eq.mpr c6
    have c6b1 : (a0_2.toList != ([] : List UInt8)) = false := bne_eq_false_iff_eq.mpr c6
    clear c6
    replace H := Option.bind_eq_some_iff.mp H
    obtain ⟨t375, A70, H⟩ := H
    replace H : (if t375 = true then ((spec_l12Qty.f a0_4).bind fun t376 => (if t376 = true then ((spec_l1In.f a0_5 0 a0_4).bind fun t377 => (some t377)) else (some false))) else (some false)) = some r := H
    have A7 := Aside0.mk A70
    clear A70
    by_cases c8 : t375 = true
    ·subst c8
     have H1 : ((spec_l12Qty.f a0_4).bind fun t376 => (if t376 = true then ((spec_l1In.f a0_5 0 a0_4).bind fun t377 => (some t377)) else (some false))) = some r := by rw [if_pos rfl] at H; exact H
     clear H
     have H := H1
     clear H1
     replace H := Option.bind_eq_some_iff.mp H
     obtain ⟨t376, A90, H⟩ := H
     replace H : (if t376 = true then ((spec_l1In.f a0_5 0 a0_4).bind fun t377 => (some t377)) else (some false)) = some r := H
     have A9 := Aside0.mk A90
     clear A90
     by_cases c10 : t376 = true
     ·subst c10
      have H1 : ((spec_l1In.f a0_5 0 a0_4).bind fun t377 => (some t377)) = some r := by rw [if_pos rfl] at H; exact H
      clear H
      have H := H1
      clear H1
      replace H := Option.bind_eq_some_iff.mp H
      obtain ⟨t377, A110, H⟩ := H
      replace H : (some t377) = some r := H
      have A11 := Aside0.mk A110
      clear A110
      obtain rfl := Option.some.inj H
      go_enter Try.func192, Try.ntmps192
      go_wp2_with (first | ((with_reducible refine gate_dst (N := 1) rfl ?_); refine qh1 ?hg (N := 1) ?hd (cs := #[.string a0_0, .string a0_1, .string a0_2, .int .i64 a0_3, .int .i64 a0_4, .int .i64 a0_5]) (t := 117) ?hr ?_; (case hd => rfl); (case hg => rfl); (case hr => first | (go_simp; done) | (go_simp; rfl)); intro gb372 hg w12 hbox hb; have n0_ := Aside0.mk (qk0 (by repeat (first | (with_reducible first | exact HB.out | apply qc0 | apply qa0 | apply qb0) | exact HB.out)) hb); have n1_ := Aside0.mk (hbox); have n2_ := Aside0.mk ((by rw [hg]; exact (ql0 (by repeat (first | (with_reducible first | exact HB.out | apply qc0 | apply qa0 | apply qb0) | exact HB.out))) : w.heap.size ≤ gb372)); have n3_ := Aside0.mk ((by rw [hg]; exact (ql0 (by repeat (first | (with_reducible first | exact HB.out | apply qc0 | apply qa0 | apply qb0) | exact HB.out))) : w.heap.size ≤ gb372)); clear HB; have HB := n0_; have BK372 := n1_; have GW372 := n2_; have GE372 := n3_; clear n0_ n1_ n2_ n3_; clear hb hbox hg; have hcz13_0 : w12.cell? ⟨gb372, 0, none⟩ = some (.string a0_0) := (qe0 BK372.out 0).trans rfl; have hcz13_1 : w12.cell? ⟨gb372, 1, none⟩ = some (.string a0_1) := (qe0 BK372.out 1).trans rfl; have hcz13_2 : w12.cell? ⟨gb372, 2, none⟩ = some (.string a0_2) := (qe0 BK372.out 2).trans rfl; have hcz13_3 : w12.cell? ⟨gb372, 3, none⟩ = some (.int .i64 a0_3) := (qe0 BK372.out 3).trans rfl; have hcz13_4 : w12.cell? ⟨gb372, 4, none⟩ = some (.int .i64 a0_4) := (qe0 BK372.out 4).trans rfl; have hcz13_5 : w12.cell? ⟨gb372, 5, none⟩ = some (.int .i64 a0_5) := (qe0 BK372.out 5).trans rfl; have hfz13_0 := qd0 BK372.out 0; have hfz13_1 := qd0 BK372.out 1; have hfz13_2 := qd0 BK372.out 2; have hfz13_3 := qd0 BK372.out 3; have hfz13_4 := qd0 BK372.out 4; have hfz13_5 := qd0 BK372.out 5) | ((with_reducible refine qo0 (f := 91) rfl ?_); refine qz0 (some 5) rfl rfl Try.func91 (by kernel_rfl) rfl #[.string a0_0] rfl (by (try simp only [List.map_toArray, List.map_cons, List.map_nil]); first | done | rfl | (simp only [List.length_drop, List.length_take]; rfl)) ?_; (with_reducible refine (spec_NameOk.calls k a0_0 true _ A2.out).mono ?_); rintro e w' ⟨rfl, ⟨nd, rfl⟩⟩; refine ⟨_, rfl, ?_⟩) | (go_at_call 91; (with_reducible refine (spec_NameOk.calls k a0_1 true _ A4.out).mono ?_); rintro e w' ⟨rfl, ⟨nd, rfl⟩⟩) | (go_at_call 118; (with_reducible refine (spec_l2Day.calls a0_3 true _ A7.out).mono ?_); rintro e w' ⟨rfl, ⟨nd, rfl⟩⟩) | (go_at_call 90; (with_reducible refine (spec_l12Qty.calls a0_4 true _ A9.out).mono ?_); rintro e w' ⟨rfl, ⟨nd, rfl⟩⟩) | (go_at_call 92; (with_reducible refine (spec_l1In.calls a0_5 0 a0_4 t377 _ A11.out).mono ?_); rintro e w' ⟨rfl, ⟨nd, rfl⟩⟩))
      go_ret
      exact ⟨by first | rfl | (simp [errW_none, errW_some] <;> rfl) | (simp [*, errW_none, errW_some] <;> rfl), by repeat (first | (with_reducible first | exact HB.out | apply qc0 | apply qa0 | apply qb0 | refine qg0 ?_ GE372.out) | exact HB.out)⟩
     replace c10 := Bool.eq_false_iff.mpr c10
     subst c10
     have H1 : (some false) = some r := by rw [if_neg (show ¬ (false = true) by decide)] at H; exact H
     clear H
     have H := H1
     clear H1
     obtain rfl := Option.some.inj H
     go_enter Try.func192, Try.ntmps192
     go_wp2_with (first | ((with_reducible refine gate_dst (N := 1) rfl ?_); refine qh1 ?hg (N := 1) ?hd (cs := #[.string a0_0, .string a0_1, .string a0_2, .int .i64 a0_3, .int .i64 a0_4, .int .i64 a0_5]) (t := 117) ?hr ?_; (case hd => rfl); (case hg => rfl); (case hr => first | (go_simp; done) | (go_simp; rfl)); intro gb372 hg w14 hbox hb; have n0_ := Aside0.mk (qk0 (by repeat (first | (with_reducible first | exact HB.out | apply qc0 | apply qa0 | apply qb0) | exact HB.out)) hb); have n1_ := Aside0.mk (hbox); have n2_ := Aside0.mk ((by rw [hg]; exact (ql0 (by repeat (first | (with_reducible first | exact HB.out | apply qc0 | apply qa0 | apply qb0) | exact HB.out))) : w.heap.size ≤ gb372)); have n3_ := Aside0.mk ((by rw [hg]; exact (ql0 (by repeat (first | (with_reducible first | exact HB.out | apply qc0 | apply qa0 | apply qb0) | exact HB.out))) : w.heap.size ≤ gb372)); clear HB; have HB := n0_; have BK372 := n1_; have GW372 := n2_; have GE372 := n3_; clear n0_ n1_ n2_ n3_; clear hb hbox hg; have hcz15_0 : w14.cell? ⟨gb372, 0, none⟩ = some (.string a0_0) := (qe0 BK372.out 0).trans rfl; have hcz15_1 : w14.cell? ⟨gb372, 1, none⟩ = some (.string a0_1) := (qe0 BK372.out 1).trans rfl; have hcz15_2 : w14.cell? ⟨gb372, 2, none⟩ = some (.string a0_2) := (qe0 BK372.out 2).trans rfl; have hcz15_3 : w14.cell? ⟨gb372, 3, none⟩ = some (.int .i64 a0_3) := (qe0 BK372.out 3).trans rfl; have hcz15_4 : w14.cell? ⟨gb372, 4, none⟩ = some (.int .i64 a0_4) := (qe0 BK372.out 4).trans rfl; have hcz15_5 : w14.cell? ⟨gb372, 5, none⟩ = some (.int .i64 a0_5) := (qe0 BK372.out 5).trans rfl; have hfz15_0 := qd0 BK372.out 0; have hfz15_1 := qd0 BK372.out 1; have hfz15_2 := qd0 BK372.out 2; have hfz15_3 := qd0 BK372.out 3; have hfz15_4 := qd0 BK372.out 4; have hfz15_5 := qd0 BK372.out 5) | ((with_reducible refine qo0 (f := 91) rfl ?_); refine qz0 (some 5) rfl rfl Try.func91 (by kernel_rfl) rfl #[.string a0_0] rfl (by (try simp only [List.map_toArray, List.map_cons, List.map_nil]); first | done | rfl | (simp only [List.length_drop, List.length_take]; rfl)) ?_; (with_reducible refine (spec_NameOk.calls k a0_0 true _ A2.out).mono ?_); rintro e w' ⟨rfl, ⟨nd, rfl⟩⟩; refine ⟨_, rfl, ?_⟩) | (go_at_call 91; (with_reducible refine (spec_NameOk.calls k a0_1 true _ A4.out).mono ?_); rintro e w' ⟨rfl, ⟨nd, rfl⟩⟩) | (go_at_call 118; (with_reducible refine (spec_l2Day.calls a0_3 true _ A7.out).mono ?_); rintro e w' ⟨rfl, ⟨nd, rfl⟩⟩) | (go_at_call 90; (with_reducible refine (spec_l12Qty.calls a0_4 false _ A9.out).mono ?_); rintro e w' ⟨rfl, ⟨nd, rfl⟩⟩))
     go_ret
     exact ⟨by first | rfl | (simp [errW_none, errW_some] <;> rfl) | (simp [*, errW_none, errW_some] <;> rfl), by repeat (first | (with_reducible first | exact HB.out | apply qc0 | apply qa0 | apply qb0 | refine qg0 ?_ GE372.out) | exact HB.out)⟩
    replace c8 := Bool.eq_false_iff.mpr c8
    subst c8
    have H1 : (some false) = some r := by rw [if_neg (show ¬ (false = true) by decide)] at H; exact H
    clear H
    have H := H1
    clear H1
    obtain rfl := Option.some.inj H
    go_enter Try.func192, Try.ntmps192
    go_wp2_with (first | ((with_reducible refine gate_dst (N := 1) rfl ?_); refine qh1 ?hg (N := 1) ?hd (cs := #[.string a0_0, .string a0_1, .string a0_2, .int .i64 a0_3, .int .i64 a0_4, .int .i64 a0_5]) (t := 117) ?hr ?_; (case hd => rfl); (case hg => rfl); (case hr => first | (go_simp; done) | (go_simp; rfl)); intro gb372 hg w16 hbox hb; have n0_ := Aside0.mk (qk0 (by repeat (first | (with_reducible first | exact HB.out | apply qc0 | apply qa0 | apply qb0) | exact HB.out)) hb); have n1_ := Aside0.mk (hbox); have n2_ := Aside0.mk ((by rw [hg]; exact (ql0 (by repeat (first | (with_reducible first | exact HB.out | apply qc0 | apply qa0 | apply qb0) | exact HB.out))) : w.heap.size ≤ gb372)); have n3_ := Aside0.mk ((by rw [hg]; exact (ql0 (by repeat (first | (with_reducible first | exact HB.out | apply qc0 | apply qa0 | apply qb0) | exact HB.out))) : w.heap.size ≤ gb372)); clear HB; have HB := n0_; have BK372 := n1_; have GW372 := n2_; have GE372 := n3_; clear n0_ n1_ n2_ n3_; clear hb hbox hg; have hcz17_0 : w16.cell? ⟨gb372, 0, none⟩ = some (.string a0_0) := (qe0 BK372.out 0).trans rfl; have hcz17_1 : w16.cell? ⟨gb372, 1, none⟩ = some (.string a0_1) := (qe0 BK372.out 1).trans rfl; have hcz17_2 : w16.cell? ⟨gb372, 2, none⟩ = some (.string a0_2) := (qe0 BK372.out 2).trans rfl; have hcz17_3 : w16.cell? ⟨gb372, 3, none⟩ = some (.int .i64 a0_3) := (qe0 BK372.out 3).trans rfl; have hcz17_4 : w16.cell? ⟨gb372, 4, none⟩ = some (.int .i64 a0_4) := (qe0 BK372.out 4).trans rfl; have hcz17_5 : w16.cell? ⟨gb372, 5, none⟩ = some (.int .i64 a0_5) := (qe0 BK372.out 5).trans rfl; have hfz17_0 := qd0 BK372.out 0; have hfz17_1 := qd0 BK372.out 1; have hfz17_2 := qd0 BK372.out 2; have hfz17_3 := qd0 BK372.out 3; have hfz17_4 := qd0 BK372.out 4; have hfz17_5 := qd0 BK372.out 5) | ((with_reducible refine qo0 (f := 91) rfl ?_); refine qz0 (some 5) rfl rfl Try.func91 (by kernel_rfl) rfl #[.string a0_0] rfl (by (try simp only [List.map_toArray, List.map_cons, List.map_nil]); first | done | rfl | (simp only [List.length_drop, List.length_take]; rfl)) ?_; (with_reducible refine (spec_NameOk.calls k a0_0 true _ A2.out).mono ?_); rintro e w' ⟨rfl, ⟨nd, rfl⟩⟩; refine ⟨_, rfl, ?_⟩) | (go_at_call 91; (with_reducible refine (spec_NameOk.calls k a0_1 true _ A4.out).mono ?_); rintro e w' ⟨rfl, ⟨nd, rfl⟩⟩) | (go_at_call 118; (with_reducible refine (spec_l2Day.calls a0_3 false _ A7.out).mono ?_); rintro e w' ⟨rfl, ⟨nd, rfl⟩⟩))
    go_ret
    exact ⟨by first | rfl | (simp [errW_none, errW_some] <;> rfl) | (simp [*, errW_none, errW_some] <;> rfl), by repeat (first | (with_reducible first | exact HB.out | apply qc0 | apply qa0 | apply qb0 | refine qg0 ?_ GE372.out) | exact HB.out)⟩
   rw [if_neg c6] at H
   have c6b0 : (a0_2.toList == ([] : List UInt8)) = false := beq_eq_false_iff_ne.mpr c6
   have c6b1 : (a0_2.toList != ([] : List UInt8)) = true := bne_iff_ne.mpr c6
   replace H := Option.bind_eq_some_iff.mp H
   obtain ⟨t378, A180, H⟩ := H
   replace H : (if t378 = true then ((spec_l2Day.f a0_3).bind fun t379 => (if t379 = true then ((spec_l12Qty.f a0_4).bind fun t380 => (if t380 = true then ((spec_l1In.f a0_5 0 a0_4).bind fun t381 => (some t381)) else (some false))) else (some false))) else (some false)) = some r := H
   have A18 := Aside0.mk A180
   clear A180
   by_cases c19 : t378 = true
   ·subst c19
    have H1 : ((spec_l2Day.f a0_3).bind fun t379 => (if t379 = true then ((spec_l12Qty.f a0_4).bind fun t380 => (if t380 = true then ((spec_l1In.f a0_5 0 a0_4).bind fun t381 => (some t381)) else (some false))) else (some false))) = some r := by rw [if_pos rfl] at H; exact H
    clear H
    have H := H1
    clear H1
    replace H := Option.bind_eq_some_iff.mp H
    obtain ⟨t379, A200, H⟩ := H
    replace H : (if t379 = true then ((spec_l12Qty.f a0_4).bind fun t380 => (if t380 = true then ((spec_l1In.f a0_5 0 a0_4).bind fun t381 => (some t381)) else (some false))) else (some false)) = some r := H
    have A20 := Aside0.mk A200
    clear A200
    by_cases c21 : t379 = true
    ·subst c21
     have H1 : ((spec_l12Qty.f a0_4).bind fun t380 => (if t380 = true then ((spec_l1In.f a0_5 0 a0_4).bind fun t381 => (some t381)) else (some false))) = some r := by rw [if_pos rfl] at H; exact H
     clear H
     have H := H1
     clear H1
     replace H := Option.bind_eq_some_iff.mp H
     obtain ⟨t380, A220, H⟩ := H
     replace H : (if t380 = true then ((spec_l1In.f a0_5 0 a0_4).bind fun t381 => (some t381)) else (some false)) = some r := H
     have A22 := Aside0.mk A220
     clear A220
     by_cases c23 : t380 = true
     ·subst c23
      have H1 : ((spec_l1In.f a0_5 0 a0_4).bind fun t381 => (some t381)) = some r := by rw [if_pos rfl] at H; exact H
      clear H
      have H := H1
      clear H1
      replace H := Option.bind_eq_some_iff.mp H
      obtain ⟨t381, A240, H⟩ := H
      replace H : (some t381) = some r := H
      have A24 := Aside0.mk A240
      clear A240
      obtain rfl := Option.some.inj H
      go_enter Try.func192, Try.ntmps192
      go_wp2_with (first | ((with_reducible refine gate_dst (N := 1) rfl ?_); refine qh1 ?hg (N := 1) ?hd (cs := #[.string a0_0, .string a0_1, .string a0_2, .int .i64 a0_3, .int .i64 a0_4, .int .i64 a0_5]) (t := 117) ?hr ?_; (case hd => rfl); (case hg => rfl); (case hr => first | (go_simp; done) | (go_simp; rfl)); intro gb372 hg w25 hbox hb; have n0_ := Aside0.mk (qk0 (by repeat (first | (with_reducible first | exact HB.out | apply qc0 | apply qa0 | apply qb0) | exact HB.out)) hb); have n1_ := Aside0.mk (hbox); have n2_ := Aside0.mk ((by rw [hg]; exact (ql0 (by repeat (first | (with_reducible first | exact HB.out | apply qc0 | apply qa0 | apply qb0) | exact HB.out))) : w.heap.size ≤ gb372)); have n3_ := Aside0.mk ((by rw [hg]; exact (ql0 (by repeat (first | (with_reducible first | exact HB.out | apply qc0 | apply qa0 | apply qb0) | exact HB.out))) : w.heap.size ≤ gb372)); clear HB; have HB := n0_; have BK372 := n1_; have GW372 := n2_; have GE372 := n3_; clear n0_ n1_ n2_ n3_; clear hb hbox hg; have hcz26_0 : w25.cell? ⟨gb372, 0, none⟩ = some (.string a0_0) := (qe0 BK372.out 0).trans rfl; have hcz26_1 : w25.cell? ⟨gb372, 1, none⟩ = some (.string a0_1) := (qe0 BK372.out 1).trans rfl; have hcz26_2 : w25.cell? ⟨gb372, 2, none⟩ = some (.string a0_2) := (qe0 BK372.out 2).trans rfl; have hcz26_3 : w25.cell? ⟨gb372, 3, none⟩ = some (.int .i64 a0_3) := (qe0 BK372.out 3).trans rfl; have hcz26_4 : w25.cell? ⟨gb372, 4, none⟩ = some (.int .i64 a0_4) := (qe0 BK372.out 4).trans rfl; have hcz26_5 : w25.cell? ⟨gb372, 5, none⟩ = some (.int .i64 a0_5) := (qe0 BK372.out 5).trans rfl; have hfz26_0 := qd0 BK372.out 0; have hfz26_1 := qd0 BK372.out 1; have hfz26_2 := qd0 BK372.out 2; have hfz26_3 := qd0 BK372.out 3; have hfz26_4 := qd0 BK372.out 4; have hfz26_5 := qd0 BK372.out 5) | ((with_reducible refine qo0 (f := 91) rfl ?_); refine qz0 (some 5) rfl rfl Try.func91 (by kernel_rfl) rfl #[.string a0_0] rfl (by (try simp only [List.map_toArray, List.map_cons, List.map_nil]); first | done | rfl | (simp only [List.length_drop, List.length_take]; rfl)) ?_; (with_reducible refine (spec_NameOk.calls k a0_0 true _ A2.out).mono ?_); rintro e w' ⟨rfl, ⟨nd, rfl⟩⟩; refine ⟨_, rfl, ?_⟩) | (go_at_call 91; (with_reducible refine (spec_NameOk.calls k a0_1 true _ A4.out).mono ?_); rintro e w' ⟨rfl, ⟨nd, rfl⟩⟩) | (go_at_call 91; (with_reducible refine (spec_NameOk.calls k a0_2 true _ A18.out).mono ?_); rintro e w' ⟨rfl, ⟨nd, rfl⟩⟩) | (go_at_call 118; (with_reducible refine (spec_l2Day.calls a0_3 true _ A20.out).mono ?_); rintro e w' ⟨rfl, ⟨nd, rfl⟩⟩) | (go_at_call 90; (with_reducible refine (spec_l12Qty.calls a0_4 true _ A22.out).mono ?_); rintro e w' ⟨rfl, ⟨nd, rfl⟩⟩) | (go_at_call 92; (with_reducible refine (spec_l1In.calls a0_5 0 a0_4 t381 _ A24.out).mono ?_); rintro e w' ⟨rfl, ⟨nd, rfl⟩⟩))
      go_ret
      exact ⟨by first | rfl | (simp [errW_none, errW_some] <;> rfl) | (simp [*, errW_none, errW_some] <;> rfl), by repeat (first | (with_reducible first | exact HB.out | apply qc0 | apply qa0 | apply qb0 | refine qg0 ?_ GE372.out) | exact HB.out)⟩
     replace c23 := Bool.eq_false_iff.mpr c23
     subst c23
     have H1 : (some false) = some r := by rw [if_neg (show ¬ (false = true) by decide)] at H; exact H
     clear H
     have H := H1
     clear H1
     obtain rfl := Option.some.inj H
     go_enter Try.func192, Try.ntmps192
     go_wp2_with (first | ((with_reducible refine gate_dst (N := 1) rfl ?_); refine qh1 ?hg (N := 1) ?hd (cs := #[.string a0_0, .string a0_1, .string a0_2, .int .i64 a0_3, .int .i64 a0_4, .int .i64 a0_5]) (t := 117) ?hr ?_; (case hd => rfl); (case hg => rfl); (case hr => first | (go_simp; done) | (go_simp; rfl)); intro gb372 hg w27 hbox hb; have n0_ := Aside0.mk (qk0 (by repeat (first | (with_reducible first | exact HB.out | apply qc0 | apply qa0 | apply qb0) | exact HB.out)) hb); have n1_ := Aside0.mk (hbox); have n2_ := Aside0.mk ((by rw [hg]; exact (ql0 (by repeat (first | (with_reducible first | exact HB.out | apply qc0 | apply qa0 | apply qb0) | exact HB.out))) : w.heap.size ≤ gb372)); have n3_ := Aside0.mk ((by rw [hg]; exact (ql0 (by repeat (first | (with_reducible first | exact HB.out | apply qc0 | apply qa0 | apply qb0) | exact HB.out))) : w.heap.size ≤ gb372)); clear HB; have HB := n0_; have BK372 := n1_; have GW372 := n2_; have GE372 := n3_; clear n0_ n1_ n2_ n3_; clear hb hbox hg; have hcz28_0 : w27.cell? ⟨gb372, 0, none⟩ = some (.string a0_0) := (qe0 BK372.out 0).trans rfl; have hcz28_1 : w27.cell? ⟨gb372, 1, none⟩ = some (.string a0_1) := (qe0 BK372.out 1).trans rfl; have hcz28_2 : w27.cell? ⟨gb372, 2, none⟩ = some (.string a0_2) := (qe0 BK372.out 2).trans rfl; have hcz28_3 : w27.cell? ⟨gb372, 3, none⟩ = some (.int .i64 a0_3) := (qe0 BK372.out 3).trans rfl; have hcz28_4 : w27.cell? ⟨gb372, 4, none⟩ = some (.int .i64 a0_4) := (qe0 BK372.out 4).trans rfl; have hcz28_5 : w27.cell? ⟨gb372, 5, none⟩ = some (.int .i64 a0_5) := (qe0 BK372.out 5).trans rfl; have hfz28_0 := qd0 BK372.out 0; have hfz28_1 := qd0 BK372.out 1; have hfz28_2 := qd0 BK372.out 2; have hfz28_3 := qd0 BK372.out 3; have hfz28_4 := qd0 BK372.out 4; have hfz28_5 := qd0 BK372.out 5) | ((with_reducible refine qo0 (f := 91) rfl ?_); refine qz0 (some 5) rfl rfl Try.func91 (by kernel_rfl) rfl #[.string a0_0] rfl (by (try simp only [List.map_toArray, List.map_cons, List.map_nil]); first | done | rfl | (simp only [List.length_drop, List.length_take]; rfl)) ?_; (with_reducible refine (spec_NameOk.calls k a0_0 true _ A2.out).mono ?_); rintro e w' ⟨rfl, ⟨nd, rfl⟩⟩; refine ⟨_, rfl, ?_⟩) | (go_at_call 91; (with_reducible refine (spec_NameOk.calls k a0_1 true _ A4.out).mono ?_); rintro e w' ⟨rfl, ⟨nd, rfl⟩⟩) | (go_at_call 91; (with_reducible refine (spec_NameOk.calls k a0_2 true _ A18.out).mono ?_); rintro e w' ⟨rfl, ⟨nd, rfl⟩⟩) | (go_at_call 118; (with_reducible refine (spec_l2Day.calls a0_3 true _ A20.out).mono ?_); rintro e w' ⟨rfl, ⟨nd, rfl⟩⟩) | (go_at_call 90; (with_reducible refine (spec_l12Qty.calls a0_4 false _ A22.out).mono ?_); rintro e w' ⟨rfl, ⟨nd, rfl⟩⟩))
     go_ret
     exact ⟨by first | rfl | (simp [errW_none, errW_some] <;> rfl) | (simp [*, errW_none, errW_some] <;> rfl), by repeat (first | (with_reducible first | exact HB.out | apply qc0 | apply qa0 | apply qb0 | refine qg0 ?_ GE372.out) | exact HB.out)⟩
    replace c21 := Bool.eq_false_iff.mpr c21
    subst c21
    have H1 : (some false) = some r := by rw [if_neg (show ¬ (false = true) by decide)] at H; exact H
    clear H
    have H := H1
    clear H1
    obtain rfl := Option.some.inj H
    go_enter Try.func192, Try.ntmps192
    go_wp2_with (first | ((with_reducible refine gate_dst (N := 1) rfl ?_); refine qh1 ?hg (N := 1) ?hd (cs := #[.string a0_0, .string a0_1, .string a0_2, .int .i64 a0_3, .int .i64 a0_4, .int .i64 a0_5]) (t := 117) ?hr ?_; (case hd => rfl); (case hg => rfl); (case hr => first | (go_simp; done) | (go_simp; rfl)); intro gb372 hg w29 hbox hb; have n0_ := Aside0.mk (qk0 (by repeat (first | (with_reducible first | exact HB.out | apply qc0 | apply qa0 | apply qb0) | exact HB.out)) hb); have n1_ := Aside0.mk (hbox); have n2_ := Aside0.mk ((by rw [hg]; exact (ql0 (by repeat (first | (with_reducible first | exact HB.out | apply qc0 | apply qa0 | apply qb0) | exact HB.out))) : w.heap.size ≤ gb372)); have n3_ := Aside0.mk ((by rw [hg]; exact (ql0 (by repeat (first | (with_reducible first | exact HB.out | apply qc0 | apply qa0 | apply qb0) | exact HB.out))) : w.heap.size ≤ gb372)); clear HB; have HB := n0_; have BK372 := n1_; have GW372 := n2_; have GE372 := n3_; clear n0_ n1_ n2_ n3_; clear hb hbox hg; have hcz30_0 : w29.cell? ⟨gb372, 0, none⟩ = some (.string a0_0) := (qe0 BK372.out 0).trans rfl; have hcz30_1 : w29.cell? ⟨gb372, 1, none⟩ = some (.string a0_1) := (qe0 BK372.out 1).trans rfl; have hcz30_2 : w29.cell? ⟨gb372, 2, none⟩ = some (.string a0_2) := (qe0 BK372.out 2).trans rfl; have hcz30_3 : w29.cell? ⟨gb372, 3, none⟩ = some (.int .i64 a0_3) := (qe0 BK372.out 3).trans rfl; have hcz30_4 : w29.cell? ⟨gb372, 4, none⟩ = some (.int .i64 a0_4) := (qe0 BK372.out 4).trans rfl; have hcz30_5 : w29.cell? ⟨gb372, 5, none⟩ = some (.int .i64 a0_5) := (qe0 BK372.out 5).trans rfl; have hfz30_0 := qd0 BK372.out 0; have hfz30_1 := qd0 BK372.out 1; have hfz30_2 := qd0 BK372.out 2; have hfz30_3 := qd0 BK372.out 3; have hfz30_4 := qd0 BK372.out 4; have hfz30_5 := qd0 BK372.out 5) | ((with_reducible refine qo0 (f := 91) rfl ?_); refine qz0 (some 5) rfl rfl Try.func91 (by kernel_rfl) rfl #[.string a0_0] rfl (by (try simp only [List.map_toArray, List.map_cons, List.map_nil]); first | done | rfl | (simp only [List.length_drop, List.length_take]; rfl)) ?_; (with_reducible refine (spec_NameOk.calls k a0_0 true _ A2.out).mono ?_); rintro e w' ⟨rfl, ⟨nd, rfl⟩⟩; refine ⟨_, rfl, ?_⟩) | (go_at_call 91; (with_reducible refine (spec_NameOk.calls k a0_1 true _ A4.out).mono ?_); rintro e w' ⟨rfl, ⟨nd, rfl⟩⟩) | (go_at_call 91; (with_reducible refine (spec_NameOk.calls k a0_2 true _ A18.out).mono ?_); rintro e w' ⟨rfl, ⟨nd, rfl⟩⟩) | (go_at_call 118; (with_reducible refine (spec_l2Day.calls a0_3 false _ A20.out).mono ?_); rintro e w' ⟨rfl, ⟨nd, rfl⟩⟩))
    go_ret
    exact ⟨by first | rfl | (simp [errW_none, errW_some] <;> rfl) | (simp [*, errW_none, errW_some] <;> rfl), by repeat (first | (with_reducible first | exact HB.out | apply qc0 | apply qa0 | apply qb0 | refine qg0 ?_ GE372.out) | exact HB.out)⟩
   replace c19 := Bool.eq_false_iff.mpr c19
   subst c19
   have H1 : (some false) = some r := by rw [if_neg (show ¬ (false = true) by decide)] at H; exact H
   clear H
   have H := H1
   clear H1
   obtain rfl := Option.some.inj H
   go_enter Try.func192, Try.ntmps192
   go_wp2_with (first | ((with_reducible refine gate_dst (N := 1) rfl ?_); refine qh1 ?hg (N := 1) ?hd (cs := #[.string a0_0, .string a0_1, .string a0_2, .int .i64 a0_3, .int .i64 a0_4, .int .i64 a0_5]) (t := 117) ?hr ?_; (case hd => rfl); (case hg => rfl); (case hr => first | (go_simp; done) | (go_simp; rfl)); intro gb372 hg w31 hbox hb; have n0_ := Aside0.mk (qk0 (by repeat (first | (with_reducible first | exact HB.out | apply qc0 | apply qa0 | apply qb0) | exact HB.out)) hb); have n1_ := Aside0.mk (hbox); have n2_ := Aside0.mk ((by rw [hg]; exact (ql0 (by repeat (first | (with_reducible first | exact HB.out | apply qc0 | apply qa0 | apply qb0) | exact HB.out))) : w.heap.size ≤ gb372)); have n3_ := Aside0.mk ((by rw [hg]; exact (ql0 (by repeat (first | (with_reducible first | exact HB.out | apply qc0 | apply qa0 | apply qb0) | exact HB.out))) : w.heap.size ≤ gb372)); clear HB; have HB := n0_; have BK372 := n1_; have GW372 := n2_; have GE372 := n3_; clear n0_ n1_ n2_ n3_; clear hb hbox hg; have hcz32_0 : w31.cell? ⟨gb372, 0, none⟩ = some (.string a0_0) := (qe0 BK372.out 0).trans rfl; have hcz32_1 : w31.cell? ⟨gb372, 1, none⟩ = some (.string a0_1) := (qe0 BK372.out 1).trans rfl; have hcz32_2 : w31.cell? ⟨gb372, 2, none⟩ = some (.string a0_2) := (qe0 BK372.out 2).trans rfl; have hcz32_3 : w31.cell? ⟨gb372, 3, none⟩ = some (.int .i64 a0_3) := (qe0 BK372.out 3).trans rfl; have hcz32_4 : w31.cell? ⟨gb372, 4, none⟩ = some (.int .i64 a0_4) := (qe0 BK372.out 4).trans rfl; have hcz32_5 : w31.cell? ⟨gb372, 5, none⟩ = some (.int .i64 a0_5) := (qe0 BK372.out 5).trans rfl; have hfz32_0 := qd0 BK372.out 0; have hfz32_1 := qd0 BK372.out 1; have hfz32_2 := qd0 BK372.out 2; have hfz32_3 := qd0 BK372.out 3; have hfz32_4 := qd0 BK372.out 4; have hfz32_5 := qd0 BK372.out 5) | ((with_reducible refine qo0 (f := 91) rfl ?_); refine qz0 (some 5) rfl rfl Try.func91 (by kernel_rfl) rfl #[.string a0_0] rfl (by (try simp only [List.map_toArray, List.map_cons, List.map_nil]); first | done | rfl | (simp only [List.length_drop, List.length_take]; rfl)) ?_; (with_reducible refine (spec_NameOk.calls k a0_0 true _ A2.out).mono ?_); rintro e w' ⟨rfl, ⟨nd, rfl⟩⟩; refine ⟨_, rfl, ?_⟩) | (go_at_call 91; (with_reducible refine (spec_NameOk.calls k a0_1 true _ A4.out).mono ?_); rintro e w' ⟨rfl, ⟨nd, rfl⟩⟩) | (go_at_call 91; (with_reducible refine (spec_NameOk.calls k a0_2 false _ A18.out).mono ?_); rintro e w' ⟨rfl, ⟨nd, rfl⟩⟩))
   go_ret
   exact ⟨by first | rfl | (simp [errW_none, errW_some] <;> rfl) | (simp [*, errW_none, errW_some] <;> rfl), by repeat (first | (with_reducible first | exact HB.out | apply qc0 | apply qa0 | apply qb0 | refine qg0 ?_ GE372.out) | exact HB.out)⟩
  replace c5 := Bool.eq_false_iff.mpr c5
  subst c5
  have H1 : (some false) = some r := by rw [if_neg (show ¬ (false = true) by decide)] at H; exact H
  clear H
  have H := H1
  clear H1
  obtain rfl := Option.some.inj H
  go_enter Try.func192, Try.ntmps192
  go_wp2_with (first | ((with_reducible refine gate_dst (N := 1) rfl ?_); refine qh1 ?hg (N := 1) ?hd (cs := #[.string a0_0, .string a0_1, .string a0_2, .int .i64 a0_3, .int .i64 a0_4, .int .i64 a0_5]) (t := 117) ?hr ?_; (case hd => rfl); (case hg => rfl); (case hr => first | (go_simp; done) | (go_simp; rfl)); intro gb372 hg w33 hbox hb; have n0_ := Aside0.mk (qk0 (by repeat (first | (with_reducible first | exact HB.out | apply qc0 | apply qa0 | apply qb0) | exact HB.out)) hb); have n1_ := Aside0.mk (hbox); have n2_ := Aside0.mk ((by rw [hg]; exact (ql0 (by repeat (first | (with_reducible first | exact HB.out | apply qc0 | apply qa0 | apply qb0) | exact HB.out))) : w.heap.size ≤ gb372)); have n3_ := Aside0.mk ((by rw [hg]; exact (ql0 (by repeat (first | (with_reducible first | exact HB.out | apply qc0 | apply qa0 | apply qb0) | exact HB.out))) : w.heap.size ≤ gb372)); clear HB; have HB := n0_; have BK372 := n1_; have GW372 := n2_; have GE372 := n3_; clear n0_ n1_ n2_ n3_; clear hb hbox hg; have hcz34_0 : w33.cell? ⟨gb372, 0, none⟩ = some (.string a0_0) := (qe0 BK372.out 0).trans rfl; have hcz34_1 : w33.cell? ⟨gb372, 1, none⟩ = some (.string a0_1) := (qe0 BK372.out 1).trans rfl; have hcz34_2 : w33.cell? ⟨gb372, 2, none⟩ = some (.string a0_2) := (qe0 BK372.out 2).trans rfl; have hcz34_3 : w33.cell? ⟨gb372, 3, none⟩ = some (.int .i64 a0_3) := (qe0 BK372.out 3).trans rfl; have hcz34_4 : w33.cell? ⟨gb372, 4, none⟩ = some (.int .i64 a0_4) := (qe0 BK372.out 4).trans rfl; have hcz34_5 : w33.cell? ⟨gb372, 5, none⟩ = some (.int .i64 a0_5) := (qe0 BK372.out 5).trans rfl; have hfz34_0 := qd0 BK372.out 0; have hfz34_1 := qd0 BK372.out 1; have hfz34_2 := qd0 BK372.out 2; have hfz34_3 := qd0 BK372.out 3; have hfz34_4 := qd0 BK372.out 4; have hfz34_5 := qd0 BK372.out 5) | ((with_reducible refine qo0 (f := 91) rfl ?_); refine qz0 (some 5) rfl rfl Try.func91 (by kernel_rfl) rfl #[.string a0_0] rfl (by (try simp only [List.map_toArray, List.map_cons, List.map_nil]); first | done | rfl | (simp only [List.length_drop, List.length_take]; rfl)) ?_; (with_reducible refine (spec_NameOk.calls k a0_0 true _ A2.out).mono ?_); rintro e w' ⟨rfl, ⟨nd, rfl⟩⟩; refine ⟨_, rfl, ?_⟩) | (go_at_call 91; (with_reducible refine (spec_NameOk.calls k a0_1 false _ A4.out).mono ?_); rintro e w' ⟨rfl, ⟨nd, rfl⟩⟩))
  go_ret
  exact ⟨by first | rfl | (simp [errW_none, errW_some] <;> rfl) | (simp [*, errW_none, errW_some] <;> rfl), by repeat (first | (with_reducible first | exact HB.out | apply qc0 | apply qa0 | apply qb0 | refine qg0 ?_ GE372.out) | exact HB.out)⟩
 replace c3 := Bool.eq_false_iff.mpr c3
 subst c3
 have H1 : (some false) = some r := by rw [if_neg (show ¬ (false = true) by decide)] at H; exact H
 clear H
 have H := H1
 clear H1
 obtain rfl := Option.some.inj H
 go_enter Try.func192, Try.ntmps192
 go_wp2_with (first | ((with_reducible refine gate_dst (N := 1) rfl ?_); refine qh1 ?hg (N := 1) ?hd (cs := #[.string a0_0, .string a0_1, .string a0_2, .int .i64 a0_3, .int .i64 a0_4, .int .i64 a0_5]) (t := 117) ?hr ?_; (case hd => rfl); (case hg => rfl); (case hr => first | (go_simp; done) | (go_simp; rfl)); intro gb372 hg w35 hbox hb; have n0_ := Aside0.mk (qk0 (by repeat (first | (with_reducible first | exact HB.out | apply qc0 | apply qa0 | apply qb0) | exact HB.out)) hb); have n1_ := Aside0.mk (hbox); have n2_ := Aside0.mk ((by rw [hg]; exact (ql0 (by repeat (first | (with_reducible first | exact HB.out | apply qc0 | apply qa0 | apply qb0) | exact HB.out))) : w.heap.size ≤ gb372)); have n3_ := Aside0.mk ((by rw [hg]; exact (ql0 (by repeat (first | (with_reducible first | exact HB.out | apply qc0 | apply qa0 | apply qb0) | exact HB.out))) : w.heap.size ≤ gb372)); clear HB; have HB := n0_; have BK372 := n1_; have GW372 := n2_; have GE372 := n3_; clear n0_ n1_ n2_ n3_; clear hb hbox hg; have hcz36_0 : w35.cell? ⟨gb372, 0, none⟩ = some (.string a0_0) := (qe0 BK372.out 0).trans rfl; have hcz36_1 : w35.cell? ⟨gb372, 1, none⟩ = some (.string a0_1) := (qe0 BK372.out 1).trans rfl; have hcz36_2 : w35.cell? ⟨gb372, 2, none⟩ = some (.string a0_2) := (qe0 BK372.out 2).trans rfl; have hcz36_3 : w35.cell? ⟨gb372, 3, none⟩ = some (.int .i64 a0_3) := (qe0 BK372.out 3).trans rfl; have hcz36_4 : w35.cell? ⟨gb372, 4, none⟩ = some (.int .i64 a0_4) := (qe0 BK372.out 4).trans rfl; have hcz36_5 : w35.cell? ⟨gb372, 5, none⟩ = some (.int .i64 a0_5) := (qe0 BK372.out 5).trans rfl; have hfz36_0 := qd0 BK372.out 0; have hfz36_1 := qd0 BK372.out 1; have hfz36_2 := qd0 BK372.out 2; have hfz36_3 := qd0 BK372.out 3; have hfz36_4 := qd0 BK372.out 4; have hfz36_5 := qd0 BK372.out 5) | ((with_reducible refine qo0 (f := 91) rfl ?_); refine qz0 (some 5) rfl rfl Try.func91 (by kernel_rfl) rfl #[.string a0_0] rfl (by (try simp only [List.map_toArray, List.map_cons, List.map_nil]); first | done | rfl | (simp only [List.length_drop, List.length_take]; rfl)) ?_; (with_reducible refine (spec_NameOk.calls k a0_0 false _ A2.out).mono ?_); rintro e w' ⟨rfl, ⟨nd, rfl⟩⟩; refine ⟨_, rfl, ?_⟩))
 go_ret
 exact ⟨by first | rfl | (simp [errW_none, errW_some] <;> rfl) | (simp [*, errW_none, errW_some] <;> rfl), by repeat (first | (with_reducible first | exact HB.out | apply qc0 | apply qa0 | apply qb0 | refine qg0 ?_ GE372.out) | exact HB.out)⟩

/-! ### spec_StockOk: function 126 -/
def spec_StockOk.l0 : Nat → List (S117) → Int → Option (Bool)
 | 0, _, _ => none
 | k + 1, x0, x3 => if x3 < (x0.length : Int) then (if 0 ≤ x3 then ((spec_l15Cell.f k ((rd_T117 x0 x3).f0) ((rd_T117 x0 x3).f1) ((rd_T117 x0 x3).f2) ((rd_T117 x0 x3).f3) ((rd_T117 x0 x3).f4) ((rd_T117 x0 x3).f5)).bind fun t383 => (if t383 = true then ((spec_l15Find.f k x0 ((rd_T117 x0 x3).f0) ((rd_T117 x0 x3).f1) ((rd_T117 x0 x3).f2) ((rd_T117 x0 x3).f3) ((rd_T117 x0 x3).f4) ((rd_T117 x0 x3).f5)).bind fun t385 => (if t385 = x3 then (spec_StockOk.l0 k x0 (wrap64 (x3 + 1))) else (some false))) else (some false))) else (none)) else (some true)
def spec_StockOk.f (k : Nat) (l0 : List (S117)) : Option (Bool) := if (l0.length : Int) > 100 then (some false) else (spec_StockOk.l0 k l0 0)
theorem spec_StockOk.mono_l : ∀ k, (∀ y0 y1, LeO (spec_StockOk.l0 k y0 y1) (spec_StockOk.l0 (k + 1) y0 y1))
 | 0 => fun _ _ r h => by simp [spec_StockOk.l0] at h
 | k + 1 => by
  have ih0 := spec_StockOk.mono_l k
  ·intro y0 y1
   unfold spec_StockOk.l0
   repeat' first
   | (with_reducible exact ih0 _ _)
   | (with_reducible exact spec_l15Cell.mono _ _ _ _ _ _ _)
   | (with_reducible exact spec_l15Find.mono _ _ _ _ _ _ _ _)
   | (with_reducible exact LeO.refl _)
   | (with_reducible exact LeO.none _)
   | (with_reducible refine LeO.ite ?_ ?_)
   | (with_reducible refine LeO.bind ?_ (fun _ => ?_))
   | exact ih0 _ _
   | exact spec_l15Cell.mono _ _ _ _ _ _ _
   | exact spec_l15Find.mono _ _ _ _ _ _ _ _
   | exact LeO.none _
   | refine LeO.ite ?_ ?_
   | refine LeO.bind ?_ (fun _ => ?_)
theorem spec_StockOk.mono : ∀ a0 k, LeO (spec_StockOk.f k a0) (spec_StockOk.f (k + 1) a0) := by
 intro a0 k
 have ih0 := spec_StockOk.mono_l k
 unfold spec_StockOk.f
 repeat' first
   | (with_reducible exact ih0 _ _)
   | (with_reducible exact spec_l15Cell.mono _ _ _ _ _ _ _)
   | (with_reducible exact spec_l15Find.mono _ _ _ _ _ _ _ _)
   | (with_reducible exact LeO.refl _)
   | (with_reducible exact LeO.none _)
   | (with_reducible refine LeO.ite ?_ ?_)
   | (with_reducible refine LeO.bind ?_ (fun _ => ?_))
   | exact ih0 _ _
   | exact spec_l15Cell.mono _ _ _ _ _ _ _
   | exact spec_l15Find.mono _ _ _ _ _ _ _ _
   | exact LeO.none _
   | refine LeO.ite ?_ ?_
   | refine LeO.bind ?_ (fun _ => ?_)
set_option maxHeartbeats 8000000 in
set_option maxRecDepth 100000 in
theorem spec_StockOk.calls (k : Nat) (A0 : Option Addr) (c0 : Nat) (l0 : List (S117)) (r : Bool) (w : World) (hr0 : Kd.C k117 w A0 l0.length l0) (hc0 : l0.length ≤ c0) (h : spec_StockOk.f k l0 = some r) :
  Calls Try.prog 126 #[.slice A0 l0.length c0] w fun e w' => e = .returned (.bool r) ∧ Below w.heap.size w w' := by
 have hu117 := Try.underlying117
 have HR0 := Aside0.mk hr0
 have HC0 := Aside0.mk hc0
 clear hr0 hc0
 have HB := Aside0.mk (Below.refl w.heap.size w)
 have H : (if (l0.length : Int) > 100 then (some false) else (spec_StockOk.l0 k l0 0)) = some r := h
 clear h
 by_cases c2 : (l0.length : Int) > 100
 ·rw [if_pos c2] at H
  have c2b0 : decide (100 < (l0.length : Int)) = true := decide_eq_true c2
  have c2b1 : decide (100 < l0.length) = true := decide_eq_true (by omega)
  clear c2
  obtain rfl := Option.some.inj H
  go_enter Try.func126, Try.ntmps126
  go_wp2
  go_ret
  exact ⟨by first | rfl | (simp [errW_none, errW_some] <;> rfl) | (simp [*, errW_none, errW_some] <;> rfl), by repeat (first | (with_reducible first | exact HB.out | apply qc0 | apply qa0 | apply qb0) | exact HB.out)⟩
 rw [if_neg c2] at H
 have c2b0 : decide (100 < (l0.length : Int)) = false := decide_eq_false c2
 have c2b1 : decide (100 < l0.length) = false := decide_eq_false (by omega)
 clear c2
 have H' := Aside0.mk H
 clear H
 go_enter Try.func126, Try.ntmps126
 go_wp2
 go_loopg [3] k (fun kq v3 w' => ∃ (x3_1 : Int), v3 = .int .i64 x3_1 ∧ Aside0 (spec_StockOk.l0 kq l0 x3_1 = some r) ∧ Aside0 (kq ≤ k) ∧ Aside0 (Below w.heap.size w w'))
 case atStart => exact ⟨(0), (by first | rfl | (simp; done) | (simp [*]; done)), H', ⟨Nat.le_refl _⟩, ⟨by repeat (first | (with_reducible first | exact HB.out | apply qc0 | apply qa0 | apply qb0) | exact HB.out)⟩⟩
 case round =>
  clear H'
  try clear c1
  try clear c2
  try clear c2b0
  try clear c2b1
  try clear p2
  obtain ⟨x3_1, rfl, HA, HK1, HB⟩ := hrel
  cases gk with
  | zero => exact absurd HA.out (by simp [spec_StockOk.l0])
  | succ k1 =>
   have H := HA.out
   clear HA
   simp only [spec_StockOk.l0] at H
   by_cases c3 : x3_1 < (l0.length : Int)
   ·rw [if_pos c3] at H
    have c3b0 : decide (x3_1 < (l0.length : Int)) = true := decide_eq_true c3
    clear c3
    by_cases c4 : 0 ≤ x3_1
    case neg => rw [if_neg c4] at H; exact absurd H (by simp)
    rw [if_pos c4] at H
    have c4b0 : decide (0 ≤ x3_1) = true := decide_eq_true c4
    clear c4
    replace H := Option.bind_eq_some_iff.mp H
    obtain ⟨t383, A50, H⟩ := H
    replace H : (if t383 = true then ((spec_l15Find.f k1 l0 ((rd_T117 l0 x3_1).f0) ((rd_T117 l0 x3_1).f1) ((rd_T117 l0 x3_1).f2) ((rd_T117 l0 x3_1).f3) ((rd_T117 l0 x3_1).f4) ((rd_T117 l0 x3_1).f5)).bind fun t385 => (if t385 = x3_1 then (spec_StockOk.l0 k1 l0 (wrap64 (x3_1 + 1))) else (some false))) else (some false)) = some r := H
    have A5 := Aside0.mk A50
    clear A50
    by_cases c6 : t383 = true
    ·subst c6
     have H1 : ((spec_l15Find.f k1 l0 ((rd_T117 l0 x3_1).f0) ((rd_T117 l0 x3_1).f1) ((rd_T117 l0 x3_1).f2) ((rd_T117 l0 x3_1).f3) ((rd_T117 l0 x3_1).f4) ((rd_T117 l0 x3_1).f5)).bind fun t385 => (if t385 = x3_1 then (spec_StockOk.l0 k1 l0 (wrap64 (x3_1 + 1))) else (some false))) = some r := by rw [if_pos rfl] at H; exact H
     clear H
     have H := H1
     clear H1
     replace H := Option.bind_eq_some_iff.mp H
     obtain ⟨t385, A70, H⟩ := H
     replace H : (if t385 = x3_1 then (spec_StockOk.l0 k1 l0 (wrap64 (x3_1 + 1))) else (some false)) = some r := H
     have A7 := Aside0.mk A70
     clear A70
     by_cases c8 : t385 = x3_1
     ·rw [if_pos c8] at H
      have c8b0 : (t385 == x3_1) = true := beq_iff_eq.mpr c8
      have c8b1 : (t385 != x3_1) = false := bne_eq_false_iff_eq.mpr c8
      clear c8
      have H' := Aside0.mk H
      clear H
      have p382 : 0 ≤ (x3_1 : Int) := of_decide_eq_true (by first | (with_reducible assumption) | assumption)
      have q382 : x3_1 < (l0.length : Int) := of_decide_eq_true (by first | (with_reducible assumption) | assumption)
      obtain ⟨ad382, e382, hx382_0, hx382_1, hx382_2, hx382_3, hx382_4, hx382_5⟩ := at_T117 HR0.out x3_1 p382 q382
      cases e382
      replace hx382_0 := (HB.out.cell (World.block_lt_of_cell? w _ hx382_0)).trans hx382_0
      replace hx382_1 := (HB.out.cell (World.block_lt_of_cell? w _ hx382_1)).trans hx382_1
      replace hx382_2 := (HB.out.cell (World.block_lt_of_cell? w _ hx382_2)).trans hx382_2
      replace hx382_3 := (HB.out.cell (World.block_lt_of_cell? w _ hx382_3)).trans hx382_3
      replace hx382_4 := (HB.out.cell (World.block_lt_of_cell? w _ hx382_4)).trans hx382_4
      replace hx382_5 := (HB.out.cell (World.block_lt_of_cell? w _ hx382_5)).trans hx382_5
      replace p382 := eq_true p382
      replace q382 := eq_true q382
      go_wp2_with (first | ((with_reducible refine qo0 (f := 192) rfl ?_); refine qz0 (some 17) rfl rfl Try.func192 (by kernel_rfl) rfl #[.agg #[.string ((rd_T117 l0 x3_1).f0), .string ((rd_T117 l0 x3_1).f1), .string ((rd_T117 l0 x3_1).f2), .int .i64 ((rd_T117 l0 x3_1).f3), .int .i64 ((rd_T117 l0 x3_1).f4), .int .i64 ((rd_T117 l0 x3_1).f5)]] rfl (by (try simp only [List.map_toArray, List.map_cons, List.map_nil]); first | done | rfl | (simp only [List.length_drop, List.length_take]; rfl)) ?_; (with_reducible refine (spec_l15Cell.calls k1 ((rd_T117 l0 x3_1).f0) ((rd_T117 l0 x3_1).f1) ((rd_T117 l0 x3_1).f2) ((rd_T117 l0 x3_1).f3) ((rd_T117 l0 x3_1).f4) ((rd_T117 l0 x3_1).f5) true _ A5.out).mono ?_); rintro e w9 ⟨rfl, hb⟩; refine ⟨_, rfl, ?_⟩; have n0_ := Aside0.mk (qk0 (by repeat (first | (with_reducible first | exact HB.out | apply qc0 | apply qa0 | apply qb0) | exact HB.out)) hb); clear HB; have HB := n0_; clear n0_; (try clear hb); (try clear hb2); (try clear hk); (try clear hi); have p384 : 0 ≤ (x3_1 : Int) := of_decide_eq_true (by first | (with_reducible assumption) | assumption); have q384 : x3_1 < (l0.length : Int) := of_decide_eq_true (by first | (with_reducible assumption) | assumption); obtain ⟨ad384, e384, hx384_0, hx384_1, hx384_2, hx384_3, hx384_4, hx384_5⟩ := at_T117 HR0.out x3_1 p384 q384; obtain rfl : ad382 = ad384 := (by injection e384); replace hx384_0 := (HB.out.cell (World.block_lt_of_cell? w _ hx384_0)).trans hx384_0; replace hx384_1 := (HB.out.cell (World.block_lt_of_cell? w _ hx384_1)).trans hx384_1; replace hx384_2 := (HB.out.cell (World.block_lt_of_cell? w _ hx384_2)).trans hx384_2; replace hx384_3 := (HB.out.cell (World.block_lt_of_cell? w _ hx384_3)).trans hx384_3; replace hx384_4 := (HB.out.cell (World.block_lt_of_cell? w _ hx384_4)).trans hx384_4; replace hx384_5 := (HB.out.cell (World.block_lt_of_cell? w _ hx384_5)).trans hx384_5; replace p384 := eq_true p384; replace q384 := eq_true q384) | (go_at_call 193; (with_reducible refine (spec_l15Find.calls k1 _ _ l0 ((rd_T117 l0 x3_1).f0) ((rd_T117 l0 x3_1).f1) ((rd_T117 l0 x3_1).f2) ((rd_T117 l0 x3_1).f3) ((rd_T117 l0 x3_1).f4) ((rd_T117 l0 x3_1).f5) t385 _ ?side1 ?side2 A7.out).mono ?_); (case side1 => repeat (first | exact (Kd.qp1 HR0.out HB.out) | (with_reducible refine Kd.qu0 ?_ _) | (with_reducible refine Kd.qt0 ?_ _) | (with_reducible refine Kd.qy0 ?_))); (case side2 => exact HC0.out); rintro e w10 ⟨rfl, hb⟩; have n0_ := Aside0.mk (qk0 (by repeat (first | (with_reducible first | exact HB.out | apply qc0 | apply qa0 | apply qb0) | exact HB.out)) hb); clear HB; have HB := n0_; clear n0_; (try clear hb); (try clear hb2); (try clear hk); (try clear hi)))
      go_roundg k1
      case measure => have := HK1.out; omega
      case rel => exact ⟨(wrap64 (x3_1 + 1)), (by first | rfl | (simp; done) | (simp [*]; done)), H', ⟨by have := HK1.out; omega⟩, ⟨by repeat (first | (with_reducible first | exact HB.out | apply qc0 | apply qa0 | apply qb0) | exact HB.out)⟩⟩
     rw [if_neg c8] at H
     have c8b0 : (t385 == x3_1) = false := beq_eq_false_iff_ne.mpr c8
     have c8b1 : (t385 != x3_1) = true := bne_iff_ne.mpr c8
     obtain rfl := Option.some.inj H
     have p382 : 0 ≤ (x3_1 : Int) := of_decide_eq_true (by first | (with_reducible assumption) | assumption)
     have q382 : x3_1 < (l0.length : Int) := of_decide_eq_true (by first | (with_reducible assumption) | assumption)
     obtain ⟨ad382, e382, hx382_0, hx382_1, hx382_2, hx382_3, hx382_4, hx382_5⟩ := at_T117 HR0.out x3_1 p382 q382
     cases e382
     replace hx382_0 := (HB.out.cell (World.block_lt_of_cell? w _ hx382_0)).trans hx382_0
     replace hx382_1 := (HB.out.cell (World.block_lt_of_cell? w _ hx382_1)).trans hx382_1
     replace hx382_2 := (HB.out.cell (World.block_lt_of_cell? w _ hx382_2)).trans hx382_2
     replace hx382_3 := (HB.out.cell (World.block_lt_of_cell? w _ hx382_3)).trans hx382_3
     replace hx382_4 := (HB.out.cell (World.block_lt_of_cell? w _ hx382_4)).trans hx382_4
     replace hx382_5 := (HB.out.cell (World.block_lt_of_cell? w _ hx382_5)).trans hx382_5
     replace p382 := eq_true p382
     replace q382 := eq_true q382
     go_wp2_with (first | ((with_reducible refine qo0 (f := 192) rfl ?_); refine qz0 (some 17) rfl rfl Try.func192 (by kernel_rfl) rfl #[.agg #[.string ((rd_T117 l0 x3_1).f0), .string ((rd_T117 l0 x3_1).f1), .string ((rd_T117 l0 x3_1).f2), .int .i64 ((rd_T117 l0 x3_1).f3), .int .i64 ((rd_T117 l0 x3_1).f4), .int .i64 ((rd_T117 l0 x3_1).f5)]] rfl (by (try simp only [List.map_toArray, List.map_cons, List.map_nil]); first | done | rfl | (simp only [List.length_drop, List.length_take]; rfl)) ?_; (with_reducible refine (spec_l15Cell.calls k1 ((rd_T117 l0 x3_1).f0) ((rd_T117 l0 x3_1).f1) ((rd_T117 l0 x3_1).f2) ((rd_T117 l0 x3_1).f3) ((rd_T117 l0 x3_1).f4) ((rd_T117 l0 x3_1).f5) true _ A5.out).mono ?_); rintro e w11 ⟨rfl, hb⟩; refine ⟨_, rfl, ?_⟩; have n0_ := Aside0.mk (qk0 (by repeat (first | (with_reducible first | exact HB.out | apply qc0 | apply qa0 | apply qb0) | exact HB.out)) hb); clear HB; have HB := n0_; clear n0_; (try clear hb); (try clear hb2); (try clear hk); (try clear hi); have p384 : 0 ≤ (x3_1 : Int) := of_decide_eq_true (by first | (with_reducible assumption) | assumption); have q384 : x3_1 < (l0.length : Int) := of_decide_eq_true (by first | (with_reducible assumption) | assumption); obtain ⟨ad384, e384, hx384_0, hx384_1, hx384_2, hx384_3, hx384_4, hx384_5⟩ := at_T117 HR0.out x3_1 p384 q384; obtain rfl : ad382 = ad384 := (by injection e384); replace hx384_0 := (HB.out.cell (World.block_lt_of_cell? w _ hx384_0)).trans hx384_0; replace hx384_1 := (HB.out.cell (World.block_lt_of_cell? w _ hx384_1)).trans hx384_1; replace hx384_2 := (HB.out.cell (World.block_lt_of_cell? w _ hx384_2)).trans hx384_2; replace hx384_3 := (HB.out.cell (World.block_lt_of_cell? w _ hx384_3)).trans hx384_3; replace hx384_4 := (HB.out.cell (World.block_lt_of_cell? w _ hx384_4)).trans hx384_4; replace hx384_5 := (HB.out.cell (World.block_lt_of_cell? w _ hx384_5)).trans hx384_5; replace p384 := eq_true p384; replace q384 := eq_true q384) | (go_at_call 193; (with_reducible refine (spec_l15Find.calls k1 _ _ l0 ((rd_T117 l0 x3_1).f0) ((rd_T117 l0 x3_1).f1) ((rd_T117 l0 x3_1).f2) ((rd_T117 l0 x3_1).f3) ((rd_T117 l0 x3_1).f4) ((rd_T117 l0 x3_1).f5) t385 _ ?side1 ?side2 A7.out).mono ?_); (case side1 => repeat (first | exact (Kd.qp1 HR0.out HB.out) | (with_reducible refine Kd.qu0 ?_ _) | (with_reducible refine Kd.qt0 ?_ _) | (with_reducible refine Kd.qy0 ?_))); (case side2 => exact HC0.out); rintro e w12 ⟨rfl, hb⟩; have n0_ := Aside0.mk (qk0 (by repeat (first | (with_reducible first | exact HB.out | apply qc0 | apply qa0 | apply qb0) | exact HB.out)) hb); clear HB; have HB := n0_; clear n0_; (try clear hb); (try clear hb2); (try clear hk); (try clear hi)))
     go_ret
     exact ⟨by first | rfl | (simp [errW_none, errW_some] <;> rfl) | (simp [*, errW_none, errW_some] <;> rfl), by repeat (first | (with_reducible first | exact HB.out | apply qc0 | apply qa0 | apply qb0) | exact HB.out)⟩
    replace c6 := Bool.eq_false_iff.mpr c6
    subst c6
    have H1 : (some false) = some r := by rw [if_neg (show ¬ (false = true) by decide)] at H; exact H
    clear H
    have H := H1
    clear H1
    obtain rfl := Option.some.inj H
    have p382 : 0 ≤ (x3_1 : Int) := of_decide_eq_true (by first | (with_reducible assumption) | assumption)
    have q382 : x3_1 < (l0.length : Int) := of_decide_eq_true (by first | (with_reducible assumption) | assumption)
    obtain ⟨ad382, e382, hx382_0, hx382_1, hx382_2, hx382_3, hx382_4, hx382_5⟩ := at_T117 HR0.out x3_1 p382 q382
    cases e382
    replace hx382_0 := (HB.out.cell (World.block_lt_of_cell? w _ hx382_0)).trans hx382_0
    replace hx382_1 := (HB.out.cell (World.block_lt_of_cell? w _ hx382_1)).trans hx382_1
    replace hx382_2 := (HB.out.cell (World.block_lt_of_cell? w _ hx382_2)).trans hx382_2
    replace hx382_3 := (HB.out.cell (World.block_lt_of_cell? w _ hx382_3)).trans hx382_3
    replace hx382_4 := (HB.out.cell (World.block_lt_of_cell? w _ hx382_4)).trans hx382_4
    replace hx382_5 := (HB.out.cell (World.block_lt_of_cell? w _ hx382_5)).trans hx382_5
    replace p382 := eq_true p382
    replace q382 := eq_true q382
    go_wp2_with (first | ((with_reducible refine qo0 (f := 192) rfl ?_); refine qz0 (some 17) rfl rfl Try.func192 (by kernel_rfl) rfl #[.agg #[.string ((rd_T117 l0 x3_1).f0), .string ((rd_T117 l0 x3_1).f1), .string ((rd_T117 l0 x3_1).f2), .int .i64 ((rd_T117 l0 x3_1).f3), .int .i64 ((rd_T117 l0 x3_1).f4), .int .i64 ((rd_T117 l0 x3_1).f5)]] rfl (by (try simp only [List.map_toArray, List.map_cons, List.map_nil]); first | done | rfl | (simp only [List.length_drop, List.length_take]; rfl)) ?_; (with_reducible refine (spec_l15Cell.calls k1 ((rd_T117 l0 x3_1).f0) ((rd_T117 l0 x3_1).f1) ((rd_T117 l0 x3_1).f2) ((rd_T117 l0 x3_1).f3) ((rd_T117 l0 x3_1).f4) ((rd_T117 l0 x3_1).f5) false _ A5.out).mono ?_); rintro e w13 ⟨rfl, hb⟩; refine ⟨_, rfl, ?_⟩; have n0_ := Aside0.mk (qk0 (by repeat (first | (with_reducible first | exact HB.out | apply qc0 | apply qa0 | apply qb0) | exact HB.out)) hb); clear HB; have HB := n0_; clear n0_; (try clear hb); (try clear hb2); (try clear hk); (try clear hi)))
    go_ret
    exact ⟨by first | rfl | (simp [errW_none, errW_some] <;> rfl) | (simp [*, errW_none, errW_some] <;> rfl), by repeat (first | (with_reducible first | exact HB.out | apply qc0 | apply qa0 | apply qb0) | exact HB.out)⟩
   rw [if_neg c3] at H
   have c3b0 : decide (x3_1 < (l0.length : Int)) = false := decide_eq_false c3
   clear c3
   obtain rfl := Option.some.inj H
   go_wp2
   go_ret
   exact ⟨by first | rfl | (simp [errW_none, errW_some] <;> rfl) | (simp [*, errW_none, errW_some] <;> rfl), by repeat (first | (with_reducible first | exact HB.out | apply qc0 | apply qa0 | apply qb0) | exact HB.out)⟩

/-! ### spec_l15Copy: function 159 -/
def spec_l15Copy.f (l0 : List (S117)) : Option ((List (S117))) := (some (([] : List (S117)) : List (S117))).bind fun y386 => (if y386.length + l0.length < 1954687338268 then (some (y386 ++ l0)) else (none))
set_option maxHeartbeats 8000000 in
set_option maxRecDepth 100000 in
theorem spec_l15Copy.calls (A0 : Option Addr) (c0 : Nat) (l0 : List (S117)) (r : List (S117)) (w : World) (hr0 : Kd.C k117 w A0 l0.length l0) (hc0 : l0.length ≤ c0) (h : spec_l15Copy.f l0 = some r) :
  Calls Try.prog 159 #[.slice A0 l0.length c0] w fun e w' => ∃ v0_ : Value, e = .returned (v0_) ∧ Kd.R k117 117 w' w.heap.size (fun _ => True) v0_ r ∧ Below w.heap.size w w' := by
 have HR0 := Aside0.mk hr0
 have HC0 := Aside0.mk hc0
 clear hr0 hc0
 have HB := Aside0.mk (Below.refl w.heap.size w)
 have H : ((some (([] : List (S117)) : List (S117))).bind fun y386 => (if y386.length + l0.length < 1954687338268 then (some (y386 ++ l0)) else (none))) = some r := h
 clear h
 obtain ⟨y386, hy386⟩ : ∃ y_ : List (S117), y_ = (([] : List (S117))) := ⟨_, rfl⟩
 replace H : (if y386.length + l0.length < 1954687338268 then (some (y386 ++ l0)) else (none)) = some r := by first | (rw [hy386]; with_reducible exact H) | (have H2_ := (Option.bind_some _ _).symm.trans H; rw [hy386]; with_reducible exact H2_) | (have H2_ := (Option.bind_some _ _).symm.trans H; with_reducible exact H2_) | with_reducible exact H | (rw [hy386]; exact H) | exact H
 have Ny386 := Aside0.mk hy386
 clear hy386
 by_cases c2 : y386.length + l0.length < 1954687338268
 case neg => rw [if_neg c2] at H; exact absurd H (by simp)
 rw [if_pos c2] at H
 have LMc2 := Aside0.mk c2
 clear c2
 obtain ⟨y389, hy389⟩ : ∃ y_ : List (S117), y_ = (y386 ++ l0) := ⟨_, rfl⟩
 replace H : (some y389) = some r := by first | (rw [hy389]; with_reducible exact H) | (have H2_ := (Option.bind_some _ _).symm.trans H; rw [hy389]; with_reducible exact H2_) | (have H2_ := (Option.bind_some _ _).symm.trans H; with_reducible exact H2_) | with_reducible exact H | (rw [hy389]; exact H) | exact H
 have Ny389 := Aside0.mk hy389
 clear hy389
 obtain rfl := Option.some.inj H
 go_enter Try.func159, Try.ntmps159
 go_wp2_with (first | ((with_reducible refine gate_dst (N := 3) rfl ?_); refine Kd.R_lit k117 _ 117 ?hg (N := 3) ?hd (xs := ([] : List (S117))) (inner := []) (ok := fun _ => True) (okp := fun _ => True) ?hr ?hp (fun _ hk => hk) trivial (Below.refl _ _) (Nat.le_refl _) (by simp) ?_; (case hd => rfl); (case hg => rfl); (case hr => first | (go_simp; done) | (go_simp; rfl)); (case hp => exact (Reps.none _ _)); intro v387 w3 ho4 hb hg_ hnew_; clear hg_ hnew_; (first | rw [← Ny386.out] at ho4 | (simp only [Int.reduceToNat] at ho4; rw [← Ny386.out] at ho4)); have n0_ := Aside0.mk (Kd.qb1 ho4 (ql0 (by repeat (first | (with_reducible first | exact HB.out | apply qc0 | apply qa0 | apply qb0) | exact HB.out)))); have n1_ := Aside0.mk (qk0 (by repeat (first | (with_reducible first | exact HB.out | apply qc0 | apply qa0 | apply qb0) | exact HB.out)) hb); clear HB; have HO388 := n0_; have HB := n1_; clear n0_ n1_; clear hb ho4) | ((with_reducible refine gate_builtin (b := .append) (xs := #[.tmp 3, .tmp 4]) rfl ?_); at_builtin; refine Kd.R_append_rows k117 (w0 := w) w.heap.size rfl (.tmp 3) (.tmp 4) 72 117 (.agg #[(.string ⟨#[]⟩), (.string ⟨#[]⟩), (.string ⟨#[]⟩), (.int .i64 0), (.int .i64 0), (.int .i64 0)]) 72 rfl Try.underlying72 info117 rfl (by decide) (by omega) v387 y386 l0 _ _ _ (fun _ => True) (fun _ => False) rfl rfl ?aO ?aR (fun _ _ h => h) (fun _ h => h.elim) ?aF ?aB ?aS ?aL ?_; (case aR => repeat (first | exact (Kd.qp1 HR0.out HB.out) | (with_reducible refine Kd.qu0 ?_ _) | (with_reducible refine Kd.qt0 ?_ _) | (with_reducible refine Kd.qy0 ?_))); (case aB => exact (by repeat (first | (with_reducible first | exact HB.out | apply qc0 | apply qa0 | apply qb0) | exact HB.out))); (case aF => exact (fun _ _ => trivial)); (case aO => exact (by (with_reducible repeat (first | apply Kd.qi0 | apply Kd.qh0 | apply Kd.qj0)); exact HO388.out)); (case aS => exact (ql0 (by repeat (first | (with_reducible first | exact HB.out | apply qc0 | apply qa0 | apply qb0) | exact HB.out)))); (case aL => have := LMc2.out; omega); intro v390 w5 ho hb hg hat; rw [← Ny389.out] at ho; have n0_ := Aside0.mk (hb); have n1_ := Aside0.mk (ho); clear HB; clear HO388; have HB := n0_; have HO391 := n1_; clear n0_ n1_; clear ho hb hg hat))
 go_ret
 exact ⟨_, by first | rfl | (simp [errW_none, errW_some] <;> rfl) | (simp [*, errW_none, errW_some] <;> rfl), by (with_reducible repeat (first | apply Kd.qi0 | apply Kd.qh0 | apply Kd.qj0)); exact HO391.out, by repeat (first | (with_reducible first | exact HB.out | apply qc0 | apply qa0 | apply qb0) | exact HB.out)⟩

/-! ### spec_l15Add: function 160 -/
def spec_l15Add.f (k : Nat) (l0 : List (S117)) (a1_0 : ByteArray) (a1_1 : ByteArray) (a1_2 : ByteArray) (a1_3 : Int) (a1_4 : Int) (a1_5 : Int) : Option ((List (S117)) × Bool) := (spec_l15Find.f k l0 a1_0 a1_1 a1_2 a1_3 a1_4 a1_5).bind fun t393 => (if t393 < 0 then (if (l0.length : Int) ≥ 100 then (some (l0, false)) else (if l0.length < 1954687338268 then (some ((l0 ++ [(⟨a1_0, a1_1, a1_2, a1_3, a1_4, a1_5⟩ : S117)]), true)) else (none))) else (if 0 ≤ t393 then (if t393 < (l0.length : Int) then (if (wrap64 (((rd_T117 l0 t393).f4) + a1_4)) > 1000000 then (some (l0, false)) else (some ((l0.set (t393 : Int).toNat (⟨(rd_T117 l0 t393).f0, (rd_T117 l0 t393).f1, (rd_T117 l0 t393).f2, (rd_T117 l0 t393).f3, wrap64 (((rd_T117 l0 t393).f4) + a1_4), (rd_T117 l0 t393).f5⟩ : S117)), true))) else (none)) else (none)))
theorem spec_l15Add.mono : ∀ a0 a1 a2 a3 a4 a5 a6 k, LeO (spec_l15Add.f k a0 a1 a2 a3 a4 a5 a6) (spec_l15Add.f (k + 1) a0 a1 a2 a3 a4 a5 a6) := by
 intro a0 a1 a2 a3 a4 a5 a6 k
 unfold spec_l15Add.f
 repeat' first
   | (with_reducible exact spec_l15Find.mono _ _ _ _ _ _ _ _)
   | (with_reducible exact LeO.refl _)
   | (with_reducible exact LeO.none _)
   | (with_reducible refine LeO.ite ?_ ?_)
   | (with_reducible refine LeO.bind ?_ (fun _ => ?_))
   | exact spec_l15Find.mono _ _ _ _ _ _ _ _
   | exact LeO.none _
   | refine LeO.ite ?_ ?_
   | refine LeO.bind ?_ (fun _ => ?_)
def spec_l15Add.T6 : Bool × List (List Nat × List Nat) := (true, [([], []), ([], []), ([0, 1], [0, 1]), ([2], [2]), ([3], [3]), ([], []), ([5], [5]), ([4, 6], [4, 6]), ([7], [7])])
def spec_l15Add.B6 : List Nat := [0, 0, 3, 7, 15, 0, 32, 127, 255]
theorem spec_l15Add.tab6 : rtab .any (opsOf Try.f160 6) = spec_l15Add.T6 := by kernel_rfl
theorem spec_l15Add.bits6 : waitsOk spec_l15Add.T6.2 spec_l15Add.B6 = true := by kernel_rfl
def spec_l15Add.T8 : Bool × List (List Nat × List Nat) := (true, [([], []), ([], []), ([], []), ([], []), ([2, 3], [2, 3]), ([4], [4]), ([5], [5]), ([], []), ([7], [7]), ([6, 8], [6, 8]), ([0, 1, 0, 1, 2, 3, 4, 5, 6, 7, 8, 9], [0, 1]), ([10, 0, 1, 2, 3, 4, 5, 6, 7, 8, 9], [10]), ([11, 9, 0, 1, 2, 3, 4, 5, 6, 7, 8, 9], [9, 11])])
def spec_l15Add.B8 : List Nat := [0, 0, 0, 0, 12, 28, 60, 0, 128, 508, 1023, 2047, 4095]
theorem spec_l15Add.tab8 : rtab .any (opsOf Try.f160 8) = spec_l15Add.T8 := by kernel_rfl
theorem spec_l15Add.bits8 : waitsOk spec_l15Add.T8.2 spec_l15Add.B8 = true := by kernel_rfl
set_option maxHeartbeats 8000000 in
set_option maxRecDepth 100000 in
theorem spec_l15Add.calls (k : Nat) (P0_ : Nat → Prop) (u9000_ : Value) (l0 : List (S117)) (a1_0 : ByteArray) (a1_1 : ByteArray) (a1_2 : ByteArray) (a1_3 : Int) (a1_4 : Int) (a1_5 : Int) (r1 : List (S117)) (r2 : Bool) (w0 w : World) (hB : Below w0.heap.size w0 w) (ho0 : Kd.R k117 117 w w0.heap.size P0_ u9000_ l0) (h : spec_l15Add.f k l0 a1_0 a1_1 a1_2 a1_3 a1_4 a1_5 = some (r1, r2)) :
  Calls Try.prog 160 #[u9000_, .agg #[.string a1_0, .string a1_1, .string a1_2, .int .i64 a1_3, .int .i64 a1_4, .int .i64 a1_5]] w fun e w' => ∃ v0_ : Value, e = .returned (.tuple #[v0_, .bool r2]) ∧ Kd.R k117 117 w' w0.heap.size (fun k_ => (P0_ k_ ∨ w.heap.size ≤ k_)) v0_ r1 ∧ Below w0.heap.size w0 w' ∧ Kept w w' (fun k_ => P0_ k_) := by
 have hu117 := Try.underlying117
 have HO0 := Aside0.mk (show Kd.R k117 117 w w0.heap.size (fun k_ => (P0_ k_ ∨ w.heap.size ≤ k_)) u9000_ l0 from Kd.qv0 ho0 (fun k_ hk => (.inl hk)))
 have HK := Aside0.mk (Kept.refl w (fun k_ => P0_ k_))
 have HW0 := Aside0.mk hB.size
 have HB := Aside0.mk hB
 clear hB
 have H : ((spec_l15Find.f k l0 a1_0 a1_1 a1_2 a1_3 a1_4 a1_5).bind fun t393 => (if t393 < 0 then (if (l0.length : Int) ≥ 100 then (some (l0, false)) else (if l0.length < 1954687338268 then (some ((l0 ++ [(⟨a1_0, a1_1, a1_2, a1_3, a1_4, a1_5⟩ : S117)]), true)) else (none))) else (if 0 ≤ t393 then (if t393 < (l0.length : Int) then (if (wrap64 (((rd_T117 l0 t393).f4) + a1_4)) > 1000000 then (some (l0, false)) else (some ((l0.set (t393 : Int).toNat (⟨(rd_T117 l0 t393).f0, (rd_T117 l0 t393).f1, (rd_T117 l0 t393).f2, (rd_T117 l0 t393).f3, wrap64 (((rd_T117 l0 t393).f4) + a1_4), (rd_T117 l0 t393).f5⟩ : S117)), true))) else (none)) else (none)))) = some (r1, r2) := h
 clear h
 replace H := Option.bind_eq_some_iff.mp H
 obtain ⟨t393, A30, H⟩ := H
 replace H : (if t393 < 0 then (if (l0.length : Int) ≥ 100 then (some (l0, false)) else (if l0.length < 1954687338268 then (some ((l0 ++ [(⟨a1_0, a1_1, a1_2, a1_3, a1_4, a1_5⟩ : S117)]), true)) else (none))) else (if 0 ≤ t393 then (if t393 < (l0.length : Int) then (if (wrap64 (((rd_T117 l0 t393).f4) + a1_4)) > 1000000 then (some (l0, false)) else (some ((l0.set (t393 : Int).toNat (⟨(rd_T117 l0 t393).f0, (rd_T117 l0 t393).f1, (rd_T117 l0 t393).f2, (rd_T117 l0 t393).f3, wrap64 (((rd_T117 l0 t393).f4) + a1_4), (rd_T117 l0 t393).f5⟩ : S117)), true))) else (none)) else (none))) = some (r1, r2) := H
 have A3 := Aside0.mk A30
 clear A30
 by_cases c4 : t393 < 0
 ·rw [if_pos c4] at H
  have c4b0 : decide (t393 < 0) = true := decide_eq_true c4
  clear c4
  by_cases c5 : (l0.length : Int) ≥ 100
  ·rw [if_pos c5] at H
   have c5b0 : decide (100 ≤ (l0.length : Int)) = true := decide_eq_true c5
   have c5b1 : decide (100 ≤ l0.length) = true := decide_eq_true (by omega)
   clear c5
   simp only [Option.some.injEq, Prod.mk.injEq] at H
   obtain ⟨rfl, rfl⟩ := H
   go_enter Try.func160, Try.ntmps160
   go_wp2_with (first | ((with_reducible refine gate_dst (N := 3) rfl ?_); refine qh1 ?hg (N := 3) ?hd (cs := #[.string a1_0, .string a1_1, .string a1_2, .int .i64 a1_3, .int .i64 a1_4, .int .i64 a1_5]) (t := 117) ?hr ?_; (case hd => rfl); (case hg => rfl); (case hr => first | (go_simp; done) | (go_simp; rfl)); intro gb392 hg w6 hbox hb; have n0_ := Aside0.mk (Kd.qg1 (Kd.R_elderB (by (with_reducible repeat (first | apply Kd.qi0 | apply Kd.qh0 | apply Kd.qj0)); exact HO0.out) gb392 (Nat.le_of_eq hg.symm)) hb); have n1_ := Aside0.mk (Kept.below (S := (fun k_ => P0_ k_)) (by repeat (first | (with_reducible first | exact HK.out | apply Kept.alloc | apply Kept.drewN | apply Kept.drew) | exact HK.out)) hb); have n2_ := Aside0.mk (qk0 (by repeat (first | (with_reducible first | exact HB.out | apply qc0 | apply qa0 | apply qb0) | exact HB.out)) hb); have n3_ := Aside0.mk (hbox); have n4_ := Aside0.mk ((by rw [hg]; exact (by first | exact HK.out.1 | exact (show Kept w _ (fun k_ => P0_ k_) from by repeat (first | (with_reducible first | exact HK.out | apply Kept.alloc | apply Kept.drewN | apply Kept.drew) | exact HK.out)).1) : w.heap.size ≤ gb392)); have n5_ := Aside0.mk ((by rw [hg]; exact (ql0 (by repeat (first | (with_reducible first | exact HB.out | apply qc0 | apply qa0 | apply qb0) | exact HB.out))) : w0.heap.size ≤ gb392)); clear HO0; clear HK; clear HB; have HO0 := n0_; have HK := n1_; have HB := n2_; have BK392 := n3_; have GW392 := n4_; have GE392 := n5_; clear n0_ n1_ n2_ n3_ n4_ n5_; clear hb hbox hg; have hcz7_0 : w6.cell? ⟨gb392, 0, none⟩ = some (.string a1_0) := (qe0 BK392.out 0).trans rfl; have hcz7_1 : w6.cell? ⟨gb392, 1, none⟩ = some (.string a1_1) := (qe0 BK392.out 1).trans rfl; have hcz7_2 : w6.cell? ⟨gb392, 2, none⟩ = some (.string a1_2) := (qe0 BK392.out 2).trans rfl; have hcz7_3 : w6.cell? ⟨gb392, 3, none⟩ = some (.int .i64 a1_3) := (qe0 BK392.out 3).trans rfl; have hcz7_4 : w6.cell? ⟨gb392, 4, none⟩ = some (.int .i64 a1_4) := (qe0 BK392.out 4).trans rfl; have hcz7_5 : w6.cell? ⟨gb392, 5, none⟩ = some (.int .i64 a1_5) := (qe0 BK392.out 5).trans rfl; have hfz7_0 := qd0 BK392.out 0; have hfz7_1 := qd0 BK392.out 1; have hfz7_2 := qd0 BK392.out 2; have hfz7_3 := qd0 BK392.out 3; have hfz7_4 := qd0 BK392.out 4; have hfz7_5 := qd0 BK392.out 5; obtain ⟨Ao8, co8, eo8⟩ := Kd.qe1 HO0.out; subst eo8) | ((with_reducible refine qo0 (f := 193) rfl ?_); refine qz0 (some 9) rfl rfl Try.func193 (by kernel_rfl) rfl #[.slice Ao8 l0.length co8, .agg #[.string a1_0, .string a1_1, .string a1_2, .int .i64 a1_3, .int .i64 a1_4, .int .i64 a1_5]] rfl (by (try simp only [List.map_toArray, List.map_cons, List.map_nil]); first | done | rfl | (simp only [List.length_drop, List.length_take]; rfl)) ?_; (with_reducible refine (spec_l15Find.calls k _ _ l0 a1_0 a1_1 a1_2 a1_3 a1_4 a1_5 t393 _ ?side1 ?side2 A3.out).mono ?_); (case side1 => repeat (first | exact (Kd.qf0 HO0.out).2.2 | (with_reducible refine Kd.qu0 ?_ _) | (with_reducible refine Kd.qt0 ?_ _) | (with_reducible refine Kd.qy0 ?_))); (case side2 => exact (Kd.qf0 HO0.out).2.1); rintro e w9 ⟨rfl, hb⟩; refine ⟨_, rfl, ?_⟩; have n0_ := Aside0.mk (Kd.qg1 (by (with_reducible repeat (first | apply Kd.qi0 | apply Kd.qh0 | apply Kd.qj0)); exact HO0.out) hb); have n1_ := Aside0.mk (ql1 (g := gb392) (o := .cells #[.string a1_0, .string a1_1, .string a1_2, .int .i64 a1_3, .int .i64 a1_4, .int .i64 a1_5] 117 (0, 0)) (by (with_reducible repeat (first | refine qm0 ?_ _ | refine qp0 ?_ | refine qn0 ?_ _)); exact BK392.out) hb); have n2_ := Aside0.mk (Kept.below (S := (fun k_ => P0_ k_)) (by repeat (first | (with_reducible first | exact HK.out | apply Kept.alloc | apply Kept.drewN | apply Kept.drew | refine Kept.setCell ?_ (.inr GW392.out) _) | exact HK.out)) hb); have n3_ := Aside0.mk (qk0 (by repeat (first | (with_reducible first | exact HB.out | apply qc0 | apply qa0 | apply qb0 | refine qg0 ?_ GE392.out) | exact HB.out)) hb); clear HO0; clear BK392; clear HK; clear HB; have HO0 := n0_; have BK392 := n1_; have HK := n2_; have HB := n3_; clear n0_ n1_ n2_ n3_; (try clear hb); (try clear hb2); (try clear hk); (try clear hi)))
   go_ret2
   exact ⟨_, by first | rfl | (simp [errW_none, errW_some] <;> rfl) | (simp [*, errW_none, errW_some] <;> rfl), by (with_reducible repeat (first | apply Kd.qi0 | apply Kd.qh0 | apply Kd.qj0)); exact Kd.qv0 HO0.out (fun _ hk => hk.1), by repeat (first | (with_reducible first | exact HB.out | apply qc0 | apply qa0 | apply qb0 | refine qg0 ?_ GE392.out) | exact HB.out), by repeat (first | (with_reducible first | exact HK.out | apply Kept.alloc | apply Kept.drewN | apply Kept.drew | refine Kept.setCell ?_ (.inr GW392.out) _) | exact HK.out)⟩
  rw [if_neg c5] at H
  have c5b0 : decide (100 ≤ (l0.length : Int)) = false := decide_eq_false c5
  have c5b1 : decide (100 ≤ l0.length) = false := decide_eq_false (by omega)
  clear c5
  by_cases c10 : l0.length < 1954687338268
  case neg => rw [if_neg c10] at H; exact absurd H (by simp)
  rw [if_pos c10] at H
  have LMc10 := Aside0.mk c10
  clear c10
  obtain ⟨y394, hy394⟩ : ∃ y_ : List (S117), y_ = (l0 ++ [(⟨a1_0, a1_1, a1_2, a1_3, a1_4, a1_5⟩ : S117)]) := ⟨_, rfl⟩
  replace H : (some (y394, true)) = some (r1, r2) := by first | (rw [hy394]; with_reducible exact H) | (have H2_ := (Option.bind_some _ _).symm.trans H; rw [hy394]; with_reducible exact H2_) | (have H2_ := (Option.bind_some _ _).symm.trans H; with_reducible exact H2_) | with_reducible exact H | (rw [hy394]; exact H) | exact H
  have Ny394 := Aside0.mk hy394
  clear hy394
  simp only [Option.some.injEq, Prod.mk.injEq] at H
  obtain ⟨rfl, rfl⟩ := H
  go_enter Try.func160, Try.ntmps160
  go_wp2_with (first | ((with_reducible refine gate_dst (N := 3) rfl ?_); refine qh1 ?hg (N := 3) ?hd (cs := #[.string a1_0, .string a1_1, .string a1_2, .int .i64 a1_3, .int .i64 a1_4, .int .i64 a1_5]) (t := 117) ?hr ?_; (case hd => rfl); (case hg => rfl); (case hr => first | (go_simp; done) | (go_simp; rfl)); intro gb392 hg w11 hbox hb; have n0_ := Aside0.mk (Kd.qg1 (Kd.R_elderB (by (with_reducible repeat (first | apply Kd.qi0 | apply Kd.qh0 | apply Kd.qj0)); exact HO0.out) gb392 (Nat.le_of_eq hg.symm)) hb); have n1_ := Aside0.mk (Kept.below (S := (fun k_ => P0_ k_)) (by repeat (first | (with_reducible first | exact HK.out | apply Kept.alloc | apply Kept.drewN | apply Kept.drew) | exact HK.out)) hb); have n2_ := Aside0.mk (qk0 (by repeat (first | (with_reducible first | exact HB.out | apply qc0 | apply qa0 | apply qb0) | exact HB.out)) hb); have n3_ := Aside0.mk (hbox); have n4_ := Aside0.mk ((by rw [hg]; exact (by first | exact HK.out.1 | exact (show Kept w _ (fun k_ => P0_ k_) from by repeat (first | (with_reducible first | exact HK.out | apply Kept.alloc | apply Kept.drewN | apply Kept.drew) | exact HK.out)).1) : w.heap.size ≤ gb392)); have n5_ := Aside0.mk ((by rw [hg]; exact (ql0 (by repeat (first | (with_reducible first | exact HB.out | apply qc0 | apply qa0 | apply qb0) | exact HB.out))) : w0.heap.size ≤ gb392)); clear HO0; clear HK; clear HB; have HO0 := n0_; have HK := n1_; have HB := n2_; have BK392 := n3_; have GW392 := n4_; have GE392 := n5_; clear n0_ n1_ n2_ n3_ n4_ n5_; clear hb hbox hg; have hcz12_0 : w11.cell? ⟨gb392, 0, none⟩ = some (.string a1_0) := (qe0 BK392.out 0).trans rfl; have hcz12_1 : w11.cell? ⟨gb392, 1, none⟩ = some (.string a1_1) := (qe0 BK392.out 1).trans rfl; have hcz12_2 : w11.cell? ⟨gb392, 2, none⟩ = some (.string a1_2) := (qe0 BK392.out 2).trans rfl; have hcz12_3 : w11.cell? ⟨gb392, 3, none⟩ = some (.int .i64 a1_3) := (qe0 BK392.out 3).trans rfl; have hcz12_4 : w11.cell? ⟨gb392, 4, none⟩ = some (.int .i64 a1_4) := (qe0 BK392.out 4).trans rfl; have hcz12_5 : w11.cell? ⟨gb392, 5, none⟩ = some (.int .i64 a1_5) := (qe0 BK392.out 5).trans rfl; have hfz12_0 := qd0 BK392.out 0; have hfz12_1 := qd0 BK392.out 1; have hfz12_2 := qd0 BK392.out 2; have hfz12_3 := qd0 BK392.out 3; have hfz12_4 := qd0 BK392.out 4; have hfz12_5 := qd0 BK392.out 5; obtain ⟨Ao13, co13, eo13⟩ := Kd.qe1 HO0.out; subst eo13) | ((with_reducible refine qo0 (f := 193) rfl ?_); refine qz0 (some 9) rfl rfl Try.func193 (by kernel_rfl) rfl #[.slice Ao13 l0.length co13, .agg #[.string a1_0, .string a1_1, .string a1_2, .int .i64 a1_3, .int .i64 a1_4, .int .i64 a1_5]] rfl (by (try simp only [List.map_toArray, List.map_cons, List.map_nil]); first | done | rfl | (simp only [List.length_drop, List.length_take]; rfl)) ?_; (with_reducible refine (spec_l15Find.calls k _ _ l0 a1_0 a1_1 a1_2 a1_3 a1_4 a1_5 t393 _ ?side1 ?side2 A3.out).mono ?_); (case side1 => repeat (first | exact (Kd.qf0 HO0.out).2.2 | (with_reducible refine Kd.qu0 ?_ _) | (with_reducible refine Kd.qt0 ?_ _) | (with_reducible refine Kd.qy0 ?_))); (case side2 => exact (Kd.qf0 HO0.out).2.1); rintro e w14 ⟨rfl, hb⟩; refine ⟨_, rfl, ?_⟩; have n0_ := Aside0.mk (Kd.qg1 (by (with_reducible repeat (first | apply Kd.qi0 | apply Kd.qh0 | apply Kd.qj0)); exact HO0.out) hb); have n1_ := Aside0.mk (ql1 (g := gb392) (o := .cells #[.string a1_0, .string a1_1, .string a1_2, .int .i64 a1_3, .int .i64 a1_4, .int .i64 a1_5] 117 (0, 0)) (by (with_reducible repeat (first | refine qm0 ?_ _ | refine qp0 ?_ | refine qn0 ?_ _)); exact BK392.out) hb); have n2_ := Aside0.mk (Kept.below (S := (fun k_ => P0_ k_)) (by repeat (first | (with_reducible first | exact HK.out | apply Kept.alloc | apply Kept.drewN | apply Kept.drew | refine Kept.setCell ?_ (.inr GW392.out) _) | exact HK.out)) hb); have n3_ := Aside0.mk (qk0 (by repeat (first | (with_reducible first | exact HB.out | apply qc0 | apply qa0 | apply qb0 | refine qg0 ?_ GE392.out) | exact HB.out)) hb); clear HO0; clear BK392; clear HK; clear HB; have HO0 := n0_; have BK392 := n1_; have HK := n2_; have HB := n3_; clear n0_ n1_ n2_ n3_; (try clear hb); (try clear hb2); (try clear hk); (try clear hi); have hcz15_0 : w14.cell? ⟨gb392, 0, none⟩ = some (.string a1_0) := (qe0 BK392.out 0).trans rfl; have hcz15_1 : w14.cell? ⟨gb392, 1, none⟩ = some (.string a1_1) := (qe0 BK392.out 1).trans rfl; have hcz15_2 : w14.cell? ⟨gb392, 2, none⟩ = some (.string a1_2) := (qe0 BK392.out 2).trans rfl; have hcz15_3 : w14.cell? ⟨gb392, 3, none⟩ = some (.int .i64 a1_3) := (qe0 BK392.out 3).trans rfl; have hcz15_4 : w14.cell? ⟨gb392, 4, none⟩ = some (.int .i64 a1_4) := (qe0 BK392.out 4).trans rfl; have hcz15_5 : w14.cell? ⟨gb392, 5, none⟩ = some (.int .i64 a1_5) := (qe0 BK392.out 5).trans rfl; have hfz15_0 := qd0 BK392.out 0; have hfz15_1 := qd0 BK392.out 1; have hfz15_2 := qd0 BK392.out 2; have hfz15_3 := qd0 BK392.out 3; have hfz15_4 := qd0 BK392.out 4; have hfz15_5 := qd0 BK392.out 5) | ((with_reducible refine gate_builtin (b := .append) (xs := #[.tmp 16, .tmp 18]) rfl ?_); at_builtin; refine Kd.R_append k117 (w0 := w0) w0.heap.size rfl (.tmp 16) (.tmp 18) 72 117 (.agg #[(.string ⟨#[]⟩), (.string ⟨#[]⟩), (.string ⟨#[]⟩), (.int .i64 0), (.int .i64 0), (.int .i64 0)]) 72 rfl Try.underlying72 info117 rfl (by decide) (by omega) (.slice Ao13 l0.length co13) l0 (⟨a1_0, a1_1, a1_2, a1_3, a1_4, a1_5⟩ : S117) [.string a1_0, .string a1_1, .string a1_2, .int .i64 a1_3, .int .i64 a1_4, .int .i64 a1_5] (fun k_ => (P0_ k_ ∨ w.heap.size ≤ k_) ∧ k_ ≠ gb392) (fun _ => False) rfl rfl ?aP (fun _ hk => hk.elim) ?aF ?aO ?aB ?aS ?aL ?_; (case aP => exact k117_mkM _ _ _ (⟨a1_0, a1_1, a1_2, a1_3, a1_4, a1_5⟩ : S117)); (case aB => exact (by repeat (first | (with_reducible first | exact HB.out | apply qc0 | apply qa0 | apply qb0 | refine qg0 ?_ GE392.out) | exact HB.out))); (case aF => exact (fun k_ hk => ⟨(.inr (Nat.le_trans (by first | exact HK.out.1 | exact (show Kept w _ (fun k_ => P0_ k_) from by repeat (first | (with_reducible first | exact HK.out | apply Kept.alloc | apply Kept.drewN | apply Kept.drew | refine Kept.setCell ?_ (.inr GW392.out) _) | exact HK.out)).1) hk)), Kd.freshB (g := gb392) (o := .cells #[.string a1_0, .string a1_1, .string a1_2, .int .i64 a1_3, .int .i64 a1_4, .int .i64 a1_5] 117 (0, 0)) (by (with_reducible repeat (first | refine qm0 ?_ _ | refine qp0 ?_ | refine qn0 ?_ _)); exact BK392.out) k_ hk⟩)); (case aO => exact (by (with_reducible repeat (first | apply Kd.qi0 | apply Kd.qh0 | apply Kd.qj0)); exact HO0.out)); (case aS => exact (ql0 (by repeat (first | (with_reducible first | exact HB.out | apply qc0 | apply qa0 | apply qb0 | refine qg0 ?_ GE392.out) | exact HB.out)))); (case aL => have := LMc10.out; omega); intro v395 w16 ho hb hg hat; rw [← Ny394.out] at ho; have n0_ := Aside0.mk (blk_grown (g := gb392) (o := .cells #[.string a1_0, .string a1_1, .string a1_2, .int .i64 a1_3, .int .i64 a1_4, .int .i64 a1_5] 117 (0, 0)) (by (with_reducible repeat (first | refine qm0 ?_ _ | refine qp0 ?_ | refine qn0 ?_ _)); exact BK392.out) hg (Kd.R_away HO0.out (fun _ hk => hk.2))); have n1_ := Aside0.mk (hb); have n2_ := Aside0.mk (Kept.of_grown (S := (fun k_ => P0_ k_)) hg (by repeat (first | (with_reducible first | exact HK.out | apply Kept.alloc | apply Kept.drewN | apply Kept.drew | refine Kept.setCell ?_ (.inr GW392.out) _) | exact HK.out)) (fun k_ e_ => (HO0.out.1 k_ e_).1)); have n3_ := Aside0.mk (ho); clear BK392; clear HB; clear HK; clear HO0; have BK392 := n0_; have HB := n1_; have HK := n2_; have HO396 := n3_; clear n0_ n1_ n2_ n3_; clear ho hb hg hat))
  go_ret2
  exact ⟨_, by first | rfl | (simp [errW_none, errW_some] <;> rfl) | (simp [*, errW_none, errW_some] <;> rfl), by (with_reducible repeat (first | apply Kd.qi0 | apply Kd.qh0 | apply Kd.qj0)); exact Kd.qv0 HO396.out (fun _ hk => hk.1), by repeat (first | (with_reducible first | exact HB.out | apply qc0 | apply qa0 | apply qb0 | refine qg0 ?_ GE392.out) | exact HB.out), by repeat (first | (with_reducible first | exact HK.out | apply Kept.alloc | apply Kept.drewN | apply Kept.drew | refine Kept.setCell ?_ (.inr GW392.out) _) | exact HK.out)⟩
 rw [if_neg c4] at H
 have c4b0 : decide (t393 < 0) = false := decide_eq_false c4
 clear c4
 by_cases c17 : 0 ≤ t393
 case neg => rw [if_neg c17] at H; exact absurd H (by simp)
 rw [if_pos c17] at H
 have c17b0 : decide (0 ≤ t393) = true := decide_eq_true c17
 clear c17
 by_cases c18 : t393 < (l0.length : Int)
 case neg => rw [if_neg c18] at H; exact absurd H (by simp)
 rw [if_pos c18] at H
 have c18b0 : decide (t393 < (l0.length : Int)) = true := decide_eq_true c18
 clear c18
 by_cases c19 : (wrap64 (((rd_T117 l0 t393).f4) + a1_4)) > 1000000
 ·rw [if_pos c19] at H
  have c19b0 : decide (1000000 < (wrap64 (((rd_T117 l0 t393).f4) + a1_4))) = true := decide_eq_true c19
  clear c19
  simp only [Option.some.injEq, Prod.mk.injEq] at H
  obtain ⟨rfl, rfl⟩ := H
  go_enter Try.func160, Try.ntmps160
  try go_wp2_with (first | ((with_reducible refine gate_dst (N := 3) rfl ?_); refine qh1 ?hg (N := 3) ?hd (cs := #[.string a1_0, .string a1_1, .string a1_2, .int .i64 a1_3, .int .i64 a1_4, .int .i64 a1_5]) (t := 117) ?hr ?_; (case hd => rfl); (case hg => rfl); (case hr => first | (go_simp; done) | (go_simp; rfl)); intro gb392 hg w20 hbox hb; have n0_ := Aside0.mk (Kd.qg1 (Kd.R_elderB (by (with_reducible repeat (first | apply Kd.qi0 | apply Kd.qh0 | apply Kd.qj0)); exact HO0.out) gb392 (Nat.le_of_eq hg.symm)) hb); have n1_ := Aside0.mk (Kept.below (S := (fun k_ => P0_ k_)) (by repeat (first | (with_reducible first | exact HK.out | apply Kept.alloc | apply Kept.drewN | apply Kept.drew) | exact HK.out)) hb); have n2_ := Aside0.mk (qk0 (by repeat (first | (with_reducible first | exact HB.out | apply qc0 | apply qa0 | apply qb0) | exact HB.out)) hb); have n3_ := Aside0.mk (hbox); have n4_ := Aside0.mk ((by rw [hg]; exact (by first | exact HK.out.1 | exact (show Kept w _ (fun k_ => P0_ k_) from by repeat (first | (with_reducible first | exact HK.out | apply Kept.alloc | apply Kept.drewN | apply Kept.drew) | exact HK.out)).1) : w.heap.size ≤ gb392)); have n5_ := Aside0.mk ((by rw [hg]; exact (ql0 (by repeat (first | (with_reducible first | exact HB.out | apply qc0 | apply qa0 | apply qb0) | exact HB.out))) : w0.heap.size ≤ gb392)); clear HO0; clear HK; clear HB; have HO0 := n0_; have HK := n1_; have HB := n2_; have BK392 := n3_; have GW392 := n4_; have GE392 := n5_; clear n0_ n1_ n2_ n3_ n4_ n5_; clear hb hbox hg; have hcz21_0 : w20.cell? ⟨gb392, 0, none⟩ = some (.string a1_0) := (qe0 BK392.out 0).trans rfl; have hcz21_1 : w20.cell? ⟨gb392, 1, none⟩ = some (.string a1_1) := (qe0 BK392.out 1).trans rfl; have hcz21_2 : w20.cell? ⟨gb392, 2, none⟩ = some (.string a1_2) := (qe0 BK392.out 2).trans rfl; have hcz21_3 : w20.cell? ⟨gb392, 3, none⟩ = some (.int .i64 a1_3) := (qe0 BK392.out 3).trans rfl; have hcz21_4 : w20.cell? ⟨gb392, 4, none⟩ = some (.int .i64 a1_4) := (qe0 BK392.out 4).trans rfl; have hcz21_5 : w20.cell? ⟨gb392, 5, none⟩ = some (.int .i64 a1_5) := (qe0 BK392.out 5).trans rfl; have hfz21_0 := qd0 BK392.out 0; have hfz21_1 := qd0 BK392.out 1; have hfz21_2 := qd0 BK392.out 2; have hfz21_3 := qd0 BK392.out 3; have hfz21_4 := qd0 BK392.out 4; have hfz21_5 := qd0 BK392.out 5; obtain ⟨Ao22, co22, eo22⟩ := Kd.qe1 HO0.out; subst eo22) | ((with_reducible refine qo0 (f := 193) rfl ?_); refine qz0 (some 9) rfl rfl Try.func193 (by kernel_rfl) rfl #[.slice Ao22 l0.length co22, .agg #[.string a1_0, .string a1_1, .string a1_2, .int .i64 a1_3, .int .i64 a1_4, .int .i64 a1_5]] rfl (by (try simp only [List.map_toArray, List.map_cons, List.map_nil]); first | done | rfl | (simp only [List.length_drop, List.length_take]; rfl)) ?_; (with_reducible refine (spec_l15Find.calls k _ _ l0 a1_0 a1_1 a1_2 a1_3 a1_4 a1_5 t393 _ ?side1 ?side2 A3.out).mono ?_); (case side1 => repeat (first | exact (Kd.qf0 HO0.out).2.2 | (with_reducible refine Kd.qu0 ?_ _) | (with_reducible refine Kd.qt0 ?_ _) | (with_reducible refine Kd.qy0 ?_))); (case side2 => exact (Kd.qf0 HO0.out).2.1); rintro e w23 ⟨rfl, hb⟩; refine ⟨_, rfl, ?_⟩; have n0_ := Aside0.mk (Kd.qg1 (by (with_reducible repeat (first | apply Kd.qi0 | apply Kd.qh0 | apply Kd.qj0)); exact HO0.out) hb); have n1_ := Aside0.mk (ql1 (g := gb392) (o := .cells #[.string a1_0, .string a1_1, .string a1_2, .int .i64 a1_3, .int .i64 a1_4, .int .i64 a1_5] 117 (0, 0)) (by (with_reducible repeat (first | refine qm0 ?_ _ | refine qp0 ?_ | refine qn0 ?_ _)); exact BK392.out) hb); have n2_ := Aside0.mk (Kept.below (S := (fun k_ => P0_ k_)) (by repeat (first | (with_reducible first | exact HK.out | apply Kept.alloc | apply Kept.drewN | apply Kept.drew | refine Kept.setCell ?_ (.inr GW392.out) _) | exact HK.out)) hb); have n3_ := Aside0.mk (qk0 (by repeat (first | (with_reducible first | exact HB.out | apply qc0 | apply qa0 | apply qb0 | refine qg0 ?_ GE392.out) | exact HB.out)) hb); clear HO0; clear BK392; clear HK; clear HB; have HO0 := n0_; have BK392 := n1_; have HK := n2_; have HB := n3_; clear n0_ n1_ n2_ n3_; (try clear hb); (try clear hb2); (try clear hk); (try clear hi)))
  have n0_ := Aside0.mk (Kd.qj0 HO0.out)
  have n1_ := Aside0.mk (qp0 BK392.out)
  have n2_ := Aside0.mk (Kept.drew HK.out)
  have n3_ := Aside0.mk (qb0 HB.out)
  clear HO0
  clear BK392
  clear HK
  clear HB
  have HO0 := n0_
  have BK392 := n1_
  have HK := n2_
  have HB := n3_
  clear n0_ n1_ n2_ n3_
  have p397 : 0 ≤ (t393 : Int) := of_decide_eq_true (by first | (with_reducible assumption) | assumption)
  have q397 : t393 < (l0.length : Int) := of_decide_eq_true (by first | (with_reducible assumption) | assumption)
  obtain ⟨ad397, e397, hx397_0, hx397_1, hx397_2, hx397_3, hx397_4, hx397_5⟩ := at_T117 (Kd.qf0 HO0.out).2.2 t393 p397 q397
  cases e397
  replace p397 := eq_true p397
  replace q397 := eq_true q397
  refine start_ (n := 9) (S := fun w' => w'.cell? ⟨gb392, 0, none⟩ = some (.string a1_0) ∧ w'.cell? ⟨gb392, 1, none⟩ = some (.string a1_1) ∧ w'.cell? ⟨gb392, 2, none⟩ = some (.string a1_2) ∧ w'.cell? ⟨gb392, 3, none⟩ = some (.int .i64 a1_3) ∧ w'.cell? ⟨gb392, 4, none⟩ = some (.int .i64 a1_4) ∧ w'.cell? ⟨gb392, 5, none⟩ = some (.int .i64 a1_5) ∧ w'.cell? (ad397.add ((t393).toNat * 6)) = some (.string ((rd_T117 l0 t393).f0)) ∧ w'.cell? ⟨(ad397.add ((t393).toNat * 6)).block, (ad397.add ((t393).toNat * 6)).off + 1, none⟩ = some (.string ((rd_T117 l0 t393).f1)) ∧ w'.cell? ⟨(ad397.add ((t393).toNat * 6)).block, (ad397.add ((t393).toNat * 6)).off + 2, none⟩ = some (.string ((rd_T117 l0 t393).f2)) ∧ w'.cell? ⟨(ad397.add ((t393).toNat * 6)).block, (ad397.add ((t393).toNat * 6)).off + 3, none⟩ = some (.int .i64 ((rd_T117 l0 t393).f3)) ∧ w'.cell? ⟨(ad397.add ((t393).toNat * 6)).block, (ad397.add ((t393).toNat * 6)).off + 4, none⟩ = some (.int .i64 ((rd_T117 l0 t393).f4)) ∧ w'.cell? ⟨(ad397.add ((t393).toNat * 6)).block, (ad397.add ((t393).toNat * 6)).off + 5, none⟩ = some (.int .i64 ((rd_T117 l0 t393).f5))) (ds := []) #[false, false, false, false, false, false, false, false, false] (by kernel_rfl) rfl rfl ⟨(qe0 BK392.out 0).trans rfl, (qe0 BK392.out 1).trans rfl, (qe0 BK392.out 2).trans rfl, (qe0 BK392.out 3).trans rfl, (qe0 BK392.out 4).trans rfl, (qe0 BK392.out 5).trans rfl, hx397_0, hx397_1, hx397_2, hx397_3, hx397_4, hx397_5⟩ (fun hHeld => ?_); refine with_tabW spec_l15Add.tab6 spec_l15Add.bits6 (fun HT_ HW_ => ?_)
  generalize w23.drew = w24 at HO0 BK392 HK HB hx397_0 hx397_1 hx397_2 hx397_3 hx397_4 hx397_5 hHeld ⊢
  refine pure_ (i := 0) (N := some 20) (v := ?_) (a' := ?_) #[true, false, false, false, false, false, false, false, false] rfl rfl (qa1 HT_.out (by kernel_rfl)) (fun _ _ _ h => h) (Or.inl ⟨by rfl, ?_⟩) ?_ ?_
  rotate_left
  ·intro w'
   go_simp
   with_reducible rfl
  rotate_left
  ·simp only [Act.put, List.setIfInBounds_toArray, List.set_cons_zero, List.set_cons_succ, i64_w, i32_w]
   rfl
  refine pure_ (i := 1) (N := some 21) (v := ?_) (a' := ?_) #[true, true, false, false, false, false, false, false, false] rfl rfl (qa1 HT_.out (by kernel_rfl)) (fun _ _ _ h => h) (Or.inl ⟨by rfl, ?_⟩) ?_ ?_
  rotate_left
  ·intro w'
   go_simp
   with_reducible rfl
  rotate_left
  ·simp only [Act.put, List.setIfInBounds_toArray, List.set_cons_zero, List.set_cons_succ, i64_w, i32_w]
   rfl
  refine pure_ (i := 2) (N := some 22) (v := ?_) (a' := ?_) #[true, true, true, false, false, false, false, false, false] rfl rfl (qa1 HT_.out (by kernel_rfl)) (fun _ _ _ h => h) (Or.inl ⟨by rfl, ?_⟩) ?_ ?_
  rotate_left
  ·intro w'
   go_simp
   with_reducible rfl
  rotate_left
  ·simp only [Act.put, List.setIfInBounds_toArray, List.set_cons_zero, List.set_cons_succ, i64_w, i32_w]
   rfl
  refine pure_ (i := 3) (N := some 23) (v := ?_) (a' := ?_) #[true, true, true, true, false, false, false, false, false] rfl rfl (qa1 HT_.out (by kernel_rfl)) (fun _ _ _ h => h) (Or.inl ⟨by rfl, ?_⟩) ?_ ?_
  rotate_left
  ·intro w'
   go_simp
   with_reducible rfl
  rotate_left
  ·simp only [Act.put, List.setIfInBounds_toArray, List.set_cons_zero, List.set_cons_succ, i64_w, i32_w]
   rfl
  refine pure_ (i := 5) (N := some 25) (v := ?_) (a' := ?_) #[true, true, true, true, false, true, false, false, false] rfl rfl (qa1 HT_.out (by kernel_rfl)) (fun _ _ _ h => h) (Or.inl ⟨by rfl, ?_⟩) ?_ ?_
  rotate_left
  ·intro w'
   go_simp
   with_reducible rfl
  rotate_left
  ·simp only [Act.put, List.setIfInBounds_toArray, List.set_cons_zero, List.set_cons_succ, i64_w, i32_w]
   rfl
  refine take_ (i := 4) (N := some 24) (v := ?_) (a' := ?_) #[true, true, true, true, true, true, false, false, false] rfl rfl (qo1 HT_.out HW_.out (by kernel_rfl)) (fun _ _ _ h => h) (Or.inl ⟨by rfl, ?_⟩) hHeld ?_ ?_
  rotate_left
  ·rintro w' ⟨s0, s1, s2, s3, s4, s5, s6, s7, s8, s9, s10, s11⟩
   go_simp
   with_reducible rfl
  rotate_left
  ·simp only [Act.put, List.setIfInBounds_toArray, List.set_cons_zero, List.set_cons_succ, i64_w, i32_w]
   rfl
  refine take_ (i := 6) (N := some 26) (v := ?_) (a' := ?_) #[true, true, true, true, true, true, true, false, false] rfl rfl (qo1 HT_.out HW_.out (by kernel_rfl)) (fun _ _ _ h => h) (Or.inl ⟨by rfl, ?_⟩) hHeld ?_ ?_
  rotate_left
  ·rintro w' ⟨s0, s1, s2, s3, s4, s5, s6, s7, s8, s9, s10, s11⟩
   go_simp
   with_reducible rfl
  rotate_left
  ·simp only [Act.put, List.setIfInBounds_toArray, List.set_cons_zero, List.set_cons_succ, i64_w, i32_w]
   rfl
  refine pure_ (i := 7) (N := some 27) (v := ?_) (a' := ?_) #[true, true, true, true, true, true, true, true, false] rfl rfl (qa1 HT_.out (by kernel_rfl)) (fun _ _ _ h => h) (Or.inl ⟨by rfl, ?_⟩) ?_ ?_
  rotate_left
  ·intro w'
   go_simp
   with_reducible rfl
  rotate_left
  ·simp only [Act.put, List.setIfInBounds_toArray, List.set_cons_zero, List.set_cons_succ, i64_w, i32_w]
   rfl
  refine pure_ (i := 8) (N := some 28) (v := ?_) (a' := ?_) #[true, true, true, true, true, true, true, true, true] rfl rfl (qa1 HT_.out (by kernel_rfl)) (fun _ _ _ h => h) (Or.inl ⟨by rfl, ?_⟩) ?_ ?_
  rotate_left
  ·intro w'
   go_simp
   with_reducible rfl
  rotate_left
  ·simp only [Act.put, List.setIfInBounds_toArray, List.set_cons_zero, List.set_cons_succ, i64_w, i32_w]
   rfl
  refine done_ (done_of HT_.out (by kernel_rfl)) ?_
  try go_wp2
  go_ret2
  exact ⟨_, by first | rfl | (simp [errW_none, errW_some] <;> rfl) | (simp [*, errW_none, errW_some] <;> rfl), by (with_reducible repeat (first | apply Kd.qi0 | apply Kd.qh0 | apply Kd.qj0)); exact Kd.qv0 HO0.out (fun _ hk => hk.1), by repeat (first | (with_reducible first | exact HB.out | apply qc0 | apply qa0 | apply qb0 | refine qg0 ?_ GE392.out) | exact HB.out), by repeat (first | (with_reducible first | exact HK.out | apply Kept.alloc | apply Kept.drewN | apply Kept.drew | refine Kept.setCell ?_ (.inr GW392.out) _) | exact HK.out)⟩
 rw [if_neg c19] at H
 have c19b0 : decide (1000000 < (wrap64 (((rd_T117 l0 t393).f4) + a1_4))) = false := decide_eq_false c19
 clear c19
 obtain ⟨y399, hy399⟩ : ∃ y_ : List (S117), y_ = (l0.set (t393 : Int).toNat (⟨(rd_T117 l0 t393).f0, (rd_T117 l0 t393).f1, (rd_T117 l0 t393).f2, (rd_T117 l0 t393).f3, wrap64 (((rd_T117 l0 t393).f4) + a1_4), (rd_T117 l0 t393).f5⟩ : S117)) := ⟨_, rfl⟩
 replace H : (some (y399, true)) = some (r1, r2) := by first | (rw [hy399]; with_reducible exact H) | (have H2_ := (Option.bind_some _ _).symm.trans H; rw [hy399]; with_reducible exact H2_) | (have H2_ := (Option.bind_some _ _).symm.trans H; with_reducible exact H2_) | with_reducible exact H | (rw [hy399]; exact H) | exact H
 have Ny399 := Aside0.mk hy399
 clear hy399
 simp only [Option.some.injEq, Prod.mk.injEq] at H
 obtain ⟨rfl, rfl⟩ := H
 go_enter Try.func160, Try.ntmps160
 try go_wp2_with (first | ((with_reducible refine gate_dst (N := 3) rfl ?_); refine qh1 ?hg (N := 3) ?hd (cs := #[.string a1_0, .string a1_1, .string a1_2, .int .i64 a1_3, .int .i64 a1_4, .int .i64 a1_5]) (t := 117) ?hr ?_; (case hd => rfl); (case hg => rfl); (case hr => first | (go_simp; done) | (go_simp; rfl)); intro gb392 hg w26 hbox hb; have n0_ := Aside0.mk (Kd.qg1 (Kd.R_elderB (by (with_reducible repeat (first | apply Kd.qi0 | apply Kd.qh0 | apply Kd.qj0)); exact HO0.out) gb392 (Nat.le_of_eq hg.symm)) hb); have n1_ := Aside0.mk (Kept.below (S := (fun k_ => P0_ k_)) (by repeat (first | (with_reducible first | exact HK.out | apply Kept.alloc | apply Kept.drewN | apply Kept.drew) | exact HK.out)) hb); have n2_ := Aside0.mk (qk0 (by repeat (first | (with_reducible first | exact HB.out | apply qc0 | apply qa0 | apply qb0) | exact HB.out)) hb); have n3_ := Aside0.mk (hbox); have n4_ := Aside0.mk ((by rw [hg]; exact (by first | exact HK.out.1 | exact (show Kept w _ (fun k_ => P0_ k_) from by repeat (first | (with_reducible first | exact HK.out | apply Kept.alloc | apply Kept.drewN | apply Kept.drew) | exact HK.out)).1) : w.heap.size ≤ gb392)); have n5_ := Aside0.mk ((by rw [hg]; exact (ql0 (by repeat (first | (with_reducible first | exact HB.out | apply qc0 | apply qa0 | apply qb0) | exact HB.out))) : w0.heap.size ≤ gb392)); clear HO0; clear HK; clear HB; have HO0 := n0_; have HK := n1_; have HB := n2_; have BK392 := n3_; have GW392 := n4_; have GE392 := n5_; clear n0_ n1_ n2_ n3_ n4_ n5_; clear hb hbox hg; have hcz27_0 : w26.cell? ⟨gb392, 0, none⟩ = some (.string a1_0) := (qe0 BK392.out 0).trans rfl; have hcz27_1 : w26.cell? ⟨gb392, 1, none⟩ = some (.string a1_1) := (qe0 BK392.out 1).trans rfl; have hcz27_2 : w26.cell? ⟨gb392, 2, none⟩ = some (.string a1_2) := (qe0 BK392.out 2).trans rfl; have hcz27_3 : w26.cell? ⟨gb392, 3, none⟩ = some (.int .i64 a1_3) := (qe0 BK392.out 3).trans rfl; have hcz27_4 : w26.cell? ⟨gb392, 4, none⟩ = some (.int .i64 a1_4) := (qe0 BK392.out 4).trans rfl; have hcz27_5 : w26.cell? ⟨gb392, 5, none⟩ = some (.int .i64 a1_5) := (qe0 BK392.out 5).trans rfl; have hfz27_0 := qd0 BK392.out 0; have hfz27_1 := qd0 BK392.out 1; have hfz27_2 := qd0 BK392.out 2; have hfz27_3 := qd0 BK392.out 3; have hfz27_4 := qd0 BK392.out 4; have hfz27_5 := qd0 BK392.out 5; obtain ⟨Ao28, co28, eo28⟩ := Kd.qe1 HO0.out; subst eo28) | ((with_reducible refine qo0 (f := 193) rfl ?_); refine qz0 (some 9) rfl rfl Try.func193 (by kernel_rfl) rfl #[.slice Ao28 l0.length co28, .agg #[.string a1_0, .string a1_1, .string a1_2, .int .i64 a1_3, .int .i64 a1_4, .int .i64 a1_5]] rfl (by (try simp only [List.map_toArray, List.map_cons, List.map_nil]); first | done | rfl | (simp only [List.length_drop, List.length_take]; rfl)) ?_; (with_reducible refine (spec_l15Find.calls k _ _ l0 a1_0 a1_1 a1_2 a1_3 a1_4 a1_5 t393 _ ?side1 ?side2 A3.out).mono ?_); (case side1 => repeat (first | exact (Kd.qf0 HO0.out).2.2 | (with_reducible refine Kd.qu0 ?_ _) | (with_reducible refine Kd.qt0 ?_ _) | (with_reducible refine Kd.qy0 ?_))); (case side2 => exact (Kd.qf0 HO0.out).2.1); rintro e w29 ⟨rfl, hb⟩; refine ⟨_, rfl, ?_⟩; have n0_ := Aside0.mk (Kd.qg1 (by (with_reducible repeat (first | apply Kd.qi0 | apply Kd.qh0 | apply Kd.qj0)); exact HO0.out) hb); have n1_ := Aside0.mk (ql1 (g := gb392) (o := .cells #[.string a1_0, .string a1_1, .string a1_2, .int .i64 a1_3, .int .i64 a1_4, .int .i64 a1_5] 117 (0, 0)) (by (with_reducible repeat (first | refine qm0 ?_ _ | refine qp0 ?_ | refine qn0 ?_ _)); exact BK392.out) hb); have n2_ := Aside0.mk (Kept.below (S := (fun k_ => P0_ k_)) (by repeat (first | (with_reducible first | exact HK.out | apply Kept.alloc | apply Kept.drewN | apply Kept.drew | refine Kept.setCell ?_ (.inr GW392.out) _) | exact HK.out)) hb); have n3_ := Aside0.mk (qk0 (by repeat (first | (with_reducible first | exact HB.out | apply qc0 | apply qa0 | apply qb0 | refine qg0 ?_ GE392.out) | exact HB.out)) hb); clear HO0; clear BK392; clear HK; clear HB; have HO0 := n0_; have BK392 := n1_; have HK := n2_; have HB := n3_; clear n0_ n1_ n2_ n3_; (try clear hb); (try clear hb2); (try clear hk); (try clear hi)))
 have n0_ := Aside0.mk (Kd.qj0 HO0.out)
 have n1_ := Aside0.mk (qp0 BK392.out)
 have n2_ := Aside0.mk (Kept.drew HK.out)
 have n3_ := Aside0.mk (qb0 HB.out)
 clear HO0
 clear BK392
 clear HK
 clear HB
 have HO0 := n0_
 have BK392 := n1_
 have HK := n2_
 have HB := n3_
 clear n0_ n1_ n2_ n3_
 have p397 : 0 ≤ (t393 : Int) := of_decide_eq_true (by first | (with_reducible assumption) | assumption)
 have q397 : t393 < (l0.length : Int) := of_decide_eq_true (by first | (with_reducible assumption) | assumption)
 obtain ⟨ad397, e397, hx397_0, hx397_1, hx397_2, hx397_3, hx397_4, hx397_5⟩ := at_T117 (Kd.qf0 HO0.out).2.2 t393 p397 q397
 cases e397
 replace p397 := eq_true p397
 replace q397 := eq_true q397
 refine start_ (n := 9) (S := fun w' => w'.cell? ⟨gb392, 0, none⟩ = some (.string a1_0) ∧ w'.cell? ⟨gb392, 1, none⟩ = some (.string a1_1) ∧ w'.cell? ⟨gb392, 2, none⟩ = some (.string a1_2) ∧ w'.cell? ⟨gb392, 3, none⟩ = some (.int .i64 a1_3) ∧ w'.cell? ⟨gb392, 4, none⟩ = some (.int .i64 a1_4) ∧ w'.cell? ⟨gb392, 5, none⟩ = some (.int .i64 a1_5) ∧ w'.cell? (ad397.add ((t393).toNat * 6)) = some (.string ((rd_T117 l0 t393).f0)) ∧ w'.cell? ⟨(ad397.add ((t393).toNat * 6)).block, (ad397.add ((t393).toNat * 6)).off + 1, none⟩ = some (.string ((rd_T117 l0 t393).f1)) ∧ w'.cell? ⟨(ad397.add ((t393).toNat * 6)).block, (ad397.add ((t393).toNat * 6)).off + 2, none⟩ = some (.string ((rd_T117 l0 t393).f2)) ∧ w'.cell? ⟨(ad397.add ((t393).toNat * 6)).block, (ad397.add ((t393).toNat * 6)).off + 3, none⟩ = some (.int .i64 ((rd_T117 l0 t393).f3)) ∧ w'.cell? ⟨(ad397.add ((t393).toNat * 6)).block, (ad397.add ((t393).toNat * 6)).off + 4, none⟩ = some (.int .i64 ((rd_T117 l0 t393).f4)) ∧ w'.cell? ⟨(ad397.add ((t393).toNat * 6)).block, (ad397.add ((t393).toNat * 6)).off + 5, none⟩ = some (.int .i64 ((rd_T117 l0 t393).f5))) (ds := []) #[false, false, false, false, false, false, false, false, false] (by kernel_rfl) rfl rfl ⟨(qe0 BK392.out 0).trans rfl, (qe0 BK392.out 1).trans rfl, (qe0 BK392.out 2).trans rfl, (qe0 BK392.out 3).trans rfl, (qe0 BK392.out 4).trans rfl, (qe0 BK392.out 5).trans rfl, hx397_0, hx397_1, hx397_2, hx397_3, hx397_4, hx397_5⟩ (fun hHeld => ?_); refine with_tabW spec_l15Add.tab6 spec_l15Add.bits6 (fun HT_ HW_ => ?_)
 generalize w29.drew = w30 at HO0 BK392 HK HB hx397_0 hx397_1 hx397_2 hx397_3 hx397_4 hx397_5 hHeld ⊢
 refine pure_ (i := 0) (N := some 20) (v := ?_) (a' := ?_) #[true, false, false, false, false, false, false, false, false] rfl rfl (qa1 HT_.out (by kernel_rfl)) (fun _ _ _ h => h) (Or.inl ⟨by rfl, ?_⟩) ?_ ?_
 rotate_left
 ·intro w'
  go_simp
  with_reducible rfl
 rotate_left
 ·simp only [Act.put, List.setIfInBounds_toArray, List.set_cons_zero, List.set_cons_succ, i64_w, i32_w]
  rfl
 refine pure_ (i := 1) (N := some 21) (v := ?_) (a' := ?_) #[true, true, false, false, false, false, false, false, false] rfl rfl (qa1 HT_.out (by kernel_rfl)) (fun _ _ _ h => h) (Or.inl ⟨by rfl, ?_⟩) ?_ ?_
 rotate_left
 ·intro w'
  go_simp
  with_reducible rfl
 rotate_left
 ·simp only [Act.put, List.setIfInBounds_toArray, List.set_cons_zero, List.set_cons_succ, i64_w, i32_w]
  rfl
 refine pure_ (i := 2) (N := some 22) (v := ?_) (a' := ?_) #[true, true, true, false, false, false, false, false, false] rfl rfl (qa1 HT_.out (by kernel_rfl)) (fun _ _ _ h => h) (Or.inl ⟨by rfl, ?_⟩) ?_ ?_
 rotate_left
 ·intro w'
  go_simp
  with_reducible rfl
 rotate_left
 ·simp only [Act.put, List.setIfInBounds_toArray, List.set_cons_zero, List.set_cons_succ, i64_w, i32_w]
  rfl
 refine pure_ (i := 3) (N := some 23) (v := ?_) (a' := ?_) #[true, true, true, true, false, false, false, false, false] rfl rfl (qa1 HT_.out (by kernel_rfl)) (fun _ _ _ h => h) (Or.inl ⟨by rfl, ?_⟩) ?_ ?_
 rotate_left
 ·intro w'
  go_simp
  with_reducible rfl
 rotate_left
 ·simp only [Act.put, List.setIfInBounds_toArray, List.set_cons_zero, List.set_cons_succ, i64_w, i32_w]
  rfl
 refine pure_ (i := 5) (N := some 25) (v := ?_) (a' := ?_) #[true, true, true, true, false, true, false, false, false] rfl rfl (qa1 HT_.out (by kernel_rfl)) (fun _ _ _ h => h) (Or.inl ⟨by rfl, ?_⟩) ?_ ?_
 rotate_left
 ·intro w'
  go_simp
  with_reducible rfl
 rotate_left
 ·simp only [Act.put, List.setIfInBounds_toArray, List.set_cons_zero, List.set_cons_succ, i64_w, i32_w]
  rfl
 refine take_ (i := 4) (N := some 24) (v := ?_) (a' := ?_) #[true, true, true, true, true, true, false, false, false] rfl rfl (qo1 HT_.out HW_.out (by kernel_rfl)) (fun _ _ _ h => h) (Or.inl ⟨by rfl, ?_⟩) hHeld ?_ ?_
 rotate_left
 ·rintro w' ⟨s0, s1, s2, s3, s4, s5, s6, s7, s8, s9, s10, s11⟩
  go_simp
  with_reducible rfl
 rotate_left
 ·simp only [Act.put, List.setIfInBounds_toArray, List.set_cons_zero, List.set_cons_succ, i64_w, i32_w]
  rfl
 refine take_ (i := 6) (N := some 26) (v := ?_) (a' := ?_) #[true, true, true, true, true, true, true, false, false] rfl rfl (qo1 HT_.out HW_.out (by kernel_rfl)) (fun _ _ _ h => h) (Or.inl ⟨by rfl, ?_⟩) hHeld ?_ ?_
 rotate_left
 ·rintro w' ⟨s0, s1, s2, s3, s4, s5, s6, s7, s8, s9, s10, s11⟩
  go_simp
  with_reducible rfl
 rotate_left
 ·simp only [Act.put, List.setIfInBounds_toArray, List.set_cons_zero, List.set_cons_succ, i64_w, i32_w]
  rfl
 refine pure_ (i := 7) (N := some 27) (v := ?_) (a' := ?_) #[true, true, true, true, true, true, true, true, false] rfl rfl (qa1 HT_.out (by kernel_rfl)) (fun _ _ _ h => h) (Or.inl ⟨by rfl, ?_⟩) ?_ ?_
 rotate_left
 ·intro w'
  go_simp
  with_reducible rfl
 rotate_left
 ·simp only [Act.put, List.setIfInBounds_toArray, List.set_cons_zero, List.set_cons_succ, i64_w, i32_w]
  rfl
 refine pure_ (i := 8) (N := some 28) (v := ?_) (a' := ?_) #[true, true, true, true, true, true, true, true, true] rfl rfl (qa1 HT_.out (by kernel_rfl)) (fun _ _ _ h => h) (Or.inl ⟨by rfl, ?_⟩) ?_ ?_
 rotate_left
 ·intro w'
  go_simp
  with_reducible rfl
 rotate_left
 ·simp only [Act.put, List.setIfInBounds_toArray, List.set_cons_zero, List.set_cons_succ, i64_w, i32_w]
  rfl
 refine done_ (done_of HT_.out (by kernel_rfl)) ?_
 try go_wp2
 have n0_ := Aside0.mk (Kd.qj0 HO0.out)
 have n1_ := Aside0.mk (qp0 BK392.out)
 have n2_ := Aside0.mk (Kept.drew HK.out)
 have n3_ := Aside0.mk (qb0 HB.out)
 clear HO0
 clear BK392
 clear HK
 clear HB
 have HO0 := n0_
 have BK392 := n1_
 have HK := n2_
 have HB := n3_
 clear n0_ n1_ n2_ n3_
 have p398 : 0 ≤ (t393 : Int) := of_decide_eq_true (by first | (with_reducible assumption) | assumption)
 have q398 : t393 < (l0.length : Int) := of_decide_eq_true (by first | (with_reducible assumption) | assumption)
 obtain ⟨ad398, e398, hx398_0, hx398_1, hx398_2, hx398_3, hx398_4, hx398_5⟩ := at_T117 (Kd.qf0 HO0.out).2.2 t393 p398 q398
 obtain rfl : ad397 = ad398 := (by injection e398)
 replace p398 := eq_true p398
 replace q398 := eq_true q398
 have p25 : 0 ≤ (t393 : Int) := of_decide_eq_true (by first | (with_reducible assumption) | assumption)
 have q25 : (t393 : Int) < ((l0.length : Int) : Int) := of_decide_eq_true (by first | (with_reducible assumption) | assumption)
 obtain ⟨go25, co25, eo25, gb25, gl25, cl25, HG25⟩ := Kd.R_form HO0.out (by omega)
 (first | cases eo25 | (injection eo25 with ea_ en_ ec_; (first | subst ea_ | (injection ea_ with ea_; subst ea_)); subst ec_; clear en_))
 have GB25 := Aside0.mk gb25
 have GG25 := Aside0.mk HG25
 clear gb25 gl25 HG25
 have HMgo25 := Aside0.mk (show (P0_ go25 ∨ w.heap.size ≤ go25) from (HO0.out.1 _ rfl).1)
 (first | simp only [add_plain] at hx397_0 | skip)
 (first | simp only [add_plain] at hx397_1 | skip)
 (first | simp only [add_plain] at hx397_2 | skip)
 (first | simp only [add_plain] at hx397_3 | skip)
 (first | simp only [add_plain] at hx397_4 | skip)
 (first | simp only [add_plain] at hx397_5 | skip)
 (first | simp only [add_plain] at hx398_0 | skip)
 (first | simp only [add_plain] at hx398_1 | skip)
 (first | simp only [add_plain] at hx398_2 | skip)
 (first | simp only [add_plain] at hx398_3 | skip)
 (first | simp only [add_plain] at hx398_4 | skip)
 (first | simp only [add_plain] at hx398_5 | skip)
 obtain ⟨ce25, hcl25, hM25, hcc25, hfr25⟩ := Kd.qt1 HO0.out z117 (t393 : Int) p25 q25
 obtain rfl := k117_openM hM25
 have hx25_0 : World.cell? _ ⟨go25, (t393 : Int).toNat * 6, none⟩ = some (.string ((rd_T117 l0 t393).f0)) := hcc25 0 _ rfl
 have hx25_1 : World.cell? _ ⟨go25, (t393 : Int).toNat * 6 + 1, none⟩ = some (.string ((rd_T117 l0 t393).f1)) := hcc25 1 _ rfl
 have hx25_2 : World.cell? _ ⟨go25, (t393 : Int).toNat * 6 + 2, none⟩ = some (.string ((rd_T117 l0 t393).f2)) := hcc25 2 _ rfl
 have hx25_3 : World.cell? _ ⟨go25, (t393 : Int).toNat * 6 + 3, none⟩ = some (.int .i64 ((rd_T117 l0 t393).f3)) := hcc25 3 _ rfl
 have hx25_4 : World.cell? _ ⟨go25, (t393 : Int).toNat * 6 + 4, none⟩ = some (.int .i64 ((rd_T117 l0 t393).f4)) := hcc25 4 _ rfl
 have hx25_5 : World.cell? _ ⟨go25, (t393 : Int).toNat * 6 + 5, none⟩ = some (.int .i64 ((rd_T117 l0 t393).f5)) := hcc25 5 _ rfl
 have hf25_0 : World.frozen? _ ⟨go25, (t393 : Int).toNat * 6, none⟩ = false := hfr25 0
 have hf25_1 : World.frozen? _ ⟨go25, (t393 : Int).toNat * 6 + 1, none⟩ = false := hfr25 1
 have hf25_2 : World.frozen? _ ⟨go25, (t393 : Int).toNat * 6 + 2, none⟩ = false := hfr25 2
 have hf25_3 : World.frozen? _ ⟨go25, (t393 : Int).toNat * 6 + 3, none⟩ = false := hfr25 3
 have hf25_4 : World.frozen? _ ⟨go25, (t393 : Int).toNat * 6 + 4, none⟩ = false := hfr25 4
 have hf25_5 : World.frozen? _ ⟨go25, (t393 : Int).toNat * 6 + 5, none⟩ = false := hfr25 5
 clear hcl25 hcc25 hfr25 hM25
 replace p25 := eq_true p25
 replace q25 := eq_true q25
 obtain ⟨ce32, hcl32, hM32, hcc32, hfr32⟩ := Kd.qt1 HO0.out z117 (t393 : Int) (of_decide_eq_true (by first | (with_reducible assumption) | assumption)) (by have h_ : (t393 : Int) < ((l0.length : Int) : Int) := of_decide_eq_true (by first | (with_reducible assumption) | assumption); first | exact h_ | (have e_ := (Kd.qf0 HO0.out).1; omega) | simpa using h_)
 obtain rfl := k117_openM hM32
 have HP32 := (Kd.R_seg HO0.out (t393 : Int) (of_decide_eq_true (by first | (with_reducible assumption) | assumption)) (by have h_ : (t393 : Int) < ((l0.length : Int) : Int) := of_decide_eq_true (by first | (with_reducible assumption) | assumption); first | exact h_ | (have e_ := (Kd.qf0 HO0.out).1; omega) | simpa using h_) (seg := [.int .i64 (wrap64 (((rd_T117 l0 t393).f4) + a1_4))]) (j := 4) hcl32 hcc32 (show 5 ≤ 6 from by decide) (x' := (⟨(rd_T117 l0 t393).f0, (rd_T117 l0 t393).f1, (rd_T117 l0 t393).f2, (rd_T117 l0 t393).f3, wrap64 (((rd_T117 l0 t393).f4) + a1_4), (rd_T117 l0 t393).f5⟩ : S117)) (k117_mkM _ _ _ (⟨(rd_T117 l0 t393).f0, (rd_T117 l0 t393).f1, (rd_T117 l0 t393).f2, (rd_T117 l0 t393).f3, wrap64 (((rd_T117 l0 t393).f4) + a1_4), (rd_T117 l0 t393).f5⟩ : S117) ) (fun _ hk => hk)).1
 rw [← Ny399.out] at HP32
 have HQ32 := Aside0.mk HP32
 clear hcl32 hcc32 hfr32 hM32 HP32
 refine start_ (n := 13) (S := fun w' => w'.cell? ⟨gb392, 0, none⟩ = some (.string a1_0) ∧ w'.cell? ⟨gb392, 1, none⟩ = some (.string a1_1) ∧ w'.cell? ⟨gb392, 2, none⟩ = some (.string a1_2) ∧ w'.cell? ⟨gb392, 3, none⟩ = some (.int .i64 a1_3) ∧ w'.cell? ⟨gb392, 4, none⟩ = some (.int .i64 a1_4) ∧ w'.cell? ⟨gb392, 5, none⟩ = some (.int .i64 a1_5) ∧ w'.cell? ⟨go25, ((t393).toNat * 6), none⟩ = some (.string ((rd_T117 l0 t393).f0)) ∧ w'.cell? ⟨go25, ((t393).toNat * 6) + 1, none⟩ = some (.string ((rd_T117 l0 t393).f1)) ∧ w'.cell? ⟨go25, ((t393).toNat * 6) + 2, none⟩ = some (.string ((rd_T117 l0 t393).f2)) ∧ w'.cell? ⟨go25, ((t393).toNat * 6) + 3, none⟩ = some (.int .i64 ((rd_T117 l0 t393).f3)) ∧ w'.cell? ⟨go25, ((t393).toNat * 6) + 4, none⟩ = some (.int .i64 ((rd_T117 l0 t393).f4)) ∧ w'.cell? ⟨go25, ((t393).toNat * 6) + 5, none⟩ = some (.int .i64 ((rd_T117 l0 t393).f5))) (ds := [12]) #[false, false, false, false, false, false, false, false, false, false, false, false, false] (by kernel_rfl) rfl rfl ⟨(qe0 BK392.out 0).trans rfl, (qe0 BK392.out 1).trans rfl, (qe0 BK392.out 2).trans rfl, (qe0 BK392.out 3).trans rfl, (qe0 BK392.out 4).trans rfl, (qe0 BK392.out 5).trans rfl, hx398_0, hx398_1, hx398_2, hx398_3, hx398_4, hx398_5⟩ (fun hHeld => ?_); refine with_tabW spec_l15Add.tab8 spec_l15Add.bits8 (fun HT_ HW_ => ?_)
 generalize w30.drew = w31 at HO0 BK392 HK HB GG25 HQ32 hf25_0 hf25_1 hf25_2 hf25_3 hf25_4 hf25_5 hx25_0 hx25_1 hx25_2 hx25_3 hx25_4 hx25_5 hx397_0 hx397_1 hx397_2 hx397_3 hx397_4 hx397_5 hx398_0 hx398_1 hx398_2 hx398_3 hx398_4 hx398_5 hHeld ⊢
 refine pure_ (i := 0) (N := some 30) (v := ?_) (a' := ?_) #[true, false, false, false, false, false, false, false, false, false, false, false, false] rfl rfl (qa1 HT_.out (by kernel_rfl)) (fun _ _ _ h => h) (Or.inl ⟨by rfl, ?_⟩) ?_ ?_
 rotate_left
 ·intro w'
  go_simp
  with_reducible rfl
 rotate_left
 ·simp only [Act.put, List.setIfInBounds_toArray, List.set_cons_zero, List.set_cons_succ, i64_w, i32_w]
  rfl
 refine pure_ (i := 1) (N := some 31) (v := ?_) (a' := ?_) #[true, true, false, false, false, false, false, false, false, false, false, false, false] rfl rfl (qa1 HT_.out (by kernel_rfl)) (fun _ _ _ h => h) (Or.inl ⟨by rfl, ?_⟩) ?_ ?_
 rotate_left
 ·intro w'
  go_simp
  with_reducible rfl
 rotate_left
 ·simp only [Act.put, List.setIfInBounds_toArray, List.set_cons_zero, List.set_cons_succ, i64_w, i32_w]
  rfl
 refine pure_ (i := 2) (N := some 32) (v := ?_) (a' := ?_) #[true, true, true, false, false, false, false, false, false, false, false, false, false] rfl rfl (qa1 HT_.out (by kernel_rfl)) (fun _ _ _ h => h) (Or.inl ⟨by rfl, ?_⟩) ?_ ?_
 rotate_left
 ·intro w'
  go_simp
  with_reducible rfl
 rotate_left
 ·simp only [Act.put, List.setIfInBounds_toArray, List.set_cons_zero, List.set_cons_succ, i64_w, i32_w]
  rfl
 refine pure_ (i := 3) (N := some 33) (v := ?_) (a' := ?_) #[true, true, true, true, false, false, false, false, false, false, false, false, false] rfl rfl (qa1 HT_.out (by kernel_rfl)) (fun _ _ _ h => h) (Or.inl ⟨by rfl, ?_⟩) ?_ ?_
 rotate_left
 ·intro w'
  go_simp
  with_reducible rfl
 rotate_left
 ·simp only [Act.put, List.setIfInBounds_toArray, List.set_cons_zero, List.set_cons_succ, i64_w, i32_w]
  rfl
 refine pure_ (i := 4) (N := some 34) (v := ?_) (a' := ?_) #[true, true, true, true, true, false, false, false, false, false, false, false, false] rfl rfl (qa1 HT_.out (by kernel_rfl)) (fun _ _ _ h => h) (Or.inl ⟨by rfl, ?_⟩) ?_ ?_
 rotate_left
 ·intro w'
  go_simp
  with_reducible rfl
 rotate_left
 ·simp only [Act.put, List.setIfInBounds_toArray, List.set_cons_zero, List.set_cons_succ, i64_w, i32_w]
  rfl
 refine pure_ (i := 5) (N := some 35) (v := ?_) (a' := ?_) #[true, true, true, true, true, true, false, false, false, false, false, false, false] rfl rfl (qa1 HT_.out (by kernel_rfl)) (fun _ _ _ h => h) (Or.inl ⟨by rfl, ?_⟩) ?_ ?_
 rotate_left
 ·intro w'
  go_simp
  with_reducible rfl
 rotate_left
 ·simp only [Act.put, List.setIfInBounds_toArray, List.set_cons_zero, List.set_cons_succ, i64_w, i32_w]
  rfl
 refine pure_ (i := 7) (N := some 37) (v := ?_) (a' := ?_) #[true, true, true, true, true, true, false, true, false, false, false, false, false] rfl rfl (qa1 HT_.out (by kernel_rfl)) (fun _ _ _ h => h) (Or.inl ⟨by rfl, ?_⟩) ?_ ?_
 rotate_left
 ·intro w'
  go_simp
  with_reducible rfl
 rotate_left
 ·simp only [Act.put, List.setIfInBounds_toArray, List.set_cons_zero, List.set_cons_succ, i64_w, i32_w]
  rfl
 refine take_ (i := 6) (N := some 36) (v := ?_) (a' := ?_) #[true, true, true, true, true, true, true, true, false, false, false, false, false] rfl rfl (qo1 HT_.out HW_.out (by kernel_rfl)) (fun _ _ _ h => h) (Or.inl ⟨by rfl, ?_⟩) hHeld ?_ ?_
 rotate_left
 ·rintro w' ⟨s0, s1, s2, s3, s4, s5, s6, s7, s8, s9, s10, s11⟩
  go_simp
  with_reducible rfl
 rotate_left
 ·simp only [Act.put, List.setIfInBounds_toArray, List.set_cons_zero, List.set_cons_succ, i64_w, i32_w]
  rfl
 refine take_ (i := 8) (N := some 38) (v := ?_) (a' := ?_) #[true, true, true, true, true, true, true, true, true, false, false, false, false] rfl rfl (qo1 HT_.out HW_.out (by kernel_rfl)) (fun _ _ _ h => h) (Or.inl ⟨by rfl, ?_⟩) hHeld ?_ ?_
 rotate_left
 ·rintro w' ⟨s0, s1, s2, s3, s4, s5, s6, s7, s8, s9, s10, s11⟩
  go_simp
  with_reducible rfl
 rotate_left
 ·simp only [Act.put, List.setIfInBounds_toArray, List.set_cons_zero, List.set_cons_succ, i64_w, i32_w]
  rfl
 refine pure_ (i := 9) (N := some 39) (v := ?_) (a' := ?_) #[true, true, true, true, true, true, true, true, true, true, false, false, false] rfl rfl (qa1 HT_.out (by kernel_rfl)) (fun _ _ _ h => h) (Or.inl ⟨by rfl, ?_⟩) ?_ ?_
 rotate_left
 ·intro w'
  go_simp
  with_reducible rfl
 rotate_left
 ·simp only [Act.put, List.setIfInBounds_toArray, List.set_cons_zero, List.set_cons_succ, i64_w, i32_w]
  rfl
 refine pure_ (i := 10) (N := some 40) (v := ?_) (a' := ?_) #[true, true, true, true, true, true, true, true, true, true, true, false, false] rfl rfl (qa1 HT_.out (by kernel_rfl)) (fun _ _ _ h => h) (Or.inl ⟨by rfl, ?_⟩) ?_ ?_
 rotate_left
 ·intro w'
  go_simp
  with_reducible rfl
 rotate_left
 ·simp only [Act.put, List.setIfInBounds_toArray, List.set_cons_zero, List.set_cons_succ, i64_w, i32_w]
  rfl
 refine pure_ (i := 11) (N := some 41) (v := ?_) (a' := ?_) #[true, true, true, true, true, true, true, true, true, true, true, true, false] rfl rfl (qa1 HT_.out (by kernel_rfl)) (fun _ _ _ h => h) (Or.inl ⟨by rfl, ?_⟩) ?_ ?_
 rotate_left
 ·intro w'
  go_simp
  with_reducible rfl
 rotate_left
 ·simp only [Act.put, List.setIfInBounds_toArray, List.set_cons_zero, List.set_cons_succ, i64_w, i32_w]
  rfl
 refine last_ (i := 12) (N := none) #[true, true, true, true, true, true, true, true, true, true, true, true, true] rfl rfl (one_of HT_.out (by kernel_rfl)) (by decide) (fun K hK => ?_)
 refine skip_ (w1 := ?_) (by rfl) rfl ?_ ?_
 rotate_left
 ·go_simp
  rfl
 refine hK.out _ _ ?_
 clear hK K
 refine done_ (done_of HT_.out (by kernel_rfl)) ?_
 try go_wp2
 go_ret2
 exact ⟨_, by first | rfl | (simp [errW_none, errW_some] <;> rfl) | (simp [*, errW_none, errW_some] <;> rfl), by (with_reducible repeat (first | apply Kd.qi0 | apply Kd.qh0 | apply Kd.qj0)); exact Kd.qv0 HQ32.out (fun _ hk => hk.1), by repeat (first | (with_reducible first | exact HB.out | apply qc0 | apply qa0 | apply qb0 | refine qg0 ?_ GB25.out | refine qg0 ?_ GE392.out) | exact HB.out), by repeat (first | (with_reducible first | exact HK.out | apply Kept.alloc | apply Kept.drewN | apply Kept.drew | refine Kept.setCell ?_ HMgo25.out _ | refine Kept.setCell ?_ (.inr GW392.out) _) | exact HK.out)⟩

end Go.Proofs.Ytinibkdbfpafcaa.PFnMoved
