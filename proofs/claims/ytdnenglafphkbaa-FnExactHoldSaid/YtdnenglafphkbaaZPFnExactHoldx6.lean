/- Lines by a program (a changed copy of the kit's print: this repo's wip/tools): Go functions as Lean functions, and proofs that the calls answer so. -/
import Derived.Test.YtdnenglafphkbaaZPFnExactHoldx0
import Derived.Test.YtdnenglafphkbaaZPFnExactHoldx5
namespace Go.Proofs.Ytdnenglafphkbaa.PFnExactHold
open Go.RowKit Go.Proofs.YtdnenglafphkbaaW.PrintWords Go.Proofs.YtdnenglafphkbaaW.PrintLast Go.Proofs.YtdnenglafphkbaaW.PrintMore
attribute [local go_sem] max2_int min2_int max_two min_two max_three min_three max_four min_four   -- for this text's walks alone
set_option linter.unusedVariables false
set_option linter.unusedSimpArgs false

/-! ### impl_cellOk: function 127 -/
def impl_cellOk.f (k : Nat) (a0_0 : ByteArray) (a0_1 : ByteArray) (a0_2 : ByteArray) (a0_3 : Int) (a0_4 : Int) (a0_5 : Int) : Option (Bool) := (impl_NameOk.f k a0_0).bind fun t184 => (if t184 = true then ((impl_NameOk.f k a0_1).bind fun t185 => (if t185 = true then (if a0_2.toList = ([] : List UInt8) then ((impl_isDay.f a0_3).bind fun t186 => (if t186 = true then ((impl_quantity.f a0_4).bind fun t187 => (if t187 = true then ((impl_between.f a0_5 0 a0_4).bind fun t188 => (some t188)) else (some false))) else (some false))) else ((impl_NameOk.f k a0_2).bind fun t189 => (if t189 = true then ((impl_isDay.f a0_3).bind fun t190 => (if t190 = true then ((impl_quantity.f a0_4).bind fun t191 => (if t191 = true then ((impl_between.f a0_5 0 a0_4).bind fun t192 => (some t192)) else (some false))) else (some false))) else (some false)))) else (some false))) else (some false))
theorem impl_cellOk.mono : ∀ a0 a1 a2 a3 a4 a5 k, LeO (impl_cellOk.f k a0 a1 a2 a3 a4 a5) (impl_cellOk.f (k + 1) a0 a1 a2 a3 a4 a5) := by
 intro a0 a1 a2 a3 a4 a5 k
 unfold impl_cellOk.f
 repeat' first
   | (with_reducible exact impl_NameOk.mono _ _)
   | (with_reducible exact LeO.refl _)
   | (with_reducible exact LeO.none _)
   | (with_reducible refine LeO.ite ?_ ?_)
   | (with_reducible refine LeO.bind ?_ (fun _ => ?_))
   | exact impl_NameOk.mono _ _
   | exact LeO.none _
   | refine LeO.ite ?_ ?_
   | refine LeO.bind ?_ (fun _ => ?_)
set_option maxHeartbeats 8000000 in
set_option maxRecDepth 100000 in
theorem impl_cellOk.calls (k : Nat) (a0_0 : ByteArray) (a0_1 : ByteArray) (a0_2 : ByteArray) (a0_3 : Int) (a0_4 : Int) (a0_5 : Int) (r : Bool) (w : World) (h : impl_cellOk.f k a0_0 a0_1 a0_2 a0_3 a0_4 a0_5 = some r) :
  Calls Try.prog 127 #[.agg #[.string a0_0, .string a0_1, .string a0_2, .int .i64 a0_3, .int .i64 a0_4, .int .i64 a0_5]] w fun e w' => e = .returned (.bool r) ∧ Below w.heap.size w w' := by
 have hu106 := Try.underlying106
 have HB := Aside0.mk (Below.refl w.heap.size w)
 have H : ((impl_NameOk.f k a0_0).bind fun t184 => (if t184 = true then ((impl_NameOk.f k a0_1).bind fun t185 => (if t185 = true then (if a0_2.toList = ([] : List UInt8) then ((impl_isDay.f a0_3).bind fun t186 => (if t186 = true then ((impl_quantity.f a0_4).bind fun t187 => (if t187 = true then ((impl_between.f a0_5 0 a0_4).bind fun t188 => (some t188)) else (some false))) else (some false))) else ((impl_NameOk.f k a0_2).bind fun t189 => (if t189 = true then ((impl_isDay.f a0_3).bind fun t190 => (if t190 = true then ((impl_quantity.f a0_4).bind fun t191 => (if t191 = true then ((impl_between.f a0_5 0 a0_4).bind fun t192 => (some t192)) else (some false))) else (some false))) else (some false)))) else (some false))) else (some false))) = some r := h
 clear h
 replace H := Option.bind_eq_some_iff.mp H
 obtain ⟨t184, A20, H⟩ := H
 replace H : (if t184 = true then ((impl_NameOk.f k a0_1).bind fun t185 => (if t185 = true then (if a0_2.toList = ([] : List UInt8) then ((impl_isDay.f a0_3).bind fun t186 => (if t186 = true then ((impl_quantity.f a0_4).bind fun t187 => (if t187 = true then ((impl_between.f a0_5 0 a0_4).bind fun t188 => (some t188)) else (some false))) else (some false))) else ((impl_NameOk.f k a0_2).bind fun t189 => (if t189 = true then ((impl_isDay.f a0_3).bind fun t190 => (if t190 = true then ((impl_quantity.f a0_4).bind fun t191 => (if t191 = true then ((impl_between.f a0_5 0 a0_4).bind fun t192 => (some t192)) else (some false))) else (some false))) else (some false)))) else (some false))) else (some false)) = some r := H
 have A2 := Aside0.mk A20
 clear A20
 by_cases c3 : t184 = true
 ·subst c3
  have H1 : ((impl_NameOk.f k a0_1).bind fun t185 => (if t185 = true then (if a0_2.toList = ([] : List UInt8) then ((impl_isDay.f a0_3).bind fun t186 => (if t186 = true then ((impl_quantity.f a0_4).bind fun t187 => (if t187 = true then ((impl_between.f a0_5 0 a0_4).bind fun t188 => (some t188)) else (some false))) else (some false))) else ((impl_NameOk.f k a0_2).bind fun t189 => (if t189 = true then ((impl_isDay.f a0_3).bind fun t190 => (if t190 = true then ((impl_quantity.f a0_4).bind fun t191 => (if t191 = true then ((impl_between.f a0_5 0 a0_4).bind fun t192 => (some t192)) else (some false))) else (some false))) else (some false)))) else (some false))) = some r := by rw [if_pos rfl] at H; exact H
  clear H
  have H := H1
  clear H1
  replace H := Option.bind_eq_some_iff.mp H
  obtain ⟨t185, A40, H⟩ := H
  replace H : (if t185 = true then (if a0_2.toList = ([] : List UInt8) then ((impl_isDay.f a0_3).bind fun t186 => (if t186 = true then ((impl_quantity.f a0_4).bind fun t187 => (if t187 = true then ((impl_between.f a0_5 0 a0_4).bind fun t188 => (some t188)) else (some false))) else (some false))) else ((impl_NameOk.f k a0_2).bind fun t189 => (if t189 = true then ((impl_isDay.f a0_3).bind fun t190 => (if t190 = true then ((impl_quantity.f a0_4).bind fun t191 => (if t191 = true then ((impl_between.f a0_5 0 a0_4).bind fun t192 => (some t192)) else (some false))) else (some false))) else (some false)))) else (some false)) = some r := H
  have A4 := Aside0.mk A40
  clear A40
  by_cases c5 : t185 = true
  ·subst c5
   have H1 : (if a0_2.toList = ([] : List UInt8) then ((impl_isDay.f a0_3).bind fun t186 => (if t186 = true then ((impl_quantity.f a0_4).bind fun t187 => (if t187 = true then ((impl_between.f a0_5 0 a0_4).bind fun t188 => (some t188)) else (some false))) else (some false))) else ((impl_NameOk.f k a0_2).bind fun t189 => (if t189 = true then ((impl_isDay.f a0_3).bind fun t190 => (if t190 = true then ((impl_quantity.f a0_4).bind fun t191 => (if t191 = true then ((impl_between.f a0_5 0 a0_4).bind fun t192 => (some t192)) else (some false))) else (some false))) else (some false)))) = some r := by rw [if_pos rfl] at H; exact H
   clear H
   have H := H1
   clear H1
   by_cases c6 : a0_2.toList = ([] : List UInt8)
   ·rw [if_pos c6] at H
    have c6b0 : (a0_2.toList == ([] : List UInt8)) = true := beq_iff_eq.mpr c6
    have c6b1 : (a0_2.toList != ([] : List UInt8)) = false := bne_eq_false_iff_eq.mpr c6
    clear c6
    replace H := Option.bind_eq_some_iff.mp H
    obtain ⟨t186, A70, H⟩ := H
    replace H : (if t186 = true then ((impl_quantity.f a0_4).bind fun t187 => (if t187 = true then ((impl_between.f a0_5 0 a0_4).bind fun t188 => (some t188)) else (some false))) else (some false)) = some r := H
    have A7 := Aside0.mk A70
    clear A70
    by_cases c8 : t186 = true
    ·subst c8
     have H1 : ((impl_quantity.f a0_4).bind fun t187 => (if t187 = true then ((impl_between.f a0_5 0 a0_4).bind fun t188 => (some t188)) else (some false))) = some r := by rw [if_pos rfl] at H; exact H
     clear H
     have H := H1
     clear H1
     replace H := Option.bind_eq_some_iff.mp H
     obtain ⟨t187, A90, H⟩ := H
     replace H : (if t187 = true then ((impl_between.f a0_5 0 a0_4).bind fun t188 => (some t188)) else (some false)) = some r := H
     have A9 := Aside0.mk A90
     clear A90
     by_cases c10 : t187 = true
     ·subst c10
      have H1 : ((impl_between.f a0_5 0 a0_4).bind fun t188 => (some t188)) = some r := by rw [if_pos rfl] at H; exact H
      clear H
      have H := H1
      clear H1
      replace H := Option.bind_eq_some_iff.mp H
      obtain ⟨t188, A110, H⟩ := H
      replace H : (some t188) = some r := H
      have A11 := Aside0.mk A110
      clear A110
      obtain rfl := Option.some.inj H
      go_enter Try.func127, Try.ntmps127
      go_wp2_with (first | ((with_reducible refine qt0 (N := 1) rfl ?_); refine qs0 ?hg (N := 1) ?hd (cs := #[.string a0_0, .string a0_1, .string a0_2, .int .i64 a0_3, .int .i64 a0_4, .int .i64 a0_5]) (t := 106) ?hr ?_; (case hd => rfl); (case hg => rfl); (case hr => first | (go_simp; done) | (go_simp; rfl)); intro gb183 hg w12 hbox hb; have n0_ := Aside0.mk (qf0 (by repeat (first | (with_reducible first | exact HB.out | apply qc0 | apply qa0 | apply qb0) | exact HB.out)) hb); have n1_ := Aside0.mk (hbox); have n2_ := Aside0.mk ((by rw [hg]; exact (qh0 (by repeat (first | (with_reducible first | exact HB.out | apply qc0 | apply qa0 | apply qb0) | exact HB.out))) : w.heap.size ≤ gb183)); have n3_ := Aside0.mk ((by rw [hg]; exact (qh0 (by repeat (first | (with_reducible first | exact HB.out | apply qc0 | apply qa0 | apply qb0) | exact HB.out))) : w.heap.size ≤ gb183)); clear HB; have HB := n0_; have BK183 := n1_; have GW183 := n2_; have GE183 := n3_; clear n0_ n1_ n2_ n3_; clear hb hbox hg; have hcz13_0 : w12.cell? ⟨gb183, 0, none⟩ = some (.string a0_0) := (qe0 BK183.out 0).trans rfl; have hcz13_1 : w12.cell? ⟨gb183, 1, none⟩ = some (.string a0_1) := (qe0 BK183.out 1).trans rfl; have hcz13_2 : w12.cell? ⟨gb183, 2, none⟩ = some (.string a0_2) := (qe0 BK183.out 2).trans rfl; have hcz13_3 : w12.cell? ⟨gb183, 3, none⟩ = some (.int .i64 a0_3) := (qe0 BK183.out 3).trans rfl; have hcz13_4 : w12.cell? ⟨gb183, 4, none⟩ = some (.int .i64 a0_4) := (qe0 BK183.out 4).trans rfl; have hcz13_5 : w12.cell? ⟨gb183, 5, none⟩ = some (.int .i64 a0_5) := (qe0 BK183.out 5).trans rfl; have hfz13_0 := qd0 BK183.out 0; have hfz13_1 := qd0 BK183.out 1; have hfz13_2 := qd0 BK183.out 2; have hfz13_3 := qd0 BK183.out 3; have hfz13_4 := qd0 BK183.out 4; have hfz13_5 := qd0 BK183.out 5) | ((with_reducible refine qn0 (f := 66) rfl ?_); refine qu0 (some 5) rfl rfl Try.func66 (by kernel_rfl) rfl #[.string a0_0] rfl (by (try simp only [List.map_toArray, List.map_cons, List.map_nil]); first | done | rfl | (simp only [List.length_drop, List.length_take]; rfl)) ?_; (with_reducible refine (impl_NameOk.calls k a0_0 true _ A2.out).mono ?_); rintro e w' ⟨rfl, ⟨nd, rfl⟩⟩; refine ⟨_, rfl, ?_⟩) | (go_at_call 66; (with_reducible refine (impl_NameOk.calls k a0_1 true _ A4.out).mono ?_); rintro e w' ⟨rfl, ⟨nd, rfl⟩⟩) | (go_at_call 53; (with_reducible refine (impl_isDay.calls a0_3 true _ A7.out).mono ?_); rintro e w' ⟨rfl, ⟨nd, rfl⟩⟩) | (go_at_call 65; (with_reducible refine (impl_quantity.calls a0_4 true _ A9.out).mono ?_); rintro e w' ⟨rfl, ⟨nd, rfl⟩⟩) | (go_at_call 54; (with_reducible refine (impl_between.calls a0_5 0 a0_4 t188 _ A11.out).mono ?_); rintro e w' ⟨rfl, ⟨nd, rfl⟩⟩))
      go_ret
      exact ⟨by first | rfl | (simp [errW_none, errW_some] <;> rfl) | (simp [*, errW_none, errW_some] <;> rfl), by repeat (first | (with_reducible first | exact HB.out | apply qc0 | apply qa0 | apply qb0 | refine qg0 ?_ GE183.out) | exact HB.out)⟩
     replace c10 := Bool.eq_false_iff.mpr c10
     subst c10
     have H1 : (some false) = some r := by rw [if_neg (show ¬ (false = true) by decide)] at H; exact H
     clear H
     have H := H1
     clear H1
     obtain rfl := Option.some.inj H
     go_enter Try.func127, Try.ntmps127
     go_wp2_with (first | ((with_reducible refine qt0 (N := 1) rfl ?_); refine qs0 ?hg (N := 1) ?hd (cs := #[.string a0_0, .string a0_1, .string a0_2, .int .i64 a0_3, .int .i64 a0_4, .int .i64 a0_5]) (t := 106) ?hr ?_; (case hd => rfl); (case hg => rfl); (case hr => first | (go_simp; done) | (go_simp; rfl)); intro gb183 hg w14 hbox hb; have n0_ := Aside0.mk (qf0 (by repeat (first | (with_reducible first | exact HB.out | apply qc0 | apply qa0 | apply qb0) | exact HB.out)) hb); have n1_ := Aside0.mk (hbox); have n2_ := Aside0.mk ((by rw [hg]; exact (qh0 (by repeat (first | (with_reducible first | exact HB.out | apply qc0 | apply qa0 | apply qb0) | exact HB.out))) : w.heap.size ≤ gb183)); have n3_ := Aside0.mk ((by rw [hg]; exact (qh0 (by repeat (first | (with_reducible first | exact HB.out | apply qc0 | apply qa0 | apply qb0) | exact HB.out))) : w.heap.size ≤ gb183)); clear HB; have HB := n0_; have BK183 := n1_; have GW183 := n2_; have GE183 := n3_; clear n0_ n1_ n2_ n3_; clear hb hbox hg; have hcz15_0 : w14.cell? ⟨gb183, 0, none⟩ = some (.string a0_0) := (qe0 BK183.out 0).trans rfl; have hcz15_1 : w14.cell? ⟨gb183, 1, none⟩ = some (.string a0_1) := (qe0 BK183.out 1).trans rfl; have hcz15_2 : w14.cell? ⟨gb183, 2, none⟩ = some (.string a0_2) := (qe0 BK183.out 2).trans rfl; have hcz15_3 : w14.cell? ⟨gb183, 3, none⟩ = some (.int .i64 a0_3) := (qe0 BK183.out 3).trans rfl; have hcz15_4 : w14.cell? ⟨gb183, 4, none⟩ = some (.int .i64 a0_4) := (qe0 BK183.out 4).trans rfl; have hcz15_5 : w14.cell? ⟨gb183, 5, none⟩ = some (.int .i64 a0_5) := (qe0 BK183.out 5).trans rfl; have hfz15_0 := qd0 BK183.out 0; have hfz15_1 := qd0 BK183.out 1; have hfz15_2 := qd0 BK183.out 2; have hfz15_3 := qd0 BK183.out 3; have hfz15_4 := qd0 BK183.out 4; have hfz15_5 := qd0 BK183.out 5) | ((with_reducible refine qn0 (f := 66) rfl ?_); refine qu0 (some 5) rfl rfl Try.func66 (by kernel_rfl) rfl #[.string a0_0] rfl (by (try simp only [List.map_toArray, List.map_cons, List.map_nil]); first | done | rfl | (simp only [List.length_drop, List.length_take]; rfl)) ?_; (with_reducible refine (impl_NameOk.calls k a0_0 true _ A2.out).mono ?_); rintro e w' ⟨rfl, ⟨nd, rfl⟩⟩; refine ⟨_, rfl, ?_⟩) | (go_at_call 66; (with_reducible refine (impl_NameOk.calls k a0_1 true _ A4.out).mono ?_); rintro e w' ⟨rfl, ⟨nd, rfl⟩⟩) | (go_at_call 53; (with_reducible refine (impl_isDay.calls a0_3 true _ A7.out).mono ?_); rintro e w' ⟨rfl, ⟨nd, rfl⟩⟩) | (go_at_call 65; (with_reducible refine (impl_quantity.calls a0_4 false _ A9.out).mono ?_); rintro e w' ⟨rfl, ⟨nd, rfl⟩⟩))
     go_ret
     exact ⟨by first | rfl | (simp [errW_none, errW_some] <;> rfl) | (simp [*, errW_none, errW_some] <;> rfl), by repeat (first | (with_reducible first | exact HB.out | apply qc0 | apply qa0 | apply qb0 | refine qg0 ?_ GE183.out) | exact HB.out)⟩
    replace c8 := Bool.eq_false_iff.mpr c8
    subst c8
    have H1 : (some false) = some r := by rw [if_neg (show ¬ (false = true) by decide)] at H; exact H
    clear H
    have H := H1
    clear H1
    obtain rfl := Option.some.inj H
    go_enter Try.func127, Try.ntmps127
    go_wp2_with (first | ((with_reducible refine qt0 (N := 1) rfl ?_); refine qs0 ?hg (N := 1) ?hd (cs := #[.string a0_0, .string a0_1, .string a0_2, .int .i64 a0_3, .int .i64 a0_4, .int .i64 a0_5]) (t := 106) ?hr ?_; (case hd => rfl); (case hg => rfl); (case hr => first | (go_simp; done) | (go_simp; rfl)); intro gb183 hg w16 hbox hb; have n0_ := Aside0.mk (qf0 (by repeat (first | (with_reducible first | exact HB.out | apply qc0 | apply qa0 | apply qb0) | exact HB.out)) hb); have n1_ := Aside0.mk (hbox); have n2_ := Aside0.mk ((by rw [hg]; exact (qh0 (by repeat (first | (with_reducible first | exact HB.out | apply qc0 | apply qa0 | apply qb0) | exact HB.out))) : w.heap.size ≤ gb183)); have n3_ := Aside0.mk ((by rw [hg]; exact (qh0 (by repeat (first | (with_reducible first | exact HB.out | apply qc0 | apply qa0 | apply qb0) | exact HB.out))) : w.heap.size ≤ gb183)); clear HB; have HB := n0_; have BK183 := n1_; have GW183 := n2_; have GE183 := n3_; clear n0_ n1_ n2_ n3_; clear hb hbox hg; have hcz17_0 : w16.cell? ⟨gb183, 0, none⟩ = some (.string a0_0) := (qe0 BK183.out 0).trans rfl; have hcz17_1 : w16.cell? ⟨gb183, 1, none⟩ = some (.string a0_1) := (qe0 BK183.out 1).trans rfl; have hcz17_2 : w16.cell? ⟨gb183, 2, none⟩ = some (.string a0_2) := (qe0 BK183.out 2).trans rfl; have hcz17_3 : w16.cell? ⟨gb183, 3, none⟩ = some (.int .i64 a0_3) := (qe0 BK183.out 3).trans rfl; have hcz17_4 : w16.cell? ⟨gb183, 4, none⟩ = some (.int .i64 a0_4) := (qe0 BK183.out 4).trans rfl; have hcz17_5 : w16.cell? ⟨gb183, 5, none⟩ = some (.int .i64 a0_5) := (qe0 BK183.out 5).trans rfl; have hfz17_0 := qd0 BK183.out 0; have hfz17_1 := qd0 BK183.out 1; have hfz17_2 := qd0 BK183.out 2; have hfz17_3 := qd0 BK183.out 3; have hfz17_4 := qd0 BK183.out 4; have hfz17_5 := qd0 BK183.out 5) | ((with_reducible refine qn0 (f := 66) rfl ?_); refine qu0 (some 5) rfl rfl Try.func66 (by kernel_rfl) rfl #[.string a0_0] rfl (by (try simp only [List.map_toArray, List.map_cons, List.map_nil]); first | done | rfl | (simp only [List.length_drop, List.length_take]; rfl)) ?_; (with_reducible refine (impl_NameOk.calls k a0_0 true _ A2.out).mono ?_); rintro e w' ⟨rfl, ⟨nd, rfl⟩⟩; refine ⟨_, rfl, ?_⟩) | (go_at_call 66; (with_reducible refine (impl_NameOk.calls k a0_1 true _ A4.out).mono ?_); rintro e w' ⟨rfl, ⟨nd, rfl⟩⟩) | (go_at_call 53; (with_reducible refine (impl_isDay.calls a0_3 false _ A7.out).mono ?_); rintro e w' ⟨rfl, ⟨nd, rfl⟩⟩))
    go_ret
    exact ⟨by first | rfl | (simp [errW_none, errW_some] <;> rfl) | (simp [*, errW_none, errW_some] <;> rfl), by repeat (first | (with_reducible first | exact HB.out | apply qc0 | apply qa0 | apply qb0 | refine qg0 ?_ GE183.out) | exact HB.out)⟩
   rw [if_neg c6] at H
   have c6b0 : (a0_2.toList == ([] : List UInt8)) = false := beq_eq_false_iff_ne.mpr c6
   have c6b1 : (a0_2.toList != ([] : List UInt8)) = true := bne_iff_ne.mpr c6
   replace H := Option.bind_eq_some_iff.mp H
   obtain ⟨t189, A180, H⟩ := H
   replace H : (if t189 = true then ((impl_isDay.f a0_3).bind fun t190 => (if t190 = true then ((impl_quantity.f a0_4).bind fun t191 => (if t191 = true then ((impl_between.f a0_5 0 a0_4).bind fun t192 => (some t192)) else (some false))) else (some false))) else (some false)) = some r := H
   have A18 := Aside0.mk A180
   clear A180
   by_cases c19 : t189 = true
   ·subst c19
    have H1 : ((impl_isDay.f a0_3).bind fun t190 => (if t190 = true then ((impl_quantity.f a0_4).bind fun t191 => (if t191 = true then ((impl_between.f a0_5 0 a0_4).bind fun t192 => (some t192)) else (some false))) else (some false))) = some r := by rw [if_pos rfl] at H; exact H
    clear H
    have H := H1
    clear H1
    replace H := Option.bind_eq_some_iff.mp H
    obtain ⟨t190, A200, H⟩ := H
    replace H : (if t190 = true then ((impl_quantity.f a0_4).bind fun t191 => (if t191 = true then ((impl_between.f a0_5 0 a0_4).bind fun t192 => (some t192)) else (some false))) else (some false)) = some r := H
    have A20 := Aside0.mk A200
    clear A200
    by_cases c21 : t190 = true
    ·subst c21
     have H1 : ((impl_quantity.f a0_4).bind fun t191 => (if t191 = true then ((impl_between.f a0_5 0 a0_4).bind fun t192 => (some t192)) else (some false))) = some r := by rw [if_pos rfl] at H; exact H
     clear H
     have H := H1
     clear H1
     replace H := Option.bind_eq_some_iff.mp H
     obtain ⟨t191, A220, H⟩ := H
     replace H : (if t191 = true then ((impl_between.f a0_5 0 a0_4).bind fun t192 => (some t192)) else (some false)) = some r := H
     have A22 := Aside0.mk A220
     clear A220
     by_cases c23 : t191 = true
     ·subst c23
      have H1 : ((impl_between.f a0_5 0 a0_4).bind fun t192 => (some t192)) = some r := by rw [if_pos rfl] at H; exact H
      clear H
      have H := H1
      clear H1
      replace H := Option.bind_eq_some_iff.mp H
      obtain ⟨t192, A240, H⟩ := H
      replace H : (some t192) = some r := H
      have A24 := Aside0.mk A240
      clear A240
      obtain rfl := Option.some.inj H
      go_enter Try.func127, Try.ntmps127
      go_wp2_with (first | ((with_reducible refine qt0 (N := 1) rfl ?_); refine qs0 ?hg (N := 1) ?hd (cs := #[.string a0_0, .string a0_1, .string a0_2, .int .i64 a0_3, .int .i64 a0_4, .int .i64 a0_5]) (t := 106) ?hr ?_; (case hd => rfl); (case hg => rfl); (case hr => first | (go_simp; done) | (go_simp; rfl)); intro gb183 hg w25 hbox hb; have n0_ := Aside0.mk (qf0 (by repeat (first | (with_reducible first | exact HB.out | apply qc0 | apply qa0 | apply qb0) | exact HB.out)) hb); have n1_ := Aside0.mk (hbox); have n2_ := Aside0.mk ((by rw [hg]; exact (qh0 (by repeat (first | (with_reducible first | exact HB.out | apply qc0 | apply qa0 | apply qb0) | exact HB.out))) : w.heap.size ≤ gb183)); have n3_ := Aside0.mk ((by rw [hg]; exact (qh0 (by repeat (first | (with_reducible first | exact HB.out | apply qc0 | apply qa0 | apply qb0) | exact HB.out))) : w.heap.size ≤ gb183)); clear HB; have HB := n0_; have BK183 := n1_; have GW183 := n2_; have GE183 := n3_; clear n0_ n1_ n2_ n3_; clear hb hbox hg; have hcz26_0 : w25.cell? ⟨gb183, 0, none⟩ = some (.string a0_0) := (qe0 BK183.out 0).trans rfl; have hcz26_1 : w25.cell? ⟨gb183, 1, none⟩ = some (.string a0_1) := (qe0 BK183.out 1).trans rfl; have hcz26_2 : w25.cell? ⟨gb183, 2, none⟩ = some (.string a0_2) := (qe0 BK183.out 2).trans rfl; have hcz26_3 : w25.cell? ⟨gb183, 3, none⟩ = some (.int .i64 a0_3) := (qe0 BK183.out 3).trans rfl; have hcz26_4 : w25.cell? ⟨gb183, 4, none⟩ = some (.int .i64 a0_4) := (qe0 BK183.out 4).trans rfl; have hcz26_5 : w25.cell? ⟨gb183, 5, none⟩ = some (.int .i64 a0_5) := (qe0 BK183.out 5).trans rfl; have hfz26_0 := qd0 BK183.out 0; have hfz26_1 := qd0 BK183.out 1; have hfz26_2 := qd0 BK183.out 2; have hfz26_3 := qd0 BK183.out 3; have hfz26_4 := qd0 BK183.out 4; have hfz26_5 := qd0 BK183.out 5) | ((with_reducible refine qn0 (f := 66) rfl ?_); refine qu0 (some 5) rfl rfl Try.func66 (by kernel_rfl) rfl #[.string a0_0] rfl (by (try simp only [List.map_toArray, List.map_cons, List.map_nil]); first | done | rfl | (simp only [List.length_drop, List.length_take]; rfl)) ?_; (with_reducible refine (impl_NameOk.calls k a0_0 true _ A2.out).mono ?_); rintro e w' ⟨rfl, ⟨nd, rfl⟩⟩; refine ⟨_, rfl, ?_⟩) | (go_at_call 66; (with_reducible refine (impl_NameOk.calls k a0_1 true _ A4.out).mono ?_); rintro e w' ⟨rfl, ⟨nd, rfl⟩⟩) | (go_at_call 66; (with_reducible refine (impl_NameOk.calls k a0_2 true _ A18.out).mono ?_); rintro e w' ⟨rfl, ⟨nd, rfl⟩⟩) | (go_at_call 53; (with_reducible refine (impl_isDay.calls a0_3 true _ A20.out).mono ?_); rintro e w' ⟨rfl, ⟨nd, rfl⟩⟩) | (go_at_call 65; (with_reducible refine (impl_quantity.calls a0_4 true _ A22.out).mono ?_); rintro e w' ⟨rfl, ⟨nd, rfl⟩⟩) | (go_at_call 54; (with_reducible refine (impl_between.calls a0_5 0 a0_4 t192 _ A24.out).mono ?_); rintro e w' ⟨rfl, ⟨nd, rfl⟩⟩))
      go_ret
      exact ⟨by first | rfl | (simp [errW_none, errW_some] <;> rfl) | (simp [*, errW_none, errW_some] <;> rfl), by repeat (first | (with_reducible first | exact HB.out | apply qc0 | apply qa0 | apply qb0 | refine qg0 ?_ GE183.out) | exact HB.out)⟩
     replace c23 := Bool.eq_false_iff.mpr c23
     subst c23
     have H1 : (some false) = some r := by rw [if_neg (show ¬ (false = true) by decide)] at H; exact H
     clear H
     have H := H1
     clear H1
     obtain rfl := Option.some.inj H
     go_enter Try.func127, Try.ntmps127
     go_wp2_with (first | ((with_reducible refine qt0 (N := 1) rfl ?_); refine qs0 ?hg (N := 1) ?hd (cs := #[.string a0_0, .string a0_1, .string a0_2, .int .i64 a0_3, .int .i64 a0_4, .int .i64 a0_5]) (t := 106) ?hr ?_; (case hd => rfl); (case hg => rfl); (case hr => first | (go_simp; done) | (go_simp; rfl)); intro gb183 hg w27 hbox hb; have n0_ := Aside0.mk (qf0 (by repeat (first | (with_reducible first | exact HB.out | apply qc0 | apply qa0 | apply qb0) | exact HB.out)) hb); have n1_ := Aside0.mk (hbox); have n2_ := Aside0.mk ((by rw [hg]; exact (qh0 (by repeat (first | (with_reducible first | exact HB.out | apply qc0 | apply qa0 | apply qb0) | exact HB.out))) : w.heap.size ≤ gb183)); have n3_ := Aside0.mk ((by rw [hg]; exact (qh0 (by repeat (first | (with_reducible first | exact HB.out | apply qc0 | apply qa0 | apply qb0) | exact HB.out))) : w.heap.size ≤ gb183)); clear HB; have HB := n0_; have BK183 := n1_; have GW183 := n2_; have GE183 := n3_; clear n0_ n1_ n2_ n3_; clear hb hbox hg; have hcz28_0 : w27.cell? ⟨gb183, 0, none⟩ = some (.string a0_0) := (qe0 BK183.out 0).trans rfl; have hcz28_1 : w27.cell? ⟨gb183, 1, none⟩ = some (.string a0_1) := (qe0 BK183.out 1).trans rfl; have hcz28_2 : w27.cell? ⟨gb183, 2, none⟩ = some (.string a0_2) := (qe0 BK183.out 2).trans rfl; have hcz28_3 : w27.cell? ⟨gb183, 3, none⟩ = some (.int .i64 a0_3) := (qe0 BK183.out 3).trans rfl; have hcz28_4 : w27.cell? ⟨gb183, 4, none⟩ = some (.int .i64 a0_4) := (qe0 BK183.out 4).trans rfl; have hcz28_5 : w27.cell? ⟨gb183, 5, none⟩ = some (.int .i64 a0_5) := (qe0 BK183.out 5).trans rfl; have hfz28_0 := qd0 BK183.out 0; have hfz28_1 := qd0 BK183.out 1; have hfz28_2 := qd0 BK183.out 2; have hfz28_3 := qd0 BK183.out 3; have hfz28_4 := qd0 BK183.out 4; have hfz28_5 := qd0 BK183.out 5) | ((with_reducible refine qn0 (f := 66) rfl ?_); refine qu0 (some 5) rfl rfl Try.func66 (by kernel_rfl) rfl #[.string a0_0] rfl (by (try simp only [List.map_toArray, List.map_cons, List.map_nil]); first | done | rfl | (simp only [List.length_drop, List.length_take]; rfl)) ?_; (with_reducible refine (impl_NameOk.calls k a0_0 true _ A2.out).mono ?_); rintro e w' ⟨rfl, ⟨nd, rfl⟩⟩; refine ⟨_, rfl, ?_⟩) | (go_at_call 66; (with_reducible refine (impl_NameOk.calls k a0_1 true _ A4.out).mono ?_); rintro e w' ⟨rfl, ⟨nd, rfl⟩⟩) | (go_at_call 66; (with_reducible refine (impl_NameOk.calls k a0_2 true _ A18.out).mono ?_); rintro e w' ⟨rfl, ⟨nd, rfl⟩⟩) | (go_at_call 53; (with_reducible refine (impl_isDay.calls a0_3 true _ A20.out).mono ?_); rintro e w' ⟨rfl, ⟨nd, rfl⟩⟩) | (go_at_call 65; (with_reducible refine (impl_quantity.calls a0_4 false _ A22.out).mono ?_); rintro e w' ⟨rfl, ⟨nd, rfl⟩⟩))
     go_ret
     exact ⟨by first | rfl | (simp [errW_none, errW_some] <;> rfl) | (simp [*, errW_none, errW_some] <;> rfl), by repeat (first | (with_reducible first | exact HB.out | apply qc0 | apply qa0 | apply qb0 | refine qg0 ?_ GE183.out) | exact HB.out)⟩
    replace c21 := Bool.eq_false_iff.mpr c21
    subst c21
    have H1 : (some false) = some r := by rw [if_neg (show ¬ (false = true) by decide)] at H; exact H
    clear H
    have H := H1
    clear H1
    obtain rfl := Option.some.inj H
    go_enter Try.func127, Try.ntmps127
    go_wp2_with (first | ((with_reducible refine qt0 (N := 1) rfl ?_); refine qs0 ?hg (N := 1) ?hd (cs := #[.string a0_0, .string a0_1, .string a0_2, .int .i64 a0_3, .int .i64 a0_4, .int .i64 a0_5]) (t := 106) ?hr ?_; (case hd => rfl); (case hg => rfl); (case hr => first | (go_simp; done) | (go_simp; rfl)); intro gb183 hg w29 hbox hb; have n0_ := Aside0.mk (qf0 (by repeat (first | (with_reducible first | exact HB.out | apply qc0 | apply qa0 | apply qb0) | exact HB.out)) hb); have n1_ := Aside0.mk (hbox); have n2_ := Aside0.mk ((by rw [hg]; exact (qh0 (by repeat (first | (with_reducible first | exact HB.out | apply qc0 | apply qa0 | apply qb0) | exact HB.out))) : w.heap.size ≤ gb183)); have n3_ := Aside0.mk ((by rw [hg]; exact (qh0 (by repeat (first | (with_reducible first | exact HB.out | apply qc0 | apply qa0 | apply qb0) | exact HB.out))) : w.heap.size ≤ gb183)); clear HB; have HB := n0_; have BK183 := n1_; have GW183 := n2_; have GE183 := n3_; clear n0_ n1_ n2_ n3_; clear hb hbox hg; have hcz30_0 : w29.cell? ⟨gb183, 0, none⟩ = some (.string a0_0) := (qe0 BK183.out 0).trans rfl; have hcz30_1 : w29.cell? ⟨gb183, 1, none⟩ = some (.string a0_1) := (qe0 BK183.out 1).trans rfl; have hcz30_2 : w29.cell? ⟨gb183, 2, none⟩ = some (.string a0_2) := (qe0 BK183.out 2).trans rfl; have hcz30_3 : w29.cell? ⟨gb183, 3, none⟩ = some (.int .i64 a0_3) := (qe0 BK183.out 3).trans rfl; have hcz30_4 : w29.cell? ⟨gb183, 4, none⟩ = some (.int .i64 a0_4) := (qe0 BK183.out 4).trans rfl; have hcz30_5 : w29.cell? ⟨gb183, 5, none⟩ = some (.int .i64 a0_5) := (qe0 BK183.out 5).trans rfl; have hfz30_0 := qd0 BK183.out 0; have hfz30_1 := qd0 BK183.out 1; have hfz30_2 := qd0 BK183.out 2; have hfz30_3 := qd0 BK183.out 3; have hfz30_4 := qd0 BK183.out 4; have hfz30_5 := qd0 BK183.out 5) | ((with_reducible refine qn0 (f := 66) rfl ?_); refine qu0 (some 5) rfl rfl Try.func66 (by kernel_rfl) rfl #[.string a0_0] rfl (by (try simp only [List.map_toArray, List.map_cons, List.map_nil]); first | done | rfl | (simp only [List.length_drop, List.length_take]; rfl)) ?_; (with_reducible refine (impl_NameOk.calls k a0_0 true _ A2.out).mono ?_); rintro e w' ⟨rfl, ⟨nd, rfl⟩⟩; refine ⟨_, rfl, ?_⟩) | (go_at_call 66; (with_reducible refine (impl_NameOk.calls k a0_1 true _ A4.out).mono ?_); rintro e w' ⟨rfl, ⟨nd, rfl⟩⟩) | (go_at_call 66; (with_reducible refine (impl_NameOk.calls k a0_2 true _ A18.out).mono ?_); rintro e w' ⟨rfl, ⟨nd, rfl⟩⟩) | (go_at_call 53; (with_reducible refine (impl_isDay.calls a0_3 false _ A20.out).mono ?_); rintro e w' ⟨rfl, ⟨nd, rfl⟩⟩))
    go_ret
    exact ⟨by first | rfl | (simp [errW_none, errW_some] <;> rfl) | (simp [*, errW_none, errW_some] <;> rfl), by repeat (first | (with_reducible first | exact HB.out | apply qc0 | apply qa0 | apply qb0 | refine qg0 ?_ GE183.out) | exact HB.out)⟩
   replace c19 := Bool.eq_false_iff.mpr c19
   subst c19
   have H1 : (some false) = some r := by rw [if_neg (show ¬ (false = true) by decide)] at H; exact H
   clear H
   have H := H1
   clear H1
   obtain rfl := Option.some.inj H
   go_enter Try.func127, Try.ntmps127
   go_wp2_with (first | ((with_reducible refine qt0 (N := 1) rfl ?_); refine qs0 ?hg (N := 1) ?hd (cs := #[.string a0_0, .string a0_1, .string a0_2, .int .i64 a0_3, .int .i64 a0_4, .int .i64 a0_5]) (t := 106) ?hr ?_; (case hd => rfl); (case hg => rfl); (case hr => first | (go_simp; done) | (go_simp; rfl)); intro gb183 hg w31 hbox hb; have n0_ := Aside0.mk (qf0 (by repeat (first | (with_reducible first | exact HB.out | apply qc0 | apply qa0 | apply qb0) | exact HB.out)) hb); have n1_ := Aside0.mk (hbox); have n2_ := Aside0.mk ((by rw [hg]; exact (qh0 (by repeat (first | (with_reducible first | exact HB.out | apply qc0 | apply qa0 | apply qb0) | exact HB.out))) : w.heap.size ≤ gb183)); have n3_ := Aside0.mk ((by rw [hg]; exact (qh0 (by repeat (first | (with_reducible first | exact HB.out | apply qc0 | apply qa0 | apply qb0) | exact HB.out))) : w.heap.size ≤ gb183)); clear HB; have HB := n0_; have BK183 := n1_; have GW183 := n2_; have GE183 := n3_; clear n0_ n1_ n2_ n3_; clear hb hbox hg; have hcz32_0 : w31.cell? ⟨gb183, 0, none⟩ = some (.string a0_0) := (qe0 BK183.out 0).trans rfl; have hcz32_1 : w31.cell? ⟨gb183, 1, none⟩ = some (.string a0_1) := (qe0 BK183.out 1).trans rfl; have hcz32_2 : w31.cell? ⟨gb183, 2, none⟩ = some (.string a0_2) := (qe0 BK183.out 2).trans rfl; have hcz32_3 : w31.cell? ⟨gb183, 3, none⟩ = some (.int .i64 a0_3) := (qe0 BK183.out 3).trans rfl; have hcz32_4 : w31.cell? ⟨gb183, 4, none⟩ = some (.int .i64 a0_4) := (qe0 BK183.out 4).trans rfl; have hcz32_5 : w31.cell? ⟨gb183, 5, none⟩ = some (.int .i64 a0_5) := (qe0 BK183.out 5).trans rfl; have hfz32_0 := qd0 BK183.out 0; have hfz32_1 := qd0 BK183.out 1; have hfz32_2 := qd0 BK183.out 2; have hfz32_3 := qd0 BK183.out 3; have hfz32_4 := qd0 BK183.out 4; have hfz32_5 := qd0 BK183.out 5) | ((with_reducible refine qn0 (f := 66) rfl ?_); refine qu0 (some 5) rfl rfl Try.func66 (by kernel_rfl) rfl #[.string a0_0] rfl (by (try simp only [List.map_toArray, List.map_cons, List.map_nil]); first | done | rfl | (simp only [List.length_drop, List.length_take]; rfl)) ?_; (with_reducible refine (impl_NameOk.calls k a0_0 true _ A2.out).mono ?_); rintro e w' ⟨rfl, ⟨nd, rfl⟩⟩; refine ⟨_, rfl, ?_⟩) | (go_at_call 66; (with_reducible refine (impl_NameOk.calls k a0_1 true _ A4.out).mono ?_); rintro e w' ⟨rfl, ⟨nd, rfl⟩⟩) | (go_at_call 66; (with_reducible refine (impl_NameOk.calls k a0_2 false _ A18.out).mono ?_); rintro e w' ⟨rfl, ⟨nd, rfl⟩⟩))
   go_ret
   exact ⟨by first | rfl | (simp [errW_none, errW_some] <;> rfl) | (simp [*, errW_none, errW_some] <;> rfl), by repeat (first | (with_reducible first | exact HB.out | apply qc0 | apply qa0 | apply qb0 | refine qg0 ?_ GE183.out) | exact HB.out)⟩
  replace c5 := Bool.eq_false_iff.mpr c5
  subst c5
  have H1 : (some false) = some r := by rw [if_neg (show ¬ (false = true) by decide)] at H; exact H
  clear H
  have H := H1
  clear H1
  obtain rfl := Option.some.inj H
  go_enter Try.func127, Try.ntmps127
  go_wp2_with (first | ((with_reducible refine qt0 (N := 1) rfl ?_); refine qs0 ?hg (N := 1) ?hd (cs := #[.string a0_0, .string a0_1, .string a0_2, .int .i64 a0_3, .int .i64 a0_4, .int .i64 a0_5]) (t := 106) ?hr ?_; (case hd => rfl); (case hg => rfl); (case hr => first | (go_simp; done) | (go_simp; rfl)); intro gb183 hg w33 hbox hb; have n0_ := Aside0.mk (qf0 (by repeat (first | (with_reducible first | exact HB.out | apply qc0 | apply qa0 | apply qb0) | exact HB.out)) hb); have n1_ := Aside0.mk (hbox); have n2_ := Aside0.mk ((by rw [hg]; exact (qh0 (by repeat (first | (with_reducible first | exact HB.out | apply qc0 | apply qa0 | apply qb0) | exact HB.out))) : w.heap.size ≤ gb183)); have n3_ := Aside0.mk ((by rw [hg]; exact (qh0 (by repeat (first | (with_reducible first | exact HB.out | apply qc0 | apply qa0 | apply qb0) | exact HB.out))) : w.heap.size ≤ gb183)); clear HB; have HB := n0_; have BK183 := n1_; have GW183 := n2_; have GE183 := n3_; clear n0_ n1_ n2_ n3_; clear hb hbox hg; have hcz34_0 : w33.cell? ⟨gb183, 0, none⟩ = some (.string a0_0) := (qe0 BK183.out 0).trans rfl; have hcz34_1 : w33.cell? ⟨gb183, 1, none⟩ = some (.string a0_1) := (qe0 BK183.out 1).trans rfl; have hcz34_2 : w33.cell? ⟨gb183, 2, none⟩ = some (.string a0_2) := (qe0 BK183.out 2).trans rfl; have hcz34_3 : w33.cell? ⟨gb183, 3, none⟩ = some (.int .i64 a0_3) := (qe0 BK183.out 3).trans rfl; have hcz34_4 : w33.cell? ⟨gb183, 4, none⟩ = some (.int .i64 a0_4) := (qe0 BK183.out 4).trans rfl; have hcz34_5 : w33.cell? ⟨gb183, 5, none⟩ = some (.int .i64 a0_5) := (qe0 BK183.out 5).trans rfl; have hfz34_0 := qd0 BK183.out 0; have hfz34_1 := qd0 BK183.out 1; have hfz34_2 := qd0 BK183.out 2; have hfz34_3 := qd0 BK183.out 3; have hfz34_4 := qd0 BK183.out 4; have hfz34_5 := qd0 BK183.out 5) | ((with_reducible refine qn0 (f := 66) rfl ?_); refine qu0 (some 5) rfl rfl Try.func66 (by kernel_rfl) rfl #[.string a0_0] rfl (by (try simp only [List.map_toArray, List.map_cons, List.map_nil]); first | done | rfl | (simp only [List.length_drop, List.length_take]; rfl)) ?_; (with_reducible refine (impl_NameOk.calls k a0_0 true _ A2.out).mono ?_); rintro e w' ⟨rfl, ⟨nd, rfl⟩⟩; refine ⟨_, rfl, ?_⟩) | (go_at_call 66; (with_reducible refine (impl_NameOk.calls k a0_1 false _ A4.out).mono ?_); rintro e w' ⟨rfl, ⟨nd, rfl⟩⟩))
  go_ret
  exact ⟨by first | rfl | (simp [errW_none, errW_some] <;> rfl) | (simp [*, errW_none, errW_some] <;> rfl), by repeat (first | (with_reducible first | exact HB.out | apply qc0 | apply qa0 | apply qb0 | refine qg0 ?_ GE183.out) | exact HB.out)⟩
 replace c3 := Bool.eq_false_iff.mpr c3
 subst c3
 have H1 : (some false) = some r := by rw [if_neg (show ¬ (false = true) by decide)] at H; exact H
 clear H
 have H := H1
 clear H1
 obtain rfl := Option.some.inj H
 go_enter Try.func127, Try.ntmps127
 go_wp2_with (first | ((with_reducible refine qt0 (N := 1) rfl ?_); refine qs0 ?hg (N := 1) ?hd (cs := #[.string a0_0, .string a0_1, .string a0_2, .int .i64 a0_3, .int .i64 a0_4, .int .i64 a0_5]) (t := 106) ?hr ?_; (case hd => rfl); (case hg => rfl); (case hr => first | (go_simp; done) | (go_simp; rfl)); intro gb183 hg w35 hbox hb; have n0_ := Aside0.mk (qf0 (by repeat (first | (with_reducible first | exact HB.out | apply qc0 | apply qa0 | apply qb0) | exact HB.out)) hb); have n1_ := Aside0.mk (hbox); have n2_ := Aside0.mk ((by rw [hg]; exact (qh0 (by repeat (first | (with_reducible first | exact HB.out | apply qc0 | apply qa0 | apply qb0) | exact HB.out))) : w.heap.size ≤ gb183)); have n3_ := Aside0.mk ((by rw [hg]; exact (qh0 (by repeat (first | (with_reducible first | exact HB.out | apply qc0 | apply qa0 | apply qb0) | exact HB.out))) : w.heap.size ≤ gb183)); clear HB; have HB := n0_; have BK183 := n1_; have GW183 := n2_; have GE183 := n3_; clear n0_ n1_ n2_ n3_; clear hb hbox hg; have hcz36_0 : w35.cell? ⟨gb183, 0, none⟩ = some (.string a0_0) := (qe0 BK183.out 0).trans rfl; have hcz36_1 : w35.cell? ⟨gb183, 1, none⟩ = some (.string a0_1) := (qe0 BK183.out 1).trans rfl; have hcz36_2 : w35.cell? ⟨gb183, 2, none⟩ = some (.string a0_2) := (qe0 BK183.out 2).trans rfl; have hcz36_3 : w35.cell? ⟨gb183, 3, none⟩ = some (.int .i64 a0_3) := (qe0 BK183.out 3).trans rfl; have hcz36_4 : w35.cell? ⟨gb183, 4, none⟩ = some (.int .i64 a0_4) := (qe0 BK183.out 4).trans rfl; have hcz36_5 : w35.cell? ⟨gb183, 5, none⟩ = some (.int .i64 a0_5) := (qe0 BK183.out 5).trans rfl; have hfz36_0 := qd0 BK183.out 0; have hfz36_1 := qd0 BK183.out 1; have hfz36_2 := qd0 BK183.out 2; have hfz36_3 := qd0 BK183.out 3; have hfz36_4 := qd0 BK183.out 4; have hfz36_5 := qd0 BK183.out 5) | ((with_reducible refine qn0 (f := 66) rfl ?_); refine qu0 (some 5) rfl rfl Try.func66 (by kernel_rfl) rfl #[.string a0_0] rfl (by (try simp only [List.map_toArray, List.map_cons, List.map_nil]); first | done | rfl | (simp only [List.length_drop, List.length_take]; rfl)) ?_; (with_reducible refine (impl_NameOk.calls k a0_0 false _ A2.out).mono ?_); rintro e w' ⟨rfl, ⟨nd, rfl⟩⟩; refine ⟨_, rfl, ?_⟩))
 go_ret
 exact ⟨by first | rfl | (simp [errW_none, errW_some] <;> rfl) | (simp [*, errW_none, errW_some] <;> rfl), by repeat (first | (with_reducible first | exact HB.out | apply qc0 | apply qa0 | apply qb0 | refine qg0 ?_ GE183.out) | exact HB.out)⟩

/-! ### impl_Cell_where: function 128 -/
def impl_Cell_where.f (a0_0 : ByteArray) (a0_1 : ByteArray) (a0_2 : ByteArray) (a0_3 : Int) (a0_4 : Int) (a0_5 : Int) : Option (ByteArray × ByteArray × ByteArray) := some (a0_0, a0_1, a0_2)
set_option maxHeartbeats 8000000 in
set_option maxRecDepth 100000 in
theorem impl_Cell_where.calls (a0_0 : ByteArray) (a0_1 : ByteArray) (a0_2 : ByteArray) (a0_3 : Int) (a0_4 : Int) (a0_5 : Int) (r1 : ByteArray) (r2 : ByteArray) (r3 : ByteArray) (w : World) (h : impl_Cell_where.f a0_0 a0_1 a0_2 a0_3 a0_4 a0_5 = some (r1, r2, r3)) :
  Calls Try.prog 128 #[.agg #[.string a0_0, .string a0_1, .string a0_2, .int .i64 a0_3, .int .i64 a0_4, .int .i64 a0_5]] w fun e w' => e = .returned (.agg #[.string r1, .string r2, .string r3]) ∧ Below w.heap.size w w' := by
 have hu106 := Try.underlying106
 have hu164 := Try.underlying164
 have HB := Aside0.mk (Below.refl w.heap.size w)
 have H : (some (a0_0, a0_1, a0_2)) = some (r1, r2, r3) := h
 clear h
 simp only [Option.some.injEq, Prod.mk.injEq] at H
 obtain ⟨rfl, rfl, rfl⟩ := H
 go_enter Try.func128, Try.ntmps128
 go_wp2_with (first | ((with_reducible refine qt0 (N := 1) rfl ?_); refine qs0 ?hg (N := 1) ?hd (cs := #[.string a0_0, .string a0_1, .string a0_2, .int .i64 a0_3, .int .i64 a0_4, .int .i64 a0_5]) (t := 106) ?hr ?_; (case hd => rfl); (case hg => rfl); (case hr => first | (go_simp; done) | (go_simp; rfl)); intro gb193 hg w2 hbox hb; have n0_ := Aside0.mk (qf0 (by repeat (first | (with_reducible first | exact HB.out | apply qc0 | apply qa0 | apply qb0) | exact HB.out)) hb); have n1_ := Aside0.mk (hbox); have n2_ := Aside0.mk ((by rw [hg]; exact (qh0 (by repeat (first | (with_reducible first | exact HB.out | apply qc0 | apply qa0 | apply qb0) | exact HB.out))) : w.heap.size ≤ gb193)); have n3_ := Aside0.mk ((by rw [hg]; exact (qh0 (by repeat (first | (with_reducible first | exact HB.out | apply qc0 | apply qa0 | apply qb0) | exact HB.out))) : w.heap.size ≤ gb193)); clear HB; have HB := n0_; have BK193 := n1_; have GW193 := n2_; have GE193 := n3_; clear n0_ n1_ n2_ n3_; clear hb hbox hg) | ((with_reducible refine qt0 (N := 2) rfl ?_); refine qs0 ?hg (N := 2) ?hd (cs := #[.string (⟨#[]⟩ : ByteArray), .string (⟨#[]⟩ : ByteArray), .string (⟨#[]⟩ : ByteArray)]) (t := 164) ?hr ?_; (case hd => rfl); (case hg => rfl); (case hr => first | (go_simp; done) | (go_simp; rfl)); intro gb194 hg w3 hbox hb; have n0_ := Aside0.mk (qb1 (g := gb193) (o := .cells #[.string a0_0, .string a0_1, .string a0_2, .int .i64 a0_3, .int .i64 a0_4, .int .i64 a0_5] 106 (0, 0)) (by (with_reducible repeat (first | refine qi0 ?_ _ | refine qk0 ?_ | refine qj0 ?_ _)); exact BK193.out) hb); have n1_ := Aside0.mk (qf0 (by repeat (first | (with_reducible first | exact HB.out | apply qc0 | apply qa0 | apply qb0 | refine qg0 ?_ GE193.out) | exact HB.out)) hb); have n2_ := Aside0.mk (hbox); have n3_ := Aside0.mk ((by rw [hg]; exact (qh0 (by repeat (first | (with_reducible first | exact HB.out | apply qc0 | apply qa0 | apply qb0 | refine qg0 ?_ GE193.out) | exact HB.out))) : w.heap.size ≤ gb194)); have n4_ := Aside0.mk ((by rw [hg]; exact (qh0 (by repeat (first | (with_reducible first | exact HB.out | apply qc0 | apply qa0 | apply qb0 | refine qg0 ?_ GE193.out) | exact HB.out))) : w.heap.size ≤ gb194)); have n5_ := Aside0.mk ((by rw [hg]; exact Nat.ne_of_lt (qg1 (g := gb193) (o := .cells #[.string a0_0, .string a0_1, .string a0_2, .int .i64 a0_3, .int .i64 a0_4, .int .i64 a0_5] 106 (0, 0)) (by (with_reducible repeat (first | refine qi0 ?_ _ | refine qk0 ?_ | refine qj0 ?_ _)); exact BK193.out)) : gb193 ≠ gb194)); have n6_ := Aside0.mk ((by rw [hg]; exact Nat.ne_of_gt (qg1 (g := gb193) (o := .cells #[.string a0_0, .string a0_1, .string a0_2, .int .i64 a0_3, .int .i64 a0_4, .int .i64 a0_5] 106 (0, 0)) (by (with_reducible repeat (first | refine qi0 ?_ _ | refine qk0 ?_ | refine qj0 ?_ _)); exact BK193.out)) : gb194 ≠ gb193)); clear BK193; clear HB; have BK193 := n0_; have HB := n1_; have BK194 := n2_; have GW194 := n3_; have GE194 := n4_; have NB193_194 := n5_; have NB194_193 := n6_; clear n0_ n1_ n2_ n3_ n4_ n5_ n6_; clear hb hbox hg; have hnb4 := NB193_194.out; have hnc4 := NB194_193.out; have hcz5_0 : w3.cell? ⟨gb193, 0, none⟩ = some (.string a0_0) := (qe0 BK193.out 0).trans rfl; have hcz5_1 : w3.cell? ⟨gb193, 1, none⟩ = some (.string a0_1) := (qe0 BK193.out 1).trans rfl; have hcz5_2 : w3.cell? ⟨gb193, 2, none⟩ = some (.string a0_2) := (qe0 BK193.out 2).trans rfl; have hcz5_3 : w3.cell? ⟨gb193, 3, none⟩ = some (.int .i64 a0_3) := (qe0 BK193.out 3).trans rfl; have hcz5_4 : w3.cell? ⟨gb193, 4, none⟩ = some (.int .i64 a0_4) := (qe0 BK193.out 4).trans rfl; have hcz5_5 : w3.cell? ⟨gb193, 5, none⟩ = some (.int .i64 a0_5) := (qe0 BK193.out 5).trans rfl; have hfz5_0 := qd0 BK193.out 0; have hfz5_1 := qd0 BK193.out 1; have hfz5_2 := qd0 BK193.out 2; have hfz5_3 := qd0 BK193.out 3; have hfz5_4 := qd0 BK193.out 4; have hfz5_5 := qd0 BK193.out 5; have hcz6_0 : w3.cell? ⟨gb194, 0, none⟩ = some (.string (⟨#[]⟩ : ByteArray)) := (qe0 BK194.out 0).trans rfl; have hcz6_1 : w3.cell? ⟨gb194, 1, none⟩ = some (.string (⟨#[]⟩ : ByteArray)) := (qe0 BK194.out 1).trans rfl; have hcz6_2 : w3.cell? ⟨gb194, 2, none⟩ = some (.string (⟨#[]⟩ : ByteArray)) := (qe0 BK194.out 2).trans rfl; have hfz6_0 := qd0 BK194.out 0; have hfz6_1 := qd0 BK194.out 1; have hfz6_2 := qd0 BK194.out 2))
 refine bodyPost_ret (results_cell_row rfl _ _ gb194 164 #[.string a0_0, .string a0_1, .string a0_2] (0, 0) _ rfl (by (with_reducible repeat (first | refine qi0 ?_ _ | refine qk0 ?_ | refine qj0 ?_ _)); refine qx0 (cs := #[.string a0_0, .string a0_1, .string (⟨#[]⟩ : ByteArray)]) ?_ 2 _ rfl; (with_reducible repeat (first | refine qi0 ?_ _ | refine qk0 ?_ | refine qj0 ?_ _)); refine qx0 (cs := #[.string a0_0, .string (⟨#[]⟩ : ByteArray), .string (⟨#[]⟩ : ByteArray)]) ?_ 1 _ rfl; (with_reducible repeat (first | refine qi0 ?_ _ | refine qk0 ?_ | refine qj0 ?_ _)); refine qx0 (cs := #[.string (⟨#[]⟩ : ByteArray), .string (⟨#[]⟩ : ByteArray), .string (⟨#[]⟩ : ByteArray)]) ?_ 0 _ rfl; (with_reducible repeat (first | refine qi0 ?_ _ | refine qk0 ?_ | refine qj0 ?_ _)); exact BK194.out) Try.underlying164 rfl (by kernel_rfl)) rfl ?_
 exact ⟨by first | rfl | (simp [errW_none, errW_some] <;> rfl) | (simp [*, errW_none, errW_some] <;> rfl), by repeat (first | (with_reducible first | exact HB.out | apply qc0 | apply qa0 | apply qb0 | refine qg0 ?_ GE193.out | refine qg0 ?_ GE194.out) | exact HB.out)⟩

/-! ### impl_StockOk: function 107 -/
def impl_StockOk.l0 : Nat → List (S164 × Bool) → List (S106) → Int → Int → Option (Bool)
 | 0, _, _, _, _ => none
 | k + 1, x3, x10, x11, x12 => if x12 < x11 then (if 0 ≤ x12 then (if x12 < (x10.length : Int) then ((impl_cellOk.f k ((rd_T106 x10 x12).f0) ((rd_T106 x10 x12).f1) ((rd_T106 x10 x12).f2) ((rd_T106 x10 x12).f3) ((rd_T106 x10 x12).f4) ((rd_T106 x10 x12).f5)).bind fun t201 => (if t201 = true then ((impl_Cell_where.f ((rd_T106 x10 x12).f0) ((rd_T106 x10 x12).f1) ((rd_T106 x10 x12).f2) ((rd_T106 x10 x12).f3) ((rd_T106 x10 x12).f4) ((rd_T106 x10 x12).f5)).bind fun bt202 => (if bt202.1.size ≤ 9223372036854775807 then (if bt202.2.1.size ≤ 9223372036854775807 then (if bt202.2.2.size ≤ 9223372036854775807 then (if (mget x3 (⟨bt202.1, bt202.2.1, bt202.2.2⟩ : S164)).getD false = true then (some false) else ((impl_Cell_where.f ((rd_T106 x10 x12).f0) ((rd_T106 x10 x12).f1) ((rd_T106 x10 x12).f2) ((rd_T106 x10 x12).f3) ((rd_T106 x10 x12).f4) ((rd_T106 x10 x12).f5)).bind fun bt205 => (if bt205.1.size ≤ 9223372036854775807 then (if bt205.2.1.size ≤ 9223372036854775807 then (if bt205.2.2.size ≤ 9223372036854775807 then (impl_StockOk.l0 k (mset x3 (⟨bt205.1, bt205.2.1, bt205.2.2⟩ : S164) true) x10 x11 (wrap64 (x12 + 1))) else (none)) else (none)) else (none)))) else (none)) else (none)) else (none))) else (some false))) else (none)) else (none)) else (some true)
def impl_StockOk.f (k : Nat) (l0 : List (S106)) : Option (Bool) := if (l0.length : Int) > 100 then (some false) else (impl_StockOk.l0 k (([] : List (S164 × Bool))) l0 (l0.length : Int) 0)
theorem impl_StockOk.mono_l : ∀ k, (∀ y0 y1 y2 y3, LeO (impl_StockOk.l0 k y0 y1 y2 y3) (impl_StockOk.l0 (k + 1) y0 y1 y2 y3))
 | 0 => fun _ _ _ _ r h => by simp [impl_StockOk.l0] at h
 | k + 1 => by
  have ih0 := impl_StockOk.mono_l k
  ·intro y0 y1 y2 y3
   unfold impl_StockOk.l0
   repeat' first
   | (with_reducible exact ih0 _ _ _ _)
   | (with_reducible exact impl_cellOk.mono _ _ _ _ _ _ _)
   | (with_reducible exact LeO.refl _)
   | (with_reducible exact LeO.none _)
   | (with_reducible refine LeO.ite ?_ ?_)
   | (with_reducible refine LeO.bind ?_ (fun _ => ?_))
   | exact ih0 _ _ _ _
   | exact impl_cellOk.mono _ _ _ _ _ _ _
   | exact LeO.none _
   | refine LeO.ite ?_ ?_
   | refine LeO.bind ?_ (fun _ => ?_)
theorem impl_StockOk.mono : ∀ a0 k, LeO (impl_StockOk.f k a0) (impl_StockOk.f (k + 1) a0) := by
 intro a0 k
 have ih0 := impl_StockOk.mono_l k
 unfold impl_StockOk.f
 repeat' first
   | (with_reducible exact ih0 _ _ _ _)
   | (with_reducible exact impl_cellOk.mono _ _ _ _ _ _ _)
   | (with_reducible exact LeO.refl _)
   | (with_reducible exact LeO.none _)
   | (with_reducible refine LeO.ite ?_ ?_)
   | (with_reducible refine LeO.bind ?_ (fun _ => ?_))
   | exact ih0 _ _ _ _
   | exact impl_cellOk.mono _ _ _ _ _ _ _
   | exact LeO.none _
   | refine LeO.ite ?_ ?_
   | refine LeO.bind ?_ (fun _ => ?_)
set_option maxHeartbeats 8000000 in
set_option maxRecDepth 100000 in
theorem impl_StockOk.calls (k : Nat) (A0 : Option Addr) (c0 : Nat) (l0 : List (S106)) (r : Bool) (w : World) (hr0 : Kd.C k106 w A0 l0.length l0) (hc0 : l0.length ≤ c0) (h : impl_StockOk.f k l0 = some r) :
  Calls Try.prog 107 #[.slice A0 l0.length c0] w fun e w' => e = .returned (.bool r) ∧ Below w.heap.size w w' := by
 have hu106 := Try.underlying106
 have HR0 := Aside0.mk hr0
 have HC0 := Aside0.mk hc0
 clear hr0 hc0
 have HB := Aside0.mk (Below.refl w.heap.size w)
 have H : (if (l0.length : Int) > 100 then (some false) else (impl_StockOk.l0 k (([] : List (S164 × Bool))) l0 (l0.length : Int) 0)) = some r := h
 clear h
 by_cases c2 : (l0.length : Int) > 100
 ·rw [if_pos c2] at H
  have c2b0 : decide (100 < (l0.length : Int)) = true := decide_eq_true c2
  have c2b1 : decide (100 < l0.length) = true := decide_eq_true (by omega)
  clear c2
  obtain rfl := Option.some.inj H
  go_enter Try.func107, Try.ntmps107
  go_wp2
  go_ret
  exact ⟨by first | rfl | (simp [errW_none, errW_some] <;> rfl) | (simp [*, errW_none, errW_some] <;> rfl), by repeat (first | (with_reducible first | exact HB.out | apply qc0 | apply qa0 | apply qb0) | exact HB.out)⟩
 rw [if_neg c2] at H
 have c2b0 : decide (100 < (l0.length : Int)) = false := decide_eq_false c2
 have c2b1 : decide (100 < l0.length) = false := decide_eq_false (by omega)
 clear c2
 obtain ⟨y195, hy195⟩ : ∃ y_ : List (S164 × Bool), y_ = (([] : List (S164 × Bool))) := ⟨_, rfl⟩
 replace H : (impl_StockOk.l0 k y195 l0 (l0.length : Int) 0) = some r := by first | (rw [hy195]; with_reducible exact H) | (have H2_ := (Option.bind_some _ _).symm.trans H; rw [hy195]; with_reducible exact H2_) | (have H2_ := (Option.bind_some _ _).symm.trans H; with_reducible exact H2_) | with_reducible exact H | (rw [hy195]; exact H) | exact H
 have Ny195 := Aside0.mk hy195
 clear hy195
 have H' := Aside0.mk H
 clear H
 go_enter Try.func107, Try.ntmps107
 go_wp2_with (first | ((with_reducible refine qt0 (N := 9) rfl ?_); (try (refine gate_guard (by rfl) ?_; dsimp only)); refine Kd.Z_make_op kz162 162 (ok := fun _ => True) rfl (N := 9) rfl rfl trivial ?_; intro mb198 hq_ w3 ho4 hb; rw [← Ny195.out] at ho4; have n0_ := Aside0.mk (qf0 (by repeat (first | (with_reducible first | exact HB.out | apply qc0 | apply qa0 | apply qb0) | exact HB.out)) hb); have n1_ := Aside0.mk (Kd.Z_lower ho4 (qh0 (by repeat (first | (with_reducible first | exact HB.out | apply qc0 | apply qa0 | apply qb0) | exact HB.out)))); clear HB; have HB := n0_; have HO197 := n1_; clear n0_ n1_; clear hb ho4 hq_))
 go_loopg [12] k (fun kq v12 w' => ∃ (x3_1 : List (S164 × Bool)) (x12_1 : Int), v12 = .int .i64 x12_1 ∧ Aside0 (impl_StockOk.l0 kq x3_1 l0 (l0.length : Int) x12_1 = some r) ∧ Aside0 (kq ≤ k) ∧ Aside0 (Kd.Z kz162 162 w' w.heap.size (fun _ => True) (.map (some mb198)) x3_1) ∧ Aside0 (Below w.heap.size w w'))
 case atStart => exact ⟨(y195), (0), (by first | rfl | (simp; done) | (simp [*]; done)), H', ⟨Nat.le_refl _⟩, ⟨by (with_reducible repeat (first | apply Kd.Z_alloc | apply Kd.Z_drewN | apply Kd.Z_drew)); exact HO197.out⟩, ⟨by repeat (first | (with_reducible first | exact HB.out | apply qc0 | apply qa0 | apply qb0) | exact HB.out)⟩⟩
 case round =>
  clear H'
  try clear c1
  try clear c2
  try clear c2b0
  try clear c2b1
  try clear p2
  obtain ⟨x3_1, x12_1, rfl, HA, HK1, HO_3, HB⟩ := hrel
  cases gk with
  | zero => exact absurd HA.out (by simp [impl_StockOk.l0])
  | succ k1 =>
   have H := HA.out
   clear HA
   simp only [impl_StockOk.l0] at H
   by_cases c5 : x12_1 < (l0.length : Int)
   ·rw [if_pos c5] at H
    have c5b0 : decide (x12_1 < (l0.length : Int)) = true := decide_eq_true c5
    clear c5
    by_cases c6 : 0 ≤ x12_1
    case neg => rw [if_neg c6] at H; exact absurd H (by simp)
    rw [if_pos c6] at H
    have c6b0 : decide (0 ≤ x12_1) = true := decide_eq_true c6
    clear c6
    by_cases c7 : x12_1 < (l0.length : Int)
    case neg => rw [if_neg c7] at H; exact absurd H (by simp)
    rw [if_pos c7] at H
    have c7b0 : decide (x12_1 < (l0.length : Int)) = true := decide_eq_true c7
    clear c7
    replace H := Option.bind_eq_some_iff.mp H
    obtain ⟨t201, A80, H⟩ := H
    replace H : (if t201 = true then ((impl_Cell_where.f ((rd_T106 l0 x12_1).f0) ((rd_T106 l0 x12_1).f1) ((rd_T106 l0 x12_1).f2) ((rd_T106 l0 x12_1).f3) ((rd_T106 l0 x12_1).f4) ((rd_T106 l0 x12_1).f5)).bind fun bt202 => (if bt202.1.size ≤ 9223372036854775807 then (if bt202.2.1.size ≤ 9223372036854775807 then (if bt202.2.2.size ≤ 9223372036854775807 then (if (mget x3_1 (⟨bt202.1, bt202.2.1, bt202.2.2⟩ : S164)).getD false = true then (some false) else ((impl_Cell_where.f ((rd_T106 l0 x12_1).f0) ((rd_T106 l0 x12_1).f1) ((rd_T106 l0 x12_1).f2) ((rd_T106 l0 x12_1).f3) ((rd_T106 l0 x12_1).f4) ((rd_T106 l0 x12_1).f5)).bind fun bt205 => (if bt205.1.size ≤ 9223372036854775807 then (if bt205.2.1.size ≤ 9223372036854775807 then (if bt205.2.2.size ≤ 9223372036854775807 then (impl_StockOk.l0 k1 (mset x3_1 (⟨bt205.1, bt205.2.1, bt205.2.2⟩ : S164) true) l0 (l0.length : Int) (wrap64 (x12_1 + 1))) else (none)) else (none)) else (none)))) else (none)) else (none)) else (none))) else (some false)) = some r := H
    have A8 := Aside0.mk A80
    clear A80
    by_cases c9 : t201 = true
    ·subst c9
     have H1 : ((impl_Cell_where.f ((rd_T106 l0 x12_1).f0) ((rd_T106 l0 x12_1).f1) ((rd_T106 l0 x12_1).f2) ((rd_T106 l0 x12_1).f3) ((rd_T106 l0 x12_1).f4) ((rd_T106 l0 x12_1).f5)).bind fun bt202 => (if bt202.1.size ≤ 9223372036854775807 then (if bt202.2.1.size ≤ 9223372036854775807 then (if bt202.2.2.size ≤ 9223372036854775807 then (if (mget x3_1 (⟨bt202.1, bt202.2.1, bt202.2.2⟩ : S164)).getD false = true then (some false) else ((impl_Cell_where.f ((rd_T106 l0 x12_1).f0) ((rd_T106 l0 x12_1).f1) ((rd_T106 l0 x12_1).f2) ((rd_T106 l0 x12_1).f3) ((rd_T106 l0 x12_1).f4) ((rd_T106 l0 x12_1).f5)).bind fun bt205 => (if bt205.1.size ≤ 9223372036854775807 then (if bt205.2.1.size ≤ 9223372036854775807 then (if bt205.2.2.size ≤ 9223372036854775807 then (impl_StockOk.l0 k1 (mset x3_1 (⟨bt205.1, bt205.2.1, bt205.2.2⟩ : S164) true) l0 (l0.length : Int) (wrap64 (x12_1 + 1))) else (none)) else (none)) else (none)))) else (none)) else (none)) else (none))) = some r := by rw [if_pos rfl] at H; exact H
     clear H
     have H := H1
     clear H1
     replace H := Option.bind_eq_some_iff.mp H
     obtain ⟨⟨t202, t203, t204⟩, A100, H⟩ := H
     replace H : (if t202.size ≤ 9223372036854775807 then (if t203.size ≤ 9223372036854775807 then (if t204.size ≤ 9223372036854775807 then (if (mget x3_1 (⟨t202, t203, t204⟩ : S164)).getD false = true then (some false) else ((impl_Cell_where.f ((rd_T106 l0 x12_1).f0) ((rd_T106 l0 x12_1).f1) ((rd_T106 l0 x12_1).f2) ((rd_T106 l0 x12_1).f3) ((rd_T106 l0 x12_1).f4) ((rd_T106 l0 x12_1).f5)).bind fun bt205 => (if bt205.1.size ≤ 9223372036854775807 then (if bt205.2.1.size ≤ 9223372036854775807 then (if bt205.2.2.size ≤ 9223372036854775807 then (impl_StockOk.l0 k1 (mset x3_1 (⟨bt205.1, bt205.2.1, bt205.2.2⟩ : S164) true) l0 (l0.length : Int) (wrap64 (x12_1 + 1))) else (none)) else (none)) else (none)))) else (none)) else (none)) else (none)) = some r := H
     have A10 := Aside0.mk A100
     clear A100
     by_cases c11 : t202.size ≤ 9223372036854775807
     case neg => rw [if_neg c11] at H; exact absurd H (by simp)
     rw [if_pos c11] at H
     have LMc11 := Aside0.mk c11
     clear c11
     by_cases c12 : t203.size ≤ 9223372036854775807
     case neg => rw [if_neg c12] at H; exact absurd H (by simp)
     rw [if_pos c12] at H
     have LMc12 := Aside0.mk c12
     clear c12
     by_cases c13 : t204.size ≤ 9223372036854775807
     case neg => rw [if_neg c13] at H; exact absurd H (by simp)
     rw [if_pos c13] at H
     have LMc13 := Aside0.mk c13
     clear c13
     by_cases c14 : (mget x3_1 (⟨t202, t203, t204⟩ : S164)).getD false = true
     ·rw [if_pos c14] at H
      have c14b0 : (mget x3_1 (⟨t202, t203, t204⟩ : S164)).getD false = true := c14
      clear c14
      obtain rfl := Option.some.inj H
      have p199 : 0 ≤ (x12_1 : Int) := of_decide_eq_true (by first | (with_reducible assumption) | assumption)
      have q199 : x12_1 < (l0.length : Int) := of_decide_eq_true (by first | (with_reducible assumption) | assumption)
      obtain ⟨ad199, e199, hx199_0, hx199_1, hx199_2, hx199_3, hx199_4, hx199_5⟩ := at_T106 HR0.out x12_1 p199 q199
      cases e199
      replace hx199_0 := (HB.out.cell (World.block_lt_of_cell? w _ hx199_0)).trans hx199_0
      replace hx199_1 := (HB.out.cell (World.block_lt_of_cell? w _ hx199_1)).trans hx199_1
      replace hx199_2 := (HB.out.cell (World.block_lt_of_cell? w _ hx199_2)).trans hx199_2
      replace hx199_3 := (HB.out.cell (World.block_lt_of_cell? w _ hx199_3)).trans hx199_3
      replace hx199_4 := (HB.out.cell (World.block_lt_of_cell? w _ hx199_4)).trans hx199_4
      replace hx199_5 := (HB.out.cell (World.block_lt_of_cell? w _ hx199_5)).trans hx199_5
      replace p199 := eq_true p199
      replace q199 := eq_true q199
      go_wp2_with (first | ((with_reducible refine qt0 (N := 5) rfl ?_); (try (refine gate_guard (by rfl) ?_; dsimp only)); refine qs0 ?hg (N := 5) ?hd (cs := #[.string (⟨#[]⟩ : ByteArray), .string (⟨#[]⟩ : ByteArray), .string (⟨#[]⟩ : ByteArray), .int .i64 0, .int .i64 0, .int .i64 0]) (t := 106) ?hr ?_; (case hd => rfl); (case hg => rfl); (case hr => first | (go_simp; done) | (go_simp; rfl)); intro gb200 hg w15 hbox hb; have n0_ := Aside0.mk (Kd.Z_below (by (with_reducible repeat (first | apply Kd.Z_alloc | apply Kd.Z_drewN | apply Kd.Z_drew)); exact HO_3.out) hb); have n1_ := Aside0.mk (qf0 (by repeat (first | (with_reducible first | exact HB.out | apply qc0 | apply qa0 | apply qb0) | exact HB.out)) hb); have n2_ := Aside0.mk (hbox); have n3_ := Aside0.mk ((by rw [hg]; exact (qh0 (by repeat (first | (with_reducible first | exact HB.out | apply qc0 | apply qa0 | apply qb0) | exact HB.out))) : w.heap.size ≤ gb200)); have n4_ := Aside0.mk ((by rw [hg]; exact (qh0 (by repeat (first | (with_reducible first | exact HB.out | apply qc0 | apply qa0 | apply qb0) | exact HB.out))) : w.heap.size ≤ gb200)); clear HO_3; clear HB; have HO_3 := n0_; have HB := n1_; have BK200 := n2_; have GW200 := n3_; have GE200 := n4_; clear n0_ n1_ n2_ n3_ n4_; clear hb hbox hg; have hcz16_0 : w15.cell? ⟨gb200, 0, none⟩ = some (.string (⟨#[]⟩ : ByteArray)) := (qe0 BK200.out 0).trans rfl; have hcz16_1 : w15.cell? ⟨gb200, 1, none⟩ = some (.string (⟨#[]⟩ : ByteArray)) := (qe0 BK200.out 1).trans rfl; have hcz16_2 : w15.cell? ⟨gb200, 2, none⟩ = some (.string (⟨#[]⟩ : ByteArray)) := (qe0 BK200.out 2).trans rfl; have hcz16_3 : w15.cell? ⟨gb200, 3, none⟩ = some (.int .i64 0) := (qe0 BK200.out 3).trans rfl; have hcz16_4 : w15.cell? ⟨gb200, 4, none⟩ = some (.int .i64 0) := (qe0 BK200.out 4).trans rfl; have hcz16_5 : w15.cell? ⟨gb200, 5, none⟩ = some (.int .i64 0) := (qe0 BK200.out 5).trans rfl; have hfz16_0 := qd0 BK200.out 0; have hfz16_1 := qd0 BK200.out 1; have hfz16_2 := qd0 BK200.out 2; have hfz16_3 := qd0 BK200.out 3; have hfz16_4 := qd0 BK200.out 4; have hfz16_5 := qd0 BK200.out 5) | ((with_reducible refine qn0 (f := 127) rfl ?_); refine qu0 (some 17) rfl rfl Try.func127 (by kernel_rfl) rfl #[.agg #[.string ((rd_T106 l0 x12_1).f0), .string ((rd_T106 l0 x12_1).f1), .string ((rd_T106 l0 x12_1).f2), .int .i64 ((rd_T106 l0 x12_1).f3), .int .i64 ((rd_T106 l0 x12_1).f4), .int .i64 ((rd_T106 l0 x12_1).f5)]] rfl (by (try simp only [List.map_toArray, List.map_cons, List.map_nil]); first | done | rfl | (simp only [List.length_drop, List.length_take]; rfl)) ?_; (with_reducible refine (impl_cellOk.calls k1 ((rd_T106 l0 x12_1).f0) ((rd_T106 l0 x12_1).f1) ((rd_T106 l0 x12_1).f2) ((rd_T106 l0 x12_1).f3) ((rd_T106 l0 x12_1).f4) ((rd_T106 l0 x12_1).f5) true _ A8.out).mono ?_); rintro e w17 ⟨rfl, hb⟩; refine ⟨_, rfl, ?_⟩; have n0_ := Aside0.mk (Kd.Z_below (by (with_reducible repeat (first | apply Kd.Z_alloc | apply Kd.Z_drewN | apply Kd.Z_drew)); exact (Kd.Z_mono (Kd.Z_far (p := ⟨gb200, 5, none⟩) (Kd.Z_far (p := ⟨gb200, 4, none⟩) (Kd.Z_far (p := ⟨gb200, 3, none⟩) (Kd.Z_far (p := ⟨gb200, 2, none⟩) (Kd.Z_far (p := ⟨gb200, 1, none⟩) (Kd.Z_far (p := ⟨gb200, 0, none⟩) (Kd.Z_types HO_3.out BK200.out (by decide)) (fun _ hk => hk.2) (.string ((rd_T106 l0 x12_1).f0))) (fun _ hk => hk.2) (.string ((rd_T106 l0 x12_1).f1))) (fun _ hk => hk.2) (.string ((rd_T106 l0 x12_1).f2))) (fun _ hk => hk.2) (.int .i64 ((rd_T106 l0 x12_1).f3))) (fun _ hk => hk.2) (.int .i64 ((rd_T106 l0 x12_1).f4))) (fun _ hk => hk.2) (.int .i64 ((rd_T106 l0 x12_1).f5))) (fun _ h_ => h_.1))) hb); have n1_ := Aside0.mk (qb1 (g := gb200) (o := .cells #[.string ((rd_T106 l0 x12_1).f0), .string ((rd_T106 l0 x12_1).f1), .string ((rd_T106 l0 x12_1).f2), .int .i64 ((rd_T106 l0 x12_1).f3), .int .i64 ((rd_T106 l0 x12_1).f4), .int .i64 ((rd_T106 l0 x12_1).f5)] 106 (0, 0)) (by (with_reducible repeat (first | refine qi0 ?_ _ | refine qk0 ?_ | refine qj0 ?_ _)); refine qx0 (cs := #[.string ((rd_T106 l0 x12_1).f0), .string ((rd_T106 l0 x12_1).f1), .string ((rd_T106 l0 x12_1).f2), .int .i64 ((rd_T106 l0 x12_1).f3), .int .i64 ((rd_T106 l0 x12_1).f4), .int .i64 0]) ?_ 5 _ rfl; (with_reducible repeat (first | refine qi0 ?_ _ | refine qk0 ?_ | refine qj0 ?_ _)); refine qx0 (cs := #[.string ((rd_T106 l0 x12_1).f0), .string ((rd_T106 l0 x12_1).f1), .string ((rd_T106 l0 x12_1).f2), .int .i64 ((rd_T106 l0 x12_1).f3), .int .i64 0, .int .i64 0]) ?_ 4 _ rfl; (with_reducible repeat (first | refine qi0 ?_ _ | refine qk0 ?_ | refine qj0 ?_ _)); refine qx0 (cs := #[.string ((rd_T106 l0 x12_1).f0), .string ((rd_T106 l0 x12_1).f1), .string ((rd_T106 l0 x12_1).f2), .int .i64 0, .int .i64 0, .int .i64 0]) ?_ 3 _ rfl; (with_reducible repeat (first | refine qi0 ?_ _ | refine qk0 ?_ | refine qj0 ?_ _)); refine qx0 (cs := #[.string ((rd_T106 l0 x12_1).f0), .string ((rd_T106 l0 x12_1).f1), .string (⟨#[]⟩ : ByteArray), .int .i64 0, .int .i64 0, .int .i64 0]) ?_ 2 _ rfl; (with_reducible repeat (first | refine qi0 ?_ _ | refine qk0 ?_ | refine qj0 ?_ _)); refine qx0 (cs := #[.string ((rd_T106 l0 x12_1).f0), .string (⟨#[]⟩ : ByteArray), .string (⟨#[]⟩ : ByteArray), .int .i64 0, .int .i64 0, .int .i64 0]) ?_ 1 _ rfl; (with_reducible repeat (first | refine qi0 ?_ _ | refine qk0 ?_ | refine qj0 ?_ _)); refine qx0 (cs := #[.string (⟨#[]⟩ : ByteArray), .string (⟨#[]⟩ : ByteArray), .string (⟨#[]⟩ : ByteArray), .int .i64 0, .int .i64 0, .int .i64 0]) ?_ 0 _ rfl; (with_reducible repeat (first | refine qi0 ?_ _ | refine qk0 ?_ | refine qj0 ?_ _)); exact BK200.out) hb); have n2_ := Aside0.mk (qf0 (by repeat (first | (with_reducible first | exact HB.out | apply qc0 | apply qa0 | apply qb0 | refine qg0 ?_ GE200.out) | exact HB.out)) hb); clear HO_3; clear BK200; clear HB; have HO_3 := n0_; have BK200 := n1_; have HB := n2_; clear n0_ n1_ n2_; (try clear hb); (try clear hb2); (try clear hk); (try clear hi); have hcz18_0 : w17.cell? ⟨gb200, 0, none⟩ = some (.string ((rd_T106 l0 x12_1).f0)) := (qe0 BK200.out 0).trans rfl; have hcz18_1 : w17.cell? ⟨gb200, 1, none⟩ = some (.string ((rd_T106 l0 x12_1).f1)) := (qe0 BK200.out 1).trans rfl; have hcz18_2 : w17.cell? ⟨gb200, 2, none⟩ = some (.string ((rd_T106 l0 x12_1).f2)) := (qe0 BK200.out 2).trans rfl; have hcz18_3 : w17.cell? ⟨gb200, 3, none⟩ = some (.int .i64 ((rd_T106 l0 x12_1).f3)) := (qe0 BK200.out 3).trans rfl; have hcz18_4 : w17.cell? ⟨gb200, 4, none⟩ = some (.int .i64 ((rd_T106 l0 x12_1).f4)) := (qe0 BK200.out 4).trans rfl; have hcz18_5 : w17.cell? ⟨gb200, 5, none⟩ = some (.int .i64 ((rd_T106 l0 x12_1).f5)) := (qe0 BK200.out 5).trans rfl; have hfz18_0 := qd0 BK200.out 0; have hfz18_1 := qd0 BK200.out 1; have hfz18_2 := qd0 BK200.out 2; have hfz18_3 := qd0 BK200.out 3; have hfz18_4 := qd0 BK200.out 4; have hfz18_5 := qd0 BK200.out 5) | (go_at_call 128; (with_reducible refine (impl_Cell_where.calls ((rd_T106 l0 x12_1).f0) ((rd_T106 l0 x12_1).f1) ((rd_T106 l0 x12_1).f2) ((rd_T106 l0 x12_1).f3) ((rd_T106 l0 x12_1).f4) ((rd_T106 l0 x12_1).f5) t202 t203 t204 _ A10.out).mono ?_); rintro e w19 ⟨rfl, hb⟩; have n0_ := Aside0.mk (Kd.Z_below (by (with_reducible repeat (first | apply Kd.Z_alloc | apply Kd.Z_drewN | apply Kd.Z_drew)); exact HO_3.out) hb); have n1_ := Aside0.mk (qb1 (g := gb200) (o := .cells #[.string ((rd_T106 l0 x12_1).f0), .string ((rd_T106 l0 x12_1).f1), .string ((rd_T106 l0 x12_1).f2), .int .i64 ((rd_T106 l0 x12_1).f3), .int .i64 ((rd_T106 l0 x12_1).f4), .int .i64 ((rd_T106 l0 x12_1).f5)] 106 (0, 0)) (by (with_reducible repeat (first | refine qi0 ?_ _ | refine qk0 ?_ | refine qj0 ?_ _)); exact BK200.out) hb); have n2_ := Aside0.mk (qf0 (by repeat (first | (with_reducible first | exact HB.out | apply qc0 | apply qa0 | apply qb0 | refine qg0 ?_ GE200.out) | exact HB.out)) hb); clear HO_3; clear BK200; clear HB; have HO_3 := n0_; have BK200 := n1_; have HB := n2_; clear n0_ n1_ n2_; (try clear hb); (try clear hb2); (try clear hk); (try clear hi)) | ((with_reducible refine qt0 (N := 23) rfl ?_); (try (refine gate_guard (by rfl) ?_; dsimp only)); refine Kd.Z_look_op (base := w.heap.size) (ok := fun _ => True) kz162 162 rfl rfl _ _ 162 rfl kz162_K kz162_inj kz162_t false kz162_z mb198 x3_1 (⟨t202, t203, t204⟩ : S164) rfl rfl (kz162_key (⟨t202, t203, t204⟩ : S164) LMc11.out LMc12.out LMc13.out) ?aO (.bool ((mget x3_1 (⟨t202, t203, t204⟩ : S164)).getD false)) rfl ?_; (case aO => exact (by (with_reducible repeat (first | apply Kd.Z_alloc | apply Kd.Z_drewN | apply Kd.Z_drew)); exact HO_3.out))))
      go_ret
      exact ⟨by first | rfl | (simp [errW_none, errW_some] <;> rfl) | (simp [*, errW_none, errW_some] <;> rfl), by repeat (first | (with_reducible first | exact HB.out | apply qc0 | apply qa0 | apply qb0 | refine qg0 ?_ GE200.out) | exact HB.out)⟩
     rw [if_neg c14] at H
     have c14b0 : (mget x3_1 (⟨t202, t203, t204⟩ : S164)).getD false = false := by simpa using c14
     clear c14
     replace H := Option.bind_eq_some_iff.mp H
     obtain ⟨⟨t205, t206, t207⟩, A200, H⟩ := H
     replace H : (if t205.size ≤ 9223372036854775807 then (if t206.size ≤ 9223372036854775807 then (if t207.size ≤ 9223372036854775807 then (impl_StockOk.l0 k1 (mset x3_1 (⟨t205, t206, t207⟩ : S164) true) l0 (l0.length : Int) (wrap64 (x12_1 + 1))) else (none)) else (none)) else (none)) = some r := H
     have A20 := Aside0.mk A200
     clear A200
     by_cases c21 : t205.size ≤ 9223372036854775807
     case neg => rw [if_neg c21] at H; exact absurd H (by simp)
     rw [if_pos c21] at H
     have LMc21 := Aside0.mk c21
     clear c21
     by_cases c22 : t206.size ≤ 9223372036854775807
     case neg => rw [if_neg c22] at H; exact absurd H (by simp)
     rw [if_pos c22] at H
     have LMc22 := Aside0.mk c22
     clear c22
     by_cases c23 : t207.size ≤ 9223372036854775807
     case neg => rw [if_neg c23] at H; exact absurd H (by simp)
     rw [if_pos c23] at H
     have LMc23 := Aside0.mk c23
     clear c23
     obtain ⟨y208, hy208⟩ : ∃ y_ : List (S164 × Bool), y_ = (mset x3_1 (⟨t205, t206, t207⟩ : S164) true) := ⟨_, rfl⟩
     replace H : (impl_StockOk.l0 k1 y208 l0 (l0.length : Int) (wrap64 (x12_1 + 1))) = some r := by first | (rw [hy208]; with_reducible exact H) | (have H2_ := (Option.bind_some _ _).symm.trans H; rw [hy208]; with_reducible exact H2_) | (have H2_ := (Option.bind_some _ _).symm.trans H; with_reducible exact H2_) | with_reducible exact H | (rw [hy208]; exact H) | exact H
     have Ny208 := Aside0.mk hy208
     clear hy208
     have H' := Aside0.mk H
     clear H
     have p199 : 0 ≤ (x12_1 : Int) := of_decide_eq_true (by first | (with_reducible assumption) | assumption)
     have q199 : x12_1 < (l0.length : Int) := of_decide_eq_true (by first | (with_reducible assumption) | assumption)
     obtain ⟨ad199, e199, hx199_0, hx199_1, hx199_2, hx199_3, hx199_4, hx199_5⟩ := at_T106 HR0.out x12_1 p199 q199
     cases e199
     replace hx199_0 := (HB.out.cell (World.block_lt_of_cell? w _ hx199_0)).trans hx199_0
     replace hx199_1 := (HB.out.cell (World.block_lt_of_cell? w _ hx199_1)).trans hx199_1
     replace hx199_2 := (HB.out.cell (World.block_lt_of_cell? w _ hx199_2)).trans hx199_2
     replace hx199_3 := (HB.out.cell (World.block_lt_of_cell? w _ hx199_3)).trans hx199_3
     replace hx199_4 := (HB.out.cell (World.block_lt_of_cell? w _ hx199_4)).trans hx199_4
     replace hx199_5 := (HB.out.cell (World.block_lt_of_cell? w _ hx199_5)).trans hx199_5
     replace p199 := eq_true p199
     replace q199 := eq_true q199
     go_wp2_with (first | ((with_reducible refine qt0 (N := 5) rfl ?_); (try (refine gate_guard (by rfl) ?_; dsimp only)); refine qs0 ?hg (N := 5) ?hd (cs := #[.string (⟨#[]⟩ : ByteArray), .string (⟨#[]⟩ : ByteArray), .string (⟨#[]⟩ : ByteArray), .int .i64 0, .int .i64 0, .int .i64 0]) (t := 106) ?hr ?_; (case hd => rfl); (case hg => rfl); (case hr => first | (go_simp; done) | (go_simp; rfl)); intro gb200 hg w24 hbox hb; have n0_ := Aside0.mk (Kd.Z_below (by (with_reducible repeat (first | apply Kd.Z_alloc | apply Kd.Z_drewN | apply Kd.Z_drew)); exact HO_3.out) hb); have n1_ := Aside0.mk (qf0 (by repeat (first | (with_reducible first | exact HB.out | apply qc0 | apply qa0 | apply qb0) | exact HB.out)) hb); have n2_ := Aside0.mk (hbox); have n3_ := Aside0.mk ((by rw [hg]; exact (qh0 (by repeat (first | (with_reducible first | exact HB.out | apply qc0 | apply qa0 | apply qb0) | exact HB.out))) : w.heap.size ≤ gb200)); have n4_ := Aside0.mk ((by rw [hg]; exact (qh0 (by repeat (first | (with_reducible first | exact HB.out | apply qc0 | apply qa0 | apply qb0) | exact HB.out))) : w.heap.size ≤ gb200)); clear HO_3; clear HB; have HO_3 := n0_; have HB := n1_; have BK200 := n2_; have GW200 := n3_; have GE200 := n4_; clear n0_ n1_ n2_ n3_ n4_; clear hb hbox hg; have hcz25_0 : w24.cell? ⟨gb200, 0, none⟩ = some (.string (⟨#[]⟩ : ByteArray)) := (qe0 BK200.out 0).trans rfl; have hcz25_1 : w24.cell? ⟨gb200, 1, none⟩ = some (.string (⟨#[]⟩ : ByteArray)) := (qe0 BK200.out 1).trans rfl; have hcz25_2 : w24.cell? ⟨gb200, 2, none⟩ = some (.string (⟨#[]⟩ : ByteArray)) := (qe0 BK200.out 2).trans rfl; have hcz25_3 : w24.cell? ⟨gb200, 3, none⟩ = some (.int .i64 0) := (qe0 BK200.out 3).trans rfl; have hcz25_4 : w24.cell? ⟨gb200, 4, none⟩ = some (.int .i64 0) := (qe0 BK200.out 4).trans rfl; have hcz25_5 : w24.cell? ⟨gb200, 5, none⟩ = some (.int .i64 0) := (qe0 BK200.out 5).trans rfl; have hfz25_0 := qd0 BK200.out 0; have hfz25_1 := qd0 BK200.out 1; have hfz25_2 := qd0 BK200.out 2; have hfz25_3 := qd0 BK200.out 3; have hfz25_4 := qd0 BK200.out 4; have hfz25_5 := qd0 BK200.out 5) | ((with_reducible refine qn0 (f := 127) rfl ?_); refine qu0 (some 17) rfl rfl Try.func127 (by kernel_rfl) rfl #[.agg #[.string ((rd_T106 l0 x12_1).f0), .string ((rd_T106 l0 x12_1).f1), .string ((rd_T106 l0 x12_1).f2), .int .i64 ((rd_T106 l0 x12_1).f3), .int .i64 ((rd_T106 l0 x12_1).f4), .int .i64 ((rd_T106 l0 x12_1).f5)]] rfl (by (try simp only [List.map_toArray, List.map_cons, List.map_nil]); first | done | rfl | (simp only [List.length_drop, List.length_take]; rfl)) ?_; (with_reducible refine (impl_cellOk.calls k1 ((rd_T106 l0 x12_1).f0) ((rd_T106 l0 x12_1).f1) ((rd_T106 l0 x12_1).f2) ((rd_T106 l0 x12_1).f3) ((rd_T106 l0 x12_1).f4) ((rd_T106 l0 x12_1).f5) true _ A8.out).mono ?_); rintro e w26 ⟨rfl, hb⟩; refine ⟨_, rfl, ?_⟩; have n0_ := Aside0.mk (Kd.Z_below (by (with_reducible repeat (first | apply Kd.Z_alloc | apply Kd.Z_drewN | apply Kd.Z_drew)); exact (Kd.Z_mono (Kd.Z_far (p := ⟨gb200, 5, none⟩) (Kd.Z_far (p := ⟨gb200, 4, none⟩) (Kd.Z_far (p := ⟨gb200, 3, none⟩) (Kd.Z_far (p := ⟨gb200, 2, none⟩) (Kd.Z_far (p := ⟨gb200, 1, none⟩) (Kd.Z_far (p := ⟨gb200, 0, none⟩) (Kd.Z_types HO_3.out BK200.out (by decide)) (fun _ hk => hk.2) (.string ((rd_T106 l0 x12_1).f0))) (fun _ hk => hk.2) (.string ((rd_T106 l0 x12_1).f1))) (fun _ hk => hk.2) (.string ((rd_T106 l0 x12_1).f2))) (fun _ hk => hk.2) (.int .i64 ((rd_T106 l0 x12_1).f3))) (fun _ hk => hk.2) (.int .i64 ((rd_T106 l0 x12_1).f4))) (fun _ hk => hk.2) (.int .i64 ((rd_T106 l0 x12_1).f5))) (fun _ h_ => h_.1))) hb); have n1_ := Aside0.mk (qb1 (g := gb200) (o := .cells #[.string ((rd_T106 l0 x12_1).f0), .string ((rd_T106 l0 x12_1).f1), .string ((rd_T106 l0 x12_1).f2), .int .i64 ((rd_T106 l0 x12_1).f3), .int .i64 ((rd_T106 l0 x12_1).f4), .int .i64 ((rd_T106 l0 x12_1).f5)] 106 (0, 0)) (by (with_reducible repeat (first | refine qi0 ?_ _ | refine qk0 ?_ | refine qj0 ?_ _)); refine qx0 (cs := #[.string ((rd_T106 l0 x12_1).f0), .string ((rd_T106 l0 x12_1).f1), .string ((rd_T106 l0 x12_1).f2), .int .i64 ((rd_T106 l0 x12_1).f3), .int .i64 ((rd_T106 l0 x12_1).f4), .int .i64 0]) ?_ 5 _ rfl; (with_reducible repeat (first | refine qi0 ?_ _ | refine qk0 ?_ | refine qj0 ?_ _)); refine qx0 (cs := #[.string ((rd_T106 l0 x12_1).f0), .string ((rd_T106 l0 x12_1).f1), .string ((rd_T106 l0 x12_1).f2), .int .i64 ((rd_T106 l0 x12_1).f3), .int .i64 0, .int .i64 0]) ?_ 4 _ rfl; (with_reducible repeat (first | refine qi0 ?_ _ | refine qk0 ?_ | refine qj0 ?_ _)); refine qx0 (cs := #[.string ((rd_T106 l0 x12_1).f0), .string ((rd_T106 l0 x12_1).f1), .string ((rd_T106 l0 x12_1).f2), .int .i64 0, .int .i64 0, .int .i64 0]) ?_ 3 _ rfl; (with_reducible repeat (first | refine qi0 ?_ _ | refine qk0 ?_ | refine qj0 ?_ _)); refine qx0 (cs := #[.string ((rd_T106 l0 x12_1).f0), .string ((rd_T106 l0 x12_1).f1), .string (⟨#[]⟩ : ByteArray), .int .i64 0, .int .i64 0, .int .i64 0]) ?_ 2 _ rfl; (with_reducible repeat (first | refine qi0 ?_ _ | refine qk0 ?_ | refine qj0 ?_ _)); refine qx0 (cs := #[.string ((rd_T106 l0 x12_1).f0), .string (⟨#[]⟩ : ByteArray), .string (⟨#[]⟩ : ByteArray), .int .i64 0, .int .i64 0, .int .i64 0]) ?_ 1 _ rfl; (with_reducible repeat (first | refine qi0 ?_ _ | refine qk0 ?_ | refine qj0 ?_ _)); refine qx0 (cs := #[.string (⟨#[]⟩ : ByteArray), .string (⟨#[]⟩ : ByteArray), .string (⟨#[]⟩ : ByteArray), .int .i64 0, .int .i64 0, .int .i64 0]) ?_ 0 _ rfl; (with_reducible repeat (first | refine qi0 ?_ _ | refine qk0 ?_ | refine qj0 ?_ _)); exact BK200.out) hb); have n2_ := Aside0.mk (qf0 (by repeat (first | (with_reducible first | exact HB.out | apply qc0 | apply qa0 | apply qb0 | refine qg0 ?_ GE200.out) | exact HB.out)) hb); clear HO_3; clear BK200; clear HB; have HO_3 := n0_; have BK200 := n1_; have HB := n2_; clear n0_ n1_ n2_; (try clear hb); (try clear hb2); (try clear hk); (try clear hi); have hcz27_0 : w26.cell? ⟨gb200, 0, none⟩ = some (.string ((rd_T106 l0 x12_1).f0)) := (qe0 BK200.out 0).trans rfl; have hcz27_1 : w26.cell? ⟨gb200, 1, none⟩ = some (.string ((rd_T106 l0 x12_1).f1)) := (qe0 BK200.out 1).trans rfl; have hcz27_2 : w26.cell? ⟨gb200, 2, none⟩ = some (.string ((rd_T106 l0 x12_1).f2)) := (qe0 BK200.out 2).trans rfl; have hcz27_3 : w26.cell? ⟨gb200, 3, none⟩ = some (.int .i64 ((rd_T106 l0 x12_1).f3)) := (qe0 BK200.out 3).trans rfl; have hcz27_4 : w26.cell? ⟨gb200, 4, none⟩ = some (.int .i64 ((rd_T106 l0 x12_1).f4)) := (qe0 BK200.out 4).trans rfl; have hcz27_5 : w26.cell? ⟨gb200, 5, none⟩ = some (.int .i64 ((rd_T106 l0 x12_1).f5)) := (qe0 BK200.out 5).trans rfl; have hfz27_0 := qd0 BK200.out 0; have hfz27_1 := qd0 BK200.out 1; have hfz27_2 := qd0 BK200.out 2; have hfz27_3 := qd0 BK200.out 3; have hfz27_4 := qd0 BK200.out 4; have hfz27_5 := qd0 BK200.out 5) | (go_at_call 128; (with_reducible refine (impl_Cell_where.calls ((rd_T106 l0 x12_1).f0) ((rd_T106 l0 x12_1).f1) ((rd_T106 l0 x12_1).f2) ((rd_T106 l0 x12_1).f3) ((rd_T106 l0 x12_1).f4) ((rd_T106 l0 x12_1).f5) t202 t203 t204 _ A10.out).mono ?_); rintro e w28 ⟨rfl, hb⟩; have n0_ := Aside0.mk (Kd.Z_below (by (with_reducible repeat (first | apply Kd.Z_alloc | apply Kd.Z_drewN | apply Kd.Z_drew)); exact HO_3.out) hb); have n1_ := Aside0.mk (qb1 (g := gb200) (o := .cells #[.string ((rd_T106 l0 x12_1).f0), .string ((rd_T106 l0 x12_1).f1), .string ((rd_T106 l0 x12_1).f2), .int .i64 ((rd_T106 l0 x12_1).f3), .int .i64 ((rd_T106 l0 x12_1).f4), .int .i64 ((rd_T106 l0 x12_1).f5)] 106 (0, 0)) (by (with_reducible repeat (first | refine qi0 ?_ _ | refine qk0 ?_ | refine qj0 ?_ _)); exact BK200.out) hb); have n2_ := Aside0.mk (qf0 (by repeat (first | (with_reducible first | exact HB.out | apply qc0 | apply qa0 | apply qb0 | refine qg0 ?_ GE200.out) | exact HB.out)) hb); clear HO_3; clear BK200; clear HB; have HO_3 := n0_; have BK200 := n1_; have HB := n2_; clear n0_ n1_ n2_; (try clear hb); (try clear hb2); (try clear hk); (try clear hi)) | ((with_reducible refine qt0 (N := 23) rfl ?_); (try (refine gate_guard (by rfl) ?_; dsimp only)); refine Kd.Z_look_op (base := w.heap.size) (ok := fun _ => True) kz162 162 rfl rfl _ _ 162 rfl kz162_K kz162_inj kz162_t false kz162_z mb198 x3_1 (⟨t202, t203, t204⟩ : S164) rfl rfl (kz162_key (⟨t202, t203, t204⟩ : S164) LMc11.out LMc12.out LMc13.out) ?aO (.bool ((mget x3_1 (⟨t202, t203, t204⟩ : S164)).getD false)) rfl ?_; (case aO => exact (by (with_reducible repeat (first | apply Kd.Z_alloc | apply Kd.Z_drewN | apply Kd.Z_drew)); exact HO_3.out)); have hcz29_0 : w28.cell? ⟨gb200, 0, none⟩ = some (.string ((rd_T106 l0 x12_1).f0)) := (qe0 BK200.out 0).trans rfl; have hcz29_1 : w28.cell? ⟨gb200, 1, none⟩ = some (.string ((rd_T106 l0 x12_1).f1)) := (qe0 BK200.out 1).trans rfl; have hcz29_2 : w28.cell? ⟨gb200, 2, none⟩ = some (.string ((rd_T106 l0 x12_1).f2)) := (qe0 BK200.out 2).trans rfl; have hcz29_3 : w28.cell? ⟨gb200, 3, none⟩ = some (.int .i64 ((rd_T106 l0 x12_1).f3)) := (qe0 BK200.out 3).trans rfl; have hcz29_4 : w28.cell? ⟨gb200, 4, none⟩ = some (.int .i64 ((rd_T106 l0 x12_1).f4)) := (qe0 BK200.out 4).trans rfl; have hcz29_5 : w28.cell? ⟨gb200, 5, none⟩ = some (.int .i64 ((rd_T106 l0 x12_1).f5)) := (qe0 BK200.out 5).trans rfl; have hfz29_0 := qd0 BK200.out 0; have hfz29_1 := qd0 BK200.out 1; have hfz29_2 := qd0 BK200.out 2; have hfz29_3 := qd0 BK200.out 3; have hfz29_4 := qd0 BK200.out 4; have hfz29_5 := qd0 BK200.out 5) | ((with_reducible refine qn0 (f := 128) rfl ?_); refine qu0 (some 27) rfl rfl Try.func128 (by kernel_rfl) rfl #[.agg #[.string ((rd_T106 l0 x12_1).f0), .string ((rd_T106 l0 x12_1).f1), .string ((rd_T106 l0 x12_1).f2), .int .i64 ((rd_T106 l0 x12_1).f3), .int .i64 ((rd_T106 l0 x12_1).f4), .int .i64 ((rd_T106 l0 x12_1).f5)]] rfl (by (try simp only [List.map_toArray, List.map_cons, List.map_nil]); first | done | rfl | (simp only [List.length_drop, List.length_take]; rfl)) ?_; (with_reducible refine (impl_Cell_where.calls ((rd_T106 l0 x12_1).f0) ((rd_T106 l0 x12_1).f1) ((rd_T106 l0 x12_1).f2) ((rd_T106 l0 x12_1).f3) ((rd_T106 l0 x12_1).f4) ((rd_T106 l0 x12_1).f5) t205 t206 t207 _ A20.out).mono ?_); rintro e w30 ⟨rfl, hb⟩; refine ⟨_, rfl, ?_⟩; have n0_ := Aside0.mk (Kd.Z_below (by (with_reducible repeat (first | apply Kd.Z_alloc | apply Kd.Z_drewN | apply Kd.Z_drew)); exact HO_3.out) hb); have n1_ := Aside0.mk (qb1 (g := gb200) (o := .cells #[.string ((rd_T106 l0 x12_1).f0), .string ((rd_T106 l0 x12_1).f1), .string ((rd_T106 l0 x12_1).f2), .int .i64 ((rd_T106 l0 x12_1).f3), .int .i64 ((rd_T106 l0 x12_1).f4), .int .i64 ((rd_T106 l0 x12_1).f5)] 106 (0, 0)) (by (with_reducible repeat (first | refine qi0 ?_ _ | refine qk0 ?_ | refine qj0 ?_ _)); exact BK200.out) hb); have n2_ := Aside0.mk (qf0 (by repeat (first | (with_reducible first | exact HB.out | apply qc0 | apply qa0 | apply qb0 | refine qg0 ?_ GE200.out) | exact HB.out)) hb); clear HO_3; clear BK200; clear HB; have HO_3 := n0_; have BK200 := n1_; have HB := n2_; clear n0_ n1_ n2_; (try clear hb); (try clear hb2); (try clear hk); (try clear hi)) | ((with_reducible refine gate_mapset (t := 162) rfl ?_); refine Kd.Z_set_op (base := w.heap.size) (ok := fun _ => True) kz162 162 rfl rfl _ _ _ 162 rfl rfl kz162_K kz162_inj kz162_t mb198 x3_1 (⟨t205, t206, t207⟩ : S164) true rfl rfl rfl (kz162_key (⟨t205, t206, t207⟩ : S164) LMc21.out LMc22.out LMc23.out) ?aO ?_; (case aO => exact (by (with_reducible repeat (first | apply Kd.Z_alloc | apply Kd.Z_drewN | apply Kd.Z_drew)); exact HO_3.out)); intro w31 ho_ hg hbb_ hz_; rw [← Ny208.out] at ho_; have n0_ := Aside0.mk (ho_); have n1_ := Aside0.mk (blk_grown (g := gb200) (o := .cells #[.string ((rd_T106 l0 x12_1).f0), .string ((rd_T106 l0 x12_1).f1), .string ((rd_T106 l0 x12_1).f2), .int .i64 ((rd_T106 l0 x12_1).f3), .int .i64 ((rd_T106 l0 x12_1).f4), .int .i64 ((rd_T106 l0 x12_1).f5)] 106 (0, 0)) (by (with_reducible repeat (first | refine qi0 ?_ _ | refine qk0 ?_ | refine qj0 ?_ _)); exact BK200.out) hg (blk_neZ (by (with_reducible repeat (first | refine qi0 ?_ _ | refine qk0 ?_ | refine qj0 ?_ _)); exact BK200.out) hz_)); have n2_ := Aside0.mk (pw_below_grown (by repeat (first | (with_reducible first | exact HB.out | apply qc0 | apply qa0 | apply qb0 | refine qg0 ?_ GE200.out) | exact HB.out)) (some mb198) (qh0 (by repeat (first | (with_reducible first | exact HB.out | apply qc0 | apply qa0 | apply qb0 | refine qg0 ?_ GE200.out) | exact HB.out))) hg (fun k_ e_ => by cases e_; exact hbb_)); clear HO_3; clear BK200; clear HB; have HO_3 := n0_; have BK200 := n1_; have HB := n2_; clear n0_ n1_ n2_; clear ho_ hg hbb_ hz_))
     go_roundg k1
     case measure => have := HK1.out; omega
     case rel => exact ⟨(y208), (wrap64 (x12_1 + 1)), (by first | rfl | (simp; done) | (simp [*]; done)), H', ⟨by have := HK1.out; omega⟩, ⟨by (with_reducible repeat (first | apply Kd.Z_alloc | apply Kd.Z_drewN | apply Kd.Z_drew)); exact HO_3.out⟩, ⟨by repeat (first | (with_reducible first | exact HB.out | apply qc0 | apply qa0 | apply qb0 | refine qg0 ?_ GE200.out) | exact HB.out)⟩⟩
    replace c9 := Bool.eq_false_iff.mpr c9
    subst c9
    have H1 : (some false) = some r := by rw [if_neg (show ¬ (false = true) by decide)] at H; exact H
    clear H
    have H := H1
    clear H1
    obtain rfl := Option.some.inj H
    have p199 : 0 ≤ (x12_1 : Int) := of_decide_eq_true (by first | (with_reducible assumption) | assumption)
    have q199 : x12_1 < (l0.length : Int) := of_decide_eq_true (by first | (with_reducible assumption) | assumption)
    obtain ⟨ad199, e199, hx199_0, hx199_1, hx199_2, hx199_3, hx199_4, hx199_5⟩ := at_T106 HR0.out x12_1 p199 q199
    cases e199
    replace hx199_0 := (HB.out.cell (World.block_lt_of_cell? w _ hx199_0)).trans hx199_0
    replace hx199_1 := (HB.out.cell (World.block_lt_of_cell? w _ hx199_1)).trans hx199_1
    replace hx199_2 := (HB.out.cell (World.block_lt_of_cell? w _ hx199_2)).trans hx199_2
    replace hx199_3 := (HB.out.cell (World.block_lt_of_cell? w _ hx199_3)).trans hx199_3
    replace hx199_4 := (HB.out.cell (World.block_lt_of_cell? w _ hx199_4)).trans hx199_4
    replace hx199_5 := (HB.out.cell (World.block_lt_of_cell? w _ hx199_5)).trans hx199_5
    replace p199 := eq_true p199
    replace q199 := eq_true q199
    go_wp2_with (first | ((with_reducible refine qt0 (N := 5) rfl ?_); (try (refine gate_guard (by rfl) ?_; dsimp only)); refine qs0 ?hg (N := 5) ?hd (cs := #[.string (⟨#[]⟩ : ByteArray), .string (⟨#[]⟩ : ByteArray), .string (⟨#[]⟩ : ByteArray), .int .i64 0, .int .i64 0, .int .i64 0]) (t := 106) ?hr ?_; (case hd => rfl); (case hg => rfl); (case hr => first | (go_simp; done) | (go_simp; rfl)); intro gb200 hg w32 hbox hb; have n0_ := Aside0.mk (Kd.Z_below (by (with_reducible repeat (first | apply Kd.Z_alloc | apply Kd.Z_drewN | apply Kd.Z_drew)); exact HO_3.out) hb); have n1_ := Aside0.mk (qf0 (by repeat (first | (with_reducible first | exact HB.out | apply qc0 | apply qa0 | apply qb0) | exact HB.out)) hb); have n2_ := Aside0.mk (hbox); have n3_ := Aside0.mk ((by rw [hg]; exact (qh0 (by repeat (first | (with_reducible first | exact HB.out | apply qc0 | apply qa0 | apply qb0) | exact HB.out))) : w.heap.size ≤ gb200)); have n4_ := Aside0.mk ((by rw [hg]; exact (qh0 (by repeat (first | (with_reducible first | exact HB.out | apply qc0 | apply qa0 | apply qb0) | exact HB.out))) : w.heap.size ≤ gb200)); clear HO_3; clear HB; have HO_3 := n0_; have HB := n1_; have BK200 := n2_; have GW200 := n3_; have GE200 := n4_; clear n0_ n1_ n2_ n3_ n4_; clear hb hbox hg; have hcz33_0 : w32.cell? ⟨gb200, 0, none⟩ = some (.string (⟨#[]⟩ : ByteArray)) := (qe0 BK200.out 0).trans rfl; have hcz33_1 : w32.cell? ⟨gb200, 1, none⟩ = some (.string (⟨#[]⟩ : ByteArray)) := (qe0 BK200.out 1).trans rfl; have hcz33_2 : w32.cell? ⟨gb200, 2, none⟩ = some (.string (⟨#[]⟩ : ByteArray)) := (qe0 BK200.out 2).trans rfl; have hcz33_3 : w32.cell? ⟨gb200, 3, none⟩ = some (.int .i64 0) := (qe0 BK200.out 3).trans rfl; have hcz33_4 : w32.cell? ⟨gb200, 4, none⟩ = some (.int .i64 0) := (qe0 BK200.out 4).trans rfl; have hcz33_5 : w32.cell? ⟨gb200, 5, none⟩ = some (.int .i64 0) := (qe0 BK200.out 5).trans rfl; have hfz33_0 := qd0 BK200.out 0; have hfz33_1 := qd0 BK200.out 1; have hfz33_2 := qd0 BK200.out 2; have hfz33_3 := qd0 BK200.out 3; have hfz33_4 := qd0 BK200.out 4; have hfz33_5 := qd0 BK200.out 5) | ((with_reducible refine qn0 (f := 127) rfl ?_); refine qu0 (some 17) rfl rfl Try.func127 (by kernel_rfl) rfl #[.agg #[.string ((rd_T106 l0 x12_1).f0), .string ((rd_T106 l0 x12_1).f1), .string ((rd_T106 l0 x12_1).f2), .int .i64 ((rd_T106 l0 x12_1).f3), .int .i64 ((rd_T106 l0 x12_1).f4), .int .i64 ((rd_T106 l0 x12_1).f5)]] rfl (by (try simp only [List.map_toArray, List.map_cons, List.map_nil]); first | done | rfl | (simp only [List.length_drop, List.length_take]; rfl)) ?_; (with_reducible refine (impl_cellOk.calls k1 ((rd_T106 l0 x12_1).f0) ((rd_T106 l0 x12_1).f1) ((rd_T106 l0 x12_1).f2) ((rd_T106 l0 x12_1).f3) ((rd_T106 l0 x12_1).f4) ((rd_T106 l0 x12_1).f5) false _ A8.out).mono ?_); rintro e w34 ⟨rfl, hb⟩; refine ⟨_, rfl, ?_⟩; have n0_ := Aside0.mk (Kd.Z_below (by (with_reducible repeat (first | apply Kd.Z_alloc | apply Kd.Z_drewN | apply Kd.Z_drew)); exact (Kd.Z_mono (Kd.Z_far (p := ⟨gb200, 5, none⟩) (Kd.Z_far (p := ⟨gb200, 4, none⟩) (Kd.Z_far (p := ⟨gb200, 3, none⟩) (Kd.Z_far (p := ⟨gb200, 2, none⟩) (Kd.Z_far (p := ⟨gb200, 1, none⟩) (Kd.Z_far (p := ⟨gb200, 0, none⟩) (Kd.Z_types HO_3.out BK200.out (by decide)) (fun _ hk => hk.2) (.string ((rd_T106 l0 x12_1).f0))) (fun _ hk => hk.2) (.string ((rd_T106 l0 x12_1).f1))) (fun _ hk => hk.2) (.string ((rd_T106 l0 x12_1).f2))) (fun _ hk => hk.2) (.int .i64 ((rd_T106 l0 x12_1).f3))) (fun _ hk => hk.2) (.int .i64 ((rd_T106 l0 x12_1).f4))) (fun _ hk => hk.2) (.int .i64 ((rd_T106 l0 x12_1).f5))) (fun _ h_ => h_.1))) hb); have n1_ := Aside0.mk (qb1 (g := gb200) (o := .cells #[.string ((rd_T106 l0 x12_1).f0), .string ((rd_T106 l0 x12_1).f1), .string ((rd_T106 l0 x12_1).f2), .int .i64 ((rd_T106 l0 x12_1).f3), .int .i64 ((rd_T106 l0 x12_1).f4), .int .i64 ((rd_T106 l0 x12_1).f5)] 106 (0, 0)) (by (with_reducible repeat (first | refine qi0 ?_ _ | refine qk0 ?_ | refine qj0 ?_ _)); refine qx0 (cs := #[.string ((rd_T106 l0 x12_1).f0), .string ((rd_T106 l0 x12_1).f1), .string ((rd_T106 l0 x12_1).f2), .int .i64 ((rd_T106 l0 x12_1).f3), .int .i64 ((rd_T106 l0 x12_1).f4), .int .i64 0]) ?_ 5 _ rfl; (with_reducible repeat (first | refine qi0 ?_ _ | refine qk0 ?_ | refine qj0 ?_ _)); refine qx0 (cs := #[.string ((rd_T106 l0 x12_1).f0), .string ((rd_T106 l0 x12_1).f1), .string ((rd_T106 l0 x12_1).f2), .int .i64 ((rd_T106 l0 x12_1).f3), .int .i64 0, .int .i64 0]) ?_ 4 _ rfl; (with_reducible repeat (first | refine qi0 ?_ _ | refine qk0 ?_ | refine qj0 ?_ _)); refine qx0 (cs := #[.string ((rd_T106 l0 x12_1).f0), .string ((rd_T106 l0 x12_1).f1), .string ((rd_T106 l0 x12_1).f2), .int .i64 0, .int .i64 0, .int .i64 0]) ?_ 3 _ rfl; (with_reducible repeat (first | refine qi0 ?_ _ | refine qk0 ?_ | refine qj0 ?_ _)); refine qx0 (cs := #[.string ((rd_T106 l0 x12_1).f0), .string ((rd_T106 l0 x12_1).f1), .string (⟨#[]⟩ : ByteArray), .int .i64 0, .int .i64 0, .int .i64 0]) ?_ 2 _ rfl; (with_reducible repeat (first | refine qi0 ?_ _ | refine qk0 ?_ | refine qj0 ?_ _)); refine qx0 (cs := #[.string ((rd_T106 l0 x12_1).f0), .string (⟨#[]⟩ : ByteArray), .string (⟨#[]⟩ : ByteArray), .int .i64 0, .int .i64 0, .int .i64 0]) ?_ 1 _ rfl; (with_reducible repeat (first | refine qi0 ?_ _ | refine qk0 ?_ | refine qj0 ?_ _)); refine qx0 (cs := #[.string (⟨#[]⟩ : ByteArray), .string (⟨#[]⟩ : ByteArray), .string (⟨#[]⟩ : ByteArray), .int .i64 0, .int .i64 0, .int .i64 0]) ?_ 0 _ rfl; (with_reducible repeat (first | refine qi0 ?_ _ | refine qk0 ?_ | refine qj0 ?_ _)); exact BK200.out) hb); have n2_ := Aside0.mk (qf0 (by repeat (first | (with_reducible first | exact HB.out | apply qc0 | apply qa0 | apply qb0 | refine qg0 ?_ GE200.out) | exact HB.out)) hb); clear HO_3; clear BK200; clear HB; have HO_3 := n0_; have BK200 := n1_; have HB := n2_; clear n0_ n1_ n2_; (try clear hb); (try clear hb2); (try clear hk); (try clear hi)))
    go_ret
    exact ⟨by first | rfl | (simp [errW_none, errW_some] <;> rfl) | (simp [*, errW_none, errW_some] <;> rfl), by repeat (first | (with_reducible first | exact HB.out | apply qc0 | apply qa0 | apply qb0 | refine qg0 ?_ GE200.out) | exact HB.out)⟩
   rw [if_neg c5] at H
   have c5b0 : decide (x12_1 < (l0.length : Int)) = false := decide_eq_false c5
   clear c5
   obtain rfl := Option.some.inj H
   go_wp2
   go_ret
   exact ⟨by first | rfl | (simp [errW_none, errW_some] <;> rfl) | (simp [*, errW_none, errW_some] <;> rfl), by repeat (first | (with_reducible first | exact HB.out | apply qc0 | apply qa0 | apply qb0) | exact HB.out)⟩

/-! ### impl_copyStock: function 108 -/
def impl_copyStock.f (l0 : List (S106)) : Option ((List (S106))) := (some (([] : List (S106)) : List (S106))).bind fun y209 => (if y209.length + l0.length < 1954687338268 then (some (y209 ++ l0)) else (none))
set_option maxHeartbeats 8000000 in
set_option maxRecDepth 100000 in
theorem impl_copyStock.calls (A0 : Option Addr) (c0 : Nat) (l0 : List (S106)) (r : List (S106)) (w : World) (hr0 : Kd.C k106 w A0 l0.length l0) (hc0 : l0.length ≤ c0) (h : impl_copyStock.f l0 = some r) :
  Calls Try.prog 108 #[.slice A0 l0.length c0] w fun e w' => ∃ v0_ : Value, e = .returned (v0_) ∧ Kd.R k106 106 w' w.heap.size (fun _ => True) v0_ r ∧ Below w.heap.size w w' := by
 have HR0 := Aside0.mk hr0
 have HC0 := Aside0.mk hc0
 clear hr0 hc0
 have HB := Aside0.mk (Below.refl w.heap.size w)
 have H : ((some (([] : List (S106)) : List (S106))).bind fun y209 => (if y209.length + l0.length < 1954687338268 then (some (y209 ++ l0)) else (none))) = some r := h
 clear h
 obtain ⟨y209, hy209⟩ : ∃ y_ : List (S106), y_ = (([] : List (S106))) := ⟨_, rfl⟩
 replace H : (if y209.length + l0.length < 1954687338268 then (some (y209 ++ l0)) else (none)) = some r := by first | (rw [hy209]; with_reducible exact H) | (have H2_ := (Option.bind_some _ _).symm.trans H; rw [hy209]; with_reducible exact H2_) | (have H2_ := (Option.bind_some _ _).symm.trans H; with_reducible exact H2_) | with_reducible exact H | (rw [hy209]; exact H) | exact H
 have Ny209 := Aside0.mk hy209
 clear hy209
 by_cases c2 : y209.length + l0.length < 1954687338268
 case neg => rw [if_neg c2] at H; exact absurd H (by simp)
 rw [if_pos c2] at H
 have LMc2 := Aside0.mk c2
 clear c2
 obtain ⟨y212, hy212⟩ : ∃ y_ : List (S106), y_ = (y209 ++ l0) := ⟨_, rfl⟩
 replace H : (some y212) = some r := by first | (rw [hy212]; with_reducible exact H) | (have H2_ := (Option.bind_some _ _).symm.trans H; rw [hy212]; with_reducible exact H2_) | (have H2_ := (Option.bind_some _ _).symm.trans H; with_reducible exact H2_) | with_reducible exact H | (rw [hy212]; exact H) | exact H
 have Ny212 := Aside0.mk hy212
 clear hy212
 obtain rfl := Option.some.inj H
 go_enter Try.func108, Try.ntmps108
 go_wp2_with (first | ((with_reducible refine qt0 (N := 3) rfl ?_); refine Kd.R_lit k106 _ 106 ?hg (N := 3) ?hd (xs := ([] : List (S106))) (inner := []) (ok := fun _ => True) (okp := fun _ => True) ?hr ?hp (fun _ hk => hk) trivial (Below.refl _ _) (Nat.le_refl _) (by simp) ?_; (case hd => rfl); (case hg => rfl); (case hr => first | (go_simp; done) | (go_simp; rfl)); (case hp => exact (Reps.none _ _)); intro v210 w3 ho4 hb hg_ hnew_; clear hg_ hnew_; (first | rw [← Ny209.out] at ho4 | (simp only [Int.reduceToNat] at ho4; rw [← Ny209.out] at ho4)); have n0_ := Aside0.mk (Kd.qi1 ho4 (qh0 (by repeat (first | (with_reducible first | exact HB.out | apply qc0 | apply qa0 | apply qb0) | exact HB.out)))); have n1_ := Aside0.mk (qf0 (by repeat (first | (with_reducible first | exact HB.out | apply qc0 | apply qa0 | apply qb0) | exact HB.out)) hb); clear HB; have HO211 := n0_; have HB := n1_; clear n0_ n1_; clear hb ho4) | ((with_reducible refine gate_builtin (b := .append) (xs := #[.tmp 3, .tmp 4]) rfl ?_); at_builtin; refine Kd.R_append_rows k106 (w0 := w) w.heap.size rfl (.tmp 3) (.tmp 4) 43 106 (.agg #[(.string ⟨#[]⟩), (.string ⟨#[]⟩), (.string ⟨#[]⟩), (.int .i64 0), (.int .i64 0), (.int .i64 0)]) 72 rfl Try.underlying43 info106 rfl (by decide) (by omega) v210 y209 l0 _ _ _ (fun _ => True) (fun _ => False) rfl rfl ?aO ?aR (fun _ _ h => h) (fun _ h => h.elim) ?aF ?aB ?aS ?aL ?_; (case aR => repeat (first | exact (Kd.qf1 HR0.out HB.out) | (with_reducible refine Kd.qw0 ?_ _) | (with_reducible refine Kd.qv0 ?_ _) | (with_reducible refine Kd.qy0 ?_))); (case aB => exact (by repeat (first | (with_reducible first | exact HB.out | apply qc0 | apply qa0 | apply qb0) | exact HB.out))); (case aF => exact (fun _ _ => trivial)); (case aO => exact (by (with_reducible repeat (first | apply Kd.qm0 | apply Kd.ql0 | apply Kd.qo0)); exact HO211.out)); (case aS => exact (qh0 (by repeat (first | (with_reducible first | exact HB.out | apply qc0 | apply qa0 | apply qb0) | exact HB.out)))); (case aL => have := LMc2.out; omega); intro v213 w5 ho hb hg hat; rw [← Ny212.out] at ho; have n0_ := Aside0.mk (hb); have n1_ := Aside0.mk (ho); clear HB; clear HO211; have HB := n0_; have HO214 := n1_; clear n0_ n1_; clear ho hb hg hat))
 go_ret
 exact ⟨_, by first | rfl | (simp [errW_none, errW_some] <;> rfl) | (simp [*, errW_none, errW_some] <;> rfl), by (with_reducible repeat (first | apply Kd.qm0 | apply Kd.ql0 | apply Kd.qo0)); exact HO214.out, by repeat (first | (with_reducible first | exact HB.out | apply qc0 | apply qa0 | apply qb0) | exact HB.out)⟩

-- NOT PRINTED: function 74 (impl_each)

/-- A state of type 106 at block g of W; what its slices lead to came in by w0. -/
def IsS106 (w0 W : World) (g : Nat) (f0 : ByteArray) (f1 : ByteArray) (f2 : ByteArray) (f3 : Int) (f4 : Int) (f5 : Int) : Prop := W.heap[g]? = some (.cells #[.string f0, .string f1, .string f2, .int .i64 f3, .int .i64 f4, .int .i64 f5] 106 (0, 0)) ∧ w0.heap.size ≤ g
theorem IsS106.grown {w0 W : World} {g : Nat} {f0 : ByteArray} {f1 : ByteArray} {f2 : ByteArray} {f3 : Int} {f4 : Int} {f5 : Int} {W1 : World} {row : Option Nat} (h : IsS106 w0 W g f0 f1 f2 f3 f4 f5) (hw : W.grownBy W1 row) (hne : some g ≠ row) : IsS106 w0 W1 g f0 f1 f2 f3 f4 f5 := by
 obtain ⟨hb, hg⟩ := h
 exact ⟨blk_grown hb hw hne, hg⟩
theorem IsS106.kept {w0 W : World} {g : Nat} {f0 : ByteArray} {f1 : ByteArray} {f2 : ByteArray} {f3 : Int} {f4 : Int} {f5 : Int} {W1 : World} {S : Nat → Prop} (h : IsS106 w0 W g f0 f1 f2 f3 f4 f5) (hk : Kept W W1 S) (hne : ¬ S g) : IsS106 w0 W1 g f0 f1 f2 f3 f4 f5 := by
 obtain ⟨hb, hg⟩ := h
 exact ⟨blk_kept hb hk hne, hg⟩
theorem IsS106.below {w0 W : World} {g : Nat} {f0 : ByteArray} {f1 : ByteArray} {f2 : ByteArray} {f3 : Int} {f4 : Int} {f5 : Int} {W1 : World} (h : IsS106 w0 W g f0 f1 f2 f3 f4 f5) (hw : Below W.heap.size W W1) : IsS106 w0 W1 g f0 f1 f2 f3 f4 f5 := h.grown (grown_of_below hw none) (by simp)
theorem IsS106.alloc {w0 W : World} {g : Nat} {f0 : ByteArray} {f1 : ByteArray} {f2 : ByteArray} {f3 : Int} {f4 : Int} {f5 : Int} (h : IsS106 w0 W g f0 f1 f2 f3 f4 f5) (o : Obj) : IsS106 w0 (W.alloc o) g f0 f1 f2 f3 f4 f5 := h.below (qc0 (Below.refl _ _) o)
theorem IsS106.drewN {w0 W : World} {g : Nat} {f0 : ByteArray} {f1 : ByteArray} {f2 : ByteArray} {f3 : Int} {f4 : Int} {f5 : Int} (h : IsS106 w0 W g f0 f1 f2 f3 f4 f5) (m : Nat) : IsS106 w0 (W.drewN m) g f0 f1 f2 f3 f4 f5 := h
theorem IsS106.drew {w0 W : World} {g : Nat} {f0 : ByteArray} {f1 : ByteArray} {f2 : ByteArray} {f3 : Int} {f4 : Int} {f5 : Int} (h : IsS106 w0 W g f0 f1 f2 f3 f4 f5) : IsS106 w0 W.drew g f0 f1 f2 f3 f4 f5 := h
theorem IsS106.at_ {w0 W : World} {g : Nat} {f0 : ByteArray} {f1 : ByteArray} {f2 : ByteArray} {f3 : Int} {f4 : Int} {f5 : Int} {w' : World} {m : Nat} (hq : W.drewN m = w') (h : IsS106 w0 W g f0 f1 f2 f3 f4 f5) : IsS106 w0 w' g f0 f1 f2 f3 f4 f5 := by subst hq; exact IsS106.drewN h m
theorem IsS106.apart {w0 W : World} {g : Nat} {f0 : ByteArray} {f1 : ByteArray} {f2 : ByteArray} {f3 : Int} {f4 : Int} {f5 : Int} {α : Type} {d : Kd α} {e : Nat} {base : Nat} {ok : Nat → Prop} {v : Value} {xs : List α} (h : IsS106 w0 W g f0 f1 f2 f3 f4 f5) (ho : d.R e W base ok v xs) (ht : ∀ q, q ∈ e :: d.E → q ≠ 106) : d.R e W base (fun k => ok k ∧ k ≠ g) v xs := by
 obtain ⟨hb, hg⟩ := h
 exact Kd.R_types ho hb ht
theorem IsS106.own_ne {w0 W : World} {g : Nat} {f0 : ByteArray} {f1 : ByteArray} {f2 : ByteArray} {f3 : Int} {f4 : Int} {f5 : Int} {α : Type} {d : Kd α} {e : Nat} {base : Nat} {ok : Nat → Prop} {v : Value} {xs : List α} (h : IsS106 w0 W g f0 f1 f2 f3 f4 f5) (ho : d.R e W base ok v xs) (ht : e ≠ 106) : some g ≠ v.ownBlock := by
 obtain ⟨hb, hg⟩ := h
 exact Kd.R_ne ho hb ht
theorem IsS106.lt {w0 W : World} {g : Nat} {f0 : ByteArray} {f1 : ByteArray} {f2 : ByteArray} {f3 : Int} {f4 : Int} {f5 : Int} (h : IsS106 w0 W g f0 f1 f2 f3 f4 f5) : g < W.heap.size := by
 obtain ⟨hb, hg⟩ := h
 exact qg1 hb
theorem IsS106.ge {w0 W : World} {g : Nat} {f0 : ByteArray} {f1 : ByteArray} {f2 : ByteArray} {f3 : Int} {f4 : Int} {f5 : Int} (h : IsS106 w0 W g f0 f1 f2 f3 f4 f5) : w0.heap.size ≤ g := by
 obtain ⟨hb, hg⟩ := h
 exact hg
theorem cellS106_0 {W : World} {g : Nat} {f0 : ByteArray} {f1 : ByteArray} {f2 : ByteArray} {f3 : Int} {f4 : Int} {f5 : Int} (h : W.heap[g]? = some (.cells #[.string f0, .string f1, .string f2, .int .i64 f3, .int .i64 f4, .int .i64 f5] 106 (0, 0))) : W.cell? ⟨g, 0, none⟩ = some (.string f0) := (qe0 h 0).trans rfl
theorem IsS106.set_0 {w0 W : World} {g : Nat} {f0 : ByteArray} {f1 : ByteArray} {f2 : ByteArray} {f3 : Int} {f4 : Int} {f5 : Int} (h : IsS106 w0 W g f0 f1 f2 f3 f4 f5) (x : ByteArray) : IsS106 w0 (W.setCell ⟨g, 0, none⟩ (.string x)) g x f1 f2 f3 f4 f5 := by
 obtain ⟨hb, hg⟩ := h
 exact ⟨by simpa using blk_set hb 0 (.string x), hg⟩
theorem cellS106_1 {W : World} {g : Nat} {f0 : ByteArray} {f1 : ByteArray} {f2 : ByteArray} {f3 : Int} {f4 : Int} {f5 : Int} (h : W.heap[g]? = some (.cells #[.string f0, .string f1, .string f2, .int .i64 f3, .int .i64 f4, .int .i64 f5] 106 (0, 0))) : W.cell? ⟨g, 1, none⟩ = some (.string f1) := (qe0 h 1).trans rfl
theorem IsS106.set_1 {w0 W : World} {g : Nat} {f0 : ByteArray} {f1 : ByteArray} {f2 : ByteArray} {f3 : Int} {f4 : Int} {f5 : Int} (h : IsS106 w0 W g f0 f1 f2 f3 f4 f5) (x : ByteArray) : IsS106 w0 (W.setCell ⟨g, 1, none⟩ (.string x)) g f0 x f2 f3 f4 f5 := by
 obtain ⟨hb, hg⟩ := h
 exact ⟨by simpa using blk_set hb 1 (.string x), hg⟩
theorem cellS106_2 {W : World} {g : Nat} {f0 : ByteArray} {f1 : ByteArray} {f2 : ByteArray} {f3 : Int} {f4 : Int} {f5 : Int} (h : W.heap[g]? = some (.cells #[.string f0, .string f1, .string f2, .int .i64 f3, .int .i64 f4, .int .i64 f5] 106 (0, 0))) : W.cell? ⟨g, 2, none⟩ = some (.string f2) := (qe0 h 2).trans rfl
theorem IsS106.set_2 {w0 W : World} {g : Nat} {f0 : ByteArray} {f1 : ByteArray} {f2 : ByteArray} {f3 : Int} {f4 : Int} {f5 : Int} (h : IsS106 w0 W g f0 f1 f2 f3 f4 f5) (x : ByteArray) : IsS106 w0 (W.setCell ⟨g, 2, none⟩ (.string x)) g f0 f1 x f3 f4 f5 := by
 obtain ⟨hb, hg⟩ := h
 exact ⟨by simpa using blk_set hb 2 (.string x), hg⟩
theorem cellS106_3 {W : World} {g : Nat} {f0 : ByteArray} {f1 : ByteArray} {f2 : ByteArray} {f3 : Int} {f4 : Int} {f5 : Int} (h : W.heap[g]? = some (.cells #[.string f0, .string f1, .string f2, .int .i64 f3, .int .i64 f4, .int .i64 f5] 106 (0, 0))) : W.cell? ⟨g, 3, none⟩ = some (.int .i64 f3) := (qe0 h 3).trans rfl
theorem IsS106.set_3 {w0 W : World} {g : Nat} {f0 : ByteArray} {f1 : ByteArray} {f2 : ByteArray} {f3 : Int} {f4 : Int} {f5 : Int} (h : IsS106 w0 W g f0 f1 f2 f3 f4 f5) (x : Int) : IsS106 w0 (W.setCell ⟨g, 3, none⟩ (.int .i64 x)) g f0 f1 f2 x f4 f5 := by
 obtain ⟨hb, hg⟩ := h
 exact ⟨by simpa using blk_set hb 3 (.int .i64 x), hg⟩
theorem cellS106_4 {W : World} {g : Nat} {f0 : ByteArray} {f1 : ByteArray} {f2 : ByteArray} {f3 : Int} {f4 : Int} {f5 : Int} (h : W.heap[g]? = some (.cells #[.string f0, .string f1, .string f2, .int .i64 f3, .int .i64 f4, .int .i64 f5] 106 (0, 0))) : W.cell? ⟨g, 4, none⟩ = some (.int .i64 f4) := (qe0 h 4).trans rfl
theorem IsS106.set_4 {w0 W : World} {g : Nat} {f0 : ByteArray} {f1 : ByteArray} {f2 : ByteArray} {f3 : Int} {f4 : Int} {f5 : Int} (h : IsS106 w0 W g f0 f1 f2 f3 f4 f5) (x : Int) : IsS106 w0 (W.setCell ⟨g, 4, none⟩ (.int .i64 x)) g f0 f1 f2 f3 x f5 := by
 obtain ⟨hb, hg⟩ := h
 exact ⟨by simpa using blk_set hb 4 (.int .i64 x), hg⟩
theorem cellS106_5 {W : World} {g : Nat} {f0 : ByteArray} {f1 : ByteArray} {f2 : ByteArray} {f3 : Int} {f4 : Int} {f5 : Int} (h : W.heap[g]? = some (.cells #[.string f0, .string f1, .string f2, .int .i64 f3, .int .i64 f4, .int .i64 f5] 106 (0, 0))) : W.cell? ⟨g, 5, none⟩ = some (.int .i64 f5) := (qe0 h 5).trans rfl
theorem IsS106.set_5 {w0 W : World} {g : Nat} {f0 : ByteArray} {f1 : ByteArray} {f2 : ByteArray} {f3 : Int} {f4 : Int} {f5 : Int} (h : IsS106 w0 W g f0 f1 f2 f3 f4 f5) (x : Int) : IsS106 w0 (W.setCell ⟨g, 5, none⟩ (.int .i64 x)) g f0 f1 f2 f3 f4 x := by
 obtain ⟨hb, hg⟩ := h
 exact ⟨by simpa using blk_set hb 5 (.int .i64 x), hg⟩
/-! ### impl_Hold_1: function 75 -/
def impl_Hold_1.f (s0_0 : ByteArray) (s0_1 : ByteArray) (s0_2 : ByteArray) (s0_3 : Int) (s0_4 : Int) (s0_5 : Int) (a1 : Int) : Option (Bool × ByteArray × ByteArray × ByteArray × Int × Int × Int) := some (decide ((wrap64 (s0_5 + a1)) ≤ s0_4), s0_0, s0_1, s0_2, s0_3, s0_4, wrap64 (s0_5 + a1))
set_option maxHeartbeats 8000000 in
set_option maxRecDepth 100000 in
theorem impl_Hold_1.calls (g : Nat) (s0_0 : ByteArray) (s0_1 : ByteArray) (s0_2 : ByteArray) (s0_3 : Int) (s0_4 : Int) (s0_5 : Int) (a1 : Int) (r1 : Bool) (r2 : ByteArray) (r3 : ByteArray) (r4 : ByteArray) (r5 : Int) (r6 : Int) (r7 : Int) (w0 w : World) (hI : IsS106 w0 w g s0_0 s0_1 s0_2 s0_3 s0_4 s0_5) (hB : Below w0.heap.size w0 w) (h : impl_Hold_1.f s0_0 s0_1 s0_2 s0_3 s0_4 s0_5 a1 = some (r1, r2, r3, r4, r5, r6, r7)) :
  Calls Try.prog 75 #[.pointer (some ⟨g, 0, none⟩), .int .i64 a1] w fun e w' => e = .returned (.bool r1) ∧ IsS106 w0 w' g r2 r3 r4 r5 r6 r7 ∧ Below w0.heap.size w0 w' ∧ qe1 w w' g none := by
 have HI0 := Aside0.mk hI
 have HK := Aside0.mk (qe1.refl w g none)
 have HL := Aside0.mk hB.size
 clear hI
 have HW0 := Aside0.mk hB.size
 have HB := Aside0.mk hB
 clear hB
 have H : (some (decide ((wrap64 (s0_5 + a1)) ≤ s0_4), s0_0, s0_1, s0_2, s0_3, s0_4, wrap64 (s0_5 + a1))) = some (r1, r2, r3, r4, r5, r6, r7) := h
 clear h
 simp only [Option.some.injEq, Prod.mk.injEq] at H
 obtain ⟨rfl, rfl, rfl, rfl, rfl, rfl, rfl⟩ := H
 obtain ⟨HGz3, hgz3⟩ := HI0.out
 have hcz3_0 := cellS106_0 HGz3
 have hcz3_1 := cellS106_1 HGz3
 have hcz3_2 := cellS106_2 HGz3
 have hcz3_3 := cellS106_3 HGz3
 have hcz3_4 := cellS106_4 HGz3
 have hcz3_5 := cellS106_5 HGz3
 have hfz3_0 := qd0 HGz3 0
 have hfz3_1 := qd0 HGz3 1
 have hfz3_2 := qd0 HGz3 2
 have hfz3_3 := qd0 HGz3 3
 have hfz3_4 := qd0 HGz3 4
 have hfz3_5 := qd0 HGz3 5
 clear HGz3 hgz3
 go_enter Try.func75, Try.ntmps75
 go_wp2
 repeat (go_quiet (fail); try go_wp2)
 go_ret
 exact ⟨by first | rfl | (simp [errW_none, errW_some] <;> rfl) | (simp [*, errW_none, errW_some] <;> rfl), by repeat (first | (with_reducible first | exact HI0.out | apply IsS106.alloc | apply IsS106.drewN | apply IsS106.drew | apply IsS106.set_0 | apply IsS106.set_1 | apply IsS106.set_2 | apply IsS106.set_3 | apply IsS106.set_4 | apply IsS106.set_5) | exact HI0.out), by repeat (first | (with_reducible first | exact HB.out | apply qc0 | apply qa0 | apply qb0 | refine qg0 ?_ (IsS106.ge HI0.out)) | exact HB.out), by repeat (first | (with_reducible first | exact HK.out | apply qe1.set_ | apply keep_drewN | apply keep_drew | apply keep_alloc) | exact HK.out)⟩

end Go.Proofs.Ytdnenglafphkbaa.PFnExactHold
