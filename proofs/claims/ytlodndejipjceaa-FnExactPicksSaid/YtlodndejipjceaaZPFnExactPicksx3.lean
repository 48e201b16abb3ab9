/- Lines by a program (a changed copy of the kit's print: this repo's wip/tools): Go functions as Lean functions, and proofs that the calls answer so. -/
import Derived.Test.YtlodndejipjceaaZPFnExactPicksx0
import Derived.Test.YtlodndejipjceaaZPFnExactPicksx1
import Derived.Test.YtlodndejipjceaaZPFnExactPicksx2
namespace Go.Proofs.Ytlodndejipjceaa.PFnExactPicks
open Go.RowKit Go.Proofs.YtlodndejipjceaaW.PrintWords Go.Proofs.YtlodndejipjceaaW.PrintLast Go.Proofs.YtlodndejipjceaaW.PrintMore
attribute [local go_sem] max2_int min2_int max_two min_two max_three min_three max_four min_four   -- for this text's walks alone
set_option linter.unusedVariables false
set_option linter.unusedSimpArgs false

/-! ### spec_l15Cell: function 169 -/
def spec_l15Cell.f (k : Nat) (a0_0 : ByteArray) (a0_1 : ByteArray) (a0_2 : ByteArray) (a0_3 : Int) (a0_4 : Int) (a0_5 : Int) : Option (Bool) := (spec_NameOk.f k a0_0).bind fun t109 => (if t109 = true then ((spec_NameOk.f k a0_1).bind fun t110 => (if t110 = true then (if a0_2.toList = ([] : List UInt8) then ((spec_l2Day.f a0_3).bind fun t111 => (if t111 = true then ((spec_l12Qty.f a0_4).bind fun t112 => (if t112 = true then ((spec_l1In.f a0_5 0 a0_4).bind fun t113 => (some t113)) else (some false))) else (some false))) else ((spec_NameOk.f k a0_2).bind fun t114 => (if t114 = true then ((spec_l2Day.f a0_3).bind fun t115 => (if t115 = true then ((spec_l12Qty.f a0_4).bind fun t116 => (if t116 = true then ((spec_l1In.f a0_5 0 a0_4).bind fun t117 => (some t117)) else (some false))) else (some false))) else (some false)))) else (some false))) else (some false))
theorem spec_l15Cell.mono : ∀ a0 a1 a2 a3 a4 a5 k, LeO (spec_l15Cell.f k a0 a1 a2 a3 a4 a5) (spec_l15Cell.f (k + 1) a0 a1 a2 a3 a4 a5) := by
 intro a0 a1 a2 a3 a4 a5 k
 unfold spec_l15Cell.f
 repeat' first
   | (with_reducible exact spec_NameOk.mono _ _)
   | (with_reducible exact LeO.refl _)
   | (with_reducible exact LeO.none _)
   | (with_reducible refine LeO.ite ?_ ?_)
   | (with_reducible refine LeO.bind ?_ (fun _ => ?_))
   | exact spec_NameOk.mono _ _
   | exact LeO.none _
   | refine LeO.ite ?_ ?_
   | refine LeO.bind ?_ (fun _ => ?_)
set_option maxHeartbeats 8000000 in
set_option maxRecDepth 100000 in
theorem spec_l15Cell.calls (k : Nat) (a0_0 : ByteArray) (a0_1 : ByteArray) (a0_2 : ByteArray) (a0_3 : Int) (a0_4 : Int) (a0_5 : Int) (r : Bool) (w : World) (h : spec_l15Cell.f k a0_0 a0_1 a0_2 a0_3 a0_4 a0_5 = some r) :
  Calls Try.prog 169 #[.agg #[.string a0_0, .string a0_1, .string a0_2, .int .i64 a0_3, .int .i64 a0_4, .int .i64 a0_5]] w fun e w' => e = .returned (.bool r) ∧ Below w.heap.size w w' := by
 have hu160 := Try.underlying160
 have HB := Aside0.mk (Below.refl w.heap.size w)
 have H : ((spec_NameOk.f k a0_0).bind fun t109 => (if t109 = true then ((spec_NameOk.f k a0_1).bind fun t110 => (if t110 = true then (if a0_2.toList = ([] : List UInt8) then ((spec_l2Day.f a0_3).bind fun t111 => (if t111 = true then ((spec_l12Qty.f a0_4).bind fun t112 => (if t112 = true then ((spec_l1In.f a0_5 0 a0_4).bind fun t113 => (some t113)) else (some false))) else (some false))) else ((spec_NameOk.f k a0_2).bind fun t114 => (if t114 = true then ((spec_l2Day.f a0_3).bind fun t115 => (if t115 = true then ((spec_l12Qty.f a0_4).bind fun t116 => (if t116 = true then ((spec_l1In.f a0_5 0 a0_4).bind fun t117 => (some t117)) else (some false))) else (some false))) else (some false)))) else (some false))) else (some false))) = some r := h
 clear h
 replace H := Option.bind_eq_some_iff.mp H
 obtain ⟨t109, A20, H⟩ := H
 replace H : (if t109 = true then ((spec_NameOk.f k a0_1).bind fun t110 => (if t110 = true then (if a0_2.toList = ([] : List UInt8) then ((spec_l2Day.f a0_3).bind fun t111 => (if t111 = true then ((spec_l12Qty.f a0_4).bind fun t112 => (if t112 = true then ((spec_l1In.f a0_5 0 a0_4).bind fun t113 => (some t113)) else (some false))) else (some false))) else ((spec_NameOk.f k a0_2).bind fun t114 => (if t114 = true then ((spec_l2Day.f a0_3).bind fun t115 => (if t115 = true then ((spec_l12Qty.f a0_4).bind fun t116 => (if t116 = true then ((spec_l1In.f a0_5 0 a0_4).bind fun t117 => (some t117)) else (some false))) else (some false))) else (some false)))) else (some false))) else (some false)) = some r := H
 have A2 := Aside0.mk A20
 clear A20
 by_cases c3 : t109 = true
 ·subst c3
  have H1 : ((spec_NameOk.f k a0_1).bind fun t110 => (if t110 = true then (if a0_2.toList = ([] : List UInt8) then ((spec_l2Day.f a0_3).bind fun t111 => (if t111 = true then ((spec_l12Qty.f a0_4).bind fun t112 => (if t112 = true then ((spec_l1In.f a0_5 0 a0_4).bind fun t113 => (some t113)) else (some false))) else (some false))) else ((spec_NameOk.f k a0_2).bind fun t114 => (if t114 = true then ((spec_l2Day.f a0_3).bind fun t115 => (if t115 = true then ((spec_l12Qty.f a0_4).bind fun t116 => (if t116 = true then ((spec_l1In.f a0_5 0 a0_4).bind fun t117 => (some t117)) else (some false))) else (some false))) else (some false)))) else (some false))) = some r := by rw [if_pos rfl] at H; exact H
  clear H
  have H := H1
  clear H1
  replace H := Option.bind_eq_some_iff.mp H
  obtain ⟨t110, A40, H⟩ := H
  replace H : (if t110 = true then (if a0_2.toList = ([] : List UInt8) then ((spec_l2Day.f a0_3).bind fun t111 => (if t111 = true then ((spec_l12Qty.f a0_4).bind fun t112 => (if t112 = true then ((spec_l1In.f a0_5 0 a0_4).bind fun t113 => (some t113)) else (some false))) else (some false))) else ((spec_NameOk.f k a0_2).bind fun t114 => (if t114 = true then ((spec_l2Day.f a0_3).bind fun t115 => (if t115 = true then ((spec_l12Qty.f a0_4).bind fun t116 => (if t116 = true then ((spec_l1In.f a0_5 0 a0_4).bind fun t117 => (some t117)) else (some false))) else (some false))) else (some false)))) else (some false)) = some r := H
  have A4 := Aside0.mk A40
  clear A40
  by_cases c5 : t110 = true
  ·subst c5
   have H1 : (if a0_2.toList = ([] : List UInt8) then ((spec_l2Day.f a0_3).bind fun t111 => (if t111 = true then ((spec_l12Qty.f a0_4).bind fun t112 => (if t112 = true then ((spec_l1In.f a0_5 0 a0_4).bind fun t113 => (some t113)) else (some false))) else (some false))) else ((spec_NameOk.f k a0_2).bind fun t114 => (if t114 = true then ((spec_l2Day.f a0_3).bind fun t115 => (if t115 = true then ((spec_l12Qty.f a0_4).bind fun t116 => (if t116 = true then ((spec_l1In.f a0_5 0 a0_4).bind fun t117 => (some t117)) else (some false))) else (some false))) else (some false)))) = some r := by rw [if_pos rfl] at H; exact H
   clear H
   have H := H1
   clear H1
   by_cases c6 : a0_2.toList = ([] : List UInt8)
   ·rw [if_pos c6] at H
    have c6b0 : (a0_2.toList == ([] : List UInt8)) = true := beq_iff_eq.mpr c6
    have c6b1 : (a0_2.toList != ([] : List UInt8)) = false := bne_eq_false_iff_eq.mpr c6
    clear c6
    replace H := Option.bind_eq_some_iff.mp H
    obtain ⟨t111, A70, H⟩ := H
    replace H : (if t111 = true then ((spec_l12Qty.f a0_4).bind fun t112 => (if t112 = true then ((spec_l1In.f a0_5 0 a0_4).bind fun t113 => (some t113)) else (some false))) else (some false)) = some r := H
    have A7 := Aside0.mk A70
    clear A70
    by_cases c8 : t111 = true
    ·subst c8
     have H1 : ((spec_l12Qty.f a0_4).bind fun t112 => (if t112 = true then ((spec_l1In.f a0_5 0 a0_4).bind fun t113 => (some t113)) else (some false))) = some r := by rw [if_pos rfl] at H; exact H
     clear H
     have H := H1
     clear H1
     replace H := Option.bind_eq_some_iff.mp H
     obtain ⟨t112, A90, H⟩ := H
     replace H : (if t112 = true then ((spec_l1In.f a0_5 0 a0_4).bind fun t113 => (some t113)) else (some false)) = some r := H
     have A9 := Aside0.mk A90
     clear A90
     by_cases c10 : t112 = true
     ·subst c10
      have H1 : ((spec_l1In.f a0_5 0 a0_4).bind fun t113 => (some t113)) = some r := by rw [if_pos rfl] at H; exact H
      clear H
      have H := H1
      clear H1
      replace H := Option.bind_eq_some_iff.mp H
      obtain ⟨t113, A110, H⟩ := H
      replace H : (some t113) = some r := H
      have A11 := Aside0.mk A110
      clear A110
      obtain rfl := Option.some.inj H
      go_enter Try.func169, Try.ntmps169
      go_wp2_with (first | ((with_reducible refine qs0 (N := 1) rfl ?_); refine qt0 ?hg (N := 1) ?hd (cs := #[.string a0_0, .string a0_1, .string a0_2, .int .i64 a0_3, .int .i64 a0_4, .int .i64 a0_5]) (t := 160) ?hr ?_; (case hd => rfl); (case hg => rfl); (case hr => first | (go_simp; done) | (go_simp; rfl)); intro gb108 hg w12 hbox hb; have n0_ := Aside0.mk (qm0 (by repeat (first | (with_reducible first | exact HB.out | apply qc0 | apply qa0 | apply qb0) | exact HB.out)) hb); have n1_ := Aside0.mk (hbox); have n2_ := Aside0.mk ((by rw [hg]; exact (qi0 (by repeat (first | (with_reducible first | exact HB.out | apply qc0 | apply qa0 | apply qb0) | exact HB.out))) : w.heap.size ≤ gb108)); have n3_ := Aside0.mk ((by rw [hg]; exact (qi0 (by repeat (first | (with_reducible first | exact HB.out | apply qc0 | apply qa0 | apply qb0) | exact HB.out))) : w.heap.size ≤ gb108)); clear HB; have HB := n0_; have BK108 := n1_; have GW108 := n2_; have GE108 := n3_; clear n0_ n1_ n2_ n3_; clear hb hbox hg; have hcz13_0 : w12.cell? ⟨gb108, 0, none⟩ = some (.string a0_0) := (qe0 BK108.out 0).trans rfl; have hcz13_1 : w12.cell? ⟨gb108, 1, none⟩ = some (.string a0_1) := (qe0 BK108.out 1).trans rfl; have hcz13_2 : w12.cell? ⟨gb108, 2, none⟩ = some (.string a0_2) := (qe0 BK108.out 2).trans rfl; have hcz13_3 : w12.cell? ⟨gb108, 3, none⟩ = some (.int .i64 a0_3) := (qe0 BK108.out 3).trans rfl; have hcz13_4 : w12.cell? ⟨gb108, 4, none⟩ = some (.int .i64 a0_4) := (qe0 BK108.out 4).trans rfl; have hcz13_5 : w12.cell? ⟨gb108, 5, none⟩ = some (.int .i64 a0_5) := (qe0 BK108.out 5).trans rfl; have hfz13_0 := qd0 BK108.out 0; have hfz13_1 := qd0 BK108.out 1; have hfz13_2 := qd0 BK108.out 2; have hfz13_3 := qd0 BK108.out 3; have hfz13_4 := qd0 BK108.out 4; have hfz13_5 := qd0 BK108.out 5) | ((with_reducible refine qp0 (f := 191) rfl ?_); refine qy0 (some 5) rfl rfl Try.func191 (by kernel_rfl) rfl #[.string a0_0] rfl (by (try simp only [List.map_toArray, List.map_cons, List.map_nil]); first | done | rfl | (simp only [List.length_drop, List.length_take]; rfl)) ?_; (with_reducible refine (spec_NameOk.calls k a0_0 true _ A2.out).mono ?_); rintro e w' ⟨rfl, ⟨nd, rfl⟩⟩; refine ⟨_, rfl, ?_⟩) | (go_at_call 191; (with_reducible refine (spec_NameOk.calls k a0_1 true _ A4.out).mono ?_); rintro e w' ⟨rfl, ⟨nd, rfl⟩⟩) | (go_at_call 89; (with_reducible refine (spec_l2Day.calls a0_3 true _ A7.out).mono ?_); rintro e w' ⟨rfl, ⟨nd, rfl⟩⟩) | (go_at_call 183; (with_reducible refine (spec_l12Qty.calls a0_4 true _ A9.out).mono ?_); rintro e w' ⟨rfl, ⟨nd, rfl⟩⟩) | (go_at_call 90; (with_reducible refine (spec_l1In.calls a0_5 0 a0_4 t113 _ A11.out).mono ?_); rintro e w' ⟨rfl, ⟨nd, rfl⟩⟩))
      go_ret
      exact ⟨by first | rfl | (simp [errW_none, errW_some] <;> rfl) | (simp [*, errW_none, errW_some] <;> rfl), by repeat (first | (with_reducible first | exact HB.out | apply qc0 | apply qa0 | apply qb0 | refine qh0 ?_ GE108.out) | exact HB.out)⟩
     replace c10 := Bool.eq_false_iff.mpr c10
     subst c10
     have H1 : (some false) = some r := by rw [if_neg (show ¬ (false = true) by decide)] at H; exact H
     clear H
     have H := H1
     clear H1
     obtain rfl := Option.some.inj H
     go_enter Try.func169, Try.ntmps169
     go_wp2_with (first | ((with_reducible refine qs0 (N := 1) rfl ?_); refine qt0 ?hg (N := 1) ?hd (cs := #[.string a0_0, .string a0_1, .string a0_2, .int .i64 a0_3, .int .i64 a0_4, .int .i64 a0_5]) (t := 160) ?hr ?_; (case hd => rfl); (case hg => rfl); (case hr => first | (go_simp; done) | (go_simp; rfl)); intro gb108 hg w14 hbox hb; have n0_ := Aside0.mk (qm0 (by repeat (first | (with_reducible first | exact HB.out | apply qc0 | apply qa0 | apply qb0) | exact HB.out)) hb); have n1_ := Aside0.mk (hbox); have n2_ := Aside0.mk ((by rw [hg]; exact (qi0 (by repeat (first | (with_reducible first | exact HB.out | apply qc0 | apply qa0 | apply qb0) | exact HB.out))) : w.heap.size ≤ gb108)); have n3_ := Aside0.mk ((by rw [hg]; exact (qi0 (by repeat (first | (with_reducible first | exact HB.out | apply qc0 | apply qa0 | apply qb0) | exact HB.out))) : w.heap.size ≤ gb108)); clear HB; have HB := n0_; have BK108 := n1_; have GW108 := n2_; have GE108 := n3_; clear n0_ n1_ n2_ n3_; clear hb hbox hg; have hcz15_0 : w14.cell? ⟨gb108, 0, none⟩ = some (.string a0_0) := (qe0 BK108.out 0).trans rfl; have hcz15_1 : w14.cell? ⟨gb108, 1, none⟩ = some (.string a0_1) := (qe0 BK108.out 1).trans rfl; have hcz15_2 : w14.cell? ⟨gb108, 2, none⟩ = some (.string a0_2) := (qe0 BK108.out 2).trans rfl; have hcz15_3 : w14.cell? ⟨gb108, 3, none⟩ = some (.int .i64 a0_3) := (qe0 BK108.out 3).trans rfl; have hcz15_4 : w14.cell? ⟨gb108, 4, none⟩ = some (.int .i64 a0_4) := (qe0 BK108.out 4).trans rfl; have hcz15_5 : w14.cell? ⟨gb108, 5, none⟩ = some (.int .i64 a0_5) := (qe0 BK108.out 5).trans rfl; have hfz15_0 := qd0 BK108.out 0; have hfz15_1 := qd0 BK108.out 1; have hfz15_2 := qd0 BK108.out 2; have hfz15_3 := qd0 BK108.out 3; have hfz15_4 := qd0 BK108.out 4; have hfz15_5 := qd0 BK108.out 5) | ((with_reducible refine qp0 (f := 191) rfl ?_); refine qy0 (some 5) rfl rfl Try.func191 (by kernel_rfl) rfl #[.string a0_0] rfl (by (try simp only [List.map_toArray, List.map_cons, List.map_nil]); first | done | rfl | (simp only [List.length_drop, List.length_take]; rfl)) ?_; (with_reducible refine (spec_NameOk.calls k a0_0 true _ A2.out).mono ?_); rintro e w' ⟨rfl, ⟨nd, rfl⟩⟩; refine ⟨_, rfl, ?_⟩) | (go_at_call 191; (with_reducible refine (spec_NameOk.calls k a0_1 true _ A4.out).mono ?_); rintro e w' ⟨rfl, ⟨nd, rfl⟩⟩) | (go_at_call 89; (with_reducible refine (spec_l2Day.calls a0_3 true _ A7.out).mono ?_); rintro e w' ⟨rfl, ⟨nd, rfl⟩⟩) | (go_at_call 183; (with_reducible refine (spec_l12Qty.calls a0_4 false _ A9.out).mono ?_); rintro e w' ⟨rfl, ⟨nd, rfl⟩⟩))
     go_ret
     exact ⟨by first | rfl | (simp [errW_none, errW_some] <;> rfl) | (simp [*, errW_none, errW_some] <;> rfl), by repeat (first | (with_reducible first | exact HB.out | apply qc0 | apply qa0 | apply qb0 | refine qh0 ?_ GE108.out) | exact HB.out)⟩
    replace c8 := Bool.eq_false_iff.mpr c8
    subst c8
    have H1 : (some false) = some r := by rw [if_neg (show ¬ (false = true) by decide)] at H; exact H
    clear H
    have H := H1
    clear H1
    obtain rfl := Option.some.inj H
    go_enter Try.func169, Try.ntmps169
    go_wp2_with (first | ((with_reducible refine qs0 (N := 1) rfl ?_); refine qt0 ?hg (N := 1) ?hd (cs := #[.string a0_0, .string a0_1, .string a0_2, .int .i64 a0_3, .int .i64 a0_4, .int .i64 a0_5]) (t := 160) ?hr ?_; (case hd => rfl); (case hg => rfl); (case hr => first | (go_simp; done) | (go_simp; rfl)); intro gb108 hg w16 hbox hb; have n0_ := Aside0.mk (qm0 (by repeat (first | (with_reducible first | exact HB.out | apply qc0 | apply qa0 | apply qb0) | exact HB.out)) hb); have n1_ := Aside0.mk (hbox); have n2_ := Aside0.mk ((by rw [hg]; exact (qi0 (by repeat (first | (with_reducible first | exact HB.out | apply qc0 | apply qa0 | apply qb0) | exact HB.out))) : w.heap.size ≤ gb108)); have n3_ := Aside0.mk ((by rw [hg]; exact (qi0 (by repeat (first | (with_reducible first | exact HB.out | apply qc0 | apply qa0 | apply qb0) | exact HB.out))) : w.heap.size ≤ gb108)); clear HB; have HB := n0_; have BK108 := n1_; have GW108 := n2_; have GE108 := n3_; clear n0_ n1_ n2_ n3_; clear hb hbox hg; have hcz17_0 : w16.cell? ⟨gb108, 0, none⟩ = some (.string a0_0) := (qe0 BK108.out 0).trans rfl; have hcz17_1 : w16.cell? ⟨gb108, 1, none⟩ = some (.string a0_1) := (qe0 BK108.out 1).trans rfl; have hcz17_2 : w16.cell? ⟨gb108, 2, none⟩ = some (.string a0_2) := (qe0 BK108.out 2).trans rfl; have hcz17_3 : w16.cell? ⟨gb108, 3, none⟩ = some (.int .i64 a0_3) := (qe0 BK108.out 3).trans rfl; have hcz17_4 : w16.cell? ⟨gb108, 4, none⟩ = some (.int .i64 a0_4) := (qe0 BK108.out 4).trans rfl; have hcz17_5 : w16.cell? ⟨gb108, 5, none⟩ = some (.int .i64 a0_5) := (qe0 BK108.out 5).trans rfl; have hfz17_0 := qd0 BK108.out 0; have hfz17_1 := qd0 BK108.out 1; have hfz17_2 := qd0 BK108.out 2; have hfz17_3 := qd0 BK108.out 3; have hfz17_4 := qd0 BK108.out 4; have hfz17_5 := qd0 BK108.out 5) | ((with_reducible refine qp0 (f := 191) rfl ?_); refine qy0 (some 5) rfl rfl Try.func191 (by kernel_rfl) rfl #[.string a0_0] rfl (by (try simp only [List.map_toArray, List.map_cons, List.map_nil]); first | done | rfl | (simp only [List.length_drop, List.length_take]; rfl)) ?_; (with_reducible refine (spec_NameOk.calls k a0_0 true _ A2.out).mono ?_); rintro e w' ⟨rfl, ⟨nd, rfl⟩⟩; refine ⟨_, rfl, ?_⟩) | (go_at_call 191; (with_reducible refine (spec_NameOk.calls k a0_1 true _ A4.out).mono ?_); rintro e w' ⟨rfl, ⟨nd, rfl⟩⟩) | (go_at_call 89; (with_reducible refine (spec_l2Day.calls a0_3 false _ A7.out).mono ?_); rintro e w' ⟨rfl, ⟨nd, rfl⟩⟩))
    go_ret
    exact ⟨by first | rfl | (simp [errW_none, errW_some] <;> rfl) | (simp [*, errW_none, errW_some] <;> rfl), by repeat (first | (with_reducible first | exact HB.out | apply qc0 | apply qa0 | apply qb0 | refine qh0 ?_ GE108.out) | exact HB.out)⟩
   rw [if_neg c6] at H
   have c6b0 : (a0_2.toList == ([] : List UInt8)) = false := beq_eq_false_iff_ne.mpr c6
   have c6b1 : (a0_2.toList != ([] : List UInt8)) = true := bne_iff_ne.mpr c6
   replace H := Option.bind_eq_some_iff.mp H
   obtain ⟨t114, A180, H⟩ := H
   replace H : (if t114 = true then ((spec_l2Day.f a0_3).bind fun t115 => (if t115 = true then ((spec_l12Qty.f a0_4).bind fun t116 => (if t116 = true then ((spec_l1In.f a0_5 0 a0_4).bind fun t117 => (some t117)) else (some false))) else (some false))) else (some false)) = some r := H
   have A18 := Aside0.mk A180
   clear A180
   by_cases c19 : t114 = true
   ·subst c19
    have H1 : ((spec_l2Day.f a0_3).bind fun t115 => (if t115 = true then ((spec_l12Qty.f a0_4).bind fun t116 => (if t116 = true then ((spec_l1In.f a0_5 0 a0_4).bind fun t117 => (some t117)) else (some false))) else (some false))) = some r := by rw [if_pos rfl] at H; exact H
    clear H
    have H := H1
    clear H1
    replace H := Option.bind_eq_some_iff.mp H
    obtain ⟨t115, A200, H⟩ := H
    replace H : (if t115 = true then ((spec_l12Qty.f a0_4).bind fun t116 => (if t116 = true then ((spec_l1In.f a0_5 0 a0_4).bind fun t117 => (some t117)) else (some false))) else (some false)) = some r := H
    have A20 := Aside0.mk A200
    clear A200
    by_cases c21 : t115 = true
    ·subst c21
     have H1 : ((spec_l12Qty.f a0_4).bind fun t116 => (if t116 = true then ((spec_l1In.f a0_5 0 a0_4).bind fun t117 => (some t117)) else (some false))) = some r := by rw [if_pos rfl] at H; exact H
     clear H
     have H := H1
     clear H1
     replace H := Option.bind_eq_some_iff.mp H
     obtain ⟨t116, A220, H⟩ := H
     replace H : (if t116 = true then ((spec_l1In.f a0_5 0 a0_4).bind fun t117 => (some t117)) else (some false)) = some r := H
     have A22 := Aside0.mk A220
     clear A220
     by_cases c23 : t116 = true
     ·subst c23
      have H1 : ((spec_l1In.f a0_5 0 a0_4).bind fun t117 => (some t117)) = some r := by rw [if_pos rfl] at H; exact H
      clear H
      have H := H1
      clear H1
      replace H := Option.bind_eq_some_iff.mp H
      obtain ⟨t117, A240, H⟩ := H
      replace H : (some t117) = some r := H
      have A24 := Aside0.mk A240
      clear A240
      obtain rfl := Option.some.inj H
      go_enter Try.func169, Try.ntmps169
      go_wp2_with (first | ((with_reducible refine qs0 (N := 1) rfl ?_); refine qt0 ?hg (N := 1) ?hd (cs := #[.string a0_0, .string a0_1, .string a0_2, .int .i64 a0_3, .int .i64 a0_4, .int .i64 a0_5]) (t := 160) ?hr ?_; (case hd => rfl); (case hg => rfl); (case hr => first | (go_simp; done) | (go_simp; rfl)); intro gb108 hg w25 hbox hb; have n0_ := Aside0.mk (qm0 (by repeat (first | (with_reducible first | exact HB.out | apply qc0 | apply qa0 | apply qb0) | exact HB.out)) hb); have n1_ := Aside0.mk (hbox); have n2_ := Aside0.mk ((by rw [hg]; exact (qi0 (by repeat (first | (with_reducible first | exact HB.out | apply qc0 | apply qa0 | apply qb0) | exact HB.out))) : w.heap.size ≤ gb108)); have n3_ := Aside0.mk ((by rw [hg]; exact (qi0 (by repeat (first | (with_reducible first | exact HB.out | apply qc0 | apply qa0 | apply qb0) | exact HB.out))) : w.heap.size ≤ gb108)); clear HB; have HB := n0_; have BK108 := n1_; have GW108 := n2_; have GE108 := n3_; clear n0_ n1_ n2_ n3_; clear hb hbox hg; have hcz26_0 : w25.cell? ⟨gb108, 0, none⟩ = some (.string a0_0) := (qe0 BK108.out 0).trans rfl; have hcz26_1 : w25.cell? ⟨gb108, 1, none⟩ = some (.string a0_1) := (qe0 BK108.out 1).trans rfl; have hcz26_2 : w25.cell? ⟨gb108, 2, none⟩ = some (.string a0_2) := (qe0 BK108.out 2).trans rfl; have hcz26_3 : w25.cell? ⟨gb108, 3, none⟩ = some (.int .i64 a0_3) := (qe0 BK108.out 3).trans rfl; have hcz26_4 : w25.cell? ⟨gb108, 4, none⟩ = some (.int .i64 a0_4) := (qe0 BK108.out 4).trans rfl; have hcz26_5 : w25.cell? ⟨gb108, 5, none⟩ = some (.int .i64 a0_5) := (qe0 BK108.out 5).trans rfl; have hfz26_0 := qd0 BK108.out 0; have hfz26_1 := qd0 BK108.out 1; have hfz26_2 := qd0 BK108.out 2; have hfz26_3 := qd0 BK108.out 3; have hfz26_4 := qd0 BK108.out 4; have hfz26_5 := qd0 BK108.out 5) | ((with_reducible refine qp0 (f := 191) rfl ?_); refine qy0 (some 5) rfl rfl Try.func191 (by kernel_rfl) rfl #[.string a0_0] rfl (by (try simp only [List.map_toArray, List.map_cons, List.map_nil]); first | done | rfl | (simp only [List.length_drop, List.length_take]; rfl)) ?_; (with_reducible refine (spec_NameOk.calls k a0_0 true _ A2.out).mono ?_); rintro e w' ⟨rfl, ⟨nd, rfl⟩⟩; refine ⟨_, rfl, ?_⟩) | (go_at_call 191; (with_reducible refine (spec_NameOk.calls k a0_1 true _ A4.out).mono ?_); rintro e w' ⟨rfl, ⟨nd, rfl⟩⟩) | (go_at_call 191; (with_reducible refine (spec_NameOk.calls k a0_2 true _ A18.out).mono ?_); rintro e w' ⟨rfl, ⟨nd, rfl⟩⟩) | (go_at_call 89; (with_reducible refine (spec_l2Day.calls a0_3 true _ A20.out).mono ?_); rintro e w' ⟨rfl, ⟨nd, rfl⟩⟩) | (go_at_call 183; (with_reducible refine (spec_l12Qty.calls a0_4 true _ A22.out).mono ?_); rintro e w' ⟨rfl, ⟨nd, rfl⟩⟩) | (go_at_call 90; (with_reducible refine (spec_l1In.calls a0_5 0 a0_4 t117 _ A24.out).mono ?_); rintro e w' ⟨rfl, ⟨nd, rfl⟩⟩))
      go_ret
      exact ⟨by first | rfl | (simp [errW_none, errW_some] <;> rfl) | (simp [*, errW_none, errW_some] <;> rfl), by repeat (first | (with_reducible first | exact HB.out | apply qc0 | apply qa0 | apply qb0 | refine qh0 ?_ GE108.out) | exact HB.out)⟩
     replace c23 := Bool.eq_false_iff.mpr c23
     subst c23
     have H1 : (some false) = some r := by rw [if_neg (show ¬ (false = true) by decide)] at H; exact H
     clear H
     have H := H1
     clear H1
     obtain rfl := Option.some.inj H
     go_enter Try.func169, Try.ntmps169
     go_wp2_with (first | ((with_reducible refine qs0 (N := 1) rfl ?_); refine qt0 ?hg (N := 1) ?hd (cs := #[.string a0_0, .string a0_1, .string a0_2, .int .i64 a0_3, .int .i64 a0_4, .int .i64 a0_5]) (t := 160) ?hr ?_; (case hd => rfl); (case hg => rfl); (case hr => first | (go_simp; done) | (go_simp; rfl)); intro gb108 hg w27 hbox hb; have n0_ := Aside0.mk (qm0 (by repeat (first | (with_reducible first | exact HB.out | apply qc0 | apply qa0 | apply qb0) | exact HB.out)) hb); have n1_ := Aside0.mk (hbox); have n2_ := Aside0.mk ((by rw [hg]; exact (qi0 (by repeat (first | (with_reducible first | exact HB.out | apply qc0 | apply qa0 | apply qb0) | exact HB.out))) : w.heap.size ≤ gb108)); have n3_ := Aside0.mk ((by rw [hg]; exact (qi0 (by repeat (first | (with_reducible first | exact HB.out | apply qc0 | apply qa0 | apply qb0) | exact HB.out))) : w.heap.size ≤ gb108)); clear HB; have HB := n0_; have BK108 := n1_; have GW108 := n2_; have GE108 := n3_; clear n0_ n1_ n2_ n3_; clear hb hbox hg; have hcz28_0 : w27.cell? ⟨gb108, 0, none⟩ = some (.string a0_0) := (qe0 BK108.out 0).trans rfl; have hcz28_1 : w27.cell? ⟨gb108, 1, none⟩ = some (.string a0_1) := (qe0 BK108.out 1).trans rfl; have hcz28_2 : w27.cell? ⟨gb108, 2, none⟩ = some (.string a0_2) := (qe0 BK108.out 2).trans rfl; have hcz28_3 : w27.cell? ⟨gb108, 3, none⟩ = some (.int .i64 a0_3) := (qe0 BK108.out 3).trans rfl; have hcz28_4 : w27.cell? ⟨gb108, 4, none⟩ = some (.int .i64 a0_4) := (qe0 BK108.out 4).trans rfl; have hcz28_5 : w27.cell? ⟨gb108, 5, none⟩ = some (.int .i64 a0_5) := (qe0 BK108.out 5).trans rfl; have hfz28_0 := qd0 BK108.out 0; have hfz28_1 := qd0 BK108.out 1; have hfz28_2 := qd0 BK108.out 2; have hfz28_3 := qd0 BK108.out 3; have hfz28_4 := qd0 BK108.out 4; have hfz28_5 := qd0 BK108.out 5) | ((with_reducible refine qp0 (f := 191) rfl ?_); refine qy0 (some 5) rfl rfl Try.func191 (by kernel_rfl) rfl #[.string a0_0] rfl (by (try simp only [List.map_toArray, List.map_cons, List.map_nil]); first | done | rfl | (simp only [List.length_drop, List.length_take]; rfl)) ?_; (with_reducible refine (spec_NameOk.calls k a0_0 true _ A2.out).mono ?_); rintro e w' ⟨rfl, ⟨nd, rfl⟩⟩; refine ⟨_, rfl, ?_⟩) | (go_at_call 191; (with_reducible refine (spec_NameOk.calls k a0_1 true _ A4.out).mono ?_); rintro e w' ⟨rfl, ⟨nd, rfl⟩⟩) | (go_at_call 191; (with_reducible refine (spec_NameOk.calls k a0_2 true _ A18.out).mono ?_); rintro e w' ⟨rfl, ⟨nd, rfl⟩⟩) | (go_at_call 89; (with_reducible refine (spec_l2Day.calls a0_3 true _ A20.out).mono ?_); rintro e w' ⟨rfl, ⟨nd, rfl⟩⟩) | (go_at_call 183; (with_reducible refine (spec_l12Qty.calls a0_4 false _ A22.out).mono ?_); rintro e w' ⟨rfl, ⟨nd, rfl⟩⟩))
     go_ret
     exact ⟨by first | rfl | (simp [errW_none, errW_some] <;> rfl) | (simp [*, errW_none, errW_some] <;> rfl), by repeat (first | (with_reducible first | exact HB.out | apply qc0 | apply qa0 | apply qb0 | refine qh0 ?_ GE108.out) | exact HB.out)⟩
    replace c21 := Bool.eq_false_iff.mpr c21
    subst c21
    have H1 : (some false) = some r := by rw [if_neg (show ¬ (false = true) by decide)] at H; exact H
    clear H
    have H := H1
    clear H1
    obtain rfl := Option.some.inj H
    go_enter Try.func169, Try.ntmps169
    go_wp2_with (first | ((with_reducible refine qs0 (N := 1) rfl ?_); refine qt0 ?hg (N := 1) ?hd (cs := #[.string a0_0, .string a0_1, .string a0_2, .int .i64 a0_3, .int .i64 a0_4, .int .i64 a0_5]) (t := 160) ?hr ?_; (case hd => rfl); (case hg => rfl); (case hr => first | (go_simp; done) | (go_simp; rfl)); intro gb108 hg w29 hbox hb; have n0_ := Aside0.mk (qm0 (by repeat (first | (with_reducible first | exact HB.out | apply qc0 | apply qa0 | apply qb0) | exact HB.out)) hb); have n1_ := Aside0.mk (hbox); have n2_ := Aside0.mk ((by rw [hg]; exact (qi0 (by repeat (first | (with_reducible first | exact HB.out | apply qc0 | apply qa0 | apply qb0) | exact HB.out))) : w.heap.size ≤ gb108)); have n3_ := Aside0.mk ((by rw [hg]; exact (qi0 (by repeat (first | (with_reducible first | exact HB.out | apply qc0 | apply qa0 | apply qb0) | exact HB.out))) : w.heap.size ≤ gb108)); clear HB; have HB := n0_; have BK108 := n1_; have GW108 := n2_; have GE108 := n3_; clear n0_ n1_ n2_ n3_; clear hb hbox hg; have hcz30_0 : w29.cell? ⟨gb108, 0, none⟩ = some (.string a0_0) := (qe0 BK108.out 0).trans rfl; have hcz30_1 : w29.cell? ⟨gb108, 1, none⟩ = some (.string a0_1) := (qe0 BK108.out 1).trans rfl; have hcz30_2 : w29.cell? ⟨gb108, 2, none⟩ = some (.string a0_2) := (qe0 BK108.out 2).trans rfl; have hcz30_3 : w29.cell? ⟨gb108, 3, none⟩ = some (.int .i64 a0_3) := (qe0 BK108.out 3).trans rfl; have hcz30_4 : w29.cell? ⟨gb108, 4, none⟩ = some (.int .i64 a0_4) := (qe0 BK108.out 4).trans rfl; have hcz30_5 : w29.cell? ⟨gb108, 5, none⟩ = some (.int .i64 a0_5) := (qe0 BK108.out 5).trans rfl; have hfz30_0 := qd0 BK108.out 0; have hfz30_1 := qd0 BK108.out 1; have hfz30_2 := qd0 BK108.out 2; have hfz30_3 := qd0 BK108.out 3; have hfz30_4 := qd0 BK108.out 4; have hfz30_5 := qd0 BK108.out 5) | ((with_reducible refine qp0 (f := 191) rfl ?_); refine qy0 (some 5) rfl rfl Try.func191 (by kernel_rfl) rfl #[.string a0_0] rfl (by (try simp only [List.map_toArray, List.map_cons, List.map_nil]); first | done | rfl | (simp only [List.length_drop, List.length_take]; rfl)) ?_; (with_reducible refine (spec_NameOk.calls k a0_0 true _ A2.out).mono ?_); rintro e w' ⟨rfl, ⟨nd, rfl⟩⟩; refine ⟨_, rfl, ?_⟩) | (go_at_call 191; (with_reducible refine (spec_NameOk.calls k a0_1 true _ A4.out).mono ?_); rintro e w' ⟨rfl, ⟨nd, rfl⟩⟩) | (go_at_call 191; (with_reducible refine (spec_NameOk.calls k a0_2 true _ A18.out).mono ?_); rintro e w' ⟨rfl, ⟨nd, rfl⟩⟩) | (go_at_call 89; (with_reducible refine (spec_l2Day.calls a0_3 false _ A20.out).mono ?_); rintro e w' ⟨rfl, ⟨nd, rfl⟩⟩))
    go_ret
    exact ⟨by first | rfl | (simp [errW_none, errW_some] <;> rfl) | (simp [*, errW_none, errW_some] <;> rfl), by repeat (first | (with_reducible first | exact HB.out | apply qc0 | apply qa0 | apply qb0 | refine qh0 ?_ GE108.out) | exact HB.out)⟩
   replace c19 := Bool.eq_false_iff.mpr c19
   subst c19
   have H1 : (some false) = some r := by rw [if_neg (show ¬ (false = true) by decide)] at H; exact H
   clear H
   have H := H1
   clear H1
   obtain rfl := Option.some.inj H
   go_enter Try.func169, Try.ntmps169
   go_wp2_with (first | ((with_reducible refine qs0 (N := 1) rfl ?_); refine qt0 ?hg (N := 1) ?hd (cs := #[.string a0_0, .string a0_1, .string a0_2, .int .i64 a0_3, .int .i64 a0_4, .int .i64 a0_5]) (t := 160) ?hr ?_; (case hd => rfl); (case hg => rfl); (case hr => first | (go_simp; done) | (go_simp; rfl)); intro gb108 hg w31 hbox hb; have n0_ := Aside0.mk (qm0 (by repeat (first | (with_reducible first | exact HB.out | apply qc0 | apply qa0 | apply qb0) | exact HB.out)) hb); have n1_ := Aside0.mk (hbox); have n2_ := Aside0.mk ((by rw [hg]; exact (qi0 (by repeat (first | (with_reducible first | exact HB.out | apply qc0 | apply qa0 | apply qb0) | exact HB.out))) : w.heap.size ≤ gb108)); have n3_ := Aside0.mk ((by rw [hg]; exact (qi0 (by repeat (first | (with_reducible first | exact HB.out | apply qc0 | apply qa0 | apply qb0) | exact HB.out))) : w.heap.size ≤ gb108)); clear HB; have HB := n0_; have BK108 := n1_; have GW108 := n2_; have GE108 := n3_; clear n0_ n1_ n2_ n3_; clear hb hbox hg; have hcz32_0 : w31.cell? ⟨gb108, 0, none⟩ = some (.string a0_0) := (qe0 BK108.out 0).trans rfl; have hcz32_1 : w31.cell? ⟨gb108, 1, none⟩ = some (.string a0_1) := (qe0 BK108.out 1).trans rfl; have hcz32_2 : w31.cell? ⟨gb108, 2, none⟩ = some (.string a0_2) := (qe0 BK108.out 2).trans rfl; have hcz32_3 : w31.cell? ⟨gb108, 3, none⟩ = some (.int .i64 a0_3) := (qe0 BK108.out 3).trans rfl; have hcz32_4 : w31.cell? ⟨gb108, 4, none⟩ = some (.int .i64 a0_4) := (qe0 BK108.out 4).trans rfl; have hcz32_5 : w31.cell? ⟨gb108, 5, none⟩ = some (.int .i64 a0_5) := (qe0 BK108.out 5).trans rfl; have hfz32_0 := qd0 BK108.out 0; have hfz32_1 := qd0 BK108.out 1; have hfz32_2 := qd0 BK108.out 2; have hfz32_3 := qd0 BK108.out 3; have hfz32_4 := qd0 BK108.out 4; have hfz32_5 := qd0 BK108.out 5) | ((with_reducible refine qp0 (f := 191) rfl ?_); refine qy0 (some 5) rfl rfl Try.func191 (by kernel_rfl) rfl #[.string a0_0] rfl (by (try simp only [List.map_toArray, List.map_cons, List.map_nil]); first | done | rfl | (simp only [List.length_drop, List.length_take]; rfl)) ?_; (with_reducible refine (spec_NameOk.calls k a0_0 true _ A2.out).mono ?_); rintro e w' ⟨rfl, ⟨nd, rfl⟩⟩; refine ⟨_, rfl, ?_⟩) | (go_at_call 191; (with_reducible refine (spec_NameOk.calls k a0_1 true _ A4.out).mono ?_); rintro e w' ⟨rfl, ⟨nd, rfl⟩⟩) | (go_at_call 191; (with_reducible refine (spec_NameOk.calls k a0_2 false _ A18.out).mono ?_); rintro e w' ⟨rfl, ⟨nd, rfl⟩⟩))
   go_ret
   exact ⟨by first | rfl | (simp [errW_none, errW_some] <;> rfl) | (simp [*, errW_none, errW_some] <;> rfl), by repeat (first | (with_reducible first | exact HB.out | apply qc0 | apply qa0 | apply qb0 | refine qh0 ?_ GE108.out) | exact HB.out)⟩
  replace c5 := Bool.eq_false_iff.mpr c5
  subst c5
  have H1 : (some false) = some r := by rw [if_neg (show ¬ (false = true) by decide)] at H; exact H
  clear H
  have H := H1
  clear H1
  obtain rfl := Option.some.inj H
  go_enter Try.func169, Try.ntmps169
  go_wp2_with (first | ((with_reducible refine qs0 (N := 1) rfl ?_); refine qt0 ?hg (N := 1) ?hd (cs := #[.string a0_0, .string a0_1, .string a0_2, .int .i64 a0_3, .int .i64 a0_4, .int .i64 a0_5]) (t := 160) ?hr ?_; (case hd => rfl); (case hg => rfl); (case hr => first | (go_simp; done) | (go_simp; rfl)); intro gb108 hg w33 hbox hb; have n0_ := Aside0.mk (qm0 (by repeat (first | (with_reducible first | exact HB.out | apply qc0 | apply qa0 | apply qb0) | exact HB.out)) hb); have n1_ := Aside0.mk (hbox); have n2_ := Aside0.mk ((by rw [hg]; exact (qi0 (by repeat (first | (with_reducible first | exact HB.out | apply qc0 | apply qa0 | apply qb0) | exact HB.out))) : w.heap.size ≤ gb108)); have n3_ := Aside0.mk ((by rw [hg]; exact (qi0 (by repeat (first | (with_reducible first | exact HB.out | apply qc0 | apply qa0 | apply qb0) | exact HB.out))) : w.heap.size ≤ gb108)); clear HB; have HB := n0_; have BK108 := n1_; have GW108 := n2_; have GE108 := n3_; clear n0_ n1_ n2_ n3_; clear hb hbox hg; have hcz34_0 : w33.cell? ⟨gb108, 0, none⟩ = some (.string a0_0) := (qe0 BK108.out 0).trans rfl; have hcz34_1 : w33.cell? ⟨gb108, 1, none⟩ = some (.string a0_1) := (qe0 BK108.out 1).trans rfl; have hcz34_2 : w33.cell? ⟨gb108, 2, none⟩ = some (.string a0_2) := (qe0 BK108.out 2).trans rfl; have hcz34_3 : w33.cell? ⟨gb108, 3, none⟩ = some (.int .i64 a0_3) := (qe0 BK108.out 3).trans rfl; have hcz34_4 : w33.cell? ⟨gb108, 4, none⟩ = some (.int .i64 a0_4) := (qe0 BK108.out 4).trans rfl; have hcz34_5 : w33.cell? ⟨gb108, 5, none⟩ = some (.int .i64 a0_5) := (qe0 BK108.out 5).trans rfl; have hfz34_0 := qd0 BK108.out 0; have hfz34_1 := qd0 BK108.out 1; have hfz34_2 := qd0 BK108.out 2; have hfz34_3 := qd0 BK108.out 3; have hfz34_4 := qd0 BK108.out 4; have hfz34_5 := qd0 BK108.out 5) | ((with_reducible refine qp0 (f := 191) rfl ?_); refine qy0 (some 5) rfl rfl Try.func191 (by kernel_rfl) rfl #[.string a0_0] rfl (by (try simp only [List.map_toArray, List.map_cons, List.map_nil]); first | done | rfl | (simp only [List.length_drop, List.length_take]; rfl)) ?_; (with_reducible refine (spec_NameOk.calls k a0_0 true _ A2.out).mono ?_); rintro e w' ⟨rfl, ⟨nd, rfl⟩⟩; refine ⟨_, rfl, ?_⟩) | (go_at_call 191; (with_reducible refine (spec_NameOk.calls k a0_1 false _ A4.out).mono ?_); rintro e w' ⟨rfl, ⟨nd, rfl⟩⟩))
  go_ret
  exact ⟨by first | rfl | (simp [errW_none, errW_some] <;> rfl) | (simp [*, errW_none, errW_some] <;> rfl), by repeat (first | (with_reducible first | exact HB.out | apply qc0 | apply qa0 | apply qb0 | refine qh0 ?_ GE108.out) | exact HB.out)⟩
 replace c3 := Bool.eq_false_iff.mpr c3
 subst c3
 have H1 : (some false) = some r := by rw [if_neg (show ¬ (false = true) by decide)] at H; exact H
 clear H
 have H := H1
 clear H1
 obtain rfl := Option.some.inj H
 go_enter Try.func169, Try.ntmps169
 go_wp2_with (first | ((with_reducible refine qs0 (N := 1) rfl ?_); refine qt0 ?hg (N := 1) ?hd (cs := #[.string a0_0, .string a0_1, .string a0_2, .int .i64 a0_3, .int .i64 a0_4, .int .i64 a0_5]) (t := 160) ?hr ?_; (case hd => rfl); (case hg => rfl); (case hr => first | (go_simp; done) | (go_simp; rfl)); intro gb108 hg w35 hbox hb; have n0_ := Aside0.mk (qm0 (by repeat (first | (with_reducible first | exact HB.out | apply qc0 | apply qa0 | apply qb0) | exact HB.out)) hb); have n1_ := Aside0.mk (hbox); have n2_ := Aside0.mk ((by rw [hg]; exact (qi0 (by repeat (first | (with_reducible first | exact HB.out | apply qc0 | apply qa0 | apply qb0) | exact HB.out))) : w.heap.size ≤ gb108)); have n3_ := Aside0.mk ((by rw [hg]; exact (qi0 (by repeat (first | (with_reducible first | exact HB.out | apply qc0 | apply qa0 | apply qb0) | exact HB.out))) : w.heap.size ≤ gb108)); clear HB; have HB := n0_; have BK108 := n1_; have GW108 := n2_; have GE108 := n3_; clear n0_ n1_ n2_ n3_; clear hb hbox hg; have hcz36_0 : w35.cell? ⟨gb108, 0, none⟩ = some (.string a0_0) := (qe0 BK108.out 0).trans rfl; have hcz36_1 : w35.cell? ⟨gb108, 1, none⟩ = some (.string a0_1) := (qe0 BK108.out 1).trans rfl; have hcz36_2 : w35.cell? ⟨gb108, 2, none⟩ = some (.string a0_2) := (qe0 BK108.out 2).trans rfl; have hcz36_3 : w35.cell? ⟨gb108, 3, none⟩ = some (.int .i64 a0_3) := (qe0 BK108.out 3).trans rfl; have hcz36_4 : w35.cell? ⟨gb108, 4, none⟩ = some (.int .i64 a0_4) := (qe0 BK108.out 4).trans rfl; have hcz36_5 : w35.cell? ⟨gb108, 5, none⟩ = some (.int .i64 a0_5) := (qe0 BK108.out 5).trans rfl; have hfz36_0 := qd0 BK108.out 0; have hfz36_1 := qd0 BK108.out 1; have hfz36_2 := qd0 BK108.out 2; have hfz36_3 := qd0 BK108.out 3; have hfz36_4 := qd0 BK108.out 4; have hfz36_5 := qd0 BK108.out 5) | ((with_reducible refine qp0 (f := 191) rfl ?_); refine qy0 (some 5) rfl rfl Try.func191 (by kernel_rfl) rfl #[.string a0_0] rfl (by (try simp only [List.map_toArray, List.map_cons, List.map_nil]); first | done | rfl | (simp only [List.length_drop, List.length_take]; rfl)) ?_; (with_reducible refine (spec_NameOk.calls k a0_0 false _ A2.out).mono ?_); rintro e w' ⟨rfl, ⟨nd, rfl⟩⟩; refine ⟨_, rfl, ?_⟩))
 go_ret
 exact ⟨by first | rfl | (simp [errW_none, errW_some] <;> rfl) | (simp [*, errW_none, errW_some] <;> rfl), by repeat (first | (with_reducible first | exact HB.out | apply qc0 | apply qa0 | apply qb0 | refine qh0 ?_ GE108.out) | exact HB.out)⟩

/-! ### spec_l15Find: function 170 -/
def spec_l15Find.l0 : Nat → List (S160) → Int → ByteArray → ByteArray → ByteArray → Int → Int → Int → Option (Int)
 | 0, _, _, _, _, _, _, _, _ => none
 | k + 1, x0, x5, x119000, x119001, x119002, x119003, x119004, x119005 => if x5 < (x0.length : Int) then (if 0 ≤ x5 then (if ((rd_T160 x0 x5).f0).toList = x119000.toList then (if ((rd_T160 x0 x5).f1).toList = x119001.toList then (if ((rd_T160 x0 x5).f2).toList = x119002.toList then (some x5) else (spec_l15Find.l0 k x0 (wrap64 (x5 + 1)) x119000 x119001 x119002 x119003 x119004 x119005)) else (spec_l15Find.l0 k x0 (wrap64 (x5 + 1)) x119000 x119001 x119002 x119003 x119004 x119005)) else (spec_l15Find.l0 k x0 (wrap64 (x5 + 1)) x119000 x119001 x119002 x119003 x119004 x119005)) else (none)) else (some (-1))
def spec_l15Find.f (k : Nat) (l0 : List (S160)) (a1_0 : ByteArray) (a1_1 : ByteArray) (a1_2 : ByteArray) (a1_3 : Int) (a1_4 : Int) (a1_5 : Int) : Option (Int) := spec_l15Find.l0 k l0 0 a1_0 a1_1 a1_2 a1_3 a1_4 a1_5
theorem spec_l15Find.mono_l : ∀ k, (∀ y0 y1 y2 y3 y4 y5 y6 y7, LeO (spec_l15Find.l0 k y0 y1 y2 y3 y4 y5 y6 y7) (spec_l15Find.l0 (k + 1) y0 y1 y2 y3 y4 y5 y6 y7))
 | 0 => fun _ _ _ _ _ _ _ _ r h => by simp [spec_l15Find.l0] at h
 | k + 1 => by
  have ih0 := spec_l15Find.mono_l k
  ·intro y0 y1 y2 y3 y4 y5 y6 y7
   unfold spec_l15Find.l0
   repeat' first
   | (with_reducible exact ih0 _ _ _ _ _ _ _ _)
   | (with_reducible exact LeO.refl _)
   | (with_reducible exact LeO.none _)
   | (with_reducible refine LeO.ite ?_ ?_)
   | (with_reducible refine LeO.bind ?_ (fun _ => ?_))
   | exact ih0 _ _ _ _ _ _ _ _
   | exact LeO.none _
   | refine LeO.ite ?_ ?_
   | refine LeO.bind ?_ (fun _ => ?_)
theorem spec_l15Find.mono : ∀ a0 a1 a2 a3 a4 a5 a6 k, LeO (spec_l15Find.f k a0 a1 a2 a3 a4 a5 a6) (spec_l15Find.f (k + 1) a0 a1 a2 a3 a4 a5 a6) := by
 intro a0 a1 a2 a3 a4 a5 a6 k
 have ih0 := spec_l15Find.mono_l k
 unfold spec_l15Find.f
 repeat' first
   | (with_reducible exact ih0 _ _ _ _ _ _ _ _)
   | (with_reducible exact LeO.refl _)
   | (with_reducible exact LeO.none _)
   | (with_reducible refine LeO.ite ?_ ?_)
   | (with_reducible refine LeO.bind ?_ (fun _ => ?_))
   | exact ih0 _ _ _ _ _ _ _ _
   | exact LeO.none _
   | refine LeO.ite ?_ ?_
   | refine LeO.bind ?_ (fun _ => ?_)
set_option maxHeartbeats 8000000 in
set_option maxRecDepth 100000 in
theorem spec_l15Find.calls (k : Nat) (A0 : Option Addr) (c0 : Nat) (l0 : List (S160)) (a1_0 : ByteArray) (a1_1 : ByteArray) (a1_2 : ByteArray) (a1_3 : Int) (a1_4 : Int) (a1_5 : Int) (r : Int) (w : World) (hr0 : Kd.C k160 w A0 l0.length l0) (hc0 : l0.length ≤ c0) (h : spec_l15Find.f k l0 a1_0 a1_1 a1_2 a1_3 a1_4 a1_5 = some r) :
  Calls Try.prog 170 #[.slice A0 l0.length c0, .agg #[.string a1_0, .string a1_1, .string a1_2, .int .i64 a1_3, .int .i64 a1_4, .int .i64 a1_5]] w fun e w' => e = .returned (.int .i64 r) ∧ Below w.heap.size w w' := by
 have hu160 := Try.underlying160
 have HR0 := Aside0.mk hr0
 have HC0 := Aside0.mk hc0
 clear hr0 hc0
 have HB := Aside0.mk (Below.refl w.heap.size w)
 have H : (spec_l15Find.l0 k l0 0 a1_0 a1_1 a1_2 a1_3 a1_4 a1_5) = some r := h
 clear h
 have H' := Aside0.mk H
 clear H
 go_enter Try.func170, Try.ntmps170
 go_wp2_with (first | ((with_reducible refine qs0 (N := 3) rfl ?_); refine qt0 ?hg (N := 3) ?hd (cs := #[.string a1_0, .string a1_1, .string a1_2, .int .i64 a1_3, .int .i64 a1_4, .int .i64 a1_5]) (t := 160) ?hr ?_; (case hd => rfl); (case hg => rfl); (case hr => first | (go_simp; done) | (go_simp; rfl)); intro gb118 hg w3 hbox hb; have n0_ := Aside0.mk (qm0 (by repeat (first | (with_reducible first | exact HB.out | apply qc0 | apply qa0 | apply qb0) | exact HB.out)) hb); have n1_ := Aside0.mk (hbox); have n2_ := Aside0.mk ((by rw [hg]; exact (qi0 (by repeat (first | (with_reducible first | exact HB.out | apply qc0 | apply qa0 | apply qb0) | exact HB.out))) : w.heap.size ≤ gb118)); have n3_ := Aside0.mk ((by rw [hg]; exact (qi0 (by repeat (first | (with_reducible first | exact HB.out | apply qc0 | apply qa0 | apply qb0) | exact HB.out))) : w.heap.size ≤ gb118)); clear HB; have HB := n0_; have BK118 := n1_; have GW118 := n2_; have GE118 := n3_; clear n0_ n1_ n2_ n3_; clear hb hbox hg))
 repeat (go_quiet (first | ((with_reducible refine qs0 (N := 3) rfl ?_); refine qt0 ?hg (N := 3) ?hd (cs := #[.string a1_0, .string a1_1, .string a1_2, .int .i64 a1_3, .int .i64 a1_4, .int .i64 a1_5]) (t := 160) ?hr ?_; (case hd => rfl); (case hg => rfl); (case hr => first | (go_simp; done) | (go_simp; rfl)); intro gb118 hg w3 hbox hb; have n0_ := Aside0.mk (qm0 (by repeat (first | (with_reducible first | exact HB.out | apply qc0 | apply qa0 | apply qb0) | exact HB.out)) hb); have n1_ := Aside0.mk (hbox); have n2_ := Aside0.mk ((by rw [hg]; exact (qi0 (by repeat (first | (with_reducible first | exact HB.out | apply qc0 | apply qa0 | apply qb0) | exact HB.out))) : w.heap.size ≤ gb118)); have n3_ := Aside0.mk ((by rw [hg]; exact (qi0 (by repeat (first | (with_reducible first | exact HB.out | apply qc0 | apply qa0 | apply qb0) | exact HB.out))) : w.heap.size ≤ gb118)); clear HB; have HB := n0_; have BK118 := n1_; have GW118 := n2_; have GE118 := n3_; clear n0_ n1_ n2_ n3_; clear hb hbox hg)); try go_wp2_with (first | ((with_reducible refine qs0 (N := 3) rfl ?_); refine qt0 ?hg (N := 3) ?hd (cs := #[.string a1_0, .string a1_1, .string a1_2, .int .i64 a1_3, .int .i64 a1_4, .int .i64 a1_5]) (t := 160) ?hr ?_; (case hd => rfl); (case hg => rfl); (case hr => first | (go_simp; done) | (go_simp; rfl)); intro gb118 hg w3 hbox hb; have n0_ := Aside0.mk (qm0 (by repeat (first | (with_reducible first | exact HB.out | apply qc0 | apply qa0 | apply qb0) | exact HB.out)) hb); have n1_ := Aside0.mk (hbox); have n2_ := Aside0.mk ((by rw [hg]; exact (qi0 (by repeat (first | (with_reducible first | exact HB.out | apply qc0 | apply qa0 | apply qb0) | exact HB.out))) : w.heap.size ≤ gb118)); have n3_ := Aside0.mk ((by rw [hg]; exact (qi0 (by repeat (first | (with_reducible first | exact HB.out | apply qc0 | apply qa0 | apply qb0) | exact HB.out))) : w.heap.size ≤ gb118)); clear HB; have HB := n0_; have BK118 := n1_; have GW118 := n2_; have GE118 := n3_; clear n0_ n1_ n2_ n3_; clear hb hbox hg)))
 go_loopg [5] k (fun kq v5 w' => ∃ (x5_1 : Int), v5 = .int .i64 x5_1 ∧ Aside0 (spec_l15Find.l0 kq l0 x5_1 a1_0 a1_1 a1_2 a1_3 a1_4 a1_5 = some r) ∧ Aside0 (kq ≤ k) ∧ Aside0 (w'.heap[gb118]? = some (.cells #[.string a1_0, .string a1_1, .string a1_2, .int .i64 a1_3, .int .i64 a1_4, .int .i64 a1_5] 160 (0, 0))) ∧ Aside0 (Below w.heap.size w w'))
 case atStart => exact ⟨(0), (by first | rfl | (simp; done) | (simp [*]; done)), H', ⟨Nat.le_refl _⟩, ⟨by (with_reducible repeat (first | refine qf0 ?_ _ | refine qj0 ?_ | refine qg0 ?_ _)); exact BK118.out⟩, ⟨by repeat (first | (with_reducible first | exact HB.out | apply qc0 | apply qa0 | apply qb0 | refine qh0 ?_ GE118.out) | exact HB.out)⟩⟩
 case round =>
  clear H'
  try clear c1
  try clear p2
  obtain ⟨x5_1, rfl, HA, HK1, BK118, HB⟩ := hrel
  cases gk with
  | zero => exact absurd HA.out (by simp [spec_l15Find.l0])
  | succ k1 =>
   have H := HA.out
   clear HA
   simp only [spec_l15Find.l0] at H
   by_cases c4 : x5_1 < (l0.length : Int)
   ·rw [if_pos c4] at H
    have c4b0 : decide (x5_1 < (l0.length : Int)) = true := decide_eq_true c4
    clear c4
    by_cases c5 : 0 ≤ x5_1
    case neg => rw [if_neg c5] at H; exact absurd H (by simp)
    rw [if_pos c5] at H
    have c5b0 : decide (0 ≤ x5_1) = true := decide_eq_true c5
    clear c5
    by_cases c6 : ((rd_T160 l0 x5_1).f0).toList = a1_0.toList
    ·rw [if_pos c6] at H
     have c6b0 : (((rd_T160 l0 x5_1).f0).toList == a1_0.toList) = true := beq_iff_eq.mpr c6
     have c6b1 : (((rd_T160 l0 x5_1).f0).toList != a1_0.toList) = false := bne_eq_false_iff_eq.mpr c6
     clear c6
     by_cases c7 : ((rd_T160 l0 x5_1).f1).toList = a1_1.toList
     ·rw [if_pos c7] at H
      have c7b0 : (((rd_T160 l0 x5_1).f1).toList == a1_1.toList) = true := beq_iff_eq.mpr c7
      have c7b1 : (((rd_T160 l0 x5_1).f1).toList != a1_1.toList) = false := bne_eq_false_iff_eq.mpr c7
      clear c7
      by_cases c8 : ((rd_T160 l0 x5_1).f2).toList = a1_2.toList
      ·rw [if_pos c8] at H
       have c8b0 : (((rd_T160 l0 x5_1).f2).toList == a1_2.toList) = true := beq_iff_eq.mpr c8
       have c8b1 : (((rd_T160 l0 x5_1).f2).toList != a1_2.toList) = false := bne_eq_false_iff_eq.mpr c8
       clear c8
       obtain rfl := Option.some.inj H
       have p119 : 0 ≤ (x5_1 : Int) := of_decide_eq_true (by first | (with_reducible assumption) | assumption)
       have q119 : x5_1 < (l0.length : Int) := of_decide_eq_true (by first | (with_reducible assumption) | assumption)
       obtain ⟨ad119, e119, hx119_0, hx119_1, hx119_2, hx119_3, hx119_4, hx119_5⟩ := at_T160 HR0.out x5_1 p119 q119
       cases e119
       replace hx119_0 := (HB.out.cell (World.block_lt_of_cell? w _ hx119_0)).trans hx119_0
       replace hx119_1 := (HB.out.cell (World.block_lt_of_cell? w _ hx119_1)).trans hx119_1
       replace hx119_2 := (HB.out.cell (World.block_lt_of_cell? w _ hx119_2)).trans hx119_2
       replace hx119_3 := (HB.out.cell (World.block_lt_of_cell? w _ hx119_3)).trans hx119_3
       replace hx119_4 := (HB.out.cell (World.block_lt_of_cell? w _ hx119_4)).trans hx119_4
       replace hx119_5 := (HB.out.cell (World.block_lt_of_cell? w _ hx119_5)).trans hx119_5
       replace p119 := eq_true p119
       replace q119 := eq_true q119
       have hcz9_0 : wr.cell? ⟨gb118, 0, none⟩ = some (.string a1_0) := (qe0 BK118.out 0).trans rfl
       have hcz9_1 : wr.cell? ⟨gb118, 1, none⟩ = some (.string a1_1) := (qe0 BK118.out 1).trans rfl
       have hcz9_2 : wr.cell? ⟨gb118, 2, none⟩ = some (.string a1_2) := (qe0 BK118.out 2).trans rfl
       have hcz9_3 : wr.cell? ⟨gb118, 3, none⟩ = some (.int .i64 a1_3) := (qe0 BK118.out 3).trans rfl
       have hcz9_4 : wr.cell? ⟨gb118, 4, none⟩ = some (.int .i64 a1_4) := (qe0 BK118.out 4).trans rfl
       have hcz9_5 : wr.cell? ⟨gb118, 5, none⟩ = some (.int .i64 a1_5) := (qe0 BK118.out 5).trans rfl
       have hfz9_0 := qd0 BK118.out 0
       have hfz9_1 := qd0 BK118.out 1
       have hfz9_2 := qd0 BK118.out 2
       have hfz9_3 := qd0 BK118.out 3
       have hfz9_4 := qd0 BK118.out 4
       have hfz9_5 := qd0 BK118.out 5
       have p120 : 0 ≤ (x5_1 : Int) := of_decide_eq_true (by first | (with_reducible assumption) | assumption)
       have q120 : x5_1 < (l0.length : Int) := of_decide_eq_true (by first | (with_reducible assumption) | assumption)
       obtain ⟨ad120, e120, hx120_0, hx120_1, hx120_2, hx120_3, hx120_4, hx120_5⟩ := at_T160 HR0.out x5_1 p120 q120
       obtain rfl : ad119 = ad120 := (by injection e120)
       replace hx120_0 := (HB.out.cell (World.block_lt_of_cell? w _ hx120_0)).trans hx120_0
       replace hx120_1 := (HB.out.cell (World.block_lt_of_cell? w _ hx120_1)).trans hx120_1
       replace hx120_2 := (HB.out.cell (World.block_lt_of_cell? w _ hx120_2)).trans hx120_2
       replace hx120_3 := (HB.out.cell (World.block_lt_of_cell? w _ hx120_3)).trans hx120_3
       replace hx120_4 := (HB.out.cell (World.block_lt_of_cell? w _ hx120_4)).trans hx120_4
       replace hx120_5 := (HB.out.cell (World.block_lt_of_cell? w _ hx120_5)).trans hx120_5
       replace p120 := eq_true p120
       replace q120 := eq_true q120
       have p121 : 0 ≤ (x5_1 : Int) := of_decide_eq_true (by first | (with_reducible assumption) | assumption)
       have q121 : x5_1 < (l0.length : Int) := of_decide_eq_true (by first | (with_reducible assumption) | assumption)
       obtain ⟨ad121, e121, hx121_0, hx121_1, hx121_2, hx121_3, hx121_4, hx121_5⟩ := at_T160 HR0.out x5_1 p121 q121
       obtain rfl : ad119 = ad121 := (by injection e121)
       replace hx121_0 := (HB.out.cell (World.block_lt_of_cell? w _ hx121_0)).trans hx121_0
       replace hx121_1 := (HB.out.cell (World.block_lt_of_cell? w _ hx121_1)).trans hx121_1
       replace hx121_2 := (HB.out.cell (World.block_lt_of_cell? w _ hx121_2)).trans hx121_2
       replace hx121_3 := (HB.out.cell (World.block_lt_of_cell? w _ hx121_3)).trans hx121_3
       replace hx121_4 := (HB.out.cell (World.block_lt_of_cell? w _ hx121_4)).trans hx121_4
       replace hx121_5 := (HB.out.cell (World.block_lt_of_cell? w _ hx121_5)).trans hx121_5
       replace p121 := eq_true p121
       replace q121 := eq_true q121
       go_wp2
       repeat (go_quiet (fail); try go_wp2)
       go_ret
       exact ⟨by first | rfl | (simp [errW_none, errW_some] <;> rfl) | (simp [*, errW_none, errW_some] <;> rfl), by repeat (first | (with_reducible first | exact HB.out | apply qc0 | apply qa0 | apply qb0 | refine qh0 ?_ GE118.out) | exact HB.out)⟩
      rw [if_neg c8] at H
      have c8b0 : (((rd_T160 l0 x5_1).f2).toList == a1_2.toList) = false := beq_eq_false_iff_ne.mpr c8
      have c8b1 : (((rd_T160 l0 x5_1).f2).toList != a1_2.toList) = true := bne_iff_ne.mpr c8
      have H' := Aside0.mk H
      clear H
      have p119 : 0 ≤ (x5_1 : Int) := of_decide_eq_true (by first | (with_reducible assumption) | assumption)
      have q119 : x5_1 < (l0.length : Int) := of_decide_eq_true (by first | (with_reducible assumption) | assumption)
      obtain ⟨ad119, e119, hx119_0, hx119_1, hx119_2, hx119_3, hx119_4, hx119_5⟩ := at_T160 HR0.out x5_1 p119 q119
      cases e119
      replace hx119_0 := (HB.out.cell (World.block_lt_of_cell? w _ hx119_0)).trans hx119_0
      replace hx119_1 := (HB.out.cell (World.block_lt_of_cell? w _ hx119_1)).trans hx119_1
      replace hx119_2 := (HB.out.cell (World.block_lt_of_cell? w _ hx119_2)).trans hx119_2
      replace hx119_3 := (HB.out.cell (World.block_lt_of_cell? w _ hx119_3)).trans hx119_3
      replace hx119_4 := (HB.out.cell (World.block_lt_of_cell? w _ hx119_4)).trans hx119_4
      replace hx119_5 := (HB.out.cell (World.block_lt_of_cell? w _ hx119_5)).trans hx119_5
      replace p119 := eq_true p119
      replace q119 := eq_true q119
      have hcz10_0 : wr.cell? ⟨gb118, 0, none⟩ = some (.string a1_0) := (qe0 BK118.out 0).trans rfl
      have hcz10_1 : wr.cell? ⟨gb118, 1, none⟩ = some (.string a1_1) := (qe0 BK118.out 1).trans rfl
      have hcz10_2 : wr.cell? ⟨gb118, 2, none⟩ = some (.string a1_2) := (qe0 BK118.out 2).trans rfl
      have hcz10_3 : wr.cell? ⟨gb118, 3, none⟩ = some (.int .i64 a1_3) := (qe0 BK118.out 3).trans rfl
      have hcz10_4 : wr.cell? ⟨gb118, 4, none⟩ = some (.int .i64 a1_4) := (qe0 BK118.out 4).trans rfl
      have hcz10_5 : wr.cell? ⟨gb118, 5, none⟩ = some (.int .i64 a1_5) := (qe0 BK118.out 5).trans rfl
      have hfz10_0 := qd0 BK118.out 0
      have hfz10_1 := qd0 BK118.out 1
      have hfz10_2 := qd0 BK118.out 2
      have hfz10_3 := qd0 BK118.out 3
      have hfz10_4 := qd0 BK118.out 4
      have hfz10_5 := qd0 BK118.out 5
      have p120 : 0 ≤ (x5_1 : Int) := of_decide_eq_true (by first | (with_reducible assumption) | assumption)
      have q120 : x5_1 < (l0.length : Int) := of_decide_eq_true (by first | (with_reducible assumption) | assumption)
      obtain ⟨ad120, e120, hx120_0, hx120_1, hx120_2, hx120_3, hx120_4, hx120_5⟩ := at_T160 HR0.out x5_1 p120 q120
      obtain rfl : ad119 = ad120 := (by injection e120)
      replace hx120_0 := (HB.out.cell (World.block_lt_of_cell? w _ hx120_0)).trans hx120_0
      replace hx120_1 := (HB.out.cell (World.block_lt_of_cell? w _ hx120_1)).trans hx120_1
      replace hx120_2 := (HB.out.cell (World.block_lt_of_cell? w _ hx120_2)).trans hx120_2
      replace hx120_3 := (HB.out.cell (World.block_lt_of_cell? w _ hx120_3)).trans hx120_3
      replace hx120_4 := (HB.out.cell (World.block_lt_of_cell? w _ hx120_4)).trans hx120_4
      replace hx120_5 := (HB.out.cell (World.block_lt_of_cell? w _ hx120_5)).trans hx120_5
      replace p120 := eq_true p120
      replace q120 := eq_true q120
      have p121 : 0 ≤ (x5_1 : Int) := of_decide_eq_true (by first | (with_reducible assumption) | assumption)
      have q121 : x5_1 < (l0.length : Int) := of_decide_eq_true (by first | (with_reducible assumption) | assumption)
      obtain ⟨ad121, e121, hx121_0, hx121_1, hx121_2, hx121_3, hx121_4, hx121_5⟩ := at_T160 HR0.out x5_1 p121 q121
      obtain rfl : ad119 = ad121 := (by injection e121)
      replace hx121_0 := (HB.out.cell (World.block_lt_of_cell? w _ hx121_0)).trans hx121_0
      replace hx121_1 := (HB.out.cell (World.block_lt_of_cell? w _ hx121_1)).trans hx121_1
      replace hx121_2 := (HB.out.cell (World.block_lt_of_cell? w _ hx121_2)).trans hx121_2
      replace hx121_3 := (HB.out.cell (World.block_lt_of_cell? w _ hx121_3)).trans hx121_3
      replace hx121_4 := (HB.out.cell (World.block_lt_of_cell? w _ hx121_4)).trans hx121_4
      replace hx121_5 := (HB.out.cell (World.block_lt_of_cell? w _ hx121_5)).trans hx121_5
      replace p121 := eq_true p121
      replace q121 := eq_true q121
      go_wp2
      repeat (go_quiet (fail); try go_wp2)
      go_roundg k1
      case measure => have := HK1.out; omega
      case rel => exact ⟨(wrap64 (x5_1 + 1)), (by first | rfl | (simp; done) | (simp [*]; done)), H', ⟨by have := HK1.out; omega⟩, ⟨by (with_reducible repeat (first | refine qf0 ?_ _ | refine qj0 ?_ | refine qg0 ?_ _)); exact BK118.out⟩, ⟨by repeat (first | (with_reducible first | exact HB.out | apply qc0 | apply qa0 | apply qb0 | refine qh0 ?_ GE118.out) | exact HB.out)⟩⟩
     rw [if_neg c7] at H
     have c7b0 : (((rd_T160 l0 x5_1).f1).toList == a1_1.toList) = false := beq_eq_false_iff_ne.mpr c7
     have c7b1 : (((rd_T160 l0 x5_1).f1).toList != a1_1.toList) = true := bne_iff_ne.mpr c7
     have H' := Aside0.mk H
     clear H
     have p119 : 0 ≤ (x5_1 : Int) := of_decide_eq_true (by first | (with_reducible assumption) | assumption)
     have q119 : x5_1 < (l0.length : Int) := of_decide_eq_true (by first | (with_reducible assumption) | assumption)
     obtain ⟨ad119, e119, hx119_0, hx119_1, hx119_2, hx119_3, hx119_4, hx119_5⟩ := at_T160 HR0.out x5_1 p119 q119
     cases e119
     replace hx119_0 := (HB.out.cell (World.block_lt_of_cell? w _ hx119_0)).trans hx119_0
     replace hx119_1 := (HB.out.cell (World.block_lt_of_cell? w _ hx119_1)).trans hx119_1
     replace hx119_2 := (HB.out.cell (World.block_lt_of_cell? w _ hx119_2)).trans hx119_2
     replace hx119_3 := (HB.out.cell (World.block_lt_of_cell? w _ hx119_3)).trans hx119_3
     replace hx119_4 := (HB.out.cell (World.block_lt_of_cell? w _ hx119_4)).trans hx119_4
     replace hx119_5 := (HB.out.cell (World.block_lt_of_cell? w _ hx119_5)).trans hx119_5
     replace p119 := eq_true p119
     replace q119 := eq_true q119
     have hcz11_0 : wr.cell? ⟨gb118, 0, none⟩ = some (.string a1_0) := (qe0 BK118.out 0).trans rfl
     have hcz11_1 : wr.cell? ⟨gb118, 1, none⟩ = some (.string a1_1) := (qe0 BK118.out 1).trans rfl
     have hcz11_2 : wr.cell? ⟨gb118, 2, none⟩ = some (.string a1_2) := (qe0 BK118.out 2).trans rfl
     have hcz11_3 : wr.cell? ⟨gb118, 3, none⟩ = some (.int .i64 a1_3) := (qe0 BK118.out 3).trans rfl
     have hcz11_4 : wr.cell? ⟨gb118, 4, none⟩ = some (.int .i64 a1_4) := (qe0 BK118.out 4).trans rfl
     have hcz11_5 : wr.cell? ⟨gb118, 5, none⟩ = some (.int .i64 a1_5) := (qe0 BK118.out 5).trans rfl
     have hfz11_0 := qd0 BK118.out 0
     have hfz11_1 := qd0 BK118.out 1
     have hfz11_2 := qd0 BK118.out 2
     have hfz11_3 := qd0 BK118.out 3
     have hfz11_4 := qd0 BK118.out 4
     have hfz11_5 := qd0 BK118.out 5
     have p120 : 0 ≤ (x5_1 : Int) := of_decide_eq_true (by first | (with_reducible assumption) | assumption)
     have q120 : x5_1 < (l0.length : Int) := of_decide_eq_true (by first | (with_reducible assumption) | assumption)
     obtain ⟨ad120, e120, hx120_0, hx120_1, hx120_2, hx120_3, hx120_4, hx120_5⟩ := at_T160 HR0.out x5_1 p120 q120
     obtain rfl : ad119 = ad120 := (by injection e120)
     replace hx120_0 := (HB.out.cell (World.block_lt_of_cell? w _ hx120_0)).trans hx120_0
     replace hx120_1 := (HB.out.cell (World.block_lt_of_cell? w _ hx120_1)).trans hx120_1
     replace hx120_2 := (HB.out.cell (World.block_lt_of_cell? w _ hx120_2)).trans hx120_2
     replace hx120_3 := (HB.out.cell (World.block_lt_of_cell? w _ hx120_3)).trans hx120_3
     replace hx120_4 := (HB.out.cell (World.block_lt_of_cell? w _ hx120_4)).trans hx120_4
     replace hx120_5 := (HB.out.cell (World.block_lt_of_cell? w _ hx120_5)).trans hx120_5
     replace p120 := eq_true p120
     replace q120 := eq_true q120
     go_wp2
     repeat (go_quiet (fail); try go_wp2)
     go_roundg k1
     case measure => have := HK1.out; omega
     case rel => exact ⟨(wrap64 (x5_1 + 1)), (by first | rfl | (simp; done) | (simp [*]; done)), H', ⟨by have := HK1.out; omega⟩, ⟨by (with_reducible repeat (first | refine qf0 ?_ _ | refine qj0 ?_ | refine qg0 ?_ _)); exact BK118.out⟩, ⟨by repeat (first | (with_reducible first | exact HB.out | apply qc0 | apply qa0 | apply qb0 | refine qh0 ?_ GE118.out) | exact HB.out)⟩⟩
    rw [if_neg c6] at H
    have c6b0 : (((rd_T160 l0 x5_1).f0).toList == a1_0.toList) = false := beq_eq_false_iff_ne.mpr c6
    have c6b1 : (((rd_T160 l0 x5_1).f0).toList != a1_0.toList) = true := bne_iff_ne.mpr c6
    have H' := Aside0.mk H
    clear H
    have p119 : 0 ≤ (x5_1 : Int) := of_decide_eq_true (by first | (with_reducible assumption) | assumption)
    have q119 : x5_1 < (l0.length : Int) := of_decide_eq_true (by first | (with_reducible assumption) | assumption)
    obtain ⟨ad119, e119, hx119_0, hx119_1, hx119_2, hx119_3, hx119_4, hx119_5⟩ := at_T160 HR0.out x5_1 p119 q119
    cases e119
    replace hx119_0 := (HB.out.cell (World.block_lt_of_cell? w _ hx119_0)).trans hx119_0
    replace hx119_1 := (HB.out.cell (World.block_lt_of_cell? w _ hx119_1)).trans hx119_1
    replace hx119_2 := (HB.out.cell (World.block_lt_of_cell? w _ hx119_2)).trans hx119_2
    replace hx119_3 := (HB.out.cell (World.block_lt_of_cell? w _ hx119_3)).trans hx119_3
    replace hx119_4 := (HB.out.cell (World.block_lt_of_cell? w _ hx119_4)).trans hx119_4
    replace hx119_5 := (HB.out.cell (World.block_lt_of_cell? w _ hx119_5)).trans hx119_5
    replace p119 := eq_true p119
    replace q119 := eq_true q119
    have hcz12_0 : wr.cell? ⟨gb118, 0, none⟩ = some (.string a1_0) := (qe0 BK118.out 0).trans rfl
    have hcz12_1 : wr.cell? ⟨gb118, 1, none⟩ = some (.string a1_1) := (qe0 BK118.out 1).trans rfl
    have hcz12_2 : wr.cell? ⟨gb118, 2, none⟩ = some (.string a1_2) := (qe0 BK118.out 2).trans rfl
    have hcz12_3 : wr.cell? ⟨gb118, 3, none⟩ = some (.int .i64 a1_3) := (qe0 BK118.out 3).trans rfl
    have hcz12_4 : wr.cell? ⟨gb118, 4, none⟩ = some (.int .i64 a1_4) := (qe0 BK118.out 4).trans rfl
    have hcz12_5 : wr.cell? ⟨gb118, 5, none⟩ = some (.int .i64 a1_5) := (qe0 BK118.out 5).trans rfl
    have hfz12_0 := qd0 BK118.out 0
    have hfz12_1 := qd0 BK118.out 1
    have hfz12_2 := qd0 BK118.out 2
    have hfz12_3 := qd0 BK118.out 3
    have hfz12_4 := qd0 BK118.out 4
    have hfz12_5 := qd0 BK118.out 5
    go_wp2
    repeat (go_quiet (fail); try go_wp2)
    go_roundg k1
    case measure => have := HK1.out; omega
    case rel => exact ⟨(wrap64 (x5_1 + 1)), (by first | rfl | (simp; done) | (simp [*]; done)), H', ⟨by have := HK1.out; omega⟩, ⟨by (with_reducible repeat (first | refine qf0 ?_ _ | refine qj0 ?_ | refine qg0 ?_ _)); exact BK118.out⟩, ⟨by repeat (first | (with_reducible first | exact HB.out | apply qc0 | apply qa0 | apply qb0 | refine qh0 ?_ GE118.out) | exact HB.out)⟩⟩
   rw [if_neg c4] at H
   have c4b0 : decide (x5_1 < (l0.length : Int)) = false := decide_eq_false c4
   clear c4
   obtain rfl := Option.some.inj H
   go_wp2
   repeat (go_quiet (fail); try go_wp2)
   go_ret
   exact ⟨by first | rfl | (simp [errW_none, errW_some] <;> rfl) | (simp [*, errW_none, errW_some] <;> rfl), by repeat (first | (with_reducible first | exact HB.out | apply qc0 | apply qa0 | apply qb0 | refine qh0 ?_ GE118.out) | exact HB.out)⟩

/-! ### spec_StockOk: function 124 -/
def spec_StockOk.l0 : Nat → List (S160) → Int → Option (Bool)
 | 0, _, _ => none
 | k + 1, x0, x3 => if x3 < (x0.length : Int) then (if 0 ≤ x3 then ((spec_l15Cell.f k ((rd_T160 x0 x3).f0) ((rd_T160 x0 x3).f1) ((rd_T160 x0 x3).f2) ((rd_T160 x0 x3).f3) ((rd_T160 x0 x3).f4) ((rd_T160 x0 x3).f5)).bind fun t123 => (if t123 = true then ((spec_l15Find.f k x0 ((rd_T160 x0 x3).f0) ((rd_T160 x0 x3).f1) ((rd_T160 x0 x3).f2) ((rd_T160 x0 x3).f3) ((rd_T160 x0 x3).f4) ((rd_T160 x0 x3).f5)).bind fun t125 => (if t125 = x3 then (spec_StockOk.l0 k x0 (wrap64 (x3 + 1))) else (some false))) else (some false))) else (none)) else (some true)
def spec_StockOk.f (k : Nat) (l0 : List (S160)) : Option (Bool) := if (l0.length : Int) > 100 then (some false) else (spec_StockOk.l0 k l0 0)
theorem spec_StockOk.mono_l : ∀ k, (∀ y0 y1, LeO (spec_StockOk.l0 k y0 y1) (spec_StockOk.l0 (k + 1) y0 y1))
 | 0 => fun _ _ r h => by simp [spec_StockOk.l0] at h
 | k + 1 => by
  have ih0 := spec_StockOk.mono_l k
  ·intro y0 y1
   unfold spec_StockOk.l0
   repeat' first
   | (with_reducible exact ih0 _ _)
   | (with_reducible exact spec_l15Cell.mono _ _ _ _ _ _ _)
   | (with_reducible exact spec_l15Find.mono _ _ _ _ _ _ _ _)
   | (with_reducible exact LeO.refl _)
   | (with_reducible exact LeO.none _)
   | (with_reducible refine LeO.ite ?_ ?_)
   | (with_reducible refine LeO.bind ?_ (fun _ => ?_))
   | exact ih0 _ _
   | exact spec_l15Cell.mono _ _ _ _ _ _ _
   | exact spec_l15Find.mono _ _ _ _ _ _ _ _
   | exact LeO.none _
   | refine LeO.ite ?_ ?_
   | refine LeO.bind ?_ (fun _ => ?_)
theorem spec_StockOk.mono : ∀ a0 k, LeO (spec_StockOk.f k a0) (spec_StockOk.f (k + 1) a0) := by
 intro a0 k
 have ih0 := spec_StockOk.mono_l k
 unfold spec_StockOk.f
 repeat' first
   | (with_reducible exact ih0 _ _)
   | (with_reducible exact spec_l15Cell.mono _ _ _ _ _ _ _)
   | (with_reducible exact spec_l15Find.mono _ _ _ _ _ _ _ _)
   | (with_reducible exact LeO.refl _)
   | (with_reducible exact LeO.none _)
   | (with_reducible refine LeO.ite ?_ ?_)
   | (with_reducible refine LeO.bind ?_ (fun _ => ?_))
   | exact ih0 _ _
   | exact spec_l15Cell.mono _ _ _ _ _ _ _
   | exact spec_l15Find.mono _ _ _ _ _ _ _ _
   | exact LeO.none _
   | refine LeO.ite ?_ ?_
   | refine LeO.bind ?_ (fun _ => ?_)
set_option maxHeartbeats 8000000 in
set_option maxRecDepth 100000 in
theorem spec_StockOk.calls (k : Nat) (A0 : Option Addr) (c0 : Nat) (l0 : List (S160)) (r : Bool) (w : World) (hr0 : Kd.C k160 w A0 l0.length l0) (hc0 : l0.length ≤ c0) (h : spec_StockOk.f k l0 = some r) :
  Calls Try.prog 124 #[.slice A0 l0.length c0] w fun e w' => e = .returned (.bool r) ∧ Below w.heap.size w w' := by
 have hu160 := Try.underlying160
 have HR0 := Aside0.mk hr0
 have HC0 := Aside0.mk hc0
 clear hr0 hc0
 have HB := Aside0.mk (Below.refl w.heap.size w)
 have H : (if (l0.length : Int) > 100 then (some false) else (spec_StockOk.l0 k l0 0)) = some r := h
 clear h
 by_cases c2 : (l0.length : Int) > 100
 ·rw [if_pos c2] at H
  have c2b0 : decide (100 < (l0.length : Int)) = true := decide_eq_true c2
  have c2b1 : decide (100 < l0.length) = true := decide_eq_true (by omega)
  clear c2
  obtain rfl := Option.some.inj H
  go_enter Try.func124, Try.ntmps124
  go_wp2
  go_ret
  exact ⟨by first | rfl | (simp [errW_none, errW_some] <;> rfl) | (simp [*, errW_none, errW_some] <;> rfl), by repeat (first | (with_reducible first | exact HB.out | apply qc0 | apply qa0 | apply qb0) | exact HB.out)⟩
 rw [if_neg c2] at H
 have c2b0 : decide (100 < (l0.length : Int)) = false := decide_eq_false c2
 have c2b1 : decide (100 < l0.length) = false := decide_eq_false (by omega)
 clear c2
 have H' := Aside0.mk H
 clear H
 go_enter Try.func124, Try.ntmps124
 go_wp2
 go_loopg [3] k (fun kq v3 w' => ∃ (x3_1 : Int), v3 = .int .i64 x3_1 ∧ Aside0 (spec_StockOk.l0 kq l0 x3_1 = some r) ∧ Aside0 (kq ≤ k) ∧ Aside0 (Below w.heap.size w w'))
 case atStart => exact ⟨(0), (by first | rfl | (simp; done) | (simp [*]; done)), H', ⟨Nat.le_refl _⟩, ⟨by repeat (first | (with_reducible first | exact HB.out | apply qc0 | apply qa0 | apply qb0) | exact HB.out)⟩⟩
 case round =>
  clear H'
  try clear c1
  try clear c2
  try clear c2b0
  try clear c2b1
  try clear p2
  obtain ⟨x3_1, rfl, HA, HK1, HB⟩ := hrel
  cases gk with
  | zero => exact absurd HA.out (by simp [spec_StockOk.l0])
  | succ k1 =>
   have H := HA.out
   clear HA
   simp only [spec_StockOk.l0] at H
   by_cases c3 : x3_1 < (l0.length : Int)
   ·rw [if_pos c3] at H
    have c3b0 : decide (x3_1 < (l0.length : Int)) = true := decide_eq_true c3
    clear c3
    by_cases c4 : 0 ≤ x3_1
    case neg => rw [if_neg c4] at H; exact absurd H (by simp)
    rw [if_pos c4] at H
    have c4b0 : decide (0 ≤ x3_1) = true := decide_eq_true c4
    clear c4
    replace H := Option.bind_eq_some_iff.mp H
    obtain ⟨t123, A50, H⟩ := H
    replace H : (if t123 = true then ((spec_l15Find.f k1 l0 ((rd_T160 l0 x3_1).f0) ((rd_T160 l0 x3_1).f1) ((rd_T160 l0 x3_1).f2) ((rd_T160 l0 x3_1).f3) ((rd_T160 l0 x3_1).f4) ((rd_T160 l0 x3_1).f5)).bind fun t125 => (if t125 = x3_1 then (spec_StockOk.l0 k1 l0 (wrap64 (x3_1 + 1))) else (some false))) else (some false)) = some r := H
    have A5 := Aside0.mk A50
    clear A50
    by_cases c6 : t123 = true
    ·subst c6
     have H1 : ((spec_l15Find.f k1 l0 ((rd_T160 l0 x3_1).f0) ((rd_T160 l0 x3_1).f1) ((rd_T160 l0 x3_1).f2) ((rd_T160 l0 x3_1).f3) ((rd_T160 l0 x3_1).f4) ((rd_T160 l0 x3_1).f5)).bind fun t125 => (if t125 = x3_1 then (spec_StockOk.l0 k1 l0 (wrap64 (x3_1 + 1))) else (some false))) = some r := by rw [if_pos rfl] at H; exact H
     clear H
     have H := H1
     clear H1
     replace H := Option.bind_eq_some_iff.mp H
     obtain ⟨t125, A70, H⟩ := H
     replace H : (if t125 = x3_1 then (spec_StockOk.l0 k1 l0 (wrap64 (x3_1 + 1))) else (some false)) = some r := H
     have A7 := Aside0.mk A70
     clear A70
     by_cases c8 : t125 = x3_1
     ·rw [if_pos c8] at H
      have c8b0 : (t125 == x3_1) = true := beq_iff_eq.mpr c8
      have c8b1 : (t125 != x3_1) = false := bne_eq_false_iff_eq.mpr c8
      clear c8
      have H' := Aside0.mk H
      clear H
      have p122 : 0 ≤ (x3_1 : Int) := of_decide_eq_true (by first | (with_reducible assumption) | assumption)
      have q122 : x3_1 < (l0.length : Int) := of_decide_eq_true (by first | (with_reducible assumption) | assumption)
      obtain ⟨ad122, e122, hx122_0, hx122_1, hx122_2, hx122_3, hx122_4, hx122_5⟩ := at_T160 HR0.out x3_1 p122 q122
      cases e122
      replace hx122_0 := (HB.out.cell (World.block_lt_of_cell? w _ hx122_0)).trans hx122_0
      replace hx122_1 := (HB.out.cell (World.block_lt_of_cell? w _ hx122_1)).trans hx122_1
      replace hx122_2 := (HB.out.cell (World.block_lt_of_cell? w _ hx122_2)).trans hx122_2
      replace hx122_3 := (HB.out.cell (World.block_lt_of_cell? w _ hx122_3)).trans hx122_3
      replace hx122_4 := (HB.out.cell (World.block_lt_of_cell? w _ hx122_4)).trans hx122_4
      replace hx122_5 := (HB.out.cell (World.block_lt_of_cell? w _ hx122_5)).trans hx122_5
      replace p122 := eq_true p122
      replace q122 := eq_true q122
      go_wp2_with (first | ((with_reducible refine qp0 (f := 169) rfl ?_); refine qy0 (some 17) rfl rfl Try.func169 (by kernel_rfl) rfl #[.agg #[.string ((rd_T160 l0 x3_1).f0), .string ((rd_T160 l0 x3_1).f1), .string ((rd_T160 l0 x3_1).f2), .int .i64 ((rd_T160 l0 x3_1).f3), .int .i64 ((rd_T160 l0 x3_1).f4), .int .i64 ((rd_T160 l0 x3_1).f5)]] rfl (by (try simp only [List.map_toArray, List.map_cons, List.map_nil]); first | done | rfl | (simp only [List.length_drop, List.length_take]; rfl)) ?_; (with_reducible refine (spec_l15Cell.calls k1 ((rd_T160 l0 x3_1).f0) ((rd_T160 l0 x3_1).f1) ((rd_T160 l0 x3_1).f2) ((rd_T160 l0 x3_1).f3) ((rd_T160 l0 x3_1).f4) ((rd_T160 l0 x3_1).f5) true _ A5.out).mono ?_); rintro e w9 ⟨rfl, hb⟩; refine ⟨_, rfl, ?_⟩; have n0_ := Aside0.mk (qm0 (by repeat (first | (with_reducible first | exact HB.out | apply qc0 | apply qa0 | apply qb0) | exact HB.out)) hb); clear HB; have HB := n0_; clear n0_; (try clear hb); (try clear hb2); (try clear hk); (try clear hi); have p124 : 0 ≤ (x3_1 : Int) := of_decide_eq_true (by first | (with_reducible assumption) | assumption); have q124 : x3_1 < (l0.length : Int) := of_decide_eq_true (by first | (with_reducible assumption) | assumption); obtain ⟨ad124, e124, hx124_0, hx124_1, hx124_2, hx124_3, hx124_4, hx124_5⟩ := at_T160 HR0.out x3_1 p124 q124; obtain rfl : ad122 = ad124 := (by injection e124); replace hx124_0 := (HB.out.cell (World.block_lt_of_cell? w _ hx124_0)).trans hx124_0; replace hx124_1 := (HB.out.cell (World.block_lt_of_cell? w _ hx124_1)).trans hx124_1; replace hx124_2 := (HB.out.cell (World.block_lt_of_cell? w _ hx124_2)).trans hx124_2; replace hx124_3 := (HB.out.cell (World.block_lt_of_cell? w _ hx124_3)).trans hx124_3; replace hx124_4 := (HB.out.cell (World.block_lt_of_cell? w _ hx124_4)).trans hx124_4; replace hx124_5 := (HB.out.cell (World.block_lt_of_cell? w _ hx124_5)).trans hx124_5; replace p124 := eq_true p124; replace q124 := eq_true q124) | (go_at_call 170; (with_reducible refine (spec_l15Find.calls k1 _ _ l0 ((rd_T160 l0 x3_1).f0) ((rd_T160 l0 x3_1).f1) ((rd_T160 l0 x3_1).f2) ((rd_T160 l0 x3_1).f3) ((rd_T160 l0 x3_1).f4) ((rd_T160 l0 x3_1).f5) t125 _ ?side1 ?side2 A7.out).mono ?_); (case side1 => repeat (first | exact (Kd.qh1 HR0.out HB.out) | (with_reducible refine Kd.qw0 ?_ _) | (with_reducible refine Kd.qv0 ?_ _) | (with_reducible refine Kd.qz0 ?_))); (case side2 => exact HC0.out); rintro e w10 ⟨rfl, hb⟩; have n0_ := Aside0.mk (qm0 (by repeat (first | (with_reducible first | exact HB.out | apply qc0 | apply qa0 | apply qb0) | exact HB.out)) hb); clear HB; have HB := n0_; clear n0_; (try clear hb); (try clear hb2); (try clear hk); (try clear hi)))
      go_roundg k1
      case measure => have := HK1.out; omega
      case rel => exact ⟨(wrap64 (x3_1 + 1)), (by first | rfl | (simp; done) | (simp [*]; done)), H', ⟨by have := HK1.out; omega⟩, ⟨by repeat (first | (with_reducible first | exact HB.out | apply qc0 | apply qa0 | apply qb0) | exact HB.out)⟩⟩
     rw [if_neg c8] at H
     have c8b0 : (t125 == x3_1) = false := beq_eq_false_iff_ne.mpr c8
     have c8b1 : (t125 != x3_1) = true := bne_iff_ne.mpr c8
     obtain rfl := Option.some.inj H
     have p122 : 0 ≤ (x3_1 : Int) := of_decide_eq_true (by first | (with_reducible assumption) | assumption)
     have q122 : x3_1 < (l0.length : Int) := of_decide_eq_true (by first | (with_reducible assumption) | assumption)
     obtain ⟨ad122, e122, hx122_0, hx122_1, hx122_2, hx122_3, hx122_4, hx122_5⟩ := at_T160 HR0.out x3_1 p122 q122
     cases e122
     replace hx122_0 := (HB.out.cell (World.block_lt_of_cell? w _ hx122_0)).trans hx122_0
     replace hx122_1 := (HB.out.cell (World.block_lt_of_cell? w _ hx122_1)).trans hx122_1
     replace hx122_2 := (HB.out.cell (World.block_lt_of_cell? w _ hx122_2)).trans hx122_2
     replace hx122_3 := (HB.out.cell (World.block_lt_of_cell? w _ hx122_3)).trans hx122_3
     replace hx122_4 := (HB.out.cell (World.block_lt_of_cell? w _ hx122_4)).trans hx122_4
     replace hx122_5 := (HB.out.cell (World.block_lt_of_cell? w _ hx122_5)).trans hx122_5
     replace p122 := eq_true p122
     replace q122 := eq_true q122
     go_wp2_with (first | ((with_reducible refine qp0 (f := 169) rfl ?_); refine qy0 (some 17) rfl rfl Try.func169 (by kernel_rfl) rfl #[.agg #[.string ((rd_T160 l0 x3_1).f0), .string ((rd_T160 l0 x3_1).f1), .string ((rd_T160 l0 x3_1).f2), .int .i64 ((rd_T160 l0 x3_1).f3), .int .i64 ((rd_T160 l0 x3_1).f4), .int .i64 ((rd_T160 l0 x3_1).f5)]] rfl (by (try simp only [List.map_toArray, List.map_cons, List.map_nil]); first | done | rfl | (simp only [List.length_drop, List.length_take]; rfl)) ?_; (with_reducible refine (spec_l15Cell.calls k1 ((rd_T160 l0 x3_1).f0) ((rd_T160 l0 x3_1).f1) ((rd_T160 l0 x3_1).f2) ((rd_T160 l0 x3_1).f3) ((rd_T160 l0 x3_1).f4) ((rd_T160 l0 x3_1).f5) true _ A5.out).mono ?_); rintro e w11 ⟨rfl, hb⟩; refine ⟨_, rfl, ?_⟩; have n0_ := Aside0.mk (qm0 (by repeat (first | (with_reducible first | exact HB.out | apply qc0 | apply qa0 | apply qb0) | exact HB.out)) hb); clear HB; have HB := n0_; clear n0_; (try clear hb); (try clear hb2); (try clear hk); (try clear hi); have p124 : 0 ≤ (x3_1 : Int) := of_decide_eq_true (by first | (with_reducible assumption) | assumption); have q124 : x3_1 < (l0.length : Int) := of_decide_eq_true (by first | (with_reducible assumption) | assumption); obtain ⟨ad124, e124, hx124_0, hx124_1, hx124_2, hx124_3, hx124_4, hx124_5⟩ := at_T160 HR0.out x3_1 p124 q124; obtain rfl : ad122 = ad124 := (by injection e124); replace hx124_0 := (HB.out.cell (World.block_lt_of_cell? w _ hx124_0)).trans hx124_0; replace hx124_1 := (HB.out.cell (World.block_lt_of_cell? w _ hx124_1)).trans hx124_1; replace hx124_2 := (HB.out.cell (World.block_lt_of_cell? w _ hx124_2)).trans hx124_2; replace hx124_3 := (HB.out.cell (World.block_lt_of_cell? w _ hx124_3)).trans hx124_3; replace hx124_4 := (HB.out.cell (World.block_lt_of_cell? w _ hx124_4)).trans hx124_4; replace hx124_5 := (HB.out.cell (World.block_lt_of_cell? w _ hx124_5)).trans hx124_5; replace p124 := eq_true p124; replace q124 := eq_true q124) | (go_at_call 170; (with_reducible refine (spec_l15Find.calls k1 _ _ l0 ((rd_T160 l0 x3_1).f0) ((rd_T160 l0 x3_1).f1) ((rd_T160 l0 x3_1).f2) ((rd_T160 l0 x3_1).f3) ((rd_T160 l0 x3_1).f4) ((rd_T160 l0 x3_1).f5) t125 _ ?side1 ?side2 A7.out).mono ?_); (case side1 => repeat (first | exact (Kd.qh1 HR0.out HB.out) | (with_reducible refine Kd.qw0 ?_ _) | (with_reducible refine Kd.qv0 ?_ _) | (with_reducible refine Kd.qz0 ?_))); (case side2 => exact HC0.out); rintro e w12 ⟨rfl, hb⟩; have n0_ := Aside0.mk (qm0 (by repeat (first | (with_reducible first | exact HB.out | apply qc0 | apply qa0 | apply qb0) | exact HB.out)) hb); clear HB; have HB := n0_; clear n0_; (try clear hb); (try clear hb2); (try clear hk); (try clear hi)))
     go_ret
     exact ⟨by first | rfl | (simp [errW_none, errW_some] <;> rfl) | (simp [*, errW_none, errW_some] <;> rfl), by repeat (first | (with_reducible first | exact HB.out | apply qc0 | apply qa0 | apply qb0) | exact HB.out)⟩
    replace c6 := Bool.eq_false_iff.mpr c6
    subst c6
    have H1 : (some false) = some r := by rw [if_neg (show ¬ (false = true) by decide)] at H; exact H
    clear H
    have H := H1
    clear H1
    obtain rfl := Option.some.inj H
    have p122 : 0 ≤ (x3_1 : Int) := of_decide_eq_true (by first | (with_reducible assumption) | assumption)
    have q122 : x3_1 < (l0.length : Int) := of_decide_eq_true (by first | (with_reducible assumption) | assumption)
    obtain ⟨ad122, e122, hx122_0, hx122_1, hx122_2, hx122_3, hx122_4, hx122_5⟩ := at_T160 HR0.out x3_1 p122 q122
    cases e122
    replace hx122_0 := (HB.out.cell (World.block_lt_of_cell? w _ hx122_0)).trans hx122_0
    replace hx122_1 := (HB.out.cell (World.block_lt_of_cell? w _ hx122_1)).trans hx122_1
    replace hx122_2 := (HB.out.cell (World.block_lt_of_cell? w _ hx122_2)).trans hx122_2
    replace hx122_3 := (HB.out.cell (World.block_lt_of_cell? w _ hx122_3)).trans hx122_3
    replace hx122_4 := (HB.out.cell (World.block_lt_of_cell? w _ hx122_4)).trans hx122_4
    replace hx122_5 := (HB.out.cell (World.block_lt_of_cell? w _ hx122_5)).trans hx122_5
    replace p122 := eq_true p122
    replace q122 := eq_true q122
    go_wp2_with (first | ((with_reducible refine qp0 (f := 169) rfl ?_); refine qy0 (some 17) rfl rfl Try.func169 (by kernel_rfl) rfl #[.agg #[.string ((rd_T160 l0 x3_1).f0), .string ((rd_T160 l0 x3_1).f1), .string ((rd_T160 l0 x3_1).f2), .int .i64 ((rd_T160 l0 x3_1).f3), .int .i64 ((rd_T160 l0 x3_1).f4), .int .i64 ((rd_T160 l0 x3_1).f5)]] rfl (by (try simp only [List.map_toArray, List.map_cons, List.map_nil]); first | done | rfl | (simp only [List.length_drop, List.length_take]; rfl)) ?_; (with_reducible refine (spec_l15Cell.calls k1 ((rd_T160 l0 x3_1).f0) ((rd_T160 l0 x3_1).f1) ((rd_T160 l0 x3_1).f2) ((rd_T160 l0 x3_1).f3) ((rd_T160 l0 x3_1).f4) ((rd_T160 l0 x3_1).f5) false _ A5.out).mono ?_); rintro e w13 ⟨rfl, hb⟩; refine ⟨_, rfl, ?_⟩; have n0_ := Aside0.mk (qm0 (by repeat (first | (with_reducible first | exact HB.out | apply qc0 | apply qa0 | apply qb0) | exact HB.out)) hb); clear HB; have HB := n0_; clear n0_; (try clear hb); (try clear hb2); (try clear hk); (try clear hi)))
    go_ret
    exact ⟨by first | rfl | (simp [errW_none, errW_some] <;> rfl) | (simp [*, errW_none, errW_some] <;> rfl), by repeat (first | (with_reducible first | exact HB.out | apply qc0 | apply qa0 | apply qb0) | exact HB.out)⟩
   rw [if_neg c3] at H
   have c3b0 : decide (x3_1 < (l0.length : Int)) = false := decide_eq_false c3
   clear c3
   obtain rfl := Option.some.inj H
   go_wp2
   go_ret
   exact ⟨by first | rfl | (simp [errW_none, errW_some] <;> rfl) | (simp [*, errW_none, errW_some] <;> rfl), by repeat (first | (with_reducible first | exact HB.out | apply qc0 | apply qa0 | apply qb0) | exact HB.out)⟩

end Go.Proofs.Ytlodndejipjceaa.PFnExactPicks
