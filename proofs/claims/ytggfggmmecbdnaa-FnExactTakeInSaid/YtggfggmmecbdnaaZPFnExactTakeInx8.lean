/- Lines by a program (a changed copy of the kit's print: this repo's wip/tools): Go functions as Lean functions, and proofs that the calls answer so. -/
import Derived.Test.YtggfggmmecbdnaaZPFnExactTakeInx0
import Derived.Test.YtggfggmmecbdnaaZPFnExactTakeInx7
namespace Go.Proofs.Ytggfggmmecbdnaa.PFnExactTakeIn
open Go.RowKit Go.Proofs.YtggfggmmecbdnaaW.PrintWords Go.Proofs.YtggfggmmecbdnaaW.PrintLast Go.Proofs.YtggfggmmecbdnaaW.PrintMore
/-- Closing blocks told once. -/
theorem z8_0 {P : Prop} (h : P := by repeat (first | (with_reducible first | exact HB.out | apply qk0 | apply qh0 | apply qi0) | exact HB.out)) : P := h
theorem z8_1 {P : Prop} (h : P := by rw [hg]; exact (qn0 (by repeat (first | (with_reducible first | exact HB.out | apply qk0 | apply qh0 | apply qi0) | exact HB.out)))) : P := h
theorem z8_2 {P : Prop} (h : P := by repeat (first | exact (Kd.C_below HR0_2.out HB.out) | (with_reducible refine Kd.C_alloc ?_ _) | (with_reducible refine Kd.C_drewN ?_ _) | (with_reducible refine Kd.C_drew ?_))) : P := h
theorem z8_3 {P : Prop} (h : P := by repeat (first | (with_reducible first | exact HB.out | apply qk0 | apply qh0 | apply qi0 | refine ql0 ?_ GE223.out) | exact HB.out)) : P := h
theorem z8_4 {P : Prop} (h : P := by (try simp only [List.map_toArray, List.map_cons, List.map_nil]); first | done | rfl | (simp only [List.length_drop, List.length_take]; rfl)) : P := h
attribute [local go_sem] max2_int min2_int max_two min_two max_three min_three max_four min_four   -- for this text's walks alone
set_option linter.unusedVariables false
set_option linter.unusedSimpArgs false

/-! ### laws_heldWorth: function 17 -/
def laws_heldWorth.f (k : Nat) (a0_0 : Int) (a0_1 : Int) (l0_2 : List (S59)) (a0_3 : Int) (a1 : Int) : Option (Int) := (laws_heldLayS.f k l0_2 a1).bind fun t224 => (if t224 < 0 then (some (-1)) else (some t224))
theorem laws_heldWorth.mono : ∀ a0 a1 a2 a3 a4 k, LeO (laws_heldWorth.f k a0 a1 a2 a3 a4) (laws_heldWorth.f (k + 1) a0 a1 a2 a3 a4) := by
 intro a0 a1 a2 a3 a4 k
 unfold laws_heldWorth.f
 repeat' first
   | (with_reducible exact laws_heldLayS.mono _ _ _)
   | (with_reducible exact LeO.refl _)
   | (with_reducible exact LeO.none _)
   | (with_reducible refine LeO.ite ?_ ?_)
   | (with_reducible refine LeO.bind ?_ (fun _ => ?_))
   | exact laws_heldLayS.mono _ _ _
   | exact LeO.none _
   | refine LeO.ite ?_ ?_
   | refine LeO.bind ?_ (fun _ => ?_)
set_option maxHeartbeats 8000000 in
set_option maxRecDepth 100000 in
theorem laws_heldWorth.calls (k : Nat) (a0_0 : Int) (a0_1 : Int) (A0_2 : Option Addr) (c0_2 : Nat) (l0_2 : List (S59)) (a0_3 : Int) (a1 : Int) (r : Int) (w : World) (hr0_2 : Kd.C k59 w A0_2 l0_2.length l0_2) (hc0_2 : l0_2.length ≤ c0_2) (h : laws_heldWorth.f k a0_0 a0_1 l0_2 a0_3 a1 = some r) :
  Calls Try.prog 17 #[.agg #[.int .i64 a0_0, .int .i64 a0_1, .slice A0_2 l0_2.length c0_2, .int .i64 a0_3], .int .i64 a1] w fun e w' => e = .returned (.int .i64 r) ∧ Below w.heap.size w w' := by
 have hu37 := Try.underlying37
 have HR0_2 := Aside0.mk hr0_2
 have HC0_2 := Aside0.mk hc0_2
 clear hr0_2 hc0_2
 have HB := Aside0.mk (Below.refl w.heap.size w)
 have H : ((laws_heldLayS.f k l0_2 a1).bind fun t224 => (if t224 < 0 then (some (-1)) else (some t224))) = some r := h
 clear h
 replace H := Option.bind_eq_some_iff.mp H
 obtain ⟨t224, A30, H⟩ := H
 replace H : (if t224 < 0 then (some (-1)) else (some t224)) = some r := H
 have A3 := Aside0.mk A30
 clear A30
 by_cases c4 : t224 < 0
 ·rw [if_pos c4] at H
  have c4b0 : decide (t224 < 0) = true := decide_eq_true c4
  clear c4
  obtain rfl := Option.some.inj H
  go_enter Try.func17, Try.ntmps17
  go_wp2_with (first | ((with_reducible refine qr0 (N := 2) rfl ?_); refine qo0 ?hg (N := 2) ?hd (cs := #[.int .i64 a0_0, .int .i64 a0_1, .slice A0_2 l0_2.length c0_2, .int .i64 a0_3]) (t := 37) ?hr ?_; (case hd => rfl); (case hg => rfl); (case hr => first | (go_simp; done) | (go_simp; rfl)); intro gb223 hg w5 hbox hb; have n0_ := Aside0.mk (qg0 z8_0 hb); have n1_ := Aside0.mk (hbox); have n2_ := Aside0.mk ((z8_1 : w.heap.size ≤ gb223)); have n3_ := Aside0.mk ((z8_1 : w.heap.size ≤ gb223)); clear HB; have HB := n0_; have BK223 := n1_; have GW223 := n2_; have GE223 := n3_; clear n0_ n1_ n2_ n3_; clear hb hbox hg; have hcz6_0 : w5.cell? ⟨gb223, 0, none⟩ = some (.int .i64 a0_0) := (qb0 BK223.out 0).trans rfl; have hcz6_1 : w5.cell? ⟨gb223, 1, none⟩ = some (.int .i64 a0_1) := (qb0 BK223.out 1).trans rfl; have hcz6_2 : w5.cell? ⟨gb223, 2, none⟩ = some (.slice A0_2 l0_2.length c0_2) := (qb0 BK223.out 2).trans rfl; have hcz6_3 : w5.cell? ⟨gb223, 3, none⟩ = some (.int .i64 a0_3) := (qb0 BK223.out 3).trans rfl; have hfz6_0 := qa0 BK223.out 0; have hfz6_1 := qa0 BK223.out 1; have hfz6_2 := qa0 BK223.out 2; have hfz6_3 := qa0 BK223.out 3) | ((with_reducible refine qj0 (f := 42) rfl ?_); refine qy0 (some 8) rfl rfl Try.func42 (by kernel_rfl) rfl #[.slice A0_2 l0_2.length c0_2, .int .i64 a1] rfl z8_4 ?_; (with_reducible refine (laws_heldLayS.calls k _ _ l0_2 a1 t224 _ ?side1 ?side2 A3.out).mono ?_); (case side1 => exact z8_2); (case side2 => exact HC0_2.out); rintro e w' ⟨rfl, ⟨nd, rfl⟩⟩; refine ⟨_, rfl, ?_⟩))
  go_ret
  exact ⟨by first | rfl | (simp [errW_none, errW_some] <;> rfl) | (simp [*, errW_none, errW_some] <;> rfl), z8_3⟩
 rw [if_neg c4] at H
 have c4b0 : decide (t224 < 0) = false := decide_eq_false c4
 clear c4
 obtain rfl := Option.some.inj H
 go_enter Try.func17, Try.ntmps17
 go_wp2_with (first | ((with_reducible refine qr0 (N := 2) rfl ?_); refine qo0 ?hg (N := 2) ?hd (cs := #[.int .i64 a0_0, .int .i64 a0_1, .slice A0_2 l0_2.length c0_2, .int .i64 a0_3]) (t := 37) ?hr ?_; (case hd => rfl); (case hg => rfl); (case hr => first | (go_simp; done) | (go_simp; rfl)); intro gb223 hg w7 hbox hb; have n0_ := Aside0.mk (qg0 z8_0 hb); have n1_ := Aside0.mk (hbox); have n2_ := Aside0.mk ((z8_1 : w.heap.size ≤ gb223)); have n3_ := Aside0.mk ((z8_1 : w.heap.size ≤ gb223)); clear HB; have HB := n0_; have BK223 := n1_; have GW223 := n2_; have GE223 := n3_; clear n0_ n1_ n2_ n3_; clear hb hbox hg; have hcz8_0 : w7.cell? ⟨gb223, 0, none⟩ = some (.int .i64 a0_0) := (qb0 BK223.out 0).trans rfl; have hcz8_1 : w7.cell? ⟨gb223, 1, none⟩ = some (.int .i64 a0_1) := (qb0 BK223.out 1).trans rfl; have hcz8_2 : w7.cell? ⟨gb223, 2, none⟩ = some (.slice A0_2 l0_2.length c0_2) := (qb0 BK223.out 2).trans rfl; have hcz8_3 : w7.cell? ⟨gb223, 3, none⟩ = some (.int .i64 a0_3) := (qb0 BK223.out 3).trans rfl; have hfz8_0 := qa0 BK223.out 0; have hfz8_1 := qa0 BK223.out 1; have hfz8_2 := qa0 BK223.out 2; have hfz8_3 := qa0 BK223.out 3) | ((with_reducible refine qj0 (f := 42) rfl ?_); refine qy0 (some 8) rfl rfl Try.func42 (by kernel_rfl) rfl #[.slice A0_2 l0_2.length c0_2, .int .i64 a1] rfl z8_4 ?_; (with_reducible refine (laws_heldLayS.calls k _ _ l0_2 a1 t224 _ ?side1 ?side2 A3.out).mono ?_); (case side1 => exact z8_2); (case side2 => exact HC0_2.out); rintro e w' ⟨rfl, ⟨nd, rfl⟩⟩; refine ⟨_, rfl, ?_⟩))
 go_ret
 exact ⟨by first | rfl | (simp [errW_none, errW_some] <;> rfl) | (simp [*, errW_none, errW_some] <;> rfl), z8_3⟩

end Go.Proofs.Ytggfggmmecbdnaa.PFnExactTakeIn
