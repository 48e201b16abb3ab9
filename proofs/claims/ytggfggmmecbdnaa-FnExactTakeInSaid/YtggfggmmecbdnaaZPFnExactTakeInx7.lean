/- Lines by a program (a changed copy of the kit's print: this repo's wip/tools): Go functions as Lean functions, and proofs that the calls answer so. -/
import Derived.Test.YtggfggmmecbdnaaZPFnExactTakeInx0
import Derived.Test.YtggfggmmecbdnaaZPFnExactTakeInx4
import Derived.Test.YtggfggmmecbdnaaZPFnExactTakeInx6
namespace Go.Proofs.Ytggfggmmecbdnaa.PFnExactTakeIn
open Go.RowKit Go.Proofs.YtggfggmmecbdnaaW.PrintWords Go.Proofs.YtggfggmmecbdnaaW.PrintLast Go.Proofs.YtggfggmmecbdnaaW.PrintMore
/-- Closing blocks told once. -/
theorem z7_0 {P : Prop} (h : P := by repeat (first | (with_reducible first | exact HB.out | apply qk0 | apply qh0 | apply qi0) | exact HB.out)) : P := h
theorem z7_1 {P : Prop} (h : P := by rw [hg]; exact (qn0 (by repeat (first | (with_reducible first | exact HB.out | apply qk0 | apply qh0 | apply qi0) | exact HB.out)))) : P := h
theorem z7_2 {P : Prop} (h : P := by repeat (first | (with_reducible first | exact HB.out | apply qk0 | apply qh0 | apply qi0 | refine ql0 ?_ GE213.out) | exact HB.out)) : P := h
theorem z7_3 {P : Prop} (h : P := by (with_reducible repeat (first | refine qc0 ?_ _ | refine qe0 ?_ | refine qd0 ?_ _)); exact BK213.out) : P := h
theorem z7_4 {P : Prop} (h : P := by rw [hg]; exact (qn0 (by repeat (first | (with_reducible first | exact HB.out | apply qk0 | apply qh0 | apply qi0 | refine ql0 ?_ GE213.out) | exact HB.out)))) : P := h
theorem z7_5 {P : Prop} (h : P := by repeat (first | (with_reducible first | exact HB.out | apply qk0 | apply qh0 | apply qi0 | refine ql0 ?_ GE213.out | refine ql0 ?_ GE214.out) | exact HB.out)) : P := h
theorem z7_6 {P : Prop} (h : P := by repeat (first | (with_reducible first | exact HB.out | apply qk0 | apply qh0 | apply qi0 | refine ql0 ?_ GE208.out) | exact HB.out)) : P := h
theorem z7_7 {P : Prop} (h : P := by first | (with_reducible assumption) | assumption) : P := h
theorem z7_8 {P : Prop} (h : P := by first | rfl | (simp [errW_none, errW_some] <;> rfl) | (simp [*, errW_none, errW_some] <;> rfl)) : P := h
theorem z7_9 {P : Prop} (h : P := by rw [hg]; exact Nat.ne_of_lt (qe1 (g := gb213) (o := .cells #[.int .i64 a0_0, .int .i64 a0_1, .slice A0_2 l0_2.length c0_2, .int .i64 a0_3] 37 (0, 0)) (by (with_reducible repeat (first | refine qc0 ?_ _ | refine qe0 ?_ | refine qd0 ?_ _)); exact BK213.out))) : P := h
theorem z7_10 {P : Prop} (h : P := by rw [hg]; exact Nat.ne_of_gt (qe1 (g := gb213) (o := .cells #[.int .i64 a0_0, .int .i64 a0_1, .slice A0_2 l0_2.length c0_2, .int .i64 a0_3] 37 (0, 0)) (by (with_reducible repeat (first | refine qc0 ?_ _ | refine qe0 ?_ | refine qd0 ?_ _)); exact BK213.out))) : P := h
theorem z7_11 {P : Prop} (h : P := by (try simp only [List.map_toArray, List.map_cons, List.map_nil]); first | done | rfl | (simp only [List.length_drop, List.length_take]; rfl)) : P := h
theorem z7_12 {P : Prop} (h : P := by rw [hg]; exact (qn0 (by repeat (first | (with_reducible first | exact HB.out | apply qk0 | apply qh0 | apply qi0 | refine ql0 ?_ GE208.out) | exact HB.out)))) : P := h
theorem z7_13 {P : Prop} (h : P := by repeat (first | (with_reducible first | exact HB.out | apply qk0 | apply qh0 | apply qi0 | refine ql0 ?_ GE198.out | refine ql0 ?_ GE199.out) | exact HB.out)) : P := h
theorem z7_14 {P : Prop} (h : P := by (with_reducible repeat (first | refine qc0 ?_ _ | refine qe0 ?_ | refine qd0 ?_ _)); exact BK198.out) : P := h
theorem z7_15 {P : Prop} (h : P := by (with_reducible repeat (first | refine qc0 ?_ _ | refine qe0 ?_ | refine qd0 ?_ _)); exact BK208.out) : P := h
theorem z7_16 {P : Prop} (h : P := by repeat (first | exact (Kd.C_below HR0_2.out HB.out) | (with_reducible refine Kd.C_alloc ?_ _) | (with_reducible refine Kd.C_drewN ?_ _) | (with_reducible refine Kd.C_drew ?_))) : P := h
theorem z7_17 {P : Prop} (h : P := by repeat (first | (with_reducible first | exact HB.out | apply qk0 | apply qh0 | apply qi0 | refine ql0 ?_ GE198.out) | exact HB.out)) : P := h
theorem z7_18 {P : Prop} (h : P := by first | (go_simp; done) | (go_simp; rfl)) : P := h
theorem z7_19 {P : Prop} (h : P := by repeat (first | (with_reducible first | exact HK.out | apply Kept.alloc | apply Kept.drewN | apply Kept.drew) | exact HK.out)) : P := h
theorem z7_20 {P : Prop} (h : P := by rw [hg]; exact (qn0 (by repeat (first | (with_reducible first | exact HB.out | apply qk0 | apply qh0 | apply qi0 | refine ql0 ?_ GE198.out) | exact HB.out)))) : P := h
theorem z7_21 {P : Prop} (h : P := by rw [hg]; exact Nat.ne_of_lt (qe1 (g := gb208) (o := .cells #[.int .i64 a0_0, .int .i64 a0_1] 59 (0, 0)) (by (with_reducible repeat (first | refine qc0 ?_ _ | refine qe0 ?_ | refine qd0 ?_ _)); exact BK208.out))) : P := h
theorem z7_22 {P : Prop} (h : P := by rw [hg]; exact Nat.ne_of_gt (qe1 (g := gb208) (o := .cells #[.int .i64 a0_0, .int .i64 a0_1] 59 (0, 0)) (by (with_reducible repeat (first | refine qc0 ?_ _ | refine qe0 ?_ | refine qd0 ?_ _)); exact BK208.out))) : P := h
theorem z7_23 {P : Prop} (h : P := by repeat (first | (with_reducible first | exact HB.out | apply qk0 | apply qh0 | apply qi0 | refine ql0 ?_ GE208.out | refine ql0 ?_ GE209.out) | exact HB.out)) : P := h
theorem z7_24 {P : Prop} (h : P := by first | rfl | (simp; done) | (simp [*]; done)) : P := h
theorem z7_25 {P : Prop} (h : P := by rw [hg]; exact Nat.ne_of_lt (qe1 (g := gb198) (o := .cells #[.int .i64 a0_0, .int .i64 a0_1, .slice A0_2 l0_2.length c0_2, .int .i64 a0_3] 37 (0, 0)) (by (with_reducible repeat (first | refine qc0 ?_ _ | refine qe0 ?_ | refine qd0 ?_ _)); exact BK198.out))) : P := h
theorem z7_26 {P : Prop} (h : P := by rw [hg]; exact Nat.ne_of_gt (qe1 (g := gb198) (o := .cells #[.int .i64 a0_0, .int .i64 a0_1, .slice A0_2 l0_2.length c0_2, .int .i64 a0_3] 37 (0, 0)) (by (with_reducible repeat (first | refine qc0 ?_ _ | refine qe0 ?_ | refine qd0 ?_ _)); exact BK198.out))) : P := h
theorem z7_27 {P : Prop} (h : P := by repeat (first | exact (Kd.C_below HR1_2.out HB.out) | (with_reducible refine Kd.C_alloc ?_ _) | (with_reducible refine Kd.C_drewN ?_ _) | (with_reducible refine Kd.C_drew ?_))) : P := h
theorem z7_28 {P : Prop} (h : P := by (with_reducible repeat (first | apply Kd.qu0 | apply Kd.qt0 | apply Kd.qx0)); exact HO_0.out) : P := h
theorem z7_29 {P : Prop} (h : P := by (with_reducible repeat (first | refine qc0 ?_ _ | refine qe0 ?_ | refine qd0 ?_ _)); exact BK199.out) : P := h
theorem z7_30 {P : Prop} (h : P := by (with_reducible repeat (first | refine qc0 ?_ _ | refine qe0 ?_ | refine qd0 ?_ _)); exact BK214.out) : P := h
theorem z7_31 {P : Prop} (h : P := by kernel_rfl) : P := h
theorem z7_32 {P : Prop} (h : P := by repeat (first | (with_reducible first | exact HK.out | apply Kept.alloc | apply Kept.drewN | apply Kept.drew | refine Kept.setCell ?_ (.inr GW218.out) _) | exact HK.out)) : P := h
theorem z7_33 {P : Prop} (h : P := by repeat (first | (with_reducible first | exact HB.out | apply qk0 | apply qh0 | apply qi0 | refine ql0 ?_ GE218.out) | exact HB.out)) : P := h
theorem z7_34 {P : Prop} (h : P := by repeat (first | exact Drawn0.refl _ | apply Drawn0.step)) : P := h
attribute [local go_sem] max2_int min2_int max_two min_two max_three min_three max_four min_four   -- for this text's walks alone
set_option linter.unusedVariables false
set_option linter.unusedSimpArgs false

/-! ### impl_TakeIn: function 14 -/
def impl_TakeIn.f (k : Nat) (a0_0 : Int) (a0_1 : Int) (l0_2 : List (S59)) (a0_3 : Int) (a1 : Int) (a2 : Int) : Option (Int × Int × (List (S59)) × Int × Bool) := (impl_WorthOk.f k a0_0 a0_1 l0_2 a0_3).bind fun t200 => (if t200 = true then ((impl_takeIn.f k a0_0 a0_1 l0_2 a0_3 a1 a2).bind fun bt201 => (some (bt201.1, bt201.2.1, bt201.2.2.1, bt201.2.2.2.1, bt201.2.2.2.2))) else (some (0, 0, ([] : List (S59)), 0, false)))
theorem impl_TakeIn.mono : ∀ a0 a1 a2 a3 a4 a5 k, LeO (impl_TakeIn.f k a0 a1 a2 a3 a4 a5) (impl_TakeIn.f (k + 1) a0 a1 a2 a3 a4 a5) := by
 intro a0 a1 a2 a3 a4 a5 k
 unfold impl_TakeIn.f
 repeat' first
   | (with_reducible exact impl_WorthOk.mono _ _ _ _ _)
   | (with_reducible exact impl_takeIn.mono _ _ _ _ _ _ _)
   | (with_reducible exact LeO.refl _)
   | (with_reducible exact LeO.none _)
   | (with_reducible refine LeO.ite ?_ ?_)
   | (with_reducible refine LeO.bind ?_ (fun _ => ?_))
   | exact impl_WorthOk.mono _ _ _ _ _
   | exact impl_takeIn.mono _ _ _ _ _ _ _
   | exact LeO.none _
   | refine LeO.ite ?_ ?_
   | refine LeO.bind ?_ (fun _ => ?_)
set_option maxHeartbeats 8000000 in
set_option maxRecDepth 100000 in
theorem impl_TakeIn.calls (k : Nat) (a0_0 : Int) (a0_1 : Int) (A0_2 : Option Addr) (c0_2 : Nat) (l0_2 : List (S59)) (a0_3 : Int) (a1 : Int) (a2 : Int) (r1 : Int) (r2 : Int) (r3 : List (S59)) (r4 : Int) (r5 : Bool) (w : World) (hr0_2 : Kd.C k59 w A0_2 l0_2.length l0_2) (hc0_2 : l0_2.length ≤ c0_2) (h : impl_TakeIn.f k a0_0 a0_1 l0_2 a0_3 a1 a2 = some (r1, r2, r3, r4, r5)) :
  Calls Try.prog 14 #[.agg #[.int .i64 a0_0, .int .i64 a0_1, .slice A0_2 l0_2.length c0_2, .int .i64 a0_3], .int .i64 a1, .int .i64 a2] w fun e w' => ∃ v2_ : Value, e = .returned (.tuple #[.agg #[.int .i64 r1, .int .i64 r2, v2_, .int .i64 r4], .bool r5]) ∧ Kd.R k59 59 w' w.heap.size (fun _ => True) v2_ r3 ∧ Below w.heap.size w w' := by
 have hu37 := Try.underlying37
 have HR0_2 := Aside0.mk hr0_2
 have HC0_2 := Aside0.mk hc0_2
 clear hr0_2 hc0_2
 have HB := Aside0.mk (Below.refl w.heap.size w)
 have H : ((impl_WorthOk.f k a0_0 a0_1 l0_2 a0_3).bind fun t200 => (if t200 = true then ((impl_takeIn.f k a0_0 a0_1 l0_2 a0_3 a1 a2).bind fun bt201 => (some (bt201.1, bt201.2.1, bt201.2.2.1, bt201.2.2.2.1, bt201.2.2.2.2))) else (some (0, 0, ([] : List (S59)), 0, false)))) = some (r1, r2, r3, r4, r5) := h
 clear h
 replace H := Option.bind_eq_some_iff.mp H
 obtain ⟨t200, A40, H⟩ := H
 replace H : (if t200 = true then ((impl_takeIn.f k a0_0 a0_1 l0_2 a0_3 a1 a2).bind fun bt201 => (some (bt201.1, bt201.2.1, bt201.2.2.1, bt201.2.2.2.1, bt201.2.2.2.2))) else (some (0, 0, ([] : List (S59)), 0, false))) = some (r1, r2, r3, r4, r5) := H
 have A4 := Aside0.mk A40
 clear A40
 by_cases c5 : t200 = true
 ·subst c5
  have H1 : ((impl_takeIn.f k a0_0 a0_1 l0_2 a0_3 a1 a2).bind fun bt201 => (some (bt201.1, bt201.2.1, bt201.2.2.1, bt201.2.2.2.1, bt201.2.2.2.2))) = some (r1, r2, r3, r4, r5) := by rw [if_pos rfl] at H; exact H
  clear H
  have H := H1
  clear H1
  replace H := Option.bind_eq_some_iff.mp H
  obtain ⟨⟨t201, t202, t203, t206, t207⟩, A60, H⟩ := H
  replace H : (some (t201, t202, t203, t206, t207)) = some (r1, r2, r3, r4, r5) := H
  have A6 := Aside0.mk A60
  clear A60
  simp only [Option.some.injEq, Prod.mk.injEq] at H
  obtain ⟨rfl, rfl, rfl, rfl, rfl⟩ := H
  go_enter Try.func14, Try.ntmps14
  go_wp2_with (first | ((with_reducible refine qr0 (N := 3) rfl ?_); refine qo0 ?hg (N := 3) ?hd (cs := #[.int .i64 a0_0, .int .i64 a0_1, .slice A0_2 l0_2.length c0_2, .int .i64 a0_3]) (t := 37) ?hr ?_; (case hd => rfl); (case hg => rfl); (case hr => exact z7_18); intro gb198 hg w7 hbox hb; have n0_ := Aside0.mk (qg0 z7_0 hb); have n1_ := Aside0.mk (hbox); have n2_ := Aside0.mk ((z7_1 : w.heap.size ≤ gb198)); have n3_ := Aside0.mk ((z7_1 : w.heap.size ≤ gb198)); clear HB; have HB := n0_; have BK198 := n1_; have GW198 := n2_; have GE198 := n3_; clear n0_ n1_ n2_ n3_; clear hb hbox hg) | ((with_reducible refine qr0 (N := 6) rfl ?_); refine qo0 ?hg (N := 6) ?hd (cs := #[.int .i64 0, .int .i64 0, .slice none 0 0, .int .i64 0]) (t := 37) ?hr ?_; (case hd => rfl); (case hg => rfl); (case hr => exact z7_18); intro gb199 hg w8 hbox hb; have n0_ := Aside0.mk (qf0 (g := gb198) (o := .cells #[.int .i64 a0_0, .int .i64 a0_1, .slice A0_2 l0_2.length c0_2, .int .i64 a0_3] 37 (0, 0)) z7_14 hb); have n1_ := Aside0.mk (qg0 z7_17 hb); have n2_ := Aside0.mk (hbox); have n3_ := Aside0.mk ((z7_20 : w.heap.size ≤ gb199)); have n4_ := Aside0.mk ((z7_20 : w.heap.size ≤ gb199)); have n5_ := Aside0.mk ((z7_25 : gb198 ≠ gb199)); have n6_ := Aside0.mk ((z7_26 : gb199 ≠ gb198)); clear BK198; clear HB; have BK198 := n0_; have HB := n1_; have BK199 := n2_; have GW199 := n3_; have GE199 := n4_; have NB198_199 := n5_; have NB199_198 := n6_; clear n0_ n1_ n2_ n3_ n4_ n5_ n6_; clear hb hbox hg; have hnb9 := NB198_199.out; have hnc9 := NB199_198.out; have hcz10_0 : w8.cell? ⟨gb198, 0, none⟩ = some (.int .i64 a0_0) := (qb0 BK198.out 0).trans rfl; have hcz10_1 : w8.cell? ⟨gb198, 1, none⟩ = some (.int .i64 a0_1) := (qb0 BK198.out 1).trans rfl; have hcz10_2 : w8.cell? ⟨gb198, 2, none⟩ = some (.slice A0_2 l0_2.length c0_2) := (qb0 BK198.out 2).trans rfl; have hcz10_3 : w8.cell? ⟨gb198, 3, none⟩ = some (.int .i64 a0_3) := (qb0 BK198.out 3).trans rfl; have hfz10_0 := qa0 BK198.out 0; have hfz10_1 := qa0 BK198.out 1; have hfz10_2 := qa0 BK198.out 2; have hfz10_3 := qa0 BK198.out 3) | ((with_reducible refine qj0 (f := 38) rfl ?_); refine qy0 (some 9) rfl rfl Try.func38 z7_31 rfl #[.agg #[.int .i64 a0_0, .int .i64 a0_1, .slice A0_2 l0_2.length c0_2, .int .i64 a0_3]] rfl z7_11 ?_; (with_reducible refine (impl_WorthOk.calls k a0_0 a0_1 _ _ l0_2 a0_3 true _ ?side1 ?side2 A4.out).mono ?_); (case side1 => exact z7_16); (case side2 => exact HC0_2.out); rintro e w11 ⟨rfl, hb⟩; refine ⟨_, rfl, ?_⟩; have n0_ := Aside0.mk (qf0 (g := gb198) (o := .cells #[.int .i64 a0_0, .int .i64 a0_1, .slice A0_2 l0_2.length c0_2, .int .i64 a0_3] 37 (0, 0)) z7_14 hb); have n1_ := Aside0.mk (qf0 (g := gb199) (o := .cells #[.int .i64 0, .int .i64 0, .slice none 0 0, .int .i64 0] 37 (0, 0)) z7_29 hb); have n2_ := Aside0.mk (qg0 z7_13 hb); clear BK198; clear BK199; clear HB; have BK198 := n0_; have BK199 := n1_; have HB := n2_; clear n0_ n1_ n2_; (try clear hb); (try clear hb2); (try clear hk); (try clear hi); have hcz12_0 : w11.cell? ⟨gb198, 0, none⟩ = some (.int .i64 a0_0) := (qb0 BK198.out 0).trans rfl; have hcz12_1 : w11.cell? ⟨gb198, 1, none⟩ = some (.int .i64 a0_1) := (qb0 BK198.out 1).trans rfl; have hcz12_2 : w11.cell? ⟨gb198, 2, none⟩ = some (.slice A0_2 l0_2.length c0_2) := (qb0 BK198.out 2).trans rfl; have hcz12_3 : w11.cell? ⟨gb198, 3, none⟩ = some (.int .i64 a0_3) := (qb0 BK198.out 3).trans rfl; have hfz12_0 := qa0 BK198.out 0; have hfz12_1 := qa0 BK198.out 1; have hfz12_2 := qa0 BK198.out 2; have hfz12_3 := qa0 BK198.out 3) | ((with_reducible refine qj0 (f := 39) rfl ?_); refine qy0 (some 15) rfl rfl Try.func39 z7_31 rfl #[.agg #[.int .i64 a0_0, .int .i64 a0_1, .slice A0_2 l0_2.length c0_2, .int .i64 a0_3], .int .i64 a1, .int .i64 a2] rfl z7_11 ?_; (with_reducible refine (impl_takeIn.calls k a0_0 a0_1 _ _ l0_2 a0_3 a1 a2 t201 t202 t203 t206 t207 _ ?side1 ?side2 A6.out).mono ?_); (case side1 => exact z7_16); (case side2 => exact HC0_2.out); rintro e w13 ⟨v204, rfl, ho0, hb⟩; refine ⟨_, rfl, ?_⟩; have n0_ := Aside0.mk (Kd.qh1 ho0 (qn0 z7_13)); have n1_ := Aside0.mk (qf0 (g := gb198) (o := .cells #[.int .i64 a0_0, .int .i64 a0_1, .slice A0_2 l0_2.length c0_2, .int .i64 a0_3] 37 (0, 0)) z7_14 hb); have n2_ := Aside0.mk (qf0 (g := gb199) (o := .cells #[.int .i64 0, .int .i64 0, .slice none 0 0, .int .i64 0] 37 (0, 0)) z7_29 hb); have n3_ := Aside0.mk (qg0 z7_13 hb); clear BK198; clear BK199; clear HB; have HO205 := n0_; have BK198 := n1_; have BK199 := n2_; have HB := n3_; clear n0_ n1_ n2_ n3_; (try clear hb); (try clear hb2); (try clear hk); (try clear hi); (try clear ho0); have hcz14_0 : w13.cell? ⟨gb199, 0, none⟩ = some (.int .i64 0) := (qb0 BK199.out 0).trans rfl; have hcz14_1 : w13.cell? ⟨gb199, 1, none⟩ = some (.int .i64 0) := (qb0 BK199.out 1).trans rfl; have hcz14_2 : w13.cell? ⟨gb199, 2, none⟩ = some (.slice none 0 0) := (qb0 BK199.out 2).trans rfl; have hcz14_3 : w13.cell? ⟨gb199, 3, none⟩ = some (.int .i64 0) := (qb0 BK199.out 3).trans rfl; have hfz14_0 := qa0 BK199.out 0; have hfz14_1 := qa0 BK199.out 1; have hfz14_2 := qa0 BK199.out 2; have hfz14_3 := qa0 BK199.out 3; obtain ⟨Ao15, co15, eo15⟩ := Kd.qb1 HO205.out; subst eo15))
  refine bodyPost_ret (results_ct rfl _ _ gb199 37 #[.int .i64 t201, .int .i64 t202, .slice Ao15 t203.length co15, .int .i64 t206] (0, 0) _ rfl (by (with_reducible repeat (first | refine qc0 ?_ _ | refine qe0 ?_ | refine qd0 ?_ _)); refine qm0 (cs := #[.int .i64 t201, .int .i64 t202, .slice Ao15 t203.length co15, .int .i64 0]) ?_ 3 _ rfl; (with_reducible repeat (first | refine qc0 ?_ _ | refine qe0 ?_ | refine qd0 ?_ _)); refine qm0 (cs := #[.int .i64 t201, .int .i64 t202, .slice none 0 0, .int .i64 0]) ?_ 2 _ rfl; (with_reducible repeat (first | refine qc0 ?_ _ | refine qe0 ?_ | refine qd0 ?_ _)); refine qm0 (cs := #[.int .i64 t201, .int .i64 0, .slice none 0 0, .int .i64 0]) ?_ 1 _ rfl; (with_reducible repeat (first | refine qc0 ?_ _ | refine qe0 ?_ | refine qd0 ?_ _)); refine qm0 (cs := #[.int .i64 0, .int .i64 0, .slice none 0 0, .int .i64 0]) ?_ 0 _ rfl; (with_reducible repeat (first | refine qc0 ?_ _ | refine qe0 ?_ | refine qd0 ?_ _)); exact BK199.out) Try.underlying37 rfl z7_31) rfl ?_
  exact ⟨_, z7_8, by (with_reducible repeat (first | apply Kd.qu0 | apply Kd.qt0 | apply Kd.qx0)); exact Kd.qw0 (Kd.R_far (p := ⟨gb199, 3, none⟩) (Kd.R_far (p := ⟨gb199, 2, none⟩) (Kd.R_far (p := ⟨gb199, 1, none⟩) (Kd.R_far (p := ⟨gb199, 0, none⟩) (Kd.qz0 HO205.out BK199.out (by decide)) (fun _ hk => hk.2) (.int .i64 t201)) (fun _ hk => hk.2) (.int .i64 t202)) (fun _ hk => hk.2) (.slice Ao15 t203.length co15)) (fun _ hk => hk.2) (.int .i64 t206)) (fun _ hk => trivial), z7_13⟩
 replace c5 := Bool.eq_false_iff.mpr c5
 subst c5
 have H1 : (some (0, 0, ([] : List (S59)), 0, false)) = some (r1, r2, r3, r4, r5) := by rw [if_neg (show ¬ (false = true) by decide)] at H; exact H
 clear H
 have H := H1
 clear H1
 simp only [Option.some.injEq, Prod.mk.injEq] at H
 obtain ⟨rfl, rfl, rfl, rfl, rfl⟩ := H
 go_enter Try.func14, Try.ntmps14
 go_wp2_with (first | ((with_reducible refine qr0 (N := 3) rfl ?_); refine qo0 ?hg (N := 3) ?hd (cs := #[.int .i64 a0_0, .int .i64 a0_1, .slice A0_2 l0_2.length c0_2, .int .i64 a0_3]) (t := 37) ?hr ?_; (case hd => rfl); (case hg => rfl); (case hr => exact z7_18); intro gb198 hg w16 hbox hb; have n0_ := Aside0.mk (qg0 z7_0 hb); have n1_ := Aside0.mk (hbox); have n2_ := Aside0.mk ((z7_1 : w.heap.size ≤ gb198)); have n3_ := Aside0.mk ((z7_1 : w.heap.size ≤ gb198)); clear HB; have HB := n0_; have BK198 := n1_; have GW198 := n2_; have GE198 := n3_; clear n0_ n1_ n2_ n3_; clear hb hbox hg) | ((with_reducible refine qr0 (N := 6) rfl ?_); refine qo0 ?hg (N := 6) ?hd (cs := #[.int .i64 0, .int .i64 0, .slice none 0 0, .int .i64 0]) (t := 37) ?hr ?_; (case hd => rfl); (case hg => rfl); (case hr => exact z7_18); intro gb199 hg w17 hbox hb; have n0_ := Aside0.mk (qf0 (g := gb198) (o := .cells #[.int .i64 a0_0, .int .i64 a0_1, .slice A0_2 l0_2.length c0_2, .int .i64 a0_3] 37 (0, 0)) z7_14 hb); have n1_ := Aside0.mk (qg0 z7_17 hb); have n2_ := Aside0.mk (hbox); have n3_ := Aside0.mk ((z7_20 : w.heap.size ≤ gb199)); have n4_ := Aside0.mk ((z7_20 : w.heap.size ≤ gb199)); have n5_ := Aside0.mk ((z7_25 : gb198 ≠ gb199)); have n6_ := Aside0.mk ((z7_26 : gb199 ≠ gb198)); clear BK198; clear HB; have BK198 := n0_; have HB := n1_; have BK199 := n2_; have GW199 := n3_; have GE199 := n4_; have NB198_199 := n5_; have NB199_198 := n6_; clear n0_ n1_ n2_ n3_ n4_ n5_ n6_; clear hb hbox hg; have hnb18 := NB198_199.out; have hnc18 := NB199_198.out; have hcz19_0 : w17.cell? ⟨gb198, 0, none⟩ = some (.int .i64 a0_0) := (qb0 BK198.out 0).trans rfl; have hcz19_1 : w17.cell? ⟨gb198, 1, none⟩ = some (.int .i64 a0_1) := (qb0 BK198.out 1).trans rfl; have hcz19_2 : w17.cell? ⟨gb198, 2, none⟩ = some (.slice A0_2 l0_2.length c0_2) := (qb0 BK198.out 2).trans rfl; have hcz19_3 : w17.cell? ⟨gb198, 3, none⟩ = some (.int .i64 a0_3) := (qb0 BK198.out 3).trans rfl; have hfz19_0 := qa0 BK198.out 0; have hfz19_1 := qa0 BK198.out 1; have hfz19_2 := qa0 BK198.out 2; have hfz19_3 := qa0 BK198.out 3) | ((with_reducible refine qj0 (f := 38) rfl ?_); refine qy0 (some 9) rfl rfl Try.func38 z7_31 rfl #[.agg #[.int .i64 a0_0, .int .i64 a0_1, .slice A0_2 l0_2.length c0_2, .int .i64 a0_3]] rfl z7_11 ?_; (with_reducible refine (impl_WorthOk.calls k a0_0 a0_1 _ _ l0_2 a0_3 false _ ?side1 ?side2 A4.out).mono ?_); (case side1 => exact z7_16); (case side2 => exact HC0_2.out); rintro e w20 ⟨rfl, hb⟩; refine ⟨_, rfl, ?_⟩; have n0_ := Aside0.mk (qf0 (g := gb198) (o := .cells #[.int .i64 a0_0, .int .i64 a0_1, .slice A0_2 l0_2.length c0_2, .int .i64 a0_3] 37 (0, 0)) z7_14 hb); have n1_ := Aside0.mk (qf0 (g := gb199) (o := .cells #[.int .i64 0, .int .i64 0, .slice none 0 0, .int .i64 0] 37 (0, 0)) z7_29 hb); have n2_ := Aside0.mk (qg0 z7_13 hb); clear BK198; clear BK199; clear HB; have BK198 := n0_; have BK199 := n1_; have HB := n2_; clear n0_ n1_ n2_; (try clear hb); (try clear hb2); (try clear hk); (try clear hi); have hcz21_0 : w20.cell? ⟨gb199, 0, none⟩ = some (.int .i64 0) := (qb0 BK199.out 0).trans rfl; have hcz21_1 : w20.cell? ⟨gb199, 1, none⟩ = some (.int .i64 0) := (qb0 BK199.out 1).trans rfl; have hcz21_2 : w20.cell? ⟨gb199, 2, none⟩ = some (.slice none 0 0) := (qb0 BK199.out 2).trans rfl; have hcz21_3 : w20.cell? ⟨gb199, 3, none⟩ = some (.int .i64 0) := (qb0 BK199.out 3).trans rfl; have hfz21_0 := qa0 BK199.out 0; have hfz21_1 := qa0 BK199.out 1; have hfz21_2 := qa0 BK199.out 2; have hfz21_3 := qa0 BK199.out 3))
 refine bodyPost_ret (results_ct rfl _ _ gb199 37 #[.int .i64 0, .int .i64 0, .slice none 0 0, .int .i64 0] (0, 0) _ rfl (by (with_reducible repeat (first | refine qc0 ?_ _ | refine qe0 ?_ | refine qd0 ?_ _)); refine qm0 (cs := #[.int .i64 0, .int .i64 0, .slice none 0 0, .int .i64 0]) ?_ 3 _ rfl; (with_reducible repeat (first | refine qc0 ?_ _ | refine qe0 ?_ | refine qd0 ?_ _)); refine qm0 (cs := #[.int .i64 0, .int .i64 0, .slice none 0 0, .int .i64 0]) ?_ 2 _ rfl; (with_reducible repeat (first | refine qc0 ?_ _ | refine qe0 ?_ | refine qd0 ?_ _)); refine qm0 (cs := #[.int .i64 0, .int .i64 0, .slice none 0 0, .int .i64 0]) ?_ 1 _ rfl; (with_reducible repeat (first | refine qc0 ?_ _ | refine qe0 ?_ | refine qd0 ?_ _)); refine qm0 (cs := #[.int .i64 0, .int .i64 0, .slice none 0 0, .int .i64 0]) ?_ 0 _ rfl; (with_reducible repeat (first | refine qc0 ?_ _ | refine qe0 ?_ | refine qd0 ?_ _)); exact BK199.out) Try.underlying37 rfl z7_31) rfl ?_
 exact ⟨_, z7_8, by first | exact Kd.R_nil _ _ _ _ _ | exact Kd.N_nil _ _ _ _ _ | exact Kd.V_nil _ _ _ _ _ | exact Kd.Q_nil _ _ _ _ _ | exact Kd.S_nil _ _ _ _ _, z7_13⟩

/-! ### laws_eqLay: function 60 -/
def laws_eqLay.f (a0_0 : Int) (a0_1 : Int) (a1_0 : Int) (a1_1 : Int) : Option (Bool) := if a0_0 = a1_0 then (if a0_1 = a1_1 then (some true) else (some false)) else (some false)
set_option maxHeartbeats 8000000 in
set_option maxRecDepth 100000 in
theorem laws_eqLay.calls (a0_0 : Int) (a0_1 : Int) (a1_0 : Int) (a1_1 : Int) (r : Bool) (w : World) (h : laws_eqLay.f a0_0 a0_1 a1_0 a1_1 = some r) :
  Calls Try.prog 60 #[.agg #[.int .i64 a0_0, .int .i64 a0_1], .agg #[.int .i64 a1_0, .int .i64 a1_1]] w fun e w' => e = .returned (.bool r) ∧ Below w.heap.size w w' := by
 have hu59 := Try.underlying59
 have HB := Aside0.mk (Below.refl w.heap.size w)
 have H : (if a0_0 = a1_0 then (if a0_1 = a1_1 then (some true) else (some false)) else (some false)) = some r := h
 clear h
 by_cases c3 : a0_0 = a1_0
 ·rw [if_pos c3] at H
  have c3b0 : (a0_0 == a1_0) = true := beq_iff_eq.mpr c3
  have c3b1 : (a0_0 != a1_0) = false := bne_eq_false_iff_eq.mpr c3
  clear c3
  by_cases c4 : a0_1 = a1_1
  ·rw [if_pos c4] at H
   have c4b0 : (a0_1 == a1_1) = true := beq_iff_eq.mpr c4
   have c4b1 : (a0_1 != a1_1) = false := bne_eq_false_iff_eq.mpr c4
   clear c4
   obtain rfl := Option.some.inj H
   go_enter Try.func60, Try.ntmps60
   go_wp2_with (first | ((with_reducible refine qr0 (N := 2) rfl ?_); refine qo0 ?hg (N := 2) ?hd (cs := #[.int .i64 a0_0, .int .i64 a0_1]) (t := 59) ?hr ?_; (case hd => rfl); (case hg => rfl); (case hr => exact z7_18); intro gb208 hg w5 hbox hb; have n0_ := Aside0.mk (qg0 z7_0 hb); have n1_ := Aside0.mk (hbox); have n2_ := Aside0.mk ((z7_1 : w.heap.size ≤ gb208)); have n3_ := Aside0.mk ((z7_1 : w.heap.size ≤ gb208)); clear HB; have HB := n0_; have BK208 := n1_; have GW208 := n2_; have GE208 := n3_; clear n0_ n1_ n2_ n3_; clear hb hbox hg) | ((with_reducible refine qr0 (N := 3) rfl ?_); refine qo0 ?hg (N := 3) ?hd (cs := #[.int .i64 a1_0, .int .i64 a1_1]) (t := 59) ?hr ?_; (case hd => rfl); (case hg => rfl); (case hr => exact z7_18); intro gb209 hg w6 hbox hb; have n0_ := Aside0.mk (qf0 (g := gb208) (o := .cells #[.int .i64 a0_0, .int .i64 a0_1] 59 (0, 0)) z7_15 hb); have n1_ := Aside0.mk (qg0 z7_6 hb); have n2_ := Aside0.mk (hbox); have n3_ := Aside0.mk ((z7_12 : w.heap.size ≤ gb209)); have n4_ := Aside0.mk ((z7_12 : w.heap.size ≤ gb209)); have n5_ := Aside0.mk ((z7_21 : gb208 ≠ gb209)); have n6_ := Aside0.mk ((z7_22 : gb209 ≠ gb208)); clear BK208; clear HB; have BK208 := n0_; have HB := n1_; have BK209 := n2_; have GW209 := n3_; have GE209 := n4_; have NB208_209 := n5_; have NB209_208 := n6_; clear n0_ n1_ n2_ n3_ n4_ n5_ n6_; clear hb hbox hg; have hnb7 := NB208_209.out; have hnc7 := NB209_208.out; have hcz8_0 : w6.cell? ⟨gb208, 0, none⟩ = some (.int .i64 a0_0) := (qb0 BK208.out 0).trans rfl; have hcz8_1 : w6.cell? ⟨gb208, 1, none⟩ = some (.int .i64 a0_1) := (qb0 BK208.out 1).trans rfl; have hfz8_0 := qa0 BK208.out 0; have hfz8_1 := qa0 BK208.out 1; have hcz9_0 : w6.cell? ⟨gb209, 0, none⟩ = some (.int .i64 a1_0) := (qb0 BK209.out 0).trans rfl; have hcz9_1 : w6.cell? ⟨gb209, 1, none⟩ = some (.int .i64 a1_1) := (qb0 BK209.out 1).trans rfl; have hfz9_0 := qa0 BK209.out 0; have hfz9_1 := qa0 BK209.out 1))
   go_ret
   exact ⟨z7_8, z7_23⟩
  rw [if_neg c4] at H
  have c4b0 : (a0_1 == a1_1) = false := beq_eq_false_iff_ne.mpr c4
  have c4b1 : (a0_1 != a1_1) = true := bne_iff_ne.mpr c4
  obtain rfl := Option.some.inj H
  go_enter Try.func60, Try.ntmps60
  go_wp2_with (first | ((with_reducible refine qr0 (N := 2) rfl ?_); refine qo0 ?hg (N := 2) ?hd (cs := #[.int .i64 a0_0, .int .i64 a0_1]) (t := 59) ?hr ?_; (case hd => rfl); (case hg => rfl); (case hr => exact z7_18); intro gb208 hg w10 hbox hb; have n0_ := Aside0.mk (qg0 z7_0 hb); have n1_ := Aside0.mk (hbox); have n2_ := Aside0.mk ((z7_1 : w.heap.size ≤ gb208)); have n3_ := Aside0.mk ((z7_1 : w.heap.size ≤ gb208)); clear HB; have HB := n0_; have BK208 := n1_; have GW208 := n2_; have GE208 := n3_; clear n0_ n1_ n2_ n3_; clear hb hbox hg) | ((with_reducible refine qr0 (N := 3) rfl ?_); refine qo0 ?hg (N := 3) ?hd (cs := #[.int .i64 a1_0, .int .i64 a1_1]) (t := 59) ?hr ?_; (case hd => rfl); (case hg => rfl); (case hr => exact z7_18); intro gb209 hg w11 hbox hb; have n0_ := Aside0.mk (qf0 (g := gb208) (o := .cells #[.int .i64 a0_0, .int .i64 a0_1] 59 (0, 0)) z7_15 hb); have n1_ := Aside0.mk (qg0 z7_6 hb); have n2_ := Aside0.mk (hbox); have n3_ := Aside0.mk ((z7_12 : w.heap.size ≤ gb209)); have n4_ := Aside0.mk ((z7_12 : w.heap.size ≤ gb209)); have n5_ := Aside0.mk ((z7_21 : gb208 ≠ gb209)); have n6_ := Aside0.mk ((z7_22 : gb209 ≠ gb208)); clear BK208; clear HB; have BK208 := n0_; have HB := n1_; have BK209 := n2_; have GW209 := n3_; have GE209 := n4_; have NB208_209 := n5_; have NB209_208 := n6_; clear n0_ n1_ n2_ n3_ n4_ n5_ n6_; clear hb hbox hg; have hnb12 := NB208_209.out; have hnc12 := NB209_208.out; have hcz13_0 : w11.cell? ⟨gb208, 0, none⟩ = some (.int .i64 a0_0) := (qb0 BK208.out 0).trans rfl; have hcz13_1 : w11.cell? ⟨gb208, 1, none⟩ = some (.int .i64 a0_1) := (qb0 BK208.out 1).trans rfl; have hfz13_0 := qa0 BK208.out 0; have hfz13_1 := qa0 BK208.out 1; have hcz14_0 : w11.cell? ⟨gb209, 0, none⟩ = some (.int .i64 a1_0) := (qb0 BK209.out 0).trans rfl; have hcz14_1 : w11.cell? ⟨gb209, 1, none⟩ = some (.int .i64 a1_1) := (qb0 BK209.out 1).trans rfl; have hfz14_0 := qa0 BK209.out 0; have hfz14_1 := qa0 BK209.out 1))
  go_ret
  exact ⟨z7_8, z7_23⟩
 rw [if_neg c3] at H
 have c3b0 : (a0_0 == a1_0) = false := beq_eq_false_iff_ne.mpr c3
 have c3b1 : (a0_0 != a1_0) = true := bne_iff_ne.mpr c3
 obtain rfl := Option.some.inj H
 go_enter Try.func60, Try.ntmps60
 go_wp2_with (first | ((with_reducible refine qr0 (N := 2) rfl ?_); refine qo0 ?hg (N := 2) ?hd (cs := #[.int .i64 a0_0, .int .i64 a0_1]) (t := 59) ?hr ?_; (case hd => rfl); (case hg => rfl); (case hr => exact z7_18); intro gb208 hg w15 hbox hb; have n0_ := Aside0.mk (qg0 z7_0 hb); have n1_ := Aside0.mk (hbox); have n2_ := Aside0.mk ((z7_1 : w.heap.size ≤ gb208)); have n3_ := Aside0.mk ((z7_1 : w.heap.size ≤ gb208)); clear HB; have HB := n0_; have BK208 := n1_; have GW208 := n2_; have GE208 := n3_; clear n0_ n1_ n2_ n3_; clear hb hbox hg) | ((with_reducible refine qr0 (N := 3) rfl ?_); refine qo0 ?hg (N := 3) ?hd (cs := #[.int .i64 a1_0, .int .i64 a1_1]) (t := 59) ?hr ?_; (case hd => rfl); (case hg => rfl); (case hr => exact z7_18); intro gb209 hg w16 hbox hb; have n0_ := Aside0.mk (qf0 (g := gb208) (o := .cells #[.int .i64 a0_0, .int .i64 a0_1] 59 (0, 0)) z7_15 hb); have n1_ := Aside0.mk (qg0 z7_6 hb); have n2_ := Aside0.mk (hbox); have n3_ := Aside0.mk ((z7_12 : w.heap.size ≤ gb209)); have n4_ := Aside0.mk ((z7_12 : w.heap.size ≤ gb209)); have n5_ := Aside0.mk ((z7_21 : gb208 ≠ gb209)); have n6_ := Aside0.mk ((z7_22 : gb209 ≠ gb208)); clear BK208; clear HB; have BK208 := n0_; have HB := n1_; have BK209 := n2_; have GW209 := n3_; have GE209 := n4_; have NB208_209 := n5_; have NB209_208 := n6_; clear n0_ n1_ n2_ n3_ n4_ n5_ n6_; clear hb hbox hg; have hnb17 := NB208_209.out; have hnc17 := NB209_208.out; have hcz18_0 : w16.cell? ⟨gb208, 0, none⟩ = some (.int .i64 a0_0) := (qb0 BK208.out 0).trans rfl; have hcz18_1 : w16.cell? ⟨gb208, 1, none⟩ = some (.int .i64 a0_1) := (qb0 BK208.out 1).trans rfl; have hfz18_0 := qa0 BK208.out 0; have hfz18_1 := qa0 BK208.out 1; have hcz19_0 : w16.cell? ⟨gb209, 0, none⟩ = some (.int .i64 a1_0) := (qb0 BK209.out 0).trans rfl; have hcz19_1 : w16.cell? ⟨gb209, 1, none⟩ = some (.int .i64 a1_1) := (qb0 BK209.out 1).trans rfl; have hfz19_0 := qa0 BK209.out 0; have hfz19_1 := qa0 BK209.out 1))
 go_ret
 exact ⟨z7_8, z7_23⟩

/-! ### laws_eqLayS: function 40 -/
def laws_eqLayS.l0 : Nat → List (S59) → List (S59) → Int → Option (Bool)
 | 0, _, _, _ => none
 | k + 1, x0, x1, x5 => if x5 < (x0.length : Int) then (if 0 ≤ x5 then (if x5 < (x1.length : Int) then ((laws_eqLay.f ((rd_T59 x0 x5).f0) ((rd_T59 x0 x5).f1) ((rd_T59 x1 x5).f0) ((rd_T59 x1 x5).f1)).bind fun t212 => (if t212 = true then (laws_eqLayS.l0 k x0 x1 (wrap64 (x5 + 1))) else (some false))) else (none)) else (none)) else (some true)
def laws_eqLayS.f (k : Nat) (l0 : List (S59)) (l1 : List (S59)) : Option (Bool) := if (l0.length : Int) = (l1.length : Int) then (laws_eqLayS.l0 k l0 l1 0) else (some false)
theorem laws_eqLayS.mono_l : ∀ k, (∀ y0 y1 y2, LeO (laws_eqLayS.l0 k y0 y1 y2) (laws_eqLayS.l0 (k + 1) y0 y1 y2))
 | 0 => fun _ _ _ r h => by simp [laws_eqLayS.l0] at h
 | k + 1 => by
  have ih0 := laws_eqLayS.mono_l k
  ·intro y0 y1 y2
   unfold laws_eqLayS.l0
   repeat' first
   | (with_reducible exact ih0 _ _ _)
   | (with_reducible exact LeO.refl _)
   | (with_reducible exact LeO.none _)
   | (with_reducible refine LeO.ite ?_ ?_)
   | (with_reducible refine LeO.bind ?_ (fun _ => ?_))
   | exact ih0 _ _ _
   | exact LeO.none _
   | refine LeO.ite ?_ ?_
   | refine LeO.bind ?_ (fun _ => ?_)
theorem laws_eqLayS.mono : ∀ a0 a1 k, LeO (laws_eqLayS.f k a0 a1) (laws_eqLayS.f (k + 1) a0 a1) := by
 intro a0 a1 k
 have ih0 := laws_eqLayS.mono_l k
 unfold laws_eqLayS.f
 repeat' first
   | (with_reducible exact ih0 _ _ _)
   | (with_reducible exact LeO.refl _)
   | (with_reducible exact LeO.none _)
   | (with_reducible refine LeO.ite ?_ ?_)
   | (with_reducible refine LeO.bind ?_ (fun _ => ?_))
   | exact ih0 _ _ _
   | exact LeO.none _
   | refine LeO.ite ?_ ?_
   | refine LeO.bind ?_ (fun _ => ?_)
def laws_eqLayS.T6 : Bool × List (List Nat × List Nat) := (true, [([], []), ([], []), ([0, 1], [0, 1]), ([2], [2]), ([], []), ([], []), ([4, 5], [4, 5]), ([6], [6]), ([3, 7], [3, 7]), ([8], [8])])
def laws_eqLayS.B6 : List Nat := [0, 0, 3, 7, 0, 0, 48, 112, 255, 511]
theorem laws_eqLayS.tab6 : rtab .any (opsOf Try.f40 6) = laws_eqLayS.T6 := by kernel_rfl
theorem laws_eqLayS.bits6 : waitsOk laws_eqLayS.T6.2 laws_eqLayS.B6 = true := by kernel_rfl
set_option maxHeartbeats 8000000 in
set_option maxRecDepth 100000 in
theorem laws_eqLayS.calls (k : Nat) (A0 : Option Addr) (c0 : Nat) (l0 : List (S59)) (A1 : Option Addr) (c1 : Nat) (l1 : List (S59)) (r : Bool) (w : World) (hr0 : Kd.C k59 w A0 l0.length l0) (hc0 : l0.length ≤ c0) (hr1 : Kd.C k59 w A1 l1.length l1) (hc1 : l1.length ≤ c1) (h : laws_eqLayS.f k l0 l1 = some r) :
  Calls Try.prog 40 #[.slice A0 l0.length c0, .slice A1 l1.length c1] w fun e w' => e = .returned (.bool r) ∧ Below w.heap.size w w' := by
 have hu59 := Try.underlying59
 have HR0 := Aside0.mk hr0
 have HC0 := Aside0.mk hc0
 clear hr0 hc0
 have HR1 := Aside0.mk hr1
 have HC1 := Aside0.mk hc1
 clear hr1 hc1
 have HB := Aside0.mk (Below.refl w.heap.size w)
 have H : (if (l0.length : Int) = (l1.length : Int) then (laws_eqLayS.l0 k l0 l1 0) else (some false)) = some r := h
 clear h
 by_cases c3 : (l0.length : Int) = (l1.length : Int)
 ·rw [if_pos c3] at H
  have c3b0 : ((l0.length : Int) == (l1.length : Int)) = true := beq_iff_eq.mpr c3
  have c3b1 : ((l0.length : Int) != (l1.length : Int)) = false := bne_eq_false_iff_eq.mpr c3
  have c3b2 : (l0.length == l1.length) = true := by first | simpa using c3 | (simp at c3 ⊢; omega)
  clear c3
  have H' := Aside0.mk H
  clear H
  go_enter Try.func40, Try.ntmps40
  go_wp2
  go_loopg [5] k (fun kq v5 w' => ∃ (x5_1 : Int), v5 = .int .i64 x5_1 ∧ Aside0 (laws_eqLayS.l0 kq l0 l1 x5_1 = some r) ∧ Aside0 (kq ≤ k) ∧ Aside0 (Below w.heap.size w w'))
  case atStart => exact ⟨(0), z7_24, H', ⟨Nat.le_refl _⟩, ⟨z7_0⟩⟩
  case round =>
   clear H'
   try clear c1
   try clear p2
   try clear c3
   try clear c3b0
   try clear c3b1
   try clear c3b2
   obtain ⟨x5_1, rfl, HA, HK1, HB⟩ := hrel
   cases gk with
   | zero => exact absurd HA.out (by simp [laws_eqLayS.l0])
   | succ k1 =>
    have H := HA.out
    clear HA
    simp only [laws_eqLayS.l0] at H
    by_cases c4 : x5_1 < (l0.length : Int)
    ·rw [if_pos c4] at H
     have c4b0 : decide (x5_1 < (l0.length : Int)) = true := decide_eq_true c4
     clear c4
     by_cases c5 : 0 ≤ x5_1
     case neg => rw [if_neg c5] at H; exact absurd H (by simp)
     rw [if_pos c5] at H
     have c5b0 : decide (0 ≤ x5_1) = true := decide_eq_true c5
     clear c5
     by_cases c6 : x5_1 < (l1.length : Int)
     case neg => rw [if_neg c6] at H; exact absurd H (by simp)
     rw [if_pos c6] at H
     have c6b0 : decide (x5_1 < (l1.length : Int)) = true := decide_eq_true c6
     clear c6
     replace H := Option.bind_eq_some_iff.mp H
     obtain ⟨t212, A70, H⟩ := H
     replace H : (if t212 = true then (laws_eqLayS.l0 k1 l0 l1 (wrap64 (x5_1 + 1))) else (some false)) = some r := H
     have A7 := Aside0.mk A70
     clear A70
     by_cases c8 : t212 = true
     ·subst c8
      have H1 : (laws_eqLayS.l0 k1 l0 l1 (wrap64 (x5_1 + 1))) = some r := by rw [if_pos rfl] at H; exact H
      clear H
      have H := H1
      clear H1
      have H' := Aside0.mk H
      clear H
      try go_wp2
      have n0_ := Aside0.mk (qi0 HB.out)
      clear HB
      have HB := n0_
      clear n0_
      have p210 : 0 ≤ (x5_1 : Int) := of_decide_eq_true z7_7
      have q210 : x5_1 < (l0.length : Int) := of_decide_eq_true z7_7
      obtain ⟨ad210, e210, hx210_0, hx210_1⟩ := at_T59 HR0.out x5_1 p210 q210
      have hw210_1 := hx210_1
      have hw210_0 := hx210_0
      cases e210
      replace hx210_0 := (HB.out.cell (World.block_lt_of_cell? w _ hx210_0)).trans hx210_0
      replace hx210_1 := (HB.out.cell (World.block_lt_of_cell? w _ hx210_1)).trans hx210_1
      replace p210 := eq_true p210
      replace q210 := eq_true q210
      have p211 : 0 ≤ (x5_1 : Int) := of_decide_eq_true z7_7
      have q211 : x5_1 < (l1.length : Int) := of_decide_eq_true z7_7
      obtain ⟨ad211, e211, hx211_0, hx211_1⟩ := at_T59 HR1.out x5_1 p211 q211
      have hw211_1 := hx211_1
      have hw211_0 := hx211_0
      cases e211
      replace hx211_0 := (HB.out.cell (World.block_lt_of_cell? w _ hx211_0)).trans hx211_0
      replace hx211_1 := (HB.out.cell (World.block_lt_of_cell? w _ hx211_1)).trans hx211_1
      replace p211 := eq_true p211
      replace q211 := eq_true q211
      refine start_ (n := 10) (S := fun w' => w'.cell? (ad210.add ((x5_1).toNat * 2)) = some (.int .i64 ((rd_T59 l0 x5_1).f0)) ∧ w'.cell? ⟨(ad210.add ((x5_1).toNat * 2)).block, (ad210.add ((x5_1).toNat * 2)).off + 1, none⟩ = some (.int .i64 ((rd_T59 l0 x5_1).f1)) ∧ w'.cell? (ad211.add ((x5_1).toNat * 2)) = some (.int .i64 ((rd_T59 l1 x5_1).f0)) ∧ w'.cell? ⟨(ad211.add ((x5_1).toNat * 2)).block, (ad211.add ((x5_1).toNat * 2)).off + 1, none⟩ = some (.int .i64 ((rd_T59 l1 x5_1).f1))) (ds := []) #[false, false, false, false, false, false, false, false, false, false] z7_31 rfl rfl ⟨((HB.out.cell (World.block_lt_of_cell? w _ hw210_0)).trans hw210_0), ((HB.out.cell (World.block_lt_of_cell? w _ hw210_1)).trans hw210_1), ((HB.out.cell (World.block_lt_of_cell? w _ hw211_0)).trans hw211_0), ((HB.out.cell (World.block_lt_of_cell? w _ hw211_1)).trans hw211_1)⟩ (fun hHeld => ?_); refine with_tabW laws_eqLayS.tab6 laws_eqLayS.bits6 (fun HT_ HW_ => ?_)
      generalize wr.drew = w9 at HB hx210_0 hx210_1 hx211_0 hx211_1 hHeld ⊢
      refine pure_ (i := 0) (N := some 17) (v := ?_) (a' := ?_) #[true, false, false, false, false, false, false, false, false, false] rfl rfl (qs0 HT_.out z7_31) (fun _ _ _ h => h) (Or.inl ⟨by rfl, ?_⟩) ?_ ?_
      rotate_left
      ·intro w'
       go_simp
       with_reducible rfl
      rotate_left
      ·simp only [Act.put, List.setIfInBounds_toArray, List.set_cons_zero, List.set_cons_succ, i64_w, i32_w]
       rfl
      refine pure_ (i := 1) (N := some 18) (v := ?_) (a' := ?_) #[true, true, false, false, false, false, false, false, false, false] rfl rfl (qs0 HT_.out z7_31) (fun _ _ _ h => h) (Or.inl ⟨by rfl, ?_⟩) ?_ ?_
      rotate_left
      ·intro w'
       go_simp
       with_reducible rfl
      rotate_left
      ·simp only [Act.put, List.setIfInBounds_toArray, List.set_cons_zero, List.set_cons_succ, i64_w, i32_w]
       rfl
      refine pure_ (i := 2) (N := some 19) (v := ?_) (a' := ?_) #[true, true, true, false, false, false, false, false, false, false] rfl rfl (qs0 HT_.out z7_31) (fun _ _ _ h => h) (Or.inl ⟨by rfl, ?_⟩) ?_ ?_
      rotate_left
      ·intro w'
       go_simp
       with_reducible rfl
      rotate_left
      ·simp only [Act.put, List.setIfInBounds_toArray, List.set_cons_zero, List.set_cons_succ, i64_w, i32_w]
       rfl
      refine pure_ (i := 4) (N := some 21) (v := ?_) (a' := ?_) #[true, true, true, false, true, false, false, false, false, false] rfl rfl (qs0 HT_.out z7_31) (fun _ _ _ h => h) (Or.inl ⟨by rfl, ?_⟩) ?_ ?_
      rotate_left
      ·intro w'
       go_simp
       with_reducible rfl
      rotate_left
      ·simp only [Act.put, List.setIfInBounds_toArray, List.set_cons_zero, List.set_cons_succ, i64_w, i32_w]
       rfl
      refine pure_ (i := 5) (N := some 22) (v := ?_) (a' := ?_) #[true, true, true, false, true, true, false, false, false, false] rfl rfl (qs0 HT_.out z7_31) (fun _ _ _ h => h) (Or.inl ⟨by rfl, ?_⟩) ?_ ?_
      rotate_left
      ·intro w'
       go_simp
       with_reducible rfl
      rotate_left
      ·simp only [Act.put, List.setIfInBounds_toArray, List.set_cons_zero, List.set_cons_succ, i64_w, i32_w]
       rfl
      refine pure_ (i := 6) (N := some 23) (v := ?_) (a' := ?_) #[true, true, true, false, true, true, true, false, false, false] rfl rfl (qs0 HT_.out z7_31) (fun _ _ _ h => h) (Or.inl ⟨by rfl, ?_⟩) ?_ ?_
      rotate_left
      ·intro w'
       go_simp
       with_reducible rfl
      rotate_left
      ·simp only [Act.put, List.setIfInBounds_toArray, List.set_cons_zero, List.set_cons_succ, i64_w, i32_w]
       rfl
      refine take_ (i := 3) (N := some 20) (v := ?_) (a' := ?_) #[true, true, true, true, true, true, true, false, false, false] rfl rfl (qd1 HT_.out HW_.out z7_31) (fun _ _ _ h => h) (Or.inl ⟨by rfl, ?_⟩) hHeld ?_ ?_
      rotate_left
      ·rintro w' ⟨s0, s1, s2, s3⟩
       go_simp
       with_reducible rfl
      rotate_left
      ·simp only [Act.put, List.setIfInBounds_toArray, List.set_cons_zero, List.set_cons_succ, i64_w, i32_w]
       rfl
      refine take_ (i := 7) (N := some 24) (v := ?_) (a' := ?_) #[true, true, true, true, true, true, true, true, false, false] rfl rfl (qd1 HT_.out HW_.out z7_31) (fun _ _ _ h => h) (Or.inl ⟨by rfl, ?_⟩) hHeld ?_ ?_
      rotate_left
      ·rintro w' ⟨s0, s1, s2, s3⟩
       go_simp
       with_reducible rfl
      rotate_left
      ·simp only [Act.put, List.setIfInBounds_toArray, List.set_cons_zero, List.set_cons_succ, i64_w, i32_w]
       rfl
      refine one_ (i := 8) (N := some 25) #[true, true, true, true, true, true, true, true, true, false] rfl rfl (one_of HT_.out z7_31) (by decide) (fun K hK => ?_)
      refine goes_ Try.func60 z7_31 rfl #[.agg #[.int .i64 ((rd_T59 l0 x5_1).f0), .int .i64 ((rd_T59 l0 x5_1).f1)], .agg #[.int .i64 ((rd_T59 l1 x5_1).f0), .int .i64 ((rd_T59 l1 x5_1).f1)]] (by rfl) rfl rfl z7_11 ?_
      with_reducible refine (laws_eqLay.calls ((rd_T59 l0 x5_1).f0) ((rd_T59 l0 x5_1).f1) ((rd_T59 l1 x5_1).f0) ((rd_T59 l1 x5_1).f1) true _ A7.out).mono ?_
      rintro e w10 ⟨rfl, hb⟩
      refine ⟨_, rfl, ?_⟩
      have n0_ := Aside0.mk (qg0 z7_0 hb)
      clear HB
      have HB := n0_
      clear n0_
      (try clear hb)
      (try clear hb2)
      (try clear hk)
      (try clear hi)
      refine hK.out _ _ ⟨((HB.out.cell (World.block_lt_of_cell? w _ hw210_0)).trans hw210_0), ((HB.out.cell (World.block_lt_of_cell? w _ hw210_1)).trans hw210_1), ((HB.out.cell (World.block_lt_of_cell? w _ hw211_0)).trans hw211_0), ((HB.out.cell (World.block_lt_of_cell? w _ hw211_1)).trans hw211_1)⟩ (fun hHeld => ?_)
      clear hK K
      refine norm_ (a' := ?_) ?_ ?_
      rotate_left
      ·show Act.put _ (some 25) _ = _
       simp only [Act.put, List.setIfInBounds_toArray, List.set_cons_zero, List.set_cons_succ, i64_w, i32_w]
       rfl
      refine pure_ (i := 9) (N := some 26) (v := ?_) (a' := ?_) #[true, true, true, true, true, true, true, true, true, true] rfl rfl (qs0 HT_.out z7_31) (fun _ _ _ h => h) (Or.inl ⟨by rfl, ?_⟩) ?_ ?_
      rotate_left
      ·intro w'
       go_simp
       with_reducible rfl
      rotate_left
      ·simp only [Act.put, List.setIfInBounds_toArray, List.set_cons_zero, List.set_cons_succ, i64_w, i32_w]
       rfl
      refine done_ (done_of HT_.out z7_31) ?_
      try go_wp2
      go_roundg k1
      case measure => have := HK1.out; omega
      case rel => exact ⟨(wrap64 (x5_1 + 1)), z7_24, H', ⟨by have := HK1.out; omega⟩, ⟨z7_0⟩⟩
     replace c8 := Bool.eq_false_iff.mpr c8
     subst c8
     have H1 : (some false) = some r := by rw [if_neg (show ¬ (false = true) by decide)] at H; exact H
     clear H
     have H := H1
     clear H1
     obtain rfl := Option.some.inj H
     try go_wp2
     have n0_ := Aside0.mk (qi0 HB.out)
     clear HB
     have HB := n0_
     clear n0_
     have p210 : 0 ≤ (x5_1 : Int) := of_decide_eq_true z7_7
     have q210 : x5_1 < (l0.length : Int) := of_decide_eq_true z7_7
     obtain ⟨ad210, e210, hx210_0, hx210_1⟩ := at_T59 HR0.out x5_1 p210 q210
     have hw210_1 := hx210_1
     have hw210_0 := hx210_0
     cases e210
     replace hx210_0 := (HB.out.cell (World.block_lt_of_cell? w _ hx210_0)).trans hx210_0
     replace hx210_1 := (HB.out.cell (World.block_lt_of_cell? w _ hx210_1)).trans hx210_1
     replace p210 := eq_true p210
     replace q210 := eq_true q210
     have p211 : 0 ≤ (x5_1 : Int) := of_decide_eq_true z7_7
     have q211 : x5_1 < (l1.length : Int) := of_decide_eq_true z7_7
     obtain ⟨ad211, e211, hx211_0, hx211_1⟩ := at_T59 HR1.out x5_1 p211 q211
     have hw211_1 := hx211_1
     have hw211_0 := hx211_0
     cases e211
     replace hx211_0 := (HB.out.cell (World.block_lt_of_cell? w _ hx211_0)).trans hx211_0
     replace hx211_1 := (HB.out.cell (World.block_lt_of_cell? w _ hx211_1)).trans hx211_1
     replace p211 := eq_true p211
     replace q211 := eq_true q211
     refine start_ (n := 10) (S := fun w' => w'.cell? (ad210.add ((x5_1).toNat * 2)) = some (.int .i64 ((rd_T59 l0 x5_1).f0)) ∧ w'.cell? ⟨(ad210.add ((x5_1).toNat * 2)).block, (ad210.add ((x5_1).toNat * 2)).off + 1, none⟩ = some (.int .i64 ((rd_T59 l0 x5_1).f1)) ∧ w'.cell? (ad211.add ((x5_1).toNat * 2)) = some (.int .i64 ((rd_T59 l1 x5_1).f0)) ∧ w'.cell? ⟨(ad211.add ((x5_1).toNat * 2)).block, (ad211.add ((x5_1).toNat * 2)).off + 1, none⟩ = some (.int .i64 ((rd_T59 l1 x5_1).f1))) (ds := []) #[false, false, false, false, false, false, false, false, false, false] z7_31 rfl rfl ⟨((HB.out.cell (World.block_lt_of_cell? w _ hw210_0)).trans hw210_0), ((HB.out.cell (World.block_lt_of_cell? w _ hw210_1)).trans hw210_1), ((HB.out.cell (World.block_lt_of_cell? w _ hw211_0)).trans hw211_0), ((HB.out.cell (World.block_lt_of_cell? w _ hw211_1)).trans hw211_1)⟩ (fun hHeld => ?_); refine with_tabW laws_eqLayS.tab6 laws_eqLayS.bits6 (fun HT_ HW_ => ?_)
     generalize wr.drew = w11 at HB hx210_0 hx210_1 hx211_0 hx211_1 hHeld ⊢
     refine pure_ (i := 0) (N := some 17) (v := ?_) (a' := ?_) #[true, false, false, false, false, false, false, false, false, false] rfl rfl (qs0 HT_.out z7_31) (fun _ _ _ h => h) (Or.inl ⟨by rfl, ?_⟩) ?_ ?_
     rotate_left
     ·intro w'
      go_simp
      with_reducible rfl
     rotate_left
     ·simp only [Act.put, List.setIfInBounds_toArray, List.set_cons_zero, List.set_cons_succ, i64_w, i32_w]
      rfl
     refine pure_ (i := 1) (N := some 18) (v := ?_) (a' := ?_) #[true, true, false, false, false, false, false, false, false, false] rfl rfl (qs0 HT_.out z7_31) (fun _ _ _ h => h) (Or.inl ⟨by rfl, ?_⟩) ?_ ?_
     rotate_left
     ·intro w'
      go_simp
      with_reducible rfl
     rotate_left
     ·simp only [Act.put, List.setIfInBounds_toArray, List.set_cons_zero, List.set_cons_succ, i64_w, i32_w]
      rfl
     refine pure_ (i := 2) (N := some 19) (v := ?_) (a' := ?_) #[true, true, true, false, false, false, false, false, false, false] rfl rfl (qs0 HT_.out z7_31) (fun _ _ _ h => h) (Or.inl ⟨by rfl, ?_⟩) ?_ ?_
     rotate_left
     ·intro w'
      go_simp
      with_reducible rfl
     rotate_left
     ·simp only [Act.put, List.setIfInBounds_toArray, List.set_cons_zero, List.set_cons_succ, i64_w, i32_w]
      rfl
     refine pure_ (i := 4) (N := some 21) (v := ?_) (a' := ?_) #[true, true, true, false, true, false, false, false, false, false] rfl rfl (qs0 HT_.out z7_31) (fun _ _ _ h => h) (Or.inl ⟨by rfl, ?_⟩) ?_ ?_
     rotate_left
     ·intro w'
      go_simp
      with_reducible rfl
     rotate_left
     ·simp only [Act.put, List.setIfInBounds_toArray, List.set_cons_zero, List.set_cons_succ, i64_w, i32_w]
      rfl
     refine pure_ (i := 5) (N := some 22) (v := ?_) (a' := ?_) #[true, true, true, false, true, true, false, false, false, false] rfl rfl (qs0 HT_.out z7_31) (fun _ _ _ h => h) (Or.inl ⟨by rfl, ?_⟩) ?_ ?_
     rotate_left
     ·intro w'
      go_simp
      with_reducible rfl
     rotate_left
     ·simp only [Act.put, List.setIfInBounds_toArray, List.set_cons_zero, List.set_cons_succ, i64_w, i32_w]
      rfl
     refine pure_ (i := 6) (N := some 23) (v := ?_) (a' := ?_) #[true, true, true, false, true, true, true, false, false, false] rfl rfl (qs0 HT_.out z7_31) (fun _ _ _ h => h) (Or.inl ⟨by rfl, ?_⟩) ?_ ?_
     rotate_left
     ·intro w'
      go_simp
      with_reducible rfl
     rotate_left
     ·simp only [Act.put, List.setIfInBounds_toArray, List.set_cons_zero, List.set_cons_succ, i64_w, i32_w]
      rfl
     refine take_ (i := 3) (N := some 20) (v := ?_) (a' := ?_) #[true, true, true, true, true, true, true, false, false, false] rfl rfl (qd1 HT_.out HW_.out z7_31) (fun _ _ _ h => h) (Or.inl ⟨by rfl, ?_⟩) hHeld ?_ ?_
     rotate_left
     ·rintro w' ⟨s0, s1, s2, s3⟩
      go_simp
      with_reducible rfl
     rotate_left
     ·simp only [Act.put, List.setIfInBounds_toArray, List.set_cons_zero, List.set_cons_succ, i64_w, i32_w]
      rfl
     refine take_ (i := 7) (N := some 24) (v := ?_) (a' := ?_) #[true, true, true, true, true, true, true, true, false, false] rfl rfl (qd1 HT_.out HW_.out z7_31) (fun _ _ _ h => h) (Or.inl ⟨by rfl, ?_⟩) hHeld ?_ ?_
     rotate_left
     ·rintro w' ⟨s0, s1, s2, s3⟩
      go_simp
      with_reducible rfl
     rotate_left
     ·simp only [Act.put, List.setIfInBounds_toArray, List.set_cons_zero, List.set_cons_succ, i64_w, i32_w]
      rfl
     refine one_ (i := 8) (N := some 25) #[true, true, true, true, true, true, true, true, true, false] rfl rfl (one_of HT_.out z7_31) (by decide) (fun K hK => ?_)
     refine goes_ Try.func60 z7_31 rfl #[.agg #[.int .i64 ((rd_T59 l0 x5_1).f0), .int .i64 ((rd_T59 l0 x5_1).f1)], .agg #[.int .i64 ((rd_T59 l1 x5_1).f0), .int .i64 ((rd_T59 l1 x5_1).f1)]] (by rfl) rfl rfl z7_11 ?_
     with_reducible refine (laws_eqLay.calls ((rd_T59 l0 x5_1).f0) ((rd_T59 l0 x5_1).f1) ((rd_T59 l1 x5_1).f0) ((rd_T59 l1 x5_1).f1) false _ A7.out).mono ?_
     rintro e w12 ⟨rfl, hb⟩
     refine ⟨_, rfl, ?_⟩
     have n0_ := Aside0.mk (qg0 z7_0 hb)
     clear HB
     have HB := n0_
     clear n0_
     (try clear hb)
     (try clear hb2)
     (try clear hk)
     (try clear hi)
     refine hK.out _ _ ⟨((HB.out.cell (World.block_lt_of_cell? w _ hw210_0)).trans hw210_0), ((HB.out.cell (World.block_lt_of_cell? w _ hw210_1)).trans hw210_1), ((HB.out.cell (World.block_lt_of_cell? w _ hw211_0)).trans hw211_0), ((HB.out.cell (World.block_lt_of_cell? w _ hw211_1)).trans hw211_1)⟩ (fun hHeld => ?_)
     clear hK K
     refine norm_ (a' := ?_) ?_ ?_
     rotate_left
     ·show Act.put _ (some 25) _ = _
      simp only [Act.put, List.setIfInBounds_toArray, List.set_cons_zero, List.set_cons_succ, i64_w, i32_w]
      rfl
     refine pure_ (i := 9) (N := some 26) (v := ?_) (a' := ?_) #[true, true, true, true, true, true, true, true, true, true] rfl rfl (qs0 HT_.out z7_31) (fun _ _ _ h => h) (Or.inl ⟨by rfl, ?_⟩) ?_ ?_
     rotate_left
     ·intro w'
      go_simp
      with_reducible rfl
     rotate_left
     ·simp only [Act.put, List.setIfInBounds_toArray, List.set_cons_zero, List.set_cons_succ, i64_w, i32_w]
      rfl
     refine done_ (done_of HT_.out z7_31) ?_
     try go_wp2
     go_ret
     exact ⟨z7_8, z7_0⟩
    rw [if_neg c4] at H
    have c4b0 : decide (x5_1 < (l0.length : Int)) = false := decide_eq_false c4
    clear c4
    obtain rfl := Option.some.inj H
    go_wp2
    go_ret
    exact ⟨z7_8, z7_0⟩
 rw [if_neg c3] at H
 have c3b0 : ((l0.length : Int) == (l1.length : Int)) = false := beq_eq_false_iff_ne.mpr c3
 have c3b1 : ((l0.length : Int) != (l1.length : Int)) = true := bne_iff_ne.mpr c3
 have c3b2 : (l0.length == l1.length) = false := by first | simpa using c3 | (simp at c3 ⊢; omega)
 obtain rfl := Option.some.inj H
 go_enter Try.func40, Try.ntmps40
 go_wp2
 go_ret
 exact ⟨z7_8, z7_0⟩

/-! ### laws_eqWorth: function 15 -/
def laws_eqWorth.f (k : Nat) (a0_0 : Int) (a0_1 : Int) (l0_2 : List (S59)) (a0_3 : Int) (a1_0 : Int) (a1_1 : Int) (l1_2 : List (S59)) (a1_3 : Int) : Option (Bool) := if a0_0 = a1_0 then (if a0_1 = a1_1 then ((laws_eqLayS.f k l0_2 l1_2).bind fun t215 => (if t215 = true then (if a0_3 = a1_3 then (some true) else (some false)) else (some false))) else (some false)) else (some false)
theorem laws_eqWorth.mono : ∀ a0 a1 a2 a3 a4 a5 a6 a7 k, LeO (laws_eqWorth.f k a0 a1 a2 a3 a4 a5 a6 a7) (laws_eqWorth.f (k + 1) a0 a1 a2 a3 a4 a5 a6 a7) := by
 intro a0 a1 a2 a3 a4 a5 a6 a7 k
 unfold laws_eqWorth.f
 repeat' first
   | (with_reducible exact laws_eqLayS.mono _ _ _)
   | (with_reducible exact LeO.refl _)
   | (with_reducible exact LeO.none _)
   | (with_reducible refine LeO.ite ?_ ?_)
   | (with_reducible refine LeO.bind ?_ (fun _ => ?_))
   | exact laws_eqLayS.mono _ _ _
   | exact LeO.none _
   | refine LeO.ite ?_ ?_
   | refine LeO.bind ?_ (fun _ => ?_)
set_option maxHeartbeats 8000000 in
set_option maxRecDepth 100000 in
theorem laws_eqWorth.calls (k : Nat) (a0_0 : Int) (a0_1 : Int) (A0_2 : Option Addr) (c0_2 : Nat) (l0_2 : List (S59)) (a0_3 : Int) (a1_0 : Int) (a1_1 : Int) (A1_2 : Option Addr) (c1_2 : Nat) (l1_2 : List (S59)) (a1_3 : Int) (r : Bool) (w : World) (hr0_2 : Kd.C k59 w A0_2 l0_2.length l0_2) (hc0_2 : l0_2.length ≤ c0_2) (hr1_2 : Kd.C k59 w A1_2 l1_2.length l1_2) (hc1_2 : l1_2.length ≤ c1_2) (h : laws_eqWorth.f k a0_0 a0_1 l0_2 a0_3 a1_0 a1_1 l1_2 a1_3 = some r) :
  Calls Try.prog 15 #[.agg #[.int .i64 a0_0, .int .i64 a0_1, .slice A0_2 l0_2.length c0_2, .int .i64 a0_3], .agg #[.int .i64 a1_0, .int .i64 a1_1, .slice A1_2 l1_2.length c1_2, .int .i64 a1_3]] w fun e w' => e = .returned (.bool r) ∧ Below w.heap.size w w' := by
 have hu37 := Try.underlying37
 have HR0_2 := Aside0.mk hr0_2
 have HC0_2 := Aside0.mk hc0_2
 clear hr0_2 hc0_2
 have HR1_2 := Aside0.mk hr1_2
 have HC1_2 := Aside0.mk hc1_2
 clear hr1_2 hc1_2
 have HB := Aside0.mk (Below.refl w.heap.size w)
 have H : (if a0_0 = a1_0 then (if a0_1 = a1_1 then ((laws_eqLayS.f k l0_2 l1_2).bind fun t215 => (if t215 = true then (if a0_3 = a1_3 then (some true) else (some false)) else (some false))) else (some false)) else (some false)) = some r := h
 clear h
 by_cases c3 : a0_0 = a1_0
 ·rw [if_pos c3] at H
  have c3b0 : (a0_0 == a1_0) = true := beq_iff_eq.mpr c3
  have c3b1 : (a0_0 != a1_0) = false := bne_eq_false_iff_eq.mpr c3
  clear c3
  by_cases c4 : a0_1 = a1_1
  ·rw [if_pos c4] at H
   have c4b0 : (a0_1 == a1_1) = true := beq_iff_eq.mpr c4
   have c4b1 : (a0_1 != a1_1) = false := bne_eq_false_iff_eq.mpr c4
   clear c4
   replace H := Option.bind_eq_some_iff.mp H
   obtain ⟨t215, A50, H⟩ := H
   replace H : (if t215 = true then (if a0_3 = a1_3 then (some true) else (some false)) else (some false)) = some r := H
   have A5 := Aside0.mk A50
   clear A50
   by_cases c6 : t215 = true
   ·subst c6
    have H1 : (if a0_3 = a1_3 then (some true) else (some false)) = some r := by rw [if_pos rfl] at H; exact H
    clear H
    have H := H1
    clear H1
    by_cases c7 : a0_3 = a1_3
    ·rw [if_pos c7] at H
     have c7b0 : (a0_3 == a1_3) = true := beq_iff_eq.mpr c7
     have c7b1 : (a0_3 != a1_3) = false := bne_eq_false_iff_eq.mpr c7
     clear c7
     obtain rfl := Option.some.inj H
     go_enter Try.func15, Try.ntmps15
     go_wp2_with (first | ((with_reducible refine qr0 (N := 2) rfl ?_); refine qo0 ?hg (N := 2) ?hd (cs := #[.int .i64 a0_0, .int .i64 a0_1, .slice A0_2 l0_2.length c0_2, .int .i64 a0_3]) (t := 37) ?hr ?_; (case hd => rfl); (case hg => rfl); (case hr => exact z7_18); intro gb213 hg w8 hbox hb; have n0_ := Aside0.mk (qg0 z7_0 hb); have n1_ := Aside0.mk (hbox); have n2_ := Aside0.mk ((z7_1 : w.heap.size ≤ gb213)); have n3_ := Aside0.mk ((z7_1 : w.heap.size ≤ gb213)); clear HB; have HB := n0_; have BK213 := n1_; have GW213 := n2_; have GE213 := n3_; clear n0_ n1_ n2_ n3_; clear hb hbox hg) | ((with_reducible refine qr0 (N := 3) rfl ?_); refine qo0 ?hg (N := 3) ?hd (cs := #[.int .i64 a1_0, .int .i64 a1_1, .slice A1_2 l1_2.length c1_2, .int .i64 a1_3]) (t := 37) ?hr ?_; (case hd => rfl); (case hg => rfl); (case hr => exact z7_18); intro gb214 hg w9 hbox hb; have n0_ := Aside0.mk (qf0 (g := gb213) (o := .cells #[.int .i64 a0_0, .int .i64 a0_1, .slice A0_2 l0_2.length c0_2, .int .i64 a0_3] 37 (0, 0)) z7_3 hb); have n1_ := Aside0.mk (qg0 z7_2 hb); have n2_ := Aside0.mk (hbox); have n3_ := Aside0.mk ((z7_4 : w.heap.size ≤ gb214)); have n4_ := Aside0.mk ((z7_4 : w.heap.size ≤ gb214)); have n5_ := Aside0.mk ((z7_9 : gb213 ≠ gb214)); have n6_ := Aside0.mk ((z7_10 : gb214 ≠ gb213)); clear BK213; clear HB; have BK213 := n0_; have HB := n1_; have BK214 := n2_; have GW214 := n3_; have GE214 := n4_; have NB213_214 := n5_; have NB214_213 := n6_; clear n0_ n1_ n2_ n3_ n4_ n5_ n6_; clear hb hbox hg; have hnb10 := NB213_214.out; have hnc10 := NB214_213.out; have hcz11_0 : w9.cell? ⟨gb213, 0, none⟩ = some (.int .i64 a0_0) := (qb0 BK213.out 0).trans rfl; have hcz11_1 : w9.cell? ⟨gb213, 1, none⟩ = some (.int .i64 a0_1) := (qb0 BK213.out 1).trans rfl; have hcz11_2 : w9.cell? ⟨gb213, 2, none⟩ = some (.slice A0_2 l0_2.length c0_2) := (qb0 BK213.out 2).trans rfl; have hcz11_3 : w9.cell? ⟨gb213, 3, none⟩ = some (.int .i64 a0_3) := (qb0 BK213.out 3).trans rfl; have hfz11_0 := qa0 BK213.out 0; have hfz11_1 := qa0 BK213.out 1; have hfz11_2 := qa0 BK213.out 2; have hfz11_3 := qa0 BK213.out 3; have hcz12_0 : w9.cell? ⟨gb214, 0, none⟩ = some (.int .i64 a1_0) := (qb0 BK214.out 0).trans rfl; have hcz12_1 : w9.cell? ⟨gb214, 1, none⟩ = some (.int .i64 a1_1) := (qb0 BK214.out 1).trans rfl; have hcz12_2 : w9.cell? ⟨gb214, 2, none⟩ = some (.slice A1_2 l1_2.length c1_2) := (qb0 BK214.out 2).trans rfl; have hcz12_3 : w9.cell? ⟨gb214, 3, none⟩ = some (.int .i64 a1_3) := (qb0 BK214.out 3).trans rfl; have hfz12_0 := qa0 BK214.out 0; have hfz12_1 := qa0 BK214.out 1; have hfz12_2 := qa0 BK214.out 2; have hfz12_3 := qa0 BK214.out 3) | ((with_reducible refine qj0 (f := 40) rfl ?_); refine qy0 (some 19) rfl rfl Try.func40 z7_31 rfl #[.slice A0_2 l0_2.length c0_2, .slice A1_2 l1_2.length c1_2] rfl z7_11 ?_; (with_reducible refine (laws_eqLayS.calls k _ _ l0_2 _ _ l1_2 true _ ?side1 ?side2 ?side3 ?side4 A5.out).mono ?_); (case side1 => exact z7_16); (case side2 => exact HC0_2.out); (case side3 => exact z7_27); (case side4 => exact HC1_2.out); rintro e w13 ⟨rfl, hb⟩; refine ⟨_, rfl, ?_⟩; have n0_ := Aside0.mk (qf0 (g := gb213) (o := .cells #[.int .i64 a0_0, .int .i64 a0_1, .slice A0_2 l0_2.length c0_2, .int .i64 a0_3] 37 (0, 0)) z7_3 hb); have n1_ := Aside0.mk (qf0 (g := gb214) (o := .cells #[.int .i64 a1_0, .int .i64 a1_1, .slice A1_2 l1_2.length c1_2, .int .i64 a1_3] 37 (0, 0)) z7_30 hb); have n2_ := Aside0.mk (qg0 z7_5 hb); clear BK213; clear BK214; clear HB; have BK213 := n0_; have BK214 := n1_; have HB := n2_; clear n0_ n1_ n2_; (try clear hb); (try clear hb2); (try clear hk); (try clear hi); have hcz14_0 : w13.cell? ⟨gb213, 0, none⟩ = some (.int .i64 a0_0) := (qb0 BK213.out 0).trans rfl; have hcz14_1 : w13.cell? ⟨gb213, 1, none⟩ = some (.int .i64 a0_1) := (qb0 BK213.out 1).trans rfl; have hcz14_2 : w13.cell? ⟨gb213, 2, none⟩ = some (.slice A0_2 l0_2.length c0_2) := (qb0 BK213.out 2).trans rfl; have hcz14_3 : w13.cell? ⟨gb213, 3, none⟩ = some (.int .i64 a0_3) := (qb0 BK213.out 3).trans rfl; have hfz14_0 := qa0 BK213.out 0; have hfz14_1 := qa0 BK213.out 1; have hfz14_2 := qa0 BK213.out 2; have hfz14_3 := qa0 BK213.out 3; have hcz15_0 : w13.cell? ⟨gb214, 0, none⟩ = some (.int .i64 a1_0) := (qb0 BK214.out 0).trans rfl; have hcz15_1 : w13.cell? ⟨gb214, 1, none⟩ = some (.int .i64 a1_1) := (qb0 BK214.out 1).trans rfl; have hcz15_2 : w13.cell? ⟨gb214, 2, none⟩ = some (.slice A1_2 l1_2.length c1_2) := (qb0 BK214.out 2).trans rfl; have hcz15_3 : w13.cell? ⟨gb214, 3, none⟩ = some (.int .i64 a1_3) := (qb0 BK214.out 3).trans rfl; have hfz15_0 := qa0 BK214.out 0; have hfz15_1 := qa0 BK214.out 1; have hfz15_2 := qa0 BK214.out 2; have hfz15_3 := qa0 BK214.out 3))
     go_ret
     exact ⟨z7_8, z7_5⟩
    rw [if_neg c7] at H
    have c7b0 : (a0_3 == a1_3) = false := beq_eq_false_iff_ne.mpr c7
    have c7b1 : (a0_3 != a1_3) = true := bne_iff_ne.mpr c7
    obtain rfl := Option.some.inj H
    go_enter Try.func15, Try.ntmps15
    go_wp2_with (first | ((with_reducible refine qr0 (N := 2) rfl ?_); refine qo0 ?hg (N := 2) ?hd (cs := #[.int .i64 a0_0, .int .i64 a0_1, .slice A0_2 l0_2.length c0_2, .int .i64 a0_3]) (t := 37) ?hr ?_; (case hd => rfl); (case hg => rfl); (case hr => exact z7_18); intro gb213 hg w16 hbox hb; have n0_ := Aside0.mk (qg0 z7_0 hb); have n1_ := Aside0.mk (hbox); have n2_ := Aside0.mk ((z7_1 : w.heap.size ≤ gb213)); have n3_ := Aside0.mk ((z7_1 : w.heap.size ≤ gb213)); clear HB; have HB := n0_; have BK213 := n1_; have GW213 := n2_; have GE213 := n3_; clear n0_ n1_ n2_ n3_; clear hb hbox hg) | ((with_reducible refine qr0 (N := 3) rfl ?_); refine qo0 ?hg (N := 3) ?hd (cs := #[.int .i64 a1_0, .int .i64 a1_1, .slice A1_2 l1_2.length c1_2, .int .i64 a1_3]) (t := 37) ?hr ?_; (case hd => rfl); (case hg => rfl); (case hr => exact z7_18); intro gb214 hg w17 hbox hb; have n0_ := Aside0.mk (qf0 (g := gb213) (o := .cells #[.int .i64 a0_0, .int .i64 a0_1, .slice A0_2 l0_2.length c0_2, .int .i64 a0_3] 37 (0, 0)) z7_3 hb); have n1_ := Aside0.mk (qg0 z7_2 hb); have n2_ := Aside0.mk (hbox); have n3_ := Aside0.mk ((z7_4 : w.heap.size ≤ gb214)); have n4_ := Aside0.mk ((z7_4 : w.heap.size ≤ gb214)); have n5_ := Aside0.mk ((z7_9 : gb213 ≠ gb214)); have n6_ := Aside0.mk ((z7_10 : gb214 ≠ gb213)); clear BK213; clear HB; have BK213 := n0_; have HB := n1_; have BK214 := n2_; have GW214 := n3_; have GE214 := n4_; have NB213_214 := n5_; have NB214_213 := n6_; clear n0_ n1_ n2_ n3_ n4_ n5_ n6_; clear hb hbox hg; have hnb18 := NB213_214.out; have hnc18 := NB214_213.out; have hcz19_0 : w17.cell? ⟨gb213, 0, none⟩ = some (.int .i64 a0_0) := (qb0 BK213.out 0).trans rfl; have hcz19_1 : w17.cell? ⟨gb213, 1, none⟩ = some (.int .i64 a0_1) := (qb0 BK213.out 1).trans rfl; have hcz19_2 : w17.cell? ⟨gb213, 2, none⟩ = some (.slice A0_2 l0_2.length c0_2) := (qb0 BK213.out 2).trans rfl; have hcz19_3 : w17.cell? ⟨gb213, 3, none⟩ = some (.int .i64 a0_3) := (qb0 BK213.out 3).trans rfl; have hfz19_0 := qa0 BK213.out 0; have hfz19_1 := qa0 BK213.out 1; have hfz19_2 := qa0 BK213.out 2; have hfz19_3 := qa0 BK213.out 3; have hcz20_0 : w17.cell? ⟨gb214, 0, none⟩ = some (.int .i64 a1_0) := (qb0 BK214.out 0).trans rfl; have hcz20_1 : w17.cell? ⟨gb214, 1, none⟩ = some (.int .i64 a1_1) := (qb0 BK214.out 1).trans rfl; have hcz20_2 : w17.cell? ⟨gb214, 2, none⟩ = some (.slice A1_2 l1_2.length c1_2) := (qb0 BK214.out 2).trans rfl; have hcz20_3 : w17.cell? ⟨gb214, 3, none⟩ = some (.int .i64 a1_3) := (qb0 BK214.out 3).trans rfl; have hfz20_0 := qa0 BK214.out 0; have hfz20_1 := qa0 BK214.out 1; have hfz20_2 := qa0 BK214.out 2; have hfz20_3 := qa0 BK214.out 3) | ((with_reducible refine qj0 (f := 40) rfl ?_); refine qy0 (some 19) rfl rfl Try.func40 z7_31 rfl #[.slice A0_2 l0_2.length c0_2, .slice A1_2 l1_2.length c1_2] rfl z7_11 ?_; (with_reducible refine (laws_eqLayS.calls k _ _ l0_2 _ _ l1_2 true _ ?side1 ?side2 ?side3 ?side4 A5.out).mono ?_); (case side1 => exact z7_16); (case side2 => exact HC0_2.out); (case side3 => exact z7_27); (case side4 => exact HC1_2.out); rintro e w21 ⟨rfl, hb⟩; refine ⟨_, rfl, ?_⟩; have n0_ := Aside0.mk (qf0 (g := gb213) (o := .cells #[.int .i64 a0_0, .int .i64 a0_1, .slice A0_2 l0_2.length c0_2, .int .i64 a0_3] 37 (0, 0)) z7_3 hb); have n1_ := Aside0.mk (qf0 (g := gb214) (o := .cells #[.int .i64 a1_0, .int .i64 a1_1, .slice A1_2 l1_2.length c1_2, .int .i64 a1_3] 37 (0, 0)) z7_30 hb); have n2_ := Aside0.mk (qg0 z7_5 hb); clear BK213; clear BK214; clear HB; have BK213 := n0_; have BK214 := n1_; have HB := n2_; clear n0_ n1_ n2_; (try clear hb); (try clear hb2); (try clear hk); (try clear hi); have hcz22_0 : w21.cell? ⟨gb213, 0, none⟩ = some (.int .i64 a0_0) := (qb0 BK213.out 0).trans rfl; have hcz22_1 : w21.cell? ⟨gb213, 1, none⟩ = some (.int .i64 a0_1) := (qb0 BK213.out 1).trans rfl; have hcz22_2 : w21.cell? ⟨gb213, 2, none⟩ = some (.slice A0_2 l0_2.length c0_2) := (qb0 BK213.out 2).trans rfl; have hcz22_3 : w21.cell? ⟨gb213, 3, none⟩ = some (.int .i64 a0_3) := (qb0 BK213.out 3).trans rfl; have hfz22_0 := qa0 BK213.out 0; have hfz22_1 := qa0 BK213.out 1; have hfz22_2 := qa0 BK213.out 2; have hfz22_3 := qa0 BK213.out 3; have hcz23_0 : w21.cell? ⟨gb214, 0, none⟩ = some (.int .i64 a1_0) := (qb0 BK214.out 0).trans rfl; have hcz23_1 : w21.cell? ⟨gb214, 1, none⟩ = some (.int .i64 a1_1) := (qb0 BK214.out 1).trans rfl; have hcz23_2 : w21.cell? ⟨gb214, 2, none⟩ = some (.slice A1_2 l1_2.length c1_2) := (qb0 BK214.out 2).trans rfl; have hcz23_3 : w21.cell? ⟨gb214, 3, none⟩ = some (.int .i64 a1_3) := (qb0 BK214.out 3).trans rfl; have hfz23_0 := qa0 BK214.out 0; have hfz23_1 := qa0 BK214.out 1; have hfz23_2 := qa0 BK214.out 2; have hfz23_3 := qa0 BK214.out 3))
    go_ret
    exact ⟨z7_8, z7_5⟩
   replace c6 := Bool.eq_false_iff.mpr c6
   subst c6
   have H1 : (some false) = some r := by rw [if_neg (show ¬ (false = true) by decide)] at H; exact H
   clear H
   have H := H1
   clear H1
   obtain rfl := Option.some.inj H
   go_enter Try.func15, Try.ntmps15
   go_wp2_with (first | ((with_reducible refine qr0 (N := 2) rfl ?_); refine qo0 ?hg (N := 2) ?hd (cs := #[.int .i64 a0_0, .int .i64 a0_1, .slice A0_2 l0_2.length c0_2, .int .i64 a0_3]) (t := 37) ?hr ?_; (case hd => rfl); (case hg => rfl); (case hr => exact z7_18); intro gb213 hg w24 hbox hb; have n0_ := Aside0.mk (qg0 z7_0 hb); have n1_ := Aside0.mk (hbox); have n2_ := Aside0.mk ((z7_1 : w.heap.size ≤ gb213)); have n3_ := Aside0.mk ((z7_1 : w.heap.size ≤ gb213)); clear HB; have HB := n0_; have BK213 := n1_; have GW213 := n2_; have GE213 := n3_; clear n0_ n1_ n2_ n3_; clear hb hbox hg) | ((with_reducible refine qr0 (N := 3) rfl ?_); refine qo0 ?hg (N := 3) ?hd (cs := #[.int .i64 a1_0, .int .i64 a1_1, .slice A1_2 l1_2.length c1_2, .int .i64 a1_3]) (t := 37) ?hr ?_; (case hd => rfl); (case hg => rfl); (case hr => exact z7_18); intro gb214 hg w25 hbox hb; have n0_ := Aside0.mk (qf0 (g := gb213) (o := .cells #[.int .i64 a0_0, .int .i64 a0_1, .slice A0_2 l0_2.length c0_2, .int .i64 a0_3] 37 (0, 0)) z7_3 hb); have n1_ := Aside0.mk (qg0 z7_2 hb); have n2_ := Aside0.mk (hbox); have n3_ := Aside0.mk ((z7_4 : w.heap.size ≤ gb214)); have n4_ := Aside0.mk ((z7_4 : w.heap.size ≤ gb214)); have n5_ := Aside0.mk ((z7_9 : gb213 ≠ gb214)); have n6_ := Aside0.mk ((z7_10 : gb214 ≠ gb213)); clear BK213; clear HB; have BK213 := n0_; have HB := n1_; have BK214 := n2_; have GW214 := n3_; have GE214 := n4_; have NB213_214 := n5_; have NB214_213 := n6_; clear n0_ n1_ n2_ n3_ n4_ n5_ n6_; clear hb hbox hg; have hnb26 := NB213_214.out; have hnc26 := NB214_213.out; have hcz27_0 : w25.cell? ⟨gb213, 0, none⟩ = some (.int .i64 a0_0) := (qb0 BK213.out 0).trans rfl; have hcz27_1 : w25.cell? ⟨gb213, 1, none⟩ = some (.int .i64 a0_1) := (qb0 BK213.out 1).trans rfl; have hcz27_2 : w25.cell? ⟨gb213, 2, none⟩ = some (.slice A0_2 l0_2.length c0_2) := (qb0 BK213.out 2).trans rfl; have hcz27_3 : w25.cell? ⟨gb213, 3, none⟩ = some (.int .i64 a0_3) := (qb0 BK213.out 3).trans rfl; have hfz27_0 := qa0 BK213.out 0; have hfz27_1 := qa0 BK213.out 1; have hfz27_2 := qa0 BK213.out 2; have hfz27_3 := qa0 BK213.out 3; have hcz28_0 : w25.cell? ⟨gb214, 0, none⟩ = some (.int .i64 a1_0) := (qb0 BK214.out 0).trans rfl; have hcz28_1 : w25.cell? ⟨gb214, 1, none⟩ = some (.int .i64 a1_1) := (qb0 BK214.out 1).trans rfl; have hcz28_2 : w25.cell? ⟨gb214, 2, none⟩ = some (.slice A1_2 l1_2.length c1_2) := (qb0 BK214.out 2).trans rfl; have hcz28_3 : w25.cell? ⟨gb214, 3, none⟩ = some (.int .i64 a1_3) := (qb0 BK214.out 3).trans rfl; have hfz28_0 := qa0 BK214.out 0; have hfz28_1 := qa0 BK214.out 1; have hfz28_2 := qa0 BK214.out 2; have hfz28_3 := qa0 BK214.out 3) | ((with_reducible refine qj0 (f := 40) rfl ?_); refine qy0 (some 19) rfl rfl Try.func40 z7_31 rfl #[.slice A0_2 l0_2.length c0_2, .slice A1_2 l1_2.length c1_2] rfl z7_11 ?_; (with_reducible refine (laws_eqLayS.calls k _ _ l0_2 _ _ l1_2 false _ ?side1 ?side2 ?side3 ?side4 A5.out).mono ?_); (case side1 => exact z7_16); (case side2 => exact HC0_2.out); (case side3 => exact z7_27); (case side4 => exact HC1_2.out); rintro e w29 ⟨rfl, hb⟩; refine ⟨_, rfl, ?_⟩; have n0_ := Aside0.mk (qf0 (g := gb213) (o := .cells #[.int .i64 a0_0, .int .i64 a0_1, .slice A0_2 l0_2.length c0_2, .int .i64 a0_3] 37 (0, 0)) z7_3 hb); have n1_ := Aside0.mk (qf0 (g := gb214) (o := .cells #[.int .i64 a1_0, .int .i64 a1_1, .slice A1_2 l1_2.length c1_2, .int .i64 a1_3] 37 (0, 0)) z7_30 hb); have n2_ := Aside0.mk (qg0 z7_5 hb); clear BK213; clear BK214; clear HB; have BK213 := n0_; have BK214 := n1_; have HB := n2_; clear n0_ n1_ n2_; (try clear hb); (try clear hb2); (try clear hk); (try clear hi)))
   go_ret
   exact ⟨z7_8, z7_5⟩
  rw [if_neg c4] at H
  have c4b0 : (a0_1 == a1_1) = false := beq_eq_false_iff_ne.mpr c4
  have c4b1 : (a0_1 != a1_1) = true := bne_iff_ne.mpr c4
  obtain rfl := Option.some.inj H
  go_enter Try.func15, Try.ntmps15
  go_wp2_with (first | ((with_reducible refine qr0 (N := 2) rfl ?_); refine qo0 ?hg (N := 2) ?hd (cs := #[.int .i64 a0_0, .int .i64 a0_1, .slice A0_2 l0_2.length c0_2, .int .i64 a0_3]) (t := 37) ?hr ?_; (case hd => rfl); (case hg => rfl); (case hr => exact z7_18); intro gb213 hg w30 hbox hb; have n0_ := Aside0.mk (qg0 z7_0 hb); have n1_ := Aside0.mk (hbox); have n2_ := Aside0.mk ((z7_1 : w.heap.size ≤ gb213)); have n3_ := Aside0.mk ((z7_1 : w.heap.size ≤ gb213)); clear HB; have HB := n0_; have BK213 := n1_; have GW213 := n2_; have GE213 := n3_; clear n0_ n1_ n2_ n3_; clear hb hbox hg) | ((with_reducible refine qr0 (N := 3) rfl ?_); refine qo0 ?hg (N := 3) ?hd (cs := #[.int .i64 a1_0, .int .i64 a1_1, .slice A1_2 l1_2.length c1_2, .int .i64 a1_3]) (t := 37) ?hr ?_; (case hd => rfl); (case hg => rfl); (case hr => exact z7_18); intro gb214 hg w31 hbox hb; have n0_ := Aside0.mk (qf0 (g := gb213) (o := .cells #[.int .i64 a0_0, .int .i64 a0_1, .slice A0_2 l0_2.length c0_2, .int .i64 a0_3] 37 (0, 0)) z7_3 hb); have n1_ := Aside0.mk (qg0 z7_2 hb); have n2_ := Aside0.mk (hbox); have n3_ := Aside0.mk ((z7_4 : w.heap.size ≤ gb214)); have n4_ := Aside0.mk ((z7_4 : w.heap.size ≤ gb214)); have n5_ := Aside0.mk ((z7_9 : gb213 ≠ gb214)); have n6_ := Aside0.mk ((z7_10 : gb214 ≠ gb213)); clear BK213; clear HB; have BK213 := n0_; have HB := n1_; have BK214 := n2_; have GW214 := n3_; have GE214 := n4_; have NB213_214 := n5_; have NB214_213 := n6_; clear n0_ n1_ n2_ n3_ n4_ n5_ n6_; clear hb hbox hg; have hnb32 := NB213_214.out; have hnc32 := NB214_213.out; have hcz33_0 : w31.cell? ⟨gb213, 0, none⟩ = some (.int .i64 a0_0) := (qb0 BK213.out 0).trans rfl; have hcz33_1 : w31.cell? ⟨gb213, 1, none⟩ = some (.int .i64 a0_1) := (qb0 BK213.out 1).trans rfl; have hcz33_2 : w31.cell? ⟨gb213, 2, none⟩ = some (.slice A0_2 l0_2.length c0_2) := (qb0 BK213.out 2).trans rfl; have hcz33_3 : w31.cell? ⟨gb213, 3, none⟩ = some (.int .i64 a0_3) := (qb0 BK213.out 3).trans rfl; have hfz33_0 := qa0 BK213.out 0; have hfz33_1 := qa0 BK213.out 1; have hfz33_2 := qa0 BK213.out 2; have hfz33_3 := qa0 BK213.out 3; have hcz34_0 : w31.cell? ⟨gb214, 0, none⟩ = some (.int .i64 a1_0) := (qb0 BK214.out 0).trans rfl; have hcz34_1 : w31.cell? ⟨gb214, 1, none⟩ = some (.int .i64 a1_1) := (qb0 BK214.out 1).trans rfl; have hcz34_2 : w31.cell? ⟨gb214, 2, none⟩ = some (.slice A1_2 l1_2.length c1_2) := (qb0 BK214.out 2).trans rfl; have hcz34_3 : w31.cell? ⟨gb214, 3, none⟩ = some (.int .i64 a1_3) := (qb0 BK214.out 3).trans rfl; have hfz34_0 := qa0 BK214.out 0; have hfz34_1 := qa0 BK214.out 1; have hfz34_2 := qa0 BK214.out 2; have hfz34_3 := qa0 BK214.out 3))
  go_ret
  exact ⟨z7_8, z7_5⟩
 rw [if_neg c3] at H
 have c3b0 : (a0_0 == a1_0) = false := beq_eq_false_iff_ne.mpr c3
 have c3b1 : (a0_0 != a1_0) = true := bne_iff_ne.mpr c3
 obtain rfl := Option.some.inj H
 go_enter Try.func15, Try.ntmps15
 go_wp2_with (first | ((with_reducible refine qr0 (N := 2) rfl ?_); refine qo0 ?hg (N := 2) ?hd (cs := #[.int .i64 a0_0, .int .i64 a0_1, .slice A0_2 l0_2.length c0_2, .int .i64 a0_3]) (t := 37) ?hr ?_; (case hd => rfl); (case hg => rfl); (case hr => exact z7_18); intro gb213 hg w35 hbox hb; have n0_ := Aside0.mk (qg0 z7_0 hb); have n1_ := Aside0.mk (hbox); have n2_ := Aside0.mk ((z7_1 : w.heap.size ≤ gb213)); have n3_ := Aside0.mk ((z7_1 : w.heap.size ≤ gb213)); clear HB; have HB := n0_; have BK213 := n1_; have GW213 := n2_; have GE213 := n3_; clear n0_ n1_ n2_ n3_; clear hb hbox hg) | ((with_reducible refine qr0 (N := 3) rfl ?_); refine qo0 ?hg (N := 3) ?hd (cs := #[.int .i64 a1_0, .int .i64 a1_1, .slice A1_2 l1_2.length c1_2, .int .i64 a1_3]) (t := 37) ?hr ?_; (case hd => rfl); (case hg => rfl); (case hr => exact z7_18); intro gb214 hg w36 hbox hb; have n0_ := Aside0.mk (qf0 (g := gb213) (o := .cells #[.int .i64 a0_0, .int .i64 a0_1, .slice A0_2 l0_2.length c0_2, .int .i64 a0_3] 37 (0, 0)) z7_3 hb); have n1_ := Aside0.mk (qg0 z7_2 hb); have n2_ := Aside0.mk (hbox); have n3_ := Aside0.mk ((z7_4 : w.heap.size ≤ gb214)); have n4_ := Aside0.mk ((z7_4 : w.heap.size ≤ gb214)); have n5_ := Aside0.mk ((z7_9 : gb213 ≠ gb214)); have n6_ := Aside0.mk ((z7_10 : gb214 ≠ gb213)); clear BK213; clear HB; have BK213 := n0_; have HB := n1_; have BK214 := n2_; have GW214 := n3_; have GE214 := n4_; have NB213_214 := n5_; have NB214_213 := n6_; clear n0_ n1_ n2_ n3_ n4_ n5_ n6_; clear hb hbox hg; have hnb37 := NB213_214.out; have hnc37 := NB214_213.out; have hcz38_0 : w36.cell? ⟨gb213, 0, none⟩ = some (.int .i64 a0_0) := (qb0 BK213.out 0).trans rfl; have hcz38_1 : w36.cell? ⟨gb213, 1, none⟩ = some (.int .i64 a0_1) := (qb0 BK213.out 1).trans rfl; have hcz38_2 : w36.cell? ⟨gb213, 2, none⟩ = some (.slice A0_2 l0_2.length c0_2) := (qb0 BK213.out 2).trans rfl; have hcz38_3 : w36.cell? ⟨gb213, 3, none⟩ = some (.int .i64 a0_3) := (qb0 BK213.out 3).trans rfl; have hfz38_0 := qa0 BK213.out 0; have hfz38_1 := qa0 BK213.out 1; have hfz38_2 := qa0 BK213.out 2; have hfz38_3 := qa0 BK213.out 3; have hcz39_0 : w36.cell? ⟨gb214, 0, none⟩ = some (.int .i64 a1_0) := (qb0 BK214.out 0).trans rfl; have hcz39_1 : w36.cell? ⟨gb214, 1, none⟩ = some (.int .i64 a1_1) := (qb0 BK214.out 1).trans rfl; have hcz39_2 : w36.cell? ⟨gb214, 2, none⟩ = some (.slice A1_2 l1_2.length c1_2) := (qb0 BK214.out 2).trans rfl; have hcz39_3 : w36.cell? ⟨gb214, 3, none⟩ = some (.int .i64 a1_3) := (qb0 BK214.out 3).trans rfl; have hfz39_0 := qa0 BK214.out 0; have hfz39_1 := qa0 BK214.out 1; have hfz39_2 := qa0 BK214.out 2; have hfz39_3 := qa0 BK214.out 3))
 go_ret
 exact ⟨z7_8, z7_5⟩

/-! ### laws_markLayS: function 41 -/
def laws_markLayS.l0 : Nat → List (S59) → Int → Int → Option (Int × (List (S59)))
 | 0, _, _, _ => none
 | k + 1, x0, x1, x5 => if x5 < (x0.length : Int) then (if 0 ≤ x5 then ((some (x0.set (x5 : Int).toNat (⟨x1, (rd_T59 x0 x5).f1⟩ : S59) : List (S59))).bind fun y216 => (laws_markLayS.l0 k (y216.set (x5 : Int).toNat (⟨(rd_T59 y216 x5).f0, wrap64 (x1 + 1)⟩ : S59)) (wrap64 ((wrap64 (x1 + 1)) + 1)) (wrap64 (x5 + 1)))) else (none)) else (some (x1, x0))
def laws_markLayS.f (k : Nat) (l0 : List (S59)) (a1 : Int) : Option (Int × (List (S59))) := laws_markLayS.l0 k l0 a1 0
theorem laws_markLayS.mono_l : ∀ k, (∀ y0 y1 y2, LeO (laws_markLayS.l0 k y0 y1 y2) (laws_markLayS.l0 (k + 1) y0 y1 y2))
 | 0 => fun _ _ _ r h => by simp [laws_markLayS.l0] at h
 | k + 1 => by
  have ih0 := laws_markLayS.mono_l k
  ·intro y0 y1 y2
   unfold laws_markLayS.l0
   repeat' first
   | (with_reducible exact ih0 _ _ _)
   | (with_reducible exact LeO.refl _)
   | (with_reducible exact LeO.none _)
   | (with_reducible refine LeO.ite ?_ ?_)
   | (with_reducible refine LeO.bind ?_ (fun _ => ?_))
   | exact ih0 _ _ _
   | exact LeO.none _
   | refine LeO.ite ?_ ?_
   | refine LeO.bind ?_ (fun _ => ?_)
theorem laws_markLayS.mono : ∀ a0 a1 k, LeO (laws_markLayS.f k a0 a1) (laws_markLayS.f (k + 1) a0 a1) := by
 intro a0 a1 k
 have ih0 := laws_markLayS.mono_l k
 unfold laws_markLayS.f
 repeat' first
   | (with_reducible exact ih0 _ _ _)
   | (with_reducible exact LeO.refl _)
   | (with_reducible exact LeO.none _)
   | (with_reducible refine LeO.ite ?_ ?_)
   | (with_reducible refine LeO.bind ?_ (fun _ => ?_))
   | exact ih0 _ _ _
   | exact LeO.none _
   | refine LeO.ite ?_ ?_
   | refine LeO.bind ?_ (fun _ => ?_)
set_option maxHeartbeats 8000000 in
set_option maxRecDepth 100000 in
theorem laws_markLayS.calls (k : Nat) (P0_ : Nat → Prop) (u9000_ : Value) (l0 : List (S59)) (a1 : Int) (r1 : Int) (r2 : List (S59)) (w0 w : World) (hB : Below w0.heap.size w0 w) (ho0 : Kd.R k59 59 w w0.heap.size P0_ u9000_ l0) (h : laws_markLayS.f k l0 a1 = some (r1, r2)) :
  Calls Try.prog 41 #[u9000_, .int .i64 a1] w fun e w' => e = .returned (.int .i64 r1) ∧ Kd.R k59 59 w' w0.heap.size (fun k_ => (P0_ k_ ∨ w.heap.size ≤ k_)) u9000_ r2 ∧ Below w0.heap.size w0 w' ∧ Kept w w' (fun k_ => P0_ k_) := by
 have HO0 := Aside0.mk (show Kd.R k59 59 w w0.heap.size (fun k_ => (P0_ k_ ∨ w.heap.size ≤ k_)) u9000_ l0 from Kd.qw0 ho0 (fun k_ hk => (.inl hk)))
 have HK := Aside0.mk (Kept.refl w (fun k_ => P0_ k_))
 have HW0 := Aside0.mk hB.size
 have HB := Aside0.mk hB
 clear hB
 have H : (laws_markLayS.l0 k l0 a1 0) = some (r1, r2) := h
 clear h
 have H' := Aside0.mk H
 clear H
 go_enter Try.func41, Try.ntmps41
 go_wp2
 go_loopg [1, 5] k (fun kq v1 v5 w' => ∃ (x0_1 : List (S59)) (x1_1 : Int) (x5_1 : Int), v1 = .int .i64 x1_1 ∧ v5 = .int .i64 x5_1 ∧ Aside0 (laws_markLayS.l0 kq x0_1 x1_1 x5_1 = some (r1, r2)) ∧ Aside0 (kq ≤ k) ∧ Aside0 (Kd.R k59 59 w' w0.heap.size (fun k_ => (P0_ k_ ∨ w.heap.size ≤ k_)) u9000_ x0_1) ∧ Aside0 (Kept w w' (fun k_ => P0_ k_)) ∧ Aside0 (Below w0.heap.size w0 w'))
 case atStart => exact ⟨(l0), (a1), (0), z7_24, z7_24, H', ⟨Nat.le_refl _⟩, ⟨by (with_reducible repeat (first | apply Kd.qu0 | apply Kd.qt0 | apply Kd.qx0)); exact HO0.out⟩, ⟨z7_19⟩, ⟨z7_0⟩⟩
 case round =>
  clear H'
  try clear p2
  obtain ⟨x0_1, x1_1, x5_1, rfl, rfl, HA, HK1, HO_0, HK, HB⟩ := hrel
  cases gk with
  | zero => exact absurd HA.out (by simp [laws_markLayS.l0])
  | succ k1 =>
   have H := HA.out
   clear HA
   simp only [laws_markLayS.l0] at H
   by_cases c3 : x5_1 < (x0_1.length : Int)
   ·rw [if_pos c3] at H
    have c3b0 : decide (x5_1 < (x0_1.length : Int)) = true := decide_eq_true c3
    clear c3
    by_cases c4 : 0 ≤ x5_1
    case neg => rw [if_neg c4] at H; exact absurd H (by simp)
    rw [if_pos c4] at H
    have c4b0 : decide (0 ≤ x5_1) = true := decide_eq_true c4
    clear c4
    obtain ⟨y216, hy216⟩ : ∃ y_ : List (S59), y_ = (x0_1.set (x5_1 : Int).toNat (⟨x1_1, (rd_T59 x0_1 x5_1).f1⟩ : S59)) := ⟨_, rfl⟩
    replace H : (laws_markLayS.l0 k1 (y216.set (x5_1 : Int).toNat (⟨(rd_T59 y216 x5_1).f0, wrap64 (x1_1 + 1)⟩ : S59)) (wrap64 ((wrap64 (x1_1 + 1)) + 1)) (wrap64 (x5_1 + 1))) = some (r1, r2) := by first | (rw [hy216]; with_reducible exact H) | (have H2_ := (Option.bind_some _ _).symm.trans H; rw [hy216]; with_reducible exact H2_) | (have H2_ := (Option.bind_some _ _).symm.trans H; with_reducible exact H2_) | with_reducible exact H | (rw [hy216]; exact H) | exact H
    have Ny216 := Aside0.mk hy216
    clear hy216
    obtain ⟨y217, hy217⟩ : ∃ y_ : List (S59), y_ = (y216.set (x5_1 : Int).toNat (⟨(rd_T59 y216 x5_1).f0, wrap64 (x1_1 + 1)⟩ : S59)) := ⟨_, rfl⟩
    replace H : (laws_markLayS.l0 k1 y217 (wrap64 ((wrap64 (x1_1 + 1)) + 1)) (wrap64 (x5_1 + 1))) = some (r1, r2) := by first | (rw [hy217]; with_reducible exact H) | (have H2_ := (Option.bind_some _ _).symm.trans H; rw [hy217]; with_reducible exact H2_) | (have H2_ := (Option.bind_some _ _).symm.trans H; with_reducible exact H2_) | with_reducible exact H | (rw [hy217]; exact H) | exact H
    have Ny217 := Aside0.mk hy217
    clear hy217
    have H' := Aside0.mk H
    clear H
    obtain ⟨Ao7, co7, eo7⟩ := Kd.qb1 HO_0.out
    subst eo7
    have p5 : 0 ≤ (x5_1 : Int) := of_decide_eq_true z7_7
    have q5 : (x5_1 : Int) < ((x0_1.length : Int) : Int) := of_decide_eq_true z7_7
    obtain ⟨go5, co5, eo5, gb5, gl5, cl5, HG5⟩ := Kd.R_form HO_0.out (by omega)
    (first | cases eo5 | (injection eo5 with ea_ en_ ec_; (first | subst ea_ | (injection ea_ with ea_; subst ea_)); subst ec_; clear en_))
    have GB5 := Aside0.mk gb5
    have GG5 := Aside0.mk HG5
    clear gb5 gl5 HG5
    have HMgo5 := Aside0.mk (show (P0_ go5 ∨ w.heap.size ≤ go5) from (HO_0.out.1 _ rfl))
    obtain ⟨ce5, hcl5, hM5, hcc5, hfr5⟩ := Kd.R_elem HO_0.out z59 (x5_1 : Int) p5 q5
    obtain rfl := k59_openM hM5
    have hx5_0 : wr.cell? ⟨go5, (x5_1 : Int).toNat * 2, none⟩ = some (.int .i64 ((rd_T59 x0_1 x5_1).f0)) := hcc5 0 _ rfl
    have hx5_1 : wr.cell? ⟨go5, (x5_1 : Int).toNat * 2 + 1, none⟩ = some (.int .i64 ((rd_T59 x0_1 x5_1).f1)) := hcc5 1 _ rfl
    have hf5_0 : wr.frozen? ⟨go5, (x5_1 : Int).toNat * 2, none⟩ = false := hfr5 0
    have hf5_1 : wr.frozen? ⟨go5, (x5_1 : Int).toNat * 2 + 1, none⟩ = false := hfr5 1
    clear hcl5 hcc5 hfr5 hM5
    replace p5 := eq_true p5
    replace q5 := eq_true q5
    have HX8 := Aside0.mk (show Kd.R k59 59 wr w0.heap.size (fun k_ => (P0_ k_ ∨ w.heap.size ≤ k_)) (.slice (some ⟨go5, 0, none⟩) x0_1.length co7) x0_1 from z7_28)
    obtain ⟨ce8, hcl8, hM8, hcc8, hfr8⟩ := Kd.R_elem HX8.out z59 (x5_1 : Int) (of_decide_eq_true z7_7) (by have h_ : (x5_1 : Int) < ((x0_1.length : Int) : Int) := of_decide_eq_true z7_7; first | exact h_ | (have e_ := (Kd.qq0 HO_0.out).1; omega) | simpa using h_)
    obtain rfl := k59_openM hM8
    have HP8 := Kd.R_seg HX8.out (x5_1 : Int) (of_decide_eq_true z7_7) (by have h_ : (x5_1 : Int) < ((x0_1.length : Int) : Int) := of_decide_eq_true z7_7; first | exact h_ | (have e_ := (Kd.qq0 HO_0.out).1; omega) | simpa using h_) (seg := [.int .i64 x1_1]) (j := 0) hcl8 hcc8 (show 1 ≤ 2 from by decide) (x' := (⟨x1_1, (rd_T59 x0_1 x5_1).f1⟩ : S59)) (k59_mkM _ _ _ (⟨x1_1, (rd_T59 x0_1 x5_1).f1⟩ : S59) ) (fun _ hk => hk)
    have hx8_0 := hcc8 0 _ rfl
    (try simp only [show (k59).sz = 2 from rfl, Nat.mul_one, Nat.add_zero] at hx8_0)
    have hf8_0 := hfr8 0
    (try simp only [show (k59).sz = 2 from rfl, Nat.mul_one, Nat.add_zero] at hf8_0)
    clear hcl8 hcc8 hfr8 hM8
    go_wp2_with (first | ((with_reducible refine gate_store (t := 3) (p := 16) rfl ?_); refine store_event (t := 3) (p := 16) (v := ?vo_w9) (w1 := (wr.setCell ⟨go5, (x5_1 : Int).toNat * 2, none⟩ (.int .i64 x1_1))) ?hg ?ho ?hn ?hr ?_; (case ho => rfl); (case hg => rfl); (case hn => rfl); (case hr => exact z7_18); intro w9 hw; have hg : wr.grownBy w9 (some go5) := (by rw [hw]; exact HP8.2); have hp_ : Kd.R k59 59 w9 w0.heap.size (fun k_ => (P0_ k_ ∨ w.heap.size ≤ k_)) (.slice (some ⟨go5, 0, none⟩) x0_1.length co7) y216 := (by rw [hw, Ny216.out]; exact HP8.1); clear HP8; have n0_ := Aside0.mk (hp_); have n1_ := Aside0.mk ((by rw [hw]; exact ql0 (HB.out) GB5.out : Below w0.heap.size w0 w9)); have n2_ := Aside0.mk (Kept.of_grown (S := (fun k_ => P0_ k_)) hg z7_19 (fun k_ e_ => (HO_0.out.1 k_ e_))); clear HO_0; clear HB; clear HK; have HO_0 := n0_; have HB := n1_; have HK := n2_; clear n0_ n1_ n2_; clear hg hw hp_; have p6 : 0 ≤ (x5_1 : Int) := of_decide_eq_true z7_7; have q6 : (x5_1 : Int) < ((x0_1.length : Int) : Int) := of_decide_eq_true z7_7; obtain ⟨ce6, hcl6, hM6, hcc6, hfr6⟩ := Kd.R_elem HO_0.out z59 (x5_1 : Int) p6 q6; obtain rfl := k59_openM hM6; have hx6_0 : w9.cell? ⟨go5, (x5_1 : Int).toNat * 2, none⟩ = some (.int .i64 ((rd_T59 y216 x5_1).f0)) := hcc6 0 _ rfl; have hx6_1 : w9.cell? ⟨go5, (x5_1 : Int).toNat * 2 + 1, none⟩ = some (.int .i64 ((rd_T59 y216 x5_1).f1)) := hcc6 1 _ rfl; have hf6_0 : w9.frozen? ⟨go5, (x5_1 : Int).toNat * 2, none⟩ = false := hfr6 0; have hf6_1 : w9.frozen? ⟨go5, (x5_1 : Int).toNat * 2 + 1, none⟩ = false := hfr6 1; clear hcl6 hcc6 hfr6 hM6; replace p6 := eq_true p6; replace q6 := eq_true q6; have HX10 := Aside0.mk (show Kd.R k59 59 w9 w0.heap.size (fun k_ => (P0_ k_ ∨ w.heap.size ≤ k_)) (.slice (some ⟨go5, 0, none⟩) x0_1.length co7) y216 from z7_28); obtain ⟨ce10, hcl10, hM10, hcc10, hfr10⟩ := Kd.R_elem HX10.out z59 (x5_1 : Int) (of_decide_eq_true z7_7) (by have h_ : (x5_1 : Int) < ((x0_1.length : Int) : Int) := of_decide_eq_true z7_7; first | exact h_ | (have e_ := (Kd.qq0 HO_0.out).1; omega) | simpa using h_); obtain rfl := k59_openM hM10; have HP10 := Kd.R_seg HX10.out (x5_1 : Int) (of_decide_eq_true z7_7) (by have h_ : (x5_1 : Int) < ((x0_1.length : Int) : Int) := of_decide_eq_true z7_7; first | exact h_ | (have e_ := (Kd.qq0 HO_0.out).1; omega) | simpa using h_) (seg := [.int .i64 (wrap64 (x1_1 + 1))]) (j := 1) hcl10 hcc10 (show 2 ≤ 2 from by decide) (x' := (⟨(rd_T59 y216 x5_1).f0, wrap64 (x1_1 + 1)⟩ : S59)) (k59_mkM _ _ _ (⟨(rd_T59 y216 x5_1).f0, wrap64 (x1_1 + 1)⟩ : S59) ) (fun _ hk => hk); have hx10_1 := hcc10 1 _ rfl; (try simp only [show (k59).sz = 2 from rfl, Nat.mul_one, Nat.add_zero] at hx10_1); have hf10_1 := hfr10 1; (try simp only [show (k59).sz = 2 from rfl, Nat.mul_one, Nat.add_zero] at hf10_1); clear hcl10 hcc10 hfr10 hM10) | ((with_reducible refine gate_store (t := 3) (p := 23) rfl ?_); refine store_event (t := 3) (p := 23) (v := ?vo_w11) (w1 := (w9.setCell ⟨go5, (x5_1 : Int).toNat * 2 + 1, none⟩ (.int .i64 (wrap64 (x1_1 + 1))))) ?hg ?ho ?hn ?hr ?_; (case ho => rfl); (case hg => rfl); (case hn => rfl); (case hr => exact z7_18); intro w11 hw; have hg : w9.grownBy w11 (some go5) := (by rw [hw]; exact HP10.2); have hp_ : Kd.R k59 59 w11 w0.heap.size (fun k_ => (P0_ k_ ∨ w.heap.size ≤ k_)) (.slice (some ⟨go5, 0, none⟩) x0_1.length co7) y217 := (by rw [hw, Ny217.out]; exact HP10.1); clear HP10; have n0_ := Aside0.mk (hp_); have n1_ := Aside0.mk ((by rw [hw]; exact ql0 (HB.out) GB5.out : Below w0.heap.size w0 w11)); have n2_ := Aside0.mk (Kept.of_grown (S := (fun k_ => P0_ k_)) hg z7_19 (fun k_ e_ => (HO_0.out.1 k_ e_))); clear HO_0; clear HB; clear HK; have HO_0 := n0_; have HB := n1_; have HK := n2_; clear n0_ n1_ n2_; clear hg hw hp_))
    go_roundg k1
    case measure => have := HK1.out; omega
    case rel => exact ⟨(y217), (wrap64 ((wrap64 (x1_1 + 1)) + 1)), (wrap64 (x5_1 + 1)), z7_24, z7_24, H', ⟨by have := HK1.out; omega⟩, ⟨z7_28⟩, ⟨z7_19⟩, ⟨z7_0⟩⟩
   rw [if_neg c3] at H
   have c3b0 : decide (x5_1 < (x0_1.length : Int)) = false := decide_eq_false c3
   clear c3
   simp only [Option.some.injEq, Prod.mk.injEq] at H
   obtain ⟨rfl, rfl⟩ := H
   obtain ⟨Ao12, co12, eo12⟩ := Kd.qb1 HO_0.out
   subst eo12
   go_wp2
   go_ret
   exact ⟨z7_8, z7_28, z7_0, z7_19⟩

/-! ### laws_markWorth: function 16 -/
def laws_markWorth.f (k : Nat) (a0_0 : Int) (a0_1 : Int) (l0_2 : List (S59)) (a0_3 : Int) (a1 : Int) : Option (Int × (List (S59))) := (laws_markLayS.f k l0_2 a1).bind fun bt219 => (some (bt219.1, bt219.2))
theorem laws_markWorth.mono : ∀ a0 a1 a2 a3 a4 k, LeO (laws_markWorth.f k a0 a1 a2 a3 a4) (laws_markWorth.f (k + 1) a0 a1 a2 a3 a4) := by
 intro a0 a1 a2 a3 a4 k
 unfold laws_markWorth.f
 repeat' first
   | (with_reducible exact laws_markLayS.mono _ _ _)
   | (with_reducible exact LeO.refl _)
   | (with_reducible exact LeO.none _)
   | (with_reducible refine LeO.ite ?_ ?_)
   | (with_reducible refine LeO.bind ?_ (fun _ => ?_))
   | exact laws_markLayS.mono _ _ _
   | exact LeO.none _
   | refine LeO.ite ?_ ?_
   | refine LeO.bind ?_ (fun _ => ?_)
set_option maxHeartbeats 8000000 in
set_option maxRecDepth 100000 in
theorem laws_markWorth.calls (k : Nat) (a0_0 : Int) (a0_1 : Int) (P0_2_ : Nat → Prop) (u9000_ : Value) (l0_2 : List (S59)) (a0_3 : Int) (a1 : Int) (r1 : Int) (r2 : List (S59)) (w0 w : World) (hB : Below w0.heap.size w0 w) (ho0_2 : Kd.R k59 59 w w0.heap.size P0_2_ u9000_ l0_2) (h : laws_markWorth.f k a0_0 a0_1 l0_2 a0_3 a1 = some (r1, r2)) :
  Calls Try.prog 16 #[.agg #[.int .i64 a0_0, .int .i64 a0_1, u9000_, .int .i64 a0_3], .int .i64 a1] w fun e w' => e = .returned (.int .i64 r1) ∧ Kd.R k59 59 w' w0.heap.size (fun k_ => (P0_2_ k_ ∨ w.heap.size ≤ k_)) u9000_ r2 ∧ Below w0.heap.size w0 w' ∧ Kept w w' (fun k_ => P0_2_ k_) := by
 have hu37 := Try.underlying37
 have HO0_2 := Aside0.mk (show Kd.R k59 59 w w0.heap.size (fun k_ => (P0_2_ k_ ∨ w.heap.size ≤ k_)) u9000_ l0_2 from Kd.qw0 ho0_2 (fun k_ hk => (.inl hk)))
 have HK := Aside0.mk (Kept.refl w (fun k_ => P0_2_ k_))
 have HW0 := Aside0.mk hB.size
 have HB := Aside0.mk hB
 clear hB
 have H : ((laws_markLayS.f k l0_2 a1).bind fun bt219 => (some (bt219.1, bt219.2))) = some (r1, r2) := h
 clear h
 replace H := Option.bind_eq_some_iff.mp H
 obtain ⟨⟨t219, t220⟩, A30, H⟩ := H
 replace H : (some (t219, t220)) = some (r1, r2) := H
 have A3 := Aside0.mk A30
 clear A30
 simp only [Option.some.injEq, Prod.mk.injEq] at H
 obtain ⟨rfl, rfl⟩ := H
 obtain ⟨Ao4, co4, eo4⟩ := Kd.qb1 HO0_2.out
 subst eo4
 go_enter Try.func16, Try.ntmps16
 go_wp2_with (first | ((with_reducible refine qr0 (N := 2) rfl ?_); refine qo0 ?hg (N := 2) ?hd (cs := #[.int .i64 a0_0, .int .i64 a0_1, .slice Ao4 l0_2.length co4, .int .i64 a0_3]) (t := 37) ?hr ?_; (case hd => rfl); (case hg => rfl); (case hr => exact z7_18); intro gb218 hg w5 hbox hb; have n0_ := Aside0.mk (Kd.qp0 (by (with_reducible repeat (first | apply Kd.qu0 | apply Kd.qt0 | apply Kd.qx0)); exact HO0_2.out) hb); have n1_ := Aside0.mk (Kept.below (S := (fun k_ => P0_2_ k_)) z7_19 hb); have n2_ := Aside0.mk (qg0 z7_0 hb); have n3_ := Aside0.mk (hbox); have n4_ := Aside0.mk ((by rw [hg]; exact (by first | exact HK.out.1 | exact (show Kept w _ (fun k_ => P0_2_ k_) from z7_19).1) : w.heap.size ≤ gb218)); have n5_ := Aside0.mk ((z7_1 : w0.heap.size ≤ gb218)); clear HO0_2; clear HK; clear HB; have HO0_2 := n0_; have HK := n1_; have HB := n2_; have BK218 := n3_; have GW218 := n4_; have GE218 := n5_; clear n0_ n1_ n2_ n3_ n4_ n5_; clear hb hbox hg; have hcz6_0 : w5.cell? ⟨gb218, 0, none⟩ = some (.int .i64 a0_0) := (qb0 BK218.out 0).trans rfl; have hcz6_1 : w5.cell? ⟨gb218, 1, none⟩ = some (.int .i64 a0_1) := (qb0 BK218.out 1).trans rfl; have hcz6_2 : w5.cell? ⟨gb218, 2, none⟩ = some (.slice Ao4 l0_2.length co4) := (qb0 BK218.out 2).trans rfl; have hcz6_3 : w5.cell? ⟨gb218, 3, none⟩ = some (.int .i64 a0_3) := (qb0 BK218.out 3).trans rfl; have hfz6_0 := qa0 BK218.out 0; have hfz6_1 := qa0 BK218.out 1; have hfz6_2 := qa0 BK218.out 2; have hfz6_3 := qa0 BK218.out 3) | ((with_reducible refine qj0 (f := 41) rfl ?_); refine qy0 (some 8) rfl rfl Try.func41 z7_31 rfl #[.slice Ao4 l0_2.length co4, .int .i64 a1] rfl z7_11 ?_; (with_reducible refine (laws_markLayS.calls k (fun k_ => some k_ = (.slice Ao4 l0_2.length co4 : Value).ownBlock) (.slice Ao4 l0_2.length co4) l0_2 a1 t219 t220 w0 _ ?side1 ?side2 A3.out).mono ?_); (case side1 => exact z7_33); (case side2 => exact Kd.R_tight rfl HO0_2.out); rintro e w7 ⟨rfl, hy0, hb, hkp⟩; refine ⟨_, rfl, ?_⟩; have n0_ := Aside0.mk (Kd.R_reok rfl hy0 (fun k_ e_ => HO0_2.out.1 k_ e_)); have n1_ := Aside0.mk (qf1 (by (with_reducible repeat (first | refine qc0 ?_ _ | refine qe0 ?_ | refine qd0 ?_ _)); exact BK218.out) hkp (fun hs_ => (fun e_ => (Kd.R_ne HO0_2.out BK218.out (by decide)) e_) hs_)); have n2_ := Aside0.mk (Kept.then_ (S := (fun k_ => P0_2_ k_)) z7_32 hkp (fun k_ hs_ => (fun e_ => (HO0_2.out.1 k_ e_.symm)) hs_)); have n3_ := Aside0.mk (hb); clear HO0_2; clear BK218; clear HK; clear HB; have HO0_2 := n0_; have BK218 := n1_; have HK := n2_; have HB := n3_; clear n0_ n1_ n2_ n3_; (try clear hb); (try clear hkp); (try clear hy0)))
 go_ret
 exact ⟨z7_8, by (with_reducible repeat (first | apply Kd.qu0 | apply Kd.qt0 | apply Kd.qx0)); exact HO0_2.out, z7_33, z7_32⟩

/-! ### laws_heldLayS: function 42 -/
def laws_heldLayS.l0 : Nat → List (S59) → Int → Int → Option (Int)
 | 0, _, _, _ => none
 | k + 1, x0, x1, x5 => if x5 < (x0.length : Int) then (if 0 ≤ x5 then (if ((rd_T59 x0 x5).f0) = x1 then (if ((rd_T59 x0 x5).f1) = (wrap64 (x1 + 1)) then (laws_heldLayS.l0 k x0 (wrap64 ((wrap64 (x1 + 1)) + 1)) (wrap64 (x5 + 1))) else (some (-1))) else (some (-1))) else (none)) else (some x1)
def laws_heldLayS.f (k : Nat) (l0 : List (S59)) (a1 : Int) : Option (Int) := laws_heldLayS.l0 k l0 a1 0
theorem laws_heldLayS.mono_l : ∀ k, (∀ y0 y1 y2, LeO (laws_heldLayS.l0 k y0 y1 y2) (laws_heldLayS.l0 (k + 1) y0 y1 y2))
 | 0 => fun _ _ _ r h => by simp [laws_heldLayS.l0] at h
 | k + 1 => by
  have ih0 := laws_heldLayS.mono_l k
  ·intro y0 y1 y2
   unfold laws_heldLayS.l0
   repeat' first
   | (with_reducible exact ih0 _ _ _)
   | (with_reducible exact LeO.refl _)
   | (with_reducible exact LeO.none _)
   | (with_reducible refine LeO.ite ?_ ?_)
   | (with_reducible refine LeO.bind ?_ (fun _ => ?_))
   | exact ih0 _ _ _
   | exact LeO.none _
   | refine LeO.ite ?_ ?_
   | refine LeO.bind ?_ (fun _ => ?_)
theorem laws_heldLayS.mono : ∀ a0 a1 k, LeO (laws_heldLayS.f k a0 a1) (laws_heldLayS.f (k + 1) a0 a1) := by
 intro a0 a1 k
 have ih0 := laws_heldLayS.mono_l k
 unfold laws_heldLayS.f
 repeat' first
   | (with_reducible exact ih0 _ _ _)
   | (with_reducible exact LeO.refl _)
   | (with_reducible exact LeO.none _)
   | (with_reducible refine LeO.ite ?_ ?_)
   | (with_reducible refine LeO.bind ?_ (fun _ => ?_))
   | exact ih0 _ _ _
   | exact LeO.none _
   | refine LeO.ite ?_ ?_
   | refine LeO.bind ?_ (fun _ => ?_)
set_option maxHeartbeats 8000000 in
set_option maxRecDepth 100000 in
theorem laws_heldLayS.calls (k : Nat) (A0 : Option Addr) (c0 : Nat) (l0 : List (S59)) (a1 : Int) (r : Int) (w : World) (hr0 : Kd.C k59 w A0 l0.length l0) (hc0 : l0.length ≤ c0) (h : laws_heldLayS.f k l0 a1 = some r) :
  Calls Try.prog 42 #[.slice A0 l0.length c0, .int .i64 a1] w fun e w' => e = .returned (.int .i64 r) ∧ Drawn0 w w' := by
 have HR0 := Aside0.mk hr0
 have HC0 := Aside0.mk hc0
 clear hr0 hc0
 have H : (laws_heldLayS.l0 k l0 a1 0) = some r := h
 clear h
 have H' := Aside0.mk H
 clear H
 go_enter Try.func42, Try.ntmps42
 go_wp2
 go_loopg [1, 5] k (fun kq v1 v5 w' => ∃ (x1_1 : Int) (x5_1 : Int), v1 = .int .i64 x1_1 ∧ v5 = .int .i64 x5_1 ∧ Aside0 (laws_heldLayS.l0 kq l0 x1_1 x5_1 = some r) ∧ Aside0 (kq ≤ k) ∧ Drawn0 w w')
 case atStart => exact ⟨(a1), (0), z7_24, z7_24, H', ⟨Nat.le_refl _⟩, z7_34⟩
 case round =>
  clear H'
  try clear p2
  obtain ⟨x1_1, x5_1, rfl, rfl, HA, HK1, ⟨m1, rfl⟩⟩ := hrel
  cases gk with
  | zero => exact absurd HA.out (by simp [laws_heldLayS.l0])
  | succ k1 =>
   have H := HA.out
   clear HA
   simp only [laws_heldLayS.l0] at H
   by_cases c3 : x5_1 < (l0.length : Int)
   ·rw [if_pos c3] at H
    have c3b0 : decide (x5_1 < (l0.length : Int)) = true := decide_eq_true c3
    clear c3
    by_cases c4 : 0 ≤ x5_1
    case neg => rw [if_neg c4] at H; exact absurd H (by simp)
    rw [if_pos c4] at H
    have c4b0 : decide (0 ≤ x5_1) = true := decide_eq_true c4
    clear c4
    by_cases c5 : ((rd_T59 l0 x5_1).f0) = x1_1
    ·rw [if_pos c5] at H
     have c5b0 : (((rd_T59 l0 x5_1).f0) == x1_1) = true := beq_iff_eq.mpr c5
     have c5b1 : (((rd_T59 l0 x5_1).f0) != x1_1) = false := bne_eq_false_iff_eq.mpr c5
     clear c5
     by_cases c6 : ((rd_T59 l0 x5_1).f1) = (wrap64 (x1_1 + 1))
     ·rw [if_pos c6] at H
      have c6b0 : (((rd_T59 l0 x5_1).f1) == (wrap64 (x1_1 + 1))) = true := beq_iff_eq.mpr c6
      have c6b1 : (((rd_T59 l0 x5_1).f1) != (wrap64 (x1_1 + 1))) = false := bne_eq_false_iff_eq.mpr c6
      clear c6
      have H' := Aside0.mk H
      clear H
      have p221 : 0 ≤ (x5_1 : Int) := of_decide_eq_true z7_7
      have q221 : x5_1 < (l0.length : Int) := of_decide_eq_true z7_7
      obtain ⟨ad221, e221, hx221_0, hx221_1⟩ := at_T59 HR0.out x5_1 p221 q221
      cases e221
      replace p221 := eq_true p221
      replace q221 := eq_true q221
      have p222 : 0 ≤ (x5_1 : Int) := of_decide_eq_true z7_7
      have q222 : x5_1 < (l0.length : Int) := of_decide_eq_true z7_7
      obtain ⟨ad222, e222, hx222_0, hx222_1⟩ := at_T59 HR0.out x5_1 p222 q222
      obtain rfl : ad221 = ad222 := (by injection e222)
      replace p222 := eq_true p222
      replace q222 := eq_true q222
      go_wp2
      go_roundg k1
      case measure => have := HK1.out; omega
      case rel => exact ⟨(wrap64 ((wrap64 (x1_1 + 1)) + 1)), (wrap64 (x5_1 + 1)), z7_24, z7_24, H', ⟨by have := HK1.out; omega⟩, z7_34⟩
     rw [if_neg c6] at H
     have c6b0 : (((rd_T59 l0 x5_1).f1) == (wrap64 (x1_1 + 1))) = false := beq_eq_false_iff_ne.mpr c6
     have c6b1 : (((rd_T59 l0 x5_1).f1) != (wrap64 (x1_1 + 1))) = true := bne_iff_ne.mpr c6
     obtain rfl := Option.some.inj H
     have p221 : 0 ≤ (x5_1 : Int) := of_decide_eq_true z7_7
     have q221 : x5_1 < (l0.length : Int) := of_decide_eq_true z7_7
     obtain ⟨ad221, e221, hx221_0, hx221_1⟩ := at_T59 HR0.out x5_1 p221 q221
     cases e221
     replace p221 := eq_true p221
     replace q221 := eq_true q221
     have p222 : 0 ≤ (x5_1 : Int) := of_decide_eq_true z7_7
     have q222 : x5_1 < (l0.length : Int) := of_decide_eq_true z7_7
     obtain ⟨ad222, e222, hx222_0, hx222_1⟩ := at_T59 HR0.out x5_1 p222 q222
     obtain rfl : ad221 = ad222 := (by injection e222)
     replace p222 := eq_true p222
     replace q222 := eq_true q222
     go_wp2
     go_ret
     exact ⟨z7_24, z7_34⟩
    rw [if_neg c5] at H
    have c5b0 : (((rd_T59 l0 x5_1).f0) == x1_1) = false := beq_eq_false_iff_ne.mpr c5
    have c5b1 : (((rd_T59 l0 x5_1).f0) != x1_1) = true := bne_iff_ne.mpr c5
    obtain rfl := Option.some.inj H
    have p221 : 0 ≤ (x5_1 : Int) := of_decide_eq_true z7_7
    have q221 : x5_1 < (l0.length : Int) := of_decide_eq_true z7_7
    obtain ⟨ad221, e221, hx221_0, hx221_1⟩ := at_T59 HR0.out x5_1 p221 q221
    cases e221
    replace p221 := eq_true p221
    replace q221 := eq_true q221
    go_wp2
    go_ret
    exact ⟨z7_24, z7_34⟩
   rw [if_neg c3] at H
   have c3b0 : decide (x5_1 < (l0.length : Int)) = false := decide_eq_false c3
   clear c3
   obtain rfl := Option.some.inj H
   go_wp2
   go_ret
   exact ⟨z7_24, z7_34⟩

end Go.Proofs.Ytggfggmmecbdnaa.PFnExactTakeIn
