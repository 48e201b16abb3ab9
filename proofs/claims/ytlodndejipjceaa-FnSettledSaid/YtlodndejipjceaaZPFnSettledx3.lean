/- Lines by a program (a changed copy of the kit's print: this repo's wip/tools): Go functions as Lean functions, and proofs that the calls answer so. -/
import Derived.Test.YtlodndejipjceaaZPFnSettledx0
import Derived.Test.YtlodndejipjceaaZPFnSettledx2
namespace Go.Proofs.Ytlodndejipjceaa.PFnSettled
open Go.RowKit Go.Proofs.YtlodndejipjceaaW.PrintWords Go.Proofs.YtlodndejipjceaaW.PrintLast Go.Proofs.YtlodndejipjceaaW.PrintMore
attribute [local go_sem] max2_int min2_int max_two min_two max_three min_three max_four min_four   -- for this text's walks alone
set_option linter.unusedVariables false
set_option linter.unusedSimpArgs false

/-! ### impl_between: function 97 -/
def impl_between.f (a0 : Int) (a1 : Int) (a2 : Int) : Option (Bool) := if a0 ≥ a1 then (some (decide (a0 ≤ a2))) else (some false)
set_option maxHeartbeats 8000000 in
set_option maxRecDepth 100000 in
theorem impl_between.calls (a0 : Int) (a1 : Int) (a2 : Int) (r : Bool) (w : World) (h : impl_between.f a0 a1 a2 = some r) :
  Calls Try.prog 97 #[.int .i64 a0, .int .i64 a1, .int .i64 a2] w fun e w' => e = .returned (.bool r) ∧ Drawn0 w w' := by
 have H : (if a0 ≥ a1 then (some (decide (a0 ≤ a2))) else (some false)) = some r := h
 clear h
 by_cases c4 : a0 ≥ a1
 ·rw [if_pos c4] at H
  have c4b0 : decide (a1 ≤ a0) = true := decide_eq_true c4
  clear c4
  obtain rfl := Option.some.inj H
  go_enter Try.func97, Try.ntmps97
  go_wp2
  go_ret
  exact ⟨by first | rfl | (simp; done) | (simp [*]; done), by repeat (first | exact Drawn0.refl _ | apply Drawn0.step)⟩
 rw [if_neg c4] at H
 have c4b0 : decide (a1 ≤ a0) = false := decide_eq_false c4
 clear c4
 obtain rfl := Option.some.inj H
 go_enter Try.func97, Try.ntmps97
 go_wp2
 go_ret
 exact ⟨by first | rfl | (simp; done) | (simp [*]; done), by repeat (first | exact Drawn0.refl _ | apply Drawn0.step)⟩

/-! ### impl_isDay: function 94 -/
def impl_isDay.f (a0 : Int) : Option (Bool) := (impl_between.f a0 0 40000).bind fun t134 => (some t134)
set_option maxHeartbeats 8000000 in
set_option maxRecDepth 100000 in
theorem impl_isDay.calls (a0 : Int) (r : Bool) (w : World) (h : impl_isDay.f a0 = some r) :
  Calls Try.prog 94 #[.int .i64 a0] w fun e w' => e = .returned (.bool r) ∧ Drawn0 w w' := by
 have H : ((impl_between.f a0 0 40000).bind fun t134 => (some t134)) = some r := h
 clear h
 replace H := Option.bind_eq_some_iff.mp H
 obtain ⟨t134, A20, H⟩ := H
 replace H : (some t134) = some r := H
 have A2 := Aside0.mk A20
 clear A20
 obtain rfl := Option.some.inj H
 go_enter Try.func94, Try.ntmps94
 go_wp2_with (first | ((with_reducible refine qj0 (f := 97) rfl ?_); refine qz0 (some 4) rfl rfl Try.func97 (by kernel_rfl) rfl #[.int .i64 a0, .int .i64 0, .int .i64 40000] rfl (by (try simp only [List.map_toArray, List.map_cons, List.map_nil]); first | done | rfl | (simp only [List.length_drop, List.length_take]; rfl)) ?_; (with_reducible refine (impl_between.calls a0 0 40000 t134 _ A2.out).mono ?_); rintro e w' ⟨rfl, ⟨nd, rfl⟩⟩; refine ⟨_, rfl, ?_⟩))
 go_ret
 exact ⟨by first | rfl | (simp; done) | (simp [*]; done), by repeat (first | exact Drawn0.refl _ | apply Drawn0.step)⟩

/-! ### impl_openOk: function 165 -/
def impl_openOk.f (a0_0 : Int) (a0_1 : Int) : Option (Bool) := (impl_isDay.f a0_0).bind fun t136 => (if t136 = true then ((impl_between.f a0_1 1 100000000000).bind fun t137 => (some t137)) else (some false))
set_option maxHeartbeats 8000000 in
set_option maxRecDepth 100000 in
theorem impl_openOk.calls (a0_0 : Int) (a0_1 : Int) (r : Bool) (w : World) (h : impl_openOk.f a0_0 a0_1 = some r) :
  Calls Try.prog 165 #[.agg #[.int .i64 a0_0, .int .i64 a0_1]] w fun e w' => e = .returned (.bool r) ∧ Below w.heap.size w w' := by
 have hu27 := Try.underlying27
 have HB := Aside0.mk (Below.refl w.heap.size w)
 have H : ((impl_isDay.f a0_0).bind fun t136 => (if t136 = true then ((impl_between.f a0_1 1 100000000000).bind fun t137 => (some t137)) else (some false))) = some r := h
 clear h
 replace H := Option.bind_eq_some_iff.mp H
 obtain ⟨t136, A20, H⟩ := H
 replace H : (if t136 = true then ((impl_between.f a0_1 1 100000000000).bind fun t137 => (some t137)) else (some false)) = some r := H
 have A2 := Aside0.mk A20
 clear A20
 by_cases c3 : t136 = true
 ·subst c3
  have H1 : ((impl_between.f a0_1 1 100000000000).bind fun t137 => (some t137)) = some r := by rw [if_pos rfl] at H; exact H
  clear H
  have H := H1
  clear H1
  replace H := Option.bind_eq_some_iff.mp H
  obtain ⟨t137, A40, H⟩ := H
  replace H : (some t137) = some r := H
  have A4 := Aside0.mk A40
  clear A40
  obtain rfl := Option.some.inj H
  go_enter Try.func165, Try.ntmps165
  go_wp2_with (first | ((with_reducible refine qi1 (N := 1) rfl ?_); refine box_event ?hg (N := 1) ?hd (cs := #[.int .i64 a0_0, .int .i64 a0_1]) (t := 27) ?hr ?_; (case hd => rfl); (case hg => rfl); (case hr => first | (go_simp; done) | (go_simp; rfl)); intro gb135 hg w5 hbox hb; have n0_ := Aside0.mk (qq0 (by repeat (first | (with_reducible first | exact HB.out | apply qc0 | apply qa0 | apply qb0) | exact HB.out)) hb); have n1_ := Aside0.mk (hbox); have n2_ := Aside0.mk ((by rw [hg]; exact (ql0 (by repeat (first | (with_reducible first | exact HB.out | apply qc0 | apply qa0 | apply qb0) | exact HB.out))) : w.heap.size ≤ gb135)); have n3_ := Aside0.mk ((by rw [hg]; exact (ql0 (by repeat (first | (with_reducible first | exact HB.out | apply qc0 | apply qa0 | apply qb0) | exact HB.out))) : w.heap.size ≤ gb135)); clear HB; have HB := n0_; have BK135 := n1_; have GW135 := n2_; have GE135 := n3_; clear n0_ n1_ n2_ n3_; clear hb hbox hg; have hcz6_0 : w5.cell? ⟨gb135, 0, none⟩ = some (.int .i64 a0_0) := (qu0 BK135.out 0).trans rfl; have hcz6_1 : w5.cell? ⟨gb135, 1, none⟩ = some (.int .i64 a0_1) := (qu0 BK135.out 1).trans rfl; have hfz6_0 := qt0 BK135.out 0; have hfz6_1 := qt0 BK135.out 1) | ((with_reducible refine qj0 (f := 94) rfl ?_); refine qz0 (some 5) rfl rfl Try.func94 (by kernel_rfl) rfl #[.int .i64 a0_0] rfl (by (try simp only [List.map_toArray, List.map_cons, List.map_nil]); first | done | rfl | (simp only [List.length_drop, List.length_take]; rfl)) ?_; (with_reducible refine (impl_isDay.calls a0_0 true _ A2.out).mono ?_); rintro e w' ⟨rfl, ⟨nd, rfl⟩⟩; refine ⟨_, rfl, ?_⟩) | (go_at_call 97; (with_reducible refine (impl_between.calls a0_1 1 100000000000 t137 _ A4.out).mono ?_); rintro e w' ⟨rfl, ⟨nd, rfl⟩⟩))
  go_ret
  exact ⟨by first | rfl | (simp [errW_none, errW_some] <;> rfl) | (simp [*, errW_none, errW_some] <;> rfl), by repeat (first | (with_reducible first | exact HB.out | apply qc0 | apply qa0 | apply qb0 | refine qh0 ?_ GE135.out) | exact HB.out)⟩
 replace c3 := Bool.eq_false_iff.mpr c3
 subst c3
 have H1 : (some false) = some r := by rw [if_neg (show ¬ (false = true) by decide)] at H; exact H
 clear H
 have H := H1
 clear H1
 obtain rfl := Option.some.inj H
 go_enter Try.func165, Try.ntmps165
 go_wp2_with (first | ((with_reducible refine qi1 (N := 1) rfl ?_); refine box_event ?hg (N := 1) ?hd (cs := #[.int .i64 a0_0, .int .i64 a0_1]) (t := 27) ?hr ?_; (case hd => rfl); (case hg => rfl); (case hr => first | (go_simp; done) | (go_simp; rfl)); intro gb135 hg w7 hbox hb; have n0_ := Aside0.mk (qq0 (by repeat (first | (with_reducible first | exact HB.out | apply qc0 | apply qa0 | apply qb0) | exact HB.out)) hb); have n1_ := Aside0.mk (hbox); have n2_ := Aside0.mk ((by rw [hg]; exact (ql0 (by repeat (first | (with_reducible first | exact HB.out | apply qc0 | apply qa0 | apply qb0) | exact HB.out))) : w.heap.size ≤ gb135)); have n3_ := Aside0.mk ((by rw [hg]; exact (ql0 (by repeat (first | (with_reducible first | exact HB.out | apply qc0 | apply qa0 | apply qb0) | exact HB.out))) : w.heap.size ≤ gb135)); clear HB; have HB := n0_; have BK135 := n1_; have GW135 := n2_; have GE135 := n3_; clear n0_ n1_ n2_ n3_; clear hb hbox hg; have hcz8_0 : w7.cell? ⟨gb135, 0, none⟩ = some (.int .i64 a0_0) := (qu0 BK135.out 0).trans rfl; have hcz8_1 : w7.cell? ⟨gb135, 1, none⟩ = some (.int .i64 a0_1) := (qu0 BK135.out 1).trans rfl; have hfz8_0 := qt0 BK135.out 0; have hfz8_1 := qt0 BK135.out 1) | ((with_reducible refine qj0 (f := 94) rfl ?_); refine qz0 (some 5) rfl rfl Try.func94 (by kernel_rfl) rfl #[.int .i64 a0_0] rfl (by (try simp only [List.map_toArray, List.map_cons, List.map_nil]); first | done | rfl | (simp only [List.length_drop, List.length_take]; rfl)) ?_; (with_reducible refine (impl_isDay.calls a0_0 false _ A2.out).mono ?_); rintro e w' ⟨rfl, ⟨nd, rfl⟩⟩; refine ⟨_, rfl, ?_⟩))
 go_ret
 exact ⟨by first | rfl | (simp [errW_none, errW_some] <;> rfl) | (simp [*, errW_none, errW_some] <;> rfl), by repeat (first | (with_reducible first | exact HB.out | apply qc0 | apply qa0 | apply qb0 | refine qh0 ?_ GE135.out) | exact HB.out)⟩

/-! ### impl_byDay_1: function 166 -/
def impl_byDay_1.f (a0 : Int) (a1 : Int) (l2 : List (S27)) : Option (Bool) := if 0 ≤ a0 then (if a0 < (l2.length : Int) then (if 0 ≤ a1 then (if a1 < (l2.length : Int) then (some (decide (((rd_T27 l2 a0).f0) < ((rd_T27 l2 a1).f0)))) else (none)) else (none)) else (none)) else (none)
set_option maxHeartbeats 8000000 in
set_option maxRecDepth 100000 in
theorem impl_byDay_1.calls (a0 : Int) (a1 : Int) (g2 : Nat) (A2 : Option Addr) (c2 : Nat) (l2 : List (S27)) (r : Bool) (w : World) (hk2 : w.heap[g2]? = some (.cells #[.slice A2 l2.length c2] 28 (0, 0))) (hr2 : Kd.C k27 w A2 l2.length l2) (hc2 : l2.length ≤ c2) (h : impl_byDay_1.f a0 a1 l2 = some r) :
  Calls Try.prog 166 #[.int .i64 a0, .int .i64 a1, .pointer (some ⟨g2, 0, none⟩)] w fun e w' => e = .returned (.bool r) ∧ Drawn0 w w' := by
 have HR2 := Aside0.mk hr2
 have HC2 := Aside0.mk hc2
 have BK138 := Aside0.mk hk2
 clear hr2 hc2 hk2
 have H : (if 0 ≤ a0 then (if a0 < (l2.length : Int) then (if 0 ≤ a1 then (if a1 < (l2.length : Int) then (some (decide (((rd_T27 l2 a0).f0) < ((rd_T27 l2 a1).f0)))) else (none)) else (none)) else (none)) else (none)) = some r := h
 clear h
 by_cases c3 : 0 ≤ a0
 case neg => rw [if_neg c3] at H; exact absurd H (by simp)
 rw [if_pos c3] at H
 have c3b0 : decide (0 ≤ a0) = true := decide_eq_true c3
 clear c3
 by_cases c4 : a0 < (l2.length : Int)
 case neg => rw [if_neg c4] at H; exact absurd H (by simp)
 rw [if_pos c4] at H
 have c4b0 : decide (a0 < (l2.length : Int)) = true := decide_eq_true c4
 clear c4
 by_cases c5 : 0 ≤ a1
 case neg => rw [if_neg c5] at H; exact absurd H (by simp)
 rw [if_pos c5] at H
 have c5b0 : decide (0 ≤ a1) = true := decide_eq_true c5
 clear c5
 by_cases c6 : a1 < (l2.length : Int)
 case neg => rw [if_neg c6] at H; exact absurd H (by simp)
 rw [if_pos c6] at H
 have c6b0 : decide (a1 < (l2.length : Int)) = true := decide_eq_true c6
 clear c6
 obtain rfl := Option.some.inj H
 have hcz7_0 : w.cell? ⟨g2, 0, none⟩ = some (.slice A2 l2.length c2) := (qu0 BK138.out 0).trans rfl
 have hfz7_0 := qt0 BK138.out 0
 have p139 : 0 ≤ (a0 : Int) := of_decide_eq_true (by first | (with_reducible assumption) | assumption)
 have q139 : a0 < (l2.length : Int) := of_decide_eq_true (by first | (with_reducible assumption) | assumption)
 obtain ⟨ad139, e139, hx139_0, hx139_1⟩ := at_T27 HR2.out a0 p139 q139
 cases e139
 replace p139 := eq_true p139
 replace q139 := eq_true q139
 have p140 : 0 ≤ (a1 : Int) := of_decide_eq_true (by first | (with_reducible assumption) | assumption)
 have q140 : a1 < (l2.length : Int) := of_decide_eq_true (by first | (with_reducible assumption) | assumption)
 obtain ⟨ad140, e140, hx140_0, hx140_1⟩ := at_T27 HR2.out a1 p140 q140
 obtain rfl : ad139 = ad140 := (by injection e140)
 replace p140 := eq_true p140
 replace q140 := eq_true q140
 go_enter Try.func166, Try.ntmps166
 go_wp2
 repeat (go_quiet (fail); try go_wp2)
 go_ret
 exact ⟨by first | rfl | (simp; done) | (simp [*]; done), by repeat (first | exact Drawn0.refl _ | apply Drawn0.step)⟩
theorem impl_byDay_1.ok (W : World) {g2 : Nat} {A2 : Option Addr} {c2 : Nat} {l2 : List (S27)} (hk2 : W.heap[g2]? = some (.cells #[.slice A2 l2.length c2] 28 (0, 0))) (hr2 : Kd.C k27 W A2 l2.length l2) (hc2 : l2.length ≤ c2) : FnOk (α := Int) Try.prog W 166 #[.pointer (some ⟨g2, 0, none⟩)] (Value.int .i64) (fun a_ b_ => impl_byDay_1.f a_ b_ l2) :=
 ⟨fn_enters Try.func166 (by kernel_rfl) rfl, fun x y r hr => (impl_byDay_1.calls x y g2 A2 c2 l2 r W hk2 hr2 hc2 hr).mono fun e w' h => ⟨h.1, h.2.below⟩⟩

/-! ### impl_byDay: function 81 -/
def impl_byDay.l0 : Nat → List Int → List (S27) → Int → Int → List (S27) → Option (List Int × Bool)
 | 0, _, _, _, _, _ => none
 | k + 1, x4, x11, x12, x13, x142000 => if x13 < x12 then (if 0 ≤ x13 then (if x13 < (x11.length : Int) then ((impl_openOk.f ((rd_T27 x11 x13).f0) ((rd_T27 x11 x13).f1)).bind fun t147 => (if t147 = true then (if x4.length < 17592186044416 then (impl_byDay.l0 k (x4 ++ [x13]) x11 x12 (wrap64 (x13 + 1)) x142000) else (none)) else (some (([] : List Int), false)))) else (none)) else (none)) else ((impl_sortBy_int.f k x4 (fun a_ b_ => impl_byDay_1.f a_ b_ x142000)).bind fun t151 => (some (t151, true)))
def impl_byDay.f (k : Nat) (l0 : List (S27)) : Option (List Int × Bool) := if (l0.length : Int) > 100 then (some (([] : List Int), false)) else (impl_byDay.l0 k (([] : List Int)) l0 (l0.length : Int) 0 l0)
theorem impl_byDay.mono_l : ∀ k, (∀ y0 y1 y2 y3 y4, LeO (impl_byDay.l0 k y0 y1 y2 y3 y4) (impl_byDay.l0 (k + 1) y0 y1 y2 y3 y4))
 | 0 => fun _ _ _ _ _ r h => by simp [impl_byDay.l0] at h
 | k + 1 => by
  have ih0 := impl_byDay.mono_l k
  ·intro y0 y1 y2 y3 y4
   unfold impl_byDay.l0
   repeat' first
   | (with_reducible exact ih0 _ _ _ _ _)
   | (with_reducible exact impl_sortBy_int.mono _ _ _)
   | (with_reducible exact LeO.refl _)
   | (with_reducible exact LeO.none _)
   | (with_reducible refine LeO.ite ?_ ?_)
   | (with_reducible refine LeO.bind ?_ (fun _ => ?_))
   | exact ih0 _ _ _ _ _
   | exact impl_sortBy_int.mono _ _ _
   | exact LeO.none _
   | refine LeO.ite ?_ ?_
   | refine LeO.bind ?_ (fun _ => ?_)
theorem impl_byDay.mono : ∀ a0 k, LeO (impl_byDay.f k a0) (impl_byDay.f (k + 1) a0) := by
 intro a0 k
 have ih0 := impl_byDay.mono_l k
 unfold impl_byDay.f
 repeat' first
   | (with_reducible exact ih0 _ _ _ _ _)
   | (with_reducible exact impl_sortBy_int.mono _ _ _)
   | (with_reducible exact LeO.refl _)
   | (with_reducible exact LeO.none _)
   | (with_reducible refine LeO.ite ?_ ?_)
   | (with_reducible refine LeO.bind ?_ (fun _ => ?_))
   | exact ih0 _ _ _ _ _
   | exact impl_sortBy_int.mono _ _ _
   | exact LeO.none _
   | refine LeO.ite ?_ ?_
   | refine LeO.bind ?_ (fun _ => ?_)
set_option maxHeartbeats 8000000 in
set_option maxRecDepth 100000 in
theorem impl_byDay.calls (k : Nat) (A0 : Option Addr) (c0 : Nat) (l0 : List (S27)) (r1 : List Int) (r2 : Bool) (w : World) (hr0 : Kd.C k27 w A0 l0.length l0) (hc0 : l0.length ≤ c0) (h : impl_byDay.f k l0 = some (r1, r2)) :
  Calls Try.prog 81 #[.slice A0 l0.length c0] w fun e w' => ∃ v0_ : Value, e = .returned (.tuple #[v0_, .bool r2]) ∧ Kd.R (Kd.int .i64) 3 w' w.heap.size (fun _ => True) v0_ r1 ∧ Below w.heap.size w w' := by
 have hu27 := Try.underlying27
 have hmf : ∀ (fn : Fn) (first cap : Array Value) (w : World), (Instr.makeFunc fn first cap).run Try.prog w = .ok (.func fn first cap) w := fun _ _ _ _ => rfl
 have HR0 := Aside0.mk hr0
 have HC0 := Aside0.mk hc0
 clear hr0 hc0
 have HB := Aside0.mk (Below.refl w.heap.size w)
 have H : (if (l0.length : Int) > 100 then (some (([] : List Int), false)) else (impl_byDay.l0 k (([] : List Int)) l0 (l0.length : Int) 0 l0)) = some (r1, r2) := h
 clear h
 by_cases c2 : (l0.length : Int) > 100
 ·rw [if_pos c2] at H
  have c2b0 : decide (100 < (l0.length : Int)) = true := decide_eq_true c2
  have c2b1 : decide (100 < l0.length) = true := decide_eq_true (by omega)
  clear c2
  simp only [Option.some.injEq, Prod.mk.injEq] at H
  obtain ⟨rfl, rfl⟩ := H
  go_enter Try.func81, Try.ntmps81
  go_wp2_with (first | ((with_reducible refine qi1 (N := 1) rfl ?_); refine box_event ?hg (N := 1) ?hd (cs := #[.slice A0 l0.length c0]) (t := 28) ?hr ?_; (case hd => rfl); (case hg => rfl); (case hr => first | (go_simp; done) | (go_simp; rfl)); intro gb141 hg w3 hbox hb; have n0_ := Aside0.mk (qq0 (by repeat (first | (with_reducible first | exact HB.out | apply qc0 | apply qa0 | apply qb0) | exact HB.out)) hb); have n1_ := Aside0.mk (hbox); have n2_ := Aside0.mk ((by rw [hg]; exact (ql0 (by repeat (first | (with_reducible first | exact HB.out | apply qc0 | apply qa0 | apply qb0) | exact HB.out))) : w.heap.size ≤ gb141)); have n3_ := Aside0.mk ((by rw [hg]; exact (ql0 (by repeat (first | (with_reducible first | exact HB.out | apply qc0 | apply qa0 | apply qb0) | exact HB.out))) : w.heap.size ≤ gb141)); clear HB; have HB := n0_; have BK141 := n1_; have GW141 := n2_; have GE141 := n3_; clear n0_ n1_ n2_ n3_; clear hb hbox hg; have hcz4_0 : w3.cell? ⟨gb141, 0, none⟩ = some (.slice A0 l0.length c0) := (qu0 BK141.out 0).trans rfl; have hfz4_0 := qt0 BK141.out 0))
  go_ret2
  exact ⟨_, by first | rfl | (simp [errW_none, errW_some] <;> rfl) | (simp [*, errW_none, errW_some] <;> rfl), by first | exact Kd.R_nil _ _ _ _ _ | exact Kd.N_nil _ _ _ _ _ | exact Kd.V_nil _ _ _ _ _ | exact Kd.Q_nil _ _ _ _ _ | exact Kd.S_nil _ _ _ _ _, by repeat (first | (with_reducible first | exact HB.out | apply qc0 | apply qa0 | apply qb0 | refine qh0 ?_ GE141.out) | exact HB.out)⟩
 rw [if_neg c2] at H
 have c2b0 : decide (100 < (l0.length : Int)) = false := decide_eq_false c2
 have c2b1 : decide (100 < l0.length) = false := decide_eq_false (by omega)
 clear c2
 obtain ⟨y142, hy142⟩ : ∃ y_ : List Int, y_ = (([] : List Int)) := ⟨_, rfl⟩
 replace H : (impl_byDay.l0 k y142 l0 (l0.length : Int) 0 l0) = some (r1, r2) := by first | (rw [hy142]; with_reducible exact H) | (have H2_ := (Option.bind_some _ _).symm.trans H; rw [hy142]; with_reducible exact H2_) | (have H2_ := (Option.bind_some _ _).symm.trans H; with_reducible exact H2_) | with_reducible exact H | (rw [hy142]; exact H) | exact H
 have Ny142 := Aside0.mk hy142
 clear hy142
 have H' := Aside0.mk H
 clear H
 go_enter Try.func81, Try.ntmps81
 go_wp2_with (first | ((with_reducible refine qi1 (N := 1) rfl ?_); refine box_event ?hg (N := 1) ?hd (cs := #[.slice A0 l0.length c0]) (t := 28) ?hr ?_; (case hd => rfl); (case hg => rfl); (case hr => first | (go_simp; done) | (go_simp; rfl)); intro gb141 hg w5 hbox hb; have n0_ := Aside0.mk (qq0 (by repeat (first | (with_reducible first | exact HB.out | apply qc0 | apply qa0 | apply qb0) | exact HB.out)) hb); have n1_ := Aside0.mk (hbox); have n2_ := Aside0.mk ((by rw [hg]; exact (ql0 (by repeat (first | (with_reducible first | exact HB.out | apply qc0 | apply qa0 | apply qb0) | exact HB.out))) : w.heap.size ≤ gb141)); have n3_ := Aside0.mk ((by rw [hg]; exact (ql0 (by repeat (first | (with_reducible first | exact HB.out | apply qc0 | apply qa0 | apply qb0) | exact HB.out))) : w.heap.size ≤ gb141)); clear HB; have HB := n0_; have BK141 := n1_; have GW141 := n2_; have GE141 := n3_; clear n0_ n1_ n2_ n3_; clear hb hbox hg; have hcz6_0 : w5.cell? ⟨gb141, 0, none⟩ = some (.slice A0 l0.length c0) := (qu0 BK141.out 0).trans rfl; have hfz6_0 := qt0 BK141.out 0) | ((with_reducible refine qi1 (N := 10) rfl ?_); refine Kd.R_lit (Kd.int .i64) _ 3 ?hg (N := 10) ?hd (xs := ([] : List Int)) (inner := []) (ok := fun _ => True) (okp := fun _ => True) ?hr ?hp (fun _ hk => hk) trivial (Below.refl _ _) (Nat.le_refl _) (by simp) ?_; (case hd => rfl); (case hg => rfl); (case hr => first | (go_simp; done) | (go_simp; rfl)); (case hp => exact (Reps.none _ _)); intro v143 w7 ho8 hb hg_ hnew_; clear hg_ hnew_; (first | rw [← Ny142.out] at ho8 | (simp only [Int.reduceToNat] at ho8; rw [← Ny142.out] at ho8)); have n0_ := Aside0.mk (Kd.qe1 ho8 (ql0 (by repeat (first | (with_reducible first | exact HB.out | apply qc0 | apply qa0 | apply qb0 | refine qh0 ?_ GE141.out) | exact HB.out)))); have n1_ := Aside0.mk (blk_below (g := gb141) (o := .cells #[.slice A0 l0.length c0] 28 (0, 0)) (by (with_reducible repeat (first | refine qn0 ?_ _ | refine qp0 ?_ | refine qo0 ?_ _)); exact BK141.out) hb); have n2_ := Aside0.mk (qq0 (by repeat (first | (with_reducible first | exact HB.out | apply qc0 | apply qa0 | apply qb0 | refine qh0 ?_ GE141.out) | exact HB.out)) hb); clear BK141; clear HB; have HO144 := n0_; have BK141 := n1_; have HB := n2_; clear n0_ n1_ n2_; clear hb ho8; have hcz9_0 : w7.cell? ⟨gb141, 0, none⟩ = some (.slice A0 l0.length c0) := (qu0 BK141.out 0).trans rfl; have hfz9_0 := qt0 BK141.out 0))
 go_loopg [4, 13] k (fun kq v4 v13 w' => ∃ (x4_1 : List Int) (x13_1 : Int), v13 = .int .i64 x13_1 ∧ Aside0 (impl_byDay.l0 kq x4_1 l0 (l0.length : Int) x13_1 l0 = some (r1, r2)) ∧ Aside0 (kq ≤ k) ∧ Aside0 (Kd.R (Kd.int .i64) 3 w' w.heap.size (fun _ => True) v4 x4_1) ∧ Aside0 (w'.heap[gb141]? = some (.cells #[(.slice A0 l0.length c0)] 28 (0, 0))) ∧ Aside0 (Below w.heap.size w w'))
 case atStart => exact ⟨(y142), (0), (by first | rfl | (simp; done) | (simp [*]; done)), H', ⟨Nat.le_refl _⟩, ⟨by (with_reducible repeat (first | apply Kd.qe0 | apply Kd.qd0 | apply Kd.qf0)); exact HO144.out⟩, ⟨by (with_reducible repeat (first | refine qn0 ?_ _ | refine qp0 ?_ | refine qo0 ?_ _)); exact BK141.out⟩, ⟨by repeat (first | (with_reducible first | exact HB.out | apply qc0 | apply qa0 | apply qb0 | refine qh0 ?_ GE141.out) | exact HB.out)⟩⟩
 case round =>
  clear H'
  try clear c2
  try clear c2b0
  try clear c2b1
  try clear p2
  try clear c8
  try clear hcz4_0
  try clear hcz6_0
  try clear hcz9_0
  try clear hfz4_0
  try clear hfz6_0
  try clear hfz9_0
  obtain ⟨x4_1, x13_1, rfl, HA, HK1, HO_4, BK141, HB⟩ := hrel
  cases gk with
  | zero => exact absurd HA.out (by simp [impl_byDay.l0])
  | succ k1 =>
   have H := HA.out
   clear HA
   simp only [impl_byDay.l0] at H
   by_cases c10 : x13_1 < (l0.length : Int)
   ·rw [if_pos c10] at H
    have c10b0 : decide (x13_1 < (l0.length : Int)) = true := decide_eq_true c10
    clear c10
    by_cases c11 : 0 ≤ x13_1
    case neg => rw [if_neg c11] at H; exact absurd H (by simp)
    rw [if_pos c11] at H
    have c11b0 : decide (0 ≤ x13_1) = true := decide_eq_true c11
    clear c11
    by_cases c12 : x13_1 < (l0.length : Int)
    case neg => rw [if_neg c12] at H; exact absurd H (by simp)
    rw [if_pos c12] at H
    have c12b0 : decide (x13_1 < (l0.length : Int)) = true := decide_eq_true c12
    clear c12
    replace H := Option.bind_eq_some_iff.mp H
    obtain ⟨t147, A130, H⟩ := H
    replace H : (if t147 = true then (if x4_1.length < 17592186044416 then (impl_byDay.l0 k1 (x4_1 ++ [x13_1]) l0 (l0.length : Int) (wrap64 (x13_1 + 1)) l0) else (none)) else (some (([] : List Int), false))) = some (r1, r2) := H
    have A13 := Aside0.mk A130
    clear A130
    by_cases c14 : t147 = true
    ·subst c14
     have H1 : (if x4_1.length < 17592186044416 then (impl_byDay.l0 k1 (x4_1 ++ [x13_1]) l0 (l0.length : Int) (wrap64 (x13_1 + 1)) l0) else (none)) = some (r1, r2) := by rw [if_pos rfl] at H; exact H
     clear H
     have H := H1
     clear H1
     by_cases c15 : x4_1.length < 17592186044416
     case neg => rw [if_neg c15] at H; exact absurd H (by simp)
     rw [if_pos c15] at H
     have LMc15 := Aside0.mk c15
     clear c15
     obtain ⟨y148, hy148⟩ : ∃ y_ : List Int, y_ = (x4_1 ++ [x13_1]) := ⟨_, rfl⟩
     replace H : (impl_byDay.l0 k1 y148 l0 (l0.length : Int) (wrap64 (x13_1 + 1)) l0) = some (r1, r2) := by first | (rw [hy148]; with_reducible exact H) | (have H2_ := (Option.bind_some _ _).symm.trans H; rw [hy148]; with_reducible exact H2_) | (have H2_ := (Option.bind_some _ _).symm.trans H; with_reducible exact H2_) | with_reducible exact H | (rw [hy148]; exact H) | exact H
     have Ny148 := Aside0.mk hy148
     clear hy148
     have H' := Aside0.mk H
     clear H
     have p145 : 0 ≤ (x13_1 : Int) := of_decide_eq_true (by first | (with_reducible assumption) | assumption)
     have q145 : x13_1 < (l0.length : Int) := of_decide_eq_true (by first | (with_reducible assumption) | assumption)
     obtain ⟨ad145, e145, hx145_0, hx145_1⟩ := at_T27 HR0.out x13_1 p145 q145
     cases e145
     replace hx145_0 := (HB.out.cell (World.block_lt_of_cell? w _ hx145_0)).trans hx145_0
     replace hx145_1 := (HB.out.cell (World.block_lt_of_cell? w _ hx145_1)).trans hx145_1
     replace p145 := eq_true p145
     replace q145 := eq_true q145
     go_wp2_with (first | ((with_reducible refine qi1 (N := 6) rfl ?_); refine box_event ?hg (N := 6) ?hd (cs := #[.int .i64 0, .int .i64 0]) (t := 27) ?hr ?_; (case hd => rfl); (case hg => rfl); (case hr => first | (go_simp; done) | (go_simp; rfl)); intro gb146 hg w16 hbox hb; have n0_ := Aside0.mk (Kd.qx0 (by (with_reducible repeat (first | apply Kd.qe0 | apply Kd.qd0 | apply Kd.qf0)); exact HO_4.out) hb); have n1_ := Aside0.mk (blk_below (g := gb141) (o := .cells #[.slice (some ad145) l0.length c0] 28 (0, 0)) (by (with_reducible repeat (first | refine qn0 ?_ _ | refine qp0 ?_ | refine qo0 ?_ _)); exact BK141.out) hb); have n2_ := Aside0.mk (qq0 (by repeat (first | (with_reducible first | exact HB.out | apply qc0 | apply qa0 | apply qb0 | refine qh0 ?_ GE141.out) | exact HB.out)) hb); have n3_ := Aside0.mk (hbox); have n4_ := Aside0.mk ((by rw [hg]; exact (ql0 (by repeat (first | (with_reducible first | exact HB.out | apply qc0 | apply qa0 | apply qb0 | refine qh0 ?_ GE141.out) | exact HB.out))) : w.heap.size ≤ gb146)); have n5_ := Aside0.mk ((by rw [hg]; exact (ql0 (by repeat (first | (with_reducible first | exact HB.out | apply qc0 | apply qa0 | apply qb0 | refine qh0 ?_ GE141.out) | exact HB.out))) : w.heap.size ≤ gb146)); have n6_ := Aside0.mk ((by rw [hg]; exact Nat.ne_of_lt (blk_lt (g := gb141) (o := .cells #[.slice (some ad145) l0.length c0] 28 (0, 0)) (by (with_reducible repeat (first | refine qn0 ?_ _ | refine qp0 ?_ | refine qo0 ?_ _)); exact BK141.out)) : gb141 ≠ gb146)); have n7_ := Aside0.mk ((by rw [hg]; exact Nat.ne_of_gt (blk_lt (g := gb141) (o := .cells #[.slice (some ad145) l0.length c0] 28 (0, 0)) (by (with_reducible repeat (first | refine qn0 ?_ _ | refine qp0 ?_ | refine qo0 ?_ _)); exact BK141.out)) : gb146 ≠ gb141)); clear HO_4; clear BK141; clear HB; have HO_4 := n0_; have BK141 := n1_; have HB := n2_; have BK146 := n3_; have GW146 := n4_; have GE146 := n5_; have NB141_146 := n6_; have NB146_141 := n7_; clear n0_ n1_ n2_ n3_ n4_ n5_ n6_ n7_; clear hb hbox hg; have hnb17 := NB146_141.out; have hnc17 := NB141_146.out; have hcz18_0 : w16.cell? ⟨gb146, 0, none⟩ = some (.int .i64 0) := (qu0 BK146.out 0).trans rfl; have hcz18_1 : w16.cell? ⟨gb146, 1, none⟩ = some (.int .i64 0) := (qu0 BK146.out 1).trans rfl; have hfz18_0 := qt0 BK146.out 0; have hfz18_1 := qt0 BK146.out 1) | ((with_reducible refine qj0 (f := 165) rfl ?_); refine qz0 (some 19) rfl rfl Try.func165 (by kernel_rfl) rfl #[.agg #[.int .i64 ((rd_T27 l0 x13_1).f0), .int .i64 ((rd_T27 l0 x13_1).f1)]] rfl (by (try simp only [List.map_toArray, List.map_cons, List.map_nil]); first | done | rfl | (simp only [List.length_drop, List.length_take]; rfl)) ?_; (with_reducible refine (impl_openOk.calls ((rd_T27 l0 x13_1).f0) ((rd_T27 l0 x13_1).f1) true _ A13.out).mono ?_); rintro e w19 ⟨rfl, hb⟩; refine ⟨_, rfl, ?_⟩; have n0_ := Aside0.mk (Kd.qx0 (by (with_reducible repeat (first | apply Kd.qe0 | apply Kd.qd0 | apply Kd.qf0)); exact (Kd.qm0 (Kd.R_far (p := ⟨gb146, 1, none⟩) (Kd.R_far (p := ⟨gb146, 0, none⟩) (Kd.qf1 HO_4.out BK146.out (by decide)) (fun _ hk => hk.2) (.int .i64 ((rd_T27 l0 x13_1).f0))) (fun _ hk => hk.2) (.int .i64 ((rd_T27 l0 x13_1).f1))) (fun _ h_ => h_.1))) hb); have n1_ := Aside0.mk (blk_below (g := gb141) (o := .cells #[.slice (some ad145) l0.length c0] 28 (0, 0)) (by (with_reducible repeat (first | refine qn0 ?_ _ | refine qp0 ?_ | refine qo0 ?_ _)); refine blk_far ?_ NB141_146.out _; (with_reducible repeat (first | refine qn0 ?_ _ | refine qp0 ?_ | refine qo0 ?_ _)); refine blk_far ?_ NB141_146.out _; (with_reducible repeat (first | refine qn0 ?_ _ | refine qp0 ?_ | refine qo0 ?_ _)); exact BK141.out) hb); have n2_ := Aside0.mk (blk_below (g := gb146) (o := .cells #[.int .i64 ((rd_T27 l0 x13_1).f0), .int .i64 ((rd_T27 l0 x13_1).f1)] 27 (0, 0)) (by (with_reducible repeat (first | refine qn0 ?_ _ | refine qp0 ?_ | refine qo0 ?_ _)); refine blk_put (cs := #[.int .i64 ((rd_T27 l0 x13_1).f0), .int .i64 0]) ?_ 1 _ rfl; (with_reducible repeat (first | refine qn0 ?_ _ | refine qp0 ?_ | refine qo0 ?_ _)); refine blk_put (cs := #[.int .i64 0, .int .i64 0]) ?_ 0 _ rfl; (with_reducible repeat (first | refine qn0 ?_ _ | refine qp0 ?_ | refine qo0 ?_ _)); exact BK146.out) hb); have n3_ := Aside0.mk (qq0 (by repeat (first | (with_reducible first | exact HB.out | apply qc0 | apply qa0 | apply qb0 | refine qh0 ?_ GE141.out | refine qh0 ?_ GE146.out) | exact HB.out)) hb); clear HO_4; clear BK141; clear BK146; clear HB; have HO_4 := n0_; have BK141 := n1_; have BK146 := n2_; have HB := n3_; clear n0_ n1_ n2_ n3_; (try clear hb); (try clear hb2); (try clear hk); (try clear hi)) | ((with_reducible refine gate_builtin (b := .append) (xs := #[.tmp 21, .tmp 23]) rfl ?_); at_builtin; refine Kd.R_append (Kd.int .i64) (w0 := w) w.heap.size rfl (.tmp 21) (.tmp 23) 33 3 (.int .i64 0) 8 rfl Try.underlying33 info3 rfl (by decide) (by omega) u4 x4_1 x13_1 [.int .i64 x13_1] (fun _ => True) (fun _ => False) rfl rfl ?aP (fun _ hk => hk.elim) ?aF ?aO ?aB ?aS ?aL ?_; (case aP => exact rfl); (case aB => exact (by repeat (first | (with_reducible first | exact HB.out | apply qc0 | apply qa0 | apply qb0 | refine qh0 ?_ GE141.out | refine qh0 ?_ GE146.out) | exact HB.out))); (case aF => exact (fun _ _ => trivial)); (case aO => exact (by (with_reducible repeat (first | apply Kd.qe0 | apply Kd.qd0 | apply Kd.qf0)); exact HO_4.out)); (case aS => exact (ql0 (by repeat (first | (with_reducible first | exact HB.out | apply qc0 | apply qa0 | apply qb0 | refine qh0 ?_ GE141.out | refine qh0 ?_ GE146.out) | exact HB.out)))); (case aL => have := LMc15.out; omega); intro v149 w20 ho hb hg hat; rw [← Ny148.out] at ho; have n0_ := Aside0.mk (blk_grown (g := gb141) (o := .cells #[.slice (some ad145) l0.length c0] 28 (0, 0)) (by (with_reducible repeat (first | refine qn0 ?_ _ | refine qp0 ?_ | refine qo0 ?_ _)); exact BK141.out) hg (Kd.R_ne HO_4.out BK141.out (by decide))); have n1_ := Aside0.mk (blk_grown (g := gb146) (o := .cells #[.int .i64 ((rd_T27 l0 x13_1).f0), .int .i64 ((rd_T27 l0 x13_1).f1)] 27 (0, 0)) (by (with_reducible repeat (first | refine qn0 ?_ _ | refine qp0 ?_ | refine qo0 ?_ _)); exact BK146.out) hg (Kd.R_ne HO_4.out BK146.out (by decide))); have n2_ := Aside0.mk (hb); have n3_ := Aside0.mk (ho); clear BK141; clear BK146; clear HB; clear HO_4; have BK141 := n0_; have BK146 := n1_; have HB := n2_; have HO150 := n3_; clear n0_ n1_ n2_ n3_; clear ho hb hg hat))
     go_roundg k1
     case measure => have := HK1.out; omega
     case rel => exact ⟨(y148), (wrap64 (x13_1 + 1)), (by first | rfl | (simp; done) | (simp [*]; done)), H', ⟨by have := HK1.out; omega⟩, ⟨by (with_reducible repeat (first | apply Kd.qe0 | apply Kd.qd0 | apply Kd.qf0)); exact HO150.out⟩, ⟨by (with_reducible repeat (first | refine qn0 ?_ _ | refine qp0 ?_ | refine qo0 ?_ _)); exact BK141.out⟩, ⟨by repeat (first | (with_reducible first | exact HB.out | apply qc0 | apply qa0 | apply qb0 | refine qh0 ?_ GE141.out | refine qh0 ?_ GE146.out) | exact HB.out)⟩⟩
    replace c14 := Bool.eq_false_iff.mpr c14
    subst c14
    have H1 : (some (([] : List Int), false)) = some (r1, r2) := by rw [if_neg (show ¬ (false = true) by decide)] at H; exact H
    clear H
    have H := H1
    clear H1
    simp only [Option.some.injEq, Prod.mk.injEq] at H
    obtain ⟨rfl, rfl⟩ := H
    have p145 : 0 ≤ (x13_1 : Int) := of_decide_eq_true (by first | (with_reducible assumption) | assumption)
    have q145 : x13_1 < (l0.length : Int) := of_decide_eq_true (by first | (with_reducible assumption) | assumption)
    obtain ⟨ad145, e145, hx145_0, hx145_1⟩ := at_T27 HR0.out x13_1 p145 q145
    cases e145
    replace hx145_0 := (HB.out.cell (World.block_lt_of_cell? w _ hx145_0)).trans hx145_0
    replace hx145_1 := (HB.out.cell (World.block_lt_of_cell? w _ hx145_1)).trans hx145_1
    replace p145 := eq_true p145
    replace q145 := eq_true q145
    go_wp2_with (first | ((with_reducible refine qi1 (N := 6) rfl ?_); refine box_event ?hg (N := 6) ?hd (cs := #[.int .i64 0, .int .i64 0]) (t := 27) ?hr ?_; (case hd => rfl); (case hg => rfl); (case hr => first | (go_simp; done) | (go_simp; rfl)); intro gb146 hg w21 hbox hb; have n0_ := Aside0.mk (Kd.qx0 (by (with_reducible repeat (first | apply Kd.qe0 | apply Kd.qd0 | apply Kd.qf0)); exact HO_4.out) hb); have n1_ := Aside0.mk (blk_below (g := gb141) (o := .cells #[.slice (some ad145) l0.length c0] 28 (0, 0)) (by (with_reducible repeat (first | refine qn0 ?_ _ | refine qp0 ?_ | refine qo0 ?_ _)); exact BK141.out) hb); have n2_ := Aside0.mk (qq0 (by repeat (first | (with_reducible first | exact HB.out | apply qc0 | apply qa0 | apply qb0 | refine qh0 ?_ GE141.out) | exact HB.out)) hb); have n3_ := Aside0.mk (hbox); have n4_ := Aside0.mk ((by rw [hg]; exact (ql0 (by repeat (first | (with_reducible first | exact HB.out | apply qc0 | apply qa0 | apply qb0 | refine qh0 ?_ GE141.out) | exact HB.out))) : w.heap.size ≤ gb146)); have n5_ := Aside0.mk ((by rw [hg]; exact (ql0 (by repeat (first | (with_reducible first | exact HB.out | apply qc0 | apply qa0 | apply qb0 | refine qh0 ?_ GE141.out) | exact HB.out))) : w.heap.size ≤ gb146)); have n6_ := Aside0.mk ((by rw [hg]; exact Nat.ne_of_lt (blk_lt (g := gb141) (o := .cells #[.slice (some ad145) l0.length c0] 28 (0, 0)) (by (with_reducible repeat (first | refine qn0 ?_ _ | refine qp0 ?_ | refine qo0 ?_ _)); exact BK141.out)) : gb141 ≠ gb146)); have n7_ := Aside0.mk ((by rw [hg]; exact Nat.ne_of_gt (blk_lt (g := gb141) (o := .cells #[.slice (some ad145) l0.length c0] 28 (0, 0)) (by (with_reducible repeat (first | refine qn0 ?_ _ | refine qp0 ?_ | refine qo0 ?_ _)); exact BK141.out)) : gb146 ≠ gb141)); clear HO_4; clear BK141; clear HB; have HO_4 := n0_; have BK141 := n1_; have HB := n2_; have BK146 := n3_; have GW146 := n4_; have GE146 := n5_; have NB141_146 := n6_; have NB146_141 := n7_; clear n0_ n1_ n2_ n3_ n4_ n5_ n6_ n7_; clear hb hbox hg; have hnb22 := NB146_141.out; have hnc22 := NB141_146.out; have hcz23_0 : w21.cell? ⟨gb146, 0, none⟩ = some (.int .i64 0) := (qu0 BK146.out 0).trans rfl; have hcz23_1 : w21.cell? ⟨gb146, 1, none⟩ = some (.int .i64 0) := (qu0 BK146.out 1).trans rfl; have hfz23_0 := qt0 BK146.out 0; have hfz23_1 := qt0 BK146.out 1) | ((with_reducible refine qj0 (f := 165) rfl ?_); refine qz0 (some 19) rfl rfl Try.func165 (by kernel_rfl) rfl #[.agg #[.int .i64 ((rd_T27 l0 x13_1).f0), .int .i64 ((rd_T27 l0 x13_1).f1)]] rfl (by (try simp only [List.map_toArray, List.map_cons, List.map_nil]); first | done | rfl | (simp only [List.length_drop, List.length_take]; rfl)) ?_; (with_reducible refine (impl_openOk.calls ((rd_T27 l0 x13_1).f0) ((rd_T27 l0 x13_1).f1) false _ A13.out).mono ?_); rintro e w24 ⟨rfl, hb⟩; refine ⟨_, rfl, ?_⟩; have n0_ := Aside0.mk (Kd.qx0 (by (with_reducible repeat (first | apply Kd.qe0 | apply Kd.qd0 | apply Kd.qf0)); exact (Kd.qm0 (Kd.R_far (p := ⟨gb146, 1, none⟩) (Kd.R_far (p := ⟨gb146, 0, none⟩) (Kd.qf1 HO_4.out BK146.out (by decide)) (fun _ hk => hk.2) (.int .i64 ((rd_T27 l0 x13_1).f0))) (fun _ hk => hk.2) (.int .i64 ((rd_T27 l0 x13_1).f1))) (fun _ h_ => h_.1))) hb); have n1_ := Aside0.mk (blk_below (g := gb141) (o := .cells #[.slice (some ad145) l0.length c0] 28 (0, 0)) (by (with_reducible repeat (first | refine qn0 ?_ _ | refine qp0 ?_ | refine qo0 ?_ _)); refine blk_far ?_ NB141_146.out _; (with_reducible repeat (first | refine qn0 ?_ _ | refine qp0 ?_ | refine qo0 ?_ _)); refine blk_far ?_ NB141_146.out _; (with_reducible repeat (first | refine qn0 ?_ _ | refine qp0 ?_ | refine qo0 ?_ _)); exact BK141.out) hb); have n2_ := Aside0.mk (blk_below (g := gb146) (o := .cells #[.int .i64 ((rd_T27 l0 x13_1).f0), .int .i64 ((rd_T27 l0 x13_1).f1)] 27 (0, 0)) (by (with_reducible repeat (first | refine qn0 ?_ _ | refine qp0 ?_ | refine qo0 ?_ _)); refine blk_put (cs := #[.int .i64 ((rd_T27 l0 x13_1).f0), .int .i64 0]) ?_ 1 _ rfl; (with_reducible repeat (first | refine qn0 ?_ _ | refine qp0 ?_ | refine qo0 ?_ _)); refine blk_put (cs := #[.int .i64 0, .int .i64 0]) ?_ 0 _ rfl; (with_reducible repeat (first | refine qn0 ?_ _ | refine qp0 ?_ | refine qo0 ?_ _)); exact BK146.out) hb); have n3_ := Aside0.mk (qq0 (by repeat (first | (with_reducible first | exact HB.out | apply qc0 | apply qa0 | apply qb0 | refine qh0 ?_ GE141.out | refine qh0 ?_ GE146.out) | exact HB.out)) hb); clear HO_4; clear BK141; clear BK146; clear HB; have HO_4 := n0_; have BK141 := n1_; have BK146 := n2_; have HB := n3_; clear n0_ n1_ n2_ n3_; (try clear hb); (try clear hb2); (try clear hk); (try clear hi)))
    go_ret2
    exact ⟨_, by first | rfl | (simp [errW_none, errW_some] <;> rfl) | (simp [*, errW_none, errW_some] <;> rfl), by first | exact Kd.R_nil _ _ _ _ _ | exact Kd.N_nil _ _ _ _ _ | exact Kd.V_nil _ _ _ _ _ | exact Kd.Q_nil _ _ _ _ _ | exact Kd.S_nil _ _ _ _ _, by repeat (first | (with_reducible first | exact HB.out | apply qc0 | apply qa0 | apply qb0 | refine qh0 ?_ GE141.out | refine qh0 ?_ GE146.out) | exact HB.out)⟩
   rw [if_neg c10] at H
   have c10b0 : decide (x13_1 < (l0.length : Int)) = false := decide_eq_false c10
   clear c10
   replace H := Option.bind_eq_some_iff.mp H
   obtain ⟨t151, A250, H⟩ := H
   replace H : (some (t151, true)) = some (r1, r2) := H
   have A25 := Aside0.mk A250
   clear A250
   simp only [Option.some.injEq, Prod.mk.injEq] at H
   obtain ⟨rfl, rfl⟩ := H
   obtain ⟨Ao26, co26, eo26⟩ := Kd.qw0 HO_4.out
   subst eo26
   go_wp2_with (first | ((with_reducible refine qj0 (f := 98) rfl ?_); refine qz0 (some 28) rfl rfl Try.func98 (by kernel_rfl) rfl #[.slice Ao26 x4_1.length co26, .func (.func 166) #[] (#[.pointer (some ⟨gb141, 0, none⟩)])] rfl (by (try simp only [List.map_toArray, List.map_cons, List.map_nil]); first | done | rfl | (simp only [List.length_drop, List.length_take]; rfl)) ?_; (with_reducible refine (impl_sortBy_int.calls k1 (fun k_ => some k_ = (.slice Ao26 x4_1.length co26 : Value).ownBlock) (.slice Ao26 x4_1.length co26) x4_1 166 (#[.pointer (some ⟨gb141, 0, none⟩)]) (fun a_ b_ => impl_byDay_1.f a_ b_ l0) t151 w _ ?side1 ?side2 ?side3 A25.out).mono ?_); (case side1 => repeat (first | (with_reducible first | exact HB.out | apply qc0 | apply qa0 | apply qb0 | refine qh0 ?_ GE141.out) | exact HB.out)); (case side2 => exact Kd.R_tight rfl HO_4.out); (case side3 => exact fun W_ h_ => impl_byDay_1.ok W_ (blk_kept (by (with_reducible repeat (first | refine qn0 ?_ _ | refine qp0 ?_ | refine qo0 ?_ _)); exact BK141.out) h_ (fun hs_ => (fun e_ => (Kd.R_ne HO_4.out BK141.out (by decide)) e_) hs_)) ((Kd.C_kept_came k27_heap HR0.out (by repeat (first | (with_reducible first | exact HB.out | apply qc0 | apply qa0 | apply qb0 | refine qh0 ?_ GE141.out) | exact HB.out)) (fun k_ hs_ => (fun e_ => Kd.R_base HO_4.out k_ e_.symm) hs_)) W_ h_) HC0.out); rintro e w27 ⟨rfl, hy0, hb, hkp⟩; refine ⟨_, rfl, ?_⟩; have n0_ := Aside0.mk (Kd.R_reok rfl hy0 (fun k_ e_ => HO_4.out.1 k_ e_)); have n1_ := Aside0.mk (blk_kept (by (with_reducible repeat (first | refine qn0 ?_ _ | refine qp0 ?_ | refine qo0 ?_ _)); exact BK141.out) hkp (fun hs_ => (fun e_ => (Kd.R_ne HO_4.out BK141.out (by decide)) e_) hs_)); have n2_ := Aside0.mk (hb); clear HO_4; clear BK141; clear HB; have HO_4 := n0_; have BK141 := n1_; have HB := n2_; clear n0_ n1_ n2_; (try clear hb); (try clear hkp); (try clear hy0)))
   go_ret2
   exact ⟨_, by first | rfl | (simp [errW_none, errW_some] <;> rfl) | (simp [*, errW_none, errW_some] <;> rfl), by (with_reducible repeat (first | apply Kd.qe0 | apply Kd.qd0 | apply Kd.qf0)); exact HO_4.out, by repeat (first | (with_reducible first | exact HB.out | apply qc0 | apply qa0 | apply qb0 | refine qh0 ?_ GE141.out) | exact HB.out)⟩

end Go.Proofs.Ytlodndejipjceaa.PFnSettled
