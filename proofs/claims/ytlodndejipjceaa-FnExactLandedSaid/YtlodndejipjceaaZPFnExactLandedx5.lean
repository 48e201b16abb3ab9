/- Lines by a program (a changed copy of the kit's print: this repo's wip/tools): Go functions as Lean functions, and proofs that the calls answer so. -/
import Derived.Test.YtlodndejipjceaaZPFnExactLandedx0
import Derived.Test.YtlodndejipjceaaZPFnExactLandedx1
import Derived.Test.YtlodndejipjceaaZPFnExactLandedx4
namespace Go.Proofs.Ytlodndejipjceaa.PFnExactLanded
open Go.RowKit Go.Proofs.YtlodndejipjceaaW.PrintWords Go.Proofs.YtlodndejipjceaaW.PrintLast Go.Proofs.YtlodndejipjceaaW.PrintMore
attribute [local go_sem] max2_int min2_int max_two min_two max_three min_three max_four min_four   -- for this text's walks alone
set_option linter.unusedVariables false
set_option linter.unusedSimpArgs false

/-! ### impl_money: function 95 -/
def impl_money.f (a0 : Int) : Option (Bool) := (impl_between.f a0 0 100000000000).bind fun t158 => (some t158)
set_option maxHeartbeats 8000000 in
set_option maxRecDepth 100000 in
theorem impl_money.calls (a0 : Int) (r : Bool) (w : World) (h : impl_money.f a0 = some r) :
  Calls Try.prog 95 #[.int .i64 a0] w fun e w' => e = .returned (.bool r) ∧ Drawn0 w w' := by
 have H : ((impl_between.f a0 0 100000000000).bind fun t158 => (some t158)) = some r := h
 clear h
 replace H := Option.bind_eq_some_iff.mp H
 obtain ⟨t158, A20, H⟩ := H
 replace H : (some t158) = some r := H
 have A2 := Aside0.mk A20
 clear A20
 obtain rfl := Option.some.inj H
 go_enter Try.func95, Try.ntmps95
 go_wp2_with (first | ((with_reducible refine qi0 (f := 97) rfl ?_); refine qu0 (some 4) rfl rfl Try.func97 (by kernel_rfl) rfl #[.int .i64 a0, .int .i64 0, .int .i64 100000000000] rfl (by (try simp only [List.map_toArray, List.map_cons, List.map_nil]); first | done | rfl | (simp only [List.length_drop, List.length_take]; rfl)) ?_; (with_reducible refine (impl_between.calls a0 0 100000000000 t158 _ A2.out).mono ?_); rintro e w' ⟨rfl, ⟨nd, rfl⟩⟩; refine ⟨_, rfl, ?_⟩))
 go_ret
 exact ⟨by first | rfl | (simp; done) | (simp [*]; done), by repeat (first | exact Drawn0.refl _ | apply Drawn0.step)⟩

/-! ### impl_layOk: function 118 -/
def impl_layOk.f (a0_0 : Int) (a0_1 : Int) : Option (Bool) := (impl_between.f a0_0 1 1000000).bind fun t160 => (if t160 = true then ((impl_money.f a0_1).bind fun t161 => (some t161)) else (some false))
set_option maxHeartbeats 8000000 in
set_option maxRecDepth 100000 in
theorem impl_layOk.calls (a0_0 : Int) (a0_1 : Int) (r : Bool) (w : World) (h : impl_layOk.f a0_0 a0_1 = some r) :
  Calls Try.prog 118 #[.agg #[.int .i64 a0_0, .int .i64 a0_1]] w fun e w' => e = .returned (.bool r) ∧ Below w.heap.size w w' := by
 have hu61 := Try.underlying61
 have HB := Aside0.mk (Below.refl w.heap.size w)
 have H : ((impl_between.f a0_0 1 1000000).bind fun t160 => (if t160 = true then ((impl_money.f a0_1).bind fun t161 => (some t161)) else (some false))) = some r := h
 clear h
 replace H := Option.bind_eq_some_iff.mp H
 obtain ⟨t160, A20, H⟩ := H
 replace H : (if t160 = true then ((impl_money.f a0_1).bind fun t161 => (some t161)) else (some false)) = some r := H
 have A2 := Aside0.mk A20
 clear A20
 by_cases c3 : t160 = true
 ·subst c3
  have H1 : ((impl_money.f a0_1).bind fun t161 => (some t161)) = some r := by rw [if_pos rfl] at H; exact H
  clear H
  have H := H1
  clear H1
  replace H := Option.bind_eq_some_iff.mp H
  obtain ⟨t161, A40, H⟩ := H
  replace H : (some t161) = some r := H
  have A4 := Aside0.mk A40
  clear A40
  obtain rfl := Option.some.inj H
  go_enter Try.func118, Try.ntmps118
  go_wp2_with (first | ((with_reducible refine qv0 (N := 1) rfl ?_); refine qe1 ?hg (N := 1) ?hd (cs := #[.int .i64 a0_0, .int .i64 a0_1]) (t := 61) ?hr ?_; (case hd => rfl); (case hg => rfl); (case hr => first | (go_simp; done) | (go_simp; rfl)); intro gb159 hg w5 hbox hb; have n0_ := Aside0.mk (qk0 (by repeat (first | (with_reducible first | exact HB.out | apply qc0 | apply qa0 | apply qb0) | exact HB.out)) hb); have n1_ := Aside0.mk (hbox); have n2_ := Aside0.mk ((by rw [hg]; exact (qh0 (by repeat (first | (with_reducible first | exact HB.out | apply qc0 | apply qa0 | apply qb0) | exact HB.out))) : w.heap.size ≤ gb159)); have n3_ := Aside0.mk ((by rw [hg]; exact (qh0 (by repeat (first | (with_reducible first | exact HB.out | apply qc0 | apply qa0 | apply qb0) | exact HB.out))) : w.heap.size ≤ gb159)); clear HB; have HB := n0_; have BK159 := n1_; have GW159 := n2_; have GE159 := n3_; clear n0_ n1_ n2_ n3_; clear hb hbox hg; have hcz6_0 : w5.cell? ⟨gb159, 0, none⟩ = some (.int .i64 a0_0) := (qr0 BK159.out 0).trans rfl; have hcz6_1 : w5.cell? ⟨gb159, 1, none⟩ = some (.int .i64 a0_1) := (qr0 BK159.out 1).trans rfl; have hfz6_0 := ql0 BK159.out 0; have hfz6_1 := ql0 BK159.out 1) | ((with_reducible refine qi0 (f := 97) rfl ?_); refine qu0 (some 5) rfl rfl Try.func97 (by kernel_rfl) rfl #[.int .i64 a0_0, .int .i64 1, .int .i64 1000000] rfl (by (try simp only [List.map_toArray, List.map_cons, List.map_nil]); first | done | rfl | (simp only [List.length_drop, List.length_take]; rfl)) ?_; (with_reducible refine (impl_between.calls a0_0 1 1000000 true _ A2.out).mono ?_); rintro e w' ⟨rfl, ⟨nd, rfl⟩⟩; refine ⟨_, rfl, ?_⟩) | (go_at_call 95; (with_reducible refine (impl_money.calls a0_1 t161 _ A4.out).mono ?_); rintro e w' ⟨rfl, ⟨nd, rfl⟩⟩))
  go_ret
  exact ⟨by first | rfl | (simp [errW_none, errW_some] <;> rfl) | (simp [*, errW_none, errW_some] <;> rfl), by repeat (first | (with_reducible first | exact HB.out | apply qc0 | apply qa0 | apply qb0 | refine qj0 ?_ GE159.out) | exact HB.out)⟩
 replace c3 := Bool.eq_false_iff.mpr c3
 subst c3
 have H1 : (some false) = some r := by rw [if_neg (show ¬ (false = true) by decide)] at H; exact H
 clear H
 have H := H1
 clear H1
 obtain rfl := Option.some.inj H
 go_enter Try.func118, Try.ntmps118
 go_wp2_with (first | ((with_reducible refine qv0 (N := 1) rfl ?_); refine qe1 ?hg (N := 1) ?hd (cs := #[.int .i64 a0_0, .int .i64 a0_1]) (t := 61) ?hr ?_; (case hd => rfl); (case hg => rfl); (case hr => first | (go_simp; done) | (go_simp; rfl)); intro gb159 hg w7 hbox hb; have n0_ := Aside0.mk (qk0 (by repeat (first | (with_reducible first | exact HB.out | apply qc0 | apply qa0 | apply qb0) | exact HB.out)) hb); have n1_ := Aside0.mk (hbox); have n2_ := Aside0.mk ((by rw [hg]; exact (qh0 (by repeat (first | (with_reducible first | exact HB.out | apply qc0 | apply qa0 | apply qb0) | exact HB.out))) : w.heap.size ≤ gb159)); have n3_ := Aside0.mk ((by rw [hg]; exact (qh0 (by repeat (first | (with_reducible first | exact HB.out | apply qc0 | apply qa0 | apply qb0) | exact HB.out))) : w.heap.size ≤ gb159)); clear HB; have HB := n0_; have BK159 := n1_; have GW159 := n2_; have GE159 := n3_; clear n0_ n1_ n2_ n3_; clear hb hbox hg; have hcz8_0 : w7.cell? ⟨gb159, 0, none⟩ = some (.int .i64 a0_0) := (qr0 BK159.out 0).trans rfl; have hcz8_1 : w7.cell? ⟨gb159, 1, none⟩ = some (.int .i64 a0_1) := (qr0 BK159.out 1).trans rfl; have hfz8_0 := ql0 BK159.out 0; have hfz8_1 := ql0 BK159.out 1) | ((with_reducible refine qi0 (f := 97) rfl ?_); refine qu0 (some 5) rfl rfl Try.func97 (by kernel_rfl) rfl #[.int .i64 a0_0, .int .i64 1, .int .i64 1000000] rfl (by (try simp only [List.map_toArray, List.map_cons, List.map_nil]); first | done | rfl | (simp only [List.length_drop, List.length_take]; rfl)) ?_; (with_reducible refine (impl_between.calls a0_0 1 1000000 false _ A2.out).mono ?_); rintro e w' ⟨rfl, ⟨nd, rfl⟩⟩; refine ⟨_, rfl, ?_⟩))
 go_ret
 exact ⟨by first | rfl | (simp [errW_none, errW_some] <;> rfl) | (simp [*, errW_none, errW_some] <;> rfl), by repeat (first | (with_reducible first | exact HB.out | apply qc0 | apply qa0 | apply qb0 | refine qj0 ?_ GE159.out) | exact HB.out)⟩

/-! ### impl_Landed: function 40 -/
mutual
def impl_Landed.j0 : Nat → List (S61) → Int → Int → Bool → Option ((List (S61)) × Bool)
 | 0, _, _, _, _ => none
 | k + 1, x0, x1, x2, x32 => if x32 = true then (some (([] : List (S61)), false)) else (impl_Landed.l0 k x0 x1 x2 (([] : List Int)) x0 (x0.length : Int) 0)
def impl_Landed.l0 : Nat → List (S61) → Int → Int → List Int → List (S61) → Int → Int → Option ((List (S61)) × Bool)
 | 0, _, _, _, _, _, _, _ => none
 | k + 1, x0, x1, x2, x8, x34, x35, x36 => if x36 < x35 then (if 0 ≤ x36 then (if x36 < (x34.length : Int) then ((impl_layOk.f ((rd_T61 x34 x36).f0) ((rd_T61 x34 x36).f1)).bind fun t169 => (if t169 = true then (if x2 = 0 then (if x8.length < 17592186044416 then (impl_Landed.l0 k x0 x1 x2 (x8 ++ [0]) x34 x35 (wrap64 (x36 + 1))) else (none)) else (if x2 = 1 then (if x8.length < 17592186044416 then (impl_Landed.l0 k x0 x1 x2 (x8 ++ [(rd_T61 x34 x36).f1]) x34 x35 (wrap64 (x36 + 1))) else (none)) else (if x2 = 2 then (if x8.length < 17592186044416 then (impl_Landed.l0 k x0 x1 x2 (x8 ++ [(rd_T61 x34 x36).f0]) x34 x35 (wrap64 (x36 + 1))) else (none)) else (if x2 = 3 then (if x8.length < 17592186044416 then (impl_Landed.l0 k x0 x1 x2 (x8 ++ [1]) x34 x35 (wrap64 (x36 + 1))) else (none)) else (none))))) else (some (([] : List (S61)), false)))) else (none)) else (none)) else ((impl_Shares.f k x1 x8).bind fun t182 => (if (t182.length : Int) = 0 then (some (([] : List (S61)), false)) else ((some (([] : List (S61)) : List (S61))).bind fun y185 => (if y185.length + x0.length < 8796093022208 then (impl_Landed.l1 k (y185 ++ x0) t182 (t182.length : Int) 0) else (none)))))
def impl_Landed.l1 : Nat → List (S61) → List Int → Int → Int → Option ((List (S61)) × Bool)
 | 0, _, _, _, _ => none
 | k + 1, x12, x63, x64, x65 => if x65 < x64 then (if 0 ≤ x65 then (if x65 < (x63.length : Int) then (if x65 < (x12.length : Int) then ((some (x12.set (x65 : Int).toNat (⟨(rd_T61 x12 x65).f0, wrap64 (((rd_T61 x12 x65).f1) + (rd x63 x65))⟩ : S61) : List (S61))).bind fun y193 => ((impl_amount.f ((rd_T61 y193 x65).f1)).bind fun t195 => (if t195 = true then (impl_Landed.l1 k y193 x63 x64 (wrap64 (x65 + 1))) else (some (([] : List (S61)), false))))) else (none)) else (none)) else (none)) else (some (x12, true))
end
def impl_Landed.f (k : Nat) (l0 : List (S61)) (a1 : Int) (a2 : Int) : Option ((List (S61)) × Bool) := if (l0.length : Int) < 1 then (impl_Landed.j0 k l0 a1 a2 true) else (if (l0.length : Int) > 200 then (impl_Landed.j0 k l0 a1 a2 true) else ((impl_money.f a1).bind fun t162 => (if t162 = true then ((impl_between.f a2 1 3).bind fun t163 => (impl_Landed.j0 k l0 a1 a2 (!t163))) else (impl_Landed.j0 k l0 a1 a2 true))))
theorem impl_Landed.mono_l : ∀ k, (∀ y0 y1 y2 y3, LeO (impl_Landed.j0 k y0 y1 y2 y3) (impl_Landed.j0 (k + 1) y0 y1 y2 y3)) ∧ (∀ y0 y1 y2 y3 y4 y5 y6, LeO (impl_Landed.l0 k y0 y1 y2 y3 y4 y5 y6) (impl_Landed.l0 (k + 1) y0 y1 y2 y3 y4 y5 y6)) ∧ (∀ y0 y1 y2 y3, LeO (impl_Landed.l1 k y0 y1 y2 y3) (impl_Landed.l1 (k + 1) y0 y1 y2 y3))
 | 0 => ⟨fun _ _ _ _ r h => by simp [impl_Landed.j0] at h, fun _ _ _ _ _ _ _ r h => by simp [impl_Landed.l0] at h, fun _ _ _ _ r h => by simp [impl_Landed.l1] at h⟩
 | k + 1 => by
  obtain ⟨ih0, ih1, ih2⟩ := impl_Landed.mono_l k
  refine ⟨?_, ?_, ?_⟩
  ·intro y0 y1 y2 y3
   unfold impl_Landed.j0
   repeat' first
   | (with_reducible exact ih0 _ _ _ _)
   | (with_reducible exact ih1 _ _ _ _ _ _ _)
   | (with_reducible exact ih2 _ _ _ _)
   | (with_reducible exact impl_Shares.mono _ _ _)
   | (with_reducible exact LeO.refl _)
   | (with_reducible exact LeO.none _)
   | (with_reducible refine LeO.ite ?_ ?_)
   | (with_reducible refine LeO.bind ?_ (fun _ => ?_))
   | exact ih0 _ _ _ _
   | exact ih1 _ _ _ _ _ _ _
   | exact ih2 _ _ _ _
   | exact impl_Shares.mono _ _ _
   | exact LeO.none _
   | refine LeO.ite ?_ ?_
   | refine LeO.bind ?_ (fun _ => ?_)
  ·intro y0 y1 y2 y3 y4 y5 y6
   unfold impl_Landed.l0
   repeat' first
   | (with_reducible exact ih0 _ _ _ _)
   | (with_reducible exact ih1 _ _ _ _ _ _ _)
   | (with_reducible exact ih2 _ _ _ _)
   | (with_reducible exact impl_Shares.mono _ _ _)
   | (with_reducible exact LeO.refl _)
   | (with_reducible exact LeO.none _)
   | (with_reducible refine LeO.ite ?_ ?_)
   | (with_reducible refine LeO.bind ?_ (fun _ => ?_))
   | exact ih0 _ _ _ _
   | exact ih1 _ _ _ _ _ _ _
   | exact ih2 _ _ _ _
   | exact impl_Shares.mono _ _ _
   | exact LeO.none _
   | refine LeO.ite ?_ ?_
   | refine LeO.bind ?_ (fun _ => ?_)
  ·intro y0 y1 y2 y3
   unfold impl_Landed.l1
   repeat' first
   | (with_reducible exact ih0 _ _ _ _)
   | (with_reducible exact ih1 _ _ _ _ _ _ _)
   | (with_reducible exact ih2 _ _ _ _)
   | (with_reducible exact impl_Shares.mono _ _ _)
   | (with_reducible exact LeO.refl _)
   | (with_reducible exact LeO.none _)
   | (with_reducible refine LeO.ite ?_ ?_)
   | (with_reducible refine LeO.bind ?_ (fun _ => ?_))
   | exact ih0 _ _ _ _
   | exact ih1 _ _ _ _ _ _ _
   | exact ih2 _ _ _ _
   | exact impl_Shares.mono _ _ _
   | exact LeO.none _
   | refine LeO.ite ?_ ?_
   | refine LeO.bind ?_ (fun _ => ?_)
theorem impl_Landed.mono : ∀ a0 a1 a2 k, LeO (impl_Landed.f k a0 a1 a2) (impl_Landed.f (k + 1) a0 a1 a2) := by
 intro a0 a1 a2 k
 obtain ⟨ih0, ih1, ih2⟩ := impl_Landed.mono_l k
 unfold impl_Landed.f
 repeat' first
   | (with_reducible exact ih0 _ _ _ _)
   | (with_reducible exact ih1 _ _ _ _ _ _ _)
   | (with_reducible exact ih2 _ _ _ _)
   | (with_reducible exact impl_Shares.mono _ _ _)
   | (with_reducible exact LeO.refl _)
   | (with_reducible exact LeO.none _)
   | (with_reducible refine LeO.ite ?_ ?_)
   | (with_reducible refine LeO.bind ?_ (fun _ => ?_))
   | exact ih0 _ _ _ _
   | exact ih1 _ _ _ _ _ _ _
   | exact ih2 _ _ _ _
   | exact impl_Shares.mono _ _ _
   | exact LeO.none _
   | refine LeO.ite ?_ ?_
   | refine LeO.bind ?_ (fun _ => ?_)
set_option maxHeartbeats 8000000 in
set_option maxRecDepth 100000 in
theorem impl_Landed.calls (k : Nat) (A0 : Option Addr) (c0 : Nat) (l0 : List (S61)) (a1 : Int) (a2 : Int) (r1 : List (S61)) (r2 : Bool) (w : World) (hr0 : Kd.C k61 w A0 l0.length l0) (hc0 : l0.length ≤ c0) (h : impl_Landed.f k l0 a1 a2 = some (r1, r2)) :
  Calls Try.prog 40 #[.slice A0 l0.length c0, .int .i64 a1, .int .i64 a2] w fun e w' => ∃ v0_ : Value, e = .returned (.tuple #[v0_, .bool r2]) ∧ Kd.R k61 61 w' w.heap.size (fun _ => True) v0_ r1 ∧ Below w.heap.size w w' := by
 have hu61 := Try.underlying61
 have HR0 := Aside0.mk hr0
 have HC0 := Aside0.mk hc0
 clear hr0 hc0
 have HB := Aside0.mk (Below.refl w.heap.size w)
 have H : (if (l0.length : Int) < 1 then (impl_Landed.j0 k l0 a1 a2 true) else (if (l0.length : Int) > 200 then (impl_Landed.j0 k l0 a1 a2 true) else ((impl_money.f a1).bind fun t162 => (if t162 = true then ((impl_between.f a2 1 3).bind fun t163 => (impl_Landed.j0 k l0 a1 a2 (!t163))) else (impl_Landed.j0 k l0 a1 a2 true))))) = some (r1, r2) := h
 clear h
 have HC4 := Aside0.mk H
 clear H
 go_enter Try.func40, Try.ntmps40
 go_upto_region 1 with (fail)
 go_cut [32] (fun v32 wc => ∃ (kq : Nat) (x32_3 : Bool), v32 = .bool x32_3 ∧ Aside0 (impl_Landed.j0 kq l0 a1 a2 x32_3 = some (r1, r2)) ∧ Aside0 (kq ≤ k) ∧ Aside0 (Below w.heap.size w wc))
 case first =>
  have H := HC4.out
  clear HC4
  by_cases c5 : (l0.length : Int) < 1
  ·rw [if_pos c5] at H
   have c5b0 : decide ((l0.length : Int) < 1) = true := decide_eq_true c5
   have c5b1 : decide (l0.length < 1) = true := decide_eq_true (by omega)
   clear c5
   (first | rw [c5b0] | (simp only [i64_w, i32_w]; rw [c5b0]) | skip)
   have H' := Aside0.mk H
   clear H
   go_wp2
   go_meet
   case rel => exact ⟨_, (true), (by first | rfl | (simp; done) | (simp [*]; done)), H', ⟨by first | omega | exact Nat.le_refl _⟩, ⟨by repeat (first | (with_reducible first | exact HB.out | apply qc0 | apply qa0 | apply qb0) | exact HB.out)⟩⟩
  rw [if_neg c5] at H
  have c5b0 : decide ((l0.length : Int) < 1) = false := decide_eq_false c5
  have c5b1 : decide (l0.length < 1) = false := decide_eq_false (by omega)
  clear c5
  (first | rw [c5b0] | (simp only [i64_w, i32_w]; rw [c5b0]) | skip)
  by_cases c6 : (l0.length : Int) > 200
  ·rw [if_pos c6] at H
   have c6b0 : decide (200 < (l0.length : Int)) = true := decide_eq_true c6
   have c6b1 : decide (200 < l0.length) = true := decide_eq_true (by omega)
   clear c6
   have H' := Aside0.mk H
   clear H
   go_wp2
   go_meet
   case rel => exact ⟨_, (true), (by first | rfl | (simp; done) | (simp [*]; done)), H', ⟨by first | omega | exact Nat.le_refl _⟩, ⟨by repeat (first | (with_reducible first | exact HB.out | apply qc0 | apply qa0 | apply qb0) | exact HB.out)⟩⟩
  rw [if_neg c6] at H
  have c6b0 : decide (200 < (l0.length : Int)) = false := decide_eq_false c6
  have c6b1 : decide (200 < l0.length) = false := decide_eq_false (by omega)
  clear c6
  replace H := Option.bind_eq_some_iff.mp H
  obtain ⟨t162, A70, H⟩ := H
  replace H : (if t162 = true then ((impl_between.f a2 1 3).bind fun t163 => (impl_Landed.j0 k l0 a1 a2 (!t163))) else (impl_Landed.j0 k l0 a1 a2 true)) = some (r1, r2) := H
  have A7 := Aside0.mk A70
  clear A70
  by_cases c8 : t162 = true
  ·subst c8
   have H1 : ((impl_between.f a2 1 3).bind fun t163 => (impl_Landed.j0 k l0 a1 a2 (!t163))) = some (r1, r2) := by rw [if_pos rfl] at H; exact H
   clear H
   have H := H1
   clear H1
   replace H := Option.bind_eq_some_iff.mp H
   obtain ⟨t163, A90, H⟩ := H
   replace H : (impl_Landed.j0 k l0 a1 a2 (!t163)) = some (r1, r2) := H
   have A9 := Aside0.mk A90
   clear A90
   have H' := Aside0.mk H
   clear H
   go_wp2_with (first | (go_at_call 95; (with_reducible refine (impl_money.calls a1 true _ A7.out).mono ?_); rintro e w' ⟨rfl, ⟨nd, rfl⟩⟩) | (go_at_call 97; (with_reducible refine (impl_between.calls a2 1 3 t163 _ A9.out).mono ?_); rintro e w' ⟨rfl, ⟨nd, rfl⟩⟩))
   go_meet
   case rel => exact ⟨_, (!t163), (by first | rfl | (simp; done) | (simp [*]; done)), H', ⟨by first | omega | exact Nat.le_refl _⟩, ⟨by repeat (first | (with_reducible first | exact HB.out | apply qc0 | apply qa0 | apply qb0) | exact HB.out)⟩⟩
  replace c8 := Bool.eq_false_iff.mpr c8
  subst c8
  have H1 : (impl_Landed.j0 k l0 a1 a2 true) = some (r1, r2) := by rw [if_neg (show ¬ (false = true) by decide)] at H; exact H
  clear H
  have H := H1
  clear H1
  have H' := Aside0.mk H
  clear H
  go_wp2_with (first | (go_at_call 95; (with_reducible refine (impl_money.calls a1 false _ A7.out).mono ?_); rintro e w' ⟨rfl, ⟨nd, rfl⟩⟩))
  go_meet
  case rel => exact ⟨_, (true), (by first | rfl | (simp; done) | (simp [*]; done)), H', ⟨by first | omega | exact Nat.le_refl _⟩, ⟨by repeat (first | (with_reducible first | exact HB.out | apply qc0 | apply qa0 | apply qb0) | exact HB.out)⟩⟩
 case rest =>
  clear HC4
  try clear p2
  try clear c4
  try clear c5
  try clear c5b0
  try clear c5b1
  try clear c6
  try clear c6b0
  try clear c6b1
  try clear c8
  obtain ⟨kq, x32_3, rfl, HA, HJ3, HB⟩ := hcut
  cases kq with
  | zero => exact absurd HA.out (by simp [impl_Landed.j0])
  | succ kj3 =>
   have H := HA.out
   clear HA
   simp only [impl_Landed.j0] at H
   by_cases c10 : x32_3 = true
   ·subst c10
    have H1 : (some (([] : List (S61)), false)) = some (r1, r2) := by rw [if_pos rfl] at H; exact H
    clear H
    have H := H1
    clear H1
    simp only [Option.some.injEq, Prod.mk.injEq] at H
    obtain ⟨rfl, rfl⟩ := H
    go_wp2
    go_ret2
    exact ⟨_, by first | rfl | (simp [errW_none, errW_some] <;> rfl) | (simp [*, errW_none, errW_some] <;> rfl), by first | exact Kd.R_nil _ _ _ _ _ | exact Kd.N_nil _ _ _ _ _ | exact Kd.V_nil _ _ _ _ _ | exact Kd.Q_nil _ _ _ _ _ | exact Kd.S_nil _ _ _ _ _, by repeat (first | (with_reducible first | exact HB.out | apply qc0 | apply qa0 | apply qb0) | exact HB.out)⟩
   replace c10 := Bool.eq_false_iff.mpr c10
   subst c10
   have H1 : (impl_Landed.l0 kj3 l0 a1 a2 (([] : List Int)) l0 (l0.length : Int) 0) = some (r1, r2) := by rw [if_neg (show ¬ (false = true) by decide)] at H; exact H
   clear H
   have H := H1
   clear H1
   obtain ⟨y164, hy164⟩ : ∃ y_ : List Int, y_ = (([] : List Int)) := ⟨_, rfl⟩
   replace H : (impl_Landed.l0 kj3 l0 a1 a2 y164 l0 (l0.length : Int) 0) = some (r1, r2) := by first | (rw [hy164]; with_reducible exact H) | (have H2_ := (Option.bind_some _ _).symm.trans H; rw [hy164]; with_reducible exact H2_) | (have H2_ := (Option.bind_some _ _).symm.trans H; with_reducible exact H2_) | with_reducible exact H | (rw [hy164]; exact H) | exact H
   have Ny164 := Aside0.mk hy164
   clear hy164
   have H' := Aside0.mk H
   clear H
   go_wp2_with (first | ((with_reducible refine qv0 (N := 33) rfl ?_); (try (refine qt0 (by rfl) ?_; dsimp only)); refine Kd.R_lit (Kd.int .i64) _ 3 ?hg (N := 33) ?hd (xs := ([] : List Int)) (inner := []) (ok := fun _ => True) (okp := fun _ => True) ?hr ?hp (fun _ hk => hk) trivial (Below.refl _ _) (Nat.le_refl _) (by simp) ?_; (case hd => rfl); (case hg => rfl); (case hr => first | (go_simp; done) | (go_simp; rfl)); (case hp => exact (Reps.none _ _)); intro v165 w11 ho12 hb hg_ hnew_; clear hg_ hnew_; (first | rw [← Ny164.out] at ho12 | (simp only [Int.reduceToNat] at ho12; rw [← Ny164.out] at ho12)); have n0_ := Aside0.mk (Kd.qf1 ho12 (qh0 (by repeat (first | (with_reducible first | exact HB.out | apply qc0 | apply qa0 | apply qb0) | exact HB.out)))); have n1_ := Aside0.mk (qk0 (by repeat (first | (with_reducible first | exact HB.out | apply qc0 | apply qa0 | apply qb0) | exact HB.out)) hb); clear HB; have HO166 := n0_; have HB := n1_; clear n0_ n1_; clear hb ho12))
   go_loopg [8, 36] kj3 (fun kq v8 v36 w' => ∃ (x8_2 : List Int) (x36_2 : Int), v36 = .int .i64 x36_2 ∧ Aside0 (impl_Landed.l0 kq l0 a1 a2 x8_2 l0 (l0.length : Int) x36_2 = some (r1, r2)) ∧ Aside0 (kq ≤ kj3) ∧ Aside0 (Kd.R (Kd.int .i64) 3 w' w.heap.size (fun _ => True) v8 x8_2) ∧ Aside0 (Below w.heap.size w w'))
   case atStart => exact ⟨(y164), (0), (by first | rfl | (simp; done) | (simp [*]; done)), H', ⟨Nat.le_refl _⟩, ⟨by (with_reducible repeat (first | apply Kd.qe0 | apply Kd.qd0 | apply Kd.qf0)); exact HO166.out⟩, ⟨by repeat (first | (with_reducible first | exact HB.out | apply qc0 | apply qa0 | apply qb0) | exact HB.out)⟩⟩
   case round =>
    clear H'
    try clear c1
    try clear p2
    try clear c4
    try clear c5
    try clear c5b0
    try clear c5b1
    try clear c6
    try clear c6b0
    try clear c6b1
    try clear c8
    try clear c10
    try clear p2
    obtain ⟨x8_2, x36_2, rfl, HA, HK2, HO_8, HB⟩ := hrel
    cases gk with
    | zero => exact absurd HA.out (by simp [impl_Landed.l0])
    | succ k2 =>
     have H := HA.out
     clear HA
     simp only [impl_Landed.l0] at H
     by_cases c13 : x36_2 < (l0.length : Int)
     ·rw [if_pos c13] at H
      have c13b0 : decide (x36_2 < (l0.length : Int)) = true := decide_eq_true c13
      clear c13
      by_cases c14 : 0 ≤ x36_2
      case neg => rw [if_neg c14] at H; exact absurd H (by simp)
      rw [if_pos c14] at H
      have c14b0 : decide (0 ≤ x36_2) = true := decide_eq_true c14
      clear c14
      by_cases c15 : x36_2 < (l0.length : Int)
      case neg => rw [if_neg c15] at H; exact absurd H (by simp)
      rw [if_pos c15] at H
      have c15b0 : decide (x36_2 < (l0.length : Int)) = true := decide_eq_true c15
      clear c15
      replace H := Option.bind_eq_some_iff.mp H
      obtain ⟨t169, A160, H⟩ := H
      replace H : (if t169 = true then (if a2 = 0 then (if x8_2.length < 17592186044416 then (impl_Landed.l0 k2 l0 a1 a2 (x8_2 ++ [0]) l0 (l0.length : Int) (wrap64 (x36_2 + 1))) else (none)) else (if a2 = 1 then (if x8_2.length < 17592186044416 then (impl_Landed.l0 k2 l0 a1 a2 (x8_2 ++ [(rd_T61 l0 x36_2).f1]) l0 (l0.length : Int) (wrap64 (x36_2 + 1))) else (none)) else (if a2 = 2 then (if x8_2.length < 17592186044416 then (impl_Landed.l0 k2 l0 a1 a2 (x8_2 ++ [(rd_T61 l0 x36_2).f0]) l0 (l0.length : Int) (wrap64 (x36_2 + 1))) else (none)) else (if a2 = 3 then (if x8_2.length < 17592186044416 then (impl_Landed.l0 k2 l0 a1 a2 (x8_2 ++ [1]) l0 (l0.length : Int) (wrap64 (x36_2 + 1))) else (none)) else (none))))) else (some (([] : List (S61)), false))) = some (r1, r2) := H
      have A16 := Aside0.mk A160
      clear A160
      by_cases c17 : t169 = true
      ·subst c17
       have H1 : (if a2 = 0 then (if x8_2.length < 17592186044416 then (impl_Landed.l0 k2 l0 a1 a2 (x8_2 ++ [0]) l0 (l0.length : Int) (wrap64 (x36_2 + 1))) else (none)) else (if a2 = 1 then (if x8_2.length < 17592186044416 then (impl_Landed.l0 k2 l0 a1 a2 (x8_2 ++ [(rd_T61 l0 x36_2).f1]) l0 (l0.length : Int) (wrap64 (x36_2 + 1))) else (none)) else (if a2 = 2 then (if x8_2.length < 17592186044416 then (impl_Landed.l0 k2 l0 a1 a2 (x8_2 ++ [(rd_T61 l0 x36_2).f0]) l0 (l0.length : Int) (wrap64 (x36_2 + 1))) else (none)) else (if a2 = 3 then (if x8_2.length < 17592186044416 then (impl_Landed.l0 k2 l0 a1 a2 (x8_2 ++ [1]) l0 (l0.length : Int) (wrap64 (x36_2 + 1))) else (none)) else (none))))) = some (r1, r2) := by rw [if_pos rfl] at H; exact H
       clear H
       have H := H1
       clear H1
       by_cases c18 : a2 = 0
       ·rw [if_pos c18] at H
        have c18b0 : (a2 == 0) = true := beq_iff_eq.mpr c18
        have c18b1 : (a2 != 0) = false := bne_eq_false_iff_eq.mpr c18
        clear c18
        have hix19 : ∀ W : World, (Instr.index 151 (.agg #[.int .i64 0, .int .i64 ((rd_T61 l0 x36_2).f1), .int .i64 ((rd_T61 l0 x36_2).f0), .int .i64 1]) (.int .i64 a2)).run Try.prog W = .ok (.int .i64 0) W := fun W => by rw [show (a2 : Int) = 0 from beq_iff_eq.mp (by assumption)]; first | rfl | kernel_rfl
        by_cases c20 : x8_2.length < 17592186044416
        case neg => rw [if_neg c20] at H; exact absurd H (by simp)
        rw [if_pos c20] at H
        have LMc20 := Aside0.mk c20
        clear c20
        obtain ⟨y170, hy170⟩ : ∃ y_ : List Int, y_ = (x8_2 ++ [0]) := ⟨_, rfl⟩
        replace H : (impl_Landed.l0 k2 l0 a1 a2 y170 l0 (l0.length : Int) (wrap64 (x36_2 + 1))) = some (r1, r2) := by first | (rw [hy170]; with_reducible exact H) | (have H2_ := (Option.bind_some _ _).symm.trans H; rw [hy170]; with_reducible exact H2_) | (have H2_ := (Option.bind_some _ _).symm.trans H; with_reducible exact H2_) | with_reducible exact H | (rw [hy170]; exact H) | exact H
        have Ny170 := Aside0.mk hy170
        clear hy170
        have H' := Aside0.mk H
        clear H
        have p167 : 0 ≤ (x36_2 : Int) := of_decide_eq_true (by first | (with_reducible assumption) | assumption)
        have q167 : x36_2 < (l0.length : Int) := of_decide_eq_true (by first | (with_reducible assumption) | assumption)
        obtain ⟨ad167, e167, hx167_0, hx167_1⟩ := at_T61 HR0.out x36_2 p167 q167
        cases e167
        replace hx167_0 := (HB.out.cell (World.block_lt_of_cell? w _ hx167_0)).trans hx167_0
        replace hx167_1 := (HB.out.cell (World.block_lt_of_cell? w _ hx167_1)).trans hx167_1
        replace p167 := eq_true p167
        replace q167 := eq_true q167
        go_wp2_with (first | ((with_reducible refine qv0 (N := 10) rfl ?_); (try (refine qt0 (by rfl) ?_; dsimp only)); refine qe1 ?hg (N := 10) ?hd (cs := #[.int .i64 0, .int .i64 0]) (t := 61) ?hr ?_; (case hd => rfl); (case hg => rfl); (case hr => first | (go_simp; done) | (go_simp; rfl)); intro gb168 hg w21 hbox hb; have n0_ := Aside0.mk (Kd.qq0 (by (with_reducible repeat (first | apply Kd.qe0 | apply Kd.qd0 | apply Kd.qf0)); exact HO_8.out) hb); have n1_ := Aside0.mk (qk0 (by repeat (first | (with_reducible first | exact HB.out | apply qc0 | apply qa0 | apply qb0) | exact HB.out)) hb); have n2_ := Aside0.mk (hbox); have n3_ := Aside0.mk ((by rw [hg]; exact (qh0 (by repeat (first | (with_reducible first | exact HB.out | apply qc0 | apply qa0 | apply qb0) | exact HB.out))) : w.heap.size ≤ gb168)); have n4_ := Aside0.mk ((by rw [hg]; exact (qh0 (by repeat (first | (with_reducible first | exact HB.out | apply qc0 | apply qa0 | apply qb0) | exact HB.out))) : w.heap.size ≤ gb168)); clear HO_8; clear HB; have HO_8 := n0_; have HB := n1_; have BK168 := n2_; have GW168 := n3_; have GE168 := n4_; clear n0_ n1_ n2_ n3_ n4_; clear hb hbox hg; have hcz22_0 : w21.cell? ⟨gb168, 0, none⟩ = some (.int .i64 0) := (qr0 BK168.out 0).trans rfl; have hcz22_1 : w21.cell? ⟨gb168, 1, none⟩ = some (.int .i64 0) := (qr0 BK168.out 1).trans rfl; have hfz22_0 := ql0 BK168.out 0; have hfz22_1 := ql0 BK168.out 1) | ((with_reducible refine qi0 (f := 118) rfl ?_); refine qu0 (some 41) rfl rfl Try.func118 (by kernel_rfl) rfl #[.agg #[.int .i64 ((rd_T61 l0 x36_2).f0), .int .i64 ((rd_T61 l0 x36_2).f1)]] rfl (by (try simp only [List.map_toArray, List.map_cons, List.map_nil]); first | done | rfl | (simp only [List.length_drop, List.length_take]; rfl)) ?_; (with_reducible refine (impl_layOk.calls ((rd_T61 l0 x36_2).f0) ((rd_T61 l0 x36_2).f1) true _ A16.out).mono ?_); rintro e w23 ⟨rfl, hb⟩; refine ⟨_, rfl, ?_⟩; have n0_ := Aside0.mk (Kd.qq0 (by (with_reducible repeat (first | apply Kd.qe0 | apply Kd.qd0 | apply Kd.qf0)); exact (Kd.qn0 (Kd.R_far (p := ⟨gb168, 1, none⟩) (Kd.R_far (p := ⟨gb168, 0, none⟩) (Kd.R_types HO_8.out BK168.out (by decide)) (fun _ hk => hk.2) (.int .i64 ((rd_T61 l0 x36_2).f0))) (fun _ hk => hk.2) (.int .i64 ((rd_T61 l0 x36_2).f1))) (fun _ h_ => h_.1))) hb); have n1_ := Aside0.mk (blk_below (g := gb168) (o := .cells #[.int .i64 ((rd_T61 l0 x36_2).f0), .int .i64 ((rd_T61 l0 x36_2).f1)] 61 (0, 0)) (by (with_reducible repeat (first | refine qo0 ?_ _ | refine qs0 ?_ | refine qp0 ?_ _)); refine blk_put (cs := #[.int .i64 ((rd_T61 l0 x36_2).f0), .int .i64 0]) ?_ 1 _ rfl; (with_reducible repeat (first | refine qo0 ?_ _ | refine qs0 ?_ | refine qp0 ?_ _)); refine blk_put (cs := #[.int .i64 0, .int .i64 0]) ?_ 0 _ rfl; (with_reducible repeat (first | refine qo0 ?_ _ | refine qs0 ?_ | refine qp0 ?_ _)); exact BK168.out) hb); have n2_ := Aside0.mk (qk0 (by repeat (first | (with_reducible first | exact HB.out | apply qc0 | apply qa0 | apply qb0 | refine qj0 ?_ GE168.out) | exact HB.out)) hb); clear HO_8; clear BK168; clear HB; have HO_8 := n0_; have BK168 := n1_; have HB := n2_; clear n0_ n1_ n2_; (try clear hb); (try clear hb2); (try clear hk); (try clear hi); have hcz24_0 : w23.cell? ⟨gb168, 0, none⟩ = some (.int .i64 ((rd_T61 l0 x36_2).f0)) := (qr0 BK168.out 0).trans rfl; have hcz24_1 : w23.cell? ⟨gb168, 1, none⟩ = some (.int .i64 ((rd_T61 l0 x36_2).f1)) := (qr0 BK168.out 1).trans rfl; have hfz24_0 := ql0 BK168.out 0; have hfz24_1 := ql0 BK168.out 1) | ((with_reducible refine gate_builtin (b := .append) (xs := #[.tmp 43, .tmp 51]) rfl ?_); (try (refine qt0 (by rfl) ?_; dsimp only)); at_builtin; refine Kd.R_append (Kd.int .i64) (w0 := w) w.heap.size rfl (.tmp 43) (.tmp 51) 33 3 (.int .i64 0) 8 rfl Try.underlying33 info3 rfl (by decide) (by omega) u8 x8_2 0 [.int .i64 0] (fun _ => True) (fun _ => False) rfl rfl ?aP (fun _ hk => hk.elim) ?aF ?aO ?aB ?aS ?aL ?_; (case aP => exact rfl); (case aB => exact (by repeat (first | (with_reducible first | exact HB.out | apply qc0 | apply qa0 | apply qb0 | refine qj0 ?_ GE168.out) | exact HB.out))); (case aF => exact (fun _ _ => trivial)); (case aO => exact (by (with_reducible repeat (first | apply Kd.qe0 | apply Kd.qd0 | apply Kd.qf0)); exact HO_8.out)); (case aS => exact (qh0 (by repeat (first | (with_reducible first | exact HB.out | apply qc0 | apply qa0 | apply qb0 | refine qj0 ?_ GE168.out) | exact HB.out)))); (case aL => have := LMc20.out; omega); intro v171 w25 ho hb hg hat; rw [← Ny170.out] at ho; have n0_ := Aside0.mk (blk_grown (g := gb168) (o := .cells #[.int .i64 ((rd_T61 l0 x36_2).f0), .int .i64 ((rd_T61 l0 x36_2).f1)] 61 (0, 0)) (by (with_reducible repeat (first | refine qo0 ?_ _ | refine qs0 ?_ | refine qp0 ?_ _)); exact BK168.out) hg (Kd.R_ne HO_8.out BK168.out (by decide))); have n1_ := Aside0.mk (hb); have n2_ := Aside0.mk (ho); clear BK168; clear HB; clear HO_8; have BK168 := n0_; have HB := n1_; have HO172 := n2_; clear n0_ n1_ n2_; clear ho hb hg hat))
        go_roundg k2
        case measure => have := HJ3.out; have := HK2.out; omega
        case rel => exact ⟨(y170), (wrap64 (x36_2 + 1)), (by first | rfl | (simp; done) | (simp [*]; done)), H', ⟨by have := HJ3.out; have := HK2.out; omega⟩, ⟨by (with_reducible repeat (first | apply Kd.qe0 | apply Kd.qd0 | apply Kd.qf0)); exact HO172.out⟩, ⟨by repeat (first | (with_reducible first | exact HB.out | apply qc0 | apply qa0 | apply qb0 | refine qj0 ?_ GE168.out) | exact HB.out)⟩⟩
       rw [if_neg c18] at H
       have c18b0 : (a2 == 0) = false := beq_eq_false_iff_ne.mpr c18
       have c18b1 : (a2 != 0) = true := bne_iff_ne.mpr c18
       by_cases c26 : a2 = 1
       ·rw [if_pos c26] at H
        have c26b0 : (a2 == 1) = true := beq_iff_eq.mpr c26
        have c26b1 : (a2 != 1) = false := bne_eq_false_iff_eq.mpr c26
        clear c26
        have hix27 : ∀ W : World, (Instr.index 151 (.agg #[.int .i64 0, .int .i64 ((rd_T61 l0 x36_2).f1), .int .i64 ((rd_T61 l0 x36_2).f0), .int .i64 1]) (.int .i64 a2)).run Try.prog W = .ok (.int .i64 ((rd_T61 l0 x36_2).f1)) W := fun W => by rw [show (a2 : Int) = 1 from beq_iff_eq.mp (by assumption)]; first | rfl | kernel_rfl
        by_cases c28 : x8_2.length < 17592186044416
        case neg => rw [if_neg c28] at H; exact absurd H (by simp)
        rw [if_pos c28] at H
        have LMc28 := Aside0.mk c28
        clear c28
        obtain ⟨y173, hy173⟩ : ∃ y_ : List Int, y_ = (x8_2 ++ [(rd_T61 l0 x36_2).f1]) := ⟨_, rfl⟩
        replace H : (impl_Landed.l0 k2 l0 a1 a2 y173 l0 (l0.length : Int) (wrap64 (x36_2 + 1))) = some (r1, r2) := by first | (rw [hy173]; with_reducible exact H) | (have H2_ := (Option.bind_some _ _).symm.trans H; rw [hy173]; with_reducible exact H2_) | (have H2_ := (Option.bind_some _ _).symm.trans H; with_reducible exact H2_) | with_reducible exact H | (rw [hy173]; exact H) | exact H
        have Ny173 := Aside0.mk hy173
        clear hy173
        have H' := Aside0.mk H
        clear H
        have p167 : 0 ≤ (x36_2 : Int) := of_decide_eq_true (by first | (with_reducible assumption) | assumption)
        have q167 : x36_2 < (l0.length : Int) := of_decide_eq_true (by first | (with_reducible assumption) | assumption)
        obtain ⟨ad167, e167, hx167_0, hx167_1⟩ := at_T61 HR0.out x36_2 p167 q167
        cases e167
        replace hx167_0 := (HB.out.cell (World.block_lt_of_cell? w _ hx167_0)).trans hx167_0
        replace hx167_1 := (HB.out.cell (World.block_lt_of_cell? w _ hx167_1)).trans hx167_1
        replace p167 := eq_true p167
        replace q167 := eq_true q167
        go_wp2_with (first | ((with_reducible refine qv0 (N := 10) rfl ?_); (try (refine qt0 (by rfl) ?_; dsimp only)); refine qe1 ?hg (N := 10) ?hd (cs := #[.int .i64 0, .int .i64 0]) (t := 61) ?hr ?_; (case hd => rfl); (case hg => rfl); (case hr => first | (go_simp; done) | (go_simp; rfl)); intro gb168 hg w29 hbox hb; have n0_ := Aside0.mk (Kd.qq0 (by (with_reducible repeat (first | apply Kd.qe0 | apply Kd.qd0 | apply Kd.qf0)); exact HO_8.out) hb); have n1_ := Aside0.mk (qk0 (by repeat (first | (with_reducible first | exact HB.out | apply qc0 | apply qa0 | apply qb0) | exact HB.out)) hb); have n2_ := Aside0.mk (hbox); have n3_ := Aside0.mk ((by rw [hg]; exact (qh0 (by repeat (first | (with_reducible first | exact HB.out | apply qc0 | apply qa0 | apply qb0) | exact HB.out))) : w.heap.size ≤ gb168)); have n4_ := Aside0.mk ((by rw [hg]; exact (qh0 (by repeat (first | (with_reducible first | exact HB.out | apply qc0 | apply qa0 | apply qb0) | exact HB.out))) : w.heap.size ≤ gb168)); clear HO_8; clear HB; have HO_8 := n0_; have HB := n1_; have BK168 := n2_; have GW168 := n3_; have GE168 := n4_; clear n0_ n1_ n2_ n3_ n4_; clear hb hbox hg; have hcz30_0 : w29.cell? ⟨gb168, 0, none⟩ = some (.int .i64 0) := (qr0 BK168.out 0).trans rfl; have hcz30_1 : w29.cell? ⟨gb168, 1, none⟩ = some (.int .i64 0) := (qr0 BK168.out 1).trans rfl; have hfz30_0 := ql0 BK168.out 0; have hfz30_1 := ql0 BK168.out 1) | ((with_reducible refine qi0 (f := 118) rfl ?_); refine qu0 (some 41) rfl rfl Try.func118 (by kernel_rfl) rfl #[.agg #[.int .i64 ((rd_T61 l0 x36_2).f0), .int .i64 ((rd_T61 l0 x36_2).f1)]] rfl (by (try simp only [List.map_toArray, List.map_cons, List.map_nil]); first | done | rfl | (simp only [List.length_drop, List.length_take]; rfl)) ?_; (with_reducible refine (impl_layOk.calls ((rd_T61 l0 x36_2).f0) ((rd_T61 l0 x36_2).f1) true _ A16.out).mono ?_); rintro e w31 ⟨rfl, hb⟩; refine ⟨_, rfl, ?_⟩; have n0_ := Aside0.mk (Kd.qq0 (by (with_reducible repeat (first | apply Kd.qe0 | apply Kd.qd0 | apply Kd.qf0)); exact (Kd.qn0 (Kd.R_far (p := ⟨gb168, 1, none⟩) (Kd.R_far (p := ⟨gb168, 0, none⟩) (Kd.R_types HO_8.out BK168.out (by decide)) (fun _ hk => hk.2) (.int .i64 ((rd_T61 l0 x36_2).f0))) (fun _ hk => hk.2) (.int .i64 ((rd_T61 l0 x36_2).f1))) (fun _ h_ => h_.1))) hb); have n1_ := Aside0.mk (blk_below (g := gb168) (o := .cells #[.int .i64 ((rd_T61 l0 x36_2).f0), .int .i64 ((rd_T61 l0 x36_2).f1)] 61 (0, 0)) (by (with_reducible repeat (first | refine qo0 ?_ _ | refine qs0 ?_ | refine qp0 ?_ _)); refine blk_put (cs := #[.int .i64 ((rd_T61 l0 x36_2).f0), .int .i64 0]) ?_ 1 _ rfl; (with_reducible repeat (first | refine qo0 ?_ _ | refine qs0 ?_ | refine qp0 ?_ _)); refine blk_put (cs := #[.int .i64 0, .int .i64 0]) ?_ 0 _ rfl; (with_reducible repeat (first | refine qo0 ?_ _ | refine qs0 ?_ | refine qp0 ?_ _)); exact BK168.out) hb); have n2_ := Aside0.mk (qk0 (by repeat (first | (with_reducible first | exact HB.out | apply qc0 | apply qa0 | apply qb0 | refine qj0 ?_ GE168.out) | exact HB.out)) hb); clear HO_8; clear BK168; clear HB; have HO_8 := n0_; have BK168 := n1_; have HB := n2_; clear n0_ n1_ n2_; (try clear hb); (try clear hb2); (try clear hk); (try clear hi); have hcz32_0 : w31.cell? ⟨gb168, 0, none⟩ = some (.int .i64 ((rd_T61 l0 x36_2).f0)) := (qr0 BK168.out 0).trans rfl; have hcz32_1 : w31.cell? ⟨gb168, 1, none⟩ = some (.int .i64 ((rd_T61 l0 x36_2).f1)) := (qr0 BK168.out 1).trans rfl; have hfz32_0 := ql0 BK168.out 0; have hfz32_1 := ql0 BK168.out 1) | ((with_reducible refine gate_builtin (b := .append) (xs := #[.tmp 43, .tmp 51]) rfl ?_); (try (refine qt0 (by rfl) ?_; dsimp only)); at_builtin; refine Kd.R_append (Kd.int .i64) (w0 := w) w.heap.size rfl (.tmp 43) (.tmp 51) 33 3 (.int .i64 0) 8 rfl Try.underlying33 info3 rfl (by decide) (by omega) u8 x8_2 ((rd_T61 l0 x36_2).f1) [.int .i64 ((rd_T61 l0 x36_2).f1)] (fun _ => True) (fun _ => False) rfl rfl ?aP (fun _ hk => hk.elim) ?aF ?aO ?aB ?aS ?aL ?_; (case aP => exact rfl); (case aB => exact (by repeat (first | (with_reducible first | exact HB.out | apply qc0 | apply qa0 | apply qb0 | refine qj0 ?_ GE168.out) | exact HB.out))); (case aF => exact (fun _ _ => trivial)); (case aO => exact (by (with_reducible repeat (first | apply Kd.qe0 | apply Kd.qd0 | apply Kd.qf0)); exact HO_8.out)); (case aS => exact (qh0 (by repeat (first | (with_reducible first | exact HB.out | apply qc0 | apply qa0 | apply qb0 | refine qj0 ?_ GE168.out) | exact HB.out)))); (case aL => have := LMc28.out; omega); intro v174 w33 ho hb hg hat; rw [← Ny173.out] at ho; have n0_ := Aside0.mk (blk_grown (g := gb168) (o := .cells #[.int .i64 ((rd_T61 l0 x36_2).f0), .int .i64 ((rd_T61 l0 x36_2).f1)] 61 (0, 0)) (by (with_reducible repeat (first | refine qo0 ?_ _ | refine qs0 ?_ | refine qp0 ?_ _)); exact BK168.out) hg (Kd.R_ne HO_8.out BK168.out (by decide))); have n1_ := Aside0.mk (hb); have n2_ := Aside0.mk (ho); clear BK168; clear HB; clear HO_8; have BK168 := n0_; have HB := n1_; have HO175 := n2_; clear n0_ n1_ n2_; clear ho hb hg hat))
        go_roundg k2
        case measure => have := HJ3.out; have := HK2.out; omega
        case rel => exact ⟨(y173), (wrap64 (x36_2 + 1)), (by first | rfl | (simp; done) | (simp [*]; done)), H', ⟨by have := HJ3.out; have := HK2.out; omega⟩, ⟨by (with_reducible repeat (first | apply Kd.qe0 | apply Kd.qd0 | apply Kd.qf0)); exact HO175.out⟩, ⟨by repeat (first | (with_reducible first | exact HB.out | apply qc0 | apply qa0 | apply qb0 | refine qj0 ?_ GE168.out) | exact HB.out)⟩⟩
       rw [if_neg c26] at H
       have c26b0 : (a2 == 1) = false := beq_eq_false_iff_ne.mpr c26
       have c26b1 : (a2 != 1) = true := bne_iff_ne.mpr c26
       by_cases c34 : a2 = 2
       ·rw [if_pos c34] at H
        have c34b0 : (a2 == 2) = true := beq_iff_eq.mpr c34
        have c34b1 : (a2 != 2) = false := bne_eq_false_iff_eq.mpr c34
        clear c34
        have hix35 : ∀ W : World, (Instr.index 151 (.agg #[.int .i64 0, .int .i64 ((rd_T61 l0 x36_2).f1), .int .i64 ((rd_T61 l0 x36_2).f0), .int .i64 1]) (.int .i64 a2)).run Try.prog W = .ok (.int .i64 ((rd_T61 l0 x36_2).f0)) W := fun W => by rw [show (a2 : Int) = 2 from beq_iff_eq.mp (by assumption)]; first | rfl | kernel_rfl
        by_cases c36 : x8_2.length < 17592186044416
        case neg => rw [if_neg c36] at H; exact absurd H (by simp)
        rw [if_pos c36] at H
        have LMc36 := Aside0.mk c36
        clear c36
        obtain ⟨y176, hy176⟩ : ∃ y_ : List Int, y_ = (x8_2 ++ [(rd_T61 l0 x36_2).f0]) := ⟨_, rfl⟩
        replace H : (impl_Landed.l0 k2 l0 a1 a2 y176 l0 (l0.length : Int) (wrap64 (x36_2 + 1))) = some (r1, r2) := by first | (rw [hy176]; with_reducible exact H) | (have H2_ := (Option.bind_some _ _).symm.trans H; rw [hy176]; with_reducible exact H2_) | (have H2_ := (Option.bind_some _ _).symm.trans H; with_reducible exact H2_) | with_reducible exact H | (rw [hy176]; exact H) | exact H
        have Ny176 := Aside0.mk hy176
        clear hy176
        have H' := Aside0.mk H
        clear H
        have p167 : 0 ≤ (x36_2 : Int) := of_decide_eq_true (by first | (with_reducible assumption) | assumption)
        have q167 : x36_2 < (l0.length : Int) := of_decide_eq_true (by first | (with_reducible assumption) | assumption)
        obtain ⟨ad167, e167, hx167_0, hx167_1⟩ := at_T61 HR0.out x36_2 p167 q167
        cases e167
        replace hx167_0 := (HB.out.cell (World.block_lt_of_cell? w _ hx167_0)).trans hx167_0
        replace hx167_1 := (HB.out.cell (World.block_lt_of_cell? w _ hx167_1)).trans hx167_1
        replace p167 := eq_true p167
        replace q167 := eq_true q167
        go_wp2_with (first | ((with_reducible refine qv0 (N := 10) rfl ?_); (try (refine qt0 (by rfl) ?_; dsimp only)); refine qe1 ?hg (N := 10) ?hd (cs := #[.int .i64 0, .int .i64 0]) (t := 61) ?hr ?_; (case hd => rfl); (case hg => rfl); (case hr => first | (go_simp; done) | (go_simp; rfl)); intro gb168 hg w37 hbox hb; have n0_ := Aside0.mk (Kd.qq0 (by (with_reducible repeat (first | apply Kd.qe0 | apply Kd.qd0 | apply Kd.qf0)); exact HO_8.out) hb); have n1_ := Aside0.mk (qk0 (by repeat (first | (with_reducible first | exact HB.out | apply qc0 | apply qa0 | apply qb0) | exact HB.out)) hb); have n2_ := Aside0.mk (hbox); have n3_ := Aside0.mk ((by rw [hg]; exact (qh0 (by repeat (first | (with_reducible first | exact HB.out | apply qc0 | apply qa0 | apply qb0) | exact HB.out))) : w.heap.size ≤ gb168)); have n4_ := Aside0.mk ((by rw [hg]; exact (qh0 (by repeat (first | (with_reducible first | exact HB.out | apply qc0 | apply qa0 | apply qb0) | exact HB.out))) : w.heap.size ≤ gb168)); clear HO_8; clear HB; have HO_8 := n0_; have HB := n1_; have BK168 := n2_; have GW168 := n3_; have GE168 := n4_; clear n0_ n1_ n2_ n3_ n4_; clear hb hbox hg; have hcz38_0 : w37.cell? ⟨gb168, 0, none⟩ = some (.int .i64 0) := (qr0 BK168.out 0).trans rfl; have hcz38_1 : w37.cell? ⟨gb168, 1, none⟩ = some (.int .i64 0) := (qr0 BK168.out 1).trans rfl; have hfz38_0 := ql0 BK168.out 0; have hfz38_1 := ql0 BK168.out 1) | ((with_reducible refine qi0 (f := 118) rfl ?_); refine qu0 (some 41) rfl rfl Try.func118 (by kernel_rfl) rfl #[.agg #[.int .i64 ((rd_T61 l0 x36_2).f0), .int .i64 ((rd_T61 l0 x36_2).f1)]] rfl (by (try simp only [List.map_toArray, List.map_cons, List.map_nil]); first | done | rfl | (simp only [List.length_drop, List.length_take]; rfl)) ?_; (with_reducible refine (impl_layOk.calls ((rd_T61 l0 x36_2).f0) ((rd_T61 l0 x36_2).f1) true _ A16.out).mono ?_); rintro e w39 ⟨rfl, hb⟩; refine ⟨_, rfl, ?_⟩; have n0_ := Aside0.mk (Kd.qq0 (by (with_reducible repeat (first | apply Kd.qe0 | apply Kd.qd0 | apply Kd.qf0)); exact (Kd.qn0 (Kd.R_far (p := ⟨gb168, 1, none⟩) (Kd.R_far (p := ⟨gb168, 0, none⟩) (Kd.R_types HO_8.out BK168.out (by decide)) (fun _ hk => hk.2) (.int .i64 ((rd_T61 l0 x36_2).f0))) (fun _ hk => hk.2) (.int .i64 ((rd_T61 l0 x36_2).f1))) (fun _ h_ => h_.1))) hb); have n1_ := Aside0.mk (blk_below (g := gb168) (o := .cells #[.int .i64 ((rd_T61 l0 x36_2).f0), .int .i64 ((rd_T61 l0 x36_2).f1)] 61 (0, 0)) (by (with_reducible repeat (first | refine qo0 ?_ _ | refine qs0 ?_ | refine qp0 ?_ _)); refine blk_put (cs := #[.int .i64 ((rd_T61 l0 x36_2).f0), .int .i64 0]) ?_ 1 _ rfl; (with_reducible repeat (first | refine qo0 ?_ _ | refine qs0 ?_ | refine qp0 ?_ _)); refine blk_put (cs := #[.int .i64 0, .int .i64 0]) ?_ 0 _ rfl; (with_reducible repeat (first | refine qo0 ?_ _ | refine qs0 ?_ | refine qp0 ?_ _)); exact BK168.out) hb); have n2_ := Aside0.mk (qk0 (by repeat (first | (with_reducible first | exact HB.out | apply qc0 | apply qa0 | apply qb0 | refine qj0 ?_ GE168.out) | exact HB.out)) hb); clear HO_8; clear BK168; clear HB; have HO_8 := n0_; have BK168 := n1_; have HB := n2_; clear n0_ n1_ n2_; (try clear hb); (try clear hb2); (try clear hk); (try clear hi); have hcz40_0 : w39.cell? ⟨gb168, 0, none⟩ = some (.int .i64 ((rd_T61 l0 x36_2).f0)) := (qr0 BK168.out 0).trans rfl; have hcz40_1 : w39.cell? ⟨gb168, 1, none⟩ = some (.int .i64 ((rd_T61 l0 x36_2).f1)) := (qr0 BK168.out 1).trans rfl; have hfz40_0 := ql0 BK168.out 0; have hfz40_1 := ql0 BK168.out 1) | ((with_reducible refine gate_builtin (b := .append) (xs := #[.tmp 43, .tmp 51]) rfl ?_); (try (refine qt0 (by rfl) ?_; dsimp only)); at_builtin; refine Kd.R_append (Kd.int .i64) (w0 := w) w.heap.size rfl (.tmp 43) (.tmp 51) 33 3 (.int .i64 0) 8 rfl Try.underlying33 info3 rfl (by decide) (by omega) u8 x8_2 ((rd_T61 l0 x36_2).f0) [.int .i64 ((rd_T61 l0 x36_2).f0)] (fun _ => True) (fun _ => False) rfl rfl ?aP (fun _ hk => hk.elim) ?aF ?aO ?aB ?aS ?aL ?_; (case aP => exact rfl); (case aB => exact (by repeat (first | (with_reducible first | exact HB.out | apply qc0 | apply qa0 | apply qb0 | refine qj0 ?_ GE168.out) | exact HB.out))); (case aF => exact (fun _ _ => trivial)); (case aO => exact (by (with_reducible repeat (first | apply Kd.qe0 | apply Kd.qd0 | apply Kd.qf0)); exact HO_8.out)); (case aS => exact (qh0 (by repeat (first | (with_reducible first | exact HB.out | apply qc0 | apply qa0 | apply qb0 | refine qj0 ?_ GE168.out) | exact HB.out)))); (case aL => have := LMc36.out; omega); intro v177 w41 ho hb hg hat; rw [← Ny176.out] at ho; have n0_ := Aside0.mk (blk_grown (g := gb168) (o := .cells #[.int .i64 ((rd_T61 l0 x36_2).f0), .int .i64 ((rd_T61 l0 x36_2).f1)] 61 (0, 0)) (by (with_reducible repeat (first | refine qo0 ?_ _ | refine qs0 ?_ | refine qp0 ?_ _)); exact BK168.out) hg (Kd.R_ne HO_8.out BK168.out (by decide))); have n1_ := Aside0.mk (hb); have n2_ := Aside0.mk (ho); clear BK168; clear HB; clear HO_8; have BK168 := n0_; have HB := n1_; have HO178 := n2_; clear n0_ n1_ n2_; clear ho hb hg hat))
        go_roundg k2
        case measure => have := HJ3.out; have := HK2.out; omega
        case rel => exact ⟨(y176), (wrap64 (x36_2 + 1)), (by first | rfl | (simp; done) | (simp [*]; done)), H', ⟨by have := HJ3.out; have := HK2.out; omega⟩, ⟨by (with_reducible repeat (first | apply Kd.qe0 | apply Kd.qd0 | apply Kd.qf0)); exact HO178.out⟩, ⟨by repeat (first | (with_reducible first | exact HB.out | apply qc0 | apply qa0 | apply qb0 | refine qj0 ?_ GE168.out) | exact HB.out)⟩⟩
       rw [if_neg c34] at H
       have c34b0 : (a2 == 2) = false := beq_eq_false_iff_ne.mpr c34
       have c34b1 : (a2 != 2) = true := bne_iff_ne.mpr c34
       by_cases c42 : a2 = 3
       case neg => rw [if_neg c42] at H; exact absurd H (by simp)
       rw [if_pos c42] at H
       have c42b0 : (a2 == 3) = true := beq_iff_eq.mpr c42
       have c42b1 : (a2 != 3) = false := bne_eq_false_iff_eq.mpr c42
       clear c42
       have hix43 : ∀ W : World, (Instr.index 151 (.agg #[.int .i64 0, .int .i64 ((rd_T61 l0 x36_2).f1), .int .i64 ((rd_T61 l0 x36_2).f0), .int .i64 1]) (.int .i64 a2)).run Try.prog W = .ok (.int .i64 1) W := fun W => by rw [show (a2 : Int) = 3 from beq_iff_eq.mp (by assumption)]; first | rfl | kernel_rfl
       by_cases c44 : x8_2.length < 17592186044416
       case neg => rw [if_neg c44] at H; exact absurd H (by simp)
       rw [if_pos c44] at H
       have LMc44 := Aside0.mk c44
       clear c44
       obtain ⟨y179, hy179⟩ : ∃ y_ : List Int, y_ = (x8_2 ++ [1]) := ⟨_, rfl⟩
       replace H : (impl_Landed.l0 k2 l0 a1 a2 y179 l0 (l0.length : Int) (wrap64 (x36_2 + 1))) = some (r1, r2) := by first | (rw [hy179]; with_reducible exact H) | (have H2_ := (Option.bind_some _ _).symm.trans H; rw [hy179]; with_reducible exact H2_) | (have H2_ := (Option.bind_some _ _).symm.trans H; with_reducible exact H2_) | with_reducible exact H | (rw [hy179]; exact H) | exact H
       have Ny179 := Aside0.mk hy179
       clear hy179
       have H' := Aside0.mk H
       clear H
       have p167 : 0 ≤ (x36_2 : Int) := of_decide_eq_true (by first | (with_reducible assumption) | assumption)
       have q167 : x36_2 < (l0.length : Int) := of_decide_eq_true (by first | (with_reducible assumption) | assumption)
       obtain ⟨ad167, e167, hx167_0, hx167_1⟩ := at_T61 HR0.out x36_2 p167 q167
       cases e167
       replace hx167_0 := (HB.out.cell (World.block_lt_of_cell? w _ hx167_0)).trans hx167_0
       replace hx167_1 := (HB.out.cell (World.block_lt_of_cell? w _ hx167_1)).trans hx167_1
       replace p167 := eq_true p167
       replace q167 := eq_true q167
       go_wp2_with (first | ((with_reducible refine qv0 (N := 10) rfl ?_); (try (refine qt0 (by rfl) ?_; dsimp only)); refine qe1 ?hg (N := 10) ?hd (cs := #[.int .i64 0, .int .i64 0]) (t := 61) ?hr ?_; (case hd => rfl); (case hg => rfl); (case hr => first | (go_simp; done) | (go_simp; rfl)); intro gb168 hg w45 hbox hb; have n0_ := Aside0.mk (Kd.qq0 (by (with_reducible repeat (first | apply Kd.qe0 | apply Kd.qd0 | apply Kd.qf0)); exact HO_8.out) hb); have n1_ := Aside0.mk (qk0 (by repeat (first | (with_reducible first | exact HB.out | apply qc0 | apply qa0 | apply qb0) | exact HB.out)) hb); have n2_ := Aside0.mk (hbox); have n3_ := Aside0.mk ((by rw [hg]; exact (qh0 (by repeat (first | (with_reducible first | exact HB.out | apply qc0 | apply qa0 | apply qb0) | exact HB.out))) : w.heap.size ≤ gb168)); have n4_ := Aside0.mk ((by rw [hg]; exact (qh0 (by repeat (first | (with_reducible first | exact HB.out | apply qc0 | apply qa0 | apply qb0) | exact HB.out))) : w.heap.size ≤ gb168)); clear HO_8; clear HB; have HO_8 := n0_; have HB := n1_; have BK168 := n2_; have GW168 := n3_; have GE168 := n4_; clear n0_ n1_ n2_ n3_ n4_; clear hb hbox hg; have hcz46_0 : w45.cell? ⟨gb168, 0, none⟩ = some (.int .i64 0) := (qr0 BK168.out 0).trans rfl; have hcz46_1 : w45.cell? ⟨gb168, 1, none⟩ = some (.int .i64 0) := (qr0 BK168.out 1).trans rfl; have hfz46_0 := ql0 BK168.out 0; have hfz46_1 := ql0 BK168.out 1) | ((with_reducible refine qi0 (f := 118) rfl ?_); refine qu0 (some 41) rfl rfl Try.func118 (by kernel_rfl) rfl #[.agg #[.int .i64 ((rd_T61 l0 x36_2).f0), .int .i64 ((rd_T61 l0 x36_2).f1)]] rfl (by (try simp only [List.map_toArray, List.map_cons, List.map_nil]); first | done | rfl | (simp only [List.length_drop, List.length_take]; rfl)) ?_; (with_reducible refine (impl_layOk.calls ((rd_T61 l0 x36_2).f0) ((rd_T61 l0 x36_2).f1) true _ A16.out).mono ?_); rintro e w47 ⟨rfl, hb⟩; refine ⟨_, rfl, ?_⟩; have n0_ := Aside0.mk (Kd.qq0 (by (with_reducible repeat (first | apply Kd.qe0 | apply Kd.qd0 | apply Kd.qf0)); exact (Kd.qn0 (Kd.R_far (p := ⟨gb168, 1, none⟩) (Kd.R_far (p := ⟨gb168, 0, none⟩) (Kd.R_types HO_8.out BK168.out (by decide)) (fun _ hk => hk.2) (.int .i64 ((rd_T61 l0 x36_2).f0))) (fun _ hk => hk.2) (.int .i64 ((rd_T61 l0 x36_2).f1))) (fun _ h_ => h_.1))) hb); have n1_ := Aside0.mk (blk_below (g := gb168) (o := .cells #[.int .i64 ((rd_T61 l0 x36_2).f0), .int .i64 ((rd_T61 l0 x36_2).f1)] 61 (0, 0)) (by (with_reducible repeat (first | refine qo0 ?_ _ | refine qs0 ?_ | refine qp0 ?_ _)); refine blk_put (cs := #[.int .i64 ((rd_T61 l0 x36_2).f0), .int .i64 0]) ?_ 1 _ rfl; (with_reducible repeat (first | refine qo0 ?_ _ | refine qs0 ?_ | refine qp0 ?_ _)); refine blk_put (cs := #[.int .i64 0, .int .i64 0]) ?_ 0 _ rfl; (with_reducible repeat (first | refine qo0 ?_ _ | refine qs0 ?_ | refine qp0 ?_ _)); exact BK168.out) hb); have n2_ := Aside0.mk (qk0 (by repeat (first | (with_reducible first | exact HB.out | apply qc0 | apply qa0 | apply qb0 | refine qj0 ?_ GE168.out) | exact HB.out)) hb); clear HO_8; clear BK168; clear HB; have HO_8 := n0_; have BK168 := n1_; have HB := n2_; clear n0_ n1_ n2_; (try clear hb); (try clear hb2); (try clear hk); (try clear hi); have hcz48_0 : w47.cell? ⟨gb168, 0, none⟩ = some (.int .i64 ((rd_T61 l0 x36_2).f0)) := (qr0 BK168.out 0).trans rfl; have hcz48_1 : w47.cell? ⟨gb168, 1, none⟩ = some (.int .i64 ((rd_T61 l0 x36_2).f1)) := (qr0 BK168.out 1).trans rfl; have hfz48_0 := ql0 BK168.out 0; have hfz48_1 := ql0 BK168.out 1) | ((with_reducible refine gate_builtin (b := .append) (xs := #[.tmp 43, .tmp 51]) rfl ?_); (try (refine qt0 (by rfl) ?_; dsimp only)); at_builtin; refine Kd.R_append (Kd.int .i64) (w0 := w) w.heap.size rfl (.tmp 43) (.tmp 51) 33 3 (.int .i64 0) 8 rfl Try.underlying33 info3 rfl (by decide) (by omega) u8 x8_2 1 [.int .i64 1] (fun _ => True) (fun _ => False) rfl rfl ?aP (fun _ hk => hk.elim) ?aF ?aO ?aB ?aS ?aL ?_; (case aP => exact rfl); (case aB => exact (by repeat (first | (with_reducible first | exact HB.out | apply qc0 | apply qa0 | apply qb0 | refine qj0 ?_ GE168.out) | exact HB.out))); (case aF => exact (fun _ _ => trivial)); (case aO => exact (by (with_reducible repeat (first | apply Kd.qe0 | apply Kd.qd0 | apply Kd.qf0)); exact HO_8.out)); (case aS => exact (qh0 (by repeat (first | (with_reducible first | exact HB.out | apply qc0 | apply qa0 | apply qb0 | refine qj0 ?_ GE168.out) | exact HB.out)))); (case aL => have := LMc44.out; omega); intro v180 w49 ho hb hg hat; rw [← Ny179.out] at ho; have n0_ := Aside0.mk (blk_grown (g := gb168) (o := .cells #[.int .i64 ((rd_T61 l0 x36_2).f0), .int .i64 ((rd_T61 l0 x36_2).f1)] 61 (0, 0)) (by (with_reducible repeat (first | refine qo0 ?_ _ | refine qs0 ?_ | refine qp0 ?_ _)); exact BK168.out) hg (Kd.R_ne HO_8.out BK168.out (by decide))); have n1_ := Aside0.mk (hb); have n2_ := Aside0.mk (ho); clear BK168; clear HB; clear HO_8; have BK168 := n0_; have HB := n1_; have HO181 := n2_; clear n0_ n1_ n2_; clear ho hb hg hat))
       go_roundg k2
       case measure => have := HJ3.out; have := HK2.out; omega
       case rel => exact ⟨(y179), (wrap64 (x36_2 + 1)), (by first | rfl | (simp; done) | (simp [*]; done)), H', ⟨by have := HJ3.out; have := HK2.out; omega⟩, ⟨by (with_reducible repeat (first | apply Kd.qe0 | apply Kd.qd0 | apply Kd.qf0)); exact HO181.out⟩, ⟨by repeat (first | (with_reducible first | exact HB.out | apply qc0 | apply qa0 | apply qb0 | refine qj0 ?_ GE168.out) | exact HB.out)⟩⟩
      replace c17 := Bool.eq_false_iff.mpr c17
      subst c17
      have H1 : (some (([] : List (S61)), false)) = some (r1, r2) := by rw [if_neg (show ¬ (false = true) by decide)] at H; exact H
      clear H
      have H := H1
      clear H1
      simp only [Option.some.injEq, Prod.mk.injEq] at H
      obtain ⟨rfl, rfl⟩ := H
      have p167 : 0 ≤ (x36_2 : Int) := of_decide_eq_true (by first | (with_reducible assumption) | assumption)
      have q167 : x36_2 < (l0.length : Int) := of_decide_eq_true (by first | (with_reducible assumption) | assumption)
      obtain ⟨ad167, e167, hx167_0, hx167_1⟩ := at_T61 HR0.out x36_2 p167 q167
      cases e167
      replace hx167_0 := (HB.out.cell (World.block_lt_of_cell? w _ hx167_0)).trans hx167_0
      replace hx167_1 := (HB.out.cell (World.block_lt_of_cell? w _ hx167_1)).trans hx167_1
      replace p167 := eq_true p167
      replace q167 := eq_true q167
      go_wp2_with (first | ((with_reducible refine qv0 (N := 10) rfl ?_); (try (refine qt0 (by rfl) ?_; dsimp only)); refine qe1 ?hg (N := 10) ?hd (cs := #[.int .i64 0, .int .i64 0]) (t := 61) ?hr ?_; (case hd => rfl); (case hg => rfl); (case hr => first | (go_simp; done) | (go_simp; rfl)); intro gb168 hg w50 hbox hb; have n0_ := Aside0.mk (Kd.qq0 (by (with_reducible repeat (first | apply Kd.qe0 | apply Kd.qd0 | apply Kd.qf0)); exact HO_8.out) hb); have n1_ := Aside0.mk (qk0 (by repeat (first | (with_reducible first | exact HB.out | apply qc0 | apply qa0 | apply qb0) | exact HB.out)) hb); have n2_ := Aside0.mk (hbox); have n3_ := Aside0.mk ((by rw [hg]; exact (qh0 (by repeat (first | (with_reducible first | exact HB.out | apply qc0 | apply qa0 | apply qb0) | exact HB.out))) : w.heap.size ≤ gb168)); have n4_ := Aside0.mk ((by rw [hg]; exact (qh0 (by repeat (first | (with_reducible first | exact HB.out | apply qc0 | apply qa0 | apply qb0) | exact HB.out))) : w.heap.size ≤ gb168)); clear HO_8; clear HB; have HO_8 := n0_; have HB := n1_; have BK168 := n2_; have GW168 := n3_; have GE168 := n4_; clear n0_ n1_ n2_ n3_ n4_; clear hb hbox hg; have hcz51_0 : w50.cell? ⟨gb168, 0, none⟩ = some (.int .i64 0) := (qr0 BK168.out 0).trans rfl; have hcz51_1 : w50.cell? ⟨gb168, 1, none⟩ = some (.int .i64 0) := (qr0 BK168.out 1).trans rfl; have hfz51_0 := ql0 BK168.out 0; have hfz51_1 := ql0 BK168.out 1) | ((with_reducible refine qi0 (f := 118) rfl ?_); refine qu0 (some 41) rfl rfl Try.func118 (by kernel_rfl) rfl #[.agg #[.int .i64 ((rd_T61 l0 x36_2).f0), .int .i64 ((rd_T61 l0 x36_2).f1)]] rfl (by (try simp only [List.map_toArray, List.map_cons, List.map_nil]); first | done | rfl | (simp only [List.length_drop, List.length_take]; rfl)) ?_; (with_reducible refine (impl_layOk.calls ((rd_T61 l0 x36_2).f0) ((rd_T61 l0 x36_2).f1) false _ A16.out).mono ?_); rintro e w52 ⟨rfl, hb⟩; refine ⟨_, rfl, ?_⟩; have n0_ := Aside0.mk (Kd.qq0 (by (with_reducible repeat (first | apply Kd.qe0 | apply Kd.qd0 | apply Kd.qf0)); exact (Kd.qn0 (Kd.R_far (p := ⟨gb168, 1, none⟩) (Kd.R_far (p := ⟨gb168, 0, none⟩) (Kd.R_types HO_8.out BK168.out (by decide)) (fun _ hk => hk.2) (.int .i64 ((rd_T61 l0 x36_2).f0))) (fun _ hk => hk.2) (.int .i64 ((rd_T61 l0 x36_2).f1))) (fun _ h_ => h_.1))) hb); have n1_ := Aside0.mk (blk_below (g := gb168) (o := .cells #[.int .i64 ((rd_T61 l0 x36_2).f0), .int .i64 ((rd_T61 l0 x36_2).f1)] 61 (0, 0)) (by (with_reducible repeat (first | refine qo0 ?_ _ | refine qs0 ?_ | refine qp0 ?_ _)); refine blk_put (cs := #[.int .i64 ((rd_T61 l0 x36_2).f0), .int .i64 0]) ?_ 1 _ rfl; (with_reducible repeat (first | refine qo0 ?_ _ | refine qs0 ?_ | refine qp0 ?_ _)); refine blk_put (cs := #[.int .i64 0, .int .i64 0]) ?_ 0 _ rfl; (with_reducible repeat (first | refine qo0 ?_ _ | refine qs0 ?_ | refine qp0 ?_ _)); exact BK168.out) hb); have n2_ := Aside0.mk (qk0 (by repeat (first | (with_reducible first | exact HB.out | apply qc0 | apply qa0 | apply qb0 | refine qj0 ?_ GE168.out) | exact HB.out)) hb); clear HO_8; clear BK168; clear HB; have HO_8 := n0_; have BK168 := n1_; have HB := n2_; clear n0_ n1_ n2_; (try clear hb); (try clear hb2); (try clear hk); (try clear hi)))
      go_ret2
      exact ⟨_, by first | rfl | (simp [errW_none, errW_some] <;> rfl) | (simp [*, errW_none, errW_some] <;> rfl), by first | exact Kd.R_nil _ _ _ _ _ | exact Kd.N_nil _ _ _ _ _ | exact Kd.V_nil _ _ _ _ _ | exact Kd.Q_nil _ _ _ _ _ | exact Kd.S_nil _ _ _ _ _, by repeat (first | (with_reducible first | exact HB.out | apply qc0 | apply qa0 | apply qb0 | refine qj0 ?_ GE168.out) | exact HB.out)⟩
     rw [if_neg c13] at H
     have c13b0 : decide (x36_2 < (l0.length : Int)) = false := decide_eq_false c13
     clear c13
     replace H := Option.bind_eq_some_iff.mp H
     obtain ⟨t182, A530, H⟩ := H
     replace H : (if (t182.length : Int) = 0 then (some (([] : List (S61)), false)) else ((some (([] : List (S61)) : List (S61))).bind fun y185 => (if y185.length + l0.length < 8796093022208 then (impl_Landed.l1 k2 (y185 ++ l0) t182 (t182.length : Int) 0) else (none)))) = some (r1, r2) := H
     have A53 := Aside0.mk A530
     clear A530
     by_cases c54 : (t182.length : Int) = 0
     ·rw [if_pos c54] at H
      have c54b0 : ((t182.length : Int) == 0) = true := beq_iff_eq.mpr c54
      have c54b1 : ((t182.length : Int) != 0) = false := bne_eq_false_iff_eq.mpr c54
      clear c54
      simp only [Option.some.injEq, Prod.mk.injEq] at H
      obtain ⟨rfl, rfl⟩ := H
      obtain ⟨Ao55, co55, eo55⟩ := Kd.qy0 HO_8.out
      subst eo55
      go_wp2_with (first | ((with_reducible refine qi0 (f := 31) rfl ?_); refine qu0 (some 56) rfl rfl Try.func31 (by kernel_rfl) rfl #[.int .i64 a1, .slice Ao55 x8_2.length co55] rfl (by (try simp only [List.map_toArray, List.map_cons, List.map_nil]); first | done | rfl | (simp only [List.length_drop, List.length_take]; rfl)) ?_; (with_reducible refine (impl_Shares.calls k2 a1 _ _ x8_2 t182 _ ?side1 ?side2 A53.out).mono ?_); (case side1 => repeat (first | exact (Kd.qg0 HO_8.out).2.2 | (with_reducible refine Kd.qx0 ?_ _) | (with_reducible refine Kd.qw0 ?_ _) | (with_reducible refine Kd.qd1 ?_))); (case side2 => exact (Kd.qg0 HO_8.out).2.1); rintro e w56 ⟨v183, rfl, ho0, hb⟩; refine ⟨_, rfl, ?_⟩; have n0_ := Aside0.mk (Kd.R_elder' (by (with_reducible repeat (first | apply Kd.qe0 | apply Kd.qd0 | apply Kd.qf0)); exact HO_8.out) (Kd.ql1 ho0) hb); have n1_ := Aside0.mk (Kd.qf1 (Kd.qk1 ho0 (Kd.R_lt (by (with_reducible repeat (first | apply Kd.qe0 | apply Kd.qd0 | apply Kd.qf0)); exact HO_8.out))) (qh0 (by repeat (first | (with_reducible first | exact HB.out | apply qc0 | apply qa0 | apply qb0) | exact HB.out)))); have n2_ := Aside0.mk (qk0 (by repeat (first | (with_reducible first | exact HB.out | apply qc0 | apply qa0 | apply qb0) | exact HB.out)) hb); clear HO_8; clear HB; have HO_8 := n0_; have HO184 := n1_; have HB := n2_; clear n0_ n1_ n2_; (try clear hb); (try clear hb2); (try clear hk); (try clear hi); (try clear ho0); obtain ⟨Ao57, co57, eo57⟩ := Kd.qy0 HO184.out; subst eo57))
      go_ret2
      exact ⟨_, by first | rfl | (simp [errW_none, errW_some] <;> rfl) | (simp [*, errW_none, errW_some] <;> rfl), by first | exact Kd.R_nil _ _ _ _ _ | exact Kd.N_nil _ _ _ _ _ | exact Kd.V_nil _ _ _ _ _ | exact Kd.Q_nil _ _ _ _ _ | exact Kd.S_nil _ _ _ _ _, by repeat (first | (with_reducible first | exact HB.out | apply qc0 | apply qa0 | apply qb0) | exact HB.out)⟩
     rw [if_neg c54] at H
     have c54b0 : ((t182.length : Int) == 0) = false := beq_eq_false_iff_ne.mpr c54
     have c54b1 : ((t182.length : Int) != 0) = true := bne_iff_ne.mpr c54
     have c54b2 : ¬ (t182 = []) := fun h_ => c54 (by rw [h_]; rfl)
     obtain ⟨y185, hy185⟩ : ∃ y_ : List (S61), y_ = (([] : List (S61))) := ⟨_, rfl⟩
     replace H : (if y185.length + l0.length < 8796093022208 then (impl_Landed.l1 k2 (y185 ++ l0) t182 (t182.length : Int) 0) else (none)) = some (r1, r2) := by first | (rw [hy185]; with_reducible exact H) | (have H2_ := (Option.bind_some _ _).symm.trans H; rw [hy185]; with_reducible exact H2_) | (have H2_ := (Option.bind_some _ _).symm.trans H; with_reducible exact H2_) | with_reducible exact H | (rw [hy185]; exact H) | exact H
     have Ny185 := Aside0.mk hy185
     clear hy185
     by_cases c58 : y185.length + l0.length < 8796093022208
     case neg => rw [if_neg c58] at H; exact absurd H (by simp)
     rw [if_pos c58] at H
     have LMc58 := Aside0.mk c58
     clear c58
     obtain ⟨y188, hy188⟩ : ∃ y_ : List (S61), y_ = (y185 ++ l0) := ⟨_, rfl⟩
     replace H : (impl_Landed.l1 k2 y188 t182 (t182.length : Int) 0) = some (r1, r2) := by first | (rw [hy188]; with_reducible exact H) | (have H2_ := (Option.bind_some _ _).symm.trans H; rw [hy188]; with_reducible exact H2_) | (have H2_ := (Option.bind_some _ _).symm.trans H; with_reducible exact H2_) | with_reducible exact H | (rw [hy188]; exact H) | exact H
     have Ny188 := Aside0.mk hy188
     clear hy188
     have H' := Aside0.mk H
     clear H
     obtain ⟨Ao59, co59, eo59⟩ := Kd.qy0 HO_8.out
     subst eo59
     go_wp2_with (first | ((with_reducible refine qi0 (f := 31) rfl ?_); refine qu0 (some 56) rfl rfl Try.func31 (by kernel_rfl) rfl #[.int .i64 a1, .slice Ao59 x8_2.length co59] rfl (by (try simp only [List.map_toArray, List.map_cons, List.map_nil]); first | done | rfl | (simp only [List.length_drop, List.length_take]; rfl)) ?_; (with_reducible refine (impl_Shares.calls k2 a1 _ _ x8_2 t182 _ ?side1 ?side2 A53.out).mono ?_); (case side1 => repeat (first | exact (Kd.qg0 HO_8.out).2.2 | (with_reducible refine Kd.qx0 ?_ _) | (with_reducible refine Kd.qw0 ?_ _) | (with_reducible refine Kd.qd1 ?_))); (case side2 => exact (Kd.qg0 HO_8.out).2.1); rintro e w60 ⟨v183, rfl, ho0, hb⟩; refine ⟨_, rfl, ?_⟩; have n0_ := Aside0.mk (Kd.R_elder' (by (with_reducible repeat (first | apply Kd.qe0 | apply Kd.qd0 | apply Kd.qf0)); exact HO_8.out) (Kd.ql1 ho0) hb); have n1_ := Aside0.mk (Kd.qf1 (Kd.qk1 ho0 (Kd.R_lt (by (with_reducible repeat (first | apply Kd.qe0 | apply Kd.qd0 | apply Kd.qf0)); exact HO_8.out))) (qh0 (by repeat (first | (with_reducible first | exact HB.out | apply qc0 | apply qa0 | apply qb0) | exact HB.out)))); have n2_ := Aside0.mk (qk0 (by repeat (first | (with_reducible first | exact HB.out | apply qc0 | apply qa0 | apply qb0) | exact HB.out)) hb); clear HO_8; clear HB; have HO_8 := n0_; have HO184 := n1_; have HB := n2_; clear n0_ n1_ n2_; (try clear hb); (try clear hb2); (try clear hk); (try clear hi); (try clear ho0); obtain ⟨Ao61, co61, eo61⟩ := Kd.qy0 HO184.out; subst eo61) | ((with_reducible refine qv0 (N := 60) rfl ?_); (try (refine qt0 (by rfl) ?_; dsimp only)); refine Kd.R_lit k61 _ 61 ?hg (N := 60) ?hd (xs := ([] : List (S61))) (inner := []) (ok := fun _ => True) (okp := fun _ => True) ?hr ?hp (fun _ hk => hk) trivial (Below.refl _ _) (Nat.le_refl _) (by simp) ?_; (case hd => rfl); (case hg => rfl); (case hr => first | (go_simp; done) | (go_simp; rfl)); (case hp => exact (Reps.none _ _)); intro v186 w62 ho63 hb hg_ hnew_; clear hg_ hnew_; (first | rw [← Ny185.out] at ho63 | (simp only [Int.reduceToNat] at ho63; rw [← Ny185.out] at ho63)); have n0_ := Aside0.mk (Kd.qq0 (by (with_reducible repeat (first | apply Kd.qe0 | apply Kd.qd0 | apply Kd.qf0)); exact HO_8.out) hb); have n1_ := Aside0.mk (Kd.qq0 (by (with_reducible repeat (first | apply Kd.qe0 | apply Kd.qd0 | apply Kd.qf0)); exact HO184.out) hb); have n2_ := Aside0.mk (Kd.qf1 ho63 (qh0 (by repeat (first | (with_reducible first | exact HB.out | apply qc0 | apply qa0 | apply qb0) | exact HB.out)))); have n3_ := Aside0.mk (qk0 (by repeat (first | (with_reducible first | exact HB.out | apply qc0 | apply qa0 | apply qb0) | exact HB.out)) hb); clear HO_8; clear HO184; clear HB; have HO_8 := n0_; have HO184 := n1_; have HO187 := n2_; have HB := n3_; clear n0_ n1_ n2_ n3_; clear hb ho63) | ((with_reducible refine gate_builtin (b := .append) (xs := #[.tmp 60, .tmp 61]) rfl ?_); (try (refine qt0 (by rfl) ?_; dsimp only)); at_builtin; refine Kd.R_append_rows k61 (w0 := w) w.heap.size rfl (.tmp 60) (.tmp 61) 57 61 (.agg #[(.int .i64 0), (.int .i64 0)]) 16 rfl Try.underlying57 info61 rfl (by decide) (by omega) v186 y185 l0 _ _ _ (fun _ => True) (fun _ => False) rfl rfl ?aO ?aR (fun _ _ h => h) (fun _ h => h.elim) ?aF ?aB ?aS ?aL ?_; (case aR => repeat (first | exact (Kd.C_below HR0.out HB.out) | (with_reducible refine Kd.qx0 ?_ _) | (with_reducible refine Kd.qw0 ?_ _) | (with_reducible refine Kd.qd1 ?_))); (case aB => exact (by repeat (first | (with_reducible first | exact HB.out | apply qc0 | apply qa0 | apply qb0) | exact HB.out))); (case aF => exact (fun _ _ => trivial)); (case aO => exact (by (with_reducible repeat (first | apply Kd.qe0 | apply Kd.qd0 | apply Kd.qf0)); exact HO187.out)); (case aS => exact (qh0 (by repeat (first | (with_reducible first | exact HB.out | apply qc0 | apply qa0 | apply qb0) | exact HB.out)))); (case aL => have := LMc58.out; omega); intro v189 w64 ho hb hg hat; rw [← Ny188.out] at ho; have n0_ := Aside0.mk (Kd.R_over' (by (with_reducible repeat (first | apply Kd.qe0 | apply Kd.qd0 | apply Kd.qf0)); exact HO_8.out) (Kd.R_typed (by (with_reducible repeat (first | apply Kd.qe0 | apply Kd.qd0 | apply Kd.qf0)); exact HO187.out)) (by decide) hg); have n1_ := Aside0.mk (Kd.R_over' (by (with_reducible repeat (first | apply Kd.qe0 | apply Kd.qd0 | apply Kd.qf0)); exact HO184.out) (Kd.R_typed (by (with_reducible repeat (first | apply Kd.qe0 | apply Kd.qd0 | apply Kd.qf0)); exact HO187.out)) (by decide) hg); have n2_ := Aside0.mk (hb); have n3_ := Aside0.mk (ho); clear HO_8; clear HO184; clear HB; clear HO187; have HO_8 := n0_; have HO184 := n1_; have HB := n2_; have HO190 := n3_; clear n0_ n1_ n2_ n3_; clear ho hb hg hat))
     go_loopg [65] k2 (fun kq v65 w' => ∃ (x12_3 : List (S61)) (x65_3 : Int), v65 = .int .i64 x65_3 ∧ Aside0 (impl_Landed.l1 kq x12_3 t182 (t182.length : Int) x65_3 = some (r1, r2)) ∧ Aside0 (kq ≤ k2) ∧ Aside0 (Kd.R k61 61 w' w.heap.size (fun _ => True) v189 x12_3) ∧ Aside0 (Kd.R (Kd.int .i64) 3 w' w.heap.size (fun _ => True) (.slice Ao61 t182.length co61) t182) ∧ Aside0 (Below w.heap.size w w'))
     case atStart => exact ⟨(y188), (0), (by first | rfl | (simp; done) | (simp [*]; done)), H', ⟨Nat.le_refl _⟩, ⟨by (with_reducible repeat (first | apply Kd.qe0 | apply Kd.qd0 | apply Kd.qf0)); exact HO190.out⟩, ⟨by (with_reducible repeat (first | apply Kd.qe0 | apply Kd.qd0 | apply Kd.qf0)); exact Kd.qn0 HO184.out (fun _ hk => trivial)⟩, ⟨by repeat (first | (with_reducible first | exact HB.out | apply qc0 | apply qa0 | apply qb0) | exact HB.out)⟩⟩
     case round =>
      clear H'
      try clear c1
      try clear p1
      try clear q1
      try clear hx1
      try clear c2
      try clear p2
      try clear c3
      try clear c4
      try clear c5
      try clear c5b0
      try clear c5b1
      try clear c6
      try clear c6b0
      try clear c6b1
      try clear p6
      try clear c8
      try clear c10
      try clear c11
      try clear c13
      try clear c13b0
      try clear c14
      try clear c14b0
      try clear c15
      try clear c15b0
      try clear p16
      try clear q16
      try clear hx16
      try clear c17
      try clear c18
      try clear c18b0
      try clear c18b1
      try clear c20
      try clear c26
      try clear c26b0
      try clear c26b1
      try clear c28
      try clear c31
      try clear c34
      try clear c34b0
      try clear c34b1
      try clear c36
      try clear c40
      try clear c42
      try clear c42b0
      try clear c42b1
      try clear c44
      try clear c54
      try clear c54b0
      try clear c54b1
      try clear c54b2
      try clear c58
      try clear p64
      try clear hcz22_0
      try clear hcz22_1
      try clear hcz24_0
      try clear hcz24_1
      try clear hcz30_0
      try clear hcz30_1
      try clear hcz32_0
      try clear hcz32_1
      try clear hcz38_0
      try clear hcz38_1
      try clear hcz40_0
      try clear hcz40_1
      try clear hcz46_0
      try clear hcz46_1
      try clear hcz48_0
      try clear hcz48_1
      try clear hcz51_0
      try clear hcz51_1
      try clear hfz22_0
      try clear hfz22_1
      try clear hfz24_0
      try clear hfz24_1
      try clear hfz30_0
      try clear hfz30_1
      try clear hfz32_0
      try clear hfz32_1
      try clear hfz38_0
      try clear hfz38_1
      try clear hfz40_0
      try clear hfz40_1
      try clear hfz46_0
      try clear hfz46_1
      try clear hfz48_0
      try clear hfz48_1
      try clear hfz51_0
      try clear hfz51_1
      try clear hx167_0
      try clear hx167_1
      try clear p167
      try clear p2
      try clear q167
      obtain ⟨x12_3, x65_3, rfl, HA, HK3, HO_12, HO_63, HB⟩ := hrel
      cases gk with
      | zero => exact absurd HA.out (by simp [impl_Landed.l1])
      | succ k3 =>
       have H := HA.out
       clear HA
       simp only [impl_Landed.l1] at H
       by_cases c65 : x65_3 < (t182.length : Int)
       ·rw [if_pos c65] at H
        have c65b0 : decide (x65_3 < (t182.length : Int)) = true := decide_eq_true c65
        clear c65
        by_cases c66 : 0 ≤ x65_3
        case neg => rw [if_neg c66] at H; exact absurd H (by simp)
        rw [if_pos c66] at H
        have c66b0 : decide (0 ≤ x65_3) = true := decide_eq_true c66
        clear c66
        by_cases c67 : x65_3 < (t182.length : Int)
        case neg => rw [if_neg c67] at H; exact absurd H (by simp)
        rw [if_pos c67] at H
        have c67b0 : decide (x65_3 < (t182.length : Int)) = true := decide_eq_true c67
        clear c67
        by_cases c68 : x65_3 < (x12_3.length : Int)
        case neg => rw [if_neg c68] at H; exact absurd H (by simp)
        rw [if_pos c68] at H
        have c68b0 : decide (x65_3 < (x12_3.length : Int)) = true := decide_eq_true c68
        clear c68
        obtain ⟨y193, hy193⟩ : ∃ y_ : List (S61), y_ = (x12_3.set (x65_3 : Int).toNat (⟨(rd_T61 x12_3 x65_3).f0, wrap64 (((rd_T61 x12_3 x65_3).f1) + (rd t182 x65_3))⟩ : S61)) := ⟨_, rfl⟩
        replace H : ((impl_amount.f ((rd_T61 y193 x65_3).f1)).bind fun t195 => (if t195 = true then (impl_Landed.l1 k3 y193 t182 (t182.length : Int) (wrap64 (x65_3 + 1))) else (some (([] : List (S61)), false)))) = some (r1, r2) := by first | (rw [hy193]; with_reducible exact H) | (have H2_ := (Option.bind_some _ _).symm.trans H; rw [hy193]; with_reducible exact H2_) | (have H2_ := (Option.bind_some _ _).symm.trans H; with_reducible exact H2_) | with_reducible exact H | (rw [hy193]; exact H) | exact H
        have Ny193 := Aside0.mk hy193
        clear hy193
        replace H := Option.bind_eq_some_iff.mp H
        obtain ⟨t195, A700, H⟩ := H
        replace H : (if t195 = true then (impl_Landed.l1 k3 y193 t182 (t182.length : Int) (wrap64 (x65_3 + 1))) else (some (([] : List (S61)), false))) = some (r1, r2) := H
        have A70 := Aside0.mk A700
        clear A700
        by_cases c71 : t195 = true
        ·subst c71
         have H1 : (impl_Landed.l1 k3 y193 t182 (t182.length : Int) (wrap64 (x65_3 + 1))) = some (r1, r2) := by rw [if_pos rfl] at H; exact H
         clear H
         have H := H1
         clear H1
         have H' := Aside0.mk H
         clear H
         have p191 : 0 ≤ (x65_3 : Int) := of_decide_eq_true (by first | (with_reducible assumption) | assumption)
         have q191 : x65_3 < (t182.length : Int) := of_decide_eq_true (by first | (with_reducible assumption) | assumption)
         obtain ⟨ad191, e191, hx191_0⟩ := Kd.qo1 (Kd.qg0 HO_63.out).2.2 x65_3 p191 q191
         cases e191
         replace p191 := eq_true p191
         replace q191 := eq_true q191
         obtain ⟨Ao72, co72, eo72⟩ := Kd.qy0 HO_12.out
         subst eo72
         have p192 : 0 ≤ (x65_3 : Int) := of_decide_eq_true (by first | (with_reducible assumption) | assumption)
         have q192 : x65_3 < (x12_3.length : Int) := of_decide_eq_true (by first | (with_reducible assumption) | assumption)
         obtain ⟨ad192, e192, hx192_0, hx192_1⟩ := at_T61 (Kd.qg0 HO_12.out).2.2 x65_3 p192 q192
         cases e192
         replace p192 := eq_true p192
         replace q192 := eq_true q192
         have p69 : 0 ≤ (x65_3 : Int) := of_decide_eq_true (by first | (with_reducible assumption) | assumption)
         have q69 : (x65_3 : Int) < ((x12_3.length : Int) : Int) := of_decide_eq_true (by first | (with_reducible assumption) | assumption)
         obtain ⟨go69, co69, eo69, gb69, gl69, cl69, HG69⟩ := Kd.R_form HO_12.out (by omega)
         (first | cases eo69 | (injection eo69 with ea_ en_ ec_; (first | subst ea_ | (injection ea_ with ea_; subst ea_)); subst ec_; clear en_))
         have GB69 := Aside0.mk gb69
         have GG69 := Aside0.mk HG69
         clear gb69 gl69 HG69
         (first | simp only [add_plain] at hx192_0 | skip)
         (first | simp only [add_plain] at hx192_1 | skip)
         obtain ⟨ce69, hcl69, hM69, hcc69, hfr69⟩ := Kd.qn1 HO_12.out z61 (x65_3 : Int) p69 q69
         obtain rfl := k61_openM hM69
         have hx69_0 : wr.cell? ⟨go69, (x65_3 : Int).toNat * 2, none⟩ = some (.int .i64 ((rd_T61 x12_3 x65_3).f0)) := hcc69 0 _ rfl
         have hx69_1 : wr.cell? ⟨go69, (x65_3 : Int).toNat * 2 + 1, none⟩ = some (.int .i64 ((rd_T61 x12_3 x65_3).f1)) := hcc69 1 _ rfl
         have hf69_0 : wr.frozen? ⟨go69, (x65_3 : Int).toNat * 2, none⟩ = false := hfr69 0
         have hf69_1 : wr.frozen? ⟨go69, (x65_3 : Int).toNat * 2 + 1, none⟩ = false := hfr69 1
         clear hcl69 hcc69 hfr69 hM69
         replace p69 := eq_true p69
         replace q69 := eq_true q69
         have HX73 := Aside0.mk (show Kd.R k61 61 wr w.heap.size (fun _ => True) (.slice (some ⟨go69, 0, none⟩) x12_3.length co72) x12_3 from (by (with_reducible repeat (first | apply Kd.qe0 | apply Kd.qd0 | apply Kd.qf0)); exact HO_12.out))
         obtain ⟨ce73, hcl73, hM73, hcc73, hfr73⟩ := Kd.qn1 HX73.out z61 (x65_3 : Int) (of_decide_eq_true (by first | (with_reducible assumption) | assumption)) (by have h_ : (x65_3 : Int) < ((x12_3.length : Int) : Int) := of_decide_eq_true (by first | (with_reducible assumption) | assumption); first | exact h_ | (have e_ := (Kd.qg0 HO_12.out).1; omega) | simpa using h_)
         obtain rfl := k61_openM hM73
         have HP73 := Kd.R_seg HX73.out (x65_3 : Int) (of_decide_eq_true (by first | (with_reducible assumption) | assumption)) (by have h_ : (x65_3 : Int) < ((x12_3.length : Int) : Int) := of_decide_eq_true (by first | (with_reducible assumption) | assumption); first | exact h_ | (have e_ := (Kd.qg0 HO_12.out).1; omega) | simpa using h_) (seg := [.int .i64 (wrap64 (((rd_T61 x12_3 x65_3).f1) + (rd t182 x65_3)))]) (j := 1) hcl73 hcc73 (show 2 ≤ 2 from by decide) (x' := (⟨(rd_T61 x12_3 x65_3).f0, wrap64 (((rd_T61 x12_3 x65_3).f1) + (rd t182 x65_3))⟩ : S61)) (k61_mkM _ _ _ (⟨(rd_T61 x12_3 x65_3).f0, wrap64 (((rd_T61 x12_3 x65_3).f1) + (rd t182 x65_3))⟩ : S61) ) (fun _ hk => hk)
         have hx73_1 := hcc73 1 _ rfl
         (try simp only [show (k61).sz = 2 from rfl, Nat.mul_one, Nat.add_zero] at hx73_1)
         have hf73_1 := hfr73 1
         (try simp only [show (k61).sz = 2 from rfl, Nat.mul_one, Nat.add_zero] at hf73_1)
         clear hcl73 hcc73 hfr73 hM73
         go_wp2_with (first | ((with_reducible refine qb1 (t := 3) (p := 78) rfl ?_); refine qa1 (t := 3) (p := 78) (v := ?vo_w74) (w1 := (wr.setCell ⟨go69, (x65_3 : Int).toNat * 2 + 1, none⟩ (.int .i64 (wrap64 (((rd_T61 x12_3 x65_3).f1) + (rd t182 x65_3)))))) ?hg ?ho ?hn ?hr ?_; (case ho => rfl); (case hg => rfl); (case hn => rfl); (case hr => first | (go_simp; done) | (go_simp; rfl)); intro w74 hw; have hg : wr.grownBy w74 (some go69) := (by rw [hw]; exact HP73.2); have hp_ : Kd.R k61 61 w74 w.heap.size (fun _ => True) (.slice (some ⟨go69, 0, none⟩) x12_3.length co72) y193 := (by rw [hw, Ny193.out]; exact HP73.1); clear HP73; have n0_ := Aside0.mk (hp_); have n1_ := Aside0.mk (Kd.R_over' (v := (.slice (some ⟨go69, 0, none⟩) x12_3.length co72)) (by (with_reducible repeat (first | apply Kd.qe0 | apply Kd.qd0 | apply Kd.qf0)); exact HO_63.out) (Kd.R_typed HO_12.out) (by decide) hg); have n2_ := Aside0.mk ((by rw [hw]; exact qj0 (HB.out) GB69.out : Below w.heap.size w w74)); clear HO_12; clear HO_63; clear HB; have HO_12 := n0_; have HO_63 := n1_; have HB := n2_; clear n0_ n1_ n2_; clear hg hw hp_; have p194 : 0 ≤ (x65_3 : Int) := of_decide_eq_true (by first | (with_reducible assumption) | assumption); have q194 : x65_3 < (y193.length : Int) := (by have h_ : (x65_3 : Int) < ((x12_3.length : Int) : Int) := of_decide_eq_true (by first | (with_reducible assumption) | assumption); first | (have e_ := (Kd.qg0 HO_12.out).1; omega) | simpa only [Ny193.out, List.length_set] using h_); have ql194 : ((x65_3 : Int) < ((x12_3.length : Int) : Int)) = True := eq_true (of_decide_eq_true (by first | (with_reducible assumption) | assumption)); obtain ⟨ad194, e194, hx194_0, hx194_1⟩ := at_T61 (Kd.qg0 HO_12.out).2.2 x65_3 p194 q194; obtain rfl : (⟨go69, 0, none⟩ : Addr) = ad194 := (by injection e194); (first | simp only [add_plain] at hx194_0 | simp only [add_at] at hx194_0 | simp only [Addr.add, Nat.zero_add] at hx194_0 | skip); (first | simp only [add_plain] at hx194_1 | simp only [add_at] at hx194_1 | simp only [Addr.add, Nat.zero_add] at hx194_1 | skip); replace p194 := eq_true p194; replace q194 := eq_true q194) | ((with_reducible refine qi0 (f := 110) rfl ?_); refine qu0 (some 84) rfl rfl Try.func110 (by kernel_rfl) rfl #[.int .i64 ((rd_T61 y193 x65_3).f1)] rfl (by (try simp only [List.map_toArray, List.map_cons, List.map_nil]); first | done | rfl | (simp only [List.length_drop, List.length_take]; rfl)) ?_; (with_reducible refine (impl_amount.calls ((rd_T61 y193 x65_3).f1) true _ A70.out).mono ?_); rintro e w' ⟨rfl, ⟨nd, rfl⟩⟩; refine ⟨_, rfl, ?_⟩))
         go_roundg k3
         case measure => have := HJ3.out; have := HK2.out; have := HK3.out; omega
         case rel => exact ⟨(y193), (wrap64 (x65_3 + 1)), (by first | rfl | (simp; done) | (simp [*]; done)), H', ⟨by have := HJ3.out; have := HK2.out; have := HK3.out; omega⟩, ⟨by (with_reducible repeat (first | apply Kd.qe0 | apply Kd.qd0 | apply Kd.qf0)); exact HO_12.out⟩, ⟨by (with_reducible repeat (first | apply Kd.qe0 | apply Kd.qd0 | apply Kd.qf0)); exact HO_63.out⟩, ⟨by repeat (first | (with_reducible first | exact HB.out | apply qc0 | apply qa0 | apply qb0) | exact HB.out)⟩⟩
        replace c71 := Bool.eq_false_iff.mpr c71
        subst c71
        have H1 : (some (([] : List (S61)), false)) = some (r1, r2) := by rw [if_neg (show ¬ (false = true) by decide)] at H; exact H
        clear H
        have H := H1
        clear H1
        simp only [Option.some.injEq, Prod.mk.injEq] at H
        obtain ⟨rfl, rfl⟩ := H
        have p191 : 0 ≤ (x65_3 : Int) := of_decide_eq_true (by first | (with_reducible assumption) | assumption)
        have q191 : x65_3 < (t182.length : Int) := of_decide_eq_true (by first | (with_reducible assumption) | assumption)
        obtain ⟨ad191, e191, hx191_0⟩ := Kd.qo1 (Kd.qg0 HO_63.out).2.2 x65_3 p191 q191
        cases e191
        replace p191 := eq_true p191
        replace q191 := eq_true q191
        obtain ⟨Ao75, co75, eo75⟩ := Kd.qy0 HO_12.out
        subst eo75
        have p192 : 0 ≤ (x65_3 : Int) := of_decide_eq_true (by first | (with_reducible assumption) | assumption)
        have q192 : x65_3 < (x12_3.length : Int) := of_decide_eq_true (by first | (with_reducible assumption) | assumption)
        obtain ⟨ad192, e192, hx192_0, hx192_1⟩ := at_T61 (Kd.qg0 HO_12.out).2.2 x65_3 p192 q192
        cases e192
        replace p192 := eq_true p192
        replace q192 := eq_true q192
        have p69 : 0 ≤ (x65_3 : Int) := of_decide_eq_true (by first | (with_reducible assumption) | assumption)
        have q69 : (x65_3 : Int) < ((x12_3.length : Int) : Int) := of_decide_eq_true (by first | (with_reducible assumption) | assumption)
        obtain ⟨go69, co69, eo69, gb69, gl69, cl69, HG69⟩ := Kd.R_form HO_12.out (by omega)
        (first | cases eo69 | (injection eo69 with ea_ en_ ec_; (first | subst ea_ | (injection ea_ with ea_; subst ea_)); subst ec_; clear en_))
        have GB69 := Aside0.mk gb69
        have GG69 := Aside0.mk HG69
        clear gb69 gl69 HG69
        (first | simp only [add_plain] at hx192_0 | skip)
        (first | simp only [add_plain] at hx192_1 | skip)
        obtain ⟨ce69, hcl69, hM69, hcc69, hfr69⟩ := Kd.qn1 HO_12.out z61 (x65_3 : Int) p69 q69
        obtain rfl := k61_openM hM69
        have hx69_0 : wr.cell? ⟨go69, (x65_3 : Int).toNat * 2, none⟩ = some (.int .i64 ((rd_T61 x12_3 x65_3).f0)) := hcc69 0 _ rfl
        have hx69_1 : wr.cell? ⟨go69, (x65_3 : Int).toNat * 2 + 1, none⟩ = some (.int .i64 ((rd_T61 x12_3 x65_3).f1)) := hcc69 1 _ rfl
        have hf69_0 : wr.frozen? ⟨go69, (x65_3 : Int).toNat * 2, none⟩ = false := hfr69 0
        have hf69_1 : wr.frozen? ⟨go69, (x65_3 : Int).toNat * 2 + 1, none⟩ = false := hfr69 1
        clear hcl69 hcc69 hfr69 hM69
        replace p69 := eq_true p69
        replace q69 := eq_true q69
        have HX76 := Aside0.mk (show Kd.R k61 61 wr w.heap.size (fun _ => True) (.slice (some ⟨go69, 0, none⟩) x12_3.length co75) x12_3 from (by (with_reducible repeat (first | apply Kd.qe0 | apply Kd.qd0 | apply Kd.qf0)); exact HO_12.out))
        obtain ⟨ce76, hcl76, hM76, hcc76, hfr76⟩ := Kd.qn1 HX76.out z61 (x65_3 : Int) (of_decide_eq_true (by first | (with_reducible assumption) | assumption)) (by have h_ : (x65_3 : Int) < ((x12_3.length : Int) : Int) := of_decide_eq_true (by first | (with_reducible assumption) | assumption); first | exact h_ | (have e_ := (Kd.qg0 HO_12.out).1; omega) | simpa using h_)
        obtain rfl := k61_openM hM76
        have HP76 := Kd.R_seg HX76.out (x65_3 : Int) (of_decide_eq_true (by first | (with_reducible assumption) | assumption)) (by have h_ : (x65_3 : Int) < ((x12_3.length : Int) : Int) := of_decide_eq_true (by first | (with_reducible assumption) | assumption); first | exact h_ | (have e_ := (Kd.qg0 HO_12.out).1; omega) | simpa using h_) (seg := [.int .i64 (wrap64 (((rd_T61 x12_3 x65_3).f1) + (rd t182 x65_3)))]) (j := 1) hcl76 hcc76 (show 2 ≤ 2 from by decide) (x' := (⟨(rd_T61 x12_3 x65_3).f0, wrap64 (((rd_T61 x12_3 x65_3).f1) + (rd t182 x65_3))⟩ : S61)) (k61_mkM _ _ _ (⟨(rd_T61 x12_3 x65_3).f0, wrap64 (((rd_T61 x12_3 x65_3).f1) + (rd t182 x65_3))⟩ : S61) ) (fun _ hk => hk)
        have hx76_1 := hcc76 1 _ rfl
        (try simp only [show (k61).sz = 2 from rfl, Nat.mul_one, Nat.add_zero] at hx76_1)
        have hf76_1 := hfr76 1
        (try simp only [show (k61).sz = 2 from rfl, Nat.mul_one, Nat.add_zero] at hf76_1)
        clear hcl76 hcc76 hfr76 hM76
        go_wp2_with (first | ((with_reducible refine qb1 (t := 3) (p := 78) rfl ?_); refine qa1 (t := 3) (p := 78) (v := ?vo_w77) (w1 := (wr.setCell ⟨go69, (x65_3 : Int).toNat * 2 + 1, none⟩ (.int .i64 (wrap64 (((rd_T61 x12_3 x65_3).f1) + (rd t182 x65_3)))))) ?hg ?ho ?hn ?hr ?_; (case ho => rfl); (case hg => rfl); (case hn => rfl); (case hr => first | (go_simp; done) | (go_simp; rfl)); intro w77 hw; have hg : wr.grownBy w77 (some go69) := (by rw [hw]; exact HP76.2); have hp_ : Kd.R k61 61 w77 w.heap.size (fun _ => True) (.slice (some ⟨go69, 0, none⟩) x12_3.length co75) y193 := (by rw [hw, Ny193.out]; exact HP76.1); clear HP76; have n0_ := Aside0.mk (hp_); have n1_ := Aside0.mk (Kd.R_over' (v := (.slice (some ⟨go69, 0, none⟩) x12_3.length co75)) (by (with_reducible repeat (first | apply Kd.qe0 | apply Kd.qd0 | apply Kd.qf0)); exact HO_63.out) (Kd.R_typed HO_12.out) (by decide) hg); have n2_ := Aside0.mk ((by rw [hw]; exact qj0 (HB.out) GB69.out : Below w.heap.size w w77)); clear HO_12; clear HO_63; clear HB; have HO_12 := n0_; have HO_63 := n1_; have HB := n2_; clear n0_ n1_ n2_; clear hg hw hp_; have p194 : 0 ≤ (x65_3 : Int) := of_decide_eq_true (by first | (with_reducible assumption) | assumption); have q194 : x65_3 < (y193.length : Int) := (by have h_ : (x65_3 : Int) < ((x12_3.length : Int) : Int) := of_decide_eq_true (by first | (with_reducible assumption) | assumption); first | (have e_ := (Kd.qg0 HO_12.out).1; omega) | simpa only [Ny193.out, List.length_set] using h_); have ql194 : ((x65_3 : Int) < ((x12_3.length : Int) : Int)) = True := eq_true (of_decide_eq_true (by first | (with_reducible assumption) | assumption)); obtain ⟨ad194, e194, hx194_0, hx194_1⟩ := at_T61 (Kd.qg0 HO_12.out).2.2 x65_3 p194 q194; obtain rfl : (⟨go69, 0, none⟩ : Addr) = ad194 := (by injection e194); (first | simp only [add_plain] at hx194_0 | simp only [add_at] at hx194_0 | simp only [Addr.add, Nat.zero_add] at hx194_0 | skip); (first | simp only [add_plain] at hx194_1 | simp only [add_at] at hx194_1 | simp only [Addr.add, Nat.zero_add] at hx194_1 | skip); replace p194 := eq_true p194; replace q194 := eq_true q194) | ((with_reducible refine qi0 (f := 110) rfl ?_); refine qu0 (some 84) rfl rfl Try.func110 (by kernel_rfl) rfl #[.int .i64 ((rd_T61 y193 x65_3).f1)] rfl (by (try simp only [List.map_toArray, List.map_cons, List.map_nil]); first | done | rfl | (simp only [List.length_drop, List.length_take]; rfl)) ?_; (with_reducible refine (impl_amount.calls ((rd_T61 y193 x65_3).f1) false _ A70.out).mono ?_); rintro e w' ⟨rfl, ⟨nd, rfl⟩⟩; refine ⟨_, rfl, ?_⟩))
        go_ret2
        exact ⟨_, by first | rfl | (simp [errW_none, errW_some] <;> rfl) | (simp [*, errW_none, errW_some] <;> rfl), by first | exact Kd.R_nil _ _ _ _ _ | exact Kd.N_nil _ _ _ _ _ | exact Kd.V_nil _ _ _ _ _ | exact Kd.Q_nil _ _ _ _ _ | exact Kd.S_nil _ _ _ _ _, by repeat (first | (with_reducible first | exact HB.out | apply qc0 | apply qa0 | apply qb0) | exact HB.out)⟩
       rw [if_neg c65] at H
       have c65b0 : decide (x65_3 < (t182.length : Int)) = false := decide_eq_false c65
       clear c65
       simp only [Option.some.injEq, Prod.mk.injEq] at H
       obtain ⟨rfl, rfl⟩ := H
       go_wp2
       go_ret2
       exact ⟨_, by first | rfl | (simp [errW_none, errW_some] <;> rfl) | (simp [*, errW_none, errW_some] <;> rfl), by (with_reducible repeat (first | apply Kd.qe0 | apply Kd.qd0 | apply Kd.qf0)); exact HO_12.out, by repeat (first | (with_reducible first | exact HB.out | apply qc0 | apply qa0 | apply qb0) | exact HB.out)⟩

/-! ### spec_l1In: function 90 -/
def spec_l1In.f (a0 : Int) (a1 : Int) (a2 : Int) : Option (Bool) := if a0 ≥ a1 then (some (decide (a0 ≤ a2))) else (some false)
set_option maxHeartbeats 8000000 in
set_option maxRecDepth 100000 in
theorem spec_l1In.calls (a0 : Int) (a1 : Int) (a2 : Int) (r : Bool) (w : World) (h : spec_l1In.f a0 a1 a2 = some r) :
  Calls Try.prog 90 #[.int .i64 a0, .int .i64 a1, .int .i64 a2] w fun e w' => e = .returned (.bool r) ∧ Drawn0 w w' := by
 have H : (if a0 ≥ a1 then (some (decide (a0 ≤ a2))) else (some false)) = some r := h
 clear h
 by_cases c4 : a0 ≥ a1
 ·rw [if_pos c4] at H
  have c4b0 : decide (a1 ≤ a0) = true := decide_eq_true c4
  clear c4
  obtain rfl := Option.some.inj H
  go_enter Try.func90, Try.ntmps90
  go_wp2
  go_ret
  exact ⟨by first | rfl | (simp; done) | (simp [*]; done), by repeat (first | exact Drawn0.refl _ | apply Drawn0.step)⟩
 rw [if_neg c4] at H
 have c4b0 : decide (a1 ≤ a0) = false := decide_eq_false c4
 clear c4
 obtain rfl := Option.some.inj H
 go_enter Try.func90, Try.ntmps90
 go_wp2
 go_ret
 exact ⟨by first | rfl | (simp; done) | (simp [*]; done), by repeat (first | exact Drawn0.refl _ | apply Drawn0.step)⟩

/-! ### spec_l1Amount: function 107 -/
def spec_l1Amount.f (a0 : Int) : Option (Bool) := (spec_l1In.f a0 (-100000000000) 100000000000).bind fun t196 => (some t196)
set_option maxHeartbeats 8000000 in
set_option maxRecDepth 100000 in
theorem spec_l1Amount.calls (a0 : Int) (r : Bool) (w : World) (h : spec_l1Amount.f a0 = some r) :
  Calls Try.prog 107 #[.int .i64 a0] w fun e w' => e = .returned (.bool r) ∧ Drawn0 w w' := by
 have H : ((spec_l1In.f a0 (-100000000000) 100000000000).bind fun t196 => (some t196)) = some r := h
 clear h
 replace H := Option.bind_eq_some_iff.mp H
 obtain ⟨t196, A20, H⟩ := H
 replace H : (some t196) = some r := H
 have A2 := Aside0.mk A20
 clear A20
 obtain rfl := Option.some.inj H
 go_enter Try.func107, Try.ntmps107
 go_wp2_with (first | ((with_reducible refine qi0 (f := 90) rfl ?_); refine qu0 (some 4) rfl rfl Try.func90 (by kernel_rfl) rfl #[.int .i64 a0, .int .i64 (-100000000000), .int .i64 100000000000] rfl (by (try simp only [List.map_toArray, List.map_cons, List.map_nil]); first | done | rfl | (simp only [List.length_drop, List.length_take]; rfl)) ?_; (with_reducible refine (spec_l1In.calls a0 (-100000000000) 100000000000 t196 _ A2.out).mono ?_); rintro e w' ⟨rfl, ⟨nd, rfl⟩⟩; refine ⟨_, rfl, ?_⟩))
 go_ret
 exact ⟨by first | rfl | (simp; done) | (simp [*]; done), by repeat (first | exact Drawn0.refl _ | apply Drawn0.step)⟩

/-! ### spec_l1Factor: function 108 -/
def spec_l1Factor.f (a0 : Int) : Option (Bool) := (spec_l1In.f a0 0 10000000).bind fun t197 => (some t197)
set_option maxHeartbeats 8000000 in
set_option maxRecDepth 100000 in
theorem spec_l1Factor.calls (a0 : Int) (r : Bool) (w : World) (h : spec_l1Factor.f a0 = some r) :
  Calls Try.prog 108 #[.int .i64 a0] w fun e w' => e = .returned (.bool r) ∧ Drawn0 w w' := by
 have H : ((spec_l1In.f a0 0 10000000).bind fun t197 => (some t197)) = some r := h
 clear h
 replace H := Option.bind_eq_some_iff.mp H
 obtain ⟨t197, A20, H⟩ := H
 replace H : (some t197) = some r := H
 have A2 := Aside0.mk A20
 clear A20
 obtain rfl := Option.some.inj H
 go_enter Try.func108, Try.ntmps108
 go_wp2_with (first | ((with_reducible refine qi0 (f := 90) rfl ?_); refine qu0 (some 4) rfl rfl Try.func90 (by kernel_rfl) rfl #[.int .i64 a0, .int .i64 0, .int .i64 10000000] rfl (by (try simp only [List.map_toArray, List.map_cons, List.map_nil]); first | done | rfl | (simp only [List.length_drop, List.length_take]; rfl)) ?_; (with_reducible refine (spec_l1In.calls a0 0 10000000 t197 _ A2.out).mono ?_); rintro e w' ⟨rfl, ⟨nd, rfl⟩⟩; refine ⟨_, rfl, ?_⟩))
 go_ret
 exact ⟨by first | rfl | (simp; done) | (simp [*]; done), by repeat (first | exact Drawn0.refl _ | apply Drawn0.step)⟩

/-! ### spec_l1Abs: function 109 -/
def spec_l1Abs.f (a0 : Int) : Option (Int) := if a0 < 0 then (some (wrap64 (-a0))) else (some a0)
set_option maxHeartbeats 8000000 in
set_option maxRecDepth 100000 in
theorem spec_l1Abs.calls (a0 : Int) (r : Int) (w : World) (h : spec_l1Abs.f a0 = some r) :
  Calls Try.prog 109 #[.int .i64 a0] w fun e w' => e = .returned (.int .i64 r) ∧ Drawn0 w w' := by
 have H : (if a0 < 0 then (some (wrap64 (-a0))) else (some a0)) = some r := h
 clear h
 by_cases c2 : a0 < 0
 ·rw [if_pos c2] at H
  have c2b0 : decide (a0 < 0) = true := decide_eq_true c2
  clear c2
  obtain rfl := Option.some.inj H
  go_enter Try.func109, Try.ntmps109
  go_wp2
  go_ret
  exact ⟨by first | rfl | (simp; done) | (simp [*]; done), by repeat (first | exact Drawn0.refl _ | apply Drawn0.step)⟩
 rw [if_neg c2] at H
 have c2b0 : decide (a0 < 0) = false := decide_eq_false c2
 clear c2
 obtain rfl := Option.some.inj H
 go_enter Try.func109, Try.ntmps109
 go_wp2
 go_ret
 exact ⟨by first | rfl | (simp; done) | (simp [*]; done), by repeat (first | exact Drawn0.refl _ | apply Drawn0.step)⟩

end Go.Proofs.Ytlodndejipjceaa.PFnExactLanded
