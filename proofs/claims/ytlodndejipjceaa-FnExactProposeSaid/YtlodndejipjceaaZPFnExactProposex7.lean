/- Lines by a program (a changed copy of the kit's print: this repo's wip/tools): Go functions as Lean functions, and proofs that the calls answer so. -/
import Derived.Test.YtlodndejipjceaaZPFnExactProposex0
import Derived.Test.YtlodndejipjceaaZPFnExactProposex3
import Derived.Test.YtlodndejipjceaaZPFnExactProposex4
import Derived.Test.YtlodndejipjceaaZPFnExactProposex5
import Derived.Test.YtlodndejipjceaaZPFnExactProposex6
namespace Go.Proofs.Ytlodndejipjceaa.PFnExactPropose
open Go.RowKit Go.Proofs.YtlodndejipjceaaW.PrintWords Go.Proofs.YtlodndejipjceaaW.PrintLast Go.Proofs.YtlodndejipjceaaW.PrintMore
attribute [local go_sem] max2_int min2_int max_two min_two max_three min_three max_four min_four   -- for this text's walks alone
set_option linter.unusedVariables false
set_option linter.unusedSimpArgs false

/-! ### impl_Propose: function 23 -/
mutual
def impl_Propose.j0 : Nat → Int → Int → Int → Bool → List (S129) → Option (List Int)
 | 0, _, _, _, _, _ => none
 | k + 1, x1, x2, x3, x38, x195000 => if x38 = true then (some ([] : List Int)) else (impl_Propose.l0 k x1 x2 x3 (([] : List Int)) (([] : List Int)) x195000 (x195000.length : Int) 0 x195000)
def impl_Propose.l0 : Nat → Int → Int → Int → List Int → List Int → List (S129) → Int → Int → List (S129) → Option (List Int)
 | 0, _, _, _, _, _, _, _, _, _ => none
 | k + 1, x1, x2, x3, x9, x10, x41, x42, x43, x195000 => if x43 < x42 then (if 0 ≤ x43 then (if x43 < (x41.length : Int) then ((impl_isDay.f ((rd_T129 x41 x43).f0)).bind fun t206 => (if t206 = true then ((impl_isDay.f ((rd_T129 x41 x43).f1)).bind fun t207 => (if t207 = true then ((impl_rateOk.f ((rd_T129 x41 x43).f2)).bind fun t208 => (if t208 = true then ((impl_between.f ((rd_T129 x41 x43).f3) 1 100000000000).bind fun t209 => (impl_Propose.j2 k x1 x2 x3 x9 x10 x43 x41 x42 x43 (!t209) x195000 ((rd_T129 x41 x43).f0) ((rd_T129 x41 x43).f1) ((rd_T129 x41 x43).f2) ((rd_T129 x41 x43).f3))) else (impl_Propose.j2 k x1 x2 x3 x9 x10 x43 x41 x42 x43 true x195000 ((rd_T129 x41 x43).f0) ((rd_T129 x41 x43).f1) ((rd_T129 x41 x43).f2) ((rd_T129 x41 x43).f3)))) else (impl_Propose.j2 k x1 x2 x3 x9 x10 x43 x41 x42 x43 true x195000 ((rd_T129 x41 x43).f0) ((rd_T129 x41 x43).f1) ((rd_T129 x41 x43).f2) ((rd_T129 x41 x43).f3)))) else (impl_Propose.j2 k x1 x2 x3 x9 x10 x43 x41 x42 x43 true x195000 ((rd_T129 x41 x43).f0) ((rd_T129 x41 x43).f1) ((rd_T129 x41 x43).f2) ((rd_T129 x41 x43).f3)))) else (none)) else (none)) else ((impl_sortBy_int.f k x9 (fun a_ b_ => impl_Propose_1.f a_ b_ x195000)).bind fun t216 => ((impl_sortBy_int.f k x10 (fun a_ b_ => impl_Propose_2.f a_ b_ x195000)).bind fun t217 => (if t216.length + t217.length < 17592186044416 then ((some (t216 ++ t217 : List Int)).bind fun y221 => (impl_Propose.l1 k x3 (([] : List Int)) y221 (y221.length : Int) 0 x195000)) else (none))))
def impl_Propose.j2 : Nat → Int → Int → Int → List Int → List Int → Int → List (S129) → Int → Int → Bool → List (S129) → Int → Int → Int → Int → Option (List Int)
 | 0, _, _, _, _, _, _, _, _, _, _, _, _, _, _, _ => none
 | k + 1, x1, x2, x3, x9, x10, x11, x41, x42, x43, x69, x195000, x206000, x206001, x206002, x206003 => if x69 = true then (some ([] : List Int)) else (if x206000 ≤ x2 then (if x9.length < 17592186044416 then (impl_Propose.l0 k x1 x2 x3 (x9 ++ [x11]) x10 x41 x42 (wrap64 (x43 + 1)) x195000) else (none)) else (if x206001 ≥ x1 then (if x206001 ≤ x2 then (if x206002 > 0 then (if x10.length < 17592186044416 then (impl_Propose.l0 k x1 x2 x3 x9 (x10 ++ [x11]) x41 x42 (wrap64 (x43 + 1)) x195000) else (none)) else (impl_Propose.l0 k x1 x2 x3 x9 x10 x41 x42 (wrap64 (x43 + 1)) x195000)) else (impl_Propose.l0 k x1 x2 x3 x9 x10 x41 x42 (wrap64 (x43 + 1)) x195000)) else (impl_Propose.l0 k x1 x2 x3 x9 x10 x41 x42 (wrap64 (x43 + 1)) x195000)))
def impl_Propose.l1 : Nat → Int → List Int → List Int → Int → Int → List (S129) → Option (List Int)
 | 0, _, _, _, _, _, _ => none
 | k + 1, x3, x13, x109, x110, x111, x195000 => if x111 < x110 then (if 0 ≤ x111 then (if x111 < (x109.length : Int) then (if 0 ≤ (rd x109 x111) then (if (rd x109 x111) < (x195000.length : Int) then (if ((rd_T129 x195000 (rd x109 x111)).f3) ≤ x3 then (if x13.length < 17592186044416 then (impl_Propose.l1 k (wrap64 (x3 - ((rd_T129 x195000 (rd x109 x111)).f3))) (x13 ++ [rd x109 x111]) x109 x110 (wrap64 (x111 + 1)) x195000) else (none)) else (impl_Propose.l1 k x3 x13 x109 x110 (wrap64 (x111 + 1)) x195000)) else (none)) else (none)) else (none)) else (none)) else (some x13)
end
def impl_Propose.f (k : Nat) (l0 : List (S129)) (a1 : Int) (a2 : Int) (a3 : Int) : Option (List Int) := if (l0.length : Int) > 100 then (impl_Propose.j0 k a1 a2 a3 true l0) else ((impl_isDay.f a1).bind fun t195 => (if t195 = true then ((impl_isDay.f a2).bind fun t196 => (if t196 = true then (if a2 ≤ a1 then (impl_Propose.j0 k a1 a2 a3 true l0) else ((impl_money.f a3).bind fun t197 => (impl_Propose.j0 k a1 a2 a3 (!t197) l0))) else (impl_Propose.j0 k a1 a2 a3 true l0))) else (impl_Propose.j0 k a1 a2 a3 true l0)))
theorem impl_Propose.mono_l : ∀ k, (∀ y0 y1 y2 y3 y4, LeO (impl_Propose.j0 k y0 y1 y2 y3 y4) (impl_Propose.j0 (k + 1) y0 y1 y2 y3 y4)) ∧ (∀ y0 y1 y2 y3 y4 y5 y6 y7 y8, LeO (impl_Propose.l0 k y0 y1 y2 y3 y4 y5 y6 y7 y8) (impl_Propose.l0 (k + 1) y0 y1 y2 y3 y4 y5 y6 y7 y8)) ∧ (∀ y0 y1 y2 y3 y4 y5 y6 y7 y8 y9 y10 y11 y12 y13 y14, LeO (impl_Propose.j2 k y0 y1 y2 y3 y4 y5 y6 y7 y8 y9 y10 y11 y12 y13 y14) (impl_Propose.j2 (k + 1) y0 y1 y2 y3 y4 y5 y6 y7 y8 y9 y10 y11 y12 y13 y14)) ∧ (∀ y0 y1 y2 y3 y4 y5, LeO (impl_Propose.l1 k y0 y1 y2 y3 y4 y5) (impl_Propose.l1 (k + 1) y0 y1 y2 y3 y4 y5))
 | 0 => ⟨fun _ _ _ _ _ r h => by simp [impl_Propose.j0] at h, fun _ _ _ _ _ _ _ _ _ r h => by simp [impl_Propose.l0] at h, fun _ _ _ _ _ _ _ _ _ _ _ _ _ _ _ r h => by simp [impl_Propose.j2] at h, fun _ _ _ _ _ _ r h => by simp [impl_Propose.l1] at h⟩
 | k + 1 => by
  obtain ⟨ih0, ih1, ih2, ih3⟩ := impl_Propose.mono_l k
  refine ⟨?_, ?_, ?_, ?_⟩
  ·intro y0 y1 y2 y3 y4
   unfold impl_Propose.j0
   repeat' first
   | (with_reducible exact ih0 _ _ _ _ _)
   | (with_reducible exact ih1 _ _ _ _ _ _ _ _ _)
   | (with_reducible exact ih2 _ _ _ _ _ _ _ _ _ _ _ _ _ _ _)
   | (with_reducible exact ih3 _ _ _ _ _ _)
   | (with_reducible exact impl_sortBy_int.mono _ _ _)
   | (with_reducible exact LeO.refl _)
   | (with_reducible exact LeO.none _)
   | (with_reducible refine LeO.ite ?_ ?_)
   | (with_reducible refine LeO.bind ?_ (fun _ => ?_))
   | exact ih0 _ _ _ _ _
   | exact ih1 _ _ _ _ _ _ _ _ _
   | exact ih2 _ _ _ _ _ _ _ _ _ _ _ _ _ _ _
   | exact ih3 _ _ _ _ _ _
   | exact impl_sortBy_int.mono _ _ _
   | exact LeO.none _
   | refine LeO.ite ?_ ?_
   | refine LeO.bind ?_ (fun _ => ?_)
  ·intro y0 y1 y2 y3 y4 y5 y6 y7 y8
   unfold impl_Propose.l0
   repeat' first
   | (with_reducible exact ih0 _ _ _ _ _)
   | (with_reducible exact ih1 _ _ _ _ _ _ _ _ _)
   | (with_reducible exact ih2 _ _ _ _ _ _ _ _ _ _ _ _ _ _ _)
   | (with_reducible exact ih3 _ _ _ _ _ _)
   | (with_reducible exact impl_sortBy_int.mono _ _ _)
   | (with_reducible exact LeO.refl _)
   | (with_reducible exact LeO.none _)
   | (with_reducible refine LeO.ite ?_ ?_)
   | (with_reducible refine LeO.bind ?_ (fun _ => ?_))
   | exact ih0 _ _ _ _ _
   | exact ih1 _ _ _ _ _ _ _ _ _
   | exact ih2 _ _ _ _ _ _ _ _ _ _ _ _ _ _ _
   | exact ih3 _ _ _ _ _ _
   | exact impl_sortBy_int.mono _ _ _
   | exact LeO.none _
   | refine LeO.ite ?_ ?_
   | refine LeO.bind ?_ (fun _ => ?_)
  ·intro y0 y1 y2 y3 y4 y5 y6 y7 y8 y9 y10 y11 y12 y13 y14
   unfold impl_Propose.j2
   repeat' first
   | (with_reducible exact ih0 _ _ _ _ _)
   | (with_reducible exact ih1 _ _ _ _ _ _ _ _ _)
   | (with_reducible exact ih2 _ _ _ _ _ _ _ _ _ _ _ _ _ _ _)
   | (with_reducible exact ih3 _ _ _ _ _ _)
   | (with_reducible exact impl_sortBy_int.mono _ _ _)
   | (with_reducible exact LeO.refl _)
   | (with_reducible exact LeO.none _)
   | (with_reducible refine LeO.ite ?_ ?_)
   | (with_reducible refine LeO.bind ?_ (fun _ => ?_))
   | exact ih0 _ _ _ _ _
   | exact ih1 _ _ _ _ _ _ _ _ _
   | exact ih2 _ _ _ _ _ _ _ _ _ _ _ _ _ _ _
   | exact ih3 _ _ _ _ _ _
   | exact impl_sortBy_int.mono _ _ _
   | exact LeO.none _
   | refine LeO.ite ?_ ?_
   | refine LeO.bind ?_ (fun _ => ?_)
  ·intro y0 y1 y2 y3 y4 y5
   unfold impl_Propose.l1
   repeat' first
   | (with_reducible exact ih0 _ _ _ _ _)
   | (with_reducible exact ih1 _ _ _ _ _ _ _ _ _)
   | (with_reducible exact ih2 _ _ _ _ _ _ _ _ _ _ _ _ _ _ _)
   | (with_reducible exact ih3 _ _ _ _ _ _)
   | (with_reducible exact impl_sortBy_int.mono _ _ _)
   | (with_reducible exact LeO.refl _)
   | (with_reducible exact LeO.none _)
   | (with_reducible refine LeO.ite ?_ ?_)
   | (with_reducible refine LeO.bind ?_ (fun _ => ?_))
   | exact ih0 _ _ _ _ _
   | exact ih1 _ _ _ _ _ _ _ _ _
   | exact ih2 _ _ _ _ _ _ _ _ _ _ _ _ _ _ _
   | exact ih3 _ _ _ _ _ _
   | exact impl_sortBy_int.mono _ _ _
   | exact LeO.none _
   | refine LeO.ite ?_ ?_
   | refine LeO.bind ?_ (fun _ => ?_)
theorem impl_Propose.mono : ∀ a0 a1 a2 a3 k, LeO (impl_Propose.f k a0 a1 a2 a3) (impl_Propose.f (k + 1) a0 a1 a2 a3) := by
 intro a0 a1 a2 a3 k
 obtain ⟨ih0, ih1, ih2, ih3⟩ := impl_Propose.mono_l k
 unfold impl_Propose.f
 repeat' first
   | (with_reducible exact ih0 _ _ _ _ _)
   | (with_reducible exact ih1 _ _ _ _ _ _ _ _ _)
   | (with_reducible exact ih2 _ _ _ _ _ _ _ _ _ _ _ _ _ _ _)
   | (with_reducible exact ih3 _ _ _ _ _ _)
   | (with_reducible exact impl_sortBy_int.mono _ _ _)
   | (with_reducible exact LeO.refl _)
   | (with_reducible exact LeO.none _)
   | (with_reducible refine LeO.ite ?_ ?_)
   | (with_reducible refine LeO.bind ?_ (fun _ => ?_))
   | exact ih0 _ _ _ _ _
   | exact ih1 _ _ _ _ _ _ _ _ _
   | exact ih2 _ _ _ _ _ _ _ _ _ _ _ _ _ _ _
   | exact ih3 _ _ _ _ _ _
   | exact impl_sortBy_int.mono _ _ _
   | exact LeO.none _
   | refine LeO.ite ?_ ?_
   | refine LeO.bind ?_ (fun _ => ?_)
set_option maxHeartbeats 8000000 in
set_option maxRecDepth 100000 in
theorem impl_Propose.calls (k : Nat) (A0 : Option Addr) (c0 : Nat) (l0 : List (S129)) (a1 : Int) (a2 : Int) (a3 : Int) (r : List Int) (w : World) (hr0 : Kd.C k129 w A0 l0.length l0) (hc0 : l0.length ≤ c0) (h : impl_Propose.f k l0 a1 a2 a3 = some r) :
  Calls Try.prog 23 #[.slice A0 l0.length c0, .int .i64 a1, .int .i64 a2, .int .i64 a3] w fun e w' => ∃ v0_ : Value, e = .returned (v0_) ∧ Kd.R (Kd.int .i64) 3 w' w.heap.size (fun _ => True) v0_ r ∧ Below w.heap.size w w' := by
 have hu129 := Try.underlying129
 have hmf : ∀ (fn : Fn) (first cap : Array Value) (w : World), (Instr.makeFunc fn first cap).run Try.prog w = .ok (.func fn first cap) w := fun _ _ _ _ => rfl
 have HR0 := Aside0.mk hr0
 have HC0 := Aside0.mk hc0
 clear hr0 hc0
 have HB := Aside0.mk (Below.refl w.heap.size w)
 have H : (if (l0.length : Int) > 100 then (impl_Propose.j0 k a1 a2 a3 true l0) else ((impl_isDay.f a1).bind fun t195 => (if t195 = true then ((impl_isDay.f a2).bind fun t196 => (if t196 = true then (if a2 ≤ a1 then (impl_Propose.j0 k a1 a2 a3 true l0) else ((impl_money.f a3).bind fun t197 => (impl_Propose.j0 k a1 a2 a3 (!t197) l0))) else (impl_Propose.j0 k a1 a2 a3 true l0))) else (impl_Propose.j0 k a1 a2 a3 true l0)))) = some r := h
 clear h
 have HC5 := Aside0.mk H
 clear H
 go_enter Try.func23, Try.ntmps23
 go_upto_region 1 with (first | ((with_reducible refine qv0 (N := 4) rfl ?_); refine qw0 ?hg (N := 4) ?hd (cs := #[.slice A0 l0.length c0]) (t := 38) ?hr ?_; (case hd => rfl); (case hg => rfl); (case hr => first | (go_simp; done) | (go_simp; rfl)); intro gb194 hg w6 hbox hb; have n0_ := Aside0.mk (qo0 (by repeat (first | (with_reducible first | exact HB.out | apply qc0 | apply qa0 | apply qb0) | exact HB.out)) hb); have n1_ := Aside0.mk (hbox); have n2_ := Aside0.mk ((by rw [hg]; exact (qk0 (by repeat (first | (with_reducible first | exact HB.out | apply qc0 | apply qa0 | apply qb0) | exact HB.out))) : w.heap.size ≤ gb194)); have n3_ := Aside0.mk ((by rw [hg]; exact (qk0 (by repeat (first | (with_reducible first | exact HB.out | apply qc0 | apply qa0 | apply qb0) | exact HB.out))) : w.heap.size ≤ gb194)); clear HB; have HB := n0_; have BK194 := n1_; have GW194 := n2_; have GE194 := n3_; clear n0_ n1_ n2_ n3_; clear hb hbox hg))
 (try simp only [Act.put, List.setIfInBounds_toArray, List.set_cons_zero, List.set_cons_succ])
 go_cut [38] (fun v38 wc => ∃ (kq : Nat) (x38_4 : Bool), v38 = .bool x38_4 ∧ Aside0 (impl_Propose.j0 kq a1 a2 a3 x38_4 l0 = some r) ∧ Aside0 (kq ≤ k) ∧ Aside0 (wc.heap[gb194]? = some (.cells #[(.slice A0 l0.length c0)] 38 (0, 0))) ∧ Aside0 (Below w.heap.size w wc))
 case first =>
  have H := HC5.out
  clear HC5
  by_cases c7 : (l0.length : Int) > 100
  ·rw [if_pos c7] at H
   have c7b0 : decide (100 < (l0.length : Int)) = true := decide_eq_true c7
   have c7b1 : decide (100 < l0.length) = true := decide_eq_true (by omega)
   clear c7
   (first | rw [c7b0] | (simp only [i64_w, i32_w]; rw [c7b0]) | skip)
   have H' := Aside0.mk H
   clear H
   have hcz8_0 : w6.cell? ⟨gb194, 0, none⟩ = some (.slice A0 l0.length c0) := (qe0 BK194.out 0).trans rfl
   have hfz8_0 := qd0 BK194.out 0
   go_wp2
   go_meet
   case rel => exact ⟨_, (true), (by first | rfl | (simp; done) | (simp [*]; done)), H', ⟨by first | omega | exact Nat.le_refl _⟩, ⟨by (with_reducible repeat (first | refine qi0 ?_ _ | refine ql0 ?_ | refine qj0 ?_ _)); exact BK194.out⟩, ⟨by repeat (first | (with_reducible first | exact HB.out | apply qc0 | apply qa0 | apply qb0 | refine qh0 ?_ GE194.out) | exact HB.out)⟩⟩
  rw [if_neg c7] at H
  have c7b0 : decide (100 < (l0.length : Int)) = false := decide_eq_false c7
  have c7b1 : decide (100 < l0.length) = false := decide_eq_false (by omega)
  clear c7
  (first | rw [c7b0] | (simp only [i64_w, i32_w]; rw [c7b0]) | skip)
  replace H := Option.bind_eq_some_iff.mp H
  obtain ⟨t195, A90, H⟩ := H
  replace H : (if t195 = true then ((impl_isDay.f a2).bind fun t196 => (if t196 = true then (if a2 ≤ a1 then (impl_Propose.j0 k a1 a2 a3 true l0) else ((impl_money.f a3).bind fun t197 => (impl_Propose.j0 k a1 a2 a3 (!t197) l0))) else (impl_Propose.j0 k a1 a2 a3 true l0))) else (impl_Propose.j0 k a1 a2 a3 true l0)) = some r := H
  have A9 := Aside0.mk A90
  clear A90
  by_cases c10 : t195 = true
  ·subst c10
   have H1 : ((impl_isDay.f a2).bind fun t196 => (if t196 = true then (if a2 ≤ a1 then (impl_Propose.j0 k a1 a2 a3 true l0) else ((impl_money.f a3).bind fun t197 => (impl_Propose.j0 k a1 a2 a3 (!t197) l0))) else (impl_Propose.j0 k a1 a2 a3 true l0))) = some r := by rw [if_pos rfl] at H; exact H
   clear H
   have H := H1
   clear H1
   replace H := Option.bind_eq_some_iff.mp H
   obtain ⟨t196, A110, H⟩ := H
   replace H : (if t196 = true then (if a2 ≤ a1 then (impl_Propose.j0 k a1 a2 a3 true l0) else ((impl_money.f a3).bind fun t197 => (impl_Propose.j0 k a1 a2 a3 (!t197) l0))) else (impl_Propose.j0 k a1 a2 a3 true l0)) = some r := H
   have A11 := Aside0.mk A110
   clear A110
   by_cases c12 : t196 = true
   ·subst c12
    have H1 : (if a2 ≤ a1 then (impl_Propose.j0 k a1 a2 a3 true l0) else ((impl_money.f a3).bind fun t197 => (impl_Propose.j0 k a1 a2 a3 (!t197) l0))) = some r := by rw [if_pos rfl] at H; exact H
    clear H
    have H := H1
    clear H1
    by_cases c13 : a2 ≤ a1
    ·rw [if_pos c13] at H
     have c13b0 : decide (a2 ≤ a1) = true := decide_eq_true c13
     clear c13
     have H' := Aside0.mk H
     clear H
     have hcz14_0 : w6.cell? ⟨gb194, 0, none⟩ = some (.slice A0 l0.length c0) := (qe0 BK194.out 0).trans rfl
     have hfz14_0 := qd0 BK194.out 0
     go_wp2_with (first | (go_at_call 94; (with_reducible refine (impl_isDay.calls a1 true _ A9.out).mono ?_); rintro e w' ⟨rfl, ⟨nd, rfl⟩⟩) | (go_at_call 94; (with_reducible refine (impl_isDay.calls a2 true _ A11.out).mono ?_); rintro e w' ⟨rfl, ⟨nd, rfl⟩⟩))
     go_meet
     case rel => exact ⟨_, (true), (by first | rfl | (simp; done) | (simp [*]; done)), H', ⟨by first | omega | exact Nat.le_refl _⟩, ⟨by (with_reducible repeat (first | refine qi0 ?_ _ | refine ql0 ?_ | refine qj0 ?_ _)); exact BK194.out⟩, ⟨by repeat (first | (with_reducible first | exact HB.out | apply qc0 | apply qa0 | apply qb0 | refine qh0 ?_ GE194.out) | exact HB.out)⟩⟩
    rw [if_neg c13] at H
    have c13b0 : decide (a2 ≤ a1) = false := decide_eq_false c13
    clear c13
    replace H := Option.bind_eq_some_iff.mp H
    obtain ⟨t197, A150, H⟩ := H
    replace H : (impl_Propose.j0 k a1 a2 a3 (!t197) l0) = some r := H
    have A15 := Aside0.mk A150
    clear A150
    have H' := Aside0.mk H
    clear H
    have hcz16_0 : w6.cell? ⟨gb194, 0, none⟩ = some (.slice A0 l0.length c0) := (qe0 BK194.out 0).trans rfl
    have hfz16_0 := qd0 BK194.out 0
    go_wp2_with (first | (go_at_call 94; (with_reducible refine (impl_isDay.calls a1 true _ A9.out).mono ?_); rintro e w' ⟨rfl, ⟨nd, rfl⟩⟩) | (go_at_call 94; (with_reducible refine (impl_isDay.calls a2 true _ A11.out).mono ?_); rintro e w' ⟨rfl, ⟨nd, rfl⟩⟩) | (go_at_call 95; (with_reducible refine (impl_money.calls a3 t197 _ A15.out).mono ?_); rintro e w' ⟨rfl, ⟨nd, rfl⟩⟩))
    go_meet
    case rel => exact ⟨_, (!t197), (by first | rfl | (simp; done) | (simp [*]; done)), H', ⟨by first | omega | exact Nat.le_refl _⟩, ⟨by (with_reducible repeat (first | refine qi0 ?_ _ | refine ql0 ?_ | refine qj0 ?_ _)); exact BK194.out⟩, ⟨by repeat (first | (with_reducible first | exact HB.out | apply qc0 | apply qa0 | apply qb0 | refine qh0 ?_ GE194.out) | exact HB.out)⟩⟩
   replace c12 := Bool.eq_false_iff.mpr c12
   subst c12
   have H1 : (impl_Propose.j0 k a1 a2 a3 true l0) = some r := by rw [if_neg (show ¬ (false = true) by decide)] at H; exact H
   clear H
   have H := H1
   clear H1
   have H' := Aside0.mk H
   clear H
   have hcz17_0 : w6.cell? ⟨gb194, 0, none⟩ = some (.slice A0 l0.length c0) := (qe0 BK194.out 0).trans rfl
   have hfz17_0 := qd0 BK194.out 0
   go_wp2_with (first | (go_at_call 94; (with_reducible refine (impl_isDay.calls a1 true _ A9.out).mono ?_); rintro e w' ⟨rfl, ⟨nd, rfl⟩⟩) | (go_at_call 94; (with_reducible refine (impl_isDay.calls a2 false _ A11.out).mono ?_); rintro e w' ⟨rfl, ⟨nd, rfl⟩⟩))
   go_meet
   case rel => exact ⟨_, (true), (by first | rfl | (simp; done) | (simp [*]; done)), H', ⟨by first | omega | exact Nat.le_refl _⟩, ⟨by (with_reducible repeat (first | refine qi0 ?_ _ | refine ql0 ?_ | refine qj0 ?_ _)); exact BK194.out⟩, ⟨by repeat (first | (with_reducible first | exact HB.out | apply qc0 | apply qa0 | apply qb0 | refine qh0 ?_ GE194.out) | exact HB.out)⟩⟩
  replace c10 := Bool.eq_false_iff.mpr c10
  subst c10
  have H1 : (impl_Propose.j0 k a1 a2 a3 true l0) = some r := by rw [if_neg (show ¬ (false = true) by decide)] at H; exact H
  clear H
  have H := H1
  clear H1
  have H' := Aside0.mk H
  clear H
  have hcz18_0 : w6.cell? ⟨gb194, 0, none⟩ = some (.slice A0 l0.length c0) := (qe0 BK194.out 0).trans rfl
  have hfz18_0 := qd0 BK194.out 0
  go_wp2_with (first | (go_at_call 94; (with_reducible refine (impl_isDay.calls a1 false _ A9.out).mono ?_); rintro e w' ⟨rfl, ⟨nd, rfl⟩⟩))
  go_meet
  case rel => exact ⟨_, (true), (by first | rfl | (simp; done) | (simp [*]; done)), H', ⟨by first | omega | exact Nat.le_refl _⟩, ⟨by (with_reducible repeat (first | refine qi0 ?_ _ | refine ql0 ?_ | refine qj0 ?_ _)); exact BK194.out⟩, ⟨by repeat (first | (with_reducible first | exact HB.out | apply qc0 | apply qa0 | apply qb0 | refine qh0 ?_ GE194.out) | exact HB.out)⟩⟩
 case rest =>
  clear HC5
  try clear c1
  try clear c2
  try clear p2
  try clear c7
  try clear c7b0
  try clear c7b1
  try clear c10
  try clear c12
  try clear c13
  try clear c13b0
  try clear hcz14_0
  try clear hcz16_0
  try clear hcz17_0
  try clear hcz18_0
  try clear hcz8_0
  try clear hfz14_0
  try clear hfz16_0
  try clear hfz17_0
  try clear hfz18_0
  try clear hfz8_0
  obtain ⟨kq, x38_4, rfl, HA, HJ4, BK194, HB⟩ := hcut
  cases kq with
  | zero => exact absurd HA.out (by simp [impl_Propose.j0])
  | succ kj4 =>
   have H := HA.out
   clear HA
   simp only [impl_Propose.j0] at H
   by_cases c19 : x38_4 = true
   ·subst c19
    have H1 : (some ([] : List Int)) = some r := by rw [if_pos rfl] at H; exact H
    clear H
    have H := H1
    clear H1
    obtain rfl := Option.some.inj H
    go_wp2
    go_ret
    exact ⟨_, by first | rfl | (simp [errW_none, errW_some] <;> rfl) | (simp [*, errW_none, errW_some] <;> rfl), by first | exact Kd.R_nil _ _ _ _ _ | exact Kd.N_nil _ _ _ _ _ | exact Kd.V_nil _ _ _ _ _ | exact Kd.Q_nil _ _ _ _ _ | exact Kd.S_nil _ _ _ _ _, by repeat (first | (with_reducible first | exact HB.out | apply qc0 | apply qa0 | apply qb0 | refine qh0 ?_ GE194.out) | exact HB.out)⟩
   replace c19 := Bool.eq_false_iff.mpr c19
   subst c19
   have H1 : (impl_Propose.l0 kj4 a1 a2 a3 (([] : List Int)) (([] : List Int)) l0 (l0.length : Int) 0 l0) = some r := by rw [if_neg (show ¬ (false = true) by decide)] at H; exact H
   clear H
   have H := H1
   clear H1
   obtain ⟨y198, hy198⟩ : ∃ y_ : List Int, y_ = (([] : List Int)) := ⟨_, rfl⟩
   replace H : (impl_Propose.l0 kj4 a1 a2 a3 y198 (([] : List Int)) l0 (l0.length : Int) 0 l0) = some r := by first | (rw [hy198]; with_reducible exact H) | (have H2_ := (Option.bind_some _ _).symm.trans H; rw [hy198]; with_reducible exact H2_) | (have H2_ := (Option.bind_some _ _).symm.trans H; with_reducible exact H2_) | with_reducible exact H | (rw [hy198]; exact H) | exact H
   have Ny198 := Aside0.mk hy198
   clear hy198
   obtain ⟨y201, hy201⟩ : ∃ y_ : List Int, y_ = (([] : List Int)) := ⟨_, rfl⟩
   replace H : (impl_Propose.l0 kj4 a1 a2 a3 y198 y201 l0 (l0.length : Int) 0 l0) = some r := by first | (rw [hy201]; with_reducible exact H) | (have H2_ := (Option.bind_some _ _).symm.trans H; rw [hy201]; with_reducible exact H2_) | (have H2_ := (Option.bind_some _ _).symm.trans H; with_reducible exact H2_) | with_reducible exact H | (rw [hy201]; exact H) | exact H
   have Ny201 := Aside0.mk hy201
   clear hy201
   have H' := Aside0.mk H
   clear H
   go_wp2_with (first | ((with_reducible refine qv0 (N := 39) rfl ?_); refine Kd.R_lit (Kd.int .i64) _ 3 ?hg (N := 39) ?hd (xs := ([] : List Int)) (inner := []) (ok := fun _ => True) (okp := fun _ => True) ?hr ?hp (fun _ hk => hk) trivial (Below.refl _ _) (Nat.le_refl _) (by simp) ?_; (case hd => rfl); (case hg => rfl); (case hr => first | (go_simp; done) | (go_simp; rfl)); (case hp => exact (Reps.none _ _)); intro v199 w20 ho21 hb hg_ hnew_; clear hg_ hnew_; (first | rw [← Ny198.out] at ho21 | (simp only [Int.reduceToNat] at ho21; rw [← Ny198.out] at ho21)); have n0_ := Aside0.mk (Kd.qe1 ho21 (qk0 (by repeat (first | (with_reducible first | exact HB.out | apply qc0 | apply qa0 | apply qb0 | refine qh0 ?_ GE194.out) | exact HB.out)))); have n1_ := Aside0.mk (qa1 (g := gb194) (o := .cells #[.slice A0 l0.length c0] 38 (0, 0)) (by (with_reducible repeat (first | refine qi0 ?_ _ | refine ql0 ?_ | refine qj0 ?_ _)); exact BK194.out) hb); have n2_ := Aside0.mk (qo0 (by repeat (first | (with_reducible first | exact HB.out | apply qc0 | apply qa0 | apply qb0 | refine qh0 ?_ GE194.out) | exact HB.out)) hb); clear BK194; clear HB; have HO200 := n0_; have BK194 := n1_; have HB := n2_; clear n0_ n1_ n2_; clear hb ho21) | ((with_reducible refine qv0 (N := 40) rfl ?_); refine Kd.R_lit (Kd.int .i64) _ 3 ?hg (N := 40) ?hd (xs := ([] : List Int)) (inner := []) (ok := fun _ => True) (okp := fun _ => True) ?hr ?hp (fun _ hk => hk) trivial (Below.refl _ _) (Nat.le_refl _) (by simp) ?_; (case hd => rfl); (case hg => rfl); (case hr => first | (go_simp; done) | (go_simp; rfl)); (case hp => exact (Reps.none _ _)); intro v202 w22 ho23 hb hg_ hnew_; clear hg_ hnew_; (first | rw [← Ny201.out] at ho23 | (simp only [Int.reduceToNat] at ho23; rw [← Ny201.out] at ho23)); have n0_ := Aside0.mk (Kd.qf1 (by (with_reducible repeat (first | apply Kd.qg0 | apply Kd.qf0 | apply Kd.qm0)); exact HO200.out) (Kd.qm1 ho23) hb); have n1_ := Aside0.mk (Kd.qe1 (Kd.qo1 ho23 (Kd.R_lt (by (with_reducible repeat (first | apply Kd.qg0 | apply Kd.qf0 | apply Kd.qm0)); exact HO200.out))) (qk0 (by repeat (first | (with_reducible first | exact HB.out | apply qc0 | apply qa0 | apply qb0 | refine qh0 ?_ GE194.out) | exact HB.out)))); have n2_ := Aside0.mk (qa1 (g := gb194) (o := .cells #[.slice A0 l0.length c0] 38 (0, 0)) (by (with_reducible repeat (first | refine qi0 ?_ _ | refine ql0 ?_ | refine qj0 ?_ _)); exact BK194.out) hb); have n3_ := Aside0.mk (qo0 (by repeat (first | (with_reducible first | exact HB.out | apply qc0 | apply qa0 | apply qb0 | refine qh0 ?_ GE194.out) | exact HB.out)) hb); clear HO200; clear BK194; clear HB; have HO200 := n0_; have HO203 := n1_; have BK194 := n2_; have HB := n3_; clear n0_ n1_ n2_ n3_; clear hb ho23; have hcz24_0 : w22.cell? ⟨gb194, 0, none⟩ = some (.slice A0 l0.length c0) := (qe0 BK194.out 0).trans rfl; have hfz24_0 := qd0 BK194.out 0))
   go_loopg [9, 10, 43] kj4 (fun kq v9 v10 v43 w' => ∃ (x9_2 : List Int) (x10_2 : List Int) (x43_2 : Int), v43 = .int .i64 x43_2 ∧ Aside0 (impl_Propose.l0 kq a1 a2 a3 x9_2 x10_2 l0 (l0.length : Int) x43_2 l0 = some r) ∧ Aside0 (kq ≤ kj4) ∧ Aside0 (Kd.R (Kd.int .i64) 3 w' w.heap.size (fun k_ => some k_ ≠ (v10 : Value).ownBlock) v9 x9_2) ∧ Aside0 (Kd.R (Kd.int .i64) 3 w' w.heap.size (fun k_ => some k_ ≠ (v9 : Value).ownBlock) v10 x10_2) ∧ Aside0 (w'.heap[gb194]? = some (.cells #[(.slice A0 l0.length c0)] 38 (0, 0))) ∧ Aside0 (Below w.heap.size w w'))
   case atStart => exact ⟨(y198), (y201), (0), (by first | rfl | (simp; done) | (simp [*]; done)), H', ⟨Nat.le_refl _⟩, ⟨by (with_reducible repeat (first | apply Kd.qg0 | apply Kd.qf0 | apply Kd.qm0)); exact Kd.qs0 HO200.out (fun _ hk => hk.2)⟩, ⟨by (with_reducible repeat (first | apply Kd.qg0 | apply Kd.qf0 | apply Kd.qm0)); exact Kd.qs0 HO203.out (fun _ hk => hk.2)⟩, ⟨by (with_reducible repeat (first | refine qi0 ?_ _ | refine ql0 ?_ | refine qj0 ?_ _)); exact BK194.out⟩, ⟨by repeat (first | (with_reducible first | exact HB.out | apply qc0 | apply qa0 | apply qb0 | refine qh0 ?_ GE194.out) | exact HB.out)⟩⟩
   case round =>
    clear H'
    try clear c1
    try clear c2
    try clear p2
    try clear c7
    try clear c7b0
    try clear c7b1
    try clear c10
    try clear c12
    try clear c13
    try clear c13b0
    try clear c19
    try clear c23
    try clear hcz14_0
    try clear hcz16_0
    try clear hcz17_0
    try clear hcz18_0
    try clear hcz24_0
    try clear hcz8_0
    try clear hfz14_0
    try clear hfz16_0
    try clear hfz17_0
    try clear hfz18_0
    try clear hfz24_0
    try clear hfz8_0
    try clear p2
    obtain ⟨x9_2, x10_2, x43_2, rfl, HA, HK2, HO_9, HO_10, BK194, HB⟩ := hrel
    cases gk with
    | zero => exact absurd HA.out (by simp [impl_Propose.l0])
    | succ k2 =>
     have H := HA.out
     clear HA
     simp only [impl_Propose.l0] at H
     by_cases c25 : x43_2 < (l0.length : Int)
     ·rw [if_pos c25] at H
      have c25b0 : decide (x43_2 < (l0.length : Int)) = true := decide_eq_true c25
      clear c25
      by_cases c26 : 0 ≤ x43_2
      case neg => rw [if_neg c26] at H; exact absurd H (by simp)
      rw [if_pos c26] at H
      have c26b0 : decide (0 ≤ x43_2) = true := decide_eq_true c26
      clear c26
      by_cases c27 : x43_2 < (l0.length : Int)
      case neg => rw [if_neg c27] at H; exact absurd H (by simp)
      rw [if_pos c27] at H
      have c27b0 : decide (x43_2 < (l0.length : Int)) = true := decide_eq_true c27
      clear c27
      have HC28 := Aside0.mk H
      clear H
      have p204 : 0 ≤ (x43_2 : Int) := of_decide_eq_true (by first | (with_reducible assumption) | assumption)
      have q204 : x43_2 < (l0.length : Int) := of_decide_eq_true (by first | (with_reducible assumption) | assumption)
      obtain ⟨ad204, e204, hx204_0, hx204_1, hx204_2, hx204_3⟩ := at_T129 HR0.out x43_2 p204 q204
      cases e204
      replace hx204_0 := (HB.out.cell (World.block_lt_of_cell? w _ hx204_0)).trans hx204_0
      replace hx204_1 := (HB.out.cell (World.block_lt_of_cell? w _ hx204_1)).trans hx204_1
      replace hx204_2 := (HB.out.cell (World.block_lt_of_cell? w _ hx204_2)).trans hx204_2
      replace hx204_3 := (HB.out.cell (World.block_lt_of_cell? w _ hx204_3)).trans hx204_3
      replace p204 := eq_true p204
      replace q204 := eq_true q204
      go_upto_region 7 with (first | ((with_reducible refine qv0 (N := 12) rfl ?_); refine qw0 ?hg (N := 12) ?hd (cs := #[.int .i64 0, .int .i64 0, .int .i64 0, .int .i64 0]) (t := 129) ?hr ?_; (case hd => rfl); (case hg => rfl); (case hr => first | (go_simp; done) | (go_simp; rfl)); intro gb205 hg w29 hbox hb; have n0_ := Aside0.mk (Kd.qr0 (by (with_reducible repeat (first | apply Kd.qg0 | apply Kd.qf0 | apply Kd.qm0)); exact HO_9.out) hb); have n1_ := Aside0.mk (Kd.qr0 (by (with_reducible repeat (first | apply Kd.qg0 | apply Kd.qf0 | apply Kd.qm0)); exact HO_10.out) hb); have n2_ := Aside0.mk (qa1 (g := gb194) (o := .cells #[.slice (some ad204) l0.length c0] 38 (0, 0)) (by (with_reducible repeat (first | refine qi0 ?_ _ | refine ql0 ?_ | refine qj0 ?_ _)); exact BK194.out) hb); have n3_ := Aside0.mk (qo0 (by repeat (first | (with_reducible first | exact HB.out | apply qc0 | apply qa0 | apply qb0 | refine qh0 ?_ GE194.out) | exact HB.out)) hb); have n4_ := Aside0.mk (hbox); have n5_ := Aside0.mk ((by rw [hg]; exact (qk0 (by repeat (first | (with_reducible first | exact HB.out | apply qc0 | apply qa0 | apply qb0 | refine qh0 ?_ GE194.out) | exact HB.out))) : w.heap.size ≤ gb205)); have n6_ := Aside0.mk ((by rw [hg]; exact (qk0 (by repeat (first | (with_reducible first | exact HB.out | apply qc0 | apply qa0 | apply qb0 | refine qh0 ?_ GE194.out) | exact HB.out))) : w.heap.size ≤ gb205)); have n7_ := Aside0.mk ((by rw [hg]; exact Nat.ne_of_lt (qb1 (g := gb194) (o := .cells #[.slice (some ad204) l0.length c0] 38 (0, 0)) (by (with_reducible repeat (first | refine qi0 ?_ _ | refine ql0 ?_ | refine qj0 ?_ _)); exact BK194.out)) : gb194 ≠ gb205)); have n8_ := Aside0.mk ((by rw [hg]; exact Nat.ne_of_gt (qb1 (g := gb194) (o := .cells #[.slice (some ad204) l0.length c0] 38 (0, 0)) (by (with_reducible repeat (first | refine qi0 ?_ _ | refine ql0 ?_ | refine qj0 ?_ _)); exact BK194.out)) : gb205 ≠ gb194)); clear HO_9; clear HO_10; clear BK194; clear HB; have HO_9 := n0_; have HO_10 := n1_; have BK194 := n2_; have HB := n3_; have BK205 := n4_; have GW205 := n5_; have GE205 := n6_; have NB194_205 := n7_; have NB205_194 := n8_; clear n0_ n1_ n2_ n3_ n4_ n5_ n6_ n7_ n8_; clear hb hbox hg; have hnb30 := NB205_194.out; have hnc30 := NB194_205.out; have hcz31_0 : w29.cell? ⟨gb205, 0, none⟩ = some (.int .i64 0) := (qe0 BK205.out 0).trans rfl; have hcz31_1 : w29.cell? ⟨gb205, 1, none⟩ = some (.int .i64 0) := (qe0 BK205.out 1).trans rfl; have hcz31_2 : w29.cell? ⟨gb205, 2, none⟩ = some (.int .i64 0) := (qe0 BK205.out 2).trans rfl; have hcz31_3 : w29.cell? ⟨gb205, 3, none⟩ = some (.int .i64 0) := (qe0 BK205.out 3).trans rfl; have hfz31_0 := qd0 BK205.out 0; have hfz31_1 := qd0 BK205.out 1; have hfz31_2 := qd0 BK205.out 2; have hfz31_3 := qd0 BK205.out 3))
      (try simp only [Act.put, List.setIfInBounds_toArray, List.set_cons_zero, List.set_cons_succ])
      go_cut [69] (fun v69 wc => ∃ (kq : Nat) (x69_27 : Bool), v69 = .bool x69_27 ∧ Aside0 (impl_Propose.j2 kq a1 a2 a3 x9_2 x10_2 x43_2 l0 (l0.length : Int) x43_2 x69_27 l0 ((rd_T129 l0 x43_2).f0) ((rd_T129 l0 x43_2).f1) ((rd_T129 l0 x43_2).f2) ((rd_T129 l0 x43_2).f3) = some r) ∧ Aside0 (kq ≤ k2) ∧ Aside0 (Kd.R (Kd.int .i64) 3 wc w.heap.size (fun k_ => some k_ ≠ (u10 : Value).ownBlock) u9 x9_2) ∧ Aside0 (Kd.R (Kd.int .i64) 3 wc w.heap.size (fun k_ => some k_ ≠ (u9 : Value).ownBlock) u10 x10_2) ∧ Aside0 (wc.heap[gb194]? = some (.cells #[(.slice (some ad204) l0.length c0)] 38 (0, 0))) ∧ Aside0 (wc.heap[gb205]? = some (.cells #[.int .i64 ((rd_T129 l0 x43_2).f0), .int .i64 ((rd_T129 l0 x43_2).f1), .int .i64 ((rd_T129 l0 x43_2).f2), .int .i64 ((rd_T129 l0 x43_2).f3)] 129 (0, 0))) ∧ Aside0 (Below w.heap.size w wc))
      case first =>
       have H := HC28.out
       clear HC28
       replace H := Option.bind_eq_some_iff.mp H
       obtain ⟨t206, A320, H⟩ := H
       replace H : (if t206 = true then ((impl_isDay.f ((rd_T129 l0 x43_2).f1)).bind fun t207 => (if t207 = true then ((impl_rateOk.f ((rd_T129 l0 x43_2).f2)).bind fun t208 => (if t208 = true then ((impl_between.f ((rd_T129 l0 x43_2).f3) 1 100000000000).bind fun t209 => (impl_Propose.j2 k2 a1 a2 a3 x9_2 x10_2 x43_2 l0 (l0.length : Int) x43_2 (!t209) l0 ((rd_T129 l0 x43_2).f0) ((rd_T129 l0 x43_2).f1) ((rd_T129 l0 x43_2).f2) ((rd_T129 l0 x43_2).f3))) else (impl_Propose.j2 k2 a1 a2 a3 x9_2 x10_2 x43_2 l0 (l0.length : Int) x43_2 true l0 ((rd_T129 l0 x43_2).f0) ((rd_T129 l0 x43_2).f1) ((rd_T129 l0 x43_2).f2) ((rd_T129 l0 x43_2).f3)))) else (impl_Propose.j2 k2 a1 a2 a3 x9_2 x10_2 x43_2 l0 (l0.length : Int) x43_2 true l0 ((rd_T129 l0 x43_2).f0) ((rd_T129 l0 x43_2).f1) ((rd_T129 l0 x43_2).f2) ((rd_T129 l0 x43_2).f3)))) else (impl_Propose.j2 k2 a1 a2 a3 x9_2 x10_2 x43_2 l0 (l0.length : Int) x43_2 true l0 ((rd_T129 l0 x43_2).f0) ((rd_T129 l0 x43_2).f1) ((rd_T129 l0 x43_2).f2) ((rd_T129 l0 x43_2).f3))) = some r := H
       have A32 := Aside0.mk A320
       clear A320
       by_cases c33 : t206 = true
       ·subst c33
        have H1 : ((impl_isDay.f ((rd_T129 l0 x43_2).f1)).bind fun t207 => (if t207 = true then ((impl_rateOk.f ((rd_T129 l0 x43_2).f2)).bind fun t208 => (if t208 = true then ((impl_between.f ((rd_T129 l0 x43_2).f3) 1 100000000000).bind fun t209 => (impl_Propose.j2 k2 a1 a2 a3 x9_2 x10_2 x43_2 l0 (l0.length : Int) x43_2 (!t209) l0 ((rd_T129 l0 x43_2).f0) ((rd_T129 l0 x43_2).f1) ((rd_T129 l0 x43_2).f2) ((rd_T129 l0 x43_2).f3))) else (impl_Propose.j2 k2 a1 a2 a3 x9_2 x10_2 x43_2 l0 (l0.length : Int) x43_2 true l0 ((rd_T129 l0 x43_2).f0) ((rd_T129 l0 x43_2).f1) ((rd_T129 l0 x43_2).f2) ((rd_T129 l0 x43_2).f3)))) else (impl_Propose.j2 k2 a1 a2 a3 x9_2 x10_2 x43_2 l0 (l0.length : Int) x43_2 true l0 ((rd_T129 l0 x43_2).f0) ((rd_T129 l0 x43_2).f1) ((rd_T129 l0 x43_2).f2) ((rd_T129 l0 x43_2).f3)))) = some r := by rw [if_pos rfl] at H; exact H
        clear H
        have H := H1
        clear H1
        replace H := Option.bind_eq_some_iff.mp H
        obtain ⟨t207, A340, H⟩ := H
        replace H : (if t207 = true then ((impl_rateOk.f ((rd_T129 l0 x43_2).f2)).bind fun t208 => (if t208 = true then ((impl_between.f ((rd_T129 l0 x43_2).f3) 1 100000000000).bind fun t209 => (impl_Propose.j2 k2 a1 a2 a3 x9_2 x10_2 x43_2 l0 (l0.length : Int) x43_2 (!t209) l0 ((rd_T129 l0 x43_2).f0) ((rd_T129 l0 x43_2).f1) ((rd_T129 l0 x43_2).f2) ((rd_T129 l0 x43_2).f3))) else (impl_Propose.j2 k2 a1 a2 a3 x9_2 x10_2 x43_2 l0 (l0.length : Int) x43_2 true l0 ((rd_T129 l0 x43_2).f0) ((rd_T129 l0 x43_2).f1) ((rd_T129 l0 x43_2).f2) ((rd_T129 l0 x43_2).f3)))) else (impl_Propose.j2 k2 a1 a2 a3 x9_2 x10_2 x43_2 l0 (l0.length : Int) x43_2 true l0 ((rd_T129 l0 x43_2).f0) ((rd_T129 l0 x43_2).f1) ((rd_T129 l0 x43_2).f2) ((rd_T129 l0 x43_2).f3))) = some r := H
        have A34 := Aside0.mk A340
        clear A340
        by_cases c35 : t207 = true
        ·subst c35
         have H1 : ((impl_rateOk.f ((rd_T129 l0 x43_2).f2)).bind fun t208 => (if t208 = true then ((impl_between.f ((rd_T129 l0 x43_2).f3) 1 100000000000).bind fun t209 => (impl_Propose.j2 k2 a1 a2 a3 x9_2 x10_2 x43_2 l0 (l0.length : Int) x43_2 (!t209) l0 ((rd_T129 l0 x43_2).f0) ((rd_T129 l0 x43_2).f1) ((rd_T129 l0 x43_2).f2) ((rd_T129 l0 x43_2).f3))) else (impl_Propose.j2 k2 a1 a2 a3 x9_2 x10_2 x43_2 l0 (l0.length : Int) x43_2 true l0 ((rd_T129 l0 x43_2).f0) ((rd_T129 l0 x43_2).f1) ((rd_T129 l0 x43_2).f2) ((rd_T129 l0 x43_2).f3)))) = some r := by rw [if_pos rfl] at H; exact H
         clear H
         have H := H1
         clear H1
         replace H := Option.bind_eq_some_iff.mp H
         obtain ⟨t208, A360, H⟩ := H
         replace H : (if t208 = true then ((impl_between.f ((rd_T129 l0 x43_2).f3) 1 100000000000).bind fun t209 => (impl_Propose.j2 k2 a1 a2 a3 x9_2 x10_2 x43_2 l0 (l0.length : Int) x43_2 (!t209) l0 ((rd_T129 l0 x43_2).f0) ((rd_T129 l0 x43_2).f1) ((rd_T129 l0 x43_2).f2) ((rd_T129 l0 x43_2).f3))) else (impl_Propose.j2 k2 a1 a2 a3 x9_2 x10_2 x43_2 l0 (l0.length : Int) x43_2 true l0 ((rd_T129 l0 x43_2).f0) ((rd_T129 l0 x43_2).f1) ((rd_T129 l0 x43_2).f2) ((rd_T129 l0 x43_2).f3))) = some r := H
         have A36 := Aside0.mk A360
         clear A360
         by_cases c37 : t208 = true
         ·subst c37
          have H1 : ((impl_between.f ((rd_T129 l0 x43_2).f3) 1 100000000000).bind fun t209 => (impl_Propose.j2 k2 a1 a2 a3 x9_2 x10_2 x43_2 l0 (l0.length : Int) x43_2 (!t209) l0 ((rd_T129 l0 x43_2).f0) ((rd_T129 l0 x43_2).f1) ((rd_T129 l0 x43_2).f2) ((rd_T129 l0 x43_2).f3))) = some r := by rw [if_pos rfl] at H; exact H
          clear H
          have H := H1
          clear H1
          replace H := Option.bind_eq_some_iff.mp H
          obtain ⟨t209, A380, H⟩ := H
          replace H : (impl_Propose.j2 k2 a1 a2 a3 x9_2 x10_2 x43_2 l0 (l0.length : Int) x43_2 (!t209) l0 ((rd_T129 l0 x43_2).f0) ((rd_T129 l0 x43_2).f1) ((rd_T129 l0 x43_2).f2) ((rd_T129 l0 x43_2).f3)) = some r := H
          have A38 := Aside0.mk A380
          clear A380
          have H' := Aside0.mk H
          clear H
          have hnb39 := NB205_194.out
          have hnc39 := NB194_205.out
          have hcz40_0 : w29.cell? ⟨gb205, 0, none⟩ = some (.int .i64 0) := (qe0 BK205.out 0).trans rfl
          have hcz40_1 : w29.cell? ⟨gb205, 1, none⟩ = some (.int .i64 0) := (qe0 BK205.out 1).trans rfl
          have hcz40_2 : w29.cell? ⟨gb205, 2, none⟩ = some (.int .i64 0) := (qe0 BK205.out 2).trans rfl
          have hcz40_3 : w29.cell? ⟨gb205, 3, none⟩ = some (.int .i64 0) := (qe0 BK205.out 3).trans rfl
          have hfz40_0 := qd0 BK205.out 0
          have hfz40_1 := qd0 BK205.out 1
          have hfz40_2 := qd0 BK205.out 2
          have hfz40_3 := qd0 BK205.out 3
          go_wp2_with (first | ((with_reducible refine qp0 (f := 94) rfl ?_); refine qz0 (some 50) rfl rfl Try.func94 (by kernel_rfl) rfl #[.int .i64 ((rd_T129 l0 x43_2).f0)] rfl (by (try simp only [List.map_toArray, List.map_cons, List.map_nil]); first | done | rfl | (simp only [List.length_drop, List.length_take]; rfl)) ?_; (with_reducible refine (impl_isDay.calls ((rd_T129 l0 x43_2).f0) true _ A32.out).mono ?_); rintro e w' ⟨rfl, ⟨nd, rfl⟩⟩; refine ⟨_, rfl, ?_⟩) | (go_at_call 94; (with_reducible refine (impl_isDay.calls ((rd_T129 l0 x43_2).f1) true _ A34.out).mono ?_); rintro e w' ⟨rfl, ⟨nd, rfl⟩⟩) | (go_at_call 96; (with_reducible refine (impl_rateOk.calls ((rd_T129 l0 x43_2).f2) true _ A36.out).mono ?_); rintro e w' ⟨rfl, ⟨nd, rfl⟩⟩) | (go_at_call 97; (with_reducible refine (impl_between.calls ((rd_T129 l0 x43_2).f3) 1 100000000000 t209 _ A38.out).mono ?_); rintro e w' ⟨rfl, ⟨nd, rfl⟩⟩))
          go_meet
          case rel => exact ⟨_, (!t209), (by first | rfl | (simp; done) | (simp [*]; done)), H', ⟨by have := HJ4.out; have := HK2.out; first | omega | exact Nat.le_refl _⟩, ⟨by (with_reducible repeat (first | apply Kd.qg0 | apply Kd.qf0 | apply Kd.qm0)); exact Kd.qs0 (Kd.R_far (p := ⟨gb205, 3, none⟩) (Kd.R_far (p := ⟨gb205, 2, none⟩) (Kd.R_far (p := ⟨gb205, 1, none⟩) (Kd.R_far (p := ⟨gb205, 0, none⟩) (Kd.qj1 HO_9.out BK205.out (by decide)) (fun _ hk => hk.2) (.int .i64 ((rd_T129 l0 x43_2).f0))) (fun _ hk => hk.2) (.int .i64 ((rd_T129 l0 x43_2).f1))) (fun _ hk => hk.2) (.int .i64 ((rd_T129 l0 x43_2).f2))) (fun _ hk => hk.2) (.int .i64 ((rd_T129 l0 x43_2).f3))) (fun _ hk => hk.1)⟩, ⟨by (with_reducible repeat (first | apply Kd.qg0 | apply Kd.qf0 | apply Kd.qm0)); exact Kd.qs0 (Kd.R_far (p := ⟨gb205, 3, none⟩) (Kd.R_far (p := ⟨gb205, 2, none⟩) (Kd.R_far (p := ⟨gb205, 1, none⟩) (Kd.R_far (p := ⟨gb205, 0, none⟩) (Kd.qj1 HO_10.out BK205.out (by decide)) (fun _ hk => hk.2) (.int .i64 ((rd_T129 l0 x43_2).f0))) (fun _ hk => hk.2) (.int .i64 ((rd_T129 l0 x43_2).f1))) (fun _ hk => hk.2) (.int .i64 ((rd_T129 l0 x43_2).f2))) (fun _ hk => hk.2) (.int .i64 ((rd_T129 l0 x43_2).f3))) (fun _ hk => hk.1)⟩, ⟨by (with_reducible repeat (first | refine qi0 ?_ _ | refine ql0 ?_ | refine qj0 ?_ _)); refine qn1 ?_ NB194_205.out _; (with_reducible repeat (first | refine qi0 ?_ _ | refine ql0 ?_ | refine qj0 ?_ _)); refine qn1 ?_ NB194_205.out _; (with_reducible repeat (first | refine qi0 ?_ _ | refine ql0 ?_ | refine qj0 ?_ _)); refine qn1 ?_ NB194_205.out _; (with_reducible repeat (first | refine qi0 ?_ _ | refine ql0 ?_ | refine qj0 ?_ _)); refine qn1 ?_ NB194_205.out _; (with_reducible repeat (first | refine qi0 ?_ _ | refine ql0 ?_ | refine qj0 ?_ _)); exact BK194.out⟩, ⟨by (with_reducible repeat (first | refine qi0 ?_ _ | refine ql0 ?_ | refine qj0 ?_ _)); refine blk_put (cs := #[.int .i64 ((rd_T129 l0 x43_2).f0), .int .i64 ((rd_T129 l0 x43_2).f1), .int .i64 ((rd_T129 l0 x43_2).f2), .int .i64 0]) ?_ 3 _ rfl; (with_reducible repeat (first | refine qi0 ?_ _ | refine ql0 ?_ | refine qj0 ?_ _)); refine blk_put (cs := #[.int .i64 ((rd_T129 l0 x43_2).f0), .int .i64 ((rd_T129 l0 x43_2).f1), .int .i64 0, .int .i64 0]) ?_ 2 _ rfl; (with_reducible repeat (first | refine qi0 ?_ _ | refine ql0 ?_ | refine qj0 ?_ _)); refine blk_put (cs := #[.int .i64 ((rd_T129 l0 x43_2).f0), .int .i64 0, .int .i64 0, .int .i64 0]) ?_ 1 _ rfl; (with_reducible repeat (first | refine qi0 ?_ _ | refine ql0 ?_ | refine qj0 ?_ _)); refine blk_put (cs := #[.int .i64 0, .int .i64 0, .int .i64 0, .int .i64 0]) ?_ 0 _ rfl; (with_reducible repeat (first | refine qi0 ?_ _ | refine ql0 ?_ | refine qj0 ?_ _)); exact BK205.out⟩, ⟨by repeat (first | (with_reducible first | exact HB.out | apply qc0 | apply qa0 | apply qb0 | refine qh0 ?_ GE194.out | refine qh0 ?_ GE205.out) | exact HB.out)⟩⟩
         replace c37 := Bool.eq_false_iff.mpr c37
         subst c37
         have H1 : (impl_Propose.j2 k2 a1 a2 a3 x9_2 x10_2 x43_2 l0 (l0.length : Int) x43_2 true l0 ((rd_T129 l0 x43_2).f0) ((rd_T129 l0 x43_2).f1) ((rd_T129 l0 x43_2).f2) ((rd_T129 l0 x43_2).f3)) = some r := by rw [if_neg (show ¬ (false = true) by decide)] at H; exact H
         clear H
         have H := H1
         clear H1
         have H' := Aside0.mk H
         clear H
         have hnb41 := NB205_194.out
         have hnc41 := NB194_205.out
         have hcz42_0 : w29.cell? ⟨gb205, 0, none⟩ = some (.int .i64 0) := (qe0 BK205.out 0).trans rfl
         have hcz42_1 : w29.cell? ⟨gb205, 1, none⟩ = some (.int .i64 0) := (qe0 BK205.out 1).trans rfl
         have hcz42_2 : w29.cell? ⟨gb205, 2, none⟩ = some (.int .i64 0) := (qe0 BK205.out 2).trans rfl
         have hcz42_3 : w29.cell? ⟨gb205, 3, none⟩ = some (.int .i64 0) := (qe0 BK205.out 3).trans rfl
         have hfz42_0 := qd0 BK205.out 0
         have hfz42_1 := qd0 BK205.out 1
         have hfz42_2 := qd0 BK205.out 2
         have hfz42_3 := qd0 BK205.out 3
         go_wp2_with (first | ((with_reducible refine qp0 (f := 94) rfl ?_); refine qz0 (some 50) rfl rfl Try.func94 (by kernel_rfl) rfl #[.int .i64 ((rd_T129 l0 x43_2).f0)] rfl (by (try simp only [List.map_toArray, List.map_cons, List.map_nil]); first | done | rfl | (simp only [List.length_drop, List.length_take]; rfl)) ?_; (with_reducible refine (impl_isDay.calls ((rd_T129 l0 x43_2).f0) true _ A32.out).mono ?_); rintro e w' ⟨rfl, ⟨nd, rfl⟩⟩; refine ⟨_, rfl, ?_⟩) | (go_at_call 94; (with_reducible refine (impl_isDay.calls ((rd_T129 l0 x43_2).f1) true _ A34.out).mono ?_); rintro e w' ⟨rfl, ⟨nd, rfl⟩⟩) | (go_at_call 96; (with_reducible refine (impl_rateOk.calls ((rd_T129 l0 x43_2).f2) false _ A36.out).mono ?_); rintro e w' ⟨rfl, ⟨nd, rfl⟩⟩))
         go_meet
         case rel => exact ⟨_, (true), (by first | rfl | (simp; done) | (simp [*]; done)), H', ⟨by have := HJ4.out; have := HK2.out; first | omega | exact Nat.le_refl _⟩, ⟨by (with_reducible repeat (first | apply Kd.qg0 | apply Kd.qf0 | apply Kd.qm0)); exact Kd.qs0 (Kd.R_far (p := ⟨gb205, 3, none⟩) (Kd.R_far (p := ⟨gb205, 2, none⟩) (Kd.R_far (p := ⟨gb205, 1, none⟩) (Kd.R_far (p := ⟨gb205, 0, none⟩) (Kd.qj1 HO_9.out BK205.out (by decide)) (fun _ hk => hk.2) (.int .i64 ((rd_T129 l0 x43_2).f0))) (fun _ hk => hk.2) (.int .i64 ((rd_T129 l0 x43_2).f1))) (fun _ hk => hk.2) (.int .i64 ((rd_T129 l0 x43_2).f2))) (fun _ hk => hk.2) (.int .i64 ((rd_T129 l0 x43_2).f3))) (fun _ hk => hk.1)⟩, ⟨by (with_reducible repeat (first | apply Kd.qg0 | apply Kd.qf0 | apply Kd.qm0)); exact Kd.qs0 (Kd.R_far (p := ⟨gb205, 3, none⟩) (Kd.R_far (p := ⟨gb205, 2, none⟩) (Kd.R_far (p := ⟨gb205, 1, none⟩) (Kd.R_far (p := ⟨gb205, 0, none⟩) (Kd.qj1 HO_10.out BK205.out (by decide)) (fun _ hk => hk.2) (.int .i64 ((rd_T129 l0 x43_2).f0))) (fun _ hk => hk.2) (.int .i64 ((rd_T129 l0 x43_2).f1))) (fun _ hk => hk.2) (.int .i64 ((rd_T129 l0 x43_2).f2))) (fun _ hk => hk.2) (.int .i64 ((rd_T129 l0 x43_2).f3))) (fun _ hk => hk.1)⟩, ⟨by (with_reducible repeat (first | refine qi0 ?_ _ | refine ql0 ?_ | refine qj0 ?_ _)); refine qn1 ?_ NB194_205.out _; (with_reducible repeat (first | refine qi0 ?_ _ | refine ql0 ?_ | refine qj0 ?_ _)); refine qn1 ?_ NB194_205.out _; (with_reducible repeat (first | refine qi0 ?_ _ | refine ql0 ?_ | refine qj0 ?_ _)); refine qn1 ?_ NB194_205.out _; (with_reducible repeat (first | refine qi0 ?_ _ | refine ql0 ?_ | refine qj0 ?_ _)); refine qn1 ?_ NB194_205.out _; (with_reducible repeat (first | refine qi0 ?_ _ | refine ql0 ?_ | refine qj0 ?_ _)); exact BK194.out⟩, ⟨by (with_reducible repeat (first | refine qi0 ?_ _ | refine ql0 ?_ | refine qj0 ?_ _)); refine blk_put (cs := #[.int .i64 ((rd_T129 l0 x43_2).f0), .int .i64 ((rd_T129 l0 x43_2).f1), .int .i64 ((rd_T129 l0 x43_2).f2), .int .i64 0]) ?_ 3 _ rfl; (with_reducible repeat (first | refine qi0 ?_ _ | refine ql0 ?_ | refine qj0 ?_ _)); refine blk_put (cs := #[.int .i64 ((rd_T129 l0 x43_2).f0), .int .i64 ((rd_T129 l0 x43_2).f1), .int .i64 0, .int .i64 0]) ?_ 2 _ rfl; (with_reducible repeat (first | refine qi0 ?_ _ | refine ql0 ?_ | refine qj0 ?_ _)); refine blk_put (cs := #[.int .i64 ((rd_T129 l0 x43_2).f0), .int .i64 0, .int .i64 0, .int .i64 0]) ?_ 1 _ rfl; (with_reducible repeat (first | refine qi0 ?_ _ | refine ql0 ?_ | refine qj0 ?_ _)); refine blk_put (cs := #[.int .i64 0, .int .i64 0, .int .i64 0, .int .i64 0]) ?_ 0 _ rfl; (with_reducible repeat (first | refine qi0 ?_ _ | refine ql0 ?_ | refine qj0 ?_ _)); exact BK205.out⟩, ⟨by repeat (first | (with_reducible first | exact HB.out | apply qc0 | apply qa0 | apply qb0 | refine qh0 ?_ GE194.out | refine qh0 ?_ GE205.out) | exact HB.out)⟩⟩
        replace c35 := Bool.eq_false_iff.mpr c35
        subst c35
        have H1 : (impl_Propose.j2 k2 a1 a2 a3 x9_2 x10_2 x43_2 l0 (l0.length : Int) x43_2 true l0 ((rd_T129 l0 x43_2).f0) ((rd_T129 l0 x43_2).f1) ((rd_T129 l0 x43_2).f2) ((rd_T129 l0 x43_2).f3)) = some r := by rw [if_neg (show ¬ (false = true) by decide)] at H; exact H
        clear H
        have H := H1
        clear H1
        have H' := Aside0.mk H
        clear H
        have hnb43 := NB205_194.out
        have hnc43 := NB194_205.out
        have hcz44_0 : w29.cell? ⟨gb205, 0, none⟩ = some (.int .i64 0) := (qe0 BK205.out 0).trans rfl
        have hcz44_1 : w29.cell? ⟨gb205, 1, none⟩ = some (.int .i64 0) := (qe0 BK205.out 1).trans rfl
        have hcz44_2 : w29.cell? ⟨gb205, 2, none⟩ = some (.int .i64 0) := (qe0 BK205.out 2).trans rfl
        have hcz44_3 : w29.cell? ⟨gb205, 3, none⟩ = some (.int .i64 0) := (qe0 BK205.out 3).trans rfl
        have hfz44_0 := qd0 BK205.out 0
        have hfz44_1 := qd0 BK205.out 1
        have hfz44_2 := qd0 BK205.out 2
        have hfz44_3 := qd0 BK205.out 3
        go_wp2_with (first | ((with_reducible refine qp0 (f := 94) rfl ?_); refine qz0 (some 50) rfl rfl Try.func94 (by kernel_rfl) rfl #[.int .i64 ((rd_T129 l0 x43_2).f0)] rfl (by (try simp only [List.map_toArray, List.map_cons, List.map_nil]); first | done | rfl | (simp only [List.length_drop, List.length_take]; rfl)) ?_; (with_reducible refine (impl_isDay.calls ((rd_T129 l0 x43_2).f0) true _ A32.out).mono ?_); rintro e w' ⟨rfl, ⟨nd, rfl⟩⟩; refine ⟨_, rfl, ?_⟩) | (go_at_call 94; (with_reducible refine (impl_isDay.calls ((rd_T129 l0 x43_2).f1) false _ A34.out).mono ?_); rintro e w' ⟨rfl, ⟨nd, rfl⟩⟩))
        go_meet
        case rel => exact ⟨_, (true), (by first | rfl | (simp; done) | (simp [*]; done)), H', ⟨by have := HJ4.out; have := HK2.out; first | omega | exact Nat.le_refl _⟩, ⟨by (with_reducible repeat (first | apply Kd.qg0 | apply Kd.qf0 | apply Kd.qm0)); exact Kd.qs0 (Kd.R_far (p := ⟨gb205, 3, none⟩) (Kd.R_far (p := ⟨gb205, 2, none⟩) (Kd.R_far (p := ⟨gb205, 1, none⟩) (Kd.R_far (p := ⟨gb205, 0, none⟩) (Kd.qj1 HO_9.out BK205.out (by decide)) (fun _ hk => hk.2) (.int .i64 ((rd_T129 l0 x43_2).f0))) (fun _ hk => hk.2) (.int .i64 ((rd_T129 l0 x43_2).f1))) (fun _ hk => hk.2) (.int .i64 ((rd_T129 l0 x43_2).f2))) (fun _ hk => hk.2) (.int .i64 ((rd_T129 l0 x43_2).f3))) (fun _ hk => hk.1)⟩, ⟨by (with_reducible repeat (first | apply Kd.qg0 | apply Kd.qf0 | apply Kd.qm0)); exact Kd.qs0 (Kd.R_far (p := ⟨gb205, 3, none⟩) (Kd.R_far (p := ⟨gb205, 2, none⟩) (Kd.R_far (p := ⟨gb205, 1, none⟩) (Kd.R_far (p := ⟨gb205, 0, none⟩) (Kd.qj1 HO_10.out BK205.out (by decide)) (fun _ hk => hk.2) (.int .i64 ((rd_T129 l0 x43_2).f0))) (fun _ hk => hk.2) (.int .i64 ((rd_T129 l0 x43_2).f1))) (fun _ hk => hk.2) (.int .i64 ((rd_T129 l0 x43_2).f2))) (fun _ hk => hk.2) (.int .i64 ((rd_T129 l0 x43_2).f3))) (fun _ hk => hk.1)⟩, ⟨by (with_reducible repeat (first | refine qi0 ?_ _ | refine ql0 ?_ | refine qj0 ?_ _)); refine qn1 ?_ NB194_205.out _; (with_reducible repeat (first | refine qi0 ?_ _ | refine ql0 ?_ | refine qj0 ?_ _)); refine qn1 ?_ NB194_205.out _; (with_reducible repeat (first | refine qi0 ?_ _ | refine ql0 ?_ | refine qj0 ?_ _)); refine qn1 ?_ NB194_205.out _; (with_reducible repeat (first | refine qi0 ?_ _ | refine ql0 ?_ | refine qj0 ?_ _)); refine qn1 ?_ NB194_205.out _; (with_reducible repeat (first | refine qi0 ?_ _ | refine ql0 ?_ | refine qj0 ?_ _)); exact BK194.out⟩, ⟨by (with_reducible repeat (first | refine qi0 ?_ _ | refine ql0 ?_ | refine qj0 ?_ _)); refine blk_put (cs := #[.int .i64 ((rd_T129 l0 x43_2).f0), .int .i64 ((rd_T129 l0 x43_2).f1), .int .i64 ((rd_T129 l0 x43_2).f2), .int .i64 0]) ?_ 3 _ rfl; (with_reducible repeat (first | refine qi0 ?_ _ | refine ql0 ?_ | refine qj0 ?_ _)); refine blk_put (cs := #[.int .i64 ((rd_T129 l0 x43_2).f0), .int .i64 ((rd_T129 l0 x43_2).f1), .int .i64 0, .int .i64 0]) ?_ 2 _ rfl; (with_reducible repeat (first | refine qi0 ?_ _ | refine ql0 ?_ | refine qj0 ?_ _)); refine blk_put (cs := #[.int .i64 ((rd_T129 l0 x43_2).f0), .int .i64 0, .int .i64 0, .int .i64 0]) ?_ 1 _ rfl; (with_reducible repeat (first | refine qi0 ?_ _ | refine ql0 ?_ | refine qj0 ?_ _)); refine blk_put (cs := #[.int .i64 0, .int .i64 0, .int .i64 0, .int .i64 0]) ?_ 0 _ rfl; (with_reducible repeat (first | refine qi0 ?_ _ | refine ql0 ?_ | refine qj0 ?_ _)); exact BK205.out⟩, ⟨by repeat (first | (with_reducible first | exact HB.out | apply qc0 | apply qa0 | apply qb0 | refine qh0 ?_ GE194.out | refine qh0 ?_ GE205.out) | exact HB.out)⟩⟩
       replace c33 := Bool.eq_false_iff.mpr c33
       subst c33
       have H1 : (impl_Propose.j2 k2 a1 a2 a3 x9_2 x10_2 x43_2 l0 (l0.length : Int) x43_2 true l0 ((rd_T129 l0 x43_2).f0) ((rd_T129 l0 x43_2).f1) ((rd_T129 l0 x43_2).f2) ((rd_T129 l0 x43_2).f3)) = some r := by rw [if_neg (show ¬ (false = true) by decide)] at H; exact H
       clear H
       have H := H1
       clear H1
       have H' := Aside0.mk H
       clear H
       have hnb45 := NB205_194.out
       have hnc45 := NB194_205.out
       have hcz46_0 : w29.cell? ⟨gb205, 0, none⟩ = some (.int .i64 0) := (qe0 BK205.out 0).trans rfl
       have hcz46_1 : w29.cell? ⟨gb205, 1, none⟩ = some (.int .i64 0) := (qe0 BK205.out 1).trans rfl
       have hcz46_2 : w29.cell? ⟨gb205, 2, none⟩ = some (.int .i64 0) := (qe0 BK205.out 2).trans rfl
       have hcz46_3 : w29.cell? ⟨gb205, 3, none⟩ = some (.int .i64 0) := (qe0 BK205.out 3).trans rfl
       have hfz46_0 := qd0 BK205.out 0
       have hfz46_1 := qd0 BK205.out 1
       have hfz46_2 := qd0 BK205.out 2
       have hfz46_3 := qd0 BK205.out 3
       go_wp2_with (first | ((with_reducible refine qp0 (f := 94) rfl ?_); refine qz0 (some 50) rfl rfl Try.func94 (by kernel_rfl) rfl #[.int .i64 ((rd_T129 l0 x43_2).f0)] rfl (by (try simp only [List.map_toArray, List.map_cons, List.map_nil]); first | done | rfl | (simp only [List.length_drop, List.length_take]; rfl)) ?_; (with_reducible refine (impl_isDay.calls ((rd_T129 l0 x43_2).f0) false _ A32.out).mono ?_); rintro e w' ⟨rfl, ⟨nd, rfl⟩⟩; refine ⟨_, rfl, ?_⟩))
       go_meet
       case rel => exact ⟨_, (true), (by first | rfl | (simp; done) | (simp [*]; done)), H', ⟨by have := HJ4.out; have := HK2.out; first | omega | exact Nat.le_refl _⟩, ⟨by (with_reducible repeat (first | apply Kd.qg0 | apply Kd.qf0 | apply Kd.qm0)); exact Kd.qs0 (Kd.R_far (p := ⟨gb205, 3, none⟩) (Kd.R_far (p := ⟨gb205, 2, none⟩) (Kd.R_far (p := ⟨gb205, 1, none⟩) (Kd.R_far (p := ⟨gb205, 0, none⟩) (Kd.qj1 HO_9.out BK205.out (by decide)) (fun _ hk => hk.2) (.int .i64 ((rd_T129 l0 x43_2).f0))) (fun _ hk => hk.2) (.int .i64 ((rd_T129 l0 x43_2).f1))) (fun _ hk => hk.2) (.int .i64 ((rd_T129 l0 x43_2).f2))) (fun _ hk => hk.2) (.int .i64 ((rd_T129 l0 x43_2).f3))) (fun _ hk => hk.1)⟩, ⟨by (with_reducible repeat (first | apply Kd.qg0 | apply Kd.qf0 | apply Kd.qm0)); exact Kd.qs0 (Kd.R_far (p := ⟨gb205, 3, none⟩) (Kd.R_far (p := ⟨gb205, 2, none⟩) (Kd.R_far (p := ⟨gb205, 1, none⟩) (Kd.R_far (p := ⟨gb205, 0, none⟩) (Kd.qj1 HO_10.out BK205.out (by decide)) (fun _ hk => hk.2) (.int .i64 ((rd_T129 l0 x43_2).f0))) (fun _ hk => hk.2) (.int .i64 ((rd_T129 l0 x43_2).f1))) (fun _ hk => hk.2) (.int .i64 ((rd_T129 l0 x43_2).f2))) (fun _ hk => hk.2) (.int .i64 ((rd_T129 l0 x43_2).f3))) (fun _ hk => hk.1)⟩, ⟨by (with_reducible repeat (first | refine qi0 ?_ _ | refine ql0 ?_ | refine qj0 ?_ _)); refine qn1 ?_ NB194_205.out _; (with_reducible repeat (first | refine qi0 ?_ _ | refine ql0 ?_ | refine qj0 ?_ _)); refine qn1 ?_ NB194_205.out _; (with_reducible repeat (first | refine qi0 ?_ _ | refine ql0 ?_ | refine qj0 ?_ _)); refine qn1 ?_ NB194_205.out _; (with_reducible repeat (first | refine qi0 ?_ _ | refine ql0 ?_ | refine qj0 ?_ _)); refine qn1 ?_ NB194_205.out _; (with_reducible repeat (first | refine qi0 ?_ _ | refine ql0 ?_ | refine qj0 ?_ _)); exact BK194.out⟩, ⟨by (with_reducible repeat (first | refine qi0 ?_ _ | refine ql0 ?_ | refine qj0 ?_ _)); refine blk_put (cs := #[.int .i64 ((rd_T129 l0 x43_2).f0), .int .i64 ((rd_T129 l0 x43_2).f1), .int .i64 ((rd_T129 l0 x43_2).f2), .int .i64 0]) ?_ 3 _ rfl; (with_reducible repeat (first | refine qi0 ?_ _ | refine ql0 ?_ | refine qj0 ?_ _)); refine blk_put (cs := #[.int .i64 ((rd_T129 l0 x43_2).f0), .int .i64 ((rd_T129 l0 x43_2).f1), .int .i64 0, .int .i64 0]) ?_ 2 _ rfl; (with_reducible repeat (first | refine qi0 ?_ _ | refine ql0 ?_ | refine qj0 ?_ _)); refine blk_put (cs := #[.int .i64 ((rd_T129 l0 x43_2).f0), .int .i64 0, .int .i64 0, .int .i64 0]) ?_ 1 _ rfl; (with_reducible repeat (first | refine qi0 ?_ _ | refine ql0 ?_ | refine qj0 ?_ _)); refine blk_put (cs := #[.int .i64 0, .int .i64 0, .int .i64 0, .int .i64 0]) ?_ 0 _ rfl; (with_reducible repeat (first | refine qi0 ?_ _ | refine ql0 ?_ | refine qj0 ?_ _)); exact BK205.out⟩, ⟨by repeat (first | (with_reducible first | exact HB.out | apply qc0 | apply qa0 | apply qb0 | refine qh0 ?_ GE194.out | refine qh0 ?_ GE205.out) | exact HB.out)⟩⟩
      case rest =>
       clear HC28
       try clear c1
       try clear c2
       try clear p2
       try clear q2
       try clear hx2
       try clear c3
       try clear c4
       try clear c7
       try clear c7b0
       try clear c7b1
       try clear c9
       try clear c10
       try clear c12
       try clear c13
       try clear c13b0
       try clear c19
       try clear p20
       try clear q20
       try clear hx20
       try clear c23
       try clear c25
       try clear c25b0
       try clear c26
       try clear c26b0
       try clear c27
       try clear c27b0
       try clear c30
       try clear c33
       try clear c35
       try clear c37
       try clear c39
       try clear c41
       try clear c43
       try clear c45
       try clear hcz14_0
       try clear hcz16_0
       try clear hcz17_0
       try clear hcz18_0
       try clear hcz24_0
       try clear hcz31_0
       try clear hcz31_1
       try clear hcz31_2
       try clear hcz31_3
       try clear hcz40_0
       try clear hcz40_1
       try clear hcz40_2
       try clear hcz40_3
       try clear hcz42_0
       try clear hcz42_1
       try clear hcz42_2
       try clear hcz42_3
       try clear hcz44_0
       try clear hcz44_1
       try clear hcz44_2
       try clear hcz44_3
       try clear hcz46_0
       try clear hcz46_1
       try clear hcz46_2
       try clear hcz46_3
       try clear hcz8_0
       try clear hfz14_0
       try clear hfz16_0
       try clear hfz17_0
       try clear hfz18_0
       try clear hfz24_0
       try clear hfz31_0
       try clear hfz31_1
       try clear hfz31_2
       try clear hfz31_3
       try clear hfz40_0
       try clear hfz40_1
       try clear hfz40_2
       try clear hfz40_3
       try clear hfz42_0
       try clear hfz42_1
       try clear hfz42_2
       try clear hfz42_3
       try clear hfz44_0
       try clear hfz44_1
       try clear hfz44_2
       try clear hfz44_3
       try clear hfz46_0
       try clear hfz46_1
       try clear hfz46_2
       try clear hfz46_3
       try clear hfz8_0
       try clear hx204_0
       try clear hx204_1
       try clear hx204_2
       try clear hx204_3
       try clear p2
       try clear p204
       try clear q204
       obtain ⟨kq, x69_27, rfl, HA, HJ27, HO_9, HO_10, BK194, BK205, HB⟩ := hcut
       cases kq with
       | zero => exact absurd HA.out (by simp [impl_Propose.j2])
       | succ kj27 =>
        have H := HA.out
        clear HA
        simp only [impl_Propose.j2] at H
        by_cases c47 : x69_27 = true
        ·subst c47
         have H1 : (some ([] : List Int)) = some r := by rw [if_pos rfl] at H; exact H
         clear H
         have H := H1
         clear H1
         obtain rfl := Option.some.inj H
         go_wp2
         go_ret
         exact ⟨_, by first | rfl | (simp [errW_none, errW_some] <;> rfl) | (simp [*, errW_none, errW_some] <;> rfl), by first | exact Kd.R_nil _ _ _ _ _ | exact Kd.N_nil _ _ _ _ _ | exact Kd.V_nil _ _ _ _ _ | exact Kd.Q_nil _ _ _ _ _ | exact Kd.S_nil _ _ _ _ _, by repeat (first | (with_reducible first | exact HB.out | apply qc0 | apply qa0 | apply qb0 | refine qh0 ?_ GE194.out | refine qh0 ?_ GE205.out) | exact HB.out)⟩
        replace c47 := Bool.eq_false_iff.mpr c47
        subst c47
        have H1 : (if ((rd_T129 l0 x43_2).f0) ≤ a2 then (if x9_2.length < 17592186044416 then (impl_Propose.l0 kj27 a1 a2 a3 (x9_2 ++ [x43_2]) x10_2 l0 (l0.length : Int) (wrap64 (x43_2 + 1)) l0) else (none)) else (if ((rd_T129 l0 x43_2).f1) ≥ a1 then (if ((rd_T129 l0 x43_2).f1) ≤ a2 then (if ((rd_T129 l0 x43_2).f2) > 0 then (if x10_2.length < 17592186044416 then (impl_Propose.l0 kj27 a1 a2 a3 x9_2 (x10_2 ++ [x43_2]) l0 (l0.length : Int) (wrap64 (x43_2 + 1)) l0) else (none)) else (impl_Propose.l0 kj27 a1 a2 a3 x9_2 x10_2 l0 (l0.length : Int) (wrap64 (x43_2 + 1)) l0)) else (impl_Propose.l0 kj27 a1 a2 a3 x9_2 x10_2 l0 (l0.length : Int) (wrap64 (x43_2 + 1)) l0)) else (impl_Propose.l0 kj27 a1 a2 a3 x9_2 x10_2 l0 (l0.length : Int) (wrap64 (x43_2 + 1)) l0))) = some r := by rw [if_neg (show ¬ (false = true) by decide)] at H; exact H
        clear H
        have H := H1
        clear H1
        by_cases c48 : ((rd_T129 l0 x43_2).f0) ≤ a2
        ·rw [if_pos c48] at H
         have c48b0 : decide (((rd_T129 l0 x43_2).f0) ≤ a2) = true := decide_eq_true c48
         clear c48
         by_cases c49 : x9_2.length < 17592186044416
         case neg => rw [if_neg c49] at H; exact absurd H (by simp)
         rw [if_pos c49] at H
         have LMc49 := Aside0.mk c49
         clear c49
         obtain ⟨y210, hy210⟩ : ∃ y_ : List Int, y_ = (x9_2 ++ [x43_2]) := ⟨_, rfl⟩
         replace H : (impl_Propose.l0 kj27 a1 a2 a3 y210 x10_2 l0 (l0.length : Int) (wrap64 (x43_2 + 1)) l0) = some r := by first | (rw [hy210]; with_reducible exact H) | (have H2_ := (Option.bind_some _ _).symm.trans H; rw [hy210]; with_reducible exact H2_) | (have H2_ := (Option.bind_some _ _).symm.trans H; with_reducible exact H2_) | with_reducible exact H | (rw [hy210]; exact H) | exact H
         have Ny210 := Aside0.mk hy210
         clear hy210
         have H' := Aside0.mk H
         clear H
         have hnb50 := NB205_194.out
         have hnc50 := NB194_205.out
         have hcz51_0 : wc.cell? ⟨gb205, 0, none⟩ = some (.int .i64 ((rd_T129 l0 x43_2).f0)) := (qe0 BK205.out 0).trans rfl
         have hcz51_1 : wc.cell? ⟨gb205, 1, none⟩ = some (.int .i64 ((rd_T129 l0 x43_2).f1)) := (qe0 BK205.out 1).trans rfl
         have hcz51_2 : wc.cell? ⟨gb205, 2, none⟩ = some (.int .i64 ((rd_T129 l0 x43_2).f2)) := (qe0 BK205.out 2).trans rfl
         have hcz51_3 : wc.cell? ⟨gb205, 3, none⟩ = some (.int .i64 ((rd_T129 l0 x43_2).f3)) := (qe0 BK205.out 3).trans rfl
         have hfz51_0 := qd0 BK205.out 0
         have hfz51_1 := qd0 BK205.out 1
         have hfz51_2 := qd0 BK205.out 2
         have hfz51_3 := qd0 BK205.out 3
         go_wp2_with (first | ((with_reducible refine gate_builtin (b := .append) (xs := #[.tmp 75, .tmp 77]) rfl ?_); at_builtin; refine Kd.R_append (Kd.int .i64) (w0 := w) w.heap.size rfl (.tmp 75) (.tmp 77) 33 3 (.int .i64 0) 8 rfl Try.underlying33 info3 rfl (by decide) (by omega) u9 x9_2 x43_2 [.int .i64 x43_2] (fun k_ => some k_ ≠ (u10 : Value).ownBlock) (fun _ => False) rfl rfl ?aP (fun _ hk => hk.elim) ?aF ?aO ?aB ?aS ?aL ?_; (case aP => exact rfl); (case aB => exact (by repeat (first | (with_reducible first | exact HB.out | apply qc0 | apply qa0 | apply qb0 | refine qh0 ?_ GE194.out | refine qh0 ?_ GE205.out) | exact HB.out))); (case aF => exact (fun k_ hk => Kd.fresh' (Kd.R_lt (by (with_reducible repeat (first | apply Kd.qg0 | apply Kd.qf0 | apply Kd.qm0)); exact HO_10.out)) k_ hk)); (case aO => exact (by (with_reducible repeat (first | apply Kd.qg0 | apply Kd.qf0 | apply Kd.qm0)); exact HO_9.out)); (case aS => exact (qk0 (by repeat (first | (with_reducible first | exact HB.out | apply qc0 | apply qa0 | apply qb0 | refine qh0 ?_ GE194.out | refine qh0 ?_ GE205.out) | exact HB.out)))); (case aL => have := LMc49.out; omega); intro v211 w52 ho hb hg hat; rw [← Ny210.out] at ho; have n0_ := Aside0.mk (Kd.qg1 (ok := (fun _ => True)) (by (with_reducible repeat (first | apply Kd.qg0 | apply Kd.qf0 | apply Kd.qm0)); exact Kd.qs0 HO_10.out (fun _ hk => ⟨trivial, hk⟩)) hg hat); have n1_ := Aside0.mk (blk_grown (g := gb194) (o := .cells #[.slice (some ad204) l0.length c0] 38 (0, 0)) (by (with_reducible repeat (first | refine qi0 ?_ _ | refine ql0 ?_ | refine qj0 ?_ _)); exact BK194.out) hg (Kd.R_ne HO_9.out BK194.out (by decide))); have n2_ := Aside0.mk (blk_grown (g := gb205) (o := .cells #[.int .i64 ((rd_T129 l0 x43_2).f0), .int .i64 ((rd_T129 l0 x43_2).f1), .int .i64 ((rd_T129 l0 x43_2).f2), .int .i64 ((rd_T129 l0 x43_2).f3)] 129 (0, 0)) (by (with_reducible repeat (first | refine qi0 ?_ _ | refine ql0 ?_ | refine qj0 ?_ _)); exact BK205.out) hg (Kd.R_ne HO_9.out BK205.out (by decide))); have n3_ := Aside0.mk (hb); have n4_ := Aside0.mk (ho); clear HO_10; clear BK194; clear BK205; clear HB; clear HO_9; have HO_10 := n0_; have BK194 := n1_; have BK205 := n2_; have HB := n3_; have HO212 := n4_; clear n0_ n1_ n2_ n3_ n4_; clear ho hb hg hat))
         go_roundg kj27
         case measure => have := HJ4.out; have := HK2.out; have := HJ27.out; omega
         case rel => exact ⟨(y210), (x10_2), (wrap64 (x43_2 + 1)), (by first | rfl | (simp; done) | (simp [*]; done)), H', ⟨by have := HJ4.out; have := HK2.out; have := HJ27.out; omega⟩, ⟨by (with_reducible repeat (first | apply Kd.qg0 | apply Kd.qf0 | apply Kd.qm0)); exact HO212.out⟩, ⟨by (with_reducible repeat (first | apply Kd.qg0 | apply Kd.qf0 | apply Kd.qm0)); exact Kd.qs0 HO_10.out (fun _ hk => hk.2)⟩, ⟨by (with_reducible repeat (first | refine qi0 ?_ _ | refine ql0 ?_ | refine qj0 ?_ _)); exact BK194.out⟩, ⟨by repeat (first | (with_reducible first | exact HB.out | apply qc0 | apply qa0 | apply qb0 | refine qh0 ?_ GE194.out | refine qh0 ?_ GE205.out) | exact HB.out)⟩⟩
        rw [if_neg c48] at H
        have c48b0 : decide (((rd_T129 l0 x43_2).f0) ≤ a2) = false := decide_eq_false c48
        clear c48
        by_cases c53 : ((rd_T129 l0 x43_2).f1) ≥ a1
        ·rw [if_pos c53] at H
         have c53b0 : decide (a1 ≤ ((rd_T129 l0 x43_2).f1)) = true := decide_eq_true c53
         clear c53
         by_cases c54 : ((rd_T129 l0 x43_2).f1) ≤ a2
         ·rw [if_pos c54] at H
          have c54b0 : decide (((rd_T129 l0 x43_2).f1) ≤ a2) = true := decide_eq_true c54
          clear c54
          by_cases c55 : ((rd_T129 l0 x43_2).f2) > 0
          ·rw [if_pos c55] at H
           have c55b0 : decide (0 < ((rd_T129 l0 x43_2).f2)) = true := decide_eq_true c55
           clear c55
           by_cases c56 : x10_2.length < 17592186044416
           case neg => rw [if_neg c56] at H; exact absurd H (by simp)
           rw [if_pos c56] at H
           have LMc56 := Aside0.mk c56
           clear c56
           obtain ⟨y213, hy213⟩ : ∃ y_ : List Int, y_ = (x10_2 ++ [x43_2]) := ⟨_, rfl⟩
           replace H : (impl_Propose.l0 kj27 a1 a2 a3 x9_2 y213 l0 (l0.length : Int) (wrap64 (x43_2 + 1)) l0) = some r := by first | (rw [hy213]; with_reducible exact H) | (have H2_ := (Option.bind_some _ _).symm.trans H; rw [hy213]; with_reducible exact H2_) | (have H2_ := (Option.bind_some _ _).symm.trans H; with_reducible exact H2_) | with_reducible exact H | (rw [hy213]; exact H) | exact H
           have Ny213 := Aside0.mk hy213
           clear hy213
           have H' := Aside0.mk H
           clear H
           have hnb57 := NB205_194.out
           have hnc57 := NB194_205.out
           have hcz58_0 : wc.cell? ⟨gb205, 0, none⟩ = some (.int .i64 ((rd_T129 l0 x43_2).f0)) := (qe0 BK205.out 0).trans rfl
           have hcz58_1 : wc.cell? ⟨gb205, 1, none⟩ = some (.int .i64 ((rd_T129 l0 x43_2).f1)) := (qe0 BK205.out 1).trans rfl
           have hcz58_2 : wc.cell? ⟨gb205, 2, none⟩ = some (.int .i64 ((rd_T129 l0 x43_2).f2)) := (qe0 BK205.out 2).trans rfl
           have hcz58_3 : wc.cell? ⟨gb205, 3, none⟩ = some (.int .i64 ((rd_T129 l0 x43_2).f3)) := (qe0 BK205.out 3).trans rfl
           have hfz58_0 := qd0 BK205.out 0
           have hfz58_1 := qd0 BK205.out 1
           have hfz58_2 := qd0 BK205.out 2
           have hfz58_3 := qd0 BK205.out 3
           go_wp2_with (first | ((with_reducible refine gate_builtin (b := .append) (xs := #[.tmp 95, .tmp 97]) rfl ?_); at_builtin; refine Kd.R_append (Kd.int .i64) (w0 := w) w.heap.size rfl (.tmp 95) (.tmp 97) 33 3 (.int .i64 0) 8 rfl Try.underlying33 info3 rfl (by decide) (by omega) u10 x10_2 x43_2 [.int .i64 x43_2] (fun k_ => some k_ ≠ (u9 : Value).ownBlock) (fun _ => False) rfl rfl ?aP (fun _ hk => hk.elim) ?aF ?aO ?aB ?aS ?aL ?_; (case aP => exact rfl); (case aB => exact (by repeat (first | (with_reducible first | exact HB.out | apply qc0 | apply qa0 | apply qb0 | refine qh0 ?_ GE194.out | refine qh0 ?_ GE205.out) | exact HB.out))); (case aF => exact (fun k_ hk => Kd.fresh' (Kd.R_lt (by (with_reducible repeat (first | apply Kd.qg0 | apply Kd.qf0 | apply Kd.qm0)); exact HO_9.out)) k_ hk)); (case aO => exact (by (with_reducible repeat (first | apply Kd.qg0 | apply Kd.qf0 | apply Kd.qm0)); exact HO_10.out)); (case aS => exact (qk0 (by repeat (first | (with_reducible first | exact HB.out | apply qc0 | apply qa0 | apply qb0 | refine qh0 ?_ GE194.out | refine qh0 ?_ GE205.out) | exact HB.out)))); (case aL => have := LMc56.out; omega); intro v214 w59 ho hb hg hat; rw [← Ny213.out] at ho; have n0_ := Aside0.mk (Kd.qg1 (ok := (fun _ => True)) (by (with_reducible repeat (first | apply Kd.qg0 | apply Kd.qf0 | apply Kd.qm0)); exact Kd.qs0 HO_9.out (fun _ hk => ⟨trivial, hk⟩)) hg hat); have n1_ := Aside0.mk (blk_grown (g := gb194) (o := .cells #[.slice (some ad204) l0.length c0] 38 (0, 0)) (by (with_reducible repeat (first | refine qi0 ?_ _ | refine ql0 ?_ | refine qj0 ?_ _)); exact BK194.out) hg (Kd.R_ne HO_10.out BK194.out (by decide))); have n2_ := Aside0.mk (blk_grown (g := gb205) (o := .cells #[.int .i64 ((rd_T129 l0 x43_2).f0), .int .i64 ((rd_T129 l0 x43_2).f1), .int .i64 ((rd_T129 l0 x43_2).f2), .int .i64 ((rd_T129 l0 x43_2).f3)] 129 (0, 0)) (by (with_reducible repeat (first | refine qi0 ?_ _ | refine ql0 ?_ | refine qj0 ?_ _)); exact BK205.out) hg (Kd.R_ne HO_10.out BK205.out (by decide))); have n3_ := Aside0.mk (hb); have n4_ := Aside0.mk (ho); clear HO_9; clear BK194; clear BK205; clear HB; clear HO_10; have HO_9 := n0_; have BK194 := n1_; have BK205 := n2_; have HB := n3_; have HO215 := n4_; clear n0_ n1_ n2_ n3_ n4_; clear ho hb hg hat))
           go_roundg kj27
           case measure => have := HJ4.out; have := HK2.out; have := HJ27.out; omega
           case rel => exact ⟨(x9_2), (y213), (wrap64 (x43_2 + 1)), (by first | rfl | (simp; done) | (simp [*]; done)), H', ⟨by have := HJ4.out; have := HK2.out; have := HJ27.out; omega⟩, ⟨by (with_reducible repeat (first | apply Kd.qg0 | apply Kd.qf0 | apply Kd.qm0)); exact Kd.qs0 HO_9.out (fun _ hk => hk.2)⟩, ⟨by (with_reducible repeat (first | apply Kd.qg0 | apply Kd.qf0 | apply Kd.qm0)); exact HO215.out⟩, ⟨by (with_reducible repeat (first | refine qi0 ?_ _ | refine ql0 ?_ | refine qj0 ?_ _)); exact BK194.out⟩, ⟨by repeat (first | (with_reducible first | exact HB.out | apply qc0 | apply qa0 | apply qb0 | refine qh0 ?_ GE194.out | refine qh0 ?_ GE205.out) | exact HB.out)⟩⟩
          rw [if_neg c55] at H
          have c55b0 : decide (0 < ((rd_T129 l0 x43_2).f2)) = false := decide_eq_false c55
          clear c55
          have H' := Aside0.mk H
          clear H
          have hnb60 := NB205_194.out
          have hnc60 := NB194_205.out
          have hcz61_0 : wc.cell? ⟨gb205, 0, none⟩ = some (.int .i64 ((rd_T129 l0 x43_2).f0)) := (qe0 BK205.out 0).trans rfl
          have hcz61_1 : wc.cell? ⟨gb205, 1, none⟩ = some (.int .i64 ((rd_T129 l0 x43_2).f1)) := (qe0 BK205.out 1).trans rfl
          have hcz61_2 : wc.cell? ⟨gb205, 2, none⟩ = some (.int .i64 ((rd_T129 l0 x43_2).f2)) := (qe0 BK205.out 2).trans rfl
          have hcz61_3 : wc.cell? ⟨gb205, 3, none⟩ = some (.int .i64 ((rd_T129 l0 x43_2).f3)) := (qe0 BK205.out 3).trans rfl
          have hfz61_0 := qd0 BK205.out 0
          have hfz61_1 := qd0 BK205.out 1
          have hfz61_2 := qd0 BK205.out 2
          have hfz61_3 := qd0 BK205.out 3
          go_wp2
          go_roundg kj27
          case measure => have := HJ4.out; have := HK2.out; have := HJ27.out; omega
          case rel => exact ⟨(x9_2), (x10_2), (wrap64 (x43_2 + 1)), (by first | rfl | (simp; done) | (simp [*]; done)), H', ⟨by have := HJ4.out; have := HK2.out; have := HJ27.out; omega⟩, ⟨by (with_reducible repeat (first | apply Kd.qg0 | apply Kd.qf0 | apply Kd.qm0)); exact HO_9.out⟩, ⟨by (with_reducible repeat (first | apply Kd.qg0 | apply Kd.qf0 | apply Kd.qm0)); exact HO_10.out⟩, ⟨by (with_reducible repeat (first | refine qi0 ?_ _ | refine ql0 ?_ | refine qj0 ?_ _)); exact BK194.out⟩, ⟨by repeat (first | (with_reducible first | exact HB.out | apply qc0 | apply qa0 | apply qb0 | refine qh0 ?_ GE194.out | refine qh0 ?_ GE205.out) | exact HB.out)⟩⟩
         rw [if_neg c54] at H
         have c54b0 : decide (((rd_T129 l0 x43_2).f1) ≤ a2) = false := decide_eq_false c54
         clear c54
         have H' := Aside0.mk H
         clear H
         have hnb62 := NB205_194.out
         have hnc62 := NB194_205.out
         have hcz63_0 : wc.cell? ⟨gb205, 0, none⟩ = some (.int .i64 ((rd_T129 l0 x43_2).f0)) := (qe0 BK205.out 0).trans rfl
         have hcz63_1 : wc.cell? ⟨gb205, 1, none⟩ = some (.int .i64 ((rd_T129 l0 x43_2).f1)) := (qe0 BK205.out 1).trans rfl
         have hcz63_2 : wc.cell? ⟨gb205, 2, none⟩ = some (.int .i64 ((rd_T129 l0 x43_2).f2)) := (qe0 BK205.out 2).trans rfl
         have hcz63_3 : wc.cell? ⟨gb205, 3, none⟩ = some (.int .i64 ((rd_T129 l0 x43_2).f3)) := (qe0 BK205.out 3).trans rfl
         have hfz63_0 := qd0 BK205.out 0
         have hfz63_1 := qd0 BK205.out 1
         have hfz63_2 := qd0 BK205.out 2
         have hfz63_3 := qd0 BK205.out 3
         go_wp2
         go_roundg kj27
         case measure => have := HJ4.out; have := HK2.out; have := HJ27.out; omega
         case rel => exact ⟨(x9_2), (x10_2), (wrap64 (x43_2 + 1)), (by first | rfl | (simp; done) | (simp [*]; done)), H', ⟨by have := HJ4.out; have := HK2.out; have := HJ27.out; omega⟩, ⟨by (with_reducible repeat (first | apply Kd.qg0 | apply Kd.qf0 | apply Kd.qm0)); exact HO_9.out⟩, ⟨by (with_reducible repeat (first | apply Kd.qg0 | apply Kd.qf0 | apply Kd.qm0)); exact HO_10.out⟩, ⟨by (with_reducible repeat (first | refine qi0 ?_ _ | refine ql0 ?_ | refine qj0 ?_ _)); exact BK194.out⟩, ⟨by repeat (first | (with_reducible first | exact HB.out | apply qc0 | apply qa0 | apply qb0 | refine qh0 ?_ GE194.out | refine qh0 ?_ GE205.out) | exact HB.out)⟩⟩
        rw [if_neg c53] at H
        have c53b0 : decide (a1 ≤ ((rd_T129 l0 x43_2).f1)) = false := decide_eq_false c53
        clear c53
        have H' := Aside0.mk H
        clear H
        have hnb64 := NB205_194.out
        have hnc64 := NB194_205.out
        have hcz65_0 : wc.cell? ⟨gb205, 0, none⟩ = some (.int .i64 ((rd_T129 l0 x43_2).f0)) := (qe0 BK205.out 0).trans rfl
        have hcz65_1 : wc.cell? ⟨gb205, 1, none⟩ = some (.int .i64 ((rd_T129 l0 x43_2).f1)) := (qe0 BK205.out 1).trans rfl
        have hcz65_2 : wc.cell? ⟨gb205, 2, none⟩ = some (.int .i64 ((rd_T129 l0 x43_2).f2)) := (qe0 BK205.out 2).trans rfl
        have hcz65_3 : wc.cell? ⟨gb205, 3, none⟩ = some (.int .i64 ((rd_T129 l0 x43_2).f3)) := (qe0 BK205.out 3).trans rfl
        have hfz65_0 := qd0 BK205.out 0
        have hfz65_1 := qd0 BK205.out 1
        have hfz65_2 := qd0 BK205.out 2
        have hfz65_3 := qd0 BK205.out 3
        go_wp2
        go_roundg kj27
        case measure => have := HJ4.out; have := HK2.out; have := HJ27.out; omega
        case rel => exact ⟨(x9_2), (x10_2), (wrap64 (x43_2 + 1)), (by first | rfl | (simp; done) | (simp [*]; done)), H', ⟨by have := HJ4.out; have := HK2.out; have := HJ27.out; omega⟩, ⟨by (with_reducible repeat (first | apply Kd.qg0 | apply Kd.qf0 | apply Kd.qm0)); exact HO_9.out⟩, ⟨by (with_reducible repeat (first | apply Kd.qg0 | apply Kd.qf0 | apply Kd.qm0)); exact HO_10.out⟩, ⟨by (with_reducible repeat (first | refine qi0 ?_ _ | refine ql0 ?_ | refine qj0 ?_ _)); exact BK194.out⟩, ⟨by repeat (first | (with_reducible first | exact HB.out | apply qc0 | apply qa0 | apply qb0 | refine qh0 ?_ GE194.out | refine qh0 ?_ GE205.out) | exact HB.out)⟩⟩
     rw [if_neg c25] at H
     have c25b0 : decide (x43_2 < (l0.length : Int)) = false := decide_eq_false c25
     clear c25
     replace H := Option.bind_eq_some_iff.mp H
     obtain ⟨t216, A660, H⟩ := H
     replace H : ((impl_sortBy_int.f k2 x10_2 (fun a_ b_ => impl_Propose_2.f a_ b_ l0)).bind fun t217 => (if t216.length + t217.length < 17592186044416 then ((some (t216 ++ t217 : List Int)).bind fun y221 => (impl_Propose.l1 k2 a3 (([] : List Int)) y221 (y221.length : Int) 0 l0)) else (none))) = some r := H
     have A66 := Aside0.mk A660
     clear A660
     replace H := Option.bind_eq_some_iff.mp H
     obtain ⟨t217, A670, H⟩ := H
     replace H : (if t216.length + t217.length < 17592186044416 then ((some (t216 ++ t217 : List Int)).bind fun y221 => (impl_Propose.l1 k2 a3 (([] : List Int)) y221 (y221.length : Int) 0 l0)) else (none)) = some r := H
     have A67 := Aside0.mk A670
     clear A670
     obtain ⟨y218, hy218⟩ : ∃ y_ : List Int, y_ = (([] : List Int)) := ⟨_, rfl⟩
     replace H : (if t216.length + t217.length < 17592186044416 then ((some (t216 ++ t217 : List Int)).bind fun y221 => (impl_Propose.l1 k2 a3 y218 y221 (y221.length : Int) 0 l0)) else (none)) = some r := by first | (rw [hy218]; with_reducible exact H) | (have H2_ := (Option.bind_some _ _).symm.trans H; rw [hy218]; with_reducible exact H2_) | (have H2_ := (Option.bind_some _ _).symm.trans H; with_reducible exact H2_) | with_reducible exact H | (rw [hy218]; exact H) | exact H
     have Ny218 := Aside0.mk hy218
     clear hy218
     by_cases c68 : t216.length + t217.length < 17592186044416
     case neg => rw [if_neg c68] at H; exact absurd H (by simp)
     rw [if_pos c68] at H
     have LMc68 := Aside0.mk c68
     clear c68
     obtain ⟨y221, hy221⟩ : ∃ y_ : List Int, y_ = (t216 ++ t217) := ⟨_, rfl⟩
     replace H : (impl_Propose.l1 k2 a3 y218 y221 (y221.length : Int) 0 l0) = some r := by first | (rw [hy221]; with_reducible exact H) | (have H2_ := (Option.bind_some _ _).symm.trans H; rw [hy221]; with_reducible exact H2_) | (have H2_ := (Option.bind_some _ _).symm.trans H; with_reducible exact H2_) | with_reducible exact H | (rw [hy221]; exact H) | exact H
     have Ny221 := Aside0.mk hy221
     clear hy221
     have H' := Aside0.mk H
     clear H
     obtain ⟨Ao69, co69, eo69⟩ := Kd.qd1 HO_9.out
     subst eo69
     go_wp2_with (first | ((with_reducible refine qp0 (f := 98) rfl ?_); refine qz0 (some 102) rfl rfl Try.func98 (by kernel_rfl) rfl #[.slice Ao69 x9_2.length co69, .func (.func 99) #[] (#[.pointer (some ⟨gb194, 0, none⟩)])] rfl (by (try simp only [List.map_toArray, List.map_cons, List.map_nil]); first | done | rfl | (simp only [List.length_drop, List.length_take]; rfl)) ?_; (with_reducible refine (impl_sortBy_int.calls k2 (fun k_ => some k_ = (.slice Ao69 x9_2.length co69 : Value).ownBlock) (.slice Ao69 x9_2.length co69) x9_2 99 (#[.pointer (some ⟨gb194, 0, none⟩)]) (fun a_ b_ => impl_Propose_1.f a_ b_ l0) t216 w _ ?side1 ?side2 ?side3 A66.out).mono ?_); (case side1 => repeat (first | (with_reducible first | exact HB.out | apply qc0 | apply qa0 | apply qb0 | refine qh0 ?_ GE194.out) | exact HB.out)); (case side2 => exact Kd.R_tight rfl HO_9.out); (case side3 => exact fun W_ h_ => impl_Propose_1.ok W_ (blk_kept (by (with_reducible repeat (first | refine qi0 ?_ _ | refine ql0 ?_ | refine qj0 ?_ _)); exact BK194.out) h_ (fun hs_ => (fun e_ => (Kd.R_ne HO_9.out BK194.out (by decide)) e_) hs_)) ((Kd.C_kept_came k129_heap HR0.out (by repeat (first | (with_reducible first | exact HB.out | apply qc0 | apply qa0 | apply qb0 | refine qh0 ?_ GE194.out) | exact HB.out)) (fun k_ hs_ => (fun e_ => Kd.qm1 HO_9.out k_ e_.symm) hs_)) W_ h_) HC0.out); rintro e w70 ⟨rfl, hy0, hb, hkp⟩; refine ⟨_, rfl, ?_⟩; have n0_ := Aside0.mk (Kd.R_reok rfl hy0 (fun k_ e_ => HO_9.out.1 k_ e_)); have n1_ := Aside0.mk (Kd.qs0 (ok' := fun k_ => some k_ ≠ (.slice Ao69 x9_2.length co69 : Value).ownBlock) (Kd.R_keptB (HO_10.out) hkp (fun k_ hk_ hs_ => (hk_) hs_)) (fun k_ hk_ => hk_.1)); have n2_ := Aside0.mk (blk_kept (by (with_reducible repeat (first | refine qi0 ?_ _ | refine ql0 ?_ | refine qj0 ?_ _)); exact BK194.out) hkp (fun hs_ => (fun e_ => (Kd.R_ne HO_9.out BK194.out (by decide)) e_) hs_)); have n3_ := Aside0.mk (hb); clear HO_9; clear HO_10; clear BK194; clear HB; have HO_9 := n0_; have HO_10 := n1_; have BK194 := n2_; have HB := n3_; clear n0_ n1_ n2_ n3_; (try clear hb); (try clear hkp); (try clear hy0); obtain ⟨Ao71, co71, eo71⟩ := Kd.qd1 HO_10.out; subst eo71) | ((with_reducible refine qp0 (f := 98) rfl ?_); refine qz0 (some 105) rfl rfl Try.func98 (by kernel_rfl) rfl #[.slice Ao71 x10_2.length co71, .func (.func 100) #[] (#[.pointer (some ⟨gb194, 0, none⟩)])] rfl (by (try simp only [List.map_toArray, List.map_cons, List.map_nil]); first | done | rfl | (simp only [List.length_drop, List.length_take]; rfl)) ?_; (with_reducible refine (impl_sortBy_int.calls k2 (fun k_ => some k_ = (.slice Ao71 x10_2.length co71 : Value).ownBlock) (.slice Ao71 x10_2.length co71) x10_2 100 (#[.pointer (some ⟨gb194, 0, none⟩)]) (fun a_ b_ => impl_Propose_2.f a_ b_ l0) t217 w _ ?side1 ?side2 ?side3 A67.out).mono ?_); (case side1 => repeat (first | (with_reducible first | exact HB.out | apply qc0 | apply qa0 | apply qb0 | refine qh0 ?_ GE194.out) | exact HB.out)); (case side2 => exact Kd.R_tight rfl HO_10.out); (case side3 => exact fun W_ h_ => impl_Propose_2.ok W_ (blk_kept (by (with_reducible repeat (first | refine qi0 ?_ _ | refine ql0 ?_ | refine qj0 ?_ _)); exact BK194.out) h_ (fun hs_ => (fun e_ => (Kd.R_ne HO_10.out BK194.out (by decide)) e_) hs_)) ((Kd.C_kept_came k129_heap HR0.out (by repeat (first | (with_reducible first | exact HB.out | apply qc0 | apply qa0 | apply qb0 | refine qh0 ?_ GE194.out) | exact HB.out)) (fun k_ hs_ => (fun e_ => Kd.qm1 HO_10.out k_ e_.symm) hs_)) W_ h_) HC0.out); rintro e w72 ⟨rfl, hy0, hb, hkp⟩; refine ⟨_, rfl, ?_⟩; have n0_ := Aside0.mk (Kd.qs0 (ok' := fun k_ => some k_ ≠ (.slice Ao71 x10_2.length co71 : Value).ownBlock) (Kd.R_keptB (HO_9.out) hkp (fun k_ hk_ hs_ => (hk_) hs_)) (fun k_ hk_ => hk_.1)); have n1_ := Aside0.mk (Kd.R_reok rfl hy0 (fun k_ e_ => HO_10.out.1 k_ e_)); have n2_ := Aside0.mk (blk_kept (by (with_reducible repeat (first | refine qi0 ?_ _ | refine ql0 ?_ | refine qj0 ?_ _)); exact BK194.out) hkp (fun hs_ => (fun e_ => (Kd.R_ne HO_10.out BK194.out (by decide)) e_) hs_)); have n3_ := Aside0.mk (hb); clear HO_9; clear HO_10; clear BK194; clear HB; have HO_9 := n0_; have HO_10 := n1_; have BK194 := n2_; have HB := n3_; clear n0_ n1_ n2_ n3_; (try clear hb); (try clear hkp); (try clear hy0)) | ((with_reducible refine qv0 (N := 106) rfl ?_); refine Kd.R_lit (Kd.int .i64) _ 3 ?hg (N := 106) ?hd (xs := ([] : List Int)) (inner := []) (ok := fun _ => True) (okp := fun _ => True) ?hr ?hp (fun _ hk => hk) trivial (Below.refl _ _) (Nat.le_refl _) (by simp) ?_; (case hd => rfl); (case hg => rfl); (case hr => first | (go_simp; done) | (go_simp; rfl)); (case hp => exact (Reps.none _ _)); intro v219 w73 ho74 hb hg_ hnew_; clear hg_ hnew_; (first | rw [← Ny218.out] at ho74 | (simp only [Int.reduceToNat] at ho74; rw [← Ny218.out] at ho74)); have n0_ := Aside0.mk (Kd.qf1 (by (with_reducible repeat (first | apply Kd.qg0 | apply Kd.qf0 | apply Kd.qm0)); exact HO_9.out) (Kd.qm1 ho74) hb); have n1_ := Aside0.mk (Kd.qf1 (by (with_reducible repeat (first | apply Kd.qg0 | apply Kd.qf0 | apply Kd.qm0)); exact HO_10.out) (Kd.qm1 ho74) hb); have n2_ := Aside0.mk (Kd.qe1 (Kd.qo1 (Kd.qo1 ho74 (Kd.R_lt (by (with_reducible repeat (first | apply Kd.qg0 | apply Kd.qf0 | apply Kd.qm0)); exact HO_9.out))) (Kd.R_lt (by (with_reducible repeat (first | apply Kd.qg0 | apply Kd.qf0 | apply Kd.qm0)); exact HO_10.out))) (qk0 (by repeat (first | (with_reducible first | exact HB.out | apply qc0 | apply qa0 | apply qb0 | refine qh0 ?_ GE194.out) | exact HB.out)))); have n3_ := Aside0.mk (qa1 (g := gb194) (o := .cells #[.slice A0 l0.length c0] 38 (0, 0)) (by (with_reducible repeat (first | refine qi0 ?_ _ | refine ql0 ?_ | refine qj0 ?_ _)); exact BK194.out) hb); have n4_ := Aside0.mk (qo0 (by repeat (first | (with_reducible first | exact HB.out | apply qc0 | apply qa0 | apply qb0 | refine qh0 ?_ GE194.out) | exact HB.out)) hb); clear HO_9; clear HO_10; clear BK194; clear HB; have HO_9 := n0_; have HO_10 := n1_; have HO220 := n2_; have BK194 := n3_; have HB := n4_; clear n0_ n1_ n2_ n3_ n4_; clear hb ho74) | ((with_reducible refine gate_builtin (b := .append) (xs := #[.tmp 107, .tmp 108]) rfl ?_); at_builtin; refine Kd.R_append_rows (Kd.int .i64) (w0 := w) w.heap.size rfl (.tmp 107) (.tmp 108) 33 3 (.int .i64 0) 8 rfl Try.underlying33 info3 rfl (by decide) (by omega) (.slice Ao69 x9_2.length co69) t216 t217 _ _ _ (fun k_ => some k_ ≠ (.slice Ao71 x10_2.length co71 : Value).ownBlock ∧ some k_ ≠ (v219 : Value).ownBlock) (fun _ => False) rfl rfl ?aO ?aR (fun _ _ h => h) (fun _ h => h.elim) ?aF ?aB ?aS ?aL ?_; (case aR => rw [show x10_2.length = t217.length from (Kd.qn0 HO_10.out).1]; repeat (first | exact (Kd.qn0 HO_10.out).2.2 | (with_reducible refine Kd.qu0 ?_ _) | (with_reducible refine Kd.qt0 ?_ _) | (with_reducible refine Kd.qx0 ?_))); (case aB => exact (by repeat (first | (with_reducible first | exact HB.out | apply qc0 | apply qa0 | apply qb0 | refine qh0 ?_ GE194.out) | exact HB.out))); (case aF => exact (fun k_ hk => ⟨Kd.fresh' (Kd.R_lt (by (with_reducible repeat (first | apply Kd.qg0 | apply Kd.qf0 | apply Kd.qm0)); exact HO_10.out)) k_ hk, Kd.fresh' (Kd.R_lt (by (with_reducible repeat (first | apply Kd.qg0 | apply Kd.qf0 | apply Kd.qm0)); exact HO220.out)) k_ hk⟩)); (case aO => exact (by (with_reducible repeat (first | apply Kd.qg0 | apply Kd.qf0 | apply Kd.qm0)); exact HO_9.out)); (case aS => exact (qk0 (by repeat (first | (with_reducible first | exact HB.out | apply qc0 | apply qa0 | apply qb0 | refine qh0 ?_ GE194.out) | exact HB.out)))); (case aL => have := LMc68.out; have hlx_ := (Kd.qn0 HO_10.out).1; omega); intro v222 w75 ho hb hg hat; rw [← Ny221.out] at ho; have n0_ := Aside0.mk (Kd.qg1 (ok := (fun k_ => some k_ ≠ (v219 : Value).ownBlock)) (by (with_reducible repeat (first | apply Kd.qg0 | apply Kd.qf0 | apply Kd.qm0)); exact Kd.qs0 HO_10.out (fun _ hk => ⟨hk.2, hk.1⟩)) hg hat); have n1_ := Aside0.mk (blk_grown (g := gb194) (o := .cells #[.slice A0 l0.length c0] 38 (0, 0)) (by (with_reducible repeat (first | refine qi0 ?_ _ | refine ql0 ?_ | refine qj0 ?_ _)); exact BK194.out) hg (Kd.R_ne HO_9.out BK194.out (by decide))); have n2_ := Aside0.mk (Kd.qg1 (ok := (fun k_ => some k_ ≠ (.slice Ao71 x10_2.length co71 : Value).ownBlock)) (by (with_reducible repeat (first | apply Kd.qg0 | apply Kd.qf0 | apply Kd.qm0)); exact Kd.qs0 HO220.out (fun _ hk => ⟨hk.2, hk.1.2⟩)) hg hat); have n3_ := Aside0.mk (hb); have n4_ := Aside0.mk (ho); clear HO_10; clear BK194; clear HO220; clear HB; clear HO_9; have HO_10 := n0_; have BK194 := n1_; have HO220 := n2_; have HB := n3_; have HO223 := n4_; clear n0_ n1_ n2_ n3_ n4_; clear ho hb hg hat; obtain ⟨Ao76, co76, eo76⟩ := Kd.qd1 HO223.out; subst eo76))
     go_loopg [3, 13, 111] k2 (fun kq v3 v13 v111 w' => ∃ (x3_3 : Int) (x13_3 : List Int) (x111_3 : Int), v3 = .int .i64 x3_3 ∧ v111 = .int .i64 x111_3 ∧ Aside0 (impl_Propose.l1 kq x3_3 x13_3 y221 (y221.length : Int) x111_3 l0 = some r) ∧ Aside0 (kq ≤ k2) ∧ Aside0 (Kd.R (Kd.int .i64) 3 w' w.heap.size (fun k_ => some k_ ≠ ((.slice Ao76 y221.length co76) : Value).ownBlock) v13 x13_3) ∧ Aside0 (Kd.R (Kd.int .i64) 3 w' w.heap.size (fun k_ => some k_ ≠ (v13 : Value).ownBlock) (.slice Ao76 y221.length co76) y221) ∧ Aside0 (w'.heap[gb194]? = some (.cells #[(.slice A0 l0.length c0)] 38 (0, 0))) ∧ Aside0 (Below w.heap.size w w'))
     case atStart => exact ⟨(a3), (y218), (0), (by first | rfl | (simp; done) | (simp [*]; done)), (by first | rfl | (simp; done) | (simp [*]; done)), H', ⟨Nat.le_refl _⟩, ⟨by (with_reducible repeat (first | apply Kd.qg0 | apply Kd.qf0 | apply Kd.qm0)); exact Kd.qs0 HO220.out (fun _ hk => hk.2)⟩, ⟨by (with_reducible repeat (first | apply Kd.qg0 | apply Kd.qf0 | apply Kd.qm0)); exact Kd.qs0 HO223.out (fun _ hk => hk.2)⟩, ⟨by (with_reducible repeat (first | refine qi0 ?_ _ | refine ql0 ?_ | refine qj0 ?_ _)); exact BK194.out⟩, ⟨by repeat (first | (with_reducible first | exact HB.out | apply qc0 | apply qa0 | apply qb0 | refine qh0 ?_ GE194.out) | exact HB.out)⟩⟩
     case round =>
      clear H'
      try clear c1
      try clear c2
      try clear p2
      try clear q2
      try clear hx2
      try clear c3
      try clear c4
      try clear c5
      try clear c6
      try clear p6
      try clear c7
      try clear c7b0
      try clear c7b1
      try clear c9
      try clear c10
      try clear c12
      try clear c13
      try clear c13b0
      try clear c19
      try clear p20
      try clear q20
      try clear hx20
      try clear c23
      try clear c25
      try clear c25b0
      try clear c26
      try clear c26b0
      try clear c27
      try clear c27b0
      try clear c30
      try clear c33
      try clear c35
      try clear c37
      try clear c39
      try clear c41
      try clear c43
      try clear c45
      try clear c47
      try clear c48
      try clear c48b0
      try clear c49
      try clear c50
      try clear c53
      try clear c53b0
      try clear c54
      try clear c54b0
      try clear c55
      try clear c55b0
      try clear c56
      try clear c57
      try clear c60
      try clear c62
      try clear c64
      try clear p64
      try clear c68
      try clear hcz14_0
      try clear hcz16_0
      try clear hcz17_0
      try clear hcz18_0
      try clear hcz24_0
      try clear hcz31_0
      try clear hcz31_1
      try clear hcz31_2
      try clear hcz31_3
      try clear hcz40_0
      try clear hcz40_1
      try clear hcz40_2
      try clear hcz40_3
      try clear hcz42_0
      try clear hcz42_1
      try clear hcz42_2
      try clear hcz42_3
      try clear hcz44_0
      try clear hcz44_1
      try clear hcz44_2
      try clear hcz44_3
      try clear hcz46_0
      try clear hcz46_1
      try clear hcz46_2
      try clear hcz46_3
      try clear hcz51_0
      try clear hcz51_1
      try clear hcz51_2
      try clear hcz51_3
      try clear hcz58_0
      try clear hcz58_1
      try clear hcz58_2
      try clear hcz58_3
      try clear hcz61_0
      try clear hcz61_1
      try clear hcz61_2
      try clear hcz61_3
      try clear hcz63_0
      try clear hcz63_1
      try clear hcz63_2
      try clear hcz63_3
      try clear hcz65_0
      try clear hcz65_1
      try clear hcz65_2
      try clear hcz65_3
      try clear hcz8_0
      try clear hfz14_0
      try clear hfz16_0
      try clear hfz17_0
      try clear hfz18_0
      try clear hfz24_0
      try clear hfz31_0
      try clear hfz31_1
      try clear hfz31_2
      try clear hfz31_3
      try clear hfz40_0
      try clear hfz40_1
      try clear hfz40_2
      try clear hfz40_3
      try clear hfz42_0
      try clear hfz42_1
      try clear hfz42_2
      try clear hfz42_3
      try clear hfz44_0
      try clear hfz44_1
      try clear hfz44_2
      try clear hfz44_3
      try clear hfz46_0
      try clear hfz46_1
      try clear hfz46_2
      try clear hfz46_3
      try clear hfz51_0
      try clear hfz51_1
      try clear hfz51_2
      try clear hfz51_3
      try clear hfz58_0
      try clear hfz58_1
      try clear hfz58_2
      try clear hfz58_3
      try clear hfz61_0
      try clear hfz61_1
      try clear hfz61_2
      try clear hfz61_3
      try clear hfz63_0
      try clear hfz63_1
      try clear hfz63_2
      try clear hfz63_3
      try clear hfz65_0
      try clear hfz65_1
      try clear hfz65_2
      try clear hfz65_3
      try clear hfz8_0
      try clear hx204_0
      try clear hx204_1
      try clear hx204_2
      try clear hx204_3
      try clear p2
      try clear p20
      try clear p204
      try clear q2
      try clear q20
      try clear q204
      obtain ⟨x3_3, x13_3, x111_3, rfl, rfl, HA, HK3, HO_13, HO_109, BK194, HB⟩ := hrel
      cases gk with
      | zero => exact absurd HA.out (by simp [impl_Propose.l1])
      | succ k3 =>
       have H := HA.out
       clear HA
       simp only [impl_Propose.l1] at H
       by_cases c77 : x111_3 < (y221.length : Int)
       ·rw [if_pos c77] at H
        have c77b0 : decide (x111_3 < (y221.length : Int)) = true := decide_eq_true c77
        clear c77
        by_cases c78 : 0 ≤ x111_3
        case neg => rw [if_neg c78] at H; exact absurd H (by simp)
        rw [if_pos c78] at H
        have c78b0 : decide (0 ≤ x111_3) = true := decide_eq_true c78
        clear c78
        by_cases c79 : x111_3 < (y221.length : Int)
        case neg => rw [if_neg c79] at H; exact absurd H (by simp)
        rw [if_pos c79] at H
        have c79b0 : decide (x111_3 < (y221.length : Int)) = true := decide_eq_true c79
        clear c79
        by_cases c80 : 0 ≤ (rd y221 x111_3)
        case neg => rw [if_neg c80] at H; exact absurd H (by simp)
        rw [if_pos c80] at H
        have c80b0 : decide (0 ≤ (rd y221 x111_3)) = true := decide_eq_true c80
        clear c80
        by_cases c81 : (rd y221 x111_3) < (l0.length : Int)
        case neg => rw [if_neg c81] at H; exact absurd H (by simp)
        rw [if_pos c81] at H
        have c81b0 : decide ((rd y221 x111_3) < (l0.length : Int)) = true := decide_eq_true c81
        clear c81
        by_cases c82 : ((rd_T129 l0 (rd y221 x111_3)).f3) ≤ x3_3
        ·rw [if_pos c82] at H
         have c82b0 : decide (((rd_T129 l0 (rd y221 x111_3)).f3) ≤ x3_3) = true := decide_eq_true c82
         clear c82
         by_cases c83 : x13_3.length < 17592186044416
         case neg => rw [if_neg c83] at H; exact absurd H (by simp)
         rw [if_pos c83] at H
         have LMc83 := Aside0.mk c83
         clear c83
         obtain ⟨y227, hy227⟩ : ∃ y_ : List Int, y_ = (x13_3 ++ [rd y221 x111_3]) := ⟨_, rfl⟩
         replace H : (impl_Propose.l1 k3 (wrap64 (x3_3 - ((rd_T129 l0 (rd y221 x111_3)).f3))) y227 y221 (y221.length : Int) (wrap64 (x111_3 + 1)) l0) = some r := by first | (rw [hy227]; with_reducible exact H) | (have H2_ := (Option.bind_some _ _).symm.trans H; rw [hy227]; with_reducible exact H2_) | (have H2_ := (Option.bind_some _ _).symm.trans H; with_reducible exact H2_) | with_reducible exact H | (rw [hy227]; exact H) | exact H
         have Ny227 := Aside0.mk hy227
         clear hy227
         have H' := Aside0.mk H
         clear H
         have p224 : 0 ≤ (x111_3 : Int) := of_decide_eq_true (by first | (with_reducible assumption) | assumption)
         have q224 : x111_3 < (y221.length : Int) := of_decide_eq_true (by first | (with_reducible assumption) | assumption)
         obtain ⟨ad224, e224, hx224_0⟩ := Kd.at_int (Kd.qn0 HO_109.out).2.2 x111_3 p224 q224
         cases e224
         replace p224 := eq_true p224
         replace q224 := eq_true q224
         have hcz84_0 : wr.cell? ⟨gb194, 0, none⟩ = some (.slice A0 l0.length c0) := (qe0 BK194.out 0).trans rfl
         have hfz84_0 := qd0 BK194.out 0
         have p225 : 0 ≤ ((rd y221 x111_3) : Int) := of_decide_eq_true (by first | (with_reducible assumption) | assumption)
         have q225 : (rd y221 x111_3) < (l0.length : Int) := of_decide_eq_true (by first | (with_reducible assumption) | assumption)
         obtain ⟨ad225, e225, hx225_0, hx225_1, hx225_2, hx225_3⟩ := at_T129 HR0.out (rd y221 x111_3) p225 q225
         cases e225
         replace hx225_0 := (HB.out.cell (World.block_lt_of_cell? w _ hx225_0)).trans hx225_0
         replace hx225_1 := (HB.out.cell (World.block_lt_of_cell? w _ hx225_1)).trans hx225_1
         replace hx225_2 := (HB.out.cell (World.block_lt_of_cell? w _ hx225_2)).trans hx225_2
         replace hx225_3 := (HB.out.cell (World.block_lt_of_cell? w _ hx225_3)).trans hx225_3
         replace p225 := eq_true p225
         replace q225 := eq_true q225
         have p226 : 0 ≤ ((rd y221 x111_3) : Int) := of_decide_eq_true (by first | (with_reducible assumption) | assumption)
         have q226 : (rd y221 x111_3) < (l0.length : Int) := of_decide_eq_true (by first | (with_reducible assumption) | assumption)
         obtain ⟨ad226, e226, hx226_0, hx226_1, hx226_2, hx226_3⟩ := at_T129 HR0.out (rd y221 x111_3) p226 q226
         obtain rfl : ad225 = ad226 := (by injection e226)
         replace hx226_0 := (HB.out.cell (World.block_lt_of_cell? w _ hx226_0)).trans hx226_0
         replace hx226_1 := (HB.out.cell (World.block_lt_of_cell? w _ hx226_1)).trans hx226_1
         replace hx226_2 := (HB.out.cell (World.block_lt_of_cell? w _ hx226_2)).trans hx226_2
         replace hx226_3 := (HB.out.cell (World.block_lt_of_cell? w _ hx226_3)).trans hx226_3
         replace p226 := eq_true p226
         replace q226 := eq_true q226
         go_wp2_with (first | ((with_reducible refine gate_builtin (b := .append) (xs := #[.tmp 129, .tmp 131]) rfl ?_); at_builtin; refine Kd.R_append (Kd.int .i64) (w0 := w) w.heap.size rfl (.tmp 129) (.tmp 131) 33 3 (.int .i64 0) 8 rfl Try.underlying33 info3 rfl (by decide) (by omega) u13 x13_3 (rd y221 x111_3) [.int .i64 (rd y221 x111_3)] (fun k_ => some k_ ≠ (.slice (some ad224) y221.length co76 : Value).ownBlock) (fun _ => False) rfl rfl ?aP (fun _ hk => hk.elim) ?aF ?aO ?aB ?aS ?aL ?_; (case aP => exact rfl); (case aB => exact (by repeat (first | (with_reducible first | exact HB.out | apply qc0 | apply qa0 | apply qb0 | refine qh0 ?_ GE194.out) | exact HB.out))); (case aF => exact (fun k_ hk => Kd.fresh' (Kd.R_lt (by (with_reducible repeat (first | apply Kd.qg0 | apply Kd.qf0 | apply Kd.qm0)); exact HO_109.out)) k_ hk)); (case aO => exact (by (with_reducible repeat (first | apply Kd.qg0 | apply Kd.qf0 | apply Kd.qm0)); exact HO_13.out)); (case aS => exact (qk0 (by repeat (first | (with_reducible first | exact HB.out | apply qc0 | apply qa0 | apply qb0 | refine qh0 ?_ GE194.out) | exact HB.out)))); (case aL => have := LMc83.out; omega); intro v228 w85 ho hb hg hat; rw [← Ny227.out] at ho; have n0_ := Aside0.mk (Kd.qg1 (ok := (fun _ => True)) (by (with_reducible repeat (first | apply Kd.qg0 | apply Kd.qf0 | apply Kd.qm0)); exact Kd.qs0 HO_109.out (fun _ hk => ⟨trivial, hk⟩)) hg hat); have n1_ := Aside0.mk (blk_grown (g := gb194) (o := .cells #[.slice (some ad225) l0.length c0] 38 (0, 0)) (by (with_reducible repeat (first | refine qi0 ?_ _ | refine ql0 ?_ | refine qj0 ?_ _)); exact BK194.out) hg (Kd.R_ne HO_13.out BK194.out (by decide))); have n2_ := Aside0.mk (hb); have n3_ := Aside0.mk (ho); clear HO_109; clear BK194; clear HB; clear HO_13; have HO_109 := n0_; have BK194 := n1_; have HB := n2_; have HO229 := n3_; clear n0_ n1_ n2_ n3_; clear ho hb hg hat))
         go_roundg k3
         case measure => have := HJ4.out; have := HK2.out; have := HK3.out; omega
         case rel => exact ⟨(wrap64 (x3_3 - ((rd_T129 l0 (rd y221 x111_3)).f3))), (y227), (wrap64 (x111_3 + 1)), (by first | rfl | (simp; done) | (simp [*]; done)), (by first | rfl | (simp; done) | (simp [*]; done)), H', ⟨by have := HJ4.out; have := HK2.out; have := HK3.out; omega⟩, ⟨by (with_reducible repeat (first | apply Kd.qg0 | apply Kd.qf0 | apply Kd.qm0)); exact HO229.out⟩, ⟨by (with_reducible repeat (first | apply Kd.qg0 | apply Kd.qf0 | apply Kd.qm0)); exact Kd.qs0 HO_109.out (fun _ hk => hk.2)⟩, ⟨by (with_reducible repeat (first | refine qi0 ?_ _ | refine ql0 ?_ | refine qj0 ?_ _)); exact BK194.out⟩, ⟨by repeat (first | (with_reducible first | exact HB.out | apply qc0 | apply qa0 | apply qb0 | refine qh0 ?_ GE194.out) | exact HB.out)⟩⟩
        rw [if_neg c82] at H
        have c82b0 : decide (((rd_T129 l0 (rd y221 x111_3)).f3) ≤ x3_3) = false := decide_eq_false c82
        clear c82
        have H' := Aside0.mk H
        clear H
        have p224 : 0 ≤ (x111_3 : Int) := of_decide_eq_true (by first | (with_reducible assumption) | assumption)
        have q224 : x111_3 < (y221.length : Int) := of_decide_eq_true (by first | (with_reducible assumption) | assumption)
        obtain ⟨ad224, e224, hx224_0⟩ := Kd.at_int (Kd.qn0 HO_109.out).2.2 x111_3 p224 q224
        cases e224
        replace p224 := eq_true p224
        replace q224 := eq_true q224
        have hcz86_0 : wr.cell? ⟨gb194, 0, none⟩ = some (.slice A0 l0.length c0) := (qe0 BK194.out 0).trans rfl
        have hfz86_0 := qd0 BK194.out 0
        have p225 : 0 ≤ ((rd y221 x111_3) : Int) := of_decide_eq_true (by first | (with_reducible assumption) | assumption)
        have q225 : (rd y221 x111_3) < (l0.length : Int) := of_decide_eq_true (by first | (with_reducible assumption) | assumption)
        obtain ⟨ad225, e225, hx225_0, hx225_1, hx225_2, hx225_3⟩ := at_T129 HR0.out (rd y221 x111_3) p225 q225
        cases e225
        replace hx225_0 := (HB.out.cell (World.block_lt_of_cell? w _ hx225_0)).trans hx225_0
        replace hx225_1 := (HB.out.cell (World.block_lt_of_cell? w _ hx225_1)).trans hx225_1
        replace hx225_2 := (HB.out.cell (World.block_lt_of_cell? w _ hx225_2)).trans hx225_2
        replace hx225_3 := (HB.out.cell (World.block_lt_of_cell? w _ hx225_3)).trans hx225_3
        replace p225 := eq_true p225
        replace q225 := eq_true q225
        go_wp2
        go_roundg k3
        case measure => have := HJ4.out; have := HK2.out; have := HK3.out; omega
        case rel => exact ⟨(x3_3), (x13_3), (wrap64 (x111_3 + 1)), (by first | rfl | (simp; done) | (simp [*]; done)), (by first | rfl | (simp; done) | (simp [*]; done)), H', ⟨by have := HJ4.out; have := HK2.out; have := HK3.out; omega⟩, ⟨by (with_reducible repeat (first | apply Kd.qg0 | apply Kd.qf0 | apply Kd.qm0)); exact HO_13.out⟩, ⟨by (with_reducible repeat (first | apply Kd.qg0 | apply Kd.qf0 | apply Kd.qm0)); exact HO_109.out⟩, ⟨by (with_reducible repeat (first | refine qi0 ?_ _ | refine ql0 ?_ | refine qj0 ?_ _)); exact BK194.out⟩, ⟨by repeat (first | (with_reducible first | exact HB.out | apply qc0 | apply qa0 | apply qb0 | refine qh0 ?_ GE194.out) | exact HB.out)⟩⟩
       rw [if_neg c77] at H
       have c77b0 : decide (x111_3 < (y221.length : Int)) = false := decide_eq_false c77
       clear c77
       obtain rfl := Option.some.inj H
       go_wp2
       go_ret
       exact ⟨_, by first | rfl | (simp [errW_none, errW_some] <;> rfl) | (simp [*, errW_none, errW_some] <;> rfl), by (with_reducible repeat (first | apply Kd.qg0 | apply Kd.qf0 | apply Kd.qm0)); exact Kd.qs0 HO_13.out (fun _ hk => trivial), by repeat (first | (with_reducible first | exact HB.out | apply qc0 | apply qa0 | apply qb0 | refine qh0 ?_ GE194.out) | exact HB.out)⟩

end Go.Proofs.Ytlodndejipjceaa.PFnExactPropose
