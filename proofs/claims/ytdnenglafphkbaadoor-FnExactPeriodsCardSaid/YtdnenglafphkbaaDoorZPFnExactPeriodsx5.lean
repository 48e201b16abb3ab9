/- Lines by a program (a changed copy of the kit's print: this repo's wip/tools): Go functions as Lean functions, and proofs that the calls answer so. -/
import Derived.Test.YtdnenglafphkbaaDoorZPFnExactPeriodsx0
import Derived.Test.YtdnenglafphkbaaDoorZPFnExactPeriodsx1
import Derived.Test.YtdnenglafphkbaaDoorZPFnExactPeriodsx3
import Derived.Test.YtdnenglafphkbaaDoorZPFnExactPeriodsx4
namespace Go.Proofs.YtdnenglafphkbaaDoor.PFnExactPeriods
open Go.RowKit Go.Proofs.YtdnenglafphkbaaDoorW.PrintWords Go.Proofs.YtdnenglafphkbaaDoorW.PrintLast Go.Proofs.YtdnenglafphkbaaDoorW.PrintMore
attribute [local go_sem] max2_int min2_int max_two min_two max_three min_three max_four min_four   -- for this text's walks alone
set_option linter.unusedVariables false
set_option linter.unusedSimpArgs false

attribute [local go_sem high] eqA28
/-! ### impl_DayOf: function 28 -/
mutual
def impl_DayOf.j0 : Nat → Bool → Int → Int → Int → Option (Int)
 | 0, _, _, _, _ => none
 | k + 1, x26, x158000, x158001, x158002 => if x26 = true then (some (-1)) else (impl_DayOf.l0 k (wrap64 (x158002 - 1)) 2000 x158000 x158001 x158002)
def impl_DayOf.l0 : Nat → Int → Int → Int → Int → Int → Option (Int)
 | 0, _, _, _, _, _ => none
 | k + 1, x3, x4, x158000, x158001, x158002 => if x4 < x158000 then ((impl_longYear.f x4).bind fun t162 => (if t162 = true then (impl_DayOf.l0 k (wrap64 ((wrap64 (x3 + 365)) + 1)) (wrap64 (x4 + 1)) x158000 x158001 x158002) else (impl_DayOf.l0 k (wrap64 (x3 + 365)) (wrap64 (x4 + 1)) x158000 x158001 x158002))) else (impl_DayOf.l1 k x3 1 x158000 x158001 x158002)
def impl_DayOf.l1 : Nat → Int → Int → Int → Int → Int → Option (Int)
 | 0, _, _, _, _, _ => none
 | k + 1, x3, x5, x158000, x158001, x158002 => if x5 < x158001 then ((impl_daysOf.f x158000 x5).bind fun t163 => (impl_DayOf.l1 k (wrap64 (x3 + t163)) (wrap64 (x5 + 1)) x158000 x158001 x158002)) else ((impl_isDay.f x3).bind fun t164 => (if t164 = true then (some x3) else (some (-1))))
end
def impl_DayOf.f (k : Nat) (a0_0 : Int) (a0_1 : Int) (a0_2 : Int) : Option (Int) := (impl_between.f a0_0 2000 2200).bind fun t158 => (if t158 = true then ((impl_between.f a0_1 1 12).bind fun t159 => (if t159 = true then ((impl_daysOf.f a0_0 a0_1).bind fun t160 => ((impl_between.f a0_2 1 t160).bind fun t161 => (impl_DayOf.j0 k (!t161) a0_0 a0_1 a0_2))) else (impl_DayOf.j0 k true a0_0 a0_1 a0_2))) else (impl_DayOf.j0 k true a0_0 a0_1 a0_2))
theorem impl_DayOf.mono_l : ∀ k, (∀ y0 y1 y2 y3, LeO (impl_DayOf.j0 k y0 y1 y2 y3) (impl_DayOf.j0 (k + 1) y0 y1 y2 y3)) ∧ (∀ y0 y1 y2 y3 y4, LeO (impl_DayOf.l0 k y0 y1 y2 y3 y4) (impl_DayOf.l0 (k + 1) y0 y1 y2 y3 y4)) ∧ (∀ y0 y1 y2 y3 y4, LeO (impl_DayOf.l1 k y0 y1 y2 y3 y4) (impl_DayOf.l1 (k + 1) y0 y1 y2 y3 y4))
 | 0 => ⟨fun _ _ _ _ r h => by simp [impl_DayOf.j0] at h, fun _ _ _ _ _ r h => by simp [impl_DayOf.l0] at h, fun _ _ _ _ _ r h => by simp [impl_DayOf.l1] at h⟩
 | k + 1 => by
  obtain ⟨ih0, ih1, ih2⟩ := impl_DayOf.mono_l k
  refine ⟨?_, ?_, ?_⟩
  ·intro y0 y1 y2 y3
   unfold impl_DayOf.j0
   repeat' first
   | (with_reducible exact ih0 _ _ _ _)
   | (with_reducible exact ih1 _ _ _ _ _)
   | (with_reducible exact ih2 _ _ _ _ _)
   | (with_reducible exact LeO.refl _)
   | (with_reducible exact LeO.none _)
   | (with_reducible refine LeO.ite ?_ ?_)
   | (with_reducible refine LeO.bind ?_ (fun _ => ?_))
   | exact ih0 _ _ _ _
   | exact ih1 _ _ _ _ _
   | exact ih2 _ _ _ _ _
   | exact LeO.none _
   | refine LeO.ite ?_ ?_
   | refine LeO.bind ?_ (fun _ => ?_)
  ·intro y0 y1 y2 y3 y4
   unfold impl_DayOf.l0
   repeat' first
   | (with_reducible exact ih0 _ _ _ _)
   | (with_reducible exact ih1 _ _ _ _ _)
   | (with_reducible exact ih2 _ _ _ _ _)
   | (with_reducible exact LeO.refl _)
   | (with_reducible exact LeO.none _)
   | (with_reducible refine LeO.ite ?_ ?_)
   | (with_reducible refine LeO.bind ?_ (fun _ => ?_))
   | exact ih0 _ _ _ _
   | exact ih1 _ _ _ _ _
   | exact ih2 _ _ _ _ _
   | exact LeO.none _
   | refine LeO.ite ?_ ?_
   | refine LeO.bind ?_ (fun _ => ?_)
  ·intro y0 y1 y2 y3 y4
   unfold impl_DayOf.l1
   repeat' first
   | (with_reducible exact ih0 _ _ _ _)
   | (with_reducible exact ih1 _ _ _ _ _)
   | (with_reducible exact ih2 _ _ _ _ _)
   | (with_reducible exact LeO.refl _)
   | (with_reducible exact LeO.none _)
   | (with_reducible refine LeO.ite ?_ ?_)
   | (with_reducible refine LeO.bind ?_ (fun _ => ?_))
   | exact ih0 _ _ _ _
   | exact ih1 _ _ _ _ _
   | exact ih2 _ _ _ _ _
   | exact LeO.none _
   | refine LeO.ite ?_ ?_
   | refine LeO.bind ?_ (fun _ => ?_)
theorem impl_DayOf.mono : ∀ a0 a1 a2 k, LeO (impl_DayOf.f k a0 a1 a2) (impl_DayOf.f (k + 1) a0 a1 a2) := by
 intro a0 a1 a2 k
 obtain ⟨ih0, ih1, ih2⟩ := impl_DayOf.mono_l k
 unfold impl_DayOf.f
 repeat' first
   | (with_reducible exact ih0 _ _ _ _)
   | (with_reducible exact ih1 _ _ _ _ _)
   | (with_reducible exact ih2 _ _ _ _ _)
   | (with_reducible exact LeO.refl _)
   | (with_reducible exact LeO.none _)
   | (with_reducible refine LeO.ite ?_ ?_)
   | (with_reducible refine LeO.bind ?_ (fun _ => ?_))
   | exact ih0 _ _ _ _
   | exact ih1 _ _ _ _ _
   | exact ih2 _ _ _ _ _
   | exact LeO.none _
   | refine LeO.ite ?_ ?_
   | refine LeO.bind ?_ (fun _ => ?_)
set_option maxHeartbeats 8000000 in
set_option maxRecDepth 100000 in
theorem impl_DayOf.calls (k : Nat) (a0_0 : Int) (a0_1 : Int) (a0_2 : Int) (r : Int) (w : World) (h : impl_DayOf.f k a0_0 a0_1 a0_2 = some r) (hT : Tab w := by first | exact HT.out | exact Tab.below HT.out (by repeat (first | (with_reducible first | exact HB.out | apply qb0 | apply qa0 | apply qc0 | refine qi0 ?_ (Aside0.out (by assumption))) | exact HB.out))) :
  Calls Tryd.prog 28 #[.agg #[.int .i64 a0_0, .int .i64 a0_1, .int .i64 a0_2]] w fun e w' => e = .returned (.int .i64 r) ∧ Below w.heap.size w w' := by
 have HT := Aside0.mk hT
 clear hT
 have hu28 := Tryd.underlying28
 have HB := Aside0.mk (Below.refl w.heap.size w)
 have H : ((impl_between.f a0_0 2000 2200).bind fun t158 => (if t158 = true then ((impl_between.f a0_1 1 12).bind fun t159 => (if t159 = true then ((impl_daysOf.f a0_0 a0_1).bind fun t160 => ((impl_between.f a0_2 1 t160).bind fun t161 => (impl_DayOf.j0 k (!t161) a0_0 a0_1 a0_2))) else (impl_DayOf.j0 k true a0_0 a0_1 a0_2))) else (impl_DayOf.j0 k true a0_0 a0_1 a0_2))) = some r := h
 clear h
 have HC2 := Aside0.mk H
 clear H
 go_enter Tryd.func28, Tryd.ntmps28
 go_upto_region 1 with (first | ((with_reducible refine qs0 (N := 1) rfl ?_); refine qt0 ?hg (N := 1) ?hd (cs := #[.int .i64 a0_0, .int .i64 a0_1, .int .i64 a0_2]) (t := 28) ?hr ?_; (case hd => rfl); (case hg => rfl); (case hr => first | (go_simp; done) | (go_simp; rfl)); intro gb157 hg w3 hbox hb; have n0_ := Aside0.mk (ql0 (by repeat (first | (with_reducible first | exact HB.out | apply qb0 | apply qa0 | apply qc0) | exact HB.out)) hb); have n1_ := Aside0.mk (hbox); have n2_ := Aside0.mk ((by rw [hg]; exact (qk0 (by repeat (first | (with_reducible first | exact HB.out | apply qb0 | apply qa0 | apply qc0) | exact HB.out))) : w.heap.size ≤ gb157)); have n3_ := Aside0.mk ((by rw [hg]; exact (qk0 (by repeat (first | (with_reducible first | exact HB.out | apply qb0 | apply qa0 | apply qc0) | exact HB.out))) : w.heap.size ≤ gb157)); clear HB; have HB := n0_; have BK157 := n1_; have GW157 := n2_; have GE157 := n3_; clear n0_ n1_ n2_ n3_; clear hb hbox hg))
 repeat (go_quiet (first | ((with_reducible refine qs0 (N := 1) rfl ?_); refine qt0 ?hg (N := 1) ?hd (cs := #[.int .i64 a0_0, .int .i64 a0_1, .int .i64 a0_2]) (t := 28) ?hr ?_; (case hd => rfl); (case hg => rfl); (case hr => first | (go_simp; done) | (go_simp; rfl)); intro gb157 hg w3 hbox hb; have n0_ := Aside0.mk (ql0 (by repeat (first | (with_reducible first | exact HB.out | apply qb0 | apply qa0 | apply qc0) | exact HB.out)) hb); have n1_ := Aside0.mk (hbox); have n2_ := Aside0.mk ((by rw [hg]; exact (qk0 (by repeat (first | (with_reducible first | exact HB.out | apply qb0 | apply qa0 | apply qc0) | exact HB.out))) : w.heap.size ≤ gb157)); have n3_ := Aside0.mk ((by rw [hg]; exact (qk0 (by repeat (first | (with_reducible first | exact HB.out | apply qb0 | apply qa0 | apply qc0) | exact HB.out))) : w.heap.size ≤ gb157)); clear HB; have HB := n0_; have BK157 := n1_; have GW157 := n2_; have GE157 := n3_; clear n0_ n1_ n2_ n3_; clear hb hbox hg)); go_upto_region 1 with (first | ((with_reducible refine qs0 (N := 1) rfl ?_); refine qt0 ?hg (N := 1) ?hd (cs := #[.int .i64 a0_0, .int .i64 a0_1, .int .i64 a0_2]) (t := 28) ?hr ?_; (case hd => rfl); (case hg => rfl); (case hr => first | (go_simp; done) | (go_simp; rfl)); intro gb157 hg w3 hbox hb; have n0_ := Aside0.mk (ql0 (by repeat (first | (with_reducible first | exact HB.out | apply qb0 | apply qa0 | apply qc0) | exact HB.out)) hb); have n1_ := Aside0.mk (hbox); have n2_ := Aside0.mk ((by rw [hg]; exact (qk0 (by repeat (first | (with_reducible first | exact HB.out | apply qb0 | apply qa0 | apply qc0) | exact HB.out))) : w.heap.size ≤ gb157)); have n3_ := Aside0.mk ((by rw [hg]; exact (qk0 (by repeat (first | (with_reducible first | exact HB.out | apply qb0 | apply qa0 | apply qc0) | exact HB.out))) : w.heap.size ≤ gb157)); clear HB; have HB := n0_; have BK157 := n1_; have GW157 := n2_; have GE157 := n3_; clear n0_ n1_ n2_ n3_; clear hb hbox hg)))
 (try simp only [Act.put, List.setIfInBounds_toArray, List.set_cons_zero, List.set_cons_succ])
 go_cut [26] (fun v26 wc => ∃ (kq : Nat) (x26_1 : Bool), v26 = .bool x26_1 ∧ Aside0 (impl_DayOf.j0 kq x26_1 a0_0 a0_1 a0_2 = some r) ∧ Aside0 (kq ≤ k) ∧ Aside0 (wc.heap[gb157]? = some (.cells #[.int .i64 a0_0, .int .i64 a0_1, .int .i64 a0_2] 28 (0, 0))) ∧ Aside0 (Below w.heap.size w wc))
 case first =>
  have H := HC2.out
  clear HC2
  replace H := Option.bind_eq_some_iff.mp H
  obtain ⟨t158, A40, H⟩ := H
  replace H : (if t158 = true then ((impl_between.f a0_1 1 12).bind fun t159 => (if t159 = true then ((impl_daysOf.f a0_0 a0_1).bind fun t160 => ((impl_between.f a0_2 1 t160).bind fun t161 => (impl_DayOf.j0 k (!t161) a0_0 a0_1 a0_2))) else (impl_DayOf.j0 k true a0_0 a0_1 a0_2))) else (impl_DayOf.j0 k true a0_0 a0_1 a0_2)) = some r := H
  have A4 := Aside0.mk A40
  clear A40
  by_cases c5 : t158 = true
  ·subst c5
   have H1 : ((impl_between.f a0_1 1 12).bind fun t159 => (if t159 = true then ((impl_daysOf.f a0_0 a0_1).bind fun t160 => ((impl_between.f a0_2 1 t160).bind fun t161 => (impl_DayOf.j0 k (!t161) a0_0 a0_1 a0_2))) else (impl_DayOf.j0 k true a0_0 a0_1 a0_2))) = some r := by rw [if_pos rfl] at H; exact H
   clear H
   have H := H1
   clear H1
   replace H := Option.bind_eq_some_iff.mp H
   obtain ⟨t159, A60, H⟩ := H
   replace H : (if t159 = true then ((impl_daysOf.f a0_0 a0_1).bind fun t160 => ((impl_between.f a0_2 1 t160).bind fun t161 => (impl_DayOf.j0 k (!t161) a0_0 a0_1 a0_2))) else (impl_DayOf.j0 k true a0_0 a0_1 a0_2)) = some r := H
   have A6 := Aside0.mk A60
   clear A60
   by_cases c7 : t159 = true
   ·subst c7
    have H1 : ((impl_daysOf.f a0_0 a0_1).bind fun t160 => ((impl_between.f a0_2 1 t160).bind fun t161 => (impl_DayOf.j0 k (!t161) a0_0 a0_1 a0_2))) = some r := by rw [if_pos rfl] at H; exact H
    clear H
    have H := H1
    clear H1
    replace H := Option.bind_eq_some_iff.mp H
    obtain ⟨t160, A80, H⟩ := H
    replace H : ((impl_between.f a0_2 1 t160).bind fun t161 => (impl_DayOf.j0 k (!t161) a0_0 a0_1 a0_2)) = some r := H
    have A8 := Aside0.mk A80
    clear A80
    replace H := Option.bind_eq_some_iff.mp H
    obtain ⟨t161, A90, H⟩ := H
    replace H : (impl_DayOf.j0 k (!t161) a0_0 a0_1 a0_2) = some r := H
    have A9 := Aside0.mk A90
    clear A90
    have H' := Aside0.mk H
    clear H
    have hcz10_0 : w3.cell? ⟨gb157, 0, none⟩ = some (.int .i64 a0_0) := (qe0 BK157.out 0).trans rfl
    have hcz10_1 : w3.cell? ⟨gb157, 1, none⟩ = some (.int .i64 a0_1) := (qe0 BK157.out 1).trans rfl
    have hcz10_2 : w3.cell? ⟨gb157, 2, none⟩ = some (.int .i64 a0_2) := (qe0 BK157.out 2).trans rfl
    have hfz10_0 := qd0 BK157.out 0
    have hfz10_1 := qd0 BK157.out 1
    have hfz10_2 := qd0 BK157.out 2
    go_wp2_with (first | (go_at_call 26; (with_reducible refine (impl_between.calls a0_0 2000 2200 true _ A4.out).mono ?_); rintro e w' ⟨rfl, ⟨nd, rfl⟩⟩; (try first | exact ⟨rfl, _, World.drewN_drewN _ _ _⟩ | exact ⟨rfl, _, Eq.trans (World.drewN_drewN _ _ _) (congrArg (World.drewN _) (Nat.add_assoc _ _ _))⟩)) | (go_at_call 26; (with_reducible refine (impl_between.calls a0_1 1 12 true _ A6.out).mono ?_); rintro e w' ⟨rfl, ⟨nd, rfl⟩⟩; (try first | exact ⟨rfl, _, World.drewN_drewN _ _ _⟩ | exact ⟨rfl, _, Eq.trans (World.drewN_drewN _ _ _) (congrArg (World.drewN _) (Nat.add_assoc _ _ _))⟩)) | (go_at_call 27; (with_reducible refine (impl_daysOf.calls a0_0 a0_1 t160 _ A8.out).mono ?_); rintro e w' ⟨rfl, ⟨nd, rfl⟩⟩; (try first | exact ⟨rfl, _, World.drewN_drewN _ _ _⟩ | exact ⟨rfl, _, Eq.trans (World.drewN_drewN _ _ _) (congrArg (World.drewN _) (Nat.add_assoc _ _ _))⟩)) | (go_at_call 26; (with_reducible refine (impl_between.calls a0_2 1 t160 t161 _ A9.out).mono ?_); rintro e w' ⟨rfl, ⟨nd, rfl⟩⟩; (try first | exact ⟨rfl, _, World.drewN_drewN _ _ _⟩ | exact ⟨rfl, _, Eq.trans (World.drewN_drewN _ _ _) (congrArg (World.drewN _) (Nat.add_assoc _ _ _))⟩)))
    repeat (go_quiet (first | (go_at_call 26; (with_reducible refine (impl_between.calls a0_0 2000 2200 true _ A4.out).mono ?_); rintro e w' ⟨rfl, ⟨nd, rfl⟩⟩; (try first | exact ⟨rfl, _, World.drewN_drewN _ _ _⟩ | exact ⟨rfl, _, Eq.trans (World.drewN_drewN _ _ _) (congrArg (World.drewN _) (Nat.add_assoc _ _ _))⟩)) | (go_at_call 26; (with_reducible refine (impl_between.calls a0_1 1 12 true _ A6.out).mono ?_); rintro e w' ⟨rfl, ⟨nd, rfl⟩⟩; (try first | exact ⟨rfl, _, World.drewN_drewN _ _ _⟩ | exact ⟨rfl, _, Eq.trans (World.drewN_drewN _ _ _) (congrArg (World.drewN _) (Nat.add_assoc _ _ _))⟩)) | (go_at_call 27; (with_reducible refine (impl_daysOf.calls a0_0 a0_1 t160 _ A8.out).mono ?_); rintro e w' ⟨rfl, ⟨nd, rfl⟩⟩; (try first | exact ⟨rfl, _, World.drewN_drewN _ _ _⟩ | exact ⟨rfl, _, Eq.trans (World.drewN_drewN _ _ _) (congrArg (World.drewN _) (Nat.add_assoc _ _ _))⟩)) | (go_at_call 26; (with_reducible refine (impl_between.calls a0_2 1 t160 t161 _ A9.out).mono ?_); rintro e w' ⟨rfl, ⟨nd, rfl⟩⟩; (try first | exact ⟨rfl, _, World.drewN_drewN _ _ _⟩ | exact ⟨rfl, _, Eq.trans (World.drewN_drewN _ _ _) (congrArg (World.drewN _) (Nat.add_assoc _ _ _))⟩))); try go_wp2_with (first | (go_at_call 26; (with_reducible refine (impl_between.calls a0_0 2000 2200 true _ A4.out).mono ?_); rintro e w' ⟨rfl, ⟨nd, rfl⟩⟩; (try first | exact ⟨rfl, _, World.drewN_drewN _ _ _⟩ | exact ⟨rfl, _, Eq.trans (World.drewN_drewN _ _ _) (congrArg (World.drewN _) (Nat.add_assoc _ _ _))⟩)) | (go_at_call 26; (with_reducible refine (impl_between.calls a0_1 1 12 true _ A6.out).mono ?_); rintro e w' ⟨rfl, ⟨nd, rfl⟩⟩; (try first | exact ⟨rfl, _, World.drewN_drewN _ _ _⟩ | exact ⟨rfl, _, Eq.trans (World.drewN_drewN _ _ _) (congrArg (World.drewN _) (Nat.add_assoc _ _ _))⟩)) | (go_at_call 27; (with_reducible refine (impl_daysOf.calls a0_0 a0_1 t160 _ A8.out).mono ?_); rintro e w' ⟨rfl, ⟨nd, rfl⟩⟩; (try first | exact ⟨rfl, _, World.drewN_drewN _ _ _⟩ | exact ⟨rfl, _, Eq.trans (World.drewN_drewN _ _ _) (congrArg (World.drewN _) (Nat.add_assoc _ _ _))⟩)) | (go_at_call 26; (with_reducible refine (impl_between.calls a0_2 1 t160 t161 _ A9.out).mono ?_); rintro e w' ⟨rfl, ⟨nd, rfl⟩⟩; (try first | exact ⟨rfl, _, World.drewN_drewN _ _ _⟩ | exact ⟨rfl, _, Eq.trans (World.drewN_drewN _ _ _) (congrArg (World.drewN _) (Nat.add_assoc _ _ _))⟩))))
    go_meet
    case rel => exact ⟨_, (!t161), (by first | rfl | (simp; done) | (simp [*]; done)), H', ⟨by first | omega | exact Nat.le_refl _⟩, ⟨by (with_reducible repeat (first | refine qg0 ?_ _ | refine qj0 ?_ | refine qh0 ?_ _)); exact BK157.out⟩, ⟨by repeat (first | (with_reducible first | exact HB.out | apply qb0 | apply qa0 | apply qc0 | refine qi0 ?_ GE157.out) | exact HB.out)⟩⟩
   replace c7 := Bool.eq_false_iff.mpr c7
   subst c7
   have H1 : (impl_DayOf.j0 k true a0_0 a0_1 a0_2) = some r := by rw [if_neg (show ¬ (false = true) by decide)] at H; exact H
   clear H
   have H := H1
   clear H1
   have H' := Aside0.mk H
   clear H
   have hcz11_0 : w3.cell? ⟨gb157, 0, none⟩ = some (.int .i64 a0_0) := (qe0 BK157.out 0).trans rfl
   have hcz11_1 : w3.cell? ⟨gb157, 1, none⟩ = some (.int .i64 a0_1) := (qe0 BK157.out 1).trans rfl
   have hcz11_2 : w3.cell? ⟨gb157, 2, none⟩ = some (.int .i64 a0_2) := (qe0 BK157.out 2).trans rfl
   have hfz11_0 := qd0 BK157.out 0
   have hfz11_1 := qd0 BK157.out 1
   have hfz11_2 := qd0 BK157.out 2
   go_wp2_with (first | (go_at_call 26; (with_reducible refine (impl_between.calls a0_0 2000 2200 true _ A4.out).mono ?_); rintro e w' ⟨rfl, ⟨nd, rfl⟩⟩; (try first | exact ⟨rfl, _, World.drewN_drewN _ _ _⟩ | exact ⟨rfl, _, Eq.trans (World.drewN_drewN _ _ _) (congrArg (World.drewN _) (Nat.add_assoc _ _ _))⟩)) | (go_at_call 26; (with_reducible refine (impl_between.calls a0_1 1 12 false _ A6.out).mono ?_); rintro e w' ⟨rfl, ⟨nd, rfl⟩⟩; (try first | exact ⟨rfl, _, World.drewN_drewN _ _ _⟩ | exact ⟨rfl, _, Eq.trans (World.drewN_drewN _ _ _) (congrArg (World.drewN _) (Nat.add_assoc _ _ _))⟩)))
   repeat (go_quiet (first | (go_at_call 26; (with_reducible refine (impl_between.calls a0_0 2000 2200 true _ A4.out).mono ?_); rintro e w' ⟨rfl, ⟨nd, rfl⟩⟩; (try first | exact ⟨rfl, _, World.drewN_drewN _ _ _⟩ | exact ⟨rfl, _, Eq.trans (World.drewN_drewN _ _ _) (congrArg (World.drewN _) (Nat.add_assoc _ _ _))⟩)) | (go_at_call 26; (with_reducible refine (impl_between.calls a0_1 1 12 false _ A6.out).mono ?_); rintro e w' ⟨rfl, ⟨nd, rfl⟩⟩; (try first | exact ⟨rfl, _, World.drewN_drewN _ _ _⟩ | exact ⟨rfl, _, Eq.trans (World.drewN_drewN _ _ _) (congrArg (World.drewN _) (Nat.add_assoc _ _ _))⟩))); try go_wp2_with (first | (go_at_call 26; (with_reducible refine (impl_between.calls a0_0 2000 2200 true _ A4.out).mono ?_); rintro e w' ⟨rfl, ⟨nd, rfl⟩⟩; (try first | exact ⟨rfl, _, World.drewN_drewN _ _ _⟩ | exact ⟨rfl, _, Eq.trans (World.drewN_drewN _ _ _) (congrArg (World.drewN _) (Nat.add_assoc _ _ _))⟩)) | (go_at_call 26; (with_reducible refine (impl_between.calls a0_1 1 12 false _ A6.out).mono ?_); rintro e w' ⟨rfl, ⟨nd, rfl⟩⟩; (try first | exact ⟨rfl, _, World.drewN_drewN _ _ _⟩ | exact ⟨rfl, _, Eq.trans (World.drewN_drewN _ _ _) (congrArg (World.drewN _) (Nat.add_assoc _ _ _))⟩))))
   go_meet
   case rel => exact ⟨_, (true), (by first | rfl | (simp; done) | (simp [*]; done)), H', ⟨by first | omega | exact Nat.le_refl _⟩, ⟨by (with_reducible repeat (first | refine qg0 ?_ _ | refine qj0 ?_ | refine qh0 ?_ _)); exact BK157.out⟩, ⟨by repeat (first | (with_reducible first | exact HB.out | apply qb0 | apply qa0 | apply qc0 | refine qi0 ?_ GE157.out) | exact HB.out)⟩⟩
  replace c5 := Bool.eq_false_iff.mpr c5
  subst c5
  have H1 : (impl_DayOf.j0 k true a0_0 a0_1 a0_2) = some r := by rw [if_neg (show ¬ (false = true) by decide)] at H; exact H
  clear H
  have H := H1
  clear H1
  have H' := Aside0.mk H
  clear H
  have hcz12_0 : w3.cell? ⟨gb157, 0, none⟩ = some (.int .i64 a0_0) := (qe0 BK157.out 0).trans rfl
  have hcz12_1 : w3.cell? ⟨gb157, 1, none⟩ = some (.int .i64 a0_1) := (qe0 BK157.out 1).trans rfl
  have hcz12_2 : w3.cell? ⟨gb157, 2, none⟩ = some (.int .i64 a0_2) := (qe0 BK157.out 2).trans rfl
  have hfz12_0 := qd0 BK157.out 0
  have hfz12_1 := qd0 BK157.out 1
  have hfz12_2 := qd0 BK157.out 2
  go_wp2_with (first | (go_at_call 26; (with_reducible refine (impl_between.calls a0_0 2000 2200 false _ A4.out).mono ?_); rintro e w' ⟨rfl, ⟨nd, rfl⟩⟩; (try first | exact ⟨rfl, _, World.drewN_drewN _ _ _⟩ | exact ⟨rfl, _, Eq.trans (World.drewN_drewN _ _ _) (congrArg (World.drewN _) (Nat.add_assoc _ _ _))⟩)))
  repeat (go_quiet (first | (go_at_call 26; (with_reducible refine (impl_between.calls a0_0 2000 2200 false _ A4.out).mono ?_); rintro e w' ⟨rfl, ⟨nd, rfl⟩⟩; (try first | exact ⟨rfl, _, World.drewN_drewN _ _ _⟩ | exact ⟨rfl, _, Eq.trans (World.drewN_drewN _ _ _) (congrArg (World.drewN _) (Nat.add_assoc _ _ _))⟩))); try go_wp2_with (first | (go_at_call 26; (with_reducible refine (impl_between.calls a0_0 2000 2200 false _ A4.out).mono ?_); rintro e w' ⟨rfl, ⟨nd, rfl⟩⟩; (try first | exact ⟨rfl, _, World.drewN_drewN _ _ _⟩ | exact ⟨rfl, _, Eq.trans (World.drewN_drewN _ _ _) (congrArg (World.drewN _) (Nat.add_assoc _ _ _))⟩))))
  go_meet
  case rel => exact ⟨_, (true), (by first | rfl | (simp; done) | (simp [*]; done)), H', ⟨by first | omega | exact Nat.le_refl _⟩, ⟨by (with_reducible repeat (first | refine qg0 ?_ _ | refine qj0 ?_ | refine qh0 ?_ _)); exact BK157.out⟩, ⟨by repeat (first | (with_reducible first | exact HB.out | apply qb0 | apply qa0 | apply qc0 | refine qi0 ?_ GE157.out) | exact HB.out)⟩⟩
 case rest =>
  clear HC2
  try clear c2
  try clear p2
  try clear c5
  try clear c7
  try clear hcz10_0
  try clear hcz10_1
  try clear hcz10_2
  try clear hcz11_0
  try clear hcz11_1
  try clear hcz11_2
  try clear hcz12_0
  try clear hcz12_1
  try clear hcz12_2
  try clear hfz10_0
  try clear hfz10_1
  try clear hfz10_2
  try clear hfz11_0
  try clear hfz11_1
  try clear hfz11_2
  try clear hfz12_0
  try clear hfz12_1
  try clear hfz12_2
  obtain ⟨kq, x26_1, rfl, HA, HJ1, BK157, HB⟩ := hcut
  cases kq with
  | zero => exact absurd HA.out (by simp [impl_DayOf.j0])
  | succ kj1 =>
   have H := HA.out
   clear HA
   simp only [impl_DayOf.j0] at H
   by_cases c13 : x26_1 = true
   ·subst c13
    have H1 : (some (-1)) = some r := by rw [if_pos rfl] at H; exact H
    clear H
    have H := H1
    clear H1
    obtain rfl := Option.some.inj H
    go_wp2
    repeat (go_quiet (fail); try go_wp2)
    go_ret
    exact ⟨by first | rfl | (simp [errW_none, errW_some] <;> rfl) | (simp [*, errW_none, errW_some] <;> rfl), by repeat (first | (with_reducible first | exact HB.out | apply qb0 | apply qa0 | apply qc0 | refine qi0 ?_ GE157.out) | exact HB.out)⟩
   replace c13 := Bool.eq_false_iff.mpr c13
   subst c13
   have H1 : (impl_DayOf.l0 kj1 (wrap64 (a0_2 - 1)) 2000 a0_0 a0_1 a0_2) = some r := by rw [if_neg (show ¬ (false = true) by decide)] at H; exact H
   clear H
   have H := H1
   clear H1
   have H' := Aside0.mk H
   clear H
   have hcz14_0 : wc.cell? ⟨gb157, 0, none⟩ = some (.int .i64 a0_0) := (qe0 BK157.out 0).trans rfl
   have hcz14_1 : wc.cell? ⟨gb157, 1, none⟩ = some (.int .i64 a0_1) := (qe0 BK157.out 1).trans rfl
   have hcz14_2 : wc.cell? ⟨gb157, 2, none⟩ = some (.int .i64 a0_2) := (qe0 BK157.out 2).trans rfl
   have hfz14_0 := qd0 BK157.out 0
   have hfz14_1 := qd0 BK157.out 1
   have hfz14_2 := qd0 BK157.out 2
   go_wp2
   repeat (go_quiet (fail); try go_wp2)
   go_loopg [3, 4] kj1 (fun kq v3 v4 w' => ∃ (x3_2 : Int) (x4_2 : Int), v3 = .int .i64 x3_2 ∧ v4 = .int .i64 x4_2 ∧ Aside0 (impl_DayOf.l0 kq x3_2 x4_2 a0_0 a0_1 a0_2 = some r) ∧ Aside0 (kq ≤ kj1) ∧ Aside0 (w'.heap[gb157]? = some (.cells #[.int .i64 a0_0, .int .i64 a0_1, .int .i64 a0_2] 28 (0, 0))) ∧ Aside0 (Below w.heap.size w w'))
   case atStart => exact ⟨(wrap64 (a0_2 - 1)), (2000), (by first | rfl | (simp; done) | (simp [*]; done)), (by first | rfl | (simp; done) | (simp [*]; done)), H', ⟨Nat.le_refl _⟩, ⟨by (with_reducible repeat (first | refine qg0 ?_ _ | refine qj0 ?_ | refine qh0 ?_ _)); exact BK157.out⟩, ⟨by repeat (first | (with_reducible first | exact HB.out | apply qb0 | apply qa0 | apply qc0 | refine qi0 ?_ GE157.out) | exact HB.out)⟩⟩
   case round =>
    clear H'
    try clear c1
    try clear c2
    try clear p2
    try clear c5
    try clear p6
    try clear c7
    try clear c13
    try clear hcz10_0
    try clear hcz10_1
    try clear hcz10_2
    try clear hcz11_0
    try clear hcz11_1
    try clear hcz11_2
    try clear hcz12_0
    try clear hcz12_1
    try clear hcz12_2
    try clear hcz14_0
    try clear hcz14_1
    try clear hcz14_2
    try clear hfz10_0
    try clear hfz10_1
    try clear hfz10_2
    try clear hfz11_0
    try clear hfz11_1
    try clear hfz11_2
    try clear hfz12_0
    try clear hfz12_1
    try clear hfz12_2
    try clear hfz14_0
    try clear hfz14_1
    try clear hfz14_2
    try clear p2
    obtain ⟨x3_2, x4_2, rfl, rfl, HA, HK2, BK157, HB⟩ := hrel
    cases gk with
    | zero => exact absurd HA.out (by simp [impl_DayOf.l0])
    | succ k2 =>
     have H := HA.out
     clear HA
     simp only [impl_DayOf.l0] at H
     by_cases c15 : x4_2 < a0_0
     ·rw [if_pos c15] at H
      have c15b0 : decide (x4_2 < a0_0) = true := decide_eq_true c15
      clear c15
      replace H := Option.bind_eq_some_iff.mp H
      obtain ⟨t162, A160, H⟩ := H
      replace H : (if t162 = true then (impl_DayOf.l0 k2 (wrap64 ((wrap64 (x3_2 + 365)) + 1)) (wrap64 (x4_2 + 1)) a0_0 a0_1 a0_2) else (impl_DayOf.l0 k2 (wrap64 (x3_2 + 365)) (wrap64 (x4_2 + 1)) a0_0 a0_1 a0_2)) = some r := H
      have A16 := Aside0.mk A160
      clear A160
      by_cases c17 : t162 = true
      ·subst c17
       have H1 : (impl_DayOf.l0 k2 (wrap64 ((wrap64 (x3_2 + 365)) + 1)) (wrap64 (x4_2 + 1)) a0_0 a0_1 a0_2) = some r := by rw [if_pos rfl] at H; exact H
       clear H
       have H := H1
       clear H1
       have H' := Aside0.mk H
       clear H
       have hcz18_0 : wr.cell? ⟨gb157, 0, none⟩ = some (.int .i64 a0_0) := (qe0 BK157.out 0).trans rfl
       have hcz18_1 : wr.cell? ⟨gb157, 1, none⟩ = some (.int .i64 a0_1) := (qe0 BK157.out 1).trans rfl
       have hcz18_2 : wr.cell? ⟨gb157, 2, none⟩ = some (.int .i64 a0_2) := (qe0 BK157.out 2).trans rfl
       have hfz18_0 := qd0 BK157.out 0
       have hfz18_1 := qd0 BK157.out 1
       have hfz18_2 := qd0 BK157.out 2
       go_wp2_with (first | (go_at_call 35; (with_reducible refine (impl_longYear.calls x4_2 true _ A16.out).mono ?_); rintro e w' ⟨rfl, ⟨nd, rfl⟩⟩; (try first | exact ⟨rfl, _, World.drewN_drewN _ _ _⟩ | exact ⟨rfl, _, Eq.trans (World.drewN_drewN _ _ _) (congrArg (World.drewN _) (Nat.add_assoc _ _ _))⟩)))
       repeat (go_quiet (first | (go_at_call 35; (with_reducible refine (impl_longYear.calls x4_2 true _ A16.out).mono ?_); rintro e w' ⟨rfl, ⟨nd, rfl⟩⟩; (try first | exact ⟨rfl, _, World.drewN_drewN _ _ _⟩ | exact ⟨rfl, _, Eq.trans (World.drewN_drewN _ _ _) (congrArg (World.drewN _) (Nat.add_assoc _ _ _))⟩))); try go_wp2_with (first | (go_at_call 35; (with_reducible refine (impl_longYear.calls x4_2 true _ A16.out).mono ?_); rintro e w' ⟨rfl, ⟨nd, rfl⟩⟩; (try first | exact ⟨rfl, _, World.drewN_drewN _ _ _⟩ | exact ⟨rfl, _, Eq.trans (World.drewN_drewN _ _ _) (congrArg (World.drewN _) (Nat.add_assoc _ _ _))⟩))))
       go_roundg k2
       case measure => have := HJ1.out; have := HK2.out; omega
       case rel => exact ⟨(wrap64 ((wrap64 (x3_2 + 365)) + 1)), (wrap64 (x4_2 + 1)), (by first | rfl | (simp; done) | (simp [*]; done)), (by first | rfl | (simp; done) | (simp [*]; done)), H', ⟨by have := HJ1.out; have := HK2.out; omega⟩, ⟨by (with_reducible repeat (first | refine qg0 ?_ _ | refine qj0 ?_ | refine qh0 ?_ _)); exact BK157.out⟩, ⟨by repeat (first | (with_reducible first | exact HB.out | apply qb0 | apply qa0 | apply qc0 | refine qi0 ?_ GE157.out) | exact HB.out)⟩⟩
      replace c17 := Bool.eq_false_iff.mpr c17
      subst c17
      have H1 : (impl_DayOf.l0 k2 (wrap64 (x3_2 + 365)) (wrap64 (x4_2 + 1)) a0_0 a0_1 a0_2) = some r := by rw [if_neg (show ¬ (false = true) by decide)] at H; exact H
      clear H
      have H := H1
      clear H1
      have H' := Aside0.mk H
      clear H
      have hcz19_0 : wr.cell? ⟨gb157, 0, none⟩ = some (.int .i64 a0_0) := (qe0 BK157.out 0).trans rfl
      have hcz19_1 : wr.cell? ⟨gb157, 1, none⟩ = some (.int .i64 a0_1) := (qe0 BK157.out 1).trans rfl
      have hcz19_2 : wr.cell? ⟨gb157, 2, none⟩ = some (.int .i64 a0_2) := (qe0 BK157.out 2).trans rfl
      have hfz19_0 := qd0 BK157.out 0
      have hfz19_1 := qd0 BK157.out 1
      have hfz19_2 := qd0 BK157.out 2
      go_wp2_with (first | (go_at_call 35; (with_reducible refine (impl_longYear.calls x4_2 false _ A16.out).mono ?_); rintro e w' ⟨rfl, ⟨nd, rfl⟩⟩; (try first | exact ⟨rfl, _, World.drewN_drewN _ _ _⟩ | exact ⟨rfl, _, Eq.trans (World.drewN_drewN _ _ _) (congrArg (World.drewN _) (Nat.add_assoc _ _ _))⟩)))
      repeat (go_quiet (first | (go_at_call 35; (with_reducible refine (impl_longYear.calls x4_2 false _ A16.out).mono ?_); rintro e w' ⟨rfl, ⟨nd, rfl⟩⟩; (try first | exact ⟨rfl, _, World.drewN_drewN _ _ _⟩ | exact ⟨rfl, _, Eq.trans (World.drewN_drewN _ _ _) (congrArg (World.drewN _) (Nat.add_assoc _ _ _))⟩))); try go_wp2_with (first | (go_at_call 35; (with_reducible refine (impl_longYear.calls x4_2 false _ A16.out).mono ?_); rintro e w' ⟨rfl, ⟨nd, rfl⟩⟩; (try first | exact ⟨rfl, _, World.drewN_drewN _ _ _⟩ | exact ⟨rfl, _, Eq.trans (World.drewN_drewN _ _ _) (congrArg (World.drewN _) (Nat.add_assoc _ _ _))⟩))))
      go_roundg k2
      case measure => have := HJ1.out; have := HK2.out; omega
      case rel => exact ⟨(wrap64 (x3_2 + 365)), (wrap64 (x4_2 + 1)), (by first | rfl | (simp; done) | (simp [*]; done)), (by first | rfl | (simp; done) | (simp [*]; done)), H', ⟨by have := HJ1.out; have := HK2.out; omega⟩, ⟨by (with_reducible repeat (first | refine qg0 ?_ _ | refine qj0 ?_ | refine qh0 ?_ _)); exact BK157.out⟩, ⟨by repeat (first | (with_reducible first | exact HB.out | apply qb0 | apply qa0 | apply qc0 | refine qi0 ?_ GE157.out) | exact HB.out)⟩⟩
     rw [if_neg c15] at H
     have c15b0 : decide (x4_2 < a0_0) = false := decide_eq_false c15
     clear c15
     have H' := Aside0.mk H
     clear H
     have hcz20_0 : wr.cell? ⟨gb157, 0, none⟩ = some (.int .i64 a0_0) := (qe0 BK157.out 0).trans rfl
     have hcz20_1 : wr.cell? ⟨gb157, 1, none⟩ = some (.int .i64 a0_1) := (qe0 BK157.out 1).trans rfl
     have hcz20_2 : wr.cell? ⟨gb157, 2, none⟩ = some (.int .i64 a0_2) := (qe0 BK157.out 2).trans rfl
     have hfz20_0 := qd0 BK157.out 0
     have hfz20_1 := qd0 BK157.out 1
     have hfz20_2 := qd0 BK157.out 2
     go_wp2
     repeat (go_quiet (fail); try go_wp2)
     go_loopg [3, 5] k2 (fun kq v3 v5 w' => ∃ (x3_3 : Int) (x5_3 : Int), v3 = .int .i64 x3_3 ∧ v5 = .int .i64 x5_3 ∧ Aside0 (impl_DayOf.l1 kq x3_3 x5_3 a0_0 a0_1 a0_2 = some r) ∧ Aside0 (kq ≤ k2) ∧ Aside0 (w'.heap[gb157]? = some (.cells #[.int .i64 a0_0, .int .i64 a0_1, .int .i64 a0_2] 28 (0, 0))) ∧ Aside0 (Below w.heap.size w w'))
     case atStart => exact ⟨(x3_2), (1), (by first | rfl | (simp; done) | (simp [*]; done)), (by first | rfl | (simp; done) | (simp [*]; done)), H', ⟨Nat.le_refl _⟩, ⟨by (with_reducible repeat (first | refine qg0 ?_ _ | refine qj0 ?_ | refine qh0 ?_ _)); exact BK157.out⟩, ⟨by repeat (first | (with_reducible first | exact HB.out | apply qb0 | apply qa0 | apply qc0 | refine qi0 ?_ GE157.out) | exact HB.out)⟩⟩
     case round =>
      clear H'
      try clear c1
      try clear c2
      try clear p2
      try clear c5
      try clear p6
      try clear c7
      try clear c13
      try clear c15
      try clear c15b0
      try clear c17
      try clear hcz10_0
      try clear hcz10_1
      try clear hcz10_2
      try clear hcz11_0
      try clear hcz11_1
      try clear hcz11_2
      try clear hcz12_0
      try clear hcz12_1
      try clear hcz12_2
      try clear hcz14_0
      try clear hcz14_1
      try clear hcz14_2
      try clear hcz18_0
      try clear hcz18_1
      try clear hcz18_2
      try clear hcz19_0
      try clear hcz19_1
      try clear hcz19_2
      try clear hcz20_0
      try clear hcz20_1
      try clear hcz20_2
      try clear hfz10_0
      try clear hfz10_1
      try clear hfz10_2
      try clear hfz11_0
      try clear hfz11_1
      try clear hfz11_2
      try clear hfz12_0
      try clear hfz12_1
      try clear hfz12_2
      try clear hfz14_0
      try clear hfz14_1
      try clear hfz14_2
      try clear hfz18_0
      try clear hfz18_1
      try clear hfz18_2
      try clear hfz19_0
      try clear hfz19_1
      try clear hfz19_2
      try clear hfz20_0
      try clear hfz20_1
      try clear hfz20_2
      try clear p2
      try clear p6
      obtain ⟨x3_3, x5_3, rfl, rfl, HA, HK3, BK157, HB⟩ := hrel
      cases gk with
      | zero => exact absurd HA.out (by simp [impl_DayOf.l1])
      | succ k3 =>
       have H := HA.out
       clear HA
       simp only [impl_DayOf.l1] at H
       by_cases c21 : x5_3 < a0_1
       ·rw [if_pos c21] at H
        have c21b0 : decide (x5_3 < a0_1) = true := decide_eq_true c21
        clear c21
        replace H := Option.bind_eq_some_iff.mp H
        obtain ⟨t163, A220, H⟩ := H
        replace H : (impl_DayOf.l1 k3 (wrap64 (x3_3 + t163)) (wrap64 (x5_3 + 1)) a0_0 a0_1 a0_2) = some r := H
        have A22 := Aside0.mk A220
        clear A220
        have H' := Aside0.mk H
        clear H
        have hcz23_0 : wr.cell? ⟨gb157, 0, none⟩ = some (.int .i64 a0_0) := (qe0 BK157.out 0).trans rfl
        have hcz23_1 : wr.cell? ⟨gb157, 1, none⟩ = some (.int .i64 a0_1) := (qe0 BK157.out 1).trans rfl
        have hcz23_2 : wr.cell? ⟨gb157, 2, none⟩ = some (.int .i64 a0_2) := (qe0 BK157.out 2).trans rfl
        have hfz23_0 := qd0 BK157.out 0
        have hfz23_1 := qd0 BK157.out 1
        have hfz23_2 := qd0 BK157.out 2
        go_wp2_with (first | (go_at_call 27; (with_reducible refine (impl_daysOf.calls a0_0 x5_3 t163 _ A22.out).mono ?_); rintro e w' ⟨rfl, ⟨nd, rfl⟩⟩; (try first | exact ⟨rfl, _, World.drewN_drewN _ _ _⟩ | exact ⟨rfl, _, Eq.trans (World.drewN_drewN _ _ _) (congrArg (World.drewN _) (Nat.add_assoc _ _ _))⟩)))
        repeat (go_quiet (first | (go_at_call 27; (with_reducible refine (impl_daysOf.calls a0_0 x5_3 t163 _ A22.out).mono ?_); rintro e w' ⟨rfl, ⟨nd, rfl⟩⟩; (try first | exact ⟨rfl, _, World.drewN_drewN _ _ _⟩ | exact ⟨rfl, _, Eq.trans (World.drewN_drewN _ _ _) (congrArg (World.drewN _) (Nat.add_assoc _ _ _))⟩))); try go_wp2_with (first | (go_at_call 27; (with_reducible refine (impl_daysOf.calls a0_0 x5_3 t163 _ A22.out).mono ?_); rintro e w' ⟨rfl, ⟨nd, rfl⟩⟩; (try first | exact ⟨rfl, _, World.drewN_drewN _ _ _⟩ | exact ⟨rfl, _, Eq.trans (World.drewN_drewN _ _ _) (congrArg (World.drewN _) (Nat.add_assoc _ _ _))⟩))))
        go_roundg k3
        case measure => have := HJ1.out; have := HK2.out; have := HK3.out; omega
        case rel => exact ⟨(wrap64 (x3_3 + t163)), (wrap64 (x5_3 + 1)), (by first | rfl | (simp; done) | (simp [*]; done)), (by first | rfl | (simp; done) | (simp [*]; done)), H', ⟨by have := HJ1.out; have := HK2.out; have := HK3.out; omega⟩, ⟨by (with_reducible repeat (first | refine qg0 ?_ _ | refine qj0 ?_ | refine qh0 ?_ _)); exact BK157.out⟩, ⟨by repeat (first | (with_reducible first | exact HB.out | apply qb0 | apply qa0 | apply qc0 | refine qi0 ?_ GE157.out) | exact HB.out)⟩⟩
       rw [if_neg c21] at H
       have c21b0 : decide (x5_3 < a0_1) = false := decide_eq_false c21
       clear c21
       replace H := Option.bind_eq_some_iff.mp H
       obtain ⟨t164, A240, H⟩ := H
       replace H : (if t164 = true then (some x3_3) else (some (-1))) = some r := H
       have A24 := Aside0.mk A240
       clear A240
       by_cases c25 : t164 = true
       ·subst c25
        have H1 : (some x3_3) = some r := by rw [if_pos rfl] at H; exact H
        clear H
        have H := H1
        clear H1
        obtain rfl := Option.some.inj H
        have hcz26_0 : wr.cell? ⟨gb157, 0, none⟩ = some (.int .i64 a0_0) := (qe0 BK157.out 0).trans rfl
        have hcz26_1 : wr.cell? ⟨gb157, 1, none⟩ = some (.int .i64 a0_1) := (qe0 BK157.out 1).trans rfl
        have hcz26_2 : wr.cell? ⟨gb157, 2, none⟩ = some (.int .i64 a0_2) := (qe0 BK157.out 2).trans rfl
        have hfz26_0 := qd0 BK157.out 0
        have hfz26_1 := qd0 BK157.out 1
        have hfz26_2 := qd0 BK157.out 2
        go_wp2_with (first | (go_at_call 34; (with_reducible refine (impl_isDay.calls x3_3 true _ A24.out).mono ?_); rintro e w' ⟨rfl, ⟨nd, rfl⟩⟩; (try first | exact ⟨rfl, _, World.drewN_drewN _ _ _⟩ | exact ⟨rfl, _, Eq.trans (World.drewN_drewN _ _ _) (congrArg (World.drewN _) (Nat.add_assoc _ _ _))⟩)))
        repeat (go_quiet (first | (go_at_call 34; (with_reducible refine (impl_isDay.calls x3_3 true _ A24.out).mono ?_); rintro e w' ⟨rfl, ⟨nd, rfl⟩⟩; (try first | exact ⟨rfl, _, World.drewN_drewN _ _ _⟩ | exact ⟨rfl, _, Eq.trans (World.drewN_drewN _ _ _) (congrArg (World.drewN _) (Nat.add_assoc _ _ _))⟩))); try go_wp2_with (first | (go_at_call 34; (with_reducible refine (impl_isDay.calls x3_3 true _ A24.out).mono ?_); rintro e w' ⟨rfl, ⟨nd, rfl⟩⟩; (try first | exact ⟨rfl, _, World.drewN_drewN _ _ _⟩ | exact ⟨rfl, _, Eq.trans (World.drewN_drewN _ _ _) (congrArg (World.drewN _) (Nat.add_assoc _ _ _))⟩))))
        go_ret
        exact ⟨by first | rfl | (simp [errW_none, errW_some] <;> rfl) | (simp [*, errW_none, errW_some] <;> rfl), by repeat (first | (with_reducible first | exact HB.out | apply qb0 | apply qa0 | apply qc0 | refine qi0 ?_ GE157.out) | exact HB.out)⟩
       replace c25 := Bool.eq_false_iff.mpr c25
       subst c25
       have H1 : (some (-1)) = some r := by rw [if_neg (show ¬ (false = true) by decide)] at H; exact H
       clear H
       have H := H1
       clear H1
       obtain rfl := Option.some.inj H
       have hcz27_0 : wr.cell? ⟨gb157, 0, none⟩ = some (.int .i64 a0_0) := (qe0 BK157.out 0).trans rfl
       have hcz27_1 : wr.cell? ⟨gb157, 1, none⟩ = some (.int .i64 a0_1) := (qe0 BK157.out 1).trans rfl
       have hcz27_2 : wr.cell? ⟨gb157, 2, none⟩ = some (.int .i64 a0_2) := (qe0 BK157.out 2).trans rfl
       have hfz27_0 := qd0 BK157.out 0
       have hfz27_1 := qd0 BK157.out 1
       have hfz27_2 := qd0 BK157.out 2
       go_wp2_with (first | (go_at_call 34; (with_reducible refine (impl_isDay.calls x3_3 false _ A24.out).mono ?_); rintro e w' ⟨rfl, ⟨nd, rfl⟩⟩; (try first | exact ⟨rfl, _, World.drewN_drewN _ _ _⟩ | exact ⟨rfl, _, Eq.trans (World.drewN_drewN _ _ _) (congrArg (World.drewN _) (Nat.add_assoc _ _ _))⟩)))
       repeat (go_quiet (first | (go_at_call 34; (with_reducible refine (impl_isDay.calls x3_3 false _ A24.out).mono ?_); rintro e w' ⟨rfl, ⟨nd, rfl⟩⟩; (try first | exact ⟨rfl, _, World.drewN_drewN _ _ _⟩ | exact ⟨rfl, _, Eq.trans (World.drewN_drewN _ _ _) (congrArg (World.drewN _) (Nat.add_assoc _ _ _))⟩))); try go_wp2_with (first | (go_at_call 34; (with_reducible refine (impl_isDay.calls x3_3 false _ A24.out).mono ?_); rintro e w' ⟨rfl, ⟨nd, rfl⟩⟩; (try first | exact ⟨rfl, _, World.drewN_drewN _ _ _⟩ | exact ⟨rfl, _, Eq.trans (World.drewN_drewN _ _ _) (congrArg (World.drewN _) (Nat.add_assoc _ _ _))⟩))))
       go_ret
       exact ⟨by first | rfl | (simp [errW_none, errW_some] <;> rfl) | (simp [*, errW_none, errW_some] <;> rfl), by repeat (first | (with_reducible first | exact HB.out | apply qb0 | apply qa0 | apply qc0 | refine qi0 ?_ GE157.out) | exact HB.out)⟩

/-! ### impl_MonthEnd: function 11 -/
def impl_MonthEnd.f (k : Nat) (a0 : Int) : Option (Int) := (impl_DateOf.f k a0).bind fun bt165 => (if (bt165.1 == 0 && (bt165.2.1 == 0 && (bt165.2.2 == 0))) = true then (some (-1)) else ((impl_daysOf.f bt165.1 bt165.2.1).bind fun t169 => ((impl_DayOf.f k bt165.1 bt165.2.1 t169).bind fun t170 => (some t170))))
theorem impl_MonthEnd.mono : ∀ a0 k, LeO (impl_MonthEnd.f k a0) (impl_MonthEnd.f (k + 1) a0) := by
 intro a0 k
 unfold impl_MonthEnd.f
 repeat' first
   | (with_reducible exact impl_DateOf.mono _ _)
   | (with_reducible exact impl_DayOf.mono _ _ _ _)
   | (with_reducible exact LeO.refl _)
   | (with_reducible exact LeO.none _)
   | (with_reducible refine LeO.ite ?_ ?_)
   | (with_reducible refine LeO.bind ?_ (fun _ => ?_))
   | exact impl_DateOf.mono _ _
   | exact impl_DayOf.mono _ _ _ _
   | exact LeO.none _
   | refine LeO.ite ?_ ?_
   | refine LeO.bind ?_ (fun _ => ?_)
set_option maxHeartbeats 8000000 in
set_option maxRecDepth 100000 in
theorem impl_MonthEnd.calls (k : Nat) (a0 : Int) (r : Int) (w : World) (h : impl_MonthEnd.f k a0 = some r) (hT : Tab w := by first | exact HT.out | exact Tab.below HT.out (by repeat (first | (with_reducible first | exact HB.out | apply qb0 | apply qa0 | apply qc0 | refine qi0 ?_ (Aside0.out (by assumption))) | exact HB.out))) :
  Calls Tryd.prog 11 #[.int .i64 a0] w fun e w' => e = .returned (.int .i64 r) ∧ Below w.heap.size w w' := by
 have HT := Aside0.mk hT
 clear hT
 have hu28 := Tryd.underlying28
 have HB := Aside0.mk (Below.refl w.heap.size w)
 have H : ((impl_DateOf.f k a0).bind fun bt165 => (if (bt165.1 == 0 && (bt165.2.1 == 0 && (bt165.2.2 == 0))) = true then (some (-1)) else ((impl_daysOf.f bt165.1 bt165.2.1).bind fun t169 => ((impl_DayOf.f k bt165.1 bt165.2.1 t169).bind fun t170 => (some t170))))) = some r := h
 clear h
 replace H := Option.bind_eq_some_iff.mp H
 obtain ⟨⟨t165, t166, t167⟩, A20, H⟩ := H
 replace H : (if (t165 == 0 && (t166 == 0 && (t167 == 0))) = true then (some (-1)) else ((impl_daysOf.f t165 t166).bind fun t169 => ((impl_DayOf.f k t165 t166 t169).bind fun t170 => (some t170)))) = some r := H
 have A2 := Aside0.mk A20
 clear A20
 by_cases c3 : (t165 == 0 && (t166 == 0 && (t167 == 0))) = true
 ·rw [if_pos c3] at H
  have c3b0 : (t165 == 0 && (t166 == 0 && (t167 == 0))) = true := c3
  (try (have c3b1 : decide (t165 = 0 && (t166 == 0 && (t167 == 0))) = true := by simpa using c3))
  (try (have c3b2 : (t165 == 0 && (t166 == 0 && (t167 == 0))) = true := by simpa using c3))
  clear c3
  obtain rfl := Option.some.inj H
  go_enter Tryd.func11, Tryd.ntmps11
  go_wp2_with (first | ((with_reducible refine qf0 (f := 10) rfl ?_); refine qp0 (some 5) rfl rfl Tryd.func10 (by kernel_rfl) rfl #[.int .i64 a0] rfl (by (try simp only [List.map_toArray, List.map_cons, List.map_nil]); first | done | rfl | (simp only [List.length_drop, List.length_take]; rfl)) ?_; (with_reducible refine (impl_DateOf.calls k a0 t165 t166 t167 _ A2.out).mono ?_); rintro e w4 ⟨rfl, hb⟩; refine ⟨_, rfl, ?_⟩; have n0_ := Aside0.mk (ql0 (by repeat (first | (with_reducible first | exact HB.out | apply qb0 | apply qa0 | apply qc0) | exact HB.out)) hb); clear HB; have HB := n0_; clear n0_; (try clear hb); (try clear hb2); (try clear hk); (try clear hi)) | ((with_reducible refine qs0 (N := 3) rfl ?_); refine qt0 ?hg (N := 3) ?hd (cs := #[.int .i64 0, .int .i64 0, .int .i64 0]) (t := 28) ?hr ?_; (case hd => rfl); (case hg => rfl); (case hr => first | (go_simp; done) | (go_simp; rfl)); intro gb168 hg w5 hbox hb; have n0_ := Aside0.mk (ql0 (by repeat (first | (with_reducible first | exact HB.out | apply qb0 | apply qa0 | apply qc0) | exact HB.out)) hb); have n1_ := Aside0.mk (hbox); have n2_ := Aside0.mk ((by rw [hg]; exact (qk0 (by repeat (first | (with_reducible first | exact HB.out | apply qb0 | apply qa0 | apply qc0) | exact HB.out))) : w.heap.size ≤ gb168)); have n3_ := Aside0.mk ((by rw [hg]; exact (qk0 (by repeat (first | (with_reducible first | exact HB.out | apply qb0 | apply qa0 | apply qc0) | exact HB.out))) : w.heap.size ≤ gb168)); clear HB; have HB := n0_; have BK168 := n1_; have GW168 := n2_; have GE168 := n3_; clear n0_ n1_ n2_ n3_; clear hb hbox hg; have hcz6_0 : w5.cell? ⟨gb168, 0, none⟩ = some (.int .i64 0) := (qe0 BK168.out 0).trans rfl; have hcz6_1 : w5.cell? ⟨gb168, 1, none⟩ = some (.int .i64 0) := (qe0 BK168.out 1).trans rfl; have hcz6_2 : w5.cell? ⟨gb168, 2, none⟩ = some (.int .i64 0) := (qe0 BK168.out 2).trans rfl; have hfz6_0 := qd0 BK168.out 0; have hfz6_1 := qd0 BK168.out 1; have hfz6_2 := qd0 BK168.out 2))
  go_ret
  exact ⟨by first | rfl | (simp [errW_none, errW_some] <;> rfl) | (simp [*, errW_none, errW_some] <;> rfl), by repeat (first | (with_reducible first | exact HB.out | apply qb0 | apply qa0 | apply qc0 | refine qi0 ?_ GE168.out) | exact HB.out)⟩
 rw [if_neg c3] at H
 have c3b0 : (t165 == 0 && (t166 == 0 && (t167 == 0))) = false := by simpa using c3
 (try (have c3b1 : decide (t165 = 0 && (t166 == 0 && (t167 == 0))) = false := by simpa using c3))
 (try (have c3b2 : (t165 == 0 && (t166 == 0 && (t167 == 0))) = false := by simpa using c3))
 (try (have c3b3 : ¬ (t165 = 0 && (t166 == 0 && (t167 == 0))) := by simpa using c3))
 clear c3
 replace H := Option.bind_eq_some_iff.mp H
 obtain ⟨t169, A70, H⟩ := H
 replace H : ((impl_DayOf.f k t165 t166 t169).bind fun t170 => (some t170)) = some r := H
 have A7 := Aside0.mk A70
 clear A70
 replace H := Option.bind_eq_some_iff.mp H
 obtain ⟨t170, A80, H⟩ := H
 replace H : (some t170) = some r := H
 have A8 := Aside0.mk A80
 clear A80
 obtain rfl := Option.some.inj H
 go_enter Tryd.func11, Tryd.ntmps11
 go_wp2_with (first | ((with_reducible refine qf0 (f := 10) rfl ?_); refine qp0 (some 5) rfl rfl Tryd.func10 (by kernel_rfl) rfl #[.int .i64 a0] rfl (by (try simp only [List.map_toArray, List.map_cons, List.map_nil]); first | done | rfl | (simp only [List.length_drop, List.length_take]; rfl)) ?_; (with_reducible refine (impl_DateOf.calls k a0 t165 t166 t167 _ A2.out).mono ?_); rintro e w9 ⟨rfl, hb⟩; refine ⟨_, rfl, ?_⟩; have n0_ := Aside0.mk (ql0 (by repeat (first | (with_reducible first | exact HB.out | apply qb0 | apply qa0 | apply qc0) | exact HB.out)) hb); clear HB; have HB := n0_; clear n0_; (try clear hb); (try clear hb2); (try clear hk); (try clear hi)) | ((with_reducible refine qs0 (N := 3) rfl ?_); refine qt0 ?hg (N := 3) ?hd (cs := #[.int .i64 0, .int .i64 0, .int .i64 0]) (t := 28) ?hr ?_; (case hd => rfl); (case hg => rfl); (case hr => first | (go_simp; done) | (go_simp; rfl)); intro gb168 hg w10 hbox hb; have n0_ := Aside0.mk (ql0 (by repeat (first | (with_reducible first | exact HB.out | apply qb0 | apply qa0 | apply qc0) | exact HB.out)) hb); have n1_ := Aside0.mk (hbox); have n2_ := Aside0.mk ((by rw [hg]; exact (qk0 (by repeat (first | (with_reducible first | exact HB.out | apply qb0 | apply qa0 | apply qc0) | exact HB.out))) : w.heap.size ≤ gb168)); have n3_ := Aside0.mk ((by rw [hg]; exact (qk0 (by repeat (first | (with_reducible first | exact HB.out | apply qb0 | apply qa0 | apply qc0) | exact HB.out))) : w.heap.size ≤ gb168)); clear HB; have HB := n0_; have BK168 := n1_; have GW168 := n2_; have GE168 := n3_; clear n0_ n1_ n2_ n3_; clear hb hbox hg; have hcz11_0 : w10.cell? ⟨gb168, 0, none⟩ = some (.int .i64 0) := (qe0 BK168.out 0).trans rfl; have hcz11_1 : w10.cell? ⟨gb168, 1, none⟩ = some (.int .i64 0) := (qe0 BK168.out 1).trans rfl; have hcz11_2 : w10.cell? ⟨gb168, 2, none⟩ = some (.int .i64 0) := (qe0 BK168.out 2).trans rfl; have hfz11_0 := qd0 BK168.out 0; have hfz11_1 := qd0 BK168.out 1; have hfz11_2 := qd0 BK168.out 2; have hczS : ∀ n_ : Nat, ((((w10.setCell ⟨gb168, 0, none⟩ (.int .i64 t165)).setCell ⟨gb168, 1, none⟩ (.int .i64 t166)).setCell ⟨gb168, 2, none⟩ (.int .i64 t167)).drewN n_).cell? ⟨gb168, 2, none⟩ = some (.int .i64 t167) := fun n_ => World.cell?_setCell_same _ _ _ ((World.cell?_setCell_other _ _ _ _ (by simp)).trans ((World.cell?_setCell_other _ _ _ _ (by simp)).trans hcz11_2))) | ((with_reducible refine qf0 (f := 27) rfl ?_); refine qp0 (some 13) rfl rfl Tryd.func27 (by kernel_rfl) rfl #[.int .i64 t165, .int .i64 t166] rfl (by (try simp only [List.map_toArray, List.map_cons, List.map_nil]); first | done | rfl | (simp only [List.length_drop, List.length_take]; rfl)) ?_; (with_reducible refine (impl_daysOf.calls t165 t166 t169 _ A7.out).mono ?_); rintro e w' ⟨rfl, ⟨nd, rfl⟩⟩; refine ⟨_, rfl, ?_⟩) | ((with_reducible refine qf0 (f := 28) rfl ?_); refine qp0 (some 16) rfl rfl Tryd.func28 (by kernel_rfl) rfl #[.agg #[.int .i64 t165, .int .i64 t166, .int .i64 t169]] rfl (by (try simp only [List.map_toArray, List.map_cons, List.map_nil]); first | done | rfl | (simp only [List.length_drop, List.length_take]; rfl)) ?_; (with_reducible refine (impl_DayOf.calls k t165 t166 t169 t170 _ A8.out).mono ?_); rintro e w12 ⟨rfl, hb⟩; refine ⟨_, rfl, ?_⟩; have n0_ := Aside0.mk (blk_below (g := gb168) (o := .cells #[.int .i64 t165, .int .i64 t166, .int .i64 t169] 28 (0, 0)) (by (with_reducible repeat (first | refine qg0 ?_ _ | refine qj0 ?_ | refine qh0 ?_ _)); refine qy0 (cs := #[.int .i64 t165, .int .i64 t166, .int .i64 t167]) ?_ 2 _ rfl; (with_reducible repeat (first | refine qg0 ?_ _ | refine qj0 ?_ | refine qh0 ?_ _)); refine qy0 (cs := #[.int .i64 t165, .int .i64 t166, .int .i64 0]) ?_ 2 _ rfl; (with_reducible repeat (first | refine qg0 ?_ _ | refine qj0 ?_ | refine qh0 ?_ _)); refine qy0 (cs := #[.int .i64 t165, .int .i64 0, .int .i64 0]) ?_ 1 _ rfl; (with_reducible repeat (first | refine qg0 ?_ _ | refine qj0 ?_ | refine qh0 ?_ _)); refine qy0 (cs := #[.int .i64 0, .int .i64 0, .int .i64 0]) ?_ 0 _ rfl; (with_reducible repeat (first | refine qg0 ?_ _ | refine qj0 ?_ | refine qh0 ?_ _)); exact BK168.out) hb); have n1_ := Aside0.mk (ql0 (by repeat (first | (with_reducible first | exact HB.out | apply qb0 | apply qa0 | apply qc0 | refine qi0 ?_ GE168.out) | exact HB.out)) hb); clear BK168; clear HB; have BK168 := n0_; have HB := n1_; clear n0_ n1_; (try clear hb); (try clear hb2); (try clear hk); (try clear hi)))
 go_ret
 exact ⟨by first | rfl | (simp [errW_none, errW_some] <;> rfl) | (simp [*, errW_none, errW_some] <;> rfl), by repeat (first | (with_reducible first | exact HB.out | apply qb0 | apply qa0 | apply qc0 | refine qi0 ?_ GE168.out) | exact HB.out)⟩

end Go.Proofs.YtdnenglafphkbaaDoor.PFnExactPeriods
