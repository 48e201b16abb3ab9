/- Lines by a program (a changed copy of the kit's print: this repo's wip/tools): Go functions as Lean functions, and proofs that the calls answer so. -/
import Derived.Test.YtdnenglafphkbaaDoorZPFnMonthsOnx0
import Derived.Test.YtdnenglafphkbaaDoorZPFnMonthsOnx1
import Derived.Test.YtdnenglafphkbaaDoorZPFnMonthsOnx2
import Derived.Test.YtdnenglafphkbaaDoorZPFnMonthsOnx3
import Derived.Test.YtdnenglafphkbaaDoorZPFnMonthsOnx4
namespace Go.Proofs.YtdnenglafphkbaaDoor.PFnMonthsOn
open Go.RowKit Go.Proofs.YtdnenglafphkbaaDoorW.PrintWords Go.Proofs.YtdnenglafphkbaaDoorW.PrintLast Go.Proofs.YtdnenglafphkbaaDoorW.PrintMore
attribute [local go_sem] max2_int min2_int max_two min_two max_three min_three max_four min_four   -- for this text's walks alone
set_option linter.unusedVariables false
set_option linter.unusedSimpArgs false

attribute [local go_sem high] eqA28
/-! ### impl_DayOf: function 28 -/
mutual
def impl_DayOf.j0 : Nat → Bool → Int → Int → Int → Option (Int)
 | 0, _, _, _, _ => none
 | k + 1, x26, x215000, x215001, x215002 => if x26 = true then (some (-1)) else (impl_DayOf.l0 k (wrap64 (x215002 - 1)) 2000 x215000 x215001 x215002)
def impl_DayOf.l0 : Nat → Int → Int → Int → Int → Int → Option (Int)
 | 0, _, _, _, _, _ => none
 | k + 1, x3, x4, x215000, x215001, x215002 => if x4 < x215000 then ((impl_longYear.f x4).bind fun t219 => (if t219 = true then (impl_DayOf.l0 k (wrap64 ((wrap64 (x3 + 365)) + 1)) (wrap64 (x4 + 1)) x215000 x215001 x215002) else (impl_DayOf.l0 k (wrap64 (x3 + 365)) (wrap64 (x4 + 1)) x215000 x215001 x215002))) else (impl_DayOf.l1 k x3 1 x215000 x215001 x215002)
def impl_DayOf.l1 : Nat → Int → Int → Int → Int → Int → Option (Int)
 | 0, _, _, _, _, _ => none
 | k + 1, x3, x5, x215000, x215001, x215002 => if x5 < x215001 then ((impl_daysOf.f x215000 x5).bind fun t220 => (impl_DayOf.l1 k (wrap64 (x3 + t220)) (wrap64 (x5 + 1)) x215000 x215001 x215002)) else ((impl_isDay.f x3).bind fun t221 => (if t221 = true then (some x3) else (some (-1))))
end
def impl_DayOf.f (k : Nat) (a0_0 : Int) (a0_1 : Int) (a0_2 : Int) : Option (Int) := (impl_between.f a0_0 2000 2200).bind fun t215 => (if t215 = true then ((impl_between.f a0_1 1 12).bind fun t216 => (if t216 = true then ((impl_daysOf.f a0_0 a0_1).bind fun t217 => ((impl_between.f a0_2 1 t217).bind fun t218 => (impl_DayOf.j0 k (!t218) a0_0 a0_1 a0_2))) else (impl_DayOf.j0 k true a0_0 a0_1 a0_2))) else (impl_DayOf.j0 k true a0_0 a0_1 a0_2))
theorem impl_DayOf.mono_l : ∀ k, (∀ y0 y1 y2 y3, LeO (impl_DayOf.j0 k y0 y1 y2 y3) (impl_DayOf.j0 (k + 1) y0 y1 y2 y3)) ∧ (∀ y0 y1 y2 y3 y4, LeO (impl_DayOf.l0 k y0 y1 y2 y3 y4) (impl_DayOf.l0 (k + 1) y0 y1 y2 y3 y4)) ∧ (∀ y0 y1 y2 y3 y4, LeO (impl_DayOf.l1 k y0 y1 y2 y3 y4) (impl_DayOf.l1 (k + 1) y0 y1 y2 y3 y4))
 | 0 => ⟨fun _ _ _ _ r h => by simp [impl_DayOf.j0] at h, fun _ _ _ _ _ r h => by simp [impl_DayOf.l0] at h, fun _ _ _ _ _ r h => by simp [impl_DayOf.l1] at h⟩
 | k + 1 => by
  obtain ⟨ih0, ih1, ih2⟩ := impl_DayOf.mono_l k
  refine ⟨?_, ?_, ?_⟩
  ·intro y0 y1 y2 y3
   unfold impl_DayOf.j0
   repeat' first
   | (with_reducible exact ih0 _ _ _ _)
   | (with_reducible exact ih1 _ _ _ _ _)
   | (with_reducible exact ih2 _ _ _ _ _)
   | (with_reducible exact LeO.refl _)
   | (with_reducible exact LeO.none _)
   | (with_reducible refine LeO.ite ?_ ?_)
   | (with_reducible refine LeO.bind ?_ (fun _ => ?_))
   | exact ih0 _ _ _ _
   | exact ih1 _ _ _ _ _
   | exact ih2 _ _ _ _ _
   | exact LeO.none _
   | refine LeO.ite ?_ ?_
   | refine LeO.bind ?_ (fun _ => ?_)
  ·intro y0 y1 y2 y3 y4
   unfold impl_DayOf.l0
   repeat' first
   | (with_reducible exact ih0 _ _ _ _)
   | (with_reducible exact ih1 _ _ _ _ _)
   | (with_reducible exact ih2 _ _ _ _ _)
   | (with_reducible exact LeO.refl _)
   | (with_reducible exact LeO.none _)
   | (with_reducible refine LeO.ite ?_ ?_)
   | (with_reducible refine LeO.bind ?_ (fun _ => ?_))
   | exact ih0 _ _ _ _
   | exact ih1 _ _ _ _ _
   | exact ih2 _ _ _ _ _
   | exact LeO.none _
   | refine LeO.ite ?_ ?_
   | refine LeO.bind ?_ (fun _ => ?_)
  ·intro y0 y1 y2 y3 y4
   unfold impl_DayOf.l1
   repeat' first
   | (with_reducible exact ih0 _ _ _ _)
   | (with_reducible exact ih1 _ _ _ _ _)
   | (with_reducible exact ih2 _ _ _ _ _)
   | (with_reducible exact LeO.refl _)
   | (with_reducible exact LeO.none _)
   | (with_reducible refine LeO.ite ?_ ?_)
   | (with_reducible refine LeO.bind ?_ (fun _ => ?_))
   | exact ih0 _ _ _ _
   | exact ih1 _ _ _ _ _
   | exact ih2 _ _ _ _ _
   | exact LeO.none _
   | refine LeO.ite ?_ ?_
   | refine LeO.bind ?_ (fun _ => ?_)
theorem impl_DayOf.mono : ∀ a0 a1 a2 k, LeO (impl_DayOf.f k a0 a1 a2) (impl_DayOf.f (k + 1) a0 a1 a2) := by
 intro a0 a1 a2 k
 obtain ⟨ih0, ih1, ih2⟩ := impl_DayOf.mono_l k
 unfold impl_DayOf.f
 repeat' first
   | (with_reducible exact ih0 _ _ _ _)
   | (with_reducible exact ih1 _ _ _ _ _)
   | (with_reducible exact ih2 _ _ _ _ _)
   | (with_reducible exact LeO.refl _)
   | (with_reducible exact LeO.none _)
   | (with_reducible refine LeO.ite ?_ ?_)
   | (with_reducible refine LeO.bind ?_ (fun _ => ?_))
   | exact ih0 _ _ _ _
   | exact ih1 _ _ _ _ _
   | exact ih2 _ _ _ _ _
   | exact LeO.none _
   | refine LeO.ite ?_ ?_
   | refine LeO.bind ?_ (fun _ => ?_)
set_option maxHeartbeats 8000000 in
set_option maxRecDepth 100000 in
theorem impl_DayOf.calls (k : Nat) (a0_0 : Int) (a0_1 : Int) (a0_2 : Int) (r : Int) (w : World) (h : impl_DayOf.f k a0_0 a0_1 a0_2 = some r) (hT : Tab w := by first | exact HT.out | exact Tab.below HT.out (by repeat (first | (with_reducible first | exact HB.out | apply qb0 | apply qa0 | apply qc0 | refine qh0 ?_ (Aside0.out (by assumption))) | exact HB.out))) :
  Calls Tryd.prog 28 #[.agg #[.int .i64 a0_0, .int .i64 a0_1, .int .i64 a0_2]] w fun e w' => e = .returned (.int .i64 r) ∧ Below w.heap.size w w' := by
 have HT := Aside0.mk hT
 clear hT
 have hu28 := Tryd.underlying28
 have HB := Aside0.mk (Below.refl w.heap.size w)
 have H : ((impl_between.f a0_0 2000 2200).bind fun t215 => (if t215 = true then ((impl_between.f a0_1 1 12).bind fun t216 => (if t216 = true then ((impl_daysOf.f a0_0 a0_1).bind fun t217 => ((impl_between.f a0_2 1 t217).bind fun t218 => (impl_DayOf.j0 k (!t218) a0_0 a0_1 a0_2))) else (impl_DayOf.j0 k true a0_0 a0_1 a0_2))) else (impl_DayOf.j0 k true a0_0 a0_1 a0_2))) = some r := h
 clear h
 have HC2 := Aside0.mk H
 clear H
 go_enter Tryd.func28, Tryd.ntmps28
 go_upto_region 1 with (first | ((with_reducible refine qs0 (N := 1) rfl ?_); refine qr0 ?hg (N := 1) ?hd (cs := #[.int .i64 a0_0, .int .i64 a0_1, .int .i64 a0_2]) (t := 28) ?hr ?_; (case hd => rfl); (case hg => rfl); (case hr => first | (go_simp; done) | (go_simp; rfl)); intro gb214 hg w3 hbox hb; have n0_ := Aside0.mk (qk0 (by repeat (first | (with_reducible first | exact HB.out | apply qb0 | apply qa0 | apply qc0) | exact HB.out)) hb); have n1_ := Aside0.mk (hbox); have n2_ := Aside0.mk ((by rw [hg]; exact (ql0 (by repeat (first | (with_reducible first | exact HB.out | apply qb0 | apply qa0 | apply qc0) | exact HB.out))) : w.heap.size ≤ gb214)); have n3_ := Aside0.mk ((by rw [hg]; exact (ql0 (by repeat (first | (with_reducible first | exact HB.out | apply qb0 | apply qa0 | apply qc0) | exact HB.out))) : w.heap.size ≤ gb214)); clear HB; have HB := n0_; have BK214 := n1_; have GW214 := n2_; have GE214 := n3_; clear n0_ n1_ n2_ n3_; clear hb hbox hg))
 repeat (go_quiet (first | ((with_reducible refine qs0 (N := 1) rfl ?_); refine qr0 ?hg (N := 1) ?hd (cs := #[.int .i64 a0_0, .int .i64 a0_1, .int .i64 a0_2]) (t := 28) ?hr ?_; (case hd => rfl); (case hg => rfl); (case hr => first | (go_simp; done) | (go_simp; rfl)); intro gb214 hg w3 hbox hb; have n0_ := Aside0.mk (qk0 (by repeat (first | (with_reducible first | exact HB.out | apply qb0 | apply qa0 | apply qc0) | exact HB.out)) hb); have n1_ := Aside0.mk (hbox); have n2_ := Aside0.mk ((by rw [hg]; exact (ql0 (by repeat (first | (with_reducible first | exact HB.out | apply qb0 | apply qa0 | apply qc0) | exact HB.out))) : w.heap.size ≤ gb214)); have n3_ := Aside0.mk ((by rw [hg]; exact (ql0 (by repeat (first | (with_reducible first | exact HB.out | apply qb0 | apply qa0 | apply qc0) | exact HB.out))) : w.heap.size ≤ gb214)); clear HB; have HB := n0_; have BK214 := n1_; have GW214 := n2_; have GE214 := n3_; clear n0_ n1_ n2_ n3_; clear hb hbox hg)); go_upto_region 1 with (first | ((with_reducible refine qs0 (N := 1) rfl ?_); refine qr0 ?hg (N := 1) ?hd (cs := #[.int .i64 a0_0, .int .i64 a0_1, .int .i64 a0_2]) (t := 28) ?hr ?_; (case hd => rfl); (case hg => rfl); (case hr => first | (go_simp; done) | (go_simp; rfl)); intro gb214 hg w3 hbox hb; have n0_ := Aside0.mk (qk0 (by repeat (first | (with_reducible first | exact HB.out | apply qb0 | apply qa0 | apply qc0) | exact HB.out)) hb); have n1_ := Aside0.mk (hbox); have n2_ := Aside0.mk ((by rw [hg]; exact (ql0 (by repeat (first | (with_reducible first | exact HB.out | apply qb0 | apply qa0 | apply qc0) | exact HB.out))) : w.heap.size ≤ gb214)); have n3_ := Aside0.mk ((by rw [hg]; exact (ql0 (by repeat (first | (with_reducible first | exact HB.out | apply qb0 | apply qa0 | apply qc0) | exact HB.out))) : w.heap.size ≤ gb214)); clear HB; have HB := n0_; have BK214 := n1_; have GW214 := n2_; have GE214 := n3_; clear n0_ n1_ n2_ n3_; clear hb hbox hg)))
 (try simp only [Act.put, List.setIfInBounds_toArray, List.set_cons_zero, List.set_cons_succ])
 go_cut [26] (fun v26 wc => ∃ (kq : Nat) (x26_1 : Bool), v26 = .bool x26_1 ∧ Aside0 (impl_DayOf.j0 kq x26_1 a0_0 a0_1 a0_2 = some r) ∧ Aside0 (kq ≤ k) ∧ Aside0 (wc.heap[gb214]? = some (.cells #[.int .i64 a0_0, .int .i64 a0_1, .int .i64 a0_2] 28 (0, 0))) ∧ Aside0 (Below w.heap.size w wc))
 case first =>
  have H := HC2.out
  clear HC2
  replace H := Option.bind_eq_some_iff.mp H
  obtain ⟨t215, A40, H⟩ := H
  replace H : (if t215 = true then ((impl_between.f a0_1 1 12).bind fun t216 => (if t216 = true then ((impl_daysOf.f a0_0 a0_1).bind fun t217 => ((impl_between.f a0_2 1 t217).bind fun t218 => (impl_DayOf.j0 k (!t218) a0_0 a0_1 a0_2))) else (impl_DayOf.j0 k true a0_0 a0_1 a0_2))) else (impl_DayOf.j0 k true a0_0 a0_1 a0_2)) = some r := H
  have A4 := Aside0.mk A40
  clear A40
  by_cases c5 : t215 = true
  ·subst c5
   have H1 : ((impl_between.f a0_1 1 12).bind fun t216 => (if t216 = true then ((impl_daysOf.f a0_0 a0_1).bind fun t217 => ((impl_between.f a0_2 1 t217).bind fun t218 => (impl_DayOf.j0 k (!t218) a0_0 a0_1 a0_2))) else (impl_DayOf.j0 k true a0_0 a0_1 a0_2))) = some r := by rw [if_pos rfl] at H; exact H
   clear H
   have H := H1
   clear H1
   replace H := Option.bind_eq_some_iff.mp H
   obtain ⟨t216, A60, H⟩ := H
   replace H : (if t216 = true then ((impl_daysOf.f a0_0 a0_1).bind fun t217 => ((impl_between.f a0_2 1 t217).bind fun t218 => (impl_DayOf.j0 k (!t218) a0_0 a0_1 a0_2))) else (impl_DayOf.j0 k true a0_0 a0_1 a0_2)) = some r := H
   have A6 := Aside0.mk A60
   clear A60
   by_cases c7 : t216 = true
   ·subst c7
    have H1 : ((impl_daysOf.f a0_0 a0_1).bind fun t217 => ((impl_between.f a0_2 1 t217).bind fun t218 => (impl_DayOf.j0 k (!t218) a0_0 a0_1 a0_2))) = some r := by rw [if_pos rfl] at H; exact H
    clear H
    have H := H1
    clear H1
    replace H := Option.bind_eq_some_iff.mp H
    obtain ⟨t217, A80, H⟩ := H
    replace H : ((impl_between.f a0_2 1 t217).bind fun t218 => (impl_DayOf.j0 k (!t218) a0_0 a0_1 a0_2)) = some r := H
    have A8 := Aside0.mk A80
    clear A80
    replace H := Option.bind_eq_some_iff.mp H
    obtain ⟨t218, A90, H⟩ := H
    replace H : (impl_DayOf.j0 k (!t218) a0_0 a0_1 a0_2) = some r := H
    have A9 := Aside0.mk A90
    clear A90
    have H' := Aside0.mk H
    clear H
    have hcz10_0 : w3.cell? ⟨gb214, 0, none⟩ = some (.int .i64 a0_0) := (qe0 BK214.out 0).trans rfl
    have hcz10_1 : w3.cell? ⟨gb214, 1, none⟩ = some (.int .i64 a0_1) := (qe0 BK214.out 1).trans rfl
    have hcz10_2 : w3.cell? ⟨gb214, 2, none⟩ = some (.int .i64 a0_2) := (qe0 BK214.out 2).trans rfl
    have hfz10_0 := qd0 BK214.out 0
    have hfz10_1 := qd0 BK214.out 1
    have hfz10_2 := qd0 BK214.out 2
    go_wp2_with (first | (go_at_call 26; (with_reducible refine (impl_between.calls a0_0 2000 2200 true _ A4.out).mono ?_); rintro e w' ⟨rfl, ⟨nd, rfl⟩⟩; (try first | exact ⟨rfl, _, World.drewN_drewN _ _ _⟩ | exact ⟨rfl, _, Eq.trans (World.drewN_drewN _ _ _) (congrArg (World.drewN _) (Nat.add_assoc _ _ _))⟩)) | (go_at_call 26; (with_reducible refine (impl_between.calls a0_1 1 12 true _ A6.out).mono ?_); rintro e w' ⟨rfl, ⟨nd, rfl⟩⟩; (try first | exact ⟨rfl, _, World.drewN_drewN _ _ _⟩ | exact ⟨rfl, _, Eq.trans (World.drewN_drewN _ _ _) (congrArg (World.drewN _) (Nat.add_assoc _ _ _))⟩)) | (go_at_call 27; (with_reducible refine (impl_daysOf.calls a0_0 a0_1 t217 _ A8.out).mono ?_); rintro e w' ⟨rfl, ⟨nd, rfl⟩⟩; (try first | exact ⟨rfl, _, World.drewN_drewN _ _ _⟩ | exact ⟨rfl, _, Eq.trans (World.drewN_drewN _ _ _) (congrArg (World.drewN _) (Nat.add_assoc _ _ _))⟩)) | (go_at_call 26; (with_reducible refine (impl_between.calls a0_2 1 t217 t218 _ A9.out).mono ?_); rintro e w' ⟨rfl, ⟨nd, rfl⟩⟩; (try first | exact ⟨rfl, _, World.drewN_drewN _ _ _⟩ | exact ⟨rfl, _, Eq.trans (World.drewN_drewN _ _ _) (congrArg (World.drewN _) (Nat.add_assoc _ _ _))⟩)))
    repeat (go_quiet (first | (go_at_call 26; (with_reducible refine (impl_between.calls a0_0 2000 2200 true _ A4.out).mono ?_); rintro e w' ⟨rfl, ⟨nd, rfl⟩⟩; (try first | exact ⟨rfl, _, World.drewN_drewN _ _ _⟩ | exact ⟨rfl, _, Eq.trans (World.drewN_drewN _ _ _) (congrArg (World.drewN _) (Nat.add_assoc _ _ _))⟩)) | (go_at_call 26; (with_reducible refine (impl_between.calls a0_1 1 12 true _ A6.out).mono ?_); rintro e w' ⟨rfl, ⟨nd, rfl⟩⟩; (try first | exact ⟨rfl, _, World.drewN_drewN _ _ _⟩ | exact ⟨rfl, _, Eq.trans (World.drewN_drewN _ _ _) (congrArg (World.drewN _) (Nat.add_assoc _ _ _))⟩)) | (go_at_call 27; (with_reducible refine (impl_daysOf.calls a0_0 a0_1 t217 _ A8.out).mono ?_); rintro e w' ⟨rfl, ⟨nd, rfl⟩⟩; (try first | exact ⟨rfl, _, World.drewN_drewN _ _ _⟩ | exact ⟨rfl, _, Eq.trans (World.drewN_drewN _ _ _) (congrArg (World.drewN _) (Nat.add_assoc _ _ _))⟩)) | (go_at_call 26; (with_reducible refine (impl_between.calls a0_2 1 t217 t218 _ A9.out).mono ?_); rintro e w' ⟨rfl, ⟨nd, rfl⟩⟩; (try first | exact ⟨rfl, _, World.drewN_drewN _ _ _⟩ | exact ⟨rfl, _, Eq.trans (World.drewN_drewN _ _ _) (congrArg (World.drewN _) (Nat.add_assoc _ _ _))⟩))); try go_wp2_with (first | (go_at_call 26; (with_reducible refine (impl_between.calls a0_0 2000 2200 true _ A4.out).mono ?_); rintro e w' ⟨rfl, ⟨nd, rfl⟩⟩; (try first | exact ⟨rfl, _, World.drewN_drewN _ _ _⟩ | exact ⟨rfl, _, Eq.trans (World.drewN_drewN _ _ _) (congrArg (World.drewN _) (Nat.add_assoc _ _ _))⟩)) | (go_at_call 26; (with_reducible refine (impl_between.calls a0_1 1 12 true _ A6.out).mono ?_); rintro e w' ⟨rfl, ⟨nd, rfl⟩⟩; (try first | exact ⟨rfl, _, World.drewN_drewN _ _ _⟩ | exact ⟨rfl, _, Eq.trans (World.drewN_drewN _ _ _) (congrArg (World.drewN _) (Nat.add_assoc _ _ _))⟩)) | (go_at_call 27; (with_reducible refine (impl_daysOf.calls a0_0 a0_1 t217 _ A8.out).mono ?_); rintro e w' ⟨rfl, ⟨nd, rfl⟩⟩; (try first | exact ⟨rfl, _, World.drewN_drewN _ _ _⟩ | exact ⟨rfl, _, Eq.trans (World.drewN_drewN _ _ _) (congrArg (World.drewN _) (Nat.add_assoc _ _ _))⟩)) | (go_at_call 26; (with_reducible refine (impl_between.calls a0_2 1 t217 t218 _ A9.out).mono ?_); rintro e w' ⟨rfl, ⟨nd, rfl⟩⟩; (try first | exact ⟨rfl, _, World.drewN_drewN _ _ _⟩ | exact ⟨rfl, _, Eq.trans (World.drewN_drewN _ _ _) (congrArg (World.drewN _) (Nat.add_assoc _ _ _))⟩))))
    go_meet
    case rel => exact ⟨_, (!t218), (by first | rfl | (simp; done) | (simp [*]; done)), H', ⟨by first | omega | exact Nat.le_refl _⟩, ⟨by (with_reducible repeat (first | refine qf0 ?_ _ | refine qi0 ?_ | refine qg0 ?_ _)); exact BK214.out⟩, ⟨by repeat (first | (with_reducible first | exact HB.out | apply qb0 | apply qa0 | apply qc0 | refine qh0 ?_ GE214.out) | exact HB.out)⟩⟩
   replace c7 := Bool.eq_false_iff.mpr c7
   subst c7
   have H1 : (impl_DayOf.j0 k true a0_0 a0_1 a0_2) = some r := by rw [if_neg (show ¬ (false = true) by decide)] at H; exact H
   clear H
   have H := H1
   clear H1
   have H' := Aside0.mk H
   clear H
   have hcz11_0 : w3.cell? ⟨gb214, 0, none⟩ = some (.int .i64 a0_0) := (qe0 BK214.out 0).trans rfl
   have hcz11_1 : w3.cell? ⟨gb214, 1, none⟩ = some (.int .i64 a0_1) := (qe0 BK214.out 1).trans rfl
   have hcz11_2 : w3.cell? ⟨gb214, 2, none⟩ = some (.int .i64 a0_2) := (qe0 BK214.out 2).trans rfl
   have hfz11_0 := qd0 BK214.out 0
   have hfz11_1 := qd0 BK214.out 1
   have hfz11_2 := qd0 BK214.out 2
   go_wp2_with (first | (go_at_call 26; (with_reducible refine (impl_between.calls a0_0 2000 2200 true _ A4.out).mono ?_); rintro e w' ⟨rfl, ⟨nd, rfl⟩⟩; (try first | exact ⟨rfl, _, World.drewN_drewN _ _ _⟩ | exact ⟨rfl, _, Eq.trans (World.drewN_drewN _ _ _) (congrArg (World.drewN _) (Nat.add_assoc _ _ _))⟩)) | (go_at_call 26; (with_reducible refine (impl_between.calls a0_1 1 12 false _ A6.out).mono ?_); rintro e w' ⟨rfl, ⟨nd, rfl⟩⟩; (try first | exact ⟨rfl, _, World.drewN_drewN _ _ _⟩ | exact ⟨rfl, _, Eq.trans (World.drewN_drewN _ _ _) (congrArg (World.drewN _) (Nat.add_assoc _ _ _))⟩)))
   repeat (go_quiet (first | (go_at_call 26; (with_reducible refine (impl_between.calls a0_0 2000 2200 true _ A4.out).mono ?_); rintro e w' ⟨rfl, ⟨nd, rfl⟩⟩; (try first | exact ⟨rfl, _, World.drewN_drewN _ _ _⟩ | exact ⟨rfl, _, Eq.trans (World.drewN_drewN _ _ _) (congrArg (World.drewN _) (Nat.add_assoc _ _ _))⟩)) | (go_at_call 26; (with_reducible refine (impl_between.calls a0_1 1 12 false _ A6.out).mono ?_); rintro e w' ⟨rfl, ⟨nd, rfl⟩⟩; (try first | exact ⟨rfl, _, World.drewN_drewN _ _ _⟩ | exact ⟨rfl, _, Eq.trans (World.drewN_drewN _ _ _) (congrArg (World.drewN _) (Nat.add_assoc _ _ _))⟩))); try go_wp2_with (first | (go_at_call 26; (with_reducible refine (impl_between.calls a0_0 2000 2200 true _ A4.out).mono ?_); rintro e w' ⟨rfl, ⟨nd, rfl⟩⟩; (try first | exact ⟨rfl, _, World.drewN_drewN _ _ _⟩ | exact ⟨rfl, _, Eq.trans (World.drewN_drewN _ _ _) (congrArg (World.drewN _) (Nat.add_assoc _ _ _))⟩)) | (go_at_call 26; (with_reducible refine (impl_between.calls a0_1 1 12 false _ A6.out).mono ?_); rintro e w' ⟨rfl, ⟨nd, rfl⟩⟩; (try first | exact ⟨rfl, _, World.drewN_drewN _ _ _⟩ | exact ⟨rfl, _, Eq.trans (World.drewN_drewN _ _ _) (congrArg (World.drewN _) (Nat.add_assoc _ _ _))⟩))))
   go_meet
   case rel => exact ⟨_, (true), (by first | rfl | (simp; done) | (simp [*]; done)), H', ⟨by first | omega | exact Nat.le_refl _⟩, ⟨by (with_reducible repeat (first | refine qf0 ?_ _ | refine qi0 ?_ | refine qg0 ?_ _)); exact BK214.out⟩, ⟨by repeat (first | (with_reducible first | exact HB.out | apply qb0 | apply qa0 | apply qc0 | refine qh0 ?_ GE214.out) | exact HB.out)⟩⟩
  replace c5 := Bool.eq_false_iff.mpr c5
  subst c5
  have H1 : (impl_DayOf.j0 k true a0_0 a0_1 a0_2) = some r := by rw [if_neg (show ¬ (false = true) by decide)] at H; exact H
  clear H
  have H := H1
  clear H1
  have H' := Aside0.mk H
  clear H
  have hcz12_0 : w3.cell? ⟨gb214, 0, none⟩ = some (.int .i64 a0_0) := (qe0 BK214.out 0).trans rfl
  have hcz12_1 : w3.cell? ⟨gb214, 1, none⟩ = some (.int .i64 a0_1) := (qe0 BK214.out 1).trans rfl
  have hcz12_2 : w3.cell? ⟨gb214, 2, none⟩ = some (.int .i64 a0_2) := (qe0 BK214.out 2).trans rfl
  have hfz12_0 := qd0 BK214.out 0
  have hfz12_1 := qd0 BK214.out 1
  have hfz12_2 := qd0 BK214.out 2
  go_wp2_with (first | (go_at_call 26; (with_reducible refine (impl_between.calls a0_0 2000 2200 false _ A4.out).mono ?_); rintro e w' ⟨rfl, ⟨nd, rfl⟩⟩; (try first | exact ⟨rfl, _, World.drewN_drewN _ _ _⟩ | exact ⟨rfl, _, Eq.trans (World.drewN_drewN _ _ _) (congrArg (World.drewN _) (Nat.add_assoc _ _ _))⟩)))
  repeat (go_quiet (first | (go_at_call 26; (with_reducible refine (impl_between.calls a0_0 2000 2200 false _ A4.out).mono ?_); rintro e w' ⟨rfl, ⟨nd, rfl⟩⟩; (try first | exact ⟨rfl, _, World.drewN_drewN _ _ _⟩ | exact ⟨rfl, _, Eq.trans (World.drewN_drewN _ _ _) (congrArg (World.drewN _) (Nat.add_assoc _ _ _))⟩))); try go_wp2_with (first | (go_at_call 26; (with_reducible refine (impl_between.calls a0_0 2000 2200 false _ A4.out).mono ?_); rintro e w' ⟨rfl, ⟨nd, rfl⟩⟩; (try first | exact ⟨rfl, _, World.drewN_drewN _ _ _⟩ | exact ⟨rfl, _, Eq.trans (World.drewN_drewN _ _ _) (congrArg (World.drewN _) (Nat.add_assoc _ _ _))⟩))))
  go_meet
  case rel => exact ⟨_, (true), (by first | rfl | (simp; done) | (simp [*]; done)), H', ⟨by first | omega | exact Nat.le_refl _⟩, ⟨by (with_reducible repeat (first | refine qf0 ?_ _ | refine qi0 ?_ | refine qg0 ?_ _)); exact BK214.out⟩, ⟨by repeat (first | (with_reducible first | exact HB.out | apply qb0 | apply qa0 | apply qc0 | refine qh0 ?_ GE214.out) | exact HB.out)⟩⟩
 case rest =>
  clear HC2
  try clear c2
  try clear p2
  try clear c5
  try clear c7
  try clear hcz10_0
  try clear hcz10_1
  try clear hcz10_2
  try clear hcz11_0
  try clear hcz11_1
  try clear hcz11_2
  try clear hcz12_0
  try clear hcz12_1
  try clear hcz12_2
  try clear hfz10_0
  try clear hfz10_1
  try clear hfz10_2
  try clear hfz11_0
  try clear hfz11_1
  try clear hfz11_2
  try clear hfz12_0
  try clear hfz12_1
  try clear hfz12_2
  obtain ⟨kq, x26_1, rfl, HA, HJ1, BK214, HB⟩ := hcut
  cases kq with
  | zero => exact absurd HA.out (by simp [impl_DayOf.j0])
  | succ kj1 =>
   have H := HA.out
   clear HA
   simp only [impl_DayOf.j0] at H
   by_cases c13 : x26_1 = true
   ·subst c13
    have H1 : (some (-1)) = some r := by rw [if_pos rfl] at H; exact H
    clear H
    have H := H1
    clear H1
    obtain rfl := Option.some.inj H
    go_wp2
    repeat (go_quiet (fail); try go_wp2)
    go_ret
    exact ⟨by first | rfl | (simp [errW_none, errW_some] <;> rfl) | (simp [*, errW_none, errW_some] <;> rfl), by repeat (first | (with_reducible first | exact HB.out | apply qb0 | apply qa0 | apply qc0 | refine qh0 ?_ GE214.out) | exact HB.out)⟩
   replace c13 := Bool.eq_false_iff.mpr c13
   subst c13
   have H1 : (impl_DayOf.l0 kj1 (wrap64 (a0_2 - 1)) 2000 a0_0 a0_1 a0_2) = some r := by rw [if_neg (show ¬ (false = true) by decide)] at H; exact H
   clear H
   have H := H1
   clear H1
   have H' := Aside0.mk H
   clear H
   have hcz14_0 : wc.cell? ⟨gb214, 0, none⟩ = some (.int .i64 a0_0) := (qe0 BK214.out 0).trans rfl
   have hcz14_1 : wc.cell? ⟨gb214, 1, none⟩ = some (.int .i64 a0_1) := (qe0 BK214.out 1).trans rfl
   have hcz14_2 : wc.cell? ⟨gb214, 2, none⟩ = some (.int .i64 a0_2) := (qe0 BK214.out 2).trans rfl
   have hfz14_0 := qd0 BK214.out 0
   have hfz14_1 := qd0 BK214.out 1
   have hfz14_2 := qd0 BK214.out 2
   go_wp2
   repeat (go_quiet (fail); try go_wp2)
   go_loopg [3, 4] kj1 (fun kq v3 v4 w' => ∃ (x3_2 : Int) (x4_2 : Int), v3 = .int .i64 x3_2 ∧ v4 = .int .i64 x4_2 ∧ Aside0 (impl_DayOf.l0 kq x3_2 x4_2 a0_0 a0_1 a0_2 = some r) ∧ Aside0 (kq ≤ kj1) ∧ Aside0 (w'.heap[gb214]? = some (.cells #[.int .i64 a0_0, .int .i64 a0_1, .int .i64 a0_2] 28 (0, 0))) ∧ Aside0 (Below w.heap.size w w'))
   case atStart => exact ⟨(wrap64 (a0_2 - 1)), (2000), (by first | rfl | (simp; done) | (simp [*]; done)), (by first | rfl | (simp; done) | (simp [*]; done)), H', ⟨Nat.le_refl _⟩, ⟨by (with_reducible repeat (first | refine qf0 ?_ _ | refine qi0 ?_ | refine qg0 ?_ _)); exact BK214.out⟩, ⟨by repeat (first | (with_reducible first | exact HB.out | apply qb0 | apply qa0 | apply qc0 | refine qh0 ?_ GE214.out) | exact HB.out)⟩⟩
   case round =>
    clear H'
    try clear c1
    try clear c2
    try clear p2
    try clear c5
    try clear p6
    try clear c7
    try clear c13
    try clear hcz10_0
    try clear hcz10_1
    try clear hcz10_2
    try clear hcz11_0
    try clear hcz11_1
    try clear hcz11_2
    try clear hcz12_0
    try clear hcz12_1
    try clear hcz12_2
    try clear hcz14_0
    try clear hcz14_1
    try clear hcz14_2
    try clear hfz10_0
    try clear hfz10_1
    try clear hfz10_2
    try clear hfz11_0
    try clear hfz11_1
    try clear hfz11_2
    try clear hfz12_0
    try clear hfz12_1
    try clear hfz12_2
    try clear hfz14_0
    try clear hfz14_1
    try clear hfz14_2
    try clear p2
    obtain ⟨x3_2, x4_2, rfl, rfl, HA, HK2, BK214, HB⟩ := hrel
    cases gk with
    | zero => exact absurd HA.out (by simp [impl_DayOf.l0])
    | succ k2 =>
     have H := HA.out
     clear HA
     simp only [impl_DayOf.l0] at H
     by_cases c15 : x4_2 < a0_0
     ·rw [if_pos c15] at H
      have c15b0 : decide (x4_2 < a0_0) = true := decide_eq_true c15
      clear c15
      replace H := Option.bind_eq_some_iff.mp H
      obtain ⟨t219, A160, H⟩ := H
      replace H : (if t219 = true then (impl_DayOf.l0 k2 (wrap64 ((wrap64 (x3_2 + 365)) + 1)) (wrap64 (x4_2 + 1)) a0_0 a0_1 a0_2) else (impl_DayOf.l0 k2 (wrap64 (x3_2 + 365)) (wrap64 (x4_2 + 1)) a0_0 a0_1 a0_2)) = some r := H
      have A16 := Aside0.mk A160
      clear A160
      by_cases c17 : t219 = true
      ·subst c17
       have H1 : (impl_DayOf.l0 k2 (wrap64 ((wrap64 (x3_2 + 365)) + 1)) (wrap64 (x4_2 + 1)) a0_0 a0_1 a0_2) = some r := by rw [if_pos rfl] at H; exact H
       clear H
       have H := H1
       clear H1
       have H' := Aside0.mk H
       clear H
       have hcz18_0 : wr.cell? ⟨gb214, 0, none⟩ = some (.int .i64 a0_0) := (qe0 BK214.out 0).trans rfl
       have hcz18_1 : wr.cell? ⟨gb214, 1, none⟩ = some (.int .i64 a0_1) := (qe0 BK214.out 1).trans rfl
       have hcz18_2 : wr.cell? ⟨gb214, 2, none⟩ = some (.int .i64 a0_2) := (qe0 BK214.out 2).trans rfl
       have hfz18_0 := qd0 BK214.out 0
       have hfz18_1 := qd0 BK214.out 1
       have hfz18_2 := qd0 BK214.out 2
       go_wp2_with (first | (go_at_call 35; (with_reducible refine (impl_longYear.calls x4_2 true _ A16.out).mono ?_); rintro e w' ⟨rfl, ⟨nd, rfl⟩⟩; (try first | exact ⟨rfl, _, World.drewN_drewN _ _ _⟩ | exact ⟨rfl, _, Eq.trans (World.drewN_drewN _ _ _) (congrArg (World.drewN _) (Nat.add_assoc _ _ _))⟩)))
       repeat (go_quiet (first | (go_at_call 35; (with_reducible refine (impl_longYear.calls x4_2 true _ A16.out).mono ?_); rintro e w' ⟨rfl, ⟨nd, rfl⟩⟩; (try first | exact ⟨rfl, _, World.drewN_drewN _ _ _⟩ | exact ⟨rfl, _, Eq.trans (World.drewN_drewN _ _ _) (congrArg (World.drewN _) (Nat.add_assoc _ _ _))⟩))); try go_wp2_with (first | (go_at_call 35; (with_reducible refine (impl_longYear.calls x4_2 true _ A16.out).mono ?_); rintro e w' ⟨rfl, ⟨nd, rfl⟩⟩; (try first | exact ⟨rfl, _, World.drewN_drewN _ _ _⟩ | exact ⟨rfl, _, Eq.trans (World.drewN_drewN _ _ _) (congrArg (World.drewN _) (Nat.add_assoc _ _ _))⟩))))
       go_roundg k2
       case measure => have := HJ1.out; have := HK2.out; omega
       case rel => exact ⟨(wrap64 ((wrap64 (x3_2 + 365)) + 1)), (wrap64 (x4_2 + 1)), (by first | rfl | (simp; done) | (simp [*]; done)), (by first | rfl | (simp; done) | (simp [*]; done)), H', ⟨by have := HJ1.out; have := HK2.out; omega⟩, ⟨by (with_reducible repeat (first | refine qf0 ?_ _ | refine qi0 ?_ | refine qg0 ?_ _)); exact BK214.out⟩, ⟨by repeat (first | (with_reducible first | exact HB.out | apply qb0 | apply qa0 | apply qc0 | refine qh0 ?_ GE214.out) | exact HB.out)⟩⟩
      replace c17 := Bool.eq_false_iff.mpr c17
      subst c17
      have H1 : (impl_DayOf.l0 k2 (wrap64 (x3_2 + 365)) (wrap64 (x4_2 + 1)) a0_0 a0_1 a0_2) = some r := by rw [if_neg (show ¬ (false = true) by decide)] at H; exact H
      clear H
      have H := H1
      clear H1
      have H' := Aside0.mk H
      clear H
      have hcz19_0 : wr.cell? ⟨gb214, 0, none⟩ = some (.int .i64 a0_0) := (qe0 BK214.out 0).trans rfl
      have hcz19_1 : wr.cell? ⟨gb214, 1, none⟩ = some (.int .i64 a0_1) := (qe0 BK214.out 1).trans rfl
      have hcz19_2 : wr.cell? ⟨gb214, 2, none⟩ = some (.int .i64 a0_2) := (qe0 BK214.out 2).trans rfl
      have hfz19_0 := qd0 BK214.out 0
      have hfz19_1 := qd0 BK214.out 1
      have hfz19_2 := qd0 BK214.out 2
      go_wp2_with (first | (go_at_call 35; (with_reducible refine (impl_longYear.calls x4_2 false _ A16.out).mono ?_); rintro e w' ⟨rfl, ⟨nd, rfl⟩⟩; (try first | exact ⟨rfl, _, World.drewN_drewN _ _ _⟩ | exact ⟨rfl, _, Eq.trans (World.drewN_drewN _ _ _) (congrArg (World.drewN _) (Nat.add_assoc _ _ _))⟩)))
      repeat (go_quiet (first | (go_at_call 35; (with_reducible refine (impl_longYear.calls x4_2 false _ A16.out).mono ?_); rintro e w' ⟨rfl, ⟨nd, rfl⟩⟩; (try first | exact ⟨rfl, _, World.drewN_drewN _ _ _⟩ | exact ⟨rfl, _, Eq.trans (World.drewN_drewN _ _ _) (congrArg (World.drewN _) (Nat.add_assoc _ _ _))⟩))); try go_wp2_with (first | (go_at_call 35; (with_reducible refine (impl_longYear.calls x4_2 false _ A16.out).mono ?_); rintro e w' ⟨rfl, ⟨nd, rfl⟩⟩; (try first | exact ⟨rfl, _, World.drewN_drewN _ _ _⟩ | exact ⟨rfl, _, Eq.trans (World.drewN_drewN _ _ _) (congrArg (World.drewN _) (Nat.add_assoc _ _ _))⟩))))
      go_roundg k2
      case measure => have := HJ1.out; have := HK2.out; omega
      case rel => exact ⟨(wrap64 (x3_2 + 365)), (wrap64 (x4_2 + 1)), (by first | rfl | (simp; done) | (simp [*]; done)), (by first | rfl | (simp; done) | (simp [*]; done)), H', ⟨by have := HJ1.out; have := HK2.out; omega⟩, ⟨by (with_reducible repeat (first | refine qf0 ?_ _ | refine qi0 ?_ | refine qg0 ?_ _)); exact BK214.out⟩, ⟨by repeat (first | (with_reducible first | exact HB.out | apply qb0 | apply qa0 | apply qc0 | refine qh0 ?_ GE214.out) | exact HB.out)⟩⟩
     rw [if_neg c15] at H
     have c15b0 : decide (x4_2 < a0_0) = false := decide_eq_false c15
     clear c15
     have H' := Aside0.mk H
     clear H
     have hcz20_0 : wr.cell? ⟨gb214, 0, none⟩ = some (.int .i64 a0_0) := (qe0 BK214.out 0).trans rfl
     have hcz20_1 : wr.cell? ⟨gb214, 1, none⟩ = some (.int .i64 a0_1) := (qe0 BK214.out 1).trans rfl
     have hcz20_2 : wr.cell? ⟨gb214, 2, none⟩ = some (.int .i64 a0_2) := (qe0 BK214.out 2).trans rfl
     have hfz20_0 := qd0 BK214.out 0
     have hfz20_1 := qd0 BK214.out 1
     have hfz20_2 := qd0 BK214.out 2
     go_wp2
     repeat (go_quiet (fail); try go_wp2)
     go_loopg [3, 5] k2 (fun kq v3 v5 w' => ∃ (x3_3 : Int) (x5_3 : Int), v3 = .int .i64 x3_3 ∧ v5 = .int .i64 x5_3 ∧ Aside0 (impl_DayOf.l1 kq x3_3 x5_3 a0_0 a0_1 a0_2 = some r) ∧ Aside0 (kq ≤ k2) ∧ Aside0 (w'.heap[gb214]? = some (.cells #[.int .i64 a0_0, .int .i64 a0_1, .int .i64 a0_2] 28 (0, 0))) ∧ Aside0 (Below w.heap.size w w'))
     case atStart => exact ⟨(x3_2), (1), (by first | rfl | (simp; done) | (simp [*]; done)), (by first | rfl | (simp; done) | (simp [*]; done)), H', ⟨Nat.le_refl _⟩, ⟨by (with_reducible repeat (first | refine qf0 ?_ _ | refine qi0 ?_ | refine qg0 ?_ _)); exact BK214.out⟩, ⟨by repeat (first | (with_reducible first | exact HB.out | apply qb0 | apply qa0 | apply qc0 | refine qh0 ?_ GE214.out) | exact HB.out)⟩⟩
     case round =>
      clear H'
      try clear c1
      try clear c2
      try clear p2
      try clear c5
      try clear p6
      try clear c7
      try clear c13
      try clear c15
      try clear c15b0
      try clear c17
      try clear hcz10_0
      try clear hcz10_1
      try clear hcz10_2
      try clear hcz11_0
      try clear hcz11_1
      try clear hcz11_2
      try clear hcz12_0
      try clear hcz12_1
      try clear hcz12_2
      try clear hcz14_0
      try clear hcz14_1
      try clear hcz14_2
      try clear hcz18_0
      try clear hcz18_1
      try clear hcz18_2
      try clear hcz19_0
      try clear hcz19_1
      try clear hcz19_2
      try clear hcz20_0
      try clear hcz20_1
      try clear hcz20_2
      try clear hfz10_0
      try clear hfz10_1
      try clear hfz10_2
      try clear hfz11_0
      try clear hfz11_1
      try clear hfz11_2
      try clear hfz12_0
      try clear hfz12_1
      try clear hfz12_2
      try clear hfz14_0
      try clear hfz14_1
      try clear hfz14_2
      try clear hfz18_0
      try clear hfz18_1
      try clear hfz18_2
      try clear hfz19_0
      try clear hfz19_1
      try clear hfz19_2
      try clear hfz20_0
      try clear hfz20_1
      try clear hfz20_2
      try clear p2
      try clear p6
      obtain ⟨x3_3, x5_3, rfl, rfl, HA, HK3, BK214, HB⟩ := hrel
      cases gk with
      | zero => exact absurd HA.out (by simp [impl_DayOf.l1])
      | succ k3 =>
       have H := HA.out
       clear HA
       simp only [impl_DayOf.l1] at H
       by_cases c21 : x5_3 < a0_1
       ·rw [if_pos c21] at H
        have c21b0 : decide (x5_3 < a0_1) = true := decide_eq_true c21
        clear c21
        replace H := Option.bind_eq_some_iff.mp H
        obtain ⟨t220, A220, H⟩ := H
        replace H : (impl_DayOf.l1 k3 (wrap64 (x3_3 + t220)) (wrap64 (x5_3 + 1)) a0_0 a0_1 a0_2) = some r := H
        have A22 := Aside0.mk A220
        clear A220
        have H' := Aside0.mk H
        clear H
        have hcz23_0 : wr.cell? ⟨gb214, 0, none⟩ = some (.int .i64 a0_0) := (qe0 BK214.out 0).trans rfl
        have hcz23_1 : wr.cell? ⟨gb214, 1, none⟩ = some (.int .i64 a0_1) := (qe0 BK214.out 1).trans rfl
        have hcz23_2 : wr.cell? ⟨gb214, 2, none⟩ = some (.int .i64 a0_2) := (qe0 BK214.out 2).trans rfl
        have hfz23_0 := qd0 BK214.out 0
        have hfz23_1 := qd0 BK214.out 1
        have hfz23_2 := qd0 BK214.out 2
        go_wp2_with (first | (go_at_call 27; (with_reducible refine (impl_daysOf.calls a0_0 x5_3 t220 _ A22.out).mono ?_); rintro e w' ⟨rfl, ⟨nd, rfl⟩⟩; (try first | exact ⟨rfl, _, World.drewN_drewN _ _ _⟩ | exact ⟨rfl, _, Eq.trans (World.drewN_drewN _ _ _) (congrArg (World.drewN _) (Nat.add_assoc _ _ _))⟩)))
        repeat (go_quiet (first | (go_at_call 27; (with_reducible refine (impl_daysOf.calls a0_0 x5_3 t220 _ A22.out).mono ?_); rintro e w' ⟨rfl, ⟨nd, rfl⟩⟩; (try first | exact ⟨rfl, _, World.drewN_drewN _ _ _⟩ | exact ⟨rfl, _, Eq.trans (World.drewN_drewN _ _ _) (congrArg (World.drewN _) (Nat.add_assoc _ _ _))⟩))); try go_wp2_with (first | (go_at_call 27; (with_reducible refine (impl_daysOf.calls a0_0 x5_3 t220 _ A22.out).mono ?_); rintro e w' ⟨rfl, ⟨nd, rfl⟩⟩; (try first | exact ⟨rfl, _, World.drewN_drewN _ _ _⟩ | exact ⟨rfl, _, Eq.trans (World.drewN_drewN _ _ _) (congrArg (World.drewN _) (Nat.add_assoc _ _ _))⟩))))
        go_roundg k3
        case measure => have := HJ1.out; have := HK2.out; have := HK3.out; omega
        case rel => exact ⟨(wrap64 (x3_3 + t220)), (wrap64 (x5_3 + 1)), (by first | rfl | (simp; done) | (simp [*]; done)), (by first | rfl | (simp; done) | (simp [*]; done)), H', ⟨by have := HJ1.out; have := HK2.out; have := HK3.out; omega⟩, ⟨by (with_reducible repeat (first | refine qf0 ?_ _ | refine qi0 ?_ | refine qg0 ?_ _)); exact BK214.out⟩, ⟨by repeat (first | (with_reducible first | exact HB.out | apply qb0 | apply qa0 | apply qc0 | refine qh0 ?_ GE214.out) | exact HB.out)⟩⟩
       rw [if_neg c21] at H
       have c21b0 : decide (x5_3 < a0_1) = false := decide_eq_false c21
       clear c21
       replace H := Option.bind_eq_some_iff.mp H
       obtain ⟨t221, A240, H⟩ := H
       replace H : (if t221 = true then (some x3_3) else (some (-1))) = some r := H
       have A24 := Aside0.mk A240
       clear A240
       by_cases c25 : t221 = true
       ·subst c25
        have H1 : (some x3_3) = some r := by rw [if_pos rfl] at H; exact H
        clear H
        have H := H1
        clear H1
        obtain rfl := Option.some.inj H
        have hcz26_0 : wr.cell? ⟨gb214, 0, none⟩ = some (.int .i64 a0_0) := (qe0 BK214.out 0).trans rfl
        have hcz26_1 : wr.cell? ⟨gb214, 1, none⟩ = some (.int .i64 a0_1) := (qe0 BK214.out 1).trans rfl
        have hcz26_2 : wr.cell? ⟨gb214, 2, none⟩ = some (.int .i64 a0_2) := (qe0 BK214.out 2).trans rfl
        have hfz26_0 := qd0 BK214.out 0
        have hfz26_1 := qd0 BK214.out 1
        have hfz26_2 := qd0 BK214.out 2
        go_wp2_with (first | (go_at_call 34; (with_reducible refine (impl_isDay.calls x3_3 true _ A24.out).mono ?_); rintro e w' ⟨rfl, ⟨nd, rfl⟩⟩; (try first | exact ⟨rfl, _, World.drewN_drewN _ _ _⟩ | exact ⟨rfl, _, Eq.trans (World.drewN_drewN _ _ _) (congrArg (World.drewN _) (Nat.add_assoc _ _ _))⟩)))
        repeat (go_quiet (first | (go_at_call 34; (with_reducible refine (impl_isDay.calls x3_3 true _ A24.out).mono ?_); rintro e w' ⟨rfl, ⟨nd, rfl⟩⟩; (try first | exact ⟨rfl, _, World.drewN_drewN _ _ _⟩ | exact ⟨rfl, _, Eq.trans (World.drewN_drewN _ _ _) (congrArg (World.drewN _) (Nat.add_assoc _ _ _))⟩))); try go_wp2_with (first | (go_at_call 34; (with_reducible refine (impl_isDay.calls x3_3 true _ A24.out).mono ?_); rintro e w' ⟨rfl, ⟨nd, rfl⟩⟩; (try first | exact ⟨rfl, _, World.drewN_drewN _ _ _⟩ | exact ⟨rfl, _, Eq.trans (World.drewN_drewN _ _ _) (congrArg (World.drewN _) (Nat.add_assoc _ _ _))⟩))))
        go_ret
        exact ⟨by first | rfl | (simp [errW_none, errW_some] <;> rfl) | (simp [*, errW_none, errW_some] <;> rfl), by repeat (first | (with_reducible first | exact HB.out | apply qb0 | apply qa0 | apply qc0 | refine qh0 ?_ GE214.out) | exact HB.out)⟩
       replace c25 := Bool.eq_false_iff.mpr c25
       subst c25
       have H1 : (some (-1)) = some r := by rw [if_neg (show ¬ (false = true) by decide)] at H; exact H
       clear H
       have H := H1
       clear H1
       obtain rfl := Option.some.inj H
       have hcz27_0 : wr.cell? ⟨gb214, 0, none⟩ = some (.int .i64 a0_0) := (qe0 BK214.out 0).trans rfl
       have hcz27_1 : wr.cell? ⟨gb214, 1, none⟩ = some (.int .i64 a0_1) := (qe0 BK214.out 1).trans rfl
       have hcz27_2 : wr.cell? ⟨gb214, 2, none⟩ = some (.int .i64 a0_2) := (qe0 BK214.out 2).trans rfl
       have hfz27_0 := qd0 BK214.out 0
       have hfz27_1 := qd0 BK214.out 1
       have hfz27_2 := qd0 BK214.out 2
       go_wp2_with (first | (go_at_call 34; (with_reducible refine (impl_isDay.calls x3_3 false _ A24.out).mono ?_); rintro e w' ⟨rfl, ⟨nd, rfl⟩⟩; (try first | exact ⟨rfl, _, World.drewN_drewN _ _ _⟩ | exact ⟨rfl, _, Eq.trans (World.drewN_drewN _ _ _) (congrArg (World.drewN _) (Nat.add_assoc _ _ _))⟩)))
       repeat (go_quiet (first | (go_at_call 34; (with_reducible refine (impl_isDay.calls x3_3 false _ A24.out).mono ?_); rintro e w' ⟨rfl, ⟨nd, rfl⟩⟩; (try first | exact ⟨rfl, _, World.drewN_drewN _ _ _⟩ | exact ⟨rfl, _, Eq.trans (World.drewN_drewN _ _ _) (congrArg (World.drewN _) (Nat.add_assoc _ _ _))⟩))); try go_wp2_with (first | (go_at_call 34; (with_reducible refine (impl_isDay.calls x3_3 false _ A24.out).mono ?_); rintro e w' ⟨rfl, ⟨nd, rfl⟩⟩; (try first | exact ⟨rfl, _, World.drewN_drewN _ _ _⟩ | exact ⟨rfl, _, Eq.trans (World.drewN_drewN _ _ _) (congrArg (World.drewN _) (Nat.add_assoc _ _ _))⟩))))
       go_ret
       exact ⟨by first | rfl | (simp [errW_none, errW_some] <;> rfl) | (simp [*, errW_none, errW_some] <;> rfl), by repeat (first | (with_reducible first | exact HB.out | apply qb0 | apply qa0 | apply qc0 | refine qh0 ?_ GE214.out) | exact HB.out)⟩

/-! ### impl_AddMonths: function 8 -/
def impl_AddMonths.j0 : Nat → Int → Bool → Int → Int → Int → Option (Int)
 | 0, _, _, _, _, _ => none
 | k + 1, x1, x17, x226000, x226001, x226002 => if x17 = true then (some (-1)) else ((impl_daysOf.f (wrap64 (Int.tdiv (wrap64 ((wrap64 ((wrap64 ((wrap64 (x226000 * 12)) + x226001)) - 1)) + x1)) 12)) (wrap64 ((Int.tmod (wrap64 ((wrap64 ((wrap64 ((wrap64 (x226000 * 12)) + x226001)) - 1)) + x1)) 12) + 1))).bind fun t227 => (if x226002 > t227 then ((impl_DayOf.f k (wrap64 (Int.tdiv (wrap64 ((wrap64 ((wrap64 ((wrap64 (x226000 * 12)) + x226001)) - 1)) + x1)) 12)) (wrap64 ((Int.tmod (wrap64 ((wrap64 ((wrap64 ((wrap64 (x226000 * 12)) + x226001)) - 1)) + x1)) 12) + 1)) t227).bind fun t228 => (some t228)) else ((impl_DayOf.f k (wrap64 (Int.tdiv (wrap64 ((wrap64 ((wrap64 ((wrap64 (x226000 * 12)) + x226001)) - 1)) + x1)) 12)) (wrap64 ((Int.tmod (wrap64 ((wrap64 ((wrap64 ((wrap64 (x226000 * 12)) + x226001)) - 1)) + x1)) 12) + 1)) x226002).bind fun t229 => (some t229))))
def impl_AddMonths.f (k : Nat) (a0 : Int) (a1 : Int) : Option (Int) := (impl_DateOf.f k a0).bind fun bt222 => (if (bt222.1 == 0 && (bt222.2.1 == 0 && (bt222.2.2 == 0))) = true then (impl_AddMonths.j0 k a1 true bt222.1 bt222.2.1 bt222.2.2) else ((impl_between.f a1 (-1200) 1200).bind fun t226 => (impl_AddMonths.j0 k a1 (!t226) bt222.1 bt222.2.1 bt222.2.2)))
theorem impl_AddMonths.mono_l : ∀ k, (∀ y0 y1 y2 y3 y4, LeO (impl_AddMonths.j0 k y0 y1 y2 y3 y4) (impl_AddMonths.j0 (k + 1) y0 y1 y2 y3 y4))
 | 0 => fun _ _ _ _ _ r h => by simp [impl_AddMonths.j0] at h
 | k + 1 => by
  have ih0 := impl_AddMonths.mono_l k
  ·intro y0 y1 y2 y3 y4
   unfold impl_AddMonths.j0
   repeat' first
   | (with_reducible exact ih0 _ _ _ _ _)
   | (with_reducible exact impl_DateOf.mono _ _)
   | (with_reducible exact impl_DayOf.mono _ _ _ _)
   | (with_reducible exact LeO.refl _)
   | (with_reducible exact LeO.none _)
   | (with_reducible refine LeO.ite ?_ ?_)
   | (with_reducible refine LeO.bind ?_ (fun _ => ?_))
   | exact ih0 _ _ _ _ _
   | exact impl_DateOf.mono _ _
   | exact impl_DayOf.mono _ _ _ _
   | exact LeO.none _
   | refine LeO.ite ?_ ?_
   | refine LeO.bind ?_ (fun _ => ?_)
theorem impl_AddMonths.mono : ∀ a0 a1 k, LeO (impl_AddMonths.f k a0 a1) (impl_AddMonths.f (k + 1) a0 a1) := by
 intro a0 a1 k
 have ih0 := impl_AddMonths.mono_l k
 unfold impl_AddMonths.f
 repeat' first
   | (with_reducible exact ih0 _ _ _ _ _)
   | (with_reducible exact impl_DateOf.mono _ _)
   | (with_reducible exact impl_DayOf.mono _ _ _ _)
   | (with_reducible exact LeO.refl _)
   | (with_reducible exact LeO.none _)
   | (with_reducible refine LeO.ite ?_ ?_)
   | (with_reducible refine LeO.bind ?_ (fun _ => ?_))
   | exact ih0 _ _ _ _ _
   | exact impl_DateOf.mono _ _
   | exact impl_DayOf.mono _ _ _ _
   | exact LeO.none _
   | refine LeO.ite ?_ ?_
   | refine LeO.bind ?_ (fun _ => ?_)
set_option maxHeartbeats 8000000 in
set_option maxRecDepth 100000 in
theorem impl_AddMonths.calls (k : Nat) (a0 : Int) (a1 : Int) (r : Int) (w : World) (h : impl_AddMonths.f k a0 a1 = some r) (hT : Tab w := by first | exact HT.out | exact Tab.below HT.out (by repeat (first | (with_reducible first | exact HB.out | apply qb0 | apply qa0 | apply qc0 | refine qh0 ?_ (Aside0.out (by assumption))) | exact HB.out))) :
  Calls Tryd.prog 8 #[.int .i64 a0, .int .i64 a1] w fun e w' => e = .returned (.int .i64 r) ∧ Below w.heap.size w w' := by
 have HT := Aside0.mk hT
 clear hT
 have hu28 := Tryd.underlying28
 have HB := Aside0.mk (Below.refl w.heap.size w)
 have H : ((impl_DateOf.f k a0).bind fun bt222 => (if (bt222.1 == 0 && (bt222.2.1 == 0 && (bt222.2.2 == 0))) = true then (impl_AddMonths.j0 k a1 true bt222.1 bt222.2.1 bt222.2.2) else ((impl_between.f a1 (-1200) 1200).bind fun t226 => (impl_AddMonths.j0 k a1 (!t226) bt222.1 bt222.2.1 bt222.2.2)))) = some r := h
 clear h
 replace H := Option.bind_eq_some_iff.mp H
 obtain ⟨⟨t222, t223, t224⟩, A30, H⟩ := H
 replace H : (if (t222 == 0 && (t223 == 0 && (t224 == 0))) = true then (impl_AddMonths.j0 k a1 true t222 t223 t224) else ((impl_between.f a1 (-1200) 1200).bind fun t226 => (impl_AddMonths.j0 k a1 (!t226) t222 t223 t224))) = some r := H
 have A3 := Aside0.mk A30
 clear A30
 have HC4 := Aside0.mk H
 clear H
 go_enter Tryd.func8, Tryd.ntmps8
 go_upto_region 2 with (first | ((with_reducible refine qj0 (f := 10) rfl ?_); refine qo0 (some 9) rfl rfl Tryd.func10 (by kernel_rfl) rfl #[.int .i64 a0] rfl (by (try simp only [List.map_toArray, List.map_cons, List.map_nil]); first | done | rfl | (simp only [List.length_drop, List.length_take]; rfl)) ?_; (with_reducible refine (impl_DateOf.calls k a0 t222 t223 t224 _ A3.out).mono ?_); rintro e w5 ⟨rfl, hb⟩; refine ⟨_, rfl, ?_⟩; have n0_ := Aside0.mk (qk0 (by repeat (first | (with_reducible first | exact HB.out | apply qb0 | apply qa0 | apply qc0) | exact HB.out)) hb); clear HB; have HB := n0_; clear n0_; (try clear hb); (try clear hb2); (try clear hk); (try clear hi)) | ((with_reducible refine qs0 (N := 5) rfl ?_); refine qr0 ?hg (N := 5) ?hd (cs := #[.int .i64 0, .int .i64 0, .int .i64 0]) (t := 28) ?hr ?_; (case hd => rfl); (case hg => rfl); (case hr => first | (go_simp; done) | (go_simp; rfl)); intro gb225 hg w6 hbox hb; have n0_ := Aside0.mk (qk0 (by repeat (first | (with_reducible first | exact HB.out | apply qb0 | apply qa0 | apply qc0) | exact HB.out)) hb); have n1_ := Aside0.mk (hbox); have n2_ := Aside0.mk ((by rw [hg]; exact (ql0 (by repeat (first | (with_reducible first | exact HB.out | apply qb0 | apply qa0 | apply qc0) | exact HB.out))) : w.heap.size ≤ gb225)); have n3_ := Aside0.mk ((by rw [hg]; exact (ql0 (by repeat (first | (with_reducible first | exact HB.out | apply qb0 | apply qa0 | apply qc0) | exact HB.out))) : w.heap.size ≤ gb225)); clear HB; have HB := n0_; have BK225 := n1_; have GW225 := n2_; have GE225 := n3_; clear n0_ n1_ n2_ n3_; clear hb hbox hg; have hcz7_0 : w6.cell? ⟨gb225, 0, none⟩ = some (.int .i64 0) := (qe0 BK225.out 0).trans rfl; have hcz7_1 : w6.cell? ⟨gb225, 1, none⟩ = some (.int .i64 0) := (qe0 BK225.out 1).trans rfl; have hcz7_2 : w6.cell? ⟨gb225, 2, none⟩ = some (.int .i64 0) := (qe0 BK225.out 2).trans rfl; have hfz7_0 := qd0 BK225.out 0; have hfz7_1 := qd0 BK225.out 1; have hfz7_2 := qd0 BK225.out 2))
 (try simp only [Act.put, List.setIfInBounds_toArray, List.set_cons_zero, List.set_cons_succ])
 go_cut [17] (fun v17 wc => ∃ (kq : Nat) (x17_3 : Bool), v17 = .bool x17_3 ∧ Aside0 (impl_AddMonths.j0 kq a1 x17_3 t222 t223 t224 = some r) ∧ Aside0 (kq ≤ k) ∧ Aside0 (wc.heap[gb225]? = some (.cells #[.int .i64 t222, .int .i64 t223, .int .i64 t224] 28 (0, 0))) ∧ Aside0 (Below w.heap.size w wc))
 case first =>
  have H := HC4.out
  clear HC4
  by_cases c8 : (t222 == 0 && (t223 == 0 && (t224 == 0))) = true
  ·rw [if_pos c8] at H
   have c8b0 : (t222 == 0 && (t223 == 0 && (t224 == 0))) = true := c8
   (try (have c8b1 : decide (t222 = 0 && (t223 == 0 && (t224 == 0))) = true := by simpa using c8))
   (try (have c8b2 : (t222 == 0 && (t223 == 0 && (t224 == 0))) = true := by simpa using c8))
   clear c8
   (first | rw [c8b0] | (simp only [i64_w, i32_w]; rw [c8b0]) | skip)
   have H' := Aside0.mk H
   clear H
   have hcz9_0 : w6.cell? ⟨gb225, 0, none⟩ = some (.int .i64 0) := (qe0 BK225.out 0).trans rfl
   have hcz9_1 : w6.cell? ⟨gb225, 1, none⟩ = some (.int .i64 0) := (qe0 BK225.out 1).trans rfl
   have hcz9_2 : w6.cell? ⟨gb225, 2, none⟩ = some (.int .i64 0) := (qe0 BK225.out 2).trans rfl
   have hfz9_0 := qd0 BK225.out 0
   have hfz9_1 := qd0 BK225.out 1
   have hfz9_2 := qd0 BK225.out 2
   go_wp2
   go_meet
   case rel => exact ⟨_, (true), (by first | rfl | (simp; done) | (simp [*]; done)), H', ⟨by first | omega | exact Nat.le_refl _⟩, ⟨by (with_reducible repeat (first | refine qf0 ?_ _ | refine qi0 ?_ | refine qg0 ?_ _)); refine qn0 (cs := #[.int .i64 t222, .int .i64 t223, .int .i64 0]) ?_ 2 _ rfl; (with_reducible repeat (first | refine qf0 ?_ _ | refine qi0 ?_ | refine qg0 ?_ _)); refine qn0 (cs := #[.int .i64 t222, .int .i64 0, .int .i64 0]) ?_ 1 _ rfl; (with_reducible repeat (first | refine qf0 ?_ _ | refine qi0 ?_ | refine qg0 ?_ _)); refine qn0 (cs := #[.int .i64 0, .int .i64 0, .int .i64 0]) ?_ 0 _ rfl; (with_reducible repeat (first | refine qf0 ?_ _ | refine qi0 ?_ | refine qg0 ?_ _)); exact BK225.out⟩, ⟨by repeat (first | (with_reducible first | exact HB.out | apply qb0 | apply qa0 | apply qc0 | refine qh0 ?_ GE225.out) | exact HB.out)⟩⟩
  rw [if_neg c8] at H
  have c8b0 : (t222 == 0 && (t223 == 0 && (t224 == 0))) = false := by simpa using c8
  (try (have c8b1 : decide (t222 = 0 && (t223 == 0 && (t224 == 0))) = false := by simpa using c8))
  (try (have c8b2 : (t222 == 0 && (t223 == 0 && (t224 == 0))) = false := by simpa using c8))
  (try (have c8b3 : ¬ (t222 = 0 && (t223 == 0 && (t224 == 0))) := by simpa using c8))
  clear c8
  (first | rw [c8b0] | (simp only [i64_w, i32_w]; rw [c8b0]) | skip)
  replace H := Option.bind_eq_some_iff.mp H
  obtain ⟨t226, A100, H⟩ := H
  replace H : (impl_AddMonths.j0 k a1 (!t226) t222 t223 t224) = some r := H
  have A10 := Aside0.mk A100
  clear A100
  have H' := Aside0.mk H
  clear H
  have hcz11_0 : w6.cell? ⟨gb225, 0, none⟩ = some (.int .i64 0) := (qe0 BK225.out 0).trans rfl
  have hcz11_1 : w6.cell? ⟨gb225, 1, none⟩ = some (.int .i64 0) := (qe0 BK225.out 1).trans rfl
  have hcz11_2 : w6.cell? ⟨gb225, 2, none⟩ = some (.int .i64 0) := (qe0 BK225.out 2).trans rfl
  have hfz11_0 := qd0 BK225.out 0
  have hfz11_1 := qd0 BK225.out 1
  have hfz11_2 := qd0 BK225.out 2
  go_wp2_with (first | (go_at_call 26; (with_reducible refine (impl_between.calls a1 (-1200) 1200 t226 _ A10.out).mono ?_); rintro e w' ⟨rfl, ⟨nd, rfl⟩⟩))
  go_meet
  case rel => exact ⟨_, (!t226), (by first | rfl | (simp; done) | (simp [*]; done)), H', ⟨by first | omega | exact Nat.le_refl _⟩, ⟨by (with_reducible repeat (first | refine qf0 ?_ _ | refine qi0 ?_ | refine qg0 ?_ _)); refine qn0 (cs := #[.int .i64 t222, .int .i64 t223, .int .i64 0]) ?_ 2 _ rfl; (with_reducible repeat (first | refine qf0 ?_ _ | refine qi0 ?_ | refine qg0 ?_ _)); refine qn0 (cs := #[.int .i64 t222, .int .i64 0, .int .i64 0]) ?_ 1 _ rfl; (with_reducible repeat (first | refine qf0 ?_ _ | refine qi0 ?_ | refine qg0 ?_ _)); refine qn0 (cs := #[.int .i64 0, .int .i64 0, .int .i64 0]) ?_ 0 _ rfl; (with_reducible repeat (first | refine qf0 ?_ _ | refine qi0 ?_ | refine qg0 ?_ _)); exact BK225.out⟩, ⟨by repeat (first | (with_reducible first | exact HB.out | apply qb0 | apply qa0 | apply qc0 | refine qh0 ?_ GE225.out) | exact HB.out)⟩⟩
 case rest =>
  clear HC4
  try clear c1
  try clear p2
  try clear c8
  try clear c8b0
  try clear c8b1
  try clear c8b2
  try clear c10
  try clear hcz11_0
  try clear hcz11_1
  try clear hcz11_2
  try clear hcz7_0
  try clear hcz7_1
  try clear hcz7_2
  try clear hcz9_0
  try clear hcz9_1
  try clear hcz9_2
  try clear hfz11_0
  try clear hfz11_1
  try clear hfz11_2
  try clear hfz7_0
  try clear hfz7_1
  try clear hfz7_2
  try clear hfz9_0
  try clear hfz9_1
  try clear hfz9_2
  obtain ⟨kq, x17_3, rfl, HA, HJ3, BK225, HB⟩ := hcut
  cases kq with
  | zero => exact absurd HA.out (by simp [impl_AddMonths.j0])
  | succ kj3 =>
   have H := HA.out
   clear HA
   simp only [impl_AddMonths.j0] at H
   by_cases c12 : x17_3 = true
   ·subst c12
    have H1 : (some (-1)) = some r := by rw [if_pos rfl] at H; exact H
    clear H
    have H := H1
    clear H1
    obtain rfl := Option.some.inj H
    go_wp2
    go_ret
    exact ⟨by first | rfl | (simp [errW_none, errW_some] <;> rfl) | (simp [*, errW_none, errW_some] <;> rfl), by repeat (first | (with_reducible first | exact HB.out | apply qb0 | apply qa0 | apply qc0 | refine qh0 ?_ GE225.out) | exact HB.out)⟩
   replace c12 := Bool.eq_false_iff.mpr c12
   subst c12
   have H1 : ((impl_daysOf.f (wrap64 (Int.tdiv (wrap64 ((wrap64 ((wrap64 ((wrap64 (t222 * 12)) + t223)) - 1)) + a1)) 12)) (wrap64 ((Int.tmod (wrap64 ((wrap64 ((wrap64 ((wrap64 (t222 * 12)) + t223)) - 1)) + a1)) 12) + 1))).bind fun t227 => (if t224 > t227 then ((impl_DayOf.f kj3 (wrap64 (Int.tdiv (wrap64 ((wrap64 ((wrap64 ((wrap64 (t222 * 12)) + t223)) - 1)) + a1)) 12)) (wrap64 ((Int.tmod (wrap64 ((wrap64 ((wrap64 ((wrap64 (t222 * 12)) + t223)) - 1)) + a1)) 12) + 1)) t227).bind fun t228 => (some t228)) else ((impl_DayOf.f kj3 (wrap64 (Int.tdiv (wrap64 ((wrap64 ((wrap64 ((wrap64 (t222 * 12)) + t223)) - 1)) + a1)) 12)) (wrap64 ((Int.tmod (wrap64 ((wrap64 ((wrap64 ((wrap64 (t222 * 12)) + t223)) - 1)) + a1)) 12) + 1)) t224).bind fun t229 => (some t229)))) = some r := by rw [if_neg (show ¬ (false = true) by decide)] at H; exact H
   clear H
   have H := H1
   clear H1
   replace H := Option.bind_eq_some_iff.mp H
   obtain ⟨t227, A130, H⟩ := H
   replace H : (if t224 > t227 then ((impl_DayOf.f kj3 (wrap64 (Int.tdiv (wrap64 ((wrap64 ((wrap64 ((wrap64 (t222 * 12)) + t223)) - 1)) + a1)) 12)) (wrap64 ((Int.tmod (wrap64 ((wrap64 ((wrap64 ((wrap64 (t222 * 12)) + t223)) - 1)) + a1)) 12) + 1)) t227).bind fun t228 => (some t228)) else ((impl_DayOf.f kj3 (wrap64 (Int.tdiv (wrap64 ((wrap64 ((wrap64 ((wrap64 (t222 * 12)) + t223)) - 1)) + a1)) 12)) (wrap64 ((Int.tmod (wrap64 ((wrap64 ((wrap64 ((wrap64 (t222 * 12)) + t223)) - 1)) + a1)) 12) + 1)) t224).bind fun t229 => (some t229))) = some r := H
   have A13 := Aside0.mk A130
   clear A130
   by_cases c14 : t224 > t227
   ·rw [if_pos c14] at H
    have c14b0 : decide (t227 < t224) = true := decide_eq_true c14
    clear c14
    replace H := Option.bind_eq_some_iff.mp H
    obtain ⟨t228, A150, H⟩ := H
    replace H : (some t228) = some r := H
    have A15 := Aside0.mk A150
    clear A150
    obtain rfl := Option.some.inj H
    have hcz16_0 : wc.cell? ⟨gb225, 0, none⟩ = some (.int .i64 t222) := (qe0 BK225.out 0).trans rfl
    have hcz16_1 : wc.cell? ⟨gb225, 1, none⟩ = some (.int .i64 t223) := (qe0 BK225.out 1).trans rfl
    have hcz16_2 : wc.cell? ⟨gb225, 2, none⟩ = some (.int .i64 t224) := (qe0 BK225.out 2).trans rfl
    have hfz16_0 := qd0 BK225.out 0
    have hfz16_1 := qd0 BK225.out 1
    have hfz16_2 := qd0 BK225.out 2
    go_wp2_with (first | ((with_reducible refine qj0 (f := 27) rfl ?_); refine qo0 (some 38) rfl rfl Tryd.func27 (by kernel_rfl) rfl #[.int .i64 (wrap64 (Int.tdiv (wrap64 ((wrap64 ((wrap64 ((wrap64 (t222 * 12)) + t223)) - 1)) + a1)) 12)), .int .i64 (wrap64 ((Int.tmod (wrap64 ((wrap64 ((wrap64 ((wrap64 (t222 * 12)) + t223)) - 1)) + a1)) 12) + 1))] rfl (by (try simp only [List.map_toArray, List.map_cons, List.map_nil]); first | done | rfl | (simp only [List.length_drop, List.length_take]; rfl)) ?_; (with_reducible refine (impl_daysOf.calls (wrap64 (Int.tdiv (wrap64 ((wrap64 ((wrap64 ((wrap64 (t222 * 12)) + t223)) - 1)) + a1)) 12)) (wrap64 ((Int.tmod (wrap64 ((wrap64 ((wrap64 ((wrap64 (t222 * 12)) + t223)) - 1)) + a1)) 12) + 1)) t227 _ A13.out).mono ?_); rintro e w' ⟨rfl, ⟨nd, rfl⟩⟩; refine ⟨_, rfl, ?_⟩) | ((with_reducible refine qj0 (f := 28) rfl ?_); refine qo0 (some 46) rfl rfl Tryd.func28 (by kernel_rfl) rfl #[.agg #[.int .i64 (wrap64 (Int.tdiv (wrap64 ((wrap64 ((wrap64 ((wrap64 (t222 * 12)) + t223)) - 1)) + a1)) 12)), .int .i64 (wrap64 ((Int.tmod (wrap64 ((wrap64 ((wrap64 ((wrap64 (t222 * 12)) + t223)) - 1)) + a1)) 12) + 1)), .int .i64 t227]] rfl (by (try simp only [List.map_toArray, List.map_cons, List.map_nil]); first | done | rfl | (simp only [List.length_drop, List.length_take]; rfl)) ?_; (with_reducible refine (impl_DayOf.calls kj3 (wrap64 (Int.tdiv (wrap64 ((wrap64 ((wrap64 ((wrap64 (t222 * 12)) + t223)) - 1)) + a1)) 12)) (wrap64 ((Int.tmod (wrap64 ((wrap64 ((wrap64 ((wrap64 (t222 * 12)) + t223)) - 1)) + a1)) 12) + 1)) t227 t228 _ A15.out).mono ?_); rintro e w17 ⟨rfl, hb⟩; refine ⟨_, rfl, ?_⟩; have n0_ := Aside0.mk (qv0 (g := gb225) (o := .cells #[.int .i64 (wrap64 (Int.tdiv (wrap64 ((wrap64 ((wrap64 ((wrap64 (t222 * 12)) + t223)) - 1)) + a1)) 12)), .int .i64 (wrap64 ((Int.tmod (wrap64 ((wrap64 ((wrap64 ((wrap64 (t222 * 12)) + t223)) - 1)) + a1)) 12) + 1)), .int .i64 t227] 28 (0, 0)) (by (with_reducible repeat (first | refine qf0 ?_ _ | refine qi0 ?_ | refine qg0 ?_ _)); refine qn0 (cs := #[.int .i64 (wrap64 (Int.tdiv (wrap64 ((wrap64 ((wrap64 ((wrap64 (t222 * 12)) + t223)) - 1)) + a1)) 12)), .int .i64 (wrap64 ((Int.tmod (wrap64 ((wrap64 ((wrap64 ((wrap64 (t222 * 12)) + t223)) - 1)) + a1)) 12) + 1)), .int .i64 t224]) ?_ 2 _ rfl; (with_reducible repeat (first | refine qf0 ?_ _ | refine qi0 ?_ | refine qg0 ?_ _)); refine qn0 (cs := #[.int .i64 (wrap64 (Int.tdiv (wrap64 ((wrap64 ((wrap64 ((wrap64 (t222 * 12)) + t223)) - 1)) + a1)) 12)), .int .i64 t223, .int .i64 t224]) ?_ 1 _ rfl; (with_reducible repeat (first | refine qf0 ?_ _ | refine qi0 ?_ | refine qg0 ?_ _)); refine qn0 (cs := #[.int .i64 t222, .int .i64 t223, .int .i64 t224]) ?_ 0 _ rfl; (with_reducible repeat (first | refine qf0 ?_ _ | refine qi0 ?_ | refine qg0 ?_ _)); exact BK225.out) hb); have n1_ := Aside0.mk (qk0 (by repeat (first | (with_reducible first | exact HB.out | apply qb0 | apply qa0 | apply qc0 | refine qh0 ?_ GE225.out) | exact HB.out)) hb); clear BK225; clear HB; have BK225 := n0_; have HB := n1_; clear n0_ n1_; (try clear hb); (try clear hb2); (try clear hk); (try clear hi)))
    go_ret
    exact ⟨by first | rfl | (simp [errW_none, errW_some] <;> rfl) | (simp [*, errW_none, errW_some] <;> rfl), by repeat (first | (with_reducible first | exact HB.out | apply qb0 | apply qa0 | apply qc0 | refine qh0 ?_ GE225.out) | exact HB.out)⟩
   rw [if_neg c14] at H
   have c14b0 : decide (t227 < t224) = false := decide_eq_false c14
   clear c14
   replace H := Option.bind_eq_some_iff.mp H
   obtain ⟨t229, A180, H⟩ := H
   replace H : (some t229) = some r := H
   have A18 := Aside0.mk A180
   clear A180
   obtain rfl := Option.some.inj H
   have hcz19_0 : wc.cell? ⟨gb225, 0, none⟩ = some (.int .i64 t222) := (qe0 BK225.out 0).trans rfl
   have hcz19_1 : wc.cell? ⟨gb225, 1, none⟩ = some (.int .i64 t223) := (qe0 BK225.out 1).trans rfl
   have hcz19_2 : wc.cell? ⟨gb225, 2, none⟩ = some (.int .i64 t224) := (qe0 BK225.out 2).trans rfl
   have hfz19_0 := qd0 BK225.out 0
   have hfz19_1 := qd0 BK225.out 1
   have hfz19_2 := qd0 BK225.out 2
   go_wp2_with (first | ((with_reducible refine qj0 (f := 27) rfl ?_); refine qo0 (some 38) rfl rfl Tryd.func27 (by kernel_rfl) rfl #[.int .i64 (wrap64 (Int.tdiv (wrap64 ((wrap64 ((wrap64 ((wrap64 (t222 * 12)) + t223)) - 1)) + a1)) 12)), .int .i64 (wrap64 ((Int.tmod (wrap64 ((wrap64 ((wrap64 ((wrap64 (t222 * 12)) + t223)) - 1)) + a1)) 12) + 1))] rfl (by (try simp only [List.map_toArray, List.map_cons, List.map_nil]); first | done | rfl | (simp only [List.length_drop, List.length_take]; rfl)) ?_; (with_reducible refine (impl_daysOf.calls (wrap64 (Int.tdiv (wrap64 ((wrap64 ((wrap64 ((wrap64 (t222 * 12)) + t223)) - 1)) + a1)) 12)) (wrap64 ((Int.tmod (wrap64 ((wrap64 ((wrap64 ((wrap64 (t222 * 12)) + t223)) - 1)) + a1)) 12) + 1)) t227 _ A13.out).mono ?_); rintro e w' ⟨rfl, ⟨nd, rfl⟩⟩; refine ⟨_, rfl, ?_⟩) | ((with_reducible refine qj0 (f := 28) rfl ?_); refine qo0 (some 46) rfl rfl Tryd.func28 (by kernel_rfl) rfl #[.agg #[.int .i64 (wrap64 (Int.tdiv (wrap64 ((wrap64 ((wrap64 ((wrap64 (t222 * 12)) + t223)) - 1)) + a1)) 12)), .int .i64 (wrap64 ((Int.tmod (wrap64 ((wrap64 ((wrap64 ((wrap64 (t222 * 12)) + t223)) - 1)) + a1)) 12) + 1)), .int .i64 t224]] rfl (by (try simp only [List.map_toArray, List.map_cons, List.map_nil]); first | done | rfl | (simp only [List.length_drop, List.length_take]; rfl)) ?_; (with_reducible refine (impl_DayOf.calls kj3 (wrap64 (Int.tdiv (wrap64 ((wrap64 ((wrap64 ((wrap64 (t222 * 12)) + t223)) - 1)) + a1)) 12)) (wrap64 ((Int.tmod (wrap64 ((wrap64 ((wrap64 ((wrap64 (t222 * 12)) + t223)) - 1)) + a1)) 12) + 1)) t224 t229 _ A18.out).mono ?_); rintro e w20 ⟨rfl, hb⟩; refine ⟨_, rfl, ?_⟩; have n0_ := Aside0.mk (qv0 (g := gb225) (o := .cells #[.int .i64 (wrap64 (Int.tdiv (wrap64 ((wrap64 ((wrap64 ((wrap64 (t222 * 12)) + t223)) - 1)) + a1)) 12)), .int .i64 (wrap64 ((Int.tmod (wrap64 ((wrap64 ((wrap64 ((wrap64 (t222 * 12)) + t223)) - 1)) + a1)) 12) + 1)), .int .i64 t224] 28 (0, 0)) (by (with_reducible repeat (first | refine qf0 ?_ _ | refine qi0 ?_ | refine qg0 ?_ _)); refine qn0 (cs := #[.int .i64 (wrap64 (Int.tdiv (wrap64 ((wrap64 ((wrap64 ((wrap64 (t222 * 12)) + t223)) - 1)) + a1)) 12)), .int .i64 t223, .int .i64 t224]) ?_ 1 _ rfl; (with_reducible repeat (first | refine qf0 ?_ _ | refine qi0 ?_ | refine qg0 ?_ _)); refine qn0 (cs := #[.int .i64 t222, .int .i64 t223, .int .i64 t224]) ?_ 0 _ rfl; (with_reducible repeat (first | refine qf0 ?_ _ | refine qi0 ?_ | refine qg0 ?_ _)); exact BK225.out) hb); have n1_ := Aside0.mk (qk0 (by repeat (first | (with_reducible first | exact HB.out | apply qb0 | apply qa0 | apply qc0 | refine qh0 ?_ GE225.out) | exact HB.out)) hb); clear BK225; clear HB; have BK225 := n0_; have HB := n1_; clear n0_ n1_; (try clear hb); (try clear hb2); (try clear hk); (try clear hi)))
   go_ret
   exact ⟨by first | rfl | (simp [errW_none, errW_some] <;> rfl) | (simp [*, errW_none, errW_some] <;> rfl), by repeat (first | (with_reducible first | exact HB.out | apply qb0 | apply qa0 | apply qc0 | refine qh0 ?_ GE225.out) | exact HB.out)⟩

/-! ### spec_AddMonths: function 9 -/
def spec_AddMonths.j0 : Nat → Int → Int → Bool → Option (Int)
 | 0, _, _, _ => none
 | k + 1, x0, x1, x16 => if x16 = true then (some (-1)) else ((spec_DateOf.f k x0).bind fun bt232 => ((spec_l1In.f (wrap64 (Int.tdiv (wrap64 ((wrap64 ((wrap64 ((wrap64 (bt232.1 * 12)) + bt232.2.1)) - 1)) + x1)) 12)) 2000 2200).bind fun t236 => (if t236 = true then ((spec_l2Long.f (wrap64 (Int.tdiv (wrap64 ((wrap64 ((wrap64 ((wrap64 (bt232.1 * 12)) + bt232.2.1)) - 1)) + x1)) 12)) (wrap64 ((Int.tmod (wrap64 ((wrap64 ((wrap64 ((wrap64 (bt232.1 * 12)) + bt232.2.1)) - 1)) + x1)) 12) + 1))).bind fun t237 => (if bt232.2.2 > t237 then ((spec_l2Long.f (wrap64 (Int.tdiv (wrap64 ((wrap64 ((wrap64 ((wrap64 (bt232.1 * 12)) + bt232.2.1)) - 1)) + x1)) 12)) (wrap64 ((Int.tmod (wrap64 ((wrap64 ((wrap64 ((wrap64 (bt232.1 * 12)) + bt232.2.1)) - 1)) + x1)) 12) + 1))).bind fun t238 => ((spec_DayOf.f k (wrap64 (Int.tdiv (wrap64 ((wrap64 ((wrap64 ((wrap64 (bt232.1 * 12)) + bt232.2.1)) - 1)) + x1)) 12)) (wrap64 ((Int.tmod (wrap64 ((wrap64 ((wrap64 ((wrap64 (bt232.1 * 12)) + bt232.2.1)) - 1)) + x1)) 12) + 1)) t238).bind fun t239 => (some t239))) else ((spec_DayOf.f k (wrap64 (Int.tdiv (wrap64 ((wrap64 ((wrap64 ((wrap64 (bt232.1 * 12)) + bt232.2.1)) - 1)) + x1)) 12)) (wrap64 ((Int.tmod (wrap64 ((wrap64 ((wrap64 ((wrap64 (bt232.1 * 12)) + bt232.2.1)) - 1)) + x1)) 12) + 1)) bt232.2.2).bind fun t240 => (some t240)))) else (some (-1)))))
def spec_AddMonths.f (k : Nat) (a0 : Int) (a1 : Int) : Option (Int) := (spec_l2Day.f a0).bind fun t230 => (if t230 = true then ((spec_l1In.f a1 (-1200) 1200).bind fun t231 => (spec_AddMonths.j0 k a0 a1 (!t231))) else (spec_AddMonths.j0 k a0 a1 true))
theorem spec_AddMonths.mono_l : ∀ k, (∀ y0 y1 y2, LeO (spec_AddMonths.j0 k y0 y1 y2) (spec_AddMonths.j0 (k + 1) y0 y1 y2))
 | 0 => fun _ _ _ r h => by simp [spec_AddMonths.j0] at h
 | k + 1 => by
  have ih0 := spec_AddMonths.mono_l k
  ·intro y0 y1 y2
   unfold spec_AddMonths.j0
   repeat' first
   | (with_reducible exact ih0 _ _ _)
   | (with_reducible exact spec_DateOf.mono _ _)
   | (with_reducible exact spec_DayOf.mono _ _ _ _)
   | (with_reducible exact LeO.refl _)
   | (with_reducible exact LeO.none _)
   | (with_reducible refine LeO.ite ?_ ?_)
   | (with_reducible refine LeO.bind ?_ (fun _ => ?_))
   | exact ih0 _ _ _
   | exact spec_DateOf.mono _ _
   | exact spec_DayOf.mono _ _ _ _
   | exact LeO.none _
   | refine LeO.ite ?_ ?_
   | refine LeO.bind ?_ (fun _ => ?_)
theorem spec_AddMonths.mono : ∀ a0 a1 k, LeO (spec_AddMonths.f k a0 a1) (spec_AddMonths.f (k + 1) a0 a1) := by
 intro a0 a1 k
 have ih0 := spec_AddMonths.mono_l k
 unfold spec_AddMonths.f
 repeat' first
   | (with_reducible exact ih0 _ _ _)
   | (with_reducible exact spec_DateOf.mono _ _)
   | (with_reducible exact spec_DayOf.mono _ _ _ _)
   | (with_reducible exact LeO.refl _)
   | (with_reducible exact LeO.none _)
   | (with_reducible refine LeO.ite ?_ ?_)
   | (with_reducible refine LeO.bind ?_ (fun _ => ?_))
   | exact ih0 _ _ _
   | exact spec_DateOf.mono _ _
   | exact spec_DayOf.mono _ _ _ _
   | exact LeO.none _
   | refine LeO.ite ?_ ?_
   | refine LeO.bind ?_ (fun _ => ?_)
set_option maxHeartbeats 8000000 in
set_option maxRecDepth 100000 in
theorem spec_AddMonths.calls (k : Nat) (a0 : Int) (a1 : Int) (r : Int) (w : World) (h : spec_AddMonths.f k a0 a1 = some r) :
  Calls Tryd.prog 9 #[.int .i64 a0, .int .i64 a1] w fun e w' => e = .returned (.int .i64 r) ∧ Below w.heap.size w w' := by
 have hu28 := Tryd.underlying28
 have HB := Aside0.mk (Below.refl w.heap.size w)
 have H : ((spec_l2Day.f a0).bind fun t230 => (if t230 = true then ((spec_l1In.f a1 (-1200) 1200).bind fun t231 => (spec_AddMonths.j0 k a0 a1 (!t231))) else (spec_AddMonths.j0 k a0 a1 true))) = some r := h
 clear h
 have HC3 := Aside0.mk H
 clear H
 go_enter Tryd.func9, Tryd.ntmps9
 go_upto_region 1 with (fail)
 repeat (go_quiet (fail); go_upto_region 1 with (fail))
 go_cut [16] (fun v16 wc => ∃ (kq : Nat) (x16_2 : Bool), v16 = .bool x16_2 ∧ Aside0 (spec_AddMonths.j0 kq a0 a1 x16_2 = some r) ∧ Aside0 (kq ≤ k) ∧ Aside0 (Below w.heap.size w wc))
 case first =>
  have H := HC3.out
  clear HC3
  replace H := Option.bind_eq_some_iff.mp H
  obtain ⟨t230, A40, H⟩ := H
  replace H : (if t230 = true then ((spec_l1In.f a1 (-1200) 1200).bind fun t231 => (spec_AddMonths.j0 k a0 a1 (!t231))) else (spec_AddMonths.j0 k a0 a1 true)) = some r := H
  have A4 := Aside0.mk A40
  clear A40
  by_cases c5 : t230 = true
  ·subst c5
   have H1 : ((spec_l1In.f a1 (-1200) 1200).bind fun t231 => (spec_AddMonths.j0 k a0 a1 (!t231))) = some r := by rw [if_pos rfl] at H; exact H
   clear H
   have H := H1
   clear H1
   replace H := Option.bind_eq_some_iff.mp H
   obtain ⟨t231, A60, H⟩ := H
   replace H : (spec_AddMonths.j0 k a0 a1 (!t231)) = some r := H
   have A6 := Aside0.mk A60
   clear A60
   have H' := Aside0.mk H
   clear H
   go_wp2_with (first | (go_at_call 29; (with_reducible refine (spec_l2Day.calls a0 true _ A4.out).mono ?_); rintro e w' ⟨rfl, ⟨nd, rfl⟩⟩; (try first | exact ⟨rfl, _, World.drewN_drewN _ _ _⟩ | exact ⟨rfl, _, Eq.trans (World.drewN_drewN _ _ _) (congrArg (World.drewN _) (Nat.add_assoc _ _ _))⟩)) | (go_at_call 30; (with_reducible refine (spec_l1In.calls a1 (-1200) 1200 t231 _ A6.out).mono ?_); rintro e w' ⟨rfl, ⟨nd, rfl⟩⟩; (try first | exact ⟨rfl, _, World.drewN_drewN _ _ _⟩ | exact ⟨rfl, _, Eq.trans (World.drewN_drewN _ _ _) (congrArg (World.drewN _) (Nat.add_assoc _ _ _))⟩)))
   repeat (go_quiet (first | (go_at_call 29; (with_reducible refine (spec_l2Day.calls a0 true _ A4.out).mono ?_); rintro e w' ⟨rfl, ⟨nd, rfl⟩⟩; (try first | exact ⟨rfl, _, World.drewN_drewN _ _ _⟩ | exact ⟨rfl, _, Eq.trans (World.drewN_drewN _ _ _) (congrArg (World.drewN _) (Nat.add_assoc _ _ _))⟩)) | (go_at_call 30; (with_reducible refine (spec_l1In.calls a1 (-1200) 1200 t231 _ A6.out).mono ?_); rintro e w' ⟨rfl, ⟨nd, rfl⟩⟩; (try first | exact ⟨rfl, _, World.drewN_drewN _ _ _⟩ | exact ⟨rfl, _, Eq.trans (World.drewN_drewN _ _ _) (congrArg (World.drewN _) (Nat.add_assoc _ _ _))⟩))); try go_wp2_with (first | (go_at_call 29; (with_reducible refine (spec_l2Day.calls a0 true _ A4.out).mono ?_); rintro e w' ⟨rfl, ⟨nd, rfl⟩⟩; (try first | exact ⟨rfl, _, World.drewN_drewN _ _ _⟩ | exact ⟨rfl, _, Eq.trans (World.drewN_drewN _ _ _) (congrArg (World.drewN _) (Nat.add_assoc _ _ _))⟩)) | (go_at_call 30; (with_reducible refine (spec_l1In.calls a1 (-1200) 1200 t231 _ A6.out).mono ?_); rintro e w' ⟨rfl, ⟨nd, rfl⟩⟩; (try first | exact ⟨rfl, _, World.drewN_drewN _ _ _⟩ | exact ⟨rfl, _, Eq.trans (World.drewN_drewN _ _ _) (congrArg (World.drewN _) (Nat.add_assoc _ _ _))⟩))))
   go_meet
   case rel => exact ⟨_, (!t231), (by first | rfl | (simp; done) | (simp [*]; done)), H', ⟨by first | omega | exact Nat.le_refl _⟩, ⟨by repeat (first | (with_reducible first | exact HB.out | apply qb0 | apply qa0 | apply qc0) | exact HB.out)⟩⟩
  replace c5 := Bool.eq_false_iff.mpr c5
  subst c5
  have H1 : (spec_AddMonths.j0 k a0 a1 true) = some r := by rw [if_neg (show ¬ (false = true) by decide)] at H; exact H
  clear H
  have H := H1
  clear H1
  have H' := Aside0.mk H
  clear H
  go_wp2_with (first | (go_at_call 29; (with_reducible refine (spec_l2Day.calls a0 false _ A4.out).mono ?_); rintro e w' ⟨rfl, ⟨nd, rfl⟩⟩; (try first | exact ⟨rfl, _, World.drewN_drewN _ _ _⟩ | exact ⟨rfl, _, Eq.trans (World.drewN_drewN _ _ _) (congrArg (World.drewN _) (Nat.add_assoc _ _ _))⟩)))
  repeat (go_quiet (first | (go_at_call 29; (with_reducible refine (spec_l2Day.calls a0 false _ A4.out).mono ?_); rintro e w' ⟨rfl, ⟨nd, rfl⟩⟩; (try first | exact ⟨rfl, _, World.drewN_drewN _ _ _⟩ | exact ⟨rfl, _, Eq.trans (World.drewN_drewN _ _ _) (congrArg (World.drewN _) (Nat.add_assoc _ _ _))⟩))); try go_wp2_with (first | (go_at_call 29; (with_reducible refine (spec_l2Day.calls a0 false _ A4.out).mono ?_); rintro e w' ⟨rfl, ⟨nd, rfl⟩⟩; (try first | exact ⟨rfl, _, World.drewN_drewN _ _ _⟩ | exact ⟨rfl, _, Eq.trans (World.drewN_drewN _ _ _) (congrArg (World.drewN _) (Nat.add_assoc _ _ _))⟩))))
  go_meet
  case rel => exact ⟨_, (true), (by first | rfl | (simp; done) | (simp [*]; done)), H', ⟨by first | omega | exact Nat.le_refl _⟩, ⟨by repeat (first | (with_reducible first | exact HB.out | apply qb0 | apply qa0 | apply qc0) | exact HB.out)⟩⟩
 case rest =>
  clear HC3
  try clear p2
  try clear c5
  obtain ⟨kq, x16_2, rfl, HA, HJ2, HB⟩ := hcut
  cases kq with
  | zero => exact absurd HA.out (by simp [spec_AddMonths.j0])
  | succ kj2 =>
   have H := HA.out
   clear HA
   simp only [spec_AddMonths.j0] at H
   by_cases c7 : x16_2 = true
   ·subst c7
    have H1 : (some (-1)) = some r := by rw [if_pos rfl] at H; exact H
    clear H
    have H := H1
    clear H1
    obtain rfl := Option.some.inj H
    go_wp2
    repeat (go_quiet (fail); try go_wp2)
    go_ret
    exact ⟨by first | rfl | (simp [errW_none, errW_some] <;> rfl) | (simp [*, errW_none, errW_some] <;> rfl), by repeat (first | (with_reducible first | exact HB.out | apply qb0 | apply qa0 | apply qc0) | exact HB.out)⟩
   replace c7 := Bool.eq_false_iff.mpr c7
   subst c7
   have H1 : ((spec_DateOf.f kj2 a0).bind fun bt232 => ((spec_l1In.f (wrap64 (Int.tdiv (wrap64 ((wrap64 ((wrap64 ((wrap64 (bt232.1 * 12)) + bt232.2.1)) - 1)) + a1)) 12)) 2000 2200).bind fun t236 => (if t236 = true then ((spec_l2Long.f (wrap64 (Int.tdiv (wrap64 ((wrap64 ((wrap64 ((wrap64 (bt232.1 * 12)) + bt232.2.1)) - 1)) + a1)) 12)) (wrap64 ((Int.tmod (wrap64 ((wrap64 ((wrap64 ((wrap64 (bt232.1 * 12)) + bt232.2.1)) - 1)) + a1)) 12) + 1))).bind fun t237 => (if bt232.2.2 > t237 then ((spec_l2Long.f (wrap64 (Int.tdiv (wrap64 ((wrap64 ((wrap64 ((wrap64 (bt232.1 * 12)) + bt232.2.1)) - 1)) + a1)) 12)) (wrap64 ((Int.tmod (wrap64 ((wrap64 ((wrap64 ((wrap64 (bt232.1 * 12)) + bt232.2.1)) - 1)) + a1)) 12) + 1))).bind fun t238 => ((spec_DayOf.f kj2 (wrap64 (Int.tdiv (wrap64 ((wrap64 ((wrap64 ((wrap64 (bt232.1 * 12)) + bt232.2.1)) - 1)) + a1)) 12)) (wrap64 ((Int.tmod (wrap64 ((wrap64 ((wrap64 ((wrap64 (bt232.1 * 12)) + bt232.2.1)) - 1)) + a1)) 12) + 1)) t238).bind fun t239 => (some t239))) else ((spec_DayOf.f kj2 (wrap64 (Int.tdiv (wrap64 ((wrap64 ((wrap64 ((wrap64 (bt232.1 * 12)) + bt232.2.1)) - 1)) + a1)) 12)) (wrap64 ((Int.tmod (wrap64 ((wrap64 ((wrap64 ((wrap64 (bt232.1 * 12)) + bt232.2.1)) - 1)) + a1)) 12) + 1)) bt232.2.2).bind fun t240 => (some t240)))) else (some (-1))))) = some r := by rw [if_neg (show ¬ (false = true) by decide)] at H; exact H
   clear H
   have H := H1
   clear H1
   replace H := Option.bind_eq_some_iff.mp H
   obtain ⟨⟨t232, t233, t234⟩, A80, H⟩ := H
   replace H : ((spec_l1In.f (wrap64 (Int.tdiv (wrap64 ((wrap64 ((wrap64 ((wrap64 (t232 * 12)) + t233)) - 1)) + a1)) 12)) 2000 2200).bind fun t236 => (if t236 = true then ((spec_l2Long.f (wrap64 (Int.tdiv (wrap64 ((wrap64 ((wrap64 ((wrap64 (t232 * 12)) + t233)) - 1)) + a1)) 12)) (wrap64 ((Int.tmod (wrap64 ((wrap64 ((wrap64 ((wrap64 (t232 * 12)) + t233)) - 1)) + a1)) 12) + 1))).bind fun t237 => (if t234 > t237 then ((spec_l2Long.f (wrap64 (Int.tdiv (wrap64 ((wrap64 ((wrap64 ((wrap64 (t232 * 12)) + t233)) - 1)) + a1)) 12)) (wrap64 ((Int.tmod (wrap64 ((wrap64 ((wrap64 ((wrap64 (t232 * 12)) + t233)) - 1)) + a1)) 12) + 1))).bind fun t238 => ((spec_DayOf.f kj2 (wrap64 (Int.tdiv (wrap64 ((wrap64 ((wrap64 ((wrap64 (t232 * 12)) + t233)) - 1)) + a1)) 12)) (wrap64 ((Int.tmod (wrap64 ((wrap64 ((wrap64 ((wrap64 (t232 * 12)) + t233)) - 1)) + a1)) 12) + 1)) t238).bind fun t239 => (some t239))) else ((spec_DayOf.f kj2 (wrap64 (Int.tdiv (wrap64 ((wrap64 ((wrap64 ((wrap64 (t232 * 12)) + t233)) - 1)) + a1)) 12)) (wrap64 ((Int.tmod (wrap64 ((wrap64 ((wrap64 ((wrap64 (t232 * 12)) + t233)) - 1)) + a1)) 12) + 1)) t234).bind fun t240 => (some t240)))) else (some (-1)))) = some r := H
   have A8 := Aside0.mk A80
   clear A80
   replace H := Option.bind_eq_some_iff.mp H
   obtain ⟨t236, A90, H⟩ := H
   replace H : (if t236 = true then ((spec_l2Long.f (wrap64 (Int.tdiv (wrap64 ((wrap64 ((wrap64 ((wrap64 (t232 * 12)) + t233)) - 1)) + a1)) 12)) (wrap64 ((Int.tmod (wrap64 ((wrap64 ((wrap64 ((wrap64 (t232 * 12)) + t233)) - 1)) + a1)) 12) + 1))).bind fun t237 => (if t234 > t237 then ((spec_l2Long.f (wrap64 (Int.tdiv (wrap64 ((wrap64 ((wrap64 ((wrap64 (t232 * 12)) + t233)) - 1)) + a1)) 12)) (wrap64 ((Int.tmod (wrap64 ((wrap64 ((wrap64 ((wrap64 (t232 * 12)) + t233)) - 1)) + a1)) 12) + 1))).bind fun t238 => ((spec_DayOf.f kj2 (wrap64 (Int.tdiv (wrap64 ((wrap64 ((wrap64 ((wrap64 (t232 * 12)) + t233)) - 1)) + a1)) 12)) (wrap64 ((Int.tmod (wrap64 ((wrap64 ((wrap64 ((wrap64 (t232 * 12)) + t233)) - 1)) + a1)) 12) + 1)) t238).bind fun t239 => (some t239))) else ((spec_DayOf.f kj2 (wrap64 (Int.tdiv (wrap64 ((wrap64 ((wrap64 ((wrap64 (t232 * 12)) + t233)) - 1)) + a1)) 12)) (wrap64 ((Int.tmod (wrap64 ((wrap64 ((wrap64 ((wrap64 (t232 * 12)) + t233)) - 1)) + a1)) 12) + 1)) t234).bind fun t240 => (some t240)))) else (some (-1))) = some r := H
   have A9 := Aside0.mk A90
   clear A90
   by_cases c10 : t236 = true
   ·subst c10
    have H1 : ((spec_l2Long.f (wrap64 (Int.tdiv (wrap64 ((wrap64 ((wrap64 ((wrap64 (t232 * 12)) + t233)) - 1)) + a1)) 12)) (wrap64 ((Int.tmod (wrap64 ((wrap64 ((wrap64 ((wrap64 (t232 * 12)) + t233)) - 1)) + a1)) 12) + 1))).bind fun t237 => (if t234 > t237 then ((spec_l2Long.f (wrap64 (Int.tdiv (wrap64 ((wrap64 ((wrap64 ((wrap64 (t232 * 12)) + t233)) - 1)) + a1)) 12)) (wrap64 ((Int.tmod (wrap64 ((wrap64 ((wrap64 ((wrap64 (t232 * 12)) + t233)) - 1)) + a1)) 12) + 1))).bind fun t238 => ((spec_DayOf.f kj2 (wrap64 (Int.tdiv (wrap64 ((wrap64 ((wrap64 ((wrap64 (t232 * 12)) + t233)) - 1)) + a1)) 12)) (wrap64 ((Int.tmod (wrap64 ((wrap64 ((wrap64 ((wrap64 (t232 * 12)) + t233)) - 1)) + a1)) 12) + 1)) t238).bind fun t239 => (some t239))) else ((spec_DayOf.f kj2 (wrap64 (Int.tdiv (wrap64 ((wrap64 ((wrap64 ((wrap64 (t232 * 12)) + t233)) - 1)) + a1)) 12)) (wrap64 ((Int.tmod (wrap64 ((wrap64 ((wrap64 ((wrap64 (t232 * 12)) + t233)) - 1)) + a1)) 12) + 1)) t234).bind fun t240 => (some t240)))) = some r := by rw [if_pos rfl] at H; exact H
    clear H
    have H := H1
    clear H1
    replace H := Option.bind_eq_some_iff.mp H
    obtain ⟨t237, A110, H⟩ := H
    replace H : (if t234 > t237 then ((spec_l2Long.f (wrap64 (Int.tdiv (wrap64 ((wrap64 ((wrap64 ((wrap64 (t232 * 12)) + t233)) - 1)) + a1)) 12)) (wrap64 ((Int.tmod (wrap64 ((wrap64 ((wrap64 ((wrap64 (t232 * 12)) + t233)) - 1)) + a1)) 12) + 1))).bind fun t238 => ((spec_DayOf.f kj2 (wrap64 (Int.tdiv (wrap64 ((wrap64 ((wrap64 ((wrap64 (t232 * 12)) + t233)) - 1)) + a1)) 12)) (wrap64 ((Int.tmod (wrap64 ((wrap64 ((wrap64 ((wrap64 (t232 * 12)) + t233)) - 1)) + a1)) 12) + 1)) t238).bind fun t239 => (some t239))) else ((spec_DayOf.f kj2 (wrap64 (Int.tdiv (wrap64 ((wrap64 ((wrap64 ((wrap64 (t232 * 12)) + t233)) - 1)) + a1)) 12)) (wrap64 ((Int.tmod (wrap64 ((wrap64 ((wrap64 ((wrap64 (t232 * 12)) + t233)) - 1)) + a1)) 12) + 1)) t234).bind fun t240 => (some t240))) = some r := H
    have A11 := Aside0.mk A110
    clear A110
    by_cases c12 : t234 > t237
    ·rw [if_pos c12] at H
     have c12b0 : decide (t237 < t234) = true := decide_eq_true c12
     clear c12
     replace H := Option.bind_eq_some_iff.mp H
     obtain ⟨t238, A130, H⟩ := H
     have e_ : t237 = t238 := Option.some.inj (A11.out.symm.trans A130)
     subst e_
     replace H : ((spec_DayOf.f kj2 (wrap64 (Int.tdiv (wrap64 ((wrap64 ((wrap64 ((wrap64 (t232 * 12)) + t233)) - 1)) + a1)) 12)) (wrap64 ((Int.tmod (wrap64 ((wrap64 ((wrap64 ((wrap64 (t232 * 12)) + t233)) - 1)) + a1)) 12) + 1)) t237).bind fun t239 => (some t239)) = some r := H
     have A13 := Aside0.mk A130
     clear A130
     replace H := Option.bind_eq_some_iff.mp H
     obtain ⟨t239, A140, H⟩ := H
     replace H : (some t239) = some r := H
     have A14 := Aside0.mk A140
     clear A140
     obtain rfl := Option.some.inj H
     go_wp2_with (first | (go_at_call 31; (with_reducible refine (spec_DateOf.calls kj2 a0 t232 t233 t234 _ A8.out).mono ?_); rintro e w15 ⟨rfl, hb⟩; have n0_ := Aside0.mk (qk0 (by repeat (first | (with_reducible first | exact HB.out | apply qb0 | apply qa0 | apply qc0) | exact HB.out)) hb); clear HB; have HB := n0_; clear n0_; (try clear hb); (try clear hb2); (try clear hk); (try clear hi)) | ((with_reducible refine qs0 (N := 5) rfl ?_); refine qr0 ?hg (N := 5) ?hd (cs := #[.int .i64 0, .int .i64 0, .int .i64 0]) (t := 28) ?hr ?_; (case hd => rfl); (case hg => rfl); (case hr => first | (go_simp; done) | (go_simp; rfl)); intro gb235 hg w16 hbox hb; have n0_ := Aside0.mk (qk0 (by repeat (first | (with_reducible first | exact HB.out | apply qb0 | apply qa0 | apply qc0) | exact HB.out)) hb); have n1_ := Aside0.mk (hbox); have n2_ := Aside0.mk ((by rw [hg]; exact (ql0 (by repeat (first | (with_reducible first | exact HB.out | apply qb0 | apply qa0 | apply qc0) | exact HB.out))) : w.heap.size ≤ gb235)); have n3_ := Aside0.mk ((by rw [hg]; exact (ql0 (by repeat (first | (with_reducible first | exact HB.out | apply qb0 | apply qa0 | apply qc0) | exact HB.out))) : w.heap.size ≤ gb235)); clear HB; have HB := n0_; have BK235 := n1_; have GW235 := n2_; have GE235 := n3_; clear n0_ n1_ n2_ n3_; clear hb hbox hg; have hcz17_0 : w16.cell? ⟨gb235, 0, none⟩ = some (.int .i64 0) := (qe0 BK235.out 0).trans rfl; have hcz17_1 : w16.cell? ⟨gb235, 1, none⟩ = some (.int .i64 0) := (qe0 BK235.out 1).trans rfl; have hcz17_2 : w16.cell? ⟨gb235, 2, none⟩ = some (.int .i64 0) := (qe0 BK235.out 2).trans rfl; have hfz17_0 := qd0 BK235.out 0; have hfz17_1 := qd0 BK235.out 1; have hfz17_2 := qd0 BK235.out 2; have hczS : ∀ n_ : Nat, ((((w16.setCell ⟨gb235, 0, none⟩ (.int .i64 t232)).setCell ⟨gb235, 1, none⟩ (.int .i64 t233)).setCell ⟨gb235, 2, none⟩ (.int .i64 t234)).drewN n_).cell? ⟨gb235, 2, none⟩ = some (.int .i64 t234) := fun n_ => World.cell?_setCell_same _ _ _ ((World.cell?_setCell_other _ _ _ _ (by simp)).trans ((World.cell?_setCell_other _ _ _ _ (by simp)).trans hcz17_2))) | (go_at_call 30; (with_reducible refine (spec_l1In.calls (wrap64 (Int.tdiv (wrap64 ((wrap64 ((wrap64 ((wrap64 (t232 * 12)) + t233)) - 1)) + a1)) 12)) 2000 2200 true _ A9.out).mono ?_); rintro e w' ⟨rfl, ⟨nd, rfl⟩⟩; (try first | exact ⟨rfl, _, World.drewN_drewN _ _ _⟩ | exact ⟨rfl, _, Eq.trans (World.drewN_drewN _ _ _) (congrArg (World.drewN _) (Nat.add_assoc _ _ _))⟩)) | (go_at_call 32; (with_reducible refine (spec_l2Long.calls (wrap64 (Int.tdiv (wrap64 ((wrap64 ((wrap64 ((wrap64 (t232 * 12)) + t233)) - 1)) + a1)) 12)) (wrap64 ((Int.tmod (wrap64 ((wrap64 ((wrap64 ((wrap64 (t232 * 12)) + t233)) - 1)) + a1)) 12) + 1)) t237 _ A11.out).mono ?_); rintro e w' ⟨rfl, ⟨nd, rfl⟩⟩; (try first | exact ⟨rfl, _, World.drewN_drewN _ _ _⟩ | exact ⟨rfl, _, Eq.trans (World.drewN_drewN _ _ _) (congrArg (World.drewN _) (Nat.add_assoc _ _ _))⟩)) | (go_at_call 32; (with_reducible refine (spec_l2Long.calls (wrap64 (Int.tdiv (wrap64 ((wrap64 ((wrap64 ((wrap64 (t232 * 12)) + t233)) - 1)) + a1)) 12)) (wrap64 ((Int.tmod (wrap64 ((wrap64 ((wrap64 ((wrap64 (t232 * 12)) + t233)) - 1)) + a1)) 12) + 1)) t237 _ A13.out).mono ?_); rintro e w' ⟨rfl, ⟨nd, rfl⟩⟩; (try first | exact ⟨rfl, _, World.drewN_drewN _ _ _⟩ | exact ⟨rfl, _, Eq.trans (World.drewN_drewN _ _ _) (congrArg (World.drewN _) (Nat.add_assoc _ _ _))⟩)) | (go_at_call 33; (with_reducible refine (spec_DayOf.calls kj2 (wrap64 (Int.tdiv (wrap64 ((wrap64 ((wrap64 ((wrap64 (t232 * 12)) + t233)) - 1)) + a1)) 12)) (wrap64 ((Int.tmod (wrap64 ((wrap64 ((wrap64 ((wrap64 (t232 * 12)) + t233)) - 1)) + a1)) 12) + 1)) t237 t239 _ A14.out).mono ?_); rintro e w18 ⟨rfl, hb⟩; have n0_ := Aside0.mk (qv0 (g := gb235) (o := .cells #[.int .i64 t232, .int .i64 t233, .int .i64 t237] 28 (0, 0)) (by (with_reducible repeat (first | refine qf0 ?_ _ | refine qi0 ?_ | refine qg0 ?_ _)); refine qn0 (cs := #[.int .i64 t232, .int .i64 t233, .int .i64 t234]) ?_ 2 _ rfl; (with_reducible repeat (first | refine qf0 ?_ _ | refine qi0 ?_ | refine qg0 ?_ _)); refine qn0 (cs := #[.int .i64 t232, .int .i64 t233, .int .i64 0]) ?_ 2 _ rfl; (with_reducible repeat (first | refine qf0 ?_ _ | refine qi0 ?_ | refine qg0 ?_ _)); refine qn0 (cs := #[.int .i64 t232, .int .i64 0, .int .i64 0]) ?_ 1 _ rfl; (with_reducible repeat (first | refine qf0 ?_ _ | refine qi0 ?_ | refine qg0 ?_ _)); refine qn0 (cs := #[.int .i64 0, .int .i64 0, .int .i64 0]) ?_ 0 _ rfl; (with_reducible repeat (first | refine qf0 ?_ _ | refine qi0 ?_ | refine qg0 ?_ _)); exact BK235.out) hb); have n1_ := Aside0.mk (qk0 (by repeat (first | (with_reducible first | exact HB.out | apply qb0 | apply qa0 | apply qc0 | refine qh0 ?_ GE235.out) | exact HB.out)) hb); clear BK235; clear HB; have BK235 := n0_; have HB := n1_; clear n0_ n1_; (try clear hb); (try clear hb2); (try clear hk); (try clear hi)))
     repeat (go_quiet (first | (go_at_call 31; (with_reducible refine (spec_DateOf.calls kj2 a0 t232 t233 t234 _ A8.out).mono ?_); rintro e w15 ⟨rfl, hb⟩; have n0_ := Aside0.mk (qk0 (by repeat (first | (with_reducible first | exact HB.out | apply qb0 | apply qa0 | apply qc0) | exact HB.out)) hb); clear HB; have HB := n0_; clear n0_; (try clear hb); (try clear hb2); (try clear hk); (try clear hi)) | ((with_reducible refine qs0 (N := 5) rfl ?_); refine qr0 ?hg (N := 5) ?hd (cs := #[.int .i64 0, .int .i64 0, .int .i64 0]) (t := 28) ?hr ?_; (case hd => rfl); (case hg => rfl); (case hr => first | (go_simp; done) | (go_simp; rfl)); intro gb235 hg w16 hbox hb; have n0_ := Aside0.mk (qk0 (by repeat (first | (with_reducible first | exact HB.out | apply qb0 | apply qa0 | apply qc0) | exact HB.out)) hb); have n1_ := Aside0.mk (hbox); have n2_ := Aside0.mk ((by rw [hg]; exact (ql0 (by repeat (first | (with_reducible first | exact HB.out | apply qb0 | apply qa0 | apply qc0) | exact HB.out))) : w.heap.size ≤ gb235)); have n3_ := Aside0.mk ((by rw [hg]; exact (ql0 (by repeat (first | (with_reducible first | exact HB.out | apply qb0 | apply qa0 | apply qc0) | exact HB.out))) : w.heap.size ≤ gb235)); clear HB; have HB := n0_; have BK235 := n1_; have GW235 := n2_; have GE235 := n3_; clear n0_ n1_ n2_ n3_; clear hb hbox hg; have hcz17_0 : w16.cell? ⟨gb235, 0, none⟩ = some (.int .i64 0) := (qe0 BK235.out 0).trans rfl; have hcz17_1 : w16.cell? ⟨gb235, 1, none⟩ = some (.int .i64 0) := (qe0 BK235.out 1).trans rfl; have hcz17_2 : w16.cell? ⟨gb235, 2, none⟩ = some (.int .i64 0) := (qe0 BK235.out 2).trans rfl; have hfz17_0 := qd0 BK235.out 0; have hfz17_1 := qd0 BK235.out 1; have hfz17_2 := qd0 BK235.out 2; have hczS : ∀ n_ : Nat, ((((w16.setCell ⟨gb235, 0, none⟩ (.int .i64 t232)).setCell ⟨gb235, 1, none⟩ (.int .i64 t233)).setCell ⟨gb235, 2, none⟩ (.int .i64 t234)).drewN n_).cell? ⟨gb235, 2, none⟩ = some (.int .i64 t234) := fun n_ => World.cell?_setCell_same _ _ _ ((World.cell?_setCell_other _ _ _ _ (by simp)).trans ((World.cell?_setCell_other _ _ _ _ (by simp)).trans hcz17_2))) | (go_at_call 30; (with_reducible refine (spec_l1In.calls (wrap64 (Int.tdiv (wrap64 ((wrap64 ((wrap64 ((wrap64 (t232 * 12)) + t233)) - 1)) + a1)) 12)) 2000 2200 true _ A9.out).mono ?_); rintro e w' ⟨rfl, ⟨nd, rfl⟩⟩; (try first | exact ⟨rfl, _, World.drewN_drewN _ _ _⟩ | exact ⟨rfl, _, Eq.trans (World.drewN_drewN _ _ _) (congrArg (World.drewN _) (Nat.add_assoc _ _ _))⟩)) | (go_at_call 32; (with_reducible refine (spec_l2Long.calls (wrap64 (Int.tdiv (wrap64 ((wrap64 ((wrap64 ((wrap64 (t232 * 12)) + t233)) - 1)) + a1)) 12)) (wrap64 ((Int.tmod (wrap64 ((wrap64 ((wrap64 ((wrap64 (t232 * 12)) + t233)) - 1)) + a1)) 12) + 1)) t237 _ A11.out).mono ?_); rintro e w' ⟨rfl, ⟨nd, rfl⟩⟩; (try first | exact ⟨rfl, _, World.drewN_drewN _ _ _⟩ | exact ⟨rfl, _, Eq.trans (World.drewN_drewN _ _ _) (congrArg (World.drewN _) (Nat.add_assoc _ _ _))⟩)) | (go_at_call 32; (with_reducible refine (spec_l2Long.calls (wrap64 (Int.tdiv (wrap64 ((wrap64 ((wrap64 ((wrap64 (t232 * 12)) + t233)) - 1)) + a1)) 12)) (wrap64 ((Int.tmod (wrap64 ((wrap64 ((wrap64 ((wrap64 (t232 * 12)) + t233)) - 1)) + a1)) 12) + 1)) t237 _ A13.out).mono ?_); rintro e w' ⟨rfl, ⟨nd, rfl⟩⟩; (try first | exact ⟨rfl, _, World.drewN_drewN _ _ _⟩ | exact ⟨rfl, _, Eq.trans (World.drewN_drewN _ _ _) (congrArg (World.drewN _) (Nat.add_assoc _ _ _))⟩)) | (go_at_call 33; (with_reducible refine (spec_DayOf.calls kj2 (wrap64 (Int.tdiv (wrap64 ((wrap64 ((wrap64 ((wrap64 (t232 * 12)) + t233)) - 1)) + a1)) 12)) (wrap64 ((Int.tmod (wrap64 ((wrap64 ((wrap64 ((wrap64 (t232 * 12)) + t233)) - 1)) + a1)) 12) + 1)) t237 t239 _ A14.out).mono ?_); rintro e w18 ⟨rfl, hb⟩; have n0_ := Aside0.mk (qv0 (g := gb235) (o := .cells #[.int .i64 t232, .int .i64 t233, .int .i64 t237] 28 (0, 0)) (by (with_reducible repeat (first | refine qf0 ?_ _ | refine qi0 ?_ | refine qg0 ?_ _)); refine qn0 (cs := #[.int .i64 t232, .int .i64 t233, .int .i64 t234]) ?_ 2 _ rfl; (with_reducible repeat (first | refine qf0 ?_ _ | refine qi0 ?_ | refine qg0 ?_ _)); refine qn0 (cs := #[.int .i64 t232, .int .i64 t233, .int .i64 0]) ?_ 2 _ rfl; (with_reducible repeat (first | refine qf0 ?_ _ | refine qi0 ?_ | refine qg0 ?_ _)); refine qn0 (cs := #[.int .i64 t232, .int .i64 0, .int .i64 0]) ?_ 1 _ rfl; (with_reducible repeat (first | refine qf0 ?_ _ | refine qi0 ?_ | refine qg0 ?_ _)); refine qn0 (cs := #[.int .i64 0, .int .i64 0, .int .i64 0]) ?_ 0 _ rfl; (with_reducible repeat (first | refine qf0 ?_ _ | refine qi0 ?_ | refine qg0 ?_ _)); exact BK235.out) hb); have n1_ := Aside0.mk (qk0 (by repeat (first | (with_reducible first | exact HB.out | apply qb0 | apply qa0 | apply qc0 | refine qh0 ?_ GE235.out) | exact HB.out)) hb); clear BK235; clear HB; have BK235 := n0_; have HB := n1_; clear n0_ n1_; (try clear hb); (try clear hb2); (try clear hk); (try clear hi))); try go_wp2_with (first | (go_at_call 31; (with_reducible refine (spec_DateOf.calls kj2 a0 t232 t233 t234 _ A8.out).mono ?_); rintro e w15 ⟨rfl, hb⟩; have n0_ := Aside0.mk (qk0 (by repeat (first | (with_reducible first | exact HB.out | apply qb0 | apply qa0 | apply qc0) | exact HB.out)) hb); clear HB; have HB := n0_; clear n0_; (try clear hb); (try clear hb2); (try clear hk); (try clear hi)) | ((with_reducible refine qs0 (N := 5) rfl ?_); refine qr0 ?hg (N := 5) ?hd (cs := #[.int .i64 0, .int .i64 0, .int .i64 0]) (t := 28) ?hr ?_; (case hd => rfl); (case hg => rfl); (case hr => first | (go_simp; done) | (go_simp; rfl)); intro gb235 hg w16 hbox hb; have n0_ := Aside0.mk (qk0 (by repeat (first | (with_reducible first | exact HB.out | apply qb0 | apply qa0 | apply qc0) | exact HB.out)) hb); have n1_ := Aside0.mk (hbox); have n2_ := Aside0.mk ((by rw [hg]; exact (ql0 (by repeat (first | (with_reducible first | exact HB.out | apply qb0 | apply qa0 | apply qc0) | exact HB.out))) : w.heap.size ≤ gb235)); have n3_ := Aside0.mk ((by rw [hg]; exact (ql0 (by repeat (first | (with_reducible first | exact HB.out | apply qb0 | apply qa0 | apply qc0) | exact HB.out))) : w.heap.size ≤ gb235)); clear HB; have HB := n0_; have BK235 := n1_; have GW235 := n2_; have GE235 := n3_; clear n0_ n1_ n2_ n3_; clear hb hbox hg; have hcz17_0 : w16.cell? ⟨gb235, 0, none⟩ = some (.int .i64 0) := (qe0 BK235.out 0).trans rfl; have hcz17_1 : w16.cell? ⟨gb235, 1, none⟩ = some (.int .i64 0) := (qe0 BK235.out 1).trans rfl; have hcz17_2 : w16.cell? ⟨gb235, 2, none⟩ = some (.int .i64 0) := (qe0 BK235.out 2).trans rfl; have hfz17_0 := qd0 BK235.out 0; have hfz17_1 := qd0 BK235.out 1; have hfz17_2 := qd0 BK235.out 2; have hczS : ∀ n_ : Nat, ((((w16.setCell ⟨gb235, 0, none⟩ (.int .i64 t232)).setCell ⟨gb235, 1, none⟩ (.int .i64 t233)).setCell ⟨gb235, 2, none⟩ (.int .i64 t234)).drewN n_).cell? ⟨gb235, 2, none⟩ = some (.int .i64 t234) := fun n_ => World.cell?_setCell_same _ _ _ ((World.cell?_setCell_other _ _ _ _ (by simp)).trans ((World.cell?_setCell_other _ _ _ _ (by simp)).trans hcz17_2))) | (go_at_call 30; (with_reducible refine (spec_l1In.calls (wrap64 (Int.tdiv (wrap64 ((wrap64 ((wrap64 ((wrap64 (t232 * 12)) + t233)) - 1)) + a1)) 12)) 2000 2200 true _ A9.out).mono ?_); rintro e w' ⟨rfl, ⟨nd, rfl⟩⟩; (try first | exact ⟨rfl, _, World.drewN_drewN _ _ _⟩ | exact ⟨rfl, _, Eq.trans (World.drewN_drewN _ _ _) (congrArg (World.drewN _) (Nat.add_assoc _ _ _))⟩)) | (go_at_call 32; (with_reducible refine (spec_l2Long.calls (wrap64 (Int.tdiv (wrap64 ((wrap64 ((wrap64 ((wrap64 (t232 * 12)) + t233)) - 1)) + a1)) 12)) (wrap64 ((Int.tmod (wrap64 ((wrap64 ((wrap64 ((wrap64 (t232 * 12)) + t233)) - 1)) + a1)) 12) + 1)) t237 _ A11.out).mono ?_); rintro e w' ⟨rfl, ⟨nd, rfl⟩⟩; (try first | exact ⟨rfl, _, World.drewN_drewN _ _ _⟩ | exact ⟨rfl, _, Eq.trans (World.drewN_drewN _ _ _) (congrArg (World.drewN _) (Nat.add_assoc _ _ _))⟩)) | (go_at_call 32; (with_reducible refine (spec_l2Long.calls (wrap64 (Int.tdiv (wrap64 ((wrap64 ((wrap64 ((wrap64 (t232 * 12)) + t233)) - 1)) + a1)) 12)) (wrap64 ((Int.tmod (wrap64 ((wrap64 ((wrap64 ((wrap64 (t232 * 12)) + t233)) - 1)) + a1)) 12) + 1)) t237 _ A13.out).mono ?_); rintro e w' ⟨rfl, ⟨nd, rfl⟩⟩; (try first | exact ⟨rfl, _, World.drewN_drewN _ _ _⟩ | exact ⟨rfl, _, Eq.trans (World.drewN_drewN _ _ _) (congrArg (World.drewN _) (Nat.add_assoc _ _ _))⟩)) | (go_at_call 33; (with_reducible refine (spec_DayOf.calls kj2 (wrap64 (Int.tdiv (wrap64 ((wrap64 ((wrap64 ((wrap64 (t232 * 12)) + t233)) - 1)) + a1)) 12)) (wrap64 ((Int.tmod (wrap64 ((wrap64 ((wrap64 ((wrap64 (t232 * 12)) + t233)) - 1)) + a1)) 12) + 1)) t237 t239 _ A14.out).mono ?_); rintro e w18 ⟨rfl, hb⟩; have n0_ := Aside0.mk (qv0 (g := gb235) (o := .cells #[.int .i64 t232, .int .i64 t233, .int .i64 t237] 28 (0, 0)) (by (with_reducible repeat (first | refine qf0 ?_ _ | refine qi0 ?_ | refine qg0 ?_ _)); refine qn0 (cs := #[.int .i64 t232, .int .i64 t233, .int .i64 t234]) ?_ 2 _ rfl; (with_reducible repeat (first | refine qf0 ?_ _ | refine qi0 ?_ | refine qg0 ?_ _)); refine qn0 (cs := #[.int .i64 t232, .int .i64 t233, .int .i64 0]) ?_ 2 _ rfl; (with_reducible repeat (first | refine qf0 ?_ _ | refine qi0 ?_ | refine qg0 ?_ _)); refine qn0 (cs := #[.int .i64 t232, .int .i64 0, .int .i64 0]) ?_ 1 _ rfl; (with_reducible repeat (first | refine qf0 ?_ _ | refine qi0 ?_ | refine qg0 ?_ _)); refine qn0 (cs := #[.int .i64 0, .int .i64 0, .int .i64 0]) ?_ 0 _ rfl; (with_reducible repeat (first | refine qf0 ?_ _ | refine qi0 ?_ | refine qg0 ?_ _)); exact BK235.out) hb); have n1_ := Aside0.mk (qk0 (by repeat (first | (with_reducible first | exact HB.out | apply qb0 | apply qa0 | apply qc0 | refine qh0 ?_ GE235.out) | exact HB.out)) hb); clear BK235; clear HB; have BK235 := n0_; have HB := n1_; clear n0_ n1_; (try clear hb); (try clear hb2); (try clear hk); (try clear hi))))
     go_ret
     exact ⟨by first | rfl | (simp [errW_none, errW_some] <;> rfl) | (simp [*, errW_none, errW_some] <;> rfl), by repeat (first | (with_reducible first | exact HB.out | apply qb0 | apply qa0 | apply qc0 | refine qh0 ?_ GE235.out) | exact HB.out)⟩
    rw [if_neg c12] at H
    have c12b0 : decide (t237 < t234) = false := decide_eq_false c12
    clear c12
    replace H := Option.bind_eq_some_iff.mp H
    obtain ⟨t240, A190, H⟩ := H
    replace H : (some t240) = some r := H
    have A19 := Aside0.mk A190
    clear A190
    obtain rfl := Option.some.inj H
    go_wp2_with (first | (go_at_call 31; (with_reducible refine (spec_DateOf.calls kj2 a0 t232 t233 t234 _ A8.out).mono ?_); rintro e w20 ⟨rfl, hb⟩; have n0_ := Aside0.mk (qk0 (by repeat (first | (with_reducible first | exact HB.out | apply qb0 | apply qa0 | apply qc0) | exact HB.out)) hb); clear HB; have HB := n0_; clear n0_; (try clear hb); (try clear hb2); (try clear hk); (try clear hi)) | ((with_reducible refine qs0 (N := 5) rfl ?_); refine qr0 ?hg (N := 5) ?hd (cs := #[.int .i64 0, .int .i64 0, .int .i64 0]) (t := 28) ?hr ?_; (case hd => rfl); (case hg => rfl); (case hr => first | (go_simp; done) | (go_simp; rfl)); intro gb235 hg w21 hbox hb; have n0_ := Aside0.mk (qk0 (by repeat (first | (with_reducible first | exact HB.out | apply qb0 | apply qa0 | apply qc0) | exact HB.out)) hb); have n1_ := Aside0.mk (hbox); have n2_ := Aside0.mk ((by rw [hg]; exact (ql0 (by repeat (first | (with_reducible first | exact HB.out | apply qb0 | apply qa0 | apply qc0) | exact HB.out))) : w.heap.size ≤ gb235)); have n3_ := Aside0.mk ((by rw [hg]; exact (ql0 (by repeat (first | (with_reducible first | exact HB.out | apply qb0 | apply qa0 | apply qc0) | exact HB.out))) : w.heap.size ≤ gb235)); clear HB; have HB := n0_; have BK235 := n1_; have GW235 := n2_; have GE235 := n3_; clear n0_ n1_ n2_ n3_; clear hb hbox hg; have hcz22_0 : w21.cell? ⟨gb235, 0, none⟩ = some (.int .i64 0) := (qe0 BK235.out 0).trans rfl; have hcz22_1 : w21.cell? ⟨gb235, 1, none⟩ = some (.int .i64 0) := (qe0 BK235.out 1).trans rfl; have hcz22_2 : w21.cell? ⟨gb235, 2, none⟩ = some (.int .i64 0) := (qe0 BK235.out 2).trans rfl; have hfz22_0 := qd0 BK235.out 0; have hfz22_1 := qd0 BK235.out 1; have hfz22_2 := qd0 BK235.out 2) | (go_at_call 30; (with_reducible refine (spec_l1In.calls (wrap64 (Int.tdiv (wrap64 ((wrap64 ((wrap64 ((wrap64 (t232 * 12)) + t233)) - 1)) + a1)) 12)) 2000 2200 true _ A9.out).mono ?_); rintro e w' ⟨rfl, ⟨nd, rfl⟩⟩; (try first | exact ⟨rfl, _, World.drewN_drewN _ _ _⟩ | exact ⟨rfl, _, Eq.trans (World.drewN_drewN _ _ _) (congrArg (World.drewN _) (Nat.add_assoc _ _ _))⟩)) | (go_at_call 32; (with_reducible refine (spec_l2Long.calls (wrap64 (Int.tdiv (wrap64 ((wrap64 ((wrap64 ((wrap64 (t232 * 12)) + t233)) - 1)) + a1)) 12)) (wrap64 ((Int.tmod (wrap64 ((wrap64 ((wrap64 ((wrap64 (t232 * 12)) + t233)) - 1)) + a1)) 12) + 1)) t237 _ A11.out).mono ?_); rintro e w' ⟨rfl, ⟨nd, rfl⟩⟩; (try first | exact ⟨rfl, _, World.drewN_drewN _ _ _⟩ | exact ⟨rfl, _, Eq.trans (World.drewN_drewN _ _ _) (congrArg (World.drewN _) (Nat.add_assoc _ _ _))⟩)) | (go_at_call 33; (with_reducible refine (spec_DayOf.calls kj2 (wrap64 (Int.tdiv (wrap64 ((wrap64 ((wrap64 ((wrap64 (t232 * 12)) + t233)) - 1)) + a1)) 12)) (wrap64 ((Int.tmod (wrap64 ((wrap64 ((wrap64 ((wrap64 (t232 * 12)) + t233)) - 1)) + a1)) 12) + 1)) t234 t240 _ A19.out).mono ?_); rintro e w23 ⟨rfl, hb⟩; have n0_ := Aside0.mk (qv0 (g := gb235) (o := .cells #[.int .i64 t232, .int .i64 t233, .int .i64 t234] 28 (0, 0)) (by (with_reducible repeat (first | refine qf0 ?_ _ | refine qi0 ?_ | refine qg0 ?_ _)); refine qn0 (cs := #[.int .i64 t232, .int .i64 t233, .int .i64 0]) ?_ 2 _ rfl; (with_reducible repeat (first | refine qf0 ?_ _ | refine qi0 ?_ | refine qg0 ?_ _)); refine qn0 (cs := #[.int .i64 t232, .int .i64 0, .int .i64 0]) ?_ 1 _ rfl; (with_reducible repeat (first | refine qf0 ?_ _ | refine qi0 ?_ | refine qg0 ?_ _)); refine qn0 (cs := #[.int .i64 0, .int .i64 0, .int .i64 0]) ?_ 0 _ rfl; (with_reducible repeat (first | refine qf0 ?_ _ | refine qi0 ?_ | refine qg0 ?_ _)); exact BK235.out) hb); have n1_ := Aside0.mk (qk0 (by repeat (first | (with_reducible first | exact HB.out | apply qb0 | apply qa0 | apply qc0 | refine qh0 ?_ GE235.out) | exact HB.out)) hb); clear BK235; clear HB; have BK235 := n0_; have HB := n1_; clear n0_ n1_; (try clear hb); (try clear hb2); (try clear hk); (try clear hi)))
    repeat (go_quiet (first | (go_at_call 31; (with_reducible refine (spec_DateOf.calls kj2 a0 t232 t233 t234 _ A8.out).mono ?_); rintro e w20 ⟨rfl, hb⟩; have n0_ := Aside0.mk (qk0 (by repeat (first | (with_reducible first | exact HB.out | apply qb0 | apply qa0 | apply qc0) | exact HB.out)) hb); clear HB; have HB := n0_; clear n0_; (try clear hb); (try clear hb2); (try clear hk); (try clear hi)) | ((with_reducible refine qs0 (N := 5) rfl ?_); refine qr0 ?hg (N := 5) ?hd (cs := #[.int .i64 0, .int .i64 0, .int .i64 0]) (t := 28) ?hr ?_; (case hd => rfl); (case hg => rfl); (case hr => first | (go_simp; done) | (go_simp; rfl)); intro gb235 hg w21 hbox hb; have n0_ := Aside0.mk (qk0 (by repeat (first | (with_reducible first | exact HB.out | apply qb0 | apply qa0 | apply qc0) | exact HB.out)) hb); have n1_ := Aside0.mk (hbox); have n2_ := Aside0.mk ((by rw [hg]; exact (ql0 (by repeat (first | (with_reducible first | exact HB.out | apply qb0 | apply qa0 | apply qc0) | exact HB.out))) : w.heap.size ≤ gb235)); have n3_ := Aside0.mk ((by rw [hg]; exact (ql0 (by repeat (first | (with_reducible first | exact HB.out | apply qb0 | apply qa0 | apply qc0) | exact HB.out))) : w.heap.size ≤ gb235)); clear HB; have HB := n0_; have BK235 := n1_; have GW235 := n2_; have GE235 := n3_; clear n0_ n1_ n2_ n3_; clear hb hbox hg; have hcz22_0 : w21.cell? ⟨gb235, 0, none⟩ = some (.int .i64 0) := (qe0 BK235.out 0).trans rfl; have hcz22_1 : w21.cell? ⟨gb235, 1, none⟩ = some (.int .i64 0) := (qe0 BK235.out 1).trans rfl; have hcz22_2 : w21.cell? ⟨gb235, 2, none⟩ = some (.int .i64 0) := (qe0 BK235.out 2).trans rfl; have hfz22_0 := qd0 BK235.out 0; have hfz22_1 := qd0 BK235.out 1; have hfz22_2 := qd0 BK235.out 2) | (go_at_call 30; (with_reducible refine (spec_l1In.calls (wrap64 (Int.tdiv (wrap64 ((wrap64 ((wrap64 ((wrap64 (t232 * 12)) + t233)) - 1)) + a1)) 12)) 2000 2200 true _ A9.out).mono ?_); rintro e w' ⟨rfl, ⟨nd, rfl⟩⟩; (try first | exact ⟨rfl, _, World.drewN_drewN _ _ _⟩ | exact ⟨rfl, _, Eq.trans (World.drewN_drewN _ _ _) (congrArg (World.drewN _) (Nat.add_assoc _ _ _))⟩)) | (go_at_call 32; (with_reducible refine (spec_l2Long.calls (wrap64 (Int.tdiv (wrap64 ((wrap64 ((wrap64 ((wrap64 (t232 * 12)) + t233)) - 1)) + a1)) 12)) (wrap64 ((Int.tmod (wrap64 ((wrap64 ((wrap64 ((wrap64 (t232 * 12)) + t233)) - 1)) + a1)) 12) + 1)) t237 _ A11.out).mono ?_); rintro e w' ⟨rfl, ⟨nd, rfl⟩⟩; (try first | exact ⟨rfl, _, World.drewN_drewN _ _ _⟩ | exact ⟨rfl, _, Eq.trans (World.drewN_drewN _ _ _) (congrArg (World.drewN _) (Nat.add_assoc _ _ _))⟩)) | (go_at_call 33; (with_reducible refine (spec_DayOf.calls kj2 (wrap64 (Int.tdiv (wrap64 ((wrap64 ((wrap64 ((wrap64 (t232 * 12)) + t233)) - 1)) + a1)) 12)) (wrap64 ((Int.tmod (wrap64 ((wrap64 ((wrap64 ((wrap64 (t232 * 12)) + t233)) - 1)) + a1)) 12) + 1)) t234 t240 _ A19.out).mono ?_); rintro e w23 ⟨rfl, hb⟩; have n0_ := Aside0.mk (qv0 (g := gb235) (o := .cells #[.int .i64 t232, .int .i64 t233, .int .i64 t234] 28 (0, 0)) (by (with_reducible repeat (first | refine qf0 ?_ _ | refine qi0 ?_ | refine qg0 ?_ _)); refine qn0 (cs := #[.int .i64 t232, .int .i64 t233, .int .i64 0]) ?_ 2 _ rfl; (with_reducible repeat (first | refine qf0 ?_ _ | refine qi0 ?_ | refine qg0 ?_ _)); refine qn0 (cs := #[.int .i64 t232, .int .i64 0, .int .i64 0]) ?_ 1 _ rfl; (with_reducible repeat (first | refine qf0 ?_ _ | refine qi0 ?_ | refine qg0 ?_ _)); refine qn0 (cs := #[.int .i64 0, .int .i64 0, .int .i64 0]) ?_ 0 _ rfl; (with_reducible repeat (first | refine qf0 ?_ _ | refine qi0 ?_ | refine qg0 ?_ _)); exact BK235.out) hb); have n1_ := Aside0.mk (qk0 (by repeat (first | (with_reducible first | exact HB.out | apply qb0 | apply qa0 | apply qc0 | refine qh0 ?_ GE235.out) | exact HB.out)) hb); clear BK235; clear HB; have BK235 := n0_; have HB := n1_; clear n0_ n1_; (try clear hb); (try clear hb2); (try clear hk); (try clear hi))); try go_wp2_with (first | (go_at_call 31; (with_reducible refine (spec_DateOf.calls kj2 a0 t232 t233 t234 _ A8.out).mono ?_); rintro e w20 ⟨rfl, hb⟩; have n0_ := Aside0.mk (qk0 (by repeat (first | (with_reducible first | exact HB.out | apply qb0 | apply qa0 | apply qc0) | exact HB.out)) hb); clear HB; have HB := n0_; clear n0_; (try clear hb); (try clear hb2); (try clear hk); (try clear hi)) | ((with_reducible refine qs0 (N := 5) rfl ?_); refine qr0 ?hg (N := 5) ?hd (cs := #[.int .i64 0, .int .i64 0, .int .i64 0]) (t := 28) ?hr ?_; (case hd => rfl); (case hg => rfl); (case hr => first | (go_simp; done) | (go_simp; rfl)); intro gb235 hg w21 hbox hb; have n0_ := Aside0.mk (qk0 (by repeat (first | (with_reducible first | exact HB.out | apply qb0 | apply qa0 | apply qc0) | exact HB.out)) hb); have n1_ := Aside0.mk (hbox); have n2_ := Aside0.mk ((by rw [hg]; exact (ql0 (by repeat (first | (with_reducible first | exact HB.out | apply qb0 | apply qa0 | apply qc0) | exact HB.out))) : w.heap.size ≤ gb235)); have n3_ := Aside0.mk ((by rw [hg]; exact (ql0 (by repeat (first | (with_reducible first | exact HB.out | apply qb0 | apply qa0 | apply qc0) | exact HB.out))) : w.heap.size ≤ gb235)); clear HB; have HB := n0_; have BK235 := n1_; have GW235 := n2_; have GE235 := n3_; clear n0_ n1_ n2_ n3_; clear hb hbox hg; have hcz22_0 : w21.cell? ⟨gb235, 0, none⟩ = some (.int .i64 0) := (qe0 BK235.out 0).trans rfl; have hcz22_1 : w21.cell? ⟨gb235, 1, none⟩ = some (.int .i64 0) := (qe0 BK235.out 1).trans rfl; have hcz22_2 : w21.cell? ⟨gb235, 2, none⟩ = some (.int .i64 0) := (qe0 BK235.out 2).trans rfl; have hfz22_0 := qd0 BK235.out 0; have hfz22_1 := qd0 BK235.out 1; have hfz22_2 := qd0 BK235.out 2) | (go_at_call 30; (with_reducible refine (spec_l1In.calls (wrap64 (Int.tdiv (wrap64 ((wrap64 ((wrap64 ((wrap64 (t232 * 12)) + t233)) - 1)) + a1)) 12)) 2000 2200 true _ A9.out).mono ?_); rintro e w' ⟨rfl, ⟨nd, rfl⟩⟩; (try first | exact ⟨rfl, _, World.drewN_drewN _ _ _⟩ | exact ⟨rfl, _, Eq.trans (World.drewN_drewN _ _ _) (congrArg (World.drewN _) (Nat.add_assoc _ _ _))⟩)) | (go_at_call 32; (with_reducible refine (spec_l2Long.calls (wrap64 (Int.tdiv (wrap64 ((wrap64 ((wrap64 ((wrap64 (t232 * 12)) + t233)) - 1)) + a1)) 12)) (wrap64 ((Int.tmod (wrap64 ((wrap64 ((wrap64 ((wrap64 (t232 * 12)) + t233)) - 1)) + a1)) 12) + 1)) t237 _ A11.out).mono ?_); rintro e w' ⟨rfl, ⟨nd, rfl⟩⟩; (try first | exact ⟨rfl, _, World.drewN_drewN _ _ _⟩ | exact ⟨rfl, _, Eq.trans (World.drewN_drewN _ _ _) (congrArg (World.drewN _) (Nat.add_assoc _ _ _))⟩)) | (go_at_call 33; (with_reducible refine (spec_DayOf.calls kj2 (wrap64 (Int.tdiv (wrap64 ((wrap64 ((wrap64 ((wrap64 (t232 * 12)) + t233)) - 1)) + a1)) 12)) (wrap64 ((Int.tmod (wrap64 ((wrap64 ((wrap64 ((wrap64 (t232 * 12)) + t233)) - 1)) + a1)) 12) + 1)) t234 t240 _ A19.out).mono ?_); rintro e w23 ⟨rfl, hb⟩; have n0_ := Aside0.mk (qv0 (g := gb235) (o := .cells #[.int .i64 t232, .int .i64 t233, .int .i64 t234] 28 (0, 0)) (by (with_reducible repeat (first | refine qf0 ?_ _ | refine qi0 ?_ | refine qg0 ?_ _)); refine qn0 (cs := #[.int .i64 t232, .int .i64 t233, .int .i64 0]) ?_ 2 _ rfl; (with_reducible repeat (first | refine qf0 ?_ _ | refine qi0 ?_ | refine qg0 ?_ _)); refine qn0 (cs := #[.int .i64 t232, .int .i64 0, .int .i64 0]) ?_ 1 _ rfl; (with_reducible repeat (first | refine qf0 ?_ _ | refine qi0 ?_ | refine qg0 ?_ _)); refine qn0 (cs := #[.int .i64 0, .int .i64 0, .int .i64 0]) ?_ 0 _ rfl; (with_reducible repeat (first | refine qf0 ?_ _ | refine qi0 ?_ | refine qg0 ?_ _)); exact BK235.out) hb); have n1_ := Aside0.mk (qk0 (by repeat (first | (with_reducible first | exact HB.out | apply qb0 | apply qa0 | apply qc0 | refine qh0 ?_ GE235.out) | exact HB.out)) hb); clear BK235; clear HB; have BK235 := n0_; have HB := n1_; clear n0_ n1_; (try clear hb); (try clear hb2); (try clear hk); (try clear hi))))
    go_ret
    exact ⟨by first | rfl | (simp [errW_none, errW_some] <;> rfl) | (simp [*, errW_none, errW_some] <;> rfl), by repeat (first | (with_reducible first | exact HB.out | apply qb0 | apply qa0 | apply qc0 | refine qh0 ?_ GE235.out) | exact HB.out)⟩
   replace c10 := Bool.eq_false_iff.mpr c10
   subst c10
   have H1 : (some (-1)) = some r := by rw [if_neg (show ¬ (false = true) by decide)] at H; exact H
   clear H
   have H := H1
   clear H1
   obtain rfl := Option.some.inj H
   go_wp2_with (first | (go_at_call 31; (with_reducible refine (spec_DateOf.calls kj2 a0 t232 t233 t234 _ A8.out).mono ?_); rintro e w24 ⟨rfl, hb⟩; have n0_ := Aside0.mk (qk0 (by repeat (first | (with_reducible first | exact HB.out | apply qb0 | apply qa0 | apply qc0) | exact HB.out)) hb); clear HB; have HB := n0_; clear n0_; (try clear hb); (try clear hb2); (try clear hk); (try clear hi)) | ((with_reducible refine qs0 (N := 5) rfl ?_); refine qr0 ?hg (N := 5) ?hd (cs := #[.int .i64 0, .int .i64 0, .int .i64 0]) (t := 28) ?hr ?_; (case hd => rfl); (case hg => rfl); (case hr => first | (go_simp; done) | (go_simp; rfl)); intro gb235 hg w25 hbox hb; have n0_ := Aside0.mk (qk0 (by repeat (first | (with_reducible first | exact HB.out | apply qb0 | apply qa0 | apply qc0) | exact HB.out)) hb); have n1_ := Aside0.mk (hbox); have n2_ := Aside0.mk ((by rw [hg]; exact (ql0 (by repeat (first | (with_reducible first | exact HB.out | apply qb0 | apply qa0 | apply qc0) | exact HB.out))) : w.heap.size ≤ gb235)); have n3_ := Aside0.mk ((by rw [hg]; exact (ql0 (by repeat (first | (with_reducible first | exact HB.out | apply qb0 | apply qa0 | apply qc0) | exact HB.out))) : w.heap.size ≤ gb235)); clear HB; have HB := n0_; have BK235 := n1_; have GW235 := n2_; have GE235 := n3_; clear n0_ n1_ n2_ n3_; clear hb hbox hg; have hcz26_0 : w25.cell? ⟨gb235, 0, none⟩ = some (.int .i64 0) := (qe0 BK235.out 0).trans rfl; have hcz26_1 : w25.cell? ⟨gb235, 1, none⟩ = some (.int .i64 0) := (qe0 BK235.out 1).trans rfl; have hcz26_2 : w25.cell? ⟨gb235, 2, none⟩ = some (.int .i64 0) := (qe0 BK235.out 2).trans rfl; have hfz26_0 := qd0 BK235.out 0; have hfz26_1 := qd0 BK235.out 1; have hfz26_2 := qd0 BK235.out 2) | (go_at_call 30; (with_reducible refine (spec_l1In.calls (wrap64 (Int.tdiv (wrap64 ((wrap64 ((wrap64 ((wrap64 (t232 * 12)) + t233)) - 1)) + a1)) 12)) 2000 2200 false _ A9.out).mono ?_); rintro e w' ⟨rfl, ⟨nd, rfl⟩⟩; (try first | exact ⟨rfl, _, World.drewN_drewN _ _ _⟩ | exact ⟨rfl, _, Eq.trans (World.drewN_drewN _ _ _) (congrArg (World.drewN _) (Nat.add_assoc _ _ _))⟩)))
   repeat (go_quiet (first | (go_at_call 31; (with_reducible refine (spec_DateOf.calls kj2 a0 t232 t233 t234 _ A8.out).mono ?_); rintro e w24 ⟨rfl, hb⟩; have n0_ := Aside0.mk (qk0 (by repeat (first | (with_reducible first | exact HB.out | apply qb0 | apply qa0 | apply qc0) | exact HB.out)) hb); clear HB; have HB := n0_; clear n0_; (try clear hb); (try clear hb2); (try clear hk); (try clear hi)) | ((with_reducible refine qs0 (N := 5) rfl ?_); refine qr0 ?hg (N := 5) ?hd (cs := #[.int .i64 0, .int .i64 0, .int .i64 0]) (t := 28) ?hr ?_; (case hd => rfl); (case hg => rfl); (case hr => first | (go_simp; done) | (go_simp; rfl)); intro gb235 hg w25 hbox hb; have n0_ := Aside0.mk (qk0 (by repeat (first | (with_reducible first | exact HB.out | apply qb0 | apply qa0 | apply qc0) | exact HB.out)) hb); have n1_ := Aside0.mk (hbox); have n2_ := Aside0.mk ((by rw [hg]; exact (ql0 (by repeat (first | (with_reducible first | exact HB.out | apply qb0 | apply qa0 | apply qc0) | exact HB.out))) : w.heap.size ≤ gb235)); have n3_ := Aside0.mk ((by rw [hg]; exact (ql0 (by repeat (first | (with_reducible first | exact HB.out | apply qb0 | apply qa0 | apply qc0) | exact HB.out))) : w.heap.size ≤ gb235)); clear HB; have HB := n0_; have BK235 := n1_; have GW235 := n2_; have GE235 := n3_; clear n0_ n1_ n2_ n3_; clear hb hbox hg; have hcz26_0 : w25.cell? ⟨gb235, 0, none⟩ = some (.int .i64 0) := (qe0 BK235.out 0).trans rfl; have hcz26_1 : w25.cell? ⟨gb235, 1, none⟩ = some (.int .i64 0) := (qe0 BK235.out 1).trans rfl; have hcz26_2 : w25.cell? ⟨gb235, 2, none⟩ = some (.int .i64 0) := (qe0 BK235.out 2).trans rfl; have hfz26_0 := qd0 BK235.out 0; have hfz26_1 := qd0 BK235.out 1; have hfz26_2 := qd0 BK235.out 2) | (go_at_call 30; (with_reducible refine (spec_l1In.calls (wrap64 (Int.tdiv (wrap64 ((wrap64 ((wrap64 ((wrap64 (t232 * 12)) + t233)) - 1)) + a1)) 12)) 2000 2200 false _ A9.out).mono ?_); rintro e w' ⟨rfl, ⟨nd, rfl⟩⟩; (try first | exact ⟨rfl, _, World.drewN_drewN _ _ _⟩ | exact ⟨rfl, _, Eq.trans (World.drewN_drewN _ _ _) (congrArg (World.drewN _) (Nat.add_assoc _ _ _))⟩))); try go_wp2_with (first | (go_at_call 31; (with_reducible refine (spec_DateOf.calls kj2 a0 t232 t233 t234 _ A8.out).mono ?_); rintro e w24 ⟨rfl, hb⟩; have n0_ := Aside0.mk (qk0 (by repeat (first | (with_reducible first | exact HB.out | apply qb0 | apply qa0 | apply qc0) | exact HB.out)) hb); clear HB; have HB := n0_; clear n0_; (try clear hb); (try clear hb2); (try clear hk); (try clear hi)) | ((with_reducible refine qs0 (N := 5) rfl ?_); refine qr0 ?hg (N := 5) ?hd (cs := #[.int .i64 0, .int .i64 0, .int .i64 0]) (t := 28) ?hr ?_; (case hd => rfl); (case hg => rfl); (case hr => first | (go_simp; done) | (go_simp; rfl)); intro gb235 hg w25 hbox hb; have n0_ := Aside0.mk (qk0 (by repeat (first | (with_reducible first | exact HB.out | apply qb0 | apply qa0 | apply qc0) | exact HB.out)) hb); have n1_ := Aside0.mk (hbox); have n2_ := Aside0.mk ((by rw [hg]; exact (ql0 (by repeat (first | (with_reducible first | exact HB.out | apply qb0 | apply qa0 | apply qc0) | exact HB.out))) : w.heap.size ≤ gb235)); have n3_ := Aside0.mk ((by rw [hg]; exact (ql0 (by repeat (first | (with_reducible first | exact HB.out | apply qb0 | apply qa0 | apply qc0) | exact HB.out))) : w.heap.size ≤ gb235)); clear HB; have HB := n0_; have BK235 := n1_; have GW235 := n2_; have GE235 := n3_; clear n0_ n1_ n2_ n3_; clear hb hbox hg; have hcz26_0 : w25.cell? ⟨gb235, 0, none⟩ = some (.int .i64 0) := (qe0 BK235.out 0).trans rfl; have hcz26_1 : w25.cell? ⟨gb235, 1, none⟩ = some (.int .i64 0) := (qe0 BK235.out 1).trans rfl; have hcz26_2 : w25.cell? ⟨gb235, 2, none⟩ = some (.int .i64 0) := (qe0 BK235.out 2).trans rfl; have hfz26_0 := qd0 BK235.out 0; have hfz26_1 := qd0 BK235.out 1; have hfz26_2 := qd0 BK235.out 2) | (go_at_call 30; (with_reducible refine (spec_l1In.calls (wrap64 (Int.tdiv (wrap64 ((wrap64 ((wrap64 ((wrap64 (t232 * 12)) + t233)) - 1)) + a1)) 12)) 2000 2200 false _ A9.out).mono ?_); rintro e w' ⟨rfl, ⟨nd, rfl⟩⟩; (try first | exact ⟨rfl, _, World.drewN_drewN _ _ _⟩ | exact ⟨rfl, _, Eq.trans (World.drewN_drewN _ _ _) (congrArg (World.drewN _) (Nat.add_assoc _ _ _))⟩))))
   go_ret
   exact ⟨by first | rfl | (simp [errW_none, errW_some] <;> rfl) | (simp [*, errW_none, errW_some] <;> rfl), by repeat (first | (with_reducible first | exact HB.out | apply qb0 | apply qa0 | apply qc0 | refine qh0 ?_ GE235.out) | exact HB.out)⟩

end Go.Proofs.YtdnenglafphkbaaDoor.PFnMonthsOn
