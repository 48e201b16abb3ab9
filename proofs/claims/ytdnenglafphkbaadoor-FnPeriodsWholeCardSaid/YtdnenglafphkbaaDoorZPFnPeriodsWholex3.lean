/- Lines by a program (a changed copy of the kit's print: this repo's wip/tools): Go functions as Lean functions, and proofs that the calls answer so. -/
import Derived.Test.YtdnenglafphkbaaDoorZPFnPeriodsWholex0
import Derived.Test.YtdnenglafphkbaaDoorZPFnPeriodsWholex2
namespace Go.Proofs.YtdnenglafphkbaaDoor.PFnPeriodsWhole
open Go.RowKit Go.Proofs.YtdnenglafphkbaaDoorW.PrintWords Go.Proofs.YtdnenglafphkbaaDoorW.PrintLast Go.Proofs.YtdnenglafphkbaaDoorW.PrintMore
/-- Runs of true and false, by turns. -/
def rb3l : Bool → List Nat → List Bool
 | _, [] => []
 | b, n :: r => List.replicate n b ++ rb3l (!b) r
def rb3 (l : List Nat) : Array Bool := (rb3l true l).toArray
attribute [local go_sem] max2_int min2_int max_two min_two max_three min_three max_four min_four   -- for this text's walks alone
set_option linter.unusedVariables false
set_option linter.unusedSimpArgs false

/-! ### spec_MonthEnd: function 23 -/
def spec_MonthEnd.f (k : Nat) (a0 : Int) : Option (Int) := (spec_l2Day.f a0).bind fun t115 => (if t115 = true then ((spec_DateOf.f k a0).bind fun bt116 => ((spec_l2Long.f bt116.1 bt116.2.1).bind fun t120 => ((spec_DayOf.f k bt116.1 bt116.2.1 t120).bind fun t121 => (some t121)))) else (some (-1)))
theorem spec_MonthEnd.mono : ∀ a0 k, LeO (spec_MonthEnd.f k a0) (spec_MonthEnd.f (k + 1) a0) := by
 intro a0 k
 unfold spec_MonthEnd.f
 repeat' first
   | (with_reducible exact spec_DateOf.mono _ _)
   | (with_reducible exact spec_DayOf.mono _ _ _ _)
   | (with_reducible exact LeO.refl _)
   | (with_reducible exact LeO.none _)
   | (with_reducible refine LeO.ite ?_ ?_)
   | (with_reducible refine LeO.bind ?_ (fun _ => ?_))
   | exact spec_DateOf.mono _ _
   | exact spec_DayOf.mono _ _ _ _
   | exact LeO.none _
   | refine LeO.ite ?_ ?_
   | refine LeO.bind ?_ (fun _ => ?_)
def spec_MonthEnd.T4 : Bool × List (List Nat × List Nat) := (true, [([], []), ([0], [0]), ([], []), ([2], [2]), ([], []), ([4], [4]), ([], []), ([6], [6]), ([5, 7], [5, 7]), ([1, 3, 8], [1, 3, 8]), ([9, 8], [9]), ([10, 10, 0, 1, 2, 3, 4, 5, 6, 7, 8, 9, 10], [10])])
def spec_MonthEnd.B4 : List Nat := [0, 1, 0, 4, 0, 16, 0, 64, 240, 511, 1023, 2047]
theorem spec_MonthEnd.tab4 : rtab .any (opsOf Tryd.f23 4) = spec_MonthEnd.T4 := by kernel_rfl
theorem spec_MonthEnd.bits4 : waitsOk spec_MonthEnd.T4.2 spec_MonthEnd.B4 = true := by kernel_rfl
set_option maxHeartbeats 8000000 in
set_option maxRecDepth 100000 in
theorem spec_MonthEnd.calls (k : Nat) (a0 : Int) (r : Int) (w : World) (h : spec_MonthEnd.f k a0 = some r) :
  Calls Tryd.prog 23 #[.int .i64 a0] w fun e w' => e = .returned (.int .i64 r) ∧ Below w.heap.size w w' := by
 have hu28 := Tryd.underlying28
 have HB := Aside0.mk (Below.refl w.heap.size w)
 have H : ((spec_l2Day.f a0).bind fun t115 => (if t115 = true then ((spec_DateOf.f k a0).bind fun bt116 => ((spec_l2Long.f bt116.1 bt116.2.1).bind fun t120 => ((spec_DayOf.f k bt116.1 bt116.2.1 t120).bind fun t121 => (some t121)))) else (some (-1)))) = some r := h
 clear h
 replace H := Option.bind_eq_some_iff.mp H
 obtain ⟨t115, A20, H⟩ := H
 replace H : (if t115 = true then ((spec_DateOf.f k a0).bind fun bt116 => ((spec_l2Long.f bt116.1 bt116.2.1).bind fun t120 => ((spec_DayOf.f k bt116.1 bt116.2.1 t120).bind fun t121 => (some t121)))) else (some (-1))) = some r := H
 have A2 := Aside0.mk A20
 clear A20
 by_cases c3 : t115 = true
 ·subst c3
  have H1 : ((spec_DateOf.f k a0).bind fun bt116 => ((spec_l2Long.f bt116.1 bt116.2.1).bind fun t120 => ((spec_DayOf.f k bt116.1 bt116.2.1 t120).bind fun t121 => (some t121)))) = some r := by rw [if_pos rfl] at H; exact H
  clear H
  have H := H1
  clear H1
  replace H := Option.bind_eq_some_iff.mp H
  obtain ⟨⟨t116, t117, t118⟩, A40, H⟩ := H
  replace H : ((spec_l2Long.f t116 t117).bind fun t120 => ((spec_DayOf.f k t116 t117 t120).bind fun t121 => (some t121))) = some r := H
  have A4 := Aside0.mk A40
  clear A40
  replace H := Option.bind_eq_some_iff.mp H
  obtain ⟨t120, A50, H⟩ := H
  replace H : ((spec_DayOf.f k t116 t117 t120).bind fun t121 => (some t121)) = some r := H
  have A5 := Aside0.mk A50
  clear A50
  replace H := Option.bind_eq_some_iff.mp H
  obtain ⟨t121, A60, H⟩ := H
  replace H : (some t121) = some r := H
  have A6 := Aside0.mk A60
  clear A60
  obtain rfl := Option.some.inj H
  go_enter Tryd.func23, Tryd.ntmps23
  try go_wp2_with (first | ((with_reducible refine qi0 (f := 29) rfl ?_); refine qq0 (some 5) rfl rfl Tryd.func29 (by kernel_rfl) rfl #[.int .i64 a0] rfl (by (try simp only [List.map_toArray, List.map_cons, List.map_nil]); first | done | rfl | (simp only [List.length_drop, List.length_take]; rfl)) ?_; (with_reducible refine (spec_l2Day.calls a0 true _ A2.out).mono ?_); rintro e w' ⟨rfl, ⟨nd, rfl⟩⟩; refine ⟨_, rfl, ?_⟩) | ((with_reducible refine qi0 (f := 31) rfl ?_); refine qq0 (some 8) rfl rfl Tryd.func31 (by kernel_rfl) rfl #[.int .i64 a0] rfl (by (try simp only [List.map_toArray, List.map_cons, List.map_nil]); first | done | rfl | (simp only [List.length_drop, List.length_take]; rfl)) ?_; (with_reducible refine (spec_DateOf.calls k a0 t116 t117 t118 _ A4.out).mono ?_); rintro e w7 ⟨rfl, hb⟩; refine ⟨_, rfl, ?_⟩; have n0_ := Aside0.mk (qk0 (by repeat (first | (with_reducible first | exact HB.out | apply qb0 | apply qa0 | apply qc0) | exact HB.out)) hb); clear HB; have HB := n0_; clear n0_; (try clear hb); (try clear hb2); (try clear hk); (try clear hi)) | ((with_reducible refine qv0 (N := 3) rfl ?_); refine qy0 ?hg (N := 3) ?hd (cs := #[.int .i64 0, .int .i64 0, .int .i64 0]) (t := 28) ?hr ?_; (case hd => rfl); (case hg => rfl); (case hr => first | (go_simp; done) | (go_simp; rfl)); intro gb119 hg w8 hbox hb; have n0_ := Aside0.mk (qk0 (by repeat (first | (with_reducible first | exact HB.out | apply qb0 | apply qa0 | apply qc0) | exact HB.out)) hb); have n1_ := Aside0.mk (hbox); have n2_ := Aside0.mk ((by rw [hg]; exact (ql0 (by repeat (first | (with_reducible first | exact HB.out | apply qb0 | apply qa0 | apply qc0) | exact HB.out))) : w.heap.size ≤ gb119)); have n3_ := Aside0.mk ((by rw [hg]; exact (ql0 (by repeat (first | (with_reducible first | exact HB.out | apply qb0 | apply qa0 | apply qc0) | exact HB.out))) : w.heap.size ≤ gb119)); clear HB; have HB := n0_; have BK119 := n1_; have GW119 := n2_; have GE119 := n3_; clear n0_ n1_ n2_ n3_; clear hb hbox hg; have hcz9_0 : w8.cell? ⟨gb119, 0, none⟩ = some (.int .i64 0) := (qe0 BK119.out 0).trans rfl; have hcz9_1 : w8.cell? ⟨gb119, 1, none⟩ = some (.int .i64 0) := (qe0 BK119.out 1).trans rfl; have hcz9_2 : w8.cell? ⟨gb119, 2, none⟩ = some (.int .i64 0) := (qe0 BK119.out 2).trans rfl; have hfz9_0 := qd0 BK119.out 0; have hfz9_1 := qd0 BK119.out 1; have hfz9_2 := qd0 BK119.out 2))
  have n0_ : Aside0 ((((w8.setCell ⟨gb119, 0, none⟩ (.int .i64 t116)).setCell ⟨gb119, 1, none⟩ (.int .i64 t117)).setCell ⟨gb119, 2, none⟩ (.int .i64 t118)).heap[gb119]? = some (.cells #[.int .i64 t116, .int .i64 t117, .int .i64 t118] 28 (0, 0))) := ⟨by (with_reducible repeat (first | refine qg0 ?_ _ | refine qj0 ?_ | refine qh0 ?_ _)); refine qx0 (cs := #[.int .i64 t116, .int .i64 t117, .int .i64 0]) ?_ 2 _ rfl; (with_reducible repeat (first | refine qg0 ?_ _ | refine qj0 ?_ | refine qh0 ?_ _)); refine qx0 (cs := #[.int .i64 t116, .int .i64 0, .int .i64 0]) ?_ 1 _ rfl; (with_reducible repeat (first | refine qg0 ?_ _ | refine qj0 ?_ | refine qh0 ?_ _)); refine qx0 (cs := #[.int .i64 0, .int .i64 0, .int .i64 0]) ?_ 0 _ rfl; (with_reducible repeat (first | refine qg0 ?_ _ | refine qj0 ?_ | refine qh0 ?_ _)); exact BK119.out⟩
  have n1_ : Aside0 (Below w.heap.size w (((w8.setCell ⟨gb119, 0, none⟩ (.int .i64 t116)).setCell ⟨gb119, 1, none⟩ (.int .i64 t117)).setCell ⟨gb119, 2, none⟩ (.int .i64 t118))) := ⟨by repeat (first | (with_reducible first | exact HB.out | apply qb0 | apply qa0 | apply qc0 | refine qf0 ?_ GE119.out) | exact HB.out)⟩
  (try clear BK119)
  (try clear HB)
  generalize (((w8.setCell ⟨gb119, 0, none⟩ (.int .i64 t116)).setCell ⟨gb119, 1, none⟩ (.int .i64 t117)).setCell ⟨gb119, 2, none⟩ (.int .i64 t118)) = w10 at n0_ n1_ ⊢
  have BK119 := n0_
  have HB := n1_
  clear n0_ n1_
  have n0_ := Aside0.mk (qj0 BK119.out)
  have n1_ := Aside0.mk (qc0 HB.out)
  clear BK119
  clear HB
  have BK119 := n0_
  have HB := n1_
  clear n0_ n1_
  refine start_ (n := 12) (S := fun w' => w'.cell? ⟨gb119, 0, none⟩ = some (.int .i64 t116) ∧ w'.cell? ⟨gb119, 1, none⟩ = some (.int .i64 t117) ∧ w'.cell? ⟨gb119, 2, none⟩ = some (.int .i64 t118)) (ds := []) (rb3 [0, 12]) (by kernel_rfl) rfl rfl ⟨(qe0 BK119.out 0).trans rfl, (qe0 BK119.out 1).trans rfl, (qe0 BK119.out 2).trans rfl⟩ (fun hHeld => ?_); refine with_tabW spec_MonthEnd.tab4 spec_MonthEnd.bits4 (fun HT_ HW_ => ?_)
  generalize w10.drew = w11 at BK119 HB hHeld ⊢
  refine pure_ (i := 0) (N := some 9) (v := ?_) (a' := ?_) (rb3 [1, 11]) rfl rfl (any_of HT_.out (by kernel_rfl)) (fun _ _ _ h => h) (Or.inl ⟨by rfl, ?_⟩) ?_ ?_
  rotate_left
  ·intro w'
   go_simp
   with_reducible rfl
  rotate_left
  ·simp only [Act.put, List.setIfInBounds_toArray, List.set_cons_zero, List.set_cons_succ, i64_w, i32_w]
   rfl
  refine pure_ (i := 2) (N := some 11) (v := ?_) (a' := ?_) (rb3 [1, 1, 1, 9]) rfl rfl (any_of HT_.out (by kernel_rfl)) (fun _ _ _ h => h) (Or.inl ⟨by rfl, ?_⟩) ?_ ?_
  rotate_left
  ·intro w'
   go_simp
   with_reducible rfl
  rotate_left
  ·simp only [Act.put, List.setIfInBounds_toArray, List.set_cons_zero, List.set_cons_succ, i64_w, i32_w]
   rfl
  refine pure_ (i := 4) (N := some 13) (v := ?_) (a' := ?_) (rb3 [1, 1, 1, 1, 1, 7]) rfl rfl (any_of HT_.out (by kernel_rfl)) (fun _ _ _ h => h) (Or.inl ⟨by rfl, ?_⟩) ?_ ?_
  rotate_left
  ·intro w'
   go_simp
   with_reducible rfl
  rotate_left
  ·simp only [Act.put, List.setIfInBounds_toArray, List.set_cons_zero, List.set_cons_succ, i64_w, i32_w]
   rfl
  refine pure_ (i := 6) (N := some 15) (v := ?_) (a' := ?_) (rb3 [1, 1, 1, 1, 1, 1, 1, 5]) rfl rfl (any_of HT_.out (by kernel_rfl)) (fun _ _ _ h => h) (Or.inl ⟨by rfl, ?_⟩) ?_ ?_
  rotate_left
  ·intro w'
   go_simp
   with_reducible rfl
  rotate_left
  ·simp only [Act.put, List.setIfInBounds_toArray, List.set_cons_zero, List.set_cons_succ, i64_w, i32_w]
   rfl
  refine take_ (i := 1) (N := some 10) (v := ?_) (a' := ?_) (rb3 [3, 1, 1, 1, 1, 5]) rfl rfl (take_ofW HT_.out HW_.out (by kernel_rfl)) (fun _ _ _ h => h) (Or.inl ⟨by rfl, ?_⟩) hHeld ?_ ?_
  rotate_left
  ·rintro w' ⟨s0, s1, s2⟩
   go_simp
   with_reducible rfl
  rotate_left
  ·simp only [Act.put, List.setIfInBounds_toArray, List.set_cons_zero, List.set_cons_succ, i64_w, i32_w]
   rfl
  refine take_ (i := 3) (N := some 12) (v := ?_) (a' := ?_) (rb3 [5, 1, 1, 5]) rfl rfl (take_ofW HT_.out HW_.out (by kernel_rfl)) (fun _ _ _ h => h) (Or.inl ⟨by rfl, ?_⟩) hHeld ?_ ?_
  rotate_left
  ·rintro w' ⟨s0, s1, s2⟩
   go_simp
   with_reducible rfl
  rotate_left
  ·simp only [Act.put, List.setIfInBounds_toArray, List.set_cons_zero, List.set_cons_succ, i64_w, i32_w]
   rfl
  refine take_ (i := 5) (N := some 14) (v := ?_) (a' := ?_) (rb3 [7, 5]) rfl rfl (take_ofW HT_.out HW_.out (by kernel_rfl)) (fun _ _ _ h => h) (Or.inl ⟨by rfl, ?_⟩) hHeld ?_ ?_
  rotate_left
  ·rintro w' ⟨s0, s1, s2⟩
   go_simp
   with_reducible rfl
  rotate_left
  ·simp only [Act.put, List.setIfInBounds_toArray, List.set_cons_zero, List.set_cons_succ, i64_w, i32_w]
   rfl
  refine take_ (i := 7) (N := some 16) (v := ?_) (a' := ?_) (rb3 [8, 4]) rfl rfl (take_ofW HT_.out HW_.out (by kernel_rfl)) (fun _ _ _ h => h) (Or.inl ⟨by rfl, ?_⟩) hHeld ?_ ?_
  rotate_left
  ·rintro w' ⟨s0, s1, s2⟩
   go_simp
   with_reducible rfl
  rotate_left
  ·simp only [Act.put, List.setIfInBounds_toArray, List.set_cons_zero, List.set_cons_succ, i64_w, i32_w]
   rfl
  refine one_ (i := 8) (N := some 17) (rb3 [9, 3]) rfl rfl (one_of HT_.out (by kernel_rfl)) (by decide) (fun K hK => ?_)
  refine goes_ Tryd.func32 (by kernel_rfl) rfl #[.int .i64 t116, .int .i64 t117] (by rfl) rfl rfl (by (try simp only [List.map_toArray, List.map_cons, List.map_nil]); first | done | rfl | (simp only [List.length_drop, List.length_take]; rfl)) ?_
  with_reducible refine (spec_l2Long.calls t116 t117 t120 _ A5.out).mono ?_
  rintro e w' ⟨rfl, ⟨nd, rfl⟩⟩
  refine ⟨_, rfl, ?_⟩
  refine hK.out _ _ ⟨(qe0 BK119.out 0).trans rfl, (qe0 BK119.out 1).trans rfl, (qe0 BK119.out 2).trans rfl⟩ (fun hHeld => ?_)
  clear hK K
  refine norm_ (a' := ?_) ?_ ?_
  rotate_left
  ·show Act.put _ (some 17) _ = _
   simp only [Act.put, List.setIfInBounds_toArray, List.set_cons_zero, List.set_cons_succ, i64_w, i32_w]
   rfl
  refine pure_ (i := 9) (N := some 18) (v := ?_) (a' := ?_) (rb3 [10, 2]) rfl rfl (any_of HT_.out (by kernel_rfl)) (fun _ _ _ h => h) (Or.inl ⟨by rfl, ?_⟩) ?_ ?_
  rotate_left
  ·intro w'
   go_simp
   with_reducible rfl
  rotate_left
  ·simp only [Act.put, List.setIfInBounds_toArray, List.set_cons_zero, List.set_cons_succ, i64_w, i32_w]
   rfl
  refine one_ (i := 10) (N := some 19) (rb3 [11, 1]) rfl rfl (one_of HT_.out (by kernel_rfl)) (by decide) (fun K hK => ?_)
  refine goes_ Tryd.func33 (by kernel_rfl) rfl #[.agg #[.int .i64 t116, .int .i64 t117, .int .i64 t120]] (by rfl) rfl rfl (by (try simp only [List.map_toArray, List.map_cons, List.map_nil]); first | done | rfl | (simp only [List.length_drop, List.length_take]; rfl)) ?_
  with_reducible refine (spec_DayOf.calls k t116 t117 t120 t121 _ A6.out).mono ?_
  rintro e w12 ⟨rfl, hb⟩
  refine ⟨_, rfl, ?_⟩
  have n0_ := Aside0.mk (blk_below (g := gb119) (o := .cells #[.int .i64 t116, .int .i64 t117, .int .i64 t118] 28 (0, 0)) (by (with_reducible repeat (first | refine qg0 ?_ _ | refine qj0 ?_ | refine qh0 ?_ _)); exact BK119.out) hb)
  have n1_ := Aside0.mk (qk0 (by repeat (first | (with_reducible first | exact HB.out | apply qb0 | apply qa0 | apply qc0 | refine qf0 ?_ GE119.out) | exact HB.out)) hb)
  clear BK119
  clear HB
  have BK119 := n0_
  have HB := n1_
  clear n0_ n1_
  (try clear hb)
  (try clear hb2)
  (try clear hk)
  (try clear hi)
  refine hK.out _ _ ⟨(qe0 BK119.out 0).trans rfl, (qe0 BK119.out 1).trans rfl, (qe0 BK119.out 2).trans rfl⟩ (fun hHeld => ?_)
  clear hK K
  refine norm_ (a' := ?_) ?_ ?_
  rotate_left
  ·show Act.put _ (some 19) _ = _
   simp only [Act.put, List.setIfInBounds_toArray, List.set_cons_zero, List.set_cons_succ, i64_w, i32_w]
   rfl
  refine pure_ (i := 11) (N := some 2) (v := ?_) (a' := ?_) (rb3 [12]) rfl rfl (any_of HT_.out (by kernel_rfl)) (fun _ _ _ h => h) (Or.inl ⟨by rfl, ?_⟩) ?_ ?_
  rotate_left
  ·intro w'
   go_simp
   with_reducible rfl
  rotate_left
  ·simp only [Act.put, List.setIfInBounds_toArray, List.set_cons_zero, List.set_cons_succ, i64_w, i32_w]
   rfl
  refine done_ (done_of HT_.out (by kernel_rfl)) ?_
  try go_wp2
  go_ret
  exact ⟨by first | rfl | (simp [errW_none, errW_some] <;> rfl) | (simp [*, errW_none, errW_some] <;> rfl), by repeat (first | (with_reducible first | exact HB.out | apply qb0 | apply qa0 | apply qc0 | refine qf0 ?_ GE119.out) | exact HB.out)⟩
 replace c3 := Bool.eq_false_iff.mpr c3
 subst c3
 have H1 : (some (-1)) = some r := by rw [if_neg (show ¬ (false = true) by decide)] at H; exact H
 clear H
 have H := H1
 clear H1
 obtain rfl := Option.some.inj H
 go_enter Tryd.func23, Tryd.ntmps23
 go_wp2_with (first | ((with_reducible refine qi0 (f := 29) rfl ?_); refine qq0 (some 5) rfl rfl Tryd.func29 (by kernel_rfl) rfl #[.int .i64 a0] rfl (by (try simp only [List.map_toArray, List.map_cons, List.map_nil]); first | done | rfl | (simp only [List.length_drop, List.length_take]; rfl)) ?_; (with_reducible refine (spec_l2Day.calls a0 false _ A2.out).mono ?_); rintro e w' ⟨rfl, ⟨nd, rfl⟩⟩; refine ⟨_, rfl, ?_⟩))
 go_ret
 exact ⟨by first | rfl | (simp [errW_none, errW_some] <;> rfl) | (simp [*, errW_none, errW_some] <;> rfl), by repeat (first | (with_reducible first | exact HB.out | apply qb0 | apply qa0 | apply qc0) | exact HB.out)⟩

/-! ### spec_Periods: function 12 -/
mutual
def spec_Periods.j0 : Nat → Int → Int → Int → List (S39) → Bool → Option ((List (S39)))
 | 0, _, _, _, _, _ => none
 | k + 1, x0, x1, x2, x7, x33 => if x33 = true then (some x7) else (spec_Periods.l0 k x0 x1 x2 x7 0)
def spec_Periods.l0 : Nat → Int → Int → Int → List (S39) → Int → Option ((List (S39)))
 | 0, _, _, _, _, _ => none
 | k + 1, x0, x1, x2, x7, x8 => if x8 < x2 then (if x0 = 2 then (spec_Periods.j2 k x0 x1 x2 x7 x8 (wrap64 (x1 + 27)) ((Int.tmod x8 3) == 2)) else (spec_Periods.j2 k x0 x1 x2 x7 x8 (wrap64 (x1 + 27)) false)) else (some x7)
def spec_Periods.j2 : Nat → Int → Int → Int → List (S39) → Int → Int → Bool → Option ((List (S39)))
 | 0, _, _, _, _, _, _, _ => none
 | k + 1, x0, x1, x2, x7, x8, x9, x48 => if x48 = true then (spec_Periods.j3 k x0 x1 x2 x7 x8 (wrap64 (x1 + 34))) else (spec_Periods.j3 k x0 x1 x2 x7 x8 x9)
def spec_Periods.j3 : Nat → Int → Int → Int → List (S39) → Int → Int → Option ((List (S39)))
 | 0, _, _, _, _, _, _ => none
 | k + 1, x0, x1, x2, x7, x8, x9 => if x0 = 1 then ((spec_l2Day.f x1).bind fun t131 => (if t131 = true then ((spec_MonthEnd.f k x1).bind fun t135 => ((spec_l2Day.f t135).bind fun t136 => (if t136 = true then (if x7.length < 8796093022208 then (spec_Periods.l0 k x0 (wrap64 (t135 + 1)) x2 (x7 ++ [(⟨x1, t135⟩ : S39)]) (wrap64 (x8 + 1))) else (none)) else (some (([] : List (S39))))))) else (some (([] : List (S39)))))) else ((spec_l2Day.f x9).bind fun t143 => (if t143 = true then (if x7.length < 8796093022208 then (spec_Periods.l0 k x0 (wrap64 (x9 + 1)) x2 (x7 ++ [(⟨x1, x9⟩ : S39)]) (wrap64 (x8 + 1))) else (none)) else (some (([] : List (S39))))))
end
def spec_Periods.f (k : Nat) (a0 : Int) (a1 : Int) (a2 : Int) : Option ((List (S39))) := (some (([] : List (S39)) : List (S39))).bind fun y122 => ((spec_l1In.f a0 1 3).bind fun t125 => (if t125 = true then ((spec_l1In.f a2 1 60).bind fun t126 => (if t126 = true then ((spec_l2Day.f a1).bind fun t127 => (if t127 = true then (if a0 = 1 then ((spec_DateOf.f k a1).bind fun bt128 => (spec_Periods.j0 k a0 a1 a2 y122 (bt128.2.2 != 1))) else (spec_Periods.j0 k a0 a1 a2 y122 false)) else (spec_Periods.j0 k a0 a1 a2 y122 true))) else (spec_Periods.j0 k a0 a1 a2 y122 true))) else (spec_Periods.j0 k a0 a1 a2 y122 true)))
theorem spec_Periods.mono_l : ∀ k, (∀ y0 y1 y2 y3 y4, LeO (spec_Periods.j0 k y0 y1 y2 y3 y4) (spec_Periods.j0 (k + 1) y0 y1 y2 y3 y4)) ∧ (∀ y0 y1 y2 y3 y4, LeO (spec_Periods.l0 k y0 y1 y2 y3 y4) (spec_Periods.l0 (k + 1) y0 y1 y2 y3 y4)) ∧ (∀ y0 y1 y2 y3 y4 y5 y6, LeO (spec_Periods.j2 k y0 y1 y2 y3 y4 y5 y6) (spec_Periods.j2 (k + 1) y0 y1 y2 y3 y4 y5 y6)) ∧ (∀ y0 y1 y2 y3 y4 y5, LeO (spec_Periods.j3 k y0 y1 y2 y3 y4 y5) (spec_Periods.j3 (k + 1) y0 y1 y2 y3 y4 y5))
 | 0 => ⟨fun _ _ _ _ _ r h => by simp [spec_Periods.j0] at h, fun _ _ _ _ _ r h => by simp [spec_Periods.l0] at h, fun _ _ _ _ _ _ _ r h => by simp [spec_Periods.j2] at h, fun _ _ _ _ _ _ r h => by simp [spec_Periods.j3] at h⟩
 | k + 1 => by
  obtain ⟨ih0, ih1, ih2, ih3⟩ := spec_Periods.mono_l k
  refine ⟨?_, ?_, ?_, ?_⟩
  ·intro y0 y1 y2 y3 y4
   unfold spec_Periods.j0
   repeat' first
   | (with_reducible exact ih0 _ _ _ _ _)
   | (with_reducible exact ih1 _ _ _ _ _)
   | (with_reducible exact ih2 _ _ _ _ _ _ _)
   | (with_reducible exact ih3 _ _ _ _ _ _)
   | (with_reducible exact spec_DateOf.mono _ _)
   | (with_reducible exact spec_MonthEnd.mono _ _)
   | (with_reducible exact LeO.refl _)
   | (with_reducible exact LeO.none _)
   | (with_reducible refine LeO.ite ?_ ?_)
   | (with_reducible refine LeO.bind ?_ (fun _ => ?_))
   | exact ih0 _ _ _ _ _
   | exact ih1 _ _ _ _ _
   | exact ih2 _ _ _ _ _ _ _
   | exact ih3 _ _ _ _ _ _
   | exact spec_DateOf.mono _ _
   | exact spec_MonthEnd.mono _ _
   | exact LeO.none _
   | refine LeO.ite ?_ ?_
   | refine LeO.bind ?_ (fun _ => ?_)
  ·intro y0 y1 y2 y3 y4
   unfold spec_Periods.l0
   repeat' first
   | (with_reducible exact ih0 _ _ _ _ _)
   | (with_reducible exact ih1 _ _ _ _ _)
   | (with_reducible exact ih2 _ _ _ _ _ _ _)
   | (with_reducible exact ih3 _ _ _ _ _ _)
   | (with_reducible exact spec_DateOf.mono _ _)
   | (with_reducible exact spec_MonthEnd.mono _ _)
   | (with_reducible exact LeO.refl _)
   | (with_reducible exact LeO.none _)
   | (with_reducible refine LeO.ite ?_ ?_)
   | (with_reducible refine LeO.bind ?_ (fun _ => ?_))
   | exact ih0 _ _ _ _ _
   | exact ih1 _ _ _ _ _
   | exact ih2 _ _ _ _ _ _ _
   | exact ih3 _ _ _ _ _ _
   | exact spec_DateOf.mono _ _
   | exact spec_MonthEnd.mono _ _
   | exact LeO.none _
   | refine LeO.ite ?_ ?_
   | refine LeO.bind ?_ (fun _ => ?_)
  ·intro y0 y1 y2 y3 y4 y5 y6
   unfold spec_Periods.j2
   repeat' first
   | (with_reducible exact ih0 _ _ _ _ _)
   | (with_reducible exact ih1 _ _ _ _ _)
   | (with_reducible exact ih2 _ _ _ _ _ _ _)
   | (with_reducible exact ih3 _ _ _ _ _ _)
   | (with_reducible exact spec_DateOf.mono _ _)
   | (with_reducible exact spec_MonthEnd.mono _ _)
   | (with_reducible exact LeO.refl _)
   | (with_reducible exact LeO.none _)
   | (with_reducible refine LeO.ite ?_ ?_)
   | (with_reducible refine LeO.bind ?_ (fun _ => ?_))
   | exact ih0 _ _ _ _ _
   | exact ih1 _ _ _ _ _
   | exact ih2 _ _ _ _ _ _ _
   | exact ih3 _ _ _ _ _ _
   | exact spec_DateOf.mono _ _
   | exact spec_MonthEnd.mono _ _
   | exact LeO.none _
   | refine LeO.ite ?_ ?_
   | refine LeO.bind ?_ (fun _ => ?_)
  ·intro y0 y1 y2 y3 y4 y5
   unfold spec_Periods.j3
   repeat' first
   | (with_reducible exact ih0 _ _ _ _ _)
   | (with_reducible exact ih1 _ _ _ _ _)
   | (with_reducible exact ih2 _ _ _ _ _ _ _)
   | (with_reducible exact ih3 _ _ _ _ _ _)
   | (with_reducible exact spec_DateOf.mono _ _)
   | (with_reducible exact spec_MonthEnd.mono _ _)
   | (with_reducible exact LeO.refl _)
   | (with_reducible exact LeO.none _)
   | (with_reducible refine LeO.ite ?_ ?_)
   | (with_reducible refine LeO.bind ?_ (fun _ => ?_))
   | exact ih0 _ _ _ _ _
   | exact ih1 _ _ _ _ _
   | exact ih2 _ _ _ _ _ _ _
   | exact ih3 _ _ _ _ _ _
   | exact spec_DateOf.mono _ _
   | exact spec_MonthEnd.mono _ _
   | exact LeO.none _
   | refine LeO.ite ?_ ?_
   | refine LeO.bind ?_ (fun _ => ?_)
theorem spec_Periods.mono : ∀ a0 a1 a2 k, LeO (spec_Periods.f k a0 a1 a2) (spec_Periods.f (k + 1) a0 a1 a2) := by
 intro a0 a1 a2 k
 obtain ⟨ih0, ih1, ih2, ih3⟩ := spec_Periods.mono_l k
 unfold spec_Periods.f
 repeat' first
   | (with_reducible exact ih0 _ _ _ _ _)
   | (with_reducible exact ih1 _ _ _ _ _)
   | (with_reducible exact ih2 _ _ _ _ _ _ _)
   | (with_reducible exact ih3 _ _ _ _ _ _)
   | (with_reducible exact spec_DateOf.mono _ _)
   | (with_reducible exact spec_MonthEnd.mono _ _)
   | (with_reducible exact LeO.refl _)
   | (with_reducible exact LeO.none _)
   | (with_reducible refine LeO.ite ?_ ?_)
   | (with_reducible refine LeO.bind ?_ (fun _ => ?_))
   | exact ih0 _ _ _ _ _
   | exact ih1 _ _ _ _ _
   | exact ih2 _ _ _ _ _ _ _
   | exact ih3 _ _ _ _ _ _
   | exact spec_DateOf.mono _ _
   | exact spec_MonthEnd.mono _ _
   | exact LeO.none _
   | refine LeO.ite ?_ ?_
   | refine LeO.bind ?_ (fun _ => ?_)
set_option maxHeartbeats 8000000 in
set_option maxRecDepth 100000 in
theorem spec_Periods.calls (k : Nat) (a0 : Int) (a1 : Int) (a2 : Int) (r : List (S39)) (w : World) (h : spec_Periods.f k a0 a1 a2 = some r) :
  Calls Tryd.prog 12 #[.int .i64 a0, .int .i64 a1, .int .i64 a2] w fun e w' => ∃ v0_ : Value, e = .returned (v0_) ∧ Kd.R k39 39 w' w.heap.size (fun _ => True) v0_ r ∧ Below w.heap.size w w' := by
 have hu39 := Tryd.underlying39
 have hu28 := Tryd.underlying28
 have HB := Aside0.mk (Below.refl w.heap.size w)
 have H : ((some (([] : List (S39)) : List (S39))).bind fun y122 => ((spec_l1In.f a0 1 3).bind fun t125 => (if t125 = true then ((spec_l1In.f a2 1 60).bind fun t126 => (if t126 = true then ((spec_l2Day.f a1).bind fun t127 => (if t127 = true then (if a0 = 1 then ((spec_DateOf.f k a1).bind fun bt128 => (spec_Periods.j0 k a0 a1 a2 y122 (bt128.2.2 != 1))) else (spec_Periods.j0 k a0 a1 a2 y122 false)) else (spec_Periods.j0 k a0 a1 a2 y122 true))) else (spec_Periods.j0 k a0 a1 a2 y122 true))) else (spec_Periods.j0 k a0 a1 a2 y122 true)))) = some r := h
 clear h
 obtain ⟨y122, hy122⟩ : ∃ y_ : List (S39), y_ = (([] : List (S39))) := ⟨_, rfl⟩
 replace H : ((spec_l1In.f a0 1 3).bind fun t125 => (if t125 = true then ((spec_l1In.f a2 1 60).bind fun t126 => (if t126 = true then ((spec_l2Day.f a1).bind fun t127 => (if t127 = true then (if a0 = 1 then ((spec_DateOf.f k a1).bind fun bt128 => (spec_Periods.j0 k a0 a1 a2 y122 (bt128.2.2 != 1))) else (spec_Periods.j0 k a0 a1 a2 y122 false)) else (spec_Periods.j0 k a0 a1 a2 y122 true))) else (spec_Periods.j0 k a0 a1 a2 y122 true))) else (spec_Periods.j0 k a0 a1 a2 y122 true))) = some r := by first | (rw [hy122]; with_reducible exact H) | (have H2_ := (Option.bind_some _ _).symm.trans H; rw [hy122]; with_reducible exact H2_) | (have H2_ := (Option.bind_some _ _).symm.trans H; with_reducible exact H2_) | with_reducible exact H | (rw [hy122]; exact H) | exact H
 have Ny122 := Aside0.mk hy122
 clear hy122
 have HC4 := Aside0.mk H
 clear H
 go_enter Tryd.func12, Tryd.ntmps12
 go_upto_region 2 with (first | ((with_reducible refine qv0 (N := 10) rfl ?_); refine Kd.R_lit k39 _ 39 ?hg (N := 10) ?hd (xs := ([] : List (S39))) (inner := []) (ok := fun _ => True) (okp := fun _ => True) ?hr ?hp (fun _ hk => hk) trivial (Below.refl _ _) (Nat.le_refl _) (by simp) ?_; (case hd => rfl); (case hg => rfl); (case hr => first | (go_simp; done) | (go_simp; rfl)); (case hp => exact (Reps.none _ _)); intro v123 w5 ho6 hb hg_ hnew_; clear hg_ hnew_; (first | rw [← Ny122.out] at ho6 | (simp only [Int.reduceToNat] at ho6; rw [← Ny122.out] at ho6)); have n0_ := Aside0.mk (Kd.qg1 ho6 (ql0 (by repeat (first | (with_reducible first | exact HB.out | apply qb0 | apply qa0 | apply qc0) | exact HB.out)))); have n1_ := Aside0.mk (qk0 (by repeat (first | (with_reducible first | exact HB.out | apply qb0 | apply qa0 | apply qc0) | exact HB.out)) hb); clear HB; have HO124 := n0_; have HB := n1_; clear n0_ n1_; clear hb ho6))
 (try simp only [Act.put, List.setIfInBounds_toArray, List.set_cons_zero, List.set_cons_succ])
 go_cut [33] (fun v33 wc => ∃ (kq : Nat) (x33_3 : Bool), v33 = .bool x33_3 ∧ Aside0 (spec_Periods.j0 kq a0 a1 a2 y122 x33_3 = some r) ∧ Aside0 (kq ≤ k) ∧ Aside0 (Kd.R k39 39 wc w.heap.size (fun _ => True) v123 y122) ∧ Aside0 (Below w.heap.size w wc))
 case first =>
  have H := HC4.out
  clear HC4
  replace H := Option.bind_eq_some_iff.mp H
  obtain ⟨t125, A70, H⟩ := H
  replace H : (if t125 = true then ((spec_l1In.f a2 1 60).bind fun t126 => (if t126 = true then ((spec_l2Day.f a1).bind fun t127 => (if t127 = true then (if a0 = 1 then ((spec_DateOf.f k a1).bind fun bt128 => (spec_Periods.j0 k a0 a1 a2 y122 (bt128.2.2 != 1))) else (spec_Periods.j0 k a0 a1 a2 y122 false)) else (spec_Periods.j0 k a0 a1 a2 y122 true))) else (spec_Periods.j0 k a0 a1 a2 y122 true))) else (spec_Periods.j0 k a0 a1 a2 y122 true)) = some r := H
  have A7 := Aside0.mk A70
  clear A70
  by_cases c8 : t125 = true
  ·subst c8
   have H1 : ((spec_l1In.f a2 1 60).bind fun t126 => (if t126 = true then ((spec_l2Day.f a1).bind fun t127 => (if t127 = true then (if a0 = 1 then ((spec_DateOf.f k a1).bind fun bt128 => (spec_Periods.j0 k a0 a1 a2 y122 (bt128.2.2 != 1))) else (spec_Periods.j0 k a0 a1 a2 y122 false)) else (spec_Periods.j0 k a0 a1 a2 y122 true))) else (spec_Periods.j0 k a0 a1 a2 y122 true))) = some r := by rw [if_pos rfl] at H; exact H
   clear H
   have H := H1
   clear H1
   replace H := Option.bind_eq_some_iff.mp H
   obtain ⟨t126, A90, H⟩ := H
   replace H : (if t126 = true then ((spec_l2Day.f a1).bind fun t127 => (if t127 = true then (if a0 = 1 then ((spec_DateOf.f k a1).bind fun bt128 => (spec_Periods.j0 k a0 a1 a2 y122 (bt128.2.2 != 1))) else (spec_Periods.j0 k a0 a1 a2 y122 false)) else (spec_Periods.j0 k a0 a1 a2 y122 true))) else (spec_Periods.j0 k a0 a1 a2 y122 true)) = some r := H
   have A9 := Aside0.mk A90
   clear A90
   by_cases c10 : t126 = true
   ·subst c10
    have H1 : ((spec_l2Day.f a1).bind fun t127 => (if t127 = true then (if a0 = 1 then ((spec_DateOf.f k a1).bind fun bt128 => (spec_Periods.j0 k a0 a1 a2 y122 (bt128.2.2 != 1))) else (spec_Periods.j0 k a0 a1 a2 y122 false)) else (spec_Periods.j0 k a0 a1 a2 y122 true))) = some r := by rw [if_pos rfl] at H; exact H
    clear H
    have H := H1
    clear H1
    replace H := Option.bind_eq_some_iff.mp H
    obtain ⟨t127, A110, H⟩ := H
    replace H : (if t127 = true then (if a0 = 1 then ((spec_DateOf.f k a1).bind fun bt128 => (spec_Periods.j0 k a0 a1 a2 y122 (bt128.2.2 != 1))) else (spec_Periods.j0 k a0 a1 a2 y122 false)) else (spec_Periods.j0 k a0 a1 a2 y122 true)) = some r := H
    have A11 := Aside0.mk A110
    clear A110
    by_cases c12 : t127 = true
    ·subst c12
     have H1 : (if a0 = 1 then ((spec_DateOf.f k a1).bind fun bt128 => (spec_Periods.j0 k a0 a1 a2 y122 (bt128.2.2 != 1))) else (spec_Periods.j0 k a0 a1 a2 y122 false)) = some r := by rw [if_pos rfl] at H; exact H
     clear H
     have H := H1
     clear H1
     by_cases c13 : a0 = 1
     ·rw [if_pos c13] at H
      have c13b0 : (a0 == 1) = true := beq_iff_eq.mpr c13
      have c13b1 : (a0 != 1) = false := bne_eq_false_iff_eq.mpr c13
      clear c13
      (first | rw [c13b0] | (simp only [i64_w, i32_w]; rw [c13b0]) | skip)
      replace H := Option.bind_eq_some_iff.mp H
      obtain ⟨⟨t128, t129, t130⟩, A140, H⟩ := H
      have hfld : ∀ W : World, (Instr.field 28 (.agg #[.int .i64 t128, .int .i64 t129, .int .i64 t130]) 2).run Tryd.prog W = .ok (.int .i64 t130) W := fun W => by first | rfl | kernel_rfl | (go_simp; rfl)
      replace H : (spec_Periods.j0 k a0 a1 a2 y122 (t130 != 1)) = some r := H
      have A14 := Aside0.mk A140
      clear A140
      have H' := Aside0.mk H
      clear H
      go_wp2_with (first | ((with_reducible refine qi0 (f := 30) rfl ?_); refine qq0 (some 12) rfl rfl Tryd.func30 (by kernel_rfl) rfl #[.int .i64 a0, .int .i64 1, .int .i64 3] rfl (by (try simp only [List.map_toArray, List.map_cons, List.map_nil]); first | done | rfl | (simp only [List.length_drop, List.length_take]; rfl)) ?_; (with_reducible refine (spec_l1In.calls a0 1 3 true _ A7.out).mono ?_); rintro e w' ⟨rfl, ⟨nd, rfl⟩⟩; refine ⟨_, rfl, ?_⟩) | (go_at_call 30; (with_reducible refine (spec_l1In.calls a2 1 60 true _ A9.out).mono ?_); rintro e w' ⟨rfl, ⟨nd, rfl⟩⟩) | (go_at_call 29; (with_reducible refine (spec_l2Day.calls a1 true _ A11.out).mono ?_); rintro e w' ⟨rfl, ⟨nd, rfl⟩⟩) | (go_at_call 31; (with_reducible refine (spec_DateOf.calls k a1 t128 t129 t130 _ A14.out).mono ?_); rintro e w15 ⟨rfl, hb⟩; have n0_ := Aside0.mk (Kd.R_below (by (with_reducible repeat (first | apply Kd.qn0 | apply Kd.qm0 | apply Kd.qp0)); exact HO124.out) hb); have n1_ := Aside0.mk (qk0 (by repeat (first | (with_reducible first | exact HB.out | apply qb0 | apply qa0 | apply qc0) | exact HB.out)) hb); clear HO124; clear HB; have HO124 := n0_; have HB := n1_; clear n0_ n1_; (try clear hb); (try clear hb2); (try clear hk); (try clear hi)))
      go_meet
      case rel => exact ⟨_, ((t130 != 1)), (by first | rfl | (simp; done) | (simp [*]; done)), H', ⟨by first | omega | exact Nat.le_refl _⟩, ⟨by (with_reducible repeat (first | apply Kd.qn0 | apply Kd.qm0 | apply Kd.qp0)); exact HO124.out⟩, ⟨by repeat (first | (with_reducible first | exact HB.out | apply qb0 | apply qa0 | apply qc0) | exact HB.out)⟩⟩
     rw [if_neg c13] at H
     have c13b0 : (a0 == 1) = false := beq_eq_false_iff_ne.mpr c13
     have c13b1 : (a0 != 1) = true := bne_iff_ne.mpr c13
     (first | rw [c13b0] | (simp only [i64_w, i32_w]; rw [c13b0]) | skip)
     have H' := Aside0.mk H
     clear H
     go_wp2_with (first | ((with_reducible refine qi0 (f := 30) rfl ?_); refine qq0 (some 12) rfl rfl Tryd.func30 (by kernel_rfl) rfl #[.int .i64 a0, .int .i64 1, .int .i64 3] rfl (by (try simp only [List.map_toArray, List.map_cons, List.map_nil]); first | done | rfl | (simp only [List.length_drop, List.length_take]; rfl)) ?_; (with_reducible refine (spec_l1In.calls a0 1 3 true _ A7.out).mono ?_); rintro e w' ⟨rfl, ⟨nd, rfl⟩⟩; refine ⟨_, rfl, ?_⟩) | (go_at_call 30; (with_reducible refine (spec_l1In.calls a2 1 60 true _ A9.out).mono ?_); rintro e w' ⟨rfl, ⟨nd, rfl⟩⟩) | (go_at_call 29; (with_reducible refine (spec_l2Day.calls a1 true _ A11.out).mono ?_); rintro e w' ⟨rfl, ⟨nd, rfl⟩⟩))
     go_meet
     case rel => exact ⟨_, (false), (by first | rfl | (simp; done) | (simp [*]; done)), H', ⟨by first | omega | exact Nat.le_refl _⟩, ⟨by (with_reducible repeat (first | apply Kd.qn0 | apply Kd.qm0 | apply Kd.qp0)); exact HO124.out⟩, ⟨by repeat (first | (with_reducible first | exact HB.out | apply qb0 | apply qa0 | apply qc0) | exact HB.out)⟩⟩
    replace c12 := Bool.eq_false_iff.mpr c12
    subst c12
    have H1 : (spec_Periods.j0 k a0 a1 a2 y122 true) = some r := by rw [if_neg (show ¬ (false = true) by decide)] at H; exact H
    clear H
    have H := H1
    clear H1
    have H' := Aside0.mk H
    clear H
    go_wp2_with (first | ((with_reducible refine qi0 (f := 30) rfl ?_); refine qq0 (some 12) rfl rfl Tryd.func30 (by kernel_rfl) rfl #[.int .i64 a0, .int .i64 1, .int .i64 3] rfl (by (try simp only [List.map_toArray, List.map_cons, List.map_nil]); first | done | rfl | (simp only [List.length_drop, List.length_take]; rfl)) ?_; (with_reducible refine (spec_l1In.calls a0 1 3 true _ A7.out).mono ?_); rintro e w' ⟨rfl, ⟨nd, rfl⟩⟩; refine ⟨_, rfl, ?_⟩) | (go_at_call 30; (with_reducible refine (spec_l1In.calls a2 1 60 true _ A9.out).mono ?_); rintro e w' ⟨rfl, ⟨nd, rfl⟩⟩) | (go_at_call 29; (with_reducible refine (spec_l2Day.calls a1 false _ A11.out).mono ?_); rintro e w' ⟨rfl, ⟨nd, rfl⟩⟩))
    go_meet
    case rel => exact ⟨_, (true), (by first | rfl | (simp; done) | (simp [*]; done)), H', ⟨by first | omega | exact Nat.le_refl _⟩, ⟨by (with_reducible repeat (first | apply Kd.qn0 | apply Kd.qm0 | apply Kd.qp0)); exact HO124.out⟩, ⟨by repeat (first | (with_reducible first | exact HB.out | apply qb0 | apply qa0 | apply qc0) | exact HB.out)⟩⟩
   replace c10 := Bool.eq_false_iff.mpr c10
   subst c10
   have H1 : (spec_Periods.j0 k a0 a1 a2 y122 true) = some r := by rw [if_neg (show ¬ (false = true) by decide)] at H; exact H
   clear H
   have H := H1
   clear H1
   have H' := Aside0.mk H
   clear H
   go_wp2_with (first | ((with_reducible refine qi0 (f := 30) rfl ?_); refine qq0 (some 12) rfl rfl Tryd.func30 (by kernel_rfl) rfl #[.int .i64 a0, .int .i64 1, .int .i64 3] rfl (by (try simp only [List.map_toArray, List.map_cons, List.map_nil]); first | done | rfl | (simp only [List.length_drop, List.length_take]; rfl)) ?_; (with_reducible refine (spec_l1In.calls a0 1 3 true _ A7.out).mono ?_); rintro e w' ⟨rfl, ⟨nd, rfl⟩⟩; refine ⟨_, rfl, ?_⟩) | (go_at_call 30; (with_reducible refine (spec_l1In.calls a2 1 60 false _ A9.out).mono ?_); rintro e w' ⟨rfl, ⟨nd, rfl⟩⟩))
   go_meet
   case rel => exact ⟨_, (true), (by first | rfl | (simp; done) | (simp [*]; done)), H', ⟨by first | omega | exact Nat.le_refl _⟩, ⟨by (with_reducible repeat (first | apply Kd.qn0 | apply Kd.qm0 | apply Kd.qp0)); exact HO124.out⟩, ⟨by repeat (first | (with_reducible first | exact HB.out | apply qb0 | apply qa0 | apply qc0) | exact HB.out)⟩⟩
  replace c8 := Bool.eq_false_iff.mpr c8
  subst c8
  have H1 : (spec_Periods.j0 k a0 a1 a2 y122 true) = some r := by rw [if_neg (show ¬ (false = true) by decide)] at H; exact H
  clear H
  have H := H1
  clear H1
  have H' := Aside0.mk H
  clear H
  go_wp2_with (first | ((with_reducible refine qi0 (f := 30) rfl ?_); refine qq0 (some 12) rfl rfl Tryd.func30 (by kernel_rfl) rfl #[.int .i64 a0, .int .i64 1, .int .i64 3] rfl (by (try simp only [List.map_toArray, List.map_cons, List.map_nil]); first | done | rfl | (simp only [List.length_drop, List.length_take]; rfl)) ?_; (with_reducible refine (spec_l1In.calls a0 1 3 false _ A7.out).mono ?_); rintro e w' ⟨rfl, ⟨nd, rfl⟩⟩; refine ⟨_, rfl, ?_⟩))
  go_meet
  case rel => exact ⟨_, (true), (by first | rfl | (simp; done) | (simp [*]; done)), H', ⟨by first | omega | exact Nat.le_refl _⟩, ⟨by (with_reducible repeat (first | apply Kd.qn0 | apply Kd.qm0 | apply Kd.qp0)); exact HO124.out⟩, ⟨by repeat (first | (with_reducible first | exact HB.out | apply qb0 | apply qa0 | apply qc0) | exact HB.out)⟩⟩
 case rest =>
  clear HC4
  try clear c1
  try clear p2
  try clear c3
  try clear c8
  try clear c10
  try clear c12
  try clear c13
  try clear c13b0
  try clear c13b1
  obtain ⟨kq, x33_3, rfl, HA, HJ3, HO_7, HB⟩ := hcut
  cases kq with
  | zero => exact absurd HA.out (by simp [spec_Periods.j0])
  | succ kj3 =>
   have H := HA.out
   clear HA
   simp only [spec_Periods.j0] at H
   by_cases c16 : x33_3 = true
   ·subst c16
    have H1 : (some y122) = some r := by rw [if_pos rfl] at H; exact H
    clear H
    have H := H1
    clear H1
    obtain rfl := Option.some.inj H
    go_wp2
    go_ret
    exact ⟨_, by first | rfl | (simp [errW_none, errW_some] <;> rfl) | (simp [*, errW_none, errW_some] <;> rfl), by (with_reducible repeat (first | apply Kd.qn0 | apply Kd.qm0 | apply Kd.qp0)); exact HO_7.out, by repeat (first | (with_reducible first | exact HB.out | apply qb0 | apply qa0 | apply qc0) | exact HB.out)⟩
   replace c16 := Bool.eq_false_iff.mpr c16
   subst c16
   have H1 : (spec_Periods.l0 kj3 a0 a1 a2 y122 0) = some r := by rw [if_neg (show ¬ (false = true) by decide)] at H; exact H
   clear H
   have H := H1
   clear H1
   have H' := Aside0.mk H
   clear H
   go_wp2
   go_loopg [1, 7, 8] kj3 (fun kq v1 v7 v8 w' => ∃ (x1_2 : Int) (x7_2 : List (S39)) (x8_2 : Int), v1 = .int .i64 x1_2 ∧ v8 = .int .i64 x8_2 ∧ Aside0 (spec_Periods.l0 kq a0 x1_2 a2 x7_2 x8_2 = some r) ∧ Aside0 (kq ≤ kj3) ∧ Aside0 (Kd.R k39 39 w' w.heap.size (fun _ => True) v7 x7_2) ∧ Aside0 (Below w.heap.size w w'))
   case atStart => exact ⟨(a1), (y122), (0), (by first | rfl | (simp; done) | (simp [*]; done)), (by first | rfl | (simp; done) | (simp [*]; done)), H', ⟨Nat.le_refl _⟩, ⟨by (with_reducible repeat (first | apply Kd.qn0 | apply Kd.qm0 | apply Kd.qp0)); exact HO_7.out⟩, ⟨by repeat (first | (with_reducible first | exact HB.out | apply qb0 | apply qa0 | apply qc0) | exact HB.out)⟩⟩
   case round =>
    clear H'
    try clear c1
    try clear p2
    try clear c3
    try clear c8
    try clear c10
    try clear c12
    try clear c13
    try clear c13b0
    try clear c13b1
    try clear c16
    try clear p2
    obtain ⟨x1_2, x7_2, x8_2, rfl, rfl, HA, HK2, HO_7, HB⟩ := hrel
    cases gk with
    | zero => exact absurd HA.out (by simp [spec_Periods.l0])
    | succ k2 =>
     have H := HA.out
     clear HA
     simp only [spec_Periods.l0] at H
     by_cases c17 : x8_2 < a2
     ·rw [if_pos c17] at H
      have c17b0 : decide (x8_2 < a2) = true := decide_eq_true c17
      clear c17
      have HC18 := Aside0.mk H
      clear H
      go_upto_region 8 with (fail)
      go_cut [48] (fun v48 wc => ∃ (kq : Nat) (x48_17 : Bool), v48 = .bool x48_17 ∧ Aside0 (spec_Periods.j2 kq a0 x1_2 a2 x7_2 x8_2 (wrap64 (x1_2 + 27)) x48_17 = some r) ∧ Aside0 (kq ≤ k2) ∧ Aside0 (Kd.R k39 39 wc w.heap.size (fun _ => True) u7 x7_2) ∧ Aside0 (Below w.heap.size w wc))
      case first =>
       have H := HC18.out
       clear HC18
       by_cases c19 : a0 = 2
       ·rw [if_pos c19] at H
        have c19b0 : (a0 == 2) = true := beq_iff_eq.mpr c19
        have c19b1 : (a0 != 2) = false := bne_eq_false_iff_eq.mpr c19
        clear c19
        (first | rw [c19b0] | (simp only [i64_w, i32_w]; rw [c19b0]) | skip)
        have H' := Aside0.mk H
        clear H
        go_wp2
        go_meet
        case rel => exact ⟨_, (((Int.tmod x8_2 3) == 2)), (by first | rfl | (simp; done) | (simp [*]; done)), H', ⟨by have := HJ3.out; have := HK2.out; first | omega | exact Nat.le_refl _⟩, ⟨by (with_reducible repeat (first | apply Kd.qn0 | apply Kd.qm0 | apply Kd.qp0)); exact HO_7.out⟩, ⟨by repeat (first | (with_reducible first | exact HB.out | apply qb0 | apply qa0 | apply qc0) | exact HB.out)⟩⟩
       rw [if_neg c19] at H
       have c19b0 : (a0 == 2) = false := beq_eq_false_iff_ne.mpr c19
       have c19b1 : (a0 != 2) = true := bne_iff_ne.mpr c19
       (first | rw [c19b0] | (simp only [i64_w, i32_w]; rw [c19b0]) | skip)
       have H' := Aside0.mk H
       clear H
       go_wp2
       go_meet
       case rel => exact ⟨_, (false), (by first | rfl | (simp; done) | (simp [*]; done)), H', ⟨by have := HJ3.out; have := HK2.out; first | omega | exact Nat.le_refl _⟩, ⟨by (with_reducible repeat (first | apply Kd.qn0 | apply Kd.qm0 | apply Kd.qp0)); exact HO_7.out⟩, ⟨by repeat (first | (with_reducible first | exact HB.out | apply qb0 | apply qa0 | apply qc0) | exact HB.out)⟩⟩
      case rest =>
       clear HC18
       try clear c1
       try clear p2
       try clear c3
       try clear p6
       try clear c8
       try clear c10
       try clear c12
       try clear c13
       try clear c13b0
       try clear c13b1
       try clear c16
       try clear c17
       try clear c17b0
       try clear c19
       try clear c19b0
       try clear c19b1
       try clear p2
       obtain ⟨kq, x48_17, rfl, HA, HJ17, HO_7, HB⟩ := hcut
       cases kq with
       | zero => exact absurd HA.out (by simp [spec_Periods.j2])
       | succ kj17 =>
        have H := HA.out
        clear HA
        simp only [spec_Periods.j2] at H
        have HC20 := Aside0.mk H
        clear H
        go_upto_if 48 with (fail)
        go_cut [9] (fun v9 wc => ∃ (kq : Nat) (x9_19 : Int), v9 = .int .i64 x9_19 ∧ Aside0 (spec_Periods.j3 kq a0 x1_2 a2 x7_2 x8_2 x9_19 = some r) ∧ Aside0 (kq ≤ kj17) ∧ Aside0 (Kd.R k39 39 wc w.heap.size (fun _ => True) u7 x7_2) ∧ Aside0 (Below w.heap.size w wc))
        case first =>
         have H := HC20.out
         clear HC20
         by_cases c21 : x48_17 = true
         ·subst c21
          have H1 : (spec_Periods.j3 kj17 a0 x1_2 a2 x7_2 x8_2 (wrap64 (x1_2 + 34))) = some r := by rw [if_pos rfl] at H; exact H
          clear H
          have H := H1
          clear H1
          have H' := Aside0.mk H
          clear H
          go_wp2
          go_meet
          case rel => exact ⟨_, (wrap64 (x1_2 + 34)), (by first | rfl | (simp; done) | (simp [*]; done)), H', ⟨by have := HJ3.out; have := HK2.out; have := HJ17.out; first | omega | exact Nat.le_refl _⟩, ⟨by (with_reducible repeat (first | apply Kd.qn0 | apply Kd.qm0 | apply Kd.qp0)); exact HO_7.out⟩, ⟨by repeat (first | (with_reducible first | exact HB.out | apply qb0 | apply qa0 | apply qc0) | exact HB.out)⟩⟩
         replace c21 := Bool.eq_false_iff.mpr c21
         subst c21
         have H1 : (spec_Periods.j3 kj17 a0 x1_2 a2 x7_2 x8_2 (wrap64 (x1_2 + 27))) = some r := by rw [if_neg (show ¬ (false = true) by decide)] at H; exact H
         clear H
         have H := H1
         clear H1
         have H' := Aside0.mk H
         clear H
         go_wp2
         go_meet
         case rel => exact ⟨_, ((wrap64 (x1_2 + 27))), (by first | rfl | (simp; done) | (simp [*]; done)), H', ⟨by have := HJ3.out; have := HK2.out; have := HJ17.out; first | omega | exact Nat.le_refl _⟩, ⟨by (with_reducible repeat (first | apply Kd.qn0 | apply Kd.qm0 | apply Kd.qp0)); exact HO_7.out⟩, ⟨by repeat (first | (with_reducible first | exact HB.out | apply qb0 | apply qa0 | apply qc0) | exact HB.out)⟩⟩
        case rest =>
         clear HC20
         try clear c1
         try clear c2
         try clear p2
         try clear c3
         try clear p6
         try clear c8
         try clear c10
         try clear c12
         try clear c13
         try clear c13b0
         try clear c13b1
         try clear c16
         try clear c17
         try clear c17b0
         try clear c19
         try clear c19b0
         try clear c19b1
         try clear c21
         try clear p2
         try clear p6
         obtain ⟨kq, x9_19, rfl, HA, HJ19, HO_7, HB⟩ := hcut
         cases kq with
         | zero => exact absurd HA.out (by simp [spec_Periods.j3])
         | succ kj19 =>
          have H := HA.out
          clear HA
          simp only [spec_Periods.j3] at H
          by_cases c22 : a0 = 1
          ·rw [if_pos c22] at H
           have c22b0 : (a0 == 1) = true := beq_iff_eq.mpr c22
           have c22b1 : (a0 != 1) = false := bne_eq_false_iff_eq.mpr c22
           clear c22
           replace H := Option.bind_eq_some_iff.mp H
           obtain ⟨t131, A230, H⟩ := H
           replace H : (if t131 = true then ((spec_MonthEnd.f kj19 x1_2).bind fun t135 => ((spec_l2Day.f t135).bind fun t136 => (if t136 = true then (if x7_2.length < 8796093022208 then (spec_Periods.l0 kj19 a0 (wrap64 (t135 + 1)) a2 (x7_2 ++ [(⟨x1_2, t135⟩ : S39)]) (wrap64 (x8_2 + 1))) else (none)) else (some (([] : List (S39))))))) else (some (([] : List (S39))))) = some r := H
           have A23 := Aside0.mk A230
           clear A230
           by_cases c24 : t131 = true
           ·subst c24
            have H1 : ((spec_MonthEnd.f kj19 x1_2).bind fun t135 => ((spec_l2Day.f t135).bind fun t136 => (if t136 = true then (if x7_2.length < 8796093022208 then (spec_Periods.l0 kj19 a0 (wrap64 (t135 + 1)) a2 (x7_2 ++ [(⟨x1_2, t135⟩ : S39)]) (wrap64 (x8_2 + 1))) else (none)) else (some (([] : List (S39))))))) = some r := by rw [if_pos rfl] at H; exact H
            clear H
            have H := H1
            clear H1
            replace H := Option.bind_eq_some_iff.mp H
            obtain ⟨t135, A250, H⟩ := H
            replace H : ((spec_l2Day.f t135).bind fun t136 => (if t136 = true then (if x7_2.length < 8796093022208 then (spec_Periods.l0 kj19 a0 (wrap64 (t135 + 1)) a2 (x7_2 ++ [(⟨x1_2, t135⟩ : S39)]) (wrap64 (x8_2 + 1))) else (none)) else (some (([] : List (S39)))))) = some r := H
            have A25 := Aside0.mk A250
            clear A250
            replace H := Option.bind_eq_some_iff.mp H
            obtain ⟨t136, A260, H⟩ := H
            replace H : (if t136 = true then (if x7_2.length < 8796093022208 then (spec_Periods.l0 kj19 a0 (wrap64 (t135 + 1)) a2 (x7_2 ++ [(⟨x1_2, t135⟩ : S39)]) (wrap64 (x8_2 + 1))) else (none)) else (some (([] : List (S39))))) = some r := H
            have A26 := Aside0.mk A260
            clear A260
            by_cases c27 : t136 = true
            ·subst c27
             have H1 : (if x7_2.length < 8796093022208 then (spec_Periods.l0 kj19 a0 (wrap64 (t135 + 1)) a2 (x7_2 ++ [(⟨x1_2, t135⟩ : S39)]) (wrap64 (x8_2 + 1))) else (none)) = some r := by rw [if_pos rfl] at H; exact H
             clear H
             have H := H1
             clear H1
             by_cases c28 : x7_2.length < 8796093022208
             case neg => rw [if_neg c28] at H; exact absurd H (by simp)
             rw [if_pos c28] at H
             have LMc28 := Aside0.mk c28
             clear c28
             obtain ⟨y137, hy137⟩ : ∃ y_ : List (S39), y_ = (x7_2 ++ [(⟨x1_2, t135⟩ : S39)]) := ⟨_, rfl⟩
             replace H : (spec_Periods.l0 kj19 a0 (wrap64 (t135 + 1)) a2 y137 (wrap64 (x8_2 + 1))) = some r := by first | (rw [hy137]; with_reducible exact H) | (have H2_ := (Option.bind_some _ _).symm.trans H; rw [hy137]; with_reducible exact H2_) | (have H2_ := (Option.bind_some _ _).symm.trans H; with_reducible exact H2_) | with_reducible exact H | (rw [hy137]; exact H) | exact H
             have Ny137 := Aside0.mk hy137
             clear hy137
             have H' := Aside0.mk H
             clear H
             go_wp2_with (first | ((with_reducible refine qi0 (f := 29) rfl ?_); refine qq0 (some 54) rfl rfl Tryd.func29 (by kernel_rfl) rfl #[.int .i64 x1_2] rfl (by (try simp only [List.map_toArray, List.map_cons, List.map_nil]); first | done | rfl | (simp only [List.length_drop, List.length_take]; rfl)) ?_; (with_reducible refine (spec_l2Day.calls x1_2 true _ A23.out).mono ?_); rintro e w' ⟨rfl, ⟨nd, rfl⟩⟩; refine ⟨_, rfl, ?_⟩) | ((with_reducible refine qi0 (f := 23) rfl ?_); refine qq0 (some 58) rfl rfl Tryd.func23 (by kernel_rfl) rfl #[.int .i64 x1_2] rfl (by (try simp only [List.map_toArray, List.map_cons, List.map_nil]); first | done | rfl | (simp only [List.length_drop, List.length_take]; rfl)) ?_; (with_reducible refine (spec_MonthEnd.calls kj19 x1_2 t135 _ A25.out).mono ?_); rintro e w29 ⟨rfl, hb⟩; refine ⟨_, rfl, ?_⟩; have n0_ := Aside0.mk (Kd.R_below (by (with_reducible repeat (first | apply Kd.qn0 | apply Kd.qm0 | apply Kd.qp0)); exact HO_7.out) hb); have n1_ := Aside0.mk (qk0 (by repeat (first | (with_reducible first | exact HB.out | apply qb0 | apply qa0 | apply qc0) | exact HB.out)) hb); clear HO_7; clear HB; have HO_7 := n0_; have HB := n1_; clear n0_ n1_; (try clear hb); (try clear hb2); (try clear hk); (try clear hi)) | ((with_reducible refine qi0 (f := 29) rfl ?_); refine qq0 (some 60) rfl rfl Tryd.func29 (by kernel_rfl) rfl #[.int .i64 t135] rfl (by (try simp only [List.map_toArray, List.map_cons, List.map_nil]); first | done | rfl | (simp only [List.length_drop, List.length_take]; rfl)) ?_; (with_reducible refine (spec_l2Day.calls t135 true _ A26.out).mono ?_); rintro e w' ⟨rfl, ⟨nd, rfl⟩⟩; refine ⟨_, rfl, ?_⟩) | ((with_reducible refine gate_builtin (b := .append) (xs := #[.tmp 63, .tmp 67]) rfl ?_); at_builtin; refine Kd.R_append k39 (w0 := w) w.heap.size rfl (.tmp 63) (.tmp 67) 31 39 (.agg #[(.int .i64 0), (.int .i64 0)]) 16 rfl Tryd.underlying31 info39 rfl (by decide) (by omega) u7 x7_2 (⟨x1_2, t135⟩ : S39) [.int .i64 x1_2, .int .i64 t135] (fun _ => True) (fun _ => False) rfl rfl ?aP (fun _ hk => hk.elim) ?aF ?aO ?aB ?aS ?aL ?_; (case aP => exact k39_mkM _ _ _ (⟨x1_2, t135⟩ : S39)); (case aB => exact (by repeat (first | (with_reducible first | exact HB.out | apply qb0 | apply qa0 | apply qc0) | exact HB.out))); (case aF => exact (fun _ _ => trivial)); (case aO => exact (by (with_reducible repeat (first | apply Kd.qn0 | apply Kd.qm0 | apply Kd.qp0)); exact HO_7.out)); (case aS => exact (ql0 (by repeat (first | (with_reducible first | exact HB.out | apply qb0 | apply qa0 | apply qc0) | exact HB.out)))); (case aL => have := LMc28.out; omega); intro v138 w30 ho hb hg hat; rw [← Ny137.out] at ho; have n0_ := Aside0.mk (hb); have n1_ := Aside0.mk (ho); clear HB; clear HO_7; have HB := n0_; have HO139 := n1_; clear n0_ n1_; clear ho hb hg hat))
             go_roundg kj19
             case measure => have := HJ3.out; have := HK2.out; have := HJ17.out; have := HJ19.out; omega
             case rel => exact ⟨(wrap64 (t135 + 1)), (y137), (wrap64 (x8_2 + 1)), (by first | rfl | (simp; done) | (simp [*]; done)), (by first | rfl | (simp; done) | (simp [*]; done)), H', ⟨by have := HJ3.out; have := HK2.out; have := HJ17.out; have := HJ19.out; omega⟩, ⟨by (with_reducible repeat (first | apply Kd.qn0 | apply Kd.qm0 | apply Kd.qp0)); exact HO139.out⟩, ⟨by repeat (first | (with_reducible first | exact HB.out | apply qb0 | apply qa0 | apply qc0) | exact HB.out)⟩⟩
            replace c27 := Bool.eq_false_iff.mpr c27
            subst c27
            have H1 : (some (([] : List (S39)))) = some r := by rw [if_neg (show ¬ (false = true) by decide)] at H; exact H
            clear H
            have H := H1
            clear H1
            obtain ⟨y140, hy140⟩ : ∃ y_ : List (S39), y_ = (([] : List (S39))) := ⟨_, rfl⟩
            replace H : (some y140) = some r := by first | (rw [hy140]; with_reducible exact H) | (have H2_ := (Option.bind_some _ _).symm.trans H; rw [hy140]; with_reducible exact H2_) | (have H2_ := (Option.bind_some _ _).symm.trans H; with_reducible exact H2_) | with_reducible exact H | (rw [hy140]; exact H) | exact H
            have Ny140 := Aside0.mk hy140
            clear hy140
            obtain rfl := Option.some.inj H
            go_wp2_with (first | ((with_reducible refine qi0 (f := 29) rfl ?_); refine qq0 (some 54) rfl rfl Tryd.func29 (by kernel_rfl) rfl #[.int .i64 x1_2] rfl (by (try simp only [List.map_toArray, List.map_cons, List.map_nil]); first | done | rfl | (simp only [List.length_drop, List.length_take]; rfl)) ?_; (with_reducible refine (spec_l2Day.calls x1_2 true _ A23.out).mono ?_); rintro e w' ⟨rfl, ⟨nd, rfl⟩⟩; refine ⟨_, rfl, ?_⟩) | ((with_reducible refine qi0 (f := 23) rfl ?_); refine qq0 (some 58) rfl rfl Tryd.func23 (by kernel_rfl) rfl #[.int .i64 x1_2] rfl (by (try simp only [List.map_toArray, List.map_cons, List.map_nil]); first | done | rfl | (simp only [List.length_drop, List.length_take]; rfl)) ?_; (with_reducible refine (spec_MonthEnd.calls kj19 x1_2 t135 _ A25.out).mono ?_); rintro e w31 ⟨rfl, hb⟩; refine ⟨_, rfl, ?_⟩; have n0_ := Aside0.mk (Kd.R_below (by (with_reducible repeat (first | apply Kd.qn0 | apply Kd.qm0 | apply Kd.qp0)); exact HO_7.out) hb); have n1_ := Aside0.mk (qk0 (by repeat (first | (with_reducible first | exact HB.out | apply qb0 | apply qa0 | apply qc0) | exact HB.out)) hb); clear HO_7; clear HB; have HO_7 := n0_; have HB := n1_; clear n0_ n1_; (try clear hb); (try clear hb2); (try clear hk); (try clear hi)) | ((with_reducible refine qi0 (f := 29) rfl ?_); refine qq0 (some 60) rfl rfl Tryd.func29 (by kernel_rfl) rfl #[.int .i64 t135] rfl (by (try simp only [List.map_toArray, List.map_cons, List.map_nil]); first | done | rfl | (simp only [List.length_drop, List.length_take]; rfl)) ?_; (with_reducible refine (spec_l2Day.calls t135 false _ A26.out).mono ?_); rintro e w' ⟨rfl, ⟨nd, rfl⟩⟩; refine ⟨_, rfl, ?_⟩) | ((with_reducible refine qv0 (N := 62) rfl ?_); refine Kd.R_lit k39 _ 39 ?hg (N := 62) ?hd (xs := ([] : List (S39))) (inner := []) (ok := fun _ => True) (okp := fun _ => True) ?hr ?hp (fun _ hk => hk) trivial (Below.refl _ _) (Nat.le_refl _) (by simp) ?_; (case hd => rfl); (case hg => rfl); (case hr => first | (go_simp; done) | (go_simp; rfl)); (case hp => exact (Reps.none _ _)); intro v141 w32 ho33 hb hg_ hnew_; clear hg_ hnew_; (first | rw [← Ny140.out] at ho33 | (simp only [Int.reduceToNat] at ho33; rw [← Ny140.out] at ho33)); have n0_ := Aside0.mk (Kd.R_elder' (by (with_reducible repeat (first | apply Kd.qn0 | apply Kd.qm0 | apply Kd.qp0)); exact HO_7.out) (Kd.R_base ho33) hb); have n1_ := Aside0.mk (Kd.qg1 (Kd.R_new' ho33 (Kd.R_lt (by (with_reducible repeat (first | apply Kd.qn0 | apply Kd.qm0 | apply Kd.qp0)); exact HO_7.out))) (ql0 (by repeat (first | (with_reducible first | exact HB.out | apply qb0 | apply qa0 | apply qc0) | exact HB.out)))); have n2_ := Aside0.mk (qk0 (by repeat (first | (with_reducible first | exact HB.out | apply qb0 | apply qa0 | apply qc0) | exact HB.out)) hb); clear HO_7; clear HB; have HO_7 := n0_; have HO142 := n1_; have HB := n2_; clear n0_ n1_ n2_; clear hb ho33))
            go_ret
            exact ⟨_, by first | rfl | (simp [errW_none, errW_some] <;> rfl) | (simp [*, errW_none, errW_some] <;> rfl), by (with_reducible repeat (first | apply Kd.qn0 | apply Kd.qm0 | apply Kd.qp0)); exact Kd.qe1 HO142.out (fun _ hk => trivial), by repeat (first | (with_reducible first | exact HB.out | apply qb0 | apply qa0 | apply qc0) | exact HB.out)⟩
           replace c24 := Bool.eq_false_iff.mpr c24
           subst c24
           have H1 : (some (([] : List (S39)))) = some r := by rw [if_neg (show ¬ (false = true) by decide)] at H; exact H
           clear H
           have H := H1
           clear H1
           obtain ⟨y132, hy132⟩ : ∃ y_ : List (S39), y_ = (([] : List (S39))) := ⟨_, rfl⟩
           replace H : (some y132) = some r := by first | (rw [hy132]; with_reducible exact H) | (have H2_ := (Option.bind_some _ _).symm.trans H; rw [hy132]; with_reducible exact H2_) | (have H2_ := (Option.bind_some _ _).symm.trans H; with_reducible exact H2_) | with_reducible exact H | (rw [hy132]; exact H) | exact H
           have Ny132 := Aside0.mk hy132
           clear hy132
           obtain rfl := Option.some.inj H
           go_wp2_with (first | ((with_reducible refine qi0 (f := 29) rfl ?_); refine qq0 (some 54) rfl rfl Tryd.func29 (by kernel_rfl) rfl #[.int .i64 x1_2] rfl (by (try simp only [List.map_toArray, List.map_cons, List.map_nil]); first | done | rfl | (simp only [List.length_drop, List.length_take]; rfl)) ?_; (with_reducible refine (spec_l2Day.calls x1_2 false _ A23.out).mono ?_); rintro e w' ⟨rfl, ⟨nd, rfl⟩⟩; refine ⟨_, rfl, ?_⟩) | ((with_reducible refine qv0 (N := 56) rfl ?_); refine Kd.R_lit k39 _ 39 ?hg (N := 56) ?hd (xs := ([] : List (S39))) (inner := []) (ok := fun _ => True) (okp := fun _ => True) ?hr ?hp (fun _ hk => hk) trivial (Below.refl _ _) (Nat.le_refl _) (by simp) ?_; (case hd => rfl); (case hg => rfl); (case hr => first | (go_simp; done) | (go_simp; rfl)); (case hp => exact (Reps.none _ _)); intro v133 w34 ho35 hb hg_ hnew_; clear hg_ hnew_; (first | rw [← Ny132.out] at ho35 | (simp only [Int.reduceToNat] at ho35; rw [← Ny132.out] at ho35)); have n0_ := Aside0.mk (Kd.R_elder' (by (with_reducible repeat (first | apply Kd.qn0 | apply Kd.qm0 | apply Kd.qp0)); exact HO_7.out) (Kd.R_base ho35) hb); have n1_ := Aside0.mk (Kd.qg1 (Kd.R_new' ho35 (Kd.R_lt (by (with_reducible repeat (first | apply Kd.qn0 | apply Kd.qm0 | apply Kd.qp0)); exact HO_7.out))) (ql0 (by repeat (first | (with_reducible first | exact HB.out | apply qb0 | apply qa0 | apply qc0) | exact HB.out)))); have n2_ := Aside0.mk (qk0 (by repeat (first | (with_reducible first | exact HB.out | apply qb0 | apply qa0 | apply qc0) | exact HB.out)) hb); clear HO_7; clear HB; have HO_7 := n0_; have HO134 := n1_; have HB := n2_; clear n0_ n1_ n2_; clear hb ho35))
           go_ret
           exact ⟨_, by first | rfl | (simp [errW_none, errW_some] <;> rfl) | (simp [*, errW_none, errW_some] <;> rfl), by (with_reducible repeat (first | apply Kd.qn0 | apply Kd.qm0 | apply Kd.qp0)); exact Kd.qe1 HO134.out (fun _ hk => trivial), by repeat (first | (with_reducible first | exact HB.out | apply qb0 | apply qa0 | apply qc0) | exact HB.out)⟩
          rw [if_neg c22] at H
          have c22b0 : (a0 == 1) = false := beq_eq_false_iff_ne.mpr c22
          have c22b1 : (a0 != 1) = true := bne_iff_ne.mpr c22
          replace H := Option.bind_eq_some_iff.mp H
          obtain ⟨t143, A360, H⟩ := H
          replace H : (if t143 = true then (if x7_2.length < 8796093022208 then (spec_Periods.l0 kj19 a0 (wrap64 (x9_19 + 1)) a2 (x7_2 ++ [(⟨x1_2, x9_19⟩ : S39)]) (wrap64 (x8_2 + 1))) else (none)) else (some (([] : List (S39))))) = some r := H
          have A36 := Aside0.mk A360
          clear A360
          by_cases c37 : t143 = true
          ·subst c37
           have H1 : (if x7_2.length < 8796093022208 then (spec_Periods.l0 kj19 a0 (wrap64 (x9_19 + 1)) a2 (x7_2 ++ [(⟨x1_2, x9_19⟩ : S39)]) (wrap64 (x8_2 + 1))) else (none)) = some r := by rw [if_pos rfl] at H; exact H
           clear H
           have H := H1
           clear H1
           by_cases c38 : x7_2.length < 8796093022208
           case neg => rw [if_neg c38] at H; exact absurd H (by simp)
           rw [if_pos c38] at H
           have LMc38 := Aside0.mk c38
           clear c38
           obtain ⟨y144, hy144⟩ : ∃ y_ : List (S39), y_ = (x7_2 ++ [(⟨x1_2, x9_19⟩ : S39)]) := ⟨_, rfl⟩
           replace H : (spec_Periods.l0 kj19 a0 (wrap64 (x9_19 + 1)) a2 y144 (wrap64 (x8_2 + 1))) = some r := by first | (rw [hy144]; with_reducible exact H) | (have H2_ := (Option.bind_some _ _).symm.trans H; rw [hy144]; with_reducible exact H2_) | (have H2_ := (Option.bind_some _ _).symm.trans H; with_reducible exact H2_) | with_reducible exact H | (rw [hy144]; exact H) | exact H
           have Ny144 := Aside0.mk hy144
           clear hy144
           have H' := Aside0.mk H
           clear H
           go_wp2_with (first | ((with_reducible refine qi0 (f := 29) rfl ?_); refine qq0 (some 60) rfl rfl Tryd.func29 (by kernel_rfl) rfl #[.int .i64 x9_19] rfl (by (try simp only [List.map_toArray, List.map_cons, List.map_nil]); first | done | rfl | (simp only [List.length_drop, List.length_take]; rfl)) ?_; (with_reducible refine (spec_l2Day.calls x9_19 true _ A36.out).mono ?_); rintro e w' ⟨rfl, ⟨nd, rfl⟩⟩; refine ⟨_, rfl, ?_⟩) | ((with_reducible refine gate_builtin (b := .append) (xs := #[.tmp 63, .tmp 67]) rfl ?_); at_builtin; refine Kd.R_append k39 (w0 := w) w.heap.size rfl (.tmp 63) (.tmp 67) 31 39 (.agg #[(.int .i64 0), (.int .i64 0)]) 16 rfl Tryd.underlying31 info39 rfl (by decide) (by omega) u7 x7_2 (⟨x1_2, x9_19⟩ : S39) [.int .i64 x1_2, .int .i64 x9_19] (fun _ => True) (fun _ => False) rfl rfl ?aP (fun _ hk => hk.elim) ?aF ?aO ?aB ?aS ?aL ?_; (case aP => exact k39_mkM _ _ _ (⟨x1_2, x9_19⟩ : S39)); (case aB => exact (by repeat (first | (with_reducible first | exact HB.out | apply qb0 | apply qa0 | apply qc0) | exact HB.out))); (case aF => exact (fun _ _ => trivial)); (case aO => exact (by (with_reducible repeat (first | apply Kd.qn0 | apply Kd.qm0 | apply Kd.qp0)); exact HO_7.out)); (case aS => exact (ql0 (by repeat (first | (with_reducible first | exact HB.out | apply qb0 | apply qa0 | apply qc0) | exact HB.out)))); (case aL => have := LMc38.out; omega); intro v145 w39 ho hb hg hat; rw [← Ny144.out] at ho; have n0_ := Aside0.mk (hb); have n1_ := Aside0.mk (ho); clear HB; clear HO_7; have HB := n0_; have HO146 := n1_; clear n0_ n1_; clear ho hb hg hat))
           go_roundg kj19
           case measure => have := HJ3.out; have := HK2.out; have := HJ17.out; have := HJ19.out; omega
           case rel => exact ⟨(wrap64 (x9_19 + 1)), (y144), (wrap64 (x8_2 + 1)), (by first | rfl | (simp; done) | (simp [*]; done)), (by first | rfl | (simp; done) | (simp [*]; done)), H', ⟨by have := HJ3.out; have := HK2.out; have := HJ17.out; have := HJ19.out; omega⟩, ⟨by (with_reducible repeat (first | apply Kd.qn0 | apply Kd.qm0 | apply Kd.qp0)); exact HO146.out⟩, ⟨by repeat (first | (with_reducible first | exact HB.out | apply qb0 | apply qa0 | apply qc0) | exact HB.out)⟩⟩
          replace c37 := Bool.eq_false_iff.mpr c37
          subst c37
          have H1 : (some (([] : List (S39)))) = some r := by rw [if_neg (show ¬ (false = true) by decide)] at H; exact H
          clear H
          have H := H1
          clear H1
          obtain ⟨y147, hy147⟩ : ∃ y_ : List (S39), y_ = (([] : List (S39))) := ⟨_, rfl⟩
          replace H : (some y147) = some r := by first | (rw [hy147]; with_reducible exact H) | (have H2_ := (Option.bind_some _ _).symm.trans H; rw [hy147]; with_reducible exact H2_) | (have H2_ := (Option.bind_some _ _).symm.trans H; with_reducible exact H2_) | with_reducible exact H | (rw [hy147]; exact H) | exact H
          have Ny147 := Aside0.mk hy147
          clear hy147
          obtain rfl := Option.some.inj H
          go_wp2_with (first | ((with_reducible refine qi0 (f := 29) rfl ?_); refine qq0 (some 60) rfl rfl Tryd.func29 (by kernel_rfl) rfl #[.int .i64 x9_19] rfl (by (try simp only [List.map_toArray, List.map_cons, List.map_nil]); first | done | rfl | (simp only [List.length_drop, List.length_take]; rfl)) ?_; (with_reducible refine (spec_l2Day.calls x9_19 false _ A36.out).mono ?_); rintro e w' ⟨rfl, ⟨nd, rfl⟩⟩; refine ⟨_, rfl, ?_⟩) | ((with_reducible refine qv0 (N := 62) rfl ?_); refine Kd.R_lit k39 _ 39 ?hg (N := 62) ?hd (xs := ([] : List (S39))) (inner := []) (ok := fun _ => True) (okp := fun _ => True) ?hr ?hp (fun _ hk => hk) trivial (Below.refl _ _) (Nat.le_refl _) (by simp) ?_; (case hd => rfl); (case hg => rfl); (case hr => first | (go_simp; done) | (go_simp; rfl)); (case hp => exact (Reps.none _ _)); intro v148 w40 ho41 hb hg_ hnew_; clear hg_ hnew_; (first | rw [← Ny147.out] at ho41 | (simp only [Int.reduceToNat] at ho41; rw [← Ny147.out] at ho41)); have n0_ := Aside0.mk (Kd.R_elder' (by (with_reducible repeat (first | apply Kd.qn0 | apply Kd.qm0 | apply Kd.qp0)); exact HO_7.out) (Kd.R_base ho41) hb); have n1_ := Aside0.mk (Kd.qg1 (Kd.R_new' ho41 (Kd.R_lt (by (with_reducible repeat (first | apply Kd.qn0 | apply Kd.qm0 | apply Kd.qp0)); exact HO_7.out))) (ql0 (by repeat (first | (with_reducible first | exact HB.out | apply qb0 | apply qa0 | apply qc0) | exact HB.out)))); have n2_ := Aside0.mk (qk0 (by repeat (first | (with_reducible first | exact HB.out | apply qb0 | apply qa0 | apply qc0) | exact HB.out)) hb); clear HO_7; clear HB; have HO_7 := n0_; have HO149 := n1_; have HB := n2_; clear n0_ n1_ n2_; clear hb ho41))
          go_ret
          exact ⟨_, by first | rfl | (simp [errW_none, errW_some] <;> rfl) | (simp [*, errW_none, errW_some] <;> rfl), by (with_reducible repeat (first | apply Kd.qn0 | apply Kd.qm0 | apply Kd.qp0)); exact Kd.qe1 HO149.out (fun _ hk => trivial), by repeat (first | (with_reducible first | exact HB.out | apply qb0 | apply qa0 | apply qc0) | exact HB.out)⟩
     rw [if_neg c17] at H
     have c17b0 : decide (x8_2 < a2) = false := decide_eq_false c17
     clear c17
     obtain rfl := Option.some.inj H
     go_wp2
     go_ret
     exact ⟨_, by first | rfl | (simp [errW_none, errW_some] <;> rfl) | (simp [*, errW_none, errW_some] <;> rfl), by (with_reducible repeat (first | apply Kd.qn0 | apply Kd.qm0 | apply Kd.qp0)); exact HO_7.out, by repeat (first | (with_reducible first | exact HB.out | apply qb0 | apply qa0 | apply qc0) | exact HB.out)⟩

/-! ### impl_longYear: function 35 -/
def impl_longYear.f (a0 : Int) : Option (Bool) := if (Int.tmod a0 4) = 0 then (if (Int.tmod a0 100) = 0 then (some ((Int.tmod a0 400) == 0)) else (some true)) else (some ((Int.tmod a0 400) == 0))
set_option maxHeartbeats 8000000 in
set_option maxRecDepth 100000 in
theorem impl_longYear.calls (a0 : Int) (r : Bool) (w : World) (h : impl_longYear.f a0 = some r) :
  Calls Tryd.prog 35 #[.int .i64 a0] w fun e w' => e = .returned (.bool r) ∧ Drawn0 w w' := by
 have H : (if (Int.tmod a0 4) = 0 then (if (Int.tmod a0 100) = 0 then (some ((Int.tmod a0 400) == 0)) else (some true)) else (some ((Int.tmod a0 400) == 0))) = some r := h
 clear h
 by_cases c2 : (Int.tmod a0 4) = 0
 ·rw [if_pos c2] at H
  have c2b0 : ((Int.tmod a0 4) == 0) = true := beq_iff_eq.mpr c2
  have c2b1 : ((Int.tmod a0 4) != 0) = false := bne_eq_false_iff_eq.mpr c2
  clear c2
  by_cases c3 : (Int.tmod a0 100) = 0
  ·rw [if_pos c3] at H
   have c3b0 : ((Int.tmod a0 100) == 0) = true := beq_iff_eq.mpr c3
   have c3b1 : ((Int.tmod a0 100) != 0) = false := bne_eq_false_iff_eq.mpr c3
   clear c3
   obtain rfl := Option.some.inj H
   go_enter Tryd.func35, Tryd.ntmps35
   go_wp2
   go_ret
   exact ⟨by first | rfl | (simp; done) | (simp [*]; done), by repeat (first | exact Drawn0.refl _ | apply Drawn0.step)⟩
  rw [if_neg c3] at H
  have c3b0 : ((Int.tmod a0 100) == 0) = false := beq_eq_false_iff_ne.mpr c3
  have c3b1 : ((Int.tmod a0 100) != 0) = true := bne_iff_ne.mpr c3
  obtain rfl := Option.some.inj H
  go_enter Tryd.func35, Tryd.ntmps35
  go_wp2
  go_ret
  exact ⟨by first | rfl | (simp; done) | (simp [*]; done), by repeat (first | exact Drawn0.refl _ | apply Drawn0.step)⟩
 rw [if_neg c2] at H
 have c2b0 : ((Int.tmod a0 4) == 0) = false := beq_eq_false_iff_ne.mpr c2
 have c2b1 : ((Int.tmod a0 4) != 0) = true := bne_iff_ne.mpr c2
 obtain rfl := Option.some.inj H
 go_enter Tryd.func35, Tryd.ntmps35
 go_wp2
 go_ret
 exact ⟨by first | rfl | (simp; done) | (simp [*]; done), by repeat (first | exact Drawn0.refl _ | apply Drawn0.step)⟩

end Go.Proofs.YtdnenglafphkbaaDoor.PFnPeriodsWhole
