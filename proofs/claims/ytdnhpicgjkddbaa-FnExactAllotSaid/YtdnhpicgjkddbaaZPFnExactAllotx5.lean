/- Lines by a program (a changed copy of the kit's print: this repo's wip/tools): Go functions as Lean functions, and proofs that the calls answer so. -/
import Derived.Test.YtdnhpicgjkddbaaZPFnExactAllotx0
import Derived.Test.YtdnhpicgjkddbaaZPFnExactAllotx4
namespace Go.Proofs.Ytdnhpicgjkddbaa.PFnExactAllot
open Go.RowKit Go.Proofs.YtdnhpicgjkddbaaW.PrintWords Go.Proofs.YtdnhpicgjkddbaaW.PrintLast Go.Proofs.YtdnhpicgjkddbaaW.PrintMore
/-- Runs of true and false, by turns. -/
def rb5l : Bool → List Nat → List Bool
 | _, [] => []
 | b, n :: r => List.replicate n b ++ rb5l (!b) r
def rb5 (l : List Nat) : Array Bool := (rb5l true l).toArray
attribute [local go_sem] max2_int min2_int max_two min_two max_three min_three max_four min_four   -- for this text's walks alone
set_option linter.unusedVariables false
set_option linter.unusedSimpArgs false

/-! ### impl_dutyOk: function 101 -/
mutual
def impl_dutyOk.j0 : Nat → Bool → Int → Int → Int → List (S218) → Option (Bool)
 | 0, _, _, _, _, _ => none
 | k + 1, x33, x186000, x186001, x186002, x186003 => if x33 = true then (some false) else (impl_dutyOk.l0 k x186003 (x186003.length : Int) 0 x186000 x186001 x186002 x186003)
def impl_dutyOk.l0 : Nat → List (S218) → Int → Int → Int → Int → Int → List (S218) → Option (Bool)
 | 0, _, _, _, _, _, _, _ => none
 | k + 1, x35, x36, x37, x186000, x186001, x186002, x186003 => if x37 < x36 then (if 0 ≤ x37 then (if x37 < (x35.length : Int) then ((impl_isDay.f ((rd_T218 x35 x37).f0)).bind fun t191 => (if t191 = true then ((impl_between.f ((rd_T218 x35 x37).f1) 0 1000).bind fun t192 => (if t192 = true then (if x37 > 0 then (if 0 ≤ (wrap64 (x37 - 1)) then (if (wrap64 (x37 - 1)) < (x186003.length : Int) then (if ((rd_T218 x186003 (wrap64 (x37 - 1))).f0) ≥ ((rd_T218 x35 x37).f0) then (some false) else (if ((rd_T218 x186003 (wrap64 (x37 - 1))).f1) > ((rd_T218 x35 x37).f1) then (some false) else (impl_dutyOk.l0 k x35 x36 (wrap64 (x37 + 1)) x186000 x186001 x186002 x186003))) else (none)) else (none)) else (impl_dutyOk.l0 k x35 x36 (wrap64 (x37 + 1)) x186000 x186001 x186002 x186003)) else (some false))) else (some false))) else (none)) else (none)) else (some true)
end
def impl_dutyOk.f (k : Nat) (a0_0 : Int) (a0_1 : Int) (a0_2 : Int) (l0_3 : List (S218)) : Option (Bool) := (impl_factor.f a0_0).bind fun t186 => (if t186 = true then ((impl_isDay.f a0_1).bind fun t187 => (if t187 = true then ((impl_isDay.f a0_2).bind fun t188 => (if t188 = true then (if a0_1 > a0_2 then (impl_dutyOk.j0 k true a0_0 a0_1 a0_2 l0_3) else (impl_dutyOk.j0 k (decide ((l0_3.length : Int) > 40)) a0_0 a0_1 a0_2 l0_3)) else (impl_dutyOk.j0 k true a0_0 a0_1 a0_2 l0_3))) else (impl_dutyOk.j0 k true a0_0 a0_1 a0_2 l0_3))) else (impl_dutyOk.j0 k true a0_0 a0_1 a0_2 l0_3))
theorem impl_dutyOk.mono_l : ∀ k, (∀ y0 y1 y2 y3 y4, LeO (impl_dutyOk.j0 k y0 y1 y2 y3 y4) (impl_dutyOk.j0 (k + 1) y0 y1 y2 y3 y4)) ∧ (∀ y0 y1 y2 y3 y4 y5 y6, LeO (impl_dutyOk.l0 k y0 y1 y2 y3 y4 y5 y6) (impl_dutyOk.l0 (k + 1) y0 y1 y2 y3 y4 y5 y6))
 | 0 => ⟨fun _ _ _ _ _ r h => by simp [impl_dutyOk.j0] at h, fun _ _ _ _ _ _ _ r h => by simp [impl_dutyOk.l0] at h⟩
 | k + 1 => by
  obtain ⟨ih0, ih1⟩ := impl_dutyOk.mono_l k
  refine ⟨?_, ?_⟩
  ·intro y0 y1 y2 y3 y4
   unfold impl_dutyOk.j0
   repeat' first
   | (with_reducible exact ih0 _ _ _ _ _)
   | (with_reducible exact ih1 _ _ _ _ _ _ _)
   | (with_reducible exact LeO.refl _)
   | (with_reducible exact LeO.none _)
   | (with_reducible refine LeO.ite ?_ ?_)
   | (with_reducible refine LeO.bind ?_ (fun _ => ?_))
   | exact ih0 _ _ _ _ _
   | exact ih1 _ _ _ _ _ _ _
   | exact LeO.none _
   | refine LeO.ite ?_ ?_
   | refine LeO.bind ?_ (fun _ => ?_)
  ·intro y0 y1 y2 y3 y4 y5 y6
   unfold impl_dutyOk.l0
   repeat' first
   | (with_reducible exact ih0 _ _ _ _ _)
   | (with_reducible exact ih1 _ _ _ _ _ _ _)
   | (with_reducible exact LeO.refl _)
   | (with_reducible exact LeO.none _)
   | (with_reducible refine LeO.ite ?_ ?_)
   | (with_reducible refine LeO.bind ?_ (fun _ => ?_))
   | exact ih0 _ _ _ _ _
   | exact ih1 _ _ _ _ _ _ _
   | exact LeO.none _
   | refine LeO.ite ?_ ?_
   | refine LeO.bind ?_ (fun _ => ?_)
theorem impl_dutyOk.mono : ∀ a0 a1 a2 a3 k, LeO (impl_dutyOk.f k a0 a1 a2 a3) (impl_dutyOk.f (k + 1) a0 a1 a2 a3) := by
 intro a0 a1 a2 a3 k
 obtain ⟨ih0, ih1⟩ := impl_dutyOk.mono_l k
 unfold impl_dutyOk.f
 repeat' first
   | (with_reducible exact ih0 _ _ _ _ _)
   | (with_reducible exact ih1 _ _ _ _ _ _ _)
   | (with_reducible exact LeO.refl _)
   | (with_reducible exact LeO.none _)
   | (with_reducible refine LeO.ite ?_ ?_)
   | (with_reducible refine LeO.bind ?_ (fun _ => ?_))
   | exact ih0 _ _ _ _ _
   | exact ih1 _ _ _ _ _ _ _
   | exact LeO.none _
   | refine LeO.ite ?_ ?_
   | refine LeO.bind ?_ (fun _ => ?_)
def impl_dutyOk.T6 : Bool × List (List Nat × List Nat) := (true, [([], []), ([0], [0]), ([1], [1]), ([2], [2]), ([3, 2], [3]), ([4], [4]), ([5, 4], [4, 5]), ([6, 4, 4], [4, 6]), ([7, 4], [4, 7]), ([4, 8], [4, 8]), ([9, 7], [9]), ([10], [10]), ([11, 10], [10, 11]), ([12, 10, 10], [10, 12]), ([13], [13]), ([14, 13], [13, 14]), ([13], [13]), ([16, 13], [13, 16]), ([15, 17, 13], [13, 15, 17]), ([18, 13], [13, 18]), ([19, 13], [13, 19]), ([13], [13]), ([21, 13], [13, 21]), ([20, 22, 13], [13, 20, 22]), ([23, 13, 13], [13, 23]), ([24], [24]), ([25, 24], [24, 25]), ([24], [24]), ([27, 24], [24, 27]), ([26, 28, 24], [24, 26, 28]), ([29, 24], [24, 29]), ([30, 24], [24, 30]), ([24], [24]), ([32, 24], [24, 32]), ([31, 33, 24], [24, 31, 33]), ([24, 34, 13], [13, 24, 34]), ([13, 35, 10], [10, 13, 35]), ([10, 36], [10, 36])])
def impl_dutyOk.B6 : List Nat := [0, 1, 3, 7, 15, 31, 63, 127, 255, 511, 1023, 2047, 4095, 8191, 16383, 32767, 16383, 81919, 262143, 524287, 1048575, 16383, 2113535, 8388607, 16777215, 33554431, 67108863, 33554431, 167772159, 536870911, 1073741823, 2147483647, 33554431, 4328521727, 17179869183, 34359738367, 68719476735, 137438953471]
theorem impl_dutyOk.tab6 : rtab .any (opsOf Try.f101 6) = impl_dutyOk.T6 := by kernel_rfl
theorem impl_dutyOk.bits6 : waitsOk impl_dutyOk.T6.2 impl_dutyOk.B6 = true := by kernel_rfl
set_option maxHeartbeats 8000000 in
set_option maxRecDepth 100000 in
theorem impl_dutyOk.calls (k : Nat) (a0_0 : Int) (a0_1 : Int) (a0_2 : Int) (A0_3 : Option Addr) (c0_3 : Nat) (l0_3 : List (S218)) (r : Bool) (w : World) (hr0_3 : Kd.C k218 w A0_3 l0_3.length l0_3) (hc0_3 : l0_3.length ≤ c0_3) (h : impl_dutyOk.f k a0_0 a0_1 a0_2 l0_3 = some r) :
  Calls Try.prog 101 #[.agg #[.int .i64 a0_0, .int .i64 a0_1, .int .i64 a0_2, .slice A0_3 l0_3.length c0_3]] w fun e w' => e = .returned (.bool r) ∧ Below w.heap.size w w' := by
 have hu143 := Try.underlying143
 have hu218 := Try.underlying218
 have HR0_3 := Aside0.mk hr0_3
 have HC0_3 := Aside0.mk hc0_3
 clear hr0_3 hc0_3
 have HB := Aside0.mk (Below.refl w.heap.size w)
 have H : ((impl_factor.f a0_0).bind fun t186 => (if t186 = true then ((impl_isDay.f a0_1).bind fun t187 => (if t187 = true then ((impl_isDay.f a0_2).bind fun t188 => (if t188 = true then (if a0_1 > a0_2 then (impl_dutyOk.j0 k true a0_0 a0_1 a0_2 l0_3) else (impl_dutyOk.j0 k (decide ((l0_3.length : Int) > 40)) a0_0 a0_1 a0_2 l0_3)) else (impl_dutyOk.j0 k true a0_0 a0_1 a0_2 l0_3))) else (impl_dutyOk.j0 k true a0_0 a0_1 a0_2 l0_3))) else (impl_dutyOk.j0 k true a0_0 a0_1 a0_2 l0_3))) = some r := h
 clear h
 have HC2 := Aside0.mk H
 clear H
 go_enter Try.func101, Try.ntmps101
 go_upto_region 1 with (first | ((with_reducible refine qu0 (N := 1) rfl ?_); (try (refine qx0 (by rfl) ?_; dsimp only)); refine qy0 ?hg (N := 1) ?hd (cs := #[.int .i64 a0_0, .int .i64 a0_1, .int .i64 a0_2, .slice A0_3 l0_3.length c0_3]) (t := 143) ?hr ?_; (case hd => rfl); (case hg => rfl); (case hr => first | (go_simp; done) | (go_simp; rfl)); intro gb185 hg w3 hbox hb; have n0_ := Aside0.mk (qo0 (by repeat (first | (with_reducible first | exact HB.out | apply qc0 | apply qa0 | apply qb0) | exact HB.out)) hb); have n1_ := Aside0.mk (hbox); have n2_ := Aside0.mk ((by rw [hg]; exact (qk0 (by repeat (first | (with_reducible first | exact HB.out | apply qc0 | apply qa0 | apply qb0) | exact HB.out))) : w.heap.size ≤ gb185)); have n3_ := Aside0.mk ((by rw [hg]; exact (qk0 (by repeat (first | (with_reducible first | exact HB.out | apply qc0 | apply qa0 | apply qb0) | exact HB.out))) : w.heap.size ≤ gb185)); clear HB; have HB := n0_; have BK185 := n1_; have GW185 := n2_; have GE185 := n3_; clear n0_ n1_ n2_ n3_; clear hb hbox hg))
 (try simp only [Act.put, List.setIfInBounds_toArray, List.set_cons_zero, List.set_cons_succ])
 go_cut [33] (fun v33 wc => ∃ (kq : Nat) (x33_1 : Bool), v33 = .bool x33_1 ∧ Aside0 (impl_dutyOk.j0 kq x33_1 a0_0 a0_1 a0_2 l0_3 = some r) ∧ Aside0 (kq ≤ k) ∧ Aside0 (wc.heap[gb185]? = some (.cells #[.int .i64 a0_0, .int .i64 a0_1, .int .i64 a0_2, (.slice A0_3 l0_3.length c0_3)] 143 (0, 0))) ∧ Aside0 (Below w.heap.size w wc))
 case first =>
  have H := HC2.out
  clear HC2
  replace H := Option.bind_eq_some_iff.mp H
  obtain ⟨t186, A40, H⟩ := H
  replace H : (if t186 = true then ((impl_isDay.f a0_1).bind fun t187 => (if t187 = true then ((impl_isDay.f a0_2).bind fun t188 => (if t188 = true then (if a0_1 > a0_2 then (impl_dutyOk.j0 k true a0_0 a0_1 a0_2 l0_3) else (impl_dutyOk.j0 k (decide ((l0_3.length : Int) > 40)) a0_0 a0_1 a0_2 l0_3)) else (impl_dutyOk.j0 k true a0_0 a0_1 a0_2 l0_3))) else (impl_dutyOk.j0 k true a0_0 a0_1 a0_2 l0_3))) else (impl_dutyOk.j0 k true a0_0 a0_1 a0_2 l0_3)) = some r := H
  have A4 := Aside0.mk A40
  clear A40
  by_cases c5 : t186 = true
  ·subst c5
   have H1 : ((impl_isDay.f a0_1).bind fun t187 => (if t187 = true then ((impl_isDay.f a0_2).bind fun t188 => (if t188 = true then (if a0_1 > a0_2 then (impl_dutyOk.j0 k true a0_0 a0_1 a0_2 l0_3) else (impl_dutyOk.j0 k (decide ((l0_3.length : Int) > 40)) a0_0 a0_1 a0_2 l0_3)) else (impl_dutyOk.j0 k true a0_0 a0_1 a0_2 l0_3))) else (impl_dutyOk.j0 k true a0_0 a0_1 a0_2 l0_3))) = some r := by rw [if_pos rfl] at H; exact H
   clear H
   have H := H1
   clear H1
   replace H := Option.bind_eq_some_iff.mp H
   obtain ⟨t187, A60, H⟩ := H
   replace H : (if t187 = true then ((impl_isDay.f a0_2).bind fun t188 => (if t188 = true then (if a0_1 > a0_2 then (impl_dutyOk.j0 k true a0_0 a0_1 a0_2 l0_3) else (impl_dutyOk.j0 k (decide ((l0_3.length : Int) > 40)) a0_0 a0_1 a0_2 l0_3)) else (impl_dutyOk.j0 k true a0_0 a0_1 a0_2 l0_3))) else (impl_dutyOk.j0 k true a0_0 a0_1 a0_2 l0_3)) = some r := H
   have A6 := Aside0.mk A60
   clear A60
   by_cases c7 : t187 = true
   ·subst c7
    have H1 : ((impl_isDay.f a0_2).bind fun t188 => (if t188 = true then (if a0_1 > a0_2 then (impl_dutyOk.j0 k true a0_0 a0_1 a0_2 l0_3) else (impl_dutyOk.j0 k (decide ((l0_3.length : Int) > 40)) a0_0 a0_1 a0_2 l0_3)) else (impl_dutyOk.j0 k true a0_0 a0_1 a0_2 l0_3))) = some r := by rw [if_pos rfl] at H; exact H
    clear H
    have H := H1
    clear H1
    replace H := Option.bind_eq_some_iff.mp H
    obtain ⟨t188, A80, H⟩ := H
    replace H : (if t188 = true then (if a0_1 > a0_2 then (impl_dutyOk.j0 k true a0_0 a0_1 a0_2 l0_3) else (impl_dutyOk.j0 k (decide ((l0_3.length : Int) > 40)) a0_0 a0_1 a0_2 l0_3)) else (impl_dutyOk.j0 k true a0_0 a0_1 a0_2 l0_3)) = some r := H
    have A8 := Aside0.mk A80
    clear A80
    by_cases c9 : t188 = true
    ·subst c9
     have H1 : (if a0_1 > a0_2 then (impl_dutyOk.j0 k true a0_0 a0_1 a0_2 l0_3) else (impl_dutyOk.j0 k (decide ((l0_3.length : Int) > 40)) a0_0 a0_1 a0_2 l0_3)) = some r := by rw [if_pos rfl] at H; exact H
     clear H
     have H := H1
     clear H1
     by_cases c10 : a0_1 > a0_2
     ·rw [if_pos c10] at H
      have c10b0 : decide (a0_2 < a0_1) = true := decide_eq_true c10
      clear c10
      (first | rw [c10b0] | (simp only [i64_w, i32_w]; rw [c10b0]) | skip)
      have H' := Aside0.mk H
      clear H
      have hcz11_0 : w3.cell? ⟨gb185, 0, none⟩ = some (.int .i64 a0_0) := (qd0 BK185.out 0).trans rfl
      have hcz11_1 : w3.cell? ⟨gb185, 1, none⟩ = some (.int .i64 a0_1) := (qd0 BK185.out 1).trans rfl
      have hcz11_2 : w3.cell? ⟨gb185, 2, none⟩ = some (.int .i64 a0_2) := (qd0 BK185.out 2).trans rfl
      have hcz11_3 : w3.cell? ⟨gb185, 3, none⟩ = some (.slice A0_3 l0_3.length c0_3) := (qd0 BK185.out 3).trans rfl
      have hfz11_0 := qf0 BK185.out 0
      have hfz11_1 := qf0 BK185.out 1
      have hfz11_2 := qf0 BK185.out 2
      have hfz11_3 := qf0 BK185.out 3
      go_wp2_with (first | ((with_reducible refine qn0 (f := 165) rfl ?_); refine qv0 (some 7) rfl rfl Try.func165 (by kernel_rfl) rfl #[.int .i64 a0_0] rfl (by (try simp only [List.map_toArray, List.map_cons, List.map_nil]); first | done | rfl | (simp only [List.length_drop, List.length_take]; rfl)) ?_; (with_reducible refine (impl_factor.calls a0_0 true _ A4.out).mono ?_); rintro e w' ⟨rfl, ⟨nd, rfl⟩⟩; refine ⟨_, rfl, ?_⟩) | (go_at_call 88; (with_reducible refine (impl_isDay.calls a0_1 true _ A6.out).mono ?_); rintro e w' ⟨rfl, ⟨nd, rfl⟩⟩) | (go_at_call 88; (with_reducible refine (impl_isDay.calls a0_2 true _ A8.out).mono ?_); rintro e w' ⟨rfl, ⟨nd, rfl⟩⟩))
      go_meet
      case rel => exact ⟨_, (true), (by first | rfl | (simp; done) | (simp [*]; done)), H', ⟨by first | omega | exact Nat.le_refl _⟩, ⟨by (with_reducible repeat (first | refine qh0 ?_ _ | refine qj0 ?_ | refine qi0 ?_ _)); exact BK185.out⟩, ⟨by repeat (first | (with_reducible first | exact HB.out | apply qc0 | apply qa0 | apply qb0 | refine qg0 ?_ GE185.out) | exact HB.out)⟩⟩
     rw [if_neg c10] at H
     have c10b0 : decide (a0_2 < a0_1) = false := decide_eq_false c10
     clear c10
     (first | rw [c10b0] | (simp only [i64_w, i32_w]; rw [c10b0]) | skip)
     have H' := Aside0.mk H
     clear H
     have hcz12_0 : w3.cell? ⟨gb185, 0, none⟩ = some (.int .i64 a0_0) := (qd0 BK185.out 0).trans rfl
     have hcz12_1 : w3.cell? ⟨gb185, 1, none⟩ = some (.int .i64 a0_1) := (qd0 BK185.out 1).trans rfl
     have hcz12_2 : w3.cell? ⟨gb185, 2, none⟩ = some (.int .i64 a0_2) := (qd0 BK185.out 2).trans rfl
     have hcz12_3 : w3.cell? ⟨gb185, 3, none⟩ = some (.slice A0_3 l0_3.length c0_3) := (qd0 BK185.out 3).trans rfl
     have hfz12_0 := qf0 BK185.out 0
     have hfz12_1 := qf0 BK185.out 1
     have hfz12_2 := qf0 BK185.out 2
     have hfz12_3 := qf0 BK185.out 3
     go_wp2_with (first | ((with_reducible refine qn0 (f := 165) rfl ?_); refine qv0 (some 7) rfl rfl Try.func165 (by kernel_rfl) rfl #[.int .i64 a0_0] rfl (by (try simp only [List.map_toArray, List.map_cons, List.map_nil]); first | done | rfl | (simp only [List.length_drop, List.length_take]; rfl)) ?_; (with_reducible refine (impl_factor.calls a0_0 true _ A4.out).mono ?_); rintro e w' ⟨rfl, ⟨nd, rfl⟩⟩; refine ⟨_, rfl, ?_⟩) | (go_at_call 88; (with_reducible refine (impl_isDay.calls a0_1 true _ A6.out).mono ?_); rintro e w' ⟨rfl, ⟨nd, rfl⟩⟩) | (go_at_call 88; (with_reducible refine (impl_isDay.calls a0_2 true _ A8.out).mono ?_); rintro e w' ⟨rfl, ⟨nd, rfl⟩⟩))
     go_meet
     case rel => exact ⟨_, (decide ((l0_3.length : Int) > 40)), (by first | rfl | (simp; done) | (simp [*]; done)), H', ⟨by first | omega | exact Nat.le_refl _⟩, ⟨by (with_reducible repeat (first | refine qh0 ?_ _ | refine qj0 ?_ | refine qi0 ?_ _)); exact BK185.out⟩, ⟨by repeat (first | (with_reducible first | exact HB.out | apply qc0 | apply qa0 | apply qb0 | refine qg0 ?_ GE185.out) | exact HB.out)⟩⟩
    replace c9 := Bool.eq_false_iff.mpr c9
    subst c9
    have H1 : (impl_dutyOk.j0 k true a0_0 a0_1 a0_2 l0_3) = some r := by rw [if_neg (show ¬ (false = true) by decide)] at H; exact H
    clear H
    have H := H1
    clear H1
    have H' := Aside0.mk H
    clear H
    have hcz13_0 : w3.cell? ⟨gb185, 0, none⟩ = some (.int .i64 a0_0) := (qd0 BK185.out 0).trans rfl
    have hcz13_1 : w3.cell? ⟨gb185, 1, none⟩ = some (.int .i64 a0_1) := (qd0 BK185.out 1).trans rfl
    have hcz13_2 : w3.cell? ⟨gb185, 2, none⟩ = some (.int .i64 a0_2) := (qd0 BK185.out 2).trans rfl
    have hcz13_3 : w3.cell? ⟨gb185, 3, none⟩ = some (.slice A0_3 l0_3.length c0_3) := (qd0 BK185.out 3).trans rfl
    have hfz13_0 := qf0 BK185.out 0
    have hfz13_1 := qf0 BK185.out 1
    have hfz13_2 := qf0 BK185.out 2
    have hfz13_3 := qf0 BK185.out 3
    go_wp2_with (first | ((with_reducible refine qn0 (f := 165) rfl ?_); refine qv0 (some 7) rfl rfl Try.func165 (by kernel_rfl) rfl #[.int .i64 a0_0] rfl (by (try simp only [List.map_toArray, List.map_cons, List.map_nil]); first | done | rfl | (simp only [List.length_drop, List.length_take]; rfl)) ?_; (with_reducible refine (impl_factor.calls a0_0 true _ A4.out).mono ?_); rintro e w' ⟨rfl, ⟨nd, rfl⟩⟩; refine ⟨_, rfl, ?_⟩) | (go_at_call 88; (with_reducible refine (impl_isDay.calls a0_1 true _ A6.out).mono ?_); rintro e w' ⟨rfl, ⟨nd, rfl⟩⟩) | (go_at_call 88; (with_reducible refine (impl_isDay.calls a0_2 false _ A8.out).mono ?_); rintro e w' ⟨rfl, ⟨nd, rfl⟩⟩))
    go_meet
    case rel => exact ⟨_, (true), (by first | rfl | (simp; done) | (simp [*]; done)), H', ⟨by first | omega | exact Nat.le_refl _⟩, ⟨by (with_reducible repeat (first | refine qh0 ?_ _ | refine qj0 ?_ | refine qi0 ?_ _)); exact BK185.out⟩, ⟨by repeat (first | (with_reducible first | exact HB.out | apply qc0 | apply qa0 | apply qb0 | refine qg0 ?_ GE185.out) | exact HB.out)⟩⟩
   replace c7 := Bool.eq_false_iff.mpr c7
   subst c7
   have H1 : (impl_dutyOk.j0 k true a0_0 a0_1 a0_2 l0_3) = some r := by rw [if_neg (show ¬ (false = true) by decide)] at H; exact H
   clear H
   have H := H1
   clear H1
   have H' := Aside0.mk H
   clear H
   have hcz14_0 : w3.cell? ⟨gb185, 0, none⟩ = some (.int .i64 a0_0) := (qd0 BK185.out 0).trans rfl
   have hcz14_1 : w3.cell? ⟨gb185, 1, none⟩ = some (.int .i64 a0_1) := (qd0 BK185.out 1).trans rfl
   have hcz14_2 : w3.cell? ⟨gb185, 2, none⟩ = some (.int .i64 a0_2) := (qd0 BK185.out 2).trans rfl
   have hcz14_3 : w3.cell? ⟨gb185, 3, none⟩ = some (.slice A0_3 l0_3.length c0_3) := (qd0 BK185.out 3).trans rfl
   have hfz14_0 := qf0 BK185.out 0
   have hfz14_1 := qf0 BK185.out 1
   have hfz14_2 := qf0 BK185.out 2
   have hfz14_3 := qf0 BK185.out 3
   go_wp2_with (first | ((with_reducible refine qn0 (f := 165) rfl ?_); refine qv0 (some 7) rfl rfl Try.func165 (by kernel_rfl) rfl #[.int .i64 a0_0] rfl (by (try simp only [List.map_toArray, List.map_cons, List.map_nil]); first | done | rfl | (simp only [List.length_drop, List.length_take]; rfl)) ?_; (with_reducible refine (impl_factor.calls a0_0 true _ A4.out).mono ?_); rintro e w' ⟨rfl, ⟨nd, rfl⟩⟩; refine ⟨_, rfl, ?_⟩) | (go_at_call 88; (with_reducible refine (impl_isDay.calls a0_1 false _ A6.out).mono ?_); rintro e w' ⟨rfl, ⟨nd, rfl⟩⟩))
   go_meet
   case rel => exact ⟨_, (true), (by first | rfl | (simp; done) | (simp [*]; done)), H', ⟨by first | omega | exact Nat.le_refl _⟩, ⟨by (with_reducible repeat (first | refine qh0 ?_ _ | refine qj0 ?_ | refine qi0 ?_ _)); exact BK185.out⟩, ⟨by repeat (first | (with_reducible first | exact HB.out | apply qc0 | apply qa0 | apply qb0 | refine qg0 ?_ GE185.out) | exact HB.out)⟩⟩
  replace c5 := Bool.eq_false_iff.mpr c5
  subst c5
  have H1 : (impl_dutyOk.j0 k true a0_0 a0_1 a0_2 l0_3) = some r := by rw [if_neg (show ¬ (false = true) by decide)] at H; exact H
  clear H
  have H := H1
  clear H1
  have H' := Aside0.mk H
  clear H
  have hcz15_0 : w3.cell? ⟨gb185, 0, none⟩ = some (.int .i64 a0_0) := (qd0 BK185.out 0).trans rfl
  have hcz15_1 : w3.cell? ⟨gb185, 1, none⟩ = some (.int .i64 a0_1) := (qd0 BK185.out 1).trans rfl
  have hcz15_2 : w3.cell? ⟨gb185, 2, none⟩ = some (.int .i64 a0_2) := (qd0 BK185.out 2).trans rfl
  have hcz15_3 : w3.cell? ⟨gb185, 3, none⟩ = some (.slice A0_3 l0_3.length c0_3) := (qd0 BK185.out 3).trans rfl
  have hfz15_0 := qf0 BK185.out 0
  have hfz15_1 := qf0 BK185.out 1
  have hfz15_2 := qf0 BK185.out 2
  have hfz15_3 := qf0 BK185.out 3
  go_wp2_with (first | ((with_reducible refine qn0 (f := 165) rfl ?_); refine qv0 (some 7) rfl rfl Try.func165 (by kernel_rfl) rfl #[.int .i64 a0_0] rfl (by (try simp only [List.map_toArray, List.map_cons, List.map_nil]); first | done | rfl | (simp only [List.length_drop, List.length_take]; rfl)) ?_; (with_reducible refine (impl_factor.calls a0_0 false _ A4.out).mono ?_); rintro e w' ⟨rfl, ⟨nd, rfl⟩⟩; refine ⟨_, rfl, ?_⟩))
  go_meet
  case rel => exact ⟨_, (true), (by first | rfl | (simp; done) | (simp [*]; done)), H', ⟨by first | omega | exact Nat.le_refl _⟩, ⟨by (with_reducible repeat (first | refine qh0 ?_ _ | refine qj0 ?_ | refine qi0 ?_ _)); exact BK185.out⟩, ⟨by repeat (first | (with_reducible first | exact HB.out | apply qc0 | apply qa0 | apply qb0 | refine qg0 ?_ GE185.out) | exact HB.out)⟩⟩
 case rest =>
  clear HC2
  try clear c1
  try clear p2
  try clear c5
  try clear c7
  try clear c9
  try clear c10
  try clear c10b0
  try clear hcz11_0
  try clear hcz11_1
  try clear hcz11_2
  try clear hcz11_3
  try clear hcz12_0
  try clear hcz12_1
  try clear hcz12_2
  try clear hcz12_3
  try clear hcz13_0
  try clear hcz13_1
  try clear hcz13_2
  try clear hcz13_3
  try clear hcz14_0
  try clear hcz14_1
  try clear hcz14_2
  try clear hcz14_3
  try clear hcz15_0
  try clear hcz15_1
  try clear hcz15_2
  try clear hcz15_3
  try clear hfz11_0
  try clear hfz11_1
  try clear hfz11_2
  try clear hfz11_3
  try clear hfz12_0
  try clear hfz12_1
  try clear hfz12_2
  try clear hfz12_3
  try clear hfz13_0
  try clear hfz13_1
  try clear hfz13_2
  try clear hfz13_3
  try clear hfz14_0
  try clear hfz14_1
  try clear hfz14_2
  try clear hfz14_3
  try clear hfz15_0
  try clear hfz15_1
  try clear hfz15_2
  try clear hfz15_3
  obtain ⟨kq, x33_1, rfl, HA, HJ1, BK185, HB⟩ := hcut
  cases kq with
  | zero => exact absurd HA.out (by simp [impl_dutyOk.j0])
  | succ kj1 =>
   have H := HA.out
   clear HA
   simp only [impl_dutyOk.j0] at H
   by_cases c16 : x33_1 = true
   ·subst c16
    have H1 : (some false) = some r := by rw [if_pos rfl] at H; exact H
    clear H
    have H := H1
    clear H1
    obtain rfl := Option.some.inj H
    go_wp2
    go_ret
    exact ⟨by first | rfl | (simp [errW_none, errW_some] <;> rfl) | (simp [*, errW_none, errW_some] <;> rfl), by repeat (first | (with_reducible first | exact HB.out | apply qc0 | apply qa0 | apply qb0 | refine qg0 ?_ GE185.out) | exact HB.out)⟩
   replace c16 := Bool.eq_false_iff.mpr c16
   subst c16
   have H1 : (impl_dutyOk.l0 kj1 l0_3 (l0_3.length : Int) 0 a0_0 a0_1 a0_2 l0_3) = some r := by rw [if_neg (show ¬ (false = true) by decide)] at H; exact H
   clear H
   have H := H1
   clear H1
   have H' := Aside0.mk H
   clear H
   have hcz17_0 : wc.cell? ⟨gb185, 0, none⟩ = some (.int .i64 a0_0) := (qd0 BK185.out 0).trans rfl
   have hcz17_1 : wc.cell? ⟨gb185, 1, none⟩ = some (.int .i64 a0_1) := (qd0 BK185.out 1).trans rfl
   have hcz17_2 : wc.cell? ⟨gb185, 2, none⟩ = some (.int .i64 a0_2) := (qd0 BK185.out 2).trans rfl
   have hcz17_3 : wc.cell? ⟨gb185, 3, none⟩ = some (.slice A0_3 l0_3.length c0_3) := (qd0 BK185.out 3).trans rfl
   have hfz17_0 := qf0 BK185.out 0
   have hfz17_1 := qf0 BK185.out 1
   have hfz17_2 := qf0 BK185.out 2
   have hfz17_3 := qf0 BK185.out 3
   go_wp2
   go_loopg [37] kj1 (fun kq v37 w' => ∃ (x37_2 : Int), v37 = .int .i64 x37_2 ∧ Aside0 (impl_dutyOk.l0 kq l0_3 (l0_3.length : Int) x37_2 a0_0 a0_1 a0_2 l0_3 = some r) ∧ Aside0 (kq ≤ kj1) ∧ Aside0 (w'.heap[gb185]? = some (.cells #[.int .i64 a0_0, .int .i64 a0_1, .int .i64 a0_2, (.slice A0_3 l0_3.length c0_3)] 143 (0, 0))) ∧ Aside0 (Below w.heap.size w w'))
   case atStart => exact ⟨(0), (by first | rfl | (simp; done) | (simp [*]; done)), H', ⟨Nat.le_refl _⟩, ⟨by (with_reducible repeat (first | refine qh0 ?_ _ | refine qj0 ?_ | refine qi0 ?_ _)); exact BK185.out⟩, ⟨by repeat (first | (with_reducible first | exact HB.out | apply qc0 | apply qa0 | apply qb0 | refine qg0 ?_ GE185.out) | exact HB.out)⟩⟩
   case round =>
    clear H'
    try clear c1
    try clear p2
    try clear c5
    try clear c7
    try clear c9
    try clear c10
    try clear c10b0
    try clear c16
    try clear hcz11_0
    try clear hcz11_1
    try clear hcz11_2
    try clear hcz11_3
    try clear hcz12_0
    try clear hcz12_1
    try clear hcz12_2
    try clear hcz12_3
    try clear hcz13_0
    try clear hcz13_1
    try clear hcz13_2
    try clear hcz13_3
    try clear hcz14_0
    try clear hcz14_1
    try clear hcz14_2
    try clear hcz14_3
    try clear hcz15_0
    try clear hcz15_1
    try clear hcz15_2
    try clear hcz15_3
    try clear hcz17_0
    try clear hcz17_1
    try clear hcz17_2
    try clear hcz17_3
    try clear hfz11_0
    try clear hfz11_1
    try clear hfz11_2
    try clear hfz11_3
    try clear hfz12_0
    try clear hfz12_1
    try clear hfz12_2
    try clear hfz12_3
    try clear hfz13_0
    try clear hfz13_1
    try clear hfz13_2
    try clear hfz13_3
    try clear hfz14_0
    try clear hfz14_1
    try clear hfz14_2
    try clear hfz14_3
    try clear hfz15_0
    try clear hfz15_1
    try clear hfz15_2
    try clear hfz15_3
    try clear hfz17_0
    try clear hfz17_1
    try clear hfz17_2
    try clear hfz17_3
    try clear p2
    obtain ⟨x37_2, rfl, HA, HK2, BK185, HB⟩ := hrel
    cases gk with
    | zero => exact absurd HA.out (by simp [impl_dutyOk.l0])
    | succ k2 =>
     have H := HA.out
     clear HA
     simp only [impl_dutyOk.l0] at H
     by_cases c18 : x37_2 < (l0_3.length : Int)
     ·rw [if_pos c18] at H
      have c18b0 : decide (x37_2 < (l0_3.length : Int)) = true := decide_eq_true c18
      clear c18
      by_cases c19 : 0 ≤ x37_2
      case neg => rw [if_neg c19] at H; exact absurd H (by simp)
      rw [if_pos c19] at H
      have c19b0 : decide (0 ≤ x37_2) = true := decide_eq_true c19
      clear c19
      by_cases c20 : x37_2 < (l0_3.length : Int)
      case neg => rw [if_neg c20] at H; exact absurd H (by simp)
      rw [if_pos c20] at H
      have c20b0 : decide (x37_2 < (l0_3.length : Int)) = true := decide_eq_true c20
      clear c20
      replace H := Option.bind_eq_some_iff.mp H
      obtain ⟨t191, A210, H⟩ := H
      replace H : (if t191 = true then ((impl_between.f ((rd_T218 l0_3 x37_2).f1) 0 1000).bind fun t192 => (if t192 = true then (if x37_2 > 0 then (if 0 ≤ (wrap64 (x37_2 - 1)) then (if (wrap64 (x37_2 - 1)) < (l0_3.length : Int) then (if ((rd_T218 l0_3 (wrap64 (x37_2 - 1))).f0) ≥ ((rd_T218 l0_3 x37_2).f0) then (some false) else (if ((rd_T218 l0_3 (wrap64 (x37_2 - 1))).f1) > ((rd_T218 l0_3 x37_2).f1) then (some false) else (impl_dutyOk.l0 k2 l0_3 (l0_3.length : Int) (wrap64 (x37_2 + 1)) a0_0 a0_1 a0_2 l0_3))) else (none)) else (none)) else (impl_dutyOk.l0 k2 l0_3 (l0_3.length : Int) (wrap64 (x37_2 + 1)) a0_0 a0_1 a0_2 l0_3)) else (some false))) else (some false)) = some r := H
      have A21 := Aside0.mk A210
      clear A210
      by_cases c22 : t191 = true
      ·subst c22
       have H1 : ((impl_between.f ((rd_T218 l0_3 x37_2).f1) 0 1000).bind fun t192 => (if t192 = true then (if x37_2 > 0 then (if 0 ≤ (wrap64 (x37_2 - 1)) then (if (wrap64 (x37_2 - 1)) < (l0_3.length : Int) then (if ((rd_T218 l0_3 (wrap64 (x37_2 - 1))).f0) ≥ ((rd_T218 l0_3 x37_2).f0) then (some false) else (if ((rd_T218 l0_3 (wrap64 (x37_2 - 1))).f1) > ((rd_T218 l0_3 x37_2).f1) then (some false) else (impl_dutyOk.l0 k2 l0_3 (l0_3.length : Int) (wrap64 (x37_2 + 1)) a0_0 a0_1 a0_2 l0_3))) else (none)) else (none)) else (impl_dutyOk.l0 k2 l0_3 (l0_3.length : Int) (wrap64 (x37_2 + 1)) a0_0 a0_1 a0_2 l0_3)) else (some false))) = some r := by rw [if_pos rfl] at H; exact H
       clear H
       have H := H1
       clear H1
       replace H := Option.bind_eq_some_iff.mp H
       obtain ⟨t192, A230, H⟩ := H
       replace H : (if t192 = true then (if x37_2 > 0 then (if 0 ≤ (wrap64 (x37_2 - 1)) then (if (wrap64 (x37_2 - 1)) < (l0_3.length : Int) then (if ((rd_T218 l0_3 (wrap64 (x37_2 - 1))).f0) ≥ ((rd_T218 l0_3 x37_2).f0) then (some false) else (if ((rd_T218 l0_3 (wrap64 (x37_2 - 1))).f1) > ((rd_T218 l0_3 x37_2).f1) then (some false) else (impl_dutyOk.l0 k2 l0_3 (l0_3.length : Int) (wrap64 (x37_2 + 1)) a0_0 a0_1 a0_2 l0_3))) else (none)) else (none)) else (impl_dutyOk.l0 k2 l0_3 (l0_3.length : Int) (wrap64 (x37_2 + 1)) a0_0 a0_1 a0_2 l0_3)) else (some false)) = some r := H
       have A23 := Aside0.mk A230
       clear A230
       by_cases c24 : t192 = true
       ·subst c24
        have H1 : (if x37_2 > 0 then (if 0 ≤ (wrap64 (x37_2 - 1)) then (if (wrap64 (x37_2 - 1)) < (l0_3.length : Int) then (if ((rd_T218 l0_3 (wrap64 (x37_2 - 1))).f0) ≥ ((rd_T218 l0_3 x37_2).f0) then (some false) else (if ((rd_T218 l0_3 (wrap64 (x37_2 - 1))).f1) > ((rd_T218 l0_3 x37_2).f1) then (some false) else (impl_dutyOk.l0 k2 l0_3 (l0_3.length : Int) (wrap64 (x37_2 + 1)) a0_0 a0_1 a0_2 l0_3))) else (none)) else (none)) else (impl_dutyOk.l0 k2 l0_3 (l0_3.length : Int) (wrap64 (x37_2 + 1)) a0_0 a0_1 a0_2 l0_3)) = some r := by rw [if_pos rfl] at H; exact H
        clear H
        have H := H1
        clear H1
        by_cases c25 : x37_2 > 0
        ·rw [if_pos c25] at H
         have c25b0 : decide (0 < x37_2) = true := decide_eq_true c25
         clear c25
         obtain ⟨ji26, hji26⟩ : ∃ j_ : Int, (wrap64 (x37_2 - 1)) = j_ := ⟨_, rfl⟩
         replace H : (if 0 ≤ (ji26) then (if (ji26) < (l0_3.length : Int) then (if ((rd_T218 l0_3 (ji26)).f0) ≥ ((rd_T218 l0_3 x37_2).f0) then (some false) else (if ((rd_T218 l0_3 (ji26)).f1) > ((rd_T218 l0_3 x37_2).f1) then (some false) else (impl_dutyOk.l0 k2 l0_3 (l0_3.length : Int) (wrap64 (x37_2 + 1)) a0_0 a0_1 a0_2 l0_3))) else (none)) else (none)) = some r := by first | (rw [hji26] at H; exact H) | (simp only [hji26] at H ⊢; exact H)
         (try rw [hji26] at A21)
         (try rw [hji26] at A23)
         have hji26w : (IntKind.i64.wrap (x37_2 - 1)) = ji26 := (i64_w _).trans hji26
         by_cases c27 : 0 ≤ (ji26)
         case neg => rw [if_neg c27] at H; exact absurd H (by simp)
         rw [if_pos c27] at H
         have c27b0 : decide (0 ≤ (ji26)) = true := decide_eq_true c27
         clear c27
         by_cases c28 : (ji26) < (l0_3.length : Int)
         case neg => rw [if_neg c28] at H; exact absurd H (by simp)
         rw [if_pos c28] at H
         have c28b0 : decide ((ji26) < (l0_3.length : Int)) = true := decide_eq_true c28
         clear c28
         by_cases c29 : ((rd_T218 l0_3 (ji26)).f0) ≥ ((rd_T218 l0_3 x37_2).f0)
         ·rw [if_pos c29] at H
          have c29b0 : decide (((rd_T218 l0_3 x37_2).f0) ≤ ((rd_T218 l0_3 (ji26)).f0)) = true := decide_eq_true c29
          clear c29
          obtain rfl := Option.some.inj H
          have p189 : 0 ≤ (x37_2 : Int) := of_decide_eq_true (by first | (with_reducible assumption) | assumption)
          have q189 : x37_2 < (l0_3.length : Int) := of_decide_eq_true (by first | (with_reducible assumption) | assumption)
          obtain ⟨ad189, e189, hx189_0, hx189_1⟩ := at_T218 HR0_3.out x37_2 p189 q189
          cases e189
          replace hx189_0 := (HB.out.cell (World.block_lt_of_cell? w _ hx189_0)).trans hx189_0
          replace hx189_1 := (HB.out.cell (World.block_lt_of_cell? w _ hx189_1)).trans hx189_1
          replace p189 := eq_true p189
          replace q189 := eq_true q189
          try go_wp2_with (first | ((with_reducible refine qu0 (N := 4) rfl ?_); (try (refine qx0 (by rfl) ?_; dsimp only)); refine qy0 ?hg (N := 4) ?hd (cs := #[.int .i64 0, .int .i64 0]) (t := 218) ?hr ?_; (case hd => rfl); (case hg => rfl); (case hr => first | (go_simp; done) | (go_simp; rfl)); intro gb190 hg w30 hbox hb; have n0_ := Aside0.mk (qa1 (g := gb185) (o := .cells #[.int .i64 a0_0, .int .i64 a0_1, .int .i64 a0_2, .slice (some ad189) l0_3.length c0_3] 143 (0, 0)) (by (with_reducible repeat (first | refine qh0 ?_ _ | refine qj0 ?_ | refine qi0 ?_ _)); exact BK185.out) hb); have n1_ := Aside0.mk (qo0 (by repeat (first | (with_reducible first | exact HB.out | apply qc0 | apply qa0 | apply qb0 | refine qg0 ?_ GE185.out) | exact HB.out)) hb); have n2_ := Aside0.mk (hbox); have n3_ := Aside0.mk ((by rw [hg]; exact (qk0 (by repeat (first | (with_reducible first | exact HB.out | apply qc0 | apply qa0 | apply qb0 | refine qg0 ?_ GE185.out) | exact HB.out))) : w.heap.size ≤ gb190)); have n4_ := Aside0.mk ((by rw [hg]; exact (qk0 (by repeat (first | (with_reducible first | exact HB.out | apply qc0 | apply qa0 | apply qb0 | refine qg0 ?_ GE185.out) | exact HB.out))) : w.heap.size ≤ gb190)); have n5_ := Aside0.mk ((by rw [hg]; exact Nat.ne_of_lt (qb1 (g := gb185) (o := .cells #[.int .i64 a0_0, .int .i64 a0_1, .int .i64 a0_2, .slice (some ad189) l0_3.length c0_3] 143 (0, 0)) (by (with_reducible repeat (first | refine qh0 ?_ _ | refine qj0 ?_ | refine qi0 ?_ _)); exact BK185.out)) : gb185 ≠ gb190)); have n6_ := Aside0.mk ((by rw [hg]; exact Nat.ne_of_gt (qb1 (g := gb185) (o := .cells #[.int .i64 a0_0, .int .i64 a0_1, .int .i64 a0_2, .slice (some ad189) l0_3.length c0_3] 143 (0, 0)) (by (with_reducible repeat (first | refine qh0 ?_ _ | refine qj0 ?_ | refine qi0 ?_ _)); exact BK185.out)) : gb190 ≠ gb185)); clear BK185; clear HB; have BK185 := n0_; have HB := n1_; have BK190 := n2_; have GW190 := n3_; have GE190 := n4_; have NB185_190 := n5_; have NB190_185 := n6_; clear n0_ n1_ n2_ n3_ n4_ n5_ n6_; clear hb hbox hg; have hnb31 := NB190_185.out; have hnc31 := NB185_190.out; have hcz32_0 : w30.cell? ⟨gb190, 0, none⟩ = some (.int .i64 0) := (qd0 BK190.out 0).trans rfl; have hcz32_1 : w30.cell? ⟨gb190, 1, none⟩ = some (.int .i64 0) := (qd0 BK190.out 1).trans rfl; have hfz32_0 := qf0 BK190.out 0; have hfz32_1 := qf0 BK190.out 1))
          have n0_ : Aside0 (((w30.setCell ⟨gb190, 0, none⟩ (.int .i64 ((rd_T218 l0_3 x37_2).f0))).setCell ⟨gb190, 1, none⟩ (.int .i64 ((rd_T218 l0_3 x37_2).f1))).heap[gb185]? = some (.cells #[.int .i64 a0_0, .int .i64 a0_1, .int .i64 a0_2, .slice (some ad189) l0_3.length c0_3] 143 (0, 0))) := ⟨by (with_reducible repeat (first | refine qh0 ?_ _ | refine qj0 ?_ | refine qi0 ?_ _)); refine ql1 ?_ NB185_190.out _; (with_reducible repeat (first | refine qh0 ?_ _ | refine qj0 ?_ | refine qi0 ?_ _)); refine ql1 ?_ NB185_190.out _; (with_reducible repeat (first | refine qh0 ?_ _ | refine qj0 ?_ | refine qi0 ?_ _)); exact BK185.out⟩
          have n1_ : Aside0 (((w30.setCell ⟨gb190, 0, none⟩ (.int .i64 ((rd_T218 l0_3 x37_2).f0))).setCell ⟨gb190, 1, none⟩ (.int .i64 ((rd_T218 l0_3 x37_2).f1))).heap[gb190]? = some (.cells #[.int .i64 ((rd_T218 l0_3 x37_2).f0), .int .i64 ((rd_T218 l0_3 x37_2).f1)] 218 (0, 0))) := ⟨by (with_reducible repeat (first | refine qh0 ?_ _ | refine qj0 ?_ | refine qi0 ?_ _)); refine qe1 (cs := #[.int .i64 ((rd_T218 l0_3 x37_2).f0), .int .i64 0]) ?_ 1 _ rfl; (with_reducible repeat (first | refine qh0 ?_ _ | refine qj0 ?_ | refine qi0 ?_ _)); refine qe1 (cs := #[.int .i64 0, .int .i64 0]) ?_ 0 _ rfl; (with_reducible repeat (first | refine qh0 ?_ _ | refine qj0 ?_ | refine qi0 ?_ _)); exact BK190.out⟩
          have n2_ : Aside0 (Below w.heap.size w ((w30.setCell ⟨gb190, 0, none⟩ (.int .i64 ((rd_T218 l0_3 x37_2).f0))).setCell ⟨gb190, 1, none⟩ (.int .i64 ((rd_T218 l0_3 x37_2).f1)))) := ⟨by repeat (first | (with_reducible first | exact HB.out | apply qc0 | apply qa0 | apply qb0 | refine qg0 ?_ GE185.out | refine qg0 ?_ GE190.out) | exact HB.out)⟩
          (try clear BK185)
          (try clear BK190)
          (try clear HB)
          generalize ((w30.setCell ⟨gb190, 0, none⟩ (.int .i64 ((rd_T218 l0_3 x37_2).f0))).setCell ⟨gb190, 1, none⟩ (.int .i64 ((rd_T218 l0_3 x37_2).f1))) = w33 at n0_ n1_ n2_ ⊢
          have BK185 := n0_
          have BK190 := n1_
          have HB := n2_
          clear n0_ n1_ n2_
          have n0_ := Aside0.mk (qj0 BK185.out)
          have n1_ := Aside0.mk (qj0 BK190.out)
          have n2_ := Aside0.mk (qb0 HB.out)
          clear BK185
          clear BK190
          clear HB
          have BK185 := n0_
          have BK190 := n1_
          have HB := n2_
          clear n0_ n1_ n2_
          have p193 : 0 ≤ ((ji26) : Int) := of_decide_eq_true (by first | (with_reducible assumption) | assumption)
          have q193 : (ji26) < (l0_3.length : Int) := of_decide_eq_true (by first | (with_reducible assumption) | assumption)
          obtain ⟨ad193, e193, hx193_0, hx193_1⟩ := at_T218 HR0_3.out (ji26) p193 q193
          have hw193_1 := hx193_1
          have hw193_0 := hx193_0
          obtain rfl : ad189 = ad193 := (by injection e193)
          replace hx193_0 := (HB.out.cell (World.block_lt_of_cell? w _ hx193_0)).trans hx193_0
          replace hx193_1 := (HB.out.cell (World.block_lt_of_cell? w _ hx193_1)).trans hx193_1
          replace p193 := eq_true p193
          replace q193 := eq_true q193
          refine qd2 (n := 38) (S := fun w' => w'.cell? ⟨gb190, 0, none⟩ = some (.int .i64 ((rd_T218 l0_3 x37_2).f0)) ∧ w'.cell? ⟨gb190, 1, none⟩ = some (.int .i64 ((rd_T218 l0_3 x37_2).f1)) ∧ w'.cell? ⟨gb185, 0, none⟩ = some (.int .i64 a0_0) ∧ w'.cell? ⟨gb185, 1, none⟩ = some (.int .i64 a0_1) ∧ w'.cell? ⟨gb185, 2, none⟩ = some (.int .i64 a0_2) ∧ w'.cell? ⟨gb185, 3, none⟩ = some (.slice (some ad189) l0_3.length c0_3) ∧ w'.cell? (ad189.add (((ji26)).toNat * 2)) = some (.int .i64 ((rd_T218 l0_3 (ji26)).f0)) ∧ w'.cell? ⟨(ad189.add (((ji26)).toNat * 2)).block, (ad189.add (((ji26)).toNat * 2)).off + 1, none⟩ = some (.int .i64 ((rd_T218 l0_3 (ji26)).f1))) (ds := []) (rb5 [0, 38]) (by kernel_rfl) rfl rfl ⟨(qd0 BK190.out 0).trans rfl, (qd0 BK190.out 1).trans rfl, (qd0 BK185.out 0).trans rfl, (qd0 BK185.out 1).trans rfl, (qd0 BK185.out 2).trans rfl, (qd0 BK185.out 3).trans rfl, ((HB.out.cell (World.block_lt_of_cell? w _ hw193_0)).trans hw193_0), ((HB.out.cell (World.block_lt_of_cell? w _ hw193_1)).trans hw193_1)⟩ (fun hHeld => ?_); refine qn1 impl_dutyOk.tab6 impl_dutyOk.bits6 (fun HT_ HW_ => ?_)
          generalize w33.drew = w34 at BK185 BK190 HB hx193_0 hx193_1 hHeld ⊢
          refine pure_ (i := 0) (N := some 42) (v := ?_) (a' := ?_) (rb5 [1, 37]) rfl rfl (qe0 HT_.out (by kernel_rfl)) (fun _ _ _ h => h) (Or.inl ⟨by rfl, ?_⟩) ?_ ?_
          rotate_left
          ·intro w'
           go_simp
           with_reducible rfl
          rotate_left
          ·simp only [Act.put, List.setIfInBounds_toArray, List.set_cons_zero, List.set_cons_succ, i64_w, i32_w]
           rfl
          refine take_ (i := 1) (N := some 43) (v := ?_) (a' := ?_) (rb5 [2, 36]) rfl rfl (qr0 HT_.out HW_.out (by kernel_rfl)) (fun _ _ _ h => h) (Or.inl ⟨by rfl, ?_⟩) hHeld ?_ ?_
          rotate_left
          ·rintro w' ⟨s0, s1, s2, s3, s4, s5, s6, s7⟩
           go_simp
           with_reducible rfl
          rotate_left
          ·simp only [Act.put, List.setIfInBounds_toArray, List.set_cons_zero, List.set_cons_succ, i64_w, i32_w]
           rfl
          refine one_ (i := 2) (N := some 44) (rb5 [3, 35]) rfl rfl (qw1 HT_.out (by kernel_rfl)) (by decide) (fun K hK => ?_)
          refine goes_ Try.func88 (by kernel_rfl) rfl #[.int .i64 ((rd_T218 l0_3 x37_2).f0)] (by rfl) rfl rfl (by (try simp only [List.map_toArray, List.map_cons, List.map_nil]); first | done | rfl | (simp only [List.length_drop, List.length_take]; rfl)) ?_
          with_reducible refine (impl_isDay.calls ((rd_T218 l0_3 x37_2).f0) true _ A21.out).mono ?_
          rintro e w' ⟨rfl, ⟨nd, rfl⟩⟩
          refine ⟨_, rfl, ?_⟩
          refine hK.out _ _ ⟨(qd0 BK190.out 0).trans rfl, (qd0 BK190.out 1).trans rfl, (qd0 BK185.out 0).trans rfl, (qd0 BK185.out 1).trans rfl, (qd0 BK185.out 2).trans rfl, (qd0 BK185.out 3).trans rfl, ((HB.out.cell (World.block_lt_of_cell? w _ hw193_0)).trans hw193_0), ((HB.out.cell (World.block_lt_of_cell? w _ hw193_1)).trans hw193_1)⟩ (fun hHeld => ?_)
          clear hK K
          refine norm_ (a' := ?_) ?_ ?_
          rotate_left
          ·show Act.put _ (some 44) _ = _
           simp only [Act.put, List.setIfInBounds_toArray, List.set_cons_zero, List.set_cons_succ, i64_w, i32_w]
           rfl
          refine pure_ (i := 3) (N := some 45) (v := ?_) (a' := ?_) (rb5 [4, 34]) rfl rfl (qe0 HT_.out (by kernel_rfl)) (fun _ _ _ h => h) (Or.inl ⟨by rfl, ?_⟩) ?_ ?_
          rotate_left
          ·intro w'
           go_simp
           with_reducible rfl
          rotate_left
          ·simp only [Act.put, List.setIfInBounds_toArray, List.set_cons_zero, List.set_cons_succ, i64_w, i32_w]
           rfl
          refine pure_ (i := 4) (N := some 46) (v := ?_) (a' := ?_) (rb5 [5, 33]) rfl rfl (qe0 HT_.out (by kernel_rfl)) (fun _ _ _ h => h) (Or.inl ⟨by rfl, ?_⟩) ?_ ?_
          rotate_left
          ·intro w'
           go_simp
           with_reducible rfl
          rotate_left
          ·simp only [Act.put, List.setIfInBounds_toArray, List.set_cons_zero, List.set_cons_succ, i64_w, i32_w]
           rfl
          refine pure_ (i := 5) (N := some 47) (v := ?_) (a' := ?_) (rb5 [6, 32]) rfl rfl (qe0 HT_.out (by kernel_rfl)) (fun _ _ _ h => h) (Or.inl ⟨by rfl, ?_⟩) ?_ ?_
          rotate_left
          ·intro w'
           go_simp
           with_reducible rfl
          rotate_left
          ·simp only [Act.put, List.setIfInBounds_toArray, List.set_cons_zero, List.set_cons_succ, i64_w, i32_w]
           rfl
          refine take_ (i := 6) (N := some 48) (v := ?_) (a' := ?_) (rb5 [7, 31]) rfl rfl (qr0 HT_.out HW_.out (by kernel_rfl)) (fun _ _ _ h => h) (Or.inl ⟨by rfl, ?_⟩) hHeld ?_ ?_
          rotate_left
          ·rintro w' ⟨s0, s1, s2, s3, s4, s5, s6, s7⟩
           go_simp
           with_reducible rfl
          rotate_left
          ·simp only [Act.put, List.setIfInBounds_toArray, List.set_cons_zero, List.set_cons_succ, i64_w, i32_w]
           rfl
          refine one_ (i := 7) (N := some 49) (rb5 [8, 30]) rfl rfl (qw1 HT_.out (by kernel_rfl)) (by decide) (fun K hK => ?_)
          refine goes_ Try.func74 (by kernel_rfl) rfl #[.int .i64 ((rd_T218 l0_3 x37_2).f1), .int .i64 0, .int .i64 1000] (by rfl) rfl rfl (by (try simp only [List.map_toArray, List.map_cons, List.map_nil]); first | done | rfl | (simp only [List.length_drop, List.length_take]; rfl)) ?_
          with_reducible refine (impl_between.calls ((rd_T218 l0_3 x37_2).f1) 0 1000 true _ A23.out).mono ?_
          rintro e w' ⟨rfl, ⟨nd, rfl⟩⟩
          refine ⟨_, rfl, ?_⟩
          refine hK.out _ _ ⟨(qd0 BK190.out 0).trans rfl, (qd0 BK190.out 1).trans rfl, (qd0 BK185.out 0).trans rfl, (qd0 BK185.out 1).trans rfl, (qd0 BK185.out 2).trans rfl, (qd0 BK185.out 3).trans rfl, ((HB.out.cell (World.block_lt_of_cell? w _ hw193_0)).trans hw193_0), ((HB.out.cell (World.block_lt_of_cell? w _ hw193_1)).trans hw193_1)⟩ (fun hHeld => ?_)
          clear hK K
          refine norm_ (a' := ?_) ?_ ?_
          rotate_left
          ·show Act.put _ (some 49) _ = _
           simp only [Act.put, List.setIfInBounds_toArray, List.set_cons_zero, List.set_cons_succ, i64_w, i32_w]
           rfl
          refine pure_ (i := 8) (N := some 50) (v := ?_) (a' := ?_) (rb5 [9, 29]) rfl rfl (qe0 HT_.out (by kernel_rfl)) (fun _ _ _ h => h) (Or.inl ⟨by rfl, ?_⟩) ?_ ?_
          rotate_left
          ·intro w'
           go_simp
           with_reducible rfl
          rotate_left
          ·simp only [Act.put, List.setIfInBounds_toArray, List.set_cons_zero, List.set_cons_succ, i64_w, i32_w]
           rfl
          refine pure_ (i := 9) (N := some 51) (v := ?_) (a' := ?_) (rb5 [10, 28]) rfl rfl (qe0 HT_.out (by kernel_rfl)) (fun _ _ _ h => h) (Or.inl ⟨by rfl, ?_⟩) ?_ ?_
          rotate_left
          ·intro w'
           go_simp
           with_reducible rfl
          rotate_left
          ·simp only [Act.put, List.setIfInBounds_toArray, List.set_cons_zero, List.set_cons_succ, i64_w, i32_w]
           rfl
          refine pure_ (i := 10) (N := some 52) (v := ?_) (a' := ?_) (rb5 [11, 27]) rfl rfl (qe0 HT_.out (by kernel_rfl)) (fun _ _ _ h => h) (Or.inl ⟨by rfl, ?_⟩) ?_ ?_
          rotate_left
          ·intro w'
           go_simp
           with_reducible rfl
          rotate_left
          ·simp only [Act.put, List.setIfInBounds_toArray, List.set_cons_zero, List.set_cons_succ, i64_w, i32_w]
           rfl
          refine pure_ (i := 11) (N := some 53) (v := ?_) (a' := ?_) (rb5 [12, 26]) rfl rfl (qe0 HT_.out (by kernel_rfl)) (fun _ _ _ h => h) (Or.inl ⟨by rfl, ?_⟩) ?_ ?_
          rotate_left
          ·intro w'
           go_simp
           with_reducible rfl
          rotate_left
          ·simp only [Act.put, List.setIfInBounds_toArray, List.set_cons_zero, List.set_cons_succ, i64_w, i32_w]
           rfl
          refine pure_ (i := 12) (N := some 54) (v := ?_) (a' := ?_) (rb5 [13, 25]) rfl rfl (qe0 HT_.out (by kernel_rfl)) (fun _ _ _ h => h) (Or.inl ⟨by rfl, ?_⟩) ?_ ?_
          rotate_left
          ·intro w'
           go_simp
           with_reducible rfl
          rotate_left
          ·simp only [Act.put, List.setIfInBounds_toArray, List.set_cons_zero, List.set_cons_succ, i64_w, i32_w]
           rfl
          refine pure_ (i := 13) (N := some 55) (v := ?_) (a' := ?_) (rb5 [14, 24]) rfl rfl (qe0 HT_.out (by kernel_rfl)) (fun _ _ _ h => h) (Or.inl ⟨by rfl, ?_⟩) ?_ ?_
          rotate_left
          ·intro w'
           go_simp
           with_reducible rfl
          rotate_left
          ·simp only [Act.put, List.setIfInBounds_toArray, List.set_cons_zero, List.set_cons_succ, i64_w, i32_w]
           rfl
          refine pure_ (i := 14) (N := some 56) (v := ?_) (a' := ?_) (rb5 [15, 23]) rfl rfl (qe0 HT_.out (by kernel_rfl)) (fun _ _ _ h => h) (Or.inl ⟨by rfl, ?_⟩) ?_ ?_
          rotate_left
          ·intro w'
           go_simp
           with_reducible rfl
          rotate_left
          ·simp only [Act.put, List.setIfInBounds_toArray, List.set_cons_zero, List.set_cons_succ, i64_w, i32_w]
           rfl
          refine pure_ (i := 16) (N := some 58) (v := ?_) (a' := ?_) (rb5 [15, 1, 1, 21]) rfl rfl (qe0 HT_.out (by kernel_rfl)) (fun _ _ _ h => h) (Or.inl ⟨by rfl, ?_⟩) ?_ ?_
          rotate_left
          ·intro w'
           go_simp
           with_reducible rfl
          rotate_left
          ·simp only [Act.put, List.setIfInBounds_toArray, List.set_cons_zero, List.set_cons_succ, i64_w, i32_w]
           rfl
          refine pure_ (i := 17) (N := some 59) (v := ?_) (a' := ?_) (rb5 [15, 1, 2, 20]) rfl rfl (qe0 HT_.out (by kernel_rfl)) (fun _ _ _ h => h) (Or.inl ⟨by rfl, ?_⟩) ?_ ?_
          rotate_left
          ·intro w'
           go_simp
           with_reducible rfl
          rotate_left
          ·simp only [Act.put, List.setIfInBounds_toArray, List.set_cons_zero, List.set_cons_succ, i64_w, i32_w]
           rfl
          refine pure_ (i := 21) (N := some 63) (v := ?_) (a' := ?_) (rb5 [15, 1, 2, 3, 1, 16]) rfl rfl (qe0 HT_.out (by kernel_rfl)) (fun _ _ _ h => h) (Or.inl ⟨by rfl, ?_⟩) ?_ ?_
          rotate_left
          ·intro w'
           go_simp
           with_reducible rfl
          rotate_left
          ·simp only [Act.put, List.setIfInBounds_toArray, List.set_cons_zero, List.set_cons_succ, i64_w, i32_w]
           rfl
          refine take_ (i := 15) (N := some 57) (v := ?_) (a' := ?_) (rb5 [18, 3, 1, 16]) rfl rfl (qr0 HT_.out HW_.out (by kernel_rfl)) (fun _ _ _ h => h) (Or.inl ⟨by rfl, ?_⟩) hHeld ?_ ?_
          rotate_left
          ·rintro w' ⟨s0, s1, s2, s3, s4, s5, s6, s7⟩
           go_simp
           with_reducible rfl
          rotate_left
          ·simp only [Act.put, List.setIfInBounds_toArray, List.set_cons_zero, List.set_cons_succ, i64_w, i32_w]
           rfl
          refine pure_ (i := 18) (N := some 60) (v := ?_) (a' := ?_) (rb5 [19, 2, 1, 16]) rfl rfl (qe0 HT_.out (by kernel_rfl)) (fun _ _ _ h => h) (Or.inl ⟨by rfl, ?_⟩) ?_ ?_
          rotate_left
          ·intro w'
           go_simp
           with_reducible rfl
          rotate_left
          ·simp only [Act.put, List.setIfInBounds_toArray, List.set_cons_zero, List.set_cons_succ, i64_w, i32_w]
           rfl
          refine pure_ (i := 19) (N := some 61) (v := ?_) (a' := ?_) (rb5 [20, 1, 1, 16]) rfl rfl (qe0 HT_.out (by kernel_rfl)) (fun _ _ _ h => h) (Or.inl ⟨by rfl, ?_⟩) ?_ ?_
          rotate_left
          ·intro w'
           go_simp
           with_reducible rfl
          rotate_left
          ·simp only [Act.put, List.setIfInBounds_toArray, List.set_cons_zero, List.set_cons_succ, i64_w, i32_w]
           rfl
          refine take_ (i := 20) (N := some 62) (v := ?_) (a' := ?_) (rb5 [22, 16]) rfl rfl (qr0 HT_.out HW_.out (by kernel_rfl)) (fun _ _ _ h => h) (Or.inl ⟨by rfl, ?_⟩) hHeld ?_ ?_
          rotate_left
          ·rintro w' ⟨s0, s1, s2, s3, s4, s5, s6, s7⟩
           go_simp
           with_reducible rfl
          rotate_left
          ·simp only [Act.put, List.setIfInBounds_toArray, List.set_cons_zero, List.set_cons_succ, i64_w, i32_w]
           rfl
          refine take_ (i := 22) (N := some 64) (v := ?_) (a' := ?_) (rb5 [23, 15]) rfl rfl (qr0 HT_.out HW_.out (by kernel_rfl)) (fun _ _ _ h => h) (Or.inl ⟨by rfl, ?_⟩) hHeld ?_ ?_
          rotate_left
          ·rintro w' ⟨s0, s1, s2, s3, s4, s5, s6, s7⟩
           go_simp
           with_reducible rfl
          rotate_left
          ·simp only [Act.put, List.setIfInBounds_toArray, List.set_cons_zero, List.set_cons_succ, i64_w, i32_w]
           rfl
          refine pure_ (i := 23) (N := some 65) (v := ?_) (a' := ?_) (rb5 [24, 14]) rfl rfl (qe0 HT_.out (by kernel_rfl)) (fun _ _ _ h => h) (Or.inl ⟨by rfl, ?_⟩) ?_ ?_
          rotate_left
          ·intro w'
           go_simp
           with_reducible rfl
          rotate_left
          ·simp only [Act.put, List.setIfInBounds_toArray, List.set_cons_zero, List.set_cons_succ, i64_w, i32_w]
           rfl
          refine pure_ (i := 24) (N := some 66) (v := ?_) (a' := ?_) (rb5 [25, 13]) rfl rfl (qe0 HT_.out (by kernel_rfl)) (fun _ _ _ h => h) (Or.inl ⟨by rfl, ?_⟩) ?_ ?_
          rotate_left
          ·intro w'
           go_simp
           with_reducible rfl
          rotate_left
          ·simp only [Act.put, List.setIfInBounds_toArray, List.set_cons_zero, List.set_cons_succ, i64_w, i32_w]
           rfl
          refine pure_ (i := 25) (N := some 67) (v := undef) (a' := ?_) (rb5 [26, 12]) rfl rfl (qe0 HT_.out (by kernel_rfl)) (fun _ _ _ h => h) (Or.inr ⟨by rfl, rfl⟩) ?_ ?_
          rotate_left
          ·simp only [Act.put, List.setIfInBounds_toArray, List.set_cons_zero, List.set_cons_succ, i64_w, i32_w]
           rfl
          refine pure_ (i := 26) (N := some 68) (v := undef) (a' := ?_) (rb5 [27, 11]) rfl rfl (qe0 HT_.out (by kernel_rfl)) (fun _ _ _ h => h) (Or.inr ⟨by rfl, rfl⟩) ?_ ?_
          rotate_left
          ·simp only [Act.put, List.setIfInBounds_toArray, List.set_cons_zero, List.set_cons_succ, i64_w, i32_w]
           rfl
          refine pure_ (i := 27) (N := some 69) (v := undef) (a' := ?_) (rb5 [28, 10]) rfl rfl (qe0 HT_.out (by kernel_rfl)) (fun _ _ _ h => h) (Or.inr ⟨by rfl, rfl⟩) ?_ ?_
          rotate_left
          ·simp only [Act.put, List.setIfInBounds_toArray, List.set_cons_zero, List.set_cons_succ, i64_w, i32_w]
           rfl
          refine pure_ (i := 28) (N := some 70) (v := undef) (a' := ?_) (rb5 [29, 9]) rfl rfl (qe0 HT_.out (by kernel_rfl)) (fun _ _ _ h => h) (Or.inr ⟨by rfl, rfl⟩) ?_ ?_
          rotate_left
          ·simp only [Act.put, List.setIfInBounds_toArray, List.set_cons_zero, List.set_cons_succ, i64_w, i32_w]
           rfl
          refine pure_ (i := 29) (N := some 71) (v := undef) (a' := ?_) (rb5 [30, 8]) rfl rfl (qe0 HT_.out (by kernel_rfl)) (fun _ _ _ h => h) (Or.inr ⟨by rfl, rfl⟩) ?_ ?_
          rotate_left
          ·simp only [Act.put, List.setIfInBounds_toArray, List.set_cons_zero, List.set_cons_succ, i64_w, i32_w]
           rfl
          refine pure_ (i := 30) (N := some 72) (v := undef) (a' := ?_) (rb5 [31, 7]) rfl rfl (qe0 HT_.out (by kernel_rfl)) (fun _ _ _ h => h) (Or.inr ⟨by rfl, rfl⟩) ?_ ?_
          rotate_left
          ·simp only [Act.put, List.setIfInBounds_toArray, List.set_cons_zero, List.set_cons_succ, i64_w, i32_w]
           rfl
          refine pure_ (i := 31) (N := some 73) (v := undef) (a' := ?_) (rb5 [32, 6]) rfl rfl (qe0 HT_.out (by kernel_rfl)) (fun _ _ _ h => h) (Or.inr ⟨by rfl, rfl⟩) ?_ ?_
          rotate_left
          ·simp only [Act.put, List.setIfInBounds_toArray, List.set_cons_zero, List.set_cons_succ, i64_w, i32_w]
           rfl
          refine pure_ (i := 32) (N := some 74) (v := undef) (a' := ?_) (rb5 [33, 5]) rfl rfl (qe0 HT_.out (by kernel_rfl)) (fun _ _ _ h => h) (Or.inr ⟨by rfl, rfl⟩) ?_ ?_
          rotate_left
          ·simp only [Act.put, List.setIfInBounds_toArray, List.set_cons_zero, List.set_cons_succ, i64_w, i32_w]
           rfl
          refine pure_ (i := 33) (N := some 75) (v := undef) (a' := ?_) (rb5 [34, 4]) rfl rfl (qe0 HT_.out (by kernel_rfl)) (fun _ _ _ h => h) (Or.inr ⟨by rfl, rfl⟩) ?_ ?_
          rotate_left
          ·simp only [Act.put, List.setIfInBounds_toArray, List.set_cons_zero, List.set_cons_succ, i64_w, i32_w]
           rfl
          refine pure_ (i := 34) (N := some 76) (v := undef) (a' := ?_) (rb5 [35, 3]) rfl rfl (qe0 HT_.out (by kernel_rfl)) (fun _ _ _ h => h) (Or.inr ⟨by rfl, rfl⟩) ?_ ?_
          rotate_left
          ·simp only [Act.put, List.setIfInBounds_toArray, List.set_cons_zero, List.set_cons_succ, i64_w, i32_w]
           rfl
          refine pure_ (i := 35) (N := some 77) (v := ?_) (a' := ?_) (rb5 [36, 2]) rfl rfl (qe0 HT_.out (by kernel_rfl)) (fun _ _ _ h => h) (Or.inl ⟨by rfl, ?_⟩) ?_ ?_
          rotate_left
          ·intro w'
           go_simp
           with_reducible rfl
          rotate_left
          ·simp only [Act.put, List.setIfInBounds_toArray, List.set_cons_zero, List.set_cons_succ, i64_w, i32_w]
           rfl
          refine pure_ (i := 36) (N := some 78) (v := ?_) (a' := ?_) (rb5 [37, 1]) rfl rfl (qe0 HT_.out (by kernel_rfl)) (fun _ _ _ h => h) (Or.inl ⟨by rfl, ?_⟩) ?_ ?_
          rotate_left
          ·intro w'
           go_simp
           with_reducible rfl
          rotate_left
          ·simp only [Act.put, List.setIfInBounds_toArray, List.set_cons_zero, List.set_cons_succ, i64_w, i32_w]
           rfl
          refine pure_ (i := 37) (N := some 79) (v := ?_) (a' := ?_) (rb5 [38]) rfl rfl (qe0 HT_.out (by kernel_rfl)) (fun _ _ _ h => h) (Or.inl ⟨by rfl, ?_⟩) ?_ ?_
          rotate_left
          ·intro w'
           go_simp
           with_reducible rfl
          rotate_left
          ·simp only [Act.put, List.setIfInBounds_toArray, List.set_cons_zero, List.set_cons_succ, i64_w, i32_w]
           rfl
          refine done_ (qx1 HT_.out (by kernel_rfl)) ?_
          try go_wp2
          go_ret
          exact ⟨by first | rfl | (simp [errW_none, errW_some] <;> rfl) | (simp only [← hji26]; first | rfl | (simp [errW_none, errW_some] <;> rfl)) | (simp [*, errW_none, errW_some] <;> rfl), by repeat (first | (with_reducible first | exact HB.out | apply qc0 | apply qa0 | apply qb0 | refine qg0 ?_ GE185.out | refine qg0 ?_ GE190.out) | exact HB.out)⟩
         rw [if_neg c29] at H
         have c29b0 : decide (((rd_T218 l0_3 x37_2).f0) ≤ ((rd_T218 l0_3 (ji26)).f0)) = false := decide_eq_false c29
         clear c29
         by_cases c35 : ((rd_T218 l0_3 (ji26)).f1) > ((rd_T218 l0_3 x37_2).f1)
         ·rw [if_pos c35] at H
          have c35b0 : decide (((rd_T218 l0_3 x37_2).f1) < ((rd_T218 l0_3 (ji26)).f1)) = true := decide_eq_true c35
          clear c35
          obtain rfl := Option.some.inj H
          have p189 : 0 ≤ (x37_2 : Int) := of_decide_eq_true (by first | (with_reducible assumption) | assumption)
          have q189 : x37_2 < (l0_3.length : Int) := of_decide_eq_true (by first | (with_reducible assumption) | assumption)
          obtain ⟨ad189, e189, hx189_0, hx189_1⟩ := at_T218 HR0_3.out x37_2 p189 q189
          cases e189
          replace hx189_0 := (HB.out.cell (World.block_lt_of_cell? w _ hx189_0)).trans hx189_0
          replace hx189_1 := (HB.out.cell (World.block_lt_of_cell? w _ hx189_1)).trans hx189_1
          replace p189 := eq_true p189
          replace q189 := eq_true q189
          try go_wp2_with (first | ((with_reducible refine qu0 (N := 4) rfl ?_); (try (refine qx0 (by rfl) ?_; dsimp only)); refine qy0 ?hg (N := 4) ?hd (cs := #[.int .i64 0, .int .i64 0]) (t := 218) ?hr ?_; (case hd => rfl); (case hg => rfl); (case hr => first | (go_simp; done) | (go_simp; rfl)); intro gb190 hg w36 hbox hb; have n0_ := Aside0.mk (qa1 (g := gb185) (o := .cells #[.int .i64 a0_0, .int .i64 a0_1, .int .i64 a0_2, .slice (some ad189) l0_3.length c0_3] 143 (0, 0)) (by (with_reducible repeat (first | refine qh0 ?_ _ | refine qj0 ?_ | refine qi0 ?_ _)); exact BK185.out) hb); have n1_ := Aside0.mk (qo0 (by repeat (first | (with_reducible first | exact HB.out | apply qc0 | apply qa0 | apply qb0 | refine qg0 ?_ GE185.out) | exact HB.out)) hb); have n2_ := Aside0.mk (hbox); have n3_ := Aside0.mk ((by rw [hg]; exact (qk0 (by repeat (first | (with_reducible first | exact HB.out | apply qc0 | apply qa0 | apply qb0 | refine qg0 ?_ GE185.out) | exact HB.out))) : w.heap.size ≤ gb190)); have n4_ := Aside0.mk ((by rw [hg]; exact (qk0 (by repeat (first | (with_reducible first | exact HB.out | apply qc0 | apply qa0 | apply qb0 | refine qg0 ?_ GE185.out) | exact HB.out))) : w.heap.size ≤ gb190)); have n5_ := Aside0.mk ((by rw [hg]; exact Nat.ne_of_lt (qb1 (g := gb185) (o := .cells #[.int .i64 a0_0, .int .i64 a0_1, .int .i64 a0_2, .slice (some ad189) l0_3.length c0_3] 143 (0, 0)) (by (with_reducible repeat (first | refine qh0 ?_ _ | refine qj0 ?_ | refine qi0 ?_ _)); exact BK185.out)) : gb185 ≠ gb190)); have n6_ := Aside0.mk ((by rw [hg]; exact Nat.ne_of_gt (qb1 (g := gb185) (o := .cells #[.int .i64 a0_0, .int .i64 a0_1, .int .i64 a0_2, .slice (some ad189) l0_3.length c0_3] 143 (0, 0)) (by (with_reducible repeat (first | refine qh0 ?_ _ | refine qj0 ?_ | refine qi0 ?_ _)); exact BK185.out)) : gb190 ≠ gb185)); clear BK185; clear HB; have BK185 := n0_; have HB := n1_; have BK190 := n2_; have GW190 := n3_; have GE190 := n4_; have NB185_190 := n5_; have NB190_185 := n6_; clear n0_ n1_ n2_ n3_ n4_ n5_ n6_; clear hb hbox hg; have hnb37 := NB190_185.out; have hnc37 := NB185_190.out; have hcz38_0 : w36.cell? ⟨gb190, 0, none⟩ = some (.int .i64 0) := (qd0 BK190.out 0).trans rfl; have hcz38_1 : w36.cell? ⟨gb190, 1, none⟩ = some (.int .i64 0) := (qd0 BK190.out 1).trans rfl; have hfz38_0 := qf0 BK190.out 0; have hfz38_1 := qf0 BK190.out 1))
          have n0_ : Aside0 (((w36.setCell ⟨gb190, 0, none⟩ (.int .i64 ((rd_T218 l0_3 x37_2).f0))).setCell ⟨gb190, 1, none⟩ (.int .i64 ((rd_T218 l0_3 x37_2).f1))).heap[gb185]? = some (.cells #[.int .i64 a0_0, .int .i64 a0_1, .int .i64 a0_2, .slice (some ad189) l0_3.length c0_3] 143 (0, 0))) := ⟨by (with_reducible repeat (first | refine qh0 ?_ _ | refine qj0 ?_ | refine qi0 ?_ _)); refine ql1 ?_ NB185_190.out _; (with_reducible repeat (first | refine qh0 ?_ _ | refine qj0 ?_ | refine qi0 ?_ _)); refine ql1 ?_ NB185_190.out _; (with_reducible repeat (first | refine qh0 ?_ _ | refine qj0 ?_ | refine qi0 ?_ _)); exact BK185.out⟩
          have n1_ : Aside0 (((w36.setCell ⟨gb190, 0, none⟩ (.int .i64 ((rd_T218 l0_3 x37_2).f0))).setCell ⟨gb190, 1, none⟩ (.int .i64 ((rd_T218 l0_3 x37_2).f1))).heap[gb190]? = some (.cells #[.int .i64 ((rd_T218 l0_3 x37_2).f0), .int .i64 ((rd_T218 l0_3 x37_2).f1)] 218 (0, 0))) := ⟨by (with_reducible repeat (first | refine qh0 ?_ _ | refine qj0 ?_ | refine qi0 ?_ _)); refine qe1 (cs := #[.int .i64 ((rd_T218 l0_3 x37_2).f0), .int .i64 0]) ?_ 1 _ rfl; (with_reducible repeat (first | refine qh0 ?_ _ | refine qj0 ?_ | refine qi0 ?_ _)); refine qe1 (cs := #[.int .i64 0, .int .i64 0]) ?_ 0 _ rfl; (with_reducible repeat (first | refine qh0 ?_ _ | refine qj0 ?_ | refine qi0 ?_ _)); exact BK190.out⟩
          have n2_ : Aside0 (Below w.heap.size w ((w36.setCell ⟨gb190, 0, none⟩ (.int .i64 ((rd_T218 l0_3 x37_2).f0))).setCell ⟨gb190, 1, none⟩ (.int .i64 ((rd_T218 l0_3 x37_2).f1)))) := ⟨by repeat (first | (with_reducible first | exact HB.out | apply qc0 | apply qa0 | apply qb0 | refine qg0 ?_ GE185.out | refine qg0 ?_ GE190.out) | exact HB.out)⟩
          (try clear BK185)
          (try clear BK190)
          (try clear HB)
          generalize ((w36.setCell ⟨gb190, 0, none⟩ (.int .i64 ((rd_T218 l0_3 x37_2).f0))).setCell ⟨gb190, 1, none⟩ (.int .i64 ((rd_T218 l0_3 x37_2).f1))) = w39 at n0_ n1_ n2_ ⊢
          have BK185 := n0_
          have BK190 := n1_
          have HB := n2_
          clear n0_ n1_ n2_
          have n0_ := Aside0.mk (qj0 BK185.out)
          have n1_ := Aside0.mk (qj0 BK190.out)
          have n2_ := Aside0.mk (qb0 HB.out)
          clear BK185
          clear BK190
          clear HB
          have BK185 := n0_
          have BK190 := n1_
          have HB := n2_
          clear n0_ n1_ n2_
          have p193 : 0 ≤ ((ji26) : Int) := of_decide_eq_true (by first | (with_reducible assumption) | assumption)
          have q193 : (ji26) < (l0_3.length : Int) := of_decide_eq_true (by first | (with_reducible assumption) | assumption)
          obtain ⟨ad193, e193, hx193_0, hx193_1⟩ := at_T218 HR0_3.out (ji26) p193 q193
          have hw193_1 := hx193_1
          have hw193_0 := hx193_0
          obtain rfl : ad189 = ad193 := (by injection e193)
          replace hx193_0 := (HB.out.cell (World.block_lt_of_cell? w _ hx193_0)).trans hx193_0
          replace hx193_1 := (HB.out.cell (World.block_lt_of_cell? w _ hx193_1)).trans hx193_1
          replace p193 := eq_true p193
          replace q193 := eq_true q193
          have p194 : 0 ≤ ((ji26) : Int) := of_decide_eq_true (by first | (with_reducible assumption) | assumption)
          have q194 : (ji26) < (l0_3.length : Int) := of_decide_eq_true (by first | (with_reducible assumption) | assumption)
          obtain ⟨ad194, e194, hx194_0, hx194_1⟩ := at_T218 HR0_3.out (ji26) p194 q194
          have hw194_1 := hx194_1
          have hw194_0 := hx194_0
          obtain rfl : ad189 = ad194 := (by injection e194)
          replace hx194_0 := (HB.out.cell (World.block_lt_of_cell? w _ hx194_0)).trans hx194_0
          replace hx194_1 := (HB.out.cell (World.block_lt_of_cell? w _ hx194_1)).trans hx194_1
          replace p194 := eq_true p194
          replace q194 := eq_true q194
          refine qd2 (n := 38) (S := fun w' => w'.cell? ⟨gb190, 0, none⟩ = some (.int .i64 ((rd_T218 l0_3 x37_2).f0)) ∧ w'.cell? ⟨gb190, 1, none⟩ = some (.int .i64 ((rd_T218 l0_3 x37_2).f1)) ∧ w'.cell? ⟨gb185, 0, none⟩ = some (.int .i64 a0_0) ∧ w'.cell? ⟨gb185, 1, none⟩ = some (.int .i64 a0_1) ∧ w'.cell? ⟨gb185, 2, none⟩ = some (.int .i64 a0_2) ∧ w'.cell? ⟨gb185, 3, none⟩ = some (.slice (some ad189) l0_3.length c0_3) ∧ w'.cell? (ad189.add (((ji26)).toNat * 2)) = some (.int .i64 ((rd_T218 l0_3 (ji26)).f0)) ∧ w'.cell? ⟨(ad189.add (((ji26)).toNat * 2)).block, (ad189.add (((ji26)).toNat * 2)).off + 1, none⟩ = some (.int .i64 ((rd_T218 l0_3 (ji26)).f1)) ∧ w'.cell? (ad189.add (((ji26)).toNat * 2)) = some (.int .i64 ((rd_T218 l0_3 (ji26)).f0)) ∧ w'.cell? ⟨(ad189.add (((ji26)).toNat * 2)).block, (ad189.add (((ji26)).toNat * 2)).off + 1, none⟩ = some (.int .i64 ((rd_T218 l0_3 (ji26)).f1))) (ds := []) (rb5 [0, 38]) (by kernel_rfl) rfl rfl ⟨(qd0 BK190.out 0).trans rfl, (qd0 BK190.out 1).trans rfl, (qd0 BK185.out 0).trans rfl, (qd0 BK185.out 1).trans rfl, (qd0 BK185.out 2).trans rfl, (qd0 BK185.out 3).trans rfl, ((HB.out.cell (World.block_lt_of_cell? w _ hw193_0)).trans hw193_0), ((HB.out.cell (World.block_lt_of_cell? w _ hw193_1)).trans hw193_1), ((HB.out.cell (World.block_lt_of_cell? w _ hw194_0)).trans hw194_0), ((HB.out.cell (World.block_lt_of_cell? w _ hw194_1)).trans hw194_1)⟩ (fun hHeld => ?_); refine qn1 impl_dutyOk.tab6 impl_dutyOk.bits6 (fun HT_ HW_ => ?_)
          generalize w39.drew = w40 at BK185 BK190 HB hx193_0 hx193_1 hx194_0 hx194_1 hHeld ⊢
          refine pure_ (i := 0) (N := some 42) (v := ?_) (a' := ?_) (rb5 [1, 37]) rfl rfl (qe0 HT_.out (by kernel_rfl)) (fun _ _ _ h => h) (Or.inl ⟨by rfl, ?_⟩) ?_ ?_
          rotate_left
          ·intro w'
           go_simp
           with_reducible rfl
          rotate_left
          ·simp only [Act.put, List.setIfInBounds_toArray, List.set_cons_zero, List.set_cons_succ, i64_w, i32_w]
           rfl
          refine take_ (i := 1) (N := some 43) (v := ?_) (a' := ?_) (rb5 [2, 36]) rfl rfl (qr0 HT_.out HW_.out (by kernel_rfl)) (fun _ _ _ h => h) (Or.inl ⟨by rfl, ?_⟩) hHeld ?_ ?_
          rotate_left
          ·rintro w' ⟨s0, s1, s2, s3, s4, s5, s6, s7, s8, s9⟩
           go_simp
           with_reducible rfl
          rotate_left
          ·simp only [Act.put, List.setIfInBounds_toArray, List.set_cons_zero, List.set_cons_succ, i64_w, i32_w]
           rfl
          refine one_ (i := 2) (N := some 44) (rb5 [3, 35]) rfl rfl (qw1 HT_.out (by kernel_rfl)) (by decide) (fun K hK => ?_)
          refine goes_ Try.func88 (by kernel_rfl) rfl #[.int .i64 ((rd_T218 l0_3 x37_2).f0)] (by rfl) rfl rfl (by (try simp only [List.map_toArray, List.map_cons, List.map_nil]); first | done | rfl | (simp only [List.length_drop, List.length_take]; rfl)) ?_
          with_reducible refine (impl_isDay.calls ((rd_T218 l0_3 x37_2).f0) true _ A21.out).mono ?_
          rintro e w' ⟨rfl, ⟨nd, rfl⟩⟩
          refine ⟨_, rfl, ?_⟩
          refine hK.out _ _ ⟨(qd0 BK190.out 0).trans rfl, (qd0 BK190.out 1).trans rfl, (qd0 BK185.out 0).trans rfl, (qd0 BK185.out 1).trans rfl, (qd0 BK185.out 2).trans rfl, (qd0 BK185.out 3).trans rfl, ((HB.out.cell (World.block_lt_of_cell? w _ hw193_0)).trans hw193_0), ((HB.out.cell (World.block_lt_of_cell? w _ hw193_1)).trans hw193_1), ((HB.out.cell (World.block_lt_of_cell? w _ hw194_0)).trans hw194_0), ((HB.out.cell (World.block_lt_of_cell? w _ hw194_1)).trans hw194_1)⟩ (fun hHeld => ?_)
          clear hK K
          refine norm_ (a' := ?_) ?_ ?_
          rotate_left
          ·show Act.put _ (some 44) _ = _
           simp only [Act.put, List.setIfInBounds_toArray, List.set_cons_zero, List.set_cons_succ, i64_w, i32_w]
           rfl
          refine pure_ (i := 3) (N := some 45) (v := ?_) (a' := ?_) (rb5 [4, 34]) rfl rfl (qe0 HT_.out (by kernel_rfl)) (fun _ _ _ h => h) (Or.inl ⟨by rfl, ?_⟩) ?_ ?_
          rotate_left
          ·intro w'
           go_simp
           with_reducible rfl
          rotate_left
          ·simp only [Act.put, List.setIfInBounds_toArray, List.set_cons_zero, List.set_cons_succ, i64_w, i32_w]
           rfl
          refine pure_ (i := 4) (N := some 46) (v := ?_) (a' := ?_) (rb5 [5, 33]) rfl rfl (qe0 HT_.out (by kernel_rfl)) (fun _ _ _ h => h) (Or.inl ⟨by rfl, ?_⟩) ?_ ?_
          rotate_left
          ·intro w'
           go_simp
           with_reducible rfl
          rotate_left
          ·simp only [Act.put, List.setIfInBounds_toArray, List.set_cons_zero, List.set_cons_succ, i64_w, i32_w]
           rfl
          refine pure_ (i := 5) (N := some 47) (v := ?_) (a' := ?_) (rb5 [6, 32]) rfl rfl (qe0 HT_.out (by kernel_rfl)) (fun _ _ _ h => h) (Or.inl ⟨by rfl, ?_⟩) ?_ ?_
          rotate_left
          ·intro w'
           go_simp
           with_reducible rfl
          rotate_left
          ·simp only [Act.put, List.setIfInBounds_toArray, List.set_cons_zero, List.set_cons_succ, i64_w, i32_w]
           rfl
          refine take_ (i := 6) (N := some 48) (v := ?_) (a' := ?_) (rb5 [7, 31]) rfl rfl (qr0 HT_.out HW_.out (by kernel_rfl)) (fun _ _ _ h => h) (Or.inl ⟨by rfl, ?_⟩) hHeld ?_ ?_
          rotate_left
          ·rintro w' ⟨s0, s1, s2, s3, s4, s5, s6, s7, s8, s9⟩
           go_simp
           with_reducible rfl
          rotate_left
          ·simp only [Act.put, List.setIfInBounds_toArray, List.set_cons_zero, List.set_cons_succ, i64_w, i32_w]
           rfl
          refine one_ (i := 7) (N := some 49) (rb5 [8, 30]) rfl rfl (qw1 HT_.out (by kernel_rfl)) (by decide) (fun K hK => ?_)
          refine goes_ Try.func74 (by kernel_rfl) rfl #[.int .i64 ((rd_T218 l0_3 x37_2).f1), .int .i64 0, .int .i64 1000] (by rfl) rfl rfl (by (try simp only [List.map_toArray, List.map_cons, List.map_nil]); first | done | rfl | (simp only [List.length_drop, List.length_take]; rfl)) ?_
          with_reducible refine (impl_between.calls ((rd_T218 l0_3 x37_2).f1) 0 1000 true _ A23.out).mono ?_
          rintro e w' ⟨rfl, ⟨nd, rfl⟩⟩
          refine ⟨_, rfl, ?_⟩
          refine hK.out _ _ ⟨(qd0 BK190.out 0).trans rfl, (qd0 BK190.out 1).trans rfl, (qd0 BK185.out 0).trans rfl, (qd0 BK185.out 1).trans rfl, (qd0 BK185.out 2).trans rfl, (qd0 BK185.out 3).trans rfl, ((HB.out.cell (World.block_lt_of_cell? w _ hw193_0)).trans hw193_0), ((HB.out.cell (World.block_lt_of_cell? w _ hw193_1)).trans hw193_1), ((HB.out.cell (World.block_lt_of_cell? w _ hw194_0)).trans hw194_0), ((HB.out.cell (World.block_lt_of_cell? w _ hw194_1)).trans hw194_1)⟩ (fun hHeld => ?_)
          clear hK K
          refine norm_ (a' := ?_) ?_ ?_
          rotate_left
          ·show Act.put _ (some 49) _ = _
           simp only [Act.put, List.setIfInBounds_toArray, List.set_cons_zero, List.set_cons_succ, i64_w, i32_w]
           rfl
          refine pure_ (i := 8) (N := some 50) (v := ?_) (a' := ?_) (rb5 [9, 29]) rfl rfl (qe0 HT_.out (by kernel_rfl)) (fun _ _ _ h => h) (Or.inl ⟨by rfl, ?_⟩) ?_ ?_
          rotate_left
          ·intro w'
           go_simp
           with_reducible rfl
          rotate_left
          ·simp only [Act.put, List.setIfInBounds_toArray, List.set_cons_zero, List.set_cons_succ, i64_w, i32_w]
           rfl
          refine pure_ (i := 9) (N := some 51) (v := ?_) (a' := ?_) (rb5 [10, 28]) rfl rfl (qe0 HT_.out (by kernel_rfl)) (fun _ _ _ h => h) (Or.inl ⟨by rfl, ?_⟩) ?_ ?_
          rotate_left
          ·intro w'
           go_simp
           with_reducible rfl
          rotate_left
          ·simp only [Act.put, List.setIfInBounds_toArray, List.set_cons_zero, List.set_cons_succ, i64_w, i32_w]
           rfl
          refine pure_ (i := 10) (N := some 52) (v := ?_) (a' := ?_) (rb5 [11, 27]) rfl rfl (qe0 HT_.out (by kernel_rfl)) (fun _ _ _ h => h) (Or.inl ⟨by rfl, ?_⟩) ?_ ?_
          rotate_left
          ·intro w'
           go_simp
           with_reducible rfl
          rotate_left
          ·simp only [Act.put, List.setIfInBounds_toArray, List.set_cons_zero, List.set_cons_succ, i64_w, i32_w]
           rfl
          refine pure_ (i := 11) (N := some 53) (v := ?_) (a' := ?_) (rb5 [12, 26]) rfl rfl (qe0 HT_.out (by kernel_rfl)) (fun _ _ _ h => h) (Or.inl ⟨by rfl, ?_⟩) ?_ ?_
          rotate_left
          ·intro w'
           go_simp
           with_reducible rfl
          rotate_left
          ·simp only [Act.put, List.setIfInBounds_toArray, List.set_cons_zero, List.set_cons_succ, i64_w, i32_w]
           rfl
          refine pure_ (i := 12) (N := some 54) (v := ?_) (a' := ?_) (rb5 [13, 25]) rfl rfl (qe0 HT_.out (by kernel_rfl)) (fun _ _ _ h => h) (Or.inl ⟨by rfl, ?_⟩) ?_ ?_
          rotate_left
          ·intro w'
           go_simp
           with_reducible rfl
          rotate_left
          ·simp only [Act.put, List.setIfInBounds_toArray, List.set_cons_zero, List.set_cons_succ, i64_w, i32_w]
           rfl
          refine pure_ (i := 13) (N := some 55) (v := ?_) (a' := ?_) (rb5 [14, 24]) rfl rfl (qe0 HT_.out (by kernel_rfl)) (fun _ _ _ h => h) (Or.inl ⟨by rfl, ?_⟩) ?_ ?_
          rotate_left
          ·intro w'
           go_simp
           with_reducible rfl
          rotate_left
          ·simp only [Act.put, List.setIfInBounds_toArray, List.set_cons_zero, List.set_cons_succ, i64_w, i32_w]
           rfl
          refine pure_ (i := 14) (N := some 56) (v := ?_) (a' := ?_) (rb5 [15, 23]) rfl rfl (qe0 HT_.out (by kernel_rfl)) (fun _ _ _ h => h) (Or.inl ⟨by rfl, ?_⟩) ?_ ?_
          rotate_left
          ·intro w'
           go_simp
           with_reducible rfl
          rotate_left
          ·simp only [Act.put, List.setIfInBounds_toArray, List.set_cons_zero, List.set_cons_succ, i64_w, i32_w]
           rfl
          refine pure_ (i := 16) (N := some 58) (v := ?_) (a' := ?_) (rb5 [15, 1, 1, 21]) rfl rfl (qe0 HT_.out (by kernel_rfl)) (fun _ _ _ h => h) (Or.inl ⟨by rfl, ?_⟩) ?_ ?_
          rotate_left
          ·intro w'
           go_simp
           with_reducible rfl
          rotate_left
          ·simp only [Act.put, List.setIfInBounds_toArray, List.set_cons_zero, List.set_cons_succ, i64_w, i32_w]
           rfl
          refine pure_ (i := 17) (N := some 59) (v := ?_) (a' := ?_) (rb5 [15, 1, 2, 20]) rfl rfl (qe0 HT_.out (by kernel_rfl)) (fun _ _ _ h => h) (Or.inl ⟨by rfl, ?_⟩) ?_ ?_
          rotate_left
          ·intro w'
           go_simp
           with_reducible rfl
          rotate_left
          ·simp only [Act.put, List.setIfInBounds_toArray, List.set_cons_zero, List.set_cons_succ, i64_w, i32_w]
           rfl
          refine pure_ (i := 21) (N := some 63) (v := ?_) (a' := ?_) (rb5 [15, 1, 2, 3, 1, 16]) rfl rfl (qe0 HT_.out (by kernel_rfl)) (fun _ _ _ h => h) (Or.inl ⟨by rfl, ?_⟩) ?_ ?_
          rotate_left
          ·intro w'
           go_simp
           with_reducible rfl
          rotate_left
          ·simp only [Act.put, List.setIfInBounds_toArray, List.set_cons_zero, List.set_cons_succ, i64_w, i32_w]
           rfl
          refine take_ (i := 15) (N := some 57) (v := ?_) (a' := ?_) (rb5 [18, 3, 1, 16]) rfl rfl (qr0 HT_.out HW_.out (by kernel_rfl)) (fun _ _ _ h => h) (Or.inl ⟨by rfl, ?_⟩) hHeld ?_ ?_
          rotate_left
          ·rintro w' ⟨s0, s1, s2, s3, s4, s5, s6, s7, s8, s9⟩
           go_simp
           with_reducible rfl
          rotate_left
          ·simp only [Act.put, List.setIfInBounds_toArray, List.set_cons_zero, List.set_cons_succ, i64_w, i32_w]
           rfl
          refine pure_ (i := 18) (N := some 60) (v := ?_) (a' := ?_) (rb5 [19, 2, 1, 16]) rfl rfl (qe0 HT_.out (by kernel_rfl)) (fun _ _ _ h => h) (Or.inl ⟨by rfl, ?_⟩) ?_ ?_
          rotate_left
          ·intro w'
           go_simp
           with_reducible rfl
          rotate_left
          ·simp only [Act.put, List.setIfInBounds_toArray, List.set_cons_zero, List.set_cons_succ, i64_w, i32_w]
           rfl
          refine pure_ (i := 19) (N := some 61) (v := ?_) (a' := ?_) (rb5 [20, 1, 1, 16]) rfl rfl (qe0 HT_.out (by kernel_rfl)) (fun _ _ _ h => h) (Or.inl ⟨by rfl, ?_⟩) ?_ ?_
          rotate_left
          ·intro w'
           go_simp
           with_reducible rfl
          rotate_left
          ·simp only [Act.put, List.setIfInBounds_toArray, List.set_cons_zero, List.set_cons_succ, i64_w, i32_w]
           rfl
          refine take_ (i := 20) (N := some 62) (v := ?_) (a' := ?_) (rb5 [22, 16]) rfl rfl (qr0 HT_.out HW_.out (by kernel_rfl)) (fun _ _ _ h => h) (Or.inl ⟨by rfl, ?_⟩) hHeld ?_ ?_
          rotate_left
          ·rintro w' ⟨s0, s1, s2, s3, s4, s5, s6, s7, s8, s9⟩
           go_simp
           with_reducible rfl
          rotate_left
          ·simp only [Act.put, List.setIfInBounds_toArray, List.set_cons_zero, List.set_cons_succ, i64_w, i32_w]
           rfl
          refine take_ (i := 22) (N := some 64) (v := ?_) (a' := ?_) (rb5 [23, 15]) rfl rfl (qr0 HT_.out HW_.out (by kernel_rfl)) (fun _ _ _ h => h) (Or.inl ⟨by rfl, ?_⟩) hHeld ?_ ?_
          rotate_left
          ·rintro w' ⟨s0, s1, s2, s3, s4, s5, s6, s7, s8, s9⟩
           go_simp
           with_reducible rfl
          rotate_left
          ·simp only [Act.put, List.setIfInBounds_toArray, List.set_cons_zero, List.set_cons_succ, i64_w, i32_w]
           rfl
          refine pure_ (i := 23) (N := some 65) (v := ?_) (a' := ?_) (rb5 [24, 14]) rfl rfl (qe0 HT_.out (by kernel_rfl)) (fun _ _ _ h => h) (Or.inl ⟨by rfl, ?_⟩) ?_ ?_
          rotate_left
          ·intro w'
           go_simp
           with_reducible rfl
          rotate_left
          ·simp only [Act.put, List.setIfInBounds_toArray, List.set_cons_zero, List.set_cons_succ, i64_w, i32_w]
           rfl
          refine pure_ (i := 24) (N := some 66) (v := ?_) (a' := ?_) (rb5 [25, 13]) rfl rfl (qe0 HT_.out (by kernel_rfl)) (fun _ _ _ h => h) (Or.inl ⟨by rfl, ?_⟩) ?_ ?_
          rotate_left
          ·intro w'
           go_simp
           with_reducible rfl
          rotate_left
          ·simp only [Act.put, List.setIfInBounds_toArray, List.set_cons_zero, List.set_cons_succ, i64_w, i32_w]
           rfl
          refine pure_ (i := 25) (N := some 67) (v := ?_) (a' := ?_) (rb5 [26, 12]) rfl rfl (qe0 HT_.out (by kernel_rfl)) (fun _ _ _ h => h) (Or.inl ⟨by rfl, ?_⟩) ?_ ?_
          rotate_left
          ·intro w'
           go_simp
           with_reducible rfl
          rotate_left
          ·simp only [Act.put, List.setIfInBounds_toArray, List.set_cons_zero, List.set_cons_succ, i64_w, i32_w]
           rfl
          refine pure_ (i := 27) (N := some 69) (v := ?_) (a' := ?_) (rb5 [26, 1, 1, 10]) rfl rfl (qe0 HT_.out (by kernel_rfl)) (fun _ _ _ h => h) (Or.inl ⟨by rfl, ?_⟩) ?_ ?_
          rotate_left
          ·intro w'
           go_simp
           with_reducible rfl
          rotate_left
          ·simp only [Act.put, List.setIfInBounds_toArray, List.set_cons_zero, List.set_cons_succ, i64_w, i32_w]
           rfl
          refine pure_ (i := 28) (N := some 70) (v := ?_) (a' := ?_) (rb5 [26, 1, 2, 9]) rfl rfl (qe0 HT_.out (by kernel_rfl)) (fun _ _ _ h => h) (Or.inl ⟨by rfl, ?_⟩) ?_ ?_
          rotate_left
          ·intro w'
           go_simp
           with_reducible rfl
          rotate_left
          ·simp only [Act.put, List.setIfInBounds_toArray, List.set_cons_zero, List.set_cons_succ, i64_w, i32_w]
           rfl
          refine pure_ (i := 32) (N := some 74) (v := ?_) (a' := ?_) (rb5 [26, 1, 2, 3, 1, 5]) rfl rfl (qe0 HT_.out (by kernel_rfl)) (fun _ _ _ h => h) (Or.inl ⟨by rfl, ?_⟩) ?_ ?_
          rotate_left
          ·intro w'
           go_simp
           with_reducible rfl
          rotate_left
          ·simp only [Act.put, List.setIfInBounds_toArray, List.set_cons_zero, List.set_cons_succ, i64_w, i32_w]
           rfl
          refine take_ (i := 26) (N := some 68) (v := ?_) (a' := ?_) (rb5 [29, 3, 1, 5]) rfl rfl (qr0 HT_.out HW_.out (by kernel_rfl)) (fun _ _ _ h => h) (Or.inl ⟨by rfl, ?_⟩) hHeld ?_ ?_
          rotate_left
          ·rintro w' ⟨s0, s1, s2, s3, s4, s5, s6, s7, s8, s9⟩
           go_simp
           with_reducible rfl
          rotate_left
          ·simp only [Act.put, List.setIfInBounds_toArray, List.set_cons_zero, List.set_cons_succ, i64_w, i32_w]
           rfl
          refine pure_ (i := 29) (N := some 71) (v := ?_) (a' := ?_) (rb5 [30, 2, 1, 5]) rfl rfl (qe0 HT_.out (by kernel_rfl)) (fun _ _ _ h => h) (Or.inl ⟨by rfl, ?_⟩) ?_ ?_
          rotate_left
          ·intro w'
           go_simp
           with_reducible rfl
          rotate_left
          ·simp only [Act.put, List.setIfInBounds_toArray, List.set_cons_zero, List.set_cons_succ, i64_w, i32_w]
           rfl
          refine pure_ (i := 30) (N := some 72) (v := ?_) (a' := ?_) (rb5 [31, 1, 1, 5]) rfl rfl (qe0 HT_.out (by kernel_rfl)) (fun _ _ _ h => h) (Or.inl ⟨by rfl, ?_⟩) ?_ ?_
          rotate_left
          ·intro w'
           go_simp
           with_reducible rfl
          rotate_left
          ·simp only [Act.put, List.setIfInBounds_toArray, List.set_cons_zero, List.set_cons_succ, i64_w, i32_w]
           rfl
          refine take_ (i := 31) (N := some 73) (v := ?_) (a' := ?_) (rb5 [33, 5]) rfl rfl (qr0 HT_.out HW_.out (by kernel_rfl)) (fun _ _ _ h => h) (Or.inl ⟨by rfl, ?_⟩) hHeld ?_ ?_
          rotate_left
          ·rintro w' ⟨s0, s1, s2, s3, s4, s5, s6, s7, s8, s9⟩
           go_simp
           with_reducible rfl
          rotate_left
          ·simp only [Act.put, List.setIfInBounds_toArray, List.set_cons_zero, List.set_cons_succ, i64_w, i32_w]
           rfl
          refine take_ (i := 33) (N := some 75) (v := ?_) (a' := ?_) (rb5 [34, 4]) rfl rfl (qr0 HT_.out HW_.out (by kernel_rfl)) (fun _ _ _ h => h) (Or.inl ⟨by rfl, ?_⟩) hHeld ?_ ?_
          rotate_left
          ·rintro w' ⟨s0, s1, s2, s3, s4, s5, s6, s7, s8, s9⟩
           go_simp
           with_reducible rfl
          rotate_left
          ·simp only [Act.put, List.setIfInBounds_toArray, List.set_cons_zero, List.set_cons_succ, i64_w, i32_w]
           rfl
          refine pure_ (i := 34) (N := some 76) (v := ?_) (a' := ?_) (rb5 [35, 3]) rfl rfl (qe0 HT_.out (by kernel_rfl)) (fun _ _ _ h => h) (Or.inl ⟨by rfl, ?_⟩) ?_ ?_
          rotate_left
          ·intro w'
           go_simp
           with_reducible rfl
          rotate_left
          ·simp only [Act.put, List.setIfInBounds_toArray, List.set_cons_zero, List.set_cons_succ, i64_w, i32_w]
           rfl
          refine pure_ (i := 35) (N := some 77) (v := ?_) (a' := ?_) (rb5 [36, 2]) rfl rfl (qe0 HT_.out (by kernel_rfl)) (fun _ _ _ h => h) (Or.inl ⟨by rfl, ?_⟩) ?_ ?_
          rotate_left
          ·intro w'
           go_simp
           with_reducible rfl
          rotate_left
          ·simp only [Act.put, List.setIfInBounds_toArray, List.set_cons_zero, List.set_cons_succ, i64_w, i32_w]
           rfl
          refine pure_ (i := 36) (N := some 78) (v := ?_) (a' := ?_) (rb5 [37, 1]) rfl rfl (qe0 HT_.out (by kernel_rfl)) (fun _ _ _ h => h) (Or.inl ⟨by rfl, ?_⟩) ?_ ?_
          rotate_left
          ·intro w'
           go_simp
           with_reducible rfl
          rotate_left
          ·simp only [Act.put, List.setIfInBounds_toArray, List.set_cons_zero, List.set_cons_succ, i64_w, i32_w]
           rfl
          refine pure_ (i := 37) (N := some 79) (v := ?_) (a' := ?_) (rb5 [38]) rfl rfl (qe0 HT_.out (by kernel_rfl)) (fun _ _ _ h => h) (Or.inl ⟨by rfl, ?_⟩) ?_ ?_
          rotate_left
          ·intro w'
           go_simp
           with_reducible rfl
          rotate_left
          ·simp only [Act.put, List.setIfInBounds_toArray, List.set_cons_zero, List.set_cons_succ, i64_w, i32_w]
           rfl
          refine done_ (qx1 HT_.out (by kernel_rfl)) ?_
          try go_wp2
          go_ret
          exact ⟨by first | rfl | (simp [errW_none, errW_some] <;> rfl) | (simp only [← hji26]; first | rfl | (simp [errW_none, errW_some] <;> rfl)) | (simp [*, errW_none, errW_some] <;> rfl), by repeat (first | (with_reducible first | exact HB.out | apply qc0 | apply qa0 | apply qb0 | refine qg0 ?_ GE185.out | refine qg0 ?_ GE190.out) | exact HB.out)⟩
         rw [if_neg c35] at H
         have c35b0 : decide (((rd_T218 l0_3 x37_2).f1) < ((rd_T218 l0_3 (ji26)).f1)) = false := decide_eq_false c35
         clear c35
         have H' := Aside0.mk H
         clear H
         have p189 : 0 ≤ (x37_2 : Int) := of_decide_eq_true (by first | (with_reducible assumption) | assumption)
         have q189 : x37_2 < (l0_3.length : Int) := of_decide_eq_true (by first | (with_reducible assumption) | assumption)
         obtain ⟨ad189, e189, hx189_0, hx189_1⟩ := at_T218 HR0_3.out x37_2 p189 q189
         cases e189
         replace hx189_0 := (HB.out.cell (World.block_lt_of_cell? w _ hx189_0)).trans hx189_0
         replace hx189_1 := (HB.out.cell (World.block_lt_of_cell? w _ hx189_1)).trans hx189_1
         replace p189 := eq_true p189
         replace q189 := eq_true q189
         try go_wp2_with (first | ((with_reducible refine qu0 (N := 4) rfl ?_); (try (refine qx0 (by rfl) ?_; dsimp only)); refine qy0 ?hg (N := 4) ?hd (cs := #[.int .i64 0, .int .i64 0]) (t := 218) ?hr ?_; (case hd => rfl); (case hg => rfl); (case hr => first | (go_simp; done) | (go_simp; rfl)); intro gb190 hg w41 hbox hb; have n0_ := Aside0.mk (qa1 (g := gb185) (o := .cells #[.int .i64 a0_0, .int .i64 a0_1, .int .i64 a0_2, .slice (some ad189) l0_3.length c0_3] 143 (0, 0)) (by (with_reducible repeat (first | refine qh0 ?_ _ | refine qj0 ?_ | refine qi0 ?_ _)); exact BK185.out) hb); have n1_ := Aside0.mk (qo0 (by repeat (first | (with_reducible first | exact HB.out | apply qc0 | apply qa0 | apply qb0 | refine qg0 ?_ GE185.out) | exact HB.out)) hb); have n2_ := Aside0.mk (hbox); have n3_ := Aside0.mk ((by rw [hg]; exact (qk0 (by repeat (first | (with_reducible first | exact HB.out | apply qc0 | apply qa0 | apply qb0 | refine qg0 ?_ GE185.out) | exact HB.out))) : w.heap.size ≤ gb190)); have n4_ := Aside0.mk ((by rw [hg]; exact (qk0 (by repeat (first | (with_reducible first | exact HB.out | apply qc0 | apply qa0 | apply qb0 | refine qg0 ?_ GE185.out) | exact HB.out))) : w.heap.size ≤ gb190)); have n5_ := Aside0.mk ((by rw [hg]; exact Nat.ne_of_lt (qb1 (g := gb185) (o := .cells #[.int .i64 a0_0, .int .i64 a0_1, .int .i64 a0_2, .slice (some ad189) l0_3.length c0_3] 143 (0, 0)) (by (with_reducible repeat (first | refine qh0 ?_ _ | refine qj0 ?_ | refine qi0 ?_ _)); exact BK185.out)) : gb185 ≠ gb190)); have n6_ := Aside0.mk ((by rw [hg]; exact Nat.ne_of_gt (qb1 (g := gb185) (o := .cells #[.int .i64 a0_0, .int .i64 a0_1, .int .i64 a0_2, .slice (some ad189) l0_3.length c0_3] 143 (0, 0)) (by (with_reducible repeat (first | refine qh0 ?_ _ | refine qj0 ?_ | refine qi0 ?_ _)); exact BK185.out)) : gb190 ≠ gb185)); clear BK185; clear HB; have BK185 := n0_; have HB := n1_; have BK190 := n2_; have GW190 := n3_; have GE190 := n4_; have NB185_190 := n5_; have NB190_185 := n6_; clear n0_ n1_ n2_ n3_ n4_ n5_ n6_; clear hb hbox hg; have hnb42 := NB190_185.out; have hnc42 := NB185_190.out; have hcz43_0 : w41.cell? ⟨gb190, 0, none⟩ = some (.int .i64 0) := (qd0 BK190.out 0).trans rfl; have hcz43_1 : w41.cell? ⟨gb190, 1, none⟩ = some (.int .i64 0) := (qd0 BK190.out 1).trans rfl; have hfz43_0 := qf0 BK190.out 0; have hfz43_1 := qf0 BK190.out 1))
         have n0_ : Aside0 (((w41.setCell ⟨gb190, 0, none⟩ (.int .i64 ((rd_T218 l0_3 x37_2).f0))).setCell ⟨gb190, 1, none⟩ (.int .i64 ((rd_T218 l0_3 x37_2).f1))).heap[gb185]? = some (.cells #[.int .i64 a0_0, .int .i64 a0_1, .int .i64 a0_2, .slice (some ad189) l0_3.length c0_3] 143 (0, 0))) := ⟨by (with_reducible repeat (first | refine qh0 ?_ _ | refine qj0 ?_ | refine qi0 ?_ _)); refine ql1 ?_ NB185_190.out _; (with_reducible repeat (first | refine qh0 ?_ _ | refine qj0 ?_ | refine qi0 ?_ _)); refine ql1 ?_ NB185_190.out _; (with_reducible repeat (first | refine qh0 ?_ _ | refine qj0 ?_ | refine qi0 ?_ _)); exact BK185.out⟩
         have n1_ : Aside0 (((w41.setCell ⟨gb190, 0, none⟩ (.int .i64 ((rd_T218 l0_3 x37_2).f0))).setCell ⟨gb190, 1, none⟩ (.int .i64 ((rd_T218 l0_3 x37_2).f1))).heap[gb190]? = some (.cells #[.int .i64 ((rd_T218 l0_3 x37_2).f0), .int .i64 ((rd_T218 l0_3 x37_2).f1)] 218 (0, 0))) := ⟨by (with_reducible repeat (first | refine qh0 ?_ _ | refine qj0 ?_ | refine qi0 ?_ _)); refine qe1 (cs := #[.int .i64 ((rd_T218 l0_3 x37_2).f0), .int .i64 0]) ?_ 1 _ rfl; (with_reducible repeat (first | refine qh0 ?_ _ | refine qj0 ?_ | refine qi0 ?_ _)); refine qe1 (cs := #[.int .i64 0, .int .i64 0]) ?_ 0 _ rfl; (with_reducible repeat (first | refine qh0 ?_ _ | refine qj0 ?_ | refine qi0 ?_ _)); exact BK190.out⟩
         have n2_ : Aside0 (Below w.heap.size w ((w41.setCell ⟨gb190, 0, none⟩ (.int .i64 ((rd_T218 l0_3 x37_2).f0))).setCell ⟨gb190, 1, none⟩ (.int .i64 ((rd_T218 l0_3 x37_2).f1)))) := ⟨by repeat (first | (with_reducible first | exact HB.out | apply qc0 | apply qa0 | apply qb0 | refine qg0 ?_ GE185.out | refine qg0 ?_ GE190.out) | exact HB.out)⟩
         (try clear BK185)
         (try clear BK190)
         (try clear HB)
         generalize ((w41.setCell ⟨gb190, 0, none⟩ (.int .i64 ((rd_T218 l0_3 x37_2).f0))).setCell ⟨gb190, 1, none⟩ (.int .i64 ((rd_T218 l0_3 x37_2).f1))) = w44 at n0_ n1_ n2_ ⊢
         have BK185 := n0_
         have BK190 := n1_
         have HB := n2_
         clear n0_ n1_ n2_
         have n0_ := Aside0.mk (qj0 BK185.out)
         have n1_ := Aside0.mk (qj0 BK190.out)
         have n2_ := Aside0.mk (qb0 HB.out)
         clear BK185
         clear BK190
         clear HB
         have BK185 := n0_
         have BK190 := n1_
         have HB := n2_
         clear n0_ n1_ n2_
         have p193 : 0 ≤ ((ji26) : Int) := of_decide_eq_true (by first | (with_reducible assumption) | assumption)
         have q193 : (ji26) < (l0_3.length : Int) := of_decide_eq_true (by first | (with_reducible assumption) | assumption)
         obtain ⟨ad193, e193, hx193_0, hx193_1⟩ := at_T218 HR0_3.out (ji26) p193 q193
         have hw193_1 := hx193_1
         have hw193_0 := hx193_0
         obtain rfl : ad189 = ad193 := (by injection e193)
         replace hx193_0 := (HB.out.cell (World.block_lt_of_cell? w _ hx193_0)).trans hx193_0
         replace hx193_1 := (HB.out.cell (World.block_lt_of_cell? w _ hx193_1)).trans hx193_1
         replace p193 := eq_true p193
         replace q193 := eq_true q193
         have p194 : 0 ≤ ((ji26) : Int) := of_decide_eq_true (by first | (with_reducible assumption) | assumption)
         have q194 : (ji26) < (l0_3.length : Int) := of_decide_eq_true (by first | (with_reducible assumption) | assumption)
         obtain ⟨ad194, e194, hx194_0, hx194_1⟩ := at_T218 HR0_3.out (ji26) p194 q194
         have hw194_1 := hx194_1
         have hw194_0 := hx194_0
         obtain rfl : ad189 = ad194 := (by injection e194)
         replace hx194_0 := (HB.out.cell (World.block_lt_of_cell? w _ hx194_0)).trans hx194_0
         replace hx194_1 := (HB.out.cell (World.block_lt_of_cell? w _ hx194_1)).trans hx194_1
         replace p194 := eq_true p194
         replace q194 := eq_true q194
         refine qd2 (n := 38) (S := fun w' => w'.cell? ⟨gb190, 0, none⟩ = some (.int .i64 ((rd_T218 l0_3 x37_2).f0)) ∧ w'.cell? ⟨gb190, 1, none⟩ = some (.int .i64 ((rd_T218 l0_3 x37_2).f1)) ∧ w'.cell? ⟨gb185, 0, none⟩ = some (.int .i64 a0_0) ∧ w'.cell? ⟨gb185, 1, none⟩ = some (.int .i64 a0_1) ∧ w'.cell? ⟨gb185, 2, none⟩ = some (.int .i64 a0_2) ∧ w'.cell? ⟨gb185, 3, none⟩ = some (.slice (some ad189) l0_3.length c0_3) ∧ w'.cell? (ad189.add (((ji26)).toNat * 2)) = some (.int .i64 ((rd_T218 l0_3 (ji26)).f0)) ∧ w'.cell? ⟨(ad189.add (((ji26)).toNat * 2)).block, (ad189.add (((ji26)).toNat * 2)).off + 1, none⟩ = some (.int .i64 ((rd_T218 l0_3 (ji26)).f1)) ∧ w'.cell? (ad189.add (((ji26)).toNat * 2)) = some (.int .i64 ((rd_T218 l0_3 (ji26)).f0)) ∧ w'.cell? ⟨(ad189.add (((ji26)).toNat * 2)).block, (ad189.add (((ji26)).toNat * 2)).off + 1, none⟩ = some (.int .i64 ((rd_T218 l0_3 (ji26)).f1))) (ds := []) (rb5 [0, 38]) (by kernel_rfl) rfl rfl ⟨(qd0 BK190.out 0).trans rfl, (qd0 BK190.out 1).trans rfl, (qd0 BK185.out 0).trans rfl, (qd0 BK185.out 1).trans rfl, (qd0 BK185.out 2).trans rfl, (qd0 BK185.out 3).trans rfl, ((HB.out.cell (World.block_lt_of_cell? w _ hw193_0)).trans hw193_0), ((HB.out.cell (World.block_lt_of_cell? w _ hw193_1)).trans hw193_1), ((HB.out.cell (World.block_lt_of_cell? w _ hw194_0)).trans hw194_0), ((HB.out.cell (World.block_lt_of_cell? w _ hw194_1)).trans hw194_1)⟩ (fun hHeld => ?_); refine qn1 impl_dutyOk.tab6 impl_dutyOk.bits6 (fun HT_ HW_ => ?_)
         generalize w44.drew = w45 at BK185 BK190 HB hx193_0 hx193_1 hx194_0 hx194_1 hHeld ⊢
         refine pure_ (i := 0) (N := some 42) (v := ?_) (a' := ?_) (rb5 [1, 37]) rfl rfl (qe0 HT_.out (by kernel_rfl)) (fun _ _ _ h => h) (Or.inl ⟨by rfl, ?_⟩) ?_ ?_
         rotate_left
         ·intro w'
          go_simp
          with_reducible rfl
         rotate_left
         ·simp only [Act.put, List.setIfInBounds_toArray, List.set_cons_zero, List.set_cons_succ, i64_w, i32_w]
          rfl
         refine take_ (i := 1) (N := some 43) (v := ?_) (a' := ?_) (rb5 [2, 36]) rfl rfl (qr0 HT_.out HW_.out (by kernel_rfl)) (fun _ _ _ h => h) (Or.inl ⟨by rfl, ?_⟩) hHeld ?_ ?_
         rotate_left
         ·rintro w' ⟨s0, s1, s2, s3, s4, s5, s6, s7, s8, s9⟩
          go_simp
          with_reducible rfl
         rotate_left
         ·simp only [Act.put, List.setIfInBounds_toArray, List.set_cons_zero, List.set_cons_succ, i64_w, i32_w]
          rfl
         refine one_ (i := 2) (N := some 44) (rb5 [3, 35]) rfl rfl (qw1 HT_.out (by kernel_rfl)) (by decide) (fun K hK => ?_)
         refine goes_ Try.func88 (by kernel_rfl) rfl #[.int .i64 ((rd_T218 l0_3 x37_2).f0)] (by rfl) rfl rfl (by (try simp only [List.map_toArray, List.map_cons, List.map_nil]); first | done | rfl | (simp only [List.length_drop, List.length_take]; rfl)) ?_
         with_reducible refine (impl_isDay.calls ((rd_T218 l0_3 x37_2).f0) true _ A21.out).mono ?_
         rintro e w' ⟨rfl, ⟨nd, rfl⟩⟩
         refine ⟨_, rfl, ?_⟩
         refine hK.out _ _ ⟨(qd0 BK190.out 0).trans rfl, (qd0 BK190.out 1).trans rfl, (qd0 BK185.out 0).trans rfl, (qd0 BK185.out 1).trans rfl, (qd0 BK185.out 2).trans rfl, (qd0 BK185.out 3).trans rfl, ((HB.out.cell (World.block_lt_of_cell? w _ hw193_0)).trans hw193_0), ((HB.out.cell (World.block_lt_of_cell? w _ hw193_1)).trans hw193_1), ((HB.out.cell (World.block_lt_of_cell? w _ hw194_0)).trans hw194_0), ((HB.out.cell (World.block_lt_of_cell? w _ hw194_1)).trans hw194_1)⟩ (fun hHeld => ?_)
         clear hK K
         refine norm_ (a' := ?_) ?_ ?_
         rotate_left
         ·show Act.put _ (some 44) _ = _
          simp only [Act.put, List.setIfInBounds_toArray, List.set_cons_zero, List.set_cons_succ, i64_w, i32_w]
          rfl
         refine pure_ (i := 3) (N := some 45) (v := ?_) (a' := ?_) (rb5 [4, 34]) rfl rfl (qe0 HT_.out (by kernel_rfl)) (fun _ _ _ h => h) (Or.inl ⟨by rfl, ?_⟩) ?_ ?_
         rotate_left
         ·intro w'
          go_simp
          with_reducible rfl
         rotate_left
         ·simp only [Act.put, List.setIfInBounds_toArray, List.set_cons_zero, List.set_cons_succ, i64_w, i32_w]
          rfl
         refine pure_ (i := 4) (N := some 46) (v := ?_) (a' := ?_) (rb5 [5, 33]) rfl rfl (qe0 HT_.out (by kernel_rfl)) (fun _ _ _ h => h) (Or.inl ⟨by rfl, ?_⟩) ?_ ?_
         rotate_left
         ·intro w'
          go_simp
          with_reducible rfl
         rotate_left
         ·simp only [Act.put, List.setIfInBounds_toArray, List.set_cons_zero, List.set_cons_succ, i64_w, i32_w]
          rfl
         refine pure_ (i := 5) (N := some 47) (v := ?_) (a' := ?_) (rb5 [6, 32]) rfl rfl (qe0 HT_.out (by kernel_rfl)) (fun _ _ _ h => h) (Or.inl ⟨by rfl, ?_⟩) ?_ ?_
         rotate_left
         ·intro w'
          go_simp
          with_reducible rfl
         rotate_left
         ·simp only [Act.put, List.setIfInBounds_toArray, List.set_cons_zero, List.set_cons_succ, i64_w, i32_w]
          rfl
         refine take_ (i := 6) (N := some 48) (v := ?_) (a' := ?_) (rb5 [7, 31]) rfl rfl (qr0 HT_.out HW_.out (by kernel_rfl)) (fun _ _ _ h => h) (Or.inl ⟨by rfl, ?_⟩) hHeld ?_ ?_
         rotate_left
         ·rintro w' ⟨s0, s1, s2, s3, s4, s5, s6, s7, s8, s9⟩
          go_simp
          with_reducible rfl
         rotate_left
         ·simp only [Act.put, List.setIfInBounds_toArray, List.set_cons_zero, List.set_cons_succ, i64_w, i32_w]
          rfl
         refine one_ (i := 7) (N := some 49) (rb5 [8, 30]) rfl rfl (qw1 HT_.out (by kernel_rfl)) (by decide) (fun K hK => ?_)
         refine goes_ Try.func74 (by kernel_rfl) rfl #[.int .i64 ((rd_T218 l0_3 x37_2).f1), .int .i64 0, .int .i64 1000] (by rfl) rfl rfl (by (try simp only [List.map_toArray, List.map_cons, List.map_nil]); first | done | rfl | (simp only [List.length_drop, List.length_take]; rfl)) ?_
         with_reducible refine (impl_between.calls ((rd_T218 l0_3 x37_2).f1) 0 1000 true _ A23.out).mono ?_
         rintro e w' ⟨rfl, ⟨nd, rfl⟩⟩
         refine ⟨_, rfl, ?_⟩
         refine hK.out _ _ ⟨(qd0 BK190.out 0).trans rfl, (qd0 BK190.out 1).trans rfl, (qd0 BK185.out 0).trans rfl, (qd0 BK185.out 1).trans rfl, (qd0 BK185.out 2).trans rfl, (qd0 BK185.out 3).trans rfl, ((HB.out.cell (World.block_lt_of_cell? w _ hw193_0)).trans hw193_0), ((HB.out.cell (World.block_lt_of_cell? w _ hw193_1)).trans hw193_1), ((HB.out.cell (World.block_lt_of_cell? w _ hw194_0)).trans hw194_0), ((HB.out.cell (World.block_lt_of_cell? w _ hw194_1)).trans hw194_1)⟩ (fun hHeld => ?_)
         clear hK K
         refine norm_ (a' := ?_) ?_ ?_
         rotate_left
         ·show Act.put _ (some 49) _ = _
          simp only [Act.put, List.setIfInBounds_toArray, List.set_cons_zero, List.set_cons_succ, i64_w, i32_w]
          rfl
         refine pure_ (i := 8) (N := some 50) (v := ?_) (a' := ?_) (rb5 [9, 29]) rfl rfl (qe0 HT_.out (by kernel_rfl)) (fun _ _ _ h => h) (Or.inl ⟨by rfl, ?_⟩) ?_ ?_
         rotate_left
         ·intro w'
          go_simp
          with_reducible rfl
         rotate_left
         ·simp only [Act.put, List.setIfInBounds_toArray, List.set_cons_zero, List.set_cons_succ, i64_w, i32_w]
          rfl
         refine pure_ (i := 9) (N := some 51) (v := ?_) (a' := ?_) (rb5 [10, 28]) rfl rfl (qe0 HT_.out (by kernel_rfl)) (fun _ _ _ h => h) (Or.inl ⟨by rfl, ?_⟩) ?_ ?_
         rotate_left
         ·intro w'
          go_simp
          with_reducible rfl
         rotate_left
         ·simp only [Act.put, List.setIfInBounds_toArray, List.set_cons_zero, List.set_cons_succ, i64_w, i32_w]
          rfl
         refine pure_ (i := 10) (N := some 52) (v := ?_) (a' := ?_) (rb5 [11, 27]) rfl rfl (qe0 HT_.out (by kernel_rfl)) (fun _ _ _ h => h) (Or.inl ⟨by rfl, ?_⟩) ?_ ?_
         rotate_left
         ·intro w'
          go_simp
          with_reducible rfl
         rotate_left
         ·simp only [Act.put, List.setIfInBounds_toArray, List.set_cons_zero, List.set_cons_succ, i64_w, i32_w]
          rfl
         refine pure_ (i := 11) (N := some 53) (v := ?_) (a' := ?_) (rb5 [12, 26]) rfl rfl (qe0 HT_.out (by kernel_rfl)) (fun _ _ _ h => h) (Or.inl ⟨by rfl, ?_⟩) ?_ ?_
         rotate_left
         ·intro w'
          go_simp
          with_reducible rfl
         rotate_left
         ·simp only [Act.put, List.setIfInBounds_toArray, List.set_cons_zero, List.set_cons_succ, i64_w, i32_w]
          rfl
         refine pure_ (i := 12) (N := some 54) (v := ?_) (a' := ?_) (rb5 [13, 25]) rfl rfl (qe0 HT_.out (by kernel_rfl)) (fun _ _ _ h => h) (Or.inl ⟨by rfl, ?_⟩) ?_ ?_
         rotate_left
         ·intro w'
          go_simp
          with_reducible rfl
         rotate_left
         ·simp only [Act.put, List.setIfInBounds_toArray, List.set_cons_zero, List.set_cons_succ, i64_w, i32_w]
          rfl
         refine pure_ (i := 13) (N := some 55) (v := ?_) (a' := ?_) (rb5 [14, 24]) rfl rfl (qe0 HT_.out (by kernel_rfl)) (fun _ _ _ h => h) (Or.inl ⟨by rfl, ?_⟩) ?_ ?_
         rotate_left
         ·intro w'
          go_simp
          with_reducible rfl
         rotate_left
         ·simp only [Act.put, List.setIfInBounds_toArray, List.set_cons_zero, List.set_cons_succ, i64_w, i32_w]
          rfl
         refine pure_ (i := 14) (N := some 56) (v := ?_) (a' := ?_) (rb5 [15, 23]) rfl rfl (qe0 HT_.out (by kernel_rfl)) (fun _ _ _ h => h) (Or.inl ⟨by rfl, ?_⟩) ?_ ?_
         rotate_left
         ·intro w'
          go_simp
          with_reducible rfl
         rotate_left
         ·simp only [Act.put, List.setIfInBounds_toArray, List.set_cons_zero, List.set_cons_succ, i64_w, i32_w]
          rfl
         refine pure_ (i := 16) (N := some 58) (v := ?_) (a' := ?_) (rb5 [15, 1, 1, 21]) rfl rfl (qe0 HT_.out (by kernel_rfl)) (fun _ _ _ h => h) (Or.inl ⟨by rfl, ?_⟩) ?_ ?_
         rotate_left
         ·intro w'
          go_simp
          with_reducible rfl
         rotate_left
         ·simp only [Act.put, List.setIfInBounds_toArray, List.set_cons_zero, List.set_cons_succ, i64_w, i32_w]
          rfl
         refine pure_ (i := 17) (N := some 59) (v := ?_) (a' := ?_) (rb5 [15, 1, 2, 20]) rfl rfl (qe0 HT_.out (by kernel_rfl)) (fun _ _ _ h => h) (Or.inl ⟨by rfl, ?_⟩) ?_ ?_
         rotate_left
         ·intro w'
          go_simp
          with_reducible rfl
         rotate_left
         ·simp only [Act.put, List.setIfInBounds_toArray, List.set_cons_zero, List.set_cons_succ, i64_w, i32_w]
          rfl
         refine pure_ (i := 21) (N := some 63) (v := ?_) (a' := ?_) (rb5 [15, 1, 2, 3, 1, 16]) rfl rfl (qe0 HT_.out (by kernel_rfl)) (fun _ _ _ h => h) (Or.inl ⟨by rfl, ?_⟩) ?_ ?_
         rotate_left
         ·intro w'
          go_simp
          with_reducible rfl
         rotate_left
         ·simp only [Act.put, List.setIfInBounds_toArray, List.set_cons_zero, List.set_cons_succ, i64_w, i32_w]
          rfl
         refine take_ (i := 15) (N := some 57) (v := ?_) (a' := ?_) (rb5 [18, 3, 1, 16]) rfl rfl (qr0 HT_.out HW_.out (by kernel_rfl)) (fun _ _ _ h => h) (Or.inl ⟨by rfl, ?_⟩) hHeld ?_ ?_
         rotate_left
         ·rintro w' ⟨s0, s1, s2, s3, s4, s5, s6, s7, s8, s9⟩
          go_simp
          with_reducible rfl
         rotate_left
         ·simp only [Act.put, List.setIfInBounds_toArray, List.set_cons_zero, List.set_cons_succ, i64_w, i32_w]
          rfl
         refine pure_ (i := 18) (N := some 60) (v := ?_) (a' := ?_) (rb5 [19, 2, 1, 16]) rfl rfl (qe0 HT_.out (by kernel_rfl)) (fun _ _ _ h => h) (Or.inl ⟨by rfl, ?_⟩) ?_ ?_
         rotate_left
         ·intro w'
          go_simp
          with_reducible rfl
         rotate_left
         ·simp only [Act.put, List.setIfInBounds_toArray, List.set_cons_zero, List.set_cons_succ, i64_w, i32_w]
          rfl
         refine pure_ (i := 19) (N := some 61) (v := ?_) (a' := ?_) (rb5 [20, 1, 1, 16]) rfl rfl (qe0 HT_.out (by kernel_rfl)) (fun _ _ _ h => h) (Or.inl ⟨by rfl, ?_⟩) ?_ ?_
         rotate_left
         ·intro w'
          go_simp
          with_reducible rfl
         rotate_left
         ·simp only [Act.put, List.setIfInBounds_toArray, List.set_cons_zero, List.set_cons_succ, i64_w, i32_w]
          rfl
         refine take_ (i := 20) (N := some 62) (v := ?_) (a' := ?_) (rb5 [22, 16]) rfl rfl (qr0 HT_.out HW_.out (by kernel_rfl)) (fun _ _ _ h => h) (Or.inl ⟨by rfl, ?_⟩) hHeld ?_ ?_
         rotate_left
         ·rintro w' ⟨s0, s1, s2, s3, s4, s5, s6, s7, s8, s9⟩
          go_simp
          with_reducible rfl
         rotate_left
         ·simp only [Act.put, List.setIfInBounds_toArray, List.set_cons_zero, List.set_cons_succ, i64_w, i32_w]
          rfl
         refine take_ (i := 22) (N := some 64) (v := ?_) (a' := ?_) (rb5 [23, 15]) rfl rfl (qr0 HT_.out HW_.out (by kernel_rfl)) (fun _ _ _ h => h) (Or.inl ⟨by rfl, ?_⟩) hHeld ?_ ?_
         rotate_left
         ·rintro w' ⟨s0, s1, s2, s3, s4, s5, s6, s7, s8, s9⟩
          go_simp
          with_reducible rfl
         rotate_left
         ·simp only [Act.put, List.setIfInBounds_toArray, List.set_cons_zero, List.set_cons_succ, i64_w, i32_w]
          rfl
         refine pure_ (i := 23) (N := some 65) (v := ?_) (a' := ?_) (rb5 [24, 14]) rfl rfl (qe0 HT_.out (by kernel_rfl)) (fun _ _ _ h => h) (Or.inl ⟨by rfl, ?_⟩) ?_ ?_
         rotate_left
         ·intro w'
          go_simp
          with_reducible rfl
         rotate_left
         ·simp only [Act.put, List.setIfInBounds_toArray, List.set_cons_zero, List.set_cons_succ, i64_w, i32_w]
          rfl
         refine pure_ (i := 24) (N := some 66) (v := ?_) (a' := ?_) (rb5 [25, 13]) rfl rfl (qe0 HT_.out (by kernel_rfl)) (fun _ _ _ h => h) (Or.inl ⟨by rfl, ?_⟩) ?_ ?_
         rotate_left
         ·intro w'
          go_simp
          with_reducible rfl
         rotate_left
         ·simp only [Act.put, List.setIfInBounds_toArray, List.set_cons_zero, List.set_cons_succ, i64_w, i32_w]
          rfl
         refine pure_ (i := 25) (N := some 67) (v := ?_) (a' := ?_) (rb5 [26, 12]) rfl rfl (qe0 HT_.out (by kernel_rfl)) (fun _ _ _ h => h) (Or.inl ⟨by rfl, ?_⟩) ?_ ?_
         rotate_left
         ·intro w'
          go_simp
          with_reducible rfl
         rotate_left
         ·simp only [Act.put, List.setIfInBounds_toArray, List.set_cons_zero, List.set_cons_succ, i64_w, i32_w]
          rfl
         refine pure_ (i := 27) (N := some 69) (v := ?_) (a' := ?_) (rb5 [26, 1, 1, 10]) rfl rfl (qe0 HT_.out (by kernel_rfl)) (fun _ _ _ h => h) (Or.inl ⟨by rfl, ?_⟩) ?_ ?_
         rotate_left
         ·intro w'
          go_simp
          with_reducible rfl
         rotate_left
         ·simp only [Act.put, List.setIfInBounds_toArray, List.set_cons_zero, List.set_cons_succ, i64_w, i32_w]
          rfl
         refine pure_ (i := 28) (N := some 70) (v := ?_) (a' := ?_) (rb5 [26, 1, 2, 9]) rfl rfl (qe0 HT_.out (by kernel_rfl)) (fun _ _ _ h => h) (Or.inl ⟨by rfl, ?_⟩) ?_ ?_
         rotate_left
         ·intro w'
          go_simp
          with_reducible rfl
         rotate_left
         ·simp only [Act.put, List.setIfInBounds_toArray, List.set_cons_zero, List.set_cons_succ, i64_w, i32_w]
          rfl
         refine pure_ (i := 32) (N := some 74) (v := ?_) (a' := ?_) (rb5 [26, 1, 2, 3, 1, 5]) rfl rfl (qe0 HT_.out (by kernel_rfl)) (fun _ _ _ h => h) (Or.inl ⟨by rfl, ?_⟩) ?_ ?_
         rotate_left
         ·intro w'
          go_simp
          with_reducible rfl
         rotate_left
         ·simp only [Act.put, List.setIfInBounds_toArray, List.set_cons_zero, List.set_cons_succ, i64_w, i32_w]
          rfl
         refine take_ (i := 26) (N := some 68) (v := ?_) (a' := ?_) (rb5 [29, 3, 1, 5]) rfl rfl (qr0 HT_.out HW_.out (by kernel_rfl)) (fun _ _ _ h => h) (Or.inl ⟨by rfl, ?_⟩) hHeld ?_ ?_
         rotate_left
         ·rintro w' ⟨s0, s1, s2, s3, s4, s5, s6, s7, s8, s9⟩
          go_simp
          with_reducible rfl
         rotate_left
         ·simp only [Act.put, List.setIfInBounds_toArray, List.set_cons_zero, List.set_cons_succ, i64_w, i32_w]
          rfl
         refine pure_ (i := 29) (N := some 71) (v := ?_) (a' := ?_) (rb5 [30, 2, 1, 5]) rfl rfl (qe0 HT_.out (by kernel_rfl)) (fun _ _ _ h => h) (Or.inl ⟨by rfl, ?_⟩) ?_ ?_
         rotate_left
         ·intro w'
          go_simp
          with_reducible rfl
         rotate_left
         ·simp only [Act.put, List.setIfInBounds_toArray, List.set_cons_zero, List.set_cons_succ, i64_w, i32_w]
          rfl
         refine pure_ (i := 30) (N := some 72) (v := ?_) (a' := ?_) (rb5 [31, 1, 1, 5]) rfl rfl (qe0 HT_.out (by kernel_rfl)) (fun _ _ _ h => h) (Or.inl ⟨by rfl, ?_⟩) ?_ ?_
         rotate_left
         ·intro w'
          go_simp
          with_reducible rfl
         rotate_left
         ·simp only [Act.put, List.setIfInBounds_toArray, List.set_cons_zero, List.set_cons_succ, i64_w, i32_w]
          rfl
         refine take_ (i := 31) (N := some 73) (v := ?_) (a' := ?_) (rb5 [33, 5]) rfl rfl (qr0 HT_.out HW_.out (by kernel_rfl)) (fun _ _ _ h => h) (Or.inl ⟨by rfl, ?_⟩) hHeld ?_ ?_
         rotate_left
         ·rintro w' ⟨s0, s1, s2, s3, s4, s5, s6, s7, s8, s9⟩
          go_simp
          with_reducible rfl
         rotate_left
         ·simp only [Act.put, List.setIfInBounds_toArray, List.set_cons_zero, List.set_cons_succ, i64_w, i32_w]
          rfl
         refine take_ (i := 33) (N := some 75) (v := ?_) (a' := ?_) (rb5 [34, 4]) rfl rfl (qr0 HT_.out HW_.out (by kernel_rfl)) (fun _ _ _ h => h) (Or.inl ⟨by rfl, ?_⟩) hHeld ?_ ?_
         rotate_left
         ·rintro w' ⟨s0, s1, s2, s3, s4, s5, s6, s7, s8, s9⟩
          go_simp
          with_reducible rfl
         rotate_left
         ·simp only [Act.put, List.setIfInBounds_toArray, List.set_cons_zero, List.set_cons_succ, i64_w, i32_w]
          rfl
         refine pure_ (i := 34) (N := some 76) (v := ?_) (a' := ?_) (rb5 [35, 3]) rfl rfl (qe0 HT_.out (by kernel_rfl)) (fun _ _ _ h => h) (Or.inl ⟨by rfl, ?_⟩) ?_ ?_
         rotate_left
         ·intro w'
          go_simp
          with_reducible rfl
         rotate_left
         ·simp only [Act.put, List.setIfInBounds_toArray, List.set_cons_zero, List.set_cons_succ, i64_w, i32_w]
          rfl
         refine pure_ (i := 35) (N := some 77) (v := ?_) (a' := ?_) (rb5 [36, 2]) rfl rfl (qe0 HT_.out (by kernel_rfl)) (fun _ _ _ h => h) (Or.inl ⟨by rfl, ?_⟩) ?_ ?_
         rotate_left
         ·intro w'
          go_simp
          with_reducible rfl
         rotate_left
         ·simp only [Act.put, List.setIfInBounds_toArray, List.set_cons_zero, List.set_cons_succ, i64_w, i32_w]
          rfl
         refine pure_ (i := 36) (N := some 78) (v := ?_) (a' := ?_) (rb5 [37, 1]) rfl rfl (qe0 HT_.out (by kernel_rfl)) (fun _ _ _ h => h) (Or.inl ⟨by rfl, ?_⟩) ?_ ?_
         rotate_left
         ·intro w'
          go_simp
          with_reducible rfl
         rotate_left
         ·simp only [Act.put, List.setIfInBounds_toArray, List.set_cons_zero, List.set_cons_succ, i64_w, i32_w]
          rfl
         refine pure_ (i := 37) (N := some 79) (v := ?_) (a' := ?_) (rb5 [38]) rfl rfl (qe0 HT_.out (by kernel_rfl)) (fun _ _ _ h => h) (Or.inl ⟨by rfl, ?_⟩) ?_ ?_
         rotate_left
         ·intro w'
          go_simp
          with_reducible rfl
         rotate_left
         ·simp only [Act.put, List.setIfInBounds_toArray, List.set_cons_zero, List.set_cons_succ, i64_w, i32_w]
          rfl
         refine done_ (qx1 HT_.out (by kernel_rfl)) ?_
         try go_wp2
         go_roundg k2
         case measure => have := HJ1.out; have := HK2.out; omega
         case rel => exact ⟨(wrap64 (x37_2 + 1)), (by first | rfl | (simp; done) | (simp [*]; done)), H', ⟨by have := HJ1.out; have := HK2.out; omega⟩, ⟨by (with_reducible repeat (first | refine qh0 ?_ _ | refine qj0 ?_ | refine qi0 ?_ _)); exact BK185.out⟩, ⟨by repeat (first | (with_reducible first | exact HB.out | apply qc0 | apply qa0 | apply qb0 | refine qg0 ?_ GE185.out | refine qg0 ?_ GE190.out) | exact HB.out)⟩⟩
        rw [if_neg c25] at H
        have c25b0 : decide (0 < x37_2) = false := decide_eq_false c25
        clear c25
        have H' := Aside0.mk H
        clear H
        have p189 : 0 ≤ (x37_2 : Int) := of_decide_eq_true (by first | (with_reducible assumption) | assumption)
        have q189 : x37_2 < (l0_3.length : Int) := of_decide_eq_true (by first | (with_reducible assumption) | assumption)
        obtain ⟨ad189, e189, hx189_0, hx189_1⟩ := at_T218 HR0_3.out x37_2 p189 q189
        cases e189
        replace hx189_0 := (HB.out.cell (World.block_lt_of_cell? w _ hx189_0)).trans hx189_0
        replace hx189_1 := (HB.out.cell (World.block_lt_of_cell? w _ hx189_1)).trans hx189_1
        replace p189 := eq_true p189
        replace q189 := eq_true q189
        try go_wp2_with (first | ((with_reducible refine qu0 (N := 4) rfl ?_); (try (refine qx0 (by rfl) ?_; dsimp only)); refine qy0 ?hg (N := 4) ?hd (cs := #[.int .i64 0, .int .i64 0]) (t := 218) ?hr ?_; (case hd => rfl); (case hg => rfl); (case hr => first | (go_simp; done) | (go_simp; rfl)); intro gb190 hg w46 hbox hb; have n0_ := Aside0.mk (qa1 (g := gb185) (o := .cells #[.int .i64 a0_0, .int .i64 a0_1, .int .i64 a0_2, .slice (some ad189) l0_3.length c0_3] 143 (0, 0)) (by (with_reducible repeat (first | refine qh0 ?_ _ | refine qj0 ?_ | refine qi0 ?_ _)); exact BK185.out) hb); have n1_ := Aside0.mk (qo0 (by repeat (first | (with_reducible first | exact HB.out | apply qc0 | apply qa0 | apply qb0 | refine qg0 ?_ GE185.out) | exact HB.out)) hb); have n2_ := Aside0.mk (hbox); have n3_ := Aside0.mk ((by rw [hg]; exact (qk0 (by repeat (first | (with_reducible first | exact HB.out | apply qc0 | apply qa0 | apply qb0 | refine qg0 ?_ GE185.out) | exact HB.out))) : w.heap.size ≤ gb190)); have n4_ := Aside0.mk ((by rw [hg]; exact (qk0 (by repeat (first | (with_reducible first | exact HB.out | apply qc0 | apply qa0 | apply qb0 | refine qg0 ?_ GE185.out) | exact HB.out))) : w.heap.size ≤ gb190)); have n5_ := Aside0.mk ((by rw [hg]; exact Nat.ne_of_lt (qb1 (g := gb185) (o := .cells #[.int .i64 a0_0, .int .i64 a0_1, .int .i64 a0_2, .slice (some ad189) l0_3.length c0_3] 143 (0, 0)) (by (with_reducible repeat (first | refine qh0 ?_ _ | refine qj0 ?_ | refine qi0 ?_ _)); exact BK185.out)) : gb185 ≠ gb190)); have n6_ := Aside0.mk ((by rw [hg]; exact Nat.ne_of_gt (qb1 (g := gb185) (o := .cells #[.int .i64 a0_0, .int .i64 a0_1, .int .i64 a0_2, .slice (some ad189) l0_3.length c0_3] 143 (0, 0)) (by (with_reducible repeat (first | refine qh0 ?_ _ | refine qj0 ?_ | refine qi0 ?_ _)); exact BK185.out)) : gb190 ≠ gb185)); clear BK185; clear HB; have BK185 := n0_; have HB := n1_; have BK190 := n2_; have GW190 := n3_; have GE190 := n4_; have NB185_190 := n5_; have NB190_185 := n6_; clear n0_ n1_ n2_ n3_ n4_ n5_ n6_; clear hb hbox hg; have hnb47 := NB190_185.out; have hnc47 := NB185_190.out; have hcz48_0 : w46.cell? ⟨gb190, 0, none⟩ = some (.int .i64 0) := (qd0 BK190.out 0).trans rfl; have hcz48_1 : w46.cell? ⟨gb190, 1, none⟩ = some (.int .i64 0) := (qd0 BK190.out 1).trans rfl; have hfz48_0 := qf0 BK190.out 0; have hfz48_1 := qf0 BK190.out 1))
        have n0_ : Aside0 (((w46.setCell ⟨gb190, 0, none⟩ (.int .i64 ((rd_T218 l0_3 x37_2).f0))).setCell ⟨gb190, 1, none⟩ (.int .i64 ((rd_T218 l0_3 x37_2).f1))).heap[gb185]? = some (.cells #[.int .i64 a0_0, .int .i64 a0_1, .int .i64 a0_2, .slice (some ad189) l0_3.length c0_3] 143 (0, 0))) := ⟨by (with_reducible repeat (first | refine qh0 ?_ _ | refine qj0 ?_ | refine qi0 ?_ _)); refine ql1 ?_ NB185_190.out _; (with_reducible repeat (first | refine qh0 ?_ _ | refine qj0 ?_ | refine qi0 ?_ _)); refine ql1 ?_ NB185_190.out _; (with_reducible repeat (first | refine qh0 ?_ _ | refine qj0 ?_ | refine qi0 ?_ _)); exact BK185.out⟩
        have n1_ : Aside0 (((w46.setCell ⟨gb190, 0, none⟩ (.int .i64 ((rd_T218 l0_3 x37_2).f0))).setCell ⟨gb190, 1, none⟩ (.int .i64 ((rd_T218 l0_3 x37_2).f1))).heap[gb190]? = some (.cells #[.int .i64 ((rd_T218 l0_3 x37_2).f0), .int .i64 ((rd_T218 l0_3 x37_2).f1)] 218 (0, 0))) := ⟨by (with_reducible repeat (first | refine qh0 ?_ _ | refine qj0 ?_ | refine qi0 ?_ _)); refine qe1 (cs := #[.int .i64 ((rd_T218 l0_3 x37_2).f0), .int .i64 0]) ?_ 1 _ rfl; (with_reducible repeat (first | refine qh0 ?_ _ | refine qj0 ?_ | refine qi0 ?_ _)); refine qe1 (cs := #[.int .i64 0, .int .i64 0]) ?_ 0 _ rfl; (with_reducible repeat (first | refine qh0 ?_ _ | refine qj0 ?_ | refine qi0 ?_ _)); exact BK190.out⟩
        have n2_ : Aside0 (Below w.heap.size w ((w46.setCell ⟨gb190, 0, none⟩ (.int .i64 ((rd_T218 l0_3 x37_2).f0))).setCell ⟨gb190, 1, none⟩ (.int .i64 ((rd_T218 l0_3 x37_2).f1)))) := ⟨by repeat (first | (with_reducible first | exact HB.out | apply qc0 | apply qa0 | apply qb0 | refine qg0 ?_ GE185.out | refine qg0 ?_ GE190.out) | exact HB.out)⟩
        (try clear BK185)
        (try clear BK190)
        (try clear HB)
        generalize ((w46.setCell ⟨gb190, 0, none⟩ (.int .i64 ((rd_T218 l0_3 x37_2).f0))).setCell ⟨gb190, 1, none⟩ (.int .i64 ((rd_T218 l0_3 x37_2).f1))) = w49 at n0_ n1_ n2_ ⊢
        have BK185 := n0_
        have BK190 := n1_
        have HB := n2_
        clear n0_ n1_ n2_
        have n0_ := Aside0.mk (qj0 BK185.out)
        have n1_ := Aside0.mk (qj0 BK190.out)
        have n2_ := Aside0.mk (qb0 HB.out)
        clear BK185
        clear BK190
        clear HB
        have BK185 := n0_
        have BK190 := n1_
        have HB := n2_
        clear n0_ n1_ n2_
        refine qd2 (n := 38) (S := fun w' => w'.cell? ⟨gb190, 0, none⟩ = some (.int .i64 ((rd_T218 l0_3 x37_2).f0)) ∧ w'.cell? ⟨gb190, 1, none⟩ = some (.int .i64 ((rd_T218 l0_3 x37_2).f1))) (ds := []) (rb5 [0, 38]) (by kernel_rfl) rfl rfl ⟨(qd0 BK190.out 0).trans rfl, (qd0 BK190.out 1).trans rfl⟩ (fun hHeld => ?_); refine qn1 impl_dutyOk.tab6 impl_dutyOk.bits6 (fun HT_ HW_ => ?_)
        generalize w49.drew = w50 at BK185 BK190 HB hHeld ⊢
        refine pure_ (i := 0) (N := some 42) (v := ?_) (a' := ?_) (rb5 [1, 37]) rfl rfl (qe0 HT_.out (by kernel_rfl)) (fun _ _ _ h => h) (Or.inl ⟨by rfl, ?_⟩) ?_ ?_
        rotate_left
        ·intro w'
         go_simp
         with_reducible rfl
        rotate_left
        ·simp only [Act.put, List.setIfInBounds_toArray, List.set_cons_zero, List.set_cons_succ, i64_w, i32_w]
         rfl
        refine take_ (i := 1) (N := some 43) (v := ?_) (a' := ?_) (rb5 [2, 36]) rfl rfl (qr0 HT_.out HW_.out (by kernel_rfl)) (fun _ _ _ h => h) (Or.inl ⟨by rfl, ?_⟩) hHeld ?_ ?_
        rotate_left
        ·rintro w' ⟨s0, s1⟩
         go_simp
         with_reducible rfl
        rotate_left
        ·simp only [Act.put, List.setIfInBounds_toArray, List.set_cons_zero, List.set_cons_succ, i64_w, i32_w]
         rfl
        refine one_ (i := 2) (N := some 44) (rb5 [3, 35]) rfl rfl (qw1 HT_.out (by kernel_rfl)) (by decide) (fun K hK => ?_)
        refine goes_ Try.func88 (by kernel_rfl) rfl #[.int .i64 ((rd_T218 l0_3 x37_2).f0)] (by rfl) rfl rfl (by (try simp only [List.map_toArray, List.map_cons, List.map_nil]); first | done | rfl | (simp only [List.length_drop, List.length_take]; rfl)) ?_
        with_reducible refine (impl_isDay.calls ((rd_T218 l0_3 x37_2).f0) true _ A21.out).mono ?_
        rintro e w' ⟨rfl, ⟨nd, rfl⟩⟩
        refine ⟨_, rfl, ?_⟩
        refine hK.out _ _ ⟨(qd0 BK190.out 0).trans rfl, (qd0 BK190.out 1).trans rfl⟩ (fun hHeld => ?_)
        clear hK K
        refine norm_ (a' := ?_) ?_ ?_
        rotate_left
        ·show Act.put _ (some 44) _ = _
         simp only [Act.put, List.setIfInBounds_toArray, List.set_cons_zero, List.set_cons_succ, i64_w, i32_w]
         rfl
        refine pure_ (i := 3) (N := some 45) (v := ?_) (a' := ?_) (rb5 [4, 34]) rfl rfl (qe0 HT_.out (by kernel_rfl)) (fun _ _ _ h => h) (Or.inl ⟨by rfl, ?_⟩) ?_ ?_
        rotate_left
        ·intro w'
         go_simp
         with_reducible rfl
        rotate_left
        ·simp only [Act.put, List.setIfInBounds_toArray, List.set_cons_zero, List.set_cons_succ, i64_w, i32_w]
         rfl
        refine pure_ (i := 4) (N := some 46) (v := ?_) (a' := ?_) (rb5 [5, 33]) rfl rfl (qe0 HT_.out (by kernel_rfl)) (fun _ _ _ h => h) (Or.inl ⟨by rfl, ?_⟩) ?_ ?_
        rotate_left
        ·intro w'
         go_simp
         with_reducible rfl
        rotate_left
        ·simp only [Act.put, List.setIfInBounds_toArray, List.set_cons_zero, List.set_cons_succ, i64_w, i32_w]
         rfl
        refine pure_ (i := 5) (N := some 47) (v := ?_) (a' := ?_) (rb5 [6, 32]) rfl rfl (qe0 HT_.out (by kernel_rfl)) (fun _ _ _ h => h) (Or.inl ⟨by rfl, ?_⟩) ?_ ?_
        rotate_left
        ·intro w'
         go_simp
         with_reducible rfl
        rotate_left
        ·simp only [Act.put, List.setIfInBounds_toArray, List.set_cons_zero, List.set_cons_succ, i64_w, i32_w]
         rfl
        refine take_ (i := 6) (N := some 48) (v := ?_) (a' := ?_) (rb5 [7, 31]) rfl rfl (qr0 HT_.out HW_.out (by kernel_rfl)) (fun _ _ _ h => h) (Or.inl ⟨by rfl, ?_⟩) hHeld ?_ ?_
        rotate_left
        ·rintro w' ⟨s0, s1⟩
         go_simp
         with_reducible rfl
        rotate_left
        ·simp only [Act.put, List.setIfInBounds_toArray, List.set_cons_zero, List.set_cons_succ, i64_w, i32_w]
         rfl
        refine one_ (i := 7) (N := some 49) (rb5 [8, 30]) rfl rfl (qw1 HT_.out (by kernel_rfl)) (by decide) (fun K hK => ?_)
        refine goes_ Try.func74 (by kernel_rfl) rfl #[.int .i64 ((rd_T218 l0_3 x37_2).f1), .int .i64 0, .int .i64 1000] (by rfl) rfl rfl (by (try simp only [List.map_toArray, List.map_cons, List.map_nil]); first | done | rfl | (simp only [List.length_drop, List.length_take]; rfl)) ?_
        with_reducible refine (impl_between.calls ((rd_T218 l0_3 x37_2).f1) 0 1000 true _ A23.out).mono ?_
        rintro e w' ⟨rfl, ⟨nd, rfl⟩⟩
        refine ⟨_, rfl, ?_⟩
        refine hK.out _ _ ⟨(qd0 BK190.out 0).trans rfl, (qd0 BK190.out 1).trans rfl⟩ (fun hHeld => ?_)
        clear hK K
        refine norm_ (a' := ?_) ?_ ?_
        rotate_left
        ·show Act.put _ (some 49) _ = _
         simp only [Act.put, List.setIfInBounds_toArray, List.set_cons_zero, List.set_cons_succ, i64_w, i32_w]
         rfl
        refine pure_ (i := 8) (N := some 50) (v := ?_) (a' := ?_) (rb5 [9, 29]) rfl rfl (qe0 HT_.out (by kernel_rfl)) (fun _ _ _ h => h) (Or.inl ⟨by rfl, ?_⟩) ?_ ?_
        rotate_left
        ·intro w'
         go_simp
         with_reducible rfl
        rotate_left
        ·simp only [Act.put, List.setIfInBounds_toArray, List.set_cons_zero, List.set_cons_succ, i64_w, i32_w]
         rfl
        refine pure_ (i := 9) (N := some 51) (v := ?_) (a' := ?_) (rb5 [10, 28]) rfl rfl (qe0 HT_.out (by kernel_rfl)) (fun _ _ _ h => h) (Or.inl ⟨by rfl, ?_⟩) ?_ ?_
        rotate_left
        ·intro w'
         go_simp
         with_reducible rfl
        rotate_left
        ·simp only [Act.put, List.setIfInBounds_toArray, List.set_cons_zero, List.set_cons_succ, i64_w, i32_w]
         rfl
        refine pure_ (i := 10) (N := some 52) (v := ?_) (a' := ?_) (rb5 [11, 27]) rfl rfl (qe0 HT_.out (by kernel_rfl)) (fun _ _ _ h => h) (Or.inl ⟨by rfl, ?_⟩) ?_ ?_
        rotate_left
        ·intro w'
         go_simp
         with_reducible rfl
        rotate_left
        ·simp only [Act.put, List.setIfInBounds_toArray, List.set_cons_zero, List.set_cons_succ, i64_w, i32_w]
         rfl
        refine pure_ (i := 11) (N := some 53) (v := ?_) (a' := ?_) (rb5 [12, 26]) rfl rfl (qe0 HT_.out (by kernel_rfl)) (fun _ _ _ h => h) (Or.inl ⟨by rfl, ?_⟩) ?_ ?_
        rotate_left
        ·intro w'
         go_simp
         with_reducible rfl
        rotate_left
        ·simp only [Act.put, List.setIfInBounds_toArray, List.set_cons_zero, List.set_cons_succ, i64_w, i32_w]
         rfl
        refine pure_ (i := 12) (N := some 54) (v := ?_) (a' := ?_) (rb5 [13, 25]) rfl rfl (qe0 HT_.out (by kernel_rfl)) (fun _ _ _ h => h) (Or.inl ⟨by rfl, ?_⟩) ?_ ?_
        rotate_left
        ·intro w'
         go_simp
         with_reducible rfl
        rotate_left
        ·simp only [Act.put, List.setIfInBounds_toArray, List.set_cons_zero, List.set_cons_succ, i64_w, i32_w]
         rfl
        refine pure_ (i := 13) (N := some 55) (v := ?_) (a' := ?_) (rb5 [14, 24]) rfl rfl (qe0 HT_.out (by kernel_rfl)) (fun _ _ _ h => h) (Or.inl ⟨by rfl, ?_⟩) ?_ ?_
        rotate_left
        ·intro w'
         go_simp
         with_reducible rfl
        rotate_left
        ·simp only [Act.put, List.setIfInBounds_toArray, List.set_cons_zero, List.set_cons_succ, i64_w, i32_w]
         rfl
        refine pure_ (i := 14) (N := some 56) (v := undef) (a' := ?_) (rb5 [15, 23]) rfl rfl (qe0 HT_.out (by kernel_rfl)) (fun _ _ _ h => h) (Or.inr ⟨by rfl, rfl⟩) ?_ ?_
        rotate_left
        ·simp only [Act.put, List.setIfInBounds_toArray, List.set_cons_zero, List.set_cons_succ, i64_w, i32_w]
         rfl
        refine pure_ (i := 15) (N := some 57) (v := undef) (a' := ?_) (rb5 [16, 22]) rfl rfl (qe0 HT_.out (by kernel_rfl)) (fun _ _ _ h => h) (Or.inr ⟨by rfl, rfl⟩) ?_ ?_
        rotate_left
        ·simp only [Act.put, List.setIfInBounds_toArray, List.set_cons_zero, List.set_cons_succ, i64_w, i32_w]
         rfl
        refine pure_ (i := 16) (N := some 58) (v := undef) (a' := ?_) (rb5 [17, 21]) rfl rfl (qe0 HT_.out (by kernel_rfl)) (fun _ _ _ h => h) (Or.inr ⟨by rfl, rfl⟩) ?_ ?_
        rotate_left
        ·simp only [Act.put, List.setIfInBounds_toArray, List.set_cons_zero, List.set_cons_succ, i64_w, i32_w]
         rfl
        refine pure_ (i := 17) (N := some 59) (v := undef) (a' := ?_) (rb5 [18, 20]) rfl rfl (qe0 HT_.out (by kernel_rfl)) (fun _ _ _ h => h) (Or.inr ⟨by rfl, rfl⟩) ?_ ?_
        rotate_left
        ·simp only [Act.put, List.setIfInBounds_toArray, List.set_cons_zero, List.set_cons_succ, i64_w, i32_w]
         rfl
        refine pure_ (i := 18) (N := some 60) (v := undef) (a' := ?_) (rb5 [19, 19]) rfl rfl (qe0 HT_.out (by kernel_rfl)) (fun _ _ _ h => h) (Or.inr ⟨by rfl, rfl⟩) ?_ ?_
        rotate_left
        ·simp only [Act.put, List.setIfInBounds_toArray, List.set_cons_zero, List.set_cons_succ, i64_w, i32_w]
         rfl
        refine pure_ (i := 19) (N := some 61) (v := undef) (a' := ?_) (rb5 [20, 18]) rfl rfl (qe0 HT_.out (by kernel_rfl)) (fun _ _ _ h => h) (Or.inr ⟨by rfl, rfl⟩) ?_ ?_
        rotate_left
        ·simp only [Act.put, List.setIfInBounds_toArray, List.set_cons_zero, List.set_cons_succ, i64_w, i32_w]
         rfl
        refine pure_ (i := 20) (N := some 62) (v := undef) (a' := ?_) (rb5 [21, 17]) rfl rfl (qe0 HT_.out (by kernel_rfl)) (fun _ _ _ h => h) (Or.inr ⟨by rfl, rfl⟩) ?_ ?_
        rotate_left
        ·simp only [Act.put, List.setIfInBounds_toArray, List.set_cons_zero, List.set_cons_succ, i64_w, i32_w]
         rfl
        refine pure_ (i := 21) (N := some 63) (v := undef) (a' := ?_) (rb5 [22, 16]) rfl rfl (qe0 HT_.out (by kernel_rfl)) (fun _ _ _ h => h) (Or.inr ⟨by rfl, rfl⟩) ?_ ?_
        rotate_left
        ·simp only [Act.put, List.setIfInBounds_toArray, List.set_cons_zero, List.set_cons_succ, i64_w, i32_w]
         rfl
        refine pure_ (i := 22) (N := some 64) (v := undef) (a' := ?_) (rb5 [23, 15]) rfl rfl (qe0 HT_.out (by kernel_rfl)) (fun _ _ _ h => h) (Or.inr ⟨by rfl, rfl⟩) ?_ ?_
        rotate_left
        ·simp only [Act.put, List.setIfInBounds_toArray, List.set_cons_zero, List.set_cons_succ, i64_w, i32_w]
         rfl
        refine pure_ (i := 23) (N := some 65) (v := undef) (a' := ?_) (rb5 [24, 14]) rfl rfl (qe0 HT_.out (by kernel_rfl)) (fun _ _ _ h => h) (Or.inr ⟨by rfl, rfl⟩) ?_ ?_
        rotate_left
        ·simp only [Act.put, List.setIfInBounds_toArray, List.set_cons_zero, List.set_cons_succ, i64_w, i32_w]
         rfl
        refine pure_ (i := 24) (N := some 66) (v := undef) (a' := ?_) (rb5 [25, 13]) rfl rfl (qe0 HT_.out (by kernel_rfl)) (fun _ _ _ h => h) (Or.inr ⟨by rfl, rfl⟩) ?_ ?_
        rotate_left
        ·simp only [Act.put, List.setIfInBounds_toArray, List.set_cons_zero, List.set_cons_succ, i64_w, i32_w]
         rfl
        refine pure_ (i := 25) (N := some 67) (v := undef) (a' := ?_) (rb5 [26, 12]) rfl rfl (qe0 HT_.out (by kernel_rfl)) (fun _ _ _ h => h) (Or.inr ⟨by rfl, rfl⟩) ?_ ?_
        rotate_left
        ·simp only [Act.put, List.setIfInBounds_toArray, List.set_cons_zero, List.set_cons_succ, i64_w, i32_w]
         rfl
        refine pure_ (i := 26) (N := some 68) (v := undef) (a' := ?_) (rb5 [27, 11]) rfl rfl (qe0 HT_.out (by kernel_rfl)) (fun _ _ _ h => h) (Or.inr ⟨by rfl, rfl⟩) ?_ ?_
        rotate_left
        ·simp only [Act.put, List.setIfInBounds_toArray, List.set_cons_zero, List.set_cons_succ, i64_w, i32_w]
         rfl
        refine pure_ (i := 27) (N := some 69) (v := undef) (a' := ?_) (rb5 [28, 10]) rfl rfl (qe0 HT_.out (by kernel_rfl)) (fun _ _ _ h => h) (Or.inr ⟨by rfl, rfl⟩) ?_ ?_
        rotate_left
        ·simp only [Act.put, List.setIfInBounds_toArray, List.set_cons_zero, List.set_cons_succ, i64_w, i32_w]
         rfl
        refine pure_ (i := 28) (N := some 70) (v := undef) (a' := ?_) (rb5 [29, 9]) rfl rfl (qe0 HT_.out (by kernel_rfl)) (fun _ _ _ h => h) (Or.inr ⟨by rfl, rfl⟩) ?_ ?_
        rotate_left
        ·simp only [Act.put, List.setIfInBounds_toArray, List.set_cons_zero, List.set_cons_succ, i64_w, i32_w]
         rfl
        refine pure_ (i := 29) (N := some 71) (v := undef) (a' := ?_) (rb5 [30, 8]) rfl rfl (qe0 HT_.out (by kernel_rfl)) (fun _ _ _ h => h) (Or.inr ⟨by rfl, rfl⟩) ?_ ?_
        rotate_left
        ·simp only [Act.put, List.setIfInBounds_toArray, List.set_cons_zero, List.set_cons_succ, i64_w, i32_w]
         rfl
        refine pure_ (i := 30) (N := some 72) (v := undef) (a' := ?_) (rb5 [31, 7]) rfl rfl (qe0 HT_.out (by kernel_rfl)) (fun _ _ _ h => h) (Or.inr ⟨by rfl, rfl⟩) ?_ ?_
        rotate_left
        ·simp only [Act.put, List.setIfInBounds_toArray, List.set_cons_zero, List.set_cons_succ, i64_w, i32_w]
         rfl
        refine pure_ (i := 31) (N := some 73) (v := undef) (a' := ?_) (rb5 [32, 6]) rfl rfl (qe0 HT_.out (by kernel_rfl)) (fun _ _ _ h => h) (Or.inr ⟨by rfl, rfl⟩) ?_ ?_
        rotate_left
        ·simp only [Act.put, List.setIfInBounds_toArray, List.set_cons_zero, List.set_cons_succ, i64_w, i32_w]
         rfl
        refine pure_ (i := 32) (N := some 74) (v := undef) (a' := ?_) (rb5 [33, 5]) rfl rfl (qe0 HT_.out (by kernel_rfl)) (fun _ _ _ h => h) (Or.inr ⟨by rfl, rfl⟩) ?_ ?_
        rotate_left
        ·simp only [Act.put, List.setIfInBounds_toArray, List.set_cons_zero, List.set_cons_succ, i64_w, i32_w]
         rfl
        refine pure_ (i := 33) (N := some 75) (v := undef) (a' := ?_) (rb5 [34, 4]) rfl rfl (qe0 HT_.out (by kernel_rfl)) (fun _ _ _ h => h) (Or.inr ⟨by rfl, rfl⟩) ?_ ?_
        rotate_left
        ·simp only [Act.put, List.setIfInBounds_toArray, List.set_cons_zero, List.set_cons_succ, i64_w, i32_w]
         rfl
        refine pure_ (i := 34) (N := some 76) (v := undef) (a' := ?_) (rb5 [35, 3]) rfl rfl (qe0 HT_.out (by kernel_rfl)) (fun _ _ _ h => h) (Or.inr ⟨by rfl, rfl⟩) ?_ ?_
        rotate_left
        ·simp only [Act.put, List.setIfInBounds_toArray, List.set_cons_zero, List.set_cons_succ, i64_w, i32_w]
         rfl
        refine pure_ (i := 35) (N := some 77) (v := undef) (a' := ?_) (rb5 [36, 2]) rfl rfl (qe0 HT_.out (by kernel_rfl)) (fun _ _ _ h => h) (Or.inr ⟨by rfl, rfl⟩) ?_ ?_
        rotate_left
        ·simp only [Act.put, List.setIfInBounds_toArray, List.set_cons_zero, List.set_cons_succ, i64_w, i32_w]
         rfl
        refine pure_ (i := 36) (N := some 78) (v := ?_) (a' := ?_) (rb5 [37, 1]) rfl rfl (qe0 HT_.out (by kernel_rfl)) (fun _ _ _ h => h) (Or.inl ⟨by rfl, ?_⟩) ?_ ?_
        rotate_left
        ·intro w'
         go_simp
         with_reducible rfl
        rotate_left
        ·simp only [Act.put, List.setIfInBounds_toArray, List.set_cons_zero, List.set_cons_succ, i64_w, i32_w]
         rfl
        refine pure_ (i := 37) (N := some 79) (v := ?_) (a' := ?_) (rb5 [38]) rfl rfl (qe0 HT_.out (by kernel_rfl)) (fun _ _ _ h => h) (Or.inl ⟨by rfl, ?_⟩) ?_ ?_
        rotate_left
        ·intro w'
         go_simp
         with_reducible rfl
        rotate_left
        ·simp only [Act.put, List.setIfInBounds_toArray, List.set_cons_zero, List.set_cons_succ, i64_w, i32_w]
         rfl
        refine done_ (qx1 HT_.out (by kernel_rfl)) ?_
        try go_wp2
        go_roundg k2
        case measure => have := HJ1.out; have := HK2.out; omega
        case rel => exact ⟨(wrap64 (x37_2 + 1)), (by first | rfl | (simp; done) | (simp [*]; done)), H', ⟨by have := HJ1.out; have := HK2.out; omega⟩, ⟨by (with_reducible repeat (first | refine qh0 ?_ _ | refine qj0 ?_ | refine qi0 ?_ _)); exact BK185.out⟩, ⟨by repeat (first | (with_reducible first | exact HB.out | apply qc0 | apply qa0 | apply qb0 | refine qg0 ?_ GE185.out | refine qg0 ?_ GE190.out) | exact HB.out)⟩⟩
       replace c24 := Bool.eq_false_iff.mpr c24
       subst c24
       have H1 : (some false) = some r := by rw [if_neg (show ¬ (false = true) by decide)] at H; exact H
       clear H
       have H := H1
       clear H1
       obtain rfl := Option.some.inj H
       have p189 : 0 ≤ (x37_2 : Int) := of_decide_eq_true (by first | (with_reducible assumption) | assumption)
       have q189 : x37_2 < (l0_3.length : Int) := of_decide_eq_true (by first | (with_reducible assumption) | assumption)
       obtain ⟨ad189, e189, hx189_0, hx189_1⟩ := at_T218 HR0_3.out x37_2 p189 q189
       cases e189
       replace hx189_0 := (HB.out.cell (World.block_lt_of_cell? w _ hx189_0)).trans hx189_0
       replace hx189_1 := (HB.out.cell (World.block_lt_of_cell? w _ hx189_1)).trans hx189_1
       replace p189 := eq_true p189
       replace q189 := eq_true q189
       try go_wp2_with (first | ((with_reducible refine qu0 (N := 4) rfl ?_); (try (refine qx0 (by rfl) ?_; dsimp only)); refine qy0 ?hg (N := 4) ?hd (cs := #[.int .i64 0, .int .i64 0]) (t := 218) ?hr ?_; (case hd => rfl); (case hg => rfl); (case hr => first | (go_simp; done) | (go_simp; rfl)); intro gb190 hg w51 hbox hb; have n0_ := Aside0.mk (qa1 (g := gb185) (o := .cells #[.int .i64 a0_0, .int .i64 a0_1, .int .i64 a0_2, .slice (some ad189) l0_3.length c0_3] 143 (0, 0)) (by (with_reducible repeat (first | refine qh0 ?_ _ | refine qj0 ?_ | refine qi0 ?_ _)); exact BK185.out) hb); have n1_ := Aside0.mk (qo0 (by repeat (first | (with_reducible first | exact HB.out | apply qc0 | apply qa0 | apply qb0 | refine qg0 ?_ GE185.out) | exact HB.out)) hb); have n2_ := Aside0.mk (hbox); have n3_ := Aside0.mk ((by rw [hg]; exact (qk0 (by repeat (first | (with_reducible first | exact HB.out | apply qc0 | apply qa0 | apply qb0 | refine qg0 ?_ GE185.out) | exact HB.out))) : w.heap.size ≤ gb190)); have n4_ := Aside0.mk ((by rw [hg]; exact (qk0 (by repeat (first | (with_reducible first | exact HB.out | apply qc0 | apply qa0 | apply qb0 | refine qg0 ?_ GE185.out) | exact HB.out))) : w.heap.size ≤ gb190)); have n5_ := Aside0.mk ((by rw [hg]; exact Nat.ne_of_lt (qb1 (g := gb185) (o := .cells #[.int .i64 a0_0, .int .i64 a0_1, .int .i64 a0_2, .slice (some ad189) l0_3.length c0_3] 143 (0, 0)) (by (with_reducible repeat (first | refine qh0 ?_ _ | refine qj0 ?_ | refine qi0 ?_ _)); exact BK185.out)) : gb185 ≠ gb190)); have n6_ := Aside0.mk ((by rw [hg]; exact Nat.ne_of_gt (qb1 (g := gb185) (o := .cells #[.int .i64 a0_0, .int .i64 a0_1, .int .i64 a0_2, .slice (some ad189) l0_3.length c0_3] 143 (0, 0)) (by (with_reducible repeat (first | refine qh0 ?_ _ | refine qj0 ?_ | refine qi0 ?_ _)); exact BK185.out)) : gb190 ≠ gb185)); clear BK185; clear HB; have BK185 := n0_; have HB := n1_; have BK190 := n2_; have GW190 := n3_; have GE190 := n4_; have NB185_190 := n5_; have NB190_185 := n6_; clear n0_ n1_ n2_ n3_ n4_ n5_ n6_; clear hb hbox hg; have hnb52 := NB190_185.out; have hnc52 := NB185_190.out; have hcz53_0 : w51.cell? ⟨gb190, 0, none⟩ = some (.int .i64 0) := (qd0 BK190.out 0).trans rfl; have hcz53_1 : w51.cell? ⟨gb190, 1, none⟩ = some (.int .i64 0) := (qd0 BK190.out 1).trans rfl; have hfz53_0 := qf0 BK190.out 0; have hfz53_1 := qf0 BK190.out 1))
       have n0_ : Aside0 (((w51.setCell ⟨gb190, 0, none⟩ (.int .i64 ((rd_T218 l0_3 x37_2).f0))).setCell ⟨gb190, 1, none⟩ (.int .i64 ((rd_T218 l0_3 x37_2).f1))).heap[gb185]? = some (.cells #[.int .i64 a0_0, .int .i64 a0_1, .int .i64 a0_2, .slice (some ad189) l0_3.length c0_3] 143 (0, 0))) := ⟨by (with_reducible repeat (first | refine qh0 ?_ _ | refine qj0 ?_ | refine qi0 ?_ _)); refine ql1 ?_ NB185_190.out _; (with_reducible repeat (first | refine qh0 ?_ _ | refine qj0 ?_ | refine qi0 ?_ _)); refine ql1 ?_ NB185_190.out _; (with_reducible repeat (first | refine qh0 ?_ _ | refine qj0 ?_ | refine qi0 ?_ _)); exact BK185.out⟩
       have n1_ : Aside0 (((w51.setCell ⟨gb190, 0, none⟩ (.int .i64 ((rd_T218 l0_3 x37_2).f0))).setCell ⟨gb190, 1, none⟩ (.int .i64 ((rd_T218 l0_3 x37_2).f1))).heap[gb190]? = some (.cells #[.int .i64 ((rd_T218 l0_3 x37_2).f0), .int .i64 ((rd_T218 l0_3 x37_2).f1)] 218 (0, 0))) := ⟨by (with_reducible repeat (first | refine qh0 ?_ _ | refine qj0 ?_ | refine qi0 ?_ _)); refine qe1 (cs := #[.int .i64 ((rd_T218 l0_3 x37_2).f0), .int .i64 0]) ?_ 1 _ rfl; (with_reducible repeat (first | refine qh0 ?_ _ | refine qj0 ?_ | refine qi0 ?_ _)); refine qe1 (cs := #[.int .i64 0, .int .i64 0]) ?_ 0 _ rfl; (with_reducible repeat (first | refine qh0 ?_ _ | refine qj0 ?_ | refine qi0 ?_ _)); exact BK190.out⟩
       have n2_ : Aside0 (Below w.heap.size w ((w51.setCell ⟨gb190, 0, none⟩ (.int .i64 ((rd_T218 l0_3 x37_2).f0))).setCell ⟨gb190, 1, none⟩ (.int .i64 ((rd_T218 l0_3 x37_2).f1)))) := ⟨by repeat (first | (with_reducible first | exact HB.out | apply qc0 | apply qa0 | apply qb0 | refine qg0 ?_ GE185.out | refine qg0 ?_ GE190.out) | exact HB.out)⟩
       (try clear BK185)
       (try clear BK190)
       (try clear HB)
       generalize ((w51.setCell ⟨gb190, 0, none⟩ (.int .i64 ((rd_T218 l0_3 x37_2).f0))).setCell ⟨gb190, 1, none⟩ (.int .i64 ((rd_T218 l0_3 x37_2).f1))) = w54 at n0_ n1_ n2_ ⊢
       have BK185 := n0_
       have BK190 := n1_
       have HB := n2_
       clear n0_ n1_ n2_
       have n0_ := Aside0.mk (qj0 BK185.out)
       have n1_ := Aside0.mk (qj0 BK190.out)
       have n2_ := Aside0.mk (qb0 HB.out)
       clear BK185
       clear BK190
       clear HB
       have BK185 := n0_
       have BK190 := n1_
       have HB := n2_
       clear n0_ n1_ n2_
       refine qd2 (n := 38) (S := fun w' => w'.cell? ⟨gb190, 0, none⟩ = some (.int .i64 ((rd_T218 l0_3 x37_2).f0)) ∧ w'.cell? ⟨gb190, 1, none⟩ = some (.int .i64 ((rd_T218 l0_3 x37_2).f1))) (ds := []) (rb5 [0, 38]) (by kernel_rfl) rfl rfl ⟨(qd0 BK190.out 0).trans rfl, (qd0 BK190.out 1).trans rfl⟩ (fun hHeld => ?_); refine qn1 impl_dutyOk.tab6 impl_dutyOk.bits6 (fun HT_ HW_ => ?_)
       generalize w54.drew = w55 at BK185 BK190 HB hHeld ⊢
       refine pure_ (i := 0) (N := some 42) (v := ?_) (a' := ?_) (rb5 [1, 37]) rfl rfl (qe0 HT_.out (by kernel_rfl)) (fun _ _ _ h => h) (Or.inl ⟨by rfl, ?_⟩) ?_ ?_
       rotate_left
       ·intro w'
        go_simp
        with_reducible rfl
       rotate_left
       ·simp only [Act.put, List.setIfInBounds_toArray, List.set_cons_zero, List.set_cons_succ, i64_w, i32_w]
        rfl
       refine take_ (i := 1) (N := some 43) (v := ?_) (a' := ?_) (rb5 [2, 36]) rfl rfl (qr0 HT_.out HW_.out (by kernel_rfl)) (fun _ _ _ h => h) (Or.inl ⟨by rfl, ?_⟩) hHeld ?_ ?_
       rotate_left
       ·rintro w' ⟨s0, s1⟩
        go_simp
        with_reducible rfl
       rotate_left
       ·simp only [Act.put, List.setIfInBounds_toArray, List.set_cons_zero, List.set_cons_succ, i64_w, i32_w]
        rfl
       refine one_ (i := 2) (N := some 44) (rb5 [3, 35]) rfl rfl (qw1 HT_.out (by kernel_rfl)) (by decide) (fun K hK => ?_)
       refine goes_ Try.func88 (by kernel_rfl) rfl #[.int .i64 ((rd_T218 l0_3 x37_2).f0)] (by rfl) rfl rfl (by (try simp only [List.map_toArray, List.map_cons, List.map_nil]); first | done | rfl | (simp only [List.length_drop, List.length_take]; rfl)) ?_
       with_reducible refine (impl_isDay.calls ((rd_T218 l0_3 x37_2).f0) true _ A21.out).mono ?_
       rintro e w' ⟨rfl, ⟨nd, rfl⟩⟩
       refine ⟨_, rfl, ?_⟩
       refine hK.out _ _ ⟨(qd0 BK190.out 0).trans rfl, (qd0 BK190.out 1).trans rfl⟩ (fun hHeld => ?_)
       clear hK K
       refine norm_ (a' := ?_) ?_ ?_
       rotate_left
       ·show Act.put _ (some 44) _ = _
        simp only [Act.put, List.setIfInBounds_toArray, List.set_cons_zero, List.set_cons_succ, i64_w, i32_w]
        rfl
       refine pure_ (i := 3) (N := some 45) (v := ?_) (a' := ?_) (rb5 [4, 34]) rfl rfl (qe0 HT_.out (by kernel_rfl)) (fun _ _ _ h => h) (Or.inl ⟨by rfl, ?_⟩) ?_ ?_
       rotate_left
       ·intro w'
        go_simp
        with_reducible rfl
       rotate_left
       ·simp only [Act.put, List.setIfInBounds_toArray, List.set_cons_zero, List.set_cons_succ, i64_w, i32_w]
        rfl
       refine pure_ (i := 4) (N := some 46) (v := ?_) (a' := ?_) (rb5 [5, 33]) rfl rfl (qe0 HT_.out (by kernel_rfl)) (fun _ _ _ h => h) (Or.inl ⟨by rfl, ?_⟩) ?_ ?_
       rotate_left
       ·intro w'
        go_simp
        with_reducible rfl
       rotate_left
       ·simp only [Act.put, List.setIfInBounds_toArray, List.set_cons_zero, List.set_cons_succ, i64_w, i32_w]
        rfl
       refine pure_ (i := 5) (N := some 47) (v := ?_) (a' := ?_) (rb5 [6, 32]) rfl rfl (qe0 HT_.out (by kernel_rfl)) (fun _ _ _ h => h) (Or.inl ⟨by rfl, ?_⟩) ?_ ?_
       rotate_left
       ·intro w'
        go_simp
        with_reducible rfl
       rotate_left
       ·simp only [Act.put, List.setIfInBounds_toArray, List.set_cons_zero, List.set_cons_succ, i64_w, i32_w]
        rfl
       refine take_ (i := 6) (N := some 48) (v := ?_) (a' := ?_) (rb5 [7, 31]) rfl rfl (qr0 HT_.out HW_.out (by kernel_rfl)) (fun _ _ _ h => h) (Or.inl ⟨by rfl, ?_⟩) hHeld ?_ ?_
       rotate_left
       ·rintro w' ⟨s0, s1⟩
        go_simp
        with_reducible rfl
       rotate_left
       ·simp only [Act.put, List.setIfInBounds_toArray, List.set_cons_zero, List.set_cons_succ, i64_w, i32_w]
        rfl
       refine one_ (i := 7) (N := some 49) (rb5 [8, 30]) rfl rfl (qw1 HT_.out (by kernel_rfl)) (by decide) (fun K hK => ?_)
       refine goes_ Try.func74 (by kernel_rfl) rfl #[.int .i64 ((rd_T218 l0_3 x37_2).f1), .int .i64 0, .int .i64 1000] (by rfl) rfl rfl (by (try simp only [List.map_toArray, List.map_cons, List.map_nil]); first | done | rfl | (simp only [List.length_drop, List.length_take]; rfl)) ?_
       with_reducible refine (impl_between.calls ((rd_T218 l0_3 x37_2).f1) 0 1000 false _ A23.out).mono ?_
       rintro e w' ⟨rfl, ⟨nd, rfl⟩⟩
       refine ⟨_, rfl, ?_⟩
       refine hK.out _ _ ⟨(qd0 BK190.out 0).trans rfl, (qd0 BK190.out 1).trans rfl⟩ (fun hHeld => ?_)
       clear hK K
       refine norm_ (a' := ?_) ?_ ?_
       rotate_left
       ·show Act.put _ (some 49) _ = _
        simp only [Act.put, List.setIfInBounds_toArray, List.set_cons_zero, List.set_cons_succ, i64_w, i32_w]
        rfl
       refine pure_ (i := 8) (N := some 50) (v := ?_) (a' := ?_) (rb5 [9, 29]) rfl rfl (qe0 HT_.out (by kernel_rfl)) (fun _ _ _ h => h) (Or.inl ⟨by rfl, ?_⟩) ?_ ?_
       rotate_left
       ·intro w'
        go_simp
        with_reducible rfl
       rotate_left
       ·simp only [Act.put, List.setIfInBounds_toArray, List.set_cons_zero, List.set_cons_succ, i64_w, i32_w]
        rfl
       refine pure_ (i := 9) (N := some 51) (v := ?_) (a' := ?_) (rb5 [10, 28]) rfl rfl (qe0 HT_.out (by kernel_rfl)) (fun _ _ _ h => h) (Or.inl ⟨by rfl, ?_⟩) ?_ ?_
       rotate_left
       ·intro w'
        go_simp
        with_reducible rfl
       rotate_left
       ·simp only [Act.put, List.setIfInBounds_toArray, List.set_cons_zero, List.set_cons_succ, i64_w, i32_w]
        rfl
       refine pure_ (i := 10) (N := some 52) (v := ?_) (a' := ?_) (rb5 [11, 27]) rfl rfl (qe0 HT_.out (by kernel_rfl)) (fun _ _ _ h => h) (Or.inl ⟨by rfl, ?_⟩) ?_ ?_
       rotate_left
       ·intro w'
        go_simp
        with_reducible rfl
       rotate_left
       ·simp only [Act.put, List.setIfInBounds_toArray, List.set_cons_zero, List.set_cons_succ, i64_w, i32_w]
        rfl
       refine pure_ (i := 11) (N := some 53) (v := undef) (a' := ?_) (rb5 [12, 26]) rfl rfl (qe0 HT_.out (by kernel_rfl)) (fun _ _ _ h => h) (Or.inr ⟨by rfl, rfl⟩) ?_ ?_
       rotate_left
       ·simp only [Act.put, List.setIfInBounds_toArray, List.set_cons_zero, List.set_cons_succ, i64_w, i32_w]
        rfl
       refine pure_ (i := 12) (N := some 54) (v := undef) (a' := ?_) (rb5 [13, 25]) rfl rfl (qe0 HT_.out (by kernel_rfl)) (fun _ _ _ h => h) (Or.inr ⟨by rfl, rfl⟩) ?_ ?_
       rotate_left
       ·simp only [Act.put, List.setIfInBounds_toArray, List.set_cons_zero, List.set_cons_succ, i64_w, i32_w]
        rfl
       refine pure_ (i := 13) (N := some 55) (v := undef) (a' := ?_) (rb5 [14, 24]) rfl rfl (qe0 HT_.out (by kernel_rfl)) (fun _ _ _ h => h) (Or.inr ⟨by rfl, rfl⟩) ?_ ?_
       rotate_left
       ·simp only [Act.put, List.setIfInBounds_toArray, List.set_cons_zero, List.set_cons_succ, i64_w, i32_w]
        rfl
       refine pure_ (i := 14) (N := some 56) (v := undef) (a' := ?_) (rb5 [15, 23]) rfl rfl (qe0 HT_.out (by kernel_rfl)) (fun _ _ _ h => h) (Or.inr ⟨by rfl, rfl⟩) ?_ ?_
       rotate_left
       ·simp only [Act.put, List.setIfInBounds_toArray, List.set_cons_zero, List.set_cons_succ, i64_w, i32_w]
        rfl
       refine pure_ (i := 15) (N := some 57) (v := undef) (a' := ?_) (rb5 [16, 22]) rfl rfl (qe0 HT_.out (by kernel_rfl)) (fun _ _ _ h => h) (Or.inr ⟨by rfl, rfl⟩) ?_ ?_
       rotate_left
       ·simp only [Act.put, List.setIfInBounds_toArray, List.set_cons_zero, List.set_cons_succ, i64_w, i32_w]
        rfl
       refine pure_ (i := 16) (N := some 58) (v := undef) (a' := ?_) (rb5 [17, 21]) rfl rfl (qe0 HT_.out (by kernel_rfl)) (fun _ _ _ h => h) (Or.inr ⟨by rfl, rfl⟩) ?_ ?_
       rotate_left
       ·simp only [Act.put, List.setIfInBounds_toArray, List.set_cons_zero, List.set_cons_succ, i64_w, i32_w]
        rfl
       refine pure_ (i := 17) (N := some 59) (v := undef) (a' := ?_) (rb5 [18, 20]) rfl rfl (qe0 HT_.out (by kernel_rfl)) (fun _ _ _ h => h) (Or.inr ⟨by rfl, rfl⟩) ?_ ?_
       rotate_left
       ·simp only [Act.put, List.setIfInBounds_toArray, List.set_cons_zero, List.set_cons_succ, i64_w, i32_w]
        rfl
       refine pure_ (i := 18) (N := some 60) (v := undef) (a' := ?_) (rb5 [19, 19]) rfl rfl (qe0 HT_.out (by kernel_rfl)) (fun _ _ _ h => h) (Or.inr ⟨by rfl, rfl⟩) ?_ ?_
       rotate_left
       ·simp only [Act.put, List.setIfInBounds_toArray, List.set_cons_zero, List.set_cons_succ, i64_w, i32_w]
        rfl
       refine pure_ (i := 19) (N := some 61) (v := undef) (a' := ?_) (rb5 [20, 18]) rfl rfl (qe0 HT_.out (by kernel_rfl)) (fun _ _ _ h => h) (Or.inr ⟨by rfl, rfl⟩) ?_ ?_
       rotate_left
       ·simp only [Act.put, List.setIfInBounds_toArray, List.set_cons_zero, List.set_cons_succ, i64_w, i32_w]
        rfl
       refine pure_ (i := 20) (N := some 62) (v := undef) (a' := ?_) (rb5 [21, 17]) rfl rfl (qe0 HT_.out (by kernel_rfl)) (fun _ _ _ h => h) (Or.inr ⟨by rfl, rfl⟩) ?_ ?_
       rotate_left
       ·simp only [Act.put, List.setIfInBounds_toArray, List.set_cons_zero, List.set_cons_succ, i64_w, i32_w]
        rfl
       refine pure_ (i := 21) (N := some 63) (v := undef) (a' := ?_) (rb5 [22, 16]) rfl rfl (qe0 HT_.out (by kernel_rfl)) (fun _ _ _ h => h) (Or.inr ⟨by rfl, rfl⟩) ?_ ?_
       rotate_left
       ·simp only [Act.put, List.setIfInBounds_toArray, List.set_cons_zero, List.set_cons_succ, i64_w, i32_w]
        rfl
       refine pure_ (i := 22) (N := some 64) (v := undef) (a' := ?_) (rb5 [23, 15]) rfl rfl (qe0 HT_.out (by kernel_rfl)) (fun _ _ _ h => h) (Or.inr ⟨by rfl, rfl⟩) ?_ ?_
       rotate_left
       ·simp only [Act.put, List.setIfInBounds_toArray, List.set_cons_zero, List.set_cons_succ, i64_w, i32_w]
        rfl
       refine pure_ (i := 23) (N := some 65) (v := undef) (a' := ?_) (rb5 [24, 14]) rfl rfl (qe0 HT_.out (by kernel_rfl)) (fun _ _ _ h => h) (Or.inr ⟨by rfl, rfl⟩) ?_ ?_
       rotate_left
       ·simp only [Act.put, List.setIfInBounds_toArray, List.set_cons_zero, List.set_cons_succ, i64_w, i32_w]
        rfl
       refine pure_ (i := 24) (N := some 66) (v := undef) (a' := ?_) (rb5 [25, 13]) rfl rfl (qe0 HT_.out (by kernel_rfl)) (fun _ _ _ h => h) (Or.inr ⟨by rfl, rfl⟩) ?_ ?_
       rotate_left
       ·simp only [Act.put, List.setIfInBounds_toArray, List.set_cons_zero, List.set_cons_succ, i64_w, i32_w]
        rfl
       refine pure_ (i := 25) (N := some 67) (v := undef) (a' := ?_) (rb5 [26, 12]) rfl rfl (qe0 HT_.out (by kernel_rfl)) (fun _ _ _ h => h) (Or.inr ⟨by rfl, rfl⟩) ?_ ?_
       rotate_left
       ·simp only [Act.put, List.setIfInBounds_toArray, List.set_cons_zero, List.set_cons_succ, i64_w, i32_w]
        rfl
       refine pure_ (i := 26) (N := some 68) (v := undef) (a' := ?_) (rb5 [27, 11]) rfl rfl (qe0 HT_.out (by kernel_rfl)) (fun _ _ _ h => h) (Or.inr ⟨by rfl, rfl⟩) ?_ ?_
       rotate_left
       ·simp only [Act.put, List.setIfInBounds_toArray, List.set_cons_zero, List.set_cons_succ, i64_w, i32_w]
        rfl
       refine pure_ (i := 27) (N := some 69) (v := undef) (a' := ?_) (rb5 [28, 10]) rfl rfl (qe0 HT_.out (by kernel_rfl)) (fun _ _ _ h => h) (Or.inr ⟨by rfl, rfl⟩) ?_ ?_
       rotate_left
       ·simp only [Act.put, List.setIfInBounds_toArray, List.set_cons_zero, List.set_cons_succ, i64_w, i32_w]
        rfl
       refine pure_ (i := 28) (N := some 70) (v := undef) (a' := ?_) (rb5 [29, 9]) rfl rfl (qe0 HT_.out (by kernel_rfl)) (fun _ _ _ h => h) (Or.inr ⟨by rfl, rfl⟩) ?_ ?_
       rotate_left
       ·simp only [Act.put, List.setIfInBounds_toArray, List.set_cons_zero, List.set_cons_succ, i64_w, i32_w]
        rfl
       refine pure_ (i := 29) (N := some 71) (v := undef) (a' := ?_) (rb5 [30, 8]) rfl rfl (qe0 HT_.out (by kernel_rfl)) (fun _ _ _ h => h) (Or.inr ⟨by rfl, rfl⟩) ?_ ?_
       rotate_left
       ·simp only [Act.put, List.setIfInBounds_toArray, List.set_cons_zero, List.set_cons_succ, i64_w, i32_w]
        rfl
       refine pure_ (i := 30) (N := some 72) (v := undef) (a' := ?_) (rb5 [31, 7]) rfl rfl (qe0 HT_.out (by kernel_rfl)) (fun _ _ _ h => h) (Or.inr ⟨by rfl, rfl⟩) ?_ ?_
       rotate_left
       ·simp only [Act.put, List.setIfInBounds_toArray, List.set_cons_zero, List.set_cons_succ, i64_w, i32_w]
        rfl
       refine pure_ (i := 31) (N := some 73) (v := undef) (a' := ?_) (rb5 [32, 6]) rfl rfl (qe0 HT_.out (by kernel_rfl)) (fun _ _ _ h => h) (Or.inr ⟨by rfl, rfl⟩) ?_ ?_
       rotate_left
       ·simp only [Act.put, List.setIfInBounds_toArray, List.set_cons_zero, List.set_cons_succ, i64_w, i32_w]
        rfl
       refine pure_ (i := 32) (N := some 74) (v := undef) (a' := ?_) (rb5 [33, 5]) rfl rfl (qe0 HT_.out (by kernel_rfl)) (fun _ _ _ h => h) (Or.inr ⟨by rfl, rfl⟩) ?_ ?_
       rotate_left
       ·simp only [Act.put, List.setIfInBounds_toArray, List.set_cons_zero, List.set_cons_succ, i64_w, i32_w]
        rfl
       refine pure_ (i := 33) (N := some 75) (v := undef) (a' := ?_) (rb5 [34, 4]) rfl rfl (qe0 HT_.out (by kernel_rfl)) (fun _ _ _ h => h) (Or.inr ⟨by rfl, rfl⟩) ?_ ?_
       rotate_left
       ·simp only [Act.put, List.setIfInBounds_toArray, List.set_cons_zero, List.set_cons_succ, i64_w, i32_w]
        rfl
       refine pure_ (i := 34) (N := some 76) (v := undef) (a' := ?_) (rb5 [35, 3]) rfl rfl (qe0 HT_.out (by kernel_rfl)) (fun _ _ _ h => h) (Or.inr ⟨by rfl, rfl⟩) ?_ ?_
       rotate_left
       ·simp only [Act.put, List.setIfInBounds_toArray, List.set_cons_zero, List.set_cons_succ, i64_w, i32_w]
        rfl
       refine pure_ (i := 35) (N := some 77) (v := undef) (a' := ?_) (rb5 [36, 2]) rfl rfl (qe0 HT_.out (by kernel_rfl)) (fun _ _ _ h => h) (Or.inr ⟨by rfl, rfl⟩) ?_ ?_
       rotate_left
       ·simp only [Act.put, List.setIfInBounds_toArray, List.set_cons_zero, List.set_cons_succ, i64_w, i32_w]
        rfl
       refine pure_ (i := 36) (N := some 78) (v := undef) (a' := ?_) (rb5 [37, 1]) rfl rfl (qe0 HT_.out (by kernel_rfl)) (fun _ _ _ h => h) (Or.inr ⟨by rfl, rfl⟩) ?_ ?_
       rotate_left
       ·simp only [Act.put, List.setIfInBounds_toArray, List.set_cons_zero, List.set_cons_succ, i64_w, i32_w]
        rfl
       refine pure_ (i := 37) (N := some 79) (v := ?_) (a' := ?_) (rb5 [38]) rfl rfl (qe0 HT_.out (by kernel_rfl)) (fun _ _ _ h => h) (Or.inl ⟨by rfl, ?_⟩) ?_ ?_
       rotate_left
       ·intro w'
        go_simp
        with_reducible rfl
       rotate_left
       ·simp only [Act.put, List.setIfInBounds_toArray, List.set_cons_zero, List.set_cons_succ, i64_w, i32_w]
        rfl
       refine done_ (qx1 HT_.out (by kernel_rfl)) ?_
       try go_wp2
       go_ret
       exact ⟨by first | rfl | (simp [errW_none, errW_some] <;> rfl) | (simp [*, errW_none, errW_some] <;> rfl), by repeat (first | (with_reducible first | exact HB.out | apply qc0 | apply qa0 | apply qb0 | refine qg0 ?_ GE185.out | refine qg0 ?_ GE190.out) | exact HB.out)⟩
      replace c22 := Bool.eq_false_iff.mpr c22
      subst c22
      have H1 : (some false) = some r := by rw [if_neg (show ¬ (false = true) by decide)] at H; exact H
      clear H
      have H := H1
      clear H1
      obtain rfl := Option.some.inj H
      have p189 : 0 ≤ (x37_2 : Int) := of_decide_eq_true (by first | (with_reducible assumption) | assumption)
      have q189 : x37_2 < (l0_3.length : Int) := of_decide_eq_true (by first | (with_reducible assumption) | assumption)
      obtain ⟨ad189, e189, hx189_0, hx189_1⟩ := at_T218 HR0_3.out x37_2 p189 q189
      cases e189
      replace hx189_0 := (HB.out.cell (World.block_lt_of_cell? w _ hx189_0)).trans hx189_0
      replace hx189_1 := (HB.out.cell (World.block_lt_of_cell? w _ hx189_1)).trans hx189_1
      replace p189 := eq_true p189
      replace q189 := eq_true q189
      try go_wp2_with (first | ((with_reducible refine qu0 (N := 4) rfl ?_); (try (refine qx0 (by rfl) ?_; dsimp only)); refine qy0 ?hg (N := 4) ?hd (cs := #[.int .i64 0, .int .i64 0]) (t := 218) ?hr ?_; (case hd => rfl); (case hg => rfl); (case hr => first | (go_simp; done) | (go_simp; rfl)); intro gb190 hg w56 hbox hb; have n0_ := Aside0.mk (qa1 (g := gb185) (o := .cells #[.int .i64 a0_0, .int .i64 a0_1, .int .i64 a0_2, .slice (some ad189) l0_3.length c0_3] 143 (0, 0)) (by (with_reducible repeat (first | refine qh0 ?_ _ | refine qj0 ?_ | refine qi0 ?_ _)); exact BK185.out) hb); have n1_ := Aside0.mk (qo0 (by repeat (first | (with_reducible first | exact HB.out | apply qc0 | apply qa0 | apply qb0 | refine qg0 ?_ GE185.out) | exact HB.out)) hb); have n2_ := Aside0.mk (hbox); have n3_ := Aside0.mk ((by rw [hg]; exact (qk0 (by repeat (first | (with_reducible first | exact HB.out | apply qc0 | apply qa0 | apply qb0 | refine qg0 ?_ GE185.out) | exact HB.out))) : w.heap.size ≤ gb190)); have n4_ := Aside0.mk ((by rw [hg]; exact (qk0 (by repeat (first | (with_reducible first | exact HB.out | apply qc0 | apply qa0 | apply qb0 | refine qg0 ?_ GE185.out) | exact HB.out))) : w.heap.size ≤ gb190)); have n5_ := Aside0.mk ((by rw [hg]; exact Nat.ne_of_lt (qb1 (g := gb185) (o := .cells #[.int .i64 a0_0, .int .i64 a0_1, .int .i64 a0_2, .slice (some ad189) l0_3.length c0_3] 143 (0, 0)) (by (with_reducible repeat (first | refine qh0 ?_ _ | refine qj0 ?_ | refine qi0 ?_ _)); exact BK185.out)) : gb185 ≠ gb190)); have n6_ := Aside0.mk ((by rw [hg]; exact Nat.ne_of_gt (qb1 (g := gb185) (o := .cells #[.int .i64 a0_0, .int .i64 a0_1, .int .i64 a0_2, .slice (some ad189) l0_3.length c0_3] 143 (0, 0)) (by (with_reducible repeat (first | refine qh0 ?_ _ | refine qj0 ?_ | refine qi0 ?_ _)); exact BK185.out)) : gb190 ≠ gb185)); clear BK185; clear HB; have BK185 := n0_; have HB := n1_; have BK190 := n2_; have GW190 := n3_; have GE190 := n4_; have NB185_190 := n5_; have NB190_185 := n6_; clear n0_ n1_ n2_ n3_ n4_ n5_ n6_; clear hb hbox hg; have hnb57 := NB190_185.out; have hnc57 := NB185_190.out; have hcz58_0 : w56.cell? ⟨gb190, 0, none⟩ = some (.int .i64 0) := (qd0 BK190.out 0).trans rfl; have hcz58_1 : w56.cell? ⟨gb190, 1, none⟩ = some (.int .i64 0) := (qd0 BK190.out 1).trans rfl; have hfz58_0 := qf0 BK190.out 0; have hfz58_1 := qf0 BK190.out 1))
      have n0_ : Aside0 (((w56.setCell ⟨gb190, 0, none⟩ (.int .i64 ((rd_T218 l0_3 x37_2).f0))).setCell ⟨gb190, 1, none⟩ (.int .i64 ((rd_T218 l0_3 x37_2).f1))).heap[gb185]? = some (.cells #[.int .i64 a0_0, .int .i64 a0_1, .int .i64 a0_2, .slice (some ad189) l0_3.length c0_3] 143 (0, 0))) := ⟨by (with_reducible repeat (first | refine qh0 ?_ _ | refine qj0 ?_ | refine qi0 ?_ _)); refine ql1 ?_ NB185_190.out _; (with_reducible repeat (first | refine qh0 ?_ _ | refine qj0 ?_ | refine qi0 ?_ _)); refine ql1 ?_ NB185_190.out _; (with_reducible repeat (first | refine qh0 ?_ _ | refine qj0 ?_ | refine qi0 ?_ _)); exact BK185.out⟩
      have n1_ : Aside0 (((w56.setCell ⟨gb190, 0, none⟩ (.int .i64 ((rd_T218 l0_3 x37_2).f0))).setCell ⟨gb190, 1, none⟩ (.int .i64 ((rd_T218 l0_3 x37_2).f1))).heap[gb190]? = some (.cells #[.int .i64 ((rd_T218 l0_3 x37_2).f0), .int .i64 ((rd_T218 l0_3 x37_2).f1)] 218 (0, 0))) := ⟨by (with_reducible repeat (first | refine qh0 ?_ _ | refine qj0 ?_ | refine qi0 ?_ _)); refine qe1 (cs := #[.int .i64 ((rd_T218 l0_3 x37_2).f0), .int .i64 0]) ?_ 1 _ rfl; (with_reducible repeat (first | refine qh0 ?_ _ | refine qj0 ?_ | refine qi0 ?_ _)); refine qe1 (cs := #[.int .i64 0, .int .i64 0]) ?_ 0 _ rfl; (with_reducible repeat (first | refine qh0 ?_ _ | refine qj0 ?_ | refine qi0 ?_ _)); exact BK190.out⟩
      have n2_ : Aside0 (Below w.heap.size w ((w56.setCell ⟨gb190, 0, none⟩ (.int .i64 ((rd_T218 l0_3 x37_2).f0))).setCell ⟨gb190, 1, none⟩ (.int .i64 ((rd_T218 l0_3 x37_2).f1)))) := ⟨by repeat (first | (with_reducible first | exact HB.out | apply qc0 | apply qa0 | apply qb0 | refine qg0 ?_ GE185.out | refine qg0 ?_ GE190.out) | exact HB.out)⟩
      (try clear BK185)
      (try clear BK190)
      (try clear HB)
      generalize ((w56.setCell ⟨gb190, 0, none⟩ (.int .i64 ((rd_T218 l0_3 x37_2).f0))).setCell ⟨gb190, 1, none⟩ (.int .i64 ((rd_T218 l0_3 x37_2).f1))) = w59 at n0_ n1_ n2_ ⊢
      have BK185 := n0_
      have BK190 := n1_
      have HB := n2_
      clear n0_ n1_ n2_
      have n0_ := Aside0.mk (qj0 BK185.out)
      have n1_ := Aside0.mk (qj0 BK190.out)
      have n2_ := Aside0.mk (qb0 HB.out)
      clear BK185
      clear BK190
      clear HB
      have BK185 := n0_
      have BK190 := n1_
      have HB := n2_
      clear n0_ n1_ n2_
      refine qd2 (n := 38) (S := fun w' => w'.cell? ⟨gb190, 0, none⟩ = some (.int .i64 ((rd_T218 l0_3 x37_2).f0)) ∧ w'.cell? ⟨gb190, 1, none⟩ = some (.int .i64 ((rd_T218 l0_3 x37_2).f1))) (ds := []) (rb5 [0, 38]) (by kernel_rfl) rfl rfl ⟨(qd0 BK190.out 0).trans rfl, (qd0 BK190.out 1).trans rfl⟩ (fun hHeld => ?_); refine qn1 impl_dutyOk.tab6 impl_dutyOk.bits6 (fun HT_ HW_ => ?_)
      generalize w59.drew = w60 at BK185 BK190 HB hHeld ⊢
      refine pure_ (i := 0) (N := some 42) (v := ?_) (a' := ?_) (rb5 [1, 37]) rfl rfl (qe0 HT_.out (by kernel_rfl)) (fun _ _ _ h => h) (Or.inl ⟨by rfl, ?_⟩) ?_ ?_
      rotate_left
      ·intro w'
       go_simp
       with_reducible rfl
      rotate_left
      ·simp only [Act.put, List.setIfInBounds_toArray, List.set_cons_zero, List.set_cons_succ, i64_w, i32_w]
       rfl
      refine take_ (i := 1) (N := some 43) (v := ?_) (a' := ?_) (rb5 [2, 36]) rfl rfl (qr0 HT_.out HW_.out (by kernel_rfl)) (fun _ _ _ h => h) (Or.inl ⟨by rfl, ?_⟩) hHeld ?_ ?_
      rotate_left
      ·rintro w' ⟨s0, s1⟩
       go_simp
       with_reducible rfl
      rotate_left
      ·simp only [Act.put, List.setIfInBounds_toArray, List.set_cons_zero, List.set_cons_succ, i64_w, i32_w]
       rfl
      refine one_ (i := 2) (N := some 44) (rb5 [3, 35]) rfl rfl (qw1 HT_.out (by kernel_rfl)) (by decide) (fun K hK => ?_)
      refine goes_ Try.func88 (by kernel_rfl) rfl #[.int .i64 ((rd_T218 l0_3 x37_2).f0)] (by rfl) rfl rfl (by (try simp only [List.map_toArray, List.map_cons, List.map_nil]); first | done | rfl | (simp only [List.length_drop, List.length_take]; rfl)) ?_
      with_reducible refine (impl_isDay.calls ((rd_T218 l0_3 x37_2).f0) false _ A21.out).mono ?_
      rintro e w' ⟨rfl, ⟨nd, rfl⟩⟩
      refine ⟨_, rfl, ?_⟩
      refine hK.out _ _ ⟨(qd0 BK190.out 0).trans rfl, (qd0 BK190.out 1).trans rfl⟩ (fun hHeld => ?_)
      clear hK K
      refine norm_ (a' := ?_) ?_ ?_
      rotate_left
      ·show Act.put _ (some 44) _ = _
       simp only [Act.put, List.setIfInBounds_toArray, List.set_cons_zero, List.set_cons_succ, i64_w, i32_w]
       rfl
      refine pure_ (i := 3) (N := some 45) (v := ?_) (a' := ?_) (rb5 [4, 34]) rfl rfl (qe0 HT_.out (by kernel_rfl)) (fun _ _ _ h => h) (Or.inl ⟨by rfl, ?_⟩) ?_ ?_
      rotate_left
      ·intro w'
       go_simp
       with_reducible rfl
      rotate_left
      ·simp only [Act.put, List.setIfInBounds_toArray, List.set_cons_zero, List.set_cons_succ, i64_w, i32_w]
       rfl
      refine pure_ (i := 4) (N := some 46) (v := ?_) (a' := ?_) (rb5 [5, 33]) rfl rfl (qe0 HT_.out (by kernel_rfl)) (fun _ _ _ h => h) (Or.inl ⟨by rfl, ?_⟩) ?_ ?_
      rotate_left
      ·intro w'
       go_simp
       with_reducible rfl
      rotate_left
      ·simp only [Act.put, List.setIfInBounds_toArray, List.set_cons_zero, List.set_cons_succ, i64_w, i32_w]
       rfl
      refine pure_ (i := 5) (N := some 47) (v := undef) (a' := ?_) (rb5 [6, 32]) rfl rfl (qe0 HT_.out (by kernel_rfl)) (fun _ _ _ h => h) (Or.inr ⟨by rfl, rfl⟩) ?_ ?_
      rotate_left
      ·simp only [Act.put, List.setIfInBounds_toArray, List.set_cons_zero, List.set_cons_succ, i64_w, i32_w]
       rfl
      refine pure_ (i := 6) (N := some 48) (v := undef) (a' := ?_) (rb5 [7, 31]) rfl rfl (qe0 HT_.out (by kernel_rfl)) (fun _ _ _ h => h) (Or.inr ⟨by rfl, rfl⟩) ?_ ?_
      rotate_left
      ·simp only [Act.put, List.setIfInBounds_toArray, List.set_cons_zero, List.set_cons_succ, i64_w, i32_w]
       rfl
      refine pure_ (i := 7) (N := some 49) (v := undef) (a' := ?_) (rb5 [8, 30]) rfl rfl (qe0 HT_.out (by kernel_rfl)) (fun _ _ _ h => h) (Or.inr ⟨by rfl, rfl⟩) ?_ ?_
      rotate_left
      ·simp only [Act.put, List.setIfInBounds_toArray, List.set_cons_zero, List.set_cons_succ, i64_w, i32_w]
       rfl
      refine pure_ (i := 8) (N := some 50) (v := undef) (a' := ?_) (rb5 [9, 29]) rfl rfl (qe0 HT_.out (by kernel_rfl)) (fun _ _ _ h => h) (Or.inr ⟨by rfl, rfl⟩) ?_ ?_
      rotate_left
      ·simp only [Act.put, List.setIfInBounds_toArray, List.set_cons_zero, List.set_cons_succ, i64_w, i32_w]
       rfl
      refine pure_ (i := 9) (N := some 51) (v := ?_) (a' := ?_) (rb5 [10, 28]) rfl rfl (qe0 HT_.out (by kernel_rfl)) (fun _ _ _ h => h) (Or.inl ⟨by rfl, ?_⟩) ?_ ?_
      rotate_left
      ·intro w'
       go_simp
       with_reducible rfl
      rotate_left
      ·simp only [Act.put, List.setIfInBounds_toArray, List.set_cons_zero, List.set_cons_succ, i64_w, i32_w]
       rfl
      refine pure_ (i := 10) (N := some 52) (v := ?_) (a' := ?_) (rb5 [11, 27]) rfl rfl (qe0 HT_.out (by kernel_rfl)) (fun _ _ _ h => h) (Or.inl ⟨by rfl, ?_⟩) ?_ ?_
      rotate_left
      ·intro w'
       go_simp
       with_reducible rfl
      rotate_left
      ·simp only [Act.put, List.setIfInBounds_toArray, List.set_cons_zero, List.set_cons_succ, i64_w, i32_w]
       rfl
      refine pure_ (i := 11) (N := some 53) (v := undef) (a' := ?_) (rb5 [12, 26]) rfl rfl (qe0 HT_.out (by kernel_rfl)) (fun _ _ _ h => h) (Or.inr ⟨by rfl, rfl⟩) ?_ ?_
      rotate_left
      ·simp only [Act.put, List.setIfInBounds_toArray, List.set_cons_zero, List.set_cons_succ, i64_w, i32_w]
       rfl
      refine pure_ (i := 12) (N := some 54) (v := undef) (a' := ?_) (rb5 [13, 25]) rfl rfl (qe0 HT_.out (by kernel_rfl)) (fun _ _ _ h => h) (Or.inr ⟨by rfl, rfl⟩) ?_ ?_
      rotate_left
      ·simp only [Act.put, List.setIfInBounds_toArray, List.set_cons_zero, List.set_cons_succ, i64_w, i32_w]
       rfl
      refine pure_ (i := 13) (N := some 55) (v := undef) (a' := ?_) (rb5 [14, 24]) rfl rfl (qe0 HT_.out (by kernel_rfl)) (fun _ _ _ h => h) (Or.inr ⟨by rfl, rfl⟩) ?_ ?_
      rotate_left
      ·simp only [Act.put, List.setIfInBounds_toArray, List.set_cons_zero, List.set_cons_succ, i64_w, i32_w]
       rfl
      refine pure_ (i := 14) (N := some 56) (v := undef) (a' := ?_) (rb5 [15, 23]) rfl rfl (qe0 HT_.out (by kernel_rfl)) (fun _ _ _ h => h) (Or.inr ⟨by rfl, rfl⟩) ?_ ?_
      rotate_left
      ·simp only [Act.put, List.setIfInBounds_toArray, List.set_cons_zero, List.set_cons_succ, i64_w, i32_w]
       rfl
      refine pure_ (i := 15) (N := some 57) (v := undef) (a' := ?_) (rb5 [16, 22]) rfl rfl (qe0 HT_.out (by kernel_rfl)) (fun _ _ _ h => h) (Or.inr ⟨by rfl, rfl⟩) ?_ ?_
      rotate_left
      ·simp only [Act.put, List.setIfInBounds_toArray, List.set_cons_zero, List.set_cons_succ, i64_w, i32_w]
       rfl
      refine pure_ (i := 16) (N := some 58) (v := undef) (a' := ?_) (rb5 [17, 21]) rfl rfl (qe0 HT_.out (by kernel_rfl)) (fun _ _ _ h => h) (Or.inr ⟨by rfl, rfl⟩) ?_ ?_
      rotate_left
      ·simp only [Act.put, List.setIfInBounds_toArray, List.set_cons_zero, List.set_cons_succ, i64_w, i32_w]
       rfl
      refine pure_ (i := 17) (N := some 59) (v := undef) (a' := ?_) (rb5 [18, 20]) rfl rfl (qe0 HT_.out (by kernel_rfl)) (fun _ _ _ h => h) (Or.inr ⟨by rfl, rfl⟩) ?_ ?_
      rotate_left
      ·simp only [Act.put, List.setIfInBounds_toArray, List.set_cons_zero, List.set_cons_succ, i64_w, i32_w]
       rfl
      refine pure_ (i := 18) (N := some 60) (v := undef) (a' := ?_) (rb5 [19, 19]) rfl rfl (qe0 HT_.out (by kernel_rfl)) (fun _ _ _ h => h) (Or.inr ⟨by rfl, rfl⟩) ?_ ?_
      rotate_left
      ·simp only [Act.put, List.setIfInBounds_toArray, List.set_cons_zero, List.set_cons_succ, i64_w, i32_w]
       rfl
      refine pure_ (i := 19) (N := some 61) (v := undef) (a' := ?_) (rb5 [20, 18]) rfl rfl (qe0 HT_.out (by kernel_rfl)) (fun _ _ _ h => h) (Or.inr ⟨by rfl, rfl⟩) ?_ ?_
      rotate_left
      ·simp only [Act.put, List.setIfInBounds_toArray, List.set_cons_zero, List.set_cons_succ, i64_w, i32_w]
       rfl
      refine pure_ (i := 20) (N := some 62) (v := undef) (a' := ?_) (rb5 [21, 17]) rfl rfl (qe0 HT_.out (by kernel_rfl)) (fun _ _ _ h => h) (Or.inr ⟨by rfl, rfl⟩) ?_ ?_
      rotate_left
      ·simp only [Act.put, List.setIfInBounds_toArray, List.set_cons_zero, List.set_cons_succ, i64_w, i32_w]
       rfl
      refine pure_ (i := 21) (N := some 63) (v := undef) (a' := ?_) (rb5 [22, 16]) rfl rfl (qe0 HT_.out (by kernel_rfl)) (fun _ _ _ h => h) (Or.inr ⟨by rfl, rfl⟩) ?_ ?_
      rotate_left
      ·simp only [Act.put, List.setIfInBounds_toArray, List.set_cons_zero, List.set_cons_succ, i64_w, i32_w]
       rfl
      refine pure_ (i := 22) (N := some 64) (v := undef) (a' := ?_) (rb5 [23, 15]) rfl rfl (qe0 HT_.out (by kernel_rfl)) (fun _ _ _ h => h) (Or.inr ⟨by rfl, rfl⟩) ?_ ?_
      rotate_left
      ·simp only [Act.put, List.setIfInBounds_toArray, List.set_cons_zero, List.set_cons_succ, i64_w, i32_w]
       rfl
      refine pure_ (i := 23) (N := some 65) (v := undef) (a' := ?_) (rb5 [24, 14]) rfl rfl (qe0 HT_.out (by kernel_rfl)) (fun _ _ _ h => h) (Or.inr ⟨by rfl, rfl⟩) ?_ ?_
      rotate_left
      ·simp only [Act.put, List.setIfInBounds_toArray, List.set_cons_zero, List.set_cons_succ, i64_w, i32_w]
       rfl
      refine pure_ (i := 24) (N := some 66) (v := undef) (a' := ?_) (rb5 [25, 13]) rfl rfl (qe0 HT_.out (by kernel_rfl)) (fun _ _ _ h => h) (Or.inr ⟨by rfl, rfl⟩) ?_ ?_
      rotate_left
      ·simp only [Act.put, List.setIfInBounds_toArray, List.set_cons_zero, List.set_cons_succ, i64_w, i32_w]
       rfl
      refine pure_ (i := 25) (N := some 67) (v := undef) (a' := ?_) (rb5 [26, 12]) rfl rfl (qe0 HT_.out (by kernel_rfl)) (fun _ _ _ h => h) (Or.inr ⟨by rfl, rfl⟩) ?_ ?_
      rotate_left
      ·simp only [Act.put, List.setIfInBounds_toArray, List.set_cons_zero, List.set_cons_succ, i64_w, i32_w]
       rfl
      refine pure_ (i := 26) (N := some 68) (v := undef) (a' := ?_) (rb5 [27, 11]) rfl rfl (qe0 HT_.out (by kernel_rfl)) (fun _ _ _ h => h) (Or.inr ⟨by rfl, rfl⟩) ?_ ?_
      rotate_left
      ·simp only [Act.put, List.setIfInBounds_toArray, List.set_cons_zero, List.set_cons_succ, i64_w, i32_w]
       rfl
      refine pure_ (i := 27) (N := some 69) (v := undef) (a' := ?_) (rb5 [28, 10]) rfl rfl (qe0 HT_.out (by kernel_rfl)) (fun _ _ _ h => h) (Or.inr ⟨by rfl, rfl⟩) ?_ ?_
      rotate_left
      ·simp only [Act.put, List.setIfInBounds_toArray, List.set_cons_zero, List.set_cons_succ, i64_w, i32_w]
       rfl
      refine pure_ (i := 28) (N := some 70) (v := undef) (a' := ?_) (rb5 [29, 9]) rfl rfl (qe0 HT_.out (by kernel_rfl)) (fun _ _ _ h => h) (Or.inr ⟨by rfl, rfl⟩) ?_ ?_
      rotate_left
      ·simp only [Act.put, List.setIfInBounds_toArray, List.set_cons_zero, List.set_cons_succ, i64_w, i32_w]
       rfl
      refine pure_ (i := 29) (N := some 71) (v := undef) (a' := ?_) (rb5 [30, 8]) rfl rfl (qe0 HT_.out (by kernel_rfl)) (fun _ _ _ h => h) (Or.inr ⟨by rfl, rfl⟩) ?_ ?_
      rotate_left
      ·simp only [Act.put, List.setIfInBounds_toArray, List.set_cons_zero, List.set_cons_succ, i64_w, i32_w]
       rfl
      refine pure_ (i := 30) (N := some 72) (v := undef) (a' := ?_) (rb5 [31, 7]) rfl rfl (qe0 HT_.out (by kernel_rfl)) (fun _ _ _ h => h) (Or.inr ⟨by rfl, rfl⟩) ?_ ?_
      rotate_left
      ·simp only [Act.put, List.setIfInBounds_toArray, List.set_cons_zero, List.set_cons_succ, i64_w, i32_w]
       rfl
      refine pure_ (i := 31) (N := some 73) (v := undef) (a' := ?_) (rb5 [32, 6]) rfl rfl (qe0 HT_.out (by kernel_rfl)) (fun _ _ _ h => h) (Or.inr ⟨by rfl, rfl⟩) ?_ ?_
      rotate_left
      ·simp only [Act.put, List.setIfInBounds_toArray, List.set_cons_zero, List.set_cons_succ, i64_w, i32_w]
       rfl
      refine pure_ (i := 32) (N := some 74) (v := undef) (a' := ?_) (rb5 [33, 5]) rfl rfl (qe0 HT_.out (by kernel_rfl)) (fun _ _ _ h => h) (Or.inr ⟨by rfl, rfl⟩) ?_ ?_
      rotate_left
      ·simp only [Act.put, List.setIfInBounds_toArray, List.set_cons_zero, List.set_cons_succ, i64_w, i32_w]
       rfl
      refine pure_ (i := 33) (N := some 75) (v := undef) (a' := ?_) (rb5 [34, 4]) rfl rfl (qe0 HT_.out (by kernel_rfl)) (fun _ _ _ h => h) (Or.inr ⟨by rfl, rfl⟩) ?_ ?_
      rotate_left
      ·simp only [Act.put, List.setIfInBounds_toArray, List.set_cons_zero, List.set_cons_succ, i64_w, i32_w]
       rfl
      refine pure_ (i := 34) (N := some 76) (v := undef) (a' := ?_) (rb5 [35, 3]) rfl rfl (qe0 HT_.out (by kernel_rfl)) (fun _ _ _ h => h) (Or.inr ⟨by rfl, rfl⟩) ?_ ?_
      rotate_left
      ·simp only [Act.put, List.setIfInBounds_toArray, List.set_cons_zero, List.set_cons_succ, i64_w, i32_w]
       rfl
      refine pure_ (i := 35) (N := some 77) (v := undef) (a' := ?_) (rb5 [36, 2]) rfl rfl (qe0 HT_.out (by kernel_rfl)) (fun _ _ _ h => h) (Or.inr ⟨by rfl, rfl⟩) ?_ ?_
      rotate_left
      ·simp only [Act.put, List.setIfInBounds_toArray, List.set_cons_zero, List.set_cons_succ, i64_w, i32_w]
       rfl
      refine pure_ (i := 36) (N := some 78) (v := undef) (a' := ?_) (rb5 [37, 1]) rfl rfl (qe0 HT_.out (by kernel_rfl)) (fun _ _ _ h => h) (Or.inr ⟨by rfl, rfl⟩) ?_ ?_
      rotate_left
      ·simp only [Act.put, List.setIfInBounds_toArray, List.set_cons_zero, List.set_cons_succ, i64_w, i32_w]
       rfl
      refine pure_ (i := 37) (N := some 79) (v := ?_) (a' := ?_) (rb5 [38]) rfl rfl (qe0 HT_.out (by kernel_rfl)) (fun _ _ _ h => h) (Or.inl ⟨by rfl, ?_⟩) ?_ ?_
      rotate_left
      ·intro w'
       go_simp
       with_reducible rfl
      rotate_left
      ·simp only [Act.put, List.setIfInBounds_toArray, List.set_cons_zero, List.set_cons_succ, i64_w, i32_w]
       rfl
      refine done_ (qx1 HT_.out (by kernel_rfl)) ?_
      try go_wp2
      go_ret
      exact ⟨by first | rfl | (simp [errW_none, errW_some] <;> rfl) | (simp [*, errW_none, errW_some] <;> rfl), by repeat (first | (with_reducible first | exact HB.out | apply qc0 | apply qa0 | apply qb0 | refine qg0 ?_ GE185.out | refine qg0 ?_ GE190.out) | exact HB.out)⟩
     rw [if_neg c18] at H
     have c18b0 : decide (x37_2 < (l0_3.length : Int)) = false := decide_eq_false c18
     clear c18
     obtain rfl := Option.some.inj H
     go_wp2
     go_ret
     exact ⟨by first | rfl | (simp [errW_none, errW_some] <;> rfl) | (simp [*, errW_none, errW_some] <;> rfl), by repeat (first | (with_reducible first | exact HB.out | apply qc0 | apply qa0 | apply qb0 | refine qg0 ?_ GE185.out) | exact HB.out)⟩

end Go.Proofs.Ytdnhpicgjkddbaa.PFnExactAllot
