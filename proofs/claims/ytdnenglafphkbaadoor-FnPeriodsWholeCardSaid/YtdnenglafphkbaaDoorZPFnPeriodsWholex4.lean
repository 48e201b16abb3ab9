/- Lines by a program (a changed copy of the kit's print: this repo's wip/tools): Go functions as Lean functions, and proofs that the calls answer so. -/
import Derived.Test.YtdnenglafphkbaaDoorZPFnPeriodsWholex0
import Derived.Test.YtdnenglafphkbaaDoorZPFnPeriodsWholex3
namespace Go.Proofs.YtdnenglafphkbaaDoor.PFnPeriodsWhole
open Go.RowKit Go.Proofs.YtdnenglafphkbaaDoorW.PrintWords Go.Proofs.YtdnenglafphkbaaDoorW.PrintLast Go.Proofs.YtdnenglafphkbaaDoorW.PrintMore
attribute [local go_sem] max2_int min2_int max_two min_two max_three min_three max_four min_four   -- for this text's walks alone
set_option linter.unusedVariables false
set_option linter.unusedSimpArgs false

-- EXTERN loop.example/g00040/impl.daysOf
/-! ### impl_daysOf: function 27 -/
/-- How long the months are, as the package's table has it. -/
def monthTab : List Int := [0, 31, 28, 31, 30, 31, 30, 31, 31, 30, 31, 30, 31]
/-- The package's table lies as it was laid. -/
def Tab (W : World) : Prop := ∀ i : Nat, i < 13 → W.cell? ⟨0, i, none⟩ = some (.int .i64 (monthTab.getD i 0))
theorem Tab.below {w W : World} (h : Tab w) (hb : Below w.heap.size w W) : Tab W := fun i hi => pw_cell_below hb (h i hi)
def impl_daysOf.f (a0 a1 : Int) : Option Int := (if a1 = 2 then impl_longYear.f a0 else some false).bind fun t => if t = true then some 29 else if 0 ≤ a1 ∧ a1 < 13 then some (monthTab.getD a1.toNat 0) else none
set_option maxHeartbeats 8000000 in
set_option maxRecDepth 100000 in
theorem impl_daysOf.calls (a0 a1 r : Int) (w : World) (h : impl_daysOf.f a0 a1 = some r) (hT : Tab w := by first | exact HT.out | exact Tab.below HT.out (by repeat (first | (with_reducible first | exact HB.out | apply qb0 | apply qa0 | apply qc0 | refine qf0 ?_ (Aside0.out (by assumption))) | exact HB.out))) :
  Calls Tryd.prog 27 #[.int .i64 a0, .int .i64 a1] w fun e w' => e = .returned (.int .i64 r) ∧ Drawn0 w w' := by
 unfold impl_daysOf.f at h
 by_cases c : a1 = 2
 ·subst c
  rw [if_pos rfl] at h
  obtain ⟨t, e1, h2⟩ := Option.bind_eq_some_iff.1 h
  clear h
  have E1 := Aside0.mk e1
  have hc : w.cell? ⟨0, 2, none⟩ = some (.int .i64 28) := hT 2 (by decide)
  have HC := Aside0.mk hc
  clear e1 hT hc
  cases t with
  | true =>
   rw [if_pos rfl] at h2
   obtain rfl := Option.some.inj h2
   clear h2
   go_enter Tryd.func27, Tryd.ntmps27
   go_wp2_with fail
   refine (impl_longYear.calls a0 true _ E1.out).mono ?_
   rintro e w' ⟨rfl, ⟨nd, rfl⟩⟩
   go_wp2
   go_ret
   exact ⟨rfl, by repeat (first | exact Drawn0.refl _ | apply Drawn0.step)⟩
  | false =>
   rw [if_neg (by decide), if_pos (by decide)] at h2
   obtain rfl := Option.some.inj h2
   clear h2
   go_enter Tryd.func27, Tryd.ntmps27
   go_wp2_with fail
   refine (impl_longYear.calls a0 false _ E1.out).mono ?_
   rintro e w' ⟨rfl, ⟨nd, rfl⟩⟩
   have hc : w.cell? ⟨0, 2, none⟩ = some (.int .i64 28) := HC.out
   go_wp2
   go_ret
   exact ⟨rfl, by repeat (first | exact Drawn0.refl _ | apply Drawn0.step)⟩
 ·rw [if_neg c, Option.bind_some, if_neg (by decide)] at h
  by_cases hb : 0 ≤ a1 ∧ a1 < 13
  ·rw [if_pos hb] at h
   obtain rfl := Option.some.inj h
   have hcs : a1 = 0 ∨ a1 = 1 ∨ a1 = 3 ∨ a1 = 4 ∨ a1 = 5 ∨ a1 = 6 ∨ a1 = 7 ∨ a1 = 8 ∨ a1 = 9 ∨ a1 = 10 ∨ a1 = 11 ∨ a1 = 12 := by omega
   clear h c hb
   rcases hcs with rfl | rfl | rfl | rfl | rfl | rfl | rfl | rfl | rfl | rfl | rfl | rfl
   ·have hc : w.cell? ⟨0, 0, none⟩ = some (.int .i64 0) := hT 0 (by decide)
    clear hT
    go_enter Tryd.func27, Tryd.ntmps27
    go_wp2
    go_ret
    exact ⟨rfl, by repeat (first | exact Drawn0.refl _ | apply Drawn0.step)⟩
   ·have hc : w.cell? ⟨0, 1, none⟩ = some (.int .i64 31) := hT 1 (by decide)
    clear hT
    go_enter Tryd.func27, Tryd.ntmps27
    go_wp2
    go_ret
    exact ⟨rfl, by repeat (first | exact Drawn0.refl _ | apply Drawn0.step)⟩
   ·have hc : w.cell? ⟨0, 3, none⟩ = some (.int .i64 31) := hT 3 (by decide)
    clear hT
    go_enter Tryd.func27, Tryd.ntmps27
    go_wp2
    go_ret
    exact ⟨rfl, by repeat (first | exact Drawn0.refl _ | apply Drawn0.step)⟩
   ·have hc : w.cell? ⟨0, 4, none⟩ = some (.int .i64 30) := hT 4 (by decide)
    clear hT
    go_enter Tryd.func27, Tryd.ntmps27
    go_wp2
    go_ret
    exact ⟨rfl, by repeat (first | exact Drawn0.refl _ | apply Drawn0.step)⟩
   ·have hc : w.cell? ⟨0, 5, none⟩ = some (.int .i64 31) := hT 5 (by decide)
    clear hT
    go_enter Tryd.func27, Tryd.ntmps27
    go_wp2
    go_ret
    exact ⟨rfl, by repeat (first | exact Drawn0.refl _ | apply Drawn0.step)⟩
   ·have hc : w.cell? ⟨0, 6, none⟩ = some (.int .i64 30) := hT 6 (by decide)
    clear hT
    go_enter Tryd.func27, Tryd.ntmps27
    go_wp2
    go_ret
    exact ⟨rfl, by repeat (first | exact Drawn0.refl _ | apply Drawn0.step)⟩
   ·have hc : w.cell? ⟨0, 7, none⟩ = some (.int .i64 31) := hT 7 (by decide)
    clear hT
    go_enter Tryd.func27, Tryd.ntmps27
    go_wp2
    go_ret
    exact ⟨rfl, by repeat (first | exact Drawn0.refl _ | apply Drawn0.step)⟩
   ·have hc : w.cell? ⟨0, 8, none⟩ = some (.int .i64 31) := hT 8 (by decide)
    clear hT
    go_enter Tryd.func27, Tryd.ntmps27
    go_wp2
    go_ret
    exact ⟨rfl, by repeat (first | exact Drawn0.refl _ | apply Drawn0.step)⟩
   ·have hc : w.cell? ⟨0, 9, none⟩ = some (.int .i64 30) := hT 9 (by decide)
    clear hT
    go_enter Tryd.func27, Tryd.ntmps27
    go_wp2
    go_ret
    exact ⟨rfl, by repeat (first | exact Drawn0.refl _ | apply Drawn0.step)⟩
   ·have hc : w.cell? ⟨0, 10, none⟩ = some (.int .i64 31) := hT 10 (by decide)
    clear hT
    go_enter Tryd.func27, Tryd.ntmps27
    go_wp2
    go_ret
    exact ⟨rfl, by repeat (first | exact Drawn0.refl _ | apply Drawn0.step)⟩
   ·have hc : w.cell? ⟨0, 11, none⟩ = some (.int .i64 30) := hT 11 (by decide)
    clear hT
    go_enter Tryd.func27, Tryd.ntmps27
    go_wp2
    go_ret
    exact ⟨rfl, by repeat (first | exact Drawn0.refl _ | apply Drawn0.step)⟩
   ·have hc : w.cell? ⟨0, 12, none⟩ = some (.int .i64 31) := hT 12 (by decide)
    clear hT
    go_enter Tryd.func27, Tryd.ntmps27
    go_wp2
    go_ret
    exact ⟨rfl, by repeat (first | exact Drawn0.refl _ | apply Drawn0.step)⟩
  ·rw [if_neg hb] at h
   cases h

/-! ### impl_between: function 26 -/
def impl_between.f (a0 : Int) (a1 : Int) (a2 : Int) : Option (Bool) := if a0 ≥ a1 then (some (decide (a0 ≤ a2))) else (some false)
set_option maxHeartbeats 8000000 in
set_option maxRecDepth 100000 in
theorem impl_between.calls (a0 : Int) (a1 : Int) (a2 : Int) (r : Bool) (w : World) (h : impl_between.f a0 a1 a2 = some r) :
  Calls Tryd.prog 26 #[.int .i64 a0, .int .i64 a1, .int .i64 a2] w fun e w' => e = .returned (.bool r) ∧ Drawn0 w w' := by
 have H : (if a0 ≥ a1 then (some (decide (a0 ≤ a2))) else (some false)) = some r := h
 clear h
 by_cases c4 : a0 ≥ a1
 ·rw [if_pos c4] at H
  have c4b0 : decide (a1 ≤ a0) = true := decide_eq_true c4
  clear c4
  obtain rfl := Option.some.inj H
  go_enter Tryd.func26, Tryd.ntmps26
  go_wp2
  go_ret
  exact ⟨by first | rfl | (simp; done) | (simp [*]; done), by repeat (first | exact Drawn0.refl _ | apply Drawn0.step)⟩
 rw [if_neg c4] at H
 have c4b0 : decide (a1 ≤ a0) = false := decide_eq_false c4
 clear c4
 obtain rfl := Option.some.inj H
 go_enter Tryd.func26, Tryd.ntmps26
 go_wp2
 go_ret
 exact ⟨by first | rfl | (simp; done) | (simp [*]; done), by repeat (first | exact Drawn0.refl _ | apply Drawn0.step)⟩

/-! ### impl_isDay: function 34 -/
def impl_isDay.f (a0 : Int) : Option (Bool) := (impl_between.f a0 0 40000).bind fun t150 => (some t150)
set_option maxHeartbeats 8000000 in
set_option maxRecDepth 100000 in
theorem impl_isDay.calls (a0 : Int) (r : Bool) (w : World) (h : impl_isDay.f a0 = some r) :
  Calls Tryd.prog 34 #[.int .i64 a0] w fun e w' => e = .returned (.bool r) ∧ Drawn0 w w' := by
 have H : ((impl_between.f a0 0 40000).bind fun t150 => (some t150)) = some r := h
 clear h
 replace H := Option.bind_eq_some_iff.mp H
 obtain ⟨t150, A20, H⟩ := H
 replace H : (some t150) = some r := H
 have A2 := Aside0.mk A20
 clear A20
 obtain rfl := Option.some.inj H
 go_enter Tryd.func34, Tryd.ntmps34
 go_wp2_with (first | ((with_reducible refine qi0 (f := 26) rfl ?_); refine qq0 (some 4) rfl rfl Tryd.func26 (by kernel_rfl) rfl #[.int .i64 a0, .int .i64 0, .int .i64 40000] rfl (by (try simp only [List.map_toArray, List.map_cons, List.map_nil]); first | done | rfl | (simp only [List.length_drop, List.length_take]; rfl)) ?_; (with_reducible refine (impl_between.calls a0 0 40000 t150 _ A2.out).mono ?_); rintro e w' ⟨rfl, ⟨nd, rfl⟩⟩; refine ⟨_, rfl, ?_⟩))
 go_ret
 exact ⟨by first | rfl | (simp; done) | (simp [*]; done), by repeat (first | exact Drawn0.refl _ | apply Drawn0.step)⟩

/-! ### impl_DateOf: function 10 -/
mutual
def impl_DateOf.j1 : Nat → Int → Int → Int → Int → Option (Int × Int × Int)
 | 0, _, _, _, _ => none
 | k + 1, x0, x154000, x154001, x154002 => impl_DateOf.l1 k x0 x154000 x154001 x154002
def impl_DateOf.l1 : Nat → Int → Int → Int → Int → Option (Int × Int × Int)
 | 0, _, _, _, _ => none
 | k + 1, x0, x154000, x154001, x154002 => (impl_daysOf.f x154000 x154001).bind fun t155 => (if x0 ≥ t155 then ((impl_daysOf.f x154000 x154001).bind fun t156 => (impl_DateOf.l1 k (wrap64 (x0 - t156)) x154000 (wrap64 (x154001 + 1)) x154002)) else (some (x154000, x154001, wrap64 (x154002 + x0))))
def impl_DateOf.l0 : Nat → Int → Int → Int → Int → Option (Int × Int × Int)
 | 0, _, _, _, _ => none
 | k + 1, x0, x154000, x154001, x154002 => (impl_longYear.f x154000).bind fun t154 => (if t154 = true then (if x0 < 366 then (impl_DateOf.j1 k x0 x154000 x154001 x154002) else (impl_DateOf.l0 k (wrap64 (x0 - 366)) (wrap64 (x154000 + 1)) x154001 x154002)) else (if x0 < 365 then (impl_DateOf.j1 k x0 x154000 x154001 x154002) else (impl_DateOf.l0 k (wrap64 (x0 - 365)) (wrap64 (x154000 + 1)) x154001 x154002)))
end
def impl_DateOf.f (k : Nat) (a0 : Int) : Option (Int × Int × Int) := (impl_isDay.f a0).bind fun t152 => (if t152 = true then (impl_DateOf.l0 k a0 2000 1 1) else (some (0, 0, 0)))
theorem impl_DateOf.mono_l : ∀ k, (∀ y0 y1 y2 y3, LeO (impl_DateOf.j1 k y0 y1 y2 y3) (impl_DateOf.j1 (k + 1) y0 y1 y2 y3)) ∧ (∀ y0 y1 y2 y3, LeO (impl_DateOf.l1 k y0 y1 y2 y3) (impl_DateOf.l1 (k + 1) y0 y1 y2 y3)) ∧ (∀ y0 y1 y2 y3, LeO (impl_DateOf.l0 k y0 y1 y2 y3) (impl_DateOf.l0 (k + 1) y0 y1 y2 y3))
 | 0 => ⟨fun _ _ _ _ r h => by simp [impl_DateOf.j1] at h, fun _ _ _ _ r h => by simp [impl_DateOf.l1] at h, fun _ _ _ _ r h => by simp [impl_DateOf.l0] at h⟩
 | k + 1 => by
  obtain ⟨ih0, ih1, ih2⟩ := impl_DateOf.mono_l k
  refine ⟨?_, ?_, ?_⟩
  ·intro y0 y1 y2 y3
   unfold impl_DateOf.j1
   repeat' first
   | (with_reducible exact ih0 _ _ _ _)
   | (with_reducible exact ih1 _ _ _ _)
   | (with_reducible exact ih2 _ _ _ _)
   | (with_reducible exact LeO.refl _)
   | (with_reducible exact LeO.none _)
   | (with_reducible refine LeO.ite ?_ ?_)
   | (with_reducible refine LeO.bind ?_ (fun _ => ?_))
   | exact ih0 _ _ _ _
   | exact ih1 _ _ _ _
   | exact ih2 _ _ _ _
   | exact LeO.none _
   | refine LeO.ite ?_ ?_
   | refine LeO.bind ?_ (fun _ => ?_)
  ·intro y0 y1 y2 y3
   unfold impl_DateOf.l1
   repeat' first
   | (with_reducible exact ih0 _ _ _ _)
   | (with_reducible exact ih1 _ _ _ _)
   | (with_reducible exact ih2 _ _ _ _)
   | (with_reducible exact LeO.refl _)
   | (with_reducible exact LeO.none _)
   | (with_reducible refine LeO.ite ?_ ?_)
   | (with_reducible refine LeO.bind ?_ (fun _ => ?_))
   | exact ih0 _ _ _ _
   | exact ih1 _ _ _ _
   | exact ih2 _ _ _ _
   | exact LeO.none _
   | refine LeO.ite ?_ ?_
   | refine LeO.bind ?_ (fun _ => ?_)
  ·intro y0 y1 y2 y3
   unfold impl_DateOf.l0
   repeat' first
   | (with_reducible exact ih0 _ _ _ _)
   | (with_reducible exact ih1 _ _ _ _)
   | (with_reducible exact ih2 _ _ _ _)
   | (with_reducible exact LeO.refl _)
   | (with_reducible exact LeO.none _)
   | (with_reducible refine LeO.ite ?_ ?_)
   | (with_reducible refine LeO.bind ?_ (fun _ => ?_))
   | exact ih0 _ _ _ _
   | exact ih1 _ _ _ _
   | exact ih2 _ _ _ _
   | exact LeO.none _
   | refine LeO.ite ?_ ?_
   | refine LeO.bind ?_ (fun _ => ?_)
theorem impl_DateOf.mono : ∀ a0 k, LeO (impl_DateOf.f k a0) (impl_DateOf.f (k + 1) a0) := by
 intro a0 k
 obtain ⟨ih0, ih1, ih2⟩ := impl_DateOf.mono_l k
 unfold impl_DateOf.f
 repeat' first
   | (with_reducible exact ih0 _ _ _ _)
   | (with_reducible exact ih1 _ _ _ _)
   | (with_reducible exact ih2 _ _ _ _)
   | (with_reducible exact LeO.refl _)
   | (with_reducible exact LeO.none _)
   | (with_reducible refine LeO.ite ?_ ?_)
   | (with_reducible refine LeO.bind ?_ (fun _ => ?_))
   | exact ih0 _ _ _ _
   | exact ih1 _ _ _ _
   | exact ih2 _ _ _ _
   | exact LeO.none _
   | refine LeO.ite ?_ ?_
   | refine LeO.bind ?_ (fun _ => ?_)
set_option maxHeartbeats 8000000 in
set_option maxRecDepth 100000 in
theorem impl_DateOf.calls (k : Nat) (a0 : Int) (r1 : Int) (r2 : Int) (r3 : Int) (w : World) (h : impl_DateOf.f k a0 = some (r1, r2, r3)) (hT : Tab w := by first | exact HT.out | exact Tab.below HT.out (by repeat (first | (with_reducible first | exact HB.out | apply qb0 | apply qa0 | apply qc0 | refine qf0 ?_ (Aside0.out (by assumption))) | exact HB.out))) :
  Calls Tryd.prog 10 #[.int .i64 a0] w fun e w' => e = .returned (.agg #[.int .i64 r1, .int .i64 r2, .int .i64 r3]) ∧ Below w.heap.size w w' := by
 have HT := Aside0.mk hT
 clear hT
 have hu28 := Tryd.underlying28
 have HB := Aside0.mk (Below.refl w.heap.size w)
 have H : ((impl_isDay.f a0).bind fun t152 => (if t152 = true then (impl_DateOf.l0 k a0 2000 1 1) else (some (0, 0, 0)))) = some (r1, r2, r3) := h
 clear h
 replace H := Option.bind_eq_some_iff.mp H
 obtain ⟨t152, A20, H⟩ := H
 replace H : (if t152 = true then (impl_DateOf.l0 k a0 2000 1 1) else (some (0, 0, 0))) = some (r1, r2, r3) := H
 have A2 := Aside0.mk A20
 clear A20
 by_cases c3 : t152 = true
 ·subst c3
  have H1 : (impl_DateOf.l0 k a0 2000 1 1) = some (r1, r2, r3) := by rw [if_pos rfl] at H; exact H
  clear H
  have H := H1
  clear H1
  have HC4 := Aside0.mk H
  clear H
  go_enter Tryd.func10, Tryd.ntmps10
  go_wp2_with (first | ((with_reducible refine qv0 (N := 2) rfl ?_); refine qy0 ?hg (N := 2) ?hd (cs := #[.int .i64 0, .int .i64 0, .int .i64 0]) (t := 28) ?hr ?_; (case hd => rfl); (case hg => rfl); (case hr => first | (go_simp; done) | (go_simp; rfl)); intro gb151 hg w5 hbox hb; have n0_ := Aside0.mk (qk0 (by repeat (first | (with_reducible first | exact HB.out | apply qb0 | apply qa0 | apply qc0) | exact HB.out)) hb); have n1_ := Aside0.mk (hbox); have n2_ := Aside0.mk ((by rw [hg]; exact (ql0 (by repeat (first | (with_reducible first | exact HB.out | apply qb0 | apply qa0 | apply qc0) | exact HB.out))) : w.heap.size ≤ gb151)); have n3_ := Aside0.mk ((by rw [hg]; exact (ql0 (by repeat (first | (with_reducible first | exact HB.out | apply qb0 | apply qa0 | apply qc0) | exact HB.out))) : w.heap.size ≤ gb151)); clear HB; have HB := n0_; have BK151 := n1_; have GW151 := n2_; have GE151 := n3_; clear n0_ n1_ n2_ n3_; clear hb hbox hg) | ((with_reducible refine qi0 (f := 34) rfl ?_); refine qq0 (some 6) rfl rfl Tryd.func34 (by kernel_rfl) rfl #[.int .i64 a0] rfl (by (try simp only [List.map_toArray, List.map_cons, List.map_nil]); first | done | rfl | (simp only [List.length_drop, List.length_take]; rfl)) ?_; (with_reducible refine (impl_isDay.calls a0 true _ A2.out).mono ?_); rintro e w' ⟨rfl, ⟨nd, rfl⟩⟩; refine ⟨_, rfl, ?_⟩; (try (rw [drewN_self w5]; generalize hq_ : World.drewN w5 _ = w5; have n0_ : Aside0 (w5.heap[gb151]? = some (.cells #[.int .i64 0, .int .i64 0, .int .i64 0] 28 (0, 0))) := ⟨by rw [← hq_]; exact (by (with_reducible repeat (first | refine qg0 ?_ _ | refine qj0 ?_ | refine qh0 ?_ _)); exact BK151.out)⟩; have n1_ : Aside0 (Below w.heap.size w w5) := ⟨by rw [← hq_]; exact (by repeat (first | (with_reducible first | exact HB.out | apply qb0 | apply qa0 | apply qc0 | refine qf0 ?_ GE151.out) | exact HB.out))⟩; clear BK151 HB hq_; have BK151 := n0_; have HB := n1_; clear n0_ n1_)); (try (have hczR1_0 : w5.cell? ⟨gb151, 0, none⟩ = some (.int .i64 0) := (qe0 BK151.out 0).trans rfl; have hfzR1_0 := qd0 BK151.out 0)); (try (have hczR1_1 : w5.cell? ⟨gb151, 1, none⟩ = some (.int .i64 0) := (qe0 BK151.out 1).trans rfl; have hfzR1_1 := qd0 BK151.out 1)); (try (have hczR1_2 : w5.cell? ⟨gb151, 2, none⟩ = some (.int .i64 0) := (qe0 BK151.out 2).trans rfl; have hfzR1_2 := qd0 BK151.out 2))) | ((with_reducible refine qv0 (N := 3) rfl ?_); refine qy0 ?hg (N := 3) ?hd (cs := #[.int .i64 0, .int .i64 0, .int .i64 0]) (t := 28) ?hr ?_; (case hd => rfl); (case hg => rfl); (case hr => first | (go_simp; done) | (go_simp; rfl)); intro gb153 hg w6 hbox hb; have n0_ := Aside0.mk (blk_below (g := gb151) (o := .cells #[.int .i64 0, .int .i64 0, .int .i64 0] 28 (0, 0)) (by (with_reducible repeat (first | refine qg0 ?_ _ | refine qj0 ?_ | refine qh0 ?_ _)); exact BK151.out) hb); have n1_ := Aside0.mk (qk0 (by repeat (first | (with_reducible first | exact HB.out | apply qb0 | apply qa0 | apply qc0 | refine qf0 ?_ GE151.out) | exact HB.out)) hb); have n2_ := Aside0.mk (hbox); have n3_ := Aside0.mk ((by rw [hg]; exact (ql0 (by repeat (first | (with_reducible first | exact HB.out | apply qb0 | apply qa0 | apply qc0 | refine qf0 ?_ GE151.out) | exact HB.out))) : w.heap.size ≤ gb153)); have n4_ := Aside0.mk ((by rw [hg]; exact (ql0 (by repeat (first | (with_reducible first | exact HB.out | apply qb0 | apply qa0 | apply qc0 | refine qf0 ?_ GE151.out) | exact HB.out))) : w.heap.size ≤ gb153)); have n5_ := Aside0.mk ((by rw [hg]; exact Nat.ne_of_lt (blk_lt (g := gb151) (o := .cells #[.int .i64 0, .int .i64 0, .int .i64 0] 28 (0, 0)) (by (with_reducible repeat (first | refine qg0 ?_ _ | refine qj0 ?_ | refine qh0 ?_ _)); exact BK151.out)) : gb151 ≠ gb153)); have n6_ := Aside0.mk ((by rw [hg]; exact Nat.ne_of_gt (blk_lt (g := gb151) (o := .cells #[.int .i64 0, .int .i64 0, .int .i64 0] 28 (0, 0)) (by (with_reducible repeat (first | refine qg0 ?_ _ | refine qj0 ?_ | refine qh0 ?_ _)); exact BK151.out)) : gb153 ≠ gb151)); clear BK151; clear HB; have BK151 := n0_; have HB := n1_; have BK153 := n2_; have GW153 := n3_; have GE153 := n4_; have NB151_153 := n5_; have NB153_151 := n6_; clear n0_ n1_ n2_ n3_ n4_ n5_ n6_; clear hb hbox hg; have hnb7 := NB153_151.out; have hnc7 := NB151_153.out; have hcz8_0 : w6.cell? ⟨gb153, 0, none⟩ = some (.int .i64 0) := (qe0 BK153.out 0).trans rfl; have hcz8_1 : w6.cell? ⟨gb153, 1, none⟩ = some (.int .i64 0) := (qe0 BK153.out 1).trans rfl; have hcz8_2 : w6.cell? ⟨gb153, 2, none⟩ = some (.int .i64 0) := (qe0 BK153.out 2).trans rfl; have hfz8_0 := qd0 BK153.out 0; have hfz8_1 := qd0 BK153.out 1; have hfz8_2 := qd0 BK153.out 2))
  apply wp_scope_straight
  go_wp2_with (first | ((with_reducible refine qv0 (N := 2) rfl ?_); refine qy0 ?hg (N := 2) ?hd (cs := #[.int .i64 0, .int .i64 0, .int .i64 0]) (t := 28) ?hr ?_; (case hd => rfl); (case hg => rfl); (case hr => first | (go_simp; done) | (go_simp; rfl)); intro gb151 hg w5 hbox hb; have n0_ := Aside0.mk (qk0 (by repeat (first | (with_reducible first | exact HB.out | apply qb0 | apply qa0 | apply qc0) | exact HB.out)) hb); have n1_ := Aside0.mk (hbox); have n2_ := Aside0.mk ((by rw [hg]; exact (ql0 (by repeat (first | (with_reducible first | exact HB.out | apply qb0 | apply qa0 | apply qc0) | exact HB.out))) : w.heap.size ≤ gb151)); have n3_ := Aside0.mk ((by rw [hg]; exact (ql0 (by repeat (first | (with_reducible first | exact HB.out | apply qb0 | apply qa0 | apply qc0) | exact HB.out))) : w.heap.size ≤ gb151)); clear HB; have HB := n0_; have BK151 := n1_; have GW151 := n2_; have GE151 := n3_; clear n0_ n1_ n2_ n3_; clear hb hbox hg) | ((with_reducible refine qi0 (f := 34) rfl ?_); refine qq0 (some 6) rfl rfl Tryd.func34 (by kernel_rfl) rfl #[.int .i64 a0] rfl (by (try simp only [List.map_toArray, List.map_cons, List.map_nil]); first | done | rfl | (simp only [List.length_drop, List.length_take]; rfl)) ?_; (with_reducible refine (impl_isDay.calls a0 true _ A2.out).mono ?_); rintro e w' ⟨rfl, ⟨nd, rfl⟩⟩; refine ⟨_, rfl, ?_⟩; (try (rw [drewN_self w5]; generalize hq_ : World.drewN w5 _ = w5; have n0_ : Aside0 (w5.heap[gb151]? = some (.cells #[.int .i64 0, .int .i64 0, .int .i64 0] 28 (0, 0))) := ⟨by rw [← hq_]; exact (by (with_reducible repeat (first | refine qg0 ?_ _ | refine qj0 ?_ | refine qh0 ?_ _)); exact BK151.out)⟩; have n1_ : Aside0 (Below w.heap.size w w5) := ⟨by rw [← hq_]; exact (by repeat (first | (with_reducible first | exact HB.out | apply qb0 | apply qa0 | apply qc0 | refine qf0 ?_ GE151.out) | exact HB.out))⟩; clear BK151 HB hq_; have BK151 := n0_; have HB := n1_; clear n0_ n1_)); (try (have hczR2_0 : w5.cell? ⟨gb151, 0, none⟩ = some (.int .i64 0) := (qe0 BK151.out 0).trans rfl; have hfzR2_0 := qd0 BK151.out 0)); (try (have hczR2_1 : w5.cell? ⟨gb151, 1, none⟩ = some (.int .i64 0) := (qe0 BK151.out 1).trans rfl; have hfzR2_1 := qd0 BK151.out 1)); (try (have hczR2_2 : w5.cell? ⟨gb151, 2, none⟩ = some (.int .i64 0) := (qe0 BK151.out 2).trans rfl; have hfzR2_2 := qd0 BK151.out 2))) | ((with_reducible refine qv0 (N := 3) rfl ?_); refine qy0 ?hg (N := 3) ?hd (cs := #[.int .i64 0, .int .i64 0, .int .i64 0]) (t := 28) ?hr ?_; (case hd => rfl); (case hg => rfl); (case hr => first | (go_simp; done) | (go_simp; rfl)); intro gb153 hg w6 hbox hb; have n0_ := Aside0.mk (blk_below (g := gb151) (o := .cells #[.int .i64 0, .int .i64 0, .int .i64 0] 28 (0, 0)) (by (with_reducible repeat (first | refine qg0 ?_ _ | refine qj0 ?_ | refine qh0 ?_ _)); exact BK151.out) hb); have n1_ := Aside0.mk (qk0 (by repeat (first | (with_reducible first | exact HB.out | apply qb0 | apply qa0 | apply qc0 | refine qf0 ?_ GE151.out) | exact HB.out)) hb); have n2_ := Aside0.mk (hbox); have n3_ := Aside0.mk ((by rw [hg]; exact (ql0 (by repeat (first | (with_reducible first | exact HB.out | apply qb0 | apply qa0 | apply qc0 | refine qf0 ?_ GE151.out) | exact HB.out))) : w.heap.size ≤ gb153)); have n4_ := Aside0.mk ((by rw [hg]; exact (ql0 (by repeat (first | (with_reducible first | exact HB.out | apply qb0 | apply qa0 | apply qc0 | refine qf0 ?_ GE151.out) | exact HB.out))) : w.heap.size ≤ gb153)); have n5_ := Aside0.mk ((by rw [hg]; exact Nat.ne_of_lt (blk_lt (g := gb151) (o := .cells #[.int .i64 0, .int .i64 0, .int .i64 0] 28 (0, 0)) (by (with_reducible repeat (first | refine qg0 ?_ _ | refine qj0 ?_ | refine qh0 ?_ _)); exact BK151.out)) : gb151 ≠ gb153)); have n6_ := Aside0.mk ((by rw [hg]; exact Nat.ne_of_gt (blk_lt (g := gb151) (o := .cells #[.int .i64 0, .int .i64 0, .int .i64 0] 28 (0, 0)) (by (with_reducible repeat (first | refine qg0 ?_ _ | refine qj0 ?_ | refine qh0 ?_ _)); exact BK151.out)) : gb153 ≠ gb151)); clear BK151; clear HB; have BK151 := n0_; have HB := n1_; have BK153 := n2_; have GW153 := n3_; have GE153 := n4_; have NB151_153 := n5_; have NB153_151 := n6_; clear n0_ n1_ n2_ n3_ n4_ n5_ n6_; clear hb hbox hg; have hnb7 := NB153_151.out; have hnc7 := NB151_153.out; have hcz8_0 : w6.cell? ⟨gb153, 0, none⟩ = some (.int .i64 0) := (qe0 BK153.out 0).trans rfl; have hcz8_1 : w6.cell? ⟨gb153, 1, none⟩ = some (.int .i64 0) := (qe0 BK153.out 1).trans rfl; have hcz8_2 : w6.cell? ⟨gb153, 2, none⟩ = some (.int .i64 0) := (qe0 BK153.out 2).trans rfl; have hfz8_0 := qd0 BK153.out 0; have hfz8_1 := qd0 BK153.out 1; have hfz8_2 := qd0 BK153.out 2))
  apply wp_label
  go_upto_block 0 with (fail)
  (try simp only [Act.put, List.setIfInBounds_toArray, List.set_cons_zero, List.set_cons_succ])
  go_cut [0] (fun v0 wc => ∃ (kq : Nat) (x0_3 : Int) (x154000_3 : Int), v0 = .int .i64 x0_3 ∧ Aside0 (impl_DateOf.j1 kq x0_3 x154000_3 1 1 = some (r1, r2, r3)) ∧ Aside0 (kq ≤ k) ∧ Aside0 (wc.heap[gb151]? = some (.cells #[.int .i64 0, .int .i64 0, .int .i64 0] 28 (0, 0))) ∧ Aside0 (wc.heap[gb153]? = some (.cells #[.int .i64 x154000_3, .int .i64 1, .int .i64 1] 28 (0, 0))) ∧ Aside0 (Below w.heap.size w wc))
  case first =>
   have H := HC4.out
   clear HC4
   have H' := Aside0.mk H
   clear H
   go_wp2
   go_loopg [0] k (fun kq v0 w' => ∃ (x0_1 : Int) (x154000_1 : Int), v0 = .int .i64 x0_1 ∧ Aside0 (impl_DateOf.l0 kq x0_1 x154000_1 1 1 = some (r1, r2, r3)) ∧ Aside0 (kq ≤ k) ∧ Aside0 (w'.heap[gb151]? = some (.cells #[.int .i64 0, .int .i64 0, .int .i64 0] 28 (0, 0))) ∧ Aside0 (w'.heap[gb153]? = some (.cells #[.int .i64 x154000_1, .int .i64 1, .int .i64 1] 28 (0, 0))) ∧ Aside0 (Below w.heap.size w w'))
   case atStart => exact ⟨(a0), (2000), (by first | rfl | (simp; done) | (simp [*]; done)), H', ⟨Nat.le_refl _⟩, ⟨by (with_reducible repeat (first | refine qg0 ?_ _ | refine qj0 ?_ | refine qh0 ?_ _)); refine blk_far ?_ NB151_153.out _; (with_reducible repeat (first | refine qg0 ?_ _ | refine qj0 ?_ | refine qh0 ?_ _)); refine blk_far ?_ NB151_153.out _; (with_reducible repeat (first | refine qg0 ?_ _ | refine qj0 ?_ | refine qh0 ?_ _)); refine blk_far ?_ NB151_153.out _; (with_reducible repeat (first | refine qg0 ?_ _ | refine qj0 ?_ | refine qh0 ?_ _)); exact BK151.out⟩, ⟨by (with_reducible repeat (first | refine qg0 ?_ _ | refine qj0 ?_ | refine qh0 ?_ _)); refine qx0 (cs := #[.int .i64 2000, .int .i64 1, .int .i64 0]) ?_ 2 _ rfl; (with_reducible repeat (first | refine qg0 ?_ _ | refine qj0 ?_ | refine qh0 ?_ _)); refine qx0 (cs := #[.int .i64 2000, .int .i64 0, .int .i64 0]) ?_ 1 _ rfl; (with_reducible repeat (first | refine qg0 ?_ _ | refine qj0 ?_ | refine qh0 ?_ _)); refine qx0 (cs := #[.int .i64 0, .int .i64 0, .int .i64 0]) ?_ 0 _ rfl; (with_reducible repeat (first | refine qg0 ?_ _ | refine qj0 ?_ | refine qh0 ?_ _)); exact BK153.out⟩, ⟨by repeat (first | (with_reducible first | exact HB.out | apply qb0 | apply qa0 | apply qc0 | refine qf0 ?_ GE151.out | refine qf0 ?_ GE153.out) | exact HB.out)⟩⟩
   case round =>
    clear H'
    try clear c1
    try clear p2
    try clear c3
    try clear c7
    try clear hcz8_0
    try clear hcz8_1
    try clear hcz8_2
    try clear hfz8_0
    try clear hfz8_1
    try clear hfz8_2
    obtain ⟨x0_1, x154000_1, rfl, HA, HK1, BK151, BK153, HB⟩ := hrel
    cases gk with
    | zero => exact absurd HA.out (by simp [impl_DateOf.l0])
    | succ k1 =>
     have H := HA.out
     clear HA
     simp only [impl_DateOf.l0] at H
     replace H := Option.bind_eq_some_iff.mp H
     obtain ⟨t154, A90, H⟩ := H
     replace H : (if t154 = true then (if x0_1 < 366 then (impl_DateOf.j1 k1 x0_1 x154000_1 1 1) else (impl_DateOf.l0 k1 (wrap64 (x0_1 - 366)) (wrap64 (x154000_1 + 1)) 1 1)) else (if x0_1 < 365 then (impl_DateOf.j1 k1 x0_1 x154000_1 1 1) else (impl_DateOf.l0 k1 (wrap64 (x0_1 - 365)) (wrap64 (x154000_1 + 1)) 1 1))) = some (r1, r2, r3) := H
     have A9 := Aside0.mk A90
     clear A90
     by_cases c10 : t154 = true
     ·subst c10
      have H1 : (if x0_1 < 366 then (impl_DateOf.j1 k1 x0_1 x154000_1 1 1) else (impl_DateOf.l0 k1 (wrap64 (x0_1 - 366)) (wrap64 (x154000_1 + 1)) 1 1)) = some (r1, r2, r3) := by rw [if_pos rfl] at H; exact H
      clear H
      have H := H1
      clear H1
      by_cases c11 : x0_1 < 366
      ·rw [if_pos c11] at H
       have c11b0 : decide (x0_1 < 366) = true := decide_eq_true c11
       clear c11
       (first | rw [c11b0] | (simp only [i64_w, i32_w]; rw [c11b0]) | skip)
       have H' := Aside0.mk H
       clear H
       have hnb12 := NB153_151.out
       have hnc12 := NB151_153.out
       have hcz13_0 : wr.cell? ⟨gb153, 0, none⟩ = some (.int .i64 x154000_1) := (qe0 BK153.out 0).trans rfl
       have hcz13_1 : wr.cell? ⟨gb153, 1, none⟩ = some (.int .i64 1) := (qe0 BK153.out 1).trans rfl
       have hcz13_2 : wr.cell? ⟨gb153, 2, none⟩ = some (.int .i64 1) := (qe0 BK153.out 2).trans rfl
       have hfz13_0 := qd0 BK153.out 0
       have hfz13_1 := qd0 BK153.out 1
       have hfz13_2 := qd0 BK153.out 2
       go_wp2_with (first | ((with_reducible refine qi0 (f := 35) rfl ?_); refine qq0 (some 12) rfl rfl Tryd.func35 (by kernel_rfl) rfl #[.int .i64 x154000_1] rfl (by (try simp only [List.map_toArray, List.map_cons, List.map_nil]); first | done | rfl | (simp only [List.length_drop, List.length_take]; rfl)) ?_; (with_reducible refine (impl_longYear.calls x154000_1 true _ A9.out).mono ?_); rintro e w' ⟨rfl, ⟨nd, rfl⟩⟩; refine ⟨_, rfl, ?_⟩))
       go_meet
       case rel => exact ⟨_, (x0_1), (x154000_1), (by first | rfl | (simp; done) | (simp [*]; done)), H', ⟨by have := HK1.out; first | omega | exact Nat.le_refl _⟩, ⟨by (with_reducible repeat (first | refine qg0 ?_ _ | refine qj0 ?_ | refine qh0 ?_ _)); exact BK151.out⟩, ⟨by (with_reducible repeat (first | refine qg0 ?_ _ | refine qj0 ?_ | refine qh0 ?_ _)); exact BK153.out⟩, ⟨by repeat (first | (with_reducible first | exact HB.out | apply qb0 | apply qa0 | apply qc0 | refine qf0 ?_ GE151.out | refine qf0 ?_ GE153.out) | exact HB.out)⟩⟩
      rw [if_neg c11] at H
      have c11b0 : decide (x0_1 < 366) = false := decide_eq_false c11
      clear c11
      (first | rw [c11b0] | (simp only [i64_w, i32_w]; rw [c11b0]) | skip)
      have H' := Aside0.mk H
      clear H
      have hnb14 := NB153_151.out
      have hnc14 := NB151_153.out
      have hcz15_0 : wr.cell? ⟨gb153, 0, none⟩ = some (.int .i64 x154000_1) := (qe0 BK153.out 0).trans rfl
      have hcz15_1 : wr.cell? ⟨gb153, 1, none⟩ = some (.int .i64 1) := (qe0 BK153.out 1).trans rfl
      have hcz15_2 : wr.cell? ⟨gb153, 2, none⟩ = some (.int .i64 1) := (qe0 BK153.out 2).trans rfl
      have hfz15_0 := qd0 BK153.out 0
      have hfz15_1 := qd0 BK153.out 1
      have hfz15_2 := qd0 BK153.out 2
      go_wp2_with (first | ((with_reducible refine qi0 (f := 35) rfl ?_); refine qq0 (some 12) rfl rfl Tryd.func35 (by kernel_rfl) rfl #[.int .i64 x154000_1] rfl (by (try simp only [List.map_toArray, List.map_cons, List.map_nil]); first | done | rfl | (simp only [List.length_drop, List.length_take]; rfl)) ?_; (with_reducible refine (impl_longYear.calls x154000_1 true _ A9.out).mono ?_); rintro e w' ⟨rfl, ⟨nd, rfl⟩⟩; refine ⟨_, rfl, ?_⟩; (try (rw [drewN_self wr]; generalize hq_ : World.drewN wr _ = wr; have n0_ : Aside0 (wr.heap[gb151]? = some (.cells #[.int .i64 0, .int .i64 0, .int .i64 0] 28 (0, 0))) := ⟨by rw [← hq_]; exact (by (with_reducible repeat (first | refine qg0 ?_ _ | refine qj0 ?_ | refine qh0 ?_ _)); exact BK151.out)⟩; have n1_ : Aside0 (wr.heap[gb153]? = some (.cells #[.int .i64 x154000_1, .int .i64 1, .int .i64 1] 28 (0, 0))) := ⟨by rw [← hq_]; exact (by (with_reducible repeat (first | refine qg0 ?_ _ | refine qj0 ?_ | refine qh0 ?_ _)); exact BK153.out)⟩; have n2_ : Aside0 (Below w.heap.size w wr) := ⟨by rw [← hq_]; exact (by repeat (first | (with_reducible first | exact HB.out | apply qb0 | apply qa0 | apply qc0 | refine qf0 ?_ GE151.out | refine qf0 ?_ GE153.out) | exact HB.out))⟩; clear BK151 BK153 HB hq_; have BK151 := n0_; have BK153 := n1_; have HB := n2_; clear n0_ n1_ n2_)); (try (have hczR3_0 : wr.cell? ⟨gb151, 0, none⟩ = some (.int .i64 0) := (qe0 BK151.out 0).trans rfl; have hfzR3_0 := qd0 BK151.out 0)); (try (have hczR3_1 : wr.cell? ⟨gb151, 1, none⟩ = some (.int .i64 0) := (qe0 BK151.out 1).trans rfl; have hfzR3_1 := qd0 BK151.out 1)); (try (have hczR3_2 : wr.cell? ⟨gb151, 2, none⟩ = some (.int .i64 0) := (qe0 BK151.out 2).trans rfl; have hfzR3_2 := qd0 BK151.out 2)); (try (have hczR4_0 : wr.cell? ⟨gb153, 0, none⟩ = some (.int .i64 x154000_1) := (qe0 BK153.out 0).trans rfl; have hfzR4_0 := qd0 BK153.out 0)); (try (have hczR4_1 : wr.cell? ⟨gb153, 1, none⟩ = some (.int .i64 1) := (qe0 BK153.out 1).trans rfl; have hfzR4_1 := qd0 BK153.out 1)); (try (have hczR4_2 : wr.cell? ⟨gb153, 2, none⟩ = some (.int .i64 1) := (qe0 BK153.out 2).trans rfl; have hfzR4_2 := qd0 BK153.out 2))))
      go_roundg k1
      case measure => have := HK1.out; omega
      case rel => exact ⟨(wrap64 (x0_1 - 366)), (wrap64 (x154000_1 + 1)), (by first | rfl | (simp; done) | (simp [*]; done)), H', ⟨by have := HK1.out; omega⟩, ⟨by (with_reducible repeat (first | refine qg0 ?_ _ | refine qj0 ?_ | refine qh0 ?_ _)); refine blk_far ?_ NB151_153.out _; (with_reducible repeat (first | refine qg0 ?_ _ | refine qj0 ?_ | refine qh0 ?_ _)); exact BK151.out⟩, ⟨by (with_reducible repeat (first | refine qg0 ?_ _ | refine qj0 ?_ | refine qh0 ?_ _)); refine qx0 (cs := #[.int .i64 x154000_1, .int .i64 1, .int .i64 1]) ?_ 0 _ rfl; (with_reducible repeat (first | refine qg0 ?_ _ | refine qj0 ?_ | refine qh0 ?_ _)); exact BK153.out⟩, ⟨by repeat (first | (with_reducible first | exact HB.out | apply qb0 | apply qa0 | apply qc0 | refine qf0 ?_ GE151.out | refine qf0 ?_ GE153.out) | exact HB.out)⟩⟩
     replace c10 := Bool.eq_false_iff.mpr c10
     subst c10
     have H1 : (if x0_1 < 365 then (impl_DateOf.j1 k1 x0_1 x154000_1 1 1) else (impl_DateOf.l0 k1 (wrap64 (x0_1 - 365)) (wrap64 (x154000_1 + 1)) 1 1)) = some (r1, r2, r3) := by rw [if_neg (show ¬ (false = true) by decide)] at H; exact H
     clear H
     have H := H1
     clear H1
     by_cases c16 : x0_1 < 365
     ·rw [if_pos c16] at H
      have c16b0 : decide (x0_1 < 365) = true := decide_eq_true c16
      clear c16
      have H' := Aside0.mk H
      clear H
      have hnb17 := NB153_151.out
      have hnc17 := NB151_153.out
      have hcz18_0 : wr.cell? ⟨gb153, 0, none⟩ = some (.int .i64 x154000_1) := (qe0 BK153.out 0).trans rfl
      have hcz18_1 : wr.cell? ⟨gb153, 1, none⟩ = some (.int .i64 1) := (qe0 BK153.out 1).trans rfl
      have hcz18_2 : wr.cell? ⟨gb153, 2, none⟩ = some (.int .i64 1) := (qe0 BK153.out 2).trans rfl
      have hfz18_0 := qd0 BK153.out 0
      have hfz18_1 := qd0 BK153.out 1
      have hfz18_2 := qd0 BK153.out 2
      go_wp2_with (first | ((with_reducible refine qi0 (f := 35) rfl ?_); refine qq0 (some 12) rfl rfl Tryd.func35 (by kernel_rfl) rfl #[.int .i64 x154000_1] rfl (by (try simp only [List.map_toArray, List.map_cons, List.map_nil]); first | done | rfl | (simp only [List.length_drop, List.length_take]; rfl)) ?_; (with_reducible refine (impl_longYear.calls x154000_1 false _ A9.out).mono ?_); rintro e w' ⟨rfl, ⟨nd, rfl⟩⟩; refine ⟨_, rfl, ?_⟩))
      go_meet
      case rel => exact ⟨_, (x0_1), (x154000_1), (by first | rfl | (simp; done) | (simp [*]; done)), H', ⟨by have := HK1.out; first | omega | exact Nat.le_refl _⟩, ⟨by (with_reducible repeat (first | refine qg0 ?_ _ | refine qj0 ?_ | refine qh0 ?_ _)); exact BK151.out⟩, ⟨by (with_reducible repeat (first | refine qg0 ?_ _ | refine qj0 ?_ | refine qh0 ?_ _)); exact BK153.out⟩, ⟨by repeat (first | (with_reducible first | exact HB.out | apply qb0 | apply qa0 | apply qc0 | refine qf0 ?_ GE151.out | refine qf0 ?_ GE153.out) | exact HB.out)⟩⟩
     rw [if_neg c16] at H
     have c16b0 : decide (x0_1 < 365) = false := decide_eq_false c16
     clear c16
     have H' := Aside0.mk H
     clear H
     have hnb19 := NB153_151.out
     have hnc19 := NB151_153.out
     have hcz20_0 : wr.cell? ⟨gb153, 0, none⟩ = some (.int .i64 x154000_1) := (qe0 BK153.out 0).trans rfl
     have hcz20_1 : wr.cell? ⟨gb153, 1, none⟩ = some (.int .i64 1) := (qe0 BK153.out 1).trans rfl
     have hcz20_2 : wr.cell? ⟨gb153, 2, none⟩ = some (.int .i64 1) := (qe0 BK153.out 2).trans rfl
     have hfz20_0 := qd0 BK153.out 0
     have hfz20_1 := qd0 BK153.out 1
     have hfz20_2 := qd0 BK153.out 2
     go_wp2_with (first | ((with_reducible refine qi0 (f := 35) rfl ?_); refine qq0 (some 12) rfl rfl Tryd.func35 (by kernel_rfl) rfl #[.int .i64 x154000_1] rfl (by (try simp only [List.map_toArray, List.map_cons, List.map_nil]); first | done | rfl | (simp only [List.length_drop, List.length_take]; rfl)) ?_; (with_reducible refine (impl_longYear.calls x154000_1 false _ A9.out).mono ?_); rintro e w' ⟨rfl, ⟨nd, rfl⟩⟩; refine ⟨_, rfl, ?_⟩; (try (rw [drewN_self wr]; generalize hq_ : World.drewN wr _ = wr; have n0_ : Aside0 (wr.heap[gb151]? = some (.cells #[.int .i64 0, .int .i64 0, .int .i64 0] 28 (0, 0))) := ⟨by rw [← hq_]; exact (by (with_reducible repeat (first | refine qg0 ?_ _ | refine qj0 ?_ | refine qh0 ?_ _)); exact BK151.out)⟩; have n1_ : Aside0 (wr.heap[gb153]? = some (.cells #[.int .i64 x154000_1, .int .i64 1, .int .i64 1] 28 (0, 0))) := ⟨by rw [← hq_]; exact (by (with_reducible repeat (first | refine qg0 ?_ _ | refine qj0 ?_ | refine qh0 ?_ _)); exact BK153.out)⟩; have n2_ : Aside0 (Below w.heap.size w wr) := ⟨by rw [← hq_]; exact (by repeat (first | (with_reducible first | exact HB.out | apply qb0 | apply qa0 | apply qc0 | refine qf0 ?_ GE151.out | refine qf0 ?_ GE153.out) | exact HB.out))⟩; clear BK151 BK153 HB hq_; have BK151 := n0_; have BK153 := n1_; have HB := n2_; clear n0_ n1_ n2_)); (try (have hczR5_0 : wr.cell? ⟨gb151, 0, none⟩ = some (.int .i64 0) := (qe0 BK151.out 0).trans rfl; have hfzR5_0 := qd0 BK151.out 0)); (try (have hczR5_1 : wr.cell? ⟨gb151, 1, none⟩ = some (.int .i64 0) := (qe0 BK151.out 1).trans rfl; have hfzR5_1 := qd0 BK151.out 1)); (try (have hczR5_2 : wr.cell? ⟨gb151, 2, none⟩ = some (.int .i64 0) := (qe0 BK151.out 2).trans rfl; have hfzR5_2 := qd0 BK151.out 2)); (try (have hczR6_0 : wr.cell? ⟨gb153, 0, none⟩ = some (.int .i64 x154000_1) := (qe0 BK153.out 0).trans rfl; have hfzR6_0 := qd0 BK153.out 0)); (try (have hczR6_1 : wr.cell? ⟨gb153, 1, none⟩ = some (.int .i64 1) := (qe0 BK153.out 1).trans rfl; have hfzR6_1 := qd0 BK153.out 1)); (try (have hczR6_2 : wr.cell? ⟨gb153, 2, none⟩ = some (.int .i64 1) := (qe0 BK153.out 2).trans rfl; have hfzR6_2 := qd0 BK153.out 2))))
     go_roundg k1
     case measure => have := HK1.out; omega
     case rel => exact ⟨(wrap64 (x0_1 - 365)), (wrap64 (x154000_1 + 1)), (by first | rfl | (simp; done) | (simp [*]; done)), H', ⟨by have := HK1.out; omega⟩, ⟨by (with_reducible repeat (first | refine qg0 ?_ _ | refine qj0 ?_ | refine qh0 ?_ _)); refine blk_far ?_ NB151_153.out _; (with_reducible repeat (first | refine qg0 ?_ _ | refine qj0 ?_ | refine qh0 ?_ _)); exact BK151.out⟩, ⟨by (with_reducible repeat (first | refine qg0 ?_ _ | refine qj0 ?_ | refine qh0 ?_ _)); refine qx0 (cs := #[.int .i64 x154000_1, .int .i64 1, .int .i64 1]) ?_ 0 _ rfl; (with_reducible repeat (first | refine qg0 ?_ _ | refine qj0 ?_ | refine qh0 ?_ _)); exact BK153.out⟩, ⟨by repeat (first | (with_reducible first | exact HB.out | apply qb0 | apply qa0 | apply qc0 | refine qf0 ?_ GE151.out | refine qf0 ?_ GE153.out) | exact HB.out)⟩⟩
  case rest =>
   clear HC4
   try clear c1
   try clear p2
   try clear c3
   try clear p6
   try clear c7
   try clear c10
   try clear c11
   try clear c11b0
   try clear c12
   try clear c14
   try clear c16
   try clear c16b0
   try clear c17
   try clear c19
   try clear hcz13_0
   try clear hcz13_1
   try clear hcz13_2
   try clear hcz15_0
   try clear hcz15_1
   try clear hcz15_2
   try clear hcz18_0
   try clear hcz18_1
   try clear hcz18_2
   try clear hcz20_0
   try clear hcz20_1
   try clear hcz20_2
   try clear hcz8_0
   try clear hcz8_1
   try clear hcz8_2
   try clear hfz13_0
   try clear hfz13_1
   try clear hfz13_2
   try clear hfz15_0
   try clear hfz15_1
   try clear hfz15_2
   try clear hfz18_0
   try clear hfz18_1
   try clear hfz18_2
   try clear hfz20_0
   try clear hfz20_1
   try clear hfz20_2
   try clear hfz8_0
   try clear hfz8_1
   try clear hfz8_2
   try clear p2
   obtain ⟨kq, x0_3, x154000_3, rfl, HA, HJ3, BK151, BK153, HB⟩ := hcut
   cases kq with
   | zero => exact absurd HA.out (by simp [impl_DateOf.j1])
   | succ kj3 =>
    have H := HA.out
    clear HA
    simp only [impl_DateOf.j1] at H
    have H' := Aside0.mk H
    clear H
    go_wp2
    go_loopg [0] kj3 (fun kq v0 w' => ∃ (x0_2 : Int) (x154001_2 : Int), v0 = .int .i64 x0_2 ∧ Aside0 (impl_DateOf.l1 kq x0_2 x154000_3 x154001_2 1 = some (r1, r2, r3)) ∧ Aside0 (kq ≤ kj3) ∧ Aside0 (w'.heap[gb151]? = some (.cells #[.int .i64 0, .int .i64 0, .int .i64 0] 28 (0, 0))) ∧ Aside0 (w'.heap[gb153]? = some (.cells #[.int .i64 x154000_3, .int .i64 x154001_2, .int .i64 1] 28 (0, 0))) ∧ Aside0 (Below w.heap.size w w'))
    case atStart => exact ⟨(x0_3), (1), (by first | rfl | (simp; done) | (simp [*]; done)), H', ⟨Nat.le_refl _⟩, ⟨by (with_reducible repeat (first | refine qg0 ?_ _ | refine qj0 ?_ | refine qh0 ?_ _)); exact BK151.out⟩, ⟨by (with_reducible repeat (first | refine qg0 ?_ _ | refine qj0 ?_ | refine qh0 ?_ _)); exact BK153.out⟩, ⟨by repeat (first | (with_reducible first | exact HB.out | apply qb0 | apply qa0 | apply qc0 | refine qf0 ?_ GE151.out | refine qf0 ?_ GE153.out) | exact HB.out)⟩⟩
    case round =>
     clear H'
     try clear c1
     try clear p2
     try clear c3
     try clear p6
     try clear c7
     try clear c10
     try clear c11
     try clear c11b0
     try clear c12
     try clear c14
     try clear c16
     try clear c16b0
     try clear c17
     try clear c19
     try clear hcz13_0
     try clear hcz13_1
     try clear hcz13_2
     try clear hcz15_0
     try clear hcz15_1
     try clear hcz15_2
     try clear hcz18_0
     try clear hcz18_1
     try clear hcz18_2
     try clear hcz20_0
     try clear hcz20_1
     try clear hcz20_2
     try clear hcz8_0
     try clear hcz8_1
     try clear hcz8_2
     try clear hfz13_0
     try clear hfz13_1
     try clear hfz13_2
     try clear hfz15_0
     try clear hfz15_1
     try clear hfz15_2
     try clear hfz18_0
     try clear hfz18_1
     try clear hfz18_2
     try clear hfz20_0
     try clear hfz20_1
     try clear hfz20_2
     try clear hfz8_0
     try clear hfz8_1
     try clear hfz8_2
     try clear p2
     try clear p6
     obtain ⟨x0_2, x154001_2, rfl, HA, HK2, BK151, BK153, HB⟩ := hrel
     cases gk with
     | zero => exact absurd HA.out (by simp [impl_DateOf.l1])
     | succ k2 =>
      have H := HA.out
      clear HA
      simp only [impl_DateOf.l1] at H
      replace H := Option.bind_eq_some_iff.mp H
      obtain ⟨t155, A210, H⟩ := H
      replace H : (if x0_2 ≥ t155 then ((impl_daysOf.f x154000_3 x154001_2).bind fun t156 => (impl_DateOf.l1 k2 (wrap64 (x0_2 - t156)) x154000_3 (wrap64 (x154001_2 + 1)) 1)) else (some (x154000_3, x154001_2, wrap64 (1 + x0_2)))) = some (r1, r2, r3) := H
      have A21 := Aside0.mk A210
      clear A210
      by_cases c22 : x0_2 ≥ t155
      ·rw [if_pos c22] at H
       have c22b0 : decide (t155 ≤ x0_2) = true := decide_eq_true c22
       clear c22
       replace H := Option.bind_eq_some_iff.mp H
       obtain ⟨t156, A230, H⟩ := H
       replace H : (impl_DateOf.l1 k2 (wrap64 (x0_2 - t156)) x154000_3 (wrap64 (x154001_2 + 1)) 1) = some (r1, r2, r3) := H
       have A23 := Aside0.mk A230
       clear A230
       have H' := Aside0.mk H
       clear H
       have hnb24 := NB153_151.out
       have hnc24 := NB151_153.out
       have hcz25_0 : wr.cell? ⟨gb153, 0, none⟩ = some (.int .i64 x154000_3) := (qe0 BK153.out 0).trans rfl
       have hcz25_1 : wr.cell? ⟨gb153, 1, none⟩ = some (.int .i64 x154001_2) := (qe0 BK153.out 1).trans rfl
       have hcz25_2 : wr.cell? ⟨gb153, 2, none⟩ = some (.int .i64 1) := (qe0 BK153.out 2).trans rfl
       have hfz25_0 := qd0 BK153.out 0
       have hfz25_1 := qd0 BK153.out 1
       have hfz25_2 := qd0 BK153.out 2
       go_wp2_with (first | ((with_reducible refine qi0 (f := 27) rfl ?_); refine qq0 (some 28) rfl rfl Tryd.func27 (by kernel_rfl) rfl #[.int .i64 x154000_3, .int .i64 x154001_2] rfl (by (try simp only [List.map_toArray, List.map_cons, List.map_nil]); first | done | rfl | (simp only [List.length_drop, List.length_take]; rfl)) ?_; (with_reducible refine (impl_daysOf.calls x154000_3 x154001_2 t155 _ A21.out).mono ?_); rintro e w' ⟨rfl, ⟨nd, rfl⟩⟩; refine ⟨_, rfl, ?_⟩; (try (rw [drewN_self wr]; generalize hq_ : World.drewN wr _ = wr; have n0_ : Aside0 (wr.heap[gb151]? = some (.cells #[.int .i64 0, .int .i64 0, .int .i64 0] 28 (0, 0))) := ⟨by rw [← hq_]; exact (by (with_reducible repeat (first | refine qg0 ?_ _ | refine qj0 ?_ | refine qh0 ?_ _)); exact BK151.out)⟩; have n1_ : Aside0 (wr.heap[gb153]? = some (.cells #[.int .i64 x154000_3, .int .i64 x154001_2, .int .i64 1] 28 (0, 0))) := ⟨by rw [← hq_]; exact (by (with_reducible repeat (first | refine qg0 ?_ _ | refine qj0 ?_ | refine qh0 ?_ _)); exact BK153.out)⟩; have n2_ : Aside0 (Below w.heap.size w wr) := ⟨by rw [← hq_]; exact (by repeat (first | (with_reducible first | exact HB.out | apply qb0 | apply qa0 | apply qc0 | refine qf0 ?_ GE151.out | refine qf0 ?_ GE153.out) | exact HB.out))⟩; clear BK151 BK153 HB hq_; have BK151 := n0_; have BK153 := n1_; have HB := n2_; clear n0_ n1_ n2_)); (try (have hczR7_0 : wr.cell? ⟨gb151, 0, none⟩ = some (.int .i64 0) := (qe0 BK151.out 0).trans rfl; have hfzR7_0 := qd0 BK151.out 0)); (try (have hczR7_1 : wr.cell? ⟨gb151, 1, none⟩ = some (.int .i64 0) := (qe0 BK151.out 1).trans rfl; have hfzR7_1 := qd0 BK151.out 1)); (try (have hczR7_2 : wr.cell? ⟨gb151, 2, none⟩ = some (.int .i64 0) := (qe0 BK151.out 2).trans rfl; have hfzR7_2 := qd0 BK151.out 2)); (try (have hczR8_0 : wr.cell? ⟨gb153, 0, none⟩ = some (.int .i64 x154000_3) := (qe0 BK153.out 0).trans rfl; have hfzR8_0 := qd0 BK153.out 0)); (try (have hczR8_1 : wr.cell? ⟨gb153, 1, none⟩ = some (.int .i64 x154001_2) := (qe0 BK153.out 1).trans rfl; have hfzR8_1 := qd0 BK153.out 1)); (try (have hczR8_2 : wr.cell? ⟨gb153, 2, none⟩ = some (.int .i64 1) := (qe0 BK153.out 2).trans rfl; have hfzR8_2 := qd0 BK153.out 2))) | ((with_reducible refine qi0 (f := 27) rfl ?_); refine qq0 (some 35) rfl rfl Tryd.func27 (by kernel_rfl) rfl #[.int .i64 x154000_3, .int .i64 x154001_2] rfl (by (try simp only [List.map_toArray, List.map_cons, List.map_nil]); first | done | rfl | (simp only [List.length_drop, List.length_take]; rfl)) ?_; (with_reducible refine (impl_daysOf.calls x154000_3 x154001_2 t156 _ A23.out).mono ?_); rintro e w' ⟨rfl, ⟨nd, rfl⟩⟩; refine ⟨_, rfl, ?_⟩; (try (rw [drewN_self wr]; generalize hq_ : World.drewN wr _ = wr; have n0_ : Aside0 (wr.heap[gb151]? = some (.cells #[.int .i64 0, .int .i64 0, .int .i64 0] 28 (0, 0))) := ⟨by rw [← hq_]; exact (by (with_reducible repeat (first | refine qg0 ?_ _ | refine qj0 ?_ | refine qh0 ?_ _)); exact BK151.out)⟩; have n1_ : Aside0 (wr.heap[gb153]? = some (.cells #[.int .i64 x154000_3, .int .i64 x154001_2, .int .i64 1] 28 (0, 0))) := ⟨by rw [← hq_]; exact (by (with_reducible repeat (first | refine qg0 ?_ _ | refine qj0 ?_ | refine qh0 ?_ _)); exact BK153.out)⟩; have n2_ : Aside0 (Below w.heap.size w wr) := ⟨by rw [← hq_]; exact (by repeat (first | (with_reducible first | exact HB.out | apply qb0 | apply qa0 | apply qc0 | refine qf0 ?_ GE151.out | refine qf0 ?_ GE153.out) | exact HB.out))⟩; clear BK151 BK153 HB hq_; have BK151 := n0_; have BK153 := n1_; have HB := n2_; clear n0_ n1_ n2_)); (try (have hczR9_0 : wr.cell? ⟨gb151, 0, none⟩ = some (.int .i64 0) := (qe0 BK151.out 0).trans rfl; have hfzR9_0 := qd0 BK151.out 0)); (try (have hczR9_1 : wr.cell? ⟨gb151, 1, none⟩ = some (.int .i64 0) := (qe0 BK151.out 1).trans rfl; have hfzR9_1 := qd0 BK151.out 1)); (try (have hczR9_2 : wr.cell? ⟨gb151, 2, none⟩ = some (.int .i64 0) := (qe0 BK151.out 2).trans rfl; have hfzR9_2 := qd0 BK151.out 2)); (try (have hczR10_0 : wr.cell? ⟨gb153, 0, none⟩ = some (.int .i64 x154000_3) := (qe0 BK153.out 0).trans rfl; have hfzR10_0 := qd0 BK153.out 0)); (try (have hczR10_1 : wr.cell? ⟨gb153, 1, none⟩ = some (.int .i64 x154001_2) := (qe0 BK153.out 1).trans rfl; have hfzR10_1 := qd0 BK153.out 1)); (try (have hczR10_2 : wr.cell? ⟨gb153, 2, none⟩ = some (.int .i64 1) := (qe0 BK153.out 2).trans rfl; have hfzR10_2 := qd0 BK153.out 2))))
       go_roundg k2
       case measure => have := HJ3.out; have := HK2.out; omega
       case rel => exact ⟨(wrap64 (x0_2 - t156)), (wrap64 (x154001_2 + 1)), (by first | rfl | (simp; done) | (simp [*]; done)), H', ⟨by have := HJ3.out; have := HK2.out; omega⟩, ⟨by (with_reducible repeat (first | refine qg0 ?_ _ | refine qj0 ?_ | refine qh0 ?_ _)); refine blk_far ?_ NB151_153.out _; (with_reducible repeat (first | refine qg0 ?_ _ | refine qj0 ?_ | refine qh0 ?_ _)); exact BK151.out⟩, ⟨by (with_reducible repeat (first | refine qg0 ?_ _ | refine qj0 ?_ | refine qh0 ?_ _)); refine qx0 (cs := #[.int .i64 x154000_3, .int .i64 x154001_2, .int .i64 1]) ?_ 1 _ rfl; (with_reducible repeat (first | refine qg0 ?_ _ | refine qj0 ?_ | refine qh0 ?_ _)); exact BK153.out⟩, ⟨by repeat (first | (with_reducible first | exact HB.out | apply qb0 | apply qa0 | apply qc0 | refine qf0 ?_ GE151.out | refine qf0 ?_ GE153.out) | exact HB.out)⟩⟩
      rw [if_neg c22] at H
      have c22b0 : decide (t155 ≤ x0_2) = false := decide_eq_false c22
      clear c22
      simp only [Option.some.injEq, Prod.mk.injEq] at H
      obtain ⟨rfl, rfl, rfl⟩ := H
      have hnb26 := NB153_151.out
      have hnc26 := NB151_153.out
      have hcz27_0 : wr.cell? ⟨gb153, 0, none⟩ = some (.int .i64 x154000_3) := (qe0 BK153.out 0).trans rfl
      have hcz27_1 : wr.cell? ⟨gb153, 1, none⟩ = some (.int .i64 x154001_2) := (qe0 BK153.out 1).trans rfl
      have hcz27_2 : wr.cell? ⟨gb153, 2, none⟩ = some (.int .i64 1) := (qe0 BK153.out 2).trans rfl
      have hfz27_0 := qd0 BK153.out 0
      have hfz27_1 := qd0 BK153.out 1
      have hfz27_2 := qd0 BK153.out 2
      go_wp2_with (first | ((with_reducible refine qi0 (f := 27) rfl ?_); refine qq0 (some 28) rfl rfl Tryd.func27 (by kernel_rfl) rfl #[.int .i64 x154000_3, .int .i64 x154001_2] rfl (by (try simp only [List.map_toArray, List.map_cons, List.map_nil]); first | done | rfl | (simp only [List.length_drop, List.length_take]; rfl)) ?_; (with_reducible refine (impl_daysOf.calls x154000_3 x154001_2 t155 _ A21.out).mono ?_); rintro e w' ⟨rfl, ⟨nd, rfl⟩⟩; refine ⟨_, rfl, ?_⟩; (try (rw [drewN_self wr]; generalize hq_ : World.drewN wr _ = wr; have n0_ : Aside0 (wr.heap[gb151]? = some (.cells #[.int .i64 0, .int .i64 0, .int .i64 0] 28 (0, 0))) := ⟨by rw [← hq_]; exact (by (with_reducible repeat (first | refine qg0 ?_ _ | refine qj0 ?_ | refine qh0 ?_ _)); exact BK151.out)⟩; have n1_ : Aside0 (wr.heap[gb153]? = some (.cells #[.int .i64 x154000_3, .int .i64 x154001_2, .int .i64 1] 28 (0, 0))) := ⟨by rw [← hq_]; exact (by (with_reducible repeat (first | refine qg0 ?_ _ | refine qj0 ?_ | refine qh0 ?_ _)); exact BK153.out)⟩; have n2_ : Aside0 (Below w.heap.size w wr) := ⟨by rw [← hq_]; exact (by repeat (first | (with_reducible first | exact HB.out | apply qb0 | apply qa0 | apply qc0 | refine qf0 ?_ GE151.out | refine qf0 ?_ GE153.out) | exact HB.out))⟩; clear BK151 BK153 HB hq_; have BK151 := n0_; have BK153 := n1_; have HB := n2_; clear n0_ n1_ n2_)); (try (have hczR11_0 : wr.cell? ⟨gb151, 0, none⟩ = some (.int .i64 0) := (qe0 BK151.out 0).trans rfl; have hfzR11_0 := qd0 BK151.out 0)); (try (have hczR11_1 : wr.cell? ⟨gb151, 1, none⟩ = some (.int .i64 0) := (qe0 BK151.out 1).trans rfl; have hfzR11_1 := qd0 BK151.out 1)); (try (have hczR11_2 : wr.cell? ⟨gb151, 2, none⟩ = some (.int .i64 0) := (qe0 BK151.out 2).trans rfl; have hfzR11_2 := qd0 BK151.out 2)); (try (have hczR12_0 : wr.cell? ⟨gb153, 0, none⟩ = some (.int .i64 x154000_3) := (qe0 BK153.out 0).trans rfl; have hfzR12_0 := qd0 BK153.out 0)); (try (have hczR12_1 : wr.cell? ⟨gb153, 1, none⟩ = some (.int .i64 x154001_2) := (qe0 BK153.out 1).trans rfl; have hfzR12_1 := qd0 BK153.out 1)); (try (have hczR12_2 : wr.cell? ⟨gb153, 2, none⟩ = some (.int .i64 1) := (qe0 BK153.out 2).trans rfl; have hfzR12_2 := qd0 BK153.out 2)); have hcz28_0 : wr.cell? ⟨gb151, 0, none⟩ = some (.int .i64 0) := (qe0 BK151.out 0).trans rfl; have hcz28_1 : wr.cell? ⟨gb151, 1, none⟩ = some (.int .i64 0) := (qe0 BK151.out 1).trans rfl; have hcz28_2 : wr.cell? ⟨gb151, 2, none⟩ = some (.int .i64 0) := (qe0 BK151.out 2).trans rfl; have hfz28_0 := qd0 BK151.out 0; have hfz28_1 := qd0 BK151.out 1; have hfz28_2 := qd0 BK151.out 2))
      (try unfold Exit.noGoto); (try dsimp only)
      refine bodyPost_ret (results_cell_row rfl _ _ gb151 28 #[.int .i64 x154000_3, .int .i64 x154001_2, .int .i64 (wrap64 (1 + x0_2))] (0, 0) _ rfl (by (with_reducible repeat (first | refine qg0 ?_ _ | refine qj0 ?_ | refine qh0 ?_ _)); refine qx0 (cs := #[.int .i64 x154000_3, .int .i64 x154001_2, .int .i64 0]) ?_ 2 _ rfl; (with_reducible repeat (first | refine qg0 ?_ _ | refine qj0 ?_ | refine qh0 ?_ _)); refine qx0 (cs := #[.int .i64 x154000_3, .int .i64 0, .int .i64 0]) ?_ 1 _ rfl; (with_reducible repeat (first | refine qg0 ?_ _ | refine qj0 ?_ | refine qh0 ?_ _)); refine qx0 (cs := #[.int .i64 0, .int .i64 0, .int .i64 0]) ?_ 0 _ rfl; (with_reducible repeat (first | refine qg0 ?_ _ | refine qj0 ?_ | refine qh0 ?_ _)); refine blk_far ?_ NB151_153.out _; (with_reducible repeat (first | refine qg0 ?_ _ | refine qj0 ?_ | refine qh0 ?_ _)); exact BK151.out) Tryd.underlying28 rfl (by kernel_rfl)) rfl ?_
      exact ⟨by first | rfl | (simp [errW_none, errW_some] <;> rfl) | (simp [*, errW_none, errW_some] <;> rfl), by repeat (first | (with_reducible first | exact HB.out | apply qb0 | apply qa0 | apply qc0 | refine qf0 ?_ GE151.out | refine qf0 ?_ GE153.out) | exact HB.out)⟩
 replace c3 := Bool.eq_false_iff.mpr c3
 subst c3
 have H1 : (some (0, 0, 0)) = some (r1, r2, r3) := by rw [if_neg (show ¬ (false = true) by decide)] at H; exact H
 clear H
 have H := H1
 clear H1
 simp only [Option.some.injEq, Prod.mk.injEq] at H
 obtain ⟨rfl, rfl, rfl⟩ := H
 go_enter Tryd.func10, Tryd.ntmps10
 go_wp2_with (first | ((with_reducible refine qv0 (N := 2) rfl ?_); refine qy0 ?hg (N := 2) ?hd (cs := #[.int .i64 0, .int .i64 0, .int .i64 0]) (t := 28) ?hr ?_; (case hd => rfl); (case hg => rfl); (case hr => first | (go_simp; done) | (go_simp; rfl)); intro gb151 hg w29 hbox hb; have n0_ := Aside0.mk (qk0 (by repeat (first | (with_reducible first | exact HB.out | apply qb0 | apply qa0 | apply qc0) | exact HB.out)) hb); have n1_ := Aside0.mk (hbox); have n2_ := Aside0.mk ((by rw [hg]; exact (ql0 (by repeat (first | (with_reducible first | exact HB.out | apply qb0 | apply qa0 | apply qc0) | exact HB.out))) : w.heap.size ≤ gb151)); have n3_ := Aside0.mk ((by rw [hg]; exact (ql0 (by repeat (first | (with_reducible first | exact HB.out | apply qb0 | apply qa0 | apply qc0) | exact HB.out))) : w.heap.size ≤ gb151)); clear HB; have HB := n0_; have BK151 := n1_; have GW151 := n2_; have GE151 := n3_; clear n0_ n1_ n2_ n3_; clear hb hbox hg) | ((with_reducible refine qi0 (f := 34) rfl ?_); refine qq0 (some 6) rfl rfl Tryd.func34 (by kernel_rfl) rfl #[.int .i64 a0] rfl (by (try simp only [List.map_toArray, List.map_cons, List.map_nil]); first | done | rfl | (simp only [List.length_drop, List.length_take]; rfl)) ?_; (with_reducible refine (impl_isDay.calls a0 false _ A2.out).mono ?_); rintro e w' ⟨rfl, ⟨nd, rfl⟩⟩; refine ⟨_, rfl, ?_⟩; (try (rw [drewN_self w29]; generalize hq_ : World.drewN w29 _ = w29; have n0_ : Aside0 (w29.heap[gb151]? = some (.cells #[.int .i64 0, .int .i64 0, .int .i64 0] 28 (0, 0))) := ⟨by rw [← hq_]; exact (by (with_reducible repeat (first | refine qg0 ?_ _ | refine qj0 ?_ | refine qh0 ?_ _)); exact BK151.out)⟩; have n1_ : Aside0 (Below w.heap.size w w29) := ⟨by rw [← hq_]; exact (by repeat (first | (with_reducible first | exact HB.out | apply qb0 | apply qa0 | apply qc0 | refine qf0 ?_ GE151.out) | exact HB.out))⟩; clear BK151 HB hq_; have BK151 := n0_; have HB := n1_; clear n0_ n1_)); (try (have hczR13_0 : w29.cell? ⟨gb151, 0, none⟩ = some (.int .i64 0) := (qe0 BK151.out 0).trans rfl; have hfzR13_0 := qd0 BK151.out 0)); (try (have hczR13_1 : w29.cell? ⟨gb151, 1, none⟩ = some (.int .i64 0) := (qe0 BK151.out 1).trans rfl; have hfzR13_1 := qd0 BK151.out 1)); (try (have hczR13_2 : w29.cell? ⟨gb151, 2, none⟩ = some (.int .i64 0) := (qe0 BK151.out 2).trans rfl; have hfzR13_2 := qd0 BK151.out 2)); have hcz30_0 : w29.cell? ⟨gb151, 0, none⟩ = some (.int .i64 0) := (qe0 BK151.out 0).trans rfl; have hcz30_1 : w29.cell? ⟨gb151, 1, none⟩ = some (.int .i64 0) := (qe0 BK151.out 1).trans rfl; have hcz30_2 : w29.cell? ⟨gb151, 2, none⟩ = some (.int .i64 0) := (qe0 BK151.out 2).trans rfl; have hfz30_0 := qd0 BK151.out 0; have hfz30_1 := qd0 BK151.out 1; have hfz30_2 := qd0 BK151.out 2))
 apply wp_scope_straight
 go_wp2_with (first | ((with_reducible refine qv0 (N := 2) rfl ?_); refine qy0 ?hg (N := 2) ?hd (cs := #[.int .i64 0, .int .i64 0, .int .i64 0]) (t := 28) ?hr ?_; (case hd => rfl); (case hg => rfl); (case hr => first | (go_simp; done) | (go_simp; rfl)); intro gb151 hg w29 hbox hb; have n0_ := Aside0.mk (qk0 (by repeat (first | (with_reducible first | exact HB.out | apply qb0 | apply qa0 | apply qc0) | exact HB.out)) hb); have n1_ := Aside0.mk (hbox); have n2_ := Aside0.mk ((by rw [hg]; exact (ql0 (by repeat (first | (with_reducible first | exact HB.out | apply qb0 | apply qa0 | apply qc0) | exact HB.out))) : w.heap.size ≤ gb151)); have n3_ := Aside0.mk ((by rw [hg]; exact (ql0 (by repeat (first | (with_reducible first | exact HB.out | apply qb0 | apply qa0 | apply qc0) | exact HB.out))) : w.heap.size ≤ gb151)); clear HB; have HB := n0_; have BK151 := n1_; have GW151 := n2_; have GE151 := n3_; clear n0_ n1_ n2_ n3_; clear hb hbox hg) | ((with_reducible refine qi0 (f := 34) rfl ?_); refine qq0 (some 6) rfl rfl Tryd.func34 (by kernel_rfl) rfl #[.int .i64 a0] rfl (by (try simp only [List.map_toArray, List.map_cons, List.map_nil]); first | done | rfl | (simp only [List.length_drop, List.length_take]; rfl)) ?_; (with_reducible refine (impl_isDay.calls a0 false _ A2.out).mono ?_); rintro e w' ⟨rfl, ⟨nd, rfl⟩⟩; refine ⟨_, rfl, ?_⟩; (try (rw [drewN_self w29]; generalize hq_ : World.drewN w29 _ = w29; have n0_ : Aside0 (w29.heap[gb151]? = some (.cells #[.int .i64 0, .int .i64 0, .int .i64 0] 28 (0, 0))) := ⟨by rw [← hq_]; exact (by (with_reducible repeat (first | refine qg0 ?_ _ | refine qj0 ?_ | refine qh0 ?_ _)); exact BK151.out)⟩; have n1_ : Aside0 (Below w.heap.size w w29) := ⟨by rw [← hq_]; exact (by repeat (first | (with_reducible first | exact HB.out | apply qb0 | apply qa0 | apply qc0 | refine qf0 ?_ GE151.out) | exact HB.out))⟩; clear BK151 HB hq_; have BK151 := n0_; have HB := n1_; clear n0_ n1_)); (try (have hczR14_0 : w29.cell? ⟨gb151, 0, none⟩ = some (.int .i64 0) := (qe0 BK151.out 0).trans rfl; have hfzR14_0 := qd0 BK151.out 0)); (try (have hczR14_1 : w29.cell? ⟨gb151, 1, none⟩ = some (.int .i64 0) := (qe0 BK151.out 1).trans rfl; have hfzR14_1 := qd0 BK151.out 1)); (try (have hczR14_2 : w29.cell? ⟨gb151, 2, none⟩ = some (.int .i64 0) := (qe0 BK151.out 2).trans rfl; have hfzR14_2 := qd0 BK151.out 2)); have hcz30_0 : w29.cell? ⟨gb151, 0, none⟩ = some (.int .i64 0) := (qe0 BK151.out 0).trans rfl; have hcz30_1 : w29.cell? ⟨gb151, 1, none⟩ = some (.int .i64 0) := (qe0 BK151.out 1).trans rfl; have hcz30_2 : w29.cell? ⟨gb151, 2, none⟩ = some (.int .i64 0) := (qe0 BK151.out 2).trans rfl; have hfz30_0 := qd0 BK151.out 0; have hfz30_1 := qd0 BK151.out 1; have hfz30_2 := qd0 BK151.out 2))
 (try unfold Exit.noGoto); (try dsimp only)
 refine bodyPost_ret (results_cell_row rfl _ _ gb151 28 #[.int .i64 0, .int .i64 0, .int .i64 0] (0, 0) _ rfl (by (with_reducible repeat (first | refine qg0 ?_ _ | refine qj0 ?_ | refine qh0 ?_ _)); refine qx0 (cs := #[.int .i64 0, .int .i64 0, .int .i64 0]) ?_ 2 _ rfl; (with_reducible repeat (first | refine qg0 ?_ _ | refine qj0 ?_ | refine qh0 ?_ _)); refine qx0 (cs := #[.int .i64 0, .int .i64 0, .int .i64 0]) ?_ 1 _ rfl; (with_reducible repeat (first | refine qg0 ?_ _ | refine qj0 ?_ | refine qh0 ?_ _)); refine qx0 (cs := #[.int .i64 0, .int .i64 0, .int .i64 0]) ?_ 0 _ rfl; (with_reducible repeat (first | refine qg0 ?_ _ | refine qj0 ?_ | refine qh0 ?_ _)); exact BK151.out) Tryd.underlying28 rfl (by kernel_rfl)) rfl ?_
 exact ⟨by first | rfl | (simp [errW_none, errW_some] <;> rfl) | (simp [*, errW_none, errW_some] <;> rfl), by repeat (first | (with_reducible first | exact HB.out | apply qb0 | apply qa0 | apply qc0 | refine qf0 ?_ GE151.out) | exact HB.out)⟩

end Go.Proofs.YtdnenglafphkbaaDoor.PFnPeriodsWhole
