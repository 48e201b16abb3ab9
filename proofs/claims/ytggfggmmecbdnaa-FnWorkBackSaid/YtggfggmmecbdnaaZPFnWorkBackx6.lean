/- Lines by a program (a changed copy of the kit's print: this repo's wip/tools): Go functions as Lean functions, and proofs that the calls answer so. -/
import Derived.Test.YtggfggmmecbdnaaZPFnWorkBackx0
import Derived.Test.YtggfggmmecbdnaaZPFnWorkBackx5
namespace Go.Proofs.Ytggfggmmecbdnaa.PFnWorkBack
open Go.RowKit Go.Proofs.YtggfggmmecbdnaaW.PrintWords Go.Proofs.YtggfggmmecbdnaaW.PrintLast Go.Proofs.YtggfggmmecbdnaaW.PrintMore
/-- Closing blocks told once. -/
theorem z6_0 {P : Prop} (h : P := by repeat (first | (with_reducible first | exact HB.out | apply qh0 | apply qe0 | apply qi0 | refine qo0 ?_ GE241.out) | exact HB.out)) : P := h
theorem z6_1 {P : Prop} (h : P := by (with_reducible repeat (first | refine qj0 ?_ _ | refine qk0 ?_ | refine qg0 ?_ _)); exact BK241.out) : P := h
theorem z6_2 {P : Prop} (h : P := by (try simp only [List.map_toArray, List.map_cons, List.map_nil]); first | done | rfl | (simp only [List.length_drop, List.length_take]; rfl)) : P := h
theorem z6_3 {P : Prop} (h : P := by first | rfl | (simp; done) | (simp [*]; done)) : P := h
theorem z6_4 {P : Prop} (h : P := by repeat (first | exact (Kd.qd1 HR0_1.out (by repeat (first | (with_reducible first | exact HB.out | apply qh0 | apply qe0 | apply qi0 | refine qo0 ?_ GE241.out) | exact HB.out))) | (with_reducible refine Kd.C_alloc ?_ _) | (with_reducible refine Kd.C_drewN ?_ _) | (with_reducible refine Kd.C_drew ?_))) : P := h
theorem z6_5 {P : Prop} (h : P := by repeat (first | exact (Kd.qd1 HR0_1.out HB.out) | (with_reducible refine Kd.C_alloc ?_ _) | (with_reducible refine Kd.C_drewN ?_ _) | (with_reducible refine Kd.C_drew ?_))) : P := h
theorem z6_6 {P : Prop} (h : P := by repeat (first | (with_reducible first | exact HB.out | apply qh0 | apply qe0 | apply qi0) | exact HB.out)) : P := h
theorem z6_7 {P : Prop} (h : P := by rw [hg]; exact (below_size (by repeat (first | (with_reducible first | exact HB.out | apply qh0 | apply qe0 | apply qi0) | exact HB.out)))) : P := h
theorem z6_8 {P : Prop} (h : P := by first | rfl | (simp [errW_none, errW_some] <;> rfl) | (simp [*, errW_none, errW_some] <;> rfl)) : P := h
attribute [local go_sem] max2_int min2_int max_two min_two max_three min_three max_four min_four   -- for this text's walks alone
set_option linter.unusedVariables false
set_option linter.unusedSimpArgs false

/-! ### spec_AddWork: function 9 -/
mutual
def spec_AddWork.j0 : Nat → Int → Int → Bool → Int → List Int → Option (Int)
 | 0, _, _, _, _, _ => none
 | k + 1, x1, x2, x20, x242000, x242001 => if x20 = true then (some (-1)) else (if x2 < 0 then (spec_AddWork.j1 k x1 (wrap64 (-x2)) (-1) x242000 x242001) else (spec_AddWork.j1 k x1 x2 1 x242000 x242001))
def spec_AddWork.j1 : Nat → Int → Int → Int → Int → List Int → Option (Int)
 | 0, _, _, _, _, _ => none
 | k + 1, x1, x2, x7, x242000, x242001 => if x2 = 0 then (spec_AddWork.j2 k (wrap64 (x1 - 1)) 1 x7 x242000 x242001) else (spec_AddWork.j2 k x1 x2 x7 x242000 x242001)
def spec_AddWork.j2 : Nat → Int → Int → Int → Int → List Int → Option (Int)
 | 0, _, _, _, _, _ => none
 | k + 1, x1, x2, x7, x242000, x242001 => spec_AddWork.l0 k x1 x2 x7 x242000 x242001
def spec_AddWork.l0 : Nat → Int → Int → Int → Int → List Int → Option (Int)
 | 0, _, _, _, _, _ => none
 | k + 1, x1, x2, x7, x242000, x242001 => if x2 > 0 then ((spec_l2Day.f (wrap64 (x1 + x7))).bind fun t245 => (if t245 = true then ((spec_l2Work.f k x242000 x242001 (wrap64 (x1 + x7))).bind fun t246 => (if t246 = true then (spec_AddWork.l0 k (wrap64 (x1 + x7)) (wrap64 (x2 - 1)) x7 x242000 x242001) else (spec_AddWork.l0 k (wrap64 (x1 + x7)) x2 x7 x242000 x242001))) else (some (-1)))) else (some x1)
end
def spec_AddWork.f (k : Nat) (a0_0 : Int) (l0_1 : List Int) (a1 : Int) (a2 : Int) : Option (Int) := (spec_CalOk.f k a0_0 l0_1).bind fun t242 => (if t242 = true then ((spec_l2Day.f a1).bind fun t243 => (if t243 = true then ((spec_l1In.f a2 (-2000) 2000).bind fun t244 => (spec_AddWork.j0 k a1 a2 (!t244) a0_0 l0_1)) else (spec_AddWork.j0 k a1 a2 true a0_0 l0_1))) else (spec_AddWork.j0 k a1 a2 true a0_0 l0_1))
theorem spec_AddWork.mono_l : ∀ k, (∀ y0 y1 y2 y3 y4, LeO (spec_AddWork.j0 k y0 y1 y2 y3 y4) (spec_AddWork.j0 (k + 1) y0 y1 y2 y3 y4)) ∧ (∀ y0 y1 y2 y3 y4, LeO (spec_AddWork.j1 k y0 y1 y2 y3 y4) (spec_AddWork.j1 (k + 1) y0 y1 y2 y3 y4)) ∧ (∀ y0 y1 y2 y3 y4, LeO (spec_AddWork.j2 k y0 y1 y2 y3 y4) (spec_AddWork.j2 (k + 1) y0 y1 y2 y3 y4)) ∧ (∀ y0 y1 y2 y3 y4, LeO (spec_AddWork.l0 k y0 y1 y2 y3 y4) (spec_AddWork.l0 (k + 1) y0 y1 y2 y3 y4))
 | 0 => ⟨fun _ _ _ _ _ r h => by simp [spec_AddWork.j0] at h, fun _ _ _ _ _ r h => by simp [spec_AddWork.j1] at h, fun _ _ _ _ _ r h => by simp [spec_AddWork.j2] at h, fun _ _ _ _ _ r h => by simp [spec_AddWork.l0] at h⟩
 | k + 1 => by
  obtain ⟨ih0, ih1, ih2, ih3⟩ := spec_AddWork.mono_l k
  refine ⟨?_, ?_, ?_, ?_⟩
  ·intro y0 y1 y2 y3 y4
   unfold spec_AddWork.j0
   repeat' first
   | (with_reducible exact ih0 _ _ _ _ _)
   | (with_reducible exact ih1 _ _ _ _ _)
   | (with_reducible exact ih2 _ _ _ _ _)
   | (with_reducible exact ih3 _ _ _ _ _)
   | (with_reducible exact spec_CalOk.mono _ _ _)
   | (with_reducible exact spec_l2Work.mono _ _ _ _)
   | (with_reducible exact LeO.refl _)
   | (with_reducible exact LeO.none _)
   | (with_reducible refine LeO.ite ?_ ?_)
   | (with_reducible refine LeO.bind ?_ (fun _ => ?_))
   | exact ih0 _ _ _ _ _
   | exact ih1 _ _ _ _ _
   | exact ih2 _ _ _ _ _
   | exact ih3 _ _ _ _ _
   | exact spec_CalOk.mono _ _ _
   | exact spec_l2Work.mono _ _ _ _
   | exact LeO.none _
   | refine LeO.ite ?_ ?_
   | refine LeO.bind ?_ (fun _ => ?_)
  ·intro y0 y1 y2 y3 y4
   unfold spec_AddWork.j1
   repeat' first
   | (with_reducible exact ih0 _ _ _ _ _)
   | (with_reducible exact ih1 _ _ _ _ _)
   | (with_reducible exact ih2 _ _ _ _ _)
   | (with_reducible exact ih3 _ _ _ _ _)
   | (with_reducible exact spec_CalOk.mono _ _ _)
   | (with_reducible exact spec_l2Work.mono _ _ _ _)
   | (with_reducible exact LeO.refl _)
   | (with_reducible exact LeO.none _)
   | (with_reducible refine LeO.ite ?_ ?_)
   | (with_reducible refine LeO.bind ?_ (fun _ => ?_))
   | exact ih0 _ _ _ _ _
   | exact ih1 _ _ _ _ _
   | exact ih2 _ _ _ _ _
   | exact ih3 _ _ _ _ _
   | exact spec_CalOk.mono _ _ _
   | exact spec_l2Work.mono _ _ _ _
   | exact LeO.none _
   | refine LeO.ite ?_ ?_
   | refine LeO.bind ?_ (fun _ => ?_)
  ·intro y0 y1 y2 y3 y4
   unfold spec_AddWork.j2
   repeat' first
   | (with_reducible exact ih0 _ _ _ _ _)
   | (with_reducible exact ih1 _ _ _ _ _)
   | (with_reducible exact ih2 _ _ _ _ _)
   | (with_reducible exact ih3 _ _ _ _ _)
   | (with_reducible exact spec_CalOk.mono _ _ _)
   | (with_reducible exact spec_l2Work.mono _ _ _ _)
   | (with_reducible exact LeO.refl _)
   | (with_reducible exact LeO.none _)
   | (with_reducible refine LeO.ite ?_ ?_)
   | (with_reducible refine LeO.bind ?_ (fun _ => ?_))
   | exact ih0 _ _ _ _ _
   | exact ih1 _ _ _ _ _
   | exact ih2 _ _ _ _ _
   | exact ih3 _ _ _ _ _
   | exact spec_CalOk.mono _ _ _
   | exact spec_l2Work.mono _ _ _ _
   | exact LeO.none _
   | refine LeO.ite ?_ ?_
   | refine LeO.bind ?_ (fun _ => ?_)
  ·intro y0 y1 y2 y3 y4
   unfold spec_AddWork.l0
   repeat' first
   | (with_reducible exact ih0 _ _ _ _ _)
   | (with_reducible exact ih1 _ _ _ _ _)
   | (with_reducible exact ih2 _ _ _ _ _)
   | (with_reducible exact ih3 _ _ _ _ _)
   | (with_reducible exact spec_CalOk.mono _ _ _)
   | (with_reducible exact spec_l2Work.mono _ _ _ _)
   | (with_reducible exact LeO.refl _)
   | (with_reducible exact LeO.none _)
   | (with_reducible refine LeO.ite ?_ ?_)
   | (with_reducible refine LeO.bind ?_ (fun _ => ?_))
   | exact ih0 _ _ _ _ _
   | exact ih1 _ _ _ _ _
   | exact ih2 _ _ _ _ _
   | exact ih3 _ _ _ _ _
   | exact spec_CalOk.mono _ _ _
   | exact spec_l2Work.mono _ _ _ _
   | exact LeO.none _
   | refine LeO.ite ?_ ?_
   | refine LeO.bind ?_ (fun _ => ?_)
theorem spec_AddWork.mono : ∀ a0 a1 a2 a3 k, LeO (spec_AddWork.f k a0 a1 a2 a3) (spec_AddWork.f (k + 1) a0 a1 a2 a3) := by
 intro a0 a1 a2 a3 k
 obtain ⟨ih0, ih1, ih2, ih3⟩ := spec_AddWork.mono_l k
 unfold spec_AddWork.f
 repeat' first
   | (with_reducible exact ih0 _ _ _ _ _)
   | (with_reducible exact ih1 _ _ _ _ _)
   | (with_reducible exact ih2 _ _ _ _ _)
   | (with_reducible exact ih3 _ _ _ _ _)
   | (with_reducible exact spec_CalOk.mono _ _ _)
   | (with_reducible exact spec_l2Work.mono _ _ _ _)
   | (with_reducible exact LeO.refl _)
   | (with_reducible exact LeO.none _)
   | (with_reducible refine LeO.ite ?_ ?_)
   | (with_reducible refine LeO.bind ?_ (fun _ => ?_))
   | exact ih0 _ _ _ _ _
   | exact ih1 _ _ _ _ _
   | exact ih2 _ _ _ _ _
   | exact ih3 _ _ _ _ _
   | exact spec_CalOk.mono _ _ _
   | exact spec_l2Work.mono _ _ _ _
   | exact LeO.none _
   | refine LeO.ite ?_ ?_
   | refine LeO.bind ?_ (fun _ => ?_)
set_option maxHeartbeats 8000000 in
set_option maxRecDepth 100000 in
theorem spec_AddWork.calls (k : Nat) (a0_0 : Int) (A0_1 : Option Addr) (c0_1 : Nat) (l0_1 : List Int) (a1 : Int) (a2 : Int) (r : Int) (w : World) (hr0_1 : Kd.C (Kd.int .i64) w A0_1 l0_1.length l0_1) (hc0_1 : l0_1.length ≤ c0_1) (h : spec_AddWork.f k a0_0 l0_1 a1 a2 = some r) :
  Calls Try.prog 9 #[.agg #[.int .i64 a0_0, .slice A0_1 l0_1.length c0_1], .int .i64 a1, .int .i64 a2] w fun e w' => e = .returned (.int .i64 r) ∧ Below w.heap.size w w' := by
 have hu26 := Try.underlying26
 have HR0_1 := Aside0.mk hr0_1
 have HC0_1 := Aside0.mk hc0_1
 clear hr0_1 hc0_1
 have HB := Aside0.mk (Below.refl w.heap.size w)
 have H : ((spec_CalOk.f k a0_0 l0_1).bind fun t242 => (if t242 = true then ((spec_l2Day.f a1).bind fun t243 => (if t243 = true then ((spec_l1In.f a2 (-2000) 2000).bind fun t244 => (spec_AddWork.j0 k a1 a2 (!t244) a0_0 l0_1)) else (spec_AddWork.j0 k a1 a2 true a0_0 l0_1))) else (spec_AddWork.j0 k a1 a2 true a0_0 l0_1))) = some r := h
 clear h
 have HC4 := Aside0.mk H
 clear H
 go_enter Try.func9, Try.ntmps9
 go_upto_region 1 with (first | ((with_reducible refine qs0 (N := 3) rfl ?_); refine qr0 ?hg (N := 3) ?hd (cs := #[.int .i64 a0_0, .slice A0_1 l0_1.length c0_1]) (t := 26) ?hr ?_; (case hd => rfl); (case hg => rfl); (case hr => first | (go_simp; done) | (go_simp; rfl)); intro gb241 hg w5 hbox hb; have n0_ := Aside0.mk (qf0 z6_6 hb); have n1_ := Aside0.mk (hbox); have n2_ := Aside0.mk ((z6_7 : w.heap.size ≤ gb241)); have n3_ := Aside0.mk ((z6_7 : w.heap.size ≤ gb241)); clear HB; have HB := n0_; have BK241 := n1_; have GW241 := n2_; have GE241 := n3_; clear n0_ n1_ n2_ n3_; clear hb hbox hg))
 (try simp only [Act.put, List.setIfInBounds_toArray, List.set_cons_zero, List.set_cons_succ])
 go_cut [20] (fun v20 wc => ∃ (kq : Nat) (x20_3 : Bool), v20 = .bool x20_3 ∧ Aside0 (spec_AddWork.j0 kq a1 a2 x20_3 a0_0 l0_1 = some r) ∧ Aside0 (kq ≤ k) ∧ Aside0 (wc.heap[gb241]? = some (.cells #[.int .i64 a0_0, (.slice A0_1 l0_1.length c0_1)] 26 (0, 0))) ∧ Aside0 (Below w.heap.size w wc))
 case first =>
  have H := HC4.out
  clear HC4
  replace H := Option.bind_eq_some_iff.mp H
  obtain ⟨t242, A60, H⟩ := H
  replace H : (if t242 = true then ((spec_l2Day.f a1).bind fun t243 => (if t243 = true then ((spec_l1In.f a2 (-2000) 2000).bind fun t244 => (spec_AddWork.j0 k a1 a2 (!t244) a0_0 l0_1)) else (spec_AddWork.j0 k a1 a2 true a0_0 l0_1))) else (spec_AddWork.j0 k a1 a2 true a0_0 l0_1)) = some r := H
  have A6 := Aside0.mk A60
  clear A60
  by_cases c7 : t242 = true
  ·subst c7
   have H1 : ((spec_l2Day.f a1).bind fun t243 => (if t243 = true then ((spec_l1In.f a2 (-2000) 2000).bind fun t244 => (spec_AddWork.j0 k a1 a2 (!t244) a0_0 l0_1)) else (spec_AddWork.j0 k a1 a2 true a0_0 l0_1))) = some r := by rw [if_pos rfl] at H; exact H
   clear H
   have H := H1
   clear H1
   replace H := Option.bind_eq_some_iff.mp H
   obtain ⟨t243, A80, H⟩ := H
   replace H : (if t243 = true then ((spec_l1In.f a2 (-2000) 2000).bind fun t244 => (spec_AddWork.j0 k a1 a2 (!t244) a0_0 l0_1)) else (spec_AddWork.j0 k a1 a2 true a0_0 l0_1)) = some r := H
   have A8 := Aside0.mk A80
   clear A80
   by_cases c9 : t243 = true
   ·subst c9
    have H1 : ((spec_l1In.f a2 (-2000) 2000).bind fun t244 => (spec_AddWork.j0 k a1 a2 (!t244) a0_0 l0_1)) = some r := by rw [if_pos rfl] at H; exact H
    clear H
    have H := H1
    clear H1
    replace H := Option.bind_eq_some_iff.mp H
    obtain ⟨t244, A100, H⟩ := H
    replace H : (spec_AddWork.j0 k a1 a2 (!t244) a0_0 l0_1) = some r := H
    have A10 := Aside0.mk A100
    clear A100
    have H' := Aside0.mk H
    clear H
    have hcz11_0 : w5.cell? ⟨gb241, 0, none⟩ = some (.int .i64 a0_0) := (qb0 BK241.out 0).trans rfl
    have hcz11_1 : w5.cell? ⟨gb241, 1, none⟩ = some (.slice A0_1 l0_1.length c0_1) := (qb0 BK241.out 1).trans rfl
    have hfz11_0 := qa0 BK241.out 0
    have hfz11_1 := qa0 BK241.out 1
    go_wp2_with (first | ((with_reducible refine qc0 (f := 29) rfl ?_); refine qm0 (some 9) rfl rfl Try.func29 (by kernel_rfl) rfl #[.agg #[.int .i64 a0_0, .slice A0_1 l0_1.length c0_1]] rfl z6_2 ?_; (with_reducible refine (spec_CalOk.calls k a0_0 _ _ l0_1 true _ ?side1 ?side2 A6.out).mono ?_); (case side1 => exact z6_5); (case side2 => exact HC0_1.out); rintro e w12 ⟨rfl, hb⟩; refine ⟨_, rfl, ?_⟩; have n0_ := Aside0.mk (ql0 (g := gb241) (o := .cells #[.int .i64 a0_0, .slice A0_1 l0_1.length c0_1] 26 (0, 0)) z6_1 hb); have n1_ := Aside0.mk (qf0 z6_0 hb); clear BK241; clear HB; have BK241 := n0_; have HB := n1_; clear n0_ n1_; (try clear hb); (try clear hb2); (try clear hk); (try clear hi)) | (go_at_call 30; (with_reducible refine (spec_l2Day.calls a1 true _ A8.out).mono ?_); rintro e w' ⟨rfl, ⟨nd, rfl⟩⟩) | (go_at_call 31; (with_reducible refine (spec_l1In.calls a2 (-2000) 2000 t244 _ A10.out).mono ?_); rintro e w' ⟨rfl, ⟨nd, rfl⟩⟩))
    go_meet
    case rel => exact ⟨_, (!t244), z6_3, H', ⟨by first | omega | exact Nat.le_refl _⟩, ⟨z6_1⟩, ⟨z6_0⟩⟩
   replace c9 := Bool.eq_false_iff.mpr c9
   subst c9
   have H1 : (spec_AddWork.j0 k a1 a2 true a0_0 l0_1) = some r := by rw [if_neg (show ¬ (false = true) by decide)] at H; exact H
   clear H
   have H := H1
   clear H1
   have H' := Aside0.mk H
   clear H
   have hcz13_0 : w5.cell? ⟨gb241, 0, none⟩ = some (.int .i64 a0_0) := (qb0 BK241.out 0).trans rfl
   have hcz13_1 : w5.cell? ⟨gb241, 1, none⟩ = some (.slice A0_1 l0_1.length c0_1) := (qb0 BK241.out 1).trans rfl
   have hfz13_0 := qa0 BK241.out 0
   have hfz13_1 := qa0 BK241.out 1
   go_wp2_with (first | ((with_reducible refine qc0 (f := 29) rfl ?_); refine qm0 (some 9) rfl rfl Try.func29 (by kernel_rfl) rfl #[.agg #[.int .i64 a0_0, .slice A0_1 l0_1.length c0_1]] rfl z6_2 ?_; (with_reducible refine (spec_CalOk.calls k a0_0 _ _ l0_1 true _ ?side1 ?side2 A6.out).mono ?_); (case side1 => exact z6_5); (case side2 => exact HC0_1.out); rintro e w14 ⟨rfl, hb⟩; refine ⟨_, rfl, ?_⟩; have n0_ := Aside0.mk (ql0 (g := gb241) (o := .cells #[.int .i64 a0_0, .slice A0_1 l0_1.length c0_1] 26 (0, 0)) z6_1 hb); have n1_ := Aside0.mk (qf0 z6_0 hb); clear BK241; clear HB; have BK241 := n0_; have HB := n1_; clear n0_ n1_; (try clear hb); (try clear hb2); (try clear hk); (try clear hi)) | (go_at_call 30; (with_reducible refine (spec_l2Day.calls a1 false _ A8.out).mono ?_); rintro e w' ⟨rfl, ⟨nd, rfl⟩⟩))
   go_meet
   case rel => exact ⟨_, (true), z6_3, H', ⟨by first | omega | exact Nat.le_refl _⟩, ⟨z6_1⟩, ⟨z6_0⟩⟩
  replace c7 := Bool.eq_false_iff.mpr c7
  subst c7
  have H1 : (spec_AddWork.j0 k a1 a2 true a0_0 l0_1) = some r := by rw [if_neg (show ¬ (false = true) by decide)] at H; exact H
  clear H
  have H := H1
  clear H1
  have H' := Aside0.mk H
  clear H
  have hcz15_0 : w5.cell? ⟨gb241, 0, none⟩ = some (.int .i64 a0_0) := (qb0 BK241.out 0).trans rfl
  have hcz15_1 : w5.cell? ⟨gb241, 1, none⟩ = some (.slice A0_1 l0_1.length c0_1) := (qb0 BK241.out 1).trans rfl
  have hfz15_0 := qa0 BK241.out 0
  have hfz15_1 := qa0 BK241.out 1
  go_wp2_with (first | ((with_reducible refine qc0 (f := 29) rfl ?_); refine qm0 (some 9) rfl rfl Try.func29 (by kernel_rfl) rfl #[.agg #[.int .i64 a0_0, .slice A0_1 l0_1.length c0_1]] rfl z6_2 ?_; (with_reducible refine (spec_CalOk.calls k a0_0 _ _ l0_1 false _ ?side1 ?side2 A6.out).mono ?_); (case side1 => exact z6_5); (case side2 => exact HC0_1.out); rintro e w16 ⟨rfl, hb⟩; refine ⟨_, rfl, ?_⟩; have n0_ := Aside0.mk (ql0 (g := gb241) (o := .cells #[.int .i64 a0_0, .slice A0_1 l0_1.length c0_1] 26 (0, 0)) z6_1 hb); have n1_ := Aside0.mk (qf0 z6_0 hb); clear BK241; clear HB; have BK241 := n0_; have HB := n1_; clear n0_ n1_; (try clear hb); (try clear hb2); (try clear hk); (try clear hi)))
  go_meet
  case rel => exact ⟨_, (true), z6_3, H', ⟨by first | omega | exact Nat.le_refl _⟩, ⟨z6_1⟩, ⟨z6_0⟩⟩
 case rest =>
  clear HC4
  try clear c2
  try clear p2
  try clear c7
  try clear c9
  try clear hcz11_0
  try clear hcz11_1
  try clear hcz13_0
  try clear hcz13_1
  try clear hcz15_0
  try clear hcz15_1
  try clear hfz11_0
  try clear hfz11_1
  try clear hfz13_0
  try clear hfz13_1
  try clear hfz15_0
  try clear hfz15_1
  obtain ⟨kq, x20_3, rfl, HA, HJ3, BK241, HB⟩ := hcut
  cases kq with
  | zero => exact absurd HA.out (by simp [spec_AddWork.j0])
  | succ kj3 =>
   have H := HA.out
   clear HA
   simp only [spec_AddWork.j0] at H
   by_cases c17 : x20_3 = true
   ·subst c17
    have H1 : (some (-1)) = some r := by rw [if_pos rfl] at H; exact H
    clear H
    have H := H1
    clear H1
    obtain rfl := Option.some.inj H
    go_wp2
    go_ret
    exact ⟨z6_8, z6_0⟩
   replace c17 := Bool.eq_false_iff.mpr c17
   subst c17
   have H1 : (if a2 < 0 then (spec_AddWork.j1 kj3 a1 (wrap64 (-a2)) (-1) a0_0 l0_1) else (spec_AddWork.j1 kj3 a1 a2 1 a0_0 l0_1)) = some r := by rw [if_neg (show ¬ (false = true) by decide)] at H; exact H
   clear H
   have H := H1
   clear H1
   have HC18 := Aside0.mk H
   clear H
   go_upto_if 22 with (fail)
   go_cut [2, 7] (fun v2 v7 wc => ∃ (kq : Nat) (x2_17 : Int) (x7_17 : Int), v2 = .int .i64 x2_17 ∧ v7 = .int .i64 x7_17 ∧ Aside0 (spec_AddWork.j1 kq a1 x2_17 x7_17 a0_0 l0_1 = some r) ∧ Aside0 (kq ≤ kj3) ∧ Aside0 (wc.heap[gb241]? = some (.cells #[.int .i64 a0_0, (.slice A0_1 l0_1.length c0_1)] 26 (0, 0))) ∧ Aside0 (Below w.heap.size w wc))
   case first =>
    have H := HC18.out
    clear HC18
    by_cases c19 : a2 < 0
    ·rw [if_pos c19] at H
     have c19b0 : decide (a2 < 0) = true := decide_eq_true c19
     clear c19
     (first | rw [c19b0] | (simp only [i64_w, i32_w]; rw [c19b0]) | skip)
     have H' := Aside0.mk H
     clear H
     go_wp2
     go_meet
     case rel => exact ⟨_, (wrap64 (-a2)), ((-1)), z6_3, z6_3, H', ⟨by have := HJ3.out; first | omega | exact Nat.le_refl _⟩, ⟨z6_1⟩, ⟨z6_0⟩⟩
    rw [if_neg c19] at H
    have c19b0 : decide (a2 < 0) = false := decide_eq_false c19
    clear c19
    (first | rw [c19b0] | (simp only [i64_w, i32_w]; rw [c19b0]) | skip)
    have H' := Aside0.mk H
    clear H
    go_wp2
    go_meet
    case rel => exact ⟨_, (a2), (1), z6_3, z6_3, H', ⟨by have := HJ3.out; first | omega | exact Nat.le_refl _⟩, ⟨z6_1⟩, ⟨z6_0⟩⟩
   case rest =>
    clear HC18
    try clear c1
    try clear c2
    try clear p2
    try clear p6
    try clear c7
    try clear c9
    try clear c17
    try clear c19
    try clear c19b0
    try clear hcz11_0
    try clear hcz11_1
    try clear hcz13_0
    try clear hcz13_1
    try clear hcz15_0
    try clear hcz15_1
    try clear hfz11_0
    try clear hfz11_1
    try clear hfz13_0
    try clear hfz13_1
    try clear hfz15_0
    try clear hfz15_1
    try clear p2
    obtain ⟨kq, x2_17, x7_17, rfl, rfl, HA, HJ17, BK241, HB⟩ := hcut
    cases kq with
    | zero => exact absurd HA.out (by simp [spec_AddWork.j1])
    | succ kj17 =>
     have H := HA.out
     clear HA
     simp only [spec_AddWork.j1] at H
     have HC20 := Aside0.mk H
     clear H
     go_upto_if 26 with (fail)
     go_cut [1, 2] (fun v1 v2 wc => ∃ (kq : Nat) (x1_19 : Int) (x2_19 : Int), v1 = .int .i64 x1_19 ∧ v2 = .int .i64 x2_19 ∧ Aside0 (spec_AddWork.j2 kq x1_19 x2_19 x7_17 a0_0 l0_1 = some r) ∧ Aside0 (kq ≤ kj17) ∧ Aside0 (wc.heap[gb241]? = some (.cells #[.int .i64 a0_0, (.slice A0_1 l0_1.length c0_1)] 26 (0, 0))) ∧ Aside0 (Below w.heap.size w wc))
     case first =>
      have H := HC20.out
      clear HC20
      by_cases c21 : x2_17 = 0
      ·rw [if_pos c21] at H
       have c21b0 : (x2_17 == 0) = true := beq_iff_eq.mpr c21
       have c21b1 : (x2_17 != 0) = false := bne_eq_false_iff_eq.mpr c21
       clear c21
       (first | rw [c21b0] | (simp only [i64_w, i32_w]; rw [c21b0]) | skip)
       have H' := Aside0.mk H
       clear H
       go_wp2
       go_meet
       case rel => exact ⟨_, (wrap64 (a1 - 1)), (1), z6_3, z6_3, H', ⟨by have := HJ3.out; have := HJ17.out; first | omega | exact Nat.le_refl _⟩, ⟨z6_1⟩, ⟨z6_0⟩⟩
      rw [if_neg c21] at H
      have c21b0 : (x2_17 == 0) = false := beq_eq_false_iff_ne.mpr c21
      have c21b1 : (x2_17 != 0) = true := bne_iff_ne.mpr c21
      (first | rw [c21b0] | (simp only [i64_w, i32_w]; rw [c21b0]) | skip)
      have H' := Aside0.mk H
      clear H
      go_wp2
      go_meet
      case rel => exact ⟨_, (a1), (x2_17), z6_3, z6_3, H', ⟨by have := HJ3.out; have := HJ17.out; first | omega | exact Nat.le_refl _⟩, ⟨z6_1⟩, ⟨z6_0⟩⟩
     case rest =>
      clear HC20
      try clear c1
      try clear c2
      try clear p2
      try clear p6
      try clear c7
      try clear c9
      try clear c17
      try clear c19
      try clear c19b0
      try clear c21
      try clear c21b0
      try clear c21b1
      try clear hcz11_0
      try clear hcz11_1
      try clear hcz13_0
      try clear hcz13_1
      try clear hcz15_0
      try clear hcz15_1
      try clear hfz11_0
      try clear hfz11_1
      try clear hfz13_0
      try clear hfz13_1
      try clear hfz15_0
      try clear hfz15_1
      try clear p2
      try clear p6
      obtain ⟨kq, x1_19, x2_19, rfl, rfl, HA, HJ19, BK241, HB⟩ := hcut
      cases kq with
      | zero => exact absurd HA.out (by simp [spec_AddWork.j2])
      | succ kj19 =>
       have H := HA.out
       clear HA
       simp only [spec_AddWork.j2] at H
       have H' := Aside0.mk H
       clear H
       go_wp2
       go_loopg [1, 2] kj19 (fun kq v1 v2 w' => ∃ (x1_4 : Int) (x2_4 : Int), v1 = .int .i64 x1_4 ∧ v2 = .int .i64 x2_4 ∧ Aside0 (spec_AddWork.l0 kq x1_4 x2_4 x7_17 a0_0 l0_1 = some r) ∧ Aside0 (kq ≤ kj19) ∧ Aside0 (w'.heap[gb241]? = some (.cells #[.int .i64 a0_0, (.slice A0_1 l0_1.length c0_1)] 26 (0, 0))) ∧ Aside0 (Below w.heap.size w w'))
       case atStart => exact ⟨(x1_19), (x2_19), z6_3, z6_3, H', ⟨Nat.le_refl _⟩, ⟨z6_1⟩, ⟨z6_0⟩⟩
       case round =>
        clear H'
        try clear c1
        try clear c2
        try clear p2
        try clear p6
        try clear c7
        try clear c9
        try clear c17
        try clear c19
        try clear c19b0
        try clear c21
        try clear c21b0
        try clear c21b1
        try clear hcz11_0
        try clear hcz11_1
        try clear hcz13_0
        try clear hcz13_1
        try clear hcz15_0
        try clear hcz15_1
        try clear hfz11_0
        try clear hfz11_1
        try clear hfz13_0
        try clear hfz13_1
        try clear hfz15_0
        try clear hfz15_1
        try clear p2
        try clear p6
        obtain ⟨x1_4, x2_4, rfl, rfl, HA, HK4, BK241, HB⟩ := hrel
        cases gk with
        | zero => exact absurd HA.out (by simp [spec_AddWork.l0])
        | succ k4 =>
         have H := HA.out
         clear HA
         simp only [spec_AddWork.l0] at H
         by_cases c22 : x2_4 > 0
         ·rw [if_pos c22] at H
          have c22b0 : decide (0 < x2_4) = true := decide_eq_true c22
          clear c22
          replace H := Option.bind_eq_some_iff.mp H
          obtain ⟨t245, A230, H⟩ := H
          replace H : (if t245 = true then ((spec_l2Work.f k4 a0_0 l0_1 (wrap64 (x1_4 + x7_17))).bind fun t246 => (if t246 = true then (spec_AddWork.l0 k4 (wrap64 (x1_4 + x7_17)) (wrap64 (x2_4 - 1)) x7_17 a0_0 l0_1) else (spec_AddWork.l0 k4 (wrap64 (x1_4 + x7_17)) x2_4 x7_17 a0_0 l0_1))) else (some (-1))) = some r := H
          have A23 := Aside0.mk A230
          clear A230
          by_cases c24 : t245 = true
          ·subst c24
           have H1 : ((spec_l2Work.f k4 a0_0 l0_1 (wrap64 (x1_4 + x7_17))).bind fun t246 => (if t246 = true then (spec_AddWork.l0 k4 (wrap64 (x1_4 + x7_17)) (wrap64 (x2_4 - 1)) x7_17 a0_0 l0_1) else (spec_AddWork.l0 k4 (wrap64 (x1_4 + x7_17)) x2_4 x7_17 a0_0 l0_1))) = some r := by rw [if_pos rfl] at H; exact H
           clear H
           have H := H1
           clear H1
           replace H := Option.bind_eq_some_iff.mp H
           obtain ⟨t246, A250, H⟩ := H
           replace H : (if t246 = true then (spec_AddWork.l0 k4 (wrap64 (x1_4 + x7_17)) (wrap64 (x2_4 - 1)) x7_17 a0_0 l0_1) else (spec_AddWork.l0 k4 (wrap64 (x1_4 + x7_17)) x2_4 x7_17 a0_0 l0_1)) = some r := H
           have A25 := Aside0.mk A250
           clear A250
           by_cases c26 : t246 = true
           ·subst c26
            have H1 : (spec_AddWork.l0 k4 (wrap64 (x1_4 + x7_17)) (wrap64 (x2_4 - 1)) x7_17 a0_0 l0_1) = some r := by rw [if_pos rfl] at H; exact H
            clear H
            have H := H1
            clear H1
            have H' := Aside0.mk H
            clear H
            go_wp2_with (first | ((with_reducible refine qc0 (f := 30) rfl ?_); refine qm0 (some 35) rfl rfl Try.func30 (by kernel_rfl) rfl #[.int .i64 (wrap64 (x1_4 + x7_17))] rfl z6_2 ?_; (with_reducible refine (spec_l2Day.calls (wrap64 (x1_4 + x7_17)) true _ A23.out).mono ?_); rintro e w' ⟨rfl, ⟨nd, rfl⟩⟩; refine ⟨_, rfl, ?_⟩; have hcz27_0 : wr.cell? ⟨gb241, 0, none⟩ = some (.int .i64 a0_0) := (qb0 BK241.out 0).trans rfl; have hcz27_1 : wr.cell? ⟨gb241, 1, none⟩ = some (.slice A0_1 l0_1.length c0_1) := (qb0 BK241.out 1).trans rfl; have hfz27_0 := qa0 BK241.out 0; have hfz27_1 := qa0 BK241.out 1) | ((with_reducible refine qc0 (f := 32) rfl ?_); refine qm0 (some 39) rfl rfl Try.func32 (by kernel_rfl) rfl #[.agg #[.int .i64 a0_0, .slice A0_1 l0_1.length c0_1], .int .i64 (wrap64 (x1_4 + x7_17))] rfl z6_2 ?_; (with_reducible refine (spec_l2Work.calls k4 a0_0 _ _ l0_1 (wrap64 (x1_4 + x7_17)) true _ ?side1 ?side2 A25.out).mono ?_); (case side1 => exact z6_4); (case side2 => exact HC0_1.out); rintro e w28 ⟨rfl, hb⟩; refine ⟨_, rfl, ?_⟩; have n0_ := Aside0.mk (ql0 (g := gb241) (o := .cells #[.int .i64 a0_0, .slice A0_1 l0_1.length c0_1] 26 (0, 0)) z6_1 hb); have n1_ := Aside0.mk (qf0 z6_0 hb); clear BK241; clear HB; have BK241 := n0_; have HB := n1_; clear n0_ n1_; (try clear hb); (try clear hb2); (try clear hk); (try clear hi)))
            go_roundg k4
            case measure => have := HJ3.out; have := HJ17.out; have := HJ19.out; have := HK4.out; omega
            case rel => exact ⟨(wrap64 (x1_4 + x7_17)), (wrap64 (x2_4 - 1)), z6_3, z6_3, H', ⟨by have := HJ3.out; have := HJ17.out; have := HJ19.out; have := HK4.out; omega⟩, ⟨z6_1⟩, ⟨z6_0⟩⟩
           replace c26 := Bool.eq_false_iff.mpr c26
           subst c26
           have H1 : (spec_AddWork.l0 k4 (wrap64 (x1_4 + x7_17)) x2_4 x7_17 a0_0 l0_1) = some r := by rw [if_neg (show ¬ (false = true) by decide)] at H; exact H
           clear H
           have H := H1
           clear H1
           have H' := Aside0.mk H
           clear H
           go_wp2_with (first | ((with_reducible refine qc0 (f := 30) rfl ?_); refine qm0 (some 35) rfl rfl Try.func30 (by kernel_rfl) rfl #[.int .i64 (wrap64 (x1_4 + x7_17))] rfl z6_2 ?_; (with_reducible refine (spec_l2Day.calls (wrap64 (x1_4 + x7_17)) true _ A23.out).mono ?_); rintro e w' ⟨rfl, ⟨nd, rfl⟩⟩; refine ⟨_, rfl, ?_⟩; have hcz29_0 : wr.cell? ⟨gb241, 0, none⟩ = some (.int .i64 a0_0) := (qb0 BK241.out 0).trans rfl; have hcz29_1 : wr.cell? ⟨gb241, 1, none⟩ = some (.slice A0_1 l0_1.length c0_1) := (qb0 BK241.out 1).trans rfl; have hfz29_0 := qa0 BK241.out 0; have hfz29_1 := qa0 BK241.out 1) | ((with_reducible refine qc0 (f := 32) rfl ?_); refine qm0 (some 39) rfl rfl Try.func32 (by kernel_rfl) rfl #[.agg #[.int .i64 a0_0, .slice A0_1 l0_1.length c0_1], .int .i64 (wrap64 (x1_4 + x7_17))] rfl z6_2 ?_; (with_reducible refine (spec_l2Work.calls k4 a0_0 _ _ l0_1 (wrap64 (x1_4 + x7_17)) false _ ?side1 ?side2 A25.out).mono ?_); (case side1 => exact z6_4); (case side2 => exact HC0_1.out); rintro e w30 ⟨rfl, hb⟩; refine ⟨_, rfl, ?_⟩; have n0_ := Aside0.mk (ql0 (g := gb241) (o := .cells #[.int .i64 a0_0, .slice A0_1 l0_1.length c0_1] 26 (0, 0)) z6_1 hb); have n1_ := Aside0.mk (qf0 z6_0 hb); clear BK241; clear HB; have BK241 := n0_; have HB := n1_; clear n0_ n1_; (try clear hb); (try clear hb2); (try clear hk); (try clear hi)))
           go_roundg k4
           case measure => have := HJ3.out; have := HJ17.out; have := HJ19.out; have := HK4.out; omega
           case rel => exact ⟨(wrap64 (x1_4 + x7_17)), (x2_4), z6_3, z6_3, H', ⟨by have := HJ3.out; have := HJ17.out; have := HJ19.out; have := HK4.out; omega⟩, ⟨z6_1⟩, ⟨z6_0⟩⟩
          replace c24 := Bool.eq_false_iff.mpr c24
          subst c24
          have H1 : (some (-1)) = some r := by rw [if_neg (show ¬ (false = true) by decide)] at H; exact H
          clear H
          have H := H1
          clear H1
          obtain rfl := Option.some.inj H
          go_wp2_with (first | ((with_reducible refine qc0 (f := 30) rfl ?_); refine qm0 (some 35) rfl rfl Try.func30 (by kernel_rfl) rfl #[.int .i64 (wrap64 (x1_4 + x7_17))] rfl z6_2 ?_; (with_reducible refine (spec_l2Day.calls (wrap64 (x1_4 + x7_17)) false _ A23.out).mono ?_); rintro e w' ⟨rfl, ⟨nd, rfl⟩⟩; refine ⟨_, rfl, ?_⟩))
          go_ret
          exact ⟨z6_8, z6_0⟩
         rw [if_neg c22] at H
         have c22b0 : decide (0 < x2_4) = false := decide_eq_false c22
         clear c22
         obtain rfl := Option.some.inj H
         go_wp2
         go_ret
         exact ⟨z6_8, z6_0⟩

end Go.Proofs.Ytggfggmmecbdnaa.PFnWorkBack
