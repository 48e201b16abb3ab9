/- Lines by a program (a changed copy of the kit's print: this repo's wip/tools): Go functions as Lean functions, and proofs that the calls answer so. -/
import Derived.Test.YtggfggmmecbdnaaZPFnExactTakeInx0
import Derived.Test.YtggfggmmecbdnaaZPFnExactTakeInx3
namespace Go.Proofs.Ytggfggmmecbdnaa.PFnExactTakeIn
open Go.RowKit Go.Proofs.YtggfggmmecbdnaaW.PrintWords Go.Proofs.YtggfggmmecbdnaaW.PrintLast Go.Proofs.YtggfggmmecbdnaaW.PrintMore
/-- Closing blocks told once. -/
theorem z4_0 {P : Prop} (h : P := by repeat (first | (with_reducible first | exact HB.out | apply qk0 | apply qh0 | apply qi0 | refine ql0 ?_ GE183.out) | exact HB.out)) : P := h
theorem z4_1 {P : Prop} (h : P := by repeat (first | (with_reducible first | exact HB.out | apply qk0 | apply qh0 | apply qi0 | refine ql0 ?_ GE183.out | refine ql0 ?_ GE188.out) | exact HB.out)) : P := h
theorem z4_2 {P : Prop} (h : P := by (with_reducible repeat (first | refine qc0 ?_ _ | refine qe0 ?_ | refine qd0 ?_ _)); exact BK183.out) : P := h
theorem z4_3 {P : Prop} (h : P := by (with_reducible repeat (first | refine qc0 ?_ _ | refine qe0 ?_ | refine qd0 ?_ _)); refine qm0 (cs := #[.int .i64 ((rd_T59 l0_2 x53_4).f0), .int .i64 0]) ?_ 1 _ rfl; (with_reducible repeat (first | refine qc0 ?_ _ | refine qe0 ?_ | refine qd0 ?_ _)); refine qm0 (cs := #[.int .i64 0, .int .i64 0]) ?_ 0 _ rfl; (with_reducible repeat (first | refine qc0 ?_ _ | refine qe0 ?_ | refine qd0 ?_ _)); exact BK188.out) : P := h
theorem z4_4 {P : Prop} (h : P := by (with_reducible repeat (first | refine qc0 ?_ _ | refine qe0 ?_ | refine qd0 ?_ _)); refine qv0 ?_ NB183_188.out _; (with_reducible repeat (first | refine qc0 ?_ _ | refine qe0 ?_ | refine qd0 ?_ _)); refine qv0 ?_ NB183_188.out _; (with_reducible repeat (first | refine qc0 ?_ _ | refine qe0 ?_ | refine qd0 ?_ _)); exact BK183.out) : P := h
theorem z4_5 {P : Prop} (h : P := by (try simp only [List.map_toArray, List.map_cons, List.map_nil]); first | done | rfl | (simp only [List.length_drop, List.length_take]; rfl)) : P := h
theorem z4_6 {P : Prop} (h : P := by first | rfl | (simp; done) | (simp [*]; done)) : P := h
theorem z4_7 {P : Prop} (h : P := by first | rfl | (simp [errW_none, errW_some] <;> rfl) | (simp [*, errW_none, errW_some] <;> rfl)) : P := h
theorem z4_8 {P : Prop} (h : P := by (with_reducible repeat (first | refine qc0 ?_ _ | refine qe0 ?_ | refine qd0 ?_ _)); exact BK188.out) : P := h
theorem z4_9 {P : Prop} (h : P := by have := HJ1.out; have := HJ9.out; have := HJ19.out; have := HK4.out; first | omega | exact Nat.le_refl _) : P := h
theorem z4_10 {P : Prop} (h : P := by repeat (first | (with_reducible first | exact HB.out | apply qk0 | apply qh0 | apply qi0) | exact HB.out)) : P := h
theorem z4_11 {P : Prop} (h : P := by rw [hg]; exact (qn0 (by repeat (first | (with_reducible first | exact HB.out | apply qk0 | apply qh0 | apply qi0 | refine ql0 ?_ GE183.out) | exact HB.out)))) : P := h
theorem z4_12 {P : Prop} (h : P := by rw [hg]; exact (qn0 (by repeat (first | (with_reducible first | exact HB.out | apply qk0 | apply qh0 | apply qi0) | exact HB.out)))) : P := h
theorem z4_13 {P : Prop} (h : P := by have := HJ1.out; first | omega | exact Nat.le_refl _) : P := h
attribute [local go_sem] max2_int min2_int max_two min_two max_three min_three max_four min_four   -- for this text's walks alone
set_option linter.unusedVariables false
set_option linter.unusedSimpArgs false

/-! ### impl_WorthOk: function 38 -/
mutual
def impl_WorthOk.j0 : Nat → Bool → Int → Int → List (S59) → Int → Option (Bool)
 | 0, _, _, _, _, _ => none
 | k + 1, x16, x184000, x184001, x184002, x184003 => if x16 = true then (some false) else (if x184000 = 4 then ((impl_price.f x184001).bind fun t186 => (if t186 = true then (impl_WorthOk.j1 k false x184000 x184001 x184002 x184003) else (impl_WorthOk.j1 k true x184000 x184001 x184002 x184003))) else (if x184001 = 0 then (impl_WorthOk.j1 k (x184003 != 0) x184000 x184001 x184002 x184003) else (impl_WorthOk.j1 k true x184000 x184001 x184002 x184003)))
def impl_WorthOk.j1 : Nat → Bool → Int → Int → List (S59) → Int → Option (Bool)
 | 0, _, _, _, _, _ => none
 | k + 1, x40, x184000, x184001, x184002, x184003 => if x40 = true then (some false) else (if x184000 ≥ 3 then (impl_WorthOk.j2 k (decide ((x184002.length : Int) > 1)) x184000 x184001 x184002 x184003) else (impl_WorthOk.j2 k false x184000 x184001 x184002 x184003))
def impl_WorthOk.j2 : Nat → Bool → Int → Int → List (S59) → Int → Option (Bool)
 | 0, _, _, _, _, _ => none
 | k + 1, x49, x184000, x184001, x184002, x184003 => if x49 = true then (some false) else (impl_WorthOk.l0 k 0 0 x184002 (x184002.length : Int) 0 x184000 x184001 x184002 x184003)
def impl_WorthOk.l0 : Nat → Int → Int → List (S59) → Int → Int → Int → Int → List (S59) → Int → Option (Bool)
 | 0, _, _, _, _, _, _, _, _, _ => none
 | k + 1, x3, x4, x51, x52, x53, x184000, x184001, x184002, x184003 => if x53 < x52 then (if 0 ≤ x53 then (if x53 < (x51.length : Int) then ((impl_layOk.f ((rd_T59 x51 x53).f0) ((rd_T59 x51 x53).f1)).bind fun t189 => (if t189 = true then (if ((rd_T59 x51 x53).f0) > 1000000 then (impl_WorthOk.j4 k x3 x4 x51 x52 x53 true x184000 x184001 x184002 x184003 ((rd_T59 x51 x53).f0) ((rd_T59 x51 x53).f1)) else (if x184000 = 4 then (impl_WorthOk.j4 k x3 x4 x51 x52 x53 (((rd_T59 x51 x53).f1) != (wrap64 (((rd_T59 x51 x53).f0) * x184001))) x184000 x184001 x184002 x184003 ((rd_T59 x51 x53).f0) ((rd_T59 x51 x53).f1)) else (impl_WorthOk.j4 k x3 x4 x51 x52 x53 false x184000 x184001 x184002 x184003 ((rd_T59 x51 x53).f0) ((rd_T59 x51 x53).f1)))) else (impl_WorthOk.j4 k x3 x4 x51 x52 x53 true x184000 x184001 x184002 x184003 ((rd_T59 x51 x53).f0) ((rd_T59 x51 x53).f1)))) else (none)) else (none)) else (some true)
def impl_WorthOk.j4 : Nat → Int → Int → List (S59) → Int → Int → Bool → Int → Int → List (S59) → Int → Int → Int → Option (Bool)
 | 0, _, _, _, _, _, _, _, _, _, _, _, _ => none
 | k + 1, x3, x4, x51, x52, x53, x79, x184000, x184001, x184002, x184003, x189000, x189001 => if x79 = true then (some false) else (if (wrap64 (x3 + x189000)) > 1000000 then (some false) else (if (wrap64 (x4 + x189001)) > 100000000000 then (some false) else (impl_WorthOk.l0 k (wrap64 (x3 + x189000)) (wrap64 (x4 + x189001)) x51 x52 (wrap64 (x53 + 1)) x184000 x184001 x184002 x184003)))
end
def impl_WorthOk.f (k : Nat) (a0_0 : Int) (a0_1 : Int) (l0_2 : List (S59)) (a0_3 : Int) : Option (Bool) := (impl_between.f a0_0 1 4).bind fun t184 => (if t184 = true then ((impl_amount.f a0_3).bind fun t185 => (impl_WorthOk.j0 k (!t185) a0_0 a0_1 l0_2 a0_3)) else (impl_WorthOk.j0 k true a0_0 a0_1 l0_2 a0_3))
theorem impl_WorthOk.mono_l : ∀ k, (∀ y0 y1 y2 y3 y4, LeO (impl_WorthOk.j0 k y0 y1 y2 y3 y4) (impl_WorthOk.j0 (k + 1) y0 y1 y2 y3 y4)) ∧ (∀ y0 y1 y2 y3 y4, LeO (impl_WorthOk.j1 k y0 y1 y2 y3 y4) (impl_WorthOk.j1 (k + 1) y0 y1 y2 y3 y4)) ∧ (∀ y0 y1 y2 y3 y4, LeO (impl_WorthOk.j2 k y0 y1 y2 y3 y4) (impl_WorthOk.j2 (k + 1) y0 y1 y2 y3 y4)) ∧ (∀ y0 y1 y2 y3 y4 y5 y6 y7 y8, LeO (impl_WorthOk.l0 k y0 y1 y2 y3 y4 y5 y6 y7 y8) (impl_WorthOk.l0 (k + 1) y0 y1 y2 y3 y4 y5 y6 y7 y8)) ∧ (∀ y0 y1 y2 y3 y4 y5 y6 y7 y8 y9 y10 y11, LeO (impl_WorthOk.j4 k y0 y1 y2 y3 y4 y5 y6 y7 y8 y9 y10 y11) (impl_WorthOk.j4 (k + 1) y0 y1 y2 y3 y4 y5 y6 y7 y8 y9 y10 y11))
 | 0 => ⟨fun _ _ _ _ _ r h => by simp [impl_WorthOk.j0] at h, fun _ _ _ _ _ r h => by simp [impl_WorthOk.j1] at h, fun _ _ _ _ _ r h => by simp [impl_WorthOk.j2] at h, fun _ _ _ _ _ _ _ _ _ r h => by simp [impl_WorthOk.l0] at h, fun _ _ _ _ _ _ _ _ _ _ _ _ r h => by simp [impl_WorthOk.j4] at h⟩
 | k + 1 => by
  obtain ⟨ih0, ih1, ih2, ih3, ih4⟩ := impl_WorthOk.mono_l k
  refine ⟨?_, ?_, ?_, ?_, ?_⟩
  ·intro y0 y1 y2 y3 y4
   unfold impl_WorthOk.j0
   repeat' first
   | (with_reducible exact ih0 _ _ _ _ _)
   | (with_reducible exact ih1 _ _ _ _ _)
   | (with_reducible exact ih2 _ _ _ _ _)
   | (with_reducible exact ih3 _ _ _ _ _ _ _ _ _)
   | (with_reducible exact ih4 _ _ _ _ _ _ _ _ _ _ _ _)
   | (with_reducible exact LeO.refl _)
   | (with_reducible exact LeO.none _)
   | (with_reducible refine LeO.ite ?_ ?_)
   | (with_reducible refine LeO.bind ?_ (fun _ => ?_))
   | exact ih0 _ _ _ _ _
   | exact ih1 _ _ _ _ _
   | exact ih2 _ _ _ _ _
   | exact ih3 _ _ _ _ _ _ _ _ _
   | exact ih4 _ _ _ _ _ _ _ _ _ _ _ _
   | exact LeO.none _
   | refine LeO.ite ?_ ?_
   | refine LeO.bind ?_ (fun _ => ?_)
  ·intro y0 y1 y2 y3 y4
   unfold impl_WorthOk.j1
   repeat' first
   | (with_reducible exact ih0 _ _ _ _ _)
   | (with_reducible exact ih1 _ _ _ _ _)
   | (with_reducible exact ih2 _ _ _ _ _)
   | (with_reducible exact ih3 _ _ _ _ _ _ _ _ _)
   | (with_reducible exact ih4 _ _ _ _ _ _ _ _ _ _ _ _)
   | (with_reducible exact LeO.refl _)
   | (with_reducible exact LeO.none _)
   | (with_reducible refine LeO.ite ?_ ?_)
   | (with_reducible refine LeO.bind ?_ (fun _ => ?_))
   | exact ih0 _ _ _ _ _
   | exact ih1 _ _ _ _ _
   | exact ih2 _ _ _ _ _
   | exact ih3 _ _ _ _ _ _ _ _ _
   | exact ih4 _ _ _ _ _ _ _ _ _ _ _ _
   | exact LeO.none _
   | refine LeO.ite ?_ ?_
   | refine LeO.bind ?_ (fun _ => ?_)
  ·intro y0 y1 y2 y3 y4
   unfold impl_WorthOk.j2
   repeat' first
   | (with_reducible exact ih0 _ _ _ _ _)
   | (with_reducible exact ih1 _ _ _ _ _)
   | (with_reducible exact ih2 _ _ _ _ _)
   | (with_reducible exact ih3 _ _ _ _ _ _ _ _ _)
   | (with_reducible exact ih4 _ _ _ _ _ _ _ _ _ _ _ _)
   | (with_reducible exact LeO.refl _)
   | (with_reducible exact LeO.none _)
   | (with_reducible refine LeO.ite ?_ ?_)
   | (with_reducible refine LeO.bind ?_ (fun _ => ?_))
   | exact ih0 _ _ _ _ _
   | exact ih1 _ _ _ _ _
   | exact ih2 _ _ _ _ _
   | exact ih3 _ _ _ _ _ _ _ _ _
   | exact ih4 _ _ _ _ _ _ _ _ _ _ _ _
   | exact LeO.none _
   | refine LeO.ite ?_ ?_
   | refine LeO.bind ?_ (fun _ => ?_)
  ·intro y0 y1 y2 y3 y4 y5 y6 y7 y8
   unfold impl_WorthOk.l0
   repeat' first
   | (with_reducible exact ih0 _ _ _ _ _)
   | (with_reducible exact ih1 _ _ _ _ _)
   | (with_reducible exact ih2 _ _ _ _ _)
   | (with_reducible exact ih3 _ _ _ _ _ _ _ _ _)
   | (with_reducible exact ih4 _ _ _ _ _ _ _ _ _ _ _ _)
   | (with_reducible exact LeO.refl _)
   | (with_reducible exact LeO.none _)
   | (with_reducible refine LeO.ite ?_ ?_)
   | (with_reducible refine LeO.bind ?_ (fun _ => ?_))
   | exact ih0 _ _ _ _ _
   | exact ih1 _ _ _ _ _
   | exact ih2 _ _ _ _ _
   | exact ih3 _ _ _ _ _ _ _ _ _
   | exact ih4 _ _ _ _ _ _ _ _ _ _ _ _
   | exact LeO.none _
   | refine LeO.ite ?_ ?_
   | refine LeO.bind ?_ (fun _ => ?_)
  ·intro y0 y1 y2 y3 y4 y5 y6 y7 y8 y9 y10 y11
   unfold impl_WorthOk.j4
   repeat' first
   | (with_reducible exact ih0 _ _ _ _ _)
   | (with_reducible exact ih1 _ _ _ _ _)
   | (with_reducible exact ih2 _ _ _ _ _)
   | (with_reducible exact ih3 _ _ _ _ _ _ _ _ _)
   | (with_reducible exact ih4 _ _ _ _ _ _ _ _ _ _ _ _)
   | (with_reducible exact LeO.refl _)
   | (with_reducible exact LeO.none _)
   | (with_reducible refine LeO.ite ?_ ?_)
   | (with_reducible refine LeO.bind ?_ (fun _ => ?_))
   | exact ih0 _ _ _ _ _
   | exact ih1 _ _ _ _ _
   | exact ih2 _ _ _ _ _
   | exact ih3 _ _ _ _ _ _ _ _ _
   | exact ih4 _ _ _ _ _ _ _ _ _ _ _ _
   | exact LeO.none _
   | refine LeO.ite ?_ ?_
   | refine LeO.bind ?_ (fun _ => ?_)
theorem impl_WorthOk.mono : ∀ a0 a1 a2 a3 k, LeO (impl_WorthOk.f k a0 a1 a2 a3) (impl_WorthOk.f (k + 1) a0 a1 a2 a3) := by
 intro a0 a1 a2 a3 k
 obtain ⟨ih0, ih1, ih2, ih3, ih4⟩ := impl_WorthOk.mono_l k
 unfold impl_WorthOk.f
 repeat' first
   | (with_reducible exact ih0 _ _ _ _ _)
   | (with_reducible exact ih1 _ _ _ _ _)
   | (with_reducible exact ih2 _ _ _ _ _)
   | (with_reducible exact ih3 _ _ _ _ _ _ _ _ _)
   | (with_reducible exact ih4 _ _ _ _ _ _ _ _ _ _ _ _)
   | (with_reducible exact LeO.refl _)
   | (with_reducible exact LeO.none _)
   | (with_reducible refine LeO.ite ?_ ?_)
   | (with_reducible refine LeO.bind ?_ (fun _ => ?_))
   | exact ih0 _ _ _ _ _
   | exact ih1 _ _ _ _ _
   | exact ih2 _ _ _ _ _
   | exact ih3 _ _ _ _ _ _ _ _ _
   | exact ih4 _ _ _ _ _ _ _ _ _ _ _ _
   | exact LeO.none _
   | refine LeO.ite ?_ ?_
   | refine LeO.bind ?_ (fun _ => ?_)
set_option maxHeartbeats 8000000 in
set_option maxRecDepth 100000 in
theorem impl_WorthOk.calls (k : Nat) (a0_0 : Int) (a0_1 : Int) (A0_2 : Option Addr) (c0_2 : Nat) (l0_2 : List (S59)) (a0_3 : Int) (r : Bool) (w : World) (hr0_2 : Kd.C k59 w A0_2 l0_2.length l0_2) (hc0_2 : l0_2.length ≤ c0_2) (h : impl_WorthOk.f k a0_0 a0_1 l0_2 a0_3 = some r) :
  Calls Try.prog 38 #[.agg #[.int .i64 a0_0, .int .i64 a0_1, .slice A0_2 l0_2.length c0_2, .int .i64 a0_3]] w fun e w' => e = .returned (.bool r) ∧ Below w.heap.size w w' := by
 have hu37 := Try.underlying37
 have hu59 := Try.underlying59
 have HR0_2 := Aside0.mk hr0_2
 have HC0_2 := Aside0.mk hc0_2
 clear hr0_2 hc0_2
 have HB := Aside0.mk (Below.refl w.heap.size w)
 have H : ((impl_between.f a0_0 1 4).bind fun t184 => (if t184 = true then ((impl_amount.f a0_3).bind fun t185 => (impl_WorthOk.j0 k (!t185) a0_0 a0_1 l0_2 a0_3)) else (impl_WorthOk.j0 k true a0_0 a0_1 l0_2 a0_3))) = some r := h
 clear h
 have HC2 := Aside0.mk H
 clear H
 go_enter Try.func38, Try.ntmps38
 go_upto_region 1 with (first | ((with_reducible refine qr0 (N := 1) rfl ?_); (try (refine gate_guard (by rfl) ?_; dsimp only)); refine qo0 ?hg (N := 1) ?hd (cs := #[.int .i64 a0_0, .int .i64 a0_1, .slice A0_2 l0_2.length c0_2, .int .i64 a0_3]) (t := 37) ?hr ?_; (case hd => rfl); (case hg => rfl); (case hr => first | (go_simp; done) | (go_simp; rfl)); intro gb183 hg w3 hbox hb; have n0_ := Aside0.mk (qg0 z4_10 hb); have n1_ := Aside0.mk (hbox); have n2_ := Aside0.mk ((z4_12 : w.heap.size ≤ gb183)); have n3_ := Aside0.mk ((z4_12 : w.heap.size ≤ gb183)); clear HB; have HB := n0_; have BK183 := n1_; have GW183 := n2_; have GE183 := n3_; clear n0_ n1_ n2_ n3_; clear hb hbox hg))
 (try simp only [Act.put, List.setIfInBounds_toArray, List.set_cons_zero, List.set_cons_succ])
 go_cut [16] (fun v16 wc => ∃ (kq : Nat) (x16_1 : Bool), v16 = .bool x16_1 ∧ Aside0 (impl_WorthOk.j0 kq x16_1 a0_0 a0_1 l0_2 a0_3 = some r) ∧ Aside0 (kq ≤ k) ∧ Aside0 (wc.heap[gb183]? = some (.cells #[.int .i64 a0_0, .int .i64 a0_1, (.slice A0_2 l0_2.length c0_2), .int .i64 a0_3] 37 (0, 0))) ∧ Aside0 (Below w.heap.size w wc))
 case first =>
  have H := HC2.out
  clear HC2
  replace H := Option.bind_eq_some_iff.mp H
  obtain ⟨t184, A40, H⟩ := H
  replace H : (if t184 = true then ((impl_amount.f a0_3).bind fun t185 => (impl_WorthOk.j0 k (!t185) a0_0 a0_1 l0_2 a0_3)) else (impl_WorthOk.j0 k true a0_0 a0_1 l0_2 a0_3)) = some r := H
  have A4 := Aside0.mk A40
  clear A40
  by_cases c5 : t184 = true
  ·subst c5
   have H1 : ((impl_amount.f a0_3).bind fun t185 => (impl_WorthOk.j0 k (!t185) a0_0 a0_1 l0_2 a0_3)) = some r := by rw [if_pos rfl] at H; exact H
   clear H
   have H := H1
   clear H1
   replace H := Option.bind_eq_some_iff.mp H
   obtain ⟨t185, A60, H⟩ := H
   replace H : (impl_WorthOk.j0 k (!t185) a0_0 a0_1 l0_2 a0_3) = some r := H
   have A6 := Aside0.mk A60
   clear A60
   have H' := Aside0.mk H
   clear H
   have hcz7_0 : w3.cell? ⟨gb183, 0, none⟩ = some (.int .i64 a0_0) := (qb0 BK183.out 0).trans rfl
   have hcz7_1 : w3.cell? ⟨gb183, 1, none⟩ = some (.int .i64 a0_1) := (qb0 BK183.out 1).trans rfl
   have hcz7_2 : w3.cell? ⟨gb183, 2, none⟩ = some (.slice A0_2 l0_2.length c0_2) := (qb0 BK183.out 2).trans rfl
   have hcz7_3 : w3.cell? ⟨gb183, 3, none⟩ = some (.int .i64 a0_3) := (qb0 BK183.out 3).trans rfl
   have hfz7_0 := qa0 BK183.out 0
   have hfz7_1 := qa0 BK183.out 1
   have hfz7_2 := qa0 BK183.out 2
   have hfz7_3 := qa0 BK183.out 3
   go_wp2_with (first | ((with_reducible refine qj0 (f := 27) rfl ?_); refine qy0 (some 9) rfl rfl Try.func27 (by kernel_rfl) rfl #[.int .i64 a0_0, .int .i64 1, .int .i64 4] rfl z4_5 ?_; (with_reducible refine (impl_between.calls a0_0 1 4 true _ A4.out).mono ?_); rintro e w' ⟨rfl, ⟨nd, rfl⟩⟩; refine ⟨_, rfl, ?_⟩) | (go_at_call 54; (with_reducible refine (impl_amount.calls a0_3 t185 _ A6.out).mono ?_); rintro e w' ⟨rfl, ⟨nd, rfl⟩⟩))
   go_meet
   case rel => exact ⟨_, (!t185), z4_6, H', ⟨by first | omega | exact Nat.le_refl _⟩, ⟨z4_2⟩, ⟨z4_0⟩⟩
  replace c5 := Bool.eq_false_iff.mpr c5
  subst c5
  have H1 : (impl_WorthOk.j0 k true a0_0 a0_1 l0_2 a0_3) = some r := by rw [if_neg (show ¬ (false = true) by decide)] at H; exact H
  clear H
  have H := H1
  clear H1
  have H' := Aside0.mk H
  clear H
  have hcz8_0 : w3.cell? ⟨gb183, 0, none⟩ = some (.int .i64 a0_0) := (qb0 BK183.out 0).trans rfl
  have hcz8_1 : w3.cell? ⟨gb183, 1, none⟩ = some (.int .i64 a0_1) := (qb0 BK183.out 1).trans rfl
  have hcz8_2 : w3.cell? ⟨gb183, 2, none⟩ = some (.slice A0_2 l0_2.length c0_2) := (qb0 BK183.out 2).trans rfl
  have hcz8_3 : w3.cell? ⟨gb183, 3, none⟩ = some (.int .i64 a0_3) := (qb0 BK183.out 3).trans rfl
  have hfz8_0 := qa0 BK183.out 0
  have hfz8_1 := qa0 BK183.out 1
  have hfz8_2 := qa0 BK183.out 2
  have hfz8_3 := qa0 BK183.out 3
  go_wp2_with (first | ((with_reducible refine qj0 (f := 27) rfl ?_); refine qy0 (some 9) rfl rfl Try.func27 (by kernel_rfl) rfl #[.int .i64 a0_0, .int .i64 1, .int .i64 4] rfl z4_5 ?_; (with_reducible refine (impl_between.calls a0_0 1 4 false _ A4.out).mono ?_); rintro e w' ⟨rfl, ⟨nd, rfl⟩⟩; refine ⟨_, rfl, ?_⟩))
  go_meet
  case rel => exact ⟨_, (true), z4_6, H', ⟨by first | omega | exact Nat.le_refl _⟩, ⟨z4_2⟩, ⟨z4_0⟩⟩
 case rest =>
  clear HC2
  try clear c2
  try clear p2
  try clear c3
  try clear c5
  try clear hcz7_0
  try clear hcz7_1
  try clear hcz7_2
  try clear hcz7_3
  try clear hcz8_0
  try clear hcz8_1
  try clear hcz8_2
  try clear hcz8_3
  try clear hfz7_0
  try clear hfz7_1
  try clear hfz7_2
  try clear hfz7_3
  try clear hfz8_0
  try clear hfz8_1
  try clear hfz8_2
  try clear hfz8_3
  obtain ⟨kq, x16_1, rfl, HA, HJ1, BK183, HB⟩ := hcut
  cases kq with
  | zero => exact absurd HA.out (by simp [impl_WorthOk.j0])
  | succ kj1 =>
   have H := HA.out
   clear HA
   simp only [impl_WorthOk.j0] at H
   by_cases c9 : x16_1 = true
   ·subst c9
    have H1 : (some false) = some r := by rw [if_pos rfl] at H; exact H
    clear H
    have H := H1
    clear H1
    obtain rfl := Option.some.inj H
    go_wp2
    go_ret
    exact ⟨z4_7, z4_0⟩
   replace c9 := Bool.eq_false_iff.mpr c9
   subst c9
   have H1 : (if a0_0 = 4 then ((impl_price.f a0_1).bind fun t186 => (if t186 = true then (impl_WorthOk.j1 kj1 false a0_0 a0_1 l0_2 a0_3) else (impl_WorthOk.j1 kj1 true a0_0 a0_1 l0_2 a0_3))) else (if a0_1 = 0 then (impl_WorthOk.j1 kj1 (a0_3 != 0) a0_0 a0_1 l0_2 a0_3) else (impl_WorthOk.j1 kj1 true a0_0 a0_1 l0_2 a0_3))) = some r := by rw [if_neg (show ¬ (false = true) by decide)] at H; exact H
   clear H
   have H := H1
   clear H1
   have HC10 := Aside0.mk H
   clear H
   go_upto_region 3 with (fail)
   go_cut [40] (fun v40 wc => ∃ (kq : Nat) (x40_9 : Bool), v40 = .bool x40_9 ∧ Aside0 (impl_WorthOk.j1 kq x40_9 a0_0 a0_1 l0_2 a0_3 = some r) ∧ Aside0 (kq ≤ kj1) ∧ Aside0 (wc.heap[gb183]? = some (.cells #[.int .i64 a0_0, .int .i64 a0_1, (.slice A0_2 l0_2.length c0_2), .int .i64 a0_3] 37 (0, 0))) ∧ Aside0 (Below w.heap.size w wc))
   case first =>
    have H := HC10.out
    clear HC10
    by_cases c11 : a0_0 = 4
    ·rw [if_pos c11] at H
     have c11b0 : (a0_0 == 4) = true := beq_iff_eq.mpr c11
     have c11b1 : (a0_0 != 4) = false := bne_eq_false_iff_eq.mpr c11
     clear c11
     (first | rw [c11b0] | (simp only [i64_w, i32_w]; rw [c11b0]) | skip)
     replace H := Option.bind_eq_some_iff.mp H
     obtain ⟨t186, A120, H⟩ := H
     replace H : (if t186 = true then (impl_WorthOk.j1 kj1 false a0_0 a0_1 l0_2 a0_3) else (impl_WorthOk.j1 kj1 true a0_0 a0_1 l0_2 a0_3)) = some r := H
     have A12 := Aside0.mk A120
     clear A120
     by_cases c13 : t186 = true
     ·subst c13
      have H1 : (impl_WorthOk.j1 kj1 false a0_0 a0_1 l0_2 a0_3) = some r := by rw [if_pos rfl] at H; exact H
      clear H
      have H := H1
      clear H1
      have H' := Aside0.mk H
      clear H
      have hcz14_0 : wc.cell? ⟨gb183, 0, none⟩ = some (.int .i64 a0_0) := (qb0 BK183.out 0).trans rfl
      have hcz14_1 : wc.cell? ⟨gb183, 1, none⟩ = some (.int .i64 a0_1) := (qb0 BK183.out 1).trans rfl
      have hcz14_2 : wc.cell? ⟨gb183, 2, none⟩ = some (.slice A0_2 l0_2.length c0_2) := (qb0 BK183.out 2).trans rfl
      have hcz14_3 : wc.cell? ⟨gb183, 3, none⟩ = some (.int .i64 a0_3) := (qb0 BK183.out 3).trans rfl
      have hfz14_0 := qa0 BK183.out 0
      have hfz14_1 := qa0 BK183.out 1
      have hfz14_2 := qa0 BK183.out 2
      have hfz14_3 := qa0 BK183.out 3
      go_wp2_with (first | (go_at_call 55; (with_reducible refine (impl_price.calls a0_1 true _ A12.out).mono ?_); rintro e w' ⟨rfl, ⟨nd, rfl⟩⟩))
      go_meet
      case rel => exact ⟨_, (false), z4_6, H', ⟨z4_13⟩, ⟨z4_2⟩, ⟨z4_0⟩⟩
     replace c13 := Bool.eq_false_iff.mpr c13
     subst c13
     have H1 : (impl_WorthOk.j1 kj1 true a0_0 a0_1 l0_2 a0_3) = some r := by rw [if_neg (show ¬ (false = true) by decide)] at H; exact H
     clear H
     have H := H1
     clear H1
     have H' := Aside0.mk H
     clear H
     have hcz15_0 : wc.cell? ⟨gb183, 0, none⟩ = some (.int .i64 a0_0) := (qb0 BK183.out 0).trans rfl
     have hcz15_1 : wc.cell? ⟨gb183, 1, none⟩ = some (.int .i64 a0_1) := (qb0 BK183.out 1).trans rfl
     have hcz15_2 : wc.cell? ⟨gb183, 2, none⟩ = some (.slice A0_2 l0_2.length c0_2) := (qb0 BK183.out 2).trans rfl
     have hcz15_3 : wc.cell? ⟨gb183, 3, none⟩ = some (.int .i64 a0_3) := (qb0 BK183.out 3).trans rfl
     have hfz15_0 := qa0 BK183.out 0
     have hfz15_1 := qa0 BK183.out 1
     have hfz15_2 := qa0 BK183.out 2
     have hfz15_3 := qa0 BK183.out 3
     go_wp2_with (first | (go_at_call 55; (with_reducible refine (impl_price.calls a0_1 false _ A12.out).mono ?_); rintro e w' ⟨rfl, ⟨nd, rfl⟩⟩))
     go_meet
     case rel => exact ⟨_, (true), z4_6, H', ⟨z4_13⟩, ⟨z4_2⟩, ⟨z4_0⟩⟩
    rw [if_neg c11] at H
    have c11b0 : (a0_0 == 4) = false := beq_eq_false_iff_ne.mpr c11
    have c11b1 : (a0_0 != 4) = true := bne_iff_ne.mpr c11
    (first | rw [c11b0] | (simp only [i64_w, i32_w]; rw [c11b0]) | skip)
    by_cases c16 : a0_1 = 0
    ·rw [if_pos c16] at H
     have c16b0 : (a0_1 == 0) = true := beq_iff_eq.mpr c16
     have c16b1 : (a0_1 != 0) = false := bne_eq_false_iff_eq.mpr c16
     clear c16
     have H' := Aside0.mk H
     clear H
     have hcz17_0 : wc.cell? ⟨gb183, 0, none⟩ = some (.int .i64 a0_0) := (qb0 BK183.out 0).trans rfl
     have hcz17_1 : wc.cell? ⟨gb183, 1, none⟩ = some (.int .i64 a0_1) := (qb0 BK183.out 1).trans rfl
     have hcz17_2 : wc.cell? ⟨gb183, 2, none⟩ = some (.slice A0_2 l0_2.length c0_2) := (qb0 BK183.out 2).trans rfl
     have hcz17_3 : wc.cell? ⟨gb183, 3, none⟩ = some (.int .i64 a0_3) := (qb0 BK183.out 3).trans rfl
     have hfz17_0 := qa0 BK183.out 0
     have hfz17_1 := qa0 BK183.out 1
     have hfz17_2 := qa0 BK183.out 2
     have hfz17_3 := qa0 BK183.out 3
     go_wp2
     go_meet
     case rel => exact ⟨_, ((a0_3 != 0)), z4_6, H', ⟨z4_13⟩, ⟨z4_2⟩, ⟨z4_0⟩⟩
    rw [if_neg c16] at H
    have c16b0 : (a0_1 == 0) = false := beq_eq_false_iff_ne.mpr c16
    have c16b1 : (a0_1 != 0) = true := bne_iff_ne.mpr c16
    have H' := Aside0.mk H
    clear H
    have hcz18_0 : wc.cell? ⟨gb183, 0, none⟩ = some (.int .i64 a0_0) := (qb0 BK183.out 0).trans rfl
    have hcz18_1 : wc.cell? ⟨gb183, 1, none⟩ = some (.int .i64 a0_1) := (qb0 BK183.out 1).trans rfl
    have hcz18_2 : wc.cell? ⟨gb183, 2, none⟩ = some (.slice A0_2 l0_2.length c0_2) := (qb0 BK183.out 2).trans rfl
    have hcz18_3 : wc.cell? ⟨gb183, 3, none⟩ = some (.int .i64 a0_3) := (qb0 BK183.out 3).trans rfl
    have hfz18_0 := qa0 BK183.out 0
    have hfz18_1 := qa0 BK183.out 1
    have hfz18_2 := qa0 BK183.out 2
    have hfz18_3 := qa0 BK183.out 3
    go_wp2
    go_meet
    case rel => exact ⟨_, (true), z4_6, H', ⟨z4_13⟩, ⟨z4_2⟩, ⟨z4_0⟩⟩
   case rest =>
    clear HC10
    try clear c1
    try clear c2
    try clear p2
    try clear c3
    try clear c5
    try clear c9
    try clear c11
    try clear c11b0
    try clear c11b1
    try clear c13
    try clear c16
    try clear c16b0
    try clear c16b1
    try clear hcz14_0
    try clear hcz14_1
    try clear hcz14_2
    try clear hcz14_3
    try clear hcz15_0
    try clear hcz15_1
    try clear hcz15_2
    try clear hcz15_3
    try clear hcz17_0
    try clear hcz17_1
    try clear hcz17_2
    try clear hcz17_3
    try clear hcz18_0
    try clear hcz18_1
    try clear hcz18_2
    try clear hcz18_3
    try clear hcz7_0
    try clear hcz7_1
    try clear hcz7_2
    try clear hcz7_3
    try clear hcz8_0
    try clear hcz8_1
    try clear hcz8_2
    try clear hcz8_3
    try clear hfz14_0
    try clear hfz14_1
    try clear hfz14_2
    try clear hfz14_3
    try clear hfz15_0
    try clear hfz15_1
    try clear hfz15_2
    try clear hfz15_3
    try clear hfz17_0
    try clear hfz17_1
    try clear hfz17_2
    try clear hfz17_3
    try clear hfz18_0
    try clear hfz18_1
    try clear hfz18_2
    try clear hfz18_3
    try clear hfz7_0
    try clear hfz7_1
    try clear hfz7_2
    try clear hfz7_3
    try clear hfz8_0
    try clear hfz8_1
    try clear hfz8_2
    try clear hfz8_3
    try clear p2
    obtain ⟨kq, x40_9, rfl, HA, HJ9, BK183, HB⟩ := hcut
    cases kq with
    | zero => exact absurd HA.out (by simp [impl_WorthOk.j1])
    | succ kj9 =>
     have H := HA.out
     clear HA
     simp only [impl_WorthOk.j1] at H
     by_cases c19 : x40_9 = true
     ·subst c19
      have H1 : (some false) = some r := by rw [if_pos rfl] at H; exact H
      clear H
      have H := H1
      clear H1
      obtain rfl := Option.some.inj H
      go_wp2
      go_ret
      exact ⟨z4_7, z4_0⟩
     replace c19 := Bool.eq_false_iff.mpr c19
     subst c19
     have H1 : (if a0_0 ≥ 3 then (impl_WorthOk.j2 kj9 (decide ((l0_2.length : Int) > 1)) a0_0 a0_1 l0_2 a0_3) else (impl_WorthOk.j2 kj9 false a0_0 a0_1 l0_2 a0_3)) = some r := by rw [if_neg (show ¬ (false = true) by decide)] at H; exact H
     clear H
     have H := H1
     clear H1
     have HC20 := Aside0.mk H
     clear H
     go_upto_region 5 with (fail)
     go_cut [49] (fun v49 wc => ∃ (kq : Nat) (x49_19 : Bool), v49 = .bool x49_19 ∧ Aside0 (impl_WorthOk.j2 kq x49_19 a0_0 a0_1 l0_2 a0_3 = some r) ∧ Aside0 (kq ≤ kj9) ∧ Aside0 (wc.heap[gb183]? = some (.cells #[.int .i64 a0_0, .int .i64 a0_1, (.slice A0_2 l0_2.length c0_2), .int .i64 a0_3] 37 (0, 0))) ∧ Aside0 (Below w.heap.size w wc))
     case first =>
      have H := HC20.out
      clear HC20
      by_cases c21 : a0_0 ≥ 3
      ·rw [if_pos c21] at H
       have c21b0 : decide (3 ≤ a0_0) = true := decide_eq_true c21
       clear c21
       (first | rw [c21b0] | (simp only [i64_w, i32_w]; rw [c21b0]) | skip)
       have H' := Aside0.mk H
       clear H
       have hcz22_0 : wc.cell? ⟨gb183, 0, none⟩ = some (.int .i64 a0_0) := (qb0 BK183.out 0).trans rfl
       have hcz22_1 : wc.cell? ⟨gb183, 1, none⟩ = some (.int .i64 a0_1) := (qb0 BK183.out 1).trans rfl
       have hcz22_2 : wc.cell? ⟨gb183, 2, none⟩ = some (.slice A0_2 l0_2.length c0_2) := (qb0 BK183.out 2).trans rfl
       have hcz22_3 : wc.cell? ⟨gb183, 3, none⟩ = some (.int .i64 a0_3) := (qb0 BK183.out 3).trans rfl
       have hfz22_0 := qa0 BK183.out 0
       have hfz22_1 := qa0 BK183.out 1
       have hfz22_2 := qa0 BK183.out 2
       have hfz22_3 := qa0 BK183.out 3
       go_wp2
       go_meet
       case rel => exact ⟨_, (decide ((l0_2.length : Int) > 1)), z4_6, H', ⟨by have := HJ1.out; have := HJ9.out; first | omega | exact Nat.le_refl _⟩, ⟨z4_2⟩, ⟨z4_0⟩⟩
      rw [if_neg c21] at H
      have c21b0 : decide (3 ≤ a0_0) = false := decide_eq_false c21
      clear c21
      (first | rw [c21b0] | (simp only [i64_w, i32_w]; rw [c21b0]) | skip)
      have H' := Aside0.mk H
      clear H
      have hcz23_0 : wc.cell? ⟨gb183, 0, none⟩ = some (.int .i64 a0_0) := (qb0 BK183.out 0).trans rfl
      have hcz23_1 : wc.cell? ⟨gb183, 1, none⟩ = some (.int .i64 a0_1) := (qb0 BK183.out 1).trans rfl
      have hcz23_2 : wc.cell? ⟨gb183, 2, none⟩ = some (.slice A0_2 l0_2.length c0_2) := (qb0 BK183.out 2).trans rfl
      have hcz23_3 : wc.cell? ⟨gb183, 3, none⟩ = some (.int .i64 a0_3) := (qb0 BK183.out 3).trans rfl
      have hfz23_0 := qa0 BK183.out 0
      have hfz23_1 := qa0 BK183.out 1
      have hfz23_2 := qa0 BK183.out 2
      have hfz23_3 := qa0 BK183.out 3
      go_wp2
      go_meet
      case rel => exact ⟨_, (false), z4_6, H', ⟨by have := HJ1.out; have := HJ9.out; first | omega | exact Nat.le_refl _⟩, ⟨z4_2⟩, ⟨z4_0⟩⟩
     case rest =>
      clear HC20
      try clear c1
      try clear c2
      try clear p2
      try clear c3
      try clear c5
      try clear c9
      try clear c11
      try clear c11b0
      try clear c11b1
      try clear c13
      try clear c16
      try clear c16b0
      try clear c16b1
      try clear c19
      try clear c21
      try clear c21b0
      try clear hcz14_0
      try clear hcz14_1
      try clear hcz14_2
      try clear hcz14_3
      try clear hcz15_0
      try clear hcz15_1
      try clear hcz15_2
      try clear hcz15_3
      try clear hcz17_0
      try clear hcz17_1
      try clear hcz17_2
      try clear hcz17_3
      try clear hcz18_0
      try clear hcz18_1
      try clear hcz18_2
      try clear hcz18_3
      try clear hcz22_0
      try clear hcz22_1
      try clear hcz22_2
      try clear hcz22_3
      try clear hcz23_0
      try clear hcz23_1
      try clear hcz23_2
      try clear hcz23_3
      try clear hcz7_0
      try clear hcz7_1
      try clear hcz7_2
      try clear hcz7_3
      try clear hcz8_0
      try clear hcz8_1
      try clear hcz8_2
      try clear hcz8_3
      try clear hfz14_0
      try clear hfz14_1
      try clear hfz14_2
      try clear hfz14_3
      try clear hfz15_0
      try clear hfz15_1
      try clear hfz15_2
      try clear hfz15_3
      try clear hfz17_0
      try clear hfz17_1
      try clear hfz17_2
      try clear hfz17_3
      try clear hfz18_0
      try clear hfz18_1
      try clear hfz18_2
      try clear hfz18_3
      try clear hfz22_0
      try clear hfz22_1
      try clear hfz22_2
      try clear hfz22_3
      try clear hfz23_0
      try clear hfz23_1
      try clear hfz23_2
      try clear hfz23_3
      try clear hfz7_0
      try clear hfz7_1
      try clear hfz7_2
      try clear hfz7_3
      try clear hfz8_0
      try clear hfz8_1
      try clear hfz8_2
      try clear hfz8_3
      try clear p2
      obtain ⟨kq, x49_19, rfl, HA, HJ19, BK183, HB⟩ := hcut
      cases kq with
      | zero => exact absurd HA.out (by simp [impl_WorthOk.j2])
      | succ kj19 =>
       have H := HA.out
       clear HA
       simp only [impl_WorthOk.j2] at H
       by_cases c24 : x49_19 = true
       ·subst c24
        have H1 : (some false) = some r := by rw [if_pos rfl] at H; exact H
        clear H
        have H := H1
        clear H1
        obtain rfl := Option.some.inj H
        go_wp2
        go_ret
        exact ⟨z4_7, z4_0⟩
       replace c24 := Bool.eq_false_iff.mpr c24
       subst c24
       have H1 : (impl_WorthOk.l0 kj19 0 0 l0_2 (l0_2.length : Int) 0 a0_0 a0_1 l0_2 a0_3) = some r := by rw [if_neg (show ¬ (false = true) by decide)] at H; exact H
       clear H
       have H := H1
       clear H1
       have H' := Aside0.mk H
       clear H
       have hcz25_0 : wc.cell? ⟨gb183, 0, none⟩ = some (.int .i64 a0_0) := (qb0 BK183.out 0).trans rfl
       have hcz25_1 : wc.cell? ⟨gb183, 1, none⟩ = some (.int .i64 a0_1) := (qb0 BK183.out 1).trans rfl
       have hcz25_2 : wc.cell? ⟨gb183, 2, none⟩ = some (.slice A0_2 l0_2.length c0_2) := (qb0 BK183.out 2).trans rfl
       have hcz25_3 : wc.cell? ⟨gb183, 3, none⟩ = some (.int .i64 a0_3) := (qb0 BK183.out 3).trans rfl
       have hfz25_0 := qa0 BK183.out 0
       have hfz25_1 := qa0 BK183.out 1
       have hfz25_2 := qa0 BK183.out 2
       have hfz25_3 := qa0 BK183.out 3
       go_wp2
       go_loopg [3, 4, 53] kj19 (fun kq v3 v4 v53 w' => ∃ (x3_4 : Int) (x4_4 : Int) (x53_4 : Int), v3 = .int .i64 x3_4 ∧ v4 = .int .i64 x4_4 ∧ v53 = .int .i64 x53_4 ∧ Aside0 (impl_WorthOk.l0 kq x3_4 x4_4 l0_2 (l0_2.length : Int) x53_4 a0_0 a0_1 l0_2 a0_3 = some r) ∧ Aside0 (kq ≤ kj19) ∧ Aside0 (w'.heap[gb183]? = some (.cells #[.int .i64 a0_0, .int .i64 a0_1, (.slice A0_2 l0_2.length c0_2), .int .i64 a0_3] 37 (0, 0))) ∧ Aside0 (Below w.heap.size w w'))
       case atStart => exact ⟨(0), (0), (0), z4_6, z4_6, z4_6, H', ⟨Nat.le_refl _⟩, ⟨z4_2⟩, ⟨z4_0⟩⟩
       case round =>
        clear H'
        try clear c1
        try clear c2
        try clear p2
        try clear c3
        try clear c5
        try clear c9
        try clear c11
        try clear c11b0
        try clear c11b1
        try clear c13
        try clear c16
        try clear c16b0
        try clear c16b1
        try clear c19
        try clear c21
        try clear c21b0
        try clear c24
        try clear hcz14_0
        try clear hcz14_1
        try clear hcz14_2
        try clear hcz14_3
        try clear hcz15_0
        try clear hcz15_1
        try clear hcz15_2
        try clear hcz15_3
        try clear hcz17_0
        try clear hcz17_1
        try clear hcz17_2
        try clear hcz17_3
        try clear hcz18_0
        try clear hcz18_1
        try clear hcz18_2
        try clear hcz18_3
        try clear hcz22_0
        try clear hcz22_1
        try clear hcz22_2
        try clear hcz22_3
        try clear hcz23_0
        try clear hcz23_1
        try clear hcz23_2
        try clear hcz23_3
        try clear hcz25_0
        try clear hcz25_1
        try clear hcz25_2
        try clear hcz25_3
        try clear hcz7_0
        try clear hcz7_1
        try clear hcz7_2
        try clear hcz7_3
        try clear hcz8_0
        try clear hcz8_1
        try clear hcz8_2
        try clear hcz8_3
        try clear hfz14_0
        try clear hfz14_1
        try clear hfz14_2
        try clear hfz14_3
        try clear hfz15_0
        try clear hfz15_1
        try clear hfz15_2
        try clear hfz15_3
        try clear hfz17_0
        try clear hfz17_1
        try clear hfz17_2
        try clear hfz17_3
        try clear hfz18_0
        try clear hfz18_1
        try clear hfz18_2
        try clear hfz18_3
        try clear hfz22_0
        try clear hfz22_1
        try clear hfz22_2
        try clear hfz22_3
        try clear hfz23_0
        try clear hfz23_1
        try clear hfz23_2
        try clear hfz23_3
        try clear hfz25_0
        try clear hfz25_1
        try clear hfz25_2
        try clear hfz25_3
        try clear hfz7_0
        try clear hfz7_1
        try clear hfz7_2
        try clear hfz7_3
        try clear hfz8_0
        try clear hfz8_1
        try clear hfz8_2
        try clear hfz8_3
        try clear p2
        obtain ⟨x3_4, x4_4, x53_4, rfl, rfl, rfl, HA, HK4, BK183, HB⟩ := hrel
        cases gk with
        | zero => exact absurd HA.out (by simp [impl_WorthOk.l0])
        | succ k4 =>
         have H := HA.out
         clear HA
         simp only [impl_WorthOk.l0] at H
         by_cases c26 : x53_4 < (l0_2.length : Int)
         ·rw [if_pos c26] at H
          have c26b0 : decide (x53_4 < (l0_2.length : Int)) = true := decide_eq_true c26
          clear c26
          by_cases c27 : 0 ≤ x53_4
          case neg => rw [if_neg c27] at H; exact absurd H (by simp)
          rw [if_pos c27] at H
          have c27b0 : decide (0 ≤ x53_4) = true := decide_eq_true c27
          clear c27
          by_cases c28 : x53_4 < (l0_2.length : Int)
          case neg => rw [if_neg c28] at H; exact absurd H (by simp)
          rw [if_pos c28] at H
          have c28b0 : decide (x53_4 < (l0_2.length : Int)) = true := decide_eq_true c28
          clear c28
          have HC29 := Aside0.mk H
          clear H
          have p187 : 0 ≤ (x53_4 : Int) := of_decide_eq_true (by first | (with_reducible assumption) | assumption)
          have q187 : x53_4 < (l0_2.length : Int) := of_decide_eq_true (by first | (with_reducible assumption) | assumption)
          obtain ⟨ad187, e187, hx187_0, hx187_1⟩ := at_T59 HR0_2.out x53_4 p187 q187
          cases e187
          replace hx187_0 := (HB.out.cell (World.block_lt_of_cell? w _ hx187_0)).trans hx187_0
          replace hx187_1 := (HB.out.cell (World.block_lt_of_cell? w _ hx187_1)).trans hx187_1
          replace p187 := eq_true p187
          replace q187 := eq_true q187
          go_upto_region 11 with (first | ((with_reducible refine qr0 (N := 6) rfl ?_); (try (refine gate_guard (by rfl) ?_; dsimp only)); refine qo0 ?hg (N := 6) ?hd (cs := #[.int .i64 0, .int .i64 0]) (t := 59) ?hr ?_; (case hd => rfl); (case hg => rfl); (case hr => first | (go_simp; done) | (go_simp; rfl)); intro gb188 hg w30 hbox hb; have n0_ := Aside0.mk (qf0 (g := gb183) (o := .cells #[.int .i64 a0_0, .int .i64 a0_1, .slice (some ad187) l0_2.length c0_2, .int .i64 a0_3] 37 (0, 0)) z4_2 hb); have n1_ := Aside0.mk (qg0 z4_0 hb); have n2_ := Aside0.mk (hbox); have n3_ := Aside0.mk ((z4_11 : w.heap.size ≤ gb188)); have n4_ := Aside0.mk ((z4_11 : w.heap.size ≤ gb188)); have n5_ := Aside0.mk ((by rw [hg]; exact Nat.ne_of_lt (qe1 (g := gb183) (o := .cells #[.int .i64 a0_0, .int .i64 a0_1, .slice (some ad187) l0_2.length c0_2, .int .i64 a0_3] 37 (0, 0)) z4_2) : gb183 ≠ gb188)); have n6_ := Aside0.mk ((by rw [hg]; exact Nat.ne_of_gt (qe1 (g := gb183) (o := .cells #[.int .i64 a0_0, .int .i64 a0_1, .slice (some ad187) l0_2.length c0_2, .int .i64 a0_3] 37 (0, 0)) z4_2) : gb188 ≠ gb183)); clear BK183; clear HB; have BK183 := n0_; have HB := n1_; have BK188 := n2_; have GW188 := n3_; have GE188 := n4_; have NB183_188 := n5_; have NB188_183 := n6_; clear n0_ n1_ n2_ n3_ n4_ n5_ n6_; clear hb hbox hg; have hnb31 := NB188_183.out; have hnc31 := NB183_188.out; have hcz32_0 : w30.cell? ⟨gb188, 0, none⟩ = some (.int .i64 0) := (qb0 BK188.out 0).trans rfl; have hcz32_1 : w30.cell? ⟨gb188, 1, none⟩ = some (.int .i64 0) := (qb0 BK188.out 1).trans rfl; have hfz32_0 := qa0 BK188.out 0; have hfz32_1 := qa0 BK188.out 1))
          (try simp only [Act.put, List.setIfInBounds_toArray, List.set_cons_zero, List.set_cons_succ])
          go_cut [79] (fun v79 wc => ∃ (kq : Nat) (x79_28 : Bool), v79 = .bool x79_28 ∧ Aside0 (impl_WorthOk.j4 kq x3_4 x4_4 l0_2 (l0_2.length : Int) x53_4 x79_28 a0_0 a0_1 l0_2 a0_3 ((rd_T59 l0_2 x53_4).f0) ((rd_T59 l0_2 x53_4).f1) = some r) ∧ Aside0 (kq ≤ k4) ∧ Aside0 (wc.heap[gb183]? = some (.cells #[.int .i64 a0_0, .int .i64 a0_1, (.slice (some ad187) l0_2.length c0_2), .int .i64 a0_3] 37 (0, 0))) ∧ Aside0 (wc.heap[gb188]? = some (.cells #[.int .i64 ((rd_T59 l0_2 x53_4).f0), .int .i64 ((rd_T59 l0_2 x53_4).f1)] 59 (0, 0))) ∧ Aside0 (Below w.heap.size w wc))
          case first =>
           have H := HC29.out
           clear HC29
           replace H := Option.bind_eq_some_iff.mp H
           obtain ⟨t189, A330, H⟩ := H
           replace H : (if t189 = true then (if ((rd_T59 l0_2 x53_4).f0) > 1000000 then (impl_WorthOk.j4 k4 x3_4 x4_4 l0_2 (l0_2.length : Int) x53_4 true a0_0 a0_1 l0_2 a0_3 ((rd_T59 l0_2 x53_4).f0) ((rd_T59 l0_2 x53_4).f1)) else (if a0_0 = 4 then (impl_WorthOk.j4 k4 x3_4 x4_4 l0_2 (l0_2.length : Int) x53_4 (((rd_T59 l0_2 x53_4).f1) != (wrap64 (((rd_T59 l0_2 x53_4).f0) * a0_1))) a0_0 a0_1 l0_2 a0_3 ((rd_T59 l0_2 x53_4).f0) ((rd_T59 l0_2 x53_4).f1)) else (impl_WorthOk.j4 k4 x3_4 x4_4 l0_2 (l0_2.length : Int) x53_4 false a0_0 a0_1 l0_2 a0_3 ((rd_T59 l0_2 x53_4).f0) ((rd_T59 l0_2 x53_4).f1)))) else (impl_WorthOk.j4 k4 x3_4 x4_4 l0_2 (l0_2.length : Int) x53_4 true a0_0 a0_1 l0_2 a0_3 ((rd_T59 l0_2 x53_4).f0) ((rd_T59 l0_2 x53_4).f1))) = some r := H
           have A33 := Aside0.mk A330
           clear A330
           by_cases c34 : t189 = true
           ·subst c34
            have H1 : (if ((rd_T59 l0_2 x53_4).f0) > 1000000 then (impl_WorthOk.j4 k4 x3_4 x4_4 l0_2 (l0_2.length : Int) x53_4 true a0_0 a0_1 l0_2 a0_3 ((rd_T59 l0_2 x53_4).f0) ((rd_T59 l0_2 x53_4).f1)) else (if a0_0 = 4 then (impl_WorthOk.j4 k4 x3_4 x4_4 l0_2 (l0_2.length : Int) x53_4 (((rd_T59 l0_2 x53_4).f1) != (wrap64 (((rd_T59 l0_2 x53_4).f0) * a0_1))) a0_0 a0_1 l0_2 a0_3 ((rd_T59 l0_2 x53_4).f0) ((rd_T59 l0_2 x53_4).f1)) else (impl_WorthOk.j4 k4 x3_4 x4_4 l0_2 (l0_2.length : Int) x53_4 false a0_0 a0_1 l0_2 a0_3 ((rd_T59 l0_2 x53_4).f0) ((rd_T59 l0_2 x53_4).f1)))) = some r := by rw [if_pos rfl] at H; exact H
            clear H
            have H := H1
            clear H1
            by_cases c35 : ((rd_T59 l0_2 x53_4).f0) > 1000000
            ·rw [if_pos c35] at H
             have c35b0 : decide (1000000 < ((rd_T59 l0_2 x53_4).f0)) = true := decide_eq_true c35
             clear c35
             (first | rw [c35b0] | (simp only [i64_w, i32_w]; rw [c35b0]) | skip)
             have H' := Aside0.mk H
             clear H
             have hnb36 := NB188_183.out
             have hnc36 := NB183_188.out
             have hcz37_0 : w30.cell? ⟨gb188, 0, none⟩ = some (.int .i64 0) := (qb0 BK188.out 0).trans rfl
             have hcz37_1 : w30.cell? ⟨gb188, 1, none⟩ = some (.int .i64 0) := (qb0 BK188.out 1).trans rfl
             have hfz37_0 := qa0 BK188.out 0
             have hfz37_1 := qa0 BK188.out 1
             go_wp2_with (first | ((with_reducible refine qj0 (f := 56) rfl ?_); refine qy0 (some 58) rfl rfl Try.func56 (by kernel_rfl) rfl #[.agg #[.int .i64 ((rd_T59 l0_2 x53_4).f0), .int .i64 ((rd_T59 l0_2 x53_4).f1)]] rfl z4_5 ?_; (with_reducible refine (impl_layOk.calls ((rd_T59 l0_2 x53_4).f0) ((rd_T59 l0_2 x53_4).f1) true _ A33.out).mono ?_); rintro e w38 ⟨rfl, hb⟩; refine ⟨_, rfl, ?_⟩; have n0_ := Aside0.mk (qf0 (g := gb183) (o := .cells #[.int .i64 a0_0, .int .i64 a0_1, .slice (some ad187) l0_2.length c0_2, .int .i64 a0_3] 37 (0, 0)) z4_4 hb); have n1_ := Aside0.mk (qf0 (g := gb188) (o := .cells #[.int .i64 ((rd_T59 l0_2 x53_4).f0), .int .i64 ((rd_T59 l0_2 x53_4).f1)] 59 (0, 0)) z4_3 hb); have n2_ := Aside0.mk (qg0 z4_1 hb); clear BK183; clear BK188; clear HB; have BK183 := n0_; have BK188 := n1_; have HB := n2_; clear n0_ n1_ n2_; (try clear hb); (try clear hb2); (try clear hk); (try clear hi); have hcz39_0 : w38.cell? ⟨gb188, 0, none⟩ = some (.int .i64 ((rd_T59 l0_2 x53_4).f0)) := (qb0 BK188.out 0).trans rfl; have hcz39_1 : w38.cell? ⟨gb188, 1, none⟩ = some (.int .i64 ((rd_T59 l0_2 x53_4).f1)) := (qb0 BK188.out 1).trans rfl; have hfz39_0 := qa0 BK188.out 0; have hfz39_1 := qa0 BK188.out 1))
             go_meet
             case rel => exact ⟨_, (true), z4_6, H', ⟨z4_9⟩, ⟨z4_2⟩, ⟨z4_8⟩, ⟨z4_1⟩⟩
            rw [if_neg c35] at H
            have c35b0 : decide (1000000 < ((rd_T59 l0_2 x53_4).f0)) = false := decide_eq_false c35
            clear c35
            (first | rw [c35b0] | (simp only [i64_w, i32_w]; rw [c35b0]) | skip)
            by_cases c40 : a0_0 = 4
            ·rw [if_pos c40] at H
             have c40b0 : (a0_0 == 4) = true := beq_iff_eq.mpr c40
             have c40b1 : (a0_0 != 4) = false := bne_eq_false_iff_eq.mpr c40
             clear c40
             have H' := Aside0.mk H
             clear H
             have hnb41 := NB188_183.out
             have hnc41 := NB183_188.out
             have hcz42_0 : w30.cell? ⟨gb188, 0, none⟩ = some (.int .i64 0) := (qb0 BK188.out 0).trans rfl
             have hcz42_1 : w30.cell? ⟨gb188, 1, none⟩ = some (.int .i64 0) := (qb0 BK188.out 1).trans rfl
             have hfz42_0 := qa0 BK188.out 0
             have hfz42_1 := qa0 BK188.out 1
             go_wp2_with (first | ((with_reducible refine qj0 (f := 56) rfl ?_); refine qy0 (some 58) rfl rfl Try.func56 (by kernel_rfl) rfl #[.agg #[.int .i64 ((rd_T59 l0_2 x53_4).f0), .int .i64 ((rd_T59 l0_2 x53_4).f1)]] rfl z4_5 ?_; (with_reducible refine (impl_layOk.calls ((rd_T59 l0_2 x53_4).f0) ((rd_T59 l0_2 x53_4).f1) true _ A33.out).mono ?_); rintro e w43 ⟨rfl, hb⟩; refine ⟨_, rfl, ?_⟩; have n0_ := Aside0.mk (qf0 (g := gb183) (o := .cells #[.int .i64 a0_0, .int .i64 a0_1, .slice (some ad187) l0_2.length c0_2, .int .i64 a0_3] 37 (0, 0)) z4_4 hb); have n1_ := Aside0.mk (qf0 (g := gb188) (o := .cells #[.int .i64 ((rd_T59 l0_2 x53_4).f0), .int .i64 ((rd_T59 l0_2 x53_4).f1)] 59 (0, 0)) z4_3 hb); have n2_ := Aside0.mk (qg0 z4_1 hb); clear BK183; clear BK188; clear HB; have BK183 := n0_; have BK188 := n1_; have HB := n2_; clear n0_ n1_ n2_; (try clear hb); (try clear hb2); (try clear hk); (try clear hi); have hcz44_0 : w43.cell? ⟨gb188, 0, none⟩ = some (.int .i64 ((rd_T59 l0_2 x53_4).f0)) := (qb0 BK188.out 0).trans rfl; have hcz44_1 : w43.cell? ⟨gb188, 1, none⟩ = some (.int .i64 ((rd_T59 l0_2 x53_4).f1)) := (qb0 BK188.out 1).trans rfl; have hfz44_0 := qa0 BK188.out 0; have hfz44_1 := qa0 BK188.out 1; have hcz45_0 : w43.cell? ⟨gb183, 0, none⟩ = some (.int .i64 a0_0) := (qb0 BK183.out 0).trans rfl; have hcz45_1 : w43.cell? ⟨gb183, 1, none⟩ = some (.int .i64 a0_1) := (qb0 BK183.out 1).trans rfl; have hcz45_2 : w43.cell? ⟨gb183, 2, none⟩ = some (.slice (some ad187) l0_2.length c0_2) := (qb0 BK183.out 2).trans rfl; have hcz45_3 : w43.cell? ⟨gb183, 3, none⟩ = some (.int .i64 a0_3) := (qb0 BK183.out 3).trans rfl; have hfz45_0 := qa0 BK183.out 0; have hfz45_1 := qa0 BK183.out 1; have hfz45_2 := qa0 BK183.out 2; have hfz45_3 := qa0 BK183.out 3))
             go_meet
             case rel => exact ⟨_, ((((rd_T59 l0_2 x53_4).f1) != (wrap64 (((rd_T59 l0_2 x53_4).f0) * a0_1)))), z4_6, H', ⟨z4_9⟩, ⟨z4_2⟩, ⟨z4_8⟩, ⟨z4_1⟩⟩
            rw [if_neg c40] at H
            have c40b0 : (a0_0 == 4) = false := beq_eq_false_iff_ne.mpr c40
            have c40b1 : (a0_0 != 4) = true := bne_iff_ne.mpr c40
            have H' := Aside0.mk H
            clear H
            have hnb46 := NB188_183.out
            have hnc46 := NB183_188.out
            have hcz47_0 : w30.cell? ⟨gb188, 0, none⟩ = some (.int .i64 0) := (qb0 BK188.out 0).trans rfl
            have hcz47_1 : w30.cell? ⟨gb188, 1, none⟩ = some (.int .i64 0) := (qb0 BK188.out 1).trans rfl
            have hfz47_0 := qa0 BK188.out 0
            have hfz47_1 := qa0 BK188.out 1
            go_wp2_with (first | ((with_reducible refine qj0 (f := 56) rfl ?_); refine qy0 (some 58) rfl rfl Try.func56 (by kernel_rfl) rfl #[.agg #[.int .i64 ((rd_T59 l0_2 x53_4).f0), .int .i64 ((rd_T59 l0_2 x53_4).f1)]] rfl z4_5 ?_; (with_reducible refine (impl_layOk.calls ((rd_T59 l0_2 x53_4).f0) ((rd_T59 l0_2 x53_4).f1) true _ A33.out).mono ?_); rintro e w48 ⟨rfl, hb⟩; refine ⟨_, rfl, ?_⟩; have n0_ := Aside0.mk (qf0 (g := gb183) (o := .cells #[.int .i64 a0_0, .int .i64 a0_1, .slice (some ad187) l0_2.length c0_2, .int .i64 a0_3] 37 (0, 0)) z4_4 hb); have n1_ := Aside0.mk (qf0 (g := gb188) (o := .cells #[.int .i64 ((rd_T59 l0_2 x53_4).f0), .int .i64 ((rd_T59 l0_2 x53_4).f1)] 59 (0, 0)) z4_3 hb); have n2_ := Aside0.mk (qg0 z4_1 hb); clear BK183; clear BK188; clear HB; have BK183 := n0_; have BK188 := n1_; have HB := n2_; clear n0_ n1_ n2_; (try clear hb); (try clear hb2); (try clear hk); (try clear hi); have hcz49_0 : w48.cell? ⟨gb188, 0, none⟩ = some (.int .i64 ((rd_T59 l0_2 x53_4).f0)) := (qb0 BK188.out 0).trans rfl; have hcz49_1 : w48.cell? ⟨gb188, 1, none⟩ = some (.int .i64 ((rd_T59 l0_2 x53_4).f1)) := (qb0 BK188.out 1).trans rfl; have hfz49_0 := qa0 BK188.out 0; have hfz49_1 := qa0 BK188.out 1; have hcz50_0 : w48.cell? ⟨gb183, 0, none⟩ = some (.int .i64 a0_0) := (qb0 BK183.out 0).trans rfl; have hcz50_1 : w48.cell? ⟨gb183, 1, none⟩ = some (.int .i64 a0_1) := (qb0 BK183.out 1).trans rfl; have hcz50_2 : w48.cell? ⟨gb183, 2, none⟩ = some (.slice (some ad187) l0_2.length c0_2) := (qb0 BK183.out 2).trans rfl; have hcz50_3 : w48.cell? ⟨gb183, 3, none⟩ = some (.int .i64 a0_3) := (qb0 BK183.out 3).trans rfl; have hfz50_0 := qa0 BK183.out 0; have hfz50_1 := qa0 BK183.out 1; have hfz50_2 := qa0 BK183.out 2; have hfz50_3 := qa0 BK183.out 3))
            go_meet
            case rel => exact ⟨_, (false), z4_6, H', ⟨z4_9⟩, ⟨z4_2⟩, ⟨z4_8⟩, ⟨z4_1⟩⟩
           replace c34 := Bool.eq_false_iff.mpr c34
           subst c34
           have H1 : (impl_WorthOk.j4 k4 x3_4 x4_4 l0_2 (l0_2.length : Int) x53_4 true a0_0 a0_1 l0_2 a0_3 ((rd_T59 l0_2 x53_4).f0) ((rd_T59 l0_2 x53_4).f1)) = some r := by rw [if_neg (show ¬ (false = true) by decide)] at H; exact H
           clear H
           have H := H1
           clear H1
           have H' := Aside0.mk H
           clear H
           have hnb51 := NB188_183.out
           have hnc51 := NB183_188.out
           have hcz52_0 : w30.cell? ⟨gb188, 0, none⟩ = some (.int .i64 0) := (qb0 BK188.out 0).trans rfl
           have hcz52_1 : w30.cell? ⟨gb188, 1, none⟩ = some (.int .i64 0) := (qb0 BK188.out 1).trans rfl
           have hfz52_0 := qa0 BK188.out 0
           have hfz52_1 := qa0 BK188.out 1
           go_wp2_with (first | ((with_reducible refine qj0 (f := 56) rfl ?_); refine qy0 (some 58) rfl rfl Try.func56 (by kernel_rfl) rfl #[.agg #[.int .i64 ((rd_T59 l0_2 x53_4).f0), .int .i64 ((rd_T59 l0_2 x53_4).f1)]] rfl z4_5 ?_; (with_reducible refine (impl_layOk.calls ((rd_T59 l0_2 x53_4).f0) ((rd_T59 l0_2 x53_4).f1) false _ A33.out).mono ?_); rintro e w53 ⟨rfl, hb⟩; refine ⟨_, rfl, ?_⟩; have n0_ := Aside0.mk (qf0 (g := gb183) (o := .cells #[.int .i64 a0_0, .int .i64 a0_1, .slice (some ad187) l0_2.length c0_2, .int .i64 a0_3] 37 (0, 0)) z4_4 hb); have n1_ := Aside0.mk (qf0 (g := gb188) (o := .cells #[.int .i64 ((rd_T59 l0_2 x53_4).f0), .int .i64 ((rd_T59 l0_2 x53_4).f1)] 59 (0, 0)) z4_3 hb); have n2_ := Aside0.mk (qg0 z4_1 hb); clear BK183; clear BK188; clear HB; have BK183 := n0_; have BK188 := n1_; have HB := n2_; clear n0_ n1_ n2_; (try clear hb); (try clear hb2); (try clear hk); (try clear hi)))
           go_meet
           case rel => exact ⟨_, (true), z4_6, H', ⟨z4_9⟩, ⟨z4_2⟩, ⟨z4_8⟩, ⟨z4_1⟩⟩
          case rest =>
           clear HC29
           try clear c1
           try clear p1
           try clear q1
           try clear hx1
           try clear c2
           try clear p2
           try clear c3
           try clear c4
           try clear c5
           try clear p6
           try clear c9
           try clear c11
           try clear c11b0
           try clear c11b1
           try clear c13
           try clear c16
           try clear c16b0
           try clear c16b1
           try clear p18
           try clear q18
           try clear hx18
           try clear c19
           try clear c21
           try clear c21b0
           try clear c24
           try clear c26
           try clear c26b0
           try clear c27
           try clear c27b0
           try clear c28
           try clear c28b0
           try clear c31
           try clear c34
           try clear c35
           try clear c35b0
           try clear c36
           try clear c40
           try clear c40b0
           try clear c40b1
           try clear c41
           try clear c46
           try clear c51
           try clear hcz14_0
           try clear hcz14_1
           try clear hcz14_2
           try clear hcz14_3
           try clear hcz15_0
           try clear hcz15_1
           try clear hcz15_2
           try clear hcz15_3
           try clear hcz17_0
           try clear hcz17_1
           try clear hcz17_2
           try clear hcz17_3
           try clear hcz18_0
           try clear hcz18_1
           try clear hcz18_2
           try clear hcz18_3
           try clear hcz22_0
           try clear hcz22_1
           try clear hcz22_2
           try clear hcz22_3
           try clear hcz23_0
           try clear hcz23_1
           try clear hcz23_2
           try clear hcz23_3
           try clear hcz25_0
           try clear hcz25_1
           try clear hcz25_2
           try clear hcz25_3
           try clear hcz32_0
           try clear hcz32_1
           try clear hcz37_0
           try clear hcz37_1
           try clear hcz39_0
           try clear hcz39_1
           try clear hcz42_0
           try clear hcz42_1
           try clear hcz44_0
           try clear hcz44_1
           try clear hcz45_0
           try clear hcz45_1
           try clear hcz45_2
           try clear hcz45_3
           try clear hcz47_0
           try clear hcz47_1
           try clear hcz49_0
           try clear hcz49_1
           try clear hcz50_0
           try clear hcz50_1
           try clear hcz50_2
           try clear hcz50_3
           try clear hcz52_0
           try clear hcz52_1
           try clear hcz7_0
           try clear hcz7_1
           try clear hcz7_2
           try clear hcz7_3
           try clear hcz8_0
           try clear hcz8_1
           try clear hcz8_2
           try clear hcz8_3
           try clear hfz14_0
           try clear hfz14_1
           try clear hfz14_2
           try clear hfz14_3
           try clear hfz15_0
           try clear hfz15_1
           try clear hfz15_2
           try clear hfz15_3
           try clear hfz17_0
           try clear hfz17_1
           try clear hfz17_2
           try clear hfz17_3
           try clear hfz18_0
           try clear hfz18_1
           try clear hfz18_2
           try clear hfz18_3
           try clear hfz22_0
           try clear hfz22_1
           try clear hfz22_2
           try clear hfz22_3
           try clear hfz23_0
           try clear hfz23_1
           try clear hfz23_2
           try clear hfz23_3
           try clear hfz25_0
           try clear hfz25_1
           try clear hfz25_2
           try clear hfz25_3
           try clear hfz32_0
           try clear hfz32_1
           try clear hfz37_0
           try clear hfz37_1
           try clear hfz39_0
           try clear hfz39_1
           try clear hfz42_0
           try clear hfz42_1
           try clear hfz44_0
           try clear hfz44_1
           try clear hfz45_0
           try clear hfz45_1
           try clear hfz45_2
           try clear hfz45_3
           try clear hfz47_0
           try clear hfz47_1
           try clear hfz49_0
           try clear hfz49_1
           try clear hfz50_0
           try clear hfz50_1
           try clear hfz50_2
           try clear hfz50_3
           try clear hfz52_0
           try clear hfz52_1
           try clear hfz7_0
           try clear hfz7_1
           try clear hfz7_2
           try clear hfz7_3
           try clear hfz8_0
           try clear hfz8_1
           try clear hfz8_2
           try clear hfz8_3
           try clear hx187_0
           try clear hx187_1
           try clear p187
           try clear p2
           try clear q187
           obtain ⟨kq, x79_28, rfl, HA, HJ28, BK183, BK188, HB⟩ := hcut
           cases kq with
           | zero => exact absurd HA.out (by simp [impl_WorthOk.j4])
           | succ kj28 =>
            have H := HA.out
            clear HA
            simp only [impl_WorthOk.j4] at H
            by_cases c54 : x79_28 = true
            ·subst c54
             have H1 : (some false) = some r := by rw [if_pos rfl] at H; exact H
             clear H
             have H := H1
             clear H1
             obtain rfl := Option.some.inj H
             go_wp2
             go_ret
             exact ⟨z4_7, z4_1⟩
            replace c54 := Bool.eq_false_iff.mpr c54
            subst c54
            have H1 : (if (wrap64 (x3_4 + ((rd_T59 l0_2 x53_4).f0))) > 1000000 then (some false) else (if (wrap64 (x4_4 + ((rd_T59 l0_2 x53_4).f1))) > 100000000000 then (some false) else (impl_WorthOk.l0 kj28 (wrap64 (x3_4 + ((rd_T59 l0_2 x53_4).f0))) (wrap64 (x4_4 + ((rd_T59 l0_2 x53_4).f1))) l0_2 (l0_2.length : Int) (wrap64 (x53_4 + 1)) a0_0 a0_1 l0_2 a0_3))) = some r := by rw [if_neg (show ¬ (false = true) by decide)] at H; exact H
            clear H
            have H := H1
            clear H1
            by_cases c55 : (wrap64 (x3_4 + ((rd_T59 l0_2 x53_4).f0))) > 1000000
            ·rw [if_pos c55] at H
             have c55b0 : decide (1000000 < (wrap64 (x3_4 + ((rd_T59 l0_2 x53_4).f0)))) = true := decide_eq_true c55
             clear c55
             obtain rfl := Option.some.inj H
             have hnb56 := NB188_183.out
             have hnc56 := NB183_188.out
             have hcz57_0 : wc.cell? ⟨gb188, 0, none⟩ = some (.int .i64 ((rd_T59 l0_2 x53_4).f0)) := (qb0 BK188.out 0).trans rfl
             have hcz57_1 : wc.cell? ⟨gb188, 1, none⟩ = some (.int .i64 ((rd_T59 l0_2 x53_4).f1)) := (qb0 BK188.out 1).trans rfl
             have hfz57_0 := qa0 BK188.out 0
             have hfz57_1 := qa0 BK188.out 1
             go_wp2
             go_ret
             exact ⟨z4_7, z4_1⟩
            rw [if_neg c55] at H
            have c55b0 : decide (1000000 < (wrap64 (x3_4 + ((rd_T59 l0_2 x53_4).f0)))) = false := decide_eq_false c55
            clear c55
            by_cases c58 : (wrap64 (x4_4 + ((rd_T59 l0_2 x53_4).f1))) > 100000000000
            ·rw [if_pos c58] at H
             have c58b0 : decide (100000000000 < (wrap64 (x4_4 + ((rd_T59 l0_2 x53_4).f1)))) = true := decide_eq_true c58
             clear c58
             obtain rfl := Option.some.inj H
             have hnb59 := NB188_183.out
             have hnc59 := NB183_188.out
             have hcz60_0 : wc.cell? ⟨gb188, 0, none⟩ = some (.int .i64 ((rd_T59 l0_2 x53_4).f0)) := (qb0 BK188.out 0).trans rfl
             have hcz60_1 : wc.cell? ⟨gb188, 1, none⟩ = some (.int .i64 ((rd_T59 l0_2 x53_4).f1)) := (qb0 BK188.out 1).trans rfl
             have hfz60_0 := qa0 BK188.out 0
             have hfz60_1 := qa0 BK188.out 1
             go_wp2
             go_ret
             exact ⟨z4_7, z4_1⟩
            rw [if_neg c58] at H
            have c58b0 : decide (100000000000 < (wrap64 (x4_4 + ((rd_T59 l0_2 x53_4).f1)))) = false := decide_eq_false c58
            clear c58
            have H' := Aside0.mk H
            clear H
            have hnb61 := NB188_183.out
            have hnc61 := NB183_188.out
            have hcz62_0 : wc.cell? ⟨gb188, 0, none⟩ = some (.int .i64 ((rd_T59 l0_2 x53_4).f0)) := (qb0 BK188.out 0).trans rfl
            have hcz62_1 : wc.cell? ⟨gb188, 1, none⟩ = some (.int .i64 ((rd_T59 l0_2 x53_4).f1)) := (qb0 BK188.out 1).trans rfl
            have hfz62_0 := qa0 BK188.out 0
            have hfz62_1 := qa0 BK188.out 1
            go_wp2
            go_roundg kj28
            case measure => have := HJ1.out; have := HJ9.out; have := HJ19.out; have := HK4.out; have := HJ28.out; omega
            case rel => exact ⟨(wrap64 (x3_4 + ((rd_T59 l0_2 x53_4).f0))), (wrap64 (x4_4 + ((rd_T59 l0_2 x53_4).f1))), (wrap64 (x53_4 + 1)), z4_6, z4_6, z4_6, H', ⟨by have := HJ1.out; have := HJ9.out; have := HJ19.out; have := HK4.out; have := HJ28.out; omega⟩, ⟨z4_2⟩, ⟨z4_1⟩⟩
         rw [if_neg c26] at H
         have c26b0 : decide (x53_4 < (l0_2.length : Int)) = false := decide_eq_false c26
         clear c26
         obtain rfl := Option.some.inj H
         go_wp2
         go_ret
         exact ⟨z4_7, z4_0⟩

end Go.Proofs.Ytggfggmmecbdnaa.PFnExactTakeIn
