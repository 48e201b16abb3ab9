/- Lines by a program (a changed copy of the kit's print: this repo's wip/tools): Go functions as Lean functions, and proofs that the calls answer so. -/
import Derived.Test.YtggfggmmecbdnaaZPFnWorkBackx0
import Derived.Test.YtggfggmmecbdnaaZPFnWorkBackx2
namespace Go.Proofs.Ytggfggmmecbdnaa.PFnWorkBack
open Go.RowKit Go.Proofs.YtggfggmmecbdnaaW.PrintWords Go.Proofs.YtggfggmmecbdnaaW.PrintLast Go.Proofs.YtggfggmmecbdnaaW.PrintMore
/-- Closing blocks told once. -/
theorem z3_0 {P : Prop} (h : P := by repeat (first | (with_reducible first | exact HB.out | apply qh0 | apply qe0 | apply qi0) | exact HB.out)) : P := h
theorem z3_1 {P : Prop} (h : P := by rw [hg]; exact (below_size (by repeat (first | (with_reducible first | exact HB.out | apply qh0 | apply qe0 | apply qi0) | exact HB.out)))) : P := h
theorem z3_2 {P : Prop} (h : P := by repeat (first | (with_reducible first | exact HB.out | apply qh0 | apply qe0 | apply qi0 | refine qo0 ?_ GE216.out) | exact HB.out)) : P := h
theorem z3_3 {P : Prop} (h : P := by (try simp only [List.map_toArray, List.map_cons, List.map_nil]); first | done | rfl | (simp only [List.length_drop, List.length_take]; rfl)) : P := h
theorem z3_4 {P : Prop} (h : P := by repeat (first | (with_reducible first | exact HB.out | apply qh0 | apply qe0 | apply qi0 | refine qo0 ?_ GE222.out) | exact HB.out)) : P := h
theorem z3_5 {P : Prop} (h : P := by first | (with_reducible assumption) | assumption) : P := h
theorem z3_6 {P : Prop} (h : P := by repeat (first | (with_reducible first | exact HB.out | apply qh0 | apply qe0 | apply qi0 | refine qo0 ?_ GE227.out) | exact HB.out)) : P := h
theorem z3_7 {P : Prop} (h : P := by first | rfl | (simp [errW_none, errW_some] <;> rfl) | (simp [*, errW_none, errW_some] <;> rfl)) : P := h
theorem z3_8 {P : Prop} (h : P := by (with_reducible repeat (first | refine qj0 ?_ _ | refine qk0 ?_ | refine qg0 ?_ _)); exact BK216.out) : P := h
theorem z3_9 {P : Prop} (h : P := by (with_reducible repeat (first | refine qj0 ?_ _ | refine qk0 ?_ | refine qg0 ?_ _)); exact BK222.out) : P := h
theorem z3_10 {P : Prop} (h : P := by first | rfl | (simp; done) | (simp [*]; done)) : P := h
theorem z3_11 {P : Prop} (h : P := by repeat (first | exact (Kd.qd1 HR0_1.out HB.out) | (with_reducible refine Kd.C_alloc ?_ _) | (with_reducible refine Kd.C_drewN ?_ _) | (with_reducible refine Kd.C_drew ?_))) : P := h
theorem z3_12 {P : Prop} (h : P := by (with_reducible repeat (first | refine qj0 ?_ _ | refine qk0 ?_ | refine qg0 ?_ _)); exact BK227.out) : P := h
theorem z3_13 {P : Prop} (h : P := by first | (go_simp; done) | (go_simp; rfl)) : P := h
attribute [local go_sem] max2_int min2_int max_two min_two max_three min_three max_four min_four   -- for this text's walks alone
set_option linter.unusedVariables false
set_option linter.unusedSimpArgs false

/-! ### impl_CalOk: function 24 -/
mutual
def impl_CalOk.j0 : Nat → Bool → Int → List Int → Option (Bool)
 | 0, _, _, _ => none
 | k + 1, x14, x217000, x217001 => if x14 = true then (some false) else (impl_CalOk.l0 k x217001 (x217001.length : Int) 0 x217000 x217001)
def impl_CalOk.l0 : Nat → List Int → Int → Int → Int → List Int → Option (Bool)
 | 0, _, _, _, _, _ => none
 | k + 1, x16, x17, x18, x217000, x217001 => if x18 < x17 then (if 0 ≤ x18 then (if x18 < (x16.length : Int) then ((impl_isDay.f (rd x16 x18)).bind fun t219 => (if t219 = true then (if x18 > 0 then (if 0 ≤ (wrap64 (x18 - 1)) then (if (wrap64 (x18 - 1)) < (x217001.length : Int) then (if (rd x217001 (wrap64 (x18 - 1))) ≥ (rd x16 x18) then (some false) else (impl_CalOk.l0 k x16 x17 (wrap64 (x18 + 1)) x217000 x217001)) else (none)) else (none)) else (impl_CalOk.l0 k x16 x17 (wrap64 (x18 + 1)) x217000 x217001)) else (some false))) else (none)) else (none)) else (some true)
end
def impl_CalOk.f (k : Nat) (a0_0 : Int) (l0_1 : List Int) : Option (Bool) := (impl_between.f a0_0 0 126).bind fun t217 => (if t217 = true then (impl_CalOk.j0 k (decide ((l0_1.length : Int) > 400)) a0_0 l0_1) else (impl_CalOk.j0 k true a0_0 l0_1))
theorem impl_CalOk.mono_l : ∀ k, (∀ y0 y1 y2, LeO (impl_CalOk.j0 k y0 y1 y2) (impl_CalOk.j0 (k + 1) y0 y1 y2)) ∧ (∀ y0 y1 y2 y3 y4, LeO (impl_CalOk.l0 k y0 y1 y2 y3 y4) (impl_CalOk.l0 (k + 1) y0 y1 y2 y3 y4))
 | 0 => ⟨fun _ _ _ r h => by simp [impl_CalOk.j0] at h, fun _ _ _ _ _ r h => by simp [impl_CalOk.l0] at h⟩
 | k + 1 => by
  obtain ⟨ih0, ih1⟩ := impl_CalOk.mono_l k
  refine ⟨?_, ?_⟩
  ·intro y0 y1 y2
   unfold impl_CalOk.j0
   repeat' first
   | (with_reducible exact ih0 _ _ _)
   | (with_reducible exact ih1 _ _ _ _ _)
   | (with_reducible exact LeO.refl _)
   | (with_reducible exact LeO.none _)
   | (with_reducible refine LeO.ite ?_ ?_)
   | (with_reducible refine LeO.bind ?_ (fun _ => ?_))
   | exact ih0 _ _ _
   | exact ih1 _ _ _ _ _
   | exact LeO.none _
   | refine LeO.ite ?_ ?_
   | refine LeO.bind ?_ (fun _ => ?_)
  ·intro y0 y1 y2 y3 y4
   unfold impl_CalOk.l0
   repeat' first
   | (with_reducible exact ih0 _ _ _)
   | (with_reducible exact ih1 _ _ _ _ _)
   | (with_reducible exact LeO.refl _)
   | (with_reducible exact LeO.none _)
   | (with_reducible refine LeO.ite ?_ ?_)
   | (with_reducible refine LeO.bind ?_ (fun _ => ?_))
   | exact ih0 _ _ _
   | exact ih1 _ _ _ _ _
   | exact LeO.none _
   | refine LeO.ite ?_ ?_
   | refine LeO.bind ?_ (fun _ => ?_)
theorem impl_CalOk.mono : ∀ a0 a1 k, LeO (impl_CalOk.f k a0 a1) (impl_CalOk.f (k + 1) a0 a1) := by
 intro a0 a1 k
 obtain ⟨ih0, ih1⟩ := impl_CalOk.mono_l k
 unfold impl_CalOk.f
 repeat' first
   | (with_reducible exact ih0 _ _ _)
   | (with_reducible exact ih1 _ _ _ _ _)
   | (with_reducible exact LeO.refl _)
   | (with_reducible exact LeO.none _)
   | (with_reducible refine LeO.ite ?_ ?_)
   | (with_reducible refine LeO.bind ?_ (fun _ => ?_))
   | exact ih0 _ _ _
   | exact ih1 _ _ _ _ _
   | exact LeO.none _
   | refine LeO.ite ?_ ?_
   | refine LeO.bind ?_ (fun _ => ?_)
set_option maxHeartbeats 8000000 in
set_option maxRecDepth 100000 in
theorem impl_CalOk.calls (k : Nat) (a0_0 : Int) (A0_1 : Option Addr) (c0_1 : Nat) (l0_1 : List Int) (r : Bool) (w : World) (hr0_1 : Kd.C (Kd.int .i64) w A0_1 l0_1.length l0_1) (hc0_1 : l0_1.length ≤ c0_1) (h : impl_CalOk.f k a0_0 l0_1 = some r) :
  Calls Try.prog 24 #[.agg #[.int .i64 a0_0, .slice A0_1 l0_1.length c0_1]] w fun e w' => e = .returned (.bool r) ∧ Below w.heap.size w w' := by
 have hu26 := Try.underlying26
 have HR0_1 := Aside0.mk hr0_1
 have HC0_1 := Aside0.mk hc0_1
 clear hr0_1 hc0_1
 have HB := Aside0.mk (Below.refl w.heap.size w)
 have H : ((impl_between.f a0_0 0 126).bind fun t217 => (if t217 = true then (impl_CalOk.j0 k (decide ((l0_1.length : Int) > 400)) a0_0 l0_1) else (impl_CalOk.j0 k true a0_0 l0_1))) = some r := h
 clear h
 have HC2 := Aside0.mk H
 clear H
 go_enter Try.func24, Try.ntmps24
 go_upto_region 1 with (first | ((with_reducible refine qs0 (N := 1) rfl ?_); (try (refine gate_guard (by rfl) ?_; dsimp only)); refine qr0 ?hg (N := 1) ?hd (cs := #[.int .i64 a0_0, .slice A0_1 l0_1.length c0_1]) (t := 26) ?hr ?_; (case hd => rfl); (case hg => rfl); (case hr => exact z3_13); intro gb216 hg w3 hbox hb; have n0_ := Aside0.mk (qf0 z3_0 hb); have n1_ := Aside0.mk (hbox); have n2_ := Aside0.mk ((z3_1 : w.heap.size ≤ gb216)); have n3_ := Aside0.mk ((z3_1 : w.heap.size ≤ gb216)); clear HB; have HB := n0_; have BK216 := n1_; have GW216 := n2_; have GE216 := n3_; clear n0_ n1_ n2_ n3_; clear hb hbox hg))
 (try simp only [Act.put, List.setIfInBounds_toArray, List.set_cons_zero, List.set_cons_succ])
 go_cut [14] (fun v14 wc => ∃ (kq : Nat) (x14_1 : Bool), v14 = .bool x14_1 ∧ Aside0 (impl_CalOk.j0 kq x14_1 a0_0 l0_1 = some r) ∧ Aside0 (kq ≤ k) ∧ Aside0 (wc.heap[gb216]? = some (.cells #[.int .i64 a0_0, (.slice A0_1 l0_1.length c0_1)] 26 (0, 0))) ∧ Aside0 (Below w.heap.size w wc))
 case first =>
  have H := HC2.out
  clear HC2
  replace H := Option.bind_eq_some_iff.mp H
  obtain ⟨t217, A40, H⟩ := H
  replace H : (if t217 = true then (impl_CalOk.j0 k (decide ((l0_1.length : Int) > 400)) a0_0 l0_1) else (impl_CalOk.j0 k true a0_0 l0_1)) = some r := H
  have A4 := Aside0.mk A40
  clear A40
  by_cases c5 : t217 = true
  ·subst c5
   have H1 : (impl_CalOk.j0 k (decide ((l0_1.length : Int) > 400)) a0_0 l0_1) = some r := by rw [if_pos rfl] at H; exact H
   clear H
   have H := H1
   clear H1
   have H' := Aside0.mk H
   clear H
   have hcz6_0 : w3.cell? ⟨gb216, 0, none⟩ = some (.int .i64 a0_0) := (qb0 BK216.out 0).trans rfl
   have hcz6_1 : w3.cell? ⟨gb216, 1, none⟩ = some (.slice A0_1 l0_1.length c0_1) := (qb0 BK216.out 1).trans rfl
   have hfz6_0 := qa0 BK216.out 0
   have hfz6_1 := qa0 BK216.out 1
   go_wp2_with (first | ((with_reducible refine qc0 (f := 27) rfl ?_); refine qm0 (some 7) rfl rfl Try.func27 (by kernel_rfl) rfl #[.int .i64 a0_0, .int .i64 0, .int .i64 126] rfl z3_3 ?_; (with_reducible refine (impl_between.calls a0_0 0 126 true _ A4.out).mono ?_); rintro e w' ⟨rfl, ⟨nd, rfl⟩⟩; refine ⟨_, rfl, ?_⟩))
   go_meet
   case rel => exact ⟨_, (decide ((l0_1.length : Int) > 400)), z3_10, H', ⟨by first | omega | exact Nat.le_refl _⟩, ⟨z3_8⟩, ⟨z3_2⟩⟩
  replace c5 := Bool.eq_false_iff.mpr c5
  subst c5
  have H1 : (impl_CalOk.j0 k true a0_0 l0_1) = some r := by rw [if_neg (show ¬ (false = true) by decide)] at H; exact H
  clear H
  have H := H1
  clear H1
  have H' := Aside0.mk H
  clear H
  have hcz7_0 : w3.cell? ⟨gb216, 0, none⟩ = some (.int .i64 a0_0) := (qb0 BK216.out 0).trans rfl
  have hcz7_1 : w3.cell? ⟨gb216, 1, none⟩ = some (.slice A0_1 l0_1.length c0_1) := (qb0 BK216.out 1).trans rfl
  have hfz7_0 := qa0 BK216.out 0
  have hfz7_1 := qa0 BK216.out 1
  go_wp2_with (first | ((with_reducible refine qc0 (f := 27) rfl ?_); refine qm0 (some 7) rfl rfl Try.func27 (by kernel_rfl) rfl #[.int .i64 a0_0, .int .i64 0, .int .i64 126] rfl z3_3 ?_; (with_reducible refine (impl_between.calls a0_0 0 126 false _ A4.out).mono ?_); rintro e w' ⟨rfl, ⟨nd, rfl⟩⟩; refine ⟨_, rfl, ?_⟩))
  go_meet
  case rel => exact ⟨_, (true), z3_10, H', ⟨by first | omega | exact Nat.le_refl _⟩, ⟨z3_8⟩, ⟨z3_2⟩⟩
 case rest =>
  clear HC2
  try clear c2
  try clear p2
  try clear c5
  try clear hcz6_0
  try clear hcz6_1
  try clear hcz7_0
  try clear hcz7_1
  try clear hfz6_0
  try clear hfz6_1
  try clear hfz7_0
  try clear hfz7_1
  obtain ⟨kq, x14_1, rfl, HA, HJ1, BK216, HB⟩ := hcut
  cases kq with
  | zero => exact absurd HA.out (by simp [impl_CalOk.j0])
  | succ kj1 =>
   have H := HA.out
   clear HA
   simp only [impl_CalOk.j0] at H
   by_cases c8 : x14_1 = true
   ·subst c8
    have H1 : (some false) = some r := by rw [if_pos rfl] at H; exact H
    clear H
    have H := H1
    clear H1
    obtain rfl := Option.some.inj H
    go_wp2
    go_ret
    exact ⟨z3_7, z3_2⟩
   replace c8 := Bool.eq_false_iff.mpr c8
   subst c8
   have H1 : (impl_CalOk.l0 kj1 l0_1 (l0_1.length : Int) 0 a0_0 l0_1) = some r := by rw [if_neg (show ¬ (false = true) by decide)] at H; exact H
   clear H
   have H := H1
   clear H1
   have H' := Aside0.mk H
   clear H
   have hcz9_0 : wc.cell? ⟨gb216, 0, none⟩ = some (.int .i64 a0_0) := (qb0 BK216.out 0).trans rfl
   have hcz9_1 : wc.cell? ⟨gb216, 1, none⟩ = some (.slice A0_1 l0_1.length c0_1) := (qb0 BK216.out 1).trans rfl
   have hfz9_0 := qa0 BK216.out 0
   have hfz9_1 := qa0 BK216.out 1
   go_wp2
   go_loopg [18] kj1 (fun kq v18 w' => ∃ (x18_2 : Int), v18 = .int .i64 x18_2 ∧ Aside0 (impl_CalOk.l0 kq l0_1 (l0_1.length : Int) x18_2 a0_0 l0_1 = some r) ∧ Aside0 (kq ≤ kj1) ∧ Aside0 (w'.heap[gb216]? = some (.cells #[.int .i64 a0_0, (.slice A0_1 l0_1.length c0_1)] 26 (0, 0))) ∧ Aside0 (Below w.heap.size w w'))
   case atStart => exact ⟨(0), z3_10, H', ⟨Nat.le_refl _⟩, ⟨z3_8⟩, ⟨z3_2⟩⟩
   case round =>
    clear H'
    try clear c2
    try clear p2
    try clear c5
    try clear c8
    try clear hcz6_0
    try clear hcz6_1
    try clear hcz7_0
    try clear hcz7_1
    try clear hcz9_0
    try clear hcz9_1
    try clear hfz6_0
    try clear hfz6_1
    try clear hfz7_0
    try clear hfz7_1
    try clear hfz9_0
    try clear hfz9_1
    try clear p2
    obtain ⟨x18_2, rfl, HA, HK2, BK216, HB⟩ := hrel
    cases gk with
    | zero => exact absurd HA.out (by simp [impl_CalOk.l0])
    | succ k2 =>
     have H := HA.out
     clear HA
     simp only [impl_CalOk.l0] at H
     by_cases c10 : x18_2 < (l0_1.length : Int)
     ·rw [if_pos c10] at H
      have c10b0 : decide (x18_2 < (l0_1.length : Int)) = true := decide_eq_true c10
      clear c10
      by_cases c11 : 0 ≤ x18_2
      case neg => rw [if_neg c11] at H; exact absurd H (by simp)
      rw [if_pos c11] at H
      have c11b0 : decide (0 ≤ x18_2) = true := decide_eq_true c11
      clear c11
      by_cases c12 : x18_2 < (l0_1.length : Int)
      case neg => rw [if_neg c12] at H; exact absurd H (by simp)
      rw [if_pos c12] at H
      have c12b0 : decide (x18_2 < (l0_1.length : Int)) = true := decide_eq_true c12
      clear c12
      replace H := Option.bind_eq_some_iff.mp H
      obtain ⟨t219, A130, H⟩ := H
      replace H : (if t219 = true then (if x18_2 > 0 then (if 0 ≤ (wrap64 (x18_2 - 1)) then (if (wrap64 (x18_2 - 1)) < (l0_1.length : Int) then (if (rd l0_1 (wrap64 (x18_2 - 1))) ≥ (rd l0_1 x18_2) then (some false) else (impl_CalOk.l0 k2 l0_1 (l0_1.length : Int) (wrap64 (x18_2 + 1)) a0_0 l0_1)) else (none)) else (none)) else (impl_CalOk.l0 k2 l0_1 (l0_1.length : Int) (wrap64 (x18_2 + 1)) a0_0 l0_1)) else (some false)) = some r := H
      have A13 := Aside0.mk A130
      clear A130
      by_cases c14 : t219 = true
      ·subst c14
       have H1 : (if x18_2 > 0 then (if 0 ≤ (wrap64 (x18_2 - 1)) then (if (wrap64 (x18_2 - 1)) < (l0_1.length : Int) then (if (rd l0_1 (wrap64 (x18_2 - 1))) ≥ (rd l0_1 x18_2) then (some false) else (impl_CalOk.l0 k2 l0_1 (l0_1.length : Int) (wrap64 (x18_2 + 1)) a0_0 l0_1)) else (none)) else (none)) else (impl_CalOk.l0 k2 l0_1 (l0_1.length : Int) (wrap64 (x18_2 + 1)) a0_0 l0_1)) = some r := by rw [if_pos rfl] at H; exact H
       clear H
       have H := H1
       clear H1
       by_cases c15 : x18_2 > 0
       ·rw [if_pos c15] at H
        have c15b0 : decide (0 < x18_2) = true := decide_eq_true c15
        clear c15
        obtain ⟨ji16, hji16⟩ : ∃ j_ : Int, (wrap64 (x18_2 - 1)) = j_ := ⟨_, rfl⟩
        replace H : (if 0 ≤ (ji16) then (if (ji16) < (l0_1.length : Int) then (if (rd l0_1 (ji16)) ≥ (rd l0_1 x18_2) then (some false) else (impl_CalOk.l0 k2 l0_1 (l0_1.length : Int) (wrap64 (x18_2 + 1)) a0_0 l0_1)) else (none)) else (none)) = some r := by first | (rw [hji16] at H; exact H) | (simp only [hji16] at H ⊢; exact H)
        (try rw [hji16] at A13)
        have hji16w : (IntKind.i64.wrap (x18_2 - 1)) = ji16 := (i64_w _).trans hji16
        by_cases c17 : 0 ≤ (ji16)
        case neg => rw [if_neg c17] at H; exact absurd H (by simp)
        rw [if_pos c17] at H
        have c17b0 : decide (0 ≤ (ji16)) = true := decide_eq_true c17
        clear c17
        by_cases c18 : (ji16) < (l0_1.length : Int)
        case neg => rw [if_neg c18] at H; exact absurd H (by simp)
        rw [if_pos c18] at H
        have c18b0 : decide ((ji16) < (l0_1.length : Int)) = true := decide_eq_true c18
        clear c18
        by_cases c19 : (rd l0_1 (ji16)) ≥ (rd l0_1 x18_2)
        ·rw [if_pos c19] at H
         have c19b0 : decide ((rd l0_1 x18_2) ≤ (rd l0_1 (ji16))) = true := decide_eq_true c19
         clear c19
         obtain rfl := Option.some.inj H
         have p218 : 0 ≤ (x18_2 : Int) := of_decide_eq_true z3_5
         have q218 : x18_2 < (l0_1.length : Int) := of_decide_eq_true z3_5
         obtain ⟨ad218, e218, hx218_0⟩ := Kd.qa1 HR0_1.out x18_2 p218 q218
         cases e218
         replace hx218_0 := (HB.out.cell (World.block_lt_of_cell? w _ hx218_0)).trans hx218_0
         replace p218 := eq_true p218
         replace q218 := eq_true q218
         go_wp2_with (first | ((with_reducible refine qc0 (f := 26) rfl ?_); refine qm0 (some 24) rfl rfl Try.func26 (by kernel_rfl) rfl #[.int .i64 (rd l0_1 x18_2)] rfl z3_3 ?_; (with_reducible refine (impl_isDay.calls (rd l0_1 x18_2) true _ A13.out).mono ?_); rintro e w' ⟨rfl, ⟨nd, rfl⟩⟩; refine ⟨_, rfl, ?_⟩; have hcz20_0 : wr.cell? ⟨gb216, 0, none⟩ = some (.int .i64 a0_0) := (qb0 BK216.out 0).trans rfl; have hcz20_1 : wr.cell? ⟨gb216, 1, none⟩ = some (.slice (some ad218) l0_1.length c0_1) := (qb0 BK216.out 1).trans rfl; have hfz20_0 := qa0 BK216.out 0; have hfz20_1 := qa0 BK216.out 1; have p220 : 0 ≤ ((ji16) : Int) := of_decide_eq_true z3_5; have q220 : (ji16) < (l0_1.length : Int) := of_decide_eq_true z3_5; obtain ⟨ad220, e220, hx220_0⟩ := Kd.qa1 HR0_1.out (ji16) p220 q220; obtain rfl : ad218 = ad220 := (by injection e220); replace hx220_0 := (HB.out.cell (World.block_lt_of_cell? w _ hx220_0)).trans hx220_0; replace p220 := eq_true p220; replace q220 := eq_true q220))
         go_ret
         exact ⟨by first | rfl | (simp [errW_none, errW_some] <;> rfl) | (simp only [← hji16]; first | rfl | (simp [errW_none, errW_some] <;> rfl)) | (simp [*, errW_none, errW_some] <;> rfl), z3_2⟩
        rw [if_neg c19] at H
        have c19b0 : decide ((rd l0_1 x18_2) ≤ (rd l0_1 (ji16))) = false := decide_eq_false c19
        clear c19
        have H' := Aside0.mk H
        clear H
        have p218 : 0 ≤ (x18_2 : Int) := of_decide_eq_true z3_5
        have q218 : x18_2 < (l0_1.length : Int) := of_decide_eq_true z3_5
        obtain ⟨ad218, e218, hx218_0⟩ := Kd.qa1 HR0_1.out x18_2 p218 q218
        cases e218
        replace hx218_0 := (HB.out.cell (World.block_lt_of_cell? w _ hx218_0)).trans hx218_0
        replace p218 := eq_true p218
        replace q218 := eq_true q218
        go_wp2_with (first | ((with_reducible refine qc0 (f := 26) rfl ?_); refine qm0 (some 24) rfl rfl Try.func26 (by kernel_rfl) rfl #[.int .i64 (rd l0_1 x18_2)] rfl z3_3 ?_; (with_reducible refine (impl_isDay.calls (rd l0_1 x18_2) true _ A13.out).mono ?_); rintro e w' ⟨rfl, ⟨nd, rfl⟩⟩; refine ⟨_, rfl, ?_⟩; have hcz21_0 : wr.cell? ⟨gb216, 0, none⟩ = some (.int .i64 a0_0) := (qb0 BK216.out 0).trans rfl; have hcz21_1 : wr.cell? ⟨gb216, 1, none⟩ = some (.slice (some ad218) l0_1.length c0_1) := (qb0 BK216.out 1).trans rfl; have hfz21_0 := qa0 BK216.out 0; have hfz21_1 := qa0 BK216.out 1; have p220 : 0 ≤ ((ji16) : Int) := of_decide_eq_true z3_5; have q220 : (ji16) < (l0_1.length : Int) := of_decide_eq_true z3_5; obtain ⟨ad220, e220, hx220_0⟩ := Kd.qa1 HR0_1.out (ji16) p220 q220; obtain rfl : ad218 = ad220 := (by injection e220); replace hx220_0 := (HB.out.cell (World.block_lt_of_cell? w _ hx220_0)).trans hx220_0; replace p220 := eq_true p220; replace q220 := eq_true q220))
        go_roundg k2
        case measure => have := HJ1.out; have := HK2.out; omega
        case rel => exact ⟨(wrap64 (x18_2 + 1)), z3_10, H', ⟨by have := HJ1.out; have := HK2.out; omega⟩, ⟨z3_8⟩, ⟨z3_2⟩⟩
       rw [if_neg c15] at H
       have c15b0 : decide (0 < x18_2) = false := decide_eq_false c15
       clear c15
       have H' := Aside0.mk H
       clear H
       have p218 : 0 ≤ (x18_2 : Int) := of_decide_eq_true z3_5
       have q218 : x18_2 < (l0_1.length : Int) := of_decide_eq_true z3_5
       obtain ⟨ad218, e218, hx218_0⟩ := Kd.qa1 HR0_1.out x18_2 p218 q218
       cases e218
       replace hx218_0 := (HB.out.cell (World.block_lt_of_cell? w _ hx218_0)).trans hx218_0
       replace p218 := eq_true p218
       replace q218 := eq_true q218
       go_wp2_with (first | ((with_reducible refine qc0 (f := 26) rfl ?_); refine qm0 (some 24) rfl rfl Try.func26 (by kernel_rfl) rfl #[.int .i64 (rd l0_1 x18_2)] rfl z3_3 ?_; (with_reducible refine (impl_isDay.calls (rd l0_1 x18_2) true _ A13.out).mono ?_); rintro e w' ⟨rfl, ⟨nd, rfl⟩⟩; refine ⟨_, rfl, ?_⟩))
       go_roundg k2
       case measure => have := HJ1.out; have := HK2.out; omega
       case rel => exact ⟨(wrap64 (x18_2 + 1)), z3_10, H', ⟨by have := HJ1.out; have := HK2.out; omega⟩, ⟨z3_8⟩, ⟨z3_2⟩⟩
      replace c14 := Bool.eq_false_iff.mpr c14
      subst c14
      have H1 : (some false) = some r := by rw [if_neg (show ¬ (false = true) by decide)] at H; exact H
      clear H
      have H := H1
      clear H1
      obtain rfl := Option.some.inj H
      have p218 : 0 ≤ (x18_2 : Int) := of_decide_eq_true z3_5
      have q218 : x18_2 < (l0_1.length : Int) := of_decide_eq_true z3_5
      obtain ⟨ad218, e218, hx218_0⟩ := Kd.qa1 HR0_1.out x18_2 p218 q218
      cases e218
      replace hx218_0 := (HB.out.cell (World.block_lt_of_cell? w _ hx218_0)).trans hx218_0
      replace p218 := eq_true p218
      replace q218 := eq_true q218
      go_wp2_with (first | ((with_reducible refine qc0 (f := 26) rfl ?_); refine qm0 (some 24) rfl rfl Try.func26 (by kernel_rfl) rfl #[.int .i64 (rd l0_1 x18_2)] rfl z3_3 ?_; (with_reducible refine (impl_isDay.calls (rd l0_1 x18_2) false _ A13.out).mono ?_); rintro e w' ⟨rfl, ⟨nd, rfl⟩⟩; refine ⟨_, rfl, ?_⟩))
      go_ret
      exact ⟨z3_7, z3_2⟩
     rw [if_neg c10] at H
     have c10b0 : decide (x18_2 < (l0_1.length : Int)) = false := decide_eq_false c10
     clear c10
     obtain rfl := Option.some.inj H
     go_wp2
     go_ret
     exact ⟨z3_7, z3_2⟩

/-! ### impl_Weekday: function 46 -/
def impl_Weekday.f (a0 : Int) : Option (Int) := (impl_isDay.f a0).bind fun t221 => (if t221 = true then (some (Int.tmod (wrap64 (a0 + 5)) 7)) else (some (-1)))
set_option maxHeartbeats 8000000 in
set_option maxRecDepth 100000 in
theorem impl_Weekday.calls (a0 : Int) (r : Int) (w : World) (h : impl_Weekday.f a0 = some r) :
  Calls Try.prog 46 #[.int .i64 a0] w fun e w' => e = .returned (.int .i64 r) ∧ Drawn0 w w' := by
 have H : ((impl_isDay.f a0).bind fun t221 => (if t221 = true then (some (Int.tmod (wrap64 (a0 + 5)) 7)) else (some (-1)))) = some r := h
 clear h
 replace H := Option.bind_eq_some_iff.mp H
 obtain ⟨t221, A20, H⟩ := H
 replace H : (if t221 = true then (some (Int.tmod (wrap64 (a0 + 5)) 7)) else (some (-1))) = some r := H
 have A2 := Aside0.mk A20
 clear A20
 by_cases c3 : t221 = true
 ·subst c3
  have H1 : (some (Int.tmod (wrap64 (a0 + 5)) 7)) = some r := by rw [if_pos rfl] at H; exact H
  clear H
  have H := H1
  clear H1
  obtain rfl := Option.some.inj H
  go_enter Try.func46, Try.ntmps46
  go_wp2_with (first | ((with_reducible refine qc0 (f := 26) rfl ?_); refine qm0 (some 4) rfl rfl Try.func26 (by kernel_rfl) rfl #[.int .i64 a0] rfl z3_3 ?_; (with_reducible refine (impl_isDay.calls a0 true _ A2.out).mono ?_); rintro e w' ⟨rfl, ⟨nd, rfl⟩⟩; refine ⟨_, rfl, ?_⟩))
  go_ret
  exact ⟨z3_10, by repeat (first | exact Drawn0.refl _ | apply Drawn0.step)⟩
 replace c3 := Bool.eq_false_iff.mpr c3
 subst c3
 have H1 : (some (-1)) = some r := by rw [if_neg (show ¬ (false = true) by decide)] at H; exact H
 clear H
 have H := H1
 clear H1
 obtain rfl := Option.some.inj H
 go_enter Try.func46, Try.ntmps46
 go_wp2_with (first | ((with_reducible refine qc0 (f := 26) rfl ?_); refine qm0 (some 4) rfl rfl Try.func26 (by kernel_rfl) rfl #[.int .i64 a0] rfl z3_3 ?_; (with_reducible refine (impl_isDay.calls a0 false _ A2.out).mono ?_); rintro e w' ⟨rfl, ⟨nd, rfl⟩⟩; refine ⟨_, rfl, ?_⟩))
 go_ret
 exact ⟨z3_10, by repeat (first | exact Drawn0.refl _ | apply Drawn0.step)⟩

/-! ### impl_works: function 25 -/
mutual
def impl_works.j0 : Nat → Int → Bool → Int → List Int → Option (Bool)
 | 0, _, _, _, _ => none
 | k + 1, x1, x20, x223000, x223001 => if x20 = true then (some false) else (impl_works.l0 k x1 0 (x223001.length : Int) x223000 x223001)
def impl_works.l0 : Nat → Int → Int → Int → Int → List Int → Option (Bool)
 | 0, _, _, _, _, _ => none
 | k + 1, x1, x5, x6, x223000, x223001 => if x5 < x6 then (if 0 ≤ (wrap64 (Int.tdiv (wrap64 (x5 + x6)) 2)) then (if (wrap64 (Int.tdiv (wrap64 (x5 + x6)) 2)) < (x223001.length : Int) then (if (rd x223001 (wrap64 (Int.tdiv (wrap64 (x5 + x6)) 2))) < x1 then (impl_works.l0 k x1 (wrap64 ((wrap64 (Int.tdiv (wrap64 (x5 + x6)) 2)) + 1)) x6 x223000 x223001) else (impl_works.l0 k x1 x5 (wrap64 (Int.tdiv (wrap64 (x5 + x6)) 2)) x223000 x223001)) else (none)) else (none)) else (if x5 = (x223001.length : Int) then (some true) else (if 0 ≤ x5 then (if x5 < (x223001.length : Int) then (some ((rd x223001 x5) != x1)) else (none)) else (none)))
end
def impl_works.f (k : Nat) (a0_0 : Int) (l0_1 : List Int) (a1 : Int) : Option (Bool) := (impl_isDay.f a1).bind fun t223 => (if t223 = true then ((impl_Weekday.f a1).bind fun t224 => (if 0 ≤ (IntKind.u64.wrap (t224)) then (impl_works.j0 k a1 ((Go.bits .and .i64 (shr .i64 a0_0 (IntKind.u64.wrap (t224))) 1) == 1) a0_0 l0_1) else (none))) else (impl_works.j0 k a1 true a0_0 l0_1))
theorem impl_works.mono_l : ∀ k, (∀ y0 y1 y2 y3, LeO (impl_works.j0 k y0 y1 y2 y3) (impl_works.j0 (k + 1) y0 y1 y2 y3)) ∧ (∀ y0 y1 y2 y3 y4, LeO (impl_works.l0 k y0 y1 y2 y3 y4) (impl_works.l0 (k + 1) y0 y1 y2 y3 y4))
 | 0 => ⟨fun _ _ _ _ r h => by simp [impl_works.j0] at h, fun _ _ _ _ _ r h => by simp [impl_works.l0] at h⟩
 | k + 1 => by
  obtain ⟨ih0, ih1⟩ := impl_works.mono_l k
  refine ⟨?_, ?_⟩
  ·intro y0 y1 y2 y3
   unfold impl_works.j0
   repeat' first
   | (with_reducible exact ih0 _ _ _ _)
   | (with_reducible exact ih1 _ _ _ _ _)
   | (with_reducible exact LeO.refl _)
   | (with_reducible exact LeO.none _)
   | (with_reducible refine LeO.ite ?_ ?_)
   | (with_reducible refine LeO.bind ?_ (fun _ => ?_))
   | exact ih0 _ _ _ _
   | exact ih1 _ _ _ _ _
   | exact LeO.none _
   | refine LeO.ite ?_ ?_
   | refine LeO.bind ?_ (fun _ => ?_)
  ·intro y0 y1 y2 y3 y4
   unfold impl_works.l0
   repeat' first
   | (with_reducible exact ih0 _ _ _ _)
   | (with_reducible exact ih1 _ _ _ _ _)
   | (with_reducible exact LeO.refl _)
   | (with_reducible exact LeO.none _)
   | (with_reducible refine LeO.ite ?_ ?_)
   | (with_reducible refine LeO.bind ?_ (fun _ => ?_))
   | exact ih0 _ _ _ _
   | exact ih1 _ _ _ _ _
   | exact LeO.none _
   | refine LeO.ite ?_ ?_
   | refine LeO.bind ?_ (fun _ => ?_)
theorem impl_works.mono : ∀ a0 a1 a2 k, LeO (impl_works.f k a0 a1 a2) (impl_works.f (k + 1) a0 a1 a2) := by
 intro a0 a1 a2 k
 obtain ⟨ih0, ih1⟩ := impl_works.mono_l k
 unfold impl_works.f
 repeat' first
   | (with_reducible exact ih0 _ _ _ _)
   | (with_reducible exact ih1 _ _ _ _ _)
   | (with_reducible exact LeO.refl _)
   | (with_reducible exact LeO.none _)
   | (with_reducible refine LeO.ite ?_ ?_)
   | (with_reducible refine LeO.bind ?_ (fun _ => ?_))
   | exact ih0 _ _ _ _
   | exact ih1 _ _ _ _ _
   | exact LeO.none _
   | refine LeO.ite ?_ ?_
   | refine LeO.bind ?_ (fun _ => ?_)
set_option maxHeartbeats 8000000 in
set_option maxRecDepth 100000 in
theorem impl_works.calls (k : Nat) (a0_0 : Int) (A0_1 : Option Addr) (c0_1 : Nat) (l0_1 : List Int) (a1 : Int) (r : Bool) (w : World) (hr0_1 : Kd.C (Kd.int .i64) w A0_1 l0_1.length l0_1) (hc0_1 : l0_1.length ≤ c0_1) (h : impl_works.f k a0_0 l0_1 a1 = some r) :
  Calls Try.prog 25 #[.agg #[.int .i64 a0_0, .slice A0_1 l0_1.length c0_1], .int .i64 a1] w fun e w' => e = .returned (.bool r) ∧ Below w.heap.size w w' := by
 have hu26 := Try.underlying26
 have HR0_1 := Aside0.mk hr0_1
 have HC0_1 := Aside0.mk hc0_1
 clear hr0_1 hc0_1
 have HB := Aside0.mk (Below.refl w.heap.size w)
 have H : ((impl_isDay.f a1).bind fun t223 => (if t223 = true then ((impl_Weekday.f a1).bind fun t224 => (if 0 ≤ (IntKind.u64.wrap (t224)) then (impl_works.j0 k a1 ((Go.bits .and .i64 (shr .i64 a0_0 (IntKind.u64.wrap (t224))) 1) == 1) a0_0 l0_1) else (none))) else (impl_works.j0 k a1 true a0_0 l0_1))) = some r := h
 clear h
 have HC3 := Aside0.mk H
 clear H
 go_enter Try.func25, Try.ntmps25
 go_upto_region 1 with (first | ((with_reducible refine qs0 (N := 2) rfl ?_); refine qr0 ?hg (N := 2) ?hd (cs := #[.int .i64 a0_0, .slice A0_1 l0_1.length c0_1]) (t := 26) ?hr ?_; (case hd => rfl); (case hg => rfl); (case hr => exact z3_13); intro gb222 hg w4 hbox hb; have n0_ := Aside0.mk (qf0 z3_0 hb); have n1_ := Aside0.mk (hbox); have n2_ := Aside0.mk ((z3_1 : w.heap.size ≤ gb222)); have n3_ := Aside0.mk ((z3_1 : w.heap.size ≤ gb222)); clear HB; have HB := n0_; have BK222 := n1_; have GW222 := n2_; have GE222 := n3_; clear n0_ n1_ n2_ n3_; clear hb hbox hg))
 repeat (go_quiet (first | ((with_reducible refine qs0 (N := 2) rfl ?_); refine qr0 ?hg (N := 2) ?hd (cs := #[.int .i64 a0_0, .slice A0_1 l0_1.length c0_1]) (t := 26) ?hr ?_; (case hd => rfl); (case hg => rfl); (case hr => exact z3_13); intro gb222 hg w4 hbox hb; have n0_ := Aside0.mk (qf0 z3_0 hb); have n1_ := Aside0.mk (hbox); have n2_ := Aside0.mk ((z3_1 : w.heap.size ≤ gb222)); have n3_ := Aside0.mk ((z3_1 : w.heap.size ≤ gb222)); clear HB; have HB := n0_; have BK222 := n1_; have GW222 := n2_; have GE222 := n3_; clear n0_ n1_ n2_ n3_; clear hb hbox hg)); go_upto_region 1 with (first | ((with_reducible refine qs0 (N := 2) rfl ?_); refine qr0 ?hg (N := 2) ?hd (cs := #[.int .i64 a0_0, .slice A0_1 l0_1.length c0_1]) (t := 26) ?hr ?_; (case hd => rfl); (case hg => rfl); (case hr => exact z3_13); intro gb222 hg w4 hbox hb; have n0_ := Aside0.mk (qf0 z3_0 hb); have n1_ := Aside0.mk (hbox); have n2_ := Aside0.mk ((z3_1 : w.heap.size ≤ gb222)); have n3_ := Aside0.mk ((z3_1 : w.heap.size ≤ gb222)); clear HB; have HB := n0_; have BK222 := n1_; have GW222 := n2_; have GE222 := n3_; clear n0_ n1_ n2_ n3_; clear hb hbox hg)))
 (try simp only [Act.put, List.setIfInBounds_toArray, List.set_cons_zero, List.set_cons_succ])
 go_cut [20] (fun v20 wc => ∃ (kq : Nat) (x20_2 : Bool), v20 = .bool x20_2 ∧ Aside0 (impl_works.j0 kq a1 x20_2 a0_0 l0_1 = some r) ∧ Aside0 (kq ≤ k) ∧ Aside0 (wc.heap[gb222]? = some (.cells #[.int .i64 a0_0, (.slice A0_1 l0_1.length c0_1)] 26 (0, 0))) ∧ Aside0 (Below w.heap.size w wc))
 case first =>
  have H := HC3.out
  clear HC3
  replace H := Option.bind_eq_some_iff.mp H
  obtain ⟨t223, A50, H⟩ := H
  replace H : (if t223 = true then ((impl_Weekday.f a1).bind fun t224 => (if 0 ≤ (IntKind.u64.wrap (t224)) then (impl_works.j0 k a1 ((Go.bits .and .i64 (shr .i64 a0_0 (IntKind.u64.wrap (t224))) 1) == 1) a0_0 l0_1) else (none))) else (impl_works.j0 k a1 true a0_0 l0_1)) = some r := H
  have A5 := Aside0.mk A50
  clear A50
  by_cases c6 : t223 = true
  ·subst c6
   have H1 : ((impl_Weekday.f a1).bind fun t224 => (if 0 ≤ (IntKind.u64.wrap (t224)) then (impl_works.j0 k a1 ((Go.bits .and .i64 (shr .i64 a0_0 (IntKind.u64.wrap (t224))) 1) == 1) a0_0 l0_1) else (none))) = some r := by rw [if_pos rfl] at H; exact H
   clear H
   have H := H1
   clear H1
   replace H := Option.bind_eq_some_iff.mp H
   obtain ⟨t224, A70, H⟩ := H
   replace H : (if 0 ≤ (IntKind.u64.wrap (t224)) then (impl_works.j0 k a1 ((Go.bits .and .i64 (shr .i64 a0_0 (IntKind.u64.wrap (t224))) 1) == 1) a0_0 l0_1) else (none)) = some r := H
   have A7 := Aside0.mk A70
   clear A70
   obtain ⟨ji8, hji8⟩ : ∃ j_ : Int, (IntKind.u64.wrap (t224)) = j_ := ⟨_, rfl⟩
   replace H : (if 0 ≤ (ji8) then (impl_works.j0 k a1 ((Go.bits .and .i64 (shr .i64 a0_0 (ji8)) 1) == 1) a0_0 l0_1) else (none)) = some r := by first | (rw [hji8] at H; exact H) | (simp only [hji8] at H ⊢; exact H)
   (try rw [hji8] at A5)
   (try rw [hji8] at A7)
   by_cases c9 : 0 ≤ (ji8)
   case neg => rw [if_neg c9] at H; exact absurd H (by simp)
   rw [if_pos c9] at H
   have c9b0 := eq_true c9
   have c9b1 : decide (0 ≤ (ji8)) = true := decide_eq_true c9
   clear c9
   obtain ⟨ji10, hji10⟩ : ∃ j_ : Int, (shr .i64 a0_0 (ji8)) = j_ := ⟨_, rfl⟩
   replace H : (impl_works.j0 k a1 ((Go.bits .and .i64 (ji10) 1) == 1) a0_0 l0_1) = some r := by first | (rw [hji10] at H; exact H) | (simp only [hji10] at H ⊢; exact H)
   (try rw [hji10] at A5)
   (try rw [hji10] at A7)
   have hji10_ : (a0_0 / 2 ^ min (ji8).toNat 64) = ji10 := hji10
   have hji10z : (ji8) ≤ 64 → (a0_0 / 2 ^ (ji8).toNat) = ji10 := shr_small hji10
   have H' := Aside0.mk H
   clear H
   go_wp2_with (first | (go_at_call 26; (with_reducible refine (impl_isDay.calls a1 true _ A5.out).mono ?_); rintro e w' ⟨rfl, ⟨nd, rfl⟩⟩; (try first | exact ⟨rfl, _, World.drewN_drewN _ _ _⟩ | exact ⟨rfl, _, Eq.trans (World.drewN_drewN _ _ _) (congrArg (World.drewN _) (Nat.add_assoc _ _ _))⟩); have hcz11_0 : w4.cell? ⟨gb222, 0, none⟩ = some (.int .i64 a0_0) := (qb0 BK222.out 0).trans rfl; have hcz11_1 : w4.cell? ⟨gb222, 1, none⟩ = some (.slice A0_1 l0_1.length c0_1) := (qb0 BK222.out 1).trans rfl; have hfz11_0 := qa0 BK222.out 0; have hfz11_1 := qa0 BK222.out 1) | (go_at_call 46; (with_reducible refine (impl_Weekday.calls a1 t224 _ A7.out).mono ?_); rintro e w' ⟨rfl, ⟨nd, rfl⟩⟩; (try first | exact ⟨rfl, _, World.drewN_drewN _ _ _⟩ | exact ⟨rfl, _, Eq.trans (World.drewN_drewN _ _ _) (congrArg (World.drewN _) (Nat.add_assoc _ _ _))⟩)))
   repeat (go_quiet (first | (go_at_call 26; (with_reducible refine (impl_isDay.calls a1 true _ A5.out).mono ?_); rintro e w' ⟨rfl, ⟨nd, rfl⟩⟩; (try first | exact ⟨rfl, _, World.drewN_drewN _ _ _⟩ | exact ⟨rfl, _, Eq.trans (World.drewN_drewN _ _ _) (congrArg (World.drewN _) (Nat.add_assoc _ _ _))⟩); have hcz11_0 : w4.cell? ⟨gb222, 0, none⟩ = some (.int .i64 a0_0) := (qb0 BK222.out 0).trans rfl; have hcz11_1 : w4.cell? ⟨gb222, 1, none⟩ = some (.slice A0_1 l0_1.length c0_1) := (qb0 BK222.out 1).trans rfl; have hfz11_0 := qa0 BK222.out 0; have hfz11_1 := qa0 BK222.out 1) | (go_at_call 46; (with_reducible refine (impl_Weekday.calls a1 t224 _ A7.out).mono ?_); rintro e w' ⟨rfl, ⟨nd, rfl⟩⟩; (try first | exact ⟨rfl, _, World.drewN_drewN _ _ _⟩ | exact ⟨rfl, _, Eq.trans (World.drewN_drewN _ _ _) (congrArg (World.drewN _) (Nat.add_assoc _ _ _))⟩))); try go_wp2_with (first | (go_at_call 26; (with_reducible refine (impl_isDay.calls a1 true _ A5.out).mono ?_); rintro e w' ⟨rfl, ⟨nd, rfl⟩⟩; (try first | exact ⟨rfl, _, World.drewN_drewN _ _ _⟩ | exact ⟨rfl, _, Eq.trans (World.drewN_drewN _ _ _) (congrArg (World.drewN _) (Nat.add_assoc _ _ _))⟩); have hcz11_0 : w4.cell? ⟨gb222, 0, none⟩ = some (.int .i64 a0_0) := (qb0 BK222.out 0).trans rfl; have hcz11_1 : w4.cell? ⟨gb222, 1, none⟩ = some (.slice A0_1 l0_1.length c0_1) := (qb0 BK222.out 1).trans rfl; have hfz11_0 := qa0 BK222.out 0; have hfz11_1 := qa0 BK222.out 1) | (go_at_call 46; (with_reducible refine (impl_Weekday.calls a1 t224 _ A7.out).mono ?_); rintro e w' ⟨rfl, ⟨nd, rfl⟩⟩; (try first | exact ⟨rfl, _, World.drewN_drewN _ _ _⟩ | exact ⟨rfl, _, Eq.trans (World.drewN_drewN _ _ _) (congrArg (World.drewN _) (Nat.add_assoc _ _ _))⟩))))
   go_meet
   case rel => exact ⟨_, (((Go.bits .and .i64 (ji10) 1) == 1)), (by first | rfl | (simp; done) | (simp only [← hji10] <;> (first | rfl | simp)) | (simp [*]; done)), H', ⟨by first | omega | exact Nat.le_refl _⟩, ⟨z3_9⟩, ⟨z3_4⟩⟩
  replace c6 := Bool.eq_false_iff.mpr c6
  subst c6
  have H1 : (impl_works.j0 k a1 true a0_0 l0_1) = some r := by rw [if_neg (show ¬ (false = true) by decide)] at H; exact H
  clear H
  have H := H1
  clear H1
  have H' := Aside0.mk H
  clear H
  go_wp2_with (first | (go_at_call 26; (with_reducible refine (impl_isDay.calls a1 false _ A5.out).mono ?_); rintro e w' ⟨rfl, ⟨nd, rfl⟩⟩; (try first | exact ⟨rfl, _, World.drewN_drewN _ _ _⟩ | exact ⟨rfl, _, Eq.trans (World.drewN_drewN _ _ _) (congrArg (World.drewN _) (Nat.add_assoc _ _ _))⟩)))
  repeat (go_quiet (first | (go_at_call 26; (with_reducible refine (impl_isDay.calls a1 false _ A5.out).mono ?_); rintro e w' ⟨rfl, ⟨nd, rfl⟩⟩; (try first | exact ⟨rfl, _, World.drewN_drewN _ _ _⟩ | exact ⟨rfl, _, Eq.trans (World.drewN_drewN _ _ _) (congrArg (World.drewN _) (Nat.add_assoc _ _ _))⟩))); try go_wp2_with (first | (go_at_call 26; (with_reducible refine (impl_isDay.calls a1 false _ A5.out).mono ?_); rintro e w' ⟨rfl, ⟨nd, rfl⟩⟩; (try first | exact ⟨rfl, _, World.drewN_drewN _ _ _⟩ | exact ⟨rfl, _, Eq.trans (World.drewN_drewN _ _ _) (congrArg (World.drewN _) (Nat.add_assoc _ _ _))⟩))))
  go_meet
  case rel => exact ⟨_, (true), z3_10, H', ⟨by first | omega | exact Nat.le_refl _⟩, ⟨z3_9⟩, ⟨z3_4⟩⟩
 case rest =>
  clear HC3
  try clear c2
  try clear p2
  try clear c6
  try clear c9
  try clear c9b0
  try clear c9b1
  try clear hcz11_0
  try clear hcz11_1
  try clear hfz11_0
  try clear hfz11_1
  obtain ⟨kq, x20_2, rfl, HA, HJ2, BK222, HB⟩ := hcut
  cases kq with
  | zero => exact absurd HA.out (by simp [impl_works.j0])
  | succ kj2 =>
   have H := HA.out
   clear HA
   simp only [impl_works.j0] at H
   by_cases c12 : x20_2 = true
   ·subst c12
    have H1 : (some false) = some r := by rw [if_pos rfl] at H; exact H
    clear H
    have H := H1
    clear H1
    obtain rfl := Option.some.inj H
    go_wp2
    repeat (go_quiet (fail); try go_wp2)
    go_ret
    exact ⟨z3_7, z3_4⟩
   replace c12 := Bool.eq_false_iff.mpr c12
   subst c12
   have H1 : (impl_works.l0 kj2 a1 0 (l0_1.length : Int) a0_0 l0_1) = some r := by rw [if_neg (show ¬ (false = true) by decide)] at H; exact H
   clear H
   have H := H1
   clear H1
   have H' := Aside0.mk H
   clear H
   have hcz13_0 : wc.cell? ⟨gb222, 0, none⟩ = some (.int .i64 a0_0) := (qb0 BK222.out 0).trans rfl
   have hcz13_1 : wc.cell? ⟨gb222, 1, none⟩ = some (.slice A0_1 l0_1.length c0_1) := (qb0 BK222.out 1).trans rfl
   have hfz13_0 := qa0 BK222.out 0
   have hfz13_1 := qa0 BK222.out 1
   go_wp2
   repeat (go_quiet (fail); try go_wp2)
   go_loopg [5, 6] kj2 (fun kq v5 v6 w' => ∃ (x5_2 : Int) (x6_2 : Int), v5 = .int .i64 x5_2 ∧ v6 = .int .i64 x6_2 ∧ Aside0 (impl_works.l0 kq a1 x5_2 x6_2 a0_0 l0_1 = some r) ∧ Aside0 (kq ≤ kj2) ∧ Aside0 (w'.heap[gb222]? = some (.cells #[.int .i64 a0_0, (.slice A0_1 l0_1.length c0_1)] 26 (0, 0))) ∧ Aside0 (Below w.heap.size w w'))
   case atStart => exact ⟨(0), ((l0_1.length : Int)), z3_10, z3_10, H', ⟨Nat.le_refl _⟩, ⟨z3_9⟩, ⟨z3_4⟩⟩
   case round =>
    clear H'
    try clear c1
    try clear c2
    try clear p2
    try clear c6
    try clear c9
    try clear c9b0
    try clear c9b1
    try clear c12
    try clear hcz11_0
    try clear hcz11_1
    try clear hcz13_0
    try clear hcz13_1
    try clear hfz11_0
    try clear hfz11_1
    try clear hfz13_0
    try clear hfz13_1
    try clear p2
    obtain ⟨x5_2, x6_2, rfl, rfl, HA, HK2, BK222, HB⟩ := hrel
    cases gk with
    | zero => exact absurd HA.out (by simp [impl_works.l0])
    | succ k2 =>
     have H := HA.out
     clear HA
     simp only [impl_works.l0] at H
     by_cases c14 : x5_2 < x6_2
     ·rw [if_pos c14] at H
      have c14b0 : decide (x5_2 < x6_2) = true := decide_eq_true c14
      clear c14
      obtain ⟨ji15, hji15⟩ : ∃ j_ : Int, (wrap64 (Int.tdiv (wrap64 (x5_2 + x6_2)) 2)) = j_ := ⟨_, rfl⟩
      replace H : (if 0 ≤ (ji15) then (if (ji15) < (l0_1.length : Int) then (if (rd l0_1 (ji15)) < a1 then (impl_works.l0 k2 a1 (wrap64 ((ji15) + 1)) x6_2 a0_0 l0_1) else (impl_works.l0 k2 a1 x5_2 ji15 a0_0 l0_1)) else (none)) else (none)) = some r := by first | (rw [hji15] at H; exact H) | (simp only [hji15] at H ⊢; exact H)
      have hji15w : (IntKind.i64.wrap (Int.tdiv (wrap64 (x5_2 + x6_2)) 2)) = ji15 := (i64_w _).trans hji15
      by_cases c16 : 0 ≤ (ji15)
      case neg => rw [if_neg c16] at H; exact absurd H (by simp)
      rw [if_pos c16] at H
      have c16b0 : decide (0 ≤ (ji15)) = true := decide_eq_true c16
      clear c16
      by_cases c17 : (ji15) < (l0_1.length : Int)
      case neg => rw [if_neg c17] at H; exact absurd H (by simp)
      rw [if_pos c17] at H
      have c17b0 : decide ((ji15) < (l0_1.length : Int)) = true := decide_eq_true c17
      clear c17
      by_cases c18 : (rd l0_1 (ji15)) < a1
      ·rw [if_pos c18] at H
       have c18b0 : decide ((rd l0_1 (ji15)) < a1) = true := decide_eq_true c18
       clear c18
       have H' := Aside0.mk H
       clear H
       have hcz19_0 : wr.cell? ⟨gb222, 0, none⟩ = some (.int .i64 a0_0) := (qb0 BK222.out 0).trans rfl
       have hcz19_1 : wr.cell? ⟨gb222, 1, none⟩ = some (.slice A0_1 l0_1.length c0_1) := (qb0 BK222.out 1).trans rfl
       have hfz19_0 := qa0 BK222.out 0
       have hfz19_1 := qa0 BK222.out 1
       have p225 : 0 ≤ ((ji15) : Int) := of_decide_eq_true z3_5
       have q225 : (ji15) < (l0_1.length : Int) := of_decide_eq_true z3_5
       obtain ⟨ad225, e225, hx225_0⟩ := Kd.qa1 HR0_1.out (ji15) p225 q225
       cases e225
       replace hx225_0 := (HB.out.cell (World.block_lt_of_cell? w _ hx225_0)).trans hx225_0
       replace p225 := eq_true p225
       replace q225 := eq_true q225
       go_wp2
       repeat (go_quiet (fail); try go_wp2)
       go_roundg k2
       case measure => have := HJ2.out; have := HK2.out; omega
       case rel => exact ⟨(wrap64 ((ji15) + 1)), (x6_2), (by first | rfl | (simp; done) | (simp only [← hji15] <;> (first | rfl | simp)) | (simp [*]; done)), z3_10, H', ⟨by have := HJ2.out; have := HK2.out; omega⟩, ⟨z3_9⟩, ⟨z3_4⟩⟩
      rw [if_neg c18] at H
      have c18b0 : decide ((rd l0_1 (ji15)) < a1) = false := decide_eq_false c18
      clear c18
      have H' := Aside0.mk H
      clear H
      have hcz20_0 : wr.cell? ⟨gb222, 0, none⟩ = some (.int .i64 a0_0) := (qb0 BK222.out 0).trans rfl
      have hcz20_1 : wr.cell? ⟨gb222, 1, none⟩ = some (.slice A0_1 l0_1.length c0_1) := (qb0 BK222.out 1).trans rfl
      have hfz20_0 := qa0 BK222.out 0
      have hfz20_1 := qa0 BK222.out 1
      have p225 : 0 ≤ ((ji15) : Int) := of_decide_eq_true z3_5
      have q225 : (ji15) < (l0_1.length : Int) := of_decide_eq_true z3_5
      obtain ⟨ad225, e225, hx225_0⟩ := Kd.qa1 HR0_1.out (ji15) p225 q225
      cases e225
      replace hx225_0 := (HB.out.cell (World.block_lt_of_cell? w _ hx225_0)).trans hx225_0
      replace p225 := eq_true p225
      replace q225 := eq_true q225
      go_wp2
      repeat (go_quiet (fail); try go_wp2)
      go_roundg k2
      case measure => have := HJ2.out; have := HK2.out; omega
      case rel => exact ⟨(x5_2), (ji15), z3_10, (by first | rfl | (simp; done) | (simp only [← hji15] <;> (first | rfl | simp)) | (simp [*]; done)), H', ⟨by have := HJ2.out; have := HK2.out; omega⟩, ⟨z3_9⟩, ⟨z3_4⟩⟩
     rw [if_neg c14] at H
     have c14b0 : decide (x5_2 < x6_2) = false := decide_eq_false c14
     clear c14
     by_cases c21 : x5_2 = (l0_1.length : Int)
     ·rw [if_pos c21] at H
      have c21b0 : (x5_2 == (l0_1.length : Int)) = true := beq_iff_eq.mpr c21
      have c21b1 : (x5_2 != (l0_1.length : Int)) = false := bne_eq_false_iff_eq.mpr c21
      clear c21
      obtain rfl := Option.some.inj H
      have hcz22_0 : wr.cell? ⟨gb222, 0, none⟩ = some (.int .i64 a0_0) := (qb0 BK222.out 0).trans rfl
      have hcz22_1 : wr.cell? ⟨gb222, 1, none⟩ = some (.slice A0_1 l0_1.length c0_1) := (qb0 BK222.out 1).trans rfl
      have hfz22_0 := qa0 BK222.out 0
      have hfz22_1 := qa0 BK222.out 1
      go_wp2
      repeat (go_quiet (fail); try go_wp2)
      go_ret
      exact ⟨z3_7, z3_4⟩
     rw [if_neg c21] at H
     have c21b0 : (x5_2 == (l0_1.length : Int)) = false := beq_eq_false_iff_ne.mpr c21
     have c21b1 : (x5_2 != (l0_1.length : Int)) = true := bne_iff_ne.mpr c21
     by_cases c23 : 0 ≤ x5_2
     case neg => rw [if_neg c23] at H; exact absurd H (by simp)
     rw [if_pos c23] at H
     have c23b0 : decide (0 ≤ x5_2) = true := decide_eq_true c23
     clear c23
     by_cases c24 : x5_2 < (l0_1.length : Int)
     case neg => rw [if_neg c24] at H; exact absurd H (by simp)
     rw [if_pos c24] at H
     have c24b0 : decide (x5_2 < (l0_1.length : Int)) = true := decide_eq_true c24
     clear c24
     obtain rfl := Option.some.inj H
     have hcz25_0 : wr.cell? ⟨gb222, 0, none⟩ = some (.int .i64 a0_0) := (qb0 BK222.out 0).trans rfl
     have hcz25_1 : wr.cell? ⟨gb222, 1, none⟩ = some (.slice A0_1 l0_1.length c0_1) := (qb0 BK222.out 1).trans rfl
     have hfz25_0 := qa0 BK222.out 0
     have hfz25_1 := qa0 BK222.out 1
     have p226 : 0 ≤ (x5_2 : Int) := of_decide_eq_true z3_5
     have q226 : x5_2 < (l0_1.length : Int) := of_decide_eq_true z3_5
     obtain ⟨ad226, e226, hx226_0⟩ := Kd.qa1 HR0_1.out x5_2 p226 q226
     cases e226
     replace hx226_0 := (HB.out.cell (World.block_lt_of_cell? w _ hx226_0)).trans hx226_0
     replace p226 := eq_true p226
     replace q226 := eq_true q226
     go_wp2
     repeat (go_quiet (fail); try go_wp2)
     go_ret
     exact ⟨z3_7, z3_4⟩

/-! ### impl_Work: function 7 -/
def impl_Work.f (k : Nat) (a0_0 : Int) (l0_1 : List Int) (a1 : Int) : Option (Bool) := (impl_CalOk.f k a0_0 l0_1).bind fun t228 => (if t228 = true then ((impl_works.f k a0_0 l0_1 a1).bind fun t229 => (some t229)) else (some false))
theorem impl_Work.mono : ∀ a0 a1 a2 k, LeO (impl_Work.f k a0 a1 a2) (impl_Work.f (k + 1) a0 a1 a2) := by
 intro a0 a1 a2 k
 unfold impl_Work.f
 repeat' first
   | (with_reducible exact impl_CalOk.mono _ _ _)
   | (with_reducible exact impl_works.mono _ _ _ _)
   | (with_reducible exact LeO.refl _)
   | (with_reducible exact LeO.none _)
   | (with_reducible refine LeO.ite ?_ ?_)
   | (with_reducible refine LeO.bind ?_ (fun _ => ?_))
   | exact impl_CalOk.mono _ _ _
   | exact impl_works.mono _ _ _ _
   | exact LeO.none _
   | refine LeO.ite ?_ ?_
   | refine LeO.bind ?_ (fun _ => ?_)
set_option maxHeartbeats 8000000 in
set_option maxRecDepth 100000 in
theorem impl_Work.calls (k : Nat) (a0_0 : Int) (A0_1 : Option Addr) (c0_1 : Nat) (l0_1 : List Int) (a1 : Int) (r : Bool) (w : World) (hr0_1 : Kd.C (Kd.int .i64) w A0_1 l0_1.length l0_1) (hc0_1 : l0_1.length ≤ c0_1) (h : impl_Work.f k a0_0 l0_1 a1 = some r) :
  Calls Try.prog 7 #[.agg #[.int .i64 a0_0, .slice A0_1 l0_1.length c0_1], .int .i64 a1] w fun e w' => e = .returned (.bool r) ∧ Below w.heap.size w w' := by
 have hu26 := Try.underlying26
 have HR0_1 := Aside0.mk hr0_1
 have HC0_1 := Aside0.mk hc0_1
 clear hr0_1 hc0_1
 have HB := Aside0.mk (Below.refl w.heap.size w)
 have H : ((impl_CalOk.f k a0_0 l0_1).bind fun t228 => (if t228 = true then ((impl_works.f k a0_0 l0_1 a1).bind fun t229 => (some t229)) else (some false))) = some r := h
 clear h
 replace H := Option.bind_eq_some_iff.mp H
 obtain ⟨t228, A30, H⟩ := H
 replace H : (if t228 = true then ((impl_works.f k a0_0 l0_1 a1).bind fun t229 => (some t229)) else (some false)) = some r := H
 have A3 := Aside0.mk A30
 clear A30
 by_cases c4 : t228 = true
 ·subst c4
  have H1 : ((impl_works.f k a0_0 l0_1 a1).bind fun t229 => (some t229)) = some r := by rw [if_pos rfl] at H; exact H
  clear H
  have H := H1
  clear H1
  replace H := Option.bind_eq_some_iff.mp H
  obtain ⟨t229, A50, H⟩ := H
  replace H : (some t229) = some r := H
  have A5 := Aside0.mk A50
  clear A50
  obtain rfl := Option.some.inj H
  go_enter Try.func7, Try.ntmps7
  go_wp2_with (first | ((with_reducible refine qs0 (N := 2) rfl ?_); refine qr0 ?hg (N := 2) ?hd (cs := #[.int .i64 a0_0, .slice A0_1 l0_1.length c0_1]) (t := 26) ?hr ?_; (case hd => rfl); (case hg => rfl); (case hr => exact z3_13); intro gb227 hg w6 hbox hb; have n0_ := Aside0.mk (qf0 z3_0 hb); have n1_ := Aside0.mk (hbox); have n2_ := Aside0.mk ((z3_1 : w.heap.size ≤ gb227)); have n3_ := Aside0.mk ((z3_1 : w.heap.size ≤ gb227)); clear HB; have HB := n0_; have BK227 := n1_; have GW227 := n2_; have GE227 := n3_; clear n0_ n1_ n2_ n3_; clear hb hbox hg; have hcz7_0 : w6.cell? ⟨gb227, 0, none⟩ = some (.int .i64 a0_0) := (qb0 BK227.out 0).trans rfl; have hcz7_1 : w6.cell? ⟨gb227, 1, none⟩ = some (.slice A0_1 l0_1.length c0_1) := (qb0 BK227.out 1).trans rfl; have hfz7_0 := qa0 BK227.out 0; have hfz7_1 := qa0 BK227.out 1) | ((with_reducible refine qc0 (f := 24) rfl ?_); refine qm0 (some 6) rfl rfl Try.func24 (by kernel_rfl) rfl #[.agg #[.int .i64 a0_0, .slice A0_1 l0_1.length c0_1]] rfl z3_3 ?_; (with_reducible refine (impl_CalOk.calls k a0_0 _ _ l0_1 true _ ?side1 ?side2 A3.out).mono ?_); (case side1 => exact z3_11); (case side2 => exact HC0_1.out); rintro e w8 ⟨rfl, hb⟩; refine ⟨_, rfl, ?_⟩; have n0_ := Aside0.mk (ql0 (g := gb227) (o := .cells #[.int .i64 a0_0, .slice A0_1 l0_1.length c0_1] 26 (0, 0)) z3_12 hb); have n1_ := Aside0.mk (qf0 z3_6 hb); clear BK227; clear HB; have BK227 := n0_; have HB := n1_; clear n0_ n1_; (try clear hb); (try clear hb2); (try clear hk); (try clear hi); have hcz9_0 : w8.cell? ⟨gb227, 0, none⟩ = some (.int .i64 a0_0) := (qb0 BK227.out 0).trans rfl; have hcz9_1 : w8.cell? ⟨gb227, 1, none⟩ = some (.slice A0_1 l0_1.length c0_1) := (qb0 BK227.out 1).trans rfl; have hfz9_0 := qa0 BK227.out 0; have hfz9_1 := qa0 BK227.out 1) | (go_at_call 25; (with_reducible refine (impl_works.calls k a0_0 _ _ l0_1 a1 t229 _ ?side1 ?side2 A5.out).mono ?_); (case side1 => exact z3_11); (case side2 => exact HC0_1.out); rintro e w10 ⟨rfl, hb⟩; have n0_ := Aside0.mk (ql0 (g := gb227) (o := .cells #[.int .i64 a0_0, .slice A0_1 l0_1.length c0_1] 26 (0, 0)) z3_12 hb); have n1_ := Aside0.mk (qf0 z3_6 hb); clear BK227; clear HB; have BK227 := n0_; have HB := n1_; clear n0_ n1_; (try clear hb); (try clear hb2); (try clear hk); (try clear hi)))
  go_ret
  exact ⟨z3_7, z3_6⟩
 replace c4 := Bool.eq_false_iff.mpr c4
 subst c4
 have H1 : (some false) = some r := by rw [if_neg (show ¬ (false = true) by decide)] at H; exact H
 clear H
 have H := H1
 clear H1
 obtain rfl := Option.some.inj H
 go_enter Try.func7, Try.ntmps7
 go_wp2_with (first | ((with_reducible refine qs0 (N := 2) rfl ?_); refine qr0 ?hg (N := 2) ?hd (cs := #[.int .i64 a0_0, .slice A0_1 l0_1.length c0_1]) (t := 26) ?hr ?_; (case hd => rfl); (case hg => rfl); (case hr => exact z3_13); intro gb227 hg w11 hbox hb; have n0_ := Aside0.mk (qf0 z3_0 hb); have n1_ := Aside0.mk (hbox); have n2_ := Aside0.mk ((z3_1 : w.heap.size ≤ gb227)); have n3_ := Aside0.mk ((z3_1 : w.heap.size ≤ gb227)); clear HB; have HB := n0_; have BK227 := n1_; have GW227 := n2_; have GE227 := n3_; clear n0_ n1_ n2_ n3_; clear hb hbox hg; have hcz12_0 : w11.cell? ⟨gb227, 0, none⟩ = some (.int .i64 a0_0) := (qb0 BK227.out 0).trans rfl; have hcz12_1 : w11.cell? ⟨gb227, 1, none⟩ = some (.slice A0_1 l0_1.length c0_1) := (qb0 BK227.out 1).trans rfl; have hfz12_0 := qa0 BK227.out 0; have hfz12_1 := qa0 BK227.out 1) | ((with_reducible refine qc0 (f := 24) rfl ?_); refine qm0 (some 6) rfl rfl Try.func24 (by kernel_rfl) rfl #[.agg #[.int .i64 a0_0, .slice A0_1 l0_1.length c0_1]] rfl z3_3 ?_; (with_reducible refine (impl_CalOk.calls k a0_0 _ _ l0_1 false _ ?side1 ?side2 A3.out).mono ?_); (case side1 => exact z3_11); (case side2 => exact HC0_1.out); rintro e w13 ⟨rfl, hb⟩; refine ⟨_, rfl, ?_⟩; have n0_ := Aside0.mk (ql0 (g := gb227) (o := .cells #[.int .i64 a0_0, .slice A0_1 l0_1.length c0_1] 26 (0, 0)) z3_12 hb); have n1_ := Aside0.mk (qf0 z3_6 hb); clear BK227; clear HB; have BK227 := n0_; have HB := n1_; clear n0_ n1_; (try clear hb); (try clear hb2); (try clear hk); (try clear hi)))
 go_ret
 exact ⟨z3_7, z3_6⟩

-- NOT PRINTED: function 47 (impl_workdays_1)

-- NOT PRINTED: function 28 (impl_workdays)

end Go.Proofs.Ytggfggmmecbdnaa.PFnWorkBack
