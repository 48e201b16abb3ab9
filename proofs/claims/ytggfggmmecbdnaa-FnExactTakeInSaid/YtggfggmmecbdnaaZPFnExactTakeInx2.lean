/- Lines by a program (a changed copy of the kit's print: this repo's wip/tools): Go functions as Lean functions, and proofs that the calls answer so. -/
import Derived.Test.YtggfggmmecbdnaaZPFnExactTakeInx0
import Derived.Test.YtggfggmmecbdnaaZPFnExactTakeInx1
namespace Go.Proofs.Ytggfggmmecbdnaa.PFnExactTakeIn
open Go.RowKit Go.Proofs.YtggfggmmecbdnaaW.PrintWords Go.Proofs.YtggfggmmecbdnaaW.PrintLast Go.Proofs.YtggfggmmecbdnaaW.PrintMore
/-- Closing blocks told once. -/
theorem z2_0 {P : Prop} (h : P := by repeat (first | (with_reducible first | exact HB.out | apply qk0 | apply qh0 | apply qi0 | refine ql0 ?_ GE111.out) | exact HB.out)) : P := h
theorem z2_1 {P : Prop} (h : P := by (try simp only [List.map_toArray, List.map_cons, List.map_nil]); first | done | rfl | (simp only [List.length_drop, List.length_take]; rfl)) : P := h
theorem z2_2 {P : Prop} (h : P := by (with_reducible repeat (first | refine qc0 ?_ _ | refine qe0 ?_ | refine qd0 ?_ _)); exact BK111.out) : P := h
theorem z2_3 {P : Prop} (h : P := by kernel_rfl) : P := h
theorem z2_4 {P : Prop} (h : P := by first | rfl | (simp [errW_none, errW_some] <;> rfl) | (simp [*, errW_none, errW_some] <;> rfl)) : P := h
theorem z2_5 {P : Prop} (h : P := by first | (with_reducible assumption) | assumption) : P := h
theorem z2_6 {P : Prop} (h : P := by repeat (first | exact (Kd.C_below HR0_2.out HB.out) | (with_reducible refine Kd.C_alloc ?_ _) | (with_reducible refine Kd.C_drewN ?_ _) | (with_reducible refine Kd.C_drew ?_))) : P := h
theorem z2_7 {P : Prop} (h : P := by first | rfl | (simp; done) | (simp [*]; done)) : P := h
theorem z2_8 {P : Prop} (h : P := by repeat (first | (with_reducible first | exact HB.out | apply qk0 | apply qh0 | apply qi0) | exact HB.out)) : P := h
theorem z2_9 {P : Prop} (h : P := by rw [hg]; exact (qn0 (by repeat (first | (with_reducible first | exact HB.out | apply qk0 | apply qh0 | apply qi0) | exact HB.out)))) : P := h
theorem z2_10 {P : Prop} (h : P := by have := HJ1.out; have := HK2.out; first | omega | exact Nat.le_refl _) : P := h
/-- Runs of true and false, by turns. -/
def rb2l : Bool → List Nat → List Bool
 | _, [] => []
 | b, n :: r => List.replicate n b ++ rb2l (!b) r
def rb2 (l : List Nat) : Array Bool := (rb2l true l).toArray
attribute [local go_sem] max2_int min2_int max_two min_two max_three min_three max_four min_four   -- for this text's walks alone
set_option linter.unusedVariables false
set_option linter.unusedSimpArgs false

/-! ### spec_WorthOk: function 34 -/
mutual
def spec_WorthOk.j0 : Nat → Bool → Int → Int → List (S59) → Int → Option (Bool)
 | 0, _, _, _, _, _ => none
 | k + 1, x26, x112000, x112001, x112002, x112003 => if x26 = true then (some false) else (spec_WorthOk.l0 k 0 x112000 x112001 x112002 x112003)
def spec_WorthOk.l0 : Nat → Int → Int → Int → List (S59) → Int → Option (Bool)
 | 0, _, _, _, _, _ => none
 | k + 1, x3, x112000, x112001, x112002, x112003 => if x3 < (x112002.length : Int) then (if 0 ≤ x3 then ((spec_l16Lay.f ((rd_T59 x112002 x3).f0) ((rd_T59 x112002 x3).f1)).bind fun t114 => (if t114 = true then (if x112000 = 4 then (if ((rd_T59 x112002 x3).f1) = (wrap64 (((rd_T59 x112002 x3).f0) * x112001)) then (spec_WorthOk.l0 k (wrap64 (x3 + 1)) x112000 x112001 x112002 x112003) else (some false)) else (spec_WorthOk.l0 k (wrap64 (x3 + 1)) x112000 x112001 x112002 x112003)) else (some false))) else (none)) else (if x112000 = 4 then ((spec_l12Price.f x112001).bind fun t117 => (if t117 = true then ((spec_l1Amount.f x112003).bind fun t118 => (spec_WorthOk.j2 k (!t118) x112000 x112001 x112002 x112003)) else (spec_WorthOk.j2 k true x112000 x112001 x112002 x112003))) else (if x112001 = 0 then (spec_WorthOk.j3 k (x112003 != 0) x112000 x112001 x112002 x112003) else (spec_WorthOk.j3 k true x112000 x112001 x112002 x112003)))
def spec_WorthOk.j2 : Nat → Bool → Int → Int → List (S59) → Int → Option (Bool)
 | 0, _, _, _, _, _ => none
 | k + 1, x76, x112000, x112001, x112002, x112003 => if x76 = true then (some false) else ((spec_l16Sums.f k x112002).bind fun bt119 => ((spec_l12Qty.f bt119.1).bind fun t121 => (if t121 = true then ((spec_l1Amount.f bt119.2).bind fun t122 => (some t122)) else (some false))))
def spec_WorthOk.j3 : Nat → Bool → Int → Int → List (S59) → Int → Option (Bool)
 | 0, _, _, _, _, _ => none
 | k + 1, x84, x112000, x112001, x112002, x112003 => if x84 = true then (some false) else ((spec_l16Sums.f k x112002).bind fun bt123 => ((spec_l12Qty.f bt123.1).bind fun t125 => (if t125 = true then ((spec_l1Amount.f bt123.2).bind fun t126 => (some t126)) else (some false))))
end
def spec_WorthOk.f (k : Nat) (a0_0 : Int) (a0_1 : Int) (l0_2 : List (S59)) (a0_3 : Int) : Option (Bool) := (spec_l1In.f a0_0 1 4).bind fun t112 => (if t112 = true then (if (l0_2.length : Int) > 300 then (spec_WorthOk.j0 k true a0_0 a0_1 l0_2 a0_3) else (if a0_0 ≥ 3 then (spec_WorthOk.j0 k (decide ((l0_2.length : Int) > 1)) a0_0 a0_1 l0_2 a0_3) else (spec_WorthOk.j0 k false a0_0 a0_1 l0_2 a0_3))) else (spec_WorthOk.j0 k true a0_0 a0_1 l0_2 a0_3))
theorem spec_WorthOk.mono_l : ∀ k, (∀ y0 y1 y2 y3 y4, LeO (spec_WorthOk.j0 k y0 y1 y2 y3 y4) (spec_WorthOk.j0 (k + 1) y0 y1 y2 y3 y4)) ∧ (∀ y0 y1 y2 y3 y4, LeO (spec_WorthOk.l0 k y0 y1 y2 y3 y4) (spec_WorthOk.l0 (k + 1) y0 y1 y2 y3 y4)) ∧ (∀ y0 y1 y2 y3 y4, LeO (spec_WorthOk.j2 k y0 y1 y2 y3 y4) (spec_WorthOk.j2 (k + 1) y0 y1 y2 y3 y4)) ∧ (∀ y0 y1 y2 y3 y4, LeO (spec_WorthOk.j3 k y0 y1 y2 y3 y4) (spec_WorthOk.j3 (k + 1) y0 y1 y2 y3 y4))
 | 0 => ⟨fun _ _ _ _ _ r h => by simp [spec_WorthOk.j0] at h, fun _ _ _ _ _ r h => by simp [spec_WorthOk.l0] at h, fun _ _ _ _ _ r h => by simp [spec_WorthOk.j2] at h, fun _ _ _ _ _ r h => by simp [spec_WorthOk.j3] at h⟩
 | k + 1 => by
  obtain ⟨ih0, ih1, ih2, ih3⟩ := spec_WorthOk.mono_l k
  refine ⟨?_, ?_, ?_, ?_⟩
  ·intro y0 y1 y2 y3 y4
   unfold spec_WorthOk.j0
   repeat' first
   | (with_reducible exact ih0 _ _ _ _ _)
   | (with_reducible exact ih1 _ _ _ _ _)
   | (with_reducible exact ih2 _ _ _ _ _)
   | (with_reducible exact ih3 _ _ _ _ _)
   | (with_reducible exact spec_l16Sums.mono _ _)
   | (with_reducible exact LeO.refl _)
   | (with_reducible exact LeO.none _)
   | (with_reducible refine LeO.ite ?_ ?_)
   | (with_reducible refine LeO.bind ?_ (fun _ => ?_))
   | exact ih0 _ _ _ _ _
   | exact ih1 _ _ _ _ _
   | exact ih2 _ _ _ _ _
   | exact ih3 _ _ _ _ _
   | exact spec_l16Sums.mono _ _
   | exact LeO.none _
   | refine LeO.ite ?_ ?_
   | refine LeO.bind ?_ (fun _ => ?_)
  ·intro y0 y1 y2 y3 y4
   unfold spec_WorthOk.l0
   repeat' first
   | (with_reducible exact ih0 _ _ _ _ _)
   | (with_reducible exact ih1 _ _ _ _ _)
   | (with_reducible exact ih2 _ _ _ _ _)
   | (with_reducible exact ih3 _ _ _ _ _)
   | (with_reducible exact spec_l16Sums.mono _ _)
   | (with_reducible exact LeO.refl _)
   | (with_reducible exact LeO.none _)
   | (with_reducible refine LeO.ite ?_ ?_)
   | (with_reducible refine LeO.bind ?_ (fun _ => ?_))
   | exact ih0 _ _ _ _ _
   | exact ih1 _ _ _ _ _
   | exact ih2 _ _ _ _ _
   | exact ih3 _ _ _ _ _
   | exact spec_l16Sums.mono _ _
   | exact LeO.none _
   | refine LeO.ite ?_ ?_
   | refine LeO.bind ?_ (fun _ => ?_)
  ·intro y0 y1 y2 y3 y4
   unfold spec_WorthOk.j2
   repeat' first
   | (with_reducible exact ih0 _ _ _ _ _)
   | (with_reducible exact ih1 _ _ _ _ _)
   | (with_reducible exact ih2 _ _ _ _ _)
   | (with_reducible exact ih3 _ _ _ _ _)
   | (with_reducible exact spec_l16Sums.mono _ _)
   | (with_reducible exact LeO.refl _)
   | (with_reducible exact LeO.none _)
   | (with_reducible refine LeO.ite ?_ ?_)
   | (with_reducible refine LeO.bind ?_ (fun _ => ?_))
   | exact ih0 _ _ _ _ _
   | exact ih1 _ _ _ _ _
   | exact ih2 _ _ _ _ _
   | exact ih3 _ _ _ _ _
   | exact spec_l16Sums.mono _ _
   | exact LeO.none _
   | refine LeO.ite ?_ ?_
   | refine LeO.bind ?_ (fun _ => ?_)
  ·intro y0 y1 y2 y3 y4
   unfold spec_WorthOk.j3
   repeat' first
   | (with_reducible exact ih0 _ _ _ _ _)
   | (with_reducible exact ih1 _ _ _ _ _)
   | (with_reducible exact ih2 _ _ _ _ _)
   | (with_reducible exact ih3 _ _ _ _ _)
   | (with_reducible exact spec_l16Sums.mono _ _)
   | (with_reducible exact LeO.refl _)
   | (with_reducible exact LeO.none _)
   | (with_reducible refine LeO.ite ?_ ?_)
   | (with_reducible refine LeO.bind ?_ (fun _ => ?_))
   | exact ih0 _ _ _ _ _
   | exact ih1 _ _ _ _ _
   | exact ih2 _ _ _ _ _
   | exact ih3 _ _ _ _ _
   | exact spec_l16Sums.mono _ _
   | exact LeO.none _
   | refine LeO.ite ?_ ?_
   | refine LeO.bind ?_ (fun _ => ?_)
theorem spec_WorthOk.mono : ∀ a0 a1 a2 a3 k, LeO (spec_WorthOk.f k a0 a1 a2 a3) (spec_WorthOk.f (k + 1) a0 a1 a2 a3) := by
 intro a0 a1 a2 a3 k
 obtain ⟨ih0, ih1, ih2, ih3⟩ := spec_WorthOk.mono_l k
 unfold spec_WorthOk.f
 repeat' first
   | (with_reducible exact ih0 _ _ _ _ _)
   | (with_reducible exact ih1 _ _ _ _ _)
   | (with_reducible exact ih2 _ _ _ _ _)
   | (with_reducible exact ih3 _ _ _ _ _)
   | (with_reducible exact spec_l16Sums.mono _ _)
   | (with_reducible exact LeO.refl _)
   | (with_reducible exact LeO.none _)
   | (with_reducible refine LeO.ite ?_ ?_)
   | (with_reducible refine LeO.bind ?_ (fun _ => ?_))
   | exact ih0 _ _ _ _ _
   | exact ih1 _ _ _ _ _
   | exact ih2 _ _ _ _ _
   | exact ih3 _ _ _ _ _
   | exact spec_l16Sums.mono _ _
   | exact LeO.none _
   | refine LeO.ite ?_ ?_
   | refine LeO.bind ?_ (fun _ => ?_)
def spec_WorthOk.T6 : Bool × List (List Nat × List Nat) := (true, [([], []), ([0], [0]), ([], []), ([1, 2], [1, 2]), ([3], [3]), ([4], [4]), ([5], [5]), ([6, 5], [6]), ([7], [7]), ([8, 7], [7, 8]), ([9, 7], [7, 9]), ([10, 7, 7], [7, 10]), ([11], [11]), ([12, 11], [11, 12]), ([11], [11]), ([13, 14, 11], [11, 13, 14]), ([15, 11], [11, 15]), ([16, 11], [11, 16]), ([11], [11]), ([18, 11], [11, 18]), ([11], [11]), ([19, 20, 11], [11, 19, 20]), ([21, 11], [11, 21]), ([22, 11], [11, 22]), ([11], [11]), ([24, 11], [11, 24]), ([23, 25, 11], [11, 23, 25]), ([17, 26, 11], [11, 17, 26]), ([11, 27, 7], [7, 11, 27]), ([7, 28], [7, 28])])
def spec_WorthOk.B6 : List Nat := [0, 1, 0, 7, 15, 31, 63, 127, 255, 511, 1023, 2047, 4095, 8191, 4095, 32767, 65535, 131071, 4095, 266239, 4095, 1839103, 3936255, 8130559, 4095, 16781311, 66850815, 134217727, 268435455, 536870911]
theorem spec_WorthOk.tab6 : rtab .any (opsOf Try.f34 6) = spec_WorthOk.T6 := by kernel_rfl
theorem spec_WorthOk.bits6 : waitsOk spec_WorthOk.T6.2 spec_WorthOk.B6 = true := by kernel_rfl
set_option maxHeartbeats 8000000 in
set_option maxRecDepth 100000 in
theorem spec_WorthOk.calls (k : Nat) (a0_0 : Int) (a0_1 : Int) (A0_2 : Option Addr) (c0_2 : Nat) (l0_2 : List (S59)) (a0_3 : Int) (r : Bool) (w : World) (hr0_2 : Kd.C k59 w A0_2 l0_2.length l0_2) (hc0_2 : l0_2.length ≤ c0_2) (h : spec_WorthOk.f k a0_0 a0_1 l0_2 a0_3 = some r) :
  Calls Try.prog 34 #[.agg #[.int .i64 a0_0, .int .i64 a0_1, .slice A0_2 l0_2.length c0_2, .int .i64 a0_3]] w fun e w' => e = .returned (.bool r) ∧ Below w.heap.size w w' := by
 have hu37 := Try.underlying37
 have hu59 := Try.underlying59
 have HR0_2 := Aside0.mk hr0_2
 have HC0_2 := Aside0.mk hc0_2
 clear hr0_2 hc0_2
 have HB := Aside0.mk (Below.refl w.heap.size w)
 have H : ((spec_l1In.f a0_0 1 4).bind fun t112 => (if t112 = true then (if (l0_2.length : Int) > 300 then (spec_WorthOk.j0 k true a0_0 a0_1 l0_2 a0_3) else (if a0_0 ≥ 3 then (spec_WorthOk.j0 k (decide ((l0_2.length : Int) > 1)) a0_0 a0_1 l0_2 a0_3) else (spec_WorthOk.j0 k false a0_0 a0_1 l0_2 a0_3))) else (spec_WorthOk.j0 k true a0_0 a0_1 l0_2 a0_3))) = some r := h
 clear h
 have HC2 := Aside0.mk H
 clear H
 go_enter Try.func34, Try.ntmps34
 go_upto_region 1 with (first | ((with_reducible refine qr0 (N := 1) rfl ?_); (try (refine gate_guard (by rfl) ?_; dsimp only)); refine qo0 ?hg (N := 1) ?hd (cs := #[.int .i64 a0_0, .int .i64 a0_1, .slice A0_2 l0_2.length c0_2, .int .i64 a0_3]) (t := 37) ?hr ?_; (case hd => rfl); (case hg => rfl); (case hr => first | (go_simp; done) | (go_simp; rfl)); intro gb111 hg w3 hbox hb; have n0_ := Aside0.mk (qg0 z2_8 hb); have n1_ := Aside0.mk (hbox); have n2_ := Aside0.mk ((z2_9 : w.heap.size ≤ gb111)); have n3_ := Aside0.mk ((z2_9 : w.heap.size ≤ gb111)); clear HB; have HB := n0_; have BK111 := n1_; have GW111 := n2_; have GE111 := n3_; clear n0_ n1_ n2_ n3_; clear hb hbox hg))
 (try simp only [Act.put, List.setIfInBounds_toArray, List.set_cons_zero, List.set_cons_succ])
 go_cut [26] (fun v26 wc => ∃ (kq : Nat) (x26_1 : Bool), v26 = .bool x26_1 ∧ Aside0 (spec_WorthOk.j0 kq x26_1 a0_0 a0_1 l0_2 a0_3 = some r) ∧ Aside0 (kq ≤ k) ∧ Aside0 (wc.heap[gb111]? = some (.cells #[.int .i64 a0_0, .int .i64 a0_1, (.slice A0_2 l0_2.length c0_2), .int .i64 a0_3] 37 (0, 0))) ∧ Aside0 (Below w.heap.size w wc))
 case first =>
  have H := HC2.out
  clear HC2
  replace H := Option.bind_eq_some_iff.mp H
  obtain ⟨t112, A40, H⟩ := H
  replace H : (if t112 = true then (if (l0_2.length : Int) > 300 then (spec_WorthOk.j0 k true a0_0 a0_1 l0_2 a0_3) else (if a0_0 ≥ 3 then (spec_WorthOk.j0 k (decide ((l0_2.length : Int) > 1)) a0_0 a0_1 l0_2 a0_3) else (spec_WorthOk.j0 k false a0_0 a0_1 l0_2 a0_3))) else (spec_WorthOk.j0 k true a0_0 a0_1 l0_2 a0_3)) = some r := H
  have A4 := Aside0.mk A40
  clear A40
  by_cases c5 : t112 = true
  ·subst c5
   have H1 : (if (l0_2.length : Int) > 300 then (spec_WorthOk.j0 k true a0_0 a0_1 l0_2 a0_3) else (if a0_0 ≥ 3 then (spec_WorthOk.j0 k (decide ((l0_2.length : Int) > 1)) a0_0 a0_1 l0_2 a0_3) else (spec_WorthOk.j0 k false a0_0 a0_1 l0_2 a0_3))) = some r := by rw [if_pos rfl] at H; exact H
   clear H
   have H := H1
   clear H1
   by_cases c6 : (l0_2.length : Int) > 300
   ·rw [if_pos c6] at H
    have c6b0 : decide (300 < (l0_2.length : Int)) = true := decide_eq_true c6
    have c6b1 : decide (300 < l0_2.length) = true := decide_eq_true (by omega)
    clear c6
    (first | rw [c6b0] | (simp only [i64_w, i32_w]; rw [c6b0]) | skip)
    have H' := Aside0.mk H
    clear H
    have hcz7_0 : w3.cell? ⟨gb111, 0, none⟩ = some (.int .i64 a0_0) := (qb0 BK111.out 0).trans rfl
    have hcz7_1 : w3.cell? ⟨gb111, 1, none⟩ = some (.int .i64 a0_1) := (qb0 BK111.out 1).trans rfl
    have hcz7_2 : w3.cell? ⟨gb111, 2, none⟩ = some (.slice A0_2 l0_2.length c0_2) := (qb0 BK111.out 2).trans rfl
    have hcz7_3 : w3.cell? ⟨gb111, 3, none⟩ = some (.int .i64 a0_3) := (qb0 BK111.out 3).trans rfl
    have hfz7_0 := qa0 BK111.out 0
    have hfz7_1 := qa0 BK111.out 1
    have hfz7_2 := qa0 BK111.out 2
    have hfz7_3 := qa0 BK111.out 3
    go_wp2_with (first | ((with_reducible refine qj0 (f := 31) rfl ?_); refine qy0 (some 8) rfl rfl Try.func31 z2_3 rfl #[.int .i64 a0_0, .int .i64 1, .int .i64 4] rfl z2_1 ?_; (with_reducible refine (spec_l1In.calls a0_0 1 4 true _ A4.out).mono ?_); rintro e w' ⟨rfl, ⟨nd, rfl⟩⟩; refine ⟨_, rfl, ?_⟩))
    go_meet
    case rel => exact ⟨_, (true), z2_7, H', ⟨by first | omega | exact Nat.le_refl _⟩, ⟨z2_2⟩, ⟨z2_0⟩⟩
   rw [if_neg c6] at H
   have c6b0 : decide (300 < (l0_2.length : Int)) = false := decide_eq_false c6
   have c6b1 : decide (300 < l0_2.length) = false := decide_eq_false (by omega)
   clear c6
   (first | rw [c6b0] | (simp only [i64_w, i32_w]; rw [c6b0]) | skip)
   by_cases c8 : a0_0 ≥ 3
   ·rw [if_pos c8] at H
    have c8b0 : decide (3 ≤ a0_0) = true := decide_eq_true c8
    clear c8
    have H' := Aside0.mk H
    clear H
    have hcz9_0 : w3.cell? ⟨gb111, 0, none⟩ = some (.int .i64 a0_0) := (qb0 BK111.out 0).trans rfl
    have hcz9_1 : w3.cell? ⟨gb111, 1, none⟩ = some (.int .i64 a0_1) := (qb0 BK111.out 1).trans rfl
    have hcz9_2 : w3.cell? ⟨gb111, 2, none⟩ = some (.slice A0_2 l0_2.length c0_2) := (qb0 BK111.out 2).trans rfl
    have hcz9_3 : w3.cell? ⟨gb111, 3, none⟩ = some (.int .i64 a0_3) := (qb0 BK111.out 3).trans rfl
    have hfz9_0 := qa0 BK111.out 0
    have hfz9_1 := qa0 BK111.out 1
    have hfz9_2 := qa0 BK111.out 2
    have hfz9_3 := qa0 BK111.out 3
    go_wp2_with (first | ((with_reducible refine qj0 (f := 31) rfl ?_); refine qy0 (some 8) rfl rfl Try.func31 z2_3 rfl #[.int .i64 a0_0, .int .i64 1, .int .i64 4] rfl z2_1 ?_; (with_reducible refine (spec_l1In.calls a0_0 1 4 true _ A4.out).mono ?_); rintro e w' ⟨rfl, ⟨nd, rfl⟩⟩; refine ⟨_, rfl, ?_⟩))
    go_meet
    case rel => exact ⟨_, (decide ((l0_2.length : Int) > 1)), z2_7, H', ⟨by first | omega | exact Nat.le_refl _⟩, ⟨z2_2⟩, ⟨z2_0⟩⟩
   rw [if_neg c8] at H
   have c8b0 : decide (3 ≤ a0_0) = false := decide_eq_false c8
   clear c8
   have H' := Aside0.mk H
   clear H
   have hcz10_0 : w3.cell? ⟨gb111, 0, none⟩ = some (.int .i64 a0_0) := (qb0 BK111.out 0).trans rfl
   have hcz10_1 : w3.cell? ⟨gb111, 1, none⟩ = some (.int .i64 a0_1) := (qb0 BK111.out 1).trans rfl
   have hcz10_2 : w3.cell? ⟨gb111, 2, none⟩ = some (.slice A0_2 l0_2.length c0_2) := (qb0 BK111.out 2).trans rfl
   have hcz10_3 : w3.cell? ⟨gb111, 3, none⟩ = some (.int .i64 a0_3) := (qb0 BK111.out 3).trans rfl
   have hfz10_0 := qa0 BK111.out 0
   have hfz10_1 := qa0 BK111.out 1
   have hfz10_2 := qa0 BK111.out 2
   have hfz10_3 := qa0 BK111.out 3
   go_wp2_with (first | ((with_reducible refine qj0 (f := 31) rfl ?_); refine qy0 (some 8) rfl rfl Try.func31 z2_3 rfl #[.int .i64 a0_0, .int .i64 1, .int .i64 4] rfl z2_1 ?_; (with_reducible refine (spec_l1In.calls a0_0 1 4 true _ A4.out).mono ?_); rintro e w' ⟨rfl, ⟨nd, rfl⟩⟩; refine ⟨_, rfl, ?_⟩))
   go_meet
   case rel => exact ⟨_, (false), z2_7, H', ⟨by first | omega | exact Nat.le_refl _⟩, ⟨z2_2⟩, ⟨z2_0⟩⟩
  replace c5 := Bool.eq_false_iff.mpr c5
  subst c5
  have H1 : (spec_WorthOk.j0 k true a0_0 a0_1 l0_2 a0_3) = some r := by rw [if_neg (show ¬ (false = true) by decide)] at H; exact H
  clear H
  have H := H1
  clear H1
  have H' := Aside0.mk H
  clear H
  have hcz11_0 : w3.cell? ⟨gb111, 0, none⟩ = some (.int .i64 a0_0) := (qb0 BK111.out 0).trans rfl
  have hcz11_1 : w3.cell? ⟨gb111, 1, none⟩ = some (.int .i64 a0_1) := (qb0 BK111.out 1).trans rfl
  have hcz11_2 : w3.cell? ⟨gb111, 2, none⟩ = some (.slice A0_2 l0_2.length c0_2) := (qb0 BK111.out 2).trans rfl
  have hcz11_3 : w3.cell? ⟨gb111, 3, none⟩ = some (.int .i64 a0_3) := (qb0 BK111.out 3).trans rfl
  have hfz11_0 := qa0 BK111.out 0
  have hfz11_1 := qa0 BK111.out 1
  have hfz11_2 := qa0 BK111.out 2
  have hfz11_3 := qa0 BK111.out 3
  go_wp2_with (first | ((with_reducible refine qj0 (f := 31) rfl ?_); refine qy0 (some 8) rfl rfl Try.func31 z2_3 rfl #[.int .i64 a0_0, .int .i64 1, .int .i64 4] rfl z2_1 ?_; (with_reducible refine (spec_l1In.calls a0_0 1 4 false _ A4.out).mono ?_); rintro e w' ⟨rfl, ⟨nd, rfl⟩⟩; refine ⟨_, rfl, ?_⟩))
  go_meet
  case rel => exact ⟨_, (true), z2_7, H', ⟨by first | omega | exact Nat.le_refl _⟩, ⟨z2_2⟩, ⟨z2_0⟩⟩
 case rest =>
  clear HC2
  try clear p2
  try clear c3
  try clear c5
  try clear c6
  try clear c6b0
  try clear c6b1
  try clear c8
  try clear c8b0
  try clear hcz10_0
  try clear hcz10_1
  try clear hcz10_2
  try clear hcz10_3
  try clear hcz11_0
  try clear hcz11_1
  try clear hcz11_2
  try clear hcz11_3
  try clear hcz7_0
  try clear hcz7_1
  try clear hcz7_2
  try clear hcz7_3
  try clear hcz9_0
  try clear hcz9_1
  try clear hcz9_2
  try clear hcz9_3
  try clear hfz10_0
  try clear hfz10_1
  try clear hfz10_2
  try clear hfz10_3
  try clear hfz11_0
  try clear hfz11_1
  try clear hfz11_2
  try clear hfz11_3
  try clear hfz7_0
  try clear hfz7_1
  try clear hfz7_2
  try clear hfz7_3
  try clear hfz9_0
  try clear hfz9_1
  try clear hfz9_2
  try clear hfz9_3
  obtain ⟨kq, x26_1, rfl, HA, HJ1, BK111, HB⟩ := hcut
  cases kq with
  | zero => exact absurd HA.out (by simp [spec_WorthOk.j0])
  | succ kj1 =>
   have H := HA.out
   clear HA
   simp only [spec_WorthOk.j0] at H
   by_cases c12 : x26_1 = true
   ·subst c12
    have H1 : (some false) = some r := by rw [if_pos rfl] at H; exact H
    clear H
    have H := H1
    clear H1
    obtain rfl := Option.some.inj H
    go_wp2
    go_ret
    exact ⟨z2_4, z2_0⟩
   replace c12 := Bool.eq_false_iff.mpr c12
   subst c12
   have H1 : (spec_WorthOk.l0 kj1 0 a0_0 a0_1 l0_2 a0_3) = some r := by rw [if_neg (show ¬ (false = true) by decide)] at H; exact H
   clear H
   have H := H1
   clear H1
   have H' := Aside0.mk H
   clear H
   go_wp2
   go_loopg [3] kj1 (fun kq v3 w' => ∃ (x3_2 : Int), v3 = .int .i64 x3_2 ∧ Aside0 (spec_WorthOk.l0 kq x3_2 a0_0 a0_1 l0_2 a0_3 = some r) ∧ Aside0 (kq ≤ kj1) ∧ Aside0 (w'.heap[gb111]? = some (.cells #[.int .i64 a0_0, .int .i64 a0_1, (.slice A0_2 l0_2.length c0_2), .int .i64 a0_3] 37 (0, 0))) ∧ Aside0 (Below w.heap.size w w'))
   case atStart => exact ⟨(0), z2_7, H', ⟨Nat.le_refl _⟩, ⟨z2_2⟩, ⟨z2_0⟩⟩
   case round =>
    clear H'
    try clear c1
    try clear p2
    try clear c3
    try clear c5
    try clear c6
    try clear c6b0
    try clear c6b1
    try clear c8
    try clear c8b0
    try clear c12
    try clear hcz10_0
    try clear hcz10_1
    try clear hcz10_2
    try clear hcz10_3
    try clear hcz11_0
    try clear hcz11_1
    try clear hcz11_2
    try clear hcz11_3
    try clear hcz7_0
    try clear hcz7_1
    try clear hcz7_2
    try clear hcz7_3
    try clear hcz9_0
    try clear hcz9_1
    try clear hcz9_2
    try clear hcz9_3
    try clear hfz10_0
    try clear hfz10_1
    try clear hfz10_2
    try clear hfz10_3
    try clear hfz11_0
    try clear hfz11_1
    try clear hfz11_2
    try clear hfz11_3
    try clear hfz7_0
    try clear hfz7_1
    try clear hfz7_2
    try clear hfz7_3
    try clear hfz9_0
    try clear hfz9_1
    try clear hfz9_2
    try clear hfz9_3
    try clear p2
    obtain ⟨x3_2, rfl, HA, HK2, BK111, HB⟩ := hrel
    cases gk with
    | zero => exact absurd HA.out (by simp [spec_WorthOk.l0])
    | succ k2 =>
     have H := HA.out
     clear HA
     simp only [spec_WorthOk.l0] at H
     by_cases c13 : x3_2 < (l0_2.length : Int)
     ·rw [if_pos c13] at H
      have c13b0 : decide (x3_2 < (l0_2.length : Int)) = true := decide_eq_true c13
      clear c13
      by_cases c14 : 0 ≤ x3_2
      case neg => rw [if_neg c14] at H; exact absurd H (by simp)
      rw [if_pos c14] at H
      have c14b0 : decide (0 ≤ x3_2) = true := decide_eq_true c14
      clear c14
      replace H := Option.bind_eq_some_iff.mp H
      obtain ⟨t114, A150, H⟩ := H
      replace H : (if t114 = true then (if a0_0 = 4 then (if ((rd_T59 l0_2 x3_2).f1) = (wrap64 (((rd_T59 l0_2 x3_2).f0) * a0_1)) then (spec_WorthOk.l0 k2 (wrap64 (x3_2 + 1)) a0_0 a0_1 l0_2 a0_3) else (some false)) else (spec_WorthOk.l0 k2 (wrap64 (x3_2 + 1)) a0_0 a0_1 l0_2 a0_3)) else (some false)) = some r := H
      have A15 := Aside0.mk A150
      clear A150
      by_cases c16 : t114 = true
      ·subst c16
       have H1 : (if a0_0 = 4 then (if ((rd_T59 l0_2 x3_2).f1) = (wrap64 (((rd_T59 l0_2 x3_2).f0) * a0_1)) then (spec_WorthOk.l0 k2 (wrap64 (x3_2 + 1)) a0_0 a0_1 l0_2 a0_3) else (some false)) else (spec_WorthOk.l0 k2 (wrap64 (x3_2 + 1)) a0_0 a0_1 l0_2 a0_3)) = some r := by rw [if_pos rfl] at H; exact H
       clear H
       have H := H1
       clear H1
       by_cases c17 : a0_0 = 4
       ·rw [if_pos c17] at H
        have c17b0 : (a0_0 == 4) = true := beq_iff_eq.mpr c17
        have c17b1 : (a0_0 != 4) = false := bne_eq_false_iff_eq.mpr c17
        clear c17
        by_cases c18 : ((rd_T59 l0_2 x3_2).f1) = (wrap64 (((rd_T59 l0_2 x3_2).f0) * a0_1))
        ·rw [if_pos c18] at H
         have c18b0 : (((rd_T59 l0_2 x3_2).f1) == (wrap64 (((rd_T59 l0_2 x3_2).f0) * a0_1))) = true := beq_iff_eq.mpr c18
         have c18b1 : (((rd_T59 l0_2 x3_2).f1) != (wrap64 (((rd_T59 l0_2 x3_2).f0) * a0_1))) = false := bne_eq_false_iff_eq.mpr c18
         clear c18
         have H' := Aside0.mk H
         clear H
         have hcz19_0 : wr.cell? ⟨gb111, 0, none⟩ = some (.int .i64 a0_0) := (qb0 BK111.out 0).trans rfl
         have hcz19_1 : wr.cell? ⟨gb111, 1, none⟩ = some (.int .i64 a0_1) := (qb0 BK111.out 1).trans rfl
         have hcz19_2 : wr.cell? ⟨gb111, 2, none⟩ = some (.slice A0_2 l0_2.length c0_2) := (qb0 BK111.out 2).trans rfl
         have hcz19_3 : wr.cell? ⟨gb111, 3, none⟩ = some (.int .i64 a0_3) := (qb0 BK111.out 3).trans rfl
         have hfz19_0 := qa0 BK111.out 0
         have hfz19_1 := qa0 BK111.out 1
         have hfz19_2 := qa0 BK111.out 2
         have hfz19_3 := qa0 BK111.out 3
         try go_wp2
         have n0_ := Aside0.mk (qe0 BK111.out)
         have n1_ := Aside0.mk (qi0 HB.out)
         clear BK111
         clear HB
         have BK111 := n0_
         have HB := n1_
         clear n0_ n1_
         have p113 : 0 ≤ (x3_2 : Int) := of_decide_eq_true z2_5
         have q113 : x3_2 < (l0_2.length : Int) := of_decide_eq_true z2_5
         obtain ⟨ad113, e113, hx113_0, hx113_1⟩ := at_T59 HR0_2.out x3_2 p113 q113
         have hw113_1 := hx113_1
         have hw113_0 := hx113_0
         cases e113
         replace hx113_0 := (HB.out.cell (World.block_lt_of_cell? w _ hx113_0)).trans hx113_0
         replace hx113_1 := (HB.out.cell (World.block_lt_of_cell? w _ hx113_1)).trans hx113_1
         replace p113 := eq_true p113
         replace q113 := eq_true q113
         have p115 : 0 ≤ (x3_2 : Int) := of_decide_eq_true z2_5
         have q115 : x3_2 < (l0_2.length : Int) := of_decide_eq_true z2_5
         obtain ⟨ad115, e115, hx115_0, hx115_1⟩ := at_T59 HR0_2.out x3_2 p115 q115
         have hw115_1 := hx115_1
         have hw115_0 := hx115_0
         obtain rfl : ad113 = ad115 := (by injection e115)
         replace hx115_0 := (HB.out.cell (World.block_lt_of_cell? w _ hx115_0)).trans hx115_0
         replace hx115_1 := (HB.out.cell (World.block_lt_of_cell? w _ hx115_1)).trans hx115_1
         replace p115 := eq_true p115
         replace q115 := eq_true q115
         have p116 : 0 ≤ (x3_2 : Int) := of_decide_eq_true z2_5
         have q116 : x3_2 < (l0_2.length : Int) := of_decide_eq_true z2_5
         obtain ⟨ad116, e116, hx116_0, hx116_1⟩ := at_T59 HR0_2.out x3_2 p116 q116
         have hw116_1 := hx116_1
         have hw116_0 := hx116_0
         obtain rfl : ad113 = ad116 := (by injection e116)
         replace hx116_0 := (HB.out.cell (World.block_lt_of_cell? w _ hx116_0)).trans hx116_0
         replace hx116_1 := (HB.out.cell (World.block_lt_of_cell? w _ hx116_1)).trans hx116_1
         replace p116 := eq_true p116
         replace q116 := eq_true q116
         refine start_ (n := 30) (S := fun w' => w'.cell? ⟨gb111, 0, none⟩ = some (.int .i64 a0_0) ∧ w'.cell? ⟨gb111, 1, none⟩ = some (.int .i64 a0_1) ∧ w'.cell? ⟨gb111, 2, none⟩ = some (.slice (some ad113) l0_2.length c0_2) ∧ w'.cell? ⟨gb111, 3, none⟩ = some (.int .i64 a0_3) ∧ w'.cell? (ad113.add ((x3_2).toNat * 2)) = some (.int .i64 ((rd_T59 l0_2 x3_2).f0)) ∧ w'.cell? ⟨(ad113.add ((x3_2).toNat * 2)).block, (ad113.add ((x3_2).toNat * 2)).off + 1, none⟩ = some (.int .i64 ((rd_T59 l0_2 x3_2).f1)) ∧ w'.cell? (ad113.add ((x3_2).toNat * 2)) = some (.int .i64 ((rd_T59 l0_2 x3_2).f0)) ∧ w'.cell? ⟨(ad113.add ((x3_2).toNat * 2)).block, (ad113.add ((x3_2).toNat * 2)).off + 1, none⟩ = some (.int .i64 ((rd_T59 l0_2 x3_2).f1)) ∧ w'.cell? (ad113.add ((x3_2).toNat * 2)) = some (.int .i64 ((rd_T59 l0_2 x3_2).f0)) ∧ w'.cell? ⟨(ad113.add ((x3_2).toNat * 2)).block, (ad113.add ((x3_2).toNat * 2)).off + 1, none⟩ = some (.int .i64 ((rd_T59 l0_2 x3_2).f1))) (ds := []) (rb2 [0, 30]) z2_3 rfl rfl ⟨(qb0 BK111.out 0).trans rfl, (qb0 BK111.out 1).trans rfl, (qb0 BK111.out 2).trans rfl, (qb0 BK111.out 3).trans rfl, ((HB.out.cell (World.block_lt_of_cell? w _ hw113_0)).trans hw113_0), ((HB.out.cell (World.block_lt_of_cell? w _ hw113_1)).trans hw113_1), ((HB.out.cell (World.block_lt_of_cell? w _ hw115_0)).trans hw115_0), ((HB.out.cell (World.block_lt_of_cell? w _ hw115_1)).trans hw115_1), ((HB.out.cell (World.block_lt_of_cell? w _ hw116_0)).trans hw116_0), ((HB.out.cell (World.block_lt_of_cell? w _ hw116_1)).trans hw116_1)⟩ (fun hHeld => ?_); refine with_tabW spec_WorthOk.tab6 spec_WorthOk.bits6 (fun HT_ HW_ => ?_)
         generalize wr.drew = w20 at BK111 HB hx113_0 hx113_1 hx115_0 hx115_1 hx116_0 hx116_1 hHeld ⊢
         refine pure_ (i := 0) (N := some 34) (v := ?_) (a' := ?_) (rb2 [1, 29]) rfl rfl (qs0 HT_.out z2_3) (fun _ _ _ h => h) (Or.inl ⟨by rfl, ?_⟩) ?_ ?_
         rotate_left
         ·intro w'
          go_simp
          with_reducible rfl
         rotate_left
         ·simp only [Act.put, List.setIfInBounds_toArray, List.set_cons_zero, List.set_cons_succ, i64_w, i32_w]
          rfl
         refine pure_ (i := 2) (N := some 36) (v := ?_) (a' := ?_) (rb2 [1, 1, 1, 27]) rfl rfl (qs0 HT_.out z2_3) (fun _ _ _ h => h) (Or.inl ⟨by rfl, ?_⟩) ?_ ?_
         rotate_left
         ·intro w'
          go_simp
          with_reducible rfl
         rotate_left
         ·simp only [Act.put, List.setIfInBounds_toArray, List.set_cons_zero, List.set_cons_succ, i64_w, i32_w]
          rfl
         refine take_ (i := 1) (N := some 35) (v := ?_) (a' := ?_) (rb2 [3, 27]) rfl rfl (qd1 HT_.out HW_.out z2_3) (fun _ _ _ h => h) (Or.inl ⟨by rfl, ?_⟩) hHeld ?_ ?_
         rotate_left
         ·rintro w' ⟨s0, s1, s2, s3, s4, s5, s6, s7, s8, s9⟩
          go_simp
          with_reducible rfl
         rotate_left
         ·simp only [Act.put, List.setIfInBounds_toArray, List.set_cons_zero, List.set_cons_succ, i64_w, i32_w]
          rfl
         refine pure_ (i := 3) (N := some 37) (v := ?_) (a' := ?_) (rb2 [4, 26]) rfl rfl (qs0 HT_.out z2_3) (fun _ _ _ h => h) (Or.inl ⟨by rfl, ?_⟩) ?_ ?_
         rotate_left
         ·intro w'
          go_simp
          with_reducible rfl
         rotate_left
         ·simp only [Act.put, List.setIfInBounds_toArray, List.set_cons_zero, List.set_cons_succ, i64_w, i32_w]
          rfl
         refine take_ (i := 4) (N := some 38) (v := ?_) (a' := ?_) (rb2 [5, 25]) rfl rfl (qd1 HT_.out HW_.out z2_3) (fun _ _ _ h => h) (Or.inl ⟨by rfl, ?_⟩) hHeld ?_ ?_
         rotate_left
         ·rintro w' ⟨s0, s1, s2, s3, s4, s5, s6, s7, s8, s9⟩
          go_simp
          with_reducible rfl
         rotate_left
         ·simp only [Act.put, List.setIfInBounds_toArray, List.set_cons_zero, List.set_cons_succ, i64_w, i32_w]
          rfl
         refine one_ (i := 5) (N := some 39) (rb2 [6, 24]) rfl rfl (one_of HT_.out z2_3) (by decide) (fun K hK => ?_)
         refine goes_ Try.func49 z2_3 rfl #[.agg #[.int .i64 ((rd_T59 l0_2 x3_2).f0), .int .i64 ((rd_T59 l0_2 x3_2).f1)]] (by rfl) rfl rfl z2_1 ?_
         with_reducible refine (spec_l16Lay.calls ((rd_T59 l0_2 x3_2).f0) ((rd_T59 l0_2 x3_2).f1) true _ A15.out).mono ?_
         rintro e w21 ⟨rfl, hb⟩
         refine ⟨_, rfl, ?_⟩
         have n0_ := Aside0.mk (qf0 (g := gb111) (o := .cells #[.int .i64 a0_0, .int .i64 a0_1, .slice (some ad113) l0_2.length c0_2, .int .i64 a0_3] 37 (0, 0)) z2_2 hb)
         have n1_ := Aside0.mk (qg0 z2_0 hb)
         clear BK111
         clear HB
         have BK111 := n0_
         have HB := n1_
         clear n0_ n1_
         (try clear hb)
         (try clear hb2)
         (try clear hk)
         (try clear hi)
         refine hK.out _ _ ⟨(qb0 BK111.out 0).trans rfl, (qb0 BK111.out 1).trans rfl, (qb0 BK111.out 2).trans rfl, (qb0 BK111.out 3).trans rfl, ((HB.out.cell (World.block_lt_of_cell? w _ hw113_0)).trans hw113_0), ((HB.out.cell (World.block_lt_of_cell? w _ hw113_1)).trans hw113_1), ((HB.out.cell (World.block_lt_of_cell? w _ hw115_0)).trans hw115_0), ((HB.out.cell (World.block_lt_of_cell? w _ hw115_1)).trans hw115_1), ((HB.out.cell (World.block_lt_of_cell? w _ hw116_0)).trans hw116_0), ((HB.out.cell (World.block_lt_of_cell? w _ hw116_1)).trans hw116_1)⟩ (fun hHeld => ?_)
         clear hK K
         refine norm_ (a' := ?_) ?_ ?_
         rotate_left
         ·show Act.put _ (some 39) _ = _
          simp only [Act.put, List.setIfInBounds_toArray, List.set_cons_zero, List.set_cons_succ, i64_w, i32_w]
          rfl
         refine pure_ (i := 6) (N := some 40) (v := ?_) (a' := ?_) (rb2 [7, 23]) rfl rfl (qs0 HT_.out z2_3) (fun _ _ _ h => h) (Or.inl ⟨by rfl, ?_⟩) ?_ ?_
         rotate_left
         ·intro w'
          go_simp
          with_reducible rfl
         rotate_left
         ·simp only [Act.put, List.setIfInBounds_toArray, List.set_cons_zero, List.set_cons_succ, i64_w, i32_w]
          rfl
         refine pure_ (i := 7) (N := some 41) (v := ?_) (a' := ?_) (rb2 [8, 22]) rfl rfl (qs0 HT_.out z2_3) (fun _ _ _ h => h) (Or.inl ⟨by rfl, ?_⟩) ?_ ?_
         rotate_left
         ·intro w'
          go_simp
          with_reducible rfl
         rotate_left
         ·simp only [Act.put, List.setIfInBounds_toArray, List.set_cons_zero, List.set_cons_succ, i64_w, i32_w]
          rfl
         refine pure_ (i := 8) (N := some 42) (v := ?_) (a' := ?_) (rb2 [9, 21]) rfl rfl (qs0 HT_.out z2_3) (fun _ _ _ h => h) (Or.inl ⟨by rfl, ?_⟩) ?_ ?_
         rotate_left
         ·intro w'
          go_simp
          with_reducible rfl
         rotate_left
         ·simp only [Act.put, List.setIfInBounds_toArray, List.set_cons_zero, List.set_cons_succ, i64_w, i32_w]
          rfl
         refine take_ (i := 9) (N := some 43) (v := ?_) (a' := ?_) (rb2 [10, 20]) rfl rfl (qd1 HT_.out HW_.out z2_3) (fun _ _ _ h => h) (Or.inl ⟨by rfl, ?_⟩) hHeld ?_ ?_
         rotate_left
         ·rintro w' ⟨s0, s1, s2, s3, s4, s5, s6, s7, s8, s9⟩
          go_simp
          with_reducible rfl
         rotate_left
         ·simp only [Act.put, List.setIfInBounds_toArray, List.set_cons_zero, List.set_cons_succ, i64_w, i32_w]
          rfl
         refine pure_ (i := 10) (N := some 44) (v := ?_) (a' := ?_) (rb2 [11, 19]) rfl rfl (qs0 HT_.out z2_3) (fun _ _ _ h => h) (Or.inl ⟨by rfl, ?_⟩) ?_ ?_
         rotate_left
         ·intro w'
          go_simp
          with_reducible rfl
         rotate_left
         ·simp only [Act.put, List.setIfInBounds_toArray, List.set_cons_zero, List.set_cons_succ, i64_w, i32_w]
          rfl
         refine pure_ (i := 11) (N := some 45) (v := ?_) (a' := ?_) (rb2 [12, 18]) rfl rfl (qs0 HT_.out z2_3) (fun _ _ _ h => h) (Or.inl ⟨by rfl, ?_⟩) ?_ ?_
         rotate_left
         ·intro w'
          go_simp
          with_reducible rfl
         rotate_left
         ·simp only [Act.put, List.setIfInBounds_toArray, List.set_cons_zero, List.set_cons_succ, i64_w, i32_w]
          rfl
         refine pure_ (i := 12) (N := some 46) (v := ?_) (a' := ?_) (rb2 [13, 17]) rfl rfl (qs0 HT_.out z2_3) (fun _ _ _ h => h) (Or.inl ⟨by rfl, ?_⟩) ?_ ?_
         rotate_left
         ·intro w'
          go_simp
          with_reducible rfl
         rotate_left
         ·simp only [Act.put, List.setIfInBounds_toArray, List.set_cons_zero, List.set_cons_succ, i64_w, i32_w]
          rfl
         refine pure_ (i := 14) (N := some 48) (v := ?_) (a' := ?_) (rb2 [13, 1, 1, 15]) rfl rfl (qs0 HT_.out z2_3) (fun _ _ _ h => h) (Or.inl ⟨by rfl, ?_⟩) ?_ ?_
         rotate_left
         ·intro w'
          go_simp
          with_reducible rfl
         rotate_left
         ·simp only [Act.put, List.setIfInBounds_toArray, List.set_cons_zero, List.set_cons_succ, i64_w, i32_w]
          rfl
         refine pure_ (i := 18) (N := some 52) (v := ?_) (a' := ?_) (rb2 [13, 1, 1, 3, 1, 11]) rfl rfl (qs0 HT_.out z2_3) (fun _ _ _ h => h) (Or.inl ⟨by rfl, ?_⟩) ?_ ?_
         rotate_left
         ·intro w'
          go_simp
          with_reducible rfl
         rotate_left
         ·simp only [Act.put, List.setIfInBounds_toArray, List.set_cons_zero, List.set_cons_succ, i64_w, i32_w]
          rfl
         refine pure_ (i := 20) (N := some 54) (v := ?_) (a' := ?_) (rb2 [13, 1, 1, 3, 1, 1, 1, 9]) rfl rfl (qs0 HT_.out z2_3) (fun _ _ _ h => h) (Or.inl ⟨by rfl, ?_⟩) ?_ ?_
         rotate_left
         ·intro w'
          go_simp
          with_reducible rfl
         rotate_left
         ·simp only [Act.put, List.setIfInBounds_toArray, List.set_cons_zero, List.set_cons_succ, i64_w, i32_w]
          rfl
         refine pure_ (i := 24) (N := some 58) (v := ?_) (a' := ?_) (rb2 [13, 1, 1, 3, 1, 1, 1, 3, 1, 5]) rfl rfl (qs0 HT_.out z2_3) (fun _ _ _ h => h) (Or.inl ⟨by rfl, ?_⟩) ?_ ?_
         rotate_left
         ·intro w'
          go_simp
          with_reducible rfl
         rotate_left
         ·simp only [Act.put, List.setIfInBounds_toArray, List.set_cons_zero, List.set_cons_succ, i64_w, i32_w]
          rfl
         refine take_ (i := 13) (N := some 47) (v := ?_) (a' := ?_) (rb2 [15, 3, 1, 1, 1, 3, 1, 5]) rfl rfl (qd1 HT_.out HW_.out z2_3) (fun _ _ _ h => h) (Or.inl ⟨by rfl, ?_⟩) hHeld ?_ ?_
         rotate_left
         ·rintro w' ⟨s0, s1, s2, s3, s4, s5, s6, s7, s8, s9⟩
          go_simp
          with_reducible rfl
         rotate_left
         ·simp only [Act.put, List.setIfInBounds_toArray, List.set_cons_zero, List.set_cons_succ, i64_w, i32_w]
          rfl
         refine pure_ (i := 15) (N := some 49) (v := ?_) (a' := ?_) (rb2 [16, 2, 1, 1, 1, 3, 1, 5]) rfl rfl (qs0 HT_.out z2_3) (fun _ _ _ h => h) (Or.inl ⟨by rfl, ?_⟩) ?_ ?_
         rotate_left
         ·intro w'
          go_simp
          with_reducible rfl
         rotate_left
         ·simp only [Act.put, List.setIfInBounds_toArray, List.set_cons_zero, List.set_cons_succ, i64_w, i32_w]
          rfl
         refine pure_ (i := 16) (N := some 50) (v := ?_) (a' := ?_) (rb2 [17, 1, 1, 1, 1, 3, 1, 5]) rfl rfl (qs0 HT_.out z2_3) (fun _ _ _ h => h) (Or.inl ⟨by rfl, ?_⟩) ?_ ?_
         rotate_left
         ·intro w'
          go_simp
          with_reducible rfl
         rotate_left
         ·simp only [Act.put, List.setIfInBounds_toArray, List.set_cons_zero, List.set_cons_succ, i64_w, i32_w]
          rfl
         refine take_ (i := 17) (N := some 51) (v := ?_) (a' := ?_) (rb2 [19, 1, 1, 3, 1, 5]) rfl rfl (qd1 HT_.out HW_.out z2_3) (fun _ _ _ h => h) (Or.inl ⟨by rfl, ?_⟩) hHeld ?_ ?_
         rotate_left
         ·rintro w' ⟨s0, s1, s2, s3, s4, s5, s6, s7, s8, s9⟩
          go_simp
          with_reducible rfl
         rotate_left
         ·simp only [Act.put, List.setIfInBounds_toArray, List.set_cons_zero, List.set_cons_succ, i64_w, i32_w]
          rfl
         refine take_ (i := 19) (N := some 53) (v := ?_) (a' := ?_) (rb2 [21, 3, 1, 5]) rfl rfl (qd1 HT_.out HW_.out z2_3) (fun _ _ _ h => h) (Or.inl ⟨by rfl, ?_⟩) hHeld ?_ ?_
         rotate_left
         ·rintro w' ⟨s0, s1, s2, s3, s4, s5, s6, s7, s8, s9⟩
          go_simp
          with_reducible rfl
         rotate_left
         ·simp only [Act.put, List.setIfInBounds_toArray, List.set_cons_zero, List.set_cons_succ, i64_w, i32_w]
          rfl
         refine pure_ (i := 21) (N := some 55) (v := ?_) (a' := ?_) (rb2 [22, 2, 1, 5]) rfl rfl (qs0 HT_.out z2_3) (fun _ _ _ h => h) (Or.inl ⟨by rfl, ?_⟩) ?_ ?_
         rotate_left
         ·intro w'
          go_simp
          with_reducible rfl
         rotate_left
         ·simp only [Act.put, List.setIfInBounds_toArray, List.set_cons_zero, List.set_cons_succ, i64_w, i32_w]
          rfl
         refine pure_ (i := 22) (N := some 56) (v := ?_) (a' := ?_) (rb2 [23, 1, 1, 5]) rfl rfl (qs0 HT_.out z2_3) (fun _ _ _ h => h) (Or.inl ⟨by rfl, ?_⟩) ?_ ?_
         rotate_left
         ·intro w'
          go_simp
          with_reducible rfl
         rotate_left
         ·simp only [Act.put, List.setIfInBounds_toArray, List.set_cons_zero, List.set_cons_succ, i64_w, i32_w]
          rfl
         refine take_ (i := 23) (N := some 57) (v := ?_) (a' := ?_) (rb2 [25, 5]) rfl rfl (qd1 HT_.out HW_.out z2_3) (fun _ _ _ h => h) (Or.inl ⟨by rfl, ?_⟩) hHeld ?_ ?_
         rotate_left
         ·rintro w' ⟨s0, s1, s2, s3, s4, s5, s6, s7, s8, s9⟩
          go_simp
          with_reducible rfl
         rotate_left
         ·simp only [Act.put, List.setIfInBounds_toArray, List.set_cons_zero, List.set_cons_succ, i64_w, i32_w]
          rfl
         refine take_ (i := 25) (N := some 59) (v := ?_) (a' := ?_) (rb2 [26, 4]) rfl rfl (qd1 HT_.out HW_.out z2_3) (fun _ _ _ h => h) (Or.inl ⟨by rfl, ?_⟩) hHeld ?_ ?_
         rotate_left
         ·rintro w' ⟨s0, s1, s2, s3, s4, s5, s6, s7, s8, s9⟩
          go_simp
          with_reducible rfl
         rotate_left
         ·simp only [Act.put, List.setIfInBounds_toArray, List.set_cons_zero, List.set_cons_succ, i64_w, i32_w]
          rfl
         refine pure_ (i := 26) (N := some 60) (v := ?_) (a' := ?_) (rb2 [27, 3]) rfl rfl (qs0 HT_.out z2_3) (fun _ _ _ h => h) (Or.inl ⟨by rfl, ?_⟩) ?_ ?_
         rotate_left
         ·intro w'
          go_simp
          with_reducible rfl
         rotate_left
         ·simp only [Act.put, List.setIfInBounds_toArray, List.set_cons_zero, List.set_cons_succ, i64_w, i32_w]
          rfl
         refine pure_ (i := 27) (N := some 61) (v := ?_) (a' := ?_) (rb2 [28, 2]) rfl rfl (qs0 HT_.out z2_3) (fun _ _ _ h => h) (Or.inl ⟨by rfl, ?_⟩) ?_ ?_
         rotate_left
         ·intro w'
          go_simp
          with_reducible rfl
         rotate_left
         ·simp only [Act.put, List.setIfInBounds_toArray, List.set_cons_zero, List.set_cons_succ, i64_w, i32_w]
          rfl
         refine pure_ (i := 28) (N := some 62) (v := ?_) (a' := ?_) (rb2 [29, 1]) rfl rfl (qs0 HT_.out z2_3) (fun _ _ _ h => h) (Or.inl ⟨by rfl, ?_⟩) ?_ ?_
         rotate_left
         ·intro w'
          go_simp
          with_reducible rfl
         rotate_left
         ·simp only [Act.put, List.setIfInBounds_toArray, List.set_cons_zero, List.set_cons_succ, i64_w, i32_w]
          rfl
         refine pure_ (i := 29) (N := some 63) (v := ?_) (a' := ?_) (rb2 [30]) rfl rfl (qs0 HT_.out z2_3) (fun _ _ _ h => h) (Or.inl ⟨by rfl, ?_⟩) ?_ ?_
         rotate_left
         ·intro w'
          go_simp
          with_reducible rfl
         rotate_left
         ·simp only [Act.put, List.setIfInBounds_toArray, List.set_cons_zero, List.set_cons_succ, i64_w, i32_w]
          rfl
         refine done_ (done_of HT_.out z2_3) ?_
         try go_wp2
         go_roundg k2
         case measure => have := HJ1.out; have := HK2.out; omega
         case rel => exact ⟨(wrap64 (x3_2 + 1)), z2_7, H', ⟨by have := HJ1.out; have := HK2.out; omega⟩, ⟨z2_2⟩, ⟨z2_0⟩⟩
        rw [if_neg c18] at H
        have c18b0 : (((rd_T59 l0_2 x3_2).f1) == (wrap64 (((rd_T59 l0_2 x3_2).f0) * a0_1))) = false := beq_eq_false_iff_ne.mpr c18
        have c18b1 : (((rd_T59 l0_2 x3_2).f1) != (wrap64 (((rd_T59 l0_2 x3_2).f0) * a0_1))) = true := bne_iff_ne.mpr c18
        obtain rfl := Option.some.inj H
        have hcz22_0 : wr.cell? ⟨gb111, 0, none⟩ = some (.int .i64 a0_0) := (qb0 BK111.out 0).trans rfl
        have hcz22_1 : wr.cell? ⟨gb111, 1, none⟩ = some (.int .i64 a0_1) := (qb0 BK111.out 1).trans rfl
        have hcz22_2 : wr.cell? ⟨gb111, 2, none⟩ = some (.slice A0_2 l0_2.length c0_2) := (qb0 BK111.out 2).trans rfl
        have hcz22_3 : wr.cell? ⟨gb111, 3, none⟩ = some (.int .i64 a0_3) := (qb0 BK111.out 3).trans rfl
        have hfz22_0 := qa0 BK111.out 0
        have hfz22_1 := qa0 BK111.out 1
        have hfz22_2 := qa0 BK111.out 2
        have hfz22_3 := qa0 BK111.out 3
        try go_wp2
        have n0_ := Aside0.mk (qe0 BK111.out)
        have n1_ := Aside0.mk (qi0 HB.out)
        clear BK111
        clear HB
        have BK111 := n0_
        have HB := n1_
        clear n0_ n1_
        have p113 : 0 ≤ (x3_2 : Int) := of_decide_eq_true z2_5
        have q113 : x3_2 < (l0_2.length : Int) := of_decide_eq_true z2_5
        obtain ⟨ad113, e113, hx113_0, hx113_1⟩ := at_T59 HR0_2.out x3_2 p113 q113
        have hw113_1 := hx113_1
        have hw113_0 := hx113_0
        cases e113
        replace hx113_0 := (HB.out.cell (World.block_lt_of_cell? w _ hx113_0)).trans hx113_0
        replace hx113_1 := (HB.out.cell (World.block_lt_of_cell? w _ hx113_1)).trans hx113_1
        replace p113 := eq_true p113
        replace q113 := eq_true q113
        have p115 : 0 ≤ (x3_2 : Int) := of_decide_eq_true z2_5
        have q115 : x3_2 < (l0_2.length : Int) := of_decide_eq_true z2_5
        obtain ⟨ad115, e115, hx115_0, hx115_1⟩ := at_T59 HR0_2.out x3_2 p115 q115
        have hw115_1 := hx115_1
        have hw115_0 := hx115_0
        obtain rfl : ad113 = ad115 := (by injection e115)
        replace hx115_0 := (HB.out.cell (World.block_lt_of_cell? w _ hx115_0)).trans hx115_0
        replace hx115_1 := (HB.out.cell (World.block_lt_of_cell? w _ hx115_1)).trans hx115_1
        replace p115 := eq_true p115
        replace q115 := eq_true q115
        have p116 : 0 ≤ (x3_2 : Int) := of_decide_eq_true z2_5
        have q116 : x3_2 < (l0_2.length : Int) := of_decide_eq_true z2_5
        obtain ⟨ad116, e116, hx116_0, hx116_1⟩ := at_T59 HR0_2.out x3_2 p116 q116
        have hw116_1 := hx116_1
        have hw116_0 := hx116_0
        obtain rfl : ad113 = ad116 := (by injection e116)
        replace hx116_0 := (HB.out.cell (World.block_lt_of_cell? w _ hx116_0)).trans hx116_0
        replace hx116_1 := (HB.out.cell (World.block_lt_of_cell? w _ hx116_1)).trans hx116_1
        replace p116 := eq_true p116
        replace q116 := eq_true q116
        refine start_ (n := 30) (S := fun w' => w'.cell? ⟨gb111, 0, none⟩ = some (.int .i64 a0_0) ∧ w'.cell? ⟨gb111, 1, none⟩ = some (.int .i64 a0_1) ∧ w'.cell? ⟨gb111, 2, none⟩ = some (.slice (some ad113) l0_2.length c0_2) ∧ w'.cell? ⟨gb111, 3, none⟩ = some (.int .i64 a0_3) ∧ w'.cell? (ad113.add ((x3_2).toNat * 2)) = some (.int .i64 ((rd_T59 l0_2 x3_2).f0)) ∧ w'.cell? ⟨(ad113.add ((x3_2).toNat * 2)).block, (ad113.add ((x3_2).toNat * 2)).off + 1, none⟩ = some (.int .i64 ((rd_T59 l0_2 x3_2).f1)) ∧ w'.cell? (ad113.add ((x3_2).toNat * 2)) = some (.int .i64 ((rd_T59 l0_2 x3_2).f0)) ∧ w'.cell? ⟨(ad113.add ((x3_2).toNat * 2)).block, (ad113.add ((x3_2).toNat * 2)).off + 1, none⟩ = some (.int .i64 ((rd_T59 l0_2 x3_2).f1)) ∧ w'.cell? (ad113.add ((x3_2).toNat * 2)) = some (.int .i64 ((rd_T59 l0_2 x3_2).f0)) ∧ w'.cell? ⟨(ad113.add ((x3_2).toNat * 2)).block, (ad113.add ((x3_2).toNat * 2)).off + 1, none⟩ = some (.int .i64 ((rd_T59 l0_2 x3_2).f1))) (ds := []) (rb2 [0, 30]) z2_3 rfl rfl ⟨(qb0 BK111.out 0).trans rfl, (qb0 BK111.out 1).trans rfl, (qb0 BK111.out 2).trans rfl, (qb0 BK111.out 3).trans rfl, ((HB.out.cell (World.block_lt_of_cell? w _ hw113_0)).trans hw113_0), ((HB.out.cell (World.block_lt_of_cell? w _ hw113_1)).trans hw113_1), ((HB.out.cell (World.block_lt_of_cell? w _ hw115_0)).trans hw115_0), ((HB.out.cell (World.block_lt_of_cell? w _ hw115_1)).trans hw115_1), ((HB.out.cell (World.block_lt_of_cell? w _ hw116_0)).trans hw116_0), ((HB.out.cell (World.block_lt_of_cell? w _ hw116_1)).trans hw116_1)⟩ (fun hHeld => ?_); refine with_tabW spec_WorthOk.tab6 spec_WorthOk.bits6 (fun HT_ HW_ => ?_)
        generalize wr.drew = w23 at BK111 HB hx113_0 hx113_1 hx115_0 hx115_1 hx116_0 hx116_1 hHeld ⊢
        refine pure_ (i := 0) (N := some 34) (v := ?_) (a' := ?_) (rb2 [1, 29]) rfl rfl (qs0 HT_.out z2_3) (fun _ _ _ h => h) (Or.inl ⟨by rfl, ?_⟩) ?_ ?_
        rotate_left
        ·intro w'
         go_simp
         with_reducible rfl
        rotate_left
        ·simp only [Act.put, List.setIfInBounds_toArray, List.set_cons_zero, List.set_cons_succ, i64_w, i32_w]
         rfl
        refine pure_ (i := 2) (N := some 36) (v := ?_) (a' := ?_) (rb2 [1, 1, 1, 27]) rfl rfl (qs0 HT_.out z2_3) (fun _ _ _ h => h) (Or.inl ⟨by rfl, ?_⟩) ?_ ?_
        rotate_left
        ·intro w'
         go_simp
         with_reducible rfl
        rotate_left
        ·simp only [Act.put, List.setIfInBounds_toArray, List.set_cons_zero, List.set_cons_succ, i64_w, i32_w]
         rfl
        refine take_ (i := 1) (N := some 35) (v := ?_) (a' := ?_) (rb2 [3, 27]) rfl rfl (qd1 HT_.out HW_.out z2_3) (fun _ _ _ h => h) (Or.inl ⟨by rfl, ?_⟩) hHeld ?_ ?_
        rotate_left
        ·rintro w' ⟨s0, s1, s2, s3, s4, s5, s6, s7, s8, s9⟩
         go_simp
         with_reducible rfl
        rotate_left
        ·simp only [Act.put, List.setIfInBounds_toArray, List.set_cons_zero, List.set_cons_succ, i64_w, i32_w]
         rfl
        refine pure_ (i := 3) (N := some 37) (v := ?_) (a' := ?_) (rb2 [4, 26]) rfl rfl (qs0 HT_.out z2_3) (fun _ _ _ h => h) (Or.inl ⟨by rfl, ?_⟩) ?_ ?_
        rotate_left
        ·intro w'
         go_simp
         with_reducible rfl
        rotate_left
        ·simp only [Act.put, List.setIfInBounds_toArray, List.set_cons_zero, List.set_cons_succ, i64_w, i32_w]
         rfl
        refine take_ (i := 4) (N := some 38) (v := ?_) (a' := ?_) (rb2 [5, 25]) rfl rfl (qd1 HT_.out HW_.out z2_3) (fun _ _ _ h => h) (Or.inl ⟨by rfl, ?_⟩) hHeld ?_ ?_
        rotate_left
        ·rintro w' ⟨s0, s1, s2, s3, s4, s5, s6, s7, s8, s9⟩
         go_simp
         with_reducible rfl
        rotate_left
        ·simp only [Act.put, List.setIfInBounds_toArray, List.set_cons_zero, List.set_cons_succ, i64_w, i32_w]
         rfl
        refine one_ (i := 5) (N := some 39) (rb2 [6, 24]) rfl rfl (one_of HT_.out z2_3) (by decide) (fun K hK => ?_)
        refine goes_ Try.func49 z2_3 rfl #[.agg #[.int .i64 ((rd_T59 l0_2 x3_2).f0), .int .i64 ((rd_T59 l0_2 x3_2).f1)]] (by rfl) rfl rfl z2_1 ?_
        with_reducible refine (spec_l16Lay.calls ((rd_T59 l0_2 x3_2).f0) ((rd_T59 l0_2 x3_2).f1) true _ A15.out).mono ?_
        rintro e w24 ⟨rfl, hb⟩
        refine ⟨_, rfl, ?_⟩
        have n0_ := Aside0.mk (qf0 (g := gb111) (o := .cells #[.int .i64 a0_0, .int .i64 a0_1, .slice (some ad113) l0_2.length c0_2, .int .i64 a0_3] 37 (0, 0)) z2_2 hb)
        have n1_ := Aside0.mk (qg0 z2_0 hb)
        clear BK111
        clear HB
        have BK111 := n0_
        have HB := n1_
        clear n0_ n1_
        (try clear hb)
        (try clear hb2)
        (try clear hk)
        (try clear hi)
        refine hK.out _ _ ⟨(qb0 BK111.out 0).trans rfl, (qb0 BK111.out 1).trans rfl, (qb0 BK111.out 2).trans rfl, (qb0 BK111.out 3).trans rfl, ((HB.out.cell (World.block_lt_of_cell? w _ hw113_0)).trans hw113_0), ((HB.out.cell (World.block_lt_of_cell? w _ hw113_1)).trans hw113_1), ((HB.out.cell (World.block_lt_of_cell? w _ hw115_0)).trans hw115_0), ((HB.out.cell (World.block_lt_of_cell? w _ hw115_1)).trans hw115_1), ((HB.out.cell (World.block_lt_of_cell? w _ hw116_0)).trans hw116_0), ((HB.out.cell (World.block_lt_of_cell? w _ hw116_1)).trans hw116_1)⟩ (fun hHeld => ?_)
        clear hK K
        refine norm_ (a' := ?_) ?_ ?_
        rotate_left
        ·show Act.put _ (some 39) _ = _
         simp only [Act.put, List.setIfInBounds_toArray, List.set_cons_zero, List.set_cons_succ, i64_w, i32_w]
         rfl
        refine pure_ (i := 6) (N := some 40) (v := ?_) (a' := ?_) (rb2 [7, 23]) rfl rfl (qs0 HT_.out z2_3) (fun _ _ _ h => h) (Or.inl ⟨by rfl, ?_⟩) ?_ ?_
        rotate_left
        ·intro w'
         go_simp
         with_reducible rfl
        rotate_left
        ·simp only [Act.put, List.setIfInBounds_toArray, List.set_cons_zero, List.set_cons_succ, i64_w, i32_w]
         rfl
        refine pure_ (i := 7) (N := some 41) (v := ?_) (a' := ?_) (rb2 [8, 22]) rfl rfl (qs0 HT_.out z2_3) (fun _ _ _ h => h) (Or.inl ⟨by rfl, ?_⟩) ?_ ?_
        rotate_left
        ·intro w'
         go_simp
         with_reducible rfl
        rotate_left
        ·simp only [Act.put, List.setIfInBounds_toArray, List.set_cons_zero, List.set_cons_succ, i64_w, i32_w]
         rfl
        refine pure_ (i := 8) (N := some 42) (v := ?_) (a' := ?_) (rb2 [9, 21]) rfl rfl (qs0 HT_.out z2_3) (fun _ _ _ h => h) (Or.inl ⟨by rfl, ?_⟩) ?_ ?_
        rotate_left
        ·intro w'
         go_simp
         with_reducible rfl
        rotate_left
        ·simp only [Act.put, List.setIfInBounds_toArray, List.set_cons_zero, List.set_cons_succ, i64_w, i32_w]
         rfl
        refine take_ (i := 9) (N := some 43) (v := ?_) (a' := ?_) (rb2 [10, 20]) rfl rfl (qd1 HT_.out HW_.out z2_3) (fun _ _ _ h => h) (Or.inl ⟨by rfl, ?_⟩) hHeld ?_ ?_
        rotate_left
        ·rintro w' ⟨s0, s1, s2, s3, s4, s5, s6, s7, s8, s9⟩
         go_simp
         with_reducible rfl
        rotate_left
        ·simp only [Act.put, List.setIfInBounds_toArray, List.set_cons_zero, List.set_cons_succ, i64_w, i32_w]
         rfl
        refine pure_ (i := 10) (N := some 44) (v := ?_) (a' := ?_) (rb2 [11, 19]) rfl rfl (qs0 HT_.out z2_3) (fun _ _ _ h => h) (Or.inl ⟨by rfl, ?_⟩) ?_ ?_
        rotate_left
        ·intro w'
         go_simp
         with_reducible rfl
        rotate_left
        ·simp only [Act.put, List.setIfInBounds_toArray, List.set_cons_zero, List.set_cons_succ, i64_w, i32_w]
         rfl
        refine pure_ (i := 11) (N := some 45) (v := ?_) (a' := ?_) (rb2 [12, 18]) rfl rfl (qs0 HT_.out z2_3) (fun _ _ _ h => h) (Or.inl ⟨by rfl, ?_⟩) ?_ ?_
        rotate_left
        ·intro w'
         go_simp
         with_reducible rfl
        rotate_left
        ·simp only [Act.put, List.setIfInBounds_toArray, List.set_cons_zero, List.set_cons_succ, i64_w, i32_w]
         rfl
        refine pure_ (i := 12) (N := some 46) (v := ?_) (a' := ?_) (rb2 [13, 17]) rfl rfl (qs0 HT_.out z2_3) (fun _ _ _ h => h) (Or.inl ⟨by rfl, ?_⟩) ?_ ?_
        rotate_left
        ·intro w'
         go_simp
         with_reducible rfl
        rotate_left
        ·simp only [Act.put, List.setIfInBounds_toArray, List.set_cons_zero, List.set_cons_succ, i64_w, i32_w]
         rfl
        refine pure_ (i := 14) (N := some 48) (v := ?_) (a' := ?_) (rb2 [13, 1, 1, 15]) rfl rfl (qs0 HT_.out z2_3) (fun _ _ _ h => h) (Or.inl ⟨by rfl, ?_⟩) ?_ ?_
        rotate_left
        ·intro w'
         go_simp
         with_reducible rfl
        rotate_left
        ·simp only [Act.put, List.setIfInBounds_toArray, List.set_cons_zero, List.set_cons_succ, i64_w, i32_w]
         rfl
        refine pure_ (i := 18) (N := some 52) (v := ?_) (a' := ?_) (rb2 [13, 1, 1, 3, 1, 11]) rfl rfl (qs0 HT_.out z2_3) (fun _ _ _ h => h) (Or.inl ⟨by rfl, ?_⟩) ?_ ?_
        rotate_left
        ·intro w'
         go_simp
         with_reducible rfl
        rotate_left
        ·simp only [Act.put, List.setIfInBounds_toArray, List.set_cons_zero, List.set_cons_succ, i64_w, i32_w]
         rfl
        refine pure_ (i := 20) (N := some 54) (v := ?_) (a' := ?_) (rb2 [13, 1, 1, 3, 1, 1, 1, 9]) rfl rfl (qs0 HT_.out z2_3) (fun _ _ _ h => h) (Or.inl ⟨by rfl, ?_⟩) ?_ ?_
        rotate_left
        ·intro w'
         go_simp
         with_reducible rfl
        rotate_left
        ·simp only [Act.put, List.setIfInBounds_toArray, List.set_cons_zero, List.set_cons_succ, i64_w, i32_w]
         rfl
        refine pure_ (i := 24) (N := some 58) (v := ?_) (a' := ?_) (rb2 [13, 1, 1, 3, 1, 1, 1, 3, 1, 5]) rfl rfl (qs0 HT_.out z2_3) (fun _ _ _ h => h) (Or.inl ⟨by rfl, ?_⟩) ?_ ?_
        rotate_left
        ·intro w'
         go_simp
         with_reducible rfl
        rotate_left
        ·simp only [Act.put, List.setIfInBounds_toArray, List.set_cons_zero, List.set_cons_succ, i64_w, i32_w]
         rfl
        refine take_ (i := 13) (N := some 47) (v := ?_) (a' := ?_) (rb2 [15, 3, 1, 1, 1, 3, 1, 5]) rfl rfl (qd1 HT_.out HW_.out z2_3) (fun _ _ _ h => h) (Or.inl ⟨by rfl, ?_⟩) hHeld ?_ ?_
        rotate_left
        ·rintro w' ⟨s0, s1, s2, s3, s4, s5, s6, s7, s8, s9⟩
         go_simp
         with_reducible rfl
        rotate_left
        ·simp only [Act.put, List.setIfInBounds_toArray, List.set_cons_zero, List.set_cons_succ, i64_w, i32_w]
         rfl
        refine pure_ (i := 15) (N := some 49) (v := ?_) (a' := ?_) (rb2 [16, 2, 1, 1, 1, 3, 1, 5]) rfl rfl (qs0 HT_.out z2_3) (fun _ _ _ h => h) (Or.inl ⟨by rfl, ?_⟩) ?_ ?_
        rotate_left
        ·intro w'
         go_simp
         with_reducible rfl
        rotate_left
        ·simp only [Act.put, List.setIfInBounds_toArray, List.set_cons_zero, List.set_cons_succ, i64_w, i32_w]
         rfl
        refine pure_ (i := 16) (N := some 50) (v := ?_) (a' := ?_) (rb2 [17, 1, 1, 1, 1, 3, 1, 5]) rfl rfl (qs0 HT_.out z2_3) (fun _ _ _ h => h) (Or.inl ⟨by rfl, ?_⟩) ?_ ?_
        rotate_left
        ·intro w'
         go_simp
         with_reducible rfl
        rotate_left
        ·simp only [Act.put, List.setIfInBounds_toArray, List.set_cons_zero, List.set_cons_succ, i64_w, i32_w]
         rfl
        refine take_ (i := 17) (N := some 51) (v := ?_) (a' := ?_) (rb2 [19, 1, 1, 3, 1, 5]) rfl rfl (qd1 HT_.out HW_.out z2_3) (fun _ _ _ h => h) (Or.inl ⟨by rfl, ?_⟩) hHeld ?_ ?_
        rotate_left
        ·rintro w' ⟨s0, s1, s2, s3, s4, s5, s6, s7, s8, s9⟩
         go_simp
         with_reducible rfl
        rotate_left
        ·simp only [Act.put, List.setIfInBounds_toArray, List.set_cons_zero, List.set_cons_succ, i64_w, i32_w]
         rfl
        refine take_ (i := 19) (N := some 53) (v := ?_) (a' := ?_) (rb2 [21, 3, 1, 5]) rfl rfl (qd1 HT_.out HW_.out z2_3) (fun _ _ _ h => h) (Or.inl ⟨by rfl, ?_⟩) hHeld ?_ ?_
        rotate_left
        ·rintro w' ⟨s0, s1, s2, s3, s4, s5, s6, s7, s8, s9⟩
         go_simp
         with_reducible rfl
        rotate_left
        ·simp only [Act.put, List.setIfInBounds_toArray, List.set_cons_zero, List.set_cons_succ, i64_w, i32_w]
         rfl
        refine pure_ (i := 21) (N := some 55) (v := ?_) (a' := ?_) (rb2 [22, 2, 1, 5]) rfl rfl (qs0 HT_.out z2_3) (fun _ _ _ h => h) (Or.inl ⟨by rfl, ?_⟩) ?_ ?_
        rotate_left
        ·intro w'
         go_simp
         with_reducible rfl
        rotate_left
        ·simp only [Act.put, List.setIfInBounds_toArray, List.set_cons_zero, List.set_cons_succ, i64_w, i32_w]
         rfl
        refine pure_ (i := 22) (N := some 56) (v := ?_) (a' := ?_) (rb2 [23, 1, 1, 5]) rfl rfl (qs0 HT_.out z2_3) (fun _ _ _ h => h) (Or.inl ⟨by rfl, ?_⟩) ?_ ?_
        rotate_left
        ·intro w'
         go_simp
         with_reducible rfl
        rotate_left
        ·simp only [Act.put, List.setIfInBounds_toArray, List.set_cons_zero, List.set_cons_succ, i64_w, i32_w]
         rfl
        refine take_ (i := 23) (N := some 57) (v := ?_) (a' := ?_) (rb2 [25, 5]) rfl rfl (qd1 HT_.out HW_.out z2_3) (fun _ _ _ h => h) (Or.inl ⟨by rfl, ?_⟩) hHeld ?_ ?_
        rotate_left
        ·rintro w' ⟨s0, s1, s2, s3, s4, s5, s6, s7, s8, s9⟩
         go_simp
         with_reducible rfl
        rotate_left
        ·simp only [Act.put, List.setIfInBounds_toArray, List.set_cons_zero, List.set_cons_succ, i64_w, i32_w]
         rfl
        refine take_ (i := 25) (N := some 59) (v := ?_) (a' := ?_) (rb2 [26, 4]) rfl rfl (qd1 HT_.out HW_.out z2_3) (fun _ _ _ h => h) (Or.inl ⟨by rfl, ?_⟩) hHeld ?_ ?_
        rotate_left
        ·rintro w' ⟨s0, s1, s2, s3, s4, s5, s6, s7, s8, s9⟩
         go_simp
         with_reducible rfl
        rotate_left
        ·simp only [Act.put, List.setIfInBounds_toArray, List.set_cons_zero, List.set_cons_succ, i64_w, i32_w]
         rfl
        refine pure_ (i := 26) (N := some 60) (v := ?_) (a' := ?_) (rb2 [27, 3]) rfl rfl (qs0 HT_.out z2_3) (fun _ _ _ h => h) (Or.inl ⟨by rfl, ?_⟩) ?_ ?_
        rotate_left
        ·intro w'
         go_simp
         with_reducible rfl
        rotate_left
        ·simp only [Act.put, List.setIfInBounds_toArray, List.set_cons_zero, List.set_cons_succ, i64_w, i32_w]
         rfl
        refine pure_ (i := 27) (N := some 61) (v := ?_) (a' := ?_) (rb2 [28, 2]) rfl rfl (qs0 HT_.out z2_3) (fun _ _ _ h => h) (Or.inl ⟨by rfl, ?_⟩) ?_ ?_
        rotate_left
        ·intro w'
         go_simp
         with_reducible rfl
        rotate_left
        ·simp only [Act.put, List.setIfInBounds_toArray, List.set_cons_zero, List.set_cons_succ, i64_w, i32_w]
         rfl
        refine pure_ (i := 28) (N := some 62) (v := ?_) (a' := ?_) (rb2 [29, 1]) rfl rfl (qs0 HT_.out z2_3) (fun _ _ _ h => h) (Or.inl ⟨by rfl, ?_⟩) ?_ ?_
        rotate_left
        ·intro w'
         go_simp
         with_reducible rfl
        rotate_left
        ·simp only [Act.put, List.setIfInBounds_toArray, List.set_cons_zero, List.set_cons_succ, i64_w, i32_w]
         rfl
        refine pure_ (i := 29) (N := some 63) (v := ?_) (a' := ?_) (rb2 [30]) rfl rfl (qs0 HT_.out z2_3) (fun _ _ _ h => h) (Or.inl ⟨by rfl, ?_⟩) ?_ ?_
        rotate_left
        ·intro w'
         go_simp
         with_reducible rfl
        rotate_left
        ·simp only [Act.put, List.setIfInBounds_toArray, List.set_cons_zero, List.set_cons_succ, i64_w, i32_w]
         rfl
        refine done_ (done_of HT_.out z2_3) ?_
        try go_wp2
        go_ret
        exact ⟨z2_4, z2_0⟩
       rw [if_neg c17] at H
       have c17b0 : (a0_0 == 4) = false := beq_eq_false_iff_ne.mpr c17
       have c17b1 : (a0_0 != 4) = true := bne_iff_ne.mpr c17
       have H' := Aside0.mk H
       clear H
       have hcz25_0 : wr.cell? ⟨gb111, 0, none⟩ = some (.int .i64 a0_0) := (qb0 BK111.out 0).trans rfl
       have hcz25_1 : wr.cell? ⟨gb111, 1, none⟩ = some (.int .i64 a0_1) := (qb0 BK111.out 1).trans rfl
       have hcz25_2 : wr.cell? ⟨gb111, 2, none⟩ = some (.slice A0_2 l0_2.length c0_2) := (qb0 BK111.out 2).trans rfl
       have hcz25_3 : wr.cell? ⟨gb111, 3, none⟩ = some (.int .i64 a0_3) := (qb0 BK111.out 3).trans rfl
       have hfz25_0 := qa0 BK111.out 0
       have hfz25_1 := qa0 BK111.out 1
       have hfz25_2 := qa0 BK111.out 2
       have hfz25_3 := qa0 BK111.out 3
       try go_wp2
       have n0_ := Aside0.mk (qe0 BK111.out)
       have n1_ := Aside0.mk (qi0 HB.out)
       clear BK111
       clear HB
       have BK111 := n0_
       have HB := n1_
       clear n0_ n1_
       have p113 : 0 ≤ (x3_2 : Int) := of_decide_eq_true z2_5
       have q113 : x3_2 < (l0_2.length : Int) := of_decide_eq_true z2_5
       obtain ⟨ad113, e113, hx113_0, hx113_1⟩ := at_T59 HR0_2.out x3_2 p113 q113
       have hw113_1 := hx113_1
       have hw113_0 := hx113_0
       cases e113
       replace hx113_0 := (HB.out.cell (World.block_lt_of_cell? w _ hx113_0)).trans hx113_0
       replace hx113_1 := (HB.out.cell (World.block_lt_of_cell? w _ hx113_1)).trans hx113_1
       replace p113 := eq_true p113
       replace q113 := eq_true q113
       refine start_ (n := 30) (S := fun w' => w'.cell? ⟨gb111, 0, none⟩ = some (.int .i64 a0_0) ∧ w'.cell? ⟨gb111, 1, none⟩ = some (.int .i64 a0_1) ∧ w'.cell? ⟨gb111, 2, none⟩ = some (.slice (some ad113) l0_2.length c0_2) ∧ w'.cell? ⟨gb111, 3, none⟩ = some (.int .i64 a0_3) ∧ w'.cell? (ad113.add ((x3_2).toNat * 2)) = some (.int .i64 ((rd_T59 l0_2 x3_2).f0)) ∧ w'.cell? ⟨(ad113.add ((x3_2).toNat * 2)).block, (ad113.add ((x3_2).toNat * 2)).off + 1, none⟩ = some (.int .i64 ((rd_T59 l0_2 x3_2).f1))) (ds := []) (rb2 [0, 30]) z2_3 rfl rfl ⟨(qb0 BK111.out 0).trans rfl, (qb0 BK111.out 1).trans rfl, (qb0 BK111.out 2).trans rfl, (qb0 BK111.out 3).trans rfl, ((HB.out.cell (World.block_lt_of_cell? w _ hw113_0)).trans hw113_0), ((HB.out.cell (World.block_lt_of_cell? w _ hw113_1)).trans hw113_1)⟩ (fun hHeld => ?_); refine with_tabW spec_WorthOk.tab6 spec_WorthOk.bits6 (fun HT_ HW_ => ?_)
       generalize wr.drew = w26 at BK111 HB hx113_0 hx113_1 hHeld ⊢
       refine pure_ (i := 0) (N := some 34) (v := ?_) (a' := ?_) (rb2 [1, 29]) rfl rfl (qs0 HT_.out z2_3) (fun _ _ _ h => h) (Or.inl ⟨by rfl, ?_⟩) ?_ ?_
       rotate_left
       ·intro w'
        go_simp
        with_reducible rfl
       rotate_left
       ·simp only [Act.put, List.setIfInBounds_toArray, List.set_cons_zero, List.set_cons_succ, i64_w, i32_w]
        rfl
       refine pure_ (i := 2) (N := some 36) (v := ?_) (a' := ?_) (rb2 [1, 1, 1, 27]) rfl rfl (qs0 HT_.out z2_3) (fun _ _ _ h => h) (Or.inl ⟨by rfl, ?_⟩) ?_ ?_
       rotate_left
       ·intro w'
        go_simp
        with_reducible rfl
       rotate_left
       ·simp only [Act.put, List.setIfInBounds_toArray, List.set_cons_zero, List.set_cons_succ, i64_w, i32_w]
        rfl
       refine take_ (i := 1) (N := some 35) (v := ?_) (a' := ?_) (rb2 [3, 27]) rfl rfl (qd1 HT_.out HW_.out z2_3) (fun _ _ _ h => h) (Or.inl ⟨by rfl, ?_⟩) hHeld ?_ ?_
       rotate_left
       ·rintro w' ⟨s0, s1, s2, s3, s4, s5⟩
        go_simp
        with_reducible rfl
       rotate_left
       ·simp only [Act.put, List.setIfInBounds_toArray, List.set_cons_zero, List.set_cons_succ, i64_w, i32_w]
        rfl
       refine pure_ (i := 3) (N := some 37) (v := ?_) (a' := ?_) (rb2 [4, 26]) rfl rfl (qs0 HT_.out z2_3) (fun _ _ _ h => h) (Or.inl ⟨by rfl, ?_⟩) ?_ ?_
       rotate_left
       ·intro w'
        go_simp
        with_reducible rfl
       rotate_left
       ·simp only [Act.put, List.setIfInBounds_toArray, List.set_cons_zero, List.set_cons_succ, i64_w, i32_w]
        rfl
       refine take_ (i := 4) (N := some 38) (v := ?_) (a' := ?_) (rb2 [5, 25]) rfl rfl (qd1 HT_.out HW_.out z2_3) (fun _ _ _ h => h) (Or.inl ⟨by rfl, ?_⟩) hHeld ?_ ?_
       rotate_left
       ·rintro w' ⟨s0, s1, s2, s3, s4, s5⟩
        go_simp
        with_reducible rfl
       rotate_left
       ·simp only [Act.put, List.setIfInBounds_toArray, List.set_cons_zero, List.set_cons_succ, i64_w, i32_w]
        rfl
       refine one_ (i := 5) (N := some 39) (rb2 [6, 24]) rfl rfl (one_of HT_.out z2_3) (by decide) (fun K hK => ?_)
       refine goes_ Try.func49 z2_3 rfl #[.agg #[.int .i64 ((rd_T59 l0_2 x3_2).f0), .int .i64 ((rd_T59 l0_2 x3_2).f1)]] (by rfl) rfl rfl z2_1 ?_
       with_reducible refine (spec_l16Lay.calls ((rd_T59 l0_2 x3_2).f0) ((rd_T59 l0_2 x3_2).f1) true _ A15.out).mono ?_
       rintro e w27 ⟨rfl, hb⟩
       refine ⟨_, rfl, ?_⟩
       have n0_ := Aside0.mk (qf0 (g := gb111) (o := .cells #[.int .i64 a0_0, .int .i64 a0_1, .slice (some ad113) l0_2.length c0_2, .int .i64 a0_3] 37 (0, 0)) z2_2 hb)
       have n1_ := Aside0.mk (qg0 z2_0 hb)
       clear BK111
       clear HB
       have BK111 := n0_
       have HB := n1_
       clear n0_ n1_
       (try clear hb)
       (try clear hb2)
       (try clear hk)
       (try clear hi)
       refine hK.out _ _ ⟨(qb0 BK111.out 0).trans rfl, (qb0 BK111.out 1).trans rfl, (qb0 BK111.out 2).trans rfl, (qb0 BK111.out 3).trans rfl, ((HB.out.cell (World.block_lt_of_cell? w _ hw113_0)).trans hw113_0), ((HB.out.cell (World.block_lt_of_cell? w _ hw113_1)).trans hw113_1)⟩ (fun hHeld => ?_)
       clear hK K
       refine norm_ (a' := ?_) ?_ ?_
       rotate_left
       ·show Act.put _ (some 39) _ = _
        simp only [Act.put, List.setIfInBounds_toArray, List.set_cons_zero, List.set_cons_succ, i64_w, i32_w]
        rfl
       refine pure_ (i := 6) (N := some 40) (v := ?_) (a' := ?_) (rb2 [7, 23]) rfl rfl (qs0 HT_.out z2_3) (fun _ _ _ h => h) (Or.inl ⟨by rfl, ?_⟩) ?_ ?_
       rotate_left
       ·intro w'
        go_simp
        with_reducible rfl
       rotate_left
       ·simp only [Act.put, List.setIfInBounds_toArray, List.set_cons_zero, List.set_cons_succ, i64_w, i32_w]
        rfl
       refine pure_ (i := 7) (N := some 41) (v := ?_) (a' := ?_) (rb2 [8, 22]) rfl rfl (qs0 HT_.out z2_3) (fun _ _ _ h => h) (Or.inl ⟨by rfl, ?_⟩) ?_ ?_
       rotate_left
       ·intro w'
        go_simp
        with_reducible rfl
       rotate_left
       ·simp only [Act.put, List.setIfInBounds_toArray, List.set_cons_zero, List.set_cons_succ, i64_w, i32_w]
        rfl
       refine pure_ (i := 8) (N := some 42) (v := ?_) (a' := ?_) (rb2 [9, 21]) rfl rfl (qs0 HT_.out z2_3) (fun _ _ _ h => h) (Or.inl ⟨by rfl, ?_⟩) ?_ ?_
       rotate_left
       ·intro w'
        go_simp
        with_reducible rfl
       rotate_left
       ·simp only [Act.put, List.setIfInBounds_toArray, List.set_cons_zero, List.set_cons_succ, i64_w, i32_w]
        rfl
       refine take_ (i := 9) (N := some 43) (v := ?_) (a' := ?_) (rb2 [10, 20]) rfl rfl (qd1 HT_.out HW_.out z2_3) (fun _ _ _ h => h) (Or.inl ⟨by rfl, ?_⟩) hHeld ?_ ?_
       rotate_left
       ·rintro w' ⟨s0, s1, s2, s3, s4, s5⟩
        go_simp
        with_reducible rfl
       rotate_left
       ·simp only [Act.put, List.setIfInBounds_toArray, List.set_cons_zero, List.set_cons_succ, i64_w, i32_w]
        rfl
       refine pure_ (i := 10) (N := some 44) (v := ?_) (a' := ?_) (rb2 [11, 19]) rfl rfl (qs0 HT_.out z2_3) (fun _ _ _ h => h) (Or.inl ⟨by rfl, ?_⟩) ?_ ?_
       rotate_left
       ·intro w'
        go_simp
        with_reducible rfl
       rotate_left
       ·simp only [Act.put, List.setIfInBounds_toArray, List.set_cons_zero, List.set_cons_succ, i64_w, i32_w]
        rfl
       refine pure_ (i := 11) (N := some 45) (v := ?_) (a' := ?_) (rb2 [12, 18]) rfl rfl (qs0 HT_.out z2_3) (fun _ _ _ h => h) (Or.inl ⟨by rfl, ?_⟩) ?_ ?_
       rotate_left
       ·intro w'
        go_simp
        with_reducible rfl
       rotate_left
       ·simp only [Act.put, List.setIfInBounds_toArray, List.set_cons_zero, List.set_cons_succ, i64_w, i32_w]
        rfl
       refine pure_ (i := 12) (N := some 46) (v := undef) (a' := ?_) (rb2 [13, 17]) rfl rfl (qs0 HT_.out z2_3) (fun _ _ _ h => h) (Or.inr ⟨by rfl, rfl⟩) ?_ ?_
       rotate_left
       ·simp only [Act.put, List.setIfInBounds_toArray, List.set_cons_zero, List.set_cons_succ, i64_w, i32_w]
        rfl
       refine pure_ (i := 13) (N := some 47) (v := undef) (a' := ?_) (rb2 [14, 16]) rfl rfl (qs0 HT_.out z2_3) (fun _ _ _ h => h) (Or.inr ⟨by rfl, rfl⟩) ?_ ?_
       rotate_left
       ·simp only [Act.put, List.setIfInBounds_toArray, List.set_cons_zero, List.set_cons_succ, i64_w, i32_w]
        rfl
       refine pure_ (i := 14) (N := some 48) (v := undef) (a' := ?_) (rb2 [15, 15]) rfl rfl (qs0 HT_.out z2_3) (fun _ _ _ h => h) (Or.inr ⟨by rfl, rfl⟩) ?_ ?_
       rotate_left
       ·simp only [Act.put, List.setIfInBounds_toArray, List.set_cons_zero, List.set_cons_succ, i64_w, i32_w]
        rfl
       refine pure_ (i := 15) (N := some 49) (v := undef) (a' := ?_) (rb2 [16, 14]) rfl rfl (qs0 HT_.out z2_3) (fun _ _ _ h => h) (Or.inr ⟨by rfl, rfl⟩) ?_ ?_
       rotate_left
       ·simp only [Act.put, List.setIfInBounds_toArray, List.set_cons_zero, List.set_cons_succ, i64_w, i32_w]
        rfl
       refine pure_ (i := 16) (N := some 50) (v := undef) (a' := ?_) (rb2 [17, 13]) rfl rfl (qs0 HT_.out z2_3) (fun _ _ _ h => h) (Or.inr ⟨by rfl, rfl⟩) ?_ ?_
       rotate_left
       ·simp only [Act.put, List.setIfInBounds_toArray, List.set_cons_zero, List.set_cons_succ, i64_w, i32_w]
        rfl
       refine pure_ (i := 17) (N := some 51) (v := undef) (a' := ?_) (rb2 [18, 12]) rfl rfl (qs0 HT_.out z2_3) (fun _ _ _ h => h) (Or.inr ⟨by rfl, rfl⟩) ?_ ?_
       rotate_left
       ·simp only [Act.put, List.setIfInBounds_toArray, List.set_cons_zero, List.set_cons_succ, i64_w, i32_w]
        rfl
       refine pure_ (i := 18) (N := some 52) (v := undef) (a' := ?_) (rb2 [19, 11]) rfl rfl (qs0 HT_.out z2_3) (fun _ _ _ h => h) (Or.inr ⟨by rfl, rfl⟩) ?_ ?_
       rotate_left
       ·simp only [Act.put, List.setIfInBounds_toArray, List.set_cons_zero, List.set_cons_succ, i64_w, i32_w]
        rfl
       refine pure_ (i := 19) (N := some 53) (v := undef) (a' := ?_) (rb2 [20, 10]) rfl rfl (qs0 HT_.out z2_3) (fun _ _ _ h => h) (Or.inr ⟨by rfl, rfl⟩) ?_ ?_
       rotate_left
       ·simp only [Act.put, List.setIfInBounds_toArray, List.set_cons_zero, List.set_cons_succ, i64_w, i32_w]
        rfl
       refine pure_ (i := 20) (N := some 54) (v := undef) (a' := ?_) (rb2 [21, 9]) rfl rfl (qs0 HT_.out z2_3) (fun _ _ _ h => h) (Or.inr ⟨by rfl, rfl⟩) ?_ ?_
       rotate_left
       ·simp only [Act.put, List.setIfInBounds_toArray, List.set_cons_zero, List.set_cons_succ, i64_w, i32_w]
        rfl
       refine pure_ (i := 21) (N := some 55) (v := undef) (a' := ?_) (rb2 [22, 8]) rfl rfl (qs0 HT_.out z2_3) (fun _ _ _ h => h) (Or.inr ⟨by rfl, rfl⟩) ?_ ?_
       rotate_left
       ·simp only [Act.put, List.setIfInBounds_toArray, List.set_cons_zero, List.set_cons_succ, i64_w, i32_w]
        rfl
       refine pure_ (i := 22) (N := some 56) (v := undef) (a' := ?_) (rb2 [23, 7]) rfl rfl (qs0 HT_.out z2_3) (fun _ _ _ h => h) (Or.inr ⟨by rfl, rfl⟩) ?_ ?_
       rotate_left
       ·simp only [Act.put, List.setIfInBounds_toArray, List.set_cons_zero, List.set_cons_succ, i64_w, i32_w]
        rfl
       refine pure_ (i := 23) (N := some 57) (v := undef) (a' := ?_) (rb2 [24, 6]) rfl rfl (qs0 HT_.out z2_3) (fun _ _ _ h => h) (Or.inr ⟨by rfl, rfl⟩) ?_ ?_
       rotate_left
       ·simp only [Act.put, List.setIfInBounds_toArray, List.set_cons_zero, List.set_cons_succ, i64_w, i32_w]
        rfl
       refine pure_ (i := 24) (N := some 58) (v := undef) (a' := ?_) (rb2 [25, 5]) rfl rfl (qs0 HT_.out z2_3) (fun _ _ _ h => h) (Or.inr ⟨by rfl, rfl⟩) ?_ ?_
       rotate_left
       ·simp only [Act.put, List.setIfInBounds_toArray, List.set_cons_zero, List.set_cons_succ, i64_w, i32_w]
        rfl
       refine pure_ (i := 25) (N := some 59) (v := undef) (a' := ?_) (rb2 [26, 4]) rfl rfl (qs0 HT_.out z2_3) (fun _ _ _ h => h) (Or.inr ⟨by rfl, rfl⟩) ?_ ?_
       rotate_left
       ·simp only [Act.put, List.setIfInBounds_toArray, List.set_cons_zero, List.set_cons_succ, i64_w, i32_w]
        rfl
       refine pure_ (i := 26) (N := some 60) (v := undef) (a' := ?_) (rb2 [27, 3]) rfl rfl (qs0 HT_.out z2_3) (fun _ _ _ h => h) (Or.inr ⟨by rfl, rfl⟩) ?_ ?_
       rotate_left
       ·simp only [Act.put, List.setIfInBounds_toArray, List.set_cons_zero, List.set_cons_succ, i64_w, i32_w]
        rfl
       refine pure_ (i := 27) (N := some 61) (v := undef) (a' := ?_) (rb2 [28, 2]) rfl rfl (qs0 HT_.out z2_3) (fun _ _ _ h => h) (Or.inr ⟨by rfl, rfl⟩) ?_ ?_
       rotate_left
       ·simp only [Act.put, List.setIfInBounds_toArray, List.set_cons_zero, List.set_cons_succ, i64_w, i32_w]
        rfl
       refine pure_ (i := 28) (N := some 62) (v := ?_) (a' := ?_) (rb2 [29, 1]) rfl rfl (qs0 HT_.out z2_3) (fun _ _ _ h => h) (Or.inl ⟨by rfl, ?_⟩) ?_ ?_
       rotate_left
       ·intro w'
        go_simp
        with_reducible rfl
       rotate_left
       ·simp only [Act.put, List.setIfInBounds_toArray, List.set_cons_zero, List.set_cons_succ, i64_w, i32_w]
        rfl
       refine pure_ (i := 29) (N := some 63) (v := ?_) (a' := ?_) (rb2 [30]) rfl rfl (qs0 HT_.out z2_3) (fun _ _ _ h => h) (Or.inl ⟨by rfl, ?_⟩) ?_ ?_
       rotate_left
       ·intro w'
        go_simp
        with_reducible rfl
       rotate_left
       ·simp only [Act.put, List.setIfInBounds_toArray, List.set_cons_zero, List.set_cons_succ, i64_w, i32_w]
        rfl
       refine done_ (done_of HT_.out z2_3) ?_
       try go_wp2
       go_roundg k2
       case measure => have := HJ1.out; have := HK2.out; omega
       case rel => exact ⟨(wrap64 (x3_2 + 1)), z2_7, H', ⟨by have := HJ1.out; have := HK2.out; omega⟩, ⟨z2_2⟩, ⟨z2_0⟩⟩
      replace c16 := Bool.eq_false_iff.mpr c16
      subst c16
      have H1 : (some false) = some r := by rw [if_neg (show ¬ (false = true) by decide)] at H; exact H
      clear H
      have H := H1
      clear H1
      obtain rfl := Option.some.inj H
      have hcz28_0 : wr.cell? ⟨gb111, 0, none⟩ = some (.int .i64 a0_0) := (qb0 BK111.out 0).trans rfl
      have hcz28_1 : wr.cell? ⟨gb111, 1, none⟩ = some (.int .i64 a0_1) := (qb0 BK111.out 1).trans rfl
      have hcz28_2 : wr.cell? ⟨gb111, 2, none⟩ = some (.slice A0_2 l0_2.length c0_2) := (qb0 BK111.out 2).trans rfl
      have hcz28_3 : wr.cell? ⟨gb111, 3, none⟩ = some (.int .i64 a0_3) := (qb0 BK111.out 3).trans rfl
      have hfz28_0 := qa0 BK111.out 0
      have hfz28_1 := qa0 BK111.out 1
      have hfz28_2 := qa0 BK111.out 2
      have hfz28_3 := qa0 BK111.out 3
      try go_wp2
      have n0_ := Aside0.mk (qe0 BK111.out)
      have n1_ := Aside0.mk (qi0 HB.out)
      clear BK111
      clear HB
      have BK111 := n0_
      have HB := n1_
      clear n0_ n1_
      have p113 : 0 ≤ (x3_2 : Int) := of_decide_eq_true z2_5
      have q113 : x3_2 < (l0_2.length : Int) := of_decide_eq_true z2_5
      obtain ⟨ad113, e113, hx113_0, hx113_1⟩ := at_T59 HR0_2.out x3_2 p113 q113
      have hw113_1 := hx113_1
      have hw113_0 := hx113_0
      cases e113
      replace hx113_0 := (HB.out.cell (World.block_lt_of_cell? w _ hx113_0)).trans hx113_0
      replace hx113_1 := (HB.out.cell (World.block_lt_of_cell? w _ hx113_1)).trans hx113_1
      replace p113 := eq_true p113
      replace q113 := eq_true q113
      refine start_ (n := 30) (S := fun w' => w'.cell? ⟨gb111, 0, none⟩ = some (.int .i64 a0_0) ∧ w'.cell? ⟨gb111, 1, none⟩ = some (.int .i64 a0_1) ∧ w'.cell? ⟨gb111, 2, none⟩ = some (.slice (some ad113) l0_2.length c0_2) ∧ w'.cell? ⟨gb111, 3, none⟩ = some (.int .i64 a0_3) ∧ w'.cell? (ad113.add ((x3_2).toNat * 2)) = some (.int .i64 ((rd_T59 l0_2 x3_2).f0)) ∧ w'.cell? ⟨(ad113.add ((x3_2).toNat * 2)).block, (ad113.add ((x3_2).toNat * 2)).off + 1, none⟩ = some (.int .i64 ((rd_T59 l0_2 x3_2).f1))) (ds := []) (rb2 [0, 30]) z2_3 rfl rfl ⟨(qb0 BK111.out 0).trans rfl, (qb0 BK111.out 1).trans rfl, (qb0 BK111.out 2).trans rfl, (qb0 BK111.out 3).trans rfl, ((HB.out.cell (World.block_lt_of_cell? w _ hw113_0)).trans hw113_0), ((HB.out.cell (World.block_lt_of_cell? w _ hw113_1)).trans hw113_1)⟩ (fun hHeld => ?_); refine with_tabW spec_WorthOk.tab6 spec_WorthOk.bits6 (fun HT_ HW_ => ?_)
      generalize wr.drew = w29 at BK111 HB hx113_0 hx113_1 hHeld ⊢
      refine pure_ (i := 0) (N := some 34) (v := ?_) (a' := ?_) (rb2 [1, 29]) rfl rfl (qs0 HT_.out z2_3) (fun _ _ _ h => h) (Or.inl ⟨by rfl, ?_⟩) ?_ ?_
      rotate_left
      ·intro w'
       go_simp
       with_reducible rfl
      rotate_left
      ·simp only [Act.put, List.setIfInBounds_toArray, List.set_cons_zero, List.set_cons_succ, i64_w, i32_w]
       rfl
      refine pure_ (i := 2) (N := some 36) (v := ?_) (a' := ?_) (rb2 [1, 1, 1, 27]) rfl rfl (qs0 HT_.out z2_3) (fun _ _ _ h => h) (Or.inl ⟨by rfl, ?_⟩) ?_ ?_
      rotate_left
      ·intro w'
       go_simp
       with_reducible rfl
      rotate_left
      ·simp only [Act.put, List.setIfInBounds_toArray, List.set_cons_zero, List.set_cons_succ, i64_w, i32_w]
       rfl
      refine take_ (i := 1) (N := some 35) (v := ?_) (a' := ?_) (rb2 [3, 27]) rfl rfl (qd1 HT_.out HW_.out z2_3) (fun _ _ _ h => h) (Or.inl ⟨by rfl, ?_⟩) hHeld ?_ ?_
      rotate_left
      ·rintro w' ⟨s0, s1, s2, s3, s4, s5⟩
       go_simp
       with_reducible rfl
      rotate_left
      ·simp only [Act.put, List.setIfInBounds_toArray, List.set_cons_zero, List.set_cons_succ, i64_w, i32_w]
       rfl
      refine pure_ (i := 3) (N := some 37) (v := ?_) (a' := ?_) (rb2 [4, 26]) rfl rfl (qs0 HT_.out z2_3) (fun _ _ _ h => h) (Or.inl ⟨by rfl, ?_⟩) ?_ ?_
      rotate_left
      ·intro w'
       go_simp
       with_reducible rfl
      rotate_left
      ·simp only [Act.put, List.setIfInBounds_toArray, List.set_cons_zero, List.set_cons_succ, i64_w, i32_w]
       rfl
      refine take_ (i := 4) (N := some 38) (v := ?_) (a' := ?_) (rb2 [5, 25]) rfl rfl (qd1 HT_.out HW_.out z2_3) (fun _ _ _ h => h) (Or.inl ⟨by rfl, ?_⟩) hHeld ?_ ?_
      rotate_left
      ·rintro w' ⟨s0, s1, s2, s3, s4, s5⟩
       go_simp
       with_reducible rfl
      rotate_left
      ·simp only [Act.put, List.setIfInBounds_toArray, List.set_cons_zero, List.set_cons_succ, i64_w, i32_w]
       rfl
      refine one_ (i := 5) (N := some 39) (rb2 [6, 24]) rfl rfl (one_of HT_.out z2_3) (by decide) (fun K hK => ?_)
      refine goes_ Try.func49 z2_3 rfl #[.agg #[.int .i64 ((rd_T59 l0_2 x3_2).f0), .int .i64 ((rd_T59 l0_2 x3_2).f1)]] (by rfl) rfl rfl z2_1 ?_
      with_reducible refine (spec_l16Lay.calls ((rd_T59 l0_2 x3_2).f0) ((rd_T59 l0_2 x3_2).f1) false _ A15.out).mono ?_
      rintro e w30 ⟨rfl, hb⟩
      refine ⟨_, rfl, ?_⟩
      have n0_ := Aside0.mk (qf0 (g := gb111) (o := .cells #[.int .i64 a0_0, .int .i64 a0_1, .slice (some ad113) l0_2.length c0_2, .int .i64 a0_3] 37 (0, 0)) z2_2 hb)
      have n1_ := Aside0.mk (qg0 z2_0 hb)
      clear BK111
      clear HB
      have BK111 := n0_
      have HB := n1_
      clear n0_ n1_
      (try clear hb)
      (try clear hb2)
      (try clear hk)
      (try clear hi)
      refine hK.out _ _ ⟨(qb0 BK111.out 0).trans rfl, (qb0 BK111.out 1).trans rfl, (qb0 BK111.out 2).trans rfl, (qb0 BK111.out 3).trans rfl, ((HB.out.cell (World.block_lt_of_cell? w _ hw113_0)).trans hw113_0), ((HB.out.cell (World.block_lt_of_cell? w _ hw113_1)).trans hw113_1)⟩ (fun hHeld => ?_)
      clear hK K
      refine norm_ (a' := ?_) ?_ ?_
      rotate_left
      ·show Act.put _ (some 39) _ = _
       simp only [Act.put, List.setIfInBounds_toArray, List.set_cons_zero, List.set_cons_succ, i64_w, i32_w]
       rfl
      refine pure_ (i := 6) (N := some 40) (v := ?_) (a' := ?_) (rb2 [7, 23]) rfl rfl (qs0 HT_.out z2_3) (fun _ _ _ h => h) (Or.inl ⟨by rfl, ?_⟩) ?_ ?_
      rotate_left
      ·intro w'
       go_simp
       with_reducible rfl
      rotate_left
      ·simp only [Act.put, List.setIfInBounds_toArray, List.set_cons_zero, List.set_cons_succ, i64_w, i32_w]
       rfl
      refine pure_ (i := 7) (N := some 41) (v := ?_) (a' := ?_) (rb2 [8, 22]) rfl rfl (qs0 HT_.out z2_3) (fun _ _ _ h => h) (Or.inl ⟨by rfl, ?_⟩) ?_ ?_
      rotate_left
      ·intro w'
       go_simp
       with_reducible rfl
      rotate_left
      ·simp only [Act.put, List.setIfInBounds_toArray, List.set_cons_zero, List.set_cons_succ, i64_w, i32_w]
       rfl
      refine pure_ (i := 8) (N := some 42) (v := undef) (a' := ?_) (rb2 [9, 21]) rfl rfl (qs0 HT_.out z2_3) (fun _ _ _ h => h) (Or.inr ⟨by rfl, rfl⟩) ?_ ?_
      rotate_left
      ·simp only [Act.put, List.setIfInBounds_toArray, List.set_cons_zero, List.set_cons_succ, i64_w, i32_w]
       rfl
      refine pure_ (i := 9) (N := some 43) (v := undef) (a' := ?_) (rb2 [10, 20]) rfl rfl (qs0 HT_.out z2_3) (fun _ _ _ h => h) (Or.inr ⟨by rfl, rfl⟩) ?_ ?_
      rotate_left
      ·simp only [Act.put, List.setIfInBounds_toArray, List.set_cons_zero, List.set_cons_succ, i64_w, i32_w]
       rfl
      refine pure_ (i := 10) (N := some 44) (v := undef) (a' := ?_) (rb2 [11, 19]) rfl rfl (qs0 HT_.out z2_3) (fun _ _ _ h => h) (Or.inr ⟨by rfl, rfl⟩) ?_ ?_
      rotate_left
      ·simp only [Act.put, List.setIfInBounds_toArray, List.set_cons_zero, List.set_cons_succ, i64_w, i32_w]
       rfl
      refine pure_ (i := 11) (N := some 45) (v := undef) (a' := ?_) (rb2 [12, 18]) rfl rfl (qs0 HT_.out z2_3) (fun _ _ _ h => h) (Or.inr ⟨by rfl, rfl⟩) ?_ ?_
      rotate_left
      ·simp only [Act.put, List.setIfInBounds_toArray, List.set_cons_zero, List.set_cons_succ, i64_w, i32_w]
       rfl
      refine pure_ (i := 12) (N := some 46) (v := undef) (a' := ?_) (rb2 [13, 17]) rfl rfl (qs0 HT_.out z2_3) (fun _ _ _ h => h) (Or.inr ⟨by rfl, rfl⟩) ?_ ?_
      rotate_left
      ·simp only [Act.put, List.setIfInBounds_toArray, List.set_cons_zero, List.set_cons_succ, i64_w, i32_w]
       rfl
      refine pure_ (i := 13) (N := some 47) (v := undef) (a' := ?_) (rb2 [14, 16]) rfl rfl (qs0 HT_.out z2_3) (fun _ _ _ h => h) (Or.inr ⟨by rfl, rfl⟩) ?_ ?_
      rotate_left
      ·simp only [Act.put, List.setIfInBounds_toArray, List.set_cons_zero, List.set_cons_succ, i64_w, i32_w]
       rfl
      refine pure_ (i := 14) (N := some 48) (v := undef) (a' := ?_) (rb2 [15, 15]) rfl rfl (qs0 HT_.out z2_3) (fun _ _ _ h => h) (Or.inr ⟨by rfl, rfl⟩) ?_ ?_
      rotate_left
      ·simp only [Act.put, List.setIfInBounds_toArray, List.set_cons_zero, List.set_cons_succ, i64_w, i32_w]
       rfl
      refine pure_ (i := 15) (N := some 49) (v := undef) (a' := ?_) (rb2 [16, 14]) rfl rfl (qs0 HT_.out z2_3) (fun _ _ _ h => h) (Or.inr ⟨by rfl, rfl⟩) ?_ ?_
      rotate_left
      ·simp only [Act.put, List.setIfInBounds_toArray, List.set_cons_zero, List.set_cons_succ, i64_w, i32_w]
       rfl
      refine pure_ (i := 16) (N := some 50) (v := undef) (a' := ?_) (rb2 [17, 13]) rfl rfl (qs0 HT_.out z2_3) (fun _ _ _ h => h) (Or.inr ⟨by rfl, rfl⟩) ?_ ?_
      rotate_left
      ·simp only [Act.put, List.setIfInBounds_toArray, List.set_cons_zero, List.set_cons_succ, i64_w, i32_w]
       rfl
      refine pure_ (i := 17) (N := some 51) (v := undef) (a' := ?_) (rb2 [18, 12]) rfl rfl (qs0 HT_.out z2_3) (fun _ _ _ h => h) (Or.inr ⟨by rfl, rfl⟩) ?_ ?_
      rotate_left
      ·simp only [Act.put, List.setIfInBounds_toArray, List.set_cons_zero, List.set_cons_succ, i64_w, i32_w]
       rfl
      refine pure_ (i := 18) (N := some 52) (v := undef) (a' := ?_) (rb2 [19, 11]) rfl rfl (qs0 HT_.out z2_3) (fun _ _ _ h => h) (Or.inr ⟨by rfl, rfl⟩) ?_ ?_
      rotate_left
      ·simp only [Act.put, List.setIfInBounds_toArray, List.set_cons_zero, List.set_cons_succ, i64_w, i32_w]
       rfl
      refine pure_ (i := 19) (N := some 53) (v := undef) (a' := ?_) (rb2 [20, 10]) rfl rfl (qs0 HT_.out z2_3) (fun _ _ _ h => h) (Or.inr ⟨by rfl, rfl⟩) ?_ ?_
      rotate_left
      ·simp only [Act.put, List.setIfInBounds_toArray, List.set_cons_zero, List.set_cons_succ, i64_w, i32_w]
       rfl
      refine pure_ (i := 20) (N := some 54) (v := undef) (a' := ?_) (rb2 [21, 9]) rfl rfl (qs0 HT_.out z2_3) (fun _ _ _ h => h) (Or.inr ⟨by rfl, rfl⟩) ?_ ?_
      rotate_left
      ·simp only [Act.put, List.setIfInBounds_toArray, List.set_cons_zero, List.set_cons_succ, i64_w, i32_w]
       rfl
      refine pure_ (i := 21) (N := some 55) (v := undef) (a' := ?_) (rb2 [22, 8]) rfl rfl (qs0 HT_.out z2_3) (fun _ _ _ h => h) (Or.inr ⟨by rfl, rfl⟩) ?_ ?_
      rotate_left
      ·simp only [Act.put, List.setIfInBounds_toArray, List.set_cons_zero, List.set_cons_succ, i64_w, i32_w]
       rfl
      refine pure_ (i := 22) (N := some 56) (v := undef) (a' := ?_) (rb2 [23, 7]) rfl rfl (qs0 HT_.out z2_3) (fun _ _ _ h => h) (Or.inr ⟨by rfl, rfl⟩) ?_ ?_
      rotate_left
      ·simp only [Act.put, List.setIfInBounds_toArray, List.set_cons_zero, List.set_cons_succ, i64_w, i32_w]
       rfl
      refine pure_ (i := 23) (N := some 57) (v := undef) (a' := ?_) (rb2 [24, 6]) rfl rfl (qs0 HT_.out z2_3) (fun _ _ _ h => h) (Or.inr ⟨by rfl, rfl⟩) ?_ ?_
      rotate_left
      ·simp only [Act.put, List.setIfInBounds_toArray, List.set_cons_zero, List.set_cons_succ, i64_w, i32_w]
       rfl
      refine pure_ (i := 24) (N := some 58) (v := undef) (a' := ?_) (rb2 [25, 5]) rfl rfl (qs0 HT_.out z2_3) (fun _ _ _ h => h) (Or.inr ⟨by rfl, rfl⟩) ?_ ?_
      rotate_left
      ·simp only [Act.put, List.setIfInBounds_toArray, List.set_cons_zero, List.set_cons_succ, i64_w, i32_w]
       rfl
      refine pure_ (i := 25) (N := some 59) (v := undef) (a' := ?_) (rb2 [26, 4]) rfl rfl (qs0 HT_.out z2_3) (fun _ _ _ h => h) (Or.inr ⟨by rfl, rfl⟩) ?_ ?_
      rotate_left
      ·simp only [Act.put, List.setIfInBounds_toArray, List.set_cons_zero, List.set_cons_succ, i64_w, i32_w]
       rfl
      refine pure_ (i := 26) (N := some 60) (v := undef) (a' := ?_) (rb2 [27, 3]) rfl rfl (qs0 HT_.out z2_3) (fun _ _ _ h => h) (Or.inr ⟨by rfl, rfl⟩) ?_ ?_
      rotate_left
      ·simp only [Act.put, List.setIfInBounds_toArray, List.set_cons_zero, List.set_cons_succ, i64_w, i32_w]
       rfl
      refine pure_ (i := 27) (N := some 61) (v := undef) (a' := ?_) (rb2 [28, 2]) rfl rfl (qs0 HT_.out z2_3) (fun _ _ _ h => h) (Or.inr ⟨by rfl, rfl⟩) ?_ ?_
      rotate_left
      ·simp only [Act.put, List.setIfInBounds_toArray, List.set_cons_zero, List.set_cons_succ, i64_w, i32_w]
       rfl
      refine pure_ (i := 28) (N := some 62) (v := undef) (a' := ?_) (rb2 [29, 1]) rfl rfl (qs0 HT_.out z2_3) (fun _ _ _ h => h) (Or.inr ⟨by rfl, rfl⟩) ?_ ?_
      rotate_left
      ·simp only [Act.put, List.setIfInBounds_toArray, List.set_cons_zero, List.set_cons_succ, i64_w, i32_w]
       rfl
      refine pure_ (i := 29) (N := some 63) (v := ?_) (a' := ?_) (rb2 [30]) rfl rfl (qs0 HT_.out z2_3) (fun _ _ _ h => h) (Or.inl ⟨by rfl, ?_⟩) ?_ ?_
      rotate_left
      ·intro w'
       go_simp
       with_reducible rfl
      rotate_left
      ·simp only [Act.put, List.setIfInBounds_toArray, List.set_cons_zero, List.set_cons_succ, i64_w, i32_w]
       rfl
      refine done_ (done_of HT_.out z2_3) ?_
      try go_wp2
      go_ret
      exact ⟨z2_4, z2_0⟩
     rw [if_neg c13] at H
     have c13b0 : decide (x3_2 < (l0_2.length : Int)) = false := decide_eq_false c13
     clear c13
     by_cases c31 : a0_0 = 4
     ·rw [if_pos c31] at H
      have c31b0 : (a0_0 == 4) = true := beq_iff_eq.mpr c31
      have c31b1 : (a0_0 != 4) = false := bne_eq_false_iff_eq.mpr c31
      clear c31
      have HC32 := Aside0.mk H
      clear H
      have hcz33_0 : wr.cell? ⟨gb111, 0, none⟩ = some (.int .i64 a0_0) := (qb0 BK111.out 0).trans rfl
      have hcz33_1 : wr.cell? ⟨gb111, 1, none⟩ = some (.int .i64 a0_1) := (qb0 BK111.out 1).trans rfl
      have hcz33_2 : wr.cell? ⟨gb111, 2, none⟩ = some (.slice A0_2 l0_2.length c0_2) := (qb0 BK111.out 2).trans rfl
      have hcz33_3 : wr.cell? ⟨gb111, 3, none⟩ = some (.int .i64 a0_3) := (qb0 BK111.out 3).trans rfl
      have hfz33_0 := qa0 BK111.out 0
      have hfz33_1 := qa0 BK111.out 1
      have hfz33_2 := qa0 BK111.out 2
      have hfz33_3 := qa0 BK111.out 3
      go_upto_region 9 with (fail)
      go_cut [76] (fun v76 wc => ∃ (kq : Nat) (x76_31 : Bool), v76 = .bool x76_31 ∧ Aside0 (spec_WorthOk.j2 kq x76_31 a0_0 a0_1 l0_2 a0_3 = some r) ∧ Aside0 (kq ≤ k2) ∧ Aside0 (wc.heap[gb111]? = some (.cells #[.int .i64 a0_0, .int .i64 a0_1, (.slice A0_2 l0_2.length c0_2), .int .i64 a0_3] 37 (0, 0))) ∧ Aside0 (Below w.heap.size w wc))
      case first =>
       have H := HC32.out
       clear HC32
       replace H := Option.bind_eq_some_iff.mp H
       obtain ⟨t117, A340, H⟩ := H
       replace H : (if t117 = true then ((spec_l1Amount.f a0_3).bind fun t118 => (spec_WorthOk.j2 k2 (!t118) a0_0 a0_1 l0_2 a0_3)) else (spec_WorthOk.j2 k2 true a0_0 a0_1 l0_2 a0_3)) = some r := H
       have A34 := Aside0.mk A340
       clear A340
       by_cases c35 : t117 = true
       ·subst c35
        have H1 : ((spec_l1Amount.f a0_3).bind fun t118 => (spec_WorthOk.j2 k2 (!t118) a0_0 a0_1 l0_2 a0_3)) = some r := by rw [if_pos rfl] at H; exact H
        clear H
        have H := H1
        clear H1
        replace H := Option.bind_eq_some_iff.mp H
        obtain ⟨t118, A360, H⟩ := H
        replace H : (spec_WorthOk.j2 k2 (!t118) a0_0 a0_1 l0_2 a0_3) = some r := H
        have A36 := Aside0.mk A360
        clear A360
        have H' := Aside0.mk H
        clear H
        have hcz37_0 : wr.cell? ⟨gb111, 0, none⟩ = some (.int .i64 a0_0) := (qb0 BK111.out 0).trans rfl
        have hcz37_1 : wr.cell? ⟨gb111, 1, none⟩ = some (.int .i64 a0_1) := (qb0 BK111.out 1).trans rfl
        have hcz37_2 : wr.cell? ⟨gb111, 2, none⟩ = some (.slice A0_2 l0_2.length c0_2) := (qb0 BK111.out 2).trans rfl
        have hcz37_3 : wr.cell? ⟨gb111, 3, none⟩ = some (.int .i64 a0_3) := (qb0 BK111.out 3).trans rfl
        have hfz37_0 := qa0 BK111.out 0
        have hfz37_1 := qa0 BK111.out 1
        have hfz37_2 := qa0 BK111.out 2
        have hfz37_3 := qa0 BK111.out 3
        go_wp2_with (first | ((with_reducible refine qj0 (f := 50) rfl ?_); refine qy0 (some 69) rfl rfl Try.func50 z2_3 rfl #[.int .i64 a0_1] rfl z2_1 ?_; (with_reducible refine (spec_l12Price.calls a0_1 true _ A34.out).mono ?_); rintro e w' ⟨rfl, ⟨nd, rfl⟩⟩; refine ⟨_, rfl, ?_⟩) | (go_at_call 51; (with_reducible refine (spec_l1Amount.calls a0_3 t118 _ A36.out).mono ?_); rintro e w' ⟨rfl, ⟨nd, rfl⟩⟩))
        go_meet
        case rel => exact ⟨_, (!t118), z2_7, H', ⟨z2_10⟩, ⟨z2_2⟩, ⟨z2_0⟩⟩
       replace c35 := Bool.eq_false_iff.mpr c35
       subst c35
       have H1 : (spec_WorthOk.j2 k2 true a0_0 a0_1 l0_2 a0_3) = some r := by rw [if_neg (show ¬ (false = true) by decide)] at H; exact H
       clear H
       have H := H1
       clear H1
       have H' := Aside0.mk H
       clear H
       have hcz38_0 : wr.cell? ⟨gb111, 0, none⟩ = some (.int .i64 a0_0) := (qb0 BK111.out 0).trans rfl
       have hcz38_1 : wr.cell? ⟨gb111, 1, none⟩ = some (.int .i64 a0_1) := (qb0 BK111.out 1).trans rfl
       have hcz38_2 : wr.cell? ⟨gb111, 2, none⟩ = some (.slice A0_2 l0_2.length c0_2) := (qb0 BK111.out 2).trans rfl
       have hcz38_3 : wr.cell? ⟨gb111, 3, none⟩ = some (.int .i64 a0_3) := (qb0 BK111.out 3).trans rfl
       have hfz38_0 := qa0 BK111.out 0
       have hfz38_1 := qa0 BK111.out 1
       have hfz38_2 := qa0 BK111.out 2
       have hfz38_3 := qa0 BK111.out 3
       go_wp2_with (first | ((with_reducible refine qj0 (f := 50) rfl ?_); refine qy0 (some 69) rfl rfl Try.func50 z2_3 rfl #[.int .i64 a0_1] rfl z2_1 ?_; (with_reducible refine (spec_l12Price.calls a0_1 false _ A34.out).mono ?_); rintro e w' ⟨rfl, ⟨nd, rfl⟩⟩; refine ⟨_, rfl, ?_⟩))
       go_meet
       case rel => exact ⟨_, (true), z2_7, H', ⟨z2_10⟩, ⟨z2_2⟩, ⟨z2_0⟩⟩
      case rest =>
       clear HC32
       try clear c1
       try clear p1
       try clear q1
       try clear hx1
       try clear p2
       try clear c3
       try clear c4
       try clear c5
       try clear p6
       try clear p11
       try clear q11
       try clear hx11
       try clear c13
       try clear c13b0
       try clear c16
       try clear c17
       try clear c17b0
       try clear c17b1
       try clear c31
       try clear c31b0
       try clear c31b1
       try clear c35
       try clear hcz25_0
       try clear hcz25_1
       try clear hcz25_2
       try clear hcz25_3
       try clear hcz28_0
       try clear hcz28_1
       try clear hcz28_2
       try clear hcz28_3
       try clear hcz33_0
       try clear hcz33_1
       try clear hcz33_2
       try clear hcz33_3
       try clear hcz37_0
       try clear hcz37_1
       try clear hcz37_2
       try clear hcz37_3
       try clear hcz38_0
       try clear hcz38_1
       try clear hcz38_2
       try clear hcz38_3
       try clear hfz25_0
       try clear hfz25_1
       try clear hfz25_2
       try clear hfz25_3
       try clear hfz28_0
       try clear hfz28_1
       try clear hfz28_2
       try clear hfz28_3
       try clear hfz33_0
       try clear hfz33_1
       try clear hfz33_2
       try clear hfz33_3
       try clear hfz37_0
       try clear hfz37_1
       try clear hfz37_2
       try clear hfz37_3
       try clear hfz38_0
       try clear hfz38_1
       try clear hfz38_2
       try clear hfz38_3
       try clear hx113_0
       try clear hx113_1
       try clear p113
       try clear q113
       obtain ⟨kq, x76_31, rfl, HA, HJ31, BK111, HB⟩ := hcut
       cases kq with
       | zero => exact absurd HA.out (by simp [spec_WorthOk.j2])
       | succ kj31 =>
        have H := HA.out
        clear HA
        simp only [spec_WorthOk.j2] at H
        by_cases c39 : x76_31 = true
        ·subst c39
         have H1 : (some false) = some r := by rw [if_pos rfl] at H; exact H
         clear H
         have H := H1
         clear H1
         obtain rfl := Option.some.inj H
         go_wp2
         go_ret
         exact ⟨z2_4, z2_0⟩
        replace c39 := Bool.eq_false_iff.mpr c39
        subst c39
        have H1 : ((spec_l16Sums.f kj31 l0_2).bind fun bt119 => ((spec_l12Qty.f bt119.1).bind fun t121 => (if t121 = true then ((spec_l1Amount.f bt119.2).bind fun t122 => (some t122)) else (some false)))) = some r := by rw [if_neg (show ¬ (false = true) by decide)] at H; exact H
        clear H
        have H := H1
        clear H1
        replace H := Option.bind_eq_some_iff.mp H
        obtain ⟨⟨t119, t120⟩, A400, H⟩ := H
        replace H : ((spec_l12Qty.f t119).bind fun t121 => (if t121 = true then ((spec_l1Amount.f t120).bind fun t122 => (some t122)) else (some false))) = some r := H
        have A40 := Aside0.mk A400
        clear A400
        replace H := Option.bind_eq_some_iff.mp H
        obtain ⟨t121, A410, H⟩ := H
        replace H : (if t121 = true then ((spec_l1Amount.f t120).bind fun t122 => (some t122)) else (some false)) = some r := H
        have A41 := Aside0.mk A410
        clear A410
        by_cases c42 : t121 = true
        ·subst c42
         have H1 : ((spec_l1Amount.f t120).bind fun t122 => (some t122)) = some r := by rw [if_pos rfl] at H; exact H
         clear H
         have H := H1
         clear H1
         replace H := Option.bind_eq_some_iff.mp H
         obtain ⟨t122, A430, H⟩ := H
         replace H : (some t122) = some r := H
         have A43 := Aside0.mk A430
         clear A430
         obtain rfl := Option.some.inj H
         have hcz44_0 : wc.cell? ⟨gb111, 0, none⟩ = some (.int .i64 a0_0) := (qb0 BK111.out 0).trans rfl
         have hcz44_1 : wc.cell? ⟨gb111, 1, none⟩ = some (.int .i64 a0_1) := (qb0 BK111.out 1).trans rfl
         have hcz44_2 : wc.cell? ⟨gb111, 2, none⟩ = some (.slice A0_2 l0_2.length c0_2) := (qb0 BK111.out 2).trans rfl
         have hcz44_3 : wc.cell? ⟨gb111, 3, none⟩ = some (.int .i64 a0_3) := (qb0 BK111.out 3).trans rfl
         have hfz44_0 := qa0 BK111.out 0
         have hfz44_1 := qa0 BK111.out 1
         have hfz44_2 := qa0 BK111.out 2
         have hfz44_3 := qa0 BK111.out 3
         go_wp2_with (first | ((with_reducible refine qj0 (f := 36) rfl ?_); refine qy0 (some 88) rfl rfl Try.func36 z2_3 rfl #[.slice A0_2 l0_2.length c0_2] rfl z2_1 ?_; (with_reducible refine (spec_l16Sums.calls kj31 _ _ l0_2 t119 t120 _ ?side1 ?side2 A40.out).mono ?_); (case side1 => exact z2_6); (case side2 => exact HC0_2.out); rintro e w' ⟨rfl, ⟨nd, rfl⟩⟩; refine ⟨_, rfl, ?_⟩) | ((with_reducible refine qj0 (f := 52) rfl ?_); refine qy0 (some 92) rfl rfl Try.func52 z2_3 rfl #[.int .i64 t119] rfl z2_1 ?_; (with_reducible refine (spec_l12Qty.calls t119 true _ A41.out).mono ?_); rintro e w' ⟨rfl, ⟨nd, rfl⟩⟩; refine ⟨_, rfl, ?_⟩) | (go_at_call 51; (with_reducible refine (spec_l1Amount.calls t120 t122 _ A43.out).mono ?_); rintro e w' ⟨rfl, ⟨nd, rfl⟩⟩))
         go_ret
         exact ⟨z2_4, z2_0⟩
        replace c42 := Bool.eq_false_iff.mpr c42
        subst c42
        have H1 : (some false) = some r := by rw [if_neg (show ¬ (false = true) by decide)] at H; exact H
        clear H
        have H := H1
        clear H1
        obtain rfl := Option.some.inj H
        have hcz45_0 : wc.cell? ⟨gb111, 0, none⟩ = some (.int .i64 a0_0) := (qb0 BK111.out 0).trans rfl
        have hcz45_1 : wc.cell? ⟨gb111, 1, none⟩ = some (.int .i64 a0_1) := (qb0 BK111.out 1).trans rfl
        have hcz45_2 : wc.cell? ⟨gb111, 2, none⟩ = some (.slice A0_2 l0_2.length c0_2) := (qb0 BK111.out 2).trans rfl
        have hcz45_3 : wc.cell? ⟨gb111, 3, none⟩ = some (.int .i64 a0_3) := (qb0 BK111.out 3).trans rfl
        have hfz45_0 := qa0 BK111.out 0
        have hfz45_1 := qa0 BK111.out 1
        have hfz45_2 := qa0 BK111.out 2
        have hfz45_3 := qa0 BK111.out 3
        go_wp2_with (first | ((with_reducible refine qj0 (f := 36) rfl ?_); refine qy0 (some 88) rfl rfl Try.func36 z2_3 rfl #[.slice A0_2 l0_2.length c0_2] rfl z2_1 ?_; (with_reducible refine (spec_l16Sums.calls kj31 _ _ l0_2 t119 t120 _ ?side1 ?side2 A40.out).mono ?_); (case side1 => exact z2_6); (case side2 => exact HC0_2.out); rintro e w' ⟨rfl, ⟨nd, rfl⟩⟩; refine ⟨_, rfl, ?_⟩) | ((with_reducible refine qj0 (f := 52) rfl ?_); refine qy0 (some 92) rfl rfl Try.func52 z2_3 rfl #[.int .i64 t119] rfl z2_1 ?_; (with_reducible refine (spec_l12Qty.calls t119 false _ A41.out).mono ?_); rintro e w' ⟨rfl, ⟨nd, rfl⟩⟩; refine ⟨_, rfl, ?_⟩))
        go_ret
        exact ⟨z2_4, z2_0⟩
     rw [if_neg c31] at H
     have c31b0 : (a0_0 == 4) = false := beq_eq_false_iff_ne.mpr c31
     have c31b1 : (a0_0 != 4) = true := bne_iff_ne.mpr c31
     have HC46 := Aside0.mk H
     clear H
     have hcz47_0 : wr.cell? ⟨gb111, 0, none⟩ = some (.int .i64 a0_0) := (qb0 BK111.out 0).trans rfl
     have hcz47_1 : wr.cell? ⟨gb111, 1, none⟩ = some (.int .i64 a0_1) := (qb0 BK111.out 1).trans rfl
     have hcz47_2 : wr.cell? ⟨gb111, 2, none⟩ = some (.slice A0_2 l0_2.length c0_2) := (qb0 BK111.out 2).trans rfl
     have hcz47_3 : wr.cell? ⟨gb111, 3, none⟩ = some (.int .i64 a0_3) := (qb0 BK111.out 3).trans rfl
     have hfz47_0 := qa0 BK111.out 0
     have hfz47_1 := qa0 BK111.out 1
     have hfz47_2 := qa0 BK111.out 2
     have hfz47_3 := qa0 BK111.out 3
     go_upto_region 11 with (fail)
     go_cut [84] (fun v84 wc => ∃ (kq : Nat) (x84_45 : Bool), v84 = .bool x84_45 ∧ Aside0 (spec_WorthOk.j3 kq x84_45 a0_0 a0_1 l0_2 a0_3 = some r) ∧ Aside0 (kq ≤ k2) ∧ Aside0 (wc.heap[gb111]? = some (.cells #[.int .i64 a0_0, .int .i64 a0_1, (.slice A0_2 l0_2.length c0_2), .int .i64 a0_3] 37 (0, 0))) ∧ Aside0 (Below w.heap.size w wc))
     case first =>
      have H := HC46.out
      clear HC46
      by_cases c48 : a0_1 = 0
      ·rw [if_pos c48] at H
       have c48b0 : (a0_1 == 0) = true := beq_iff_eq.mpr c48
       have c48b1 : (a0_1 != 0) = false := bne_eq_false_iff_eq.mpr c48
       clear c48
       (first | rw [c48b0] | (simp only [i64_w, i32_w]; rw [c48b0]) | skip)
       have H' := Aside0.mk H
       clear H
       have hcz49_0 : wr.cell? ⟨gb111, 0, none⟩ = some (.int .i64 a0_0) := (qb0 BK111.out 0).trans rfl
       have hcz49_1 : wr.cell? ⟨gb111, 1, none⟩ = some (.int .i64 a0_1) := (qb0 BK111.out 1).trans rfl
       have hcz49_2 : wr.cell? ⟨gb111, 2, none⟩ = some (.slice A0_2 l0_2.length c0_2) := (qb0 BK111.out 2).trans rfl
       have hcz49_3 : wr.cell? ⟨gb111, 3, none⟩ = some (.int .i64 a0_3) := (qb0 BK111.out 3).trans rfl
       have hfz49_0 := qa0 BK111.out 0
       have hfz49_1 := qa0 BK111.out 1
       have hfz49_2 := qa0 BK111.out 2
       have hfz49_3 := qa0 BK111.out 3
       go_wp2
       go_meet
       case rel => exact ⟨_, ((a0_3 != 0)), z2_7, H', ⟨z2_10⟩, ⟨z2_2⟩, ⟨z2_0⟩⟩
      rw [if_neg c48] at H
      have c48b0 : (a0_1 == 0) = false := beq_eq_false_iff_ne.mpr c48
      have c48b1 : (a0_1 != 0) = true := bne_iff_ne.mpr c48
      (first | rw [c48b0] | (simp only [i64_w, i32_w]; rw [c48b0]) | skip)
      have H' := Aside0.mk H
      clear H
      have hcz50_0 : wr.cell? ⟨gb111, 0, none⟩ = some (.int .i64 a0_0) := (qb0 BK111.out 0).trans rfl
      have hcz50_1 : wr.cell? ⟨gb111, 1, none⟩ = some (.int .i64 a0_1) := (qb0 BK111.out 1).trans rfl
      have hcz50_2 : wr.cell? ⟨gb111, 2, none⟩ = some (.slice A0_2 l0_2.length c0_2) := (qb0 BK111.out 2).trans rfl
      have hcz50_3 : wr.cell? ⟨gb111, 3, none⟩ = some (.int .i64 a0_3) := (qb0 BK111.out 3).trans rfl
      have hfz50_0 := qa0 BK111.out 0
      have hfz50_1 := qa0 BK111.out 1
      have hfz50_2 := qa0 BK111.out 2
      have hfz50_3 := qa0 BK111.out 3
      go_wp2
      go_meet
      case rel => exact ⟨_, (true), z2_7, H', ⟨z2_10⟩, ⟨z2_2⟩, ⟨z2_0⟩⟩
     case rest =>
      clear HC46
      try clear c1
      try clear p1
      try clear q1
      try clear hx1
      try clear p2
      try clear c3
      try clear c4
      try clear c5
      try clear p6
      try clear p11
      try clear q11
      try clear hx11
      try clear c13
      try clear c13b0
      try clear c16
      try clear c17
      try clear c17b0
      try clear c17b1
      try clear c31
      try clear c31b0
      try clear c31b1
      try clear c35
      try clear c36
      try clear c39
      try clear c42
      try clear c48
      try clear c48b0
      try clear c48b1
      try clear c49
      try clear c50
      try clear hcz25_0
      try clear hcz25_1
      try clear hcz25_2
      try clear hcz25_3
      try clear hcz28_0
      try clear hcz28_1
      try clear hcz28_2
      try clear hcz28_3
      try clear hcz33_0
      try clear hcz33_1
      try clear hcz33_2
      try clear hcz33_3
      try clear hcz37_0
      try clear hcz37_1
      try clear hcz37_2
      try clear hcz37_3
      try clear hcz38_0
      try clear hcz38_1
      try clear hcz38_2
      try clear hcz38_3
      try clear hcz44_0
      try clear hcz44_1
      try clear hcz44_2
      try clear hcz44_3
      try clear hcz45_0
      try clear hcz45_1
      try clear hcz45_2
      try clear hcz45_3
      try clear hcz47_0
      try clear hcz47_1
      try clear hcz47_2
      try clear hcz47_3
      try clear hcz49_0
      try clear hcz49_1
      try clear hcz49_2
      try clear hcz49_3
      try clear hcz50_0
      try clear hcz50_1
      try clear hcz50_2
      try clear hcz50_3
      try clear hfz25_0
      try clear hfz25_1
      try clear hfz25_2
      try clear hfz25_3
      try clear hfz28_0
      try clear hfz28_1
      try clear hfz28_2
      try clear hfz28_3
      try clear hfz33_0
      try clear hfz33_1
      try clear hfz33_2
      try clear hfz33_3
      try clear hfz37_0
      try clear hfz37_1
      try clear hfz37_2
      try clear hfz37_3
      try clear hfz38_0
      try clear hfz38_1
      try clear hfz38_2
      try clear hfz38_3
      try clear hfz44_0
      try clear hfz44_1
      try clear hfz44_2
      try clear hfz44_3
      try clear hfz45_0
      try clear hfz45_1
      try clear hfz45_2
      try clear hfz45_3
      try clear hfz47_0
      try clear hfz47_1
      try clear hfz47_2
      try clear hfz47_3
      try clear hfz49_0
      try clear hfz49_1
      try clear hfz49_2
      try clear hfz49_3
      try clear hfz50_0
      try clear hfz50_1
      try clear hfz50_2
      try clear hfz50_3
      try clear hx113_0
      try clear hx113_1
      try clear p1
      try clear p11
      try clear p113
      try clear p2
      try clear p6
      try clear q1
      try clear q11
      try clear q113
      obtain ⟨kq, x84_45, rfl, HA, HJ45, BK111, HB⟩ := hcut
      cases kq with
      | zero => exact absurd HA.out (by simp [spec_WorthOk.j3])
      | succ kj45 =>
       have H := HA.out
       clear HA
       simp only [spec_WorthOk.j3] at H
       by_cases c51 : x84_45 = true
       ·subst c51
        have H1 : (some false) = some r := by rw [if_pos rfl] at H; exact H
        clear H
        have H := H1
        clear H1
        obtain rfl := Option.some.inj H
        go_wp2
        go_ret
        exact ⟨z2_4, z2_0⟩
       replace c51 := Bool.eq_false_iff.mpr c51
       subst c51
       have H1 : ((spec_l16Sums.f kj45 l0_2).bind fun bt123 => ((spec_l12Qty.f bt123.1).bind fun t125 => (if t125 = true then ((spec_l1Amount.f bt123.2).bind fun t126 => (some t126)) else (some false)))) = some r := by rw [if_neg (show ¬ (false = true) by decide)] at H; exact H
       clear H
       have H := H1
       clear H1
       replace H := Option.bind_eq_some_iff.mp H
       obtain ⟨⟨t123, t124⟩, A520, H⟩ := H
       replace H : ((spec_l12Qty.f t123).bind fun t125 => (if t125 = true then ((spec_l1Amount.f t124).bind fun t126 => (some t126)) else (some false))) = some r := H
       have A52 := Aside0.mk A520
       clear A520
       replace H := Option.bind_eq_some_iff.mp H
       obtain ⟨t125, A530, H⟩ := H
       replace H : (if t125 = true then ((spec_l1Amount.f t124).bind fun t126 => (some t126)) else (some false)) = some r := H
       have A53 := Aside0.mk A530
       clear A530
       by_cases c54 : t125 = true
       ·subst c54
        have H1 : ((spec_l1Amount.f t124).bind fun t126 => (some t126)) = some r := by rw [if_pos rfl] at H; exact H
        clear H
        have H := H1
        clear H1
        replace H := Option.bind_eq_some_iff.mp H
        obtain ⟨t126, A550, H⟩ := H
        replace H : (some t126) = some r := H
        have A55 := Aside0.mk A550
        clear A550
        obtain rfl := Option.some.inj H
        have hcz56_0 : wc.cell? ⟨gb111, 0, none⟩ = some (.int .i64 a0_0) := (qb0 BK111.out 0).trans rfl
        have hcz56_1 : wc.cell? ⟨gb111, 1, none⟩ = some (.int .i64 a0_1) := (qb0 BK111.out 1).trans rfl
        have hcz56_2 : wc.cell? ⟨gb111, 2, none⟩ = some (.slice A0_2 l0_2.length c0_2) := (qb0 BK111.out 2).trans rfl
        have hcz56_3 : wc.cell? ⟨gb111, 3, none⟩ = some (.int .i64 a0_3) := (qb0 BK111.out 3).trans rfl
        have hfz56_0 := qa0 BK111.out 0
        have hfz56_1 := qa0 BK111.out 1
        have hfz56_2 := qa0 BK111.out 2
        have hfz56_3 := qa0 BK111.out 3
        go_wp2_with (first | ((with_reducible refine qj0 (f := 36) rfl ?_); refine qy0 (some 88) rfl rfl Try.func36 z2_3 rfl #[.slice A0_2 l0_2.length c0_2] rfl z2_1 ?_; (with_reducible refine (spec_l16Sums.calls kj45 _ _ l0_2 t123 t124 _ ?side1 ?side2 A52.out).mono ?_); (case side1 => exact z2_6); (case side2 => exact HC0_2.out); rintro e w' ⟨rfl, ⟨nd, rfl⟩⟩; refine ⟨_, rfl, ?_⟩) | ((with_reducible refine qj0 (f := 52) rfl ?_); refine qy0 (some 92) rfl rfl Try.func52 z2_3 rfl #[.int .i64 t123] rfl z2_1 ?_; (with_reducible refine (spec_l12Qty.calls t123 true _ A53.out).mono ?_); rintro e w' ⟨rfl, ⟨nd, rfl⟩⟩; refine ⟨_, rfl, ?_⟩) | (go_at_call 51; (with_reducible refine (spec_l1Amount.calls t124 t126 _ A55.out).mono ?_); rintro e w' ⟨rfl, ⟨nd, rfl⟩⟩))
        go_ret
        exact ⟨z2_4, z2_0⟩
       replace c54 := Bool.eq_false_iff.mpr c54
       subst c54
       have H1 : (some false) = some r := by rw [if_neg (show ¬ (false = true) by decide)] at H; exact H
       clear H
       have H := H1
       clear H1
       obtain rfl := Option.some.inj H
       have hcz57_0 : wc.cell? ⟨gb111, 0, none⟩ = some (.int .i64 a0_0) := (qb0 BK111.out 0).trans rfl
       have hcz57_1 : wc.cell? ⟨gb111, 1, none⟩ = some (.int .i64 a0_1) := (qb0 BK111.out 1).trans rfl
       have hcz57_2 : wc.cell? ⟨gb111, 2, none⟩ = some (.slice A0_2 l0_2.length c0_2) := (qb0 BK111.out 2).trans rfl
       have hcz57_3 : wc.cell? ⟨gb111, 3, none⟩ = some (.int .i64 a0_3) := (qb0 BK111.out 3).trans rfl
       have hfz57_0 := qa0 BK111.out 0
       have hfz57_1 := qa0 BK111.out 1
       have hfz57_2 := qa0 BK111.out 2
       have hfz57_3 := qa0 BK111.out 3
       go_wp2_with (first | ((with_reducible refine qj0 (f := 36) rfl ?_); refine qy0 (some 88) rfl rfl Try.func36 z2_3 rfl #[.slice A0_2 l0_2.length c0_2] rfl z2_1 ?_; (with_reducible refine (spec_l16Sums.calls kj45 _ _ l0_2 t123 t124 _ ?side1 ?side2 A52.out).mono ?_); (case side1 => exact z2_6); (case side2 => exact HC0_2.out); rintro e w' ⟨rfl, ⟨nd, rfl⟩⟩; refine ⟨_, rfl, ?_⟩) | ((with_reducible refine qj0 (f := 52) rfl ?_); refine qy0 (some 92) rfl rfl Try.func52 z2_3 rfl #[.int .i64 t123] rfl z2_1 ?_; (with_reducible refine (spec_l12Qty.calls t123 false _ A53.out).mono ?_); rintro e w' ⟨rfl, ⟨nd, rfl⟩⟩; refine ⟨_, rfl, ?_⟩))
       go_ret
       exact ⟨z2_4, z2_0⟩

end Go.Proofs.Ytggfggmmecbdnaa.PFnExactTakeIn
