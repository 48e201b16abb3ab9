/- Lines by a program (a changed copy of the kit's print: this repo's wip/tools): Go functions as Lean functions, and proofs that the calls answer so. -/
import Derived.Test.YtlodndejipjceaaZPFnExactPicksx0
import Derived.Test.YtlodndejipjceaaZPFnExactPicksx1
import Derived.Test.YtlodndejipjceaaZPFnExactPicksx3
namespace Go.Proofs.Ytlodndejipjceaa.PFnExactPicks
open Go.RowKit Go.Proofs.YtlodndejipjceaaW.PrintWords Go.Proofs.YtlodndejipjceaaW.PrintLast Go.Proofs.YtlodndejipjceaaW.PrintMore
/-- Runs of true and false, by turns. -/
def rb4l : Bool → List Nat → List Bool
 | _, [] => []
 | b, n :: r => List.replicate n b ++ rb4l (!b) r
def rb4 (l : List Nat) : Array Bool := (rb4l true l).toArray
attribute [local go_sem] max2_int min2_int max_two min_two max_three min_three max_four min_four   -- for this text's walks alone
set_option linter.unusedVariables false
set_option linter.unusedSimpArgs false

/-! ### spec_Picks: function 49 -/
mutual
def spec_Picks.j0 : Nat → List (S160) → ByteArray → Int → Int → List (S162) → Bool → Option ((List (S162)))
 | 0, _, _, _, _, _, _ => none
 | k + 1, x0, x1, x2, x3, x9, x28 => if x28 = true then (some x9) else (spec_Picks.l0 k x0 x1 x2 x3 x9 (([] : List Int)))
def spec_Picks.l0 : Nat → List (S160) → ByteArray → Int → Int → List (S162) → List Int → Option ((List (S162)))
 | 0, _, _, _, _, _, _ => none
 | k + 1, x0, x1, x2, x3, x9, x10 => if x2 > 0 then (spec_Picks.l1 k x0 x1 x2 x3 x9 x10 (-1) 0) else (some x9)
def spec_Picks.l1 : Nat → List (S160) → ByteArray → Int → Int → List (S162) → List Int → Int → Int → Option ((List (S162)))
 | 0, _, _, _, _, _, _, _, _ => none
 | k + 1, x0, x1, x2, x3, x9, x10, x11, x12 => if x12 < (x0.length : Int) then (if 0 ≤ x12 then (if ((rd_T160 x0 x12).f0).toList = x1.toList then (if ((rd_T160 x0 x12).f3) ≥ x3 then (if ((rd_T160 x0 x12).f4) > ((rd_T160 x0 x12).f5) then ((spec_l7Has.f k x10 x12).bind fun t137 => (if t137 = true then (spec_Picks.l1 k x0 x1 x2 x3 x9 x10 x11 (wrap64 (x12 + 1))) else (if x11 < 0 then (spec_Picks.l1 k x0 x1 x2 x3 x9 x10 x12 (wrap64 (x12 + 1))) else (if 0 ≤ x11 then (if x11 < (x0.length : Int) then (if ((rd_T160 x0 x12).f3) < ((rd_T160 x0 x11).f3) then (spec_Picks.l1 k x0 x1 x2 x3 x9 x10 x12 (wrap64 (x12 + 1))) else (spec_Picks.l1 k x0 x1 x2 x3 x9 x10 x11 (wrap64 (x12 + 1)))) else (none)) else (none))))) else (spec_Picks.l1 k x0 x1 x2 x3 x9 x10 x11 (wrap64 (x12 + 1)))) else (spec_Picks.l1 k x0 x1 x2 x3 x9 x10 x11 (wrap64 (x12 + 1)))) else (spec_Picks.l1 k x0 x1 x2 x3 x9 x10 x11 (wrap64 (x12 + 1)))) else (none)) else (if x11 < 0 then (some (([] : List (S162)))) else (if 0 ≤ x11 then (if x11 < (x0.length : Int) then (if (wrap64 (((rd_T160 x0 x11).f4) - ((rd_T160 x0 x11).f5))) > x2 then (if x10.length < 17592186044416 then (if x9.length < 8796093022208 then (spec_Picks.l0 k x0 x1 0 x3 (x9 ++ [(⟨x11, x2⟩ : S162)]) (x10 ++ [x11])) else (none)) else (none)) else (if x10.length < 17592186044416 then (if x9.length < 8796093022208 then (spec_Picks.l0 k x0 x1 (wrap64 (x2 - (wrap64 (((rd_T160 x0 x11).f4) - ((rd_T160 x0 x11).f5))))) x3 (x9 ++ [(⟨x11, wrap64 (((rd_T160 x0 x11).f4) - ((rd_T160 x0 x11).f5))⟩ : S162)]) (x10 ++ [x11])) else (none)) else (none))) else (none)) else (none)))
end
def spec_Picks.f (k : Nat) (l0 : List (S160)) (a1 : ByteArray) (a2 : Int) (a3 : Int) : Option ((List (S162))) := (some (([] : List (S162)) : List (S162))).bind fun y126 => ((spec_StockOk.f k l0).bind fun t129 => (if t129 = true then ((spec_l1In.f a2 1 1000000).bind fun t130 => (if t130 = true then ((spec_l2Day.f a3).bind fun t131 => (spec_Picks.j0 k l0 a1 a2 a3 y126 (!t131))) else (spec_Picks.j0 k l0 a1 a2 a3 y126 true))) else (spec_Picks.j0 k l0 a1 a2 a3 y126 true)))
theorem spec_Picks.mono_l : ∀ k, (∀ y0 y1 y2 y3 y4 y5, LeO (spec_Picks.j0 k y0 y1 y2 y3 y4 y5) (spec_Picks.j0 (k + 1) y0 y1 y2 y3 y4 y5)) ∧ (∀ y0 y1 y2 y3 y4 y5, LeO (spec_Picks.l0 k y0 y1 y2 y3 y4 y5) (spec_Picks.l0 (k + 1) y0 y1 y2 y3 y4 y5)) ∧ (∀ y0 y1 y2 y3 y4 y5 y6 y7, LeO (spec_Picks.l1 k y0 y1 y2 y3 y4 y5 y6 y7) (spec_Picks.l1 (k + 1) y0 y1 y2 y3 y4 y5 y6 y7))
 | 0 => ⟨fun _ _ _ _ _ _ r h => by simp [spec_Picks.j0] at h, fun _ _ _ _ _ _ r h => by simp [spec_Picks.l0] at h, fun _ _ _ _ _ _ _ _ r h => by simp [spec_Picks.l1] at h⟩
 | k + 1 => by
  obtain ⟨ih0, ih1, ih2⟩ := spec_Picks.mono_l k
  refine ⟨?_, ?_, ?_⟩
  ·intro y0 y1 y2 y3 y4 y5
   unfold spec_Picks.j0
   repeat' first
   | (with_reducible exact ih0 _ _ _ _ _ _)
   | (with_reducible exact ih1 _ _ _ _ _ _)
   | (with_reducible exact ih2 _ _ _ _ _ _ _ _)
   | (with_reducible exact spec_StockOk.mono _ _)
   | (with_reducible exact spec_l7Has.mono _ _ _)
   | (with_reducible exact LeO.refl _)
   | (with_reducible exact LeO.none _)
   | (with_reducible refine LeO.ite ?_ ?_)
   | (with_reducible refine LeO.bind ?_ (fun _ => ?_))
   | exact ih0 _ _ _ _ _ _
   | exact ih1 _ _ _ _ _ _
   | exact ih2 _ _ _ _ _ _ _ _
   | exact spec_StockOk.mono _ _
   | exact spec_l7Has.mono _ _ _
   | exact LeO.none _
   | refine LeO.ite ?_ ?_
   | refine LeO.bind ?_ (fun _ => ?_)
  ·intro y0 y1 y2 y3 y4 y5
   unfold spec_Picks.l0
   repeat' first
   | (with_reducible exact ih0 _ _ _ _ _ _)
   | (with_reducible exact ih1 _ _ _ _ _ _)
   | (with_reducible exact ih2 _ _ _ _ _ _ _ _)
   | (with_reducible exact spec_StockOk.mono _ _)
   | (with_reducible exact spec_l7Has.mono _ _ _)
   | (with_reducible exact LeO.refl _)
   | (with_reducible exact LeO.none _)
   | (with_reducible refine LeO.ite ?_ ?_)
   | (with_reducible refine LeO.bind ?_ (fun _ => ?_))
   | exact ih0 _ _ _ _ _ _
   | exact ih1 _ _ _ _ _ _
   | exact ih2 _ _ _ _ _ _ _ _
   | exact spec_StockOk.mono _ _
   | exact spec_l7Has.mono _ _ _
   | exact LeO.none _
   | refine LeO.ite ?_ ?_
   | refine LeO.bind ?_ (fun _ => ?_)
  ·intro y0 y1 y2 y3 y4 y5 y6 y7
   unfold spec_Picks.l1
   repeat' first
   | (with_reducible exact ih0 _ _ _ _ _ _)
   | (with_reducible exact ih1 _ _ _ _ _ _)
   | (with_reducible exact ih2 _ _ _ _ _ _ _ _)
   | (with_reducible exact spec_StockOk.mono _ _)
   | (with_reducible exact spec_l7Has.mono _ _ _)
   | (with_reducible exact LeO.refl _)
   | (with_reducible exact LeO.none _)
   | (with_reducible refine LeO.ite ?_ ?_)
   | (with_reducible refine LeO.bind ?_ (fun _ => ?_))
   | exact ih0 _ _ _ _ _ _
   | exact ih1 _ _ _ _ _ _
   | exact ih2 _ _ _ _ _ _ _ _
   | exact spec_StockOk.mono _ _
   | exact spec_l7Has.mono _ _ _
   | exact LeO.none _
   | refine LeO.ite ?_ ?_
   | refine LeO.bind ?_ (fun _ => ?_)
theorem spec_Picks.mono : ∀ a0 a1 a2 a3 k, LeO (spec_Picks.f k a0 a1 a2 a3) (spec_Picks.f (k + 1) a0 a1 a2 a3) := by
 intro a0 a1 a2 a3 k
 obtain ⟨ih0, ih1, ih2⟩ := spec_Picks.mono_l k
 unfold spec_Picks.f
 repeat' first
   | (with_reducible exact ih0 _ _ _ _ _ _)
   | (with_reducible exact ih1 _ _ _ _ _ _)
   | (with_reducible exact ih2 _ _ _ _ _ _ _ _)
   | (with_reducible exact spec_StockOk.mono _ _)
   | (with_reducible exact spec_l7Has.mono _ _ _)
   | (with_reducible exact LeO.refl _)
   | (with_reducible exact LeO.none _)
   | (with_reducible refine LeO.ite ?_ ?_)
   | (with_reducible refine LeO.bind ?_ (fun _ => ?_))
   | exact ih0 _ _ _ _ _ _
   | exact ih1 _ _ _ _ _ _
   | exact ih2 _ _ _ _ _ _ _ _
   | exact spec_StockOk.mono _ _
   | exact spec_l7Has.mono _ _ _
   | exact LeO.none _
   | refine LeO.ite ?_ ?_
   | refine LeO.bind ?_ (fun _ => ?_)
def spec_Picks.T11 : Bool × List (List Nat × List Nat) := (true, [([], []), ([0], [0]), ([], []), ([1, 2], [1, 2]), ([3], [3]), ([4], [4]), ([5, 4], [4, 5]), ([4], [4]), ([6, 7, 4], [4, 6, 7]), ([4, 8], [4, 8]), ([9, 4], [9]), ([10], [10]), ([11, 10], [10, 11]), ([10], [10]), ([13, 10], [10, 13]), ([12, 14, 10], [10, 12, 14]), ([10, 15], [10, 15]), ([16, 10], [16]), ([17], [17]), ([17], [17]), ([18, 19, 17, 17], [17, 18, 19]), ([20, 17], [17, 20]), ([17, 21], [17, 21]), ([22, 20], [22]), ([23], [23]), ([24, 23], [23, 24]), ([25, 23, 23], [23, 25]), ([26], [26]), ([27, 26], [26, 27]), ([26], [26]), ([26], [26]), ([29, 30, 26], [26, 29, 30]), ([31, 26], [26, 31]), ([32, 26], [26, 32]), ([28, 33, 26], [26, 28, 33]), ([26, 34, 23], [23, 26, 34]), ([23, 35], [23, 35])])
def spec_Picks.B11 : List Nat := [0, 1, 0, 7, 15, 31, 63, 31, 255, 511, 1023, 2047, 4095, 2047, 10239, 32767, 65535, 131071, 262143, 262143, 1048575, 2097151, 4194303, 8388607, 16777215, 33554431, 67108863, 134217727, 268435455, 134217727, 134217727, 1744830463, 3892314111, 8187281407, 17179869183, 34359738367, 68719476735]
theorem spec_Picks.tab11 : rtab .any (opsOf Try.f49 11) = spec_Picks.T11 := by kernel_rfl
theorem spec_Picks.bits11 : waitsOk spec_Picks.T11.2 spec_Picks.B11 = true := by kernel_rfl
def spec_Picks.T15 : Bool × List (List Nat × List Nat) := (true, [([], []), ([], []), ([0, 1], [0, 1]), ([2], [2]), ([3], [3]), ([], []), ([], []), ([5, 6], [5, 6]), ([7], [7]), ([8], [8]), ([4, 9], [4, 9]), ([10, 0, 1, 2, 3, 4, 5, 6, 7, 8, 9, 10], [10])])
def spec_Picks.B15 : List Nat := [0, 0, 3, 7, 15, 0, 0, 96, 224, 480, 1023, 2047]
theorem spec_Picks.tab15 : rtab .any (opsOf Try.f49 15) = spec_Picks.T15 := by kernel_rfl
theorem spec_Picks.bits15 : waitsOk spec_Picks.T15.2 spec_Picks.B15 = true := by kernel_rfl
set_option maxHeartbeats 8000000 in
set_option maxRecDepth 100000 in
theorem spec_Picks.calls (k : Nat) (A0 : Option Addr) (c0 : Nat) (l0 : List (S160)) (a1 : ByteArray) (a2 : Int) (a3 : Int) (r : List (S162)) (w : World) (hr0 : Kd.C k160 w A0 l0.length l0) (hc0 : l0.length ≤ c0) (h : spec_Picks.f k l0 a1 a2 a3 = some r) :
  Calls Try.prog 49 #[.slice A0 l0.length c0, .string a1, .int .i64 a2, .int .i64 a3] w fun e w' => ∃ v0_ : Value, e = .returned (v0_) ∧ Kd.R k162 162 w' w.heap.size (fun _ => True) v0_ r ∧ Below w.heap.size w w' := by
 have hu160 := Try.underlying160
 have hu162 := Try.underlying162
 have HR0 := Aside0.mk hr0
 have HC0 := Aside0.mk hc0
 clear hr0 hc0
 have HB := Aside0.mk (Below.refl w.heap.size w)
 have H : ((some (([] : List (S162)) : List (S162))).bind fun y126 => ((spec_StockOk.f k l0).bind fun t129 => (if t129 = true then ((spec_l1In.f a2 1 1000000).bind fun t130 => (if t130 = true then ((spec_l2Day.f a3).bind fun t131 => (spec_Picks.j0 k l0 a1 a2 a3 y126 (!t131))) else (spec_Picks.j0 k l0 a1 a2 a3 y126 true))) else (spec_Picks.j0 k l0 a1 a2 a3 y126 true)))) = some r := h
 clear h
 obtain ⟨y126, hy126⟩ : ∃ y_ : List (S162), y_ = (([] : List (S162))) := ⟨_, rfl⟩
 replace H : ((spec_StockOk.f k l0).bind fun t129 => (if t129 = true then ((spec_l1In.f a2 1 1000000).bind fun t130 => (if t130 = true then ((spec_l2Day.f a3).bind fun t131 => (spec_Picks.j0 k l0 a1 a2 a3 y126 (!t131))) else (spec_Picks.j0 k l0 a1 a2 a3 y126 true))) else (spec_Picks.j0 k l0 a1 a2 a3 y126 true))) = some r := by first | (rw [hy126]; with_reducible exact H) | (have H2_ := (Option.bind_some _ _).symm.trans H; rw [hy126]; with_reducible exact H2_) | (have H2_ := (Option.bind_some _ _).symm.trans H; with_reducible exact H2_) | with_reducible exact H | (rw [hy126]; exact H) | exact H
 have Ny126 := Aside0.mk hy126
 clear hy126
 have HC5 := Aside0.mk H
 clear H
 go_enter Try.func49, Try.ntmps49
 go_upto_region 2 with (first | ((with_reducible refine qs0 (N := 15) rfl ?_); refine Kd.R_lit k162 _ 162 ?hg (N := 15) ?hd (xs := ([] : List (S162))) (inner := []) (ok := fun _ => True) (okp := fun _ => True) ?hr ?hp (fun _ hk => hk) trivial (Below.refl _ _) (Nat.le_refl _) (by simp) ?_; (case hd => rfl); (case hg => rfl); (case hr => first | (go_simp; done) | (go_simp; rfl)); (case hp => exact (Reps.none _ _)); intro v127 w6 ho7 hb hg_ hnew_; clear hg_ hnew_; (first | rw [← Ny126.out] at ho7 | (simp only [Int.reduceToNat] at ho7; rw [← Ny126.out] at ho7)); have n0_ := Aside0.mk (Kd.qf1 ho7 (qi0 (by repeat (first | (with_reducible first | exact HB.out | apply qc0 | apply qa0 | apply qb0) | exact HB.out)))); have n1_ := Aside0.mk (qm0 (by repeat (first | (with_reducible first | exact HB.out | apply qc0 | apply qa0 | apply qb0) | exact HB.out)) hb); clear HB; have HO128 := n0_; have HB := n1_; clear n0_ n1_; clear hb ho7))
 (try simp only [Act.put, List.setIfInBounds_toArray, List.set_cons_zero, List.set_cons_succ])
 go_cut [28] (fun v28 wc => ∃ (kq : Nat) (x28_4 : Bool), v28 = .bool x28_4 ∧ Aside0 (spec_Picks.j0 kq l0 a1 a2 a3 y126 x28_4 = some r) ∧ Aside0 (kq ≤ k) ∧ Aside0 (Kd.R k162 162 wc w.heap.size (fun _ => True) v127 y126) ∧ Aside0 (Below w.heap.size w wc))
 case first =>
  have H := HC5.out
  clear HC5
  replace H := Option.bind_eq_some_iff.mp H
  obtain ⟨t129, A80, H⟩ := H
  replace H : (if t129 = true then ((spec_l1In.f a2 1 1000000).bind fun t130 => (if t130 = true then ((spec_l2Day.f a3).bind fun t131 => (spec_Picks.j0 k l0 a1 a2 a3 y126 (!t131))) else (spec_Picks.j0 k l0 a1 a2 a3 y126 true))) else (spec_Picks.j0 k l0 a1 a2 a3 y126 true)) = some r := H
  have A8 := Aside0.mk A80
  clear A80
  by_cases c9 : t129 = true
  ·subst c9
   have H1 : ((spec_l1In.f a2 1 1000000).bind fun t130 => (if t130 = true then ((spec_l2Day.f a3).bind fun t131 => (spec_Picks.j0 k l0 a1 a2 a3 y126 (!t131))) else (spec_Picks.j0 k l0 a1 a2 a3 y126 true))) = some r := by rw [if_pos rfl] at H; exact H
   clear H
   have H := H1
   clear H1
   replace H := Option.bind_eq_some_iff.mp H
   obtain ⟨t130, A100, H⟩ := H
   replace H : (if t130 = true then ((spec_l2Day.f a3).bind fun t131 => (spec_Picks.j0 k l0 a1 a2 a3 y126 (!t131))) else (spec_Picks.j0 k l0 a1 a2 a3 y126 true)) = some r := H
   have A10 := Aside0.mk A100
   clear A100
   by_cases c11 : t130 = true
   ·subst c11
    have H1 : ((spec_l2Day.f a3).bind fun t131 => (spec_Picks.j0 k l0 a1 a2 a3 y126 (!t131))) = some r := by rw [if_pos rfl] at H; exact H
    clear H
    have H := H1
    clear H1
    replace H := Option.bind_eq_some_iff.mp H
    obtain ⟨t131, A120, H⟩ := H
    replace H : (spec_Picks.j0 k l0 a1 a2 a3 y126 (!t131)) = some r := H
    have A12 := Aside0.mk A120
    clear A120
    have H' := Aside0.mk H
    clear H
    go_wp2_with (first | ((with_reducible refine qp0 (f := 124) rfl ?_); refine qy0 (some 17) rfl rfl Try.func124 (by kernel_rfl) rfl #[.slice A0 l0.length c0] rfl (by (try simp only [List.map_toArray, List.map_cons, List.map_nil]); first | done | rfl | (simp only [List.length_drop, List.length_take]; rfl)) ?_; (with_reducible refine (spec_StockOk.calls k _ _ l0 true _ ?side1 ?side2 A8.out).mono ?_); (case side1 => repeat (first | exact (Kd.qh1 HR0.out HB.out) | (with_reducible refine Kd.qw0 ?_ _) | (with_reducible refine Kd.qv0 ?_ _) | (with_reducible refine Kd.qz0 ?_))); (case side2 => exact HC0.out); rintro e w13 ⟨rfl, hb⟩; refine ⟨_, rfl, ?_⟩; have n0_ := Aside0.mk (Kd.qr0 (by (with_reducible repeat (first | apply Kd.ql0 | apply Kd.qk0 | apply Kd.qo0)); exact HO128.out) hb); have n1_ := Aside0.mk (qm0 (by repeat (first | (with_reducible first | exact HB.out | apply qc0 | apply qa0 | apply qb0) | exact HB.out)) hb); clear HO128; clear HB; have HO128 := n0_; have HB := n1_; clear n0_ n1_; (try clear hb); (try clear hb2); (try clear hk); (try clear hi)) | (go_at_call 90; (with_reducible refine (spec_l1In.calls a2 1 1000000 true _ A10.out).mono ?_); rintro e w' ⟨rfl, ⟨nd, rfl⟩⟩) | (go_at_call 89; (with_reducible refine (spec_l2Day.calls a3 t131 _ A12.out).mono ?_); rintro e w' ⟨rfl, ⟨nd, rfl⟩⟩))
    go_meet
    case rel => exact ⟨_, (!t131), (by first | rfl | (simp; done) | (simp [*]; done)), H', ⟨by first | omega | exact Nat.le_refl _⟩, ⟨by (with_reducible repeat (first | apply Kd.ql0 | apply Kd.qk0 | apply Kd.qo0)); exact HO128.out⟩, ⟨by repeat (first | (with_reducible first | exact HB.out | apply qc0 | apply qa0 | apply qb0) | exact HB.out)⟩⟩
   replace c11 := Bool.eq_false_iff.mpr c11
   subst c11
   have H1 : (spec_Picks.j0 k l0 a1 a2 a3 y126 true) = some r := by rw [if_neg (show ¬ (false = true) by decide)] at H; exact H
   clear H
   have H := H1
   clear H1
   have H' := Aside0.mk H
   clear H
   go_wp2_with (first | ((with_reducible refine qp0 (f := 124) rfl ?_); refine qy0 (some 17) rfl rfl Try.func124 (by kernel_rfl) rfl #[.slice A0 l0.length c0] rfl (by (try simp only [List.map_toArray, List.map_cons, List.map_nil]); first | done | rfl | (simp only [List.length_drop, List.length_take]; rfl)) ?_; (with_reducible refine (spec_StockOk.calls k _ _ l0 true _ ?side1 ?side2 A8.out).mono ?_); (case side1 => repeat (first | exact (Kd.qh1 HR0.out HB.out) | (with_reducible refine Kd.qw0 ?_ _) | (with_reducible refine Kd.qv0 ?_ _) | (with_reducible refine Kd.qz0 ?_))); (case side2 => exact HC0.out); rintro e w14 ⟨rfl, hb⟩; refine ⟨_, rfl, ?_⟩; have n0_ := Aside0.mk (Kd.qr0 (by (with_reducible repeat (first | apply Kd.ql0 | apply Kd.qk0 | apply Kd.qo0)); exact HO128.out) hb); have n1_ := Aside0.mk (qm0 (by repeat (first | (with_reducible first | exact HB.out | apply qc0 | apply qa0 | apply qb0) | exact HB.out)) hb); clear HO128; clear HB; have HO128 := n0_; have HB := n1_; clear n0_ n1_; (try clear hb); (try clear hb2); (try clear hk); (try clear hi)) | (go_at_call 90; (with_reducible refine (spec_l1In.calls a2 1 1000000 false _ A10.out).mono ?_); rintro e w' ⟨rfl, ⟨nd, rfl⟩⟩))
   go_meet
   case rel => exact ⟨_, (true), (by first | rfl | (simp; done) | (simp [*]; done)), H', ⟨by first | omega | exact Nat.le_refl _⟩, ⟨by (with_reducible repeat (first | apply Kd.ql0 | apply Kd.qk0 | apply Kd.qo0)); exact HO128.out⟩, ⟨by repeat (first | (with_reducible first | exact HB.out | apply qc0 | apply qa0 | apply qb0) | exact HB.out)⟩⟩
  replace c9 := Bool.eq_false_iff.mpr c9
  subst c9
  have H1 : (spec_Picks.j0 k l0 a1 a2 a3 y126 true) = some r := by rw [if_neg (show ¬ (false = true) by decide)] at H; exact H
  clear H
  have H := H1
  clear H1
  have H' := Aside0.mk H
  clear H
  go_wp2_with (first | ((with_reducible refine qp0 (f := 124) rfl ?_); refine qy0 (some 17) rfl rfl Try.func124 (by kernel_rfl) rfl #[.slice A0 l0.length c0] rfl (by (try simp only [List.map_toArray, List.map_cons, List.map_nil]); first | done | rfl | (simp only [List.length_drop, List.length_take]; rfl)) ?_; (with_reducible refine (spec_StockOk.calls k _ _ l0 false _ ?side1 ?side2 A8.out).mono ?_); (case side1 => repeat (first | exact (Kd.qh1 HR0.out HB.out) | (with_reducible refine Kd.qw0 ?_ _) | (with_reducible refine Kd.qv0 ?_ _) | (with_reducible refine Kd.qz0 ?_))); (case side2 => exact HC0.out); rintro e w15 ⟨rfl, hb⟩; refine ⟨_, rfl, ?_⟩; have n0_ := Aside0.mk (Kd.qr0 (by (with_reducible repeat (first | apply Kd.ql0 | apply Kd.qk0 | apply Kd.qo0)); exact HO128.out) hb); have n1_ := Aside0.mk (qm0 (by repeat (first | (with_reducible first | exact HB.out | apply qc0 | apply qa0 | apply qb0) | exact HB.out)) hb); clear HO128; clear HB; have HO128 := n0_; have HB := n1_; clear n0_ n1_; (try clear hb); (try clear hb2); (try clear hk); (try clear hi)))
  go_meet
  case rel => exact ⟨_, (true), (by first | rfl | (simp; done) | (simp [*]; done)), H', ⟨by first | omega | exact Nat.le_refl _⟩, ⟨by (with_reducible repeat (first | apply Kd.ql0 | apply Kd.qk0 | apply Kd.qo0)); exact HO128.out⟩, ⟨by repeat (first | (with_reducible first | exact HB.out | apply qc0 | apply qa0 | apply qb0) | exact HB.out)⟩⟩
 case rest =>
  clear HC5
  try clear c1
  try clear p2
  try clear c4
  try clear c9
  try clear c11
  try clear c12
  obtain ⟨kq, x28_4, rfl, HA, HJ4, HO_9, HB⟩ := hcut
  cases kq with
  | zero => exact absurd HA.out (by simp [spec_Picks.j0])
  | succ kj4 =>
   have H := HA.out
   clear HA
   simp only [spec_Picks.j0] at H
   by_cases c16 : x28_4 = true
   ·subst c16
    have H1 : (some y126) = some r := by rw [if_pos rfl] at H; exact H
    clear H
    have H := H1
    clear H1
    obtain rfl := Option.some.inj H
    go_wp2
    go_ret
    exact ⟨_, by first | rfl | (simp [errW_none, errW_some] <;> rfl) | (simp [*, errW_none, errW_some] <;> rfl), by (with_reducible repeat (first | apply Kd.ql0 | apply Kd.qk0 | apply Kd.qo0)); exact HO_9.out, by repeat (first | (with_reducible first | exact HB.out | apply qc0 | apply qa0 | apply qb0) | exact HB.out)⟩
   replace c16 := Bool.eq_false_iff.mpr c16
   subst c16
   have H1 : (spec_Picks.l0 kj4 l0 a1 a2 a3 y126 (([] : List Int))) = some r := by rw [if_neg (show ¬ (false = true) by decide)] at H; exact H
   clear H
   have H := H1
   clear H1
   obtain ⟨y132, hy132⟩ : ∃ y_ : List Int, y_ = (([] : List Int)) := ⟨_, rfl⟩
   replace H : (spec_Picks.l0 kj4 l0 a1 a2 a3 y126 y132) = some r := by first | (rw [hy132]; with_reducible exact H) | (have H2_ := (Option.bind_some _ _).symm.trans H; rw [hy132]; with_reducible exact H2_) | (have H2_ := (Option.bind_some _ _).symm.trans H; with_reducible exact H2_) | with_reducible exact H | (rw [hy132]; exact H) | exact H
   have Ny132 := Aside0.mk hy132
   clear hy132
   have H' := Aside0.mk H
   clear H
   go_wp2_with (first | ((with_reducible refine qs0 (N := 30) rfl ?_); refine Kd.R_lit (Kd.int .i64) _ 3 ?hg (N := 30) ?hd (xs := ([] : List Int)) (inner := []) (ok := fun _ => True) (okp := fun _ => True) ?hr ?hp (fun _ hk => hk) trivial (Below.refl _ _) (Nat.le_refl _) (by simp) ?_; (case hd => rfl); (case hg => rfl); (case hr => first | (go_simp; done) | (go_simp; rfl)); (case hp => exact (Reps.none _ _)); intro v133 w17 ho18 hb hg_ hnew_; clear hg_ hnew_; (first | rw [← Ny132.out] at ho18 | (simp only [Int.reduceToNat] at ho18; rw [← Ny132.out] at ho18)); have n0_ := Aside0.mk (Kd.qr0 (by (with_reducible repeat (first | apply Kd.ql0 | apply Kd.qk0 | apply Kd.qo0)); exact HO_9.out) hb); have n1_ := Aside0.mk (Kd.qf1 ho18 (qi0 (by repeat (first | (with_reducible first | exact HB.out | apply qc0 | apply qa0 | apply qb0) | exact HB.out)))); have n2_ := Aside0.mk (qm0 (by repeat (first | (with_reducible first | exact HB.out | apply qc0 | apply qa0 | apply qb0) | exact HB.out)) hb); clear HO_9; clear HB; have HO_9 := n0_; have HO134 := n1_; have HB := n2_; clear n0_ n1_ n2_; clear hb ho18))
   go_loopg [2, 9, 10] kj4 (fun kq v2 v9 v10 w' => ∃ (x2_2 : Int) (x9_2 : List (S162)) (x10_2 : List Int), v2 = .int .i64 x2_2 ∧ Aside0 (spec_Picks.l0 kq l0 a1 x2_2 a3 x9_2 x10_2 = some r) ∧ Aside0 (kq ≤ kj4) ∧ Aside0 (Kd.R k162 162 w' w.heap.size (fun _ => True) v9 x9_2) ∧ Aside0 (Kd.R (Kd.int .i64) 3 w' w.heap.size (fun _ => True) v10 x10_2) ∧ Aside0 (Below w.heap.size w w'))
   case atStart => exact ⟨(a2), (y126), (y132), (by first | rfl | (simp; done) | (simp [*]; done)), H', ⟨Nat.le_refl _⟩, ⟨by (with_reducible repeat (first | apply Kd.ql0 | apply Kd.qk0 | apply Kd.qo0)); exact HO_9.out⟩, ⟨by (with_reducible repeat (first | apply Kd.ql0 | apply Kd.qk0 | apply Kd.qo0)); exact HO134.out⟩, ⟨by repeat (first | (with_reducible first | exact HB.out | apply qc0 | apply qa0 | apply qb0) | exact HB.out)⟩⟩
   case round =>
    clear H'
    try clear c1
    try clear p2
    try clear c4
    try clear c9
    try clear c11
    try clear c12
    try clear c16
    try clear p2
    obtain ⟨x2_2, x9_2, x10_2, rfl, HA, HK2, HO_9, HO_10, HB⟩ := hrel
    cases gk with
    | zero => exact absurd HA.out (by simp [spec_Picks.l0])
    | succ k2 =>
     have H := HA.out
     clear HA
     simp only [spec_Picks.l0] at H
     by_cases c19 : x2_2 > 0
     ·rw [if_pos c19] at H
      have c19b0 : decide (0 < x2_2) = true := decide_eq_true c19
      clear c19
      have H' := Aside0.mk H
      clear H
      go_wp2
      go_loopg [11, 12] k2 (fun kq v11 v12 w' => ∃ (x11_3 : Int) (x12_3 : Int), v11 = .int .i64 x11_3 ∧ v12 = .int .i64 x12_3 ∧ Aside0 (spec_Picks.l1 kq l0 a1 x2_2 a3 x9_2 x10_2 x11_3 x12_3 = some r) ∧ Aside0 (kq ≤ k2) ∧ Aside0 (Kd.R k162 162 w' w.heap.size (fun _ => True) u9 x9_2) ∧ Aside0 (Kd.R (Kd.int .i64) 3 w' w.heap.size (fun _ => True) u10 x10_2) ∧ Aside0 (Below w.heap.size w w'))
      case atStart => exact ⟨((-1)), (0), (by first | rfl | (simp; done) | (simp [*]; done)), (by first | rfl | (simp; done) | (simp [*]; done)), H', ⟨Nat.le_refl _⟩, ⟨by (with_reducible repeat (first | apply Kd.ql0 | apply Kd.qk0 | apply Kd.qo0)); exact HO_9.out⟩, ⟨by (with_reducible repeat (first | apply Kd.ql0 | apply Kd.qk0 | apply Kd.qo0)); exact HO_10.out⟩, ⟨by repeat (first | (with_reducible first | exact HB.out | apply qc0 | apply qa0 | apply qb0) | exact HB.out)⟩⟩
      case round =>
       clear H'
       try clear c1
       try clear p2
       try clear c4
       try clear c9
       try clear c11
       try clear c12
       try clear c16
       try clear c19
       try clear c19b0
       try clear p2
       obtain ⟨x11_3, x12_3, rfl, rfl, HA, HK3, HO_9, HO_10, HB⟩ := hrel
       cases gk with
       | zero => exact absurd HA.out (by simp [spec_Picks.l1])
       | succ k3 =>
        have H := HA.out
        clear HA
        simp only [spec_Picks.l1] at H
        by_cases c20 : x12_3 < (l0.length : Int)
        ·rw [if_pos c20] at H
         have c20b0 : decide (x12_3 < (l0.length : Int)) = true := decide_eq_true c20
         clear c20
         by_cases c21 : 0 ≤ x12_3
         case neg => rw [if_neg c21] at H; exact absurd H (by simp)
         rw [if_pos c21] at H
         have c21b0 : decide (0 ≤ x12_3) = true := decide_eq_true c21
         clear c21
         by_cases c22 : ((rd_T160 l0 x12_3).f0).toList = a1.toList
         ·rw [if_pos c22] at H
          have c22b0 : (((rd_T160 l0 x12_3).f0).toList == a1.toList) = true := beq_iff_eq.mpr c22
          have c22b1 : (((rd_T160 l0 x12_3).f0).toList != a1.toList) = false := bne_eq_false_iff_eq.mpr c22
          clear c22
          by_cases c23 : ((rd_T160 l0 x12_3).f3) ≥ a3
          ·rw [if_pos c23] at H
           have c23b0 : decide (a3 ≤ ((rd_T160 l0 x12_3).f3)) = true := decide_eq_true c23
           clear c23
           by_cases c24 : ((rd_T160 l0 x12_3).f4) > ((rd_T160 l0 x12_3).f5)
           ·rw [if_pos c24] at H
            have c24b0 : decide (((rd_T160 l0 x12_3).f5) < ((rd_T160 l0 x12_3).f4)) = true := decide_eq_true c24
            clear c24
            replace H := Option.bind_eq_some_iff.mp H
            obtain ⟨t137, A250, H⟩ := H
            replace H : (if t137 = true then (spec_Picks.l1 k3 l0 a1 x2_2 a3 x9_2 x10_2 x11_3 (wrap64 (x12_3 + 1))) else (if x11_3 < 0 then (spec_Picks.l1 k3 l0 a1 x2_2 a3 x9_2 x10_2 x12_3 (wrap64 (x12_3 + 1))) else (if 0 ≤ x11_3 then (if x11_3 < (l0.length : Int) then (if ((rd_T160 l0 x12_3).f3) < ((rd_T160 l0 x11_3).f3) then (spec_Picks.l1 k3 l0 a1 x2_2 a3 x9_2 x10_2 x12_3 (wrap64 (x12_3 + 1))) else (spec_Picks.l1 k3 l0 a1 x2_2 a3 x9_2 x10_2 x11_3 (wrap64 (x12_3 + 1)))) else (none)) else (none)))) = some r := H
            have A25 := Aside0.mk A250
            clear A250
            by_cases c26 : t137 = true
            ·subst c26
             have H1 : (spec_Picks.l1 k3 l0 a1 x2_2 a3 x9_2 x10_2 x11_3 (wrap64 (x12_3 + 1))) = some r := by rw [if_pos rfl] at H; exact H
             clear H
             have H := H1
             clear H1
             have H' := Aside0.mk H
             clear H
             have p135 : 0 ≤ (x12_3 : Int) := of_decide_eq_true (by first | (with_reducible assumption) | assumption)
             have q135 : x12_3 < (l0.length : Int) := of_decide_eq_true (by first | (with_reducible assumption) | assumption)
             obtain ⟨ad135, e135, hx135_0, hx135_1, hx135_2, hx135_3, hx135_4, hx135_5⟩ := at_T160 HR0.out x12_3 p135 q135
             cases e135
             replace hx135_0 := (HB.out.cell (World.block_lt_of_cell? w _ hx135_0)).trans hx135_0
             replace hx135_1 := (HB.out.cell (World.block_lt_of_cell? w _ hx135_1)).trans hx135_1
             replace hx135_2 := (HB.out.cell (World.block_lt_of_cell? w _ hx135_2)).trans hx135_2
             replace hx135_3 := (HB.out.cell (World.block_lt_of_cell? w _ hx135_3)).trans hx135_3
             replace hx135_4 := (HB.out.cell (World.block_lt_of_cell? w _ hx135_4)).trans hx135_4
             replace hx135_5 := (HB.out.cell (World.block_lt_of_cell? w _ hx135_5)).trans hx135_5
             replace p135 := eq_true p135
             replace q135 := eq_true q135
             try go_wp2_with (first | ((with_reducible refine qs0 (N := 13) rfl ?_); refine qt0 ?hg (N := 13) ?hd (cs := #[.string (⟨#[]⟩ : ByteArray), .string (⟨#[]⟩ : ByteArray), .string (⟨#[]⟩ : ByteArray), .int .i64 0, .int .i64 0, .int .i64 0]) (t := 160) ?hr ?_; (case hd => rfl); (case hg => rfl); (case hr => first | (go_simp; done) | (go_simp; rfl)); intro gb136 hg w27 hbox hb; have n0_ := Aside0.mk (Kd.qr0 (by (with_reducible repeat (first | apply Kd.ql0 | apply Kd.qk0 | apply Kd.qo0)); exact HO_9.out) hb); have n1_ := Aside0.mk (Kd.qr0 (by (with_reducible repeat (first | apply Kd.ql0 | apply Kd.qk0 | apply Kd.qo0)); exact HO_10.out) hb); have n2_ := Aside0.mk (qm0 (by repeat (first | (with_reducible first | exact HB.out | apply qc0 | apply qa0 | apply qb0) | exact HB.out)) hb); have n3_ := Aside0.mk (hbox); have n4_ := Aside0.mk ((by rw [hg]; exact (qi0 (by repeat (first | (with_reducible first | exact HB.out | apply qc0 | apply qa0 | apply qb0) | exact HB.out))) : w.heap.size ≤ gb136)); have n5_ := Aside0.mk ((by rw [hg]; exact (qi0 (by repeat (first | (with_reducible first | exact HB.out | apply qc0 | apply qa0 | apply qb0) | exact HB.out))) : w.heap.size ≤ gb136)); clear HO_9; clear HO_10; clear HB; have HO_9 := n0_; have HO_10 := n1_; have HB := n2_; have BK136 := n3_; have GW136 := n4_; have GE136 := n5_; clear n0_ n1_ n2_ n3_ n4_ n5_; clear hb hbox hg; have hcz28_0 : w27.cell? ⟨gb136, 0, none⟩ = some (.string (⟨#[]⟩ : ByteArray)) := (qe0 BK136.out 0).trans rfl; have hcz28_1 : w27.cell? ⟨gb136, 1, none⟩ = some (.string (⟨#[]⟩ : ByteArray)) := (qe0 BK136.out 1).trans rfl; have hcz28_2 : w27.cell? ⟨gb136, 2, none⟩ = some (.string (⟨#[]⟩ : ByteArray)) := (qe0 BK136.out 2).trans rfl; have hcz28_3 : w27.cell? ⟨gb136, 3, none⟩ = some (.int .i64 0) := (qe0 BK136.out 3).trans rfl; have hcz28_4 : w27.cell? ⟨gb136, 4, none⟩ = some (.int .i64 0) := (qe0 BK136.out 4).trans rfl; have hcz28_5 : w27.cell? ⟨gb136, 5, none⟩ = some (.int .i64 0) := (qe0 BK136.out 5).trans rfl; have hfz28_0 := qd0 BK136.out 0; have hfz28_1 := qd0 BK136.out 1; have hfz28_2 := qd0 BK136.out 2; have hfz28_3 := qd0 BK136.out 3; have hfz28_4 := qd0 BK136.out 4; have hfz28_5 := qd0 BK136.out 5))
             have n0_ : Aside0 (Kd.R k162 162 ((((((w27.setCell ⟨gb136, 0, none⟩ (.string ((rd_T160 l0 x12_3).f0))).setCell ⟨gb136, 1, none⟩ (.string ((rd_T160 l0 x12_3).f1))).setCell ⟨gb136, 2, none⟩ (.string ((rd_T160 l0 x12_3).f2))).setCell ⟨gb136, 3, none⟩ (.int .i64 ((rd_T160 l0 x12_3).f3))).setCell ⟨gb136, 4, none⟩ (.int .i64 ((rd_T160 l0 x12_3).f4))).setCell ⟨gb136, 5, none⟩ (.int .i64 ((rd_T160 l0 x12_3).f5))) w.heap.size (fun _ => True) u9 x9_2) := ⟨by (with_reducible repeat (first | apply Kd.ql0 | apply Kd.qk0 | apply Kd.qo0)); exact Kd.qb1 (Kd.R_far (p := ⟨gb136, 5, none⟩) (Kd.R_far (p := ⟨gb136, 4, none⟩) (Kd.R_far (p := ⟨gb136, 3, none⟩) (Kd.R_far (p := ⟨gb136, 2, none⟩) (Kd.R_far (p := ⟨gb136, 1, none⟩) (Kd.R_far (p := ⟨gb136, 0, none⟩) (Kd.qm1 HO_9.out BK136.out (by decide)) (fun _ hk => hk.2) (.string ((rd_T160 l0 x12_3).f0))) (fun _ hk => hk.2) (.string ((rd_T160 l0 x12_3).f1))) (fun _ hk => hk.2) (.string ((rd_T160 l0 x12_3).f2))) (fun _ hk => hk.2) (.int .i64 ((rd_T160 l0 x12_3).f3))) (fun _ hk => hk.2) (.int .i64 ((rd_T160 l0 x12_3).f4))) (fun _ hk => hk.2) (.int .i64 ((rd_T160 l0 x12_3).f5))) (fun _ hk => trivial)⟩
             have n1_ : Aside0 (Kd.R (Kd.int .i64) 3 ((((((w27.setCell ⟨gb136, 0, none⟩ (.string ((rd_T160 l0 x12_3).f0))).setCell ⟨gb136, 1, none⟩ (.string ((rd_T160 l0 x12_3).f1))).setCell ⟨gb136, 2, none⟩ (.string ((rd_T160 l0 x12_3).f2))).setCell ⟨gb136, 3, none⟩ (.int .i64 ((rd_T160 l0 x12_3).f3))).setCell ⟨gb136, 4, none⟩ (.int .i64 ((rd_T160 l0 x12_3).f4))).setCell ⟨gb136, 5, none⟩ (.int .i64 ((rd_T160 l0 x12_3).f5))) w.heap.size (fun _ => True) u10 x10_2) := ⟨by (with_reducible repeat (first | apply Kd.ql0 | apply Kd.qk0 | apply Kd.qo0)); exact Kd.qb1 (Kd.R_far (p := ⟨gb136, 5, none⟩) (Kd.R_far (p := ⟨gb136, 4, none⟩) (Kd.R_far (p := ⟨gb136, 3, none⟩) (Kd.R_far (p := ⟨gb136, 2, none⟩) (Kd.R_far (p := ⟨gb136, 1, none⟩) (Kd.R_far (p := ⟨gb136, 0, none⟩) (Kd.qm1 HO_10.out BK136.out (by decide)) (fun _ hk => hk.2) (.string ((rd_T160 l0 x12_3).f0))) (fun _ hk => hk.2) (.string ((rd_T160 l0 x12_3).f1))) (fun _ hk => hk.2) (.string ((rd_T160 l0 x12_3).f2))) (fun _ hk => hk.2) (.int .i64 ((rd_T160 l0 x12_3).f3))) (fun _ hk => hk.2) (.int .i64 ((rd_T160 l0 x12_3).f4))) (fun _ hk => hk.2) (.int .i64 ((rd_T160 l0 x12_3).f5))) (fun _ hk => trivial)⟩
             have n2_ : Aside0 (((((((w27.setCell ⟨gb136, 0, none⟩ (.string ((rd_T160 l0 x12_3).f0))).setCell ⟨gb136, 1, none⟩ (.string ((rd_T160 l0 x12_3).f1))).setCell ⟨gb136, 2, none⟩ (.string ((rd_T160 l0 x12_3).f2))).setCell ⟨gb136, 3, none⟩ (.int .i64 ((rd_T160 l0 x12_3).f3))).setCell ⟨gb136, 4, none⟩ (.int .i64 ((rd_T160 l0 x12_3).f4))).setCell ⟨gb136, 5, none⟩ (.int .i64 ((rd_T160 l0 x12_3).f5))).heap[gb136]? = some (.cells #[.string ((rd_T160 l0 x12_3).f0), .string ((rd_T160 l0 x12_3).f1), .string ((rd_T160 l0 x12_3).f2), .int .i64 ((rd_T160 l0 x12_3).f3), .int .i64 ((rd_T160 l0 x12_3).f4), .int .i64 ((rd_T160 l0 x12_3).f5)] 160 (0, 0))) := ⟨by (with_reducible repeat (first | refine qf0 ?_ _ | refine qj0 ?_ | refine qg0 ?_ _)); refine qu0 (cs := #[.string ((rd_T160 l0 x12_3).f0), .string ((rd_T160 l0 x12_3).f1), .string ((rd_T160 l0 x12_3).f2), .int .i64 ((rd_T160 l0 x12_3).f3), .int .i64 ((rd_T160 l0 x12_3).f4), .int .i64 0]) ?_ 5 _ rfl; (with_reducible repeat (first | refine qf0 ?_ _ | refine qj0 ?_ | refine qg0 ?_ _)); refine qu0 (cs := #[.string ((rd_T160 l0 x12_3).f0), .string ((rd_T160 l0 x12_3).f1), .string ((rd_T160 l0 x12_3).f2), .int .i64 ((rd_T160 l0 x12_3).f3), .int .i64 0, .int .i64 0]) ?_ 4 _ rfl; (with_reducible repeat (first | refine qf0 ?_ _ | refine qj0 ?_ | refine qg0 ?_ _)); refine qu0 (cs := #[.string ((rd_T160 l0 x12_3).f0), .string ((rd_T160 l0 x12_3).f1), .string ((rd_T160 l0 x12_3).f2), .int .i64 0, .int .i64 0, .int .i64 0]) ?_ 3 _ rfl; (with_reducible repeat (first | refine qf0 ?_ _ | refine qj0 ?_ | refine qg0 ?_ _)); refine qu0 (cs := #[.string ((rd_T160 l0 x12_3).f0), .string ((rd_T160 l0 x12_3).f1), .string (⟨#[]⟩ : ByteArray), .int .i64 0, .int .i64 0, .int .i64 0]) ?_ 2 _ rfl; (with_reducible repeat (first | refine qf0 ?_ _ | refine qj0 ?_ | refine qg0 ?_ _)); refine qu0 (cs := #[.string ((rd_T160 l0 x12_3).f0), .string (⟨#[]⟩ : ByteArray), .string (⟨#[]⟩ : ByteArray), .int .i64 0, .int .i64 0, .int .i64 0]) ?_ 1 _ rfl; (with_reducible repeat (first | refine qf0 ?_ _ | refine qj0 ?_ | refine qg0 ?_ _)); refine qu0 (cs := #[.string (⟨#[]⟩ : ByteArray), .string (⟨#[]⟩ : ByteArray), .string (⟨#[]⟩ : ByteArray), .int .i64 0, .int .i64 0, .int .i64 0]) ?_ 0 _ rfl; (with_reducible repeat (first | refine qf0 ?_ _ | refine qj0 ?_ | refine qg0 ?_ _)); exact BK136.out⟩
             have n3_ : Aside0 (Below w.heap.size w ((((((w27.setCell ⟨gb136, 0, none⟩ (.string ((rd_T160 l0 x12_3).f0))).setCell ⟨gb136, 1, none⟩ (.string ((rd_T160 l0 x12_3).f1))).setCell ⟨gb136, 2, none⟩ (.string ((rd_T160 l0 x12_3).f2))).setCell ⟨gb136, 3, none⟩ (.int .i64 ((rd_T160 l0 x12_3).f3))).setCell ⟨gb136, 4, none⟩ (.int .i64 ((rd_T160 l0 x12_3).f4))).setCell ⟨gb136, 5, none⟩ (.int .i64 ((rd_T160 l0 x12_3).f5)))) := ⟨by repeat (first | (with_reducible first | exact HB.out | apply qc0 | apply qa0 | apply qb0 | refine qh0 ?_ GE136.out) | exact HB.out)⟩
             (try clear HO_9)
             (try clear HO_10)
             (try clear BK136)
             (try clear HB)
             generalize ((((((w27.setCell ⟨gb136, 0, none⟩ (.string ((rd_T160 l0 x12_3).f0))).setCell ⟨gb136, 1, none⟩ (.string ((rd_T160 l0 x12_3).f1))).setCell ⟨gb136, 2, none⟩ (.string ((rd_T160 l0 x12_3).f2))).setCell ⟨gb136, 3, none⟩ (.int .i64 ((rd_T160 l0 x12_3).f3))).setCell ⟨gb136, 4, none⟩ (.int .i64 ((rd_T160 l0 x12_3).f4))).setCell ⟨gb136, 5, none⟩ (.int .i64 ((rd_T160 l0 x12_3).f5))) = w29 at n0_ n1_ n2_ n3_ ⊢
             have HO_9 := n0_
             have HO_10 := n1_
             have BK136 := n2_
             have HB := n3_
             clear n0_ n1_ n2_ n3_
             have n0_ := Aside0.mk (Kd.qo0 HO_9.out)
             have n1_ := Aside0.mk (Kd.qo0 HO_10.out)
             have n2_ := Aside0.mk (qj0 BK136.out)
             have n3_ := Aside0.mk (qb0 HB.out)
             clear HO_9
             clear HO_10
             clear BK136
             clear HB
             have HO_9 := n0_
             have HO_10 := n1_
             have BK136 := n2_
             have HB := n3_
             clear n0_ n1_ n2_ n3_
             obtain ⟨Ao31, co31, eo31⟩ := Kd.qg1 HO_10.out
             (first | subst eo31 | (injection eo31 with f1_ f2_ f3_; have f4_ := f1_.symm; have f5_ := f3_.symm; clear f1_ f2_ f3_; subst f4_; subst f5_))
             refine start_ (n := 37) (S := fun w' => w'.cell? ⟨gb136, 0, none⟩ = some (.string ((rd_T160 l0 x12_3).f0)) ∧ w'.cell? ⟨gb136, 1, none⟩ = some (.string ((rd_T160 l0 x12_3).f1)) ∧ w'.cell? ⟨gb136, 2, none⟩ = some (.string ((rd_T160 l0 x12_3).f2)) ∧ w'.cell? ⟨gb136, 3, none⟩ = some (.int .i64 ((rd_T160 l0 x12_3).f3)) ∧ w'.cell? ⟨gb136, 4, none⟩ = some (.int .i64 ((rd_T160 l0 x12_3).f4)) ∧ w'.cell? ⟨gb136, 5, none⟩ = some (.int .i64 ((rd_T160 l0 x12_3).f5))) (ds := []) (rb4 [0, 37]) (by kernel_rfl) rfl rfl ⟨(qe0 BK136.out 0).trans rfl, (qe0 BK136.out 1).trans rfl, (qe0 BK136.out 2).trans rfl, (qe0 BK136.out 3).trans rfl, (qe0 BK136.out 4).trans rfl, (qe0 BK136.out 5).trans rfl⟩ (fun hHeld => ?_); refine with_tabW spec_Picks.tab11 spec_Picks.bits11 (fun HT_ HW_ => ?_)
             generalize w29.drew = w30 at HO_9 HO_10 BK136 HB hHeld ⊢
             refine pure_ (i := 0) (N := some 43) (v := ?_) (a' := ?_) (rb4 [1, 36]) rfl rfl (qn0 HT_.out (by kernel_rfl)) (fun _ _ _ h => h) (Or.inl ⟨by rfl, ?_⟩) ?_ ?_
             rotate_left
             ·intro w'
              go_simp
              with_reducible rfl
             rotate_left
             ·simp only [Act.put, List.setIfInBounds_toArray, List.set_cons_zero, List.set_cons_succ, i64_w, i32_w]
              rfl
             refine pure_ (i := 2) (N := some 45) (v := ?_) (a' := ?_) (rb4 [1, 1, 1, 34]) rfl rfl (qn0 HT_.out (by kernel_rfl)) (fun _ _ _ h => h) (Or.inl ⟨by rfl, ?_⟩) ?_ ?_
             rotate_left
             ·intro w'
              go_simp
              with_reducible rfl
             rotate_left
             ·simp only [Act.put, List.setIfInBounds_toArray, List.set_cons_zero, List.set_cons_succ, i64_w, i32_w]
              rfl
             refine take_ (i := 1) (N := some 44) (v := ?_) (a' := ?_) (rb4 [3, 34]) rfl rfl (qa1 HT_.out HW_.out (by kernel_rfl)) (fun _ _ _ h => h) (Or.inl ⟨by rfl, ?_⟩) hHeld ?_ ?_
             rotate_left
             ·rintro w' ⟨s0, s1, s2, s3, s4, s5⟩
              go_simp
              with_reducible rfl
             rotate_left
             ·simp only [Act.put, List.setIfInBounds_toArray, List.set_cons_zero, List.set_cons_succ, i64_w, i32_w]
              rfl
             refine pure_ (i := 3) (N := some 46) (v := ?_) (a' := ?_) (rb4 [4, 33]) rfl rfl (qn0 HT_.out (by kernel_rfl)) (fun _ _ _ h => h) (Or.inl ⟨by rfl, ?_⟩) ?_ ?_
             rotate_left
             ·intro w'
              go_simp
              with_reducible rfl
             rotate_left
             ·simp only [Act.put, List.setIfInBounds_toArray, List.set_cons_zero, List.set_cons_succ, i64_w, i32_w]
              rfl
             refine pure_ (i := 4) (N := some 47) (v := ?_) (a' := ?_) (rb4 [5, 32]) rfl rfl (qn0 HT_.out (by kernel_rfl)) (fun _ _ _ h => h) (Or.inl ⟨by rfl, ?_⟩) ?_ ?_
             rotate_left
             ·intro w'
              go_simp
              with_reducible rfl
             rotate_left
             ·simp only [Act.put, List.setIfInBounds_toArray, List.set_cons_zero, List.set_cons_succ, i64_w, i32_w]
              rfl
             refine pure_ (i := 5) (N := some 48) (v := ?_) (a' := ?_) (rb4 [6, 31]) rfl rfl (qn0 HT_.out (by kernel_rfl)) (fun _ _ _ h => h) (Or.inl ⟨by rfl, ?_⟩) ?_ ?_
             rotate_left
             ·intro w'
              go_simp
              with_reducible rfl
             rotate_left
             ·simp only [Act.put, List.setIfInBounds_toArray, List.set_cons_zero, List.set_cons_succ, i64_w, i32_w]
              rfl
             refine pure_ (i := 7) (N := some 50) (v := ?_) (a' := ?_) (rb4 [6, 1, 1, 29]) rfl rfl (qn0 HT_.out (by kernel_rfl)) (fun _ _ _ h => h) (Or.inl ⟨by rfl, ?_⟩) ?_ ?_
             rotate_left
             ·intro w'
              go_simp
              with_reducible rfl
             rotate_left
             ·simp only [Act.put, List.setIfInBounds_toArray, List.set_cons_zero, List.set_cons_succ, i64_w, i32_w]
              rfl
             refine take_ (i := 6) (N := some 49) (v := ?_) (a' := ?_) (rb4 [8, 29]) rfl rfl (qa1 HT_.out HW_.out (by kernel_rfl)) (fun _ _ _ h => h) (Or.inl ⟨by rfl, ?_⟩) hHeld ?_ ?_
             rotate_left
             ·rintro w' ⟨s0, s1, s2, s3, s4, s5⟩
              go_simp
              with_reducible rfl
             rotate_left
             ·simp only [Act.put, List.setIfInBounds_toArray, List.set_cons_zero, List.set_cons_succ, i64_w, i32_w]
              rfl
             refine pure_ (i := 8) (N := some 51) (v := ?_) (a' := ?_) (rb4 [9, 28]) rfl rfl (qn0 HT_.out (by kernel_rfl)) (fun _ _ _ h => h) (Or.inl ⟨by rfl, ?_⟩) ?_ ?_
             rotate_left
             ·intro w'
              go_simp
              with_reducible rfl
             rotate_left
             ·simp only [Act.put, List.setIfInBounds_toArray, List.set_cons_zero, List.set_cons_succ, i64_w, i32_w]
              rfl
             refine pure_ (i := 9) (N := some 52) (v := ?_) (a' := ?_) (rb4 [10, 27]) rfl rfl (qn0 HT_.out (by kernel_rfl)) (fun _ _ _ h => h) (Or.inl ⟨by rfl, ?_⟩) ?_ ?_
             rotate_left
             ·intro w'
              go_simp
              with_reducible rfl
             rotate_left
             ·simp only [Act.put, List.setIfInBounds_toArray, List.set_cons_zero, List.set_cons_succ, i64_w, i32_w]
              rfl
             refine pure_ (i := 10) (N := some 53) (v := ?_) (a' := ?_) (rb4 [11, 26]) rfl rfl (qn0 HT_.out (by kernel_rfl)) (fun _ _ _ h => h) (Or.inl ⟨by rfl, ?_⟩) ?_ ?_
             rotate_left
             ·intro w'
              go_simp
              with_reducible rfl
             rotate_left
             ·simp only [Act.put, List.setIfInBounds_toArray, List.set_cons_zero, List.set_cons_succ, i64_w, i32_w]
              rfl
             refine pure_ (i := 11) (N := some 54) (v := ?_) (a' := ?_) (rb4 [12, 25]) rfl rfl (qn0 HT_.out (by kernel_rfl)) (fun _ _ _ h => h) (Or.inl ⟨by rfl, ?_⟩) ?_ ?_
             rotate_left
             ·intro w'
              go_simp
              with_reducible rfl
             rotate_left
             ·simp only [Act.put, List.setIfInBounds_toArray, List.set_cons_zero, List.set_cons_succ, i64_w, i32_w]
              rfl
             refine pure_ (i := 13) (N := some 56) (v := ?_) (a' := ?_) (rb4 [12, 1, 1, 23]) rfl rfl (qn0 HT_.out (by kernel_rfl)) (fun _ _ _ h => h) (Or.inl ⟨by rfl, ?_⟩) ?_ ?_
             rotate_left
             ·intro w'
              go_simp
              with_reducible rfl
             rotate_left
             ·simp only [Act.put, List.setIfInBounds_toArray, List.set_cons_zero, List.set_cons_succ, i64_w, i32_w]
              rfl
             refine take_ (i := 12) (N := some 55) (v := ?_) (a' := ?_) (rb4 [14, 23]) rfl rfl (qa1 HT_.out HW_.out (by kernel_rfl)) (fun _ _ _ h => h) (Or.inl ⟨by rfl, ?_⟩) hHeld ?_ ?_
             rotate_left
             ·rintro w' ⟨s0, s1, s2, s3, s4, s5⟩
              go_simp
              with_reducible rfl
             rotate_left
             ·simp only [Act.put, List.setIfInBounds_toArray, List.set_cons_zero, List.set_cons_succ, i64_w, i32_w]
              rfl
             refine take_ (i := 14) (N := some 57) (v := ?_) (a' := ?_) (rb4 [15, 22]) rfl rfl (qa1 HT_.out HW_.out (by kernel_rfl)) (fun _ _ _ h => h) (Or.inl ⟨by rfl, ?_⟩) hHeld ?_ ?_
             rotate_left
             ·rintro w' ⟨s0, s1, s2, s3, s4, s5⟩
              go_simp
              with_reducible rfl
             rotate_left
             ·simp only [Act.put, List.setIfInBounds_toArray, List.set_cons_zero, List.set_cons_succ, i64_w, i32_w]
              rfl
             refine pure_ (i := 15) (N := some 58) (v := ?_) (a' := ?_) (rb4 [16, 21]) rfl rfl (qn0 HT_.out (by kernel_rfl)) (fun _ _ _ h => h) (Or.inl ⟨by rfl, ?_⟩) ?_ ?_
             rotate_left
             ·intro w'
              go_simp
              with_reducible rfl
             rotate_left
             ·simp only [Act.put, List.setIfInBounds_toArray, List.set_cons_zero, List.set_cons_succ, i64_w, i32_w]
              rfl
             refine pure_ (i := 16) (N := some 59) (v := ?_) (a' := ?_) (rb4 [17, 20]) rfl rfl (qn0 HT_.out (by kernel_rfl)) (fun _ _ _ h => h) (Or.inl ⟨by rfl, ?_⟩) ?_ ?_
             rotate_left
             ·intro w'
              go_simp
              with_reducible rfl
             rotate_left
             ·simp only [Act.put, List.setIfInBounds_toArray, List.set_cons_zero, List.set_cons_succ, i64_w, i32_w]
              rfl
             refine pure_ (i := 17) (N := some 60) (v := ?_) (a' := ?_) (rb4 [18, 19]) rfl rfl (qn0 HT_.out (by kernel_rfl)) (fun _ _ _ h => h) (Or.inl ⟨by rfl, ?_⟩) ?_ ?_
             rotate_left
             ·intro w'
              go_simp
              with_reducible rfl
             rotate_left
             ·simp only [Act.put, List.setIfInBounds_toArray, List.set_cons_zero, List.set_cons_succ, i64_w, i32_w]
              rfl
             refine pure_ (i := 18) (N := some 61) (v := ?_) (a' := ?_) (rb4 [19, 18]) rfl rfl (qn0 HT_.out (by kernel_rfl)) (fun _ _ _ h => h) (Or.inl ⟨by rfl, ?_⟩) ?_ ?_
             rotate_left
             ·intro w'
              go_simp
              with_reducible rfl
             rotate_left
             ·simp only [Act.put, List.setIfInBounds_toArray, List.set_cons_zero, List.set_cons_succ, i64_w, i32_w]
              rfl
             refine pure_ (i := 19) (N := some 62) (v := ?_) (a' := ?_) (rb4 [20, 17]) rfl rfl (qn0 HT_.out (by kernel_rfl)) (fun _ _ _ h => h) (Or.inl ⟨by rfl, ?_⟩) ?_ ?_
             rotate_left
             ·intro w'
              go_simp
              with_reducible rfl
             rotate_left
             ·simp only [Act.put, List.setIfInBounds_toArray, List.set_cons_zero, List.set_cons_succ, i64_w, i32_w]
              rfl
             refine one_ (i := 20) (N := some 63) (rb4 [21, 16]) rfl rfl (one_of HT_.out (by kernel_rfl)) (by decide) (fun K hK => ?_)
             refine goes_ Try.func92 (by kernel_rfl) rfl #[.slice Ao31 x10_2.length co31, .int .i64 x12_3] (by rfl) rfl rfl (by (try simp only [List.map_toArray, List.map_cons, List.map_nil]); first | done | rfl | (simp only [List.length_drop, List.length_take]; rfl)) ?_
             with_reducible refine (spec_l7Has.calls k3 _ _ x10_2 x12_3 true _ ?side1 ?side2 A25.out).mono ?_
             (case side1 => repeat (first | exact (Kd.qq0 HO_10.out).2.2 | (with_reducible refine Kd.qw0 ?_ _) | (with_reducible refine Kd.qv0 ?_ _) | (with_reducible refine Kd.qz0 ?_)))
             (case side2 => exact (Kd.qq0 HO_10.out).2.1)
             rintro e w' ⟨rfl, ⟨nd, rfl⟩⟩
             refine ⟨_, rfl, ?_⟩
             refine hK.out _ _ ⟨(qe0 BK136.out 0).trans rfl, (qe0 BK136.out 1).trans rfl, (qe0 BK136.out 2).trans rfl, (qe0 BK136.out 3).trans rfl, (qe0 BK136.out 4).trans rfl, (qe0 BK136.out 5).trans rfl⟩ (fun hHeld => ?_)
             clear hK K
             refine norm_ (a' := ?_) ?_ ?_
             rotate_left
             ·show Act.put _ (some 63) _ = _
              simp only [Act.put, List.setIfInBounds_toArray, List.set_cons_zero, List.set_cons_succ, i64_w, i32_w]
              rfl
             refine pure_ (i := 21) (N := some 64) (v := ?_) (a' := ?_) (rb4 [22, 15]) rfl rfl (qn0 HT_.out (by kernel_rfl)) (fun _ _ _ h => h) (Or.inl ⟨by rfl, ?_⟩) ?_ ?_
             rotate_left
             ·intro w'
              go_simp
              with_reducible rfl
             rotate_left
             ·simp only [Act.put, List.setIfInBounds_toArray, List.set_cons_zero, List.set_cons_succ, i64_w, i32_w]
              rfl
             refine pure_ (i := 22) (N := some 65) (v := ?_) (a' := ?_) (rb4 [23, 14]) rfl rfl (qn0 HT_.out (by kernel_rfl)) (fun _ _ _ h => h) (Or.inl ⟨by rfl, ?_⟩) ?_ ?_
             rotate_left
             ·intro w'
              go_simp
              with_reducible rfl
             rotate_left
             ·simp only [Act.put, List.setIfInBounds_toArray, List.set_cons_zero, List.set_cons_succ, i64_w, i32_w]
              rfl
             refine pure_ (i := 23) (N := some 66) (v := ?_) (a' := ?_) (rb4 [24, 13]) rfl rfl (qn0 HT_.out (by kernel_rfl)) (fun _ _ _ h => h) (Or.inl ⟨by rfl, ?_⟩) ?_ ?_
             rotate_left
             ·intro w'
              go_simp
              with_reducible rfl
             rotate_left
             ·simp only [Act.put, List.setIfInBounds_toArray, List.set_cons_zero, List.set_cons_succ, i64_w, i32_w]
              rfl
             refine pure_ (i := 24) (N := some 67) (v := undef) (a' := ?_) (rb4 [25, 12]) rfl rfl (qn0 HT_.out (by kernel_rfl)) (fun _ _ _ h => h) (Or.inr ⟨by rfl, rfl⟩) ?_ ?_
             rotate_left
             ·simp only [Act.put, List.setIfInBounds_toArray, List.set_cons_zero, List.set_cons_succ, i64_w, i32_w]
              rfl
             refine pure_ (i := 25) (N := some 68) (v := undef) (a' := ?_) (rb4 [26, 11]) rfl rfl (qn0 HT_.out (by kernel_rfl)) (fun _ _ _ h => h) (Or.inr ⟨by rfl, rfl⟩) ?_ ?_
             rotate_left
             ·simp only [Act.put, List.setIfInBounds_toArray, List.set_cons_zero, List.set_cons_succ, i64_w, i32_w]
              rfl
             refine pure_ (i := 26) (N := some 69) (v := undef) (a' := ?_) (rb4 [27, 10]) rfl rfl (qn0 HT_.out (by kernel_rfl)) (fun _ _ _ h => h) (Or.inr ⟨by rfl, rfl⟩) ?_ ?_
             rotate_left
             ·simp only [Act.put, List.setIfInBounds_toArray, List.set_cons_zero, List.set_cons_succ, i64_w, i32_w]
              rfl
             refine pure_ (i := 27) (N := some 70) (v := undef) (a' := ?_) (rb4 [28, 9]) rfl rfl (qn0 HT_.out (by kernel_rfl)) (fun _ _ _ h => h) (Or.inr ⟨by rfl, rfl⟩) ?_ ?_
             rotate_left
             ·simp only [Act.put, List.setIfInBounds_toArray, List.set_cons_zero, List.set_cons_succ, i64_w, i32_w]
              rfl
             refine pure_ (i := 28) (N := some 71) (v := undef) (a' := ?_) (rb4 [29, 8]) rfl rfl (qn0 HT_.out (by kernel_rfl)) (fun _ _ _ h => h) (Or.inr ⟨by rfl, rfl⟩) ?_ ?_
             rotate_left
             ·simp only [Act.put, List.setIfInBounds_toArray, List.set_cons_zero, List.set_cons_succ, i64_w, i32_w]
              rfl
             refine pure_ (i := 29) (N := some 72) (v := undef) (a' := ?_) (rb4 [30, 7]) rfl rfl (qn0 HT_.out (by kernel_rfl)) (fun _ _ _ h => h) (Or.inr ⟨by rfl, rfl⟩) ?_ ?_
             rotate_left
             ·simp only [Act.put, List.setIfInBounds_toArray, List.set_cons_zero, List.set_cons_succ, i64_w, i32_w]
              rfl
             refine pure_ (i := 30) (N := some 73) (v := undef) (a' := ?_) (rb4 [31, 6]) rfl rfl (qn0 HT_.out (by kernel_rfl)) (fun _ _ _ h => h) (Or.inr ⟨by rfl, rfl⟩) ?_ ?_
             rotate_left
             ·simp only [Act.put, List.setIfInBounds_toArray, List.set_cons_zero, List.set_cons_succ, i64_w, i32_w]
              rfl
             refine pure_ (i := 31) (N := some 74) (v := undef) (a' := ?_) (rb4 [32, 5]) rfl rfl (qn0 HT_.out (by kernel_rfl)) (fun _ _ _ h => h) (Or.inr ⟨by rfl, rfl⟩) ?_ ?_
             rotate_left
             ·simp only [Act.put, List.setIfInBounds_toArray, List.set_cons_zero, List.set_cons_succ, i64_w, i32_w]
              rfl
             refine pure_ (i := 32) (N := some 75) (v := undef) (a' := ?_) (rb4 [33, 4]) rfl rfl (qn0 HT_.out (by kernel_rfl)) (fun _ _ _ h => h) (Or.inr ⟨by rfl, rfl⟩) ?_ ?_
             rotate_left
             ·simp only [Act.put, List.setIfInBounds_toArray, List.set_cons_zero, List.set_cons_succ, i64_w, i32_w]
              rfl
             refine pure_ (i := 33) (N := some 76) (v := undef) (a' := ?_) (rb4 [34, 3]) rfl rfl (qn0 HT_.out (by kernel_rfl)) (fun _ _ _ h => h) (Or.inr ⟨by rfl, rfl⟩) ?_ ?_
             rotate_left
             ·simp only [Act.put, List.setIfInBounds_toArray, List.set_cons_zero, List.set_cons_succ, i64_w, i32_w]
              rfl
             refine pure_ (i := 34) (N := some 77) (v := undef) (a' := ?_) (rb4 [35, 2]) rfl rfl (qn0 HT_.out (by kernel_rfl)) (fun _ _ _ h => h) (Or.inr ⟨by rfl, rfl⟩) ?_ ?_
             rotate_left
             ·simp only [Act.put, List.setIfInBounds_toArray, List.set_cons_zero, List.set_cons_succ, i64_w, i32_w]
              rfl
             refine pure_ (i := 35) (N := some 78) (v := undef) (a' := ?_) (rb4 [36, 1]) rfl rfl (qn0 HT_.out (by kernel_rfl)) (fun _ _ _ h => h) (Or.inr ⟨by rfl, rfl⟩) ?_ ?_
             rotate_left
             ·simp only [Act.put, List.setIfInBounds_toArray, List.set_cons_zero, List.set_cons_succ, i64_w, i32_w]
              rfl
             refine pure_ (i := 36) (N := some 79) (v := ?_) (a' := ?_) (rb4 [37]) rfl rfl (qn0 HT_.out (by kernel_rfl)) (fun _ _ _ h => h) (Or.inl ⟨by rfl, ?_⟩) ?_ ?_
             rotate_left
             ·intro w'
              go_simp
              with_reducible rfl
             rotate_left
             ·simp only [Act.put, List.setIfInBounds_toArray, List.set_cons_zero, List.set_cons_succ, i64_w, i32_w]
              rfl
             refine done_ (done_of HT_.out (by kernel_rfl)) ?_
             try go_wp2
             go_roundg k3
             case measure => have := HJ4.out; have := HK2.out; have := HK3.out; omega
             case rel => exact ⟨(x11_3), (wrap64 (x12_3 + 1)), (by first | rfl | (simp; done) | (simp [*]; done)), (by first | rfl | (simp; done) | (simp [*]; done)), H', ⟨by have := HJ4.out; have := HK2.out; have := HK3.out; omega⟩, ⟨by (with_reducible repeat (first | apply Kd.ql0 | apply Kd.qk0 | apply Kd.qo0)); exact HO_9.out⟩, ⟨by (with_reducible repeat (first | apply Kd.ql0 | apply Kd.qk0 | apply Kd.qo0)); exact HO_10.out⟩, ⟨by repeat (first | (with_reducible first | exact HB.out | apply qc0 | apply qa0 | apply qb0 | refine qh0 ?_ GE136.out) | exact HB.out)⟩⟩
            replace c26 := Bool.eq_false_iff.mpr c26
            subst c26
            have H1 : (if x11_3 < 0 then (spec_Picks.l1 k3 l0 a1 x2_2 a3 x9_2 x10_2 x12_3 (wrap64 (x12_3 + 1))) else (if 0 ≤ x11_3 then (if x11_3 < (l0.length : Int) then (if ((rd_T160 l0 x12_3).f3) < ((rd_T160 l0 x11_3).f3) then (spec_Picks.l1 k3 l0 a1 x2_2 a3 x9_2 x10_2 x12_3 (wrap64 (x12_3 + 1))) else (spec_Picks.l1 k3 l0 a1 x2_2 a3 x9_2 x10_2 x11_3 (wrap64 (x12_3 + 1)))) else (none)) else (none))) = some r := by rw [if_neg (show ¬ (false = true) by decide)] at H; exact H
            clear H
            have H := H1
            clear H1
            by_cases c32 : x11_3 < 0
            ·rw [if_pos c32] at H
             have c32b0 : decide (x11_3 < 0) = true := decide_eq_true c32
             clear c32
             have H' := Aside0.mk H
             clear H
             have p135 : 0 ≤ (x12_3 : Int) := of_decide_eq_true (by first | (with_reducible assumption) | assumption)
             have q135 : x12_3 < (l0.length : Int) := of_decide_eq_true (by first | (with_reducible assumption) | assumption)
             obtain ⟨ad135, e135, hx135_0, hx135_1, hx135_2, hx135_3, hx135_4, hx135_5⟩ := at_T160 HR0.out x12_3 p135 q135
             cases e135
             replace hx135_0 := (HB.out.cell (World.block_lt_of_cell? w _ hx135_0)).trans hx135_0
             replace hx135_1 := (HB.out.cell (World.block_lt_of_cell? w _ hx135_1)).trans hx135_1
             replace hx135_2 := (HB.out.cell (World.block_lt_of_cell? w _ hx135_2)).trans hx135_2
             replace hx135_3 := (HB.out.cell (World.block_lt_of_cell? w _ hx135_3)).trans hx135_3
             replace hx135_4 := (HB.out.cell (World.block_lt_of_cell? w _ hx135_4)).trans hx135_4
             replace hx135_5 := (HB.out.cell (World.block_lt_of_cell? w _ hx135_5)).trans hx135_5
             replace p135 := eq_true p135
             replace q135 := eq_true q135
             try go_wp2_with (first | ((with_reducible refine qs0 (N := 13) rfl ?_); refine qt0 ?hg (N := 13) ?hd (cs := #[.string (⟨#[]⟩ : ByteArray), .string (⟨#[]⟩ : ByteArray), .string (⟨#[]⟩ : ByteArray), .int .i64 0, .int .i64 0, .int .i64 0]) (t := 160) ?hr ?_; (case hd => rfl); (case hg => rfl); (case hr => first | (go_simp; done) | (go_simp; rfl)); intro gb136 hg w33 hbox hb; have n0_ := Aside0.mk (Kd.qr0 (by (with_reducible repeat (first | apply Kd.ql0 | apply Kd.qk0 | apply Kd.qo0)); exact HO_9.out) hb); have n1_ := Aside0.mk (Kd.qr0 (by (with_reducible repeat (first | apply Kd.ql0 | apply Kd.qk0 | apply Kd.qo0)); exact HO_10.out) hb); have n2_ := Aside0.mk (qm0 (by repeat (first | (with_reducible first | exact HB.out | apply qc0 | apply qa0 | apply qb0) | exact HB.out)) hb); have n3_ := Aside0.mk (hbox); have n4_ := Aside0.mk ((by rw [hg]; exact (qi0 (by repeat (first | (with_reducible first | exact HB.out | apply qc0 | apply qa0 | apply qb0) | exact HB.out))) : w.heap.size ≤ gb136)); have n5_ := Aside0.mk ((by rw [hg]; exact (qi0 (by repeat (first | (with_reducible first | exact HB.out | apply qc0 | apply qa0 | apply qb0) | exact HB.out))) : w.heap.size ≤ gb136)); clear HO_9; clear HO_10; clear HB; have HO_9 := n0_; have HO_10 := n1_; have HB := n2_; have BK136 := n3_; have GW136 := n4_; have GE136 := n5_; clear n0_ n1_ n2_ n3_ n4_ n5_; clear hb hbox hg; have hcz34_0 : w33.cell? ⟨gb136, 0, none⟩ = some (.string (⟨#[]⟩ : ByteArray)) := (qe0 BK136.out 0).trans rfl; have hcz34_1 : w33.cell? ⟨gb136, 1, none⟩ = some (.string (⟨#[]⟩ : ByteArray)) := (qe0 BK136.out 1).trans rfl; have hcz34_2 : w33.cell? ⟨gb136, 2, none⟩ = some (.string (⟨#[]⟩ : ByteArray)) := (qe0 BK136.out 2).trans rfl; have hcz34_3 : w33.cell? ⟨gb136, 3, none⟩ = some (.int .i64 0) := (qe0 BK136.out 3).trans rfl; have hcz34_4 : w33.cell? ⟨gb136, 4, none⟩ = some (.int .i64 0) := (qe0 BK136.out 4).trans rfl; have hcz34_5 : w33.cell? ⟨gb136, 5, none⟩ = some (.int .i64 0) := (qe0 BK136.out 5).trans rfl; have hfz34_0 := qd0 BK136.out 0; have hfz34_1 := qd0 BK136.out 1; have hfz34_2 := qd0 BK136.out 2; have hfz34_3 := qd0 BK136.out 3; have hfz34_4 := qd0 BK136.out 4; have hfz34_5 := qd0 BK136.out 5))
             have n0_ : Aside0 (Kd.R k162 162 ((((((w33.setCell ⟨gb136, 0, none⟩ (.string ((rd_T160 l0 x12_3).f0))).setCell ⟨gb136, 1, none⟩ (.string ((rd_T160 l0 x12_3).f1))).setCell ⟨gb136, 2, none⟩ (.string ((rd_T160 l0 x12_3).f2))).setCell ⟨gb136, 3, none⟩ (.int .i64 ((rd_T160 l0 x12_3).f3))).setCell ⟨gb136, 4, none⟩ (.int .i64 ((rd_T160 l0 x12_3).f4))).setCell ⟨gb136, 5, none⟩ (.int .i64 ((rd_T160 l0 x12_3).f5))) w.heap.size (fun _ => True) u9 x9_2) := ⟨by (with_reducible repeat (first | apply Kd.ql0 | apply Kd.qk0 | apply Kd.qo0)); exact Kd.qb1 (Kd.R_far (p := ⟨gb136, 5, none⟩) (Kd.R_far (p := ⟨gb136, 4, none⟩) (Kd.R_far (p := ⟨gb136, 3, none⟩) (Kd.R_far (p := ⟨gb136, 2, none⟩) (Kd.R_far (p := ⟨gb136, 1, none⟩) (Kd.R_far (p := ⟨gb136, 0, none⟩) (Kd.qm1 HO_9.out BK136.out (by decide)) (fun _ hk => hk.2) (.string ((rd_T160 l0 x12_3).f0))) (fun _ hk => hk.2) (.string ((rd_T160 l0 x12_3).f1))) (fun _ hk => hk.2) (.string ((rd_T160 l0 x12_3).f2))) (fun _ hk => hk.2) (.int .i64 ((rd_T160 l0 x12_3).f3))) (fun _ hk => hk.2) (.int .i64 ((rd_T160 l0 x12_3).f4))) (fun _ hk => hk.2) (.int .i64 ((rd_T160 l0 x12_3).f5))) (fun _ hk => trivial)⟩
             have n1_ : Aside0 (Kd.R (Kd.int .i64) 3 ((((((w33.setCell ⟨gb136, 0, none⟩ (.string ((rd_T160 l0 x12_3).f0))).setCell ⟨gb136, 1, none⟩ (.string ((rd_T160 l0 x12_3).f1))).setCell ⟨gb136, 2, none⟩ (.string ((rd_T160 l0 x12_3).f2))).setCell ⟨gb136, 3, none⟩ (.int .i64 ((rd_T160 l0 x12_3).f3))).setCell ⟨gb136, 4, none⟩ (.int .i64 ((rd_T160 l0 x12_3).f4))).setCell ⟨gb136, 5, none⟩ (.int .i64 ((rd_T160 l0 x12_3).f5))) w.heap.size (fun _ => True) u10 x10_2) := ⟨by (with_reducible repeat (first | apply Kd.ql0 | apply Kd.qk0 | apply Kd.qo0)); exact Kd.qb1 (Kd.R_far (p := ⟨gb136, 5, none⟩) (Kd.R_far (p := ⟨gb136, 4, none⟩) (Kd.R_far (p := ⟨gb136, 3, none⟩) (Kd.R_far (p := ⟨gb136, 2, none⟩) (Kd.R_far (p := ⟨gb136, 1, none⟩) (Kd.R_far (p := ⟨gb136, 0, none⟩) (Kd.qm1 HO_10.out BK136.out (by decide)) (fun _ hk => hk.2) (.string ((rd_T160 l0 x12_3).f0))) (fun _ hk => hk.2) (.string ((rd_T160 l0 x12_3).f1))) (fun _ hk => hk.2) (.string ((rd_T160 l0 x12_3).f2))) (fun _ hk => hk.2) (.int .i64 ((rd_T160 l0 x12_3).f3))) (fun _ hk => hk.2) (.int .i64 ((rd_T160 l0 x12_3).f4))) (fun _ hk => hk.2) (.int .i64 ((rd_T160 l0 x12_3).f5))) (fun _ hk => trivial)⟩
             have n2_ : Aside0 (((((((w33.setCell ⟨gb136, 0, none⟩ (.string ((rd_T160 l0 x12_3).f0))).setCell ⟨gb136, 1, none⟩ (.string ((rd_T160 l0 x12_3).f1))).setCell ⟨gb136, 2, none⟩ (.string ((rd_T160 l0 x12_3).f2))).setCell ⟨gb136, 3, none⟩ (.int .i64 ((rd_T160 l0 x12_3).f3))).setCell ⟨gb136, 4, none⟩ (.int .i64 ((rd_T160 l0 x12_3).f4))).setCell ⟨gb136, 5, none⟩ (.int .i64 ((rd_T160 l0 x12_3).f5))).heap[gb136]? = some (.cells #[.string ((rd_T160 l0 x12_3).f0), .string ((rd_T160 l0 x12_3).f1), .string ((rd_T160 l0 x12_3).f2), .int .i64 ((rd_T160 l0 x12_3).f3), .int .i64 ((rd_T160 l0 x12_3).f4), .int .i64 ((rd_T160 l0 x12_3).f5)] 160 (0, 0))) := ⟨by (with_reducible repeat (first | refine qf0 ?_ _ | refine qj0 ?_ | refine qg0 ?_ _)); refine qu0 (cs := #[.string ((rd_T160 l0 x12_3).f0), .string ((rd_T160 l0 x12_3).f1), .string ((rd_T160 l0 x12_3).f2), .int .i64 ((rd_T160 l0 x12_3).f3), .int .i64 ((rd_T160 l0 x12_3).f4), .int .i64 0]) ?_ 5 _ rfl; (with_reducible repeat (first | refine qf0 ?_ _ | refine qj0 ?_ | refine qg0 ?_ _)); refine qu0 (cs := #[.string ((rd_T160 l0 x12_3).f0), .string ((rd_T160 l0 x12_3).f1), .string ((rd_T160 l0 x12_3).f2), .int .i64 ((rd_T160 l0 x12_3).f3), .int .i64 0, .int .i64 0]) ?_ 4 _ rfl; (with_reducible repeat (first | refine qf0 ?_ _ | refine qj0 ?_ | refine qg0 ?_ _)); refine qu0 (cs := #[.string ((rd_T160 l0 x12_3).f0), .string ((rd_T160 l0 x12_3).f1), .string ((rd_T160 l0 x12_3).f2), .int .i64 0, .int .i64 0, .int .i64 0]) ?_ 3 _ rfl; (with_reducible repeat (first | refine qf0 ?_ _ | refine qj0 ?_ | refine qg0 ?_ _)); refine qu0 (cs := #[.string ((rd_T160 l0 x12_3).f0), .string ((rd_T160 l0 x12_3).f1), .string (⟨#[]⟩ : ByteArray), .int .i64 0, .int .i64 0, .int .i64 0]) ?_ 2 _ rfl; (with_reducible repeat (first | refine qf0 ?_ _ | refine qj0 ?_ | refine qg0 ?_ _)); refine qu0 (cs := #[.string ((rd_T160 l0 x12_3).f0), .string (⟨#[]⟩ : ByteArray), .string (⟨#[]⟩ : ByteArray), .int .i64 0, .int .i64 0, .int .i64 0]) ?_ 1 _ rfl; (with_reducible repeat (first | refine qf0 ?_ _ | refine qj0 ?_ | refine qg0 ?_ _)); refine qu0 (cs := #[.string (⟨#[]⟩ : ByteArray), .string (⟨#[]⟩ : ByteArray), .string (⟨#[]⟩ : ByteArray), .int .i64 0, .int .i64 0, .int .i64 0]) ?_ 0 _ rfl; (with_reducible repeat (first | refine qf0 ?_ _ | refine qj0 ?_ | refine qg0 ?_ _)); exact BK136.out⟩
             have n3_ : Aside0 (Below w.heap.size w ((((((w33.setCell ⟨gb136, 0, none⟩ (.string ((rd_T160 l0 x12_3).f0))).setCell ⟨gb136, 1, none⟩ (.string ((rd_T160 l0 x12_3).f1))).setCell ⟨gb136, 2, none⟩ (.string ((rd_T160 l0 x12_3).f2))).setCell ⟨gb136, 3, none⟩ (.int .i64 ((rd_T160 l0 x12_3).f3))).setCell ⟨gb136, 4, none⟩ (.int .i64 ((rd_T160 l0 x12_3).f4))).setCell ⟨gb136, 5, none⟩ (.int .i64 ((rd_T160 l0 x12_3).f5)))) := ⟨by repeat (first | (with_reducible first | exact HB.out | apply qc0 | apply qa0 | apply qb0 | refine qh0 ?_ GE136.out) | exact HB.out)⟩
             (try clear HO_9)
             (try clear HO_10)
             (try clear BK136)
             (try clear HB)
             generalize ((((((w33.setCell ⟨gb136, 0, none⟩ (.string ((rd_T160 l0 x12_3).f0))).setCell ⟨gb136, 1, none⟩ (.string ((rd_T160 l0 x12_3).f1))).setCell ⟨gb136, 2, none⟩ (.string ((rd_T160 l0 x12_3).f2))).setCell ⟨gb136, 3, none⟩ (.int .i64 ((rd_T160 l0 x12_3).f3))).setCell ⟨gb136, 4, none⟩ (.int .i64 ((rd_T160 l0 x12_3).f4))).setCell ⟨gb136, 5, none⟩ (.int .i64 ((rd_T160 l0 x12_3).f5))) = w35 at n0_ n1_ n2_ n3_ ⊢
             have HO_9 := n0_
             have HO_10 := n1_
             have BK136 := n2_
             have HB := n3_
             clear n0_ n1_ n2_ n3_
             have n0_ := Aside0.mk (Kd.qo0 HO_9.out)
             have n1_ := Aside0.mk (Kd.qo0 HO_10.out)
             have n2_ := Aside0.mk (qj0 BK136.out)
             have n3_ := Aside0.mk (qb0 HB.out)
             clear HO_9
             clear HO_10
             clear BK136
             clear HB
             have HO_9 := n0_
             have HO_10 := n1_
             have BK136 := n2_
             have HB := n3_
             clear n0_ n1_ n2_ n3_
             obtain ⟨Ao37, co37, eo37⟩ := Kd.qg1 HO_10.out
             (first | subst eo37 | (injection eo37 with f1_ f2_ f3_; have f4_ := f1_.symm; have f5_ := f3_.symm; clear f1_ f2_ f3_; subst f4_; subst f5_))
             refine start_ (n := 37) (S := fun w' => w'.cell? ⟨gb136, 0, none⟩ = some (.string ((rd_T160 l0 x12_3).f0)) ∧ w'.cell? ⟨gb136, 1, none⟩ = some (.string ((rd_T160 l0 x12_3).f1)) ∧ w'.cell? ⟨gb136, 2, none⟩ = some (.string ((rd_T160 l0 x12_3).f2)) ∧ w'.cell? ⟨gb136, 3, none⟩ = some (.int .i64 ((rd_T160 l0 x12_3).f3)) ∧ w'.cell? ⟨gb136, 4, none⟩ = some (.int .i64 ((rd_T160 l0 x12_3).f4)) ∧ w'.cell? ⟨gb136, 5, none⟩ = some (.int .i64 ((rd_T160 l0 x12_3).f5))) (ds := []) (rb4 [0, 37]) (by kernel_rfl) rfl rfl ⟨(qe0 BK136.out 0).trans rfl, (qe0 BK136.out 1).trans rfl, (qe0 BK136.out 2).trans rfl, (qe0 BK136.out 3).trans rfl, (qe0 BK136.out 4).trans rfl, (qe0 BK136.out 5).trans rfl⟩ (fun hHeld => ?_); refine with_tabW spec_Picks.tab11 spec_Picks.bits11 (fun HT_ HW_ => ?_)
             generalize w35.drew = w36 at HO_9 HO_10 BK136 HB hHeld ⊢
             refine pure_ (i := 0) (N := some 43) (v := ?_) (a' := ?_) (rb4 [1, 36]) rfl rfl (qn0 HT_.out (by kernel_rfl)) (fun _ _ _ h => h) (Or.inl ⟨by rfl, ?_⟩) ?_ ?_
             rotate_left
             ·intro w'
              go_simp
              with_reducible rfl
             rotate_left
             ·simp only [Act.put, List.setIfInBounds_toArray, List.set_cons_zero, List.set_cons_succ, i64_w, i32_w]
              rfl
             refine pure_ (i := 2) (N := some 45) (v := ?_) (a' := ?_) (rb4 [1, 1, 1, 34]) rfl rfl (qn0 HT_.out (by kernel_rfl)) (fun _ _ _ h => h) (Or.inl ⟨by rfl, ?_⟩) ?_ ?_
             rotate_left
             ·intro w'
              go_simp
              with_reducible rfl
             rotate_left
             ·simp only [Act.put, List.setIfInBounds_toArray, List.set_cons_zero, List.set_cons_succ, i64_w, i32_w]
              rfl
             refine take_ (i := 1) (N := some 44) (v := ?_) (a' := ?_) (rb4 [3, 34]) rfl rfl (qa1 HT_.out HW_.out (by kernel_rfl)) (fun _ _ _ h => h) (Or.inl ⟨by rfl, ?_⟩) hHeld ?_ ?_
             rotate_left
             ·rintro w' ⟨s0, s1, s2, s3, s4, s5⟩
              go_simp
              with_reducible rfl
             rotate_left
             ·simp only [Act.put, List.setIfInBounds_toArray, List.set_cons_zero, List.set_cons_succ, i64_w, i32_w]
              rfl
             refine pure_ (i := 3) (N := some 46) (v := ?_) (a' := ?_) (rb4 [4, 33]) rfl rfl (qn0 HT_.out (by kernel_rfl)) (fun _ _ _ h => h) (Or.inl ⟨by rfl, ?_⟩) ?_ ?_
             rotate_left
             ·intro w'
              go_simp
              with_reducible rfl
             rotate_left
             ·simp only [Act.put, List.setIfInBounds_toArray, List.set_cons_zero, List.set_cons_succ, i64_w, i32_w]
              rfl
             refine pure_ (i := 4) (N := some 47) (v := ?_) (a' := ?_) (rb4 [5, 32]) rfl rfl (qn0 HT_.out (by kernel_rfl)) (fun _ _ _ h => h) (Or.inl ⟨by rfl, ?_⟩) ?_ ?_
             rotate_left
             ·intro w'
              go_simp
              with_reducible rfl
             rotate_left
             ·simp only [Act.put, List.setIfInBounds_toArray, List.set_cons_zero, List.set_cons_succ, i64_w, i32_w]
              rfl
             refine pure_ (i := 5) (N := some 48) (v := ?_) (a' := ?_) (rb4 [6, 31]) rfl rfl (qn0 HT_.out (by kernel_rfl)) (fun _ _ _ h => h) (Or.inl ⟨by rfl, ?_⟩) ?_ ?_
             rotate_left
             ·intro w'
              go_simp
              with_reducible rfl
             rotate_left
             ·simp only [Act.put, List.setIfInBounds_toArray, List.set_cons_zero, List.set_cons_succ, i64_w, i32_w]
              rfl
             refine pure_ (i := 7) (N := some 50) (v := ?_) (a' := ?_) (rb4 [6, 1, 1, 29]) rfl rfl (qn0 HT_.out (by kernel_rfl)) (fun _ _ _ h => h) (Or.inl ⟨by rfl, ?_⟩) ?_ ?_
             rotate_left
             ·intro w'
              go_simp
              with_reducible rfl
             rotate_left
             ·simp only [Act.put, List.setIfInBounds_toArray, List.set_cons_zero, List.set_cons_succ, i64_w, i32_w]
              rfl
             refine take_ (i := 6) (N := some 49) (v := ?_) (a' := ?_) (rb4 [8, 29]) rfl rfl (qa1 HT_.out HW_.out (by kernel_rfl)) (fun _ _ _ h => h) (Or.inl ⟨by rfl, ?_⟩) hHeld ?_ ?_
             rotate_left
             ·rintro w' ⟨s0, s1, s2, s3, s4, s5⟩
              go_simp
              with_reducible rfl
             rotate_left
             ·simp only [Act.put, List.setIfInBounds_toArray, List.set_cons_zero, List.set_cons_succ, i64_w, i32_w]
              rfl
             refine pure_ (i := 8) (N := some 51) (v := ?_) (a' := ?_) (rb4 [9, 28]) rfl rfl (qn0 HT_.out (by kernel_rfl)) (fun _ _ _ h => h) (Or.inl ⟨by rfl, ?_⟩) ?_ ?_
             rotate_left
             ·intro w'
              go_simp
              with_reducible rfl
             rotate_left
             ·simp only [Act.put, List.setIfInBounds_toArray, List.set_cons_zero, List.set_cons_succ, i64_w, i32_w]
              rfl
             refine pure_ (i := 9) (N := some 52) (v := ?_) (a' := ?_) (rb4 [10, 27]) rfl rfl (qn0 HT_.out (by kernel_rfl)) (fun _ _ _ h => h) (Or.inl ⟨by rfl, ?_⟩) ?_ ?_
             rotate_left
             ·intro w'
              go_simp
              with_reducible rfl
             rotate_left
             ·simp only [Act.put, List.setIfInBounds_toArray, List.set_cons_zero, List.set_cons_succ, i64_w, i32_w]
              rfl
             refine pure_ (i := 10) (N := some 53) (v := ?_) (a' := ?_) (rb4 [11, 26]) rfl rfl (qn0 HT_.out (by kernel_rfl)) (fun _ _ _ h => h) (Or.inl ⟨by rfl, ?_⟩) ?_ ?_
             rotate_left
             ·intro w'
              go_simp
              with_reducible rfl
             rotate_left
             ·simp only [Act.put, List.setIfInBounds_toArray, List.set_cons_zero, List.set_cons_succ, i64_w, i32_w]
              rfl
             refine pure_ (i := 11) (N := some 54) (v := ?_) (a' := ?_) (rb4 [12, 25]) rfl rfl (qn0 HT_.out (by kernel_rfl)) (fun _ _ _ h => h) (Or.inl ⟨by rfl, ?_⟩) ?_ ?_
             rotate_left
             ·intro w'
              go_simp
              with_reducible rfl
             rotate_left
             ·simp only [Act.put, List.setIfInBounds_toArray, List.set_cons_zero, List.set_cons_succ, i64_w, i32_w]
              rfl
             refine pure_ (i := 13) (N := some 56) (v := ?_) (a' := ?_) (rb4 [12, 1, 1, 23]) rfl rfl (qn0 HT_.out (by kernel_rfl)) (fun _ _ _ h => h) (Or.inl ⟨by rfl, ?_⟩) ?_ ?_
             rotate_left
             ·intro w'
              go_simp
              with_reducible rfl
             rotate_left
             ·simp only [Act.put, List.setIfInBounds_toArray, List.set_cons_zero, List.set_cons_succ, i64_w, i32_w]
              rfl
             refine take_ (i := 12) (N := some 55) (v := ?_) (a' := ?_) (rb4 [14, 23]) rfl rfl (qa1 HT_.out HW_.out (by kernel_rfl)) (fun _ _ _ h => h) (Or.inl ⟨by rfl, ?_⟩) hHeld ?_ ?_
             rotate_left
             ·rintro w' ⟨s0, s1, s2, s3, s4, s5⟩
              go_simp
              with_reducible rfl
             rotate_left
             ·simp only [Act.put, List.setIfInBounds_toArray, List.set_cons_zero, List.set_cons_succ, i64_w, i32_w]
              rfl
             refine take_ (i := 14) (N := some 57) (v := ?_) (a' := ?_) (rb4 [15, 22]) rfl rfl (qa1 HT_.out HW_.out (by kernel_rfl)) (fun _ _ _ h => h) (Or.inl ⟨by rfl, ?_⟩) hHeld ?_ ?_
             rotate_left
             ·rintro w' ⟨s0, s1, s2, s3, s4, s5⟩
              go_simp
              with_reducible rfl
             rotate_left
             ·simp only [Act.put, List.setIfInBounds_toArray, List.set_cons_zero, List.set_cons_succ, i64_w, i32_w]
              rfl
             refine pure_ (i := 15) (N := some 58) (v := ?_) (a' := ?_) (rb4 [16, 21]) rfl rfl (qn0 HT_.out (by kernel_rfl)) (fun _ _ _ h => h) (Or.inl ⟨by rfl, ?_⟩) ?_ ?_
             rotate_left
             ·intro w'
              go_simp
              with_reducible rfl
             rotate_left
             ·simp only [Act.put, List.setIfInBounds_toArray, List.set_cons_zero, List.set_cons_succ, i64_w, i32_w]
              rfl
             refine pure_ (i := 16) (N := some 59) (v := ?_) (a' := ?_) (rb4 [17, 20]) rfl rfl (qn0 HT_.out (by kernel_rfl)) (fun _ _ _ h => h) (Or.inl ⟨by rfl, ?_⟩) ?_ ?_
             rotate_left
             ·intro w'
              go_simp
              with_reducible rfl
             rotate_left
             ·simp only [Act.put, List.setIfInBounds_toArray, List.set_cons_zero, List.set_cons_succ, i64_w, i32_w]
              rfl
             refine pure_ (i := 17) (N := some 60) (v := ?_) (a' := ?_) (rb4 [18, 19]) rfl rfl (qn0 HT_.out (by kernel_rfl)) (fun _ _ _ h => h) (Or.inl ⟨by rfl, ?_⟩) ?_ ?_
             rotate_left
             ·intro w'
              go_simp
              with_reducible rfl
             rotate_left
             ·simp only [Act.put, List.setIfInBounds_toArray, List.set_cons_zero, List.set_cons_succ, i64_w, i32_w]
              rfl
             refine pure_ (i := 18) (N := some 61) (v := ?_) (a' := ?_) (rb4 [19, 18]) rfl rfl (qn0 HT_.out (by kernel_rfl)) (fun _ _ _ h => h) (Or.inl ⟨by rfl, ?_⟩) ?_ ?_
             rotate_left
             ·intro w'
              go_simp
              with_reducible rfl
             rotate_left
             ·simp only [Act.put, List.setIfInBounds_toArray, List.set_cons_zero, List.set_cons_succ, i64_w, i32_w]
              rfl
             refine pure_ (i := 19) (N := some 62) (v := ?_) (a' := ?_) (rb4 [20, 17]) rfl rfl (qn0 HT_.out (by kernel_rfl)) (fun _ _ _ h => h) (Or.inl ⟨by rfl, ?_⟩) ?_ ?_
             rotate_left
             ·intro w'
              go_simp
              with_reducible rfl
             rotate_left
             ·simp only [Act.put, List.setIfInBounds_toArray, List.set_cons_zero, List.set_cons_succ, i64_w, i32_w]
              rfl
             refine one_ (i := 20) (N := some 63) (rb4 [21, 16]) rfl rfl (one_of HT_.out (by kernel_rfl)) (by decide) (fun K hK => ?_)
             refine goes_ Try.func92 (by kernel_rfl) rfl #[.slice Ao37 x10_2.length co37, .int .i64 x12_3] (by rfl) rfl rfl (by (try simp only [List.map_toArray, List.map_cons, List.map_nil]); first | done | rfl | (simp only [List.length_drop, List.length_take]; rfl)) ?_
             with_reducible refine (spec_l7Has.calls k3 _ _ x10_2 x12_3 false _ ?side1 ?side2 A25.out).mono ?_
             (case side1 => repeat (first | exact (Kd.qq0 HO_10.out).2.2 | (with_reducible refine Kd.qw0 ?_ _) | (with_reducible refine Kd.qv0 ?_ _) | (with_reducible refine Kd.qz0 ?_)))
             (case side2 => exact (Kd.qq0 HO_10.out).2.1)
             rintro e w' ⟨rfl, ⟨nd, rfl⟩⟩
             refine ⟨_, rfl, ?_⟩
             refine hK.out _ _ ⟨(qe0 BK136.out 0).trans rfl, (qe0 BK136.out 1).trans rfl, (qe0 BK136.out 2).trans rfl, (qe0 BK136.out 3).trans rfl, (qe0 BK136.out 4).trans rfl, (qe0 BK136.out 5).trans rfl⟩ (fun hHeld => ?_)
             clear hK K
             refine norm_ (a' := ?_) ?_ ?_
             rotate_left
             ·show Act.put _ (some 63) _ = _
              simp only [Act.put, List.setIfInBounds_toArray, List.set_cons_zero, List.set_cons_succ, i64_w, i32_w]
              rfl
             refine pure_ (i := 21) (N := some 64) (v := ?_) (a' := ?_) (rb4 [22, 15]) rfl rfl (qn0 HT_.out (by kernel_rfl)) (fun _ _ _ h => h) (Or.inl ⟨by rfl, ?_⟩) ?_ ?_
             rotate_left
             ·intro w'
              go_simp
              with_reducible rfl
             rotate_left
             ·simp only [Act.put, List.setIfInBounds_toArray, List.set_cons_zero, List.set_cons_succ, i64_w, i32_w]
              rfl
             refine pure_ (i := 22) (N := some 65) (v := ?_) (a' := ?_) (rb4 [23, 14]) rfl rfl (qn0 HT_.out (by kernel_rfl)) (fun _ _ _ h => h) (Or.inl ⟨by rfl, ?_⟩) ?_ ?_
             rotate_left
             ·intro w'
              go_simp
              with_reducible rfl
             rotate_left
             ·simp only [Act.put, List.setIfInBounds_toArray, List.set_cons_zero, List.set_cons_succ, i64_w, i32_w]
              rfl
             refine pure_ (i := 23) (N := some 66) (v := ?_) (a' := ?_) (rb4 [24, 13]) rfl rfl (qn0 HT_.out (by kernel_rfl)) (fun _ _ _ h => h) (Or.inl ⟨by rfl, ?_⟩) ?_ ?_
             rotate_left
             ·intro w'
              go_simp
              with_reducible rfl
             rotate_left
             ·simp only [Act.put, List.setIfInBounds_toArray, List.set_cons_zero, List.set_cons_succ, i64_w, i32_w]
              rfl
             refine pure_ (i := 24) (N := some 67) (v := ?_) (a' := ?_) (rb4 [25, 12]) rfl rfl (qn0 HT_.out (by kernel_rfl)) (fun _ _ _ h => h) (Or.inl ⟨by rfl, ?_⟩) ?_ ?_
             rotate_left
             ·intro w'
              go_simp
              with_reducible rfl
             rotate_left
             ·simp only [Act.put, List.setIfInBounds_toArray, List.set_cons_zero, List.set_cons_succ, i64_w, i32_w]
              rfl
             refine pure_ (i := 25) (N := some 68) (v := ?_) (a' := ?_) (rb4 [26, 11]) rfl rfl (qn0 HT_.out (by kernel_rfl)) (fun _ _ _ h => h) (Or.inl ⟨by rfl, ?_⟩) ?_ ?_
             rotate_left
             ·intro w'
              go_simp
              with_reducible rfl
             rotate_left
             ·simp only [Act.put, List.setIfInBounds_toArray, List.set_cons_zero, List.set_cons_succ, i64_w, i32_w]
              rfl
             refine pure_ (i := 26) (N := some 69) (v := ?_) (a' := ?_) (rb4 [27, 10]) rfl rfl (qn0 HT_.out (by kernel_rfl)) (fun _ _ _ h => h) (Or.inl ⟨by rfl, ?_⟩) ?_ ?_
             rotate_left
             ·intro w'
              go_simp
              with_reducible rfl
             rotate_left
             ·simp only [Act.put, List.setIfInBounds_toArray, List.set_cons_zero, List.set_cons_succ, i64_w, i32_w]
              rfl
             refine pure_ (i := 27) (N := some 70) (v := undef) (a' := ?_) (rb4 [28, 9]) rfl rfl (qn0 HT_.out (by kernel_rfl)) (fun _ _ _ h => h) (Or.inr ⟨by rfl, rfl⟩) ?_ ?_
             rotate_left
             ·simp only [Act.put, List.setIfInBounds_toArray, List.set_cons_zero, List.set_cons_succ, i64_w, i32_w]
              rfl
             refine pure_ (i := 28) (N := some 71) (v := undef) (a' := ?_) (rb4 [29, 8]) rfl rfl (qn0 HT_.out (by kernel_rfl)) (fun _ _ _ h => h) (Or.inr ⟨by rfl, rfl⟩) ?_ ?_
             rotate_left
             ·simp only [Act.put, List.setIfInBounds_toArray, List.set_cons_zero, List.set_cons_succ, i64_w, i32_w]
              rfl
             refine pure_ (i := 29) (N := some 72) (v := undef) (a' := ?_) (rb4 [30, 7]) rfl rfl (qn0 HT_.out (by kernel_rfl)) (fun _ _ _ h => h) (Or.inr ⟨by rfl, rfl⟩) ?_ ?_
             rotate_left
             ·simp only [Act.put, List.setIfInBounds_toArray, List.set_cons_zero, List.set_cons_succ, i64_w, i32_w]
              rfl
             refine pure_ (i := 30) (N := some 73) (v := undef) (a' := ?_) (rb4 [31, 6]) rfl rfl (qn0 HT_.out (by kernel_rfl)) (fun _ _ _ h => h) (Or.inr ⟨by rfl, rfl⟩) ?_ ?_
             rotate_left
             ·simp only [Act.put, List.setIfInBounds_toArray, List.set_cons_zero, List.set_cons_succ, i64_w, i32_w]
              rfl
             refine pure_ (i := 31) (N := some 74) (v := undef) (a' := ?_) (rb4 [32, 5]) rfl rfl (qn0 HT_.out (by kernel_rfl)) (fun _ _ _ h => h) (Or.inr ⟨by rfl, rfl⟩) ?_ ?_
             rotate_left
             ·simp only [Act.put, List.setIfInBounds_toArray, List.set_cons_zero, List.set_cons_succ, i64_w, i32_w]
              rfl
             refine pure_ (i := 32) (N := some 75) (v := undef) (a' := ?_) (rb4 [33, 4]) rfl rfl (qn0 HT_.out (by kernel_rfl)) (fun _ _ _ h => h) (Or.inr ⟨by rfl, rfl⟩) ?_ ?_
             rotate_left
             ·simp only [Act.put, List.setIfInBounds_toArray, List.set_cons_zero, List.set_cons_succ, i64_w, i32_w]
              rfl
             refine pure_ (i := 33) (N := some 76) (v := undef) (a' := ?_) (rb4 [34, 3]) rfl rfl (qn0 HT_.out (by kernel_rfl)) (fun _ _ _ h => h) (Or.inr ⟨by rfl, rfl⟩) ?_ ?_
             rotate_left
             ·simp only [Act.put, List.setIfInBounds_toArray, List.set_cons_zero, List.set_cons_succ, i64_w, i32_w]
              rfl
             refine pure_ (i := 34) (N := some 77) (v := undef) (a' := ?_) (rb4 [35, 2]) rfl rfl (qn0 HT_.out (by kernel_rfl)) (fun _ _ _ h => h) (Or.inr ⟨by rfl, rfl⟩) ?_ ?_
             rotate_left
             ·simp only [Act.put, List.setIfInBounds_toArray, List.set_cons_zero, List.set_cons_succ, i64_w, i32_w]
              rfl
             refine pure_ (i := 35) (N := some 78) (v := ?_) (a' := ?_) (rb4 [36, 1]) rfl rfl (qn0 HT_.out (by kernel_rfl)) (fun _ _ _ h => h) (Or.inl ⟨by rfl, ?_⟩) ?_ ?_
             rotate_left
             ·intro w'
              go_simp
              with_reducible rfl
             rotate_left
             ·simp only [Act.put, List.setIfInBounds_toArray, List.set_cons_zero, List.set_cons_succ, i64_w, i32_w]
              rfl
             refine pure_ (i := 36) (N := some 79) (v := ?_) (a' := ?_) (rb4 [37]) rfl rfl (qn0 HT_.out (by kernel_rfl)) (fun _ _ _ h => h) (Or.inl ⟨by rfl, ?_⟩) ?_ ?_
             rotate_left
             ·intro w'
              go_simp
              with_reducible rfl
             rotate_left
             ·simp only [Act.put, List.setIfInBounds_toArray, List.set_cons_zero, List.set_cons_succ, i64_w, i32_w]
              rfl
             refine done_ (done_of HT_.out (by kernel_rfl)) ?_
             try go_wp2
             go_roundg k3
             case measure => have := HJ4.out; have := HK2.out; have := HK3.out; omega
             case rel => exact ⟨(x12_3), (wrap64 (x12_3 + 1)), (by first | rfl | (simp; done) | (simp [*]; done)), (by first | rfl | (simp; done) | (simp [*]; done)), H', ⟨by have := HJ4.out; have := HK2.out; have := HK3.out; omega⟩, ⟨by (with_reducible repeat (first | apply Kd.ql0 | apply Kd.qk0 | apply Kd.qo0)); exact HO_9.out⟩, ⟨by (with_reducible repeat (first | apply Kd.ql0 | apply Kd.qk0 | apply Kd.qo0)); exact HO_10.out⟩, ⟨by repeat (first | (with_reducible first | exact HB.out | apply qc0 | apply qa0 | apply qb0 | refine qh0 ?_ GE136.out) | exact HB.out)⟩⟩
            rw [if_neg c32] at H
            have c32b0 : decide (x11_3 < 0) = false := decide_eq_false c32
            clear c32
            by_cases c38 : 0 ≤ x11_3
            case neg => rw [if_neg c38] at H; exact absurd H (by simp)
            rw [if_pos c38] at H
            have c38b0 : decide (0 ≤ x11_3) = true := decide_eq_true c38
            clear c38
            by_cases c39 : x11_3 < (l0.length : Int)
            case neg => rw [if_neg c39] at H; exact absurd H (by simp)
            rw [if_pos c39] at H
            have c39b0 : decide (x11_3 < (l0.length : Int)) = true := decide_eq_true c39
            clear c39
            by_cases c40 : ((rd_T160 l0 x12_3).f3) < ((rd_T160 l0 x11_3).f3)
            ·rw [if_pos c40] at H
             have c40b0 : decide (((rd_T160 l0 x12_3).f3) < ((rd_T160 l0 x11_3).f3)) = true := decide_eq_true c40
             clear c40
             have H' := Aside0.mk H
             clear H
             have p135 : 0 ≤ (x12_3 : Int) := of_decide_eq_true (by first | (with_reducible assumption) | assumption)
             have q135 : x12_3 < (l0.length : Int) := of_decide_eq_true (by first | (with_reducible assumption) | assumption)
             obtain ⟨ad135, e135, hx135_0, hx135_1, hx135_2, hx135_3, hx135_4, hx135_5⟩ := at_T160 HR0.out x12_3 p135 q135
             cases e135
             replace hx135_0 := (HB.out.cell (World.block_lt_of_cell? w _ hx135_0)).trans hx135_0
             replace hx135_1 := (HB.out.cell (World.block_lt_of_cell? w _ hx135_1)).trans hx135_1
             replace hx135_2 := (HB.out.cell (World.block_lt_of_cell? w _ hx135_2)).trans hx135_2
             replace hx135_3 := (HB.out.cell (World.block_lt_of_cell? w _ hx135_3)).trans hx135_3
             replace hx135_4 := (HB.out.cell (World.block_lt_of_cell? w _ hx135_4)).trans hx135_4
             replace hx135_5 := (HB.out.cell (World.block_lt_of_cell? w _ hx135_5)).trans hx135_5
             replace p135 := eq_true p135
             replace q135 := eq_true q135
             try go_wp2_with (first | ((with_reducible refine qs0 (N := 13) rfl ?_); refine qt0 ?hg (N := 13) ?hd (cs := #[.string (⟨#[]⟩ : ByteArray), .string (⟨#[]⟩ : ByteArray), .string (⟨#[]⟩ : ByteArray), .int .i64 0, .int .i64 0, .int .i64 0]) (t := 160) ?hr ?_; (case hd => rfl); (case hg => rfl); (case hr => first | (go_simp; done) | (go_simp; rfl)); intro gb136 hg w41 hbox hb; have n0_ := Aside0.mk (Kd.qr0 (by (with_reducible repeat (first | apply Kd.ql0 | apply Kd.qk0 | apply Kd.qo0)); exact HO_9.out) hb); have n1_ := Aside0.mk (Kd.qr0 (by (with_reducible repeat (first | apply Kd.ql0 | apply Kd.qk0 | apply Kd.qo0)); exact HO_10.out) hb); have n2_ := Aside0.mk (qm0 (by repeat (first | (with_reducible first | exact HB.out | apply qc0 | apply qa0 | apply qb0) | exact HB.out)) hb); have n3_ := Aside0.mk (hbox); have n4_ := Aside0.mk ((by rw [hg]; exact (qi0 (by repeat (first | (with_reducible first | exact HB.out | apply qc0 | apply qa0 | apply qb0) | exact HB.out))) : w.heap.size ≤ gb136)); have n5_ := Aside0.mk ((by rw [hg]; exact (qi0 (by repeat (first | (with_reducible first | exact HB.out | apply qc0 | apply qa0 | apply qb0) | exact HB.out))) : w.heap.size ≤ gb136)); clear HO_9; clear HO_10; clear HB; have HO_9 := n0_; have HO_10 := n1_; have HB := n2_; have BK136 := n3_; have GW136 := n4_; have GE136 := n5_; clear n0_ n1_ n2_ n3_ n4_ n5_; clear hb hbox hg; have hcz42_0 : w41.cell? ⟨gb136, 0, none⟩ = some (.string (⟨#[]⟩ : ByteArray)) := (qe0 BK136.out 0).trans rfl; have hcz42_1 : w41.cell? ⟨gb136, 1, none⟩ = some (.string (⟨#[]⟩ : ByteArray)) := (qe0 BK136.out 1).trans rfl; have hcz42_2 : w41.cell? ⟨gb136, 2, none⟩ = some (.string (⟨#[]⟩ : ByteArray)) := (qe0 BK136.out 2).trans rfl; have hcz42_3 : w41.cell? ⟨gb136, 3, none⟩ = some (.int .i64 0) := (qe0 BK136.out 3).trans rfl; have hcz42_4 : w41.cell? ⟨gb136, 4, none⟩ = some (.int .i64 0) := (qe0 BK136.out 4).trans rfl; have hcz42_5 : w41.cell? ⟨gb136, 5, none⟩ = some (.int .i64 0) := (qe0 BK136.out 5).trans rfl; have hfz42_0 := qd0 BK136.out 0; have hfz42_1 := qd0 BK136.out 1; have hfz42_2 := qd0 BK136.out 2; have hfz42_3 := qd0 BK136.out 3; have hfz42_4 := qd0 BK136.out 4; have hfz42_5 := qd0 BK136.out 5))
             have n0_ : Aside0 (Kd.R k162 162 ((((((w41.setCell ⟨gb136, 0, none⟩ (.string ((rd_T160 l0 x12_3).f0))).setCell ⟨gb136, 1, none⟩ (.string ((rd_T160 l0 x12_3).f1))).setCell ⟨gb136, 2, none⟩ (.string ((rd_T160 l0 x12_3).f2))).setCell ⟨gb136, 3, none⟩ (.int .i64 ((rd_T160 l0 x12_3).f3))).setCell ⟨gb136, 4, none⟩ (.int .i64 ((rd_T160 l0 x12_3).f4))).setCell ⟨gb136, 5, none⟩ (.int .i64 ((rd_T160 l0 x12_3).f5))) w.heap.size (fun _ => True) u9 x9_2) := ⟨by (with_reducible repeat (first | apply Kd.ql0 | apply Kd.qk0 | apply Kd.qo0)); exact Kd.qb1 (Kd.R_far (p := ⟨gb136, 5, none⟩) (Kd.R_far (p := ⟨gb136, 4, none⟩) (Kd.R_far (p := ⟨gb136, 3, none⟩) (Kd.R_far (p := ⟨gb136, 2, none⟩) (Kd.R_far (p := ⟨gb136, 1, none⟩) (Kd.R_far (p := ⟨gb136, 0, none⟩) (Kd.qm1 HO_9.out BK136.out (by decide)) (fun _ hk => hk.2) (.string ((rd_T160 l0 x12_3).f0))) (fun _ hk => hk.2) (.string ((rd_T160 l0 x12_3).f1))) (fun _ hk => hk.2) (.string ((rd_T160 l0 x12_3).f2))) (fun _ hk => hk.2) (.int .i64 ((rd_T160 l0 x12_3).f3))) (fun _ hk => hk.2) (.int .i64 ((rd_T160 l0 x12_3).f4))) (fun _ hk => hk.2) (.int .i64 ((rd_T160 l0 x12_3).f5))) (fun _ hk => trivial)⟩
             have n1_ : Aside0 (Kd.R (Kd.int .i64) 3 ((((((w41.setCell ⟨gb136, 0, none⟩ (.string ((rd_T160 l0 x12_3).f0))).setCell ⟨gb136, 1, none⟩ (.string ((rd_T160 l0 x12_3).f1))).setCell ⟨gb136, 2, none⟩ (.string ((rd_T160 l0 x12_3).f2))).setCell ⟨gb136, 3, none⟩ (.int .i64 ((rd_T160 l0 x12_3).f3))).setCell ⟨gb136, 4, none⟩ (.int .i64 ((rd_T160 l0 x12_3).f4))).setCell ⟨gb136, 5, none⟩ (.int .i64 ((rd_T160 l0 x12_3).f5))) w.heap.size (fun _ => True) u10 x10_2) := ⟨by (with_reducible repeat (first | apply Kd.ql0 | apply Kd.qk0 | apply Kd.qo0)); exact Kd.qb1 (Kd.R_far (p := ⟨gb136, 5, none⟩) (Kd.R_far (p := ⟨gb136, 4, none⟩) (Kd.R_far (p := ⟨gb136, 3, none⟩) (Kd.R_far (p := ⟨gb136, 2, none⟩) (Kd.R_far (p := ⟨gb136, 1, none⟩) (Kd.R_far (p := ⟨gb136, 0, none⟩) (Kd.qm1 HO_10.out BK136.out (by decide)) (fun _ hk => hk.2) (.string ((rd_T160 l0 x12_3).f0))) (fun _ hk => hk.2) (.string ((rd_T160 l0 x12_3).f1))) (fun _ hk => hk.2) (.string ((rd_T160 l0 x12_3).f2))) (fun _ hk => hk.2) (.int .i64 ((rd_T160 l0 x12_3).f3))) (fun _ hk => hk.2) (.int .i64 ((rd_T160 l0 x12_3).f4))) (fun _ hk => hk.2) (.int .i64 ((rd_T160 l0 x12_3).f5))) (fun _ hk => trivial)⟩
             have n2_ : Aside0 (((((((w41.setCell ⟨gb136, 0, none⟩ (.string ((rd_T160 l0 x12_3).f0))).setCell ⟨gb136, 1, none⟩ (.string ((rd_T160 l0 x12_3).f1))).setCell ⟨gb136, 2, none⟩ (.string ((rd_T160 l0 x12_3).f2))).setCell ⟨gb136, 3, none⟩ (.int .i64 ((rd_T160 l0 x12_3).f3))).setCell ⟨gb136, 4, none⟩ (.int .i64 ((rd_T160 l0 x12_3).f4))).setCell ⟨gb136, 5, none⟩ (.int .i64 ((rd_T160 l0 x12_3).f5))).heap[gb136]? = some (.cells #[.string ((rd_T160 l0 x12_3).f0), .string ((rd_T160 l0 x12_3).f1), .string ((rd_T160 l0 x12_3).f2), .int .i64 ((rd_T160 l0 x12_3).f3), .int .i64 ((rd_T160 l0 x12_3).f4), .int .i64 ((rd_T160 l0 x12_3).f5)] 160 (0, 0))) := ⟨by (with_reducible repeat (first | refine qf0 ?_ _ | refine qj0 ?_ | refine qg0 ?_ _)); refine qu0 (cs := #[.string ((rd_T160 l0 x12_3).f0), .string ((rd_T160 l0 x12_3).f1), .string ((rd_T160 l0 x12_3).f2), .int .i64 ((rd_T160 l0 x12_3).f3), .int .i64 ((rd_T160 l0 x12_3).f4), .int .i64 0]) ?_ 5 _ rfl; (with_reducible repeat (first | refine qf0 ?_ _ | refine qj0 ?_ | refine qg0 ?_ _)); refine qu0 (cs := #[.string ((rd_T160 l0 x12_3).f0), .string ((rd_T160 l0 x12_3).f1), .string ((rd_T160 l0 x12_3).f2), .int .i64 ((rd_T160 l0 x12_3).f3), .int .i64 0, .int .i64 0]) ?_ 4 _ rfl; (with_reducible repeat (first | refine qf0 ?_ _ | refine qj0 ?_ | refine qg0 ?_ _)); refine qu0 (cs := #[.string ((rd_T160 l0 x12_3).f0), .string ((rd_T160 l0 x12_3).f1), .string ((rd_T160 l0 x12_3).f2), .int .i64 0, .int .i64 0, .int .i64 0]) ?_ 3 _ rfl; (with_reducible repeat (first | refine qf0 ?_ _ | refine qj0 ?_ | refine qg0 ?_ _)); refine qu0 (cs := #[.string ((rd_T160 l0 x12_3).f0), .string ((rd_T160 l0 x12_3).f1), .string (⟨#[]⟩ : ByteArray), .int .i64 0, .int .i64 0, .int .i64 0]) ?_ 2 _ rfl; (with_reducible repeat (first | refine qf0 ?_ _ | refine qj0 ?_ | refine qg0 ?_ _)); refine qu0 (cs := #[.string ((rd_T160 l0 x12_3).f0), .string (⟨#[]⟩ : ByteArray), .string (⟨#[]⟩ : ByteArray), .int .i64 0, .int .i64 0, .int .i64 0]) ?_ 1 _ rfl; (with_reducible repeat (first | refine qf0 ?_ _ | refine qj0 ?_ | refine qg0 ?_ _)); refine qu0 (cs := #[.string (⟨#[]⟩ : ByteArray), .string (⟨#[]⟩ : ByteArray), .string (⟨#[]⟩ : ByteArray), .int .i64 0, .int .i64 0, .int .i64 0]) ?_ 0 _ rfl; (with_reducible repeat (first | refine qf0 ?_ _ | refine qj0 ?_ | refine qg0 ?_ _)); exact BK136.out⟩
             have n3_ : Aside0 (Below w.heap.size w ((((((w41.setCell ⟨gb136, 0, none⟩ (.string ((rd_T160 l0 x12_3).f0))).setCell ⟨gb136, 1, none⟩ (.string ((rd_T160 l0 x12_3).f1))).setCell ⟨gb136, 2, none⟩ (.string ((rd_T160 l0 x12_3).f2))).setCell ⟨gb136, 3, none⟩ (.int .i64 ((rd_T160 l0 x12_3).f3))).setCell ⟨gb136, 4, none⟩ (.int .i64 ((rd_T160 l0 x12_3).f4))).setCell ⟨gb136, 5, none⟩ (.int .i64 ((rd_T160 l0 x12_3).f5)))) := ⟨by repeat (first | (with_reducible first | exact HB.out | apply qc0 | apply qa0 | apply qb0 | refine qh0 ?_ GE136.out) | exact HB.out)⟩
             (try clear HO_9)
             (try clear HO_10)
             (try clear BK136)
             (try clear HB)
             generalize ((((((w41.setCell ⟨gb136, 0, none⟩ (.string ((rd_T160 l0 x12_3).f0))).setCell ⟨gb136, 1, none⟩ (.string ((rd_T160 l0 x12_3).f1))).setCell ⟨gb136, 2, none⟩ (.string ((rd_T160 l0 x12_3).f2))).setCell ⟨gb136, 3, none⟩ (.int .i64 ((rd_T160 l0 x12_3).f3))).setCell ⟨gb136, 4, none⟩ (.int .i64 ((rd_T160 l0 x12_3).f4))).setCell ⟨gb136, 5, none⟩ (.int .i64 ((rd_T160 l0 x12_3).f5))) = w43 at n0_ n1_ n2_ n3_ ⊢
             have HO_9 := n0_
             have HO_10 := n1_
             have BK136 := n2_
             have HB := n3_
             clear n0_ n1_ n2_ n3_
             have n0_ := Aside0.mk (Kd.qo0 HO_9.out)
             have n1_ := Aside0.mk (Kd.qo0 HO_10.out)
             have n2_ := Aside0.mk (qj0 BK136.out)
             have n3_ := Aside0.mk (qb0 HB.out)
             clear HO_9
             clear HO_10
             clear BK136
             clear HB
             have HO_9 := n0_
             have HO_10 := n1_
             have BK136 := n2_
             have HB := n3_
             clear n0_ n1_ n2_ n3_
             obtain ⟨Ao45, co45, eo45⟩ := Kd.qg1 HO_10.out
             (first | subst eo45 | (injection eo45 with f1_ f2_ f3_; have f4_ := f1_.symm; have f5_ := f3_.symm; clear f1_ f2_ f3_; subst f4_; subst f5_))
             have p138 : 0 ≤ (x11_3 : Int) := of_decide_eq_true (by first | (with_reducible assumption) | assumption)
             have q138 : x11_3 < (l0.length : Int) := of_decide_eq_true (by first | (with_reducible assumption) | assumption)
             obtain ⟨ad138, e138, hx138_0, hx138_1, hx138_2, hx138_3, hx138_4, hx138_5⟩ := at_T160 HR0.out x11_3 p138 q138
             have hw138_5 := hx138_5
             have hw138_4 := hx138_4
             have hw138_3 := hx138_3
             have hw138_2 := hx138_2
             have hw138_1 := hx138_1
             have hw138_0 := hx138_0
             obtain rfl : ad135 = ad138 := (by injection e138)
             replace hx138_0 := (HB.out.cell (World.block_lt_of_cell? w _ hx138_0)).trans hx138_0
             replace hx138_1 := (HB.out.cell (World.block_lt_of_cell? w _ hx138_1)).trans hx138_1
             replace hx138_2 := (HB.out.cell (World.block_lt_of_cell? w _ hx138_2)).trans hx138_2
             replace hx138_3 := (HB.out.cell (World.block_lt_of_cell? w _ hx138_3)).trans hx138_3
             replace hx138_4 := (HB.out.cell (World.block_lt_of_cell? w _ hx138_4)).trans hx138_4
             replace hx138_5 := (HB.out.cell (World.block_lt_of_cell? w _ hx138_5)).trans hx138_5
             replace p138 := eq_true p138
             replace q138 := eq_true q138
             refine start_ (n := 37) (S := fun w' => w'.cell? ⟨gb136, 0, none⟩ = some (.string ((rd_T160 l0 x12_3).f0)) ∧ w'.cell? ⟨gb136, 1, none⟩ = some (.string ((rd_T160 l0 x12_3).f1)) ∧ w'.cell? ⟨gb136, 2, none⟩ = some (.string ((rd_T160 l0 x12_3).f2)) ∧ w'.cell? ⟨gb136, 3, none⟩ = some (.int .i64 ((rd_T160 l0 x12_3).f3)) ∧ w'.cell? ⟨gb136, 4, none⟩ = some (.int .i64 ((rd_T160 l0 x12_3).f4)) ∧ w'.cell? ⟨gb136, 5, none⟩ = some (.int .i64 ((rd_T160 l0 x12_3).f5)) ∧ w'.cell? (ad135.add ((x11_3).toNat * 6)) = some (.string ((rd_T160 l0 x11_3).f0)) ∧ w'.cell? ⟨(ad135.add ((x11_3).toNat * 6)).block, (ad135.add ((x11_3).toNat * 6)).off + 1, none⟩ = some (.string ((rd_T160 l0 x11_3).f1)) ∧ w'.cell? ⟨(ad135.add ((x11_3).toNat * 6)).block, (ad135.add ((x11_3).toNat * 6)).off + 2, none⟩ = some (.string ((rd_T160 l0 x11_3).f2)) ∧ w'.cell? ⟨(ad135.add ((x11_3).toNat * 6)).block, (ad135.add ((x11_3).toNat * 6)).off + 3, none⟩ = some (.int .i64 ((rd_T160 l0 x11_3).f3)) ∧ w'.cell? ⟨(ad135.add ((x11_3).toNat * 6)).block, (ad135.add ((x11_3).toNat * 6)).off + 4, none⟩ = some (.int .i64 ((rd_T160 l0 x11_3).f4)) ∧ w'.cell? ⟨(ad135.add ((x11_3).toNat * 6)).block, (ad135.add ((x11_3).toNat * 6)).off + 5, none⟩ = some (.int .i64 ((rd_T160 l0 x11_3).f5))) (ds := []) (rb4 [0, 37]) (by kernel_rfl) rfl rfl ⟨(qe0 BK136.out 0).trans rfl, (qe0 BK136.out 1).trans rfl, (qe0 BK136.out 2).trans rfl, (qe0 BK136.out 3).trans rfl, (qe0 BK136.out 4).trans rfl, (qe0 BK136.out 5).trans rfl, ((HB.out.cell (World.block_lt_of_cell? w _ hw138_0)).trans hw138_0), ((HB.out.cell (World.block_lt_of_cell? w _ hw138_1)).trans hw138_1), ((HB.out.cell (World.block_lt_of_cell? w _ hw138_2)).trans hw138_2), ((HB.out.cell (World.block_lt_of_cell? w _ hw138_3)).trans hw138_3), ((HB.out.cell (World.block_lt_of_cell? w _ hw138_4)).trans hw138_4), ((HB.out.cell (World.block_lt_of_cell? w _ hw138_5)).trans hw138_5)⟩ (fun hHeld => ?_); refine with_tabW spec_Picks.tab11 spec_Picks.bits11 (fun HT_ HW_ => ?_)
             generalize w43.drew = w44 at HO_9 HO_10 BK136 HB hx138_0 hx138_1 hx138_2 hx138_3 hx138_4 hx138_5 hHeld ⊢
             refine pure_ (i := 0) (N := some 43) (v := ?_) (a' := ?_) (rb4 [1, 36]) rfl rfl (qn0 HT_.out (by kernel_rfl)) (fun _ _ _ h => h) (Or.inl ⟨by rfl, ?_⟩) ?_ ?_
             rotate_left
             ·intro w'
              go_simp
              with_reducible rfl
             rotate_left
             ·simp only [Act.put, List.setIfInBounds_toArray, List.set_cons_zero, List.set_cons_succ, i64_w, i32_w]
              rfl
             refine pure_ (i := 2) (N := some 45) (v := ?_) (a' := ?_) (rb4 [1, 1, 1, 34]) rfl rfl (qn0 HT_.out (by kernel_rfl)) (fun _ _ _ h => h) (Or.inl ⟨by rfl, ?_⟩) ?_ ?_
             rotate_left
             ·intro w'
              go_simp
              with_reducible rfl
             rotate_left
             ·simp only [Act.put, List.setIfInBounds_toArray, List.set_cons_zero, List.set_cons_succ, i64_w, i32_w]
              rfl
             refine take_ (i := 1) (N := some 44) (v := ?_) (a' := ?_) (rb4 [3, 34]) rfl rfl (qa1 HT_.out HW_.out (by kernel_rfl)) (fun _ _ _ h => h) (Or.inl ⟨by rfl, ?_⟩) hHeld ?_ ?_
             rotate_left
             ·rintro w' ⟨s0, s1, s2, s3, s4, s5, s6, s7, s8, s9, s10, s11⟩
              go_simp
              with_reducible rfl
             rotate_left
             ·simp only [Act.put, List.setIfInBounds_toArray, List.set_cons_zero, List.set_cons_succ, i64_w, i32_w]
              rfl
             refine pure_ (i := 3) (N := some 46) (v := ?_) (a' := ?_) (rb4 [4, 33]) rfl rfl (qn0 HT_.out (by kernel_rfl)) (fun _ _ _ h => h) (Or.inl ⟨by rfl, ?_⟩) ?_ ?_
             rotate_left
             ·intro w'
              go_simp
              with_reducible rfl
             rotate_left
             ·simp only [Act.put, List.setIfInBounds_toArray, List.set_cons_zero, List.set_cons_succ, i64_w, i32_w]
              rfl
             refine pure_ (i := 4) (N := some 47) (v := ?_) (a' := ?_) (rb4 [5, 32]) rfl rfl (qn0 HT_.out (by kernel_rfl)) (fun _ _ _ h => h) (Or.inl ⟨by rfl, ?_⟩) ?_ ?_
             rotate_left
             ·intro w'
              go_simp
              with_reducible rfl
             rotate_left
             ·simp only [Act.put, List.setIfInBounds_toArray, List.set_cons_zero, List.set_cons_succ, i64_w, i32_w]
              rfl
             refine pure_ (i := 5) (N := some 48) (v := ?_) (a' := ?_) (rb4 [6, 31]) rfl rfl (qn0 HT_.out (by kernel_rfl)) (fun _ _ _ h => h) (Or.inl ⟨by rfl, ?_⟩) ?_ ?_
             rotate_left
             ·intro w'
              go_simp
              with_reducible rfl
             rotate_left
             ·simp only [Act.put, List.setIfInBounds_toArray, List.set_cons_zero, List.set_cons_succ, i64_w, i32_w]
              rfl
             refine pure_ (i := 7) (N := some 50) (v := ?_) (a' := ?_) (rb4 [6, 1, 1, 29]) rfl rfl (qn0 HT_.out (by kernel_rfl)) (fun _ _ _ h => h) (Or.inl ⟨by rfl, ?_⟩) ?_ ?_
             rotate_left
             ·intro w'
              go_simp
              with_reducible rfl
             rotate_left
             ·simp only [Act.put, List.setIfInBounds_toArray, List.set_cons_zero, List.set_cons_succ, i64_w, i32_w]
              rfl
             refine take_ (i := 6) (N := some 49) (v := ?_) (a' := ?_) (rb4 [8, 29]) rfl rfl (qa1 HT_.out HW_.out (by kernel_rfl)) (fun _ _ _ h => h) (Or.inl ⟨by rfl, ?_⟩) hHeld ?_ ?_
             rotate_left
             ·rintro w' ⟨s0, s1, s2, s3, s4, s5, s6, s7, s8, s9, s10, s11⟩
              go_simp
              with_reducible rfl
             rotate_left
             ·simp only [Act.put, List.setIfInBounds_toArray, List.set_cons_zero, List.set_cons_succ, i64_w, i32_w]
              rfl
             refine pure_ (i := 8) (N := some 51) (v := ?_) (a' := ?_) (rb4 [9, 28]) rfl rfl (qn0 HT_.out (by kernel_rfl)) (fun _ _ _ h => h) (Or.inl ⟨by rfl, ?_⟩) ?_ ?_
             rotate_left
             ·intro w'
              go_simp
              with_reducible rfl
             rotate_left
             ·simp only [Act.put, List.setIfInBounds_toArray, List.set_cons_zero, List.set_cons_succ, i64_w, i32_w]
              rfl
             refine pure_ (i := 9) (N := some 52) (v := ?_) (a' := ?_) (rb4 [10, 27]) rfl rfl (qn0 HT_.out (by kernel_rfl)) (fun _ _ _ h => h) (Or.inl ⟨by rfl, ?_⟩) ?_ ?_
             rotate_left
             ·intro w'
              go_simp
              with_reducible rfl
             rotate_left
             ·simp only [Act.put, List.setIfInBounds_toArray, List.set_cons_zero, List.set_cons_succ, i64_w, i32_w]
              rfl
             refine pure_ (i := 10) (N := some 53) (v := ?_) (a' := ?_) (rb4 [11, 26]) rfl rfl (qn0 HT_.out (by kernel_rfl)) (fun _ _ _ h => h) (Or.inl ⟨by rfl, ?_⟩) ?_ ?_
             rotate_left
             ·intro w'
              go_simp
              with_reducible rfl
             rotate_left
             ·simp only [Act.put, List.setIfInBounds_toArray, List.set_cons_zero, List.set_cons_succ, i64_w, i32_w]
              rfl
             refine pure_ (i := 11) (N := some 54) (v := ?_) (a' := ?_) (rb4 [12, 25]) rfl rfl (qn0 HT_.out (by kernel_rfl)) (fun _ _ _ h => h) (Or.inl ⟨by rfl, ?_⟩) ?_ ?_
             rotate_left
             ·intro w'
              go_simp
              with_reducible rfl
             rotate_left
             ·simp only [Act.put, List.setIfInBounds_toArray, List.set_cons_zero, List.set_cons_succ, i64_w, i32_w]
              rfl
             refine pure_ (i := 13) (N := some 56) (v := ?_) (a' := ?_) (rb4 [12, 1, 1, 23]) rfl rfl (qn0 HT_.out (by kernel_rfl)) (fun _ _ _ h => h) (Or.inl ⟨by rfl, ?_⟩) ?_ ?_
             rotate_left
             ·intro w'
              go_simp
              with_reducible rfl
             rotate_left
             ·simp only [Act.put, List.setIfInBounds_toArray, List.set_cons_zero, List.set_cons_succ, i64_w, i32_w]
              rfl
             refine take_ (i := 12) (N := some 55) (v := ?_) (a' := ?_) (rb4 [14, 23]) rfl rfl (qa1 HT_.out HW_.out (by kernel_rfl)) (fun _ _ _ h => h) (Or.inl ⟨by rfl, ?_⟩) hHeld ?_ ?_
             rotate_left
             ·rintro w' ⟨s0, s1, s2, s3, s4, s5, s6, s7, s8, s9, s10, s11⟩
              go_simp
              with_reducible rfl
             rotate_left
             ·simp only [Act.put, List.setIfInBounds_toArray, List.set_cons_zero, List.set_cons_succ, i64_w, i32_w]
              rfl
             refine take_ (i := 14) (N := some 57) (v := ?_) (a' := ?_) (rb4 [15, 22]) rfl rfl (qa1 HT_.out HW_.out (by kernel_rfl)) (fun _ _ _ h => h) (Or.inl ⟨by rfl, ?_⟩) hHeld ?_ ?_
             rotate_left
             ·rintro w' ⟨s0, s1, s2, s3, s4, s5, s6, s7, s8, s9, s10, s11⟩
              go_simp
              with_reducible rfl
             rotate_left
             ·simp only [Act.put, List.setIfInBounds_toArray, List.set_cons_zero, List.set_cons_succ, i64_w, i32_w]
              rfl
             refine pure_ (i := 15) (N := some 58) (v := ?_) (a' := ?_) (rb4 [16, 21]) rfl rfl (qn0 HT_.out (by kernel_rfl)) (fun _ _ _ h => h) (Or.inl ⟨by rfl, ?_⟩) ?_ ?_
             rotate_left
             ·intro w'
              go_simp
              with_reducible rfl
             rotate_left
             ·simp only [Act.put, List.setIfInBounds_toArray, List.set_cons_zero, List.set_cons_succ, i64_w, i32_w]
              rfl
             refine pure_ (i := 16) (N := some 59) (v := ?_) (a' := ?_) (rb4 [17, 20]) rfl rfl (qn0 HT_.out (by kernel_rfl)) (fun _ _ _ h => h) (Or.inl ⟨by rfl, ?_⟩) ?_ ?_
             rotate_left
             ·intro w'
              go_simp
              with_reducible rfl
             rotate_left
             ·simp only [Act.put, List.setIfInBounds_toArray, List.set_cons_zero, List.set_cons_succ, i64_w, i32_w]
              rfl
             refine pure_ (i := 17) (N := some 60) (v := ?_) (a' := ?_) (rb4 [18, 19]) rfl rfl (qn0 HT_.out (by kernel_rfl)) (fun _ _ _ h => h) (Or.inl ⟨by rfl, ?_⟩) ?_ ?_
             rotate_left
             ·intro w'
              go_simp
              with_reducible rfl
             rotate_left
             ·simp only [Act.put, List.setIfInBounds_toArray, List.set_cons_zero, List.set_cons_succ, i64_w, i32_w]
              rfl
             refine pure_ (i := 18) (N := some 61) (v := ?_) (a' := ?_) (rb4 [19, 18]) rfl rfl (qn0 HT_.out (by kernel_rfl)) (fun _ _ _ h => h) (Or.inl ⟨by rfl, ?_⟩) ?_ ?_
             rotate_left
             ·intro w'
              go_simp
              with_reducible rfl
             rotate_left
             ·simp only [Act.put, List.setIfInBounds_toArray, List.set_cons_zero, List.set_cons_succ, i64_w, i32_w]
              rfl
             refine pure_ (i := 19) (N := some 62) (v := ?_) (a' := ?_) (rb4 [20, 17]) rfl rfl (qn0 HT_.out (by kernel_rfl)) (fun _ _ _ h => h) (Or.inl ⟨by rfl, ?_⟩) ?_ ?_
             rotate_left
             ·intro w'
              go_simp
              with_reducible rfl
             rotate_left
             ·simp only [Act.put, List.setIfInBounds_toArray, List.set_cons_zero, List.set_cons_succ, i64_w, i32_w]
              rfl
             refine one_ (i := 20) (N := some 63) (rb4 [21, 16]) rfl rfl (one_of HT_.out (by kernel_rfl)) (by decide) (fun K hK => ?_)
             refine goes_ Try.func92 (by kernel_rfl) rfl #[.slice Ao45 x10_2.length co45, .int .i64 x12_3] (by rfl) rfl rfl (by (try simp only [List.map_toArray, List.map_cons, List.map_nil]); first | done | rfl | (simp only [List.length_drop, List.length_take]; rfl)) ?_
             with_reducible refine (spec_l7Has.calls k3 _ _ x10_2 x12_3 false _ ?side1 ?side2 A25.out).mono ?_
             (case side1 => repeat (first | exact (Kd.qq0 HO_10.out).2.2 | (with_reducible refine Kd.qw0 ?_ _) | (with_reducible refine Kd.qv0 ?_ _) | (with_reducible refine Kd.qz0 ?_)))
             (case side2 => exact (Kd.qq0 HO_10.out).2.1)
             rintro e w' ⟨rfl, ⟨nd, rfl⟩⟩
             refine ⟨_, rfl, ?_⟩
             refine hK.out _ _ ⟨(qe0 BK136.out 0).trans rfl, (qe0 BK136.out 1).trans rfl, (qe0 BK136.out 2).trans rfl, (qe0 BK136.out 3).trans rfl, (qe0 BK136.out 4).trans rfl, (qe0 BK136.out 5).trans rfl, ((HB.out.cell (World.block_lt_of_cell? w _ hw138_0)).trans hw138_0), ((HB.out.cell (World.block_lt_of_cell? w _ hw138_1)).trans hw138_1), ((HB.out.cell (World.block_lt_of_cell? w _ hw138_2)).trans hw138_2), ((HB.out.cell (World.block_lt_of_cell? w _ hw138_3)).trans hw138_3), ((HB.out.cell (World.block_lt_of_cell? w _ hw138_4)).trans hw138_4), ((HB.out.cell (World.block_lt_of_cell? w _ hw138_5)).trans hw138_5)⟩ (fun hHeld => ?_)
             clear hK K
             refine norm_ (a' := ?_) ?_ ?_
             rotate_left
             ·show Act.put _ (some 63) _ = _
              simp only [Act.put, List.setIfInBounds_toArray, List.set_cons_zero, List.set_cons_succ, i64_w, i32_w]
              rfl
             refine pure_ (i := 21) (N := some 64) (v := ?_) (a' := ?_) (rb4 [22, 15]) rfl rfl (qn0 HT_.out (by kernel_rfl)) (fun _ _ _ h => h) (Or.inl ⟨by rfl, ?_⟩) ?_ ?_
             rotate_left
             ·intro w'
              go_simp
              with_reducible rfl
             rotate_left
             ·simp only [Act.put, List.setIfInBounds_toArray, List.set_cons_zero, List.set_cons_succ, i64_w, i32_w]
              rfl
             refine pure_ (i := 22) (N := some 65) (v := ?_) (a' := ?_) (rb4 [23, 14]) rfl rfl (qn0 HT_.out (by kernel_rfl)) (fun _ _ _ h => h) (Or.inl ⟨by rfl, ?_⟩) ?_ ?_
             rotate_left
             ·intro w'
              go_simp
              with_reducible rfl
             rotate_left
             ·simp only [Act.put, List.setIfInBounds_toArray, List.set_cons_zero, List.set_cons_succ, i64_w, i32_w]
              rfl
             refine pure_ (i := 23) (N := some 66) (v := ?_) (a' := ?_) (rb4 [24, 13]) rfl rfl (qn0 HT_.out (by kernel_rfl)) (fun _ _ _ h => h) (Or.inl ⟨by rfl, ?_⟩) ?_ ?_
             rotate_left
             ·intro w'
              go_simp
              with_reducible rfl
             rotate_left
             ·simp only [Act.put, List.setIfInBounds_toArray, List.set_cons_zero, List.set_cons_succ, i64_w, i32_w]
              rfl
             refine pure_ (i := 24) (N := some 67) (v := ?_) (a' := ?_) (rb4 [25, 12]) rfl rfl (qn0 HT_.out (by kernel_rfl)) (fun _ _ _ h => h) (Or.inl ⟨by rfl, ?_⟩) ?_ ?_
             rotate_left
             ·intro w'
              go_simp
              with_reducible rfl
             rotate_left
             ·simp only [Act.put, List.setIfInBounds_toArray, List.set_cons_zero, List.set_cons_succ, i64_w, i32_w]
              rfl
             refine pure_ (i := 25) (N := some 68) (v := ?_) (a' := ?_) (rb4 [26, 11]) rfl rfl (qn0 HT_.out (by kernel_rfl)) (fun _ _ _ h => h) (Or.inl ⟨by rfl, ?_⟩) ?_ ?_
             rotate_left
             ·intro w'
              go_simp
              with_reducible rfl
             rotate_left
             ·simp only [Act.put, List.setIfInBounds_toArray, List.set_cons_zero, List.set_cons_succ, i64_w, i32_w]
              rfl
             refine pure_ (i := 26) (N := some 69) (v := ?_) (a' := ?_) (rb4 [27, 10]) rfl rfl (qn0 HT_.out (by kernel_rfl)) (fun _ _ _ h => h) (Or.inl ⟨by rfl, ?_⟩) ?_ ?_
             rotate_left
             ·intro w'
              go_simp
              with_reducible rfl
             rotate_left
             ·simp only [Act.put, List.setIfInBounds_toArray, List.set_cons_zero, List.set_cons_succ, i64_w, i32_w]
              rfl
             refine pure_ (i := 27) (N := some 70) (v := ?_) (a' := ?_) (rb4 [28, 9]) rfl rfl (qn0 HT_.out (by kernel_rfl)) (fun _ _ _ h => h) (Or.inl ⟨by rfl, ?_⟩) ?_ ?_
             rotate_left
             ·intro w'
              go_simp
              with_reducible rfl
             rotate_left
             ·simp only [Act.put, List.setIfInBounds_toArray, List.set_cons_zero, List.set_cons_succ, i64_w, i32_w]
              rfl
             refine pure_ (i := 29) (N := some 72) (v := ?_) (a' := ?_) (rb4 [28, 1, 1, 7]) rfl rfl (qn0 HT_.out (by kernel_rfl)) (fun _ _ _ h => h) (Or.inl ⟨by rfl, ?_⟩) ?_ ?_
             rotate_left
             ·intro w'
              go_simp
              with_reducible rfl
             rotate_left
             ·simp only [Act.put, List.setIfInBounds_toArray, List.set_cons_zero, List.set_cons_succ, i64_w, i32_w]
              rfl
             refine pure_ (i := 30) (N := some 73) (v := ?_) (a' := ?_) (rb4 [28, 1, 2, 6]) rfl rfl (qn0 HT_.out (by kernel_rfl)) (fun _ _ _ h => h) (Or.inl ⟨by rfl, ?_⟩) ?_ ?_
             rotate_left
             ·intro w'
              go_simp
              with_reducible rfl
             rotate_left
             ·simp only [Act.put, List.setIfInBounds_toArray, List.set_cons_zero, List.set_cons_succ, i64_w, i32_w]
              rfl
             refine pure_ (i := 31) (N := some 74) (v := ?_) (a' := ?_) (rb4 [28, 1, 3, 5]) rfl rfl (qn0 HT_.out (by kernel_rfl)) (fun _ _ _ h => h) (Or.inl ⟨by rfl, ?_⟩) ?_ ?_
             rotate_left
             ·intro w'
              go_simp
              with_reducible rfl
             rotate_left
             ·simp only [Act.put, List.setIfInBounds_toArray, List.set_cons_zero, List.set_cons_succ, i64_w, i32_w]
              rfl
             refine pure_ (i := 32) (N := some 75) (v := ?_) (a' := ?_) (rb4 [28, 1, 4, 4]) rfl rfl (qn0 HT_.out (by kernel_rfl)) (fun _ _ _ h => h) (Or.inl ⟨by rfl, ?_⟩) ?_ ?_
             rotate_left
             ·intro w'
              go_simp
              with_reducible rfl
             rotate_left
             ·simp only [Act.put, List.setIfInBounds_toArray, List.set_cons_zero, List.set_cons_succ, i64_w, i32_w]
              rfl
             refine take_ (i := 28) (N := some 71) (v := ?_) (a' := ?_) (rb4 [33, 4]) rfl rfl (qa1 HT_.out HW_.out (by kernel_rfl)) (fun _ _ _ h => h) (Or.inl ⟨by rfl, ?_⟩) hHeld ?_ ?_
             rotate_left
             ·rintro w' ⟨s0, s1, s2, s3, s4, s5, s6, s7, s8, s9, s10, s11⟩
              go_simp
              with_reducible rfl
             rotate_left
             ·simp only [Act.put, List.setIfInBounds_toArray, List.set_cons_zero, List.set_cons_succ, i64_w, i32_w]
              rfl
             refine take_ (i := 33) (N := some 76) (v := ?_) (a' := ?_) (rb4 [34, 3]) rfl rfl (qa1 HT_.out HW_.out (by kernel_rfl)) (fun _ _ _ h => h) (Or.inl ⟨by rfl, ?_⟩) hHeld ?_ ?_
             rotate_left
             ·rintro w' ⟨s0, s1, s2, s3, s4, s5, s6, s7, s8, s9, s10, s11⟩
              go_simp
              with_reducible rfl
             rotate_left
             ·simp only [Act.put, List.setIfInBounds_toArray, List.set_cons_zero, List.set_cons_succ, i64_w, i32_w]
              rfl
             refine pure_ (i := 34) (N := some 77) (v := ?_) (a' := ?_) (rb4 [35, 2]) rfl rfl (qn0 HT_.out (by kernel_rfl)) (fun _ _ _ h => h) (Or.inl ⟨by rfl, ?_⟩) ?_ ?_
             rotate_left
             ·intro w'
              go_simp
              with_reducible rfl
             rotate_left
             ·simp only [Act.put, List.setIfInBounds_toArray, List.set_cons_zero, List.set_cons_succ, i64_w, i32_w]
              rfl
             refine pure_ (i := 35) (N := some 78) (v := ?_) (a' := ?_) (rb4 [36, 1]) rfl rfl (qn0 HT_.out (by kernel_rfl)) (fun _ _ _ h => h) (Or.inl ⟨by rfl, ?_⟩) ?_ ?_
             rotate_left
             ·intro w'
              go_simp
              with_reducible rfl
             rotate_left
             ·simp only [Act.put, List.setIfInBounds_toArray, List.set_cons_zero, List.set_cons_succ, i64_w, i32_w]
              rfl
             refine pure_ (i := 36) (N := some 79) (v := ?_) (a' := ?_) (rb4 [37]) rfl rfl (qn0 HT_.out (by kernel_rfl)) (fun _ _ _ h => h) (Or.inl ⟨by rfl, ?_⟩) ?_ ?_
             rotate_left
             ·intro w'
              go_simp
              with_reducible rfl
             rotate_left
             ·simp only [Act.put, List.setIfInBounds_toArray, List.set_cons_zero, List.set_cons_succ, i64_w, i32_w]
              rfl
             refine done_ (done_of HT_.out (by kernel_rfl)) ?_
             try go_wp2
             go_roundg k3
             case measure => have := HJ4.out; have := HK2.out; have := HK3.out; omega
             case rel => exact ⟨(x12_3), (wrap64 (x12_3 + 1)), (by first | rfl | (simp; done) | (simp [*]; done)), (by first | rfl | (simp; done) | (simp [*]; done)), H', ⟨by have := HJ4.out; have := HK2.out; have := HK3.out; omega⟩, ⟨by (with_reducible repeat (first | apply Kd.ql0 | apply Kd.qk0 | apply Kd.qo0)); exact HO_9.out⟩, ⟨by (with_reducible repeat (first | apply Kd.ql0 | apply Kd.qk0 | apply Kd.qo0)); exact HO_10.out⟩, ⟨by repeat (first | (with_reducible first | exact HB.out | apply qc0 | apply qa0 | apply qb0 | refine qh0 ?_ GE136.out) | exact HB.out)⟩⟩
            rw [if_neg c40] at H
            have c40b0 : decide (((rd_T160 l0 x12_3).f3) < ((rd_T160 l0 x11_3).f3)) = false := decide_eq_false c40
            clear c40
            have H' := Aside0.mk H
            clear H
            have p135 : 0 ≤ (x12_3 : Int) := of_decide_eq_true (by first | (with_reducible assumption) | assumption)
            have q135 : x12_3 < (l0.length : Int) := of_decide_eq_true (by first | (with_reducible assumption) | assumption)
            obtain ⟨ad135, e135, hx135_0, hx135_1, hx135_2, hx135_3, hx135_4, hx135_5⟩ := at_T160 HR0.out x12_3 p135 q135
            cases e135
            replace hx135_0 := (HB.out.cell (World.block_lt_of_cell? w _ hx135_0)).trans hx135_0
            replace hx135_1 := (HB.out.cell (World.block_lt_of_cell? w _ hx135_1)).trans hx135_1
            replace hx135_2 := (HB.out.cell (World.block_lt_of_cell? w _ hx135_2)).trans hx135_2
            replace hx135_3 := (HB.out.cell (World.block_lt_of_cell? w _ hx135_3)).trans hx135_3
            replace hx135_4 := (HB.out.cell (World.block_lt_of_cell? w _ hx135_4)).trans hx135_4
            replace hx135_5 := (HB.out.cell (World.block_lt_of_cell? w _ hx135_5)).trans hx135_5
            replace p135 := eq_true p135
            replace q135 := eq_true q135
            try go_wp2_with (first | ((with_reducible refine qs0 (N := 13) rfl ?_); refine qt0 ?hg (N := 13) ?hd (cs := #[.string (⟨#[]⟩ : ByteArray), .string (⟨#[]⟩ : ByteArray), .string (⟨#[]⟩ : ByteArray), .int .i64 0, .int .i64 0, .int .i64 0]) (t := 160) ?hr ?_; (case hd => rfl); (case hg => rfl); (case hr => first | (go_simp; done) | (go_simp; rfl)); intro gb136 hg w46 hbox hb; have n0_ := Aside0.mk (Kd.qr0 (by (with_reducible repeat (first | apply Kd.ql0 | apply Kd.qk0 | apply Kd.qo0)); exact HO_9.out) hb); have n1_ := Aside0.mk (Kd.qr0 (by (with_reducible repeat (first | apply Kd.ql0 | apply Kd.qk0 | apply Kd.qo0)); exact HO_10.out) hb); have n2_ := Aside0.mk (qm0 (by repeat (first | (with_reducible first | exact HB.out | apply qc0 | apply qa0 | apply qb0) | exact HB.out)) hb); have n3_ := Aside0.mk (hbox); have n4_ := Aside0.mk ((by rw [hg]; exact (qi0 (by repeat (first | (with_reducible first | exact HB.out | apply qc0 | apply qa0 | apply qb0) | exact HB.out))) : w.heap.size ≤ gb136)); have n5_ := Aside0.mk ((by rw [hg]; exact (qi0 (by repeat (first | (with_reducible first | exact HB.out | apply qc0 | apply qa0 | apply qb0) | exact HB.out))) : w.heap.size ≤ gb136)); clear HO_9; clear HO_10; clear HB; have HO_9 := n0_; have HO_10 := n1_; have HB := n2_; have BK136 := n3_; have GW136 := n4_; have GE136 := n5_; clear n0_ n1_ n2_ n3_ n4_ n5_; clear hb hbox hg; have hcz47_0 : w46.cell? ⟨gb136, 0, none⟩ = some (.string (⟨#[]⟩ : ByteArray)) := (qe0 BK136.out 0).trans rfl; have hcz47_1 : w46.cell? ⟨gb136, 1, none⟩ = some (.string (⟨#[]⟩ : ByteArray)) := (qe0 BK136.out 1).trans rfl; have hcz47_2 : w46.cell? ⟨gb136, 2, none⟩ = some (.string (⟨#[]⟩ : ByteArray)) := (qe0 BK136.out 2).trans rfl; have hcz47_3 : w46.cell? ⟨gb136, 3, none⟩ = some (.int .i64 0) := (qe0 BK136.out 3).trans rfl; have hcz47_4 : w46.cell? ⟨gb136, 4, none⟩ = some (.int .i64 0) := (qe0 BK136.out 4).trans rfl; have hcz47_5 : w46.cell? ⟨gb136, 5, none⟩ = some (.int .i64 0) := (qe0 BK136.out 5).trans rfl; have hfz47_0 := qd0 BK136.out 0; have hfz47_1 := qd0 BK136.out 1; have hfz47_2 := qd0 BK136.out 2; have hfz47_3 := qd0 BK136.out 3; have hfz47_4 := qd0 BK136.out 4; have hfz47_5 := qd0 BK136.out 5))
            have n0_ : Aside0 (Kd.R k162 162 ((((((w46.setCell ⟨gb136, 0, none⟩ (.string ((rd_T160 l0 x12_3).f0))).setCell ⟨gb136, 1, none⟩ (.string ((rd_T160 l0 x12_3).f1))).setCell ⟨gb136, 2, none⟩ (.string ((rd_T160 l0 x12_3).f2))).setCell ⟨gb136, 3, none⟩ (.int .i64 ((rd_T160 l0 x12_3).f3))).setCell ⟨gb136, 4, none⟩ (.int .i64 ((rd_T160 l0 x12_3).f4))).setCell ⟨gb136, 5, none⟩ (.int .i64 ((rd_T160 l0 x12_3).f5))) w.heap.size (fun _ => True) u9 x9_2) := ⟨by (with_reducible repeat (first | apply Kd.ql0 | apply Kd.qk0 | apply Kd.qo0)); exact Kd.qb1 (Kd.R_far (p := ⟨gb136, 5, none⟩) (Kd.R_far (p := ⟨gb136, 4, none⟩) (Kd.R_far (p := ⟨gb136, 3, none⟩) (Kd.R_far (p := ⟨gb136, 2, none⟩) (Kd.R_far (p := ⟨gb136, 1, none⟩) (Kd.R_far (p := ⟨gb136, 0, none⟩) (Kd.qm1 HO_9.out BK136.out (by decide)) (fun _ hk => hk.2) (.string ((rd_T160 l0 x12_3).f0))) (fun _ hk => hk.2) (.string ((rd_T160 l0 x12_3).f1))) (fun _ hk => hk.2) (.string ((rd_T160 l0 x12_3).f2))) (fun _ hk => hk.2) (.int .i64 ((rd_T160 l0 x12_3).f3))) (fun _ hk => hk.2) (.int .i64 ((rd_T160 l0 x12_3).f4))) (fun _ hk => hk.2) (.int .i64 ((rd_T160 l0 x12_3).f5))) (fun _ hk => trivial)⟩
            have n1_ : Aside0 (Kd.R (Kd.int .i64) 3 ((((((w46.setCell ⟨gb136, 0, none⟩ (.string ((rd_T160 l0 x12_3).f0))).setCell ⟨gb136, 1, none⟩ (.string ((rd_T160 l0 x12_3).f1))).setCell ⟨gb136, 2, none⟩ (.string ((rd_T160 l0 x12_3).f2))).setCell ⟨gb136, 3, none⟩ (.int .i64 ((rd_T160 l0 x12_3).f3))).setCell ⟨gb136, 4, none⟩ (.int .i64 ((rd_T160 l0 x12_3).f4))).setCell ⟨gb136, 5, none⟩ (.int .i64 ((rd_T160 l0 x12_3).f5))) w.heap.size (fun _ => True) u10 x10_2) := ⟨by (with_reducible repeat (first | apply Kd.ql0 | apply Kd.qk0 | apply Kd.qo0)); exact Kd.qb1 (Kd.R_far (p := ⟨gb136, 5, none⟩) (Kd.R_far (p := ⟨gb136, 4, none⟩) (Kd.R_far (p := ⟨gb136, 3, none⟩) (Kd.R_far (p := ⟨gb136, 2, none⟩) (Kd.R_far (p := ⟨gb136, 1, none⟩) (Kd.R_far (p := ⟨gb136, 0, none⟩) (Kd.qm1 HO_10.out BK136.out (by decide)) (fun _ hk => hk.2) (.string ((rd_T160 l0 x12_3).f0))) (fun _ hk => hk.2) (.string ((rd_T160 l0 x12_3).f1))) (fun _ hk => hk.2) (.string ((rd_T160 l0 x12_3).f2))) (fun _ hk => hk.2) (.int .i64 ((rd_T160 l0 x12_3).f3))) (fun _ hk => hk.2) (.int .i64 ((rd_T160 l0 x12_3).f4))) (fun _ hk => hk.2) (.int .i64 ((rd_T160 l0 x12_3).f5))) (fun _ hk => trivial)⟩
            have n2_ : Aside0 (((((((w46.setCell ⟨gb136, 0, none⟩ (.string ((rd_T160 l0 x12_3).f0))).setCell ⟨gb136, 1, none⟩ (.string ((rd_T160 l0 x12_3).f1))).setCell ⟨gb136, 2, none⟩ (.string ((rd_T160 l0 x12_3).f2))).setCell ⟨gb136, 3, none⟩ (.int .i64 ((rd_T160 l0 x12_3).f3))).setCell ⟨gb136, 4, none⟩ (.int .i64 ((rd_T160 l0 x12_3).f4))).setCell ⟨gb136, 5, none⟩ (.int .i64 ((rd_T160 l0 x12_3).f5))).heap[gb136]? = some (.cells #[.string ((rd_T160 l0 x12_3).f0), .string ((rd_T160 l0 x12_3).f1), .string ((rd_T160 l0 x12_3).f2), .int .i64 ((rd_T160 l0 x12_3).f3), .int .i64 ((rd_T160 l0 x12_3).f4), .int .i64 ((rd_T160 l0 x12_3).f5)] 160 (0, 0))) := ⟨by (with_reducible repeat (first | refine qf0 ?_ _ | refine qj0 ?_ | refine qg0 ?_ _)); refine qu0 (cs := #[.string ((rd_T160 l0 x12_3).f0), .string ((rd_T160 l0 x12_3).f1), .string ((rd_T160 l0 x12_3).f2), .int .i64 ((rd_T160 l0 x12_3).f3), .int .i64 ((rd_T160 l0 x12_3).f4), .int .i64 0]) ?_ 5 _ rfl; (with_reducible repeat (first | refine qf0 ?_ _ | refine qj0 ?_ | refine qg0 ?_ _)); refine qu0 (cs := #[.string ((rd_T160 l0 x12_3).f0), .string ((rd_T160 l0 x12_3).f1), .string ((rd_T160 l0 x12_3).f2), .int .i64 ((rd_T160 l0 x12_3).f3), .int .i64 0, .int .i64 0]) ?_ 4 _ rfl; (with_reducible repeat (first | refine qf0 ?_ _ | refine qj0 ?_ | refine qg0 ?_ _)); refine qu0 (cs := #[.string ((rd_T160 l0 x12_3).f0), .string ((rd_T160 l0 x12_3).f1), .string ((rd_T160 l0 x12_3).f2), .int .i64 0, .int .i64 0, .int .i64 0]) ?_ 3 _ rfl; (with_reducible repeat (first | refine qf0 ?_ _ | refine qj0 ?_ | refine qg0 ?_ _)); refine qu0 (cs := #[.string ((rd_T160 l0 x12_3).f0), .string ((rd_T160 l0 x12_3).f1), .string (⟨#[]⟩ : ByteArray), .int .i64 0, .int .i64 0, .int .i64 0]) ?_ 2 _ rfl; (with_reducible repeat (first | refine qf0 ?_ _ | refine qj0 ?_ | refine qg0 ?_ _)); refine qu0 (cs := #[.string ((rd_T160 l0 x12_3).f0), .string (⟨#[]⟩ : ByteArray), .string (⟨#[]⟩ : ByteArray), .int .i64 0, .int .i64 0, .int .i64 0]) ?_ 1 _ rfl; (with_reducible repeat (first | refine qf0 ?_ _ | refine qj0 ?_ | refine qg0 ?_ _)); refine qu0 (cs := #[.string (⟨#[]⟩ : ByteArray), .string (⟨#[]⟩ : ByteArray), .string (⟨#[]⟩ : ByteArray), .int .i64 0, .int .i64 0, .int .i64 0]) ?_ 0 _ rfl; (with_reducible repeat (first | refine qf0 ?_ _ | refine qj0 ?_ | refine qg0 ?_ _)); exact BK136.out⟩
            have n3_ : Aside0 (Below w.heap.size w ((((((w46.setCell ⟨gb136, 0, none⟩ (.string ((rd_T160 l0 x12_3).f0))).setCell ⟨gb136, 1, none⟩ (.string ((rd_T160 l0 x12_3).f1))).setCell ⟨gb136, 2, none⟩ (.string ((rd_T160 l0 x12_3).f2))).setCell ⟨gb136, 3, none⟩ (.int .i64 ((rd_T160 l0 x12_3).f3))).setCell ⟨gb136, 4, none⟩ (.int .i64 ((rd_T160 l0 x12_3).f4))).setCell ⟨gb136, 5, none⟩ (.int .i64 ((rd_T160 l0 x12_3).f5)))) := ⟨by repeat (first | (with_reducible first | exact HB.out | apply qc0 | apply qa0 | apply qb0 | refine qh0 ?_ GE136.out) | exact HB.out)⟩
            (try clear HO_9)
            (try clear HO_10)
            (try clear BK136)
            (try clear HB)
            generalize ((((((w46.setCell ⟨gb136, 0, none⟩ (.string ((rd_T160 l0 x12_3).f0))).setCell ⟨gb136, 1, none⟩ (.string ((rd_T160 l0 x12_3).f1))).setCell ⟨gb136, 2, none⟩ (.string ((rd_T160 l0 x12_3).f2))).setCell ⟨gb136, 3, none⟩ (.int .i64 ((rd_T160 l0 x12_3).f3))).setCell ⟨gb136, 4, none⟩ (.int .i64 ((rd_T160 l0 x12_3).f4))).setCell ⟨gb136, 5, none⟩ (.int .i64 ((rd_T160 l0 x12_3).f5))) = w48 at n0_ n1_ n2_ n3_ ⊢
            have HO_9 := n0_
            have HO_10 := n1_
            have BK136 := n2_
            have HB := n3_
            clear n0_ n1_ n2_ n3_
            have n0_ := Aside0.mk (Kd.qo0 HO_9.out)
            have n1_ := Aside0.mk (Kd.qo0 HO_10.out)
            have n2_ := Aside0.mk (qj0 BK136.out)
            have n3_ := Aside0.mk (qb0 HB.out)
            clear HO_9
            clear HO_10
            clear BK136
            clear HB
            have HO_9 := n0_
            have HO_10 := n1_
            have BK136 := n2_
            have HB := n3_
            clear n0_ n1_ n2_ n3_
            obtain ⟨Ao50, co50, eo50⟩ := Kd.qg1 HO_10.out
            (first | subst eo50 | (injection eo50 with f1_ f2_ f3_; have f4_ := f1_.symm; have f5_ := f3_.symm; clear f1_ f2_ f3_; subst f4_; subst f5_))
            have p138 : 0 ≤ (x11_3 : Int) := of_decide_eq_true (by first | (with_reducible assumption) | assumption)
            have q138 : x11_3 < (l0.length : Int) := of_decide_eq_true (by first | (with_reducible assumption) | assumption)
            obtain ⟨ad138, e138, hx138_0, hx138_1, hx138_2, hx138_3, hx138_4, hx138_5⟩ := at_T160 HR0.out x11_3 p138 q138
            have hw138_5 := hx138_5
            have hw138_4 := hx138_4
            have hw138_3 := hx138_3
            have hw138_2 := hx138_2
            have hw138_1 := hx138_1
            have hw138_0 := hx138_0
            obtain rfl : ad135 = ad138 := (by injection e138)
            replace hx138_0 := (HB.out.cell (World.block_lt_of_cell? w _ hx138_0)).trans hx138_0
            replace hx138_1 := (HB.out.cell (World.block_lt_of_cell? w _ hx138_1)).trans hx138_1
            replace hx138_2 := (HB.out.cell (World.block_lt_of_cell? w _ hx138_2)).trans hx138_2
            replace hx138_3 := (HB.out.cell (World.block_lt_of_cell? w _ hx138_3)).trans hx138_3
            replace hx138_4 := (HB.out.cell (World.block_lt_of_cell? w _ hx138_4)).trans hx138_4
            replace hx138_5 := (HB.out.cell (World.block_lt_of_cell? w _ hx138_5)).trans hx138_5
            replace p138 := eq_true p138
            replace q138 := eq_true q138
            refine start_ (n := 37) (S := fun w' => w'.cell? ⟨gb136, 0, none⟩ = some (.string ((rd_T160 l0 x12_3).f0)) ∧ w'.cell? ⟨gb136, 1, none⟩ = some (.string ((rd_T160 l0 x12_3).f1)) ∧ w'.cell? ⟨gb136, 2, none⟩ = some (.string ((rd_T160 l0 x12_3).f2)) ∧ w'.cell? ⟨gb136, 3, none⟩ = some (.int .i64 ((rd_T160 l0 x12_3).f3)) ∧ w'.cell? ⟨gb136, 4, none⟩ = some (.int .i64 ((rd_T160 l0 x12_3).f4)) ∧ w'.cell? ⟨gb136, 5, none⟩ = some (.int .i64 ((rd_T160 l0 x12_3).f5)) ∧ w'.cell? (ad135.add ((x11_3).toNat * 6)) = some (.string ((rd_T160 l0 x11_3).f0)) ∧ w'.cell? ⟨(ad135.add ((x11_3).toNat * 6)).block, (ad135.add ((x11_3).toNat * 6)).off + 1, none⟩ = some (.string ((rd_T160 l0 x11_3).f1)) ∧ w'.cell? ⟨(ad135.add ((x11_3).toNat * 6)).block, (ad135.add ((x11_3).toNat * 6)).off + 2, none⟩ = some (.string ((rd_T160 l0 x11_3).f2)) ∧ w'.cell? ⟨(ad135.add ((x11_3).toNat * 6)).block, (ad135.add ((x11_3).toNat * 6)).off + 3, none⟩ = some (.int .i64 ((rd_T160 l0 x11_3).f3)) ∧ w'.cell? ⟨(ad135.add ((x11_3).toNat * 6)).block, (ad135.add ((x11_3).toNat * 6)).off + 4, none⟩ = some (.int .i64 ((rd_T160 l0 x11_3).f4)) ∧ w'.cell? ⟨(ad135.add ((x11_3).toNat * 6)).block, (ad135.add ((x11_3).toNat * 6)).off + 5, none⟩ = some (.int .i64 ((rd_T160 l0 x11_3).f5))) (ds := []) (rb4 [0, 37]) (by kernel_rfl) rfl rfl ⟨(qe0 BK136.out 0).trans rfl, (qe0 BK136.out 1).trans rfl, (qe0 BK136.out 2).trans rfl, (qe0 BK136.out 3).trans rfl, (qe0 BK136.out 4).trans rfl, (qe0 BK136.out 5).trans rfl, ((HB.out.cell (World.block_lt_of_cell? w _ hw138_0)).trans hw138_0), ((HB.out.cell (World.block_lt_of_cell? w _ hw138_1)).trans hw138_1), ((HB.out.cell (World.block_lt_of_cell? w _ hw138_2)).trans hw138_2), ((HB.out.cell (World.block_lt_of_cell? w _ hw138_3)).trans hw138_3), ((HB.out.cell (World.block_lt_of_cell? w _ hw138_4)).trans hw138_4), ((HB.out.cell (World.block_lt_of_cell? w _ hw138_5)).trans hw138_5)⟩ (fun hHeld => ?_); refine with_tabW spec_Picks.tab11 spec_Picks.bits11 (fun HT_ HW_ => ?_)
            generalize w48.drew = w49 at HO_9 HO_10 BK136 HB hx138_0 hx138_1 hx138_2 hx138_3 hx138_4 hx138_5 hHeld ⊢
            refine pure_ (i := 0) (N := some 43) (v := ?_) (a' := ?_) (rb4 [1, 36]) rfl rfl (qn0 HT_.out (by kernel_rfl)) (fun _ _ _ h => h) (Or.inl ⟨by rfl, ?_⟩) ?_ ?_
            rotate_left
            ·intro w'
             go_simp
             with_reducible rfl
            rotate_left
            ·simp only [Act.put, List.setIfInBounds_toArray, List.set_cons_zero, List.set_cons_succ, i64_w, i32_w]
             rfl
            refine pure_ (i := 2) (N := some 45) (v := ?_) (a' := ?_) (rb4 [1, 1, 1, 34]) rfl rfl (qn0 HT_.out (by kernel_rfl)) (fun _ _ _ h => h) (Or.inl ⟨by rfl, ?_⟩) ?_ ?_
            rotate_left
            ·intro w'
             go_simp
             with_reducible rfl
            rotate_left
            ·simp only [Act.put, List.setIfInBounds_toArray, List.set_cons_zero, List.set_cons_succ, i64_w, i32_w]
             rfl
            refine take_ (i := 1) (N := some 44) (v := ?_) (a' := ?_) (rb4 [3, 34]) rfl rfl (qa1 HT_.out HW_.out (by kernel_rfl)) (fun _ _ _ h => h) (Or.inl ⟨by rfl, ?_⟩) hHeld ?_ ?_
            rotate_left
            ·rintro w' ⟨s0, s1, s2, s3, s4, s5, s6, s7, s8, s9, s10, s11⟩
             go_simp
             with_reducible rfl
            rotate_left
            ·simp only [Act.put, List.setIfInBounds_toArray, List.set_cons_zero, List.set_cons_succ, i64_w, i32_w]
             rfl
            refine pure_ (i := 3) (N := some 46) (v := ?_) (a' := ?_) (rb4 [4, 33]) rfl rfl (qn0 HT_.out (by kernel_rfl)) (fun _ _ _ h => h) (Or.inl ⟨by rfl, ?_⟩) ?_ ?_
            rotate_left
            ·intro w'
             go_simp
             with_reducible rfl
            rotate_left
            ·simp only [Act.put, List.setIfInBounds_toArray, List.set_cons_zero, List.set_cons_succ, i64_w, i32_w]
             rfl
            refine pure_ (i := 4) (N := some 47) (v := ?_) (a' := ?_) (rb4 [5, 32]) rfl rfl (qn0 HT_.out (by kernel_rfl)) (fun _ _ _ h => h) (Or.inl ⟨by rfl, ?_⟩) ?_ ?_
            rotate_left
            ·intro w'
             go_simp
             with_reducible rfl
            rotate_left
            ·simp only [Act.put, List.setIfInBounds_toArray, List.set_cons_zero, List.set_cons_succ, i64_w, i32_w]
             rfl
            refine pure_ (i := 5) (N := some 48) (v := ?_) (a' := ?_) (rb4 [6, 31]) rfl rfl (qn0 HT_.out (by kernel_rfl)) (fun _ _ _ h => h) (Or.inl ⟨by rfl, ?_⟩) ?_ ?_
            rotate_left
            ·intro w'
             go_simp
             with_reducible rfl
            rotate_left
            ·simp only [Act.put, List.setIfInBounds_toArray, List.set_cons_zero, List.set_cons_succ, i64_w, i32_w]
             rfl
            refine pure_ (i := 7) (N := some 50) (v := ?_) (a' := ?_) (rb4 [6, 1, 1, 29]) rfl rfl (qn0 HT_.out (by kernel_rfl)) (fun _ _ _ h => h) (Or.inl ⟨by rfl, ?_⟩) ?_ ?_
            rotate_left
            ·intro w'
             go_simp
             with_reducible rfl
            rotate_left
            ·simp only [Act.put, List.setIfInBounds_toArray, List.set_cons_zero, List.set_cons_succ, i64_w, i32_w]
             rfl
            refine take_ (i := 6) (N := some 49) (v := ?_) (a' := ?_) (rb4 [8, 29]) rfl rfl (qa1 HT_.out HW_.out (by kernel_rfl)) (fun _ _ _ h => h) (Or.inl ⟨by rfl, ?_⟩) hHeld ?_ ?_
            rotate_left
            ·rintro w' ⟨s0, s1, s2, s3, s4, s5, s6, s7, s8, s9, s10, s11⟩
             go_simp
             with_reducible rfl
            rotate_left
            ·simp only [Act.put, List.setIfInBounds_toArray, List.set_cons_zero, List.set_cons_succ, i64_w, i32_w]
             rfl
            refine pure_ (i := 8) (N := some 51) (v := ?_) (a' := ?_) (rb4 [9, 28]) rfl rfl (qn0 HT_.out (by kernel_rfl)) (fun _ _ _ h => h) (Or.inl ⟨by rfl, ?_⟩) ?_ ?_
            rotate_left
            ·intro w'
             go_simp
             with_reducible rfl
            rotate_left
            ·simp only [Act.put, List.setIfInBounds_toArray, List.set_cons_zero, List.set_cons_succ, i64_w, i32_w]
             rfl
            refine pure_ (i := 9) (N := some 52) (v := ?_) (a' := ?_) (rb4 [10, 27]) rfl rfl (qn0 HT_.out (by kernel_rfl)) (fun _ _ _ h => h) (Or.inl ⟨by rfl, ?_⟩) ?_ ?_
            rotate_left
            ·intro w'
             go_simp
             with_reducible rfl
            rotate_left
            ·simp only [Act.put, List.setIfInBounds_toArray, List.set_cons_zero, List.set_cons_succ, i64_w, i32_w]
             rfl
            refine pure_ (i := 10) (N := some 53) (v := ?_) (a' := ?_) (rb4 [11, 26]) rfl rfl (qn0 HT_.out (by kernel_rfl)) (fun _ _ _ h => h) (Or.inl ⟨by rfl, ?_⟩) ?_ ?_
            rotate_left
            ·intro w'
             go_simp
             with_reducible rfl
            rotate_left
            ·simp only [Act.put, List.setIfInBounds_toArray, List.set_cons_zero, List.set_cons_succ, i64_w, i32_w]
             rfl
            refine pure_ (i := 11) (N := some 54) (v := ?_) (a' := ?_) (rb4 [12, 25]) rfl rfl (qn0 HT_.out (by kernel_rfl)) (fun _ _ _ h => h) (Or.inl ⟨by rfl, ?_⟩) ?_ ?_
            rotate_left
            ·intro w'
             go_simp
             with_reducible rfl
            rotate_left
            ·simp only [Act.put, List.setIfInBounds_toArray, List.set_cons_zero, List.set_cons_succ, i64_w, i32_w]
             rfl
            refine pure_ (i := 13) (N := some 56) (v := ?_) (a' := ?_) (rb4 [12, 1, 1, 23]) rfl rfl (qn0 HT_.out (by kernel_rfl)) (fun _ _ _ h => h) (Or.inl ⟨by rfl, ?_⟩) ?_ ?_
            rotate_left
            ·intro w'
             go_simp
             with_reducible rfl
            rotate_left
            ·simp only [Act.put, List.setIfInBounds_toArray, List.set_cons_zero, List.set_cons_succ, i64_w, i32_w]
             rfl
            refine take_ (i := 12) (N := some 55) (v := ?_) (a' := ?_) (rb4 [14, 23]) rfl rfl (qa1 HT_.out HW_.out (by kernel_rfl)) (fun _ _ _ h => h) (Or.inl ⟨by rfl, ?_⟩) hHeld ?_ ?_
            rotate_left
            ·rintro w' ⟨s0, s1, s2, s3, s4, s5, s6, s7, s8, s9, s10, s11⟩
             go_simp
             with_reducible rfl
            rotate_left
            ·simp only [Act.put, List.setIfInBounds_toArray, List.set_cons_zero, List.set_cons_succ, i64_w, i32_w]
             rfl
            refine take_ (i := 14) (N := some 57) (v := ?_) (a' := ?_) (rb4 [15, 22]) rfl rfl (qa1 HT_.out HW_.out (by kernel_rfl)) (fun _ _ _ h => h) (Or.inl ⟨by rfl, ?_⟩) hHeld ?_ ?_
            rotate_left
            ·rintro w' ⟨s0, s1, s2, s3, s4, s5, s6, s7, s8, s9, s10, s11⟩
             go_simp
             with_reducible rfl
            rotate_left
            ·simp only [Act.put, List.setIfInBounds_toArray, List.set_cons_zero, List.set_cons_succ, i64_w, i32_w]
             rfl
            refine pure_ (i := 15) (N := some 58) (v := ?_) (a' := ?_) (rb4 [16, 21]) rfl rfl (qn0 HT_.out (by kernel_rfl)) (fun _ _ _ h => h) (Or.inl ⟨by rfl, ?_⟩) ?_ ?_
            rotate_left
            ·intro w'
             go_simp
             with_reducible rfl
            rotate_left
            ·simp only [Act.put, List.setIfInBounds_toArray, List.set_cons_zero, List.set_cons_succ, i64_w, i32_w]
             rfl
            refine pure_ (i := 16) (N := some 59) (v := ?_) (a' := ?_) (rb4 [17, 20]) rfl rfl (qn0 HT_.out (by kernel_rfl)) (fun _ _ _ h => h) (Or.inl ⟨by rfl, ?_⟩) ?_ ?_
            rotate_left
            ·intro w'
             go_simp
             with_reducible rfl
            rotate_left
            ·simp only [Act.put, List.setIfInBounds_toArray, List.set_cons_zero, List.set_cons_succ, i64_w, i32_w]
             rfl
            refine pure_ (i := 17) (N := some 60) (v := ?_) (a' := ?_) (rb4 [18, 19]) rfl rfl (qn0 HT_.out (by kernel_rfl)) (fun _ _ _ h => h) (Or.inl ⟨by rfl, ?_⟩) ?_ ?_
            rotate_left
            ·intro w'
             go_simp
             with_reducible rfl
            rotate_left
            ·simp only [Act.put, List.setIfInBounds_toArray, List.set_cons_zero, List.set_cons_succ, i64_w, i32_w]
             rfl
            refine pure_ (i := 18) (N := some 61) (v := ?_) (a' := ?_) (rb4 [19, 18]) rfl rfl (qn0 HT_.out (by kernel_rfl)) (fun _ _ _ h => h) (Or.inl ⟨by rfl, ?_⟩) ?_ ?_
            rotate_left
            ·intro w'
             go_simp
             with_reducible rfl
            rotate_left
            ·simp only [Act.put, List.setIfInBounds_toArray, List.set_cons_zero, List.set_cons_succ, i64_w, i32_w]
             rfl
            refine pure_ (i := 19) (N := some 62) (v := ?_) (a' := ?_) (rb4 [20, 17]) rfl rfl (qn0 HT_.out (by kernel_rfl)) (fun _ _ _ h => h) (Or.inl ⟨by rfl, ?_⟩) ?_ ?_
            rotate_left
            ·intro w'
             go_simp
             with_reducible rfl
            rotate_left
            ·simp only [Act.put, List.setIfInBounds_toArray, List.set_cons_zero, List.set_cons_succ, i64_w, i32_w]
             rfl
            refine one_ (i := 20) (N := some 63) (rb4 [21, 16]) rfl rfl (one_of HT_.out (by kernel_rfl)) (by decide) (fun K hK => ?_)
            refine goes_ Try.func92 (by kernel_rfl) rfl #[.slice Ao50 x10_2.length co50, .int .i64 x12_3] (by rfl) rfl rfl (by (try simp only [List.map_toArray, List.map_cons, List.map_nil]); first | done | rfl | (simp only [List.length_drop, List.length_take]; rfl)) ?_
            with_reducible refine (spec_l7Has.calls k3 _ _ x10_2 x12_3 false _ ?side1 ?side2 A25.out).mono ?_
            (case side1 => repeat (first | exact (Kd.qq0 HO_10.out).2.2 | (with_reducible refine Kd.qw0 ?_ _) | (with_reducible refine Kd.qv0 ?_ _) | (with_reducible refine Kd.qz0 ?_)))
            (case side2 => exact (Kd.qq0 HO_10.out).2.1)
            rintro e w' ⟨rfl, ⟨nd, rfl⟩⟩
            refine ⟨_, rfl, ?_⟩
            refine hK.out _ _ ⟨(qe0 BK136.out 0).trans rfl, (qe0 BK136.out 1).trans rfl, (qe0 BK136.out 2).trans rfl, (qe0 BK136.out 3).trans rfl, (qe0 BK136.out 4).trans rfl, (qe0 BK136.out 5).trans rfl, ((HB.out.cell (World.block_lt_of_cell? w _ hw138_0)).trans hw138_0), ((HB.out.cell (World.block_lt_of_cell? w _ hw138_1)).trans hw138_1), ((HB.out.cell (World.block_lt_of_cell? w _ hw138_2)).trans hw138_2), ((HB.out.cell (World.block_lt_of_cell? w _ hw138_3)).trans hw138_3), ((HB.out.cell (World.block_lt_of_cell? w _ hw138_4)).trans hw138_4), ((HB.out.cell (World.block_lt_of_cell? w _ hw138_5)).trans hw138_5)⟩ (fun hHeld => ?_)
            clear hK K
            refine norm_ (a' := ?_) ?_ ?_
            rotate_left
            ·show Act.put _ (some 63) _ = _
             simp only [Act.put, List.setIfInBounds_toArray, List.set_cons_zero, List.set_cons_succ, i64_w, i32_w]
             rfl
            refine pure_ (i := 21) (N := some 64) (v := ?_) (a' := ?_) (rb4 [22, 15]) rfl rfl (qn0 HT_.out (by kernel_rfl)) (fun _ _ _ h => h) (Or.inl ⟨by rfl, ?_⟩) ?_ ?_
            rotate_left
            ·intro w'
             go_simp
             with_reducible rfl
            rotate_left
            ·simp only [Act.put, List.setIfInBounds_toArray, List.set_cons_zero, List.set_cons_succ, i64_w, i32_w]
             rfl
            refine pure_ (i := 22) (N := some 65) (v := ?_) (a' := ?_) (rb4 [23, 14]) rfl rfl (qn0 HT_.out (by kernel_rfl)) (fun _ _ _ h => h) (Or.inl ⟨by rfl, ?_⟩) ?_ ?_
            rotate_left
            ·intro w'
             go_simp
             with_reducible rfl
            rotate_left
            ·simp only [Act.put, List.setIfInBounds_toArray, List.set_cons_zero, List.set_cons_succ, i64_w, i32_w]
             rfl
            refine pure_ (i := 23) (N := some 66) (v := ?_) (a' := ?_) (rb4 [24, 13]) rfl rfl (qn0 HT_.out (by kernel_rfl)) (fun _ _ _ h => h) (Or.inl ⟨by rfl, ?_⟩) ?_ ?_
            rotate_left
            ·intro w'
             go_simp
             with_reducible rfl
            rotate_left
            ·simp only [Act.put, List.setIfInBounds_toArray, List.set_cons_zero, List.set_cons_succ, i64_w, i32_w]
             rfl
            refine pure_ (i := 24) (N := some 67) (v := ?_) (a' := ?_) (rb4 [25, 12]) rfl rfl (qn0 HT_.out (by kernel_rfl)) (fun _ _ _ h => h) (Or.inl ⟨by rfl, ?_⟩) ?_ ?_
            rotate_left
            ·intro w'
             go_simp
             with_reducible rfl
            rotate_left
            ·simp only [Act.put, List.setIfInBounds_toArray, List.set_cons_zero, List.set_cons_succ, i64_w, i32_w]
             rfl
            refine pure_ (i := 25) (N := some 68) (v := ?_) (a' := ?_) (rb4 [26, 11]) rfl rfl (qn0 HT_.out (by kernel_rfl)) (fun _ _ _ h => h) (Or.inl ⟨by rfl, ?_⟩) ?_ ?_
            rotate_left
            ·intro w'
             go_simp
             with_reducible rfl
            rotate_left
            ·simp only [Act.put, List.setIfInBounds_toArray, List.set_cons_zero, List.set_cons_succ, i64_w, i32_w]
             rfl
            refine pure_ (i := 26) (N := some 69) (v := ?_) (a' := ?_) (rb4 [27, 10]) rfl rfl (qn0 HT_.out (by kernel_rfl)) (fun _ _ _ h => h) (Or.inl ⟨by rfl, ?_⟩) ?_ ?_
            rotate_left
            ·intro w'
             go_simp
             with_reducible rfl
            rotate_left
            ·simp only [Act.put, List.setIfInBounds_toArray, List.set_cons_zero, List.set_cons_succ, i64_w, i32_w]
             rfl
            refine pure_ (i := 27) (N := some 70) (v := ?_) (a' := ?_) (rb4 [28, 9]) rfl rfl (qn0 HT_.out (by kernel_rfl)) (fun _ _ _ h => h) (Or.inl ⟨by rfl, ?_⟩) ?_ ?_
            rotate_left
            ·intro w'
             go_simp
             with_reducible rfl
            rotate_left
            ·simp only [Act.put, List.setIfInBounds_toArray, List.set_cons_zero, List.set_cons_succ, i64_w, i32_w]
             rfl
            refine pure_ (i := 29) (N := some 72) (v := ?_) (a' := ?_) (rb4 [28, 1, 1, 7]) rfl rfl (qn0 HT_.out (by kernel_rfl)) (fun _ _ _ h => h) (Or.inl ⟨by rfl, ?_⟩) ?_ ?_
            rotate_left
            ·intro w'
             go_simp
             with_reducible rfl
            rotate_left
            ·simp only [Act.put, List.setIfInBounds_toArray, List.set_cons_zero, List.set_cons_succ, i64_w, i32_w]
             rfl
            refine pure_ (i := 30) (N := some 73) (v := ?_) (a' := ?_) (rb4 [28, 1, 2, 6]) rfl rfl (qn0 HT_.out (by kernel_rfl)) (fun _ _ _ h => h) (Or.inl ⟨by rfl, ?_⟩) ?_ ?_
            rotate_left
            ·intro w'
             go_simp
             with_reducible rfl
            rotate_left
            ·simp only [Act.put, List.setIfInBounds_toArray, List.set_cons_zero, List.set_cons_succ, i64_w, i32_w]
             rfl
            refine pure_ (i := 31) (N := some 74) (v := ?_) (a' := ?_) (rb4 [28, 1, 3, 5]) rfl rfl (qn0 HT_.out (by kernel_rfl)) (fun _ _ _ h => h) (Or.inl ⟨by rfl, ?_⟩) ?_ ?_
            rotate_left
            ·intro w'
             go_simp
             with_reducible rfl
            rotate_left
            ·simp only [Act.put, List.setIfInBounds_toArray, List.set_cons_zero, List.set_cons_succ, i64_w, i32_w]
             rfl
            refine pure_ (i := 32) (N := some 75) (v := ?_) (a' := ?_) (rb4 [28, 1, 4, 4]) rfl rfl (qn0 HT_.out (by kernel_rfl)) (fun _ _ _ h => h) (Or.inl ⟨by rfl, ?_⟩) ?_ ?_
            rotate_left
            ·intro w'
             go_simp
             with_reducible rfl
            rotate_left
            ·simp only [Act.put, List.setIfInBounds_toArray, List.set_cons_zero, List.set_cons_succ, i64_w, i32_w]
             rfl
            refine take_ (i := 28) (N := some 71) (v := ?_) (a' := ?_) (rb4 [33, 4]) rfl rfl (qa1 HT_.out HW_.out (by kernel_rfl)) (fun _ _ _ h => h) (Or.inl ⟨by rfl, ?_⟩) hHeld ?_ ?_
            rotate_left
            ·rintro w' ⟨s0, s1, s2, s3, s4, s5, s6, s7, s8, s9, s10, s11⟩
             go_simp
             with_reducible rfl
            rotate_left
            ·simp only [Act.put, List.setIfInBounds_toArray, List.set_cons_zero, List.set_cons_succ, i64_w, i32_w]
             rfl
            refine take_ (i := 33) (N := some 76) (v := ?_) (a' := ?_) (rb4 [34, 3]) rfl rfl (qa1 HT_.out HW_.out (by kernel_rfl)) (fun _ _ _ h => h) (Or.inl ⟨by rfl, ?_⟩) hHeld ?_ ?_
            rotate_left
            ·rintro w' ⟨s0, s1, s2, s3, s4, s5, s6, s7, s8, s9, s10, s11⟩
             go_simp
             with_reducible rfl
            rotate_left
            ·simp only [Act.put, List.setIfInBounds_toArray, List.set_cons_zero, List.set_cons_succ, i64_w, i32_w]
             rfl
            refine pure_ (i := 34) (N := some 77) (v := ?_) (a' := ?_) (rb4 [35, 2]) rfl rfl (qn0 HT_.out (by kernel_rfl)) (fun _ _ _ h => h) (Or.inl ⟨by rfl, ?_⟩) ?_ ?_
            rotate_left
            ·intro w'
             go_simp
             with_reducible rfl
            rotate_left
            ·simp only [Act.put, List.setIfInBounds_toArray, List.set_cons_zero, List.set_cons_succ, i64_w, i32_w]
             rfl
            refine pure_ (i := 35) (N := some 78) (v := ?_) (a' := ?_) (rb4 [36, 1]) rfl rfl (qn0 HT_.out (by kernel_rfl)) (fun _ _ _ h => h) (Or.inl ⟨by rfl, ?_⟩) ?_ ?_
            rotate_left
            ·intro w'
             go_simp
             with_reducible rfl
            rotate_left
            ·simp only [Act.put, List.setIfInBounds_toArray, List.set_cons_zero, List.set_cons_succ, i64_w, i32_w]
             rfl
            refine pure_ (i := 36) (N := some 79) (v := ?_) (a' := ?_) (rb4 [37]) rfl rfl (qn0 HT_.out (by kernel_rfl)) (fun _ _ _ h => h) (Or.inl ⟨by rfl, ?_⟩) ?_ ?_
            rotate_left
            ·intro w'
             go_simp
             with_reducible rfl
            rotate_left
            ·simp only [Act.put, List.setIfInBounds_toArray, List.set_cons_zero, List.set_cons_succ, i64_w, i32_w]
             rfl
            refine done_ (done_of HT_.out (by kernel_rfl)) ?_
            try go_wp2
            go_roundg k3
            case measure => have := HJ4.out; have := HK2.out; have := HK3.out; omega
            case rel => exact ⟨(x11_3), (wrap64 (x12_3 + 1)), (by first | rfl | (simp; done) | (simp [*]; done)), (by first | rfl | (simp; done) | (simp [*]; done)), H', ⟨by have := HJ4.out; have := HK2.out; have := HK3.out; omega⟩, ⟨by (with_reducible repeat (first | apply Kd.ql0 | apply Kd.qk0 | apply Kd.qo0)); exact HO_9.out⟩, ⟨by (with_reducible repeat (first | apply Kd.ql0 | apply Kd.qk0 | apply Kd.qo0)); exact HO_10.out⟩, ⟨by repeat (first | (with_reducible first | exact HB.out | apply qc0 | apply qa0 | apply qb0 | refine qh0 ?_ GE136.out) | exact HB.out)⟩⟩
           rw [if_neg c24] at H
           have c24b0 : decide (((rd_T160 l0 x12_3).f5) < ((rd_T160 l0 x12_3).f4)) = false := decide_eq_false c24
           clear c24
           have H' := Aside0.mk H
           clear H
           have p135 : 0 ≤ (x12_3 : Int) := of_decide_eq_true (by first | (with_reducible assumption) | assumption)
           have q135 : x12_3 < (l0.length : Int) := of_decide_eq_true (by first | (with_reducible assumption) | assumption)
           obtain ⟨ad135, e135, hx135_0, hx135_1, hx135_2, hx135_3, hx135_4, hx135_5⟩ := at_T160 HR0.out x12_3 p135 q135
           cases e135
           replace hx135_0 := (HB.out.cell (World.block_lt_of_cell? w _ hx135_0)).trans hx135_0
           replace hx135_1 := (HB.out.cell (World.block_lt_of_cell? w _ hx135_1)).trans hx135_1
           replace hx135_2 := (HB.out.cell (World.block_lt_of_cell? w _ hx135_2)).trans hx135_2
           replace hx135_3 := (HB.out.cell (World.block_lt_of_cell? w _ hx135_3)).trans hx135_3
           replace hx135_4 := (HB.out.cell (World.block_lt_of_cell? w _ hx135_4)).trans hx135_4
           replace hx135_5 := (HB.out.cell (World.block_lt_of_cell? w _ hx135_5)).trans hx135_5
           replace p135 := eq_true p135
           replace q135 := eq_true q135
           try go_wp2_with (first | ((with_reducible refine qs0 (N := 13) rfl ?_); refine qt0 ?hg (N := 13) ?hd (cs := #[.string (⟨#[]⟩ : ByteArray), .string (⟨#[]⟩ : ByteArray), .string (⟨#[]⟩ : ByteArray), .int .i64 0, .int .i64 0, .int .i64 0]) (t := 160) ?hr ?_; (case hd => rfl); (case hg => rfl); (case hr => first | (go_simp; done) | (go_simp; rfl)); intro gb136 hg w51 hbox hb; have n0_ := Aside0.mk (Kd.qr0 (by (with_reducible repeat (first | apply Kd.ql0 | apply Kd.qk0 | apply Kd.qo0)); exact HO_9.out) hb); have n1_ := Aside0.mk (Kd.qr0 (by (with_reducible repeat (first | apply Kd.ql0 | apply Kd.qk0 | apply Kd.qo0)); exact HO_10.out) hb); have n2_ := Aside0.mk (qm0 (by repeat (first | (with_reducible first | exact HB.out | apply qc0 | apply qa0 | apply qb0) | exact HB.out)) hb); have n3_ := Aside0.mk (hbox); have n4_ := Aside0.mk ((by rw [hg]; exact (qi0 (by repeat (first | (with_reducible first | exact HB.out | apply qc0 | apply qa0 | apply qb0) | exact HB.out))) : w.heap.size ≤ gb136)); have n5_ := Aside0.mk ((by rw [hg]; exact (qi0 (by repeat (first | (with_reducible first | exact HB.out | apply qc0 | apply qa0 | apply qb0) | exact HB.out))) : w.heap.size ≤ gb136)); clear HO_9; clear HO_10; clear HB; have HO_9 := n0_; have HO_10 := n1_; have HB := n2_; have BK136 := n3_; have GW136 := n4_; have GE136 := n5_; clear n0_ n1_ n2_ n3_ n4_ n5_; clear hb hbox hg; have hcz52_0 : w51.cell? ⟨gb136, 0, none⟩ = some (.string (⟨#[]⟩ : ByteArray)) := (qe0 BK136.out 0).trans rfl; have hcz52_1 : w51.cell? ⟨gb136, 1, none⟩ = some (.string (⟨#[]⟩ : ByteArray)) := (qe0 BK136.out 1).trans rfl; have hcz52_2 : w51.cell? ⟨gb136, 2, none⟩ = some (.string (⟨#[]⟩ : ByteArray)) := (qe0 BK136.out 2).trans rfl; have hcz52_3 : w51.cell? ⟨gb136, 3, none⟩ = some (.int .i64 0) := (qe0 BK136.out 3).trans rfl; have hcz52_4 : w51.cell? ⟨gb136, 4, none⟩ = some (.int .i64 0) := (qe0 BK136.out 4).trans rfl; have hcz52_5 : w51.cell? ⟨gb136, 5, none⟩ = some (.int .i64 0) := (qe0 BK136.out 5).trans rfl; have hfz52_0 := qd0 BK136.out 0; have hfz52_1 := qd0 BK136.out 1; have hfz52_2 := qd0 BK136.out 2; have hfz52_3 := qd0 BK136.out 3; have hfz52_4 := qd0 BK136.out 4; have hfz52_5 := qd0 BK136.out 5))
           have n0_ : Aside0 (Kd.R k162 162 ((((((w51.setCell ⟨gb136, 0, none⟩ (.string ((rd_T160 l0 x12_3).f0))).setCell ⟨gb136, 1, none⟩ (.string ((rd_T160 l0 x12_3).f1))).setCell ⟨gb136, 2, none⟩ (.string ((rd_T160 l0 x12_3).f2))).setCell ⟨gb136, 3, none⟩ (.int .i64 ((rd_T160 l0 x12_3).f3))).setCell ⟨gb136, 4, none⟩ (.int .i64 ((rd_T160 l0 x12_3).f4))).setCell ⟨gb136, 5, none⟩ (.int .i64 ((rd_T160 l0 x12_3).f5))) w.heap.size (fun _ => True) u9 x9_2) := ⟨by (with_reducible repeat (first | apply Kd.ql0 | apply Kd.qk0 | apply Kd.qo0)); exact Kd.qb1 (Kd.R_far (p := ⟨gb136, 5, none⟩) (Kd.R_far (p := ⟨gb136, 4, none⟩) (Kd.R_far (p := ⟨gb136, 3, none⟩) (Kd.R_far (p := ⟨gb136, 2, none⟩) (Kd.R_far (p := ⟨gb136, 1, none⟩) (Kd.R_far (p := ⟨gb136, 0, none⟩) (Kd.qm1 HO_9.out BK136.out (by decide)) (fun _ hk => hk.2) (.string ((rd_T160 l0 x12_3).f0))) (fun _ hk => hk.2) (.string ((rd_T160 l0 x12_3).f1))) (fun _ hk => hk.2) (.string ((rd_T160 l0 x12_3).f2))) (fun _ hk => hk.2) (.int .i64 ((rd_T160 l0 x12_3).f3))) (fun _ hk => hk.2) (.int .i64 ((rd_T160 l0 x12_3).f4))) (fun _ hk => hk.2) (.int .i64 ((rd_T160 l0 x12_3).f5))) (fun _ hk => trivial)⟩
           have n1_ : Aside0 (Kd.R (Kd.int .i64) 3 ((((((w51.setCell ⟨gb136, 0, none⟩ (.string ((rd_T160 l0 x12_3).f0))).setCell ⟨gb136, 1, none⟩ (.string ((rd_T160 l0 x12_3).f1))).setCell ⟨gb136, 2, none⟩ (.string ((rd_T160 l0 x12_3).f2))).setCell ⟨gb136, 3, none⟩ (.int .i64 ((rd_T160 l0 x12_3).f3))).setCell ⟨gb136, 4, none⟩ (.int .i64 ((rd_T160 l0 x12_3).f4))).setCell ⟨gb136, 5, none⟩ (.int .i64 ((rd_T160 l0 x12_3).f5))) w.heap.size (fun _ => True) u10 x10_2) := ⟨by (with_reducible repeat (first | apply Kd.ql0 | apply Kd.qk0 | apply Kd.qo0)); exact Kd.qb1 (Kd.R_far (p := ⟨gb136, 5, none⟩) (Kd.R_far (p := ⟨gb136, 4, none⟩) (Kd.R_far (p := ⟨gb136, 3, none⟩) (Kd.R_far (p := ⟨gb136, 2, none⟩) (Kd.R_far (p := ⟨gb136, 1, none⟩) (Kd.R_far (p := ⟨gb136, 0, none⟩) (Kd.qm1 HO_10.out BK136.out (by decide)) (fun _ hk => hk.2) (.string ((rd_T160 l0 x12_3).f0))) (fun _ hk => hk.2) (.string ((rd_T160 l0 x12_3).f1))) (fun _ hk => hk.2) (.string ((rd_T160 l0 x12_3).f2))) (fun _ hk => hk.2) (.int .i64 ((rd_T160 l0 x12_3).f3))) (fun _ hk => hk.2) (.int .i64 ((rd_T160 l0 x12_3).f4))) (fun _ hk => hk.2) (.int .i64 ((rd_T160 l0 x12_3).f5))) (fun _ hk => trivial)⟩
           have n2_ : Aside0 (((((((w51.setCell ⟨gb136, 0, none⟩ (.string ((rd_T160 l0 x12_3).f0))).setCell ⟨gb136, 1, none⟩ (.string ((rd_T160 l0 x12_3).f1))).setCell ⟨gb136, 2, none⟩ (.string ((rd_T160 l0 x12_3).f2))).setCell ⟨gb136, 3, none⟩ (.int .i64 ((rd_T160 l0 x12_3).f3))).setCell ⟨gb136, 4, none⟩ (.int .i64 ((rd_T160 l0 x12_3).f4))).setCell ⟨gb136, 5, none⟩ (.int .i64 ((rd_T160 l0 x12_3).f5))).heap[gb136]? = some (.cells #[.string ((rd_T160 l0 x12_3).f0), .string ((rd_T160 l0 x12_3).f1), .string ((rd_T160 l0 x12_3).f2), .int .i64 ((rd_T160 l0 x12_3).f3), .int .i64 ((rd_T160 l0 x12_3).f4), .int .i64 ((rd_T160 l0 x12_3).f5)] 160 (0, 0))) := ⟨by (with_reducible repeat (first | refine qf0 ?_ _ | refine qj0 ?_ | refine qg0 ?_ _)); refine qu0 (cs := #[.string ((rd_T160 l0 x12_3).f0), .string ((rd_T160 l0 x12_3).f1), .string ((rd_T160 l0 x12_3).f2), .int .i64 ((rd_T160 l0 x12_3).f3), .int .i64 ((rd_T160 l0 x12_3).f4), .int .i64 0]) ?_ 5 _ rfl; (with_reducible repeat (first | refine qf0 ?_ _ | refine qj0 ?_ | refine qg0 ?_ _)); refine qu0 (cs := #[.string ((rd_T160 l0 x12_3).f0), .string ((rd_T160 l0 x12_3).f1), .string ((rd_T160 l0 x12_3).f2), .int .i64 ((rd_T160 l0 x12_3).f3), .int .i64 0, .int .i64 0]) ?_ 4 _ rfl; (with_reducible repeat (first | refine qf0 ?_ _ | refine qj0 ?_ | refine qg0 ?_ _)); refine qu0 (cs := #[.string ((rd_T160 l0 x12_3).f0), .string ((rd_T160 l0 x12_3).f1), .string ((rd_T160 l0 x12_3).f2), .int .i64 0, .int .i64 0, .int .i64 0]) ?_ 3 _ rfl; (with_reducible repeat (first | refine qf0 ?_ _ | refine qj0 ?_ | refine qg0 ?_ _)); refine qu0 (cs := #[.string ((rd_T160 l0 x12_3).f0), .string ((rd_T160 l0 x12_3).f1), .string (⟨#[]⟩ : ByteArray), .int .i64 0, .int .i64 0, .int .i64 0]) ?_ 2 _ rfl; (with_reducible repeat (first | refine qf0 ?_ _ | refine qj0 ?_ | refine qg0 ?_ _)); refine qu0 (cs := #[.string ((rd_T160 l0 x12_3).f0), .string (⟨#[]⟩ : ByteArray), .string (⟨#[]⟩ : ByteArray), .int .i64 0, .int .i64 0, .int .i64 0]) ?_ 1 _ rfl; (with_reducible repeat (first | refine qf0 ?_ _ | refine qj0 ?_ | refine qg0 ?_ _)); refine qu0 (cs := #[.string (⟨#[]⟩ : ByteArray), .string (⟨#[]⟩ : ByteArray), .string (⟨#[]⟩ : ByteArray), .int .i64 0, .int .i64 0, .int .i64 0]) ?_ 0 _ rfl; (with_reducible repeat (first | refine qf0 ?_ _ | refine qj0 ?_ | refine qg0 ?_ _)); exact BK136.out⟩
           have n3_ : Aside0 (Below w.heap.size w ((((((w51.setCell ⟨gb136, 0, none⟩ (.string ((rd_T160 l0 x12_3).f0))).setCell ⟨gb136, 1, none⟩ (.string ((rd_T160 l0 x12_3).f1))).setCell ⟨gb136, 2, none⟩ (.string ((rd_T160 l0 x12_3).f2))).setCell ⟨gb136, 3, none⟩ (.int .i64 ((rd_T160 l0 x12_3).f3))).setCell ⟨gb136, 4, none⟩ (.int .i64 ((rd_T160 l0 x12_3).f4))).setCell ⟨gb136, 5, none⟩ (.int .i64 ((rd_T160 l0 x12_3).f5)))) := ⟨by repeat (first | (with_reducible first | exact HB.out | apply qc0 | apply qa0 | apply qb0 | refine qh0 ?_ GE136.out) | exact HB.out)⟩
           (try clear HO_9)
           (try clear HO_10)
           (try clear BK136)
           (try clear HB)
           generalize ((((((w51.setCell ⟨gb136, 0, none⟩ (.string ((rd_T160 l0 x12_3).f0))).setCell ⟨gb136, 1, none⟩ (.string ((rd_T160 l0 x12_3).f1))).setCell ⟨gb136, 2, none⟩ (.string ((rd_T160 l0 x12_3).f2))).setCell ⟨gb136, 3, none⟩ (.int .i64 ((rd_T160 l0 x12_3).f3))).setCell ⟨gb136, 4, none⟩ (.int .i64 ((rd_T160 l0 x12_3).f4))).setCell ⟨gb136, 5, none⟩ (.int .i64 ((rd_T160 l0 x12_3).f5))) = w53 at n0_ n1_ n2_ n3_ ⊢
           have HO_9 := n0_
           have HO_10 := n1_
           have BK136 := n2_
           have HB := n3_
           clear n0_ n1_ n2_ n3_
           have n0_ := Aside0.mk (Kd.qo0 HO_9.out)
           have n1_ := Aside0.mk (Kd.qo0 HO_10.out)
           have n2_ := Aside0.mk (qj0 BK136.out)
           have n3_ := Aside0.mk (qb0 HB.out)
           clear HO_9
           clear HO_10
           clear BK136
           clear HB
           have HO_9 := n0_
           have HO_10 := n1_
           have BK136 := n2_
           have HB := n3_
           clear n0_ n1_ n2_ n3_
           refine start_ (n := 37) (S := fun w' => w'.cell? ⟨gb136, 0, none⟩ = some (.string ((rd_T160 l0 x12_3).f0)) ∧ w'.cell? ⟨gb136, 1, none⟩ = some (.string ((rd_T160 l0 x12_3).f1)) ∧ w'.cell? ⟨gb136, 2, none⟩ = some (.string ((rd_T160 l0 x12_3).f2)) ∧ w'.cell? ⟨gb136, 3, none⟩ = some (.int .i64 ((rd_T160 l0 x12_3).f3)) ∧ w'.cell? ⟨gb136, 4, none⟩ = some (.int .i64 ((rd_T160 l0 x12_3).f4)) ∧ w'.cell? ⟨gb136, 5, none⟩ = some (.int .i64 ((rd_T160 l0 x12_3).f5))) (ds := []) (rb4 [0, 37]) (by kernel_rfl) rfl rfl ⟨(qe0 BK136.out 0).trans rfl, (qe0 BK136.out 1).trans rfl, (qe0 BK136.out 2).trans rfl, (qe0 BK136.out 3).trans rfl, (qe0 BK136.out 4).trans rfl, (qe0 BK136.out 5).trans rfl⟩ (fun hHeld => ?_); refine with_tabW spec_Picks.tab11 spec_Picks.bits11 (fun HT_ HW_ => ?_)
           generalize w53.drew = w54 at HO_9 HO_10 BK136 HB hHeld ⊢
           refine pure_ (i := 0) (N := some 43) (v := ?_) (a' := ?_) (rb4 [1, 36]) rfl rfl (qn0 HT_.out (by kernel_rfl)) (fun _ _ _ h => h) (Or.inl ⟨by rfl, ?_⟩) ?_ ?_
           rotate_left
           ·intro w'
            go_simp
            with_reducible rfl
           rotate_left
           ·simp only [Act.put, List.setIfInBounds_toArray, List.set_cons_zero, List.set_cons_succ, i64_w, i32_w]
            rfl
           refine pure_ (i := 2) (N := some 45) (v := ?_) (a' := ?_) (rb4 [1, 1, 1, 34]) rfl rfl (qn0 HT_.out (by kernel_rfl)) (fun _ _ _ h => h) (Or.inl ⟨by rfl, ?_⟩) ?_ ?_
           rotate_left
           ·intro w'
            go_simp
            with_reducible rfl
           rotate_left
           ·simp only [Act.put, List.setIfInBounds_toArray, List.set_cons_zero, List.set_cons_succ, i64_w, i32_w]
            rfl
           refine take_ (i := 1) (N := some 44) (v := ?_) (a' := ?_) (rb4 [3, 34]) rfl rfl (qa1 HT_.out HW_.out (by kernel_rfl)) (fun _ _ _ h => h) (Or.inl ⟨by rfl, ?_⟩) hHeld ?_ ?_
           rotate_left
           ·rintro w' ⟨s0, s1, s2, s3, s4, s5⟩
            go_simp
            with_reducible rfl
           rotate_left
           ·simp only [Act.put, List.setIfInBounds_toArray, List.set_cons_zero, List.set_cons_succ, i64_w, i32_w]
            rfl
           refine pure_ (i := 3) (N := some 46) (v := ?_) (a' := ?_) (rb4 [4, 33]) rfl rfl (qn0 HT_.out (by kernel_rfl)) (fun _ _ _ h => h) (Or.inl ⟨by rfl, ?_⟩) ?_ ?_
           rotate_left
           ·intro w'
            go_simp
            with_reducible rfl
           rotate_left
           ·simp only [Act.put, List.setIfInBounds_toArray, List.set_cons_zero, List.set_cons_succ, i64_w, i32_w]
            rfl
           refine pure_ (i := 4) (N := some 47) (v := ?_) (a' := ?_) (rb4 [5, 32]) rfl rfl (qn0 HT_.out (by kernel_rfl)) (fun _ _ _ h => h) (Or.inl ⟨by rfl, ?_⟩) ?_ ?_
           rotate_left
           ·intro w'
            go_simp
            with_reducible rfl
           rotate_left
           ·simp only [Act.put, List.setIfInBounds_toArray, List.set_cons_zero, List.set_cons_succ, i64_w, i32_w]
            rfl
           refine pure_ (i := 5) (N := some 48) (v := ?_) (a' := ?_) (rb4 [6, 31]) rfl rfl (qn0 HT_.out (by kernel_rfl)) (fun _ _ _ h => h) (Or.inl ⟨by rfl, ?_⟩) ?_ ?_
           rotate_left
           ·intro w'
            go_simp
            with_reducible rfl
           rotate_left
           ·simp only [Act.put, List.setIfInBounds_toArray, List.set_cons_zero, List.set_cons_succ, i64_w, i32_w]
            rfl
           refine pure_ (i := 7) (N := some 50) (v := ?_) (a' := ?_) (rb4 [6, 1, 1, 29]) rfl rfl (qn0 HT_.out (by kernel_rfl)) (fun _ _ _ h => h) (Or.inl ⟨by rfl, ?_⟩) ?_ ?_
           rotate_left
           ·intro w'
            go_simp
            with_reducible rfl
           rotate_left
           ·simp only [Act.put, List.setIfInBounds_toArray, List.set_cons_zero, List.set_cons_succ, i64_w, i32_w]
            rfl
           refine take_ (i := 6) (N := some 49) (v := ?_) (a' := ?_) (rb4 [8, 29]) rfl rfl (qa1 HT_.out HW_.out (by kernel_rfl)) (fun _ _ _ h => h) (Or.inl ⟨by rfl, ?_⟩) hHeld ?_ ?_
           rotate_left
           ·rintro w' ⟨s0, s1, s2, s3, s4, s5⟩
            go_simp
            with_reducible rfl
           rotate_left
           ·simp only [Act.put, List.setIfInBounds_toArray, List.set_cons_zero, List.set_cons_succ, i64_w, i32_w]
            rfl
           refine pure_ (i := 8) (N := some 51) (v := ?_) (a' := ?_) (rb4 [9, 28]) rfl rfl (qn0 HT_.out (by kernel_rfl)) (fun _ _ _ h => h) (Or.inl ⟨by rfl, ?_⟩) ?_ ?_
           rotate_left
           ·intro w'
            go_simp
            with_reducible rfl
           rotate_left
           ·simp only [Act.put, List.setIfInBounds_toArray, List.set_cons_zero, List.set_cons_succ, i64_w, i32_w]
            rfl
           refine pure_ (i := 9) (N := some 52) (v := ?_) (a' := ?_) (rb4 [10, 27]) rfl rfl (qn0 HT_.out (by kernel_rfl)) (fun _ _ _ h => h) (Or.inl ⟨by rfl, ?_⟩) ?_ ?_
           rotate_left
           ·intro w'
            go_simp
            with_reducible rfl
           rotate_left
           ·simp only [Act.put, List.setIfInBounds_toArray, List.set_cons_zero, List.set_cons_succ, i64_w, i32_w]
            rfl
           refine pure_ (i := 10) (N := some 53) (v := ?_) (a' := ?_) (rb4 [11, 26]) rfl rfl (qn0 HT_.out (by kernel_rfl)) (fun _ _ _ h => h) (Or.inl ⟨by rfl, ?_⟩) ?_ ?_
           rotate_left
           ·intro w'
            go_simp
            with_reducible rfl
           rotate_left
           ·simp only [Act.put, List.setIfInBounds_toArray, List.set_cons_zero, List.set_cons_succ, i64_w, i32_w]
            rfl
           refine pure_ (i := 11) (N := some 54) (v := ?_) (a' := ?_) (rb4 [12, 25]) rfl rfl (qn0 HT_.out (by kernel_rfl)) (fun _ _ _ h => h) (Or.inl ⟨by rfl, ?_⟩) ?_ ?_
           rotate_left
           ·intro w'
            go_simp
            with_reducible rfl
           rotate_left
           ·simp only [Act.put, List.setIfInBounds_toArray, List.set_cons_zero, List.set_cons_succ, i64_w, i32_w]
            rfl
           refine pure_ (i := 13) (N := some 56) (v := ?_) (a' := ?_) (rb4 [12, 1, 1, 23]) rfl rfl (qn0 HT_.out (by kernel_rfl)) (fun _ _ _ h => h) (Or.inl ⟨by rfl, ?_⟩) ?_ ?_
           rotate_left
           ·intro w'
            go_simp
            with_reducible rfl
           rotate_left
           ·simp only [Act.put, List.setIfInBounds_toArray, List.set_cons_zero, List.set_cons_succ, i64_w, i32_w]
            rfl
           refine take_ (i := 12) (N := some 55) (v := ?_) (a' := ?_) (rb4 [14, 23]) rfl rfl (qa1 HT_.out HW_.out (by kernel_rfl)) (fun _ _ _ h => h) (Or.inl ⟨by rfl, ?_⟩) hHeld ?_ ?_
           rotate_left
           ·rintro w' ⟨s0, s1, s2, s3, s4, s5⟩
            go_simp
            with_reducible rfl
           rotate_left
           ·simp only [Act.put, List.setIfInBounds_toArray, List.set_cons_zero, List.set_cons_succ, i64_w, i32_w]
            rfl
           refine take_ (i := 14) (N := some 57) (v := ?_) (a' := ?_) (rb4 [15, 22]) rfl rfl (qa1 HT_.out HW_.out (by kernel_rfl)) (fun _ _ _ h => h) (Or.inl ⟨by rfl, ?_⟩) hHeld ?_ ?_
           rotate_left
           ·rintro w' ⟨s0, s1, s2, s3, s4, s5⟩
            go_simp
            with_reducible rfl
           rotate_left
           ·simp only [Act.put, List.setIfInBounds_toArray, List.set_cons_zero, List.set_cons_succ, i64_w, i32_w]
            rfl
           refine pure_ (i := 15) (N := some 58) (v := ?_) (a' := ?_) (rb4 [16, 21]) rfl rfl (qn0 HT_.out (by kernel_rfl)) (fun _ _ _ h => h) (Or.inl ⟨by rfl, ?_⟩) ?_ ?_
           rotate_left
           ·intro w'
            go_simp
            with_reducible rfl
           rotate_left
           ·simp only [Act.put, List.setIfInBounds_toArray, List.set_cons_zero, List.set_cons_succ, i64_w, i32_w]
            rfl
           refine pure_ (i := 16) (N := some 59) (v := ?_) (a' := ?_) (rb4 [17, 20]) rfl rfl (qn0 HT_.out (by kernel_rfl)) (fun _ _ _ h => h) (Or.inl ⟨by rfl, ?_⟩) ?_ ?_
           rotate_left
           ·intro w'
            go_simp
            with_reducible rfl
           rotate_left
           ·simp only [Act.put, List.setIfInBounds_toArray, List.set_cons_zero, List.set_cons_succ, i64_w, i32_w]
            rfl
           refine pure_ (i := 17) (N := some 60) (v := ?_) (a' := ?_) (rb4 [18, 19]) rfl rfl (qn0 HT_.out (by kernel_rfl)) (fun _ _ _ h => h) (Or.inl ⟨by rfl, ?_⟩) ?_ ?_
           rotate_left
           ·intro w'
            go_simp
            with_reducible rfl
           rotate_left
           ·simp only [Act.put, List.setIfInBounds_toArray, List.set_cons_zero, List.set_cons_succ, i64_w, i32_w]
            rfl
           refine pure_ (i := 18) (N := some 61) (v := undef) (a' := ?_) (rb4 [19, 18]) rfl rfl (qn0 HT_.out (by kernel_rfl)) (fun _ _ _ h => h) (Or.inr ⟨by rfl, rfl⟩) ?_ ?_
           rotate_left
           ·simp only [Act.put, List.setIfInBounds_toArray, List.set_cons_zero, List.set_cons_succ, i64_w, i32_w]
            rfl
           refine pure_ (i := 19) (N := some 62) (v := undef) (a' := ?_) (rb4 [20, 17]) rfl rfl (qn0 HT_.out (by kernel_rfl)) (fun _ _ _ h => h) (Or.inr ⟨by rfl, rfl⟩) ?_ ?_
           rotate_left
           ·simp only [Act.put, List.setIfInBounds_toArray, List.set_cons_zero, List.set_cons_succ, i64_w, i32_w]
            rfl
           refine pure_ (i := 20) (N := some 63) (v := undef) (a' := ?_) (rb4 [21, 16]) rfl rfl (qn0 HT_.out (by kernel_rfl)) (fun _ _ _ h => h) (Or.inr ⟨by rfl, rfl⟩) ?_ ?_
           rotate_left
           ·simp only [Act.put, List.setIfInBounds_toArray, List.set_cons_zero, List.set_cons_succ, i64_w, i32_w]
            rfl
           refine pure_ (i := 21) (N := some 64) (v := undef) (a' := ?_) (rb4 [22, 15]) rfl rfl (qn0 HT_.out (by kernel_rfl)) (fun _ _ _ h => h) (Or.inr ⟨by rfl, rfl⟩) ?_ ?_
           rotate_left
           ·simp only [Act.put, List.setIfInBounds_toArray, List.set_cons_zero, List.set_cons_succ, i64_w, i32_w]
            rfl
           refine pure_ (i := 22) (N := some 65) (v := ?_) (a' := ?_) (rb4 [23, 14]) rfl rfl (qn0 HT_.out (by kernel_rfl)) (fun _ _ _ h => h) (Or.inl ⟨by rfl, ?_⟩) ?_ ?_
           rotate_left
           ·intro w'
            go_simp
            with_reducible rfl
           rotate_left
           ·simp only [Act.put, List.setIfInBounds_toArray, List.set_cons_zero, List.set_cons_succ, i64_w, i32_w]
            rfl
           refine pure_ (i := 23) (N := some 66) (v := ?_) (a' := ?_) (rb4 [24, 13]) rfl rfl (qn0 HT_.out (by kernel_rfl)) (fun _ _ _ h => h) (Or.inl ⟨by rfl, ?_⟩) ?_ ?_
           rotate_left
           ·intro w'
            go_simp
            with_reducible rfl
           rotate_left
           ·simp only [Act.put, List.setIfInBounds_toArray, List.set_cons_zero, List.set_cons_succ, i64_w, i32_w]
            rfl
           refine pure_ (i := 24) (N := some 67) (v := undef) (a' := ?_) (rb4 [25, 12]) rfl rfl (qn0 HT_.out (by kernel_rfl)) (fun _ _ _ h => h) (Or.inr ⟨by rfl, rfl⟩) ?_ ?_
           rotate_left
           ·simp only [Act.put, List.setIfInBounds_toArray, List.set_cons_zero, List.set_cons_succ, i64_w, i32_w]
            rfl
           refine pure_ (i := 25) (N := some 68) (v := undef) (a' := ?_) (rb4 [26, 11]) rfl rfl (qn0 HT_.out (by kernel_rfl)) (fun _ _ _ h => h) (Or.inr ⟨by rfl, rfl⟩) ?_ ?_
           rotate_left
           ·simp only [Act.put, List.setIfInBounds_toArray, List.set_cons_zero, List.set_cons_succ, i64_w, i32_w]
            rfl
           refine pure_ (i := 26) (N := some 69) (v := undef) (a' := ?_) (rb4 [27, 10]) rfl rfl (qn0 HT_.out (by kernel_rfl)) (fun _ _ _ h => h) (Or.inr ⟨by rfl, rfl⟩) ?_ ?_
           rotate_left
           ·simp only [Act.put, List.setIfInBounds_toArray, List.set_cons_zero, List.set_cons_succ, i64_w, i32_w]
            rfl
           refine pure_ (i := 27) (N := some 70) (v := undef) (a' := ?_) (rb4 [28, 9]) rfl rfl (qn0 HT_.out (by kernel_rfl)) (fun _ _ _ h => h) (Or.inr ⟨by rfl, rfl⟩) ?_ ?_
           rotate_left
           ·simp only [Act.put, List.setIfInBounds_toArray, List.set_cons_zero, List.set_cons_succ, i64_w, i32_w]
            rfl
           refine pure_ (i := 28) (N := some 71) (v := undef) (a' := ?_) (rb4 [29, 8]) rfl rfl (qn0 HT_.out (by kernel_rfl)) (fun _ _ _ h => h) (Or.inr ⟨by rfl, rfl⟩) ?_ ?_
           rotate_left
           ·simp only [Act.put, List.setIfInBounds_toArray, List.set_cons_zero, List.set_cons_succ, i64_w, i32_w]
            rfl
           refine pure_ (i := 29) (N := some 72) (v := undef) (a' := ?_) (rb4 [30, 7]) rfl rfl (qn0 HT_.out (by kernel_rfl)) (fun _ _ _ h => h) (Or.inr ⟨by rfl, rfl⟩) ?_ ?_
           rotate_left
           ·simp only [Act.put, List.setIfInBounds_toArray, List.set_cons_zero, List.set_cons_succ, i64_w, i32_w]
            rfl
           refine pure_ (i := 30) (N := some 73) (v := undef) (a' := ?_) (rb4 [31, 6]) rfl rfl (qn0 HT_.out (by kernel_rfl)) (fun _ _ _ h => h) (Or.inr ⟨by rfl, rfl⟩) ?_ ?_
           rotate_left
           ·simp only [Act.put, List.setIfInBounds_toArray, List.set_cons_zero, List.set_cons_succ, i64_w, i32_w]
            rfl
           refine pure_ (i := 31) (N := some 74) (v := undef) (a' := ?_) (rb4 [32, 5]) rfl rfl (qn0 HT_.out (by kernel_rfl)) (fun _ _ _ h => h) (Or.inr ⟨by rfl, rfl⟩) ?_ ?_
           rotate_left
           ·simp only [Act.put, List.setIfInBounds_toArray, List.set_cons_zero, List.set_cons_succ, i64_w, i32_w]
            rfl
           refine pure_ (i := 32) (N := some 75) (v := undef) (a' := ?_) (rb4 [33, 4]) rfl rfl (qn0 HT_.out (by kernel_rfl)) (fun _ _ _ h => h) (Or.inr ⟨by rfl, rfl⟩) ?_ ?_
           rotate_left
           ·simp only [Act.put, List.setIfInBounds_toArray, List.set_cons_zero, List.set_cons_succ, i64_w, i32_w]
            rfl
           refine pure_ (i := 33) (N := some 76) (v := undef) (a' := ?_) (rb4 [34, 3]) rfl rfl (qn0 HT_.out (by kernel_rfl)) (fun _ _ _ h => h) (Or.inr ⟨by rfl, rfl⟩) ?_ ?_
           rotate_left
           ·simp only [Act.put, List.setIfInBounds_toArray, List.set_cons_zero, List.set_cons_succ, i64_w, i32_w]
            rfl
           refine pure_ (i := 34) (N := some 77) (v := undef) (a' := ?_) (rb4 [35, 2]) rfl rfl (qn0 HT_.out (by kernel_rfl)) (fun _ _ _ h => h) (Or.inr ⟨by rfl, rfl⟩) ?_ ?_
           rotate_left
           ·simp only [Act.put, List.setIfInBounds_toArray, List.set_cons_zero, List.set_cons_succ, i64_w, i32_w]
            rfl
           refine pure_ (i := 35) (N := some 78) (v := undef) (a' := ?_) (rb4 [36, 1]) rfl rfl (qn0 HT_.out (by kernel_rfl)) (fun _ _ _ h => h) (Or.inr ⟨by rfl, rfl⟩) ?_ ?_
           rotate_left
           ·simp only [Act.put, List.setIfInBounds_toArray, List.set_cons_zero, List.set_cons_succ, i64_w, i32_w]
            rfl
           refine pure_ (i := 36) (N := some 79) (v := ?_) (a' := ?_) (rb4 [37]) rfl rfl (qn0 HT_.out (by kernel_rfl)) (fun _ _ _ h => h) (Or.inl ⟨by rfl, ?_⟩) ?_ ?_
           rotate_left
           ·intro w'
            go_simp
            with_reducible rfl
           rotate_left
           ·simp only [Act.put, List.setIfInBounds_toArray, List.set_cons_zero, List.set_cons_succ, i64_w, i32_w]
            rfl
           refine done_ (done_of HT_.out (by kernel_rfl)) ?_
           try go_wp2
           go_roundg k3
           case measure => have := HJ4.out; have := HK2.out; have := HK3.out; omega
           case rel => exact ⟨(x11_3), (wrap64 (x12_3 + 1)), (by first | rfl | (simp; done) | (simp [*]; done)), (by first | rfl | (simp; done) | (simp [*]; done)), H', ⟨by have := HJ4.out; have := HK2.out; have := HK3.out; omega⟩, ⟨by (with_reducible repeat (first | apply Kd.ql0 | apply Kd.qk0 | apply Kd.qo0)); exact HO_9.out⟩, ⟨by (with_reducible repeat (first | apply Kd.ql0 | apply Kd.qk0 | apply Kd.qo0)); exact HO_10.out⟩, ⟨by repeat (first | (with_reducible first | exact HB.out | apply qc0 | apply qa0 | apply qb0 | refine qh0 ?_ GE136.out) | exact HB.out)⟩⟩
          rw [if_neg c23] at H
          have c23b0 : decide (a3 ≤ ((rd_T160 l0 x12_3).f3)) = false := decide_eq_false c23
          clear c23
          have H' := Aside0.mk H
          clear H
          have p135 : 0 ≤ (x12_3 : Int) := of_decide_eq_true (by first | (with_reducible assumption) | assumption)
          have q135 : x12_3 < (l0.length : Int) := of_decide_eq_true (by first | (with_reducible assumption) | assumption)
          obtain ⟨ad135, e135, hx135_0, hx135_1, hx135_2, hx135_3, hx135_4, hx135_5⟩ := at_T160 HR0.out x12_3 p135 q135
          cases e135
          replace hx135_0 := (HB.out.cell (World.block_lt_of_cell? w _ hx135_0)).trans hx135_0
          replace hx135_1 := (HB.out.cell (World.block_lt_of_cell? w _ hx135_1)).trans hx135_1
          replace hx135_2 := (HB.out.cell (World.block_lt_of_cell? w _ hx135_2)).trans hx135_2
          replace hx135_3 := (HB.out.cell (World.block_lt_of_cell? w _ hx135_3)).trans hx135_3
          replace hx135_4 := (HB.out.cell (World.block_lt_of_cell? w _ hx135_4)).trans hx135_4
          replace hx135_5 := (HB.out.cell (World.block_lt_of_cell? w _ hx135_5)).trans hx135_5
          replace p135 := eq_true p135
          replace q135 := eq_true q135
          try go_wp2_with (first | ((with_reducible refine qs0 (N := 13) rfl ?_); refine qt0 ?hg (N := 13) ?hd (cs := #[.string (⟨#[]⟩ : ByteArray), .string (⟨#[]⟩ : ByteArray), .string (⟨#[]⟩ : ByteArray), .int .i64 0, .int .i64 0, .int .i64 0]) (t := 160) ?hr ?_; (case hd => rfl); (case hg => rfl); (case hr => first | (go_simp; done) | (go_simp; rfl)); intro gb136 hg w55 hbox hb; have n0_ := Aside0.mk (Kd.qr0 (by (with_reducible repeat (first | apply Kd.ql0 | apply Kd.qk0 | apply Kd.qo0)); exact HO_9.out) hb); have n1_ := Aside0.mk (Kd.qr0 (by (with_reducible repeat (first | apply Kd.ql0 | apply Kd.qk0 | apply Kd.qo0)); exact HO_10.out) hb); have n2_ := Aside0.mk (qm0 (by repeat (first | (with_reducible first | exact HB.out | apply qc0 | apply qa0 | apply qb0) | exact HB.out)) hb); have n3_ := Aside0.mk (hbox); have n4_ := Aside0.mk ((by rw [hg]; exact (qi0 (by repeat (first | (with_reducible first | exact HB.out | apply qc0 | apply qa0 | apply qb0) | exact HB.out))) : w.heap.size ≤ gb136)); have n5_ := Aside0.mk ((by rw [hg]; exact (qi0 (by repeat (first | (with_reducible first | exact HB.out | apply qc0 | apply qa0 | apply qb0) | exact HB.out))) : w.heap.size ≤ gb136)); clear HO_9; clear HO_10; clear HB; have HO_9 := n0_; have HO_10 := n1_; have HB := n2_; have BK136 := n3_; have GW136 := n4_; have GE136 := n5_; clear n0_ n1_ n2_ n3_ n4_ n5_; clear hb hbox hg; have hcz56_0 : w55.cell? ⟨gb136, 0, none⟩ = some (.string (⟨#[]⟩ : ByteArray)) := (qe0 BK136.out 0).trans rfl; have hcz56_1 : w55.cell? ⟨gb136, 1, none⟩ = some (.string (⟨#[]⟩ : ByteArray)) := (qe0 BK136.out 1).trans rfl; have hcz56_2 : w55.cell? ⟨gb136, 2, none⟩ = some (.string (⟨#[]⟩ : ByteArray)) := (qe0 BK136.out 2).trans rfl; have hcz56_3 : w55.cell? ⟨gb136, 3, none⟩ = some (.int .i64 0) := (qe0 BK136.out 3).trans rfl; have hcz56_4 : w55.cell? ⟨gb136, 4, none⟩ = some (.int .i64 0) := (qe0 BK136.out 4).trans rfl; have hcz56_5 : w55.cell? ⟨gb136, 5, none⟩ = some (.int .i64 0) := (qe0 BK136.out 5).trans rfl; have hfz56_0 := qd0 BK136.out 0; have hfz56_1 := qd0 BK136.out 1; have hfz56_2 := qd0 BK136.out 2; have hfz56_3 := qd0 BK136.out 3; have hfz56_4 := qd0 BK136.out 4; have hfz56_5 := qd0 BK136.out 5))
          have n0_ : Aside0 (Kd.R k162 162 ((((((w55.setCell ⟨gb136, 0, none⟩ (.string ((rd_T160 l0 x12_3).f0))).setCell ⟨gb136, 1, none⟩ (.string ((rd_T160 l0 x12_3).f1))).setCell ⟨gb136, 2, none⟩ (.string ((rd_T160 l0 x12_3).f2))).setCell ⟨gb136, 3, none⟩ (.int .i64 ((rd_T160 l0 x12_3).f3))).setCell ⟨gb136, 4, none⟩ (.int .i64 ((rd_T160 l0 x12_3).f4))).setCell ⟨gb136, 5, none⟩ (.int .i64 ((rd_T160 l0 x12_3).f5))) w.heap.size (fun _ => True) u9 x9_2) := ⟨by (with_reducible repeat (first | apply Kd.ql0 | apply Kd.qk0 | apply Kd.qo0)); exact Kd.qb1 (Kd.R_far (p := ⟨gb136, 5, none⟩) (Kd.R_far (p := ⟨gb136, 4, none⟩) (Kd.R_far (p := ⟨gb136, 3, none⟩) (Kd.R_far (p := ⟨gb136, 2, none⟩) (Kd.R_far (p := ⟨gb136, 1, none⟩) (Kd.R_far (p := ⟨gb136, 0, none⟩) (Kd.qm1 HO_9.out BK136.out (by decide)) (fun _ hk => hk.2) (.string ((rd_T160 l0 x12_3).f0))) (fun _ hk => hk.2) (.string ((rd_T160 l0 x12_3).f1))) (fun _ hk => hk.2) (.string ((rd_T160 l0 x12_3).f2))) (fun _ hk => hk.2) (.int .i64 ((rd_T160 l0 x12_3).f3))) (fun _ hk => hk.2) (.int .i64 ((rd_T160 l0 x12_3).f4))) (fun _ hk => hk.2) (.int .i64 ((rd_T160 l0 x12_3).f5))) (fun _ hk => trivial)⟩
          have n1_ : Aside0 (Kd.R (Kd.int .i64) 3 ((((((w55.setCell ⟨gb136, 0, none⟩ (.string ((rd_T160 l0 x12_3).f0))).setCell ⟨gb136, 1, none⟩ (.string ((rd_T160 l0 x12_3).f1))).setCell ⟨gb136, 2, none⟩ (.string ((rd_T160 l0 x12_3).f2))).setCell ⟨gb136, 3, none⟩ (.int .i64 ((rd_T160 l0 x12_3).f3))).setCell ⟨gb136, 4, none⟩ (.int .i64 ((rd_T160 l0 x12_3).f4))).setCell ⟨gb136, 5, none⟩ (.int .i64 ((rd_T160 l0 x12_3).f5))) w.heap.size (fun _ => True) u10 x10_2) := ⟨by (with_reducible repeat (first | apply Kd.ql0 | apply Kd.qk0 | apply Kd.qo0)); exact Kd.qb1 (Kd.R_far (p := ⟨gb136, 5, none⟩) (Kd.R_far (p := ⟨gb136, 4, none⟩) (Kd.R_far (p := ⟨gb136, 3, none⟩) (Kd.R_far (p := ⟨gb136, 2, none⟩) (Kd.R_far (p := ⟨gb136, 1, none⟩) (Kd.R_far (p := ⟨gb136, 0, none⟩) (Kd.qm1 HO_10.out BK136.out (by decide)) (fun _ hk => hk.2) (.string ((rd_T160 l0 x12_3).f0))) (fun _ hk => hk.2) (.string ((rd_T160 l0 x12_3).f1))) (fun _ hk => hk.2) (.string ((rd_T160 l0 x12_3).f2))) (fun _ hk => hk.2) (.int .i64 ((rd_T160 l0 x12_3).f3))) (fun _ hk => hk.2) (.int .i64 ((rd_T160 l0 x12_3).f4))) (fun _ hk => hk.2) (.int .i64 ((rd_T160 l0 x12_3).f5))) (fun _ hk => trivial)⟩
          have n2_ : Aside0 (((((((w55.setCell ⟨gb136, 0, none⟩ (.string ((rd_T160 l0 x12_3).f0))).setCell ⟨gb136, 1, none⟩ (.string ((rd_T160 l0 x12_3).f1))).setCell ⟨gb136, 2, none⟩ (.string ((rd_T160 l0 x12_3).f2))).setCell ⟨gb136, 3, none⟩ (.int .i64 ((rd_T160 l0 x12_3).f3))).setCell ⟨gb136, 4, none⟩ (.int .i64 ((rd_T160 l0 x12_3).f4))).setCell ⟨gb136, 5, none⟩ (.int .i64 ((rd_T160 l0 x12_3).f5))).heap[gb136]? = some (.cells #[.string ((rd_T160 l0 x12_3).f0), .string ((rd_T160 l0 x12_3).f1), .string ((rd_T160 l0 x12_3).f2), .int .i64 ((rd_T160 l0 x12_3).f3), .int .i64 ((rd_T160 l0 x12_3).f4), .int .i64 ((rd_T160 l0 x12_3).f5)] 160 (0, 0))) := ⟨by (with_reducible repeat (first | refine qf0 ?_ _ | refine qj0 ?_ | refine qg0 ?_ _)); refine qu0 (cs := #[.string ((rd_T160 l0 x12_3).f0), .string ((rd_T160 l0 x12_3).f1), .string ((rd_T160 l0 x12_3).f2), .int .i64 ((rd_T160 l0 x12_3).f3), .int .i64 ((rd_T160 l0 x12_3).f4), .int .i64 0]) ?_ 5 _ rfl; (with_reducible repeat (first | refine qf0 ?_ _ | refine qj0 ?_ | refine qg0 ?_ _)); refine qu0 (cs := #[.string ((rd_T160 l0 x12_3).f0), .string ((rd_T160 l0 x12_3).f1), .string ((rd_T160 l0 x12_3).f2), .int .i64 ((rd_T160 l0 x12_3).f3), .int .i64 0, .int .i64 0]) ?_ 4 _ rfl; (with_reducible repeat (first | refine qf0 ?_ _ | refine qj0 ?_ | refine qg0 ?_ _)); refine qu0 (cs := #[.string ((rd_T160 l0 x12_3).f0), .string ((rd_T160 l0 x12_3).f1), .string ((rd_T160 l0 x12_3).f2), .int .i64 0, .int .i64 0, .int .i64 0]) ?_ 3 _ rfl; (with_reducible repeat (first | refine qf0 ?_ _ | refine qj0 ?_ | refine qg0 ?_ _)); refine qu0 (cs := #[.string ((rd_T160 l0 x12_3).f0), .string ((rd_T160 l0 x12_3).f1), .string (⟨#[]⟩ : ByteArray), .int .i64 0, .int .i64 0, .int .i64 0]) ?_ 2 _ rfl; (with_reducible repeat (first | refine qf0 ?_ _ | refine qj0 ?_ | refine qg0 ?_ _)); refine qu0 (cs := #[.string ((rd_T160 l0 x12_3).f0), .string (⟨#[]⟩ : ByteArray), .string (⟨#[]⟩ : ByteArray), .int .i64 0, .int .i64 0, .int .i64 0]) ?_ 1 _ rfl; (with_reducible repeat (first | refine qf0 ?_ _ | refine qj0 ?_ | refine qg0 ?_ _)); refine qu0 (cs := #[.string (⟨#[]⟩ : ByteArray), .string (⟨#[]⟩ : ByteArray), .string (⟨#[]⟩ : ByteArray), .int .i64 0, .int .i64 0, .int .i64 0]) ?_ 0 _ rfl; (with_reducible repeat (first | refine qf0 ?_ _ | refine qj0 ?_ | refine qg0 ?_ _)); exact BK136.out⟩
          have n3_ : Aside0 (Below w.heap.size w ((((((w55.setCell ⟨gb136, 0, none⟩ (.string ((rd_T160 l0 x12_3).f0))).setCell ⟨gb136, 1, none⟩ (.string ((rd_T160 l0 x12_3).f1))).setCell ⟨gb136, 2, none⟩ (.string ((rd_T160 l0 x12_3).f2))).setCell ⟨gb136, 3, none⟩ (.int .i64 ((rd_T160 l0 x12_3).f3))).setCell ⟨gb136, 4, none⟩ (.int .i64 ((rd_T160 l0 x12_3).f4))).setCell ⟨gb136, 5, none⟩ (.int .i64 ((rd_T160 l0 x12_3).f5)))) := ⟨by repeat (first | (with_reducible first | exact HB.out | apply qc0 | apply qa0 | apply qb0 | refine qh0 ?_ GE136.out) | exact HB.out)⟩
          (try clear HO_9)
          (try clear HO_10)
          (try clear BK136)
          (try clear HB)
          generalize ((((((w55.setCell ⟨gb136, 0, none⟩ (.string ((rd_T160 l0 x12_3).f0))).setCell ⟨gb136, 1, none⟩ (.string ((rd_T160 l0 x12_3).f1))).setCell ⟨gb136, 2, none⟩ (.string ((rd_T160 l0 x12_3).f2))).setCell ⟨gb136, 3, none⟩ (.int .i64 ((rd_T160 l0 x12_3).f3))).setCell ⟨gb136, 4, none⟩ (.int .i64 ((rd_T160 l0 x12_3).f4))).setCell ⟨gb136, 5, none⟩ (.int .i64 ((rd_T160 l0 x12_3).f5))) = w57 at n0_ n1_ n2_ n3_ ⊢
          have HO_9 := n0_
          have HO_10 := n1_
          have BK136 := n2_
          have HB := n3_
          clear n0_ n1_ n2_ n3_
          have n0_ := Aside0.mk (Kd.qo0 HO_9.out)
          have n1_ := Aside0.mk (Kd.qo0 HO_10.out)
          have n2_ := Aside0.mk (qj0 BK136.out)
          have n3_ := Aside0.mk (qb0 HB.out)
          clear HO_9
          clear HO_10
          clear BK136
          clear HB
          have HO_9 := n0_
          have HO_10 := n1_
          have BK136 := n2_
          have HB := n3_
          clear n0_ n1_ n2_ n3_
          refine start_ (n := 37) (S := fun w' => w'.cell? ⟨gb136, 0, none⟩ = some (.string ((rd_T160 l0 x12_3).f0)) ∧ w'.cell? ⟨gb136, 1, none⟩ = some (.string ((rd_T160 l0 x12_3).f1)) ∧ w'.cell? ⟨gb136, 2, none⟩ = some (.string ((rd_T160 l0 x12_3).f2)) ∧ w'.cell? ⟨gb136, 3, none⟩ = some (.int .i64 ((rd_T160 l0 x12_3).f3)) ∧ w'.cell? ⟨gb136, 4, none⟩ = some (.int .i64 ((rd_T160 l0 x12_3).f4)) ∧ w'.cell? ⟨gb136, 5, none⟩ = some (.int .i64 ((rd_T160 l0 x12_3).f5))) (ds := []) (rb4 [0, 37]) (by kernel_rfl) rfl rfl ⟨(qe0 BK136.out 0).trans rfl, (qe0 BK136.out 1).trans rfl, (qe0 BK136.out 2).trans rfl, (qe0 BK136.out 3).trans rfl, (qe0 BK136.out 4).trans rfl, (qe0 BK136.out 5).trans rfl⟩ (fun hHeld => ?_); refine with_tabW spec_Picks.tab11 spec_Picks.bits11 (fun HT_ HW_ => ?_)
          generalize w57.drew = w58 at HO_9 HO_10 BK136 HB hHeld ⊢
          refine pure_ (i := 0) (N := some 43) (v := ?_) (a' := ?_) (rb4 [1, 36]) rfl rfl (qn0 HT_.out (by kernel_rfl)) (fun _ _ _ h => h) (Or.inl ⟨by rfl, ?_⟩) ?_ ?_
          rotate_left
          ·intro w'
           go_simp
           with_reducible rfl
          rotate_left
          ·simp only [Act.put, List.setIfInBounds_toArray, List.set_cons_zero, List.set_cons_succ, i64_w, i32_w]
           rfl
          refine pure_ (i := 2) (N := some 45) (v := ?_) (a' := ?_) (rb4 [1, 1, 1, 34]) rfl rfl (qn0 HT_.out (by kernel_rfl)) (fun _ _ _ h => h) (Or.inl ⟨by rfl, ?_⟩) ?_ ?_
          rotate_left
          ·intro w'
           go_simp
           with_reducible rfl
          rotate_left
          ·simp only [Act.put, List.setIfInBounds_toArray, List.set_cons_zero, List.set_cons_succ, i64_w, i32_w]
           rfl
          refine take_ (i := 1) (N := some 44) (v := ?_) (a' := ?_) (rb4 [3, 34]) rfl rfl (qa1 HT_.out HW_.out (by kernel_rfl)) (fun _ _ _ h => h) (Or.inl ⟨by rfl, ?_⟩) hHeld ?_ ?_
          rotate_left
          ·rintro w' ⟨s0, s1, s2, s3, s4, s5⟩
           go_simp
           with_reducible rfl
          rotate_left
          ·simp only [Act.put, List.setIfInBounds_toArray, List.set_cons_zero, List.set_cons_succ, i64_w, i32_w]
           rfl
          refine pure_ (i := 3) (N := some 46) (v := ?_) (a' := ?_) (rb4 [4, 33]) rfl rfl (qn0 HT_.out (by kernel_rfl)) (fun _ _ _ h => h) (Or.inl ⟨by rfl, ?_⟩) ?_ ?_
          rotate_left
          ·intro w'
           go_simp
           with_reducible rfl
          rotate_left
          ·simp only [Act.put, List.setIfInBounds_toArray, List.set_cons_zero, List.set_cons_succ, i64_w, i32_w]
           rfl
          refine pure_ (i := 4) (N := some 47) (v := ?_) (a' := ?_) (rb4 [5, 32]) rfl rfl (qn0 HT_.out (by kernel_rfl)) (fun _ _ _ h => h) (Or.inl ⟨by rfl, ?_⟩) ?_ ?_
          rotate_left
          ·intro w'
           go_simp
           with_reducible rfl
          rotate_left
          ·simp only [Act.put, List.setIfInBounds_toArray, List.set_cons_zero, List.set_cons_succ, i64_w, i32_w]
           rfl
          refine pure_ (i := 5) (N := some 48) (v := ?_) (a' := ?_) (rb4 [6, 31]) rfl rfl (qn0 HT_.out (by kernel_rfl)) (fun _ _ _ h => h) (Or.inl ⟨by rfl, ?_⟩) ?_ ?_
          rotate_left
          ·intro w'
           go_simp
           with_reducible rfl
          rotate_left
          ·simp only [Act.put, List.setIfInBounds_toArray, List.set_cons_zero, List.set_cons_succ, i64_w, i32_w]
           rfl
          refine pure_ (i := 7) (N := some 50) (v := ?_) (a' := ?_) (rb4 [6, 1, 1, 29]) rfl rfl (qn0 HT_.out (by kernel_rfl)) (fun _ _ _ h => h) (Or.inl ⟨by rfl, ?_⟩) ?_ ?_
          rotate_left
          ·intro w'
           go_simp
           with_reducible rfl
          rotate_left
          ·simp only [Act.put, List.setIfInBounds_toArray, List.set_cons_zero, List.set_cons_succ, i64_w, i32_w]
           rfl
          refine take_ (i := 6) (N := some 49) (v := ?_) (a' := ?_) (rb4 [8, 29]) rfl rfl (qa1 HT_.out HW_.out (by kernel_rfl)) (fun _ _ _ h => h) (Or.inl ⟨by rfl, ?_⟩) hHeld ?_ ?_
          rotate_left
          ·rintro w' ⟨s0, s1, s2, s3, s4, s5⟩
           go_simp
           with_reducible rfl
          rotate_left
          ·simp only [Act.put, List.setIfInBounds_toArray, List.set_cons_zero, List.set_cons_succ, i64_w, i32_w]
           rfl
          refine pure_ (i := 8) (N := some 51) (v := ?_) (a' := ?_) (rb4 [9, 28]) rfl rfl (qn0 HT_.out (by kernel_rfl)) (fun _ _ _ h => h) (Or.inl ⟨by rfl, ?_⟩) ?_ ?_
          rotate_left
          ·intro w'
           go_simp
           with_reducible rfl
          rotate_left
          ·simp only [Act.put, List.setIfInBounds_toArray, List.set_cons_zero, List.set_cons_succ, i64_w, i32_w]
           rfl
          refine pure_ (i := 9) (N := some 52) (v := ?_) (a' := ?_) (rb4 [10, 27]) rfl rfl (qn0 HT_.out (by kernel_rfl)) (fun _ _ _ h => h) (Or.inl ⟨by rfl, ?_⟩) ?_ ?_
          rotate_left
          ·intro w'
           go_simp
           with_reducible rfl
          rotate_left
          ·simp only [Act.put, List.setIfInBounds_toArray, List.set_cons_zero, List.set_cons_succ, i64_w, i32_w]
           rfl
          refine pure_ (i := 10) (N := some 53) (v := ?_) (a' := ?_) (rb4 [11, 26]) rfl rfl (qn0 HT_.out (by kernel_rfl)) (fun _ _ _ h => h) (Or.inl ⟨by rfl, ?_⟩) ?_ ?_
          rotate_left
          ·intro w'
           go_simp
           with_reducible rfl
          rotate_left
          ·simp only [Act.put, List.setIfInBounds_toArray, List.set_cons_zero, List.set_cons_succ, i64_w, i32_w]
           rfl
          refine pure_ (i := 11) (N := some 54) (v := undef) (a' := ?_) (rb4 [12, 25]) rfl rfl (qn0 HT_.out (by kernel_rfl)) (fun _ _ _ h => h) (Or.inr ⟨by rfl, rfl⟩) ?_ ?_
          rotate_left
          ·simp only [Act.put, List.setIfInBounds_toArray, List.set_cons_zero, List.set_cons_succ, i64_w, i32_w]
           rfl
          refine pure_ (i := 12) (N := some 55) (v := undef) (a' := ?_) (rb4 [13, 24]) rfl rfl (qn0 HT_.out (by kernel_rfl)) (fun _ _ _ h => h) (Or.inr ⟨by rfl, rfl⟩) ?_ ?_
          rotate_left
          ·simp only [Act.put, List.setIfInBounds_toArray, List.set_cons_zero, List.set_cons_succ, i64_w, i32_w]
           rfl
          refine pure_ (i := 13) (N := some 56) (v := undef) (a' := ?_) (rb4 [14, 23]) rfl rfl (qn0 HT_.out (by kernel_rfl)) (fun _ _ _ h => h) (Or.inr ⟨by rfl, rfl⟩) ?_ ?_
          rotate_left
          ·simp only [Act.put, List.setIfInBounds_toArray, List.set_cons_zero, List.set_cons_succ, i64_w, i32_w]
           rfl
          refine pure_ (i := 14) (N := some 57) (v := undef) (a' := ?_) (rb4 [15, 22]) rfl rfl (qn0 HT_.out (by kernel_rfl)) (fun _ _ _ h => h) (Or.inr ⟨by rfl, rfl⟩) ?_ ?_
          rotate_left
          ·simp only [Act.put, List.setIfInBounds_toArray, List.set_cons_zero, List.set_cons_succ, i64_w, i32_w]
           rfl
          refine pure_ (i := 15) (N := some 58) (v := undef) (a' := ?_) (rb4 [16, 21]) rfl rfl (qn0 HT_.out (by kernel_rfl)) (fun _ _ _ h => h) (Or.inr ⟨by rfl, rfl⟩) ?_ ?_
          rotate_left
          ·simp only [Act.put, List.setIfInBounds_toArray, List.set_cons_zero, List.set_cons_succ, i64_w, i32_w]
           rfl
          refine pure_ (i := 16) (N := some 59) (v := ?_) (a' := ?_) (rb4 [17, 20]) rfl rfl (qn0 HT_.out (by kernel_rfl)) (fun _ _ _ h => h) (Or.inl ⟨by rfl, ?_⟩) ?_ ?_
          rotate_left
          ·intro w'
           go_simp
           with_reducible rfl
          rotate_left
          ·simp only [Act.put, List.setIfInBounds_toArray, List.set_cons_zero, List.set_cons_succ, i64_w, i32_w]
           rfl
          refine pure_ (i := 17) (N := some 60) (v := ?_) (a' := ?_) (rb4 [18, 19]) rfl rfl (qn0 HT_.out (by kernel_rfl)) (fun _ _ _ h => h) (Or.inl ⟨by rfl, ?_⟩) ?_ ?_
          rotate_left
          ·intro w'
           go_simp
           with_reducible rfl
          rotate_left
          ·simp only [Act.put, List.setIfInBounds_toArray, List.set_cons_zero, List.set_cons_succ, i64_w, i32_w]
           rfl
          refine pure_ (i := 18) (N := some 61) (v := undef) (a' := ?_) (rb4 [19, 18]) rfl rfl (qn0 HT_.out (by kernel_rfl)) (fun _ _ _ h => h) (Or.inr ⟨by rfl, rfl⟩) ?_ ?_
          rotate_left
          ·simp only [Act.put, List.setIfInBounds_toArray, List.set_cons_zero, List.set_cons_succ, i64_w, i32_w]
           rfl
          refine pure_ (i := 19) (N := some 62) (v := undef) (a' := ?_) (rb4 [20, 17]) rfl rfl (qn0 HT_.out (by kernel_rfl)) (fun _ _ _ h => h) (Or.inr ⟨by rfl, rfl⟩) ?_ ?_
          rotate_left
          ·simp only [Act.put, List.setIfInBounds_toArray, List.set_cons_zero, List.set_cons_succ, i64_w, i32_w]
           rfl
          refine pure_ (i := 20) (N := some 63) (v := undef) (a' := ?_) (rb4 [21, 16]) rfl rfl (qn0 HT_.out (by kernel_rfl)) (fun _ _ _ h => h) (Or.inr ⟨by rfl, rfl⟩) ?_ ?_
          rotate_left
          ·simp only [Act.put, List.setIfInBounds_toArray, List.set_cons_zero, List.set_cons_succ, i64_w, i32_w]
           rfl
          refine pure_ (i := 21) (N := some 64) (v := undef) (a' := ?_) (rb4 [22, 15]) rfl rfl (qn0 HT_.out (by kernel_rfl)) (fun _ _ _ h => h) (Or.inr ⟨by rfl, rfl⟩) ?_ ?_
          rotate_left
          ·simp only [Act.put, List.setIfInBounds_toArray, List.set_cons_zero, List.set_cons_succ, i64_w, i32_w]
           rfl
          refine pure_ (i := 22) (N := some 65) (v := ?_) (a' := ?_) (rb4 [23, 14]) rfl rfl (qn0 HT_.out (by kernel_rfl)) (fun _ _ _ h => h) (Or.inl ⟨by rfl, ?_⟩) ?_ ?_
          rotate_left
          ·intro w'
           go_simp
           with_reducible rfl
          rotate_left
          ·simp only [Act.put, List.setIfInBounds_toArray, List.set_cons_zero, List.set_cons_succ, i64_w, i32_w]
           rfl
          refine pure_ (i := 23) (N := some 66) (v := ?_) (a' := ?_) (rb4 [24, 13]) rfl rfl (qn0 HT_.out (by kernel_rfl)) (fun _ _ _ h => h) (Or.inl ⟨by rfl, ?_⟩) ?_ ?_
          rotate_left
          ·intro w'
           go_simp
           with_reducible rfl
          rotate_left
          ·simp only [Act.put, List.setIfInBounds_toArray, List.set_cons_zero, List.set_cons_succ, i64_w, i32_w]
           rfl
          refine pure_ (i := 24) (N := some 67) (v := undef) (a' := ?_) (rb4 [25, 12]) rfl rfl (qn0 HT_.out (by kernel_rfl)) (fun _ _ _ h => h) (Or.inr ⟨by rfl, rfl⟩) ?_ ?_
          rotate_left
          ·simp only [Act.put, List.setIfInBounds_toArray, List.set_cons_zero, List.set_cons_succ, i64_w, i32_w]
           rfl
          refine pure_ (i := 25) (N := some 68) (v := undef) (a' := ?_) (rb4 [26, 11]) rfl rfl (qn0 HT_.out (by kernel_rfl)) (fun _ _ _ h => h) (Or.inr ⟨by rfl, rfl⟩) ?_ ?_
          rotate_left
          ·simp only [Act.put, List.setIfInBounds_toArray, List.set_cons_zero, List.set_cons_succ, i64_w, i32_w]
           rfl
          refine pure_ (i := 26) (N := some 69) (v := undef) (a' := ?_) (rb4 [27, 10]) rfl rfl (qn0 HT_.out (by kernel_rfl)) (fun _ _ _ h => h) (Or.inr ⟨by rfl, rfl⟩) ?_ ?_
          rotate_left
          ·simp only [Act.put, List.setIfInBounds_toArray, List.set_cons_zero, List.set_cons_succ, i64_w, i32_w]
           rfl
          refine pure_ (i := 27) (N := some 70) (v := undef) (a' := ?_) (rb4 [28, 9]) rfl rfl (qn0 HT_.out (by kernel_rfl)) (fun _ _ _ h => h) (Or.inr ⟨by rfl, rfl⟩) ?_ ?_
          rotate_left
          ·simp only [Act.put, List.setIfInBounds_toArray, List.set_cons_zero, List.set_cons_succ, i64_w, i32_w]
           rfl
          refine pure_ (i := 28) (N := some 71) (v := undef) (a' := ?_) (rb4 [29, 8]) rfl rfl (qn0 HT_.out (by kernel_rfl)) (fun _ _ _ h => h) (Or.inr ⟨by rfl, rfl⟩) ?_ ?_
          rotate_left
          ·simp only [Act.put, List.setIfInBounds_toArray, List.set_cons_zero, List.set_cons_succ, i64_w, i32_w]
           rfl
          refine pure_ (i := 29) (N := some 72) (v := undef) (a' := ?_) (rb4 [30, 7]) rfl rfl (qn0 HT_.out (by kernel_rfl)) (fun _ _ _ h => h) (Or.inr ⟨by rfl, rfl⟩) ?_ ?_
          rotate_left
          ·simp only [Act.put, List.setIfInBounds_toArray, List.set_cons_zero, List.set_cons_succ, i64_w, i32_w]
           rfl
          refine pure_ (i := 30) (N := some 73) (v := undef) (a' := ?_) (rb4 [31, 6]) rfl rfl (qn0 HT_.out (by kernel_rfl)) (fun _ _ _ h => h) (Or.inr ⟨by rfl, rfl⟩) ?_ ?_
          rotate_left
          ·simp only [Act.put, List.setIfInBounds_toArray, List.set_cons_zero, List.set_cons_succ, i64_w, i32_w]
           rfl
          refine pure_ (i := 31) (N := some 74) (v := undef) (a' := ?_) (rb4 [32, 5]) rfl rfl (qn0 HT_.out (by kernel_rfl)) (fun _ _ _ h => h) (Or.inr ⟨by rfl, rfl⟩) ?_ ?_
          rotate_left
          ·simp only [Act.put, List.setIfInBounds_toArray, List.set_cons_zero, List.set_cons_succ, i64_w, i32_w]
           rfl
          refine pure_ (i := 32) (N := some 75) (v := undef) (a' := ?_) (rb4 [33, 4]) rfl rfl (qn0 HT_.out (by kernel_rfl)) (fun _ _ _ h => h) (Or.inr ⟨by rfl, rfl⟩) ?_ ?_
          rotate_left
          ·simp only [Act.put, List.setIfInBounds_toArray, List.set_cons_zero, List.set_cons_succ, i64_w, i32_w]
           rfl
          refine pure_ (i := 33) (N := some 76) (v := undef) (a' := ?_) (rb4 [34, 3]) rfl rfl (qn0 HT_.out (by kernel_rfl)) (fun _ _ _ h => h) (Or.inr ⟨by rfl, rfl⟩) ?_ ?_
          rotate_left
          ·simp only [Act.put, List.setIfInBounds_toArray, List.set_cons_zero, List.set_cons_succ, i64_w, i32_w]
           rfl
          refine pure_ (i := 34) (N := some 77) (v := undef) (a' := ?_) (rb4 [35, 2]) rfl rfl (qn0 HT_.out (by kernel_rfl)) (fun _ _ _ h => h) (Or.inr ⟨by rfl, rfl⟩) ?_ ?_
          rotate_left
          ·simp only [Act.put, List.setIfInBounds_toArray, List.set_cons_zero, List.set_cons_succ, i64_w, i32_w]
           rfl
          refine pure_ (i := 35) (N := some 78) (v := undef) (a' := ?_) (rb4 [36, 1]) rfl rfl (qn0 HT_.out (by kernel_rfl)) (fun _ _ _ h => h) (Or.inr ⟨by rfl, rfl⟩) ?_ ?_
          rotate_left
          ·simp only [Act.put, List.setIfInBounds_toArray, List.set_cons_zero, List.set_cons_succ, i64_w, i32_w]
           rfl
          refine pure_ (i := 36) (N := some 79) (v := ?_) (a' := ?_) (rb4 [37]) rfl rfl (qn0 HT_.out (by kernel_rfl)) (fun _ _ _ h => h) (Or.inl ⟨by rfl, ?_⟩) ?_ ?_
          rotate_left
          ·intro w'
           go_simp
           with_reducible rfl
          rotate_left
          ·simp only [Act.put, List.setIfInBounds_toArray, List.set_cons_zero, List.set_cons_succ, i64_w, i32_w]
           rfl
          refine done_ (done_of HT_.out (by kernel_rfl)) ?_
          try go_wp2
          go_roundg k3
          case measure => have := HJ4.out; have := HK2.out; have := HK3.out; omega
          case rel => exact ⟨(x11_3), (wrap64 (x12_3 + 1)), (by first | rfl | (simp; done) | (simp [*]; done)), (by first | rfl | (simp; done) | (simp [*]; done)), H', ⟨by have := HJ4.out; have := HK2.out; have := HK3.out; omega⟩, ⟨by (with_reducible repeat (first | apply Kd.ql0 | apply Kd.qk0 | apply Kd.qo0)); exact HO_9.out⟩, ⟨by (with_reducible repeat (first | apply Kd.ql0 | apply Kd.qk0 | apply Kd.qo0)); exact HO_10.out⟩, ⟨by repeat (first | (with_reducible first | exact HB.out | apply qc0 | apply qa0 | apply qb0 | refine qh0 ?_ GE136.out) | exact HB.out)⟩⟩
         rw [if_neg c22] at H
         have c22b0 : (((rd_T160 l0 x12_3).f0).toList == a1.toList) = false := beq_eq_false_iff_ne.mpr c22
         have c22b1 : (((rd_T160 l0 x12_3).f0).toList != a1.toList) = true := bne_iff_ne.mpr c22
         have H' := Aside0.mk H
         clear H
         have p135 : 0 ≤ (x12_3 : Int) := of_decide_eq_true (by first | (with_reducible assumption) | assumption)
         have q135 : x12_3 < (l0.length : Int) := of_decide_eq_true (by first | (with_reducible assumption) | assumption)
         obtain ⟨ad135, e135, hx135_0, hx135_1, hx135_2, hx135_3, hx135_4, hx135_5⟩ := at_T160 HR0.out x12_3 p135 q135
         cases e135
         replace hx135_0 := (HB.out.cell (World.block_lt_of_cell? w _ hx135_0)).trans hx135_0
         replace hx135_1 := (HB.out.cell (World.block_lt_of_cell? w _ hx135_1)).trans hx135_1
         replace hx135_2 := (HB.out.cell (World.block_lt_of_cell? w _ hx135_2)).trans hx135_2
         replace hx135_3 := (HB.out.cell (World.block_lt_of_cell? w _ hx135_3)).trans hx135_3
         replace hx135_4 := (HB.out.cell (World.block_lt_of_cell? w _ hx135_4)).trans hx135_4
         replace hx135_5 := (HB.out.cell (World.block_lt_of_cell? w _ hx135_5)).trans hx135_5
         replace p135 := eq_true p135
         replace q135 := eq_true q135
         try go_wp2_with (first | ((with_reducible refine qs0 (N := 13) rfl ?_); refine qt0 ?hg (N := 13) ?hd (cs := #[.string (⟨#[]⟩ : ByteArray), .string (⟨#[]⟩ : ByteArray), .string (⟨#[]⟩ : ByteArray), .int .i64 0, .int .i64 0, .int .i64 0]) (t := 160) ?hr ?_; (case hd => rfl); (case hg => rfl); (case hr => first | (go_simp; done) | (go_simp; rfl)); intro gb136 hg w59 hbox hb; have n0_ := Aside0.mk (Kd.qr0 (by (with_reducible repeat (first | apply Kd.ql0 | apply Kd.qk0 | apply Kd.qo0)); exact HO_9.out) hb); have n1_ := Aside0.mk (Kd.qr0 (by (with_reducible repeat (first | apply Kd.ql0 | apply Kd.qk0 | apply Kd.qo0)); exact HO_10.out) hb); have n2_ := Aside0.mk (qm0 (by repeat (first | (with_reducible first | exact HB.out | apply qc0 | apply qa0 | apply qb0) | exact HB.out)) hb); have n3_ := Aside0.mk (hbox); have n4_ := Aside0.mk ((by rw [hg]; exact (qi0 (by repeat (first | (with_reducible first | exact HB.out | apply qc0 | apply qa0 | apply qb0) | exact HB.out))) : w.heap.size ≤ gb136)); have n5_ := Aside0.mk ((by rw [hg]; exact (qi0 (by repeat (first | (with_reducible first | exact HB.out | apply qc0 | apply qa0 | apply qb0) | exact HB.out))) : w.heap.size ≤ gb136)); clear HO_9; clear HO_10; clear HB; have HO_9 := n0_; have HO_10 := n1_; have HB := n2_; have BK136 := n3_; have GW136 := n4_; have GE136 := n5_; clear n0_ n1_ n2_ n3_ n4_ n5_; clear hb hbox hg; have hcz60_0 : w59.cell? ⟨gb136, 0, none⟩ = some (.string (⟨#[]⟩ : ByteArray)) := (qe0 BK136.out 0).trans rfl; have hcz60_1 : w59.cell? ⟨gb136, 1, none⟩ = some (.string (⟨#[]⟩ : ByteArray)) := (qe0 BK136.out 1).trans rfl; have hcz60_2 : w59.cell? ⟨gb136, 2, none⟩ = some (.string (⟨#[]⟩ : ByteArray)) := (qe0 BK136.out 2).trans rfl; have hcz60_3 : w59.cell? ⟨gb136, 3, none⟩ = some (.int .i64 0) := (qe0 BK136.out 3).trans rfl; have hcz60_4 : w59.cell? ⟨gb136, 4, none⟩ = some (.int .i64 0) := (qe0 BK136.out 4).trans rfl; have hcz60_5 : w59.cell? ⟨gb136, 5, none⟩ = some (.int .i64 0) := (qe0 BK136.out 5).trans rfl; have hfz60_0 := qd0 BK136.out 0; have hfz60_1 := qd0 BK136.out 1; have hfz60_2 := qd0 BK136.out 2; have hfz60_3 := qd0 BK136.out 3; have hfz60_4 := qd0 BK136.out 4; have hfz60_5 := qd0 BK136.out 5))
         have n0_ : Aside0 (Kd.R k162 162 ((((((w59.setCell ⟨gb136, 0, none⟩ (.string ((rd_T160 l0 x12_3).f0))).setCell ⟨gb136, 1, none⟩ (.string ((rd_T160 l0 x12_3).f1))).setCell ⟨gb136, 2, none⟩ (.string ((rd_T160 l0 x12_3).f2))).setCell ⟨gb136, 3, none⟩ (.int .i64 ((rd_T160 l0 x12_3).f3))).setCell ⟨gb136, 4, none⟩ (.int .i64 ((rd_T160 l0 x12_3).f4))).setCell ⟨gb136, 5, none⟩ (.int .i64 ((rd_T160 l0 x12_3).f5))) w.heap.size (fun _ => True) u9 x9_2) := ⟨by (with_reducible repeat (first | apply Kd.ql0 | apply Kd.qk0 | apply Kd.qo0)); exact Kd.qb1 (Kd.R_far (p := ⟨gb136, 5, none⟩) (Kd.R_far (p := ⟨gb136, 4, none⟩) (Kd.R_far (p := ⟨gb136, 3, none⟩) (Kd.R_far (p := ⟨gb136, 2, none⟩) (Kd.R_far (p := ⟨gb136, 1, none⟩) (Kd.R_far (p := ⟨gb136, 0, none⟩) (Kd.qm1 HO_9.out BK136.out (by decide)) (fun _ hk => hk.2) (.string ((rd_T160 l0 x12_3).f0))) (fun _ hk => hk.2) (.string ((rd_T160 l0 x12_3).f1))) (fun _ hk => hk.2) (.string ((rd_T160 l0 x12_3).f2))) (fun _ hk => hk.2) (.int .i64 ((rd_T160 l0 x12_3).f3))) (fun _ hk => hk.2) (.int .i64 ((rd_T160 l0 x12_3).f4))) (fun _ hk => hk.2) (.int .i64 ((rd_T160 l0 x12_3).f5))) (fun _ hk => trivial)⟩
         have n1_ : Aside0 (Kd.R (Kd.int .i64) 3 ((((((w59.setCell ⟨gb136, 0, none⟩ (.string ((rd_T160 l0 x12_3).f0))).setCell ⟨gb136, 1, none⟩ (.string ((rd_T160 l0 x12_3).f1))).setCell ⟨gb136, 2, none⟩ (.string ((rd_T160 l0 x12_3).f2))).setCell ⟨gb136, 3, none⟩ (.int .i64 ((rd_T160 l0 x12_3).f3))).setCell ⟨gb136, 4, none⟩ (.int .i64 ((rd_T160 l0 x12_3).f4))).setCell ⟨gb136, 5, none⟩ (.int .i64 ((rd_T160 l0 x12_3).f5))) w.heap.size (fun _ => True) u10 x10_2) := ⟨by (with_reducible repeat (first | apply Kd.ql0 | apply Kd.qk0 | apply Kd.qo0)); exact Kd.qb1 (Kd.R_far (p := ⟨gb136, 5, none⟩) (Kd.R_far (p := ⟨gb136, 4, none⟩) (Kd.R_far (p := ⟨gb136, 3, none⟩) (Kd.R_far (p := ⟨gb136, 2, none⟩) (Kd.R_far (p := ⟨gb136, 1, none⟩) (Kd.R_far (p := ⟨gb136, 0, none⟩) (Kd.qm1 HO_10.out BK136.out (by decide)) (fun _ hk => hk.2) (.string ((rd_T160 l0 x12_3).f0))) (fun _ hk => hk.2) (.string ((rd_T160 l0 x12_3).f1))) (fun _ hk => hk.2) (.string ((rd_T160 l0 x12_3).f2))) (fun _ hk => hk.2) (.int .i64 ((rd_T160 l0 x12_3).f3))) (fun _ hk => hk.2) (.int .i64 ((rd_T160 l0 x12_3).f4))) (fun _ hk => hk.2) (.int .i64 ((rd_T160 l0 x12_3).f5))) (fun _ hk => trivial)⟩
         have n2_ : Aside0 (((((((w59.setCell ⟨gb136, 0, none⟩ (.string ((rd_T160 l0 x12_3).f0))).setCell ⟨gb136, 1, none⟩ (.string ((rd_T160 l0 x12_3).f1))).setCell ⟨gb136, 2, none⟩ (.string ((rd_T160 l0 x12_3).f2))).setCell ⟨gb136, 3, none⟩ (.int .i64 ((rd_T160 l0 x12_3).f3))).setCell ⟨gb136, 4, none⟩ (.int .i64 ((rd_T160 l0 x12_3).f4))).setCell ⟨gb136, 5, none⟩ (.int .i64 ((rd_T160 l0 x12_3).f5))).heap[gb136]? = some (.cells #[.string ((rd_T160 l0 x12_3).f0), .string ((rd_T160 l0 x12_3).f1), .string ((rd_T160 l0 x12_3).f2), .int .i64 ((rd_T160 l0 x12_3).f3), .int .i64 ((rd_T160 l0 x12_3).f4), .int .i64 ((rd_T160 l0 x12_3).f5)] 160 (0, 0))) := ⟨by (with_reducible repeat (first | refine qf0 ?_ _ | refine qj0 ?_ | refine qg0 ?_ _)); refine qu0 (cs := #[.string ((rd_T160 l0 x12_3).f0), .string ((rd_T160 l0 x12_3).f1), .string ((rd_T160 l0 x12_3).f2), .int .i64 ((rd_T160 l0 x12_3).f3), .int .i64 ((rd_T160 l0 x12_3).f4), .int .i64 0]) ?_ 5 _ rfl; (with_reducible repeat (first | refine qf0 ?_ _ | refine qj0 ?_ | refine qg0 ?_ _)); refine qu0 (cs := #[.string ((rd_T160 l0 x12_3).f0), .string ((rd_T160 l0 x12_3).f1), .string ((rd_T160 l0 x12_3).f2), .int .i64 ((rd_T160 l0 x12_3).f3), .int .i64 0, .int .i64 0]) ?_ 4 _ rfl; (with_reducible repeat (first | refine qf0 ?_ _ | refine qj0 ?_ | refine qg0 ?_ _)); refine qu0 (cs := #[.string ((rd_T160 l0 x12_3).f0), .string ((rd_T160 l0 x12_3).f1), .string ((rd_T160 l0 x12_3).f2), .int .i64 0, .int .i64 0, .int .i64 0]) ?_ 3 _ rfl; (with_reducible repeat (first | refine qf0 ?_ _ | refine qj0 ?_ | refine qg0 ?_ _)); refine qu0 (cs := #[.string ((rd_T160 l0 x12_3).f0), .string ((rd_T160 l0 x12_3).f1), .string (⟨#[]⟩ : ByteArray), .int .i64 0, .int .i64 0, .int .i64 0]) ?_ 2 _ rfl; (with_reducible repeat (first | refine qf0 ?_ _ | refine qj0 ?_ | refine qg0 ?_ _)); refine qu0 (cs := #[.string ((rd_T160 l0 x12_3).f0), .string (⟨#[]⟩ : ByteArray), .string (⟨#[]⟩ : ByteArray), .int .i64 0, .int .i64 0, .int .i64 0]) ?_ 1 _ rfl; (with_reducible repeat (first | refine qf0 ?_ _ | refine qj0 ?_ | refine qg0 ?_ _)); refine qu0 (cs := #[.string (⟨#[]⟩ : ByteArray), .string (⟨#[]⟩ : ByteArray), .string (⟨#[]⟩ : ByteArray), .int .i64 0, .int .i64 0, .int .i64 0]) ?_ 0 _ rfl; (with_reducible repeat (first | refine qf0 ?_ _ | refine qj0 ?_ | refine qg0 ?_ _)); exact BK136.out⟩
         have n3_ : Aside0 (Below w.heap.size w ((((((w59.setCell ⟨gb136, 0, none⟩ (.string ((rd_T160 l0 x12_3).f0))).setCell ⟨gb136, 1, none⟩ (.string ((rd_T160 l0 x12_3).f1))).setCell ⟨gb136, 2, none⟩ (.string ((rd_T160 l0 x12_3).f2))).setCell ⟨gb136, 3, none⟩ (.int .i64 ((rd_T160 l0 x12_3).f3))).setCell ⟨gb136, 4, none⟩ (.int .i64 ((rd_T160 l0 x12_3).f4))).setCell ⟨gb136, 5, none⟩ (.int .i64 ((rd_T160 l0 x12_3).f5)))) := ⟨by repeat (first | (with_reducible first | exact HB.out | apply qc0 | apply qa0 | apply qb0 | refine qh0 ?_ GE136.out) | exact HB.out)⟩
         (try clear HO_9)
         (try clear HO_10)
         (try clear BK136)
         (try clear HB)
         generalize ((((((w59.setCell ⟨gb136, 0, none⟩ (.string ((rd_T160 l0 x12_3).f0))).setCell ⟨gb136, 1, none⟩ (.string ((rd_T160 l0 x12_3).f1))).setCell ⟨gb136, 2, none⟩ (.string ((rd_T160 l0 x12_3).f2))).setCell ⟨gb136, 3, none⟩ (.int .i64 ((rd_T160 l0 x12_3).f3))).setCell ⟨gb136, 4, none⟩ (.int .i64 ((rd_T160 l0 x12_3).f4))).setCell ⟨gb136, 5, none⟩ (.int .i64 ((rd_T160 l0 x12_3).f5))) = w61 at n0_ n1_ n2_ n3_ ⊢
         have HO_9 := n0_
         have HO_10 := n1_
         have BK136 := n2_
         have HB := n3_
         clear n0_ n1_ n2_ n3_
         have n0_ := Aside0.mk (Kd.qo0 HO_9.out)
         have n1_ := Aside0.mk (Kd.qo0 HO_10.out)
         have n2_ := Aside0.mk (qj0 BK136.out)
         have n3_ := Aside0.mk (qb0 HB.out)
         clear HO_9
         clear HO_10
         clear BK136
         clear HB
         have HO_9 := n0_
         have HO_10 := n1_
         have BK136 := n2_
         have HB := n3_
         clear n0_ n1_ n2_ n3_
         refine start_ (n := 37) (S := fun w' => w'.cell? ⟨gb136, 0, none⟩ = some (.string ((rd_T160 l0 x12_3).f0)) ∧ w'.cell? ⟨gb136, 1, none⟩ = some (.string ((rd_T160 l0 x12_3).f1)) ∧ w'.cell? ⟨gb136, 2, none⟩ = some (.string ((rd_T160 l0 x12_3).f2)) ∧ w'.cell? ⟨gb136, 3, none⟩ = some (.int .i64 ((rd_T160 l0 x12_3).f3)) ∧ w'.cell? ⟨gb136, 4, none⟩ = some (.int .i64 ((rd_T160 l0 x12_3).f4)) ∧ w'.cell? ⟨gb136, 5, none⟩ = some (.int .i64 ((rd_T160 l0 x12_3).f5))) (ds := []) (rb4 [0, 37]) (by kernel_rfl) rfl rfl ⟨(qe0 BK136.out 0).trans rfl, (qe0 BK136.out 1).trans rfl, (qe0 BK136.out 2).trans rfl, (qe0 BK136.out 3).trans rfl, (qe0 BK136.out 4).trans rfl, (qe0 BK136.out 5).trans rfl⟩ (fun hHeld => ?_); refine with_tabW spec_Picks.tab11 spec_Picks.bits11 (fun HT_ HW_ => ?_)
         generalize w61.drew = w62 at HO_9 HO_10 BK136 HB hHeld ⊢
         refine pure_ (i := 0) (N := some 43) (v := ?_) (a' := ?_) (rb4 [1, 36]) rfl rfl (qn0 HT_.out (by kernel_rfl)) (fun _ _ _ h => h) (Or.inl ⟨by rfl, ?_⟩) ?_ ?_
         rotate_left
         ·intro w'
          go_simp
          with_reducible rfl
         rotate_left
         ·simp only [Act.put, List.setIfInBounds_toArray, List.set_cons_zero, List.set_cons_succ, i64_w, i32_w]
          rfl
         refine pure_ (i := 2) (N := some 45) (v := ?_) (a' := ?_) (rb4 [1, 1, 1, 34]) rfl rfl (qn0 HT_.out (by kernel_rfl)) (fun _ _ _ h => h) (Or.inl ⟨by rfl, ?_⟩) ?_ ?_
         rotate_left
         ·intro w'
          go_simp
          with_reducible rfl
         rotate_left
         ·simp only [Act.put, List.setIfInBounds_toArray, List.set_cons_zero, List.set_cons_succ, i64_w, i32_w]
          rfl
         refine take_ (i := 1) (N := some 44) (v := ?_) (a' := ?_) (rb4 [3, 34]) rfl rfl (qa1 HT_.out HW_.out (by kernel_rfl)) (fun _ _ _ h => h) (Or.inl ⟨by rfl, ?_⟩) hHeld ?_ ?_
         rotate_left
         ·rintro w' ⟨s0, s1, s2, s3, s4, s5⟩
          go_simp
          with_reducible rfl
         rotate_left
         ·simp only [Act.put, List.setIfInBounds_toArray, List.set_cons_zero, List.set_cons_succ, i64_w, i32_w]
          rfl
         refine pure_ (i := 3) (N := some 46) (v := ?_) (a' := ?_) (rb4 [4, 33]) rfl rfl (qn0 HT_.out (by kernel_rfl)) (fun _ _ _ h => h) (Or.inl ⟨by rfl, ?_⟩) ?_ ?_
         rotate_left
         ·intro w'
          go_simp
          with_reducible rfl
         rotate_left
         ·simp only [Act.put, List.setIfInBounds_toArray, List.set_cons_zero, List.set_cons_succ, i64_w, i32_w]
          rfl
         refine pure_ (i := 4) (N := some 47) (v := ?_) (a' := ?_) (rb4 [5, 32]) rfl rfl (qn0 HT_.out (by kernel_rfl)) (fun _ _ _ h => h) (Or.inl ⟨by rfl, ?_⟩) ?_ ?_
         rotate_left
         ·intro w'
          go_simp
          with_reducible rfl
         rotate_left
         ·simp only [Act.put, List.setIfInBounds_toArray, List.set_cons_zero, List.set_cons_succ, i64_w, i32_w]
          rfl
         refine pure_ (i := 5) (N := some 48) (v := undef) (a' := ?_) (rb4 [6, 31]) rfl rfl (qn0 HT_.out (by kernel_rfl)) (fun _ _ _ h => h) (Or.inr ⟨by rfl, rfl⟩) ?_ ?_
         rotate_left
         ·simp only [Act.put, List.setIfInBounds_toArray, List.set_cons_zero, List.set_cons_succ, i64_w, i32_w]
          rfl
         refine pure_ (i := 6) (N := some 49) (v := undef) (a' := ?_) (rb4 [7, 30]) rfl rfl (qn0 HT_.out (by kernel_rfl)) (fun _ _ _ h => h) (Or.inr ⟨by rfl, rfl⟩) ?_ ?_
         rotate_left
         ·simp only [Act.put, List.setIfInBounds_toArray, List.set_cons_zero, List.set_cons_succ, i64_w, i32_w]
          rfl
         refine pure_ (i := 7) (N := some 50) (v := undef) (a' := ?_) (rb4 [8, 29]) rfl rfl (qn0 HT_.out (by kernel_rfl)) (fun _ _ _ h => h) (Or.inr ⟨by rfl, rfl⟩) ?_ ?_
         rotate_left
         ·simp only [Act.put, List.setIfInBounds_toArray, List.set_cons_zero, List.set_cons_succ, i64_w, i32_w]
          rfl
         refine pure_ (i := 8) (N := some 51) (v := undef) (a' := ?_) (rb4 [9, 28]) rfl rfl (qn0 HT_.out (by kernel_rfl)) (fun _ _ _ h => h) (Or.inr ⟨by rfl, rfl⟩) ?_ ?_
         rotate_left
         ·simp only [Act.put, List.setIfInBounds_toArray, List.set_cons_zero, List.set_cons_succ, i64_w, i32_w]
          rfl
         refine pure_ (i := 9) (N := some 52) (v := ?_) (a' := ?_) (rb4 [10, 27]) rfl rfl (qn0 HT_.out (by kernel_rfl)) (fun _ _ _ h => h) (Or.inl ⟨by rfl, ?_⟩) ?_ ?_
         rotate_left
         ·intro w'
          go_simp
          with_reducible rfl
         rotate_left
         ·simp only [Act.put, List.setIfInBounds_toArray, List.set_cons_zero, List.set_cons_succ, i64_w, i32_w]
          rfl
         refine pure_ (i := 10) (N := some 53) (v := ?_) (a' := ?_) (rb4 [11, 26]) rfl rfl (qn0 HT_.out (by kernel_rfl)) (fun _ _ _ h => h) (Or.inl ⟨by rfl, ?_⟩) ?_ ?_
         rotate_left
         ·intro w'
          go_simp
          with_reducible rfl
         rotate_left
         ·simp only [Act.put, List.setIfInBounds_toArray, List.set_cons_zero, List.set_cons_succ, i64_w, i32_w]
          rfl
         refine pure_ (i := 11) (N := some 54) (v := undef) (a' := ?_) (rb4 [12, 25]) rfl rfl (qn0 HT_.out (by kernel_rfl)) (fun _ _ _ h => h) (Or.inr ⟨by rfl, rfl⟩) ?_ ?_
         rotate_left
         ·simp only [Act.put, List.setIfInBounds_toArray, List.set_cons_zero, List.set_cons_succ, i64_w, i32_w]
          rfl
         refine pure_ (i := 12) (N := some 55) (v := undef) (a' := ?_) (rb4 [13, 24]) rfl rfl (qn0 HT_.out (by kernel_rfl)) (fun _ _ _ h => h) (Or.inr ⟨by rfl, rfl⟩) ?_ ?_
         rotate_left
         ·simp only [Act.put, List.setIfInBounds_toArray, List.set_cons_zero, List.set_cons_succ, i64_w, i32_w]
          rfl
         refine pure_ (i := 13) (N := some 56) (v := undef) (a' := ?_) (rb4 [14, 23]) rfl rfl (qn0 HT_.out (by kernel_rfl)) (fun _ _ _ h => h) (Or.inr ⟨by rfl, rfl⟩) ?_ ?_
         rotate_left
         ·simp only [Act.put, List.setIfInBounds_toArray, List.set_cons_zero, List.set_cons_succ, i64_w, i32_w]
          rfl
         refine pure_ (i := 14) (N := some 57) (v := undef) (a' := ?_) (rb4 [15, 22]) rfl rfl (qn0 HT_.out (by kernel_rfl)) (fun _ _ _ h => h) (Or.inr ⟨by rfl, rfl⟩) ?_ ?_
         rotate_left
         ·simp only [Act.put, List.setIfInBounds_toArray, List.set_cons_zero, List.set_cons_succ, i64_w, i32_w]
          rfl
         refine pure_ (i := 15) (N := some 58) (v := undef) (a' := ?_) (rb4 [16, 21]) rfl rfl (qn0 HT_.out (by kernel_rfl)) (fun _ _ _ h => h) (Or.inr ⟨by rfl, rfl⟩) ?_ ?_
         rotate_left
         ·simp only [Act.put, List.setIfInBounds_toArray, List.set_cons_zero, List.set_cons_succ, i64_w, i32_w]
          rfl
         refine pure_ (i := 16) (N := some 59) (v := ?_) (a' := ?_) (rb4 [17, 20]) rfl rfl (qn0 HT_.out (by kernel_rfl)) (fun _ _ _ h => h) (Or.inl ⟨by rfl, ?_⟩) ?_ ?_
         rotate_left
         ·intro w'
          go_simp
          with_reducible rfl
         rotate_left
         ·simp only [Act.put, List.setIfInBounds_toArray, List.set_cons_zero, List.set_cons_succ, i64_w, i32_w]
          rfl
         refine pure_ (i := 17) (N := some 60) (v := ?_) (a' := ?_) (rb4 [18, 19]) rfl rfl (qn0 HT_.out (by kernel_rfl)) (fun _ _ _ h => h) (Or.inl ⟨by rfl, ?_⟩) ?_ ?_
         rotate_left
         ·intro w'
          go_simp
          with_reducible rfl
         rotate_left
         ·simp only [Act.put, List.setIfInBounds_toArray, List.set_cons_zero, List.set_cons_succ, i64_w, i32_w]
          rfl
         refine pure_ (i := 18) (N := some 61) (v := undef) (a' := ?_) (rb4 [19, 18]) rfl rfl (qn0 HT_.out (by kernel_rfl)) (fun _ _ _ h => h) (Or.inr ⟨by rfl, rfl⟩) ?_ ?_
         rotate_left
         ·simp only [Act.put, List.setIfInBounds_toArray, List.set_cons_zero, List.set_cons_succ, i64_w, i32_w]
          rfl
         refine pure_ (i := 19) (N := some 62) (v := undef) (a' := ?_) (rb4 [20, 17]) rfl rfl (qn0 HT_.out (by kernel_rfl)) (fun _ _ _ h => h) (Or.inr ⟨by rfl, rfl⟩) ?_ ?_
         rotate_left
         ·simp only [Act.put, List.setIfInBounds_toArray, List.set_cons_zero, List.set_cons_succ, i64_w, i32_w]
          rfl
         refine pure_ (i := 20) (N := some 63) (v := undef) (a' := ?_) (rb4 [21, 16]) rfl rfl (qn0 HT_.out (by kernel_rfl)) (fun _ _ _ h => h) (Or.inr ⟨by rfl, rfl⟩) ?_ ?_
         rotate_left
         ·simp only [Act.put, List.setIfInBounds_toArray, List.set_cons_zero, List.set_cons_succ, i64_w, i32_w]
          rfl
         refine pure_ (i := 21) (N := some 64) (v := undef) (a' := ?_) (rb4 [22, 15]) rfl rfl (qn0 HT_.out (by kernel_rfl)) (fun _ _ _ h => h) (Or.inr ⟨by rfl, rfl⟩) ?_ ?_
         rotate_left
         ·simp only [Act.put, List.setIfInBounds_toArray, List.set_cons_zero, List.set_cons_succ, i64_w, i32_w]
          rfl
         refine pure_ (i := 22) (N := some 65) (v := ?_) (a' := ?_) (rb4 [23, 14]) rfl rfl (qn0 HT_.out (by kernel_rfl)) (fun _ _ _ h => h) (Or.inl ⟨by rfl, ?_⟩) ?_ ?_
         rotate_left
         ·intro w'
          go_simp
          with_reducible rfl
         rotate_left
         ·simp only [Act.put, List.setIfInBounds_toArray, List.set_cons_zero, List.set_cons_succ, i64_w, i32_w]
          rfl
         refine pure_ (i := 23) (N := some 66) (v := ?_) (a' := ?_) (rb4 [24, 13]) rfl rfl (qn0 HT_.out (by kernel_rfl)) (fun _ _ _ h => h) (Or.inl ⟨by rfl, ?_⟩) ?_ ?_
         rotate_left
         ·intro w'
          go_simp
          with_reducible rfl
         rotate_left
         ·simp only [Act.put, List.setIfInBounds_toArray, List.set_cons_zero, List.set_cons_succ, i64_w, i32_w]
          rfl
         refine pure_ (i := 24) (N := some 67) (v := undef) (a' := ?_) (rb4 [25, 12]) rfl rfl (qn0 HT_.out (by kernel_rfl)) (fun _ _ _ h => h) (Or.inr ⟨by rfl, rfl⟩) ?_ ?_
         rotate_left
         ·simp only [Act.put, List.setIfInBounds_toArray, List.set_cons_zero, List.set_cons_succ, i64_w, i32_w]
          rfl
         refine pure_ (i := 25) (N := some 68) (v := undef) (a' := ?_) (rb4 [26, 11]) rfl rfl (qn0 HT_.out (by kernel_rfl)) (fun _ _ _ h => h) (Or.inr ⟨by rfl, rfl⟩) ?_ ?_
         rotate_left
         ·simp only [Act.put, List.setIfInBounds_toArray, List.set_cons_zero, List.set_cons_succ, i64_w, i32_w]
          rfl
         refine pure_ (i := 26) (N := some 69) (v := undef) (a' := ?_) (rb4 [27, 10]) rfl rfl (qn0 HT_.out (by kernel_rfl)) (fun _ _ _ h => h) (Or.inr ⟨by rfl, rfl⟩) ?_ ?_
         rotate_left
         ·simp only [Act.put, List.setIfInBounds_toArray, List.set_cons_zero, List.set_cons_succ, i64_w, i32_w]
          rfl
         refine pure_ (i := 27) (N := some 70) (v := undef) (a' := ?_) (rb4 [28, 9]) rfl rfl (qn0 HT_.out (by kernel_rfl)) (fun _ _ _ h => h) (Or.inr ⟨by rfl, rfl⟩) ?_ ?_
         rotate_left
         ·simp only [Act.put, List.setIfInBounds_toArray, List.set_cons_zero, List.set_cons_succ, i64_w, i32_w]
          rfl
         refine pure_ (i := 28) (N := some 71) (v := undef) (a' := ?_) (rb4 [29, 8]) rfl rfl (qn0 HT_.out (by kernel_rfl)) (fun _ _ _ h => h) (Or.inr ⟨by rfl, rfl⟩) ?_ ?_
         rotate_left
         ·simp only [Act.put, List.setIfInBounds_toArray, List.set_cons_zero, List.set_cons_succ, i64_w, i32_w]
          rfl
         refine pure_ (i := 29) (N := some 72) (v := undef) (a' := ?_) (rb4 [30, 7]) rfl rfl (qn0 HT_.out (by kernel_rfl)) (fun _ _ _ h => h) (Or.inr ⟨by rfl, rfl⟩) ?_ ?_
         rotate_left
         ·simp only [Act.put, List.setIfInBounds_toArray, List.set_cons_zero, List.set_cons_succ, i64_w, i32_w]
          rfl
         refine pure_ (i := 30) (N := some 73) (v := undef) (a' := ?_) (rb4 [31, 6]) rfl rfl (qn0 HT_.out (by kernel_rfl)) (fun _ _ _ h => h) (Or.inr ⟨by rfl, rfl⟩) ?_ ?_
         rotate_left
         ·simp only [Act.put, List.setIfInBounds_toArray, List.set_cons_zero, List.set_cons_succ, i64_w, i32_w]
          rfl
         refine pure_ (i := 31) (N := some 74) (v := undef) (a' := ?_) (rb4 [32, 5]) rfl rfl (qn0 HT_.out (by kernel_rfl)) (fun _ _ _ h => h) (Or.inr ⟨by rfl, rfl⟩) ?_ ?_
         rotate_left
         ·simp only [Act.put, List.setIfInBounds_toArray, List.set_cons_zero, List.set_cons_succ, i64_w, i32_w]
          rfl
         refine pure_ (i := 32) (N := some 75) (v := undef) (a' := ?_) (rb4 [33, 4]) rfl rfl (qn0 HT_.out (by kernel_rfl)) (fun _ _ _ h => h) (Or.inr ⟨by rfl, rfl⟩) ?_ ?_
         rotate_left
         ·simp only [Act.put, List.setIfInBounds_toArray, List.set_cons_zero, List.set_cons_succ, i64_w, i32_w]
          rfl
         refine pure_ (i := 33) (N := some 76) (v := undef) (a' := ?_) (rb4 [34, 3]) rfl rfl (qn0 HT_.out (by kernel_rfl)) (fun _ _ _ h => h) (Or.inr ⟨by rfl, rfl⟩) ?_ ?_
         rotate_left
         ·simp only [Act.put, List.setIfInBounds_toArray, List.set_cons_zero, List.set_cons_succ, i64_w, i32_w]
          rfl
         refine pure_ (i := 34) (N := some 77) (v := undef) (a' := ?_) (rb4 [35, 2]) rfl rfl (qn0 HT_.out (by kernel_rfl)) (fun _ _ _ h => h) (Or.inr ⟨by rfl, rfl⟩) ?_ ?_
         rotate_left
         ·simp only [Act.put, List.setIfInBounds_toArray, List.set_cons_zero, List.set_cons_succ, i64_w, i32_w]
          rfl
         refine pure_ (i := 35) (N := some 78) (v := undef) (a' := ?_) (rb4 [36, 1]) rfl rfl (qn0 HT_.out (by kernel_rfl)) (fun _ _ _ h => h) (Or.inr ⟨by rfl, rfl⟩) ?_ ?_
         rotate_left
         ·simp only [Act.put, List.setIfInBounds_toArray, List.set_cons_zero, List.set_cons_succ, i64_w, i32_w]
          rfl
         refine pure_ (i := 36) (N := some 79) (v := ?_) (a' := ?_) (rb4 [37]) rfl rfl (qn0 HT_.out (by kernel_rfl)) (fun _ _ _ h => h) (Or.inl ⟨by rfl, ?_⟩) ?_ ?_
         rotate_left
         ·intro w'
          go_simp
          with_reducible rfl
         rotate_left
         ·simp only [Act.put, List.setIfInBounds_toArray, List.set_cons_zero, List.set_cons_succ, i64_w, i32_w]
          rfl
         refine done_ (done_of HT_.out (by kernel_rfl)) ?_
         try go_wp2
         go_roundg k3
         case measure => have := HJ4.out; have := HK2.out; have := HK3.out; omega
         case rel => exact ⟨(x11_3), (wrap64 (x12_3 + 1)), (by first | rfl | (simp; done) | (simp [*]; done)), (by first | rfl | (simp; done) | (simp [*]; done)), H', ⟨by have := HJ4.out; have := HK2.out; have := HK3.out; omega⟩, ⟨by (with_reducible repeat (first | apply Kd.ql0 | apply Kd.qk0 | apply Kd.qo0)); exact HO_9.out⟩, ⟨by (with_reducible repeat (first | apply Kd.ql0 | apply Kd.qk0 | apply Kd.qo0)); exact HO_10.out⟩, ⟨by repeat (first | (with_reducible first | exact HB.out | apply qc0 | apply qa0 | apply qb0 | refine qh0 ?_ GE136.out) | exact HB.out)⟩⟩
        rw [if_neg c20] at H
        have c20b0 : decide (x12_3 < (l0.length : Int)) = false := decide_eq_false c20
        clear c20
        by_cases c63 : x11_3 < 0
        ·rw [if_pos c63] at H
         have c63b0 : decide (x11_3 < 0) = true := decide_eq_true c63
         clear c63
         obtain ⟨y139, hy139⟩ : ∃ y_ : List (S162), y_ = (([] : List (S162))) := ⟨_, rfl⟩
         replace H : (some y139) = some r := by first | (rw [hy139]; with_reducible exact H) | (have H2_ := (Option.bind_some _ _).symm.trans H; rw [hy139]; with_reducible exact H2_) | (have H2_ := (Option.bind_some _ _).symm.trans H; with_reducible exact H2_) | with_reducible exact H | (rw [hy139]; exact H) | exact H
         have Ny139 := Aside0.mk hy139
         clear hy139
         obtain rfl := Option.some.inj H
         go_wp2_with (first | ((with_reducible refine qs0 (N := 83) rfl ?_); refine Kd.R_lit k162 _ 162 ?hg (N := 83) ?hd (xs := ([] : List (S162))) (inner := []) (ok := fun _ => True) (okp := fun _ => True) ?hr ?hp (fun _ hk => hk) trivial (Below.refl _ _) (Nat.le_refl _) (by simp) ?_; (case hd => rfl); (case hg => rfl); (case hr => first | (go_simp; done) | (go_simp; rfl)); (case hp => exact (Reps.none _ _)); intro v140 w64 ho65 hb hg_ hnew_; clear hg_ hnew_; (first | rw [← Ny139.out] at ho65 | (simp only [Int.reduceToNat] at ho65; rw [← Ny139.out] at ho65)); have n0_ := Aside0.mk (Kd.qj1 (by (with_reducible repeat (first | apply Kd.ql0 | apply Kd.qk0 | apply Kd.qo0)); exact HO_9.out) (Kd.qo1 ho65) hb); have n1_ := Aside0.mk (Kd.qr0 (by (with_reducible repeat (first | apply Kd.ql0 | apply Kd.qk0 | apply Kd.qo0)); exact HO_10.out) hb); have n2_ := Aside0.mk (Kd.qf1 (Kd.qp1 ho65 (Kd.R_lt (by (with_reducible repeat (first | apply Kd.ql0 | apply Kd.qk0 | apply Kd.qo0)); exact HO_9.out))) (qi0 (by repeat (first | (with_reducible first | exact HB.out | apply qc0 | apply qa0 | apply qb0) | exact HB.out)))); have n3_ := Aside0.mk (qm0 (by repeat (first | (with_reducible first | exact HB.out | apply qc0 | apply qa0 | apply qb0) | exact HB.out)) hb); clear HO_9; clear HO_10; clear HB; have HO_9 := n0_; have HO_10 := n1_; have HO141 := n2_; have HB := n3_; clear n0_ n1_ n2_ n3_; clear hb ho65))
         go_ret
         exact ⟨_, by first | rfl | (simp [errW_none, errW_some] <;> rfl) | (simp [*, errW_none, errW_some] <;> rfl), by (with_reducible repeat (first | apply Kd.ql0 | apply Kd.qk0 | apply Kd.qo0)); exact Kd.qb1 HO141.out (fun _ hk => trivial), by repeat (first | (with_reducible first | exact HB.out | apply qc0 | apply qa0 | apply qb0) | exact HB.out)⟩
        rw [if_neg c63] at H
        have c63b0 : decide (x11_3 < 0) = false := decide_eq_false c63
        clear c63
        by_cases c66 : 0 ≤ x11_3
        case neg => rw [if_neg c66] at H; exact absurd H (by simp)
        rw [if_pos c66] at H
        have c66b0 : decide (0 ≤ x11_3) = true := decide_eq_true c66
        clear c66
        by_cases c67 : x11_3 < (l0.length : Int)
        case neg => rw [if_neg c67] at H; exact absurd H (by simp)
        rw [if_pos c67] at H
        have c67b0 : decide (x11_3 < (l0.length : Int)) = true := decide_eq_true c67
        clear c67
        by_cases c68 : (wrap64 (((rd_T160 l0 x11_3).f4) - ((rd_T160 l0 x11_3).f5))) > x2_2
        ·rw [if_pos c68] at H
         have c68b0 : decide (x2_2 < (wrap64 (((rd_T160 l0 x11_3).f4) - ((rd_T160 l0 x11_3).f5)))) = true := decide_eq_true c68
         clear c68
         by_cases c69 : x10_2.length < 17592186044416
         case neg => rw [if_neg c69] at H; exact absurd H (by simp)
         rw [if_pos c69] at H
         have LMc69 := Aside0.mk c69
         clear c69
         obtain ⟨y144, hy144⟩ : ∃ y_ : List Int, y_ = (x10_2 ++ [x11_3]) := ⟨_, rfl⟩
         replace H : (if x9_2.length < 8796093022208 then (spec_Picks.l0 k3 l0 a1 0 a3 (x9_2 ++ [(⟨x11_3, x2_2⟩ : S162)]) y144) else (none)) = some r := by first | (rw [hy144]; with_reducible exact H) | (have H2_ := (Option.bind_some _ _).symm.trans H; rw [hy144]; with_reducible exact H2_) | (have H2_ := (Option.bind_some _ _).symm.trans H; with_reducible exact H2_) | with_reducible exact H | (rw [hy144]; exact H) | exact H
         have Ny144 := Aside0.mk hy144
         clear hy144
         by_cases c70 : x9_2.length < 8796093022208
         case neg => rw [if_neg c70] at H; exact absurd H (by simp)
         rw [if_pos c70] at H
         have LMc70 := Aside0.mk c70
         clear c70
         obtain ⟨y147, hy147⟩ : ∃ y_ : List (S162), y_ = (x9_2 ++ [(⟨x11_3, x2_2⟩ : S162)]) := ⟨_, rfl⟩
         replace H : (spec_Picks.l0 k3 l0 a1 0 a3 y147 y144) = some r := by first | (rw [hy147]; with_reducible exact H) | (have H2_ := (Option.bind_some _ _).symm.trans H; rw [hy147]; with_reducible exact H2_) | (have H2_ := (Option.bind_some _ _).symm.trans H; with_reducible exact H2_) | with_reducible exact H | (rw [hy147]; exact H) | exact H
         have Ny147 := Aside0.mk hy147
         clear hy147
         have H' := Aside0.mk H
         clear H
         try go_wp2
         have n0_ := Aside0.mk (Kd.qo0 HO_9.out)
         have n1_ := Aside0.mk (Kd.qo0 HO_10.out)
         have n2_ := Aside0.mk (qb0 HB.out)
         clear HO_9
         clear HO_10
         clear HB
         have HO_9 := n0_
         have HO_10 := n1_
         have HB := n2_
         clear n0_ n1_ n2_
         have p142 : 0 ≤ (x11_3 : Int) := of_decide_eq_true (by first | (with_reducible assumption) | assumption)
         have q142 : x11_3 < (l0.length : Int) := of_decide_eq_true (by first | (with_reducible assumption) | assumption)
         obtain ⟨ad142, e142, hx142_0, hx142_1, hx142_2, hx142_3, hx142_4, hx142_5⟩ := at_T160 HR0.out x11_3 p142 q142
         have hw142_5 := hx142_5
         have hw142_4 := hx142_4
         have hw142_3 := hx142_3
         have hw142_2 := hx142_2
         have hw142_1 := hx142_1
         have hw142_0 := hx142_0
         cases e142
         replace hx142_0 := (HB.out.cell (World.block_lt_of_cell? w _ hx142_0)).trans hx142_0
         replace hx142_1 := (HB.out.cell (World.block_lt_of_cell? w _ hx142_1)).trans hx142_1
         replace hx142_2 := (HB.out.cell (World.block_lt_of_cell? w _ hx142_2)).trans hx142_2
         replace hx142_3 := (HB.out.cell (World.block_lt_of_cell? w _ hx142_3)).trans hx142_3
         replace hx142_4 := (HB.out.cell (World.block_lt_of_cell? w _ hx142_4)).trans hx142_4
         replace hx142_5 := (HB.out.cell (World.block_lt_of_cell? w _ hx142_5)).trans hx142_5
         replace p142 := eq_true p142
         replace q142 := eq_true q142
         have p143 : 0 ≤ (x11_3 : Int) := of_decide_eq_true (by first | (with_reducible assumption) | assumption)
         have q143 : x11_3 < (l0.length : Int) := of_decide_eq_true (by first | (with_reducible assumption) | assumption)
         obtain ⟨ad143, e143, hx143_0, hx143_1, hx143_2, hx143_3, hx143_4, hx143_5⟩ := at_T160 HR0.out x11_3 p143 q143
         have hw143_5 := hx143_5
         have hw143_4 := hx143_4
         have hw143_3 := hx143_3
         have hw143_2 := hx143_2
         have hw143_1 := hx143_1
         have hw143_0 := hx143_0
         obtain rfl : ad142 = ad143 := (by injection e143)
         replace hx143_0 := (HB.out.cell (World.block_lt_of_cell? w _ hx143_0)).trans hx143_0
         replace hx143_1 := (HB.out.cell (World.block_lt_of_cell? w _ hx143_1)).trans hx143_1
         replace hx143_2 := (HB.out.cell (World.block_lt_of_cell? w _ hx143_2)).trans hx143_2
         replace hx143_3 := (HB.out.cell (World.block_lt_of_cell? w _ hx143_3)).trans hx143_3
         replace hx143_4 := (HB.out.cell (World.block_lt_of_cell? w _ hx143_4)).trans hx143_4
         replace hx143_5 := (HB.out.cell (World.block_lt_of_cell? w _ hx143_5)).trans hx143_5
         replace p143 := eq_true p143
         replace q143 := eq_true q143
         refine start_ (n := 12) (S := fun w' => w'.cell? (ad142.add ((x11_3).toNat * 6)) = some (.string ((rd_T160 l0 x11_3).f0)) ∧ w'.cell? ⟨(ad142.add ((x11_3).toNat * 6)).block, (ad142.add ((x11_3).toNat * 6)).off + 1, none⟩ = some (.string ((rd_T160 l0 x11_3).f1)) ∧ w'.cell? ⟨(ad142.add ((x11_3).toNat * 6)).block, (ad142.add ((x11_3).toNat * 6)).off + 2, none⟩ = some (.string ((rd_T160 l0 x11_3).f2)) ∧ w'.cell? ⟨(ad142.add ((x11_3).toNat * 6)).block, (ad142.add ((x11_3).toNat * 6)).off + 3, none⟩ = some (.int .i64 ((rd_T160 l0 x11_3).f3)) ∧ w'.cell? ⟨(ad142.add ((x11_3).toNat * 6)).block, (ad142.add ((x11_3).toNat * 6)).off + 4, none⟩ = some (.int .i64 ((rd_T160 l0 x11_3).f4)) ∧ w'.cell? ⟨(ad142.add ((x11_3).toNat * 6)).block, (ad142.add ((x11_3).toNat * 6)).off + 5, none⟩ = some (.int .i64 ((rd_T160 l0 x11_3).f5)) ∧ w'.cell? (ad142.add ((x11_3).toNat * 6)) = some (.string ((rd_T160 l0 x11_3).f0)) ∧ w'.cell? ⟨(ad142.add ((x11_3).toNat * 6)).block, (ad142.add ((x11_3).toNat * 6)).off + 1, none⟩ = some (.string ((rd_T160 l0 x11_3).f1)) ∧ w'.cell? ⟨(ad142.add ((x11_3).toNat * 6)).block, (ad142.add ((x11_3).toNat * 6)).off + 2, none⟩ = some (.string ((rd_T160 l0 x11_3).f2)) ∧ w'.cell? ⟨(ad142.add ((x11_3).toNat * 6)).block, (ad142.add ((x11_3).toNat * 6)).off + 3, none⟩ = some (.int .i64 ((rd_T160 l0 x11_3).f3)) ∧ w'.cell? ⟨(ad142.add ((x11_3).toNat * 6)).block, (ad142.add ((x11_3).toNat * 6)).off + 4, none⟩ = some (.int .i64 ((rd_T160 l0 x11_3).f4)) ∧ w'.cell? ⟨(ad142.add ((x11_3).toNat * 6)).block, (ad142.add ((x11_3).toNat * 6)).off + 5, none⟩ = some (.int .i64 ((rd_T160 l0 x11_3).f5))) (ds := []) (rb4 [0, 12]) (by kernel_rfl) rfl rfl ⟨((HB.out.cell (World.block_lt_of_cell? w _ hw142_0)).trans hw142_0), ((HB.out.cell (World.block_lt_of_cell? w _ hw142_1)).trans hw142_1), ((HB.out.cell (World.block_lt_of_cell? w _ hw142_2)).trans hw142_2), ((HB.out.cell (World.block_lt_of_cell? w _ hw142_3)).trans hw142_3), ((HB.out.cell (World.block_lt_of_cell? w _ hw142_4)).trans hw142_4), ((HB.out.cell (World.block_lt_of_cell? w _ hw142_5)).trans hw142_5), ((HB.out.cell (World.block_lt_of_cell? w _ hw143_0)).trans hw143_0), ((HB.out.cell (World.block_lt_of_cell? w _ hw143_1)).trans hw143_1), ((HB.out.cell (World.block_lt_of_cell? w _ hw143_2)).trans hw143_2), ((HB.out.cell (World.block_lt_of_cell? w _ hw143_3)).trans hw143_3), ((HB.out.cell (World.block_lt_of_cell? w _ hw143_4)).trans hw143_4), ((HB.out.cell (World.block_lt_of_cell? w _ hw143_5)).trans hw143_5)⟩ (fun hHeld => ?_); refine with_tabW spec_Picks.tab15 spec_Picks.bits15 (fun HT_ HW_ => ?_)
         generalize wr.drew = w71 at HO_9 HO_10 HB hx142_0 hx142_1 hx142_2 hx142_3 hx142_4 hx142_5 hx143_0 hx143_1 hx143_2 hx143_3 hx143_4 hx143_5 hHeld ⊢
         refine pure_ (i := 0) (N := some 84) (v := ?_) (a' := ?_) (rb4 [1, 11]) rfl rfl (qn0 HT_.out (by kernel_rfl)) (fun _ _ _ h => h) (Or.inl ⟨by rfl, ?_⟩) ?_ ?_
         rotate_left
         ·intro w'
          go_simp
          with_reducible rfl
         rotate_left
         ·simp only [Act.put, List.setIfInBounds_toArray, List.set_cons_zero, List.set_cons_succ, i64_w, i32_w]
          rfl
         refine pure_ (i := 1) (N := some 85) (v := ?_) (a' := ?_) (rb4 [2, 10]) rfl rfl (qn0 HT_.out (by kernel_rfl)) (fun _ _ _ h => h) (Or.inl ⟨by rfl, ?_⟩) ?_ ?_
         rotate_left
         ·intro w'
          go_simp
          with_reducible rfl
         rotate_left
         ·simp only [Act.put, List.setIfInBounds_toArray, List.set_cons_zero, List.set_cons_succ, i64_w, i32_w]
          rfl
         refine pure_ (i := 2) (N := some 86) (v := ?_) (a' := ?_) (rb4 [3, 9]) rfl rfl (qn0 HT_.out (by kernel_rfl)) (fun _ _ _ h => h) (Or.inl ⟨by rfl, ?_⟩) ?_ ?_
         rotate_left
         ·intro w'
          go_simp
          with_reducible rfl
         rotate_left
         ·simp only [Act.put, List.setIfInBounds_toArray, List.set_cons_zero, List.set_cons_succ, i64_w, i32_w]
          rfl
         refine pure_ (i := 3) (N := some 87) (v := ?_) (a' := ?_) (rb4 [4, 8]) rfl rfl (qn0 HT_.out (by kernel_rfl)) (fun _ _ _ h => h) (Or.inl ⟨by rfl, ?_⟩) ?_ ?_
         rotate_left
         ·intro w'
          go_simp
          with_reducible rfl
         rotate_left
         ·simp only [Act.put, List.setIfInBounds_toArray, List.set_cons_zero, List.set_cons_succ, i64_w, i32_w]
          rfl
         refine pure_ (i := 5) (N := some 89) (v := ?_) (a' := ?_) (rb4 [4, 1, 1, 6]) rfl rfl (qn0 HT_.out (by kernel_rfl)) (fun _ _ _ h => h) (Or.inl ⟨by rfl, ?_⟩) ?_ ?_
         rotate_left
         ·intro w'
          go_simp
          with_reducible rfl
         rotate_left
         ·simp only [Act.put, List.setIfInBounds_toArray, List.set_cons_zero, List.set_cons_succ, i64_w, i32_w]
          rfl
         refine pure_ (i := 6) (N := some 90) (v := ?_) (a' := ?_) (rb4 [4, 1, 2, 5]) rfl rfl (qn0 HT_.out (by kernel_rfl)) (fun _ _ _ h => h) (Or.inl ⟨by rfl, ?_⟩) ?_ ?_
         rotate_left
         ·intro w'
          go_simp
          with_reducible rfl
         rotate_left
         ·simp only [Act.put, List.setIfInBounds_toArray, List.set_cons_zero, List.set_cons_succ, i64_w, i32_w]
          rfl
         refine pure_ (i := 7) (N := some 91) (v := ?_) (a' := ?_) (rb4 [4, 1, 3, 4]) rfl rfl (qn0 HT_.out (by kernel_rfl)) (fun _ _ _ h => h) (Or.inl ⟨by rfl, ?_⟩) ?_ ?_
         rotate_left
         ·intro w'
          go_simp
          with_reducible rfl
         rotate_left
         ·simp only [Act.put, List.setIfInBounds_toArray, List.set_cons_zero, List.set_cons_succ, i64_w, i32_w]
          rfl
         refine pure_ (i := 8) (N := some 92) (v := ?_) (a' := ?_) (rb4 [4, 1, 4, 3]) rfl rfl (qn0 HT_.out (by kernel_rfl)) (fun _ _ _ h => h) (Or.inl ⟨by rfl, ?_⟩) ?_ ?_
         rotate_left
         ·intro w'
          go_simp
          with_reducible rfl
         rotate_left
         ·simp only [Act.put, List.setIfInBounds_toArray, List.set_cons_zero, List.set_cons_succ, i64_w, i32_w]
          rfl
         refine take_ (i := 4) (N := some 88) (v := ?_) (a' := ?_) (rb4 [9, 3]) rfl rfl (qa1 HT_.out HW_.out (by kernel_rfl)) (fun _ _ _ h => h) (Or.inl ⟨by rfl, ?_⟩) hHeld ?_ ?_
         rotate_left
         ·rintro w' ⟨s0, s1, s2, s3, s4, s5, s6, s7, s8, s9, s10, s11⟩
          go_simp
          with_reducible rfl
         rotate_left
         ·simp only [Act.put, List.setIfInBounds_toArray, List.set_cons_zero, List.set_cons_succ, i64_w, i32_w]
          rfl
         refine take_ (i := 9) (N := some 93) (v := ?_) (a' := ?_) (rb4 [10, 2]) rfl rfl (qa1 HT_.out HW_.out (by kernel_rfl)) (fun _ _ _ h => h) (Or.inl ⟨by rfl, ?_⟩) hHeld ?_ ?_
         rotate_left
         ·rintro w' ⟨s0, s1, s2, s3, s4, s5, s6, s7, s8, s9, s10, s11⟩
          go_simp
          with_reducible rfl
         rotate_left
         ·simp only [Act.put, List.setIfInBounds_toArray, List.set_cons_zero, List.set_cons_succ, i64_w, i32_w]
          rfl
         refine pure_ (i := 10) (N := some 94) (v := ?_) (a' := ?_) (rb4 [11, 1]) rfl rfl (qn0 HT_.out (by kernel_rfl)) (fun _ _ _ h => h) (Or.inl ⟨by rfl, ?_⟩) ?_ ?_
         rotate_left
         ·intro w'
          go_simp
          with_reducible rfl
         rotate_left
         ·simp only [Act.put, List.setIfInBounds_toArray, List.set_cons_zero, List.set_cons_succ, i64_w, i32_w]
          rfl
         refine pure_ (i := 11) (N := some 14) (v := ?_) (a' := ?_) (rb4 [12]) rfl rfl (qn0 HT_.out (by kernel_rfl)) (fun _ _ _ h => h) (Or.inl ⟨by rfl, ?_⟩) ?_ ?_
         rotate_left
         ·intro w'
          go_simp
          with_reducible rfl
         rotate_left
         ·simp only [Act.put, List.setIfInBounds_toArray, List.set_cons_zero, List.set_cons_succ, i64_w, i32_w]
          rfl
         refine done_ (done_of HT_.out (by kernel_rfl)) ?_
         try go_wp2_with (first | ((with_reducible refine gate_builtin (b := .append) (xs := #[.tmp 99, .tmp 101]) rfl ?_); at_builtin; refine Kd.R_append (Kd.int .i64) (w0 := w) w.heap.size rfl (.tmp 99) (.tmp 101) 33 3 (.int .i64 0) 8 rfl Try.underlying33 info3 rfl (by decide) (by omega) u10 x10_2 x11_3 [.int .i64 x11_3] (fun _ => True) (fun _ => False) rfl rfl ?aP (fun _ hk => hk.elim) ?aF ?aO ?aB ?aS ?aL ?_; (case aP => exact rfl); (case aB => exact (by repeat (first | (with_reducible first | exact HB.out | apply qc0 | apply qa0 | apply qb0) | exact HB.out))); (case aF => exact (fun _ _ => trivial)); (case aO => exact (by (with_reducible repeat (first | apply Kd.ql0 | apply Kd.qk0 | apply Kd.qo0)); exact HO_10.out)); (case aS => exact (qi0 (by repeat (first | (with_reducible first | exact HB.out | apply qc0 | apply qa0 | apply qb0) | exact HB.out)))); (case aL => have := LMc69.out; omega); intro v145 w72 ho hb hg hat; rw [← Ny144.out] at ho; have n0_ := Aside0.mk (Kd.R_over' (by (with_reducible repeat (first | apply Kd.ql0 | apply Kd.qk0 | apply Kd.qo0)); exact HO_9.out) (Kd.R_typed (by (with_reducible repeat (first | apply Kd.ql0 | apply Kd.qk0 | apply Kd.qo0)); exact HO_10.out)) (by decide) hg); have n1_ := Aside0.mk (hb); have n2_ := Aside0.mk (ho); clear HO_9; clear HB; clear HO_10; have HO_9 := n0_; have HB := n1_; have HO146 := n2_; clear n0_ n1_ n2_; clear ho hb hg hat) | ((with_reducible refine gate_builtin (b := .append) (xs := #[.tmp 103, .tmp 107]) rfl ?_); at_builtin; refine Kd.R_append k162 (w0 := w) w.heap.size rfl (.tmp 103) (.tmp 107) 72 162 (.agg #[(.int .i64 0), (.int .i64 0)]) 16 rfl Try.underlying72 info162 rfl (by decide) (by omega) u9 x9_2 (⟨x11_3, x2_2⟩ : S162) [.int .i64 x11_3, .int .i64 x2_2] (fun _ => True) (fun _ => False) rfl rfl ?aP (fun _ hk => hk.elim) ?aF ?aO ?aB ?aS ?aL ?_; (case aP => exact k162_mkM _ _ _ (⟨x11_3, x2_2⟩ : S162)); (case aB => exact (by repeat (first | (with_reducible first | exact HB.out | apply qc0 | apply qa0 | apply qb0) | exact HB.out))); (case aF => exact (fun _ _ => trivial)); (case aO => exact (by (with_reducible repeat (first | apply Kd.ql0 | apply Kd.qk0 | apply Kd.qo0)); exact HO_9.out)); (case aS => exact (qi0 (by repeat (first | (with_reducible first | exact HB.out | apply qc0 | apply qa0 | apply qb0) | exact HB.out)))); (case aL => have := LMc70.out; omega); intro v148 w73 ho hb hg hat; rw [← Ny147.out] at ho; have n0_ := Aside0.mk (Kd.R_over' (by (with_reducible repeat (first | apply Kd.ql0 | apply Kd.qk0 | apply Kd.qo0)); exact HO146.out) (Kd.R_typed (by (with_reducible repeat (first | apply Kd.ql0 | apply Kd.qk0 | apply Kd.qo0)); exact HO_9.out)) (by decide) hg); have n1_ := Aside0.mk (hb); have n2_ := Aside0.mk (ho); clear HO146; clear HB; clear HO_9; have HO146 := n0_; have HB := n1_; have HO149 := n2_; clear n0_ n1_ n2_; clear ho hb hg hat))
         go_roundg k3
         case measure => have := HJ4.out; have := HK2.out; have := HK3.out; omega
         case rel => exact ⟨(0), (y147), (y144), (by first | rfl | (simp; done) | (simp [*]; done)), H', ⟨by have := HJ4.out; have := HK2.out; have := HK3.out; omega⟩, ⟨by (with_reducible repeat (first | apply Kd.ql0 | apply Kd.qk0 | apply Kd.qo0)); exact HO149.out⟩, ⟨by (with_reducible repeat (first | apply Kd.ql0 | apply Kd.qk0 | apply Kd.qo0)); exact HO146.out⟩, ⟨by repeat (first | (with_reducible first | exact HB.out | apply qc0 | apply qa0 | apply qb0) | exact HB.out)⟩⟩
        rw [if_neg c68] at H
        have c68b0 : decide (x2_2 < (wrap64 (((rd_T160 l0 x11_3).f4) - ((rd_T160 l0 x11_3).f5)))) = false := decide_eq_false c68
        clear c68
        by_cases c74 : x10_2.length < 17592186044416
        case neg => rw [if_neg c74] at H; exact absurd H (by simp)
        rw [if_pos c74] at H
        have LMc74 := Aside0.mk c74
        clear c74
        obtain ⟨y150, hy150⟩ : ∃ y_ : List Int, y_ = (x10_2 ++ [x11_3]) := ⟨_, rfl⟩
        replace H : (if x9_2.length < 8796093022208 then (spec_Picks.l0 k3 l0 a1 (wrap64 (x2_2 - (wrap64 (((rd_T160 l0 x11_3).f4) - ((rd_T160 l0 x11_3).f5))))) a3 (x9_2 ++ [(⟨x11_3, wrap64 (((rd_T160 l0 x11_3).f4) - ((rd_T160 l0 x11_3).f5))⟩ : S162)]) y150) else (none)) = some r := by first | (rw [hy150]; with_reducible exact H) | (have H2_ := (Option.bind_some _ _).symm.trans H; rw [hy150]; with_reducible exact H2_) | (have H2_ := (Option.bind_some _ _).symm.trans H; with_reducible exact H2_) | with_reducible exact H | (rw [hy150]; exact H) | exact H
        have Ny150 := Aside0.mk hy150
        clear hy150
        by_cases c75 : x9_2.length < 8796093022208
        case neg => rw [if_neg c75] at H; exact absurd H (by simp)
        rw [if_pos c75] at H
        have LMc75 := Aside0.mk c75
        clear c75
        obtain ⟨y153, hy153⟩ : ∃ y_ : List (S162), y_ = (x9_2 ++ [(⟨x11_3, wrap64 (((rd_T160 l0 x11_3).f4) - ((rd_T160 l0 x11_3).f5))⟩ : S162)]) := ⟨_, rfl⟩
        replace H : (spec_Picks.l0 k3 l0 a1 (wrap64 (x2_2 - (wrap64 (((rd_T160 l0 x11_3).f4) - ((rd_T160 l0 x11_3).f5))))) a3 y153 y150) = some r := by first | (rw [hy153]; with_reducible exact H) | (have H2_ := (Option.bind_some _ _).symm.trans H; rw [hy153]; with_reducible exact H2_) | (have H2_ := (Option.bind_some _ _).symm.trans H; with_reducible exact H2_) | with_reducible exact H | (rw [hy153]; exact H) | exact H
        have Ny153 := Aside0.mk hy153
        clear hy153
        have H' := Aside0.mk H
        clear H
        try go_wp2
        have n0_ := Aside0.mk (Kd.qo0 HO_9.out)
        have n1_ := Aside0.mk (Kd.qo0 HO_10.out)
        have n2_ := Aside0.mk (qb0 HB.out)
        clear HO_9
        clear HO_10
        clear HB
        have HO_9 := n0_
        have HO_10 := n1_
        have HB := n2_
        clear n0_ n1_ n2_
        have p142 : 0 ≤ (x11_3 : Int) := of_decide_eq_true (by first | (with_reducible assumption) | assumption)
        have q142 : x11_3 < (l0.length : Int) := of_decide_eq_true (by first | (with_reducible assumption) | assumption)
        obtain ⟨ad142, e142, hx142_0, hx142_1, hx142_2, hx142_3, hx142_4, hx142_5⟩ := at_T160 HR0.out x11_3 p142 q142
        have hw142_5 := hx142_5
        have hw142_4 := hx142_4
        have hw142_3 := hx142_3
        have hw142_2 := hx142_2
        have hw142_1 := hx142_1
        have hw142_0 := hx142_0
        cases e142
        replace hx142_0 := (HB.out.cell (World.block_lt_of_cell? w _ hx142_0)).trans hx142_0
        replace hx142_1 := (HB.out.cell (World.block_lt_of_cell? w _ hx142_1)).trans hx142_1
        replace hx142_2 := (HB.out.cell (World.block_lt_of_cell? w _ hx142_2)).trans hx142_2
        replace hx142_3 := (HB.out.cell (World.block_lt_of_cell? w _ hx142_3)).trans hx142_3
        replace hx142_4 := (HB.out.cell (World.block_lt_of_cell? w _ hx142_4)).trans hx142_4
        replace hx142_5 := (HB.out.cell (World.block_lt_of_cell? w _ hx142_5)).trans hx142_5
        replace p142 := eq_true p142
        replace q142 := eq_true q142
        have p143 : 0 ≤ (x11_3 : Int) := of_decide_eq_true (by first | (with_reducible assumption) | assumption)
        have q143 : x11_3 < (l0.length : Int) := of_decide_eq_true (by first | (with_reducible assumption) | assumption)
        obtain ⟨ad143, e143, hx143_0, hx143_1, hx143_2, hx143_3, hx143_4, hx143_5⟩ := at_T160 HR0.out x11_3 p143 q143
        have hw143_5 := hx143_5
        have hw143_4 := hx143_4
        have hw143_3 := hx143_3
        have hw143_2 := hx143_2
        have hw143_1 := hx143_1
        have hw143_0 := hx143_0
        obtain rfl : ad142 = ad143 := (by injection e143)
        replace hx143_0 := (HB.out.cell (World.block_lt_of_cell? w _ hx143_0)).trans hx143_0
        replace hx143_1 := (HB.out.cell (World.block_lt_of_cell? w _ hx143_1)).trans hx143_1
        replace hx143_2 := (HB.out.cell (World.block_lt_of_cell? w _ hx143_2)).trans hx143_2
        replace hx143_3 := (HB.out.cell (World.block_lt_of_cell? w _ hx143_3)).trans hx143_3
        replace hx143_4 := (HB.out.cell (World.block_lt_of_cell? w _ hx143_4)).trans hx143_4
        replace hx143_5 := (HB.out.cell (World.block_lt_of_cell? w _ hx143_5)).trans hx143_5
        replace p143 := eq_true p143
        replace q143 := eq_true q143
        refine start_ (n := 12) (S := fun w' => w'.cell? (ad142.add ((x11_3).toNat * 6)) = some (.string ((rd_T160 l0 x11_3).f0)) ∧ w'.cell? ⟨(ad142.add ((x11_3).toNat * 6)).block, (ad142.add ((x11_3).toNat * 6)).off + 1, none⟩ = some (.string ((rd_T160 l0 x11_3).f1)) ∧ w'.cell? ⟨(ad142.add ((x11_3).toNat * 6)).block, (ad142.add ((x11_3).toNat * 6)).off + 2, none⟩ = some (.string ((rd_T160 l0 x11_3).f2)) ∧ w'.cell? ⟨(ad142.add ((x11_3).toNat * 6)).block, (ad142.add ((x11_3).toNat * 6)).off + 3, none⟩ = some (.int .i64 ((rd_T160 l0 x11_3).f3)) ∧ w'.cell? ⟨(ad142.add ((x11_3).toNat * 6)).block, (ad142.add ((x11_3).toNat * 6)).off + 4, none⟩ = some (.int .i64 ((rd_T160 l0 x11_3).f4)) ∧ w'.cell? ⟨(ad142.add ((x11_3).toNat * 6)).block, (ad142.add ((x11_3).toNat * 6)).off + 5, none⟩ = some (.int .i64 ((rd_T160 l0 x11_3).f5)) ∧ w'.cell? (ad142.add ((x11_3).toNat * 6)) = some (.string ((rd_T160 l0 x11_3).f0)) ∧ w'.cell? ⟨(ad142.add ((x11_3).toNat * 6)).block, (ad142.add ((x11_3).toNat * 6)).off + 1, none⟩ = some (.string ((rd_T160 l0 x11_3).f1)) ∧ w'.cell? ⟨(ad142.add ((x11_3).toNat * 6)).block, (ad142.add ((x11_3).toNat * 6)).off + 2, none⟩ = some (.string ((rd_T160 l0 x11_3).f2)) ∧ w'.cell? ⟨(ad142.add ((x11_3).toNat * 6)).block, (ad142.add ((x11_3).toNat * 6)).off + 3, none⟩ = some (.int .i64 ((rd_T160 l0 x11_3).f3)) ∧ w'.cell? ⟨(ad142.add ((x11_3).toNat * 6)).block, (ad142.add ((x11_3).toNat * 6)).off + 4, none⟩ = some (.int .i64 ((rd_T160 l0 x11_3).f4)) ∧ w'.cell? ⟨(ad142.add ((x11_3).toNat * 6)).block, (ad142.add ((x11_3).toNat * 6)).off + 5, none⟩ = some (.int .i64 ((rd_T160 l0 x11_3).f5))) (ds := []) (rb4 [0, 12]) (by kernel_rfl) rfl rfl ⟨((HB.out.cell (World.block_lt_of_cell? w _ hw142_0)).trans hw142_0), ((HB.out.cell (World.block_lt_of_cell? w _ hw142_1)).trans hw142_1), ((HB.out.cell (World.block_lt_of_cell? w _ hw142_2)).trans hw142_2), ((HB.out.cell (World.block_lt_of_cell? w _ hw142_3)).trans hw142_3), ((HB.out.cell (World.block_lt_of_cell? w _ hw142_4)).trans hw142_4), ((HB.out.cell (World.block_lt_of_cell? w _ hw142_5)).trans hw142_5), ((HB.out.cell (World.block_lt_of_cell? w _ hw143_0)).trans hw143_0), ((HB.out.cell (World.block_lt_of_cell? w _ hw143_1)).trans hw143_1), ((HB.out.cell (World.block_lt_of_cell? w _ hw143_2)).trans hw143_2), ((HB.out.cell (World.block_lt_of_cell? w _ hw143_3)).trans hw143_3), ((HB.out.cell (World.block_lt_of_cell? w _ hw143_4)).trans hw143_4), ((HB.out.cell (World.block_lt_of_cell? w _ hw143_5)).trans hw143_5)⟩ (fun hHeld => ?_); refine with_tabW spec_Picks.tab15 spec_Picks.bits15 (fun HT_ HW_ => ?_)
        generalize wr.drew = w76 at HO_9 HO_10 HB hx142_0 hx142_1 hx142_2 hx142_3 hx142_4 hx142_5 hx143_0 hx143_1 hx143_2 hx143_3 hx143_4 hx143_5 hHeld ⊢
        refine pure_ (i := 0) (N := some 84) (v := ?_) (a' := ?_) (rb4 [1, 11]) rfl rfl (qn0 HT_.out (by kernel_rfl)) (fun _ _ _ h => h) (Or.inl ⟨by rfl, ?_⟩) ?_ ?_
        rotate_left
        ·intro w'
         go_simp
         with_reducible rfl
        rotate_left
        ·simp only [Act.put, List.setIfInBounds_toArray, List.set_cons_zero, List.set_cons_succ, i64_w, i32_w]
         rfl
        refine pure_ (i := 1) (N := some 85) (v := ?_) (a' := ?_) (rb4 [2, 10]) rfl rfl (qn0 HT_.out (by kernel_rfl)) (fun _ _ _ h => h) (Or.inl ⟨by rfl, ?_⟩) ?_ ?_
        rotate_left
        ·intro w'
         go_simp
         with_reducible rfl
        rotate_left
        ·simp only [Act.put, List.setIfInBounds_toArray, List.set_cons_zero, List.set_cons_succ, i64_w, i32_w]
         rfl
        refine pure_ (i := 2) (N := some 86) (v := ?_) (a' := ?_) (rb4 [3, 9]) rfl rfl (qn0 HT_.out (by kernel_rfl)) (fun _ _ _ h => h) (Or.inl ⟨by rfl, ?_⟩) ?_ ?_
        rotate_left
        ·intro w'
         go_simp
         with_reducible rfl
        rotate_left
        ·simp only [Act.put, List.setIfInBounds_toArray, List.set_cons_zero, List.set_cons_succ, i64_w, i32_w]
         rfl
        refine pure_ (i := 3) (N := some 87) (v := ?_) (a' := ?_) (rb4 [4, 8]) rfl rfl (qn0 HT_.out (by kernel_rfl)) (fun _ _ _ h => h) (Or.inl ⟨by rfl, ?_⟩) ?_ ?_
        rotate_left
        ·intro w'
         go_simp
         with_reducible rfl
        rotate_left
        ·simp only [Act.put, List.setIfInBounds_toArray, List.set_cons_zero, List.set_cons_succ, i64_w, i32_w]
         rfl
        refine pure_ (i := 5) (N := some 89) (v := ?_) (a' := ?_) (rb4 [4, 1, 1, 6]) rfl rfl (qn0 HT_.out (by kernel_rfl)) (fun _ _ _ h => h) (Or.inl ⟨by rfl, ?_⟩) ?_ ?_
        rotate_left
        ·intro w'
         go_simp
         with_reducible rfl
        rotate_left
        ·simp only [Act.put, List.setIfInBounds_toArray, List.set_cons_zero, List.set_cons_succ, i64_w, i32_w]
         rfl
        refine pure_ (i := 6) (N := some 90) (v := ?_) (a' := ?_) (rb4 [4, 1, 2, 5]) rfl rfl (qn0 HT_.out (by kernel_rfl)) (fun _ _ _ h => h) (Or.inl ⟨by rfl, ?_⟩) ?_ ?_
        rotate_left
        ·intro w'
         go_simp
         with_reducible rfl
        rotate_left
        ·simp only [Act.put, List.setIfInBounds_toArray, List.set_cons_zero, List.set_cons_succ, i64_w, i32_w]
         rfl
        refine pure_ (i := 7) (N := some 91) (v := ?_) (a' := ?_) (rb4 [4, 1, 3, 4]) rfl rfl (qn0 HT_.out (by kernel_rfl)) (fun _ _ _ h => h) (Or.inl ⟨by rfl, ?_⟩) ?_ ?_
        rotate_left
        ·intro w'
         go_simp
         with_reducible rfl
        rotate_left
        ·simp only [Act.put, List.setIfInBounds_toArray, List.set_cons_zero, List.set_cons_succ, i64_w, i32_w]
         rfl
        refine pure_ (i := 8) (N := some 92) (v := ?_) (a' := ?_) (rb4 [4, 1, 4, 3]) rfl rfl (qn0 HT_.out (by kernel_rfl)) (fun _ _ _ h => h) (Or.inl ⟨by rfl, ?_⟩) ?_ ?_
        rotate_left
        ·intro w'
         go_simp
         with_reducible rfl
        rotate_left
        ·simp only [Act.put, List.setIfInBounds_toArray, List.set_cons_zero, List.set_cons_succ, i64_w, i32_w]
         rfl
        refine take_ (i := 4) (N := some 88) (v := ?_) (a' := ?_) (rb4 [9, 3]) rfl rfl (qa1 HT_.out HW_.out (by kernel_rfl)) (fun _ _ _ h => h) (Or.inl ⟨by rfl, ?_⟩) hHeld ?_ ?_
        rotate_left
        ·rintro w' ⟨s0, s1, s2, s3, s4, s5, s6, s7, s8, s9, s10, s11⟩
         go_simp
         with_reducible rfl
        rotate_left
        ·simp only [Act.put, List.setIfInBounds_toArray, List.set_cons_zero, List.set_cons_succ, i64_w, i32_w]
         rfl
        refine take_ (i := 9) (N := some 93) (v := ?_) (a' := ?_) (rb4 [10, 2]) rfl rfl (qa1 HT_.out HW_.out (by kernel_rfl)) (fun _ _ _ h => h) (Or.inl ⟨by rfl, ?_⟩) hHeld ?_ ?_
        rotate_left
        ·rintro w' ⟨s0, s1, s2, s3, s4, s5, s6, s7, s8, s9, s10, s11⟩
         go_simp
         with_reducible rfl
        rotate_left
        ·simp only [Act.put, List.setIfInBounds_toArray, List.set_cons_zero, List.set_cons_succ, i64_w, i32_w]
         rfl
        refine pure_ (i := 10) (N := some 94) (v := ?_) (a' := ?_) (rb4 [11, 1]) rfl rfl (qn0 HT_.out (by kernel_rfl)) (fun _ _ _ h => h) (Or.inl ⟨by rfl, ?_⟩) ?_ ?_
        rotate_left
        ·intro w'
         go_simp
         with_reducible rfl
        rotate_left
        ·simp only [Act.put, List.setIfInBounds_toArray, List.set_cons_zero, List.set_cons_succ, i64_w, i32_w]
         rfl
        refine pure_ (i := 11) (N := some 14) (v := ?_) (a' := ?_) (rb4 [12]) rfl rfl (qn0 HT_.out (by kernel_rfl)) (fun _ _ _ h => h) (Or.inl ⟨by rfl, ?_⟩) ?_ ?_
        rotate_left
        ·intro w'
         go_simp
         with_reducible rfl
        rotate_left
        ·simp only [Act.put, List.setIfInBounds_toArray, List.set_cons_zero, List.set_cons_succ, i64_w, i32_w]
         rfl
        refine done_ (done_of HT_.out (by kernel_rfl)) ?_
        try go_wp2_with (first | ((with_reducible refine gate_builtin (b := .append) (xs := #[.tmp 99, .tmp 101]) rfl ?_); at_builtin; refine Kd.R_append (Kd.int .i64) (w0 := w) w.heap.size rfl (.tmp 99) (.tmp 101) 33 3 (.int .i64 0) 8 rfl Try.underlying33 info3 rfl (by decide) (by omega) u10 x10_2 x11_3 [.int .i64 x11_3] (fun _ => True) (fun _ => False) rfl rfl ?aP (fun _ hk => hk.elim) ?aF ?aO ?aB ?aS ?aL ?_; (case aP => exact rfl); (case aB => exact (by repeat (first | (with_reducible first | exact HB.out | apply qc0 | apply qa0 | apply qb0) | exact HB.out))); (case aF => exact (fun _ _ => trivial)); (case aO => exact (by (with_reducible repeat (first | apply Kd.ql0 | apply Kd.qk0 | apply Kd.qo0)); exact HO_10.out)); (case aS => exact (qi0 (by repeat (first | (with_reducible first | exact HB.out | apply qc0 | apply qa0 | apply qb0) | exact HB.out)))); (case aL => have := LMc74.out; omega); intro v151 w77 ho hb hg hat; rw [← Ny150.out] at ho; have n0_ := Aside0.mk (Kd.R_over' (by (with_reducible repeat (first | apply Kd.ql0 | apply Kd.qk0 | apply Kd.qo0)); exact HO_9.out) (Kd.R_typed (by (with_reducible repeat (first | apply Kd.ql0 | apply Kd.qk0 | apply Kd.qo0)); exact HO_10.out)) (by decide) hg); have n1_ := Aside0.mk (hb); have n2_ := Aside0.mk (ho); clear HO_9; clear HB; clear HO_10; have HO_9 := n0_; have HB := n1_; have HO152 := n2_; clear n0_ n1_ n2_; clear ho hb hg hat) | ((with_reducible refine gate_builtin (b := .append) (xs := #[.tmp 103, .tmp 107]) rfl ?_); at_builtin; refine Kd.R_append k162 (w0 := w) w.heap.size rfl (.tmp 103) (.tmp 107) 72 162 (.agg #[(.int .i64 0), (.int .i64 0)]) 16 rfl Try.underlying72 info162 rfl (by decide) (by omega) u9 x9_2 (⟨x11_3, wrap64 (((rd_T160 l0 x11_3).f4) - ((rd_T160 l0 x11_3).f5))⟩ : S162) [.int .i64 x11_3, .int .i64 (wrap64 (((rd_T160 l0 x11_3).f4) - ((rd_T160 l0 x11_3).f5)))] (fun _ => True) (fun _ => False) rfl rfl ?aP (fun _ hk => hk.elim) ?aF ?aO ?aB ?aS ?aL ?_; (case aP => exact k162_mkM _ _ _ (⟨x11_3, wrap64 (((rd_T160 l0 x11_3).f4) - ((rd_T160 l0 x11_3).f5))⟩ : S162)); (case aB => exact (by repeat (first | (with_reducible first | exact HB.out | apply qc0 | apply qa0 | apply qb0) | exact HB.out))); (case aF => exact (fun _ _ => trivial)); (case aO => exact (by (with_reducible repeat (first | apply Kd.ql0 | apply Kd.qk0 | apply Kd.qo0)); exact HO_9.out)); (case aS => exact (qi0 (by repeat (first | (with_reducible first | exact HB.out | apply qc0 | apply qa0 | apply qb0) | exact HB.out)))); (case aL => have := LMc75.out; omega); intro v154 w78 ho hb hg hat; rw [← Ny153.out] at ho; have n0_ := Aside0.mk (Kd.R_over' (by (with_reducible repeat (first | apply Kd.ql0 | apply Kd.qk0 | apply Kd.qo0)); exact HO152.out) (Kd.R_typed (by (with_reducible repeat (first | apply Kd.ql0 | apply Kd.qk0 | apply Kd.qo0)); exact HO_9.out)) (by decide) hg); have n1_ := Aside0.mk (hb); have n2_ := Aside0.mk (ho); clear HO152; clear HB; clear HO_9; have HO152 := n0_; have HB := n1_; have HO155 := n2_; clear n0_ n1_ n2_; clear ho hb hg hat))
        go_roundg k3
        case measure => have := HJ4.out; have := HK2.out; have := HK3.out; omega
        case rel => exact ⟨(wrap64 (x2_2 - (wrap64 (((rd_T160 l0 x11_3).f4) - ((rd_T160 l0 x11_3).f5))))), (y153), (y150), (by first | rfl | (simp; done) | (simp [*]; done)), H', ⟨by have := HJ4.out; have := HK2.out; have := HK3.out; omega⟩, ⟨by (with_reducible repeat (first | apply Kd.ql0 | apply Kd.qk0 | apply Kd.qo0)); exact HO155.out⟩, ⟨by (with_reducible repeat (first | apply Kd.ql0 | apply Kd.qk0 | apply Kd.qo0)); exact HO152.out⟩, ⟨by repeat (first | (with_reducible first | exact HB.out | apply qc0 | apply qa0 | apply qb0) | exact HB.out)⟩⟩
     rw [if_neg c19] at H
     have c19b0 : decide (0 < x2_2) = false := decide_eq_false c19
     clear c19
     obtain rfl := Option.some.inj H
     go_wp2
     go_ret
     exact ⟨_, by first | rfl | (simp [errW_none, errW_some] <;> rfl) | (simp [*, errW_none, errW_some] <;> rfl), by (with_reducible repeat (first | apply Kd.ql0 | apply Kd.qk0 | apply Kd.qo0)); exact HO_9.out, by repeat (first | (with_reducible first | exact HB.out | apply qc0 | apply qa0 | apply qb0) | exact HB.out)⟩

end Go.Proofs.Ytlodndejipjceaa.PFnExactPicks
