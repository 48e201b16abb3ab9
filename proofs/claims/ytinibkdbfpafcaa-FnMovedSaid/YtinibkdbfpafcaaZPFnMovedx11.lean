/- Lines by a program (a changed copy of the kit's print: this repo's wip/tools): Go functions as Lean functions, and proofs that the calls answer so. -/
import Derived.Test.YtinibkdbfpafcaaZPFnMovedx0
import Derived.Test.YtinibkdbfpafcaaZPFnMovedx6
import Derived.Test.YtinibkdbfpafcaaZPFnMovedx8
import Derived.Test.YtinibkdbfpafcaaZPFnMovedx9
import Derived.Test.YtinibkdbfpafcaaZPFnMovedx10
namespace Go.Proofs.Ytinibkdbfpafcaa.PFnMoved
open Go.RowKit Go.Proofs.YtinibkdbfpafcaaW.PrintWords Go.Proofs.YtinibkdbfpafcaaW.PrintLast Go.Proofs.YtinibkdbfpafcaaW.PrintMore
attribute [local go_sem] max2_int min2_int max_two min_two max_three min_three max_four min_four   -- for this text's walks alone
set_option linter.unusedVariables false
set_option linter.unusedSimpArgs false

/-! ### spec_Move: function 73 -/
def spec_Move.j0 : Nat → List (S117) → Int → ByteArray → Int → Bool → Option ((List (S117)) × Int)
 | 0, _, _, _, _, _ => none
 | k + 1, x0, x1, x2, x3, x41 => if x41 = true then ((spec_l15Copy.f x0).bind fun t408 => (some (t408, 2))) else (if 0 ≤ x1 then (if x1 < (x0.length : Int) then (if (wrap64 (((rd_T117 x0 x1).f4) - ((rd_T117 x0 x1).f5))) < x3 then ((spec_l15Copy.f x0).bind fun t413 => (some (t413, 3))) else ((spec_l15Copy.f x0).bind fun t418 => ((spec_l15Add.f k t418 ((rd_T117 x0 x1).f0) x2 ((rd_T117 x0 x1).f2) ((rd_T117 x0 x1).f3) x3 0).bind fun bt421 => (if bt421.2 = true then (if x1 < (bt421.1.length : Int) then (some ((bt421.1.set (x1 : Int).toNat (⟨(rd_T117 bt421.1 x1).f0, (rd_T117 bt421.1 x1).f1, (rd_T117 bt421.1 x1).f2, (rd_T117 bt421.1 x1).f3, wrap64 (((rd_T117 bt421.1 x1).f4) - x3), (rd_T117 bt421.1 x1).f5⟩ : S117)), 0)) else (none)) else ((spec_l15Copy.f x0).bind fun t427 => (some (t427, 4))))))) else (none)) else (none))
def spec_Move.f (k : Nat) (l0 : List (S117)) (a1 : Int) (a2 : ByteArray) (a3 : Int) : Option ((List (S117)) × Int) := (spec_StockOk.f k l0).bind fun t400 => (if t400 = true then ((spec_l1In.f a1 0 (wrap64 ((l0.length : Int) - 1))).bind fun t404 => (if t404 = true then ((spec_NameOk.f k a2).bind fun t405 => (if t405 = true then (if 0 ≤ a1 then (if a1 < (l0.length : Int) then (if ((rd_T117 l0 a1).f1).toList = a2.toList then (spec_Move.j0 k l0 a1 a2 a3 true) else ((spec_l12Qty.f a3).bind fun t407 => (spec_Move.j0 k l0 a1 a2 a3 (!t407)))) else (none)) else (none)) else (spec_Move.j0 k l0 a1 a2 a3 true))) else (spec_Move.j0 k l0 a1 a2 a3 true))) else (some ((([] : List (S117))), 1)))
theorem spec_Move.mono_l : ∀ k, (∀ y0 y1 y2 y3 y4, LeO (spec_Move.j0 k y0 y1 y2 y3 y4) (spec_Move.j0 (k + 1) y0 y1 y2 y3 y4))
 | 0 => fun _ _ _ _ _ r h => by simp [spec_Move.j0] at h
 | k + 1 => by
  have ih0 := spec_Move.mono_l k
  ·intro y0 y1 y2 y3 y4
   unfold spec_Move.j0
   repeat' first
   | (with_reducible exact ih0 _ _ _ _ _)
   | (with_reducible exact spec_NameOk.mono _ _)
   | (with_reducible exact spec_StockOk.mono _ _)
   | (with_reducible exact spec_l15Add.mono _ _ _ _ _ _ _ _)
   | (with_reducible exact LeO.refl _)
   | (with_reducible exact LeO.none _)
   | (with_reducible refine LeO.ite ?_ ?_)
   | (with_reducible refine LeO.bind ?_ (fun _ => ?_))
   | exact ih0 _ _ _ _ _
   | exact spec_NameOk.mono _ _
   | exact spec_StockOk.mono _ _
   | exact spec_l15Add.mono _ _ _ _ _ _ _ _
   | exact LeO.none _
   | refine LeO.ite ?_ ?_
   | refine LeO.bind ?_ (fun _ => ?_)
theorem spec_Move.mono : ∀ a0 a1 a2 a3 k, LeO (spec_Move.f k a0 a1 a2 a3) (spec_Move.f (k + 1) a0 a1 a2 a3) := by
 intro a0 a1 a2 a3 k
 have ih0 := spec_Move.mono_l k
 unfold spec_Move.f
 repeat' first
   | (with_reducible exact ih0 _ _ _ _ _)
   | (with_reducible exact spec_NameOk.mono _ _)
   | (with_reducible exact spec_StockOk.mono _ _)
   | (with_reducible exact spec_l15Add.mono _ _ _ _ _ _ _ _)
   | (with_reducible exact LeO.refl _)
   | (with_reducible exact LeO.none _)
   | (with_reducible refine LeO.ite ?_ ?_)
   | (with_reducible refine LeO.bind ?_ (fun _ => ?_))
   | exact ih0 _ _ _ _ _
   | exact spec_NameOk.mono _ _
   | exact spec_StockOk.mono _ _
   | exact spec_l15Add.mono _ _ _ _ _ _ _ _
   | exact LeO.none _
   | refine LeO.ite ?_ ?_
   | refine LeO.bind ?_ (fun _ => ?_)
def spec_Move.T5 : Bool × List (List Nat × List Nat) := (true, [([], []), ([], []), ([0, 1], [0, 1]), ([2], [2]), ([3], [3]), ([], []), ([], []), ([5, 6], [5, 6]), ([7], [7]), ([8], [8]), ([4, 9], [4, 9]), ([], []), ([10, 11], [10, 11])])
def spec_Move.B5 : List Nat := [0, 0, 3, 7, 15, 0, 0, 96, 224, 480, 1023, 0, 4095]
theorem spec_Move.tab5 : rtab .any (opsOf Try.f73 5) = spec_Move.T5 := by kernel_rfl
theorem spec_Move.bits5 : waitsOk spec_Move.T5.2 spec_Move.B5 = true := by kernel_rfl
def spec_Move.T11 : Bool × List (List Nat × List Nat) := (true, [([], []), ([0], [0]), ([], []), ([1, 2, 1], [1, 2]), ([3], [3]), ([4], [4]), ([4], [4]), ([5, 3, 0, 1, 2, 3, 4, 5], [5]), ([6, 7, 0, 1, 2, 3, 4, 5, 6, 7], [6])])
def spec_Move.B11 : List Nat := [0, 1, 0, 7, 15, 31, 31, 63, 255]
theorem spec_Move.tab11 : rtab .any (opsOf Try.f73 11) = spec_Move.T11 := by kernel_rfl
theorem spec_Move.bits11 : waitsOk spec_Move.T11.2 spec_Move.B11 = true := by kernel_rfl
set_option maxHeartbeats 8000000 in
set_option maxRecDepth 100000 in
theorem spec_Move.calls (k : Nat) (A0 : Option Addr) (c0 : Nat) (l0 : List (S117)) (a1 : Int) (a2 : ByteArray) (a3 : Int) (r1 : List (S117)) (r2 : Int) (w : World) (hr0 : Kd.C k117 w A0 l0.length l0) (hc0 : l0.length ≤ c0) (h : spec_Move.f k l0 a1 a2 a3 = some (r1, r2)) :
  Calls Try.prog 73 #[.slice A0 l0.length c0, .int .i64 a1, .string a2, .int .i64 a3] w fun e w' => ∃ v0_ : Value, e = .returned (.tuple #[v0_, .int .i64 r2]) ∧ Kd.R k117 117 w' w.heap.size (fun _ => True) v0_ r1 ∧ Below w.heap.size w w' := by
 have hu117 := Try.underlying117
 have HR0 := Aside0.mk hr0
 have HC0 := Aside0.mk hc0
 clear hr0 hc0
 have HB := Aside0.mk (Below.refl w.heap.size w)
 have H : ((spec_StockOk.f k l0).bind fun t400 => (if t400 = true then ((spec_l1In.f a1 0 (wrap64 ((l0.length : Int) - 1))).bind fun t404 => (if t404 = true then ((spec_NameOk.f k a2).bind fun t405 => (if t405 = true then (if 0 ≤ a1 then (if a1 < (l0.length : Int) then (if ((rd_T117 l0 a1).f1).toList = a2.toList then (spec_Move.j0 k l0 a1 a2 a3 true) else ((spec_l12Qty.f a3).bind fun t407 => (spec_Move.j0 k l0 a1 a2 a3 (!t407)))) else (none)) else (none)) else (spec_Move.j0 k l0 a1 a2 a3 true))) else (spec_Move.j0 k l0 a1 a2 a3 true))) else (some ((([] : List (S117))), 1)))) = some (r1, r2) := h
 clear h
 replace H := Option.bind_eq_some_iff.mp H
 obtain ⟨t400, A50, H⟩ := H
 replace H : (if t400 = true then ((spec_l1In.f a1 0 (wrap64 ((l0.length : Int) - 1))).bind fun t404 => (if t404 = true then ((spec_NameOk.f k a2).bind fun t405 => (if t405 = true then (if 0 ≤ a1 then (if a1 < (l0.length : Int) then (if ((rd_T117 l0 a1).f1).toList = a2.toList then (spec_Move.j0 k l0 a1 a2 a3 true) else ((spec_l12Qty.f a3).bind fun t407 => (spec_Move.j0 k l0 a1 a2 a3 (!t407)))) else (none)) else (none)) else (spec_Move.j0 k l0 a1 a2 a3 true))) else (spec_Move.j0 k l0 a1 a2 a3 true))) else (some ((([] : List (S117))), 1))) = some (r1, r2) := H
 have A5 := Aside0.mk A50
 clear A50
 by_cases c6 : t400 = true
 ·subst c6
  have H1 : ((spec_l1In.f a1 0 (wrap64 ((l0.length : Int) - 1))).bind fun t404 => (if t404 = true then ((spec_NameOk.f k a2).bind fun t405 => (if t405 = true then (if 0 ≤ a1 then (if a1 < (l0.length : Int) then (if ((rd_T117 l0 a1).f1).toList = a2.toList then (spec_Move.j0 k l0 a1 a2 a3 true) else ((spec_l12Qty.f a3).bind fun t407 => (spec_Move.j0 k l0 a1 a2 a3 (!t407)))) else (none)) else (none)) else (spec_Move.j0 k l0 a1 a2 a3 true))) else (spec_Move.j0 k l0 a1 a2 a3 true))) = some (r1, r2) := by rw [if_pos rfl] at H; exact H
  clear H
  have H := H1
  clear H1
  have HC7 := Aside0.mk H
  clear H
  go_enter Try.func73, Try.ntmps73
  go_upto_region 3 with (first | ((with_reducible refine qo0 (f := 126) rfl ?_); refine qz0 (some 14) rfl rfl Try.func126 (by kernel_rfl) rfl #[.slice A0 l0.length c0] rfl (by (try simp only [List.map_toArray, List.map_cons, List.map_nil]); first | done | rfl | (simp only [List.length_drop, List.length_take]; rfl)) ?_; (with_reducible refine (spec_StockOk.calls k _ _ l0 true _ ?side1 ?side2 A5.out).mono ?_); (case side1 => repeat (first | exact HR0.out | (with_reducible refine Kd.qu0 ?_ _) | (with_reducible refine Kd.qt0 ?_ _) | (with_reducible refine Kd.qy0 ?_))); (case side2 => exact HC0.out); rintro e w8 ⟨rfl, hb⟩; refine ⟨_, rfl, ?_⟩; have n0_ := Aside0.mk (qk0 (by repeat (first | (with_reducible first | exact HB.out | apply qc0 | apply qa0 | apply qb0) | exact HB.out)) hb); clear HB; have HB := n0_; clear n0_; (try clear hb); (try clear hb2); (try clear hk); (try clear hi)))
  (try simp only [Act.put, List.setIfInBounds_toArray, List.set_cons_zero, List.set_cons_succ])
  go_cut [41] (fun v41 wc => ∃ (kq : Nat) (x41_6 : Bool), v41 = .bool x41_6 ∧ Aside0 (spec_Move.j0 kq l0 a1 a2 a3 x41_6 = some (r1, r2)) ∧ Aside0 (kq ≤ k) ∧ Aside0 (Below w.heap.size w wc))
  case first =>
   have H := HC7.out
   clear HC7
   replace H := Option.bind_eq_some_iff.mp H
   obtain ⟨t404, A90, H⟩ := H
   replace H : (if t404 = true then ((spec_NameOk.f k a2).bind fun t405 => (if t405 = true then (if 0 ≤ a1 then (if a1 < (l0.length : Int) then (if ((rd_T117 l0 a1).f1).toList = a2.toList then (spec_Move.j0 k l0 a1 a2 a3 true) else ((spec_l12Qty.f a3).bind fun t407 => (spec_Move.j0 k l0 a1 a2 a3 (!t407)))) else (none)) else (none)) else (spec_Move.j0 k l0 a1 a2 a3 true))) else (spec_Move.j0 k l0 a1 a2 a3 true)) = some (r1, r2) := H
   have A9 := Aside0.mk A90
   clear A90
   by_cases c10 : t404 = true
   ·subst c10
    have H1 : ((spec_NameOk.f k a2).bind fun t405 => (if t405 = true then (if 0 ≤ a1 then (if a1 < (l0.length : Int) then (if ((rd_T117 l0 a1).f1).toList = a2.toList then (spec_Move.j0 k l0 a1 a2 a3 true) else ((spec_l12Qty.f a3).bind fun t407 => (spec_Move.j0 k l0 a1 a2 a3 (!t407)))) else (none)) else (none)) else (spec_Move.j0 k l0 a1 a2 a3 true))) = some (r1, r2) := by rw [if_pos rfl] at H; exact H
    clear H
    have H := H1
    clear H1
    replace H := Option.bind_eq_some_iff.mp H
    obtain ⟨t405, A110, H⟩ := H
    replace H : (if t405 = true then (if 0 ≤ a1 then (if a1 < (l0.length : Int) then (if ((rd_T117 l0 a1).f1).toList = a2.toList then (spec_Move.j0 k l0 a1 a2 a3 true) else ((spec_l12Qty.f a3).bind fun t407 => (spec_Move.j0 k l0 a1 a2 a3 (!t407)))) else (none)) else (none)) else (spec_Move.j0 k l0 a1 a2 a3 true)) = some (r1, r2) := H
    have A11 := Aside0.mk A110
    clear A110
    by_cases c12 : t405 = true
    ·subst c12
     have H1 : (if 0 ≤ a1 then (if a1 < (l0.length : Int) then (if ((rd_T117 l0 a1).f1).toList = a2.toList then (spec_Move.j0 k l0 a1 a2 a3 true) else ((spec_l12Qty.f a3).bind fun t407 => (spec_Move.j0 k l0 a1 a2 a3 (!t407)))) else (none)) else (none)) = some (r1, r2) := by rw [if_pos rfl] at H; exact H
     clear H
     have H := H1
     clear H1
     by_cases c13 : 0 ≤ a1
     case neg => rw [if_neg c13] at H; exact absurd H (by simp)
     rw [if_pos c13] at H
     have c13b0 : decide (0 ≤ a1) = true := decide_eq_true c13
     clear c13
     (first | rw [c13b0] | (simp only [i64_w, i32_w]; rw [c13b0]) | skip)
     by_cases c14 : a1 < (l0.length : Int)
     case neg => rw [if_neg c14] at H; exact absurd H (by simp)
     rw [if_pos c14] at H
     have c14b0 : decide (a1 < (l0.length : Int)) = true := decide_eq_true c14
     clear c14
     by_cases c15 : ((rd_T117 l0 a1).f1).toList = a2.toList
     ·rw [if_pos c15] at H
      have c15b0 : (((rd_T117 l0 a1).f1).toList == a2.toList) = true := beq_iff_eq.mpr c15
      have c15b1 : (((rd_T117 l0 a1).f1).toList != a2.toList) = false := bne_eq_false_iff_eq.mpr c15
      clear c15
      have H' := Aside0.mk H
      clear H
      go_wp2_with (first | ((with_reducible refine qo0 (f := 92) rfl ?_); refine qz0 (some 21) rfl rfl Try.func92 (by kernel_rfl) rfl #[.int .i64 a1, .int .i64 0, .int .i64 (wrap64 ((l0.length : Int) - 1))] rfl (by (try simp only [List.map_toArray, List.map_cons, List.map_nil]); first | done | rfl | (simp only [List.length_drop, List.length_take]; rfl)) ?_; (with_reducible refine (spec_l1In.calls a1 0 (wrap64 ((l0.length : Int) - 1)) true _ A9.out).mono ?_); rintro e w' ⟨rfl, ⟨nd, rfl⟩⟩; refine ⟨_, rfl, ?_⟩) | (go_at_call 91; (with_reducible refine (spec_NameOk.calls k a2 true _ A11.out).mono ?_); rintro e w' ⟨rfl, ⟨nd, rfl⟩⟩; have p406 : 0 ≤ (a1 : Int) := of_decide_eq_true (by first | (with_reducible assumption) | assumption); have q406 : a1 < (l0.length : Int) := of_decide_eq_true (by first | (with_reducible assumption) | assumption); obtain ⟨ad406, e406, hx406_0, hx406_1, hx406_2, hx406_3, hx406_4, hx406_5⟩ := at_T117 HR0.out a1 p406 q406; cases e406; replace hx406_0 := (HB.out.cell (World.block_lt_of_cell? w _ hx406_0)).trans hx406_0; replace hx406_1 := (HB.out.cell (World.block_lt_of_cell? w _ hx406_1)).trans hx406_1; replace hx406_2 := (HB.out.cell (World.block_lt_of_cell? w _ hx406_2)).trans hx406_2; replace hx406_3 := (HB.out.cell (World.block_lt_of_cell? w _ hx406_3)).trans hx406_3; replace hx406_4 := (HB.out.cell (World.block_lt_of_cell? w _ hx406_4)).trans hx406_4; replace hx406_5 := (HB.out.cell (World.block_lt_of_cell? w _ hx406_5)).trans hx406_5; replace p406 := eq_true p406; replace q406 := eq_true q406))
      go_meet
      case rel => exact ⟨_, (true), (by first | rfl | (simp; done) | (simp [*]; done)), H', ⟨by first | omega | exact Nat.le_refl _⟩, ⟨by repeat (first | (with_reducible first | exact HB.out | apply qc0 | apply qa0 | apply qb0) | exact HB.out)⟩⟩
     rw [if_neg c15] at H
     have c15b0 : (((rd_T117 l0 a1).f1).toList == a2.toList) = false := beq_eq_false_iff_ne.mpr c15
     have c15b1 : (((rd_T117 l0 a1).f1).toList != a2.toList) = true := bne_iff_ne.mpr c15
     replace H := Option.bind_eq_some_iff.mp H
     obtain ⟨t407, A160, H⟩ := H
     replace H : (spec_Move.j0 k l0 a1 a2 a3 (!t407)) = some (r1, r2) := H
     have A16 := Aside0.mk A160
     clear A160
     have H' := Aside0.mk H
     clear H
     go_wp2_with (first | ((with_reducible refine qo0 (f := 92) rfl ?_); refine qz0 (some 21) rfl rfl Try.func92 (by kernel_rfl) rfl #[.int .i64 a1, .int .i64 0, .int .i64 (wrap64 ((l0.length : Int) - 1))] rfl (by (try simp only [List.map_toArray, List.map_cons, List.map_nil]); first | done | rfl | (simp only [List.length_drop, List.length_take]; rfl)) ?_; (with_reducible refine (spec_l1In.calls a1 0 (wrap64 ((l0.length : Int) - 1)) true _ A9.out).mono ?_); rintro e w' ⟨rfl, ⟨nd, rfl⟩⟩; refine ⟨_, rfl, ?_⟩) | (go_at_call 91; (with_reducible refine (spec_NameOk.calls k a2 true _ A11.out).mono ?_); rintro e w' ⟨rfl, ⟨nd, rfl⟩⟩; have p406 : 0 ≤ (a1 : Int) := of_decide_eq_true (by first | (with_reducible assumption) | assumption); have q406 : a1 < (l0.length : Int) := of_decide_eq_true (by first | (with_reducible assumption) | assumption); obtain ⟨ad406, e406, hx406_0, hx406_1, hx406_2, hx406_3, hx406_4, hx406_5⟩ := at_T117 HR0.out a1 p406 q406; cases e406; replace hx406_0 := (HB.out.cell (World.block_lt_of_cell? w _ hx406_0)).trans hx406_0; replace hx406_1 := (HB.out.cell (World.block_lt_of_cell? w _ hx406_1)).trans hx406_1; replace hx406_2 := (HB.out.cell (World.block_lt_of_cell? w _ hx406_2)).trans hx406_2; replace hx406_3 := (HB.out.cell (World.block_lt_of_cell? w _ hx406_3)).trans hx406_3; replace hx406_4 := (HB.out.cell (World.block_lt_of_cell? w _ hx406_4)).trans hx406_4; replace hx406_5 := (HB.out.cell (World.block_lt_of_cell? w _ hx406_5)).trans hx406_5; replace p406 := eq_true p406; replace q406 := eq_true q406) | (go_at_call 90; (with_reducible refine (spec_l12Qty.calls a3 t407 _ A16.out).mono ?_); rintro e w' ⟨rfl, ⟨nd, rfl⟩⟩))
     go_meet
     case rel => exact ⟨_, (!t407), (by first | rfl | (simp; done) | (simp [*]; done)), H', ⟨by first | omega | exact Nat.le_refl _⟩, ⟨by repeat (first | (with_reducible first | exact HB.out | apply qc0 | apply qa0 | apply qb0) | exact HB.out)⟩⟩
    replace c12 := Bool.eq_false_iff.mpr c12
    subst c12
    have H1 : (spec_Move.j0 k l0 a1 a2 a3 true) = some (r1, r2) := by rw [if_neg (show ¬ (false = true) by decide)] at H; exact H
    clear H
    have H := H1
    clear H1
    have H' := Aside0.mk H
    clear H
    go_wp2_with (first | ((with_reducible refine qo0 (f := 92) rfl ?_); refine qz0 (some 21) rfl rfl Try.func92 (by kernel_rfl) rfl #[.int .i64 a1, .int .i64 0, .int .i64 (wrap64 ((l0.length : Int) - 1))] rfl (by (try simp only [List.map_toArray, List.map_cons, List.map_nil]); first | done | rfl | (simp only [List.length_drop, List.length_take]; rfl)) ?_; (with_reducible refine (spec_l1In.calls a1 0 (wrap64 ((l0.length : Int) - 1)) true _ A9.out).mono ?_); rintro e w' ⟨rfl, ⟨nd, rfl⟩⟩; refine ⟨_, rfl, ?_⟩) | (go_at_call 91; (with_reducible refine (spec_NameOk.calls k a2 false _ A11.out).mono ?_); rintro e w' ⟨rfl, ⟨nd, rfl⟩⟩))
    go_meet
    case rel => exact ⟨_, (true), (by first | rfl | (simp; done) | (simp [*]; done)), H', ⟨by first | omega | exact Nat.le_refl _⟩, ⟨by repeat (first | (with_reducible first | exact HB.out | apply qc0 | apply qa0 | apply qb0) | exact HB.out)⟩⟩
   replace c10 := Bool.eq_false_iff.mpr c10
   subst c10
   have H1 : (spec_Move.j0 k l0 a1 a2 a3 true) = some (r1, r2) := by rw [if_neg (show ¬ (false = true) by decide)] at H; exact H
   clear H
   have H := H1
   clear H1
   have H' := Aside0.mk H
   clear H
   go_wp2_with (first | ((with_reducible refine qo0 (f := 92) rfl ?_); refine qz0 (some 21) rfl rfl Try.func92 (by kernel_rfl) rfl #[.int .i64 a1, .int .i64 0, .int .i64 (wrap64 ((l0.length : Int) - 1))] rfl (by (try simp only [List.map_toArray, List.map_cons, List.map_nil]); first | done | rfl | (simp only [List.length_drop, List.length_take]; rfl)) ?_; (with_reducible refine (spec_l1In.calls a1 0 (wrap64 ((l0.length : Int) - 1)) false _ A9.out).mono ?_); rintro e w' ⟨rfl, ⟨nd, rfl⟩⟩; refine ⟨_, rfl, ?_⟩))
   go_meet
   case rel => exact ⟨_, (true), (by first | rfl | (simp; done) | (simp [*]; done)), H', ⟨by first | omega | exact Nat.le_refl _⟩, ⟨by repeat (first | (with_reducible first | exact HB.out | apply qc0 | apply qa0 | apply qb0) | exact HB.out)⟩⟩
  case rest =>
   clear HC7
   try clear c1
   try clear p2
   try clear p4
   try clear q4
   try clear hx4
   try clear c6
   try clear p6
   try clear c7
   try clear c9
   try clear c10
   try clear c12
   try clear c13
   try clear c13b0
   try clear c14
   try clear c14b0
   try clear c15
   try clear c15b0
   try clear c15b1
   try clear hx406_0
   try clear hx406_1
   try clear hx406_2
   try clear hx406_3
   try clear hx406_4
   try clear hx406_5
   try clear p406
   try clear q406
   obtain ⟨kq, x41_6, rfl, HA, HJ6, HB⟩ := hcut
   cases kq with
   | zero => exact absurd HA.out (by simp [spec_Move.j0])
   | succ kj6 =>
    have H := HA.out
    clear HA
    simp only [spec_Move.j0] at H
    by_cases c17 : x41_6 = true
    ·subst c17
     have H1 : ((spec_l15Copy.f l0).bind fun t408 => (some (t408, 2))) = some (r1, r2) := by rw [if_pos rfl] at H; exact H
     clear H
     have H := H1
     clear H1
     replace H := Option.bind_eq_some_iff.mp H
     obtain ⟨t408, A180, H⟩ := H
     replace H : (some (t408, 2)) = some (r1, r2) := H
     have A18 := Aside0.mk A180
     clear A180
     simp only [Option.some.injEq, Prod.mk.injEq] at H
     obtain ⟨rfl, rfl⟩ := H
     go_wp2_with (first | ((with_reducible refine qo0 (f := 159) rfl ?_); refine qz0 (some 43) rfl rfl Try.func159 (by kernel_rfl) rfl #[.slice A0 l0.length c0] rfl (by (try simp only [List.map_toArray, List.map_cons, List.map_nil]); first | done | rfl | (simp only [List.length_drop, List.length_take]; rfl)) ?_; (with_reducible refine (spec_l15Copy.calls _ _ l0 t408 _ ?side1 ?side2 A18.out).mono ?_); (case side1 => repeat (first | exact (Kd.qp1 HR0.out HB.out) | (with_reducible refine Kd.qu0 ?_ _) | (with_reducible refine Kd.qt0 ?_ _) | (with_reducible refine Kd.qy0 ?_))); (case side2 => exact HC0.out); rintro e w19 ⟨v409, rfl, ho0, hb⟩; refine ⟨_, rfl, ?_⟩; have n0_ := Aside0.mk (Kd.qb1 ho0 (ql0 (by repeat (first | (with_reducible first | exact HB.out | apply qc0 | apply qa0 | apply qb0) | exact HB.out)))); have n1_ := Aside0.mk (qk0 (by repeat (first | (with_reducible first | exact HB.out | apply qc0 | apply qa0 | apply qb0) | exact HB.out)) hb); clear HB; have HO410 := n0_; have HB := n1_; clear n0_ n1_; (try clear hb); (try clear hb2); (try clear hk); (try clear hi); (try clear ho0)))
     go_ret2
     exact ⟨_, by first | rfl | (simp [errW_none, errW_some] <;> rfl) | (simp [*, errW_none, errW_some] <;> rfl), by (with_reducible repeat (first | apply Kd.qi0 | apply Kd.qh0 | apply Kd.qj0)); exact HO410.out, by repeat (first | (with_reducible first | exact HB.out | apply qc0 | apply qa0 | apply qb0) | exact HB.out)⟩
    replace c17 := Bool.eq_false_iff.mpr c17
    subst c17
    have H1 : (if 0 ≤ a1 then (if a1 < (l0.length : Int) then (if (wrap64 (((rd_T117 l0 a1).f4) - ((rd_T117 l0 a1).f5))) < a3 then ((spec_l15Copy.f l0).bind fun t413 => (some (t413, 3))) else ((spec_l15Copy.f l0).bind fun t418 => ((spec_l15Add.f kj6 t418 ((rd_T117 l0 a1).f0) a2 ((rd_T117 l0 a1).f2) ((rd_T117 l0 a1).f3) a3 0).bind fun bt421 => (if bt421.2 = true then (if a1 < (bt421.1.length : Int) then (some ((bt421.1.set (a1 : Int).toNat (⟨(rd_T117 bt421.1 a1).f0, (rd_T117 bt421.1 a1).f1, (rd_T117 bt421.1 a1).f2, (rd_T117 bt421.1 a1).f3, wrap64 (((rd_T117 bt421.1 a1).f4) - a3), (rd_T117 bt421.1 a1).f5⟩ : S117)), 0)) else (none)) else ((spec_l15Copy.f l0).bind fun t427 => (some (t427, 4))))))) else (none)) else (none)) = some (r1, r2) := by rw [if_neg (show ¬ (false = true) by decide)] at H; exact H
    clear H
    have H := H1
    clear H1
    by_cases c20 : 0 ≤ a1
    case neg => rw [if_neg c20] at H; exact absurd H (by simp)
    rw [if_pos c20] at H
    have c20b0 : decide (0 ≤ a1) = true := decide_eq_true c20
    clear c20
    by_cases c21 : a1 < (l0.length : Int)
    case neg => rw [if_neg c21] at H; exact absurd H (by simp)
    rw [if_pos c21] at H
    have c21b0 : decide (a1 < (l0.length : Int)) = true := decide_eq_true c21
    clear c21
    by_cases c22 : (wrap64 (((rd_T117 l0 a1).f4) - ((rd_T117 l0 a1).f5))) < a3
    ·rw [if_pos c22] at H
     have c22b0 : decide ((wrap64 (((rd_T117 l0 a1).f4) - ((rd_T117 l0 a1).f5))) < a3) = true := decide_eq_true c22
     clear c22
     replace H := Option.bind_eq_some_iff.mp H
     obtain ⟨t413, A230, H⟩ := H
     replace H : (some (t413, 3)) = some (r1, r2) := H
     have A23 := Aside0.mk A230
     clear A230
     simp only [Option.some.injEq, Prod.mk.injEq] at H
     obtain ⟨rfl, rfl⟩ := H
     try go_wp2
     have n0_ := Aside0.mk (qb0 HB.out)
     clear HB
     have HB := n0_
     clear n0_
     have p411 : 0 ≤ (a1 : Int) := of_decide_eq_true (by first | (with_reducible assumption) | assumption)
     have q411 : a1 < (l0.length : Int) := of_decide_eq_true (by first | (with_reducible assumption) | assumption)
     obtain ⟨ad411, e411, hx411_0, hx411_1, hx411_2, hx411_3, hx411_4, hx411_5⟩ := at_T117 HR0.out a1 p411 q411
     have hw411_5 := hx411_5
     have hw411_4 := hx411_4
     have hw411_3 := hx411_3
     have hw411_2 := hx411_2
     have hw411_1 := hx411_1
     have hw411_0 := hx411_0
     cases e411
     replace hx411_0 := (HB.out.cell (World.block_lt_of_cell? w _ hx411_0)).trans hx411_0
     replace hx411_1 := (HB.out.cell (World.block_lt_of_cell? w _ hx411_1)).trans hx411_1
     replace hx411_2 := (HB.out.cell (World.block_lt_of_cell? w _ hx411_2)).trans hx411_2
     replace hx411_3 := (HB.out.cell (World.block_lt_of_cell? w _ hx411_3)).trans hx411_3
     replace hx411_4 := (HB.out.cell (World.block_lt_of_cell? w _ hx411_4)).trans hx411_4
     replace hx411_5 := (HB.out.cell (World.block_lt_of_cell? w _ hx411_5)).trans hx411_5
     replace p411 := eq_true p411
     replace q411 := eq_true q411
     have p412 : 0 ≤ (a1 : Int) := of_decide_eq_true (by first | (with_reducible assumption) | assumption)
     have q412 : a1 < (l0.length : Int) := of_decide_eq_true (by first | (with_reducible assumption) | assumption)
     obtain ⟨ad412, e412, hx412_0, hx412_1, hx412_2, hx412_3, hx412_4, hx412_5⟩ := at_T117 HR0.out a1 p412 q412
     have hw412_5 := hx412_5
     have hw412_4 := hx412_4
     have hw412_3 := hx412_3
     have hw412_2 := hx412_2
     have hw412_1 := hx412_1
     have hw412_0 := hx412_0
     obtain rfl : ad411 = ad412 := (by injection e412)
     replace hx412_0 := (HB.out.cell (World.block_lt_of_cell? w _ hx412_0)).trans hx412_0
     replace hx412_1 := (HB.out.cell (World.block_lt_of_cell? w _ hx412_1)).trans hx412_1
     replace hx412_2 := (HB.out.cell (World.block_lt_of_cell? w _ hx412_2)).trans hx412_2
     replace hx412_3 := (HB.out.cell (World.block_lt_of_cell? w _ hx412_3)).trans hx412_3
     replace hx412_4 := (HB.out.cell (World.block_lt_of_cell? w _ hx412_4)).trans hx412_4
     replace hx412_5 := (HB.out.cell (World.block_lt_of_cell? w _ hx412_5)).trans hx412_5
     replace p412 := eq_true p412
     replace q412 := eq_true q412
     refine start_ (n := 13) (S := fun w' => w'.cell? (ad411.add ((a1).toNat * 6)) = some (.string ((rd_T117 l0 a1).f0)) ∧ w'.cell? ⟨(ad411.add ((a1).toNat * 6)).block, (ad411.add ((a1).toNat * 6)).off + 1, none⟩ = some (.string ((rd_T117 l0 a1).f1)) ∧ w'.cell? ⟨(ad411.add ((a1).toNat * 6)).block, (ad411.add ((a1).toNat * 6)).off + 2, none⟩ = some (.string ((rd_T117 l0 a1).f2)) ∧ w'.cell? ⟨(ad411.add ((a1).toNat * 6)).block, (ad411.add ((a1).toNat * 6)).off + 3, none⟩ = some (.int .i64 ((rd_T117 l0 a1).f3)) ∧ w'.cell? ⟨(ad411.add ((a1).toNat * 6)).block, (ad411.add ((a1).toNat * 6)).off + 4, none⟩ = some (.int .i64 ((rd_T117 l0 a1).f4)) ∧ w'.cell? ⟨(ad411.add ((a1).toNat * 6)).block, (ad411.add ((a1).toNat * 6)).off + 5, none⟩ = some (.int .i64 ((rd_T117 l0 a1).f5)) ∧ w'.cell? (ad411.add ((a1).toNat * 6)) = some (.string ((rd_T117 l0 a1).f0)) ∧ w'.cell? ⟨(ad411.add ((a1).toNat * 6)).block, (ad411.add ((a1).toNat * 6)).off + 1, none⟩ = some (.string ((rd_T117 l0 a1).f1)) ∧ w'.cell? ⟨(ad411.add ((a1).toNat * 6)).block, (ad411.add ((a1).toNat * 6)).off + 2, none⟩ = some (.string ((rd_T117 l0 a1).f2)) ∧ w'.cell? ⟨(ad411.add ((a1).toNat * 6)).block, (ad411.add ((a1).toNat * 6)).off + 3, none⟩ = some (.int .i64 ((rd_T117 l0 a1).f3)) ∧ w'.cell? ⟨(ad411.add ((a1).toNat * 6)).block, (ad411.add ((a1).toNat * 6)).off + 4, none⟩ = some (.int .i64 ((rd_T117 l0 a1).f4)) ∧ w'.cell? ⟨(ad411.add ((a1).toNat * 6)).block, (ad411.add ((a1).toNat * 6)).off + 5, none⟩ = some (.int .i64 ((rd_T117 l0 a1).f5))) (ds := []) #[false, false, false, false, false, false, false, false, false, false, false, false, false] (by kernel_rfl) rfl rfl ⟨((HB.out.cell (World.block_lt_of_cell? w _ hw411_0)).trans hw411_0), ((HB.out.cell (World.block_lt_of_cell? w _ hw411_1)).trans hw411_1), ((HB.out.cell (World.block_lt_of_cell? w _ hw411_2)).trans hw411_2), ((HB.out.cell (World.block_lt_of_cell? w _ hw411_3)).trans hw411_3), ((HB.out.cell (World.block_lt_of_cell? w _ hw411_4)).trans hw411_4), ((HB.out.cell (World.block_lt_of_cell? w _ hw411_5)).trans hw411_5), ((HB.out.cell (World.block_lt_of_cell? w _ hw412_0)).trans hw412_0), ((HB.out.cell (World.block_lt_of_cell? w _ hw412_1)).trans hw412_1), ((HB.out.cell (World.block_lt_of_cell? w _ hw412_2)).trans hw412_2), ((HB.out.cell (World.block_lt_of_cell? w _ hw412_3)).trans hw412_3), ((HB.out.cell (World.block_lt_of_cell? w _ hw412_4)).trans hw412_4), ((HB.out.cell (World.block_lt_of_cell? w _ hw412_5)).trans hw412_5)⟩ (fun hHeld => ?_); refine with_tabW spec_Move.tab5 spec_Move.bits5 (fun HT_ HW_ => ?_)
     generalize wc.drew = w24 at HB hx411_0 hx411_1 hx411_2 hx411_3 hx411_4 hx411_5 hx412_0 hx412_1 hx412_2 hx412_3 hx412_4 hx412_5 hHeld ⊢
     refine pure_ (i := 0) (N := some 44) (v := ?_) (a' := ?_) #[true, false, false, false, false, false, false, false, false, false, false, false, false] rfl rfl (qa1 HT_.out (by kernel_rfl)) (fun _ _ _ h => h) (Or.inl ⟨by rfl, ?_⟩) ?_ ?_
     rotate_left
     ·intro w'
      go_simp
      with_reducible rfl
     rotate_left
     ·simp only [Act.put, List.setIfInBounds_toArray, List.set_cons_zero, List.set_cons_succ, i64_w, i32_w]
      rfl
     refine pure_ (i := 1) (N := some 45) (v := ?_) (a' := ?_) #[true, true, false, false, false, false, false, false, false, false, false, false, false] rfl rfl (qa1 HT_.out (by kernel_rfl)) (fun _ _ _ h => h) (Or.inl ⟨by rfl, ?_⟩) ?_ ?_
     rotate_left
     ·intro w'
      go_simp
      with_reducible rfl
     rotate_left
     ·simp only [Act.put, List.setIfInBounds_toArray, List.set_cons_zero, List.set_cons_succ, i64_w, i32_w]
      rfl
     refine pure_ (i := 2) (N := some 46) (v := ?_) (a' := ?_) #[true, true, true, false, false, false, false, false, false, false, false, false, false] rfl rfl (qa1 HT_.out (by kernel_rfl)) (fun _ _ _ h => h) (Or.inl ⟨by rfl, ?_⟩) ?_ ?_
     rotate_left
     ·intro w'
      go_simp
      with_reducible rfl
     rotate_left
     ·simp only [Act.put, List.setIfInBounds_toArray, List.set_cons_zero, List.set_cons_succ, i64_w, i32_w]
      rfl
     refine pure_ (i := 3) (N := some 47) (v := ?_) (a' := ?_) #[true, true, true, true, false, false, false, false, false, false, false, false, false] rfl rfl (qa1 HT_.out (by kernel_rfl)) (fun _ _ _ h => h) (Or.inl ⟨by rfl, ?_⟩) ?_ ?_
     rotate_left
     ·intro w'
      go_simp
      with_reducible rfl
     rotate_left
     ·simp only [Act.put, List.setIfInBounds_toArray, List.set_cons_zero, List.set_cons_succ, i64_w, i32_w]
      rfl
     refine pure_ (i := 5) (N := some 49) (v := ?_) (a' := ?_) #[true, true, true, true, false, true, false, false, false, false, false, false, false] rfl rfl (qa1 HT_.out (by kernel_rfl)) (fun _ _ _ h => h) (Or.inl ⟨by rfl, ?_⟩) ?_ ?_
     rotate_left
     ·intro w'
      go_simp
      with_reducible rfl
     rotate_left
     ·simp only [Act.put, List.setIfInBounds_toArray, List.set_cons_zero, List.set_cons_succ, i64_w, i32_w]
      rfl
     refine pure_ (i := 6) (N := some 50) (v := ?_) (a' := ?_) #[true, true, true, true, false, true, true, false, false, false, false, false, false] rfl rfl (qa1 HT_.out (by kernel_rfl)) (fun _ _ _ h => h) (Or.inl ⟨by rfl, ?_⟩) ?_ ?_
     rotate_left
     ·intro w'
      go_simp
      with_reducible rfl
     rotate_left
     ·simp only [Act.put, List.setIfInBounds_toArray, List.set_cons_zero, List.set_cons_succ, i64_w, i32_w]
      rfl
     refine pure_ (i := 7) (N := some 51) (v := ?_) (a' := ?_) #[true, true, true, true, false, true, true, true, false, false, false, false, false] rfl rfl (qa1 HT_.out (by kernel_rfl)) (fun _ _ _ h => h) (Or.inl ⟨by rfl, ?_⟩) ?_ ?_
     rotate_left
     ·intro w'
      go_simp
      with_reducible rfl
     rotate_left
     ·simp only [Act.put, List.setIfInBounds_toArray, List.set_cons_zero, List.set_cons_succ, i64_w, i32_w]
      rfl
     refine pure_ (i := 8) (N := some 52) (v := ?_) (a' := ?_) #[true, true, true, true, false, true, true, true, true, false, false, false, false] rfl rfl (qa1 HT_.out (by kernel_rfl)) (fun _ _ _ h => h) (Or.inl ⟨by rfl, ?_⟩) ?_ ?_
     rotate_left
     ·intro w'
      go_simp
      with_reducible rfl
     rotate_left
     ·simp only [Act.put, List.setIfInBounds_toArray, List.set_cons_zero, List.set_cons_succ, i64_w, i32_w]
      rfl
     refine pure_ (i := 11) (N := some 55) (v := ?_) (a' := ?_) #[true, true, true, true, false, true, true, true, true, false, false, true, false] rfl rfl (qa1 HT_.out (by kernel_rfl)) (fun _ _ _ h => h) (Or.inl ⟨by rfl, ?_⟩) ?_ ?_
     rotate_left
     ·intro w'
      go_simp
      with_reducible rfl
     rotate_left
     ·simp only [Act.put, List.setIfInBounds_toArray, List.set_cons_zero, List.set_cons_succ, i64_w, i32_w]
      rfl
     refine take_ (i := 4) (N := some 48) (v := ?_) (a' := ?_) #[true, true, true, true, true, true, true, true, true, false, false, true, false] rfl rfl (qo1 HT_.out HW_.out (by kernel_rfl)) (fun _ _ _ h => h) (Or.inl ⟨by rfl, ?_⟩) hHeld ?_ ?_
     rotate_left
     ·rintro w' ⟨s0, s1, s2, s3, s4, s5, s6, s7, s8, s9, s10, s11⟩
      go_simp
      with_reducible rfl
     rotate_left
     ·simp only [Act.put, List.setIfInBounds_toArray, List.set_cons_zero, List.set_cons_succ, i64_w, i32_w]
      rfl
     refine take_ (i := 9) (N := some 53) (v := ?_) (a' := ?_) #[true, true, true, true, true, true, true, true, true, true, false, true, false] rfl rfl (qo1 HT_.out HW_.out (by kernel_rfl)) (fun _ _ _ h => h) (Or.inl ⟨by rfl, ?_⟩) hHeld ?_ ?_
     rotate_left
     ·rintro w' ⟨s0, s1, s2, s3, s4, s5, s6, s7, s8, s9, s10, s11⟩
      go_simp
      with_reducible rfl
     rotate_left
     ·simp only [Act.put, List.setIfInBounds_toArray, List.set_cons_zero, List.set_cons_succ, i64_w, i32_w]
      rfl
     refine pure_ (i := 10) (N := some 54) (v := ?_) (a' := ?_) #[true, true, true, true, true, true, true, true, true, true, true, true, false] rfl rfl (qa1 HT_.out (by kernel_rfl)) (fun _ _ _ h => h) (Or.inl ⟨by rfl, ?_⟩) ?_ ?_
     rotate_left
     ·intro w'
      go_simp
      with_reducible rfl
     rotate_left
     ·simp only [Act.put, List.setIfInBounds_toArray, List.set_cons_zero, List.set_cons_succ, i64_w, i32_w]
      rfl
     refine pure_ (i := 12) (N := some 56) (v := ?_) (a' := ?_) #[true, true, true, true, true, true, true, true, true, true, true, true, true] rfl rfl (qa1 HT_.out (by kernel_rfl)) (fun _ _ _ h => h) (Or.inl ⟨by rfl, ?_⟩) ?_ ?_
     rotate_left
     ·intro w'
      go_simp
      with_reducible rfl
     rotate_left
     ·simp only [Act.put, List.setIfInBounds_toArray, List.set_cons_zero, List.set_cons_succ, i64_w, i32_w]
      rfl
     refine done_ (done_of HT_.out (by kernel_rfl)) ?_
     try go_wp2_with (first | ((with_reducible refine qo0 (f := 159) rfl ?_); refine qz0 (some 58) rfl rfl Try.func159 (by kernel_rfl) rfl #[.slice (some ad411) l0.length c0] rfl (by (try simp only [List.map_toArray, List.map_cons, List.map_nil]); first | done | rfl | (simp only [List.length_drop, List.length_take]; rfl)) ?_; (with_reducible refine (spec_l15Copy.calls _ _ l0 t413 _ ?side1 ?side2 A23.out).mono ?_); (case side1 => repeat (first | exact (Kd.qp1 HR0.out HB.out) | (with_reducible refine Kd.qu0 ?_ _) | (with_reducible refine Kd.qt0 ?_ _) | (with_reducible refine Kd.qy0 ?_))); (case side2 => exact HC0.out); rintro e w25 ⟨v414, rfl, ho0, hb⟩; refine ⟨_, rfl, ?_⟩; have n0_ := Aside0.mk (Kd.qb1 ho0 (ql0 (by repeat (first | (with_reducible first | exact HB.out | apply qc0 | apply qa0 | apply qb0) | exact HB.out)))); have n1_ := Aside0.mk (qk0 (by repeat (first | (with_reducible first | exact HB.out | apply qc0 | apply qa0 | apply qb0) | exact HB.out)) hb); clear HB; have HO415 := n0_; have HB := n1_; clear n0_ n1_; (try clear hb); (try clear hb2); (try clear hk); (try clear hi); (try clear ho0)))
     go_ret2
     exact ⟨_, by first | rfl | (simp [errW_none, errW_some] <;> rfl) | (simp [*, errW_none, errW_some] <;> rfl), by (with_reducible repeat (first | apply Kd.qi0 | apply Kd.qh0 | apply Kd.qj0)); exact HO415.out, by repeat (first | (with_reducible first | exact HB.out | apply qc0 | apply qa0 | apply qb0) | exact HB.out)⟩
    rw [if_neg c22] at H
    have c22b0 : decide ((wrap64 (((rd_T117 l0 a1).f4) - ((rd_T117 l0 a1).f5))) < a3) = false := decide_eq_false c22
    clear c22
    replace H := Option.bind_eq_some_iff.mp H
    obtain ⟨t418, A260, H⟩ := H
    replace H : ((spec_l15Add.f kj6 t418 ((rd_T117 l0 a1).f0) a2 ((rd_T117 l0 a1).f2) ((rd_T117 l0 a1).f3) a3 0).bind fun bt421 => (if bt421.2 = true then (if a1 < (bt421.1.length : Int) then (some ((bt421.1.set (a1 : Int).toNat (⟨(rd_T117 bt421.1 a1).f0, (rd_T117 bt421.1 a1).f1, (rd_T117 bt421.1 a1).f2, (rd_T117 bt421.1 a1).f3, wrap64 (((rd_T117 bt421.1 a1).f4) - a3), (rd_T117 bt421.1 a1).f5⟩ : S117)), 0)) else (none)) else ((spec_l15Copy.f l0).bind fun t427 => (some (t427, 4))))) = some (r1, r2) := H
    have A26 := Aside0.mk A260
    clear A260
    replace H := Option.bind_eq_some_iff.mp H
    obtain ⟨⟨t421, t424⟩, A270, H⟩ := H
    replace H : (if t424 = true then (if a1 < (t421.length : Int) then (some ((t421.set (a1 : Int).toNat (⟨(rd_T117 t421 a1).f0, (rd_T117 t421 a1).f1, (rd_T117 t421 a1).f2, (rd_T117 t421 a1).f3, wrap64 (((rd_T117 t421 a1).f4) - a3), (rd_T117 t421 a1).f5⟩ : S117)), 0)) else (none)) else ((spec_l15Copy.f l0).bind fun t427 => (some (t427, 4)))) = some (r1, r2) := H
    have A27 := Aside0.mk A270
    clear A270
    by_cases c28 : t424 = true
    ·subst c28
     have H1 : (if a1 < (t421.length : Int) then (some ((t421.set (a1 : Int).toNat (⟨(rd_T117 t421 a1).f0, (rd_T117 t421 a1).f1, (rd_T117 t421 a1).f2, (rd_T117 t421 a1).f3, wrap64 (((rd_T117 t421 a1).f4) - a3), (rd_T117 t421 a1).f5⟩ : S117)), 0)) else (none)) = some (r1, r2) := by rw [if_pos rfl] at H; exact H
     clear H
     have H := H1
     clear H1
     by_cases c29 : a1 < (t421.length : Int)
     case neg => rw [if_neg c29] at H; exact absurd H (by simp)
     rw [if_pos c29] at H
     have c29b0 : decide (a1 < (t421.length : Int)) = true := decide_eq_true c29
     clear c29
     obtain ⟨y426, hy426⟩ : ∃ y_ : List (S117), y_ = (t421.set (a1 : Int).toNat (⟨(rd_T117 t421 a1).f0, (rd_T117 t421 a1).f1, (rd_T117 t421 a1).f2, (rd_T117 t421 a1).f3, wrap64 (((rd_T117 t421 a1).f4) - a3), (rd_T117 t421 a1).f5⟩ : S117)) := ⟨_, rfl⟩
     replace H : (some (y426, 0)) = some (r1, r2) := by first | (rw [hy426]; with_reducible exact H) | (have H2_ := (Option.bind_some _ _).symm.trans H; rw [hy426]; with_reducible exact H2_) | (have H2_ := (Option.bind_some _ _).symm.trans H; with_reducible exact H2_) | with_reducible exact H | (rw [hy426]; exact H) | exact H
     have Ny426 := Aside0.mk hy426
     clear hy426
     simp only [Option.some.injEq, Prod.mk.injEq] at H
     obtain ⟨rfl, rfl⟩ := H
     try go_wp2
     have n0_ := Aside0.mk (qb0 HB.out)
     clear HB
     have HB := n0_
     clear n0_
     have p411 : 0 ≤ (a1 : Int) := of_decide_eq_true (by first | (with_reducible assumption) | assumption)
     have q411 : a1 < (l0.length : Int) := of_decide_eq_true (by first | (with_reducible assumption) | assumption)
     obtain ⟨ad411, e411, hx411_0, hx411_1, hx411_2, hx411_3, hx411_4, hx411_5⟩ := at_T117 HR0.out a1 p411 q411
     have hw411_5 := hx411_5
     have hw411_4 := hx411_4
     have hw411_3 := hx411_3
     have hw411_2 := hx411_2
     have hw411_1 := hx411_1
     have hw411_0 := hx411_0
     cases e411
     replace hx411_0 := (HB.out.cell (World.block_lt_of_cell? w _ hx411_0)).trans hx411_0
     replace hx411_1 := (HB.out.cell (World.block_lt_of_cell? w _ hx411_1)).trans hx411_1
     replace hx411_2 := (HB.out.cell (World.block_lt_of_cell? w _ hx411_2)).trans hx411_2
     replace hx411_3 := (HB.out.cell (World.block_lt_of_cell? w _ hx411_3)).trans hx411_3
     replace hx411_4 := (HB.out.cell (World.block_lt_of_cell? w _ hx411_4)).trans hx411_4
     replace hx411_5 := (HB.out.cell (World.block_lt_of_cell? w _ hx411_5)).trans hx411_5
     replace p411 := eq_true p411
     replace q411 := eq_true q411
     have p412 : 0 ≤ (a1 : Int) := of_decide_eq_true (by first | (with_reducible assumption) | assumption)
     have q412 : a1 < (l0.length : Int) := of_decide_eq_true (by first | (with_reducible assumption) | assumption)
     obtain ⟨ad412, e412, hx412_0, hx412_1, hx412_2, hx412_3, hx412_4, hx412_5⟩ := at_T117 HR0.out a1 p412 q412
     have hw412_5 := hx412_5
     have hw412_4 := hx412_4
     have hw412_3 := hx412_3
     have hw412_2 := hx412_2
     have hw412_1 := hx412_1
     have hw412_0 := hx412_0
     obtain rfl : ad411 = ad412 := (by injection e412)
     replace hx412_0 := (HB.out.cell (World.block_lt_of_cell? w _ hx412_0)).trans hx412_0
     replace hx412_1 := (HB.out.cell (World.block_lt_of_cell? w _ hx412_1)).trans hx412_1
     replace hx412_2 := (HB.out.cell (World.block_lt_of_cell? w _ hx412_2)).trans hx412_2
     replace hx412_3 := (HB.out.cell (World.block_lt_of_cell? w _ hx412_3)).trans hx412_3
     replace hx412_4 := (HB.out.cell (World.block_lt_of_cell? w _ hx412_4)).trans hx412_4
     replace hx412_5 := (HB.out.cell (World.block_lt_of_cell? w _ hx412_5)).trans hx412_5
     replace p412 := eq_true p412
     replace q412 := eq_true q412
     refine start_ (n := 13) (S := fun w' => w'.cell? (ad411.add ((a1).toNat * 6)) = some (.string ((rd_T117 l0 a1).f0)) ∧ w'.cell? ⟨(ad411.add ((a1).toNat * 6)).block, (ad411.add ((a1).toNat * 6)).off + 1, none⟩ = some (.string ((rd_T117 l0 a1).f1)) ∧ w'.cell? ⟨(ad411.add ((a1).toNat * 6)).block, (ad411.add ((a1).toNat * 6)).off + 2, none⟩ = some (.string ((rd_T117 l0 a1).f2)) ∧ w'.cell? ⟨(ad411.add ((a1).toNat * 6)).block, (ad411.add ((a1).toNat * 6)).off + 3, none⟩ = some (.int .i64 ((rd_T117 l0 a1).f3)) ∧ w'.cell? ⟨(ad411.add ((a1).toNat * 6)).block, (ad411.add ((a1).toNat * 6)).off + 4, none⟩ = some (.int .i64 ((rd_T117 l0 a1).f4)) ∧ w'.cell? ⟨(ad411.add ((a1).toNat * 6)).block, (ad411.add ((a1).toNat * 6)).off + 5, none⟩ = some (.int .i64 ((rd_T117 l0 a1).f5)) ∧ w'.cell? (ad411.add ((a1).toNat * 6)) = some (.string ((rd_T117 l0 a1).f0)) ∧ w'.cell? ⟨(ad411.add ((a1).toNat * 6)).block, (ad411.add ((a1).toNat * 6)).off + 1, none⟩ = some (.string ((rd_T117 l0 a1).f1)) ∧ w'.cell? ⟨(ad411.add ((a1).toNat * 6)).block, (ad411.add ((a1).toNat * 6)).off + 2, none⟩ = some (.string ((rd_T117 l0 a1).f2)) ∧ w'.cell? ⟨(ad411.add ((a1).toNat * 6)).block, (ad411.add ((a1).toNat * 6)).off + 3, none⟩ = some (.int .i64 ((rd_T117 l0 a1).f3)) ∧ w'.cell? ⟨(ad411.add ((a1).toNat * 6)).block, (ad411.add ((a1).toNat * 6)).off + 4, none⟩ = some (.int .i64 ((rd_T117 l0 a1).f4)) ∧ w'.cell? ⟨(ad411.add ((a1).toNat * 6)).block, (ad411.add ((a1).toNat * 6)).off + 5, none⟩ = some (.int .i64 ((rd_T117 l0 a1).f5))) (ds := []) #[false, false, false, false, false, false, false, false, false, false, false, false, false] (by kernel_rfl) rfl rfl ⟨((HB.out.cell (World.block_lt_of_cell? w _ hw411_0)).trans hw411_0), ((HB.out.cell (World.block_lt_of_cell? w _ hw411_1)).trans hw411_1), ((HB.out.cell (World.block_lt_of_cell? w _ hw411_2)).trans hw411_2), ((HB.out.cell (World.block_lt_of_cell? w _ hw411_3)).trans hw411_3), ((HB.out.cell (World.block_lt_of_cell? w _ hw411_4)).trans hw411_4), ((HB.out.cell (World.block_lt_of_cell? w _ hw411_5)).trans hw411_5), ((HB.out.cell (World.block_lt_of_cell? w _ hw412_0)).trans hw412_0), ((HB.out.cell (World.block_lt_of_cell? w _ hw412_1)).trans hw412_1), ((HB.out.cell (World.block_lt_of_cell? w _ hw412_2)).trans hw412_2), ((HB.out.cell (World.block_lt_of_cell? w _ hw412_3)).trans hw412_3), ((HB.out.cell (World.block_lt_of_cell? w _ hw412_4)).trans hw412_4), ((HB.out.cell (World.block_lt_of_cell? w _ hw412_5)).trans hw412_5)⟩ (fun hHeld => ?_); refine with_tabW spec_Move.tab5 spec_Move.bits5 (fun HT_ HW_ => ?_)
     generalize wc.drew = w31 at HB hx411_0 hx411_1 hx411_2 hx411_3 hx411_4 hx411_5 hx412_0 hx412_1 hx412_2 hx412_3 hx412_4 hx412_5 hHeld ⊢
     refine pure_ (i := 0) (N := some 44) (v := ?_) (a' := ?_) #[true, false, false, false, false, false, false, false, false, false, false, false, false] rfl rfl (qa1 HT_.out (by kernel_rfl)) (fun _ _ _ h => h) (Or.inl ⟨by rfl, ?_⟩) ?_ ?_
     rotate_left
     ·intro w'
      go_simp
      with_reducible rfl
     rotate_left
     ·simp only [Act.put, List.setIfInBounds_toArray, List.set_cons_zero, List.set_cons_succ, i64_w, i32_w]
      rfl
     refine pure_ (i := 1) (N := some 45) (v := ?_) (a' := ?_) #[true, true, false, false, false, false, false, false, false, false, false, false, false] rfl rfl (qa1 HT_.out (by kernel_rfl)) (fun _ _ _ h => h) (Or.inl ⟨by rfl, ?_⟩) ?_ ?_
     rotate_left
     ·intro w'
      go_simp
      with_reducible rfl
     rotate_left
     ·simp only [Act.put, List.setIfInBounds_toArray, List.set_cons_zero, List.set_cons_succ, i64_w, i32_w]
      rfl
     refine pure_ (i := 2) (N := some 46) (v := ?_) (a' := ?_) #[true, true, true, false, false, false, false, false, false, false, false, false, false] rfl rfl (qa1 HT_.out (by kernel_rfl)) (fun _ _ _ h => h) (Or.inl ⟨by rfl, ?_⟩) ?_ ?_
     rotate_left
     ·intro w'
      go_simp
      with_reducible rfl
     rotate_left
     ·simp only [Act.put, List.setIfInBounds_toArray, List.set_cons_zero, List.set_cons_succ, i64_w, i32_w]
      rfl
     refine pure_ (i := 3) (N := some 47) (v := ?_) (a' := ?_) #[true, true, true, true, false, false, false, false, false, false, false, false, false] rfl rfl (qa1 HT_.out (by kernel_rfl)) (fun _ _ _ h => h) (Or.inl ⟨by rfl, ?_⟩) ?_ ?_
     rotate_left
     ·intro w'
      go_simp
      with_reducible rfl
     rotate_left
     ·simp only [Act.put, List.setIfInBounds_toArray, List.set_cons_zero, List.set_cons_succ, i64_w, i32_w]
      rfl
     refine pure_ (i := 5) (N := some 49) (v := ?_) (a' := ?_) #[true, true, true, true, false, true, false, false, false, false, false, false, false] rfl rfl (qa1 HT_.out (by kernel_rfl)) (fun _ _ _ h => h) (Or.inl ⟨by rfl, ?_⟩) ?_ ?_
     rotate_left
     ·intro w'
      go_simp
      with_reducible rfl
     rotate_left
     ·simp only [Act.put, List.setIfInBounds_toArray, List.set_cons_zero, List.set_cons_succ, i64_w, i32_w]
      rfl
     refine pure_ (i := 6) (N := some 50) (v := ?_) (a' := ?_) #[true, true, true, true, false, true, true, false, false, false, false, false, false] rfl rfl (qa1 HT_.out (by kernel_rfl)) (fun _ _ _ h => h) (Or.inl ⟨by rfl, ?_⟩) ?_ ?_
     rotate_left
     ·intro w'
      go_simp
      with_reducible rfl
     rotate_left
     ·simp only [Act.put, List.setIfInBounds_toArray, List.set_cons_zero, List.set_cons_succ, i64_w, i32_w]
      rfl
     refine pure_ (i := 7) (N := some 51) (v := ?_) (a' := ?_) #[true, true, true, true, false, true, true, true, false, false, false, false, false] rfl rfl (qa1 HT_.out (by kernel_rfl)) (fun _ _ _ h => h) (Or.inl ⟨by rfl, ?_⟩) ?_ ?_
     rotate_left
     ·intro w'
      go_simp
      with_reducible rfl
     rotate_left
     ·simp only [Act.put, List.setIfInBounds_toArray, List.set_cons_zero, List.set_cons_succ, i64_w, i32_w]
      rfl
     refine pure_ (i := 8) (N := some 52) (v := ?_) (a' := ?_) #[true, true, true, true, false, true, true, true, true, false, false, false, false] rfl rfl (qa1 HT_.out (by kernel_rfl)) (fun _ _ _ h => h) (Or.inl ⟨by rfl, ?_⟩) ?_ ?_
     rotate_left
     ·intro w'
      go_simp
      with_reducible rfl
     rotate_left
     ·simp only [Act.put, List.setIfInBounds_toArray, List.set_cons_zero, List.set_cons_succ, i64_w, i32_w]
      rfl
     refine pure_ (i := 11) (N := some 55) (v := ?_) (a' := ?_) #[true, true, true, true, false, true, true, true, true, false, false, true, false] rfl rfl (qa1 HT_.out (by kernel_rfl)) (fun _ _ _ h => h) (Or.inl ⟨by rfl, ?_⟩) ?_ ?_
     rotate_left
     ·intro w'
      go_simp
      with_reducible rfl
     rotate_left
     ·simp only [Act.put, List.setIfInBounds_toArray, List.set_cons_zero, List.set_cons_succ, i64_w, i32_w]
      rfl
     refine take_ (i := 4) (N := some 48) (v := ?_) (a' := ?_) #[true, true, true, true, true, true, true, true, true, false, false, true, false] rfl rfl (qo1 HT_.out HW_.out (by kernel_rfl)) (fun _ _ _ h => h) (Or.inl ⟨by rfl, ?_⟩) hHeld ?_ ?_
     rotate_left
     ·rintro w' ⟨s0, s1, s2, s3, s4, s5, s6, s7, s8, s9, s10, s11⟩
      go_simp
      with_reducible rfl
     rotate_left
     ·simp only [Act.put, List.setIfInBounds_toArray, List.set_cons_zero, List.set_cons_succ, i64_w, i32_w]
      rfl
     refine take_ (i := 9) (N := some 53) (v := ?_) (a' := ?_) #[true, true, true, true, true, true, true, true, true, true, false, true, false] rfl rfl (qo1 HT_.out HW_.out (by kernel_rfl)) (fun _ _ _ h => h) (Or.inl ⟨by rfl, ?_⟩) hHeld ?_ ?_
     rotate_left
     ·rintro w' ⟨s0, s1, s2, s3, s4, s5, s6, s7, s8, s9, s10, s11⟩
      go_simp
      with_reducible rfl
     rotate_left
     ·simp only [Act.put, List.setIfInBounds_toArray, List.set_cons_zero, List.set_cons_succ, i64_w, i32_w]
      rfl
     refine pure_ (i := 10) (N := some 54) (v := ?_) (a' := ?_) #[true, true, true, true, true, true, true, true, true, true, true, true, false] rfl rfl (qa1 HT_.out (by kernel_rfl)) (fun _ _ _ h => h) (Or.inl ⟨by rfl, ?_⟩) ?_ ?_
     rotate_left
     ·intro w'
      go_simp
      with_reducible rfl
     rotate_left
     ·simp only [Act.put, List.setIfInBounds_toArray, List.set_cons_zero, List.set_cons_succ, i64_w, i32_w]
      rfl
     refine pure_ (i := 12) (N := some 56) (v := ?_) (a' := ?_) #[true, true, true, true, true, true, true, true, true, true, true, true, true] rfl rfl (qa1 HT_.out (by kernel_rfl)) (fun _ _ _ h => h) (Or.inl ⟨by rfl, ?_⟩) ?_ ?_
     rotate_left
     ·intro w'
      go_simp
      with_reducible rfl
     rotate_left
     ·simp only [Act.put, List.setIfInBounds_toArray, List.set_cons_zero, List.set_cons_succ, i64_w, i32_w]
      rfl
     refine done_ (done_of HT_.out (by kernel_rfl)) ?_
     have p416 : 0 ≤ (a1 : Int) := of_decide_eq_true (by first | (with_reducible assumption) | assumption)
     have q416 : a1 < (l0.length : Int) := of_decide_eq_true (by first | (with_reducible assumption) | assumption)
     obtain ⟨ad416, e416, hx416_0, hx416_1, hx416_2, hx416_3, hx416_4, hx416_5⟩ := at_T117 HR0.out a1 p416 q416
     obtain rfl : ad411 = ad416 := (by injection e416)
     replace hx416_0 := (HB.out.cell (World.block_lt_of_cell? w _ hx416_0)).trans hx416_0
     replace hx416_1 := (HB.out.cell (World.block_lt_of_cell? w _ hx416_1)).trans hx416_1
     replace hx416_2 := (HB.out.cell (World.block_lt_of_cell? w _ hx416_2)).trans hx416_2
     replace hx416_3 := (HB.out.cell (World.block_lt_of_cell? w _ hx416_3)).trans hx416_3
     replace hx416_4 := (HB.out.cell (World.block_lt_of_cell? w _ hx416_4)).trans hx416_4
     replace hx416_5 := (HB.out.cell (World.block_lt_of_cell? w _ hx416_5)).trans hx416_5
     replace p416 := eq_true p416
     replace q416 := eq_true q416
     try go_wp2_with (first | ((with_reducible refine gate_dst (N := 10) rfl ?_); refine qh1 ?hg (N := 10) ?hd (cs := #[.string (⟨#[]⟩ : ByteArray), .string (⟨#[]⟩ : ByteArray), .string (⟨#[]⟩ : ByteArray), .int .i64 0, .int .i64 0, .int .i64 0]) (t := 117) ?hr ?_; (case hd => rfl); (case hg => rfl); (case hr => first | (go_simp; done) | (go_simp; rfl)); intro gb417 hg w32 hbox hb; have n0_ := Aside0.mk (qk0 (by repeat (first | (with_reducible first | exact HB.out | apply qc0 | apply qa0 | apply qb0) | exact HB.out)) hb); have n1_ := Aside0.mk (hbox); have n2_ := Aside0.mk ((by rw [hg]; exact (ql0 (by repeat (first | (with_reducible first | exact HB.out | apply qc0 | apply qa0 | apply qb0) | exact HB.out))) : w.heap.size ≤ gb417)); have n3_ := Aside0.mk ((by rw [hg]; exact (ql0 (by repeat (first | (with_reducible first | exact HB.out | apply qc0 | apply qa0 | apply qb0) | exact HB.out))) : w.heap.size ≤ gb417)); clear HB; have HB := n0_; have BK417 := n1_; have GW417 := n2_; have GE417 := n3_; clear n0_ n1_ n2_ n3_; clear hb hbox hg; have hcz33_0 : w32.cell? ⟨gb417, 0, none⟩ = some (.string (⟨#[]⟩ : ByteArray)) := (qe0 BK417.out 0).trans rfl; have hcz33_1 : w32.cell? ⟨gb417, 1, none⟩ = some (.string (⟨#[]⟩ : ByteArray)) := (qe0 BK417.out 1).trans rfl; have hcz33_2 : w32.cell? ⟨gb417, 2, none⟩ = some (.string (⟨#[]⟩ : ByteArray)) := (qe0 BK417.out 2).trans rfl; have hcz33_3 : w32.cell? ⟨gb417, 3, none⟩ = some (.int .i64 0) := (qe0 BK417.out 3).trans rfl; have hcz33_4 : w32.cell? ⟨gb417, 4, none⟩ = some (.int .i64 0) := (qe0 BK417.out 4).trans rfl; have hcz33_5 : w32.cell? ⟨gb417, 5, none⟩ = some (.int .i64 0) := (qe0 BK417.out 5).trans rfl; have hfz33_0 := qd0 BK417.out 0; have hfz33_1 := qd0 BK417.out 1; have hfz33_2 := qd0 BK417.out 2; have hfz33_3 := qd0 BK417.out 3; have hfz33_4 := qd0 BK417.out 4; have hfz33_5 := qd0 BK417.out 5))
     have n0_ : Aside0 ((((((((((w32.setCell ⟨gb417, 0, none⟩ (.string ((rd_T117 l0 a1).f0))).setCell ⟨gb417, 1, none⟩ (.string ((rd_T117 l0 a1).f1))).setCell ⟨gb417, 2, none⟩ (.string ((rd_T117 l0 a1).f2))).setCell ⟨gb417, 3, none⟩ (.int .i64 ((rd_T117 l0 a1).f3))).setCell ⟨gb417, 4, none⟩ (.int .i64 ((rd_T117 l0 a1).f4))).setCell ⟨gb417, 5, none⟩ (.int .i64 ((rd_T117 l0 a1).f5))).setCell ⟨gb417, 1, none⟩ (.string a2)).setCell ⟨gb417, 4, none⟩ (.int .i64 a3)).setCell ⟨gb417, 5, none⟩ (.int .i64 0)).heap[gb417]? = some (.cells #[.string ((rd_T117 l0 a1).f0), .string a2, .string ((rd_T117 l0 a1).f2), .int .i64 ((rd_T117 l0 a1).f3), .int .i64 a3, .int .i64 0] 117 (0, 0))) := ⟨by (with_reducible repeat (first | refine qm0 ?_ _ | refine qp0 ?_ | refine qn0 ?_ _)); refine qx0 (cs := #[.string ((rd_T117 l0 a1).f0), .string a2, .string ((rd_T117 l0 a1).f2), .int .i64 ((rd_T117 l0 a1).f3), .int .i64 a3, .int .i64 ((rd_T117 l0 a1).f5)]) ?_ 5 _ rfl; (with_reducible repeat (first | refine qm0 ?_ _ | refine qp0 ?_ | refine qn0 ?_ _)); refine qx0 (cs := #[.string ((rd_T117 l0 a1).f0), .string a2, .string ((rd_T117 l0 a1).f2), .int .i64 ((rd_T117 l0 a1).f3), .int .i64 ((rd_T117 l0 a1).f4), .int .i64 ((rd_T117 l0 a1).f5)]) ?_ 4 _ rfl; (with_reducible repeat (first | refine qm0 ?_ _ | refine qp0 ?_ | refine qn0 ?_ _)); refine qx0 (cs := #[.string ((rd_T117 l0 a1).f0), .string ((rd_T117 l0 a1).f1), .string ((rd_T117 l0 a1).f2), .int .i64 ((rd_T117 l0 a1).f3), .int .i64 ((rd_T117 l0 a1).f4), .int .i64 ((rd_T117 l0 a1).f5)]) ?_ 1 _ rfl; (with_reducible repeat (first | refine qm0 ?_ _ | refine qp0 ?_ | refine qn0 ?_ _)); refine qx0 (cs := #[.string ((rd_T117 l0 a1).f0), .string ((rd_T117 l0 a1).f1), .string ((rd_T117 l0 a1).f2), .int .i64 ((rd_T117 l0 a1).f3), .int .i64 ((rd_T117 l0 a1).f4), .int .i64 0]) ?_ 5 _ rfl; (with_reducible repeat (first | refine qm0 ?_ _ | refine qp0 ?_ | refine qn0 ?_ _)); refine qx0 (cs := #[.string ((rd_T117 l0 a1).f0), .string ((rd_T117 l0 a1).f1), .string ((rd_T117 l0 a1).f2), .int .i64 ((rd_T117 l0 a1).f3), .int .i64 0, .int .i64 0]) ?_ 4 _ rfl; (with_reducible repeat (first | refine qm0 ?_ _ | refine qp0 ?_ | refine qn0 ?_ _)); refine qx0 (cs := #[.string ((rd_T117 l0 a1).f0), .string ((rd_T117 l0 a1).f1), .string ((rd_T117 l0 a1).f2), .int .i64 0, .int .i64 0, .int .i64 0]) ?_ 3 _ rfl; (with_reducible repeat (first | refine qm0 ?_ _ | refine qp0 ?_ | refine qn0 ?_ _)); refine qx0 (cs := #[.string ((rd_T117 l0 a1).f0), .string ((rd_T117 l0 a1).f1), .string (⟨#[]⟩ : ByteArray), .int .i64 0, .int .i64 0, .int .i64 0]) ?_ 2 _ rfl; (with_reducible repeat (first | refine qm0 ?_ _ | refine qp0 ?_ | refine qn0 ?_ _)); refine qx0 (cs := #[.string ((rd_T117 l0 a1).f0), .string (⟨#[]⟩ : ByteArray), .string (⟨#[]⟩ : ByteArray), .int .i64 0, .int .i64 0, .int .i64 0]) ?_ 1 _ rfl; (with_reducible repeat (first | refine qm0 ?_ _ | refine qp0 ?_ | refine qn0 ?_ _)); refine qx0 (cs := #[.string (⟨#[]⟩ : ByteArray), .string (⟨#[]⟩ : ByteArray), .string (⟨#[]⟩ : ByteArray), .int .i64 0, .int .i64 0, .int .i64 0]) ?_ 0 _ rfl; (with_reducible repeat (first | refine qm0 ?_ _ | refine qp0 ?_ | refine qn0 ?_ _)); exact BK417.out⟩
     have n1_ : Aside0 (Below w.heap.size w (((((((((w32.setCell ⟨gb417, 0, none⟩ (.string ((rd_T117 l0 a1).f0))).setCell ⟨gb417, 1, none⟩ (.string ((rd_T117 l0 a1).f1))).setCell ⟨gb417, 2, none⟩ (.string ((rd_T117 l0 a1).f2))).setCell ⟨gb417, 3, none⟩ (.int .i64 ((rd_T117 l0 a1).f3))).setCell ⟨gb417, 4, none⟩ (.int .i64 ((rd_T117 l0 a1).f4))).setCell ⟨gb417, 5, none⟩ (.int .i64 ((rd_T117 l0 a1).f5))).setCell ⟨gb417, 1, none⟩ (.string a2)).setCell ⟨gb417, 4, none⟩ (.int .i64 a3)).setCell ⟨gb417, 5, none⟩ (.int .i64 0))) := ⟨by repeat (first | (with_reducible first | exact HB.out | apply qc0 | apply qa0 | apply qb0 | refine qg0 ?_ GE417.out) | exact HB.out)⟩
     (try clear BK417)
     (try clear HB)
     generalize (((((((((w32.setCell ⟨gb417, 0, none⟩ (.string ((rd_T117 l0 a1).f0))).setCell ⟨gb417, 1, none⟩ (.string ((rd_T117 l0 a1).f1))).setCell ⟨gb417, 2, none⟩ (.string ((rd_T117 l0 a1).f2))).setCell ⟨gb417, 3, none⟩ (.int .i64 ((rd_T117 l0 a1).f3))).setCell ⟨gb417, 4, none⟩ (.int .i64 ((rd_T117 l0 a1).f4))).setCell ⟨gb417, 5, none⟩ (.int .i64 ((rd_T117 l0 a1).f5))).setCell ⟨gb417, 1, none⟩ (.string a2)).setCell ⟨gb417, 4, none⟩ (.int .i64 a3)).setCell ⟨gb417, 5, none⟩ (.int .i64 0)) = w34 at n0_ n1_ ⊢
     have BK417 := n0_
     have HB := n1_
     clear n0_ n1_
     have n0_ := Aside0.mk (qp0 BK417.out)
     have n1_ := Aside0.mk (qb0 HB.out)
     clear BK417
     clear HB
     have BK417 := n0_
     have HB := n1_
     clear n0_ n1_
     refine start_ (n := 9) (S := fun w' => w'.cell? ⟨gb417, 0, none⟩ = some (.string ((rd_T117 l0 a1).f0)) ∧ w'.cell? ⟨gb417, 1, none⟩ = some (.string a2) ∧ w'.cell? ⟨gb417, 2, none⟩ = some (.string ((rd_T117 l0 a1).f2)) ∧ w'.cell? ⟨gb417, 3, none⟩ = some (.int .i64 ((rd_T117 l0 a1).f3)) ∧ w'.cell? ⟨gb417, 4, none⟩ = some (.int .i64 a3) ∧ w'.cell? ⟨gb417, 5, none⟩ = some (.int .i64 0)) (ds := []) #[false, false, false, false, false, false, false, false, false] (by kernel_rfl) rfl rfl ⟨(qe0 BK417.out 0).trans rfl, (qe0 BK417.out 1).trans rfl, (qe0 BK417.out 2).trans rfl, (qe0 BK417.out 3).trans rfl, (qe0 BK417.out 4).trans rfl, (qe0 BK417.out 5).trans rfl⟩ (fun hHeld => ?_); refine with_tabW spec_Move.tab11 spec_Move.bits11 (fun HT_ HW_ => ?_)
     generalize w34.drew = w35 at BK417 HB hHeld ⊢
     refine pure_ (i := 0) (N := some 69) (v := ?_) (a' := ?_) #[true, false, false, false, false, false, false, false, false] rfl rfl (qa1 HT_.out (by kernel_rfl)) (fun _ _ _ h => h) (Or.inl ⟨by rfl, ?_⟩) ?_ ?_
     rotate_left
     ·intro w'
      go_simp
      with_reducible rfl
     rotate_left
     ·simp only [Act.put, List.setIfInBounds_toArray, List.set_cons_zero, List.set_cons_succ, i64_w, i32_w]
      rfl
     refine take_ (i := 2) (N := some 71) (v := ?_) (a' := ?_) #[true, false, true, false, false, false, false, false, false] rfl rfl (qo1 HT_.out HW_.out (by kernel_rfl)) (fun _ _ _ h => h) (Or.inl ⟨by rfl, ?_⟩) hHeld ?_ ?_
     rotate_left
     ·rintro w' ⟨s0, s1, s2, s3, s4, s5⟩
      go_simp
      with_reducible rfl
     rotate_left
     ·simp only [Act.put, List.setIfInBounds_toArray, List.set_cons_zero, List.set_cons_succ, i64_w, i32_w]
      rfl
     refine one_ (i := 1) (N := some 70) #[true, true, true, false, false, false, false, false, false] rfl rfl (one_of HT_.out (by kernel_rfl)) (by decide) (fun K hK => ?_)
     refine goes_ Try.func159 (by kernel_rfl) rfl #[.slice (some ad411) l0.length c0] (by rfl) rfl rfl (by (try simp only [List.map_toArray, List.map_cons, List.map_nil]); first | done | rfl | (simp only [List.length_drop, List.length_take]; rfl)) ?_
     with_reducible refine (spec_l15Copy.calls _ _ l0 t418 _ ?side1 ?side2 A26.out).mono ?_
     (case side1 => repeat (first | exact (Kd.qp1 HR0.out HB.out) | (with_reducible refine Kd.qu0 ?_ _) | (with_reducible refine Kd.qt0 ?_ _) | (with_reducible refine Kd.qy0 ?_)))
     (case side2 => exact HC0.out)
     rintro e w36 ⟨v419, rfl, ho0, hb⟩
     refine ⟨_, rfl, ?_⟩
     have n0_ := Aside0.mk (Kd.qb1 (Kd.R_newB ho0 (g := gb417) (o := .cells #[.string ((rd_T117 l0 a1).f0), .string a2, .string ((rd_T117 l0 a1).f2), .int .i64 ((rd_T117 l0 a1).f3), .int .i64 a3, .int .i64 0] 117 (0, 0)) (by (with_reducible repeat (first | refine qm0 ?_ _ | refine qp0 ?_ | refine qn0 ?_ _)); exact BK417.out)) (ql0 (by repeat (first | (with_reducible first | exact HB.out | apply qc0 | apply qa0 | apply qb0 | refine qg0 ?_ GE417.out) | exact HB.out))))
     have n1_ := Aside0.mk (ql1 (g := gb417) (o := .cells #[.string ((rd_T117 l0 a1).f0), .string a2, .string ((rd_T117 l0 a1).f2), .int .i64 ((rd_T117 l0 a1).f3), .int .i64 a3, .int .i64 0] 117 (0, 0)) (by (with_reducible repeat (first | refine qm0 ?_ _ | refine qp0 ?_ | refine qn0 ?_ _)); exact BK417.out) hb)
     have n2_ := Aside0.mk (qk0 (by repeat (first | (with_reducible first | exact HB.out | apply qc0 | apply qa0 | apply qb0 | refine qg0 ?_ GE417.out) | exact HB.out)) hb)
     clear BK417
     clear HB
     have HO420 := n0_
     have BK417 := n1_
     have HB := n2_
     clear n0_ n1_ n2_
     (try clear hb)
     (try clear hb2)
     (try clear hk)
     (try clear hi)
     (try clear ho0)
     obtain ⟨Ao37, co37, eo37⟩ := Kd.qe1 HO420.out
     (first | subst eo37 | (injection eo37 with f1_ f2_ f3_; have f4_ := f1_.symm; have f5_ := f3_.symm; clear f1_ f2_ f3_; subst f4_; subst f5_))
     refine hK.out _ _ ⟨(qe0 BK417.out 0).trans rfl, (qe0 BK417.out 1).trans rfl, (qe0 BK417.out 2).trans rfl, (qe0 BK417.out 3).trans rfl, (qe0 BK417.out 4).trans rfl, (qe0 BK417.out 5).trans rfl⟩ (fun hHeld => ?_)
     clear hK K
     refine norm_ (a' := ?_) ?_ ?_
     rotate_left
     ·show Act.put _ (some 70) _ = _
      simp only [Act.put, List.setIfInBounds_toArray, List.set_cons_zero, List.set_cons_succ, i64_w, i32_w]
      rfl
     refine one_ (i := 3) (N := some 72) #[true, true, true, true, false, false, false, false, false] rfl rfl (one_of HT_.out (by kernel_rfl)) (by decide) (fun K hK => ?_)
     refine goes_ Try.func160 (by kernel_rfl) rfl #[.slice Ao37 t418.length co37, .agg #[.string ((rd_T117 l0 a1).f0), .string a2, .string ((rd_T117 l0 a1).f2), .int .i64 ((rd_T117 l0 a1).f3), .int .i64 a3, .int .i64 0]] (by rfl) rfl rfl (by (try simp only [List.map_toArray, List.map_cons, List.map_nil]); first | done | rfl | (simp only [List.length_drop, List.length_take]; rfl)) ?_
     with_reducible refine (spec_l15Add.calls kj6 (fun k_ => some k_ = (.slice Ao37 t418.length co37 : Value).ownBlock) (.slice Ao37 t418.length co37) t418 ((rd_T117 l0 a1).f0) a2 ((rd_T117 l0 a1).f2) ((rd_T117 l0 a1).f3) a3 0 t421 true w _ ?side1 ?side2 A27.out).mono ?_
     (case side1 => repeat (first | (with_reducible first | exact HB.out | apply qc0 | apply qa0 | apply qb0 | refine qg0 ?_ GE417.out) | exact HB.out))
     (case side2 => exact Kd.R_tight rfl HO420.out)
     rintro e w38 ⟨v422, rfl, ho0, hb, hkp⟩
     refine ⟨_, rfl, ?_⟩
     have n0_ := Aside0.mk (blk_kept (by (with_reducible repeat (first | refine qm0 ?_ _ | refine qp0 ?_ | refine qn0 ?_ _)); exact BK417.out) hkp (fun hs_ => (fun e_ => (Kd.R_away HO420.out (fun _ hk => hk.2)) e_) hs_))
     have n1_ := Aside0.mk (Kd.qv0 (ok' := fun k_ => k_ ≠ gb417) ho0 (fun k_ hk_ => Or.elim hk_ (fun hs_ => fun e_ => (Kd.R_away HO420.out (fun _ hk => hk.2)) (by rw [← e_]; exact hs_)) (fun hn_ => (Kd.freshB (g := gb417) (o := .cells #[.string ((rd_T117 l0 a1).f0), .string a2, .string ((rd_T117 l0 a1).f2), .int .i64 ((rd_T117 l0 a1).f3), .int .i64 a3, .int .i64 0] 117 (0, 0)) (by (with_reducible repeat (first | refine qm0 ?_ _ | refine qp0 ?_ | refine qn0 ?_ _)); exact BK417.out) k_ hn_))))
     have n2_ := Aside0.mk (hb)
     clear BK417
     clear HB
     clear HO420
     have BK417 := n0_
     have HO423 := n1_
     have HB := n2_
     clear n0_ n1_ n2_
     (try clear hb)
     (try clear hkp)
     (try clear ho0)
     refine hK.out _ _ ⟨(qe0 BK417.out 0).trans rfl, (qe0 BK417.out 1).trans rfl, (qe0 BK417.out 2).trans rfl, (qe0 BK417.out 3).trans rfl, (qe0 BK417.out 4).trans rfl, (qe0 BK417.out 5).trans rfl⟩ (fun hHeld => ?_)
     clear hK K
     refine norm_ (a' := ?_) ?_ ?_
     rotate_left
     ·show Act.put _ (some 72) _ = _
      simp only [Act.put, List.setIfInBounds_toArray, List.set_cons_zero, List.set_cons_succ, i64_w, i32_w]
      rfl
     refine pure_ (i := 4) (N := some 68) (v := ?_) (a' := ?_) #[true, true, true, true, true, false, false, false, false] rfl rfl (qa1 HT_.out (by kernel_rfl)) (fun _ _ _ h => h) (Or.inl ⟨by rfl, ?_⟩) ?_ ?_
     rotate_left
     ·intro w'
      go_simp
      with_reducible rfl
     rotate_left
     ·simp only [Act.put, List.setIfInBounds_toArray, List.set_cons_zero, List.set_cons_succ, i64_w, i32_w]
      rfl
     refine pure_ (i := 5) (N := some 73) (v := ?_) (a' := ?_) #[true, true, true, true, true, true, false, false, false] rfl rfl (qa1 HT_.out (by kernel_rfl)) (fun _ _ _ h => h) (Or.inl ⟨by rfl, ?_⟩) ?_ ?_
     rotate_left
     ·intro w'
      go_simp
      with_reducible rfl
     rotate_left
     ·simp only [Act.put, List.setIfInBounds_toArray, List.set_cons_zero, List.set_cons_succ, i64_w, i32_w]
      rfl
     refine pure_ (i := 6) (N := some 74) (v := ?_) (a' := ?_) #[true, true, true, true, true, true, true, false, false] rfl rfl (qa1 HT_.out (by kernel_rfl)) (fun _ _ _ h => h) (Or.inl ⟨by rfl, ?_⟩) ?_ ?_
     rotate_left
     ·intro w'
      go_simp
      with_reducible rfl
     rotate_left
     ·simp only [Act.put, List.setIfInBounds_toArray, List.set_cons_zero, List.set_cons_succ, i64_w, i32_w]
      rfl
     refine pure_ (i := 7) (N := some 11) (v := ?_) (a' := ?_) #[true, true, true, true, true, true, true, true, false] rfl rfl (qa1 HT_.out (by kernel_rfl)) (fun _ _ _ h => h) (Or.inl ⟨by rfl, ?_⟩) ?_ ?_
     rotate_left
     ·intro w'
      go_simp
      with_reducible rfl
     rotate_left
     ·simp only [Act.put, List.setIfInBounds_toArray, List.set_cons_zero, List.set_cons_succ, i64_w, i32_w]
      rfl
     refine pure_ (i := 8) (N := some 12) (v := ?_) (a' := ?_) #[true, true, true, true, true, true, true, true, true] rfl rfl (qa1 HT_.out (by kernel_rfl)) (fun _ _ _ h => h) (Or.inl ⟨by rfl, ?_⟩) ?_ ?_
     rotate_left
     ·intro w'
      go_simp
      with_reducible rfl
     rotate_left
     ·simp only [Act.put, List.setIfInBounds_toArray, List.set_cons_zero, List.set_cons_succ, i64_w, i32_w]
      rfl
     refine done_ (done_of HT_.out (by kernel_rfl)) ?_
     obtain ⟨Ao39, co39, eo39⟩ := Kd.qe1 HO423.out
     subst eo39
     have p425 : 0 ≤ (a1 : Int) := of_decide_eq_true (by first | (with_reducible assumption) | assumption)
     have q425 : a1 < (t421.length : Int) := of_decide_eq_true (by first | (with_reducible assumption) | assumption)
     obtain ⟨ad425, e425, hx425_0, hx425_1, hx425_2, hx425_3, hx425_4, hx425_5⟩ := at_T117 (Kd.qf0 HO423.out).2.2 a1 p425 q425
     cases e425
     replace p425 := eq_true p425
     replace q425 := eq_true q425
     have p30 : 0 ≤ (a1 : Int) := of_decide_eq_true (by first | (with_reducible assumption) | assumption)
     have q30 : (a1 : Int) < ((t421.length : Int) : Int) := of_decide_eq_true (by first | (with_reducible assumption) | assumption)
     obtain ⟨go30, co30, eo30, gb30, gl30, cl30, HG30⟩ := Kd.R_form HO423.out (by omega)
     (first | cases eo30 | (injection eo30 with ea_ en_ ec_; (first | subst ea_ | (injection ea_ with ea_; subst ea_)); subst ec_; clear en_))
     have GB30 := Aside0.mk gb30
     have GG30 := Aside0.mk HG30
     clear gb30 gl30 HG30
     (first | simp only [add_plain] at hx425_0 | skip)
     (first | simp only [add_plain] at hx425_1 | skip)
     (first | simp only [add_plain] at hx425_2 | skip)
     (first | simp only [add_plain] at hx425_3 | skip)
     (first | simp only [add_plain] at hx425_4 | skip)
     (first | simp only [add_plain] at hx425_5 | skip)
     obtain ⟨ce30, hcl30, hM30, hcc30, hfr30⟩ := Kd.qt1 HO423.out z117 (a1 : Int) p30 q30
     obtain rfl := k117_openM hM30
     have hx30_0 : w38.cell? ⟨go30, (a1 : Int).toNat * 6, none⟩ = some (.string ((rd_T117 t421 a1).f0)) := hcc30 0 _ rfl
     have hx30_1 : w38.cell? ⟨go30, (a1 : Int).toNat * 6 + 1, none⟩ = some (.string ((rd_T117 t421 a1).f1)) := hcc30 1 _ rfl
     have hx30_2 : w38.cell? ⟨go30, (a1 : Int).toNat * 6 + 2, none⟩ = some (.string ((rd_T117 t421 a1).f2)) := hcc30 2 _ rfl
     have hx30_3 : w38.cell? ⟨go30, (a1 : Int).toNat * 6 + 3, none⟩ = some (.int .i64 ((rd_T117 t421 a1).f3)) := hcc30 3 _ rfl
     have hx30_4 : w38.cell? ⟨go30, (a1 : Int).toNat * 6 + 4, none⟩ = some (.int .i64 ((rd_T117 t421 a1).f4)) := hcc30 4 _ rfl
     have hx30_5 : w38.cell? ⟨go30, (a1 : Int).toNat * 6 + 5, none⟩ = some (.int .i64 ((rd_T117 t421 a1).f5)) := hcc30 5 _ rfl
     have hf30_0 : w38.frozen? ⟨go30, (a1 : Int).toNat * 6, none⟩ = false := hfr30 0
     have hf30_1 : w38.frozen? ⟨go30, (a1 : Int).toNat * 6 + 1, none⟩ = false := hfr30 1
     have hf30_2 : w38.frozen? ⟨go30, (a1 : Int).toNat * 6 + 2, none⟩ = false := hfr30 2
     have hf30_3 : w38.frozen? ⟨go30, (a1 : Int).toNat * 6 + 3, none⟩ = false := hfr30 3
     have hf30_4 : w38.frozen? ⟨go30, (a1 : Int).toNat * 6 + 4, none⟩ = false := hfr30 4
     have hf30_5 : w38.frozen? ⟨go30, (a1 : Int).toNat * 6 + 5, none⟩ = false := hfr30 5
     clear hcl30 hcc30 hfr30 hM30
     replace p30 := eq_true p30
     replace q30 := eq_true q30
     have HX40 := Aside0.mk (show Kd.R k117 117 w38 w.heap.size (fun k_ => k_ ≠ gb417) (.slice (some ⟨go30, 0, none⟩) t421.length co39) t421 from (by (with_reducible repeat (first | apply Kd.qi0 | apply Kd.qh0 | apply Kd.qj0)); exact HO423.out))
     obtain ⟨ce40, hcl40, hM40, hcc40, hfr40⟩ := Kd.qt1 HX40.out z117 (a1 : Int) (of_decide_eq_true (by first | (with_reducible assumption) | assumption)) (by have h_ : (a1 : Int) < ((t421.length : Int) : Int) := of_decide_eq_true (by first | (with_reducible assumption) | assumption); first | exact h_ | (have e_ := (Kd.qf0 HO423.out).1; omega) | simpa using h_)
     obtain rfl := k117_openM hM40
     have HP40 := Kd.R_seg HX40.out (a1 : Int) (of_decide_eq_true (by first | (with_reducible assumption) | assumption)) (by have h_ : (a1 : Int) < ((t421.length : Int) : Int) := of_decide_eq_true (by first | (with_reducible assumption) | assumption); first | exact h_ | (have e_ := (Kd.qf0 HO423.out).1; omega) | simpa using h_) (seg := [.int .i64 (wrap64 (((rd_T117 t421 a1).f4) - a3))]) (j := 4) hcl40 hcc40 (show 5 ≤ 6 from by decide) (x' := (⟨(rd_T117 t421 a1).f0, (rd_T117 t421 a1).f1, (rd_T117 t421 a1).f2, (rd_T117 t421 a1).f3, wrap64 (((rd_T117 t421 a1).f4) - a3), (rd_T117 t421 a1).f5⟩ : S117)) (k117_mkM _ _ _ (⟨(rd_T117 t421 a1).f0, (rd_T117 t421 a1).f1, (rd_T117 t421 a1).f2, (rd_T117 t421 a1).f3, wrap64 (((rd_T117 t421 a1).f4) - a3), (rd_T117 t421 a1).f5⟩ : S117) ) (fun _ hk => hk)
     have hx40_4 := hcc40 4 _ rfl
     (try simp only [show (k117).sz = 6 from rfl, Nat.mul_one, Nat.add_zero] at hx40_4)
     have hf40_4 := hfr40 4
     (try simp only [show (k117).sz = 6 from rfl, Nat.mul_one, Nat.add_zero] at hf40_4)
     clear hcl40 hcc40 hfr40 hM40
     try go_wp2_with (first | ((with_reducible refine gate_store (t := 3) (p := 89) rfl ?_); refine store_event (t := 3) (p := 89) (v := ?vo_w41) (w1 := (w38.setCell ⟨go30, (a1 : Int).toNat * 6 + 4, none⟩ (.int .i64 (wrap64 (((rd_T117 t421 a1).f4) - a3))))) ?hg ?ho ?hn ?hr ?_; (case ho => rfl); (case hg => rfl); (case hn => rfl); (case hr => first | (go_simp; done) | (go_simp; rfl)); intro w41 hw; have hg : w38.grownBy w41 (some go30) := (by rw [hw]; exact HP40.2); have hp_ : Kd.R k117 117 w41 w.heap.size (fun k_ => k_ ≠ gb417) (.slice (some ⟨go30, 0, none⟩) t421.length co39) y426 := (by rw [hw, Ny426.out]; exact HP40.1); clear HP40; have n0_ := Aside0.mk (blk_grown (g := gb417) (o := .cells #[.string ((rd_T117 l0 a1).f0), .string a2, .string ((rd_T117 l0 a1).f2), .int .i64 ((rd_T117 l0 a1).f3), .int .i64 a3, .int .i64 0] 117 (0, 0)) (by (with_reducible repeat (first | refine qm0 ?_ _ | refine qp0 ?_ | refine qn0 ?_ _)); exact BK417.out) hg (Kd.R_away HO423.out (fun _ hk => hk))); have n1_ := Aside0.mk (hp_); have n2_ := Aside0.mk ((by rw [hw]; exact qg0 (HB.out) GB30.out : Below w.heap.size w w41)); clear BK417; clear HO423; clear HB; have BK417 := n0_; have HO423 := n1_; have HB := n2_; clear n0_ n1_ n2_; clear hg hw hp_))
     go_ret2
     exact ⟨_, by first | rfl | (simp [errW_none, errW_some] <;> rfl) | (simp [*, errW_none, errW_some] <;> rfl), by (with_reducible repeat (first | apply Kd.qi0 | apply Kd.qh0 | apply Kd.qj0)); exact Kd.qv0 HO423.out (fun _ hk => trivial), by repeat (first | (with_reducible first | exact HB.out | apply qc0 | apply qa0 | apply qb0 | refine qg0 ?_ GE417.out) | exact HB.out)⟩
    replace c28 := Bool.eq_false_iff.mpr c28
    subst c28
    have H1 : ((spec_l15Copy.f l0).bind fun t427 => (some (t427, 4))) = some (r1, r2) := by rw [if_neg (show ¬ (false = true) by decide)] at H; exact H
    clear H
    have H := H1
    clear H1
    replace H := Option.bind_eq_some_iff.mp H
    obtain ⟨t427, A420, H⟩ := H
    replace H : (some (t427, 4)) = some (r1, r2) := H
    have A42 := Aside0.mk A420
    clear A420
    simp only [Option.some.injEq, Prod.mk.injEq] at H
    obtain ⟨rfl, rfl⟩ := H
    try go_wp2
    have n0_ := Aside0.mk (qb0 HB.out)
    clear HB
    have HB := n0_
    clear n0_
    have p411 : 0 ≤ (a1 : Int) := of_decide_eq_true (by first | (with_reducible assumption) | assumption)
    have q411 : a1 < (l0.length : Int) := of_decide_eq_true (by first | (with_reducible assumption) | assumption)
    obtain ⟨ad411, e411, hx411_0, hx411_1, hx411_2, hx411_3, hx411_4, hx411_5⟩ := at_T117 HR0.out a1 p411 q411
    have hw411_5 := hx411_5
    have hw411_4 := hx411_4
    have hw411_3 := hx411_3
    have hw411_2 := hx411_2
    have hw411_1 := hx411_1
    have hw411_0 := hx411_0
    cases e411
    replace hx411_0 := (HB.out.cell (World.block_lt_of_cell? w _ hx411_0)).trans hx411_0
    replace hx411_1 := (HB.out.cell (World.block_lt_of_cell? w _ hx411_1)).trans hx411_1
    replace hx411_2 := (HB.out.cell (World.block_lt_of_cell? w _ hx411_2)).trans hx411_2
    replace hx411_3 := (HB.out.cell (World.block_lt_of_cell? w _ hx411_3)).trans hx411_3
    replace hx411_4 := (HB.out.cell (World.block_lt_of_cell? w _ hx411_4)).trans hx411_4
    replace hx411_5 := (HB.out.cell (World.block_lt_of_cell? w _ hx411_5)).trans hx411_5
    replace p411 := eq_true p411
    replace q411 := eq_true q411
    have p412 : 0 ≤ (a1 : Int) := of_decide_eq_true (by first | (with_reducible assumption) | assumption)
    have q412 : a1 < (l0.length : Int) := of_decide_eq_true (by first | (with_reducible assumption) | assumption)
    obtain ⟨ad412, e412, hx412_0, hx412_1, hx412_2, hx412_3, hx412_4, hx412_5⟩ := at_T117 HR0.out a1 p412 q412
    have hw412_5 := hx412_5
    have hw412_4 := hx412_4
    have hw412_3 := hx412_3
    have hw412_2 := hx412_2
    have hw412_1 := hx412_1
    have hw412_0 := hx412_0
    obtain rfl : ad411 = ad412 := (by injection e412)
    replace hx412_0 := (HB.out.cell (World.block_lt_of_cell? w _ hx412_0)).trans hx412_0
    replace hx412_1 := (HB.out.cell (World.block_lt_of_cell? w _ hx412_1)).trans hx412_1
    replace hx412_2 := (HB.out.cell (World.block_lt_of_cell? w _ hx412_2)).trans hx412_2
    replace hx412_3 := (HB.out.cell (World.block_lt_of_cell? w _ hx412_3)).trans hx412_3
    replace hx412_4 := (HB.out.cell (World.block_lt_of_cell? w _ hx412_4)).trans hx412_4
    replace hx412_5 := (HB.out.cell (World.block_lt_of_cell? w _ hx412_5)).trans hx412_5
    replace p412 := eq_true p412
    replace q412 := eq_true q412
    refine start_ (n := 13) (S := fun w' => w'.cell? (ad411.add ((a1).toNat * 6)) = some (.string ((rd_T117 l0 a1).f0)) ∧ w'.cell? ⟨(ad411.add ((a1).toNat * 6)).block, (ad411.add ((a1).toNat * 6)).off + 1, none⟩ = some (.string ((rd_T117 l0 a1).f1)) ∧ w'.cell? ⟨(ad411.add ((a1).toNat * 6)).block, (ad411.add ((a1).toNat * 6)).off + 2, none⟩ = some (.string ((rd_T117 l0 a1).f2)) ∧ w'.cell? ⟨(ad411.add ((a1).toNat * 6)).block, (ad411.add ((a1).toNat * 6)).off + 3, none⟩ = some (.int .i64 ((rd_T117 l0 a1).f3)) ∧ w'.cell? ⟨(ad411.add ((a1).toNat * 6)).block, (ad411.add ((a1).toNat * 6)).off + 4, none⟩ = some (.int .i64 ((rd_T117 l0 a1).f4)) ∧ w'.cell? ⟨(ad411.add ((a1).toNat * 6)).block, (ad411.add ((a1).toNat * 6)).off + 5, none⟩ = some (.int .i64 ((rd_T117 l0 a1).f5)) ∧ w'.cell? (ad411.add ((a1).toNat * 6)) = some (.string ((rd_T117 l0 a1).f0)) ∧ w'.cell? ⟨(ad411.add ((a1).toNat * 6)).block, (ad411.add ((a1).toNat * 6)).off + 1, none⟩ = some (.string ((rd_T117 l0 a1).f1)) ∧ w'.cell? ⟨(ad411.add ((a1).toNat * 6)).block, (ad411.add ((a1).toNat * 6)).off + 2, none⟩ = some (.string ((rd_T117 l0 a1).f2)) ∧ w'.cell? ⟨(ad411.add ((a1).toNat * 6)).block, (ad411.add ((a1).toNat * 6)).off + 3, none⟩ = some (.int .i64 ((rd_T117 l0 a1).f3)) ∧ w'.cell? ⟨(ad411.add ((a1).toNat * 6)).block, (ad411.add ((a1).toNat * 6)).off + 4, none⟩ = some (.int .i64 ((rd_T117 l0 a1).f4)) ∧ w'.cell? ⟨(ad411.add ((a1).toNat * 6)).block, (ad411.add ((a1).toNat * 6)).off + 5, none⟩ = some (.int .i64 ((rd_T117 l0 a1).f5))) (ds := []) #[false, false, false, false, false, false, false, false, false, false, false, false, false] (by kernel_rfl) rfl rfl ⟨((HB.out.cell (World.block_lt_of_cell? w _ hw411_0)).trans hw411_0), ((HB.out.cell (World.block_lt_of_cell? w _ hw411_1)).trans hw411_1), ((HB.out.cell (World.block_lt_of_cell? w _ hw411_2)).trans hw411_2), ((HB.out.cell (World.block_lt_of_cell? w _ hw411_3)).trans hw411_3), ((HB.out.cell (World.block_lt_of_cell? w _ hw411_4)).trans hw411_4), ((HB.out.cell (World.block_lt_of_cell? w _ hw411_5)).trans hw411_5), ((HB.out.cell (World.block_lt_of_cell? w _ hw412_0)).trans hw412_0), ((HB.out.cell (World.block_lt_of_cell? w _ hw412_1)).trans hw412_1), ((HB.out.cell (World.block_lt_of_cell? w _ hw412_2)).trans hw412_2), ((HB.out.cell (World.block_lt_of_cell? w _ hw412_3)).trans hw412_3), ((HB.out.cell (World.block_lt_of_cell? w _ hw412_4)).trans hw412_4), ((HB.out.cell (World.block_lt_of_cell? w _ hw412_5)).trans hw412_5)⟩ (fun hHeld => ?_); refine with_tabW spec_Move.tab5 spec_Move.bits5 (fun HT_ HW_ => ?_)
    generalize wc.drew = w43 at HB hx411_0 hx411_1 hx411_2 hx411_3 hx411_4 hx411_5 hx412_0 hx412_1 hx412_2 hx412_3 hx412_4 hx412_5 hHeld ⊢
    refine pure_ (i := 0) (N := some 44) (v := ?_) (a' := ?_) #[true, false, false, false, false, false, false, false, false, false, false, false, false] rfl rfl (qa1 HT_.out (by kernel_rfl)) (fun _ _ _ h => h) (Or.inl ⟨by rfl, ?_⟩) ?_ ?_
    rotate_left
    ·intro w'
     go_simp
     with_reducible rfl
    rotate_left
    ·simp only [Act.put, List.setIfInBounds_toArray, List.set_cons_zero, List.set_cons_succ, i64_w, i32_w]
     rfl
    refine pure_ (i := 1) (N := some 45) (v := ?_) (a' := ?_) #[true, true, false, false, false, false, false, false, false, false, false, false, false] rfl rfl (qa1 HT_.out (by kernel_rfl)) (fun _ _ _ h => h) (Or.inl ⟨by rfl, ?_⟩) ?_ ?_
    rotate_left
    ·intro w'
     go_simp
     with_reducible rfl
    rotate_left
    ·simp only [Act.put, List.setIfInBounds_toArray, List.set_cons_zero, List.set_cons_succ, i64_w, i32_w]
     rfl
    refine pure_ (i := 2) (N := some 46) (v := ?_) (a' := ?_) #[true, true, true, false, false, false, false, false, false, false, false, false, false] rfl rfl (qa1 HT_.out (by kernel_rfl)) (fun _ _ _ h => h) (Or.inl ⟨by rfl, ?_⟩) ?_ ?_
    rotate_left
    ·intro w'
     go_simp
     with_reducible rfl
    rotate_left
    ·simp only [Act.put, List.setIfInBounds_toArray, List.set_cons_zero, List.set_cons_succ, i64_w, i32_w]
     rfl
    refine pure_ (i := 3) (N := some 47) (v := ?_) (a' := ?_) #[true, true, true, true, false, false, false, false, false, false, false, false, false] rfl rfl (qa1 HT_.out (by kernel_rfl)) (fun _ _ _ h => h) (Or.inl ⟨by rfl, ?_⟩) ?_ ?_
    rotate_left
    ·intro w'
     go_simp
     with_reducible rfl
    rotate_left
    ·simp only [Act.put, List.setIfInBounds_toArray, List.set_cons_zero, List.set_cons_succ, i64_w, i32_w]
     rfl
    refine pure_ (i := 5) (N := some 49) (v := ?_) (a' := ?_) #[true, true, true, true, false, true, false, false, false, false, false, false, false] rfl rfl (qa1 HT_.out (by kernel_rfl)) (fun _ _ _ h => h) (Or.inl ⟨by rfl, ?_⟩) ?_ ?_
    rotate_left
    ·intro w'
     go_simp
     with_reducible rfl
    rotate_left
    ·simp only [Act.put, List.setIfInBounds_toArray, List.set_cons_zero, List.set_cons_succ, i64_w, i32_w]
     rfl
    refine pure_ (i := 6) (N := some 50) (v := ?_) (a' := ?_) #[true, true, true, true, false, true, true, false, false, false, false, false, false] rfl rfl (qa1 HT_.out (by kernel_rfl)) (fun _ _ _ h => h) (Or.inl ⟨by rfl, ?_⟩) ?_ ?_
    rotate_left
    ·intro w'
     go_simp
     with_reducible rfl
    rotate_left
    ·simp only [Act.put, List.setIfInBounds_toArray, List.set_cons_zero, List.set_cons_succ, i64_w, i32_w]
     rfl
    refine pure_ (i := 7) (N := some 51) (v := ?_) (a' := ?_) #[true, true, true, true, false, true, true, true, false, false, false, false, false] rfl rfl (qa1 HT_.out (by kernel_rfl)) (fun _ _ _ h => h) (Or.inl ⟨by rfl, ?_⟩) ?_ ?_
    rotate_left
    ·intro w'
     go_simp
     with_reducible rfl
    rotate_left
    ·simp only [Act.put, List.setIfInBounds_toArray, List.set_cons_zero, List.set_cons_succ, i64_w, i32_w]
     rfl
    refine pure_ (i := 8) (N := some 52) (v := ?_) (a' := ?_) #[true, true, true, true, false, true, true, true, true, false, false, false, false] rfl rfl (qa1 HT_.out (by kernel_rfl)) (fun _ _ _ h => h) (Or.inl ⟨by rfl, ?_⟩) ?_ ?_
    rotate_left
    ·intro w'
     go_simp
     with_reducible rfl
    rotate_left
    ·simp only [Act.put, List.setIfInBounds_toArray, List.set_cons_zero, List.set_cons_succ, i64_w, i32_w]
     rfl
    refine pure_ (i := 11) (N := some 55) (v := ?_) (a' := ?_) #[true, true, true, true, false, true, true, true, true, false, false, true, false] rfl rfl (qa1 HT_.out (by kernel_rfl)) (fun _ _ _ h => h) (Or.inl ⟨by rfl, ?_⟩) ?_ ?_
    rotate_left
    ·intro w'
     go_simp
     with_reducible rfl
    rotate_left
    ·simp only [Act.put, List.setIfInBounds_toArray, List.set_cons_zero, List.set_cons_succ, i64_w, i32_w]
     rfl
    refine take_ (i := 4) (N := some 48) (v := ?_) (a' := ?_) #[true, true, true, true, true, true, true, true, true, false, false, true, false] rfl rfl (qo1 HT_.out HW_.out (by kernel_rfl)) (fun _ _ _ h => h) (Or.inl ⟨by rfl, ?_⟩) hHeld ?_ ?_
    rotate_left
    ·rintro w' ⟨s0, s1, s2, s3, s4, s5, s6, s7, s8, s9, s10, s11⟩
     go_simp
     with_reducible rfl
    rotate_left
    ·simp only [Act.put, List.setIfInBounds_toArray, List.set_cons_zero, List.set_cons_succ, i64_w, i32_w]
     rfl
    refine take_ (i := 9) (N := some 53) (v := ?_) (a' := ?_) #[true, true, true, true, true, true, true, true, true, true, false, true, false] rfl rfl (qo1 HT_.out HW_.out (by kernel_rfl)) (fun _ _ _ h => h) (Or.inl ⟨by rfl, ?_⟩) hHeld ?_ ?_
    rotate_left
    ·rintro w' ⟨s0, s1, s2, s3, s4, s5, s6, s7, s8, s9, s10, s11⟩
     go_simp
     with_reducible rfl
    rotate_left
    ·simp only [Act.put, List.setIfInBounds_toArray, List.set_cons_zero, List.set_cons_succ, i64_w, i32_w]
     rfl
    refine pure_ (i := 10) (N := some 54) (v := ?_) (a' := ?_) #[true, true, true, true, true, true, true, true, true, true, true, true, false] rfl rfl (qa1 HT_.out (by kernel_rfl)) (fun _ _ _ h => h) (Or.inl ⟨by rfl, ?_⟩) ?_ ?_
    rotate_left
    ·intro w'
     go_simp
     with_reducible rfl
    rotate_left
    ·simp only [Act.put, List.setIfInBounds_toArray, List.set_cons_zero, List.set_cons_succ, i64_w, i32_w]
     rfl
    refine pure_ (i := 12) (N := some 56) (v := ?_) (a' := ?_) #[true, true, true, true, true, true, true, true, true, true, true, true, true] rfl rfl (qa1 HT_.out (by kernel_rfl)) (fun _ _ _ h => h) (Or.inl ⟨by rfl, ?_⟩) ?_ ?_
    rotate_left
    ·intro w'
     go_simp
     with_reducible rfl
    rotate_left
    ·simp only [Act.put, List.setIfInBounds_toArray, List.set_cons_zero, List.set_cons_succ, i64_w, i32_w]
     rfl
    refine done_ (done_of HT_.out (by kernel_rfl)) ?_
    have p416 : 0 ≤ (a1 : Int) := of_decide_eq_true (by first | (with_reducible assumption) | assumption)
    have q416 : a1 < (l0.length : Int) := of_decide_eq_true (by first | (with_reducible assumption) | assumption)
    obtain ⟨ad416, e416, hx416_0, hx416_1, hx416_2, hx416_3, hx416_4, hx416_5⟩ := at_T117 HR0.out a1 p416 q416
    obtain rfl : ad411 = ad416 := (by injection e416)
    replace hx416_0 := (HB.out.cell (World.block_lt_of_cell? w _ hx416_0)).trans hx416_0
    replace hx416_1 := (HB.out.cell (World.block_lt_of_cell? w _ hx416_1)).trans hx416_1
    replace hx416_2 := (HB.out.cell (World.block_lt_of_cell? w _ hx416_2)).trans hx416_2
    replace hx416_3 := (HB.out.cell (World.block_lt_of_cell? w _ hx416_3)).trans hx416_3
    replace hx416_4 := (HB.out.cell (World.block_lt_of_cell? w _ hx416_4)).trans hx416_4
    replace hx416_5 := (HB.out.cell (World.block_lt_of_cell? w _ hx416_5)).trans hx416_5
    replace p416 := eq_true p416
    replace q416 := eq_true q416
    try go_wp2_with (first | ((with_reducible refine gate_dst (N := 10) rfl ?_); refine qh1 ?hg (N := 10) ?hd (cs := #[.string (⟨#[]⟩ : ByteArray), .string (⟨#[]⟩ : ByteArray), .string (⟨#[]⟩ : ByteArray), .int .i64 0, .int .i64 0, .int .i64 0]) (t := 117) ?hr ?_; (case hd => rfl); (case hg => rfl); (case hr => first | (go_simp; done) | (go_simp; rfl)); intro gb417 hg w44 hbox hb; have n0_ := Aside0.mk (qk0 (by repeat (first | (with_reducible first | exact HB.out | apply qc0 | apply qa0 | apply qb0) | exact HB.out)) hb); have n1_ := Aside0.mk (hbox); have n2_ := Aside0.mk ((by rw [hg]; exact (ql0 (by repeat (first | (with_reducible first | exact HB.out | apply qc0 | apply qa0 | apply qb0) | exact HB.out))) : w.heap.size ≤ gb417)); have n3_ := Aside0.mk ((by rw [hg]; exact (ql0 (by repeat (first | (with_reducible first | exact HB.out | apply qc0 | apply qa0 | apply qb0) | exact HB.out))) : w.heap.size ≤ gb417)); clear HB; have HB := n0_; have BK417 := n1_; have GW417 := n2_; have GE417 := n3_; clear n0_ n1_ n2_ n3_; clear hb hbox hg; have hcz45_0 : w44.cell? ⟨gb417, 0, none⟩ = some (.string (⟨#[]⟩ : ByteArray)) := (qe0 BK417.out 0).trans rfl; have hcz45_1 : w44.cell? ⟨gb417, 1, none⟩ = some (.string (⟨#[]⟩ : ByteArray)) := (qe0 BK417.out 1).trans rfl; have hcz45_2 : w44.cell? ⟨gb417, 2, none⟩ = some (.string (⟨#[]⟩ : ByteArray)) := (qe0 BK417.out 2).trans rfl; have hcz45_3 : w44.cell? ⟨gb417, 3, none⟩ = some (.int .i64 0) := (qe0 BK417.out 3).trans rfl; have hcz45_4 : w44.cell? ⟨gb417, 4, none⟩ = some (.int .i64 0) := (qe0 BK417.out 4).trans rfl; have hcz45_5 : w44.cell? ⟨gb417, 5, none⟩ = some (.int .i64 0) := (qe0 BK417.out 5).trans rfl; have hfz45_0 := qd0 BK417.out 0; have hfz45_1 := qd0 BK417.out 1; have hfz45_2 := qd0 BK417.out 2; have hfz45_3 := qd0 BK417.out 3; have hfz45_4 := qd0 BK417.out 4; have hfz45_5 := qd0 BK417.out 5))
    have n0_ : Aside0 ((((((((((w44.setCell ⟨gb417, 0, none⟩ (.string ((rd_T117 l0 a1).f0))).setCell ⟨gb417, 1, none⟩ (.string ((rd_T117 l0 a1).f1))).setCell ⟨gb417, 2, none⟩ (.string ((rd_T117 l0 a1).f2))).setCell ⟨gb417, 3, none⟩ (.int .i64 ((rd_T117 l0 a1).f3))).setCell ⟨gb417, 4, none⟩ (.int .i64 ((rd_T117 l0 a1).f4))).setCell ⟨gb417, 5, none⟩ (.int .i64 ((rd_T117 l0 a1).f5))).setCell ⟨gb417, 1, none⟩ (.string a2)).setCell ⟨gb417, 4, none⟩ (.int .i64 a3)).setCell ⟨gb417, 5, none⟩ (.int .i64 0)).heap[gb417]? = some (.cells #[.string ((rd_T117 l0 a1).f0), .string a2, .string ((rd_T117 l0 a1).f2), .int .i64 ((rd_T117 l0 a1).f3), .int .i64 a3, .int .i64 0] 117 (0, 0))) := ⟨by (with_reducible repeat (first | refine qm0 ?_ _ | refine qp0 ?_ | refine qn0 ?_ _)); refine qx0 (cs := #[.string ((rd_T117 l0 a1).f0), .string a2, .string ((rd_T117 l0 a1).f2), .int .i64 ((rd_T117 l0 a1).f3), .int .i64 a3, .int .i64 ((rd_T117 l0 a1).f5)]) ?_ 5 _ rfl; (with_reducible repeat (first | refine qm0 ?_ _ | refine qp0 ?_ | refine qn0 ?_ _)); refine qx0 (cs := #[.string ((rd_T117 l0 a1).f0), .string a2, .string ((rd_T117 l0 a1).f2), .int .i64 ((rd_T117 l0 a1).f3), .int .i64 ((rd_T117 l0 a1).f4), .int .i64 ((rd_T117 l0 a1).f5)]) ?_ 4 _ rfl; (with_reducible repeat (first | refine qm0 ?_ _ | refine qp0 ?_ | refine qn0 ?_ _)); refine qx0 (cs := #[.string ((rd_T117 l0 a1).f0), .string ((rd_T117 l0 a1).f1), .string ((rd_T117 l0 a1).f2), .int .i64 ((rd_T117 l0 a1).f3), .int .i64 ((rd_T117 l0 a1).f4), .int .i64 ((rd_T117 l0 a1).f5)]) ?_ 1 _ rfl; (with_reducible repeat (first | refine qm0 ?_ _ | refine qp0 ?_ | refine qn0 ?_ _)); refine qx0 (cs := #[.string ((rd_T117 l0 a1).f0), .string ((rd_T117 l0 a1).f1), .string ((rd_T117 l0 a1).f2), .int .i64 ((rd_T117 l0 a1).f3), .int .i64 ((rd_T117 l0 a1).f4), .int .i64 0]) ?_ 5 _ rfl; (with_reducible repeat (first | refine qm0 ?_ _ | refine qp0 ?_ | refine qn0 ?_ _)); refine qx0 (cs := #[.string ((rd_T117 l0 a1).f0), .string ((rd_T117 l0 a1).f1), .string ((rd_T117 l0 a1).f2), .int .i64 ((rd_T117 l0 a1).f3), .int .i64 0, .int .i64 0]) ?_ 4 _ rfl; (with_reducible repeat (first | refine qm0 ?_ _ | refine qp0 ?_ | refine qn0 ?_ _)); refine qx0 (cs := #[.string ((rd_T117 l0 a1).f0), .string ((rd_T117 l0 a1).f1), .string ((rd_T117 l0 a1).f2), .int .i64 0, .int .i64 0, .int .i64 0]) ?_ 3 _ rfl; (with_reducible repeat (first | refine qm0 ?_ _ | refine qp0 ?_ | refine qn0 ?_ _)); refine qx0 (cs := #[.string ((rd_T117 l0 a1).f0), .string ((rd_T117 l0 a1).f1), .string (⟨#[]⟩ : ByteArray), .int .i64 0, .int .i64 0, .int .i64 0]) ?_ 2 _ rfl; (with_reducible repeat (first | refine qm0 ?_ _ | refine qp0 ?_ | refine qn0 ?_ _)); refine qx0 (cs := #[.string ((rd_T117 l0 a1).f0), .string (⟨#[]⟩ : ByteArray), .string (⟨#[]⟩ : ByteArray), .int .i64 0, .int .i64 0, .int .i64 0]) ?_ 1 _ rfl; (with_reducible repeat (first | refine qm0 ?_ _ | refine qp0 ?_ | refine qn0 ?_ _)); refine qx0 (cs := #[.string (⟨#[]⟩ : ByteArray), .string (⟨#[]⟩ : ByteArray), .string (⟨#[]⟩ : ByteArray), .int .i64 0, .int .i64 0, .int .i64 0]) ?_ 0 _ rfl; (with_reducible repeat (first | refine qm0 ?_ _ | refine qp0 ?_ | refine qn0 ?_ _)); exact BK417.out⟩
    have n1_ : Aside0 (Below w.heap.size w (((((((((w44.setCell ⟨gb417, 0, none⟩ (.string ((rd_T117 l0 a1).f0))).setCell ⟨gb417, 1, none⟩ (.string ((rd_T117 l0 a1).f1))).setCell ⟨gb417, 2, none⟩ (.string ((rd_T117 l0 a1).f2))).setCell ⟨gb417, 3, none⟩ (.int .i64 ((rd_T117 l0 a1).f3))).setCell ⟨gb417, 4, none⟩ (.int .i64 ((rd_T117 l0 a1).f4))).setCell ⟨gb417, 5, none⟩ (.int .i64 ((rd_T117 l0 a1).f5))).setCell ⟨gb417, 1, none⟩ (.string a2)).setCell ⟨gb417, 4, none⟩ (.int .i64 a3)).setCell ⟨gb417, 5, none⟩ (.int .i64 0))) := ⟨by repeat (first | (with_reducible first | exact HB.out | apply qc0 | apply qa0 | apply qb0 | refine qg0 ?_ GE417.out) | exact HB.out)⟩
    (try clear BK417)
    (try clear HB)
    generalize (((((((((w44.setCell ⟨gb417, 0, none⟩ (.string ((rd_T117 l0 a1).f0))).setCell ⟨gb417, 1, none⟩ (.string ((rd_T117 l0 a1).f1))).setCell ⟨gb417, 2, none⟩ (.string ((rd_T117 l0 a1).f2))).setCell ⟨gb417, 3, none⟩ (.int .i64 ((rd_T117 l0 a1).f3))).setCell ⟨gb417, 4, none⟩ (.int .i64 ((rd_T117 l0 a1).f4))).setCell ⟨gb417, 5, none⟩ (.int .i64 ((rd_T117 l0 a1).f5))).setCell ⟨gb417, 1, none⟩ (.string a2)).setCell ⟨gb417, 4, none⟩ (.int .i64 a3)).setCell ⟨gb417, 5, none⟩ (.int .i64 0)) = w46 at n0_ n1_ ⊢
    have BK417 := n0_
    have HB := n1_
    clear n0_ n1_
    have n0_ := Aside0.mk (qp0 BK417.out)
    have n1_ := Aside0.mk (qb0 HB.out)
    clear BK417
    clear HB
    have BK417 := n0_
    have HB := n1_
    clear n0_ n1_
    refine start_ (n := 9) (S := fun w' => w'.cell? ⟨gb417, 0, none⟩ = some (.string ((rd_T117 l0 a1).f0)) ∧ w'.cell? ⟨gb417, 1, none⟩ = some (.string a2) ∧ w'.cell? ⟨gb417, 2, none⟩ = some (.string ((rd_T117 l0 a1).f2)) ∧ w'.cell? ⟨gb417, 3, none⟩ = some (.int .i64 ((rd_T117 l0 a1).f3)) ∧ w'.cell? ⟨gb417, 4, none⟩ = some (.int .i64 a3) ∧ w'.cell? ⟨gb417, 5, none⟩ = some (.int .i64 0)) (ds := []) #[false, false, false, false, false, false, false, false, false] (by kernel_rfl) rfl rfl ⟨(qe0 BK417.out 0).trans rfl, (qe0 BK417.out 1).trans rfl, (qe0 BK417.out 2).trans rfl, (qe0 BK417.out 3).trans rfl, (qe0 BK417.out 4).trans rfl, (qe0 BK417.out 5).trans rfl⟩ (fun hHeld => ?_); refine with_tabW spec_Move.tab11 spec_Move.bits11 (fun HT_ HW_ => ?_)
    generalize w46.drew = w47 at BK417 HB hHeld ⊢
    refine pure_ (i := 0) (N := some 69) (v := ?_) (a' := ?_) #[true, false, false, false, false, false, false, false, false] rfl rfl (qa1 HT_.out (by kernel_rfl)) (fun _ _ _ h => h) (Or.inl ⟨by rfl, ?_⟩) ?_ ?_
    rotate_left
    ·intro w'
     go_simp
     with_reducible rfl
    rotate_left
    ·simp only [Act.put, List.setIfInBounds_toArray, List.set_cons_zero, List.set_cons_succ, i64_w, i32_w]
     rfl
    refine take_ (i := 2) (N := some 71) (v := ?_) (a' := ?_) #[true, false, true, false, false, false, false, false, false] rfl rfl (qo1 HT_.out HW_.out (by kernel_rfl)) (fun _ _ _ h => h) (Or.inl ⟨by rfl, ?_⟩) hHeld ?_ ?_
    rotate_left
    ·rintro w' ⟨s0, s1, s2, s3, s4, s5⟩
     go_simp
     with_reducible rfl
    rotate_left
    ·simp only [Act.put, List.setIfInBounds_toArray, List.set_cons_zero, List.set_cons_succ, i64_w, i32_w]
     rfl
    refine one_ (i := 1) (N := some 70) #[true, true, true, false, false, false, false, false, false] rfl rfl (one_of HT_.out (by kernel_rfl)) (by decide) (fun K hK => ?_)
    refine goes_ Try.func159 (by kernel_rfl) rfl #[.slice (some ad411) l0.length c0] (by rfl) rfl rfl (by (try simp only [List.map_toArray, List.map_cons, List.map_nil]); first | done | rfl | (simp only [List.length_drop, List.length_take]; rfl)) ?_
    with_reducible refine (spec_l15Copy.calls _ _ l0 t418 _ ?side1 ?side2 A26.out).mono ?_
    (case side1 => repeat (first | exact (Kd.qp1 HR0.out HB.out) | (with_reducible refine Kd.qu0 ?_ _) | (with_reducible refine Kd.qt0 ?_ _) | (with_reducible refine Kd.qy0 ?_)))
    (case side2 => exact HC0.out)
    rintro e w48 ⟨v419, rfl, ho0, hb⟩
    refine ⟨_, rfl, ?_⟩
    have n0_ := Aside0.mk (Kd.qb1 (Kd.R_newB ho0 (g := gb417) (o := .cells #[.string ((rd_T117 l0 a1).f0), .string a2, .string ((rd_T117 l0 a1).f2), .int .i64 ((rd_T117 l0 a1).f3), .int .i64 a3, .int .i64 0] 117 (0, 0)) (by (with_reducible repeat (first | refine qm0 ?_ _ | refine qp0 ?_ | refine qn0 ?_ _)); exact BK417.out)) (ql0 (by repeat (first | (with_reducible first | exact HB.out | apply qc0 | apply qa0 | apply qb0 | refine qg0 ?_ GE417.out) | exact HB.out))))
    have n1_ := Aside0.mk (ql1 (g := gb417) (o := .cells #[.string ((rd_T117 l0 a1).f0), .string a2, .string ((rd_T117 l0 a1).f2), .int .i64 ((rd_T117 l0 a1).f3), .int .i64 a3, .int .i64 0] 117 (0, 0)) (by (with_reducible repeat (first | refine qm0 ?_ _ | refine qp0 ?_ | refine qn0 ?_ _)); exact BK417.out) hb)
    have n2_ := Aside0.mk (qk0 (by repeat (first | (with_reducible first | exact HB.out | apply qc0 | apply qa0 | apply qb0 | refine qg0 ?_ GE417.out) | exact HB.out)) hb)
    clear BK417
    clear HB
    have HO420 := n0_
    have BK417 := n1_
    have HB := n2_
    clear n0_ n1_ n2_
    (try clear hb)
    (try clear hb2)
    (try clear hk)
    (try clear hi)
    (try clear ho0)
    obtain ⟨Ao49, co49, eo49⟩ := Kd.qe1 HO420.out
    (first | subst eo49 | (injection eo49 with f1_ f2_ f3_; have f4_ := f1_.symm; have f5_ := f3_.symm; clear f1_ f2_ f3_; subst f4_; subst f5_))
    refine hK.out _ _ ⟨(qe0 BK417.out 0).trans rfl, (qe0 BK417.out 1).trans rfl, (qe0 BK417.out 2).trans rfl, (qe0 BK417.out 3).trans rfl, (qe0 BK417.out 4).trans rfl, (qe0 BK417.out 5).trans rfl⟩ (fun hHeld => ?_)
    clear hK K
    refine norm_ (a' := ?_) ?_ ?_
    rotate_left
    ·show Act.put _ (some 70) _ = _
     simp only [Act.put, List.setIfInBounds_toArray, List.set_cons_zero, List.set_cons_succ, i64_w, i32_w]
     rfl
    refine one_ (i := 3) (N := some 72) #[true, true, true, true, false, false, false, false, false] rfl rfl (one_of HT_.out (by kernel_rfl)) (by decide) (fun K hK => ?_)
    refine goes_ Try.func160 (by kernel_rfl) rfl #[.slice Ao49 t418.length co49, .agg #[.string ((rd_T117 l0 a1).f0), .string a2, .string ((rd_T117 l0 a1).f2), .int .i64 ((rd_T117 l0 a1).f3), .int .i64 a3, .int .i64 0]] (by rfl) rfl rfl (by (try simp only [List.map_toArray, List.map_cons, List.map_nil]); first | done | rfl | (simp only [List.length_drop, List.length_take]; rfl)) ?_
    with_reducible refine (spec_l15Add.calls kj6 (fun k_ => some k_ = (.slice Ao49 t418.length co49 : Value).ownBlock) (.slice Ao49 t418.length co49) t418 ((rd_T117 l0 a1).f0) a2 ((rd_T117 l0 a1).f2) ((rd_T117 l0 a1).f3) a3 0 t421 false w _ ?side1 ?side2 A27.out).mono ?_
    (case side1 => repeat (first | (with_reducible first | exact HB.out | apply qc0 | apply qa0 | apply qb0 | refine qg0 ?_ GE417.out) | exact HB.out))
    (case side2 => exact Kd.R_tight rfl HO420.out)
    rintro e w50 ⟨v422, rfl, ho0, hb, hkp⟩
    refine ⟨_, rfl, ?_⟩
    have n0_ := Aside0.mk (blk_kept (by (with_reducible repeat (first | refine qm0 ?_ _ | refine qp0 ?_ | refine qn0 ?_ _)); exact BK417.out) hkp (fun hs_ => (fun e_ => (Kd.R_away HO420.out (fun _ hk => hk.2)) e_) hs_))
    have n1_ := Aside0.mk (Kd.qv0 (ok' := fun k_ => k_ ≠ gb417) ho0 (fun k_ hk_ => Or.elim hk_ (fun hs_ => fun e_ => (Kd.R_away HO420.out (fun _ hk => hk.2)) (by rw [← e_]; exact hs_)) (fun hn_ => (Kd.freshB (g := gb417) (o := .cells #[.string ((rd_T117 l0 a1).f0), .string a2, .string ((rd_T117 l0 a1).f2), .int .i64 ((rd_T117 l0 a1).f3), .int .i64 a3, .int .i64 0] 117 (0, 0)) (by (with_reducible repeat (first | refine qm0 ?_ _ | refine qp0 ?_ | refine qn0 ?_ _)); exact BK417.out) k_ hn_))))
    have n2_ := Aside0.mk (hb)
    clear BK417
    clear HB
    clear HO420
    have BK417 := n0_
    have HO423 := n1_
    have HB := n2_
    clear n0_ n1_ n2_
    (try clear hb)
    (try clear hkp)
    (try clear ho0)
    refine hK.out _ _ ⟨(qe0 BK417.out 0).trans rfl, (qe0 BK417.out 1).trans rfl, (qe0 BK417.out 2).trans rfl, (qe0 BK417.out 3).trans rfl, (qe0 BK417.out 4).trans rfl, (qe0 BK417.out 5).trans rfl⟩ (fun hHeld => ?_)
    clear hK K
    refine norm_ (a' := ?_) ?_ ?_
    rotate_left
    ·show Act.put _ (some 72) _ = _
     simp only [Act.put, List.setIfInBounds_toArray, List.set_cons_zero, List.set_cons_succ, i64_w, i32_w]
     rfl
    refine pure_ (i := 4) (N := some 68) (v := ?_) (a' := ?_) #[true, true, true, true, true, false, false, false, false] rfl rfl (qa1 HT_.out (by kernel_rfl)) (fun _ _ _ h => h) (Or.inl ⟨by rfl, ?_⟩) ?_ ?_
    rotate_left
    ·intro w'
     go_simp
     with_reducible rfl
    rotate_left
    ·simp only [Act.put, List.setIfInBounds_toArray, List.set_cons_zero, List.set_cons_succ, i64_w, i32_w]
     rfl
    refine pure_ (i := 5) (N := some 73) (v := ?_) (a' := ?_) #[true, true, true, true, true, true, false, false, false] rfl rfl (qa1 HT_.out (by kernel_rfl)) (fun _ _ _ h => h) (Or.inl ⟨by rfl, ?_⟩) ?_ ?_
    rotate_left
    ·intro w'
     go_simp
     with_reducible rfl
    rotate_left
    ·simp only [Act.put, List.setIfInBounds_toArray, List.set_cons_zero, List.set_cons_succ, i64_w, i32_w]
     rfl
    refine pure_ (i := 6) (N := some 74) (v := ?_) (a' := ?_) #[true, true, true, true, true, true, true, false, false] rfl rfl (qa1 HT_.out (by kernel_rfl)) (fun _ _ _ h => h) (Or.inl ⟨by rfl, ?_⟩) ?_ ?_
    rotate_left
    ·intro w'
     go_simp
     with_reducible rfl
    rotate_left
    ·simp only [Act.put, List.setIfInBounds_toArray, List.set_cons_zero, List.set_cons_succ, i64_w, i32_w]
     rfl
    refine pure_ (i := 7) (N := some 11) (v := ?_) (a' := ?_) #[true, true, true, true, true, true, true, true, false] rfl rfl (qa1 HT_.out (by kernel_rfl)) (fun _ _ _ h => h) (Or.inl ⟨by rfl, ?_⟩) ?_ ?_
    rotate_left
    ·intro w'
     go_simp
     with_reducible rfl
    rotate_left
    ·simp only [Act.put, List.setIfInBounds_toArray, List.set_cons_zero, List.set_cons_succ, i64_w, i32_w]
     rfl
    refine pure_ (i := 8) (N := some 12) (v := ?_) (a' := ?_) #[true, true, true, true, true, true, true, true, true] rfl rfl (qa1 HT_.out (by kernel_rfl)) (fun _ _ _ h => h) (Or.inl ⟨by rfl, ?_⟩) ?_ ?_
    rotate_left
    ·intro w'
     go_simp
     with_reducible rfl
    rotate_left
    ·simp only [Act.put, List.setIfInBounds_toArray, List.set_cons_zero, List.set_cons_succ, i64_w, i32_w]
     rfl
    refine done_ (done_of HT_.out (by kernel_rfl)) ?_
    try go_wp2_with (first | ((with_reducible refine qo0 (f := 159) rfl ?_); refine qz0 (some 78) rfl rfl Try.func159 (by kernel_rfl) rfl #[.slice (some ad411) l0.length c0] rfl (by (try simp only [List.map_toArray, List.map_cons, List.map_nil]); first | done | rfl | (simp only [List.length_drop, List.length_take]; rfl)) ?_; (with_reducible refine (spec_l15Copy.calls _ _ l0 t427 _ ?side1 ?side2 A42.out).mono ?_); (case side1 => repeat (first | exact (Kd.qp1 HR0.out HB.out) | (with_reducible refine Kd.qu0 ?_ _) | (with_reducible refine Kd.qt0 ?_ _) | (with_reducible refine Kd.qy0 ?_))); (case side2 => exact HC0.out); rintro e w51 ⟨v428, rfl, ho0, hb⟩; refine ⟨_, rfl, ?_⟩; have n0_ := Aside0.mk (Kd.qd1 (by (with_reducible repeat (first | apply Kd.qi0 | apply Kd.qh0 | apply Kd.qj0)); exact HO423.out) (Kd.qj1 ho0) hb); have n1_ := Aside0.mk (Kd.qb1 (Kd.R_newB (Kd.qi1 ho0 (Kd.R_lt (by (with_reducible repeat (first | apply Kd.qi0 | apply Kd.qh0 | apply Kd.qj0)); exact HO423.out))) (g := gb417) (o := .cells #[.string ((rd_T117 l0 a1).f0), .string a2, .string ((rd_T117 l0 a1).f2), .int .i64 ((rd_T117 l0 a1).f3), .int .i64 a3, .int .i64 0] 117 (0, 0)) (by (with_reducible repeat (first | refine qm0 ?_ _ | refine qp0 ?_ | refine qn0 ?_ _)); exact BK417.out)) (ql0 (by repeat (first | (with_reducible first | exact HB.out | apply qc0 | apply qa0 | apply qb0 | refine qg0 ?_ GE417.out) | exact HB.out)))); have n2_ := Aside0.mk (ql1 (g := gb417) (o := .cells #[.string ((rd_T117 l0 a1).f0), .string a2, .string ((rd_T117 l0 a1).f2), .int .i64 ((rd_T117 l0 a1).f3), .int .i64 a3, .int .i64 0] 117 (0, 0)) (by (with_reducible repeat (first | refine qm0 ?_ _ | refine qp0 ?_ | refine qn0 ?_ _)); exact BK417.out) hb); have n3_ := Aside0.mk (qk0 (by repeat (first | (with_reducible first | exact HB.out | apply qc0 | apply qa0 | apply qb0 | refine qg0 ?_ GE417.out) | exact HB.out)) hb); clear HO423; clear BK417; clear HB; have HO423 := n0_; have HO429 := n1_; have BK417 := n2_; have HB := n3_; clear n0_ n1_ n2_ n3_; (try clear hb); (try clear hb2); (try clear hk); (try clear hi); (try clear ho0)))
    go_ret2
    exact ⟨_, by first | rfl | (simp [errW_none, errW_some] <;> rfl) | (simp [*, errW_none, errW_some] <;> rfl), by (with_reducible repeat (first | apply Kd.qi0 | apply Kd.qh0 | apply Kd.qj0)); exact Kd.qv0 HO429.out (fun _ hk => trivial), by repeat (first | (with_reducible first | exact HB.out | apply qc0 | apply qa0 | apply qb0 | refine qg0 ?_ GE417.out) | exact HB.out)⟩
 replace c6 := Bool.eq_false_iff.mpr c6
 subst c6
 have H1 : (some ((([] : List (S117))), 1)) = some (r1, r2) := by rw [if_neg (show ¬ (false = true) by decide)] at H; exact H
 clear H
 have H := H1
 clear H1
 obtain ⟨y401, hy401⟩ : ∃ y_ : List (S117), y_ = (([] : List (S117))) := ⟨_, rfl⟩
 replace H : (some (y401, 1)) = some (r1, r2) := by first | (rw [hy401]; with_reducible exact H) | (have H2_ := (Option.bind_some _ _).symm.trans H; rw [hy401]; with_reducible exact H2_) | (have H2_ := (Option.bind_some _ _).symm.trans H; with_reducible exact H2_) | with_reducible exact H | (rw [hy401]; exact H) | exact H
 have Ny401 := Aside0.mk hy401
 clear hy401
 simp only [Option.some.injEq, Prod.mk.injEq] at H
 obtain ⟨rfl, rfl⟩ := H
 go_enter Try.func73, Try.ntmps73
 go_wp2_with (first | ((with_reducible refine qo0 (f := 126) rfl ?_); refine qz0 (some 14) rfl rfl Try.func126 (by kernel_rfl) rfl #[.slice A0 l0.length c0] rfl (by (try simp only [List.map_toArray, List.map_cons, List.map_nil]); first | done | rfl | (simp only [List.length_drop, List.length_take]; rfl)) ?_; (with_reducible refine (spec_StockOk.calls k _ _ l0 false _ ?side1 ?side2 A5.out).mono ?_); (case side1 => repeat (first | exact HR0.out | (with_reducible refine Kd.qu0 ?_ _) | (with_reducible refine Kd.qt0 ?_ _) | (with_reducible refine Kd.qy0 ?_))); (case side2 => exact HC0.out); rintro e w52 ⟨rfl, hb⟩; refine ⟨_, rfl, ?_⟩; have n0_ := Aside0.mk (qk0 (by repeat (first | (with_reducible first | exact HB.out | apply qc0 | apply qa0 | apply qb0) | exact HB.out)) hb); clear HB; have HB := n0_; clear n0_; (try clear hb); (try clear hb2); (try clear hk); (try clear hi)) | ((with_reducible refine gate_dst (N := 16) rfl ?_); refine Kd.R_lit k117 _ 117 ?hg (N := 16) ?hd (xs := ([] : List (S117))) (inner := []) (ok := fun _ => True) (okp := fun _ => True) ?hr ?hp (fun _ hk => hk) trivial (Below.refl _ _) (Nat.le_refl _) (by simp) ?_; (case hd => rfl); (case hg => rfl); (case hr => first | (go_simp; done) | (go_simp; rfl)); (case hp => exact (Reps.none _ _)); intro v402 w53 ho54 hb hg_ hnew_; clear hg_ hnew_; (first | rw [← Ny401.out] at ho54 | (simp only [Int.reduceToNat] at ho54; rw [← Ny401.out] at ho54)); have n0_ := Aside0.mk (Kd.qb1 ho54 (ql0 (by repeat (first | (with_reducible first | exact HB.out | apply qc0 | apply qa0 | apply qb0) | exact HB.out)))); have n1_ := Aside0.mk (qk0 (by repeat (first | (with_reducible first | exact HB.out | apply qc0 | apply qa0 | apply qb0) | exact HB.out)) hb); clear HB; have HO403 := n0_; have HB := n1_; clear n0_ n1_; clear hb ho54))
 go_ret2
 exact ⟨_, by first | rfl | (simp [errW_none, errW_some] <;> rfl) | (simp [*, errW_none, errW_some] <;> rfl), by (with_reducible repeat (first | apply Kd.qi0 | apply Kd.qh0 | apply Kd.qj0)); exact HO403.out, by repeat (first | (with_reducible first | exact HB.out | apply qc0 | apply qa0 | apply qb0) | exact HB.out)⟩

end Go.Proofs.Ytinibkdbfpafcaa.PFnMoved
